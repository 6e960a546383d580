/- For every rule and every number, Breaks of the program answers what Breaks of the reference answers. -/
import Derived.Test.YtkbhppjednooeaaPFnExactBreaksx1
namespace Go.Proofs.Ytkbhppjednooeaa.Pure
open Go.RowKit Go.Proofs.Ytkbhppjednooeaa.PFnExactBreaks Go.Proofs.YtkbhppjednooeaaW.PrintWords Go.Proofs.YtkbhppjednooeaaW.PrintLast Go.Proofs.YtkbhppjednooeaaW.PrintMore
set_option linter.unusedVariables false
set_option linter.unusedSimpArgs false
def FnExactBreaksOwn : Prop := ∀ (a0_0 : ByteArray) (a0_1 : Int) (a0_2 : Int) (a0_3 : Int) (a1 : Int), a0_0.size ≤ maxLen → (Lit.int .i64 a0_1).wf = true → (Lit.int .i64 a0_2).wf = true → (Lit.int .i64 a0_3).wf = true → (Lit.int .i64 a1).wf = true → laws_FnExactBreaks.f a0_0 a0_1 a0_2 a0_3 a1 = some true
theorem w64 {i : Int} (h : -9223372036854775808 ≤ i) (h2 : i ≤ 9223372036854775807) : wrap64 i = i := by
  unfold wrap64
  omega
theorem rd_at (x : List Int) (i : Nat) (h : i < x.length) : rd x (i : Int) = x[i] := by
  unfold rd
  rw [Int.toNat_natCast, List.getD_eq_getElem?_getD, List.getElem?_eq_getElem h]
  rfl
theorem succ_cast (i : Nat) : ((i : Int) + 1) = ((i + 1 : Nat) : Int) := by omega
theorem take_succ_ext {α : Type} (a b : List α) (i : Nat) (ha : i < a.length) (hb : i < b.length) (ht : a.take i = b.take i) (he : a[i] = b[i]) : a.take (i + 1) = b.take (i + 1) := by
  rw [List.take_succ_eq_append_getElem ha, List.take_succ_eq_append_getElem hb, ht, he]
theorem FnExactBreaks : FnExactBreaksOwn := by
  intro a0 a1 a2 a3 a4 _ _ _ _ _
  unfold laws_FnExactBreaks.f laws_szRule.f laws_toRule.f
  simp only [Option.bind_some]
  have e : impl_Breaks.f a0 a1 a2 a3 a4 = spec_Breaks.f a0 a1 a2 a3 a4 := rfl
  have hs : ∃ b, spec_Breaks.f a0 a1 a2 a3 a4 = some b := by
    unfold spec_Breaks.f
    repeat' split
    all_goals exact ⟨_, rfl⟩
  obtain ⟨b, hb⟩ := hs
  rw [e, hb]
  simp only [Option.bind_some]
  split
  · simp
  · simp only [Option.bind_some]
    split <;> simp

end Go.Proofs.Ytkbhppjednooeaa.Pure
