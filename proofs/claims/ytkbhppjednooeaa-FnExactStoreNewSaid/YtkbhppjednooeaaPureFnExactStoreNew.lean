/- For every number, StoreNew of the program answers what StoreNew of the reference answers, and its answers share no memory. -/
import Derived.Test.YtkbhppjednooeaaQFnExactStoreNewx4
namespace Go.Proofs.Ytkbhppjednooeaa.Pure
open Go.RowKit Go.Proofs.Ytkbhppjednooeaa.QFnExactStoreNew Go.Proofs.YtkbhppjednooeaaW.PrintWords Go.Proofs.YtkbhppjednooeaaW.PrintLast Go.Proofs.YtkbhppjednooeaaW.PrintMore
set_option linter.unusedVariables false
set_option linter.unusedSimpArgs false
def FnExactStoreNewOwn : Prop := ∀ (a0 : Int), (Lit.int .i64 a0).wf = true → ∃ k, laws_FnExactStoreNew.f k a0 = some true
theorem w64 {i : Int} (h : -9223372036854775808 ≤ i) (h2 : i ≤ 9223372036854775807) : wrap64 i = i := by
  unfold wrap64
  omega
theorem rd_at (x : List Int) (i : Nat) (h : i < x.length) : rd x (i : Int) = x[i] := by
  unfold rd
  rw [Int.toNat_natCast, List.getD_eq_getElem?_getD, List.getElem?_eq_getElem h]
  rfl
theorem succ_cast (i : Nat) : ((i : Int) + 1) = ((i + 1 : Nat) : Int) := by omega
theorem take_succ_ext {α : Type} (a b : List α) (i : Nat) (ha : i < a.length) (hb : i < b.length) (ht : a.take i = b.take i) (he : a[i] = b[i]) : a.take (i + 1) = b.take (i + 1) := by
  rw [List.take_succ_eq_append_getElem ha, List.take_succ_eq_append_getElem hb, ht, he]
theorem l1In_f (x a b : Int) : spec_l1In.f x a b = some (decide (a ≤ x) && decide (x ≤ b)) := by
  unfold spec_l1In.f
  by_cases h : x ≥ a
  · rw [if_pos h]
    have h2 : a ≤ x := h
    simp [h2]
  · rw [if_neg h]
    have h2 : ¬ a ≤ x := h
    simp [h2]
theorem within_f (x a b : Int) : impl_within.f x a b = some (decide (a ≤ x) && decide (x ≤ b)) := by
  unfold impl_within.f
  by_cases h : a ≤ x <;> simp [h]
theorem FnExactStoreNew : FnExactStoreNewOwn := by
  intro a _
  refine ⟨5, ?_⟩
  have e : ∀ c, laws_eqStore.f 5 c 0 [] c 0 [] = some true := by
    intro c
    simp [laws_eqStore.f, laws_eqRowSS.f, laws_eqRowSS.l0]
  have hh : ∀ c, laws_heldStore.f 5 c 0 [] 1 = some 1 := by
    intro c
    simp [laws_heldStore.f, laws_heldRowSS.f, laws_heldRowSS.l0]
  have hm : ∀ c, laws_markStore.f c 0 [] 1 = some 1 := by
    intro c
    simp [laws_markStore.f, laws_markRowSS.f]
  obtain ⟨c, e1, e2⟩ : ∃ c, spec_StoreNew.f a = some (c, 0, []) ∧ impl_StoreNew.f a = some (c, 0, []) := by
    unfold spec_StoreNew.f impl_StoreNew.f
    rw [l1In_f, within_f]
    simp only [Option.bind_some]
    by_cases h : (decide (1 ≤ a) && decide (a ≤ 5)) = true
    · exact ⟨a, by rw [if_pos h], by rw [if_pos h]⟩
    · exact ⟨0, by rw [if_neg h], by rw [if_neg h]⟩
  unfold laws_FnExactStoreNew.f
  rw [e1, e2]
  simp only [Option.bind_some, e, hh, hm]
  simp

end Go.Proofs.Ytkbhppjednooeaa.Pure
