/- The row of the law FnExactTopRows. -/
import Derived.Test.YtdnfgleokacddaaRows
import Derived.WalkKit
import Derived.ProofKit
import Derived.OpenShut
import Derived.ShutString
import Derived.ChangeOld
import Derived.Below
import Derived.SizedLaws
import Derived.Carry
import Derived.Test.YtdnfgleokacddaaK12
namespace Go.Proofs.Ytdnfgleokacddaa.fnExactTopRows
open Go.ChangeShapes Go.WideShapes Go.ChangeAt Go.RowKit Go.Eva
set_option linter.unusedVariables false
set_option linter.unusedSimpArgs false
theorem own : ownKnob Try.prog.godebug = none := by kernel_rfl
theorem laidOut : laidOutB Try.prog = true := by kernel_rfl
theorem mono {P : Program} {t : TypeId} {κ : Eva.Kd} {G G1 : κ.T → Prop} (h : Reads P t κ G) (k : ∀ y, G y → G1 y) : Reads P t κ G1 :=
  ⟨h.1, fun H enc W base spare held fuel cs x hx => by
    obtain ⟨y, fp, h1, h2⟩ := h.2 H enc W base spare held fuel cs x hx
    exact ⟨y, fp, h1, k y h2⟩⟩
set_option maxRecDepth 100000 in
theorem rt3 : Reads Try.prog 3 (.int .i64) (fun _ => True) := reads_int Try.underlying3 (by kernel_rfl)
set_option maxRecDepth 100000 in
theorem rt9 : Reads Try.prog 9 .str (fun y => ByteArray.size y ≤ maxLen) := reads_str Try.underlying9 (by kernel_rfl)
set_option maxRecDepth 100000 in
theorem rt4 : Reads Try.prog 4 .bool (fun _ => True) := reads_bool Try.underlying4 (by kernel_rfl)
set_option maxRecDepth 100000 in
theorem rt54 : Reads Try.prog 32 kRow (fun y => ByteArray.size y.1 ≤ maxLen) := mono (reads_struct Try.underlying32 rfl (by kernel_rfl) (readsF_cons rfl rt9 (readsF_cons rfl rt3 (readsF_cons rfl rt3 (readsF_cons rfl rt4 (readsF_cons rfl rt3 (readsF_cons rfl rt3 (readsF_cons rfl rt3 (readsF_cons rfl rt3 (readsF_cons rfl rt3 (readsF_one rfl rt3))))))))))) (fun y h => h.1)
set_option maxRecDepth 100000 in
theorem rt22 : Reads Try.prog 22 (.sl 32 kRow) (fun l => List.length l ≤ maxLen ∧ ∀ x ∈ (l : List kRow.T), ByteArray.size x.1 ≤ maxLen) := reads_sl Try.underlying22 (by kernel_rfl) rt54
set_option maxRecDepth 100000 in
theorem lifted (os : Os) (started : os.Started) (H : Type) (enc : TypeId × Value → H) :
    ReturnsInHanded {} Try.checked os 3 .any (Rows.fnExactTopRowsSpec.pre6 enc Try.prog Try.f3 Rows.fnExactTopRowsRow.domain false) (Rows.fnExactTopRowsSpec.post enc Try.prog Try.f3 false true false false) := by
  refine returnsInHanded_of_change_sized (C := Try.checked) own started (by kernel_rfl) Try.func3
    (ChangeSpec.witness6 (enc := enc) (C := Try.checked) false ⟨#[], #[.slice none 0 0, .int .i64 0], []⟩ 8 (by kernel_rfl) (by kernel_rfl) (by kernel_rfl) (by kernel_rfl)) ?_
  intro W base args ds gs before hval0 hW hcnd hsz0 _
  have hval : ∀ (j : Nat) t v, Try.f3.params[j]? = some t → args[j]? = some v → Value.okWide Try.prog W .any base t v := hval0
  have hW' := hW
  obtain ⟨p, q, hA0, hV, rfl, hfz, hnd⟩ := hW
  have hA : DataW.TrodAll enc Try.prog W 0 (fun _ => true) true Try.f3.params.toList args.toList ds p := hA0
  rw [Try.params3] at hA hval
  obtain ⟨v0, vs0, d0, ds0, p0, q0, hargs, rfl, rfl, h0, r0⟩ := trodAll_cons hA
  obtain ⟨v1, vs1, d1, ds1, p1, q1, rfl, rfl, rfl, h1, r1⟩ := trodAll_cons r0
  obtain ⟨rfl, rfl, rfl⟩ := trodAll_nil r1
  obtain rfl : args = #[v0, v1] := by cases args; simp_all
  obtain ⟨rfl, rfl⟩ := trodVars_none hV
  have k0 := h0
  have lt0 : ∀ x ∈ p0, x.block < W.heap.size := by obtain ⟨m, hm⟩ := k0; exact DataW.trod_lt m _ _ _ hm
  obtain ⟨aa0, len0, cap0, rfl⟩ := okWide_slice Try.underlying22 (hval 0 22 v0 rfl rfl)
  obtain ⟨fuel0, hf0⟩ := h0
  obtain ⟨y0, fp0, ⟨va, hv0, hS⟩, g0⟩ := rt22.2 _ _ _ _ _ _ _ _ _ hf0
  have hv0 : some (Value.slice aa0 len0 cap0) = some va := hv0
  injection hv0 with hv0
  subst hv0
  obtain ⟨a1, rfl, rfl, rfl, g1⟩ := open_int Try.underlying3 (hval 1 3 v1 rfl rfl) h1
  clear hA0 hval0 hsz0
  refine (topx_calls (lent_of hS) g0).mono fun e W' he => ?_
  obtain ⟨rfl, bel⟩ := he
  exact ⟨_, rfl, _, _, _, [], _, [], hW', trodAll_mk1 (shut_bool Try.underlying4 _), (trodAll_cons_mk (Below.trod laidOut (by kernel_rfl) (of_decide_eq_true (by kernel_rfl)) k0 bel lt0) (trodAll_cons_mk (shut_int Try.underlying3 g1) trodAll_mk0)), rfl, bel.frame _, fun h => by cases h⟩
theorem over : Rows.fnExactTopRowsRow.holds Try.pinned (OpenSpec.ofChange Rows.fnExactTopRowsSpec) :=
  OpenClaim.holds_of_wide 3 Try.f3 rfl rfl rfl rfl rfl rfl rfl ⟨rfl, rfl, rfl, rfl, rfl⟩ rfl rfl rfl rfl rfl (by kernel_rfl) Try.func3 (by kernel_rfl)
    (of_decide_eq_true (by kernel_rfl)) (by unfold Func.isWrapper; first | (rw [if_pos (by decide +kernel)]; kernel_rfl) | (rw [if_neg (by decide +kernel)]; exact ⟨rfl, rfl⟩))
    (fun os started H enc _ => lifted os started H enc)
theorem proved : Rows.FnExactTopRowsSaid := over
end Go.Proofs.Ytdnfgleokacddaa.fnExactTopRows
namespace Go.Proofs.Ytdnfgleokacddaa
/-- The row, under a short name, for the claim. -/
theorem fnExactTopRows_holds : Rows.FnExactTopRowsSaid := fnExactTopRows.proved
#print axioms fnExactTopRows_holds
end Go.Proofs.Ytdnfgleokacddaa
