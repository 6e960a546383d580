/- The row of the law FnExactLongestProbe, out of its pure statement and the walk of its function. -/
import Derived.Test.YthhbgembnlpohaaRows
import Derived.Test.YthhbgembnlpohaaQFnExactLongestProbex5
import Derived.Test.YthhbgembnlpohaaPureFnExactLongestProbe
import Derived.Test.YthhbgembnlpohaaOpen
import Derived.WalkKit
import Derived.ProofKit
import Derived.OpenShut
import Derived.ShutString
import Derived.ChangeOld
import Derived.Below
import Derived.SizedLaws
import Derived.Carry
namespace Go.Proofs.Ythhbgembnlpohaa.fnExactLongestProbe
open Go.ChangeShapes Go.WideShapes Go.ChangeAt Go.RowKit Go.Proofs.Ythhbgembnlpohaa.Opn Go.Proofs.Ythhbgembnlpohaa.QFnExactLongestProbe Go.Proofs.YthhbgembnlpohaaW.PrintWords Go.Proofs.YthhbgembnlpohaaW.PrintLast
open Go.ChangeMaps (open_string shut_string)
set_option linter.unusedVariables false
set_option linter.unusedSimpArgs false
theorem own : ownKnob Try.prog.godebug = none := by kernel_rfl
theorem laidOut : laidOutB Try.prog = true := by kernel_rfl
set_option maxRecDepth 100000 in
theorem rt3 : Reads Try.prog 3 (Kd.int .i64) (fun y : Int => (Lit.int .i64 y).wf = true) := reads_int Try.underlying3 (by kernel_rfl)
set_option maxRecDepth 100000 in
theorem rt22 : Reads Try.prog 22 (Kd.slice 3 (Kd.int .i64)) (fun y : (List Int) => (y.length ≤ maxLen ∧ ∀ y_y ∈ y, (Lit.int .i64 y_y).wf = true)) := reads_slice Try.underlying22 (by kernel_rfl) rt3
set_option maxRecDepth 100000 in
theorem lifted (os : Os) (started : os.Started) (H : Type) (enc : TypeId × Value → H) :
    ReturnsInHanded {} Try.checked os 9 .any (Rows.fnExactLongestProbeSpec.pre6 enc Try.prog Try.f9 Rows.fnExactLongestProbeRow.domain false) (Rows.fnExactLongestProbeSpec.post enc Try.prog Try.f9 false true false false) := by
  refine returnsInHanded_of_change_sized (C := Try.checked) own started (by kernel_rfl) Try.func9
    (ChangeSpec.witness6 (enc := enc) (C := Try.checked) false ⟨#[], #[.slice none 0 0], []⟩ 8 (by kernel_rfl) (by kernel_rfl) (by kernel_rfl) (by kernel_rfl)) ?_
  intro W base args ds gs before hval0 hW hcnd hsz0 _
  have hval : ∀ (j : Nat) t v, Try.f9.params[j]? = some t → args[j]? = some v → Value.okWide Try.prog W .any base t v := hval0
  have hW' := hW
  obtain ⟨p, q, hA0, hV, rfl, hfz, hnd⟩ := hW
  have hA : DataW.TrodAll enc Try.prog W 0 (fun _ => true) true Try.f9.params.toList args.toList ds p := hA0
  rw [Try.params9] at hA hval
  obtain ⟨v0, vs0, d0, ds0, p0, q0, hargs, rfl, rfl, h0, r0⟩ := trodAll_cons hA
  obtain ⟨rfl, rfl, rfl⟩ := trodAll_nil r0
  obtain rfl : args = #[v0] := by cases args; simp_all
  obtain ⟨rfl, rfl⟩ := trodVars_none hV
  have k0 := h0
  have lt0 : ∀ x ∈ p0, x.block < W.heap.size := by obtain ⟨m, hm⟩ := k0; exact DataW.trod_lt m _ _ _ hm
  obtain ⟨aa0, len0, cap0, rfl⟩ := okWide_slice Try.underlying22 (hval 0 22 v0 rfl rfl)
  obtain ⟨fuel0, hf0⟩ := h0
  obtain ⟨y0, ⟨A0, c0, he0, hl0, hr0⟩, g0⟩ := rt22.2 _ _ _ _ _ _ _ _ _ hf0
  obtain ⟨rfl, rfl, rfl⟩ : aa0 = A0 ∧ len0 = y0.length ∧ cap0 = c0 := by simpa [Value.cells] using he0
  clear hA0 hval0 hsz0
  obtain ⟨k, h⟩ := Pure.FnExactLongestProbe y0 g0
  refine (laws_FnExactLongestProbe.calls k _ _ y0 true W hr0 hl0 h).mono fun e W' he => ?_
  obtain ⟨rfl, hd⟩ := he
  have bel : Below W.heap.size W W' := by first | exact hd | exact hd.below
  exact ⟨_, rfl, _, _, _, [], _, [], hW', trodAll_mk1 (shut_bool Try.underlying4 _), (trodAll_cons_mk (Below.trod laidOut (by kernel_rfl) (of_decide_eq_true (by kernel_rfl)) k0 bel lt0) trodAll_mk0), rfl, bel.frame _, fun h => by cases h⟩
theorem over : Rows.fnExactLongestProbeRow.holds Try.pinned (OpenSpec.ofChange Rows.fnExactLongestProbeSpec) :=
  OpenClaim.holds_of_wide 9 Try.f9 rfl rfl rfl rfl rfl rfl rfl ⟨rfl, rfl, rfl, rfl, rfl⟩ rfl rfl rfl rfl rfl (by kernel_rfl) Try.func9 (by kernel_rfl)
    (of_decide_eq_true (by kernel_rfl)) (by unfold Func.isWrapper; first | (rw [if_pos (by decide +kernel)]; kernel_rfl) | (rw [if_neg (by decide +kernel)]; exact ⟨rfl, rfl⟩))
    (fun os started H enc _ => lifted os started H enc)
theorem proved : Rows.FnExactLongestProbeSaid := over
end Go.Proofs.Ythhbgembnlpohaa.fnExactLongestProbe
namespace Go.Proofs.Ythhbgembnlpohaa
/-- The row, under a short name, for the claim. -/
theorem fnExactLongestProbe_holds : Rows.FnExactLongestProbeSaid := fnExactLongestProbe.proved
#print axioms fnExactLongestProbe_holds
end Go.Proofs.Ythhbgembnlpohaa
