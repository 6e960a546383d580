/- The row of the law FnTable, out of its pure statement and the walk of its function. -/
import Derived.Test.YtfpdkgfinfdgoaaRows
import Derived.Test.YtfpdkgfinfdgoaaQFnTablex9
import Derived.Test.YtfpdkgfinfdgoaaPureFnTable
import Derived.Test.YtfpdkgfinfdgoaaOpen
import Derived.WalkKit
import Derived.ProofKit
import Derived.OpenShut
import Derived.ShutString
import Derived.ChangeOld
import Derived.Below
import Derived.SizedLaws
import Derived.Carry
namespace Go.Proofs.Ytfpdkgfinfdgoaa.fnTable
open Go.ChangeShapes Go.WideShapes Go.ChangeAt Go.RowKit Go.Proofs.Ytfpdkgfinfdgoaa.Opn Go.Proofs.Ytfpdkgfinfdgoaa.QFnTable Go.Proofs.YtfpdkgfinfdgoaaW.PrintWords Go.Proofs.YtfpdkgfinfdgoaaW.PrintLast
open Go.ChangeMaps (open_string shut_string)
set_option linter.unusedVariables false
set_option linter.unusedSimpArgs false
theorem own : ownKnob Try.prog.godebug = none := by kernel_rfl
theorem laidOut : laidOutB Try.prog = true := by kernel_rfl
set_option maxRecDepth 100000 in
theorem rt5 : Reads Try.prog 5 (Kd.int .u8) (fun y : Int => (Lit.int .u8 y).wf = true) := reads_int Try.underlying5 (by kernel_rfl)
set_option maxRecDepth 100000 in
theorem rt42 : Reads Try.prog 42 (Kd.slice 5 (Kd.int .u8)) (fun y : (List Int) => (y.length ≤ maxLen ∧ ∀ y_y ∈ y, (Lit.int .u8 y_y).wf = true)) := reads_slice Try.underlying42 (by kernel_rfl) rt5
set_option maxRecDepth 100000 in
theorem lifted (os : Os) (started : os.Started) (H : Type) (enc : TypeId × Value → H) :
    ReturnsInHanded {} Try.checked os 7 .any (Rows.fnTableSpec.pre6 enc Try.prog Try.f7 Rows.fnTableRow.domain false) (Rows.fnTableSpec.post enc Try.prog Try.f7 false true false false) := by
  refine returnsInHanded_of_change_sized (C := Try.checked) own started (by kernel_rfl) Try.func7
    (ChangeSpec.witness6 (enc := enc) (C := Try.checked) false ⟨#[], #[.slice none 0 0], []⟩ 8 (by kernel_rfl) (by kernel_rfl) (by kernel_rfl) (by kernel_rfl)) ?_
  intro W base args ds gs before hval0 hW hcnd hsz0 _
  have hval : ∀ (j : Nat) t v, Try.f7.params[j]? = some t → args[j]? = some v → Value.okWide Try.prog W .any base t v := hval0
  have hW' := hW
  obtain ⟨p, q, hA0, hV, rfl, hfz, hnd⟩ := hW
  have hA : DataW.TrodAll enc Try.prog W 0 (fun _ => true) true Try.f7.params.toList args.toList ds p := hA0
  rw [Try.params7] at hA hval
  obtain ⟨v0, vs0, d0, ds0, p0, q0, hargs, rfl, rfl, h0, r0⟩ := trodAll_cons hA
  obtain ⟨rfl, rfl, rfl⟩ := trodAll_nil r0
  obtain rfl : args = #[v0] := by cases args; simp_all
  obtain ⟨rfl, rfl⟩ := trodVars_none hV
  have k0 := h0
  have lt0 : ∀ x ∈ p0, x.block < W.heap.size := by obtain ⟨m, hm⟩ := k0; exact DataW.trod_lt m _ _ _ hm
  obtain ⟨aa0, len0, cap0, rfl⟩ := okWide_slice Try.underlying42 (hval 0 42 v0 rfl rfl)
  obtain ⟨fuel0, hf0⟩ := h0
  obtain ⟨y0, ⟨A0, c0, he0, hl0, hr0⟩, g0⟩ := rt42.2 _ _ _ _ _ _ _ _ _ hf0
  obtain ⟨rfl, rfl, rfl⟩ : aa0 = A0 ∧ len0 = y0.length ∧ cap0 = c0 := by simpa [Value.cells] using he0
  clear hA0 hval0 hsz0
  obtain ⟨k, h⟩ := Pure.FnTable y0 g0
  refine (laws_FnTable.calls k _ _ y0 true W hr0 hl0 h).mono fun e W' he => ?_
  obtain ⟨rfl, hd⟩ := he
  have bel : Below W.heap.size W W' := by first | exact hd | exact hd.below
  exact ⟨_, rfl, _, _, _, [], _, [], hW', trodAll_mk1 (shut_bool Try.underlying4 _), (trodAll_cons_mk (Below.trod laidOut (by kernel_rfl) (of_decide_eq_true (by kernel_rfl)) k0 bel lt0) trodAll_mk0), rfl, bel.frame _, fun h => by cases h⟩
theorem over : Rows.fnTableRow.holds Try.pinned (OpenSpec.ofChange Rows.fnTableSpec) :=
  OpenClaim.holds_of_wide 7 Try.f7 rfl rfl rfl rfl rfl rfl rfl ⟨rfl, rfl, rfl, rfl, rfl⟩ rfl rfl rfl rfl rfl (by kernel_rfl) Try.func7 (by kernel_rfl)
    (of_decide_eq_true (by kernel_rfl)) (by unfold Func.isWrapper; first | (rw [if_pos (by decide +kernel)]; kernel_rfl) | (rw [if_neg (by decide +kernel)]; exact ⟨rfl, rfl⟩))
    (fun os started H enc _ => lifted os started H enc)
theorem proved : Rows.FnTableSaid := over
end Go.Proofs.Ytfpdkgfinfdgoaa.fnTable
namespace Go.Proofs.Ytfpdkgfinfdgoaa
/-- The row, under a short name, for the claim. -/
theorem fnTable_holds : Rows.FnTableSaid := fnTable.proved
#print axioms fnTable_holds
end Go.Proofs.Ytfpdkgfinfdgoaa
