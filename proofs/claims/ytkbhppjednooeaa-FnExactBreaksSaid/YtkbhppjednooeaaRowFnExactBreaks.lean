/- The row of the law FnExactBreaks, out of its pure statement and the walk of its function. -/
import Derived.Test.YtkbhppjednooeaaRows
import Derived.Test.YtkbhppjednooeaaPFnExactBreaksx1
import Derived.Test.YtkbhppjednooeaaPureFnExactBreaks
import Derived.Test.YtkbhppjednooeaaOpen
import Derived.WalkKit
import Derived.ProofKit
import Derived.OpenShut
import Derived.ShutString
import Derived.ChangeOld
import Derived.Below
import Derived.SizedLaws
import Derived.Carry
namespace Go.Proofs.Ytkbhppjednooeaa.fnExactBreaks
open Go.ChangeShapes Go.WideShapes Go.ChangeAt Go.RowKit Go.Proofs.Ytkbhppjednooeaa.Opn Go.Proofs.Ytkbhppjednooeaa.PFnExactBreaks Go.Proofs.YtkbhppjednooeaaW.PrintWords Go.Proofs.YtkbhppjednooeaaW.PrintLast
open Go.ChangeMaps (open_string shut_string)
set_option linter.unusedVariables false
set_option linter.unusedSimpArgs false
theorem own : ownKnob Try.prog.godebug = none := by kernel_rfl
theorem laidOut : laidOutB Try.prog = true := by kernel_rfl
set_option maxRecDepth 100000 in
theorem rt9 : Reads Try.prog 9 Kd.string (fun y : ByteArray => y.size ≤ maxLen) := reads_string Try.underlying9 (by kernel_rfl)
set_option maxRecDepth 100000 in
theorem rt3 : Reads Try.prog 3 (Kd.int .i64) (fun y : Int => (Lit.int .i64 y).wf = true) := reads_int Try.underlying3 (by kernel_rfl)
set_option maxRecDepth 100000 in
theorem rp23 : Reads Try.prog 23 (Kd.pair Kd.string (Kd.pair (Kd.int .i64) (Kd.pair (Kd.int .i64) (Kd.int .i64)))) (fun y : (ByteArray × (Int × (Int × Int))) => (y.1.size ≤ maxLen ∧ (Lit.int .i64 y.2.1).wf = true ∧ (Lit.int .i64 y.2.2.1).wf = true ∧ (Lit.int .i64 y.2.2.2).wf = true)) := reads_plain Try.underlying23 rfl (by kernel_rfl) (readsF_cons (a := Kd.string) (b := (Kd.pair (Kd.int .i64) (Kd.pair (Kd.int .i64) (Kd.int .i64)))) (Ga := fun y : ByteArray => y.size ≤ maxLen) (Gb := fun y : (Int × (Int × Int)) => (Lit.int .i64 y.1).wf = true ∧ (Lit.int .i64 y.2.1).wf = true ∧ (Lit.int .i64 y.2.2).wf = true) rfl rt9 (readsF_cons (a := (Kd.int .i64)) (b := (Kd.pair (Kd.int .i64) (Kd.int .i64))) (Ga := fun y : Int => (Lit.int .i64 y).wf = true) (Gb := fun y : (Int × Int) => (Lit.int .i64 y.1).wf = true ∧ (Lit.int .i64 y.2).wf = true) rfl rt3 (readsF_cons (a := (Kd.int .i64)) (b := (Kd.int .i64)) (Ga := fun y : Int => (Lit.int .i64 y).wf = true) (Gb := fun y : Int => (Lit.int .i64 y).wf = true) rfl rt3 (readsF_one (d := (Kd.int .i64)) (G := fun y : Int => (Lit.int .i64 y).wf = true) rfl rt3))))
set_option maxRecDepth 100000 in
theorem lifted (os : Os) (started : os.Started) (H : Type) (enc : TypeId × Value → H) :
    ReturnsInHanded {} Try.checked os 3 .any (Rows.fnExactBreaksSpec.pre6 enc Try.prog Try.f3 Rows.fnExactBreaksRow.domain false) (Rows.fnExactBreaksSpec.post enc Try.prog Try.f3 false true false false) := by
  refine returnsInHanded_of_change_sized (C := Try.checked) own started (by kernel_rfl) Try.func3
    (ChangeSpec.witness6 (enc := enc) (C := Try.checked) false ⟨#[], #[.agg #[.string ByteArray.empty, .int .i64 0, .int .i64 0, .int .i64 0], .int .i64 0], []⟩ 8 (by kernel_rfl) (by kernel_rfl) (by kernel_rfl) (by kernel_rfl)) ?_
  intro W base args ds gs before hval0 hW hcnd hsz0 _
  have hval : ∀ (j : Nat) t v, Try.f3.params[j]? = some t → args[j]? = some v → Value.okWide Try.prog W .any base t v := hval0
  have hW' := hW
  obtain ⟨p, q, hA0, hV, rfl, hfz, hnd⟩ := hW
  have hA : DataW.TrodAll enc Try.prog W 0 (fun _ => true) true Try.f3.params.toList args.toList ds p := hA0
  rw [Try.params3] at hA hval
  obtain ⟨v0, vs0, d0, ds0, p0, q0, hargs, rfl, rfl, h0, r0⟩ := trodAll_cons hA
  obtain ⟨v1, vs1, d1, ds1, p1, q1, rfl, rfl, rfl, h1, r1⟩ := trodAll_cons r0
  obtain ⟨rfl, rfl, rfl⟩ := trodAll_nil r1
  obtain rfl : args = #[v0, v1] := by cases args; simp_all
  obtain ⟨rfl, rfl⟩ := trodVars_none hV
  have k0 := h0
  have lt0 : ∀ x ∈ p0, x.block < W.heap.size := by obtain ⟨m, hm⟩ := k0; exact DataW.trod_lt m _ _ _ hm
  obtain ⟨cs0, rfl, hs0⟩ := okWide_struct Try.underlying23 (hval 0 23 v0 rfl rfl)
  obtain ⟨fuel0, hf0⟩ := h0
  obtain ⟨y0, hK0, g0⟩ := rp23.2 _ _ _ _ _ _ _ _ _ hf0
  obtain ⟨cs0⟩ := cs0
  obtain ⟨_, _, rfl, rfl, ⟨_, _, rfl, rfl, ⟨_, _, rfl, rfl, rfl⟩⟩⟩ := hK0
  obtain ⟨g0_0, g0_1, g0_2, g0_3⟩ := g0
  obtain ⟨a1, rfl, rfl, rfl, g1⟩ := open_int Try.underlying3 (hval 1 3 v1 rfl rfl) h1
  clear hA0 hval0 hsz0
  have h := Pure.FnExactBreaks y0.1 y0.2.1 y0.2.2.1 y0.2.2.2 a1 g0_0 g0_1 g0_2 g0_3 g1
  refine (laws_FnExactBreaks.calls y0.1 y0.2.1 y0.2.2.1 y0.2.2.2 a1 true W h).mono fun e W' he => ?_
  obtain ⟨rfl, hd⟩ := he
  have bel : Below W.heap.size W W' := by first | exact hd | exact hd.below
  exact ⟨_, rfl, _, _, _, [], _, [], hW', trodAll_mk1 (shut_bool Try.underlying4 _), (trodAll_cons_mk (Below.trod laidOut (by kernel_rfl) (of_decide_eq_true (by kernel_rfl)) k0 bel lt0) (trodAll_cons_mk (shut_int Try.underlying3 g1) trodAll_mk0)), rfl, bel.frame _, fun h => by cases h⟩
theorem over : Rows.fnExactBreaksRow.holds Try.pinned (OpenSpec.ofChange Rows.fnExactBreaksSpec) :=
  OpenClaim.holds_of_wide 3 Try.f3 rfl rfl rfl rfl rfl rfl rfl ⟨rfl, rfl, rfl, rfl, rfl⟩ rfl rfl rfl rfl rfl (by kernel_rfl) Try.func3 (by kernel_rfl)
    (of_decide_eq_true (by kernel_rfl)) (by unfold Func.isWrapper; first | (rw [if_pos (by decide +kernel)]; kernel_rfl) | (rw [if_neg (by decide +kernel)]; exact ⟨rfl, rfl⟩))
    (fun os started H enc _ => lifted os started H enc)
theorem proved : Rows.FnExactBreaksSaid := over
end Go.Proofs.Ytkbhppjednooeaa.fnExactBreaks
namespace Go.Proofs.Ytkbhppjednooeaa
/-- The row, under a short name, for the claim. -/
theorem fnExactBreaks_holds : Rows.FnExactBreaksSaid := fnExactBreaks.proved
#print axioms fnExactBreaks_holds
end Go.Proofs.Ytkbhppjednooeaa
