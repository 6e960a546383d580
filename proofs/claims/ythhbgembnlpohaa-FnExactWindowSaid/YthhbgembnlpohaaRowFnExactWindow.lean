/- The row of the law FnExactWindow, out of its pure statement and the walk of its function. -/
import Derived.Test.YthhbgembnlpohaaRows
import Derived.Test.YthhbgembnlpohaaQFnExactWindowx11
import Derived.Test.YthhbgembnlpohaaPureFnExactWindow
import Derived.Test.YthhbgembnlpohaaVFnExactWindowOpen
import Derived.WalkKit
import Derived.ProofKit
import Derived.OpenShut
import Derived.ShutString
import Derived.ChangeOld
import Derived.Below
import Derived.SizedLaws
import Derived.Carry
namespace Go.Proofs.Ythhbgembnlpohaa.fnExactWindow
open Go.ChangeShapes Go.WideShapes Go.ChangeAt Go.RowKit Go.Proofs.Ythhbgembnlpohaa.QFnExactStoreOk Go.Proofs.Ythhbgembnlpohaa.Opn Go.Proofs.Ythhbgembnlpohaa.QFnExactWindow Go.Proofs.YthhbgembnlpohaaW.PrintWords Go.Proofs.YthhbgembnlpohaaW.PrintLast
open Go.ChangeMaps (open_string shut_string)
set_option linter.unusedVariables false
set_option linter.unusedSimpArgs false
theorem own : ownKnob Try.prog.godebug = none := by kernel_rfl
theorem laidOut : laidOutB Try.prog = true := by kernel_rfl
set_option maxRecDepth 100000 in
theorem rt3 : Reads Try.prog 3 (Kd.int .i64) (fun y : Int => (Lit.int .i64 y).wf = true) := reads_int Try.underlying3 (by kernel_rfl)
set_option maxRecDepth 100000 in
theorem rt9 : Reads Try.prog 9 Kd.string (fun y : ByteArray => y.size ≤ maxLen) := reads_string Try.underlying9 (by kernel_rfl)
set_option maxRecDepth 100000 in
theorem rt4 : Reads Try.prog 4 Kd.bool (fun y : Bool => True) := reads_bool Try.underlying4 (by kernel_rfl)
set_option maxRecDepth 100000 in
theorem rt118 : Reads Try.prog 118 k118 (fun y : S118 => (y.f0.size ≤ maxLen ∧ (Lit.int .i64 y.f1).wf = true ∧ (Lit.int .i64 y.f2).wf = true ∧ True ∧ (Lit.int .i64 y.f4).wf = true ∧ (Lit.int .i64 y.f5).wf = true ∧ (Lit.int .i64 y.f6).wf = true ∧ (Lit.int .i64 y.f7).wf = true ∧ (Lit.int .i64 y.f8).wf = true ∧ (Lit.int .i64 y.f9).wf = true)) := reads_struct (d := (Kd.pair Kd.string (Kd.pair (Kd.int .i64) (Kd.pair (Kd.int .i64) (Kd.pair Kd.bool (Kd.pair (Kd.int .i64) (Kd.pair (Kd.int .i64) (Kd.pair (Kd.int .i64) (Kd.pair (Kd.int .i64) (Kd.pair (Kd.int .i64) (Kd.int .i64))))))))))) (G := fun y : (ByteArray × (Int × (Int × (Bool × (Int × (Int × (Int × (Int × (Int × Int))))))))) => y.1.size ≤ maxLen ∧ (Lit.int .i64 y.2.1).wf = true ∧ (Lit.int .i64 y.2.2.1).wf = true ∧ True ∧ (Lit.int .i64 y.2.2.2.2.1).wf = true ∧ (Lit.int .i64 y.2.2.2.2.2.1).wf = true ∧ (Lit.int .i64 y.2.2.2.2.2.2.1).wf = true ∧ (Lit.int .i64 y.2.2.2.2.2.2.2.1).wf = true ∧ (Lit.int .i64 y.2.2.2.2.2.2.2.2.1).wf = true ∧ (Lit.int .i64 y.2.2.2.2.2.2.2.2.2).wf = true) Try.underlying118 rfl (by kernel_rfl) (readsF_cons (a := Kd.string) (b := (Kd.pair (Kd.int .i64) (Kd.pair (Kd.int .i64) (Kd.pair Kd.bool (Kd.pair (Kd.int .i64) (Kd.pair (Kd.int .i64) (Kd.pair (Kd.int .i64) (Kd.pair (Kd.int .i64) (Kd.pair (Kd.int .i64) (Kd.int .i64)))))))))) (Ga := fun y : ByteArray => y.size ≤ maxLen) (Gb := fun y : (Int × (Int × (Bool × (Int × (Int × (Int × (Int × (Int × Int)))))))) => (Lit.int .i64 y.1).wf = true ∧ (Lit.int .i64 y.2.1).wf = true ∧ True ∧ (Lit.int .i64 y.2.2.2.1).wf = true ∧ (Lit.int .i64 y.2.2.2.2.1).wf = true ∧ (Lit.int .i64 y.2.2.2.2.2.1).wf = true ∧ (Lit.int .i64 y.2.2.2.2.2.2.1).wf = true ∧ (Lit.int .i64 y.2.2.2.2.2.2.2.1).wf = true ∧ (Lit.int .i64 y.2.2.2.2.2.2.2.2).wf = true) rfl rt9 (readsF_cons (a := (Kd.int .i64)) (b := (Kd.pair (Kd.int .i64) (Kd.pair Kd.bool (Kd.pair (Kd.int .i64) (Kd.pair (Kd.int .i64) (Kd.pair (Kd.int .i64) (Kd.pair (Kd.int .i64) (Kd.pair (Kd.int .i64) (Kd.int .i64))))))))) (Ga := fun y : Int => (Lit.int .i64 y).wf = true) (Gb := fun y : (Int × (Bool × (Int × (Int × (Int × (Int × (Int × Int))))))) => (Lit.int .i64 y.1).wf = true ∧ True ∧ (Lit.int .i64 y.2.2.1).wf = true ∧ (Lit.int .i64 y.2.2.2.1).wf = true ∧ (Lit.int .i64 y.2.2.2.2.1).wf = true ∧ (Lit.int .i64 y.2.2.2.2.2.1).wf = true ∧ (Lit.int .i64 y.2.2.2.2.2.2.1).wf = true ∧ (Lit.int .i64 y.2.2.2.2.2.2.2).wf = true) rfl rt3 (readsF_cons (a := (Kd.int .i64)) (b := (Kd.pair Kd.bool (Kd.pair (Kd.int .i64) (Kd.pair (Kd.int .i64) (Kd.pair (Kd.int .i64) (Kd.pair (Kd.int .i64) (Kd.pair (Kd.int .i64) (Kd.int .i64)))))))) (Ga := fun y : Int => (Lit.int .i64 y).wf = true) (Gb := fun y : (Bool × (Int × (Int × (Int × (Int × (Int × Int)))))) => True ∧ (Lit.int .i64 y.2.1).wf = true ∧ (Lit.int .i64 y.2.2.1).wf = true ∧ (Lit.int .i64 y.2.2.2.1).wf = true ∧ (Lit.int .i64 y.2.2.2.2.1).wf = true ∧ (Lit.int .i64 y.2.2.2.2.2.1).wf = true ∧ (Lit.int .i64 y.2.2.2.2.2.2).wf = true) rfl rt3 (readsF_cons (a := Kd.bool) (b := (Kd.pair (Kd.int .i64) (Kd.pair (Kd.int .i64) (Kd.pair (Kd.int .i64) (Kd.pair (Kd.int .i64) (Kd.pair (Kd.int .i64) (Kd.int .i64))))))) (Ga := fun y : Bool => True) (Gb := fun y : (Int × (Int × (Int × (Int × (Int × Int))))) => (Lit.int .i64 y.1).wf = true ∧ (Lit.int .i64 y.2.1).wf = true ∧ (Lit.int .i64 y.2.2.1).wf = true ∧ (Lit.int .i64 y.2.2.2.1).wf = true ∧ (Lit.int .i64 y.2.2.2.2.1).wf = true ∧ (Lit.int .i64 y.2.2.2.2.2).wf = true) rfl rt4 (readsF_cons (a := (Kd.int .i64)) (b := (Kd.pair (Kd.int .i64) (Kd.pair (Kd.int .i64) (Kd.pair (Kd.int .i64) (Kd.pair (Kd.int .i64) (Kd.int .i64)))))) (Ga := fun y : Int => (Lit.int .i64 y).wf = true) (Gb := fun y : (Int × (Int × (Int × (Int × Int)))) => (Lit.int .i64 y.1).wf = true ∧ (Lit.int .i64 y.2.1).wf = true ∧ (Lit.int .i64 y.2.2.1).wf = true ∧ (Lit.int .i64 y.2.2.2.1).wf = true ∧ (Lit.int .i64 y.2.2.2.2).wf = true) rfl rt3 (readsF_cons (a := (Kd.int .i64)) (b := (Kd.pair (Kd.int .i64) (Kd.pair (Kd.int .i64) (Kd.pair (Kd.int .i64) (Kd.int .i64))))) (Ga := fun y : Int => (Lit.int .i64 y).wf = true) (Gb := fun y : (Int × (Int × (Int × Int))) => (Lit.int .i64 y.1).wf = true ∧ (Lit.int .i64 y.2.1).wf = true ∧ (Lit.int .i64 y.2.2.1).wf = true ∧ (Lit.int .i64 y.2.2.2).wf = true) rfl rt3 (readsF_cons (a := (Kd.int .i64)) (b := (Kd.pair (Kd.int .i64) (Kd.pair (Kd.int .i64) (Kd.int .i64)))) (Ga := fun y : Int => (Lit.int .i64 y).wf = true) (Gb := fun y : (Int × (Int × Int)) => (Lit.int .i64 y.1).wf = true ∧ (Lit.int .i64 y.2.1).wf = true ∧ (Lit.int .i64 y.2.2).wf = true) rfl rt3 (readsF_cons (a := (Kd.int .i64)) (b := (Kd.pair (Kd.int .i64) (Kd.int .i64))) (Ga := fun y : Int => (Lit.int .i64 y).wf = true) (Gb := fun y : (Int × Int) => (Lit.int .i64 y.1).wf = true ∧ (Lit.int .i64 y.2).wf = true) rfl rt3 (readsF_cons (a := (Kd.int .i64)) (b := (Kd.int .i64)) (Ga := fun y : Int => (Lit.int .i64 y).wf = true) (Gb := fun y : Int => (Lit.int .i64 y).wf = true) rfl rt3 (readsF_one (d := (Kd.int .i64)) (G := fun y : Int => (Lit.int .i64 y).wf = true) rfl rt3)))))))))) (fun x => (⟨x.1, x.2.1, x.2.2.1, x.2.2.2.1, x.2.2.2.2.1, x.2.2.2.2.2.1, x.2.2.2.2.2.2.1, x.2.2.2.2.2.2.2.1, x.2.2.2.2.2.2.2.2.1, x.2.2.2.2.2.2.2.2.2⟩ : S118)) (fun x : S118 => (x.f0, x.f1, x.f2, x.f3, x.f4, x.f5, x.f6, x.f7, x.f8, x.f9)) (fun x => rfl)
set_option maxRecDepth 100000 in
theorem rt80 : Reads Try.prog 80 (Kd.slice 118 k118) (fun y : (List S118) => (y.length ≤ maxLen ∧ ∀ y_y ∈ y, (y_y.f0.size ≤ maxLen ∧ (Lit.int .i64 y_y.f1).wf = true ∧ (Lit.int .i64 y_y.f2).wf = true ∧ True ∧ (Lit.int .i64 y_y.f4).wf = true ∧ (Lit.int .i64 y_y.f5).wf = true ∧ (Lit.int .i64 y_y.f6).wf = true ∧ (Lit.int .i64 y_y.f7).wf = true ∧ (Lit.int .i64 y_y.f8).wf = true ∧ (Lit.int .i64 y_y.f9).wf = true))) := reads_slice Try.underlying80 (by kernel_rfl) rt118
set_option maxRecDepth 100000 in
theorem rt36 : Reads Try.prog 36 (Kd.slice 80 (Kd.slice 118 k118)) (fun y : (List (List S118)) => (y.length ≤ maxLen ∧ ∀ y_y ∈ y, (y_y.length ≤ maxLen ∧ ∀ y_y_y ∈ y_y, (y_y_y.f0.size ≤ maxLen ∧ (Lit.int .i64 y_y_y.f1).wf = true ∧ (Lit.int .i64 y_y_y.f2).wf = true ∧ True ∧ (Lit.int .i64 y_y_y.f4).wf = true ∧ (Lit.int .i64 y_y_y.f5).wf = true ∧ (Lit.int .i64 y_y_y.f6).wf = true ∧ (Lit.int .i64 y_y_y.f7).wf = true ∧ (Lit.int .i64 y_y_y.f8).wf = true ∧ (Lit.int .i64 y_y_y.f9).wf = true)))) := reads_slice Try.underlying36 (by kernel_rfl) rt80
set_option maxRecDepth 100000 in
theorem rp38 : Reads Try.prog 38 (Kd.pair (Kd.int .i64) (Kd.pair (Kd.int .i64) (Kd.slice 80 (Kd.slice 118 k118)))) (fun y : (Int × (Int × (List (List S118)))) => ((Lit.int .i64 y.1).wf = true ∧ (Lit.int .i64 y.2.1).wf = true ∧ (y.2.2.length ≤ maxLen ∧ ∀ y_y_2_2 ∈ y.2.2, (y_y_2_2.length ≤ maxLen ∧ ∀ y_y_y_2_2 ∈ y_y_2_2, (y_y_y_2_2.f0.size ≤ maxLen ∧ (Lit.int .i64 y_y_y_2_2.f1).wf = true ∧ (Lit.int .i64 y_y_y_2_2.f2).wf = true ∧ True ∧ (Lit.int .i64 y_y_y_2_2.f4).wf = true ∧ (Lit.int .i64 y_y_y_2_2.f5).wf = true ∧ (Lit.int .i64 y_y_y_2_2.f6).wf = true ∧ (Lit.int .i64 y_y_y_2_2.f7).wf = true ∧ (Lit.int .i64 y_y_y_2_2.f8).wf = true ∧ (Lit.int .i64 y_y_y_2_2.f9).wf = true))))) := reads_plain Try.underlying38 rfl (by kernel_rfl) (readsF_cons (a := (Kd.int .i64)) (b := (Kd.pair (Kd.int .i64) (Kd.slice 80 (Kd.slice 118 k118)))) (Ga := fun y : Int => (Lit.int .i64 y).wf = true) (Gb := fun y : (Int × (List (List S118))) => (Lit.int .i64 y.1).wf = true ∧ (y.2.length ≤ maxLen ∧ ∀ y_y_2 ∈ y.2, (y_y_2.length ≤ maxLen ∧ ∀ y_y_y_2 ∈ y_y_2, (y_y_y_2.f0.size ≤ maxLen ∧ (Lit.int .i64 y_y_y_2.f1).wf = true ∧ (Lit.int .i64 y_y_y_2.f2).wf = true ∧ True ∧ (Lit.int .i64 y_y_y_2.f4).wf = true ∧ (Lit.int .i64 y_y_y_2.f5).wf = true ∧ (Lit.int .i64 y_y_y_2.f6).wf = true ∧ (Lit.int .i64 y_y_y_2.f7).wf = true ∧ (Lit.int .i64 y_y_y_2.f8).wf = true ∧ (Lit.int .i64 y_y_y_2.f9).wf = true)))) rfl rt3 (readsF_cons (a := (Kd.int .i64)) (b := (Kd.slice 80 (Kd.slice 118 k118))) (Ga := fun y : Int => (Lit.int .i64 y).wf = true) (Gb := fun y : (List (List S118)) => (y.length ≤ maxLen ∧ ∀ y_y ∈ y, (y_y.length ≤ maxLen ∧ ∀ y_y_y ∈ y_y, (y_y_y.f0.size ≤ maxLen ∧ (Lit.int .i64 y_y_y.f1).wf = true ∧ (Lit.int .i64 y_y_y.f2).wf = true ∧ True ∧ (Lit.int .i64 y_y_y.f4).wf = true ∧ (Lit.int .i64 y_y_y.f5).wf = true ∧ (Lit.int .i64 y_y_y.f6).wf = true ∧ (Lit.int .i64 y_y_y.f7).wf = true ∧ (Lit.int .i64 y_y_y.f8).wf = true ∧ (Lit.int .i64 y_y_y.f9).wf = true)))) rfl rt3 (readsF_one (d := (Kd.slice 80 (Kd.slice 118 k118))) (G := fun y : (List (List S118)) => (y.length ≤ maxLen ∧ ∀ y_y ∈ y, (y_y.length ≤ maxLen ∧ ∀ y_y_y ∈ y_y, (y_y_y.f0.size ≤ maxLen ∧ (Lit.int .i64 y_y_y.f1).wf = true ∧ (Lit.int .i64 y_y_y.f2).wf = true ∧ True ∧ (Lit.int .i64 y_y_y.f4).wf = true ∧ (Lit.int .i64 y_y_y.f5).wf = true ∧ (Lit.int .i64 y_y_y.f6).wf = true ∧ (Lit.int .i64 y_y_y.f7).wf = true ∧ (Lit.int .i64 y_y_y.f8).wf = true ∧ (Lit.int .i64 y_y_y.f9).wf = true)))) rfl rt36)))
set_option maxRecDepth 100000 in
theorem lifted (os : Os) (started : os.Started) (H : Type) (enc : TypeId × Value → H) :
    ReturnsInHanded {} Try.checked os 11 .any (Rows.fnExactWindowSpec.pre6 enc Try.prog Try.f11 Rows.fnExactWindowRow.domain false) (Rows.fnExactWindowSpec.post enc Try.prog Try.f11 false true false false) := by
  refine returnsInHanded_of_change_sized (C := Try.checked) own started (by kernel_rfl) Try.func11
    (ChangeSpec.witness6 (enc := enc) (C := Try.checked) false ⟨#[], #[.agg #[.int .i64 0, .int .i64 0, .slice none 0 0], .int .i64 0], []⟩ 8 (by kernel_rfl) (by kernel_rfl) (by kernel_rfl) (by kernel_rfl)) ?_
  intro W base args ds gs before hval0 hW hcnd hsz0 _
  have hval : ∀ (j : Nat) t v, Try.f11.params[j]? = some t → args[j]? = some v → Value.okWide Try.prog W .any base t v := hval0
  have hW' := hW
  obtain ⟨p, q, hA0, hV, rfl, hfz, hnd⟩ := hW
  have hA : DataW.TrodAll enc Try.prog W 0 (fun _ => true) true Try.f11.params.toList args.toList ds p := hA0
  rw [Try.params11] at hA hval
  obtain ⟨v0, vs0, d0, ds0, p0, q0, hargs, rfl, rfl, h0, r0⟩ := trodAll_cons hA
  obtain ⟨v1, vs1, d1, ds1, p1, q1, rfl, rfl, rfl, h1, r1⟩ := trodAll_cons r0
  obtain ⟨rfl, rfl, rfl⟩ := trodAll_nil r1
  obtain rfl : args = #[v0, v1] := by cases args; simp_all
  obtain ⟨rfl, rfl⟩ := trodVars_none hV
  have k0 := h0
  have lt0 : ∀ x ∈ p0, x.block < W.heap.size := by obtain ⟨m, hm⟩ := k0; exact DataW.trod_lt m _ _ _ hm
  obtain ⟨cs0, rfl, hs0⟩ := okWide_struct Try.underlying38 (hval 0 38 v0 rfl rfl)
  obtain ⟨fuel0, hf0⟩ := h0
  obtain ⟨y0, hK0, g0⟩ := rp38.2 _ _ _ _ _ _ _ _ _ hf0
  obtain ⟨cs0⟩ := cs0
  obtain ⟨_, _, rfl, rfl, ⟨_, _, rfl, rfl, ⟨A0_2, c0_2, rfl, hc0_2, hr0_2⟩⟩⟩ := hK0
  obtain ⟨g0_0, g0_1, g0_2⟩ := g0
  obtain ⟨a1, rfl, rfl, rfl, g1⟩ := open_int Try.underlying3 (hval 1 3 v1 rfl rfl) h1
  clear hA0 hval0 hsz0
  obtain ⟨k, h⟩ := Pure.FnExactWindow y0.1 y0.2.1 y0.2.2 a1 g0_0 g0_1 g0_2 g1
  refine (laws_FnExactWindow.calls k y0.1 y0.2.1 _ _ y0.2.2 a1 true W hr0_2 hc0_2 h).mono fun e W' he => ?_
  obtain ⟨rfl, hd⟩ := he
  have bel : Below W.heap.size W W' := by first | exact hd | exact hd.below
  exact ⟨_, rfl, _, _, _, [], _, [], hW', trodAll_mk1 (shut_bool Try.underlying4 _), (trodAll_cons_mk (Below.trod laidOut (by kernel_rfl) (of_decide_eq_true (by kernel_rfl)) k0 bel lt0) (trodAll_cons_mk (shut_int Try.underlying3 g1) trodAll_mk0)), rfl, bel.frame _, fun h => by cases h⟩
theorem over : Rows.fnExactWindowRow.holds Try.pinned (OpenSpec.ofChange Rows.fnExactWindowSpec) :=
  OpenClaim.holds_of_wide 11 Try.f11 rfl rfl rfl rfl rfl rfl rfl ⟨rfl, rfl, rfl, rfl, rfl⟩ rfl rfl rfl rfl rfl (by kernel_rfl) Try.func11 (by kernel_rfl)
    (of_decide_eq_true (by kernel_rfl)) (by unfold Func.isWrapper; first | (rw [if_pos (by decide +kernel)]; kernel_rfl) | (rw [if_neg (by decide +kernel)]; exact ⟨rfl, rfl⟩))
    (fun os started H enc _ => lifted os started H enc)
theorem proved : Rows.FnExactWindowSaid := over
end Go.Proofs.Ythhbgembnlpohaa.fnExactWindow
namespace Go.Proofs.Ythhbgembnlpohaa
/-- The row, under a short name, for the claim. -/
theorem fnExactWindow_holds : Rows.FnExactWindowSaid := fnExactWindow.proved
#print axioms fnExactWindow_holds
end Go.Proofs.Ythhbgembnlpohaa
