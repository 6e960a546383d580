/- The row of the law FnExactFires, out of its pure statement and the walk of its function. -/
import Derived.Test.YthhbgembnlpohaaRows
import Derived.Test.YthhbgembnlpohaaQFnExactFiresx7
import Derived.Test.YthhbgembnlpohaaPureFnExactFires
import Derived.Test.YthhbgembnlpohaaOpen
import Derived.WalkKit
import Derived.ProofKit
import Derived.OpenShut
import Derived.ShutString
import Derived.ChangeOld
import Derived.Below
import Derived.SizedLaws
import Derived.Carry
namespace Go.Proofs.Ythhbgembnlpohaa.fnExactFires
open Go.ChangeShapes Go.WideShapes Go.ChangeAt Go.RowKit Go.Proofs.Ythhbgembnlpohaa.Opn Go.Proofs.Ythhbgembnlpohaa.QFnExactFires Go.Proofs.YthhbgembnlpohaaW.PrintWords Go.Proofs.YthhbgembnlpohaaW.PrintLast
open Go.ChangeMaps (open_string shut_string)
set_option linter.unusedVariables false
set_option linter.unusedSimpArgs false
theorem own : ownKnob Try.prog.godebug = none := by kernel_rfl
theorem laidOut : laidOutB Try.prog = true := by kernel_rfl
set_option maxRecDepth 100000 in
theorem rt9 : Reads Try.prog 9 Kd.string (fun y : ByteArray => y.size ≤ maxLen) := reads_string Try.underlying9 (by kernel_rfl)
set_option maxRecDepth 100000 in
theorem rt3 : Reads Try.prog 3 (Kd.int .i64) (fun y : Int => (Lit.int .i64 y).wf = true) := reads_int Try.underlying3 (by kernel_rfl)
set_option maxRecDepth 100000 in
theorem rt4 : Reads Try.prog 4 Kd.bool (fun y : Bool => True) := reads_bool Try.underlying4 (by kernel_rfl)
set_option maxRecDepth 100000 in
theorem rt118 : Reads Try.prog 118 k118 (fun y : S118 => (y.f0.size ≤ maxLen ∧ (Lit.int .i64 y.f1).wf = true ∧ (Lit.int .i64 y.f2).wf = true ∧ True ∧ (Lit.int .i64 y.f4).wf = true ∧ (Lit.int .i64 y.f5).wf = true ∧ (Lit.int .i64 y.f6).wf = true ∧ (Lit.int .i64 y.f7).wf = true ∧ (Lit.int .i64 y.f8).wf = true ∧ (Lit.int .i64 y.f9).wf = true)) := reads_struct (d := (Kd.pair Kd.string (Kd.pair (Kd.int .i64) (Kd.pair (Kd.int .i64) (Kd.pair Kd.bool (Kd.pair (Kd.int .i64) (Kd.pair (Kd.int .i64) (Kd.pair (Kd.int .i64) (Kd.pair (Kd.int .i64) (Kd.pair (Kd.int .i64) (Kd.int .i64))))))))))) (G := fun y : (ByteArray × (Int × (Int × (Bool × (Int × (Int × (Int × (Int × (Int × Int))))))))) => y.1.size ≤ maxLen ∧ (Lit.int .i64 y.2.1).wf = true ∧ (Lit.int .i64 y.2.2.1).wf = true ∧ True ∧ (Lit.int .i64 y.2.2.2.2.1).wf = true ∧ (Lit.int .i64 y.2.2.2.2.2.1).wf = true ∧ (Lit.int .i64 y.2.2.2.2.2.2.1).wf = true ∧ (Lit.int .i64 y.2.2.2.2.2.2.2.1).wf = true ∧ (Lit.int .i64 y.2.2.2.2.2.2.2.2.1).wf = true ∧ (Lit.int .i64 y.2.2.2.2.2.2.2.2.2).wf = true) Try.underlying118 rfl (by kernel_rfl) (readsF_cons (a := Kd.string) (b := (Kd.pair (Kd.int .i64) (Kd.pair (Kd.int .i64) (Kd.pair Kd.bool (Kd.pair (Kd.int .i64) (Kd.pair (Kd.int .i64) (Kd.pair (Kd.int .i64) (Kd.pair (Kd.int .i64) (Kd.pair (Kd.int .i64) (Kd.int .i64)))))))))) (Ga := fun y : ByteArray => y.size ≤ maxLen) (Gb := fun y : (Int × (Int × (Bool × (Int × (Int × (Int × (Int × (Int × Int)))))))) => (Lit.int .i64 y.1).wf = true ∧ (Lit.int .i64 y.2.1).wf = true ∧ True ∧ (Lit.int .i64 y.2.2.2.1).wf = true ∧ (Lit.int .i64 y.2.2.2.2.1).wf = true ∧ (Lit.int .i64 y.2.2.2.2.2.1).wf = true ∧ (Lit.int .i64 y.2.2.2.2.2.2.1).wf = true ∧ (Lit.int .i64 y.2.2.2.2.2.2.2.1).wf = true ∧ (Lit.int .i64 y.2.2.2.2.2.2.2.2).wf = true) rfl rt9 (readsF_cons (a := (Kd.int .i64)) (b := (Kd.pair (Kd.int .i64) (Kd.pair Kd.bool (Kd.pair (Kd.int .i64) (Kd.pair (Kd.int .i64) (Kd.pair (Kd.int .i64) (Kd.pair (Kd.int .i64) (Kd.pair (Kd.int .i64) (Kd.int .i64))))))))) (Ga := fun y : Int => (Lit.int .i64 y).wf = true) (Gb := fun y : (Int × (Bool × (Int × (Int × (Int × (Int × (Int × Int))))))) => (Lit.int .i64 y.1).wf = true ∧ True ∧ (Lit.int .i64 y.2.2.1).wf = true ∧ (Lit.int .i64 y.2.2.2.1).wf = true ∧ (Lit.int .i64 y.2.2.2.2.1).wf = true ∧ (Lit.int .i64 y.2.2.2.2.2.1).wf = true ∧ (Lit.int .i64 y.2.2.2.2.2.2.1).wf = true ∧ (Lit.int .i64 y.2.2.2.2.2.2.2).wf = true) rfl rt3 (readsF_cons (a := (Kd.int .i64)) (b := (Kd.pair Kd.bool (Kd.pair (Kd.int .i64) (Kd.pair (Kd.int .i64) (Kd.pair (Kd.int .i64) (Kd.pair (Kd.int .i64) (Kd.pair (Kd.int .i64) (Kd.int .i64)))))))) (Ga := fun y : Int => (Lit.int .i64 y).wf = true) (Gb := fun y : (Bool × (Int × (Int × (Int × (Int × (Int × Int)))))) => True ∧ (Lit.int .i64 y.2.1).wf = true ∧ (Lit.int .i64 y.2.2.1).wf = true ∧ (Lit.int .i64 y.2.2.2.1).wf = true ∧ (Lit.int .i64 y.2.2.2.2.1).wf = true ∧ (Lit.int .i64 y.2.2.2.2.2.1).wf = true ∧ (Lit.int .i64 y.2.2.2.2.2.2).wf = true) rfl rt3 (readsF_cons (a := Kd.bool) (b := (Kd.pair (Kd.int .i64) (Kd.pair (Kd.int .i64) (Kd.pair (Kd.int .i64) (Kd.pair (Kd.int .i64) (Kd.pair (Kd.int .i64) (Kd.int .i64))))))) (Ga := fun y : Bool => True) (Gb := fun y : (Int × (Int × (Int × (Int × (Int × Int))))) => (Lit.int .i64 y.1).wf = true ∧ (Lit.int .i64 y.2.1).wf = true ∧ (Lit.int .i64 y.2.2.1).wf = true ∧ (Lit.int .i64 y.2.2.2.1).wf = true ∧ (Lit.int .i64 y.2.2.2.2.1).wf = true ∧ (Lit.int .i64 y.2.2.2.2.2).wf = true) rfl rt4 (readsF_cons (a := (Kd.int .i64)) (b := (Kd.pair (Kd.int .i64) (Kd.pair (Kd.int .i64) (Kd.pair (Kd.int .i64) (Kd.pair (Kd.int .i64) (Kd.int .i64)))))) (Ga := fun y : Int => (Lit.int .i64 y).wf = true) (Gb := fun y : (Int × (Int × (Int × (Int × Int)))) => (Lit.int .i64 y.1).wf = true ∧ (Lit.int .i64 y.2.1).wf = true ∧ (Lit.int .i64 y.2.2.1).wf = true ∧ (Lit.int .i64 y.2.2.2.1).wf = true ∧ (Lit.int .i64 y.2.2.2.2).wf = true) rfl rt3 (readsF_cons (a := (Kd.int .i64)) (b := (Kd.pair (Kd.int .i64) (Kd.pair (Kd.int .i64) (Kd.pair (Kd.int .i64) (Kd.int .i64))))) (Ga := fun y : Int => (Lit.int .i64 y).wf = true) (Gb := fun y : (Int × (Int × (Int × Int))) => (Lit.int .i64 y.1).wf = true ∧ (Lit.int .i64 y.2.1).wf = true ∧ (Lit.int .i64 y.2.2.1).wf = true ∧ (Lit.int .i64 y.2.2.2).wf = true) rfl rt3 (readsF_cons (a := (Kd.int .i64)) (b := (Kd.pair (Kd.int .i64) (Kd.pair (Kd.int .i64) (Kd.int .i64)))) (Ga := fun y : Int => (Lit.int .i64 y).wf = true) (Gb := fun y : (Int × (Int × Int)) => (Lit.int .i64 y.1).wf = true ∧ (Lit.int .i64 y.2.1).wf = true ∧ (Lit.int .i64 y.2.2).wf = true) rfl rt3 (readsF_cons (a := (Kd.int .i64)) (b := (Kd.pair (Kd.int .i64) (Kd.int .i64))) (Ga := fun y : Int => (Lit.int .i64 y).wf = true) (Gb := fun y : (Int × Int) => (Lit.int .i64 y.1).wf = true ∧ (Lit.int .i64 y.2).wf = true) rfl rt3 (readsF_cons (a := (Kd.int .i64)) (b := (Kd.int .i64)) (Ga := fun y : Int => (Lit.int .i64 y).wf = true) (Gb := fun y : Int => (Lit.int .i64 y).wf = true) rfl rt3 (readsF_one (d := (Kd.int .i64)) (G := fun y : Int => (Lit.int .i64 y).wf = true) rfl rt3)))))))))) (fun x => (⟨x.1, x.2.1, x.2.2.1, x.2.2.2.1, x.2.2.2.2.1, x.2.2.2.2.2.1, x.2.2.2.2.2.2.1, x.2.2.2.2.2.2.2.1, x.2.2.2.2.2.2.2.2.1, x.2.2.2.2.2.2.2.2.2⟩ : S118)) (fun x : S118 => (x.f0, x.f1, x.f2, x.f3, x.f4, x.f5, x.f6, x.f7, x.f8, x.f9)) (fun x => rfl)
set_option maxRecDepth 100000 in
theorem rt80 : Reads Try.prog 80 (Kd.slice 118 k118) (fun y : (List S118) => (y.length ≤ maxLen ∧ ∀ y_y ∈ y, (y_y.f0.size ≤ maxLen ∧ (Lit.int .i64 y_y.f1).wf = true ∧ (Lit.int .i64 y_y.f2).wf = true ∧ True ∧ (Lit.int .i64 y_y.f4).wf = true ∧ (Lit.int .i64 y_y.f5).wf = true ∧ (Lit.int .i64 y_y.f6).wf = true ∧ (Lit.int .i64 y_y.f7).wf = true ∧ (Lit.int .i64 y_y.f8).wf = true ∧ (Lit.int .i64 y_y.f9).wf = true))) := reads_slice Try.underlying80 (by kernel_rfl) rt118
set_option maxRecDepth 100000 in
theorem rt36 : Reads Try.prog 36 (Kd.slice 80 (Kd.slice 118 k118)) (fun y : (List (List S118)) => (y.length ≤ maxLen ∧ ∀ y_y ∈ y, (y_y.length ≤ maxLen ∧ ∀ y_y_y ∈ y_y, (y_y_y.f0.size ≤ maxLen ∧ (Lit.int .i64 y_y_y.f1).wf = true ∧ (Lit.int .i64 y_y_y.f2).wf = true ∧ True ∧ (Lit.int .i64 y_y_y.f4).wf = true ∧ (Lit.int .i64 y_y_y.f5).wf = true ∧ (Lit.int .i64 y_y_y.f6).wf = true ∧ (Lit.int .i64 y_y_y.f7).wf = true ∧ (Lit.int .i64 y_y_y.f8).wf = true ∧ (Lit.int .i64 y_y_y.f9).wf = true)))) := reads_slice Try.underlying36 (by kernel_rfl) rt80
set_option maxRecDepth 100000 in
theorem rp52 : Reads Try.prog 52 (Kd.pair Kd.string (Kd.pair (Kd.int .i64) (Kd.pair (Kd.int .i64) (Kd.int .i64)))) (fun y : (ByteArray × (Int × (Int × Int))) => (y.1.size ≤ maxLen ∧ (Lit.int .i64 y.2.1).wf = true ∧ (Lit.int .i64 y.2.2.1).wf = true ∧ (Lit.int .i64 y.2.2.2).wf = true)) := reads_plain Try.underlying52 rfl (by kernel_rfl) (readsF_cons (a := Kd.string) (b := (Kd.pair (Kd.int .i64) (Kd.pair (Kd.int .i64) (Kd.int .i64)))) (Ga := fun y : ByteArray => y.size ≤ maxLen) (Gb := fun y : (Int × (Int × Int)) => (Lit.int .i64 y.1).wf = true ∧ (Lit.int .i64 y.2.1).wf = true ∧ (Lit.int .i64 y.2.2).wf = true) rfl rt9 (readsF_cons (a := (Kd.int .i64)) (b := (Kd.pair (Kd.int .i64) (Kd.int .i64))) (Ga := fun y : Int => (Lit.int .i64 y).wf = true) (Gb := fun y : (Int × Int) => (Lit.int .i64 y.1).wf = true ∧ (Lit.int .i64 y.2).wf = true) rfl rt3 (readsF_cons (a := (Kd.int .i64)) (b := (Kd.int .i64)) (Ga := fun y : Int => (Lit.int .i64 y).wf = true) (Gb := fun y : Int => (Lit.int .i64 y).wf = true) rfl rt3 (readsF_one (d := (Kd.int .i64)) (G := fun y : Int => (Lit.int .i64 y).wf = true) rfl rt3))))
set_option maxRecDepth 100000 in
theorem lifted (os : Os) (started : os.Started) (H : Type) (enc : TypeId × Value → H) :
    ReturnsInHanded {} Try.checked os 10 .any (Rows.fnExactFiresSpec.pre6 enc Try.prog Try.f10 Rows.fnExactFiresRow.domain false) (Rows.fnExactFiresSpec.post enc Try.prog Try.f10 false true false false) := by
  refine returnsInHanded_of_change_sized (C := Try.checked) own started (by kernel_rfl) Try.func10
    (ChangeSpec.witness6 (enc := enc) (C := Try.checked) false ⟨#[], #[.slice none 0 0, .agg #[.string ByteArray.empty, .int .i64 0, .int .i64 0, .int .i64 0]], []⟩ 8 (by kernel_rfl) (by kernel_rfl) (by kernel_rfl) (by kernel_rfl)) ?_
  intro W base args ds gs before hval0 hW hcnd hsz0 _
  have hval : ∀ (j : Nat) t v, Try.f10.params[j]? = some t → args[j]? = some v → Value.okWide Try.prog W .any base t v := hval0
  have hW' := hW
  obtain ⟨p, q, hA0, hV, rfl, hfz, hnd⟩ := hW
  have hA : DataW.TrodAll enc Try.prog W 0 (fun _ => true) true Try.f10.params.toList args.toList ds p := hA0
  rw [Try.params10] at hA hval
  obtain ⟨v0, vs0, d0, ds0, p0, q0, hargs, rfl, rfl, h0, r0⟩ := trodAll_cons hA
  obtain ⟨v1, vs1, d1, ds1, p1, q1, rfl, rfl, rfl, h1, r1⟩ := trodAll_cons r0
  obtain ⟨rfl, rfl, rfl⟩ := trodAll_nil r1
  obtain rfl : args = #[v0, v1] := by cases args; simp_all
  obtain ⟨rfl, rfl⟩ := trodVars_none hV
  have k0 := h0
  have lt0 : ∀ x ∈ p0, x.block < W.heap.size := by obtain ⟨m, hm⟩ := k0; exact DataW.trod_lt m _ _ _ hm
  obtain ⟨aa0, len0, cap0, rfl⟩ := okWide_slice Try.underlying36 (hval 0 36 v0 rfl rfl)
  obtain ⟨fuel0, hf0⟩ := h0
  obtain ⟨y0, ⟨A0, c0, he0, hl0, hr0⟩, g0⟩ := rt36.2 _ _ _ _ _ _ _ _ _ hf0
  obtain ⟨rfl, rfl, rfl⟩ : aa0 = A0 ∧ len0 = y0.length ∧ cap0 = c0 := by simpa [Value.cells] using he0
  have k1 := h1
  have lt1 : ∀ x ∈ p1, x.block < W.heap.size := by obtain ⟨m, hm⟩ := k1; exact DataW.trod_lt m _ _ _ hm
  obtain ⟨cs1, rfl, hs1⟩ := okWide_struct Try.underlying52 (hval 1 52 v1 rfl rfl)
  obtain ⟨fuel1, hf1⟩ := h1
  obtain ⟨y1, hK1, g1⟩ := rp52.2 _ _ _ _ _ _ _ _ _ hf1
  obtain ⟨cs1⟩ := cs1
  obtain ⟨_, _, rfl, rfl, ⟨_, _, rfl, rfl, ⟨_, _, rfl, rfl, rfl⟩⟩⟩ := hK1
  obtain ⟨g1_0, g1_1, g1_2, g1_3⟩ := g1
  clear hA0 hval0 hsz0
  obtain ⟨k, h⟩ := Pure.FnExactFires y0 y1.1 y1.2.1 y1.2.2.1 y1.2.2.2 g0 g1_0 g1_1 g1_2 g1_3
  refine (laws_FnExactFires.calls k _ _ y0 y1.1 y1.2.1 y1.2.2.1 y1.2.2.2 true W hr0 hl0 h).mono fun e W' he => ?_
  obtain ⟨rfl, hd⟩ := he
  have bel : Below W.heap.size W W' := by first | exact hd | exact hd.below
  exact ⟨_, rfl, _, _, _, [], _, [], hW', trodAll_mk1 (shut_bool Try.underlying4 _), (trodAll_cons_mk (Below.trod laidOut (by kernel_rfl) (of_decide_eq_true (by kernel_rfl)) k0 bel lt0) (trodAll_cons_mk (Below.trod laidOut (by kernel_rfl) (of_decide_eq_true (by kernel_rfl)) k1 bel lt1) trodAll_mk0)), rfl, bel.frame _, fun h => by cases h⟩
theorem over : Rows.fnExactFiresRow.holds Try.pinned (OpenSpec.ofChange Rows.fnExactFiresSpec) :=
  OpenClaim.holds_of_wide 10 Try.f10 rfl rfl rfl rfl rfl rfl rfl ⟨rfl, rfl, rfl, rfl, rfl⟩ rfl rfl rfl rfl rfl (by kernel_rfl) Try.func10 (by kernel_rfl)
    (of_decide_eq_true (by kernel_rfl)) (by unfold Func.isWrapper; first | (rw [if_pos (by decide +kernel)]; kernel_rfl) | (rw [if_neg (by decide +kernel)]; exact ⟨rfl, rfl⟩))
    (fun os started H enc _ => lifted os started H enc)
theorem proved : Rows.FnExactFiresSaid := over
end Go.Proofs.Ythhbgembnlpohaa.fnExactFires
namespace Go.Proofs.Ythhbgembnlpohaa
/-- The row, under a short name, for the claim. -/
theorem fnExactFires_holds : Rows.FnExactFiresSaid := fnExactFires.proved
#print axioms fnExactFires_holds
end Go.Proofs.Ythhbgembnlpohaa
