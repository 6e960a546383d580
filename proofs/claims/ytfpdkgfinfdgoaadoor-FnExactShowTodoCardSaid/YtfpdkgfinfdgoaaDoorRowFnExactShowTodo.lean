/- The row of the law FnExactShowTodo, out of its pure statement and the walk of its function. -/
import Derived.Test.YtfpdkgfinfdgoaaDoorRows
import Derived.Test.YtfpdkgfinfdgoaaDoorQFnExactShowTodox8
import Derived.Test.YtfpdkgfinfdgoaaDoorPureFnExactShowTodo
import Derived.Test.YtfpdkgfinfdgoaaDoorOpen
import Derived.WalkKit
import Derived.ProofKit
import Derived.OpenShut
import Derived.ShutString
import Derived.ChangeOld
import Derived.Below
import Derived.SizedLaws
import Derived.Carry
import Derived.Test.YtfpdkgfinfdgoaaDoorTie
import Derived.Test.YtfpdkgfinfdgoaaDoorCards
import Derived.SevenTiedAt
import Derived.LaidMore
import Derived.LaidHandle
import Derived.Stop.Joined
import Derived.Lib.LaidTab
namespace Go.Proofs.YtfpdkgfinfdgoaaDoor.fnExactShowTodo
open Go.ChangeShapes Go.WideShapes Go.ChangeAt Go.RowKit Go.Proofs.YtfpdkgfinfdgoaaDoor.Opn Go.Proofs.YtfpdkgfinfdgoaaDoor.QFnExactShowTodo Go.Proofs.YtfpdkgfinfdgoaaDoorW.PrintWords Go.Proofs.YtfpdkgfinfdgoaaDoorW.PrintLast
open Go.ChangeMaps (open_string shut_string)
set_option linter.unusedVariables false
set_option linter.unusedSimpArgs false
theorem own : ownKnob Tryd.prog.godebug = none := by kernel_rfl
theorem laidOut : laidOutB Tryd.prog = true := by kernel_rfl
set_option maxRecDepth 100000 in
theorem rt3 : Reads Tryd.prog 3 (Kd.int .i64) (fun y : Int => (Lit.int .i64 y).wf = true) := reads_int Tryd.underlying3 (by kernel_rfl)
set_option maxRecDepth 100000 in
theorem rt9 : Reads Tryd.prog 9 Kd.string (fun y : ByteArray => y.size ≤ maxLen) := reads_string Tryd.underlying9 (by kernel_rfl)
set_option maxRecDepth 100000 in
theorem rt30 : Reads Tryd.prog 30 k30 (fun y : S30 => ((Lit.int .i64 y.f0).wf = true ∧ y.f1.size ≤ maxLen ∧ (Lit.int .i64 y.f2).wf = true ∧ (Lit.int .i64 y.f3).wf = true)) := reads_struct (d := (Kd.pair (Kd.int .i64) (Kd.pair Kd.string (Kd.pair (Kd.int .i64) (Kd.int .i64))))) (G := fun y : (Int × (ByteArray × (Int × Int))) => (Lit.int .i64 y.1).wf = true ∧ y.2.1.size ≤ maxLen ∧ (Lit.int .i64 y.2.2.1).wf = true ∧ (Lit.int .i64 y.2.2.2).wf = true) Tryd.underlying30 rfl (by kernel_rfl) (readsF_cons (a := (Kd.int .i64)) (b := (Kd.pair Kd.string (Kd.pair (Kd.int .i64) (Kd.int .i64)))) (Ga := fun y : Int => (Lit.int .i64 y).wf = true) (Gb := fun y : (ByteArray × (Int × Int)) => y.1.size ≤ maxLen ∧ (Lit.int .i64 y.2.1).wf = true ∧ (Lit.int .i64 y.2.2).wf = true) rfl rt3 (readsF_cons (a := Kd.string) (b := (Kd.pair (Kd.int .i64) (Kd.int .i64))) (Ga := fun y : ByteArray => y.size ≤ maxLen) (Gb := fun y : (Int × Int) => (Lit.int .i64 y.1).wf = true ∧ (Lit.int .i64 y.2).wf = true) rfl rt9 (readsF_cons (a := (Kd.int .i64)) (b := (Kd.int .i64)) (Ga := fun y : Int => (Lit.int .i64 y).wf = true) (Gb := fun y : Int => (Lit.int .i64 y).wf = true) rfl rt3 (readsF_one (d := (Kd.int .i64)) (G := fun y : Int => (Lit.int .i64 y).wf = true) rfl rt3)))) (fun x => (⟨x.1, x.2.1, x.2.2.1, x.2.2.2⟩ : S30)) (fun x : S30 => (x.f0, x.f1, x.f2, x.f3)) (fun x => rfl)
set_option maxRecDepth 100000 in
theorem rt53 : Reads Tryd.prog 53 (Kd.slice 30 k30) (fun y : (List S30) => (y.length ≤ maxLen ∧ ∀ y_y ∈ y, ((Lit.int .i64 y_y.f0).wf = true ∧ y_y.f1.size ≤ maxLen ∧ (Lit.int .i64 y_y.f2).wf = true ∧ (Lit.int .i64 y_y.f3).wf = true))) := reads_slice Tryd.underlying53 (by kernel_rfl) rt30
set_option maxRecDepth 100000 in
theorem rt55 : Reads Tryd.prog 55 k55 (fun y : S55 => ((y.f0.length ≤ maxLen ∧ ∀ y_y_f0 ∈ y.f0, ((Lit.int .i64 y_y_f0.f0).wf = true ∧ y_y_f0.f1.size ≤ maxLen ∧ (Lit.int .i64 y_y_f0.f2).wf = true ∧ (Lit.int .i64 y_y_f0.f3).wf = true)))) := reads_struct (d := (Kd.slice 30 k30)) (G := fun y : (List S30) => (y.length ≤ maxLen ∧ ∀ y_y ∈ y, ((Lit.int .i64 y_y.f0).wf = true ∧ y_y.f1.size ≤ maxLen ∧ (Lit.int .i64 y_y.f2).wf = true ∧ (Lit.int .i64 y_y.f3).wf = true))) Tryd.underlying55 rfl (by kernel_rfl) (readsF_one (d := (Kd.slice 30 k30)) (G := fun y : (List S30) => (y.length ≤ maxLen ∧ ∀ y_y ∈ y, ((Lit.int .i64 y_y.f0).wf = true ∧ y_y.f1.size ≤ maxLen ∧ (Lit.int .i64 y_y.f2).wf = true ∧ (Lit.int .i64 y_y.f3).wf = true))) rfl rt53) (fun x => (⟨x⟩ : S55)) (fun x : S55 => (x.f0)) (fun x => rfl)
set_option maxRecDepth 100000 in
theorem rt22 : Reads Tryd.prog 22 (Kd.slice 55 k55) (fun y : (List S55) => (y.length ≤ maxLen ∧ ∀ y_y ∈ y, ((y_y.f0.length ≤ maxLen ∧ ∀ y_y_y_f0 ∈ y_y.f0, ((Lit.int .i64 y_y_y_f0.f0).wf = true ∧ y_y_y_f0.f1.size ≤ maxLen ∧ (Lit.int .i64 y_y_y_f0.f2).wf = true ∧ (Lit.int .i64 y_y_y_f0.f3).wf = true))))) := reads_slice Tryd.underlying22 (by kernel_rfl) rt55
abbrev LAID : List (String × DataW Unit) := Rows.fnExactShowTodoRow.laid
theorem door_met (os : Os) (args : Array Value) : laidMetH Tryd.prog LAID ((World.doorLaid Tryd.prog 400 os).forCall (fun _ _ => 0) ⟨#[], args, []⟩).memory :=
  laidMetH_of_parts3 (fuel := 8) (laidMet_of_run' 8 (by kernel_rfl) (by kernel_rfl)) (by kernel_rfl) (by kernel_rfl)
theorem hg : Tryd.prog.globalNamed "internal/strconv.uint64pow10" = some 1 := by kernel_rfl
theorem hty : (Tryd.prog.globals[1]?).map (·.type) = some 121 := by kernel_rfl
theorem tab_of_laid {W : World} (h : laidMetH Tryd.prog LAID W) : Lib.TabIs Tryd.prog W "internal/strconv.uint64pow10" .u64 Lib.pow10Tab := by
  rw [MakeChecks.laidMetH_plain _ _ _ (by kernel_rfl)] at h
  obtain ⟨ps, ⟨g0, t0, cs0, f0, p0, q0, hg0, ht0, hv0, hd0, ⟨g1, t1, cs1, f1, p1, q1, hg1, ht1, hv1, hd1, ⟨g2, t2, cs2, f2, p2, q2, hg2, ht2, hv2, hd2, _, _⟩, _⟩, _⟩, _, _⟩ := h
  obtain rfl := Option.some.inj (hg.symm.trans hg2)
  obtain rfl := Option.some.inj (hty.symm.trans ht2)
  have e : (Rows.laid_internal_strconv_uint64pow10 : DataW Unit) = Lib.tabData .u64 Lib.pow10Tab := rfl
  have hd : DataW.trod _ _ W _ _ _ _ _ _ = some ((Rows.laid_internal_strconv_uint64pow10 : DataW Unit), _) := hd2
  rw [e] at hd
  unfold Lib.TabIs
  rw [hv2, ← Lib.cells_of_tab (n := 20) (e := 112) Tryd.underlying121 Tryd.underlying112 (by kernel_rfl) (by kernel_rfl) hd]
set_option maxRecDepth 100000 in
theorem lifted (os : Os) (started : os.Started) (H : Type) (enc : TypeId × Value → H) :
    ReturnsInHanded {} Tryd.checked os 3 .any (fun w args => (Rows.fnExactShowTodoSpec.pre enc Tryd.prog Tryd.f3 [] false w args ∧ laidMetH Tryd.prog LAID w) ∧ sizedMet enc Tryd.prog Tryd.f3 (OpenSpec.ofChange Rows.fnExactShowTodoSpec) false w args) (Rows.fnExactShowTodoSpec.post enc Tryd.prog Tryd.f3 false true false false) := by
  refine returnsInHanded_of_change_and (C := Tryd.checked) (X := fun w _ => laidMetH Tryd.prog LAID w) (fun _ _ _ hh h => h.of_heap hh) own started (by kernel_rfl) Tryd.func3
    (ChangeSpec.witness_shaped (enc := enc) (C := Tryd.checked) (os := os) (X := fun w _ => laidMetH Tryd.prog LAID w) false (World.doorLaid Tryd.prog 400 os) #[.slice none 0 0] 8 rfl (World.shaped_of_RefB (by kernel_rfl) (by kernel_rfl)) (by kernel_rfl) (by kernel_rfl) (by kernel_rfl) (door_met os _)) ?_
  intro W base args ds gs before hval0 hW _ _ hL hsz0
  have hT0 := tab_of_laid hL
  have hval : ∀ (j : Nat) t v, Tryd.f3.params[j]? = some t → args[j]? = some v → Value.okWide Tryd.prog W .any base t v := hval0
  have hW' := hW
  obtain ⟨p, q, hA0, hV, rfl, hfz, hnd⟩ := hW
  have hA : DataW.TrodAll enc Tryd.prog W 0 (fun _ => true) true Tryd.f3.params.toList args.toList ds p := hA0
  rw [Tryd.params3] at hA hval
  obtain ⟨v0, vs0, d0, ds0, p0, q0, hargs, rfl, rfl, h0, r0⟩ := trodAll_cons hA
  obtain ⟨rfl, rfl, rfl⟩ := trodAll_nil r0
  obtain rfl : args = #[v0] := by cases args; simp_all
  obtain ⟨rfl, rfl⟩ := trodVars_none hV
  have k0 := h0
  have lt0 : ∀ x ∈ p0, x.block < W.heap.size := by obtain ⟨m, hm⟩ := k0; exact DataW.trod_lt m _ _ _ hm
  obtain ⟨aa0, len0, cap0, rfl⟩ := okWide_slice Tryd.underlying22 (hval 0 22 v0 rfl rfl)
  obtain ⟨fuel0, hf0⟩ := h0
  obtain ⟨y0, ⟨A0, c0, he0, hl0, hr0⟩, g0⟩ := rt22.2 _ _ _ _ _ _ _ _ _ hf0
  obtain ⟨rfl, rfl, rfl⟩ : aa0 = A0 ∧ len0 = y0.length ∧ cap0 = c0 := by simpa [Value.cells] using he0
  clear hA0 hval0 hsz0
  obtain ⟨k, h⟩ := Pure.FnExactShowTodo y0 g0
  refine (laws_FnExactShowTodo.calls k _ _ y0 true W hr0 hl0 h hT0).mono fun e W' he => ?_
  obtain ⟨rfl, hd⟩ := he
  have bel : Below W.heap.size W W' := by first | exact hd | exact hd.below
  exact ⟨_, rfl, _, _, _, [], _, [], hW', trodAll_mk1 (shut_bool Tryd.underlying4 _), (trodAll_cons_mk (Below.trod laidOut (by kernel_rfl) (of_decide_eq_true (by kernel_rfl)) k0 bel lt0) trodAll_mk0), rfl, bel.frame _, fun h => by cases h⟩
theorem over : Rows.fnExactShowTodoRow.holds Tryd.pinned (OpenSpec.ofChange Rows.fnExactShowTodoSpec) :=
  OpenClaim.holds_of_wide 3 Tryd.f3 rfl rfl rfl rfl rfl rfl rfl ⟨rfl, rfl, rfl, rfl, rfl⟩ rfl rfl rfl rfl rfl (by kernel_rfl) Tryd.func3 (by kernel_rfl)
    (of_decide_eq_true (by kernel_rfl)) (by unfold Func.isWrapper; first | (rw [if_pos (by decide +kernel)]; kernel_rfl) | (rw [if_neg (by decide +kernel)]; exact ⟨rfl, rfl⟩))
    (fun os started H enc _ => lifted os started H enc)
theorem proved : Rows.FnExactShowTodoSaid := over
end Go.Proofs.YtfpdkgfinfdgoaaDoor.fnExactShowTodo
namespace Go.Proofs.YtfpdkgfinfdgoaaDoor
/-- The tied card. -/
theorem fnExactShowTodo_holds : Rows.FnExactShowTodoCardSaid :=
  Claim7.holds_tied_plain_at .later [] [.data, .data, .data] true (true, "0a397741b9774021dc045dd63ab8dce9b4f302e2632b4d8bc3a9365eae0689ca") false
    fnExactShowTodo.proved (fun _ h => by cases h) (by kernel_rfl) (fun _ h => by cases h) fnExactShowTodo_row_tie rfl ⟨rfl, rfl⟩ (by kernel_rfl) rfl
    (fun f fn hf hfn => by
      obtain rfl : f = 3 := Option.some.inj ((show Tryd.prog.funcNamed "loop.example/g01608/laws.FnExactShowTodo" = some 3 by kernel_rfl).symm.trans hf) |>.symm
      obtain rfl : fn = Tryd.f3 := (Option.some.inj (Tryd.func3.symm.trans hfn)).symm
      exact ⟨by kernel_rfl, fun j t ht => by
        rw [Tryd.params3] at ht
        have hm : t ∈ [22] := by simpa using Array.mem_of_getElem? ht
        have hall : ([22].all fun u => !Tryd.prog.wantsStandIn u) = true := by kernel_rfl
        exact (show Tryd.prog.wantsStandIn t = false by simpa using List.all_eq_true.1 hall t hm)⟩)
    (by kernel_rfl)
#print axioms fnExactShowTodo_holds
end Go.Proofs.YtfpdkgfinfdgoaaDoor
