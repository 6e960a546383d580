/- For every log, Trace of the program answers what Trace of the reference answers, in memory of its own (logs of more than 2^20 events, rows and letters are let pass by the law itself). -/
import Derived.Test.YticfkgjcklonmaaDoorQFnExactTracex12
namespace Go.Proofs.YticfkgjcklonmaaDoor.Pure
open Go.RowKit Go.Proofs.YticfkgjcklonmaaDoor.QFnExactTrace Go.Proofs.YticfkgjcklonmaaDoorW.PrintWords Go.Proofs.YticfkgjcklonmaaDoorW.PrintLast Go.Proofs.YticfkgjcklonmaaDoorW.PrintMore
set_option linter.unusedVariables false
set_option linter.unusedSimpArgs false
def FnExactTraceOwn : Prop := ∀ (l0 : (List S48)), (l0.length ≤ maxLen ∧ ∀ y_l0 ∈ l0, ((Lit.int .i64 y_l0.f0).wf = true ∧ (Lit.int .i64 y_l0.f1).wf = true ∧ (Lit.int .i64 y_l0.f2).wf = true ∧ (Lit.int .i64 y_l0.f3).wf = true ∧ ((Lit.int .i64 y_l0.f4.f0).wf = true ∧ y_l0.f4.f1.size ≤ maxLen ∧ (Lit.int .i64 y_l0.f4.f2).wf = true ∧ (Lit.int .i64 y_l0.f4.f3).wf = true) ∧ (Lit.int .i64 y_l0.f5).wf = true ∧ (Lit.int .i64 y_l0.f6).wf = true ∧ (Lit.int .i64 y_l0.f7).wf = true ∧ (Lit.int .i64 y_l0.f8).wf = true ∧ (y_l0.f9.length ≤ maxLen ∧ ∀ y_y_l0_f9 ∈ y_l0.f9, (y_y_l0_f9.f0.size ≤ maxLen ∧ (Lit.int .i64 y_y_l0_f9.f1).wf = true ∧ (Lit.int .i64 y_y_l0_f9.f2).wf = true ∧ True ∧ (Lit.int .i64 y_y_l0_f9.f4).wf = true ∧ (Lit.int .i64 y_y_l0_f9.f5).wf = true ∧ (Lit.int .i64 y_y_l0_f9.f6).wf = true ∧ (Lit.int .i64 y_y_l0_f9.f7).wf = true ∧ (Lit.int .i64 y_y_l0_f9.f8).wf = true ∧ (Lit.int .i64 y_y_l0_f9.f9).wf = true)))) → ∃ k, laws_FnExactTrace.f k l0 = some true
theorem w64 {i : Int} (h : -9223372036854775808 ≤ i) (h2 : i ≤ 9223372036854775807) : wrap64 i = i := by
  unfold wrap64
  omega
theorem rd_at (x : List Int) (i : Nat) (h : i < x.length) : rd x (i : Int) = x[i] := by
  unfold rd
  rw [Int.toNat_natCast, List.getD_eq_getElem?_getD, List.getElem?_eq_getElem h]
  rfl
theorem succ_cast (i : Nat) : ((i : Int) + 1) = ((i + 1 : Nat) : Int) := by omega
theorem take_succ_ext {α : Type} (a b : List α) (i : Nat) (ha : i < a.length) (hb : i < b.length) (ht : a.take i = b.take i) (he : a[i] = b[i]) : a.take (i + 1) = b.take (i + 1) := by
  rw [List.take_succ_eq_append_getElem ha, List.take_succ_eq_append_getElem hb, ht, he]
def WfS45 (x : S45) : Prop := (x.f1.size ≤ 9223372036854775807)
def BdS45 (x : S45) : Prop := (x.f1.size ≤ 1048576)
theorem szOp_ev (y : S45) (hw : WfS45 y) (x : Int) (h0 : 0 ≤ x) (h1 : x ≤ 1048576) : ∃ r, Ev (fun _ => laws_szOp.f (y.f0) (y.f1) (y.f2) (y.f3) x) r ∧ -1 ≤ r ∧ r ≤ x ∧ (0 ≤ r → BdS45 y) := by
  have w1 : y.f1.size ≤ 9223372036854775807 := hw
  by_cases c : wrap64 (x - (y.f1.size : Int)) < 0
  · refine ⟨-1, Ev.congr (fun k => ?_) (Ev.now (-1)), by omega, by omega, fun h => by omega⟩
    unfold laws_szOp.f
    rw [if_pos c]
  · have e : wrap64 (x - (y.f1.size : Int)) = x - (y.f1.size : Int) := w64 (by omega) (by omega)
    rw [e] at c
    refine ⟨x - (y.f1.size : Int), Ev.congr (fun k => ?_) (Ev.now _), by omega, by omega, fun _ => (show y.f1.size ≤ 1048576 by omega)⟩
    unfold laws_szOp.f
    rw [e, if_neg c]
def WfS88 (x : S88) : Prop := (x.f0.size ≤ 9223372036854775807)
def BdS88 (x : S88) : Prop := (x.f0.size ≤ 1048576)
theorem szRow_ev (y : S88) (hw : WfS88 y) (x : Int) (h0 : 0 ≤ x) (h1 : x ≤ 1048576) : ∃ r, Ev (fun _ => laws_szRow.f (y.f0) (y.f1) (y.f2) (y.f3) (y.f4) (y.f5) (y.f6) (y.f7) (y.f8) (y.f9) x) r ∧ -1 ≤ r ∧ r ≤ x ∧ (0 ≤ r → BdS88 y) := by
  have w0 : y.f0.size ≤ 9223372036854775807 := hw
  by_cases c : wrap64 (x - (y.f0.size : Int)) < 0
  · refine ⟨-1, Ev.congr (fun k => ?_) (Ev.now (-1)), by omega, by omega, fun h => by omega⟩
    unfold laws_szRow.f
    rw [if_pos c]
  · have e : wrap64 (x - (y.f0.size : Int)) = x - (y.f0.size : Int) := w64 (by omega) (by omega)
    rw [e] at c
    refine ⟨x - (y.f0.size : Int), Ev.congr (fun k => ?_) (Ev.now _), by omega, by omega, fun _ => (show y.f0.size ≤ 1048576 by omega)⟩
    unfold laws_szRow.f
    rw [e, if_neg c]
def WfLS88 (x : (List S88)) : Prop := (x.length ≤ 9223372036854775807 ∧ ∀ y1_ ∈ x, (y1_.f0.size ≤ 9223372036854775807))
def BdLS88 (x : (List S88)) : Prop := (x.length ≤ 1048576 ∧ ∀ y1_ ∈ x, (y1_.f0.size ≤ 1048576))
theorem at_S88 (x : List S88) (i : Nat) (h : i < x.length) : rd_T88 x (i : Int) = x[i] := by
  unfold rd_T88
  rw [Int.toNat_natCast, List.getD_eq_getElem?_getD, List.getElem?_eq_getElem h]
  rfl
theorem szRowS_l0 (l : List S88) (hl : l.length ≤ 1048576) (hw : ∀ y ∈ l, WfS88 y) (d : Nat) : ∀ (x : Int) (i : Nat), i + d = l.length → 0 ≤ x → x ≤ 1048576 →
    ∃ r, Ev (fun k => laws_szRowS.l0 k l x (i : Int)) r ∧ -1 ≤ r ∧ r ≤ x ∧ (0 ≤ r → ∀ j, (hj : j < l.length) → i ≤ j → BdS88 l[j]) := by
  induction d with
  | zero =>
    intro x i hd h0 h1
    refine ⟨x, Ev.step (f := fun _ => some x) (fun k => ?_) (Ev.now _), by omega, by omega, fun _ j hj hij => by omega⟩
    simp only [laws_szRowS.l0]
    rw [if_neg (by omega)]
  | succ d ih =>
    intro x i hd h0 h1
    have hi : i < l.length := by omega
    obtain ⟨r1, e1, a1, b1, c1⟩ := szRow_ev l[i] (hw _ (List.getElem_mem hi)) x h0 h1
    by_cases hr : r1 < 0
    · refine ⟨-1, Ev.step (f := fun k => (laws_szRow.f (l[i].f0) (l[i].f1) (l[i].f2) (l[i].f3) (l[i].f4) (l[i].f5) (l[i].f6) (l[i].f7) (l[i].f8) (l[i].f9) x).bind fun t => if t < 0 then some (-1) else laws_szRowS.l0 k l t (wrap64 ((i : Int) + 1))) (fun k => ?_) (Ev.bind e1 ?_), by omega, by omega, fun h => by omega⟩
      · simp only [laws_szRowS.l0]
        rw [if_pos (by omega), if_pos (by omega), at_S88 l i hi]
      · refine Ev.congr (fun k => ?_) (Ev.now (-1))
        show (if r1 < 0 then some (-1) else _) = _
        rw [if_pos hr]
    · obtain ⟨r2, e2, a2, b2, c2⟩ := ih r1 (i + 1) (by omega) (by omega) (by omega)
      refine ⟨r2, Ev.step (f := fun k => (laws_szRow.f (l[i].f0) (l[i].f1) (l[i].f2) (l[i].f3) (l[i].f4) (l[i].f5) (l[i].f6) (l[i].f7) (l[i].f8) (l[i].f9) x).bind fun t => if t < 0 then some (-1) else laws_szRowS.l0 k l t (wrap64 ((i : Int) + 1))) (fun k => ?_) (Ev.bind e1 ?_), a2, by omega, fun h j hj hij => ?_⟩
      · simp only [laws_szRowS.l0]
        rw [if_pos (by omega), if_pos (by omega), at_S88 l i hi]
      · refine Ev.congr (fun k => ?_) e2
        show (if r1 < 0 then some (-1) else _) = _
        rw [if_neg hr, w64 (by omega) (by omega), succ_cast]
      · by_cases hij2 : j = i
        · subst hij2
          exact c1 (by omega)
        · exact c2 h j hj (by omega)
theorem szRowS_ev (l : (List S88)) (hw : WfLS88 l) (x : Int) (h0 : 0 ≤ x) (h1 : x ≤ 1048576) : ∃ r, Ev (fun k => laws_szRowS.f k l x) r ∧ -1 ≤ r ∧ r ≤ x ∧ (0 ≤ r → BdLS88 l) := by
  obtain ⟨hl, hw⟩ := hw
  by_cases c : wrap64 (x - (l.length : Int)) < 0
  · refine ⟨-1, Ev.congr (fun k => ?_) (Ev.now (-1)), by omega, by omega, fun h => by omega⟩
    unfold laws_szRowS.f
    rw [if_pos c]
  · have e : wrap64 (x - (l.length : Int)) = x - (l.length : Int) := w64 (by omega) (by omega)
    rw [e] at c
    obtain ⟨r, e1, a1, b1, c1⟩ := szRowS_l0 l (by omega) hw l.length (x - (l.length : Int)) 0 (by omega) (by omega) (by omega)
    refine ⟨r, Ev.congr (fun k => ?_) e1, a1, by omega, fun h => ⟨by omega, fun y hy => ?_⟩⟩
    · unfold laws_szRowS.f
      rw [e, if_neg c]
      rfl
    · obtain ⟨j, hj, rfl⟩ := List.mem_iff_getElem.mp hy
      exact c1 h j hj (Nat.zero_le _)
def WfS48 (x : S48) : Prop := ((x.f4.f1.size ≤ 9223372036854775807) ∧ (x.f9.length ≤ 9223372036854775807 ∧ ∀ y4_ ∈ x.f9, (y4_.f0.size ≤ 9223372036854775807)))
def BdS48 (x : S48) : Prop := ((x.f4.f1.size ≤ 1048576) ∧ (x.f9.length ≤ 1048576 ∧ ∀ y4_ ∈ x.f9, (y4_.f0.size ≤ 1048576)))
theorem szEv_ev (y : S48) (hw : WfS48 y) (x : Int) (h0 : 0 ≤ x) (h1 : x ≤ 1048576) : ∃ r, Ev (fun k => laws_szEv.f k (y.f0) (y.f1) (y.f2) (y.f3) (y.f4.f0) (y.f4.f1) (y.f4.f2) (y.f4.f3) (y.f5) (y.f6) (y.f7) (y.f8) (y.f9) x) r ∧ -1 ≤ r ∧ r ≤ x ∧ (0 ≤ r → BdS48 y) := by
  obtain ⟨w4, w9⟩ := hw
  obtain ⟨r0, e0, a0, b0, c0⟩ := szOp_ev y.f4 w4 x (by omega) (by omega)
  by_cases hr0 : r0 < 0
  · refine ⟨-1, ?_, by omega, by omega, fun h => by omega⟩
    unfold laws_szEv.f
    refine Ev.bind e0 ?_
    exact Ev.congr (fun k => if_pos hr0) (Ev.now (-1))
  · skip
    obtain ⟨r1, e1, a1, b1, c1⟩ := szRowS_ev y.f9 w9 r0 (by omega) (by omega)
    by_cases hr1 : r1 < 0
    · refine ⟨-1, ?_, by omega, by omega, fun h => by omega⟩
      unfold laws_szEv.f
      refine Ev.bind e0 ?_
      refine Ev.congr (f := fun k => ((laws_szRowS.f k y.f9 r0).bind fun t1 => (if t1 < 0 then (some (-1)) else (some t1)))) (fun k => if_neg hr0) ?_
      refine Ev.bind e1 ?_
      exact Ev.congr (fun k => if_pos hr1) (Ev.now (-1))
    · skip
      refine ⟨r1, ?_, by omega, by omega, fun h => ⟨c0 (by omega), c1 (by omega)⟩⟩
      unfold laws_szEv.f
      refine Ev.bind e0 ?_
      refine Ev.congr (f := fun k => ((laws_szRowS.f k y.f9 r0).bind fun t1 => (if t1 < 0 then (some (-1)) else (some t1)))) (fun k => if_neg hr0) ?_
      refine Ev.bind e1 ?_
      refine Ev.congr (f := fun k => (some r1)) (fun k => if_neg hr1) ?_
      exact Ev.now _
def WfLS48 (x : (List S48)) : Prop := (x.length ≤ 9223372036854775807 ∧ ∀ y1_ ∈ x, ((y1_.f4.f1.size ≤ 9223372036854775807) ∧ (y1_.f9.length ≤ 9223372036854775807 ∧ ∀ y6_ ∈ y1_.f9, (y6_.f0.size ≤ 9223372036854775807))))
def BdLS48 (x : (List S48)) : Prop := (x.length ≤ 1048576 ∧ ∀ y1_ ∈ x, ((y1_.f4.f1.size ≤ 1048576) ∧ (y1_.f9.length ≤ 1048576 ∧ ∀ y6_ ∈ y1_.f9, (y6_.f0.size ≤ 1048576))))
theorem at_S48 (x : List S48) (i : Nat) (h : i < x.length) : rd_T48 x (i : Int) = x[i] := by
  unfold rd_T48
  rw [Int.toNat_natCast, List.getD_eq_getElem?_getD, List.getElem?_eq_getElem h]
  rfl
theorem szEvS_l0 (l : List S48) (hl : l.length ≤ 1048576) (hw : ∀ y ∈ l, WfS48 y) (d : Nat) : ∀ (x : Int) (i : Nat), i + d = l.length → 0 ≤ x → x ≤ 1048576 →
    ∃ r, Ev (fun k => laws_szEvS.l0 k l x (i : Int)) r ∧ -1 ≤ r ∧ r ≤ x ∧ (0 ≤ r → ∀ j, (hj : j < l.length) → i ≤ j → BdS48 l[j]) := by
  induction d with
  | zero =>
    intro x i hd h0 h1
    refine ⟨x, Ev.step (f := fun _ => some x) (fun k => ?_) (Ev.now _), by omega, by omega, fun _ j hj hij => by omega⟩
    simp only [laws_szEvS.l0]
    rw [if_neg (by omega)]
  | succ d ih =>
    intro x i hd h0 h1
    have hi : i < l.length := by omega
    obtain ⟨r1, e1, a1, b1, c1⟩ := szEv_ev l[i] (hw _ (List.getElem_mem hi)) x h0 h1
    by_cases hr : r1 < 0
    · refine ⟨-1, Ev.step (f := fun k => (laws_szEv.f k (l[i].f0) (l[i].f1) (l[i].f2) (l[i].f3) (l[i].f4.f0) (l[i].f4.f1) (l[i].f4.f2) (l[i].f4.f3) (l[i].f5) (l[i].f6) (l[i].f7) (l[i].f8) (l[i].f9) x).bind fun t => if t < 0 then some (-1) else laws_szEvS.l0 k l t (wrap64 ((i : Int) + 1))) (fun k => ?_) (Ev.bind e1 ?_), by omega, by omega, fun h => by omega⟩
      · simp only [laws_szEvS.l0]
        rw [if_pos (by omega), if_pos (by omega), at_S48 l i hi]
      · refine Ev.congr (fun k => ?_) (Ev.now (-1))
        show (if r1 < 0 then some (-1) else _) = _
        rw [if_pos hr]
    · obtain ⟨r2, e2, a2, b2, c2⟩ := ih r1 (i + 1) (by omega) (by omega) (by omega)
      refine ⟨r2, Ev.step (f := fun k => (laws_szEv.f k (l[i].f0) (l[i].f1) (l[i].f2) (l[i].f3) (l[i].f4.f0) (l[i].f4.f1) (l[i].f4.f2) (l[i].f4.f3) (l[i].f5) (l[i].f6) (l[i].f7) (l[i].f8) (l[i].f9) x).bind fun t => if t < 0 then some (-1) else laws_szEvS.l0 k l t (wrap64 ((i : Int) + 1))) (fun k => ?_) (Ev.bind e1 ?_), a2, by omega, fun h j hj hij => ?_⟩
      · simp only [laws_szEvS.l0]
        rw [if_pos (by omega), if_pos (by omega), at_S48 l i hi]
      · refine Ev.congr (fun k => ?_) e2
        show (if r1 < 0 then some (-1) else _) = _
        rw [if_neg hr, w64 (by omega) (by omega), succ_cast]
      · by_cases hij2 : j = i
        · subst hij2
          exact c1 (by omega)
        · exact c2 h j hj (by omega)
theorem szEvS_ev (l : (List S48)) (hw : WfLS48 l) (x : Int) (h0 : 0 ≤ x) (h1 : x ≤ 1048576) : ∃ r, Ev (fun k => laws_szEvS.f k l x) r ∧ -1 ≤ r ∧ r ≤ x ∧ (0 ≤ r → BdLS48 l) := by
  obtain ⟨hl, hw⟩ := hw
  by_cases c : wrap64 (x - (l.length : Int)) < 0
  · refine ⟨-1, Ev.congr (fun k => ?_) (Ev.now (-1)), by omega, by omega, fun h => by omega⟩
    unfold laws_szEvS.f
    rw [if_pos c]
  · have e : wrap64 (x - (l.length : Int)) = x - (l.length : Int) := w64 (by omega) (by omega)
    rw [e] at c
    obtain ⟨r, e1, a1, b1, c1⟩ := szEvS_l0 l (by omega) hw l.length (x - (l.length : Int)) 0 (by omega) (by omega) (by omega)
    refine ⟨r, Ev.congr (fun k => ?_) e1, a1, by omega, fun h => ⟨by omega, fun y hy => ?_⟩⟩
    · unfold laws_szEvS.f
      rw [e, if_neg c]
      rfl
    · obtain ⟨j, hj, rfl⟩ := List.mem_iff_getElem.mp hy
      exact c1 h j hj (Nat.zero_le _)
def WfStr (x : ByteArray) : Prop := x.size ≤ 9223372036854775807
def BdStr (x : ByteArray) : Prop := x.size ≤ 1048576
theorem gwStr (x : ByteArray) (h : x.size ≤ maxLen) : WfStr x := by
  unfold WfStr
  unfold maxLen at h
  omega
theorem gwS45 (x : S45) (h : ((Lit.int .i64 x.f0).wf = true ∧ x.f1.size ≤ maxLen ∧ (Lit.int .i64 x.f2).wf = true ∧ (Lit.int .i64 x.f3).wf = true)) : WfS45 x := by
  obtain ⟨g0, g1, g2, g3⟩ := h
  exact gwStr x.f1 g1
theorem gwS88 (x : S88) (h : (x.f0.size ≤ maxLen ∧ (Lit.int .i64 x.f1).wf = true ∧ (Lit.int .i64 x.f2).wf = true ∧ True ∧ (Lit.int .i64 x.f4).wf = true ∧ (Lit.int .i64 x.f5).wf = true ∧ (Lit.int .i64 x.f6).wf = true ∧ (Lit.int .i64 x.f7).wf = true ∧ (Lit.int .i64 x.f8).wf = true ∧ (Lit.int .i64 x.f9).wf = true)) : WfS88 x := by
  obtain ⟨g0, g1, g2, g3, g4, g5, g6, g7, g8, g9⟩ := h
  exact gwStr x.f0 g0
theorem gwLS88 (x : (List S88)) (h : (x.length ≤ maxLen ∧ ∀ y_x ∈ x, (y_x.f0.size ≤ maxLen ∧ (Lit.int .i64 y_x.f1).wf = true ∧ (Lit.int .i64 y_x.f2).wf = true ∧ True ∧ (Lit.int .i64 y_x.f4).wf = true ∧ (Lit.int .i64 y_x.f5).wf = true ∧ (Lit.int .i64 y_x.f6).wf = true ∧ (Lit.int .i64 y_x.f7).wf = true ∧ (Lit.int .i64 y_x.f8).wf = true ∧ (Lit.int .i64 y_x.f9).wf = true))) : WfLS88 x := ⟨by have := h.1; unfold maxLen at this; omega, fun y hy => gwS88 y (h.2 y hy)⟩
theorem gwS48 (x : S48) (h : ((Lit.int .i64 x.f0).wf = true ∧ (Lit.int .i64 x.f1).wf = true ∧ (Lit.int .i64 x.f2).wf = true ∧ (Lit.int .i64 x.f3).wf = true ∧ ((Lit.int .i64 x.f4.f0).wf = true ∧ x.f4.f1.size ≤ maxLen ∧ (Lit.int .i64 x.f4.f2).wf = true ∧ (Lit.int .i64 x.f4.f3).wf = true) ∧ (Lit.int .i64 x.f5).wf = true ∧ (Lit.int .i64 x.f6).wf = true ∧ (Lit.int .i64 x.f7).wf = true ∧ (Lit.int .i64 x.f8).wf = true ∧ (x.f9.length ≤ maxLen ∧ ∀ y_x_f9 ∈ x.f9, (y_x_f9.f0.size ≤ maxLen ∧ (Lit.int .i64 y_x_f9.f1).wf = true ∧ (Lit.int .i64 y_x_f9.f2).wf = true ∧ True ∧ (Lit.int .i64 y_x_f9.f4).wf = true ∧ (Lit.int .i64 y_x_f9.f5).wf = true ∧ (Lit.int .i64 y_x_f9.f6).wf = true ∧ (Lit.int .i64 y_x_f9.f7).wf = true ∧ (Lit.int .i64 y_x_f9.f8).wf = true ∧ (Lit.int .i64 y_x_f9.f9).wf = true)))) : WfS48 x := by
  obtain ⟨g0, g1, g2, g3, g4, g5, g6, g7, g8, g9⟩ := h
  exact ⟨gwS45 x.f4 g4, gwLS88 x.f9 g9⟩
theorem gwLS48 (x : (List S48)) (h : (x.length ≤ maxLen ∧ ∀ y_x ∈ x, ((Lit.int .i64 y_x.f0).wf = true ∧ (Lit.int .i64 y_x.f1).wf = true ∧ (Lit.int .i64 y_x.f2).wf = true ∧ (Lit.int .i64 y_x.f3).wf = true ∧ ((Lit.int .i64 y_x.f4.f0).wf = true ∧ y_x.f4.f1.size ≤ maxLen ∧ (Lit.int .i64 y_x.f4.f2).wf = true ∧ (Lit.int .i64 y_x.f4.f3).wf = true) ∧ (Lit.int .i64 y_x.f5).wf = true ∧ (Lit.int .i64 y_x.f6).wf = true ∧ (Lit.int .i64 y_x.f7).wf = true ∧ (Lit.int .i64 y_x.f8).wf = true ∧ (y_x.f9.length ≤ maxLen ∧ ∀ y_y_x_f9 ∈ y_x.f9, (y_y_x_f9.f0.size ≤ maxLen ∧ (Lit.int .i64 y_y_x_f9.f1).wf = true ∧ (Lit.int .i64 y_y_x_f9.f2).wf = true ∧ True ∧ (Lit.int .i64 y_y_x_f9.f4).wf = true ∧ (Lit.int .i64 y_y_x_f9.f5).wf = true ∧ (Lit.int .i64 y_y_x_f9.f6).wf = true ∧ (Lit.int .i64 y_y_x_f9.f7).wf = true ∧ (Lit.int .i64 y_y_x_f9.f8).wf = true ∧ (Lit.int .i64 y_y_x_f9.f9).wf = true))))) : WfLS48 x := ⟨by have := h.1; unfold maxLen at this; omega, fun y hy => gwS48 y (h.2 y hy)⟩
def toOpV (x : S45) : S34 := ⟨x.f0, x.f1, x.f2, x.f3⟩
def toRowV (x : S88) : S75 := ⟨x.f0, x.f1, x.f2, x.f3, x.f4, x.f5, x.f6, x.f7, x.f8, x.f9⟩
def toRowSV (l : (List S88)) : (List S75) := l.map toRowV
def toEvV (x : S48) : S52 := ⟨x.f0, x.f1, x.f2, x.f3, toOpV x.f4, x.f5, x.f6, x.f7, x.f8, toRowSV x.f9⟩
def toEvSV (l : (List S48)) : (List S52) := l.map toEvV
theorem toOp_ev (y : S45) (hb : BdS45 y) : Ev (fun _ => laws_toOp.f (y.f0) (y.f1) (y.f2) (y.f3)) ((toOpV y).f0, (toOpV y).f1, (toOpV y).f2, (toOpV y).f3) := by
  exact Ev.congr (fun k => rfl) (Ev.now _)
theorem toRow_ev (y : S88) (hb : BdS88 y) : Ev (fun _ => laws_toRow.f (y.f0) (y.f1) (y.f2) (y.f3) (y.f4) (y.f5) (y.f6) (y.f7) (y.f8) (y.f9)) ((toRowV y).f0, (toRowV y).f1, (toRowV y).f2, (toRowV y).f3, (toRowV y).f4, (toRowV y).f5, (toRowV y).f6, (toRowV y).f7, (toRowV y).f8, (toRowV y).f9) := by
  exact Ev.congr (fun k => rfl) (Ev.now _)
theorem toRowS_l0 (l : (List S88)) (hl : l.length ≤ 1048576) (hb : ∀ y ∈ l, BdS88 y) (d : Nat) : ∀ (out : (List S75)) (i : Nat), i + d = l.length → out.length = l.length → out.take i = (toRowSV l).take i → Ev (fun k => laws_toRowS.l0 k l out (i : Int)) (toRowSV l) := by
  have hlen : (toRowSV l).length = l.length := by simp [toRowSV]
  induction d with
  | zero =>
    intro out i hd ho ht
    refine Ev.step (f := fun _ => some (toRowSV l)) (fun k => ?_) (Ev.now _)
    simp only [laws_toRowS.l0]
    rw [if_neg (by omega)]
    have h1 : out.take i = out := List.take_of_length_le (by omega)
    have h2 : (toRowSV l).take i = toRowSV l := List.take_of_length_le (by omega)
    rw [← h1, ht, h2]
  | succ d ih =>
    intro out i hd ho ht
    have hi : i < l.length := by omega
    refine Ev.step (f := fun k => (laws_toRow.f (l[i].f0) (l[i].f1) (l[i].f2) (l[i].f3) (l[i].f4) (l[i].f5) (l[i].f6) (l[i].f7) (l[i].f8) (l[i].f9)).bind fun b => if (i : Int) < (out.length : Int) then laws_toRowS.l0 k l (out.set i (⟨b.1, b.2.1, b.2.2.1, b.2.2.2.1, b.2.2.2.2.1, b.2.2.2.2.2.1, b.2.2.2.2.2.2.1, b.2.2.2.2.2.2.2.1, b.2.2.2.2.2.2.2.2.1, b.2.2.2.2.2.2.2.2.2⟩ : S75)) (wrap64 ((i : Int) + 1)) else none) (fun k => ?_) (Ev.bind (toRow_ev l[i] (hb _ (List.getElem_mem hi))) ?_)
    · simp only [laws_toRowS.l0]
      rw [if_pos (by omega), if_pos (by omega), at_S88 l i hi, Int.toNat_natCast]
    · refine Ev.congr (fun k => ?_) (ih (out.set i (toRowV l[i])) (i + 1) (by omega) (by rw [List.length_set]; exact ho) ?_)
      · show (if (i : Int) < (out.length : Int) then _ else none) = _
        rw [if_pos (by omega), w64 (by omega) (by omega), succ_cast]
        try rfl
      · refine take_succ_ext _ _ i (by rw [List.length_set]; omega) (by omega) ?_ (by simp [toRowSV])
        rw [List.take_set_of_le (Nat.le_refl _)]
        exact ht
theorem toRowS_ev (l : (List S88)) (hb : BdLS88 l) : Ev (fun k => laws_toRowS.f k l) (toRowSV l) := by
  have hl : l.length ≤ 1048576 := hb.1
  refine Ev.congr (fun k => ?_) (toRowS_l0 l hl hb.2 l.length (List.replicate l.length z75) 0 (by omega) (by simp) (by simp))
  unfold laws_toRowS.f
  rw [if_pos (by omega), if_pos (by omega), Int.toNat_natCast]
  rfl
theorem toEv_ev (y : S48) (hb : BdS48 y) : Ev (fun k => laws_toEv.f k (y.f0) (y.f1) (y.f2) (y.f3) (y.f4.f0) (y.f4.f1) (y.f4.f2) (y.f4.f3) (y.f5) (y.f6) (y.f7) (y.f8) (y.f9)) ((toEvV y).f0, (toEvV y).f1, (toEvV y).f2, (toEvV y).f3, (toEvV y).f4.f0, (toEvV y).f4.f1, (toEvV y).f4.f2, (toEvV y).f4.f3, (toEvV y).f5, (toEvV y).f6, (toEvV y).f7, (toEvV y).f8, (toEvV y).f9) := by
  obtain ⟨w4, w9⟩ := hb
  unfold laws_toEv.f
  refine Ev.bind (toOp_ev y.f4 w4) ?_
  refine Ev.bind (toRowS_ev y.f9 w9) ?_
  exact Ev.now _
theorem toEvS_l0 (l : (List S48)) (hl : l.length ≤ 1048576) (hb : ∀ y ∈ l, BdS48 y) (d : Nat) : ∀ (out : (List S52)) (i : Nat), i + d = l.length → out.length = l.length → out.take i = (toEvSV l).take i → Ev (fun k => laws_toEvS.l0 k l out (i : Int)) (toEvSV l) := by
  have hlen : (toEvSV l).length = l.length := by simp [toEvSV]
  induction d with
  | zero =>
    intro out i hd ho ht
    refine Ev.step (f := fun _ => some (toEvSV l)) (fun k => ?_) (Ev.now _)
    simp only [laws_toEvS.l0]
    rw [if_neg (by omega)]
    have h1 : out.take i = out := List.take_of_length_le (by omega)
    have h2 : (toEvSV l).take i = toEvSV l := List.take_of_length_le (by omega)
    rw [← h1, ht, h2]
  | succ d ih =>
    intro out i hd ho ht
    have hi : i < l.length := by omega
    refine Ev.step (f := fun k => (laws_toEv.f k (l[i].f0) (l[i].f1) (l[i].f2) (l[i].f3) (l[i].f4.f0) (l[i].f4.f1) (l[i].f4.f2) (l[i].f4.f3) (l[i].f5) (l[i].f6) (l[i].f7) (l[i].f8) (l[i].f9)).bind fun b => if (i : Int) < (out.length : Int) then laws_toEvS.l0 k l (out.set i (⟨b.1, b.2.1, b.2.2.1, b.2.2.2.1, (⟨b.2.2.2.2.1, b.2.2.2.2.2.1, b.2.2.2.2.2.2.1, b.2.2.2.2.2.2.2.1⟩ : S34), b.2.2.2.2.2.2.2.2.1, b.2.2.2.2.2.2.2.2.2.1, b.2.2.2.2.2.2.2.2.2.2.1, b.2.2.2.2.2.2.2.2.2.2.2.1, b.2.2.2.2.2.2.2.2.2.2.2.2⟩ : S52)) (wrap64 ((i : Int) + 1)) else none) (fun k => ?_) (Ev.bind (toEv_ev l[i] (hb _ (List.getElem_mem hi))) ?_)
    · simp only [laws_toEvS.l0]
      rw [if_pos (by omega), if_pos (by omega), at_S48 l i hi, Int.toNat_natCast]
    · refine Ev.congr (fun k => ?_) (ih (out.set i (toEvV l[i])) (i + 1) (by omega) (by rw [List.length_set]; exact ho) ?_)
      · show (if (i : Int) < (out.length : Int) then _ else none) = _
        rw [if_pos (by omega), w64 (by omega) (by omega), succ_cast]
        try rfl
      · refine take_succ_ext _ _ i (by rw [List.length_set]; omega) (by omega) ?_ (by simp [toEvSV])
        rw [List.take_set_of_le (Nat.le_refl _)]
        exact ht
theorem toEvS_ev (l : (List S48)) (hb : BdLS48 l) : Ev (fun k => laws_toEvS.f k l) (toEvSV l) := by
  have hl : l.length ≤ 1048576 := hb.1
  refine Ev.congr (fun k => ?_) (toEvS_l0 l hl hb.2 l.length (List.replicate l.length z52) 0 (by omega) (by simp) (by simp))
  unfold laws_toEvS.f
  rw [if_pos (by omega), if_pos (by omega), Int.toNat_natCast]
  rfl
theorem eqOp_ev (y : S34) : Ev (fun _ => laws_eqOp.f (y.f0) (y.f1) (y.f2) (y.f3) (y.f0) (y.f1) (y.f2) (y.f3)) true := by
  refine ⟨0, fun k hk => ?_⟩
  unfold laws_eqOp.f
  simp only [if_true, bne_self_eq_false, Option.bind_some, Bool.false_eq_true, if_false]
theorem eqRow_ev (y : S75) : Ev (fun _ => laws_eqRow.f (y.f0) (y.f1) (y.f2) (y.f3) (y.f4) (y.f5) (y.f6) (y.f7) (y.f8) (y.f9) (y.f0) (y.f1) (y.f2) (y.f3) (y.f4) (y.f5) (y.f6) (y.f7) (y.f8) (y.f9)) true := by
  refine ⟨0, fun k hk => ?_⟩
  unfold laws_eqRow.f
  simp only [if_true, bne_self_eq_false, Option.bind_some, Bool.false_eq_true, if_false]
theorem at_S75 (x : List S75) (i : Nat) (h : i < x.length) : rd_T75 x (i : Int) = x[i] := by
  unfold rd_T75
  rw [Int.toNat_natCast, List.getD_eq_getElem?_getD, List.getElem?_eq_getElem h]
  rfl
theorem eqRowS_l0 (l : (List S75)) (hl : l.length ≤ 4611686018427387904) (d : Nat) : ∀ (i : Nat), i + d = l.length → Ev (fun k => laws_eqRowS.l0 k l l (i : Int)) true := by
  induction d with
  | zero =>
    intro i hd
    refine Ev.step (f := fun _ => some true) (fun k => ?_) (Ev.now _)
    simp only [laws_eqRowS.l0]
    rw [if_neg (by omega)]
  | succ d ih =>
    intro i hd
    have hi : i < l.length := by omega
    refine Ev.step (f := fun k => (laws_eqRow.f (l[i].f0) (l[i].f1) (l[i].f2) (l[i].f3) (l[i].f4) (l[i].f5) (l[i].f6) (l[i].f7) (l[i].f8) (l[i].f9) (l[i].f0) (l[i].f1) (l[i].f2) (l[i].f3) (l[i].f4) (l[i].f5) (l[i].f6) (l[i].f7) (l[i].f8) (l[i].f9)).bind fun b => if b = true then laws_eqRowS.l0 k l l (wrap64 ((i : Int) + 1)) else some false) (fun k => ?_) (Ev.bind (eqRow_ev l[i]) (Ev.congr (fun k => ?_) (ih (i + 1) (by omega))))
    · simp only [laws_eqRowS.l0]
      rw [if_pos (by omega), if_pos (by omega), if_pos (by omega), at_S75 l i hi]
    · show (if true = true then _ else some false) = _
      rw [if_pos rfl, w64 (by omega) (by omega), succ_cast]
theorem eqRowS_ev (l : (List S75)) (hw : (l.length ≤ 4611686018427387904)) : Ev (fun k => laws_eqRowS.f k l l) true := by
  refine Ev.congr (fun k => ?_) (eqRowS_l0 l hw l.length 0 (by omega))
  unfold laws_eqRowS.f
  rw [if_pos rfl]
  rfl
theorem eqEv_ev (y : S52) (hw : ((y.f9.length ≤ 4611686018427387904))) : Ev (fun k => laws_eqEv.f k (y.f0) (y.f1) (y.f2) (y.f3) (y.f4.f0) (y.f4.f1) (y.f4.f2) (y.f4.f3) (y.f5) (y.f6) (y.f7) (y.f8) (y.f9) (y.f0) (y.f1) (y.f2) (y.f3) (y.f4.f0) (y.f4.f1) (y.f4.f2) (y.f4.f3) (y.f5) (y.f6) (y.f7) (y.f8) (y.f9)) true := by
  have w9 := hw
  obtain ⟨K4, e4⟩ := eqOp_ev y.f4
  obtain ⟨K9, e9⟩ := eqRowS_ev y.f9 w9
  refine ⟨K4 + K9, fun k hk => ?_⟩
  have q4 := e4 k (by omega)
  have q9 := e9 k (by omega)
  simp only at q4 q9
  unfold laws_eqEv.f
  simp only [q4, q9, if_true, bne_self_eq_false, Option.bind_some, Bool.false_eq_true, if_false]
theorem at_S52 (x : List S52) (i : Nat) (h : i < x.length) : rd_T52 x (i : Int) = x[i] := by
  unfold rd_T52
  rw [Int.toNat_natCast, List.getD_eq_getElem?_getD, List.getElem?_eq_getElem h]
  rfl
theorem eqEvS_l0 (l : (List S52)) (hl : l.length ≤ 4611686018427387904) (hw : ∀ y ∈ l, ((y.f9.length ≤ 4611686018427387904))) (d : Nat) : ∀ (i : Nat), i + d = l.length → Ev (fun k => laws_eqEvS.l0 k l l (i : Int)) true := by
  induction d with
  | zero =>
    intro i hd
    refine Ev.step (f := fun _ => some true) (fun k => ?_) (Ev.now _)
    simp only [laws_eqEvS.l0]
    rw [if_neg (by omega)]
  | succ d ih =>
    intro i hd
    have hi : i < l.length := by omega
    refine Ev.step (f := fun k => (laws_eqEv.f k (l[i].f0) (l[i].f1) (l[i].f2) (l[i].f3) (l[i].f4.f0) (l[i].f4.f1) (l[i].f4.f2) (l[i].f4.f3) (l[i].f5) (l[i].f6) (l[i].f7) (l[i].f8) (l[i].f9) (l[i].f0) (l[i].f1) (l[i].f2) (l[i].f3) (l[i].f4.f0) (l[i].f4.f1) (l[i].f4.f2) (l[i].f4.f3) (l[i].f5) (l[i].f6) (l[i].f7) (l[i].f8) (l[i].f9)).bind fun b => if b = true then laws_eqEvS.l0 k l l (wrap64 ((i : Int) + 1)) else some false) (fun k => ?_) (Ev.bind (eqEv_ev l[i] (hw _ (List.getElem_mem hi))) (Ev.congr (fun k => ?_) (ih (i + 1) (by omega))))
    · simp only [laws_eqEvS.l0]
      rw [if_pos (by omega), if_pos (by omega), if_pos (by omega), at_S52 l i hi]
    · show (if true = true then _ else some false) = _
      rw [if_pos rfl, w64 (by omega) (by omega), succ_cast]
theorem eqEvS_ev (l : (List S52)) (hw : (l.length ≤ 4611686018427387904 ∧ ∀ y1_ ∈ l, ((y1_.f9.length ≤ 4611686018427387904)))) : Ev (fun k => laws_eqEvS.f k l l) true := by
  refine Ev.congr (fun k => ?_) (eqEvS_l0 l hw.1 hw.2 l.length 0 (by omega))
  unfold laws_eqEvS.f
  rw [if_pos rfl]
  rfl
theorem toRowS_wl (l : (List S88)) (hb : BdLS88 l) : ((toRowSV l).length ≤ 4611686018427387904) := by
  have := hb.1
  simp [toRowSV]
  omega
theorem toEv_wl (y : S48) (hb : BdS48 y) : (((toEvV y).f9.length ≤ 4611686018427387904)) := by
  obtain ⟨w4, w9⟩ := hb
  exact toRowS_wl y.f9 w9
theorem toEvS_wl (l : (List S48)) (hb : BdLS48 l) : ((toEvSV l).length ≤ 4611686018427387904 ∧ ∀ y10_ ∈ (toEvSV l), ((y10_.f9.length ≤ 4611686018427387904))) := by
  refine ⟨by have := hb.1; simp [toEvSV]; omega, fun y hy => ?_⟩
  obtain ⟨x, hx, rfl⟩ := List.mem_map.mp hy
  exact toEv_wl x (hb.2 x hx)
theorem l1In_f (x a b : Int) : spec_l1In.f x a b = some (decide (a ≤ x) && decide (x ≤ b)) := by
  unfold spec_l1In.f
  by_cases h : x ≥ a
  · rw [if_pos h]
    have h2 : a ≤ x := h
    simp [h2]
  · rw [if_neg h]
    have h2 : ¬ a ≤ x := h
    simp [h2]
theorem within_f (x a b : Int) : impl_within.f x a b = some (decide (a ≤ x) && decide (x ≤ b)) := by
  unfold impl_within.f
  by_cases h : a ≤ x <;> simp [h]
def kb (c : Int) : Bool := (decide (97 ≤ c) && decide (c ≤ 122)) || ((decide (65 ≤ c) && decide (c ≤ 90)) || ((decide (48 ≤ c) && decide (c ≤ 57)) || decide (c = 95)))
def keyOkFrom (s : ByteArray) : Nat → Nat → Bool
  | 0, _ => decide (1 ≤ s.size) && decide (s.size ≤ 4)
  | d + 1, i => kb (bt s (i : Int)) && keyOkFrom s d (i + 1)
def keyOkB (s : ByteArray) : Bool := keyOkFrom s s.size 0
theorem l4Byte_f (c : Int) : spec_l4Byte.f c = some (kb c) := by
  unfold spec_l4Byte.f spec_l1In.f kb
  by_cases h1 : c ≥ 97 <;> by_cases h2 : c ≤ 122 <;> by_cases h3 : c ≥ 65 <;> by_cases h4 : c ≤ 90 <;> by_cases h5 : c ≥ 48 <;> by_cases h6 : c ≤ 57 <;> by_cases h7 : c = 95 <;> simp [h1, h2, h3, h4, h5, h6, h7] <;> first | omega | (split <;> simp_all <;> omega)
theorem specKeyOk_l0 (s : ByteArray) (hn : s.size ≤ 9223372036854775806) (d : Nat) : ∀ (k i : Nat), i + d = s.size → d < k → spec_KeyOk.l0 k s (i : Int) = some (keyOkFrom s d i) := by
  induction d with
  | zero =>
    intro k i hd hk
    obtain ⟨k, rfl⟩ : ∃ m, k = m + 1 := ⟨k - 1, by omega⟩
    simp only [spec_KeyOk.l0, keyOkFrom]
    rw [if_neg (by omega)]
    unfold spec_l1In.f
    by_cases h : (s.size : Int) ≥ 1
    · rw [if_pos h]
      have h2 : 1 ≤ s.size := by omega
      simp only [Option.bind_some, h2, decide_true, Bool.true_and]
      congr 1
      rw [decide_eq_decide]
      omega
    · rw [if_neg h]
      have h2 : ¬ 1 ≤ s.size := by omega
      simp only [Option.bind_some, h2, decide_false, Bool.false_and]
  | succ d ih =>
    intro k i hd hk
    obtain ⟨k, rfl⟩ : ∃ m, k = m + 1 := ⟨k - 1, by omega⟩
    have hb := bt_range s (i : Int)
    simp only [spec_KeyOk.l0, keyOkFrom]
    rw [if_pos (by omega), if_pos (by omega), w64 (i := bt s (i : Int)) (by omega) (by omega), w64 (by omega) (by omega), succ_cast, l4Byte_f, Option.bind_some, ih k (i + 1) (by omega) (by omega)]
    cases kb (bt s (i : Int)) <;> simp
theorem implKeyOk_l0 (s : ByteArray) (hn : s.size ≤ 9223372036854775806) (d : Nat) : ∀ (k i : Nat), i + d = s.size → d < k → impl_KeyOk.l0 k s (s.size : Int) (i : Int) = some (keyOkFrom s d i) := by
  induction d with
  | zero =>
    intro k i hd hk
    obtain ⟨k, rfl⟩ : ∃ m, k = m + 1 := ⟨k - 1, by omega⟩
    simp only [impl_KeyOk.l0, keyOkFrom]
    rw [if_neg (by omega)]
    unfold impl_within.f
    by_cases h : 1 ≤ (s.size : Int)
    · rw [if_pos h]
      have h2 : 1 ≤ s.size := by omega
      simp only [Option.bind_some, h2, decide_true, Bool.true_and]
      congr 1
      rw [decide_eq_decide]
      omega
    · rw [if_neg h]
      have h2 : ¬ 1 ≤ s.size := by omega
      simp only [Option.bind_some, h2, decide_false, Bool.false_and]
  | succ d ih =>
    intro k i hd hk
    obtain ⟨k, rfl⟩ : ∃ m, k = m + 1 := ⟨k - 1, by omega⟩
    simp only [impl_KeyOk.l0, keyOkFrom]
    rw [if_pos (by omega), if_pos (by omega), if_pos (by omega), w64 (by omega) (by omega), succ_cast, ih k (i + 1) (by omega) (by omega)]
    generalize bt s (i : Int) = c
    cases h : kb c
    · unfold kb at h
      simp only [Bool.or_eq_false_iff, Bool.and_eq_false_iff, decide_eq_false_iff_not] at h
      rw [Bool.false_and]
      repeat' split
      all_goals first | rfl | omega
    · unfold kb at h
      simp only [Bool.or_eq_true, Bool.and_eq_true, decide_eq_true_eq] at h
      rw [Bool.true_and]
      repeat' split
      all_goals first | rfl | omega
theorem specKeyOk_f (s : ByteArray) (hn : s.size ≤ 9223372036854775806) (k : Nat) (hk : s.size < k) : spec_KeyOk.f k s = some (keyOkB s) := specKeyOk_l0 s hn s.size k 0 (by omega) hk
theorem implKeyOk_f (s : ByteArray) (hn : s.size ≤ 9223372036854775806) (k : Nat) (hk : s.size < k) : impl_KeyOk.f k s = some (keyOkB s) := implKeyOk_l0 s hn s.size k 0 (by omega) hk
/-- A kind's word. -/
def kwB (x : Int) : ByteArray := if x = 1 then ⟨#[99]⟩ else if x = 2 then ⟨#[103]⟩ else if x = 3 then ⟨#[109, 115]⟩ else ⟨#[]⟩
theorem specKw_f (x : Int) : spec_KindWord.f x = some (kwB x) := by
  unfold spec_KindWord.f kwB
  rw [l1In_f, Option.bind_some]
  by_cases h : 1 ≤ x ∧ x ≤ 3
  · have : x = 1 ∨ x = 2 ∨ x = 3 := by omega
    rcases this with rfl | rfl | rfl <;> (rw [if_pos (by decide), Option.bind_some, w64 (by omega) (by omega), if_pos (by omega), if_pos (by simp)]; rfl)
  · rw [if_neg (by simp; omega), if_neg (by omega), if_neg (by omega), if_neg (by omega)]
theorem implKw_f (x : Int) : impl_KindWord.f x = some (kwB x) := by
  unfold impl_KindWord.f kwB
  repeat' split
  all_goals rfl
theorem kwB_size (x : Int) : (kwB x).size ≤ 2 := by
  unfold kwB
  repeat' split
  all_goals decide
/-- A whole number in decimal. -/
def decB (n : Int) : ByteArray := ⟨(Lib.itoa n).toArray⟩
theorem decB_size (n : Int) (h0 : -9223372036854775808 ≤ n) (h1 : n ≤ 9223372036854775807) : (decB n).size ≤ 21 := by
  have := Lib.itoa_length_le n h0 h1
  unfold decB
  simpa [ByteArray.size] using this
theorem implDec_f (n : Int) (h0 : -9223372036854775808 ≤ n) (h1 : n ≤ 9223372036854775807) : impl_Dec.f n = some (decB n) := by
  unfold impl_Dec.f strconv_Itoa.f decB
  rw [if_pos ⟨h0, h1⟩]
  rfl
theorem ba_append (a b : List UInt8) : (⟨a.toArray⟩ : ByteArray) ++ ⟨b.toArray⟩ = ⟨(a ++ b).toArray⟩ := by
  apply ByteArray.ext
  simp [ByteArray.data_append]
theorem digit_son (m : Nat) (h : m < 10) : strOfNums [((48 + (m : Int)) % 256)] = ⟨[UInt8.ofNat (48 + m)].toArray⟩ := by
  have e : ((48 + (m : Int)) % 256) = ((48 + m : Nat) : Int) := by omega
  rw [e]
  rfl
theorem specDec_l0 (d : Nat) : ∀ (n k : Nat) (acc : List UInt8), 0 < n → n < 10 ^ d → (n : Int) ≤ 9223372036854775807 → acc.length + d ≤ 100 → d + 1 < k → spec_Dec.l0 k (n : Int) ⟨acc.toArray⟩ false = some ⟨(Lib.decDigits n ++ acc).toArray⟩ := by
  induction d with
  | zero => intro n k acc h0 h1 h2 h3 hk; simp at h1; omega
  | succ d ih =>
    intro n k acc h0 h1 h2 h3 hk
    obtain ⟨k, rfl⟩ : ∃ m, k = m + 1 := ⟨k - 1, by omega⟩
    have t1 : Int.tmod (n : Int) 10 = ((n % 10 : Nat) : Int) := by rw [Int.tmod_eq_emod_of_nonneg (by omega)]; omega
    have t2 : Int.tdiv (n : Int) 10 = ((n / 10 : Nat) : Int) := by rw [Int.tdiv_eq_ediv_of_nonneg (by omega)]; omega
    have hs : (⟨[UInt8.ofNat (48 + n % 10)].toArray⟩ : ByteArray).size = 1 := rfl
    have hs2 : (⟨acc.toArray⟩ : ByteArray).size = acc.length := by simp [ByteArray.size]
    simp only [spec_Dec.l0]
    rw [if_neg (by omega), t1, t2, if_neg (by omega), w64 (i := 48 + _) (by omega) (by omega), Option.bind_some, digit_son _ (by omega), if_pos (by omega), w64 (by omega) (by omega), ba_append]
    by_cases hq : n / 10 = 0
    · obtain ⟨k, rfl⟩ : ∃ m, k = m + 1 := ⟨k - 1, by omega⟩
      rw [hq]
      simp only [spec_Dec.l0]
      rw [if_pos (by omega), if_neg (by simp), Lib.decDigits_one (by omega), Nat.mod_eq_of_lt (by omega)]
    · rw [ih (n / 10) k _ (by omega) (by rw [Nat.pow_succ] at h1; omega) (by omega) (by simp; omega) (by omega)]
      have e : Lib.decDigits n = Lib.decDigits (n / 10) ++ [UInt8.ofNat (48 + n % 10)] := by
        rw [Lib.decDigits, dif_neg (by omega)]
      rw [e, List.append_assoc]
theorem specDec_f (n : Int) (h0 : 0 ≤ n) (h1 : n ≤ 9223372036854775807) (k : Nat) (hk : 30 < k) : spec_Dec.f k n = some (decB n) := by
  obtain ⟨m, rfl⟩ := Int.eq_ofNat_of_zero_le h0
  unfold spec_Dec.f decB
  rw [Lib.itoa_nonneg]
  by_cases hz : (m : Int) = 0
  · rw [if_pos hz]
    have : m = 0 := by omega
    subst this
    rw [Lib.decDigits_one (by omega)]
    rfl
  · rw [if_neg hz]
    have e : decide ((m : Int) < 0) = false := decide_eq_false (by omega)
    have z : (⟨#[]⟩ : ByteArray) = ⟨([] : List UInt8).toArray⟩ := rfl
    rw [e, z, specDec_l0 19 m k [] (by omega) (by omega) h1 (by simp) (by omega), List.append_nil]
theorem specDecNeg_l0 (d : Nat) : ∀ (n k : Nat) (acc : List UInt8), 0 < n → n < 10 ^ d → (n : Int) ≤ 9223372036854775808 → acc.length + d ≤ 100 → d + 1 < k → spec_Dec.l0 k (-(n : Int)) ⟨acc.toArray⟩ true = some ⟨(45 :: (Lib.decDigits n ++ acc)).toArray⟩ := by
  induction d with
  | zero => intro n k acc h0 h1 h2 h3 hk; simp at h1; omega
  | succ d ih =>
    intro n k acc h0 h1 h2 h3 hk
    obtain ⟨k, rfl⟩ : ∃ m, k = m + 1 := ⟨k - 1, by omega⟩
    have t1 : Int.tmod (-(n : Int)) 10 = -((n % 10 : Nat) : Int) := by rw [Int.neg_tmod, Int.tmod_eq_emod_of_nonneg (by omega)]; omega
    have t2 : Int.tdiv (-(n : Int)) 10 = -((n / 10 : Nat) : Int) := by rw [Int.neg_tdiv, Int.tdiv_eq_ediv_of_nonneg (by omega)]; omega
    have hs : (⟨[UInt8.ofNat (48 + n % 10)].toArray⟩ : ByteArray).size = 1 := rfl
    have hs2 : (⟨acc.toArray⟩ : ByteArray).size = acc.length := by simp [ByteArray.size]
    have rest : (if (strOfNums [((48 + ((n % 10 : Nat) : Int)) % 256)]).size + (⟨acc.toArray⟩ : ByteArray).size ≤ 9223372036854775807 then (spec_Dec.l0 k (wrap64 (-((n / 10 : Nat) : Int))) ((strOfNums [((48 + ((n % 10 : Nat) : Int)) % 256)]) ++ ⟨acc.toArray⟩) true) else (none)) = some ⟨(45 :: (Lib.decDigits n ++ acc)).toArray⟩ := by
      rw [digit_son _ (by omega), if_pos (by omega), w64 (by omega) (by omega), ba_append]
      by_cases hq : n / 10 = 0
      · obtain ⟨k, rfl⟩ : ∃ m, k = m + 1 := ⟨k - 1, by omega⟩
        rw [hq]
        simp only [spec_Dec.l0]
        have e1 : (⟨([UInt8.ofNat (48 + n % 10)] ++ acc).toArray⟩ : ByteArray).size = acc.length + 1 := by simp [ByteArray.size]
        have z : (⟨#[45]⟩ : ByteArray) = ⟨([45] : List UInt8).toArray⟩ := rfl
        rw [if_pos (by omega), if_pos trivial, if_pos (by omega), z, ba_append, Lib.decDigits_one (by omega), Nat.mod_eq_of_lt (by omega)]
        rfl
      · rw [ih (n / 10) k _ (by omega) (by rw [Nat.pow_succ] at h1; omega) (by omega) (by simp; omega) (by omega)]
        have e : Lib.decDigits n = Lib.decDigits (n / 10) ++ [UInt8.ofNat (48 + n % 10)] := by
          rw [Lib.decDigits, dif_neg (by omega)]
        rw [e, List.append_assoc]
    simp only [spec_Dec.l0]
    rw [if_neg (by omega), t1, t2]
    by_cases hn : -((n % 10 : Nat) : Int) < 0
    · rw [if_pos hn, Int.neg_neg, w64 (i := ((n % 10 : Nat) : Int)) (by omega) (by omega), w64 (i := 48 + _) (by omega) (by omega), Option.bind_some]
      exact rest
    · have e0 : n % 10 = 0 := by omega
      have e1 : (48 + -((n % 10 : Nat) : Int)) = 48 + ((n % 10 : Nat) : Int) := by omega
      rw [if_neg hn, e1, w64 (i := 48 + _) (by omega) (by omega), Option.bind_some]
      exact rest
theorem specDecAny_f (n : Int) (h0 : -9223372036854775808 ≤ n) (h1 : n ≤ 9223372036854775807) (k : Nat) (hk : 30 < k) : spec_Dec.f k n = some (decB n) := by
  by_cases h : 0 ≤ n
  · exact specDec_f n h h1 k hk
  · obtain ⟨m, rfl⟩ : ∃ m : Nat, n = -(m : Int) := ⟨n.natAbs, by omega⟩
    unfold spec_Dec.f decB
    have e : decide (-(m : Int) < 0) = true := decide_eq_true (by omega)
    have z : (⟨#[]⟩ : ByteArray) = ⟨([] : List UInt8).toArray⟩ := rfl
    rw [if_neg (by omega), e, z, specDecNeg_l0 20 m k [] (by omega) (by omega) (by omega) (by simp) (by omega), List.append_nil, Lib.itoa_neg m (by omega)]
/-- An operation is right. -/
def opOkB (a : Int) (s : ByteArray) (x v : Int) : Bool :=
  if a = 1 then (if keyOkB s = true then (if (kwB x).toList = ([] : List UInt8) then false else (v == 0)) else false)
  else if a = 2 then (if keyOkB s = true then (if x = 0 then (decide (0 ≤ v) && decide (v ≤ 65535)) else false) else false)
  else if a = 3 then (a == 3 && (s.toList == ([] : List UInt8) && (x == 0 && (v == 0)))) else false
theorem specOpOk_f (a : Int) (s : ByteArray) (x v : Int) (hn : s.size ≤ 9223372036854775806) (k : Nat) (hk : s.size < k) : spec_OpOk.f k a s x v = some (opOkB a s x v) := by
  unfold spec_OpOk.f opOkB
  rw [specKeyOk_f s hn k hk, specKw_f, l1In_f]
  simp only [Option.bind_some]
  repeat' split
  all_goals first | rfl | contradiction
theorem implOpOk_f (a : Int) (s : ByteArray) (x v : Int) (hn : s.size ≤ 9223372036854775806) (k : Nat) (hk : s.size < k) : impl_OpOk.f k a s x v = some (opOkB a s x v) := by
  unfold impl_OpOk.f opOkB
  rw [implKeyOk_f s hn k hk, implKw_f, within_f]
  simp only [Option.bind_some]
  repeat' split
  all_goals first | rfl | contradiction
theorem opOk_val (a : Int) (s : ByteArray) (x v : Int) (h : opOkB a s x v = true) (h2 : a = 2) : 0 ≤ v ∧ v ≤ 65535 := by
  subst h2
  unfold opOkB at h
  rw [if_neg (by omega), if_pos rfl] at h
  split at h
  · split at h
    · simpa using h
    · exact Bool.noConfusion h
  · exact Bool.noConfusion h
/-- An operation as a line. -/
def showOpB (a : Int) (s : ByteArray) (x v : Int) : ByteArray :=
  if opOkB a s x v = true then (if a = 1 then (((⟨#[114, 101, 103, 32]⟩ : ByteArray) ++ s) ++ (⟨#[32]⟩ : ByteArray)) ++ kwB x else if a = 2 then (((⟨#[114, 101, 99, 32]⟩ : ByteArray) ++ s) ++ (⟨#[32]⟩ : ByteArray)) ++ decB v else ⟨#[102, 108, 117, 115, 104]⟩) else ⟨#[]⟩
theorem showOp_size (a : Int) (s : ByteArray) (x v : Int) (hs : s.size ≤ 1048576) : (showOpB a s x v).size ≤ 1048676 := by
  have e1 : (⟨#[114, 101, 103, 32]⟩ : ByteArray).size = 4 := rfl
  have e2 : (⟨#[114, 101, 99, 32]⟩ : ByteArray).size = 4 := rfl
  have e3 : (⟨#[32]⟩ : ByteArray).size = 1 := rfl
  have e4 : (⟨#[102, 108, 117, 115, 104]⟩ : ByteArray).size = 5 := rfl
  have e5 : (⟨#[]⟩ : ByteArray).size = 0 := rfl
  have hk := kwB_size x
  unfold showOpB
  split
  · rename_i h
    split
    · simp only [ByteArray.size_append, e1, e3]
      omega
    · split
      · rename_i h2
        have hv := opOk_val a s x v h h2
        have := decB_size v (by omega) (by omega)
        simp only [ByteArray.size_append, e2, e3]
        omega
      · omega
  · omega
theorem specShowOp_f (a : Int) (s : ByteArray) (x v : Int) (hs : s.size ≤ 1048576) (k : Nat) (hk : 1048700 < k) : spec_ShowOp.f k a s x v = some (showOpB a s x v) := by
  unfold spec_ShowOp.f showOpB
  have e1 : (⟨#[114, 101, 103, 32]⟩ : ByteArray).size = 4 := rfl
  have e2 : (⟨#[114, 101, 99, 32]⟩ : ByteArray).size = 4 := rfl
  have e3 : (⟨#[32]⟩ : ByteArray).size = 1 := rfl
  have hkw := kwB_size x
  rw [specOpOk_f a s x v (by omega) k (by omega), Option.bind_some]
  by_cases h : opOkB a s x v = true
  · rw [if_pos h, if_pos h]
    simp only [ByteArray.size_append, e1, e2, e3]
    by_cases h1 : a = 1
    · rw [if_pos h1, if_pos h1, if_pos (by omega), if_pos (by omega), specKw_f, Option.bind_some, if_pos (by omega)]
    · rw [if_neg h1, if_neg h1]
      by_cases h2 : a = 2
      · have hv := opOk_val a s x v h h2
        have hd := decB_size v (by omega) (by omega)
        rw [if_pos h2, if_pos h2, if_pos (by omega), if_pos (by omega), specDec_f v (by omega) (by omega) k (by omega), Option.bind_some, if_pos (by omega)]
      · rw [if_neg h2, if_neg h2]
  · rw [if_neg h, if_neg h]
theorem implShowOp_f (a : Int) (s : ByteArray) (x v : Int) (hs : s.size ≤ 1048576) (k : Nat) (hk : 1048700 < k) : impl_ShowOp.f k a s x v = some (showOpB a s x v) := by
  unfold impl_ShowOp.f showOpB
  have e1 : (⟨#[114, 101, 103, 32]⟩ : ByteArray).size = 4 := rfl
  have e2 : (⟨#[114, 101, 99, 32]⟩ : ByteArray).size = 4 := rfl
  have e3 : (⟨#[32]⟩ : ByteArray).size = 1 := rfl
  have hkw := kwB_size x
  rw [implOpOk_f a s x v (by omega) k (by omega), Option.bind_some]
  by_cases h : opOkB a s x v = true
  · rw [if_pos h, if_pos h]
    simp only [ByteArray.size_append, e1, e2, e3]
    by_cases h1 : a = 1
    · rw [if_pos h1, if_pos h1, if_pos (by omega), if_pos (by omega), implKw_f, Option.bind_some, if_pos (by omega)]
    · rw [if_neg h1, if_neg h1]
      by_cases h2 : a = 2
      · have hv := opOk_val a s x v h h2
        have hd := decB_size v (by omega) (by omega)
        rw [if_pos h2, if_pos h2, if_pos (by omega), if_pos (by omega), implDec_f v (by omega) (by omega), Option.bind_some, if_pos (by omega)]
      · rw [if_neg h2, if_neg h2]
  · rw [if_neg h, if_neg h]
theorem cwB_size (a : Int) : (impl_CodeWord.b a).size ≤ 7 := by
  unfold impl_CodeWord.b
  repeat' split
  all_goals decide
theorem specCw_f (a : Int) : spec_CodeWord.f a = some (impl_CodeWord.b a) := by
  unfold spec_CodeWord.f impl_CodeWord.b
  rw [l1In_f, Option.bind_some]
  by_cases h : 0 ≤ a ∧ a ≤ 5
  · have : a = 0 ∨ a = 1 ∨ a = 2 ∨ a = 3 ∨ a = 4 ∨ a = 5 := by omega
    rcases this with rfl | rfl | rfl | rfl | rfl | rfl <;> (rw [if_pos (by decide), Option.bind_some, if_pos (by omega), if_pos (by simp)]; rfl)
  · rw [if_neg (by simp; omega), if_neg (by omega), if_neg (by omega), if_neg (by omega), if_neg (by omega), if_neg (by omega), if_neg (by omega)]
theorem i64_of {n : Int} (h : (Lit.int .i64 n).wf = true) : -9223372036854775808 ≤ n ∧ n ≤ 9223372036854775807 := by
  have e1 : IntKind.i64.min = -9223372036854775808 := by decide
  have e2 : IntKind.i64.max = 9223372036854775807 := by decide
  simp [Lit.wf] at h
  omega
def evHeadB (a1 a2 a3 : Int) : ByteArray := ((((decB a3 ++ (⟨#[32, 116]⟩ : ByteArray)) ++ decB a1) ++ (⟨#[32, 35]⟩ : ByteArray)) ++ decB a2)
/-- An event as a line. -/
def showEvB (a0 a1 a2 a3 a4 : Int) (a5 : ByteArray) (a6 a7 a8 a9 : Int) (n : Int) : ByteArray :=
  if a0 = 1 then (evHeadB a1 a2 a3 ++ (⟨#[32, 99, 97, 108, 108, 32]⟩ : ByteArray)) ++ showOpB a4 a5 a6 a7
  else if a0 = 2 then (if a9 < 0 then (evHeadB a1 a2 a3 ++ (⟨#[32, 112, 111, 105, 110, 116, 32]⟩ : ByteArray)) ++ impl_CodeWord.b a8 else (((evHeadB a1 a2 a3 ++ (⟨#[32, 112, 111, 105, 110, 116, 32]⟩ : ByteArray)) ++ impl_CodeWord.b a8) ++ (⟨#[32, 105, 110, 32]⟩ : ByteArray)) ++ decB a9)
  else if a0 = 3 then ((((evHeadB a1 a2 a3 ++ (⟨#[32, 116, 111, 108, 100, 32]⟩ : ByteArray)) ++ impl_CodeWord.b a8) ++ (⟨#[32]⟩ : ByteArray)) ++ decB n) ++ (⟨#[32, 114, 111, 119, 115]⟩ : ByteArray)
  else ⟨#[]⟩
theorem ba_split (x y : List UInt8) (z : ByteArray) : z ++ (⟨(x ++ y).toArray⟩ : ByteArray) = (z ++ ⟨x.toArray⟩) ++ ⟨y.toArray⟩ := by
  rw [ByteArray.append_assoc, ba_append x y]
section
variable (a0 a1 a2 a3 a4 : Int) (a5 : ByteArray) (a6 a7 a8 a9 a10 a11 : Int) (l : List S75)
variable (h1 : -9223372036854775808 ≤ a1 ∧ a1 ≤ 9223372036854775807) (h2 : -9223372036854775808 ≤ a2 ∧ a2 ≤ 9223372036854775807) (h3 : -9223372036854775808 ≤ a3 ∧ a3 ≤ 9223372036854775807) (h9 : -9223372036854775808 ≤ a9 ∧ a9 ≤ 9223372036854775807) (hs : a5.size ≤ 1048576) (hl : l.length ≤ 1048576)
include h1 h2 h3 h9 hs hl
theorem specEv_f (k : Nat) (hk : 1048700 < k) : spec_ShowEv.f k a0 a1 a2 a3 a4 a5 a6 a7 a8 a9 a10 a11 l = some (showEvB a0 a1 a2 a3 a4 a5 a6 a7 a8 a9 (l.length : Int)) := by
  have d1 := decB_size a1 h1.1 h1.2
  have d2 := decB_size a2 h2.1 h2.2
  have d3 := decB_size a3 h3.1 h3.2
  have d9 := decB_size a9 h9.1 h9.2
  have dl := decB_size (l.length : Int) (by omega) (by omega)
  have so := showOp_size a4 a5 a6 a7 hs
  have sc := cwB_size a8
  unfold spec_ShowEv.f showEvB evHeadB
  rw [specDecAny_f a3 h3.1 h3.2 k (by omega), specDecAny_f a1 h1.1 h1.2 k (by omega), specDecAny_f a2 h2.1 h2.2 k (by omega), specDecAny_f a9 h9.1 h9.2 k (by omega), specDecAny_f (l.length : Int) (by omega) (by omega) k (by omega), specShowOp_f a4 a5 a6 a7 hs k hk, specCw_f a8]
  simp only [Option.bind_some]
  have e1 : (⟨#[32, 116]⟩ : ByteArray).size = 2 := rfl
  have e2 : (⟨#[32, 35]⟩ : ByteArray).size = 2 := rfl
  have e3 : (⟨#[32, 99, 97, 108, 108, 32]⟩ : ByteArray).size = 6 := rfl
  have e4 : (⟨#[32, 112, 111, 105, 110, 116, 32]⟩ : ByteArray).size = 7 := rfl
  have e5 : (⟨#[32, 105, 110, 32]⟩ : ByteArray).size = 4 := rfl
  have e6 : (⟨#[32, 116, 111, 108, 100, 32]⟩ : ByteArray).size = 6 := rfl
  have e7 : (⟨#[32]⟩ : ByteArray).size = 1 := rfl
  have e8 : (⟨#[32, 114, 111, 119, 115]⟩ : ByteArray).size = 5 := rfl
  simp only [ByteArray.size_append, e1, e2, e3, e4, e5, e6, e7, e8]
  rw [if_pos (by omega), if_pos (by omega), if_pos (by omega), if_pos (by omega)]
  by_cases c1 : a0 = 1
  · rw [if_pos c1, if_pos c1]
    repeat rw [if_pos (by omega)]
  · rw [if_neg c1, if_neg c1]
    by_cases c2 : a0 = 2
    · rw [if_pos c2, if_pos c2]
      by_cases c3 : a9 < 0
      · rw [if_pos c3, if_pos c3]
        repeat rw [if_pos (by omega)]
      · rw [if_neg c3, if_neg c3]
        repeat rw [if_pos (by omega)]
    · rw [if_neg c2, if_neg c2]
      by_cases c3 : a0 = 3
      · rw [if_pos c3, if_pos c3]
        repeat rw [if_pos (by omega)]
      · rw [if_neg c3, if_neg c3]
theorem implEv_f (k : Nat) (hk : 1048700 < k) : impl_ShowEv.f k a0 a1 a2 a3 a4 a5 a6 a7 a8 a9 a10 a11 l = some (showEvB a0 a1 a2 a3 a4 a5 a6 a7 a8 a9 (l.length : Int)) := by
  have d1 := decB_size a1 h1.1 h1.2
  have d2 := decB_size a2 h2.1 h2.2
  have d3 := decB_size a3 h3.1 h3.2
  have d9 := decB_size a9 h9.1 h9.2
  have dl := decB_size (l.length : Int) (by omega) (by omega)
  have so := showOp_size a4 a5 a6 a7 hs
  have sc := cwB_size a8
  have ic : impl_CodeWord.f a8 = some (impl_CodeWord.b a8) := rfl
  unfold impl_ShowEv.f showEvB evHeadB
  rw [implDec_f a3 h3.1 h3.2, implDec_f a1 h1.1 h1.2, implDec_f a2 h2.1 h2.2, implDec_f a9 h9.1 h9.2, implDec_f (l.length : Int) (by omega) (by omega), implShowOp_f a4 a5 a6 a7 hs k hk, ic]
  simp only [Option.bind_some]
  have e1 : (⟨#[32, 116]⟩ : ByteArray).size = 2 := rfl
  have e2 : (⟨#[32, 35]⟩ : ByteArray).size = 2 := rfl
  have e3 : (⟨#[99, 97, 108, 108, 32]⟩ : ByteArray).size = 5 := rfl
  have e4 : (⟨#[112, 111, 105, 110, 116, 32]⟩ : ByteArray).size = 6 := rfl
  have e5 : (⟨#[32, 105, 110, 32]⟩ : ByteArray).size = 4 := rfl
  have e6 : (⟨#[116, 111, 108, 100, 32]⟩ : ByteArray).size = 5 := rfl
  have e7 : (⟨#[32]⟩ : ByteArray).size = 1 := rfl
  have e8 : (⟨#[32, 114, 111, 119, 115]⟩ : ByteArray).size = 5 := rfl
  have s3 : ∀ z : ByteArray, z ++ (⟨#[32, 99, 97, 108, 108, 32]⟩ : ByteArray) = (z ++ (⟨#[32]⟩ : ByteArray)) ++ (⟨#[99, 97, 108, 108, 32]⟩ : ByteArray) := fun z => ba_split [32] [99, 97, 108, 108, 32] z
  have s4 : ∀ z : ByteArray, z ++ (⟨#[32, 112, 111, 105, 110, 116, 32]⟩ : ByteArray) = (z ++ (⟨#[32]⟩ : ByteArray)) ++ (⟨#[112, 111, 105, 110, 116, 32]⟩ : ByteArray) := fun z => ba_split [32] [112, 111, 105, 110, 116, 32] z
  have s6 : ∀ z : ByteArray, z ++ (⟨#[32, 116, 111, 108, 100, 32]⟩ : ByteArray) = (z ++ (⟨#[32]⟩ : ByteArray)) ++ (⟨#[116, 111, 108, 100, 32]⟩ : ByteArray) := fun z => ba_split [32] [116, 111, 108, 100, 32] z
  simp only [s3, s4, s6]
  simp only [ByteArray.size_append, e1, e2, e3, e4, e5, e6, e7, e8]
  rw [if_pos (by omega), if_pos (by omega), if_pos (by omega), if_pos (by omega), if_pos (by omega)]
  by_cases c1 : a0 = 1
  · rw [if_pos c1, if_pos c1]
    repeat rw [if_pos (by omega)]
  · rw [if_neg c1, if_neg c1]
    by_cases c2 : a0 = 2
    · rw [if_pos c2, if_pos c2]
      rw [if_pos (by omega), if_pos (by omega)]
      by_cases c3 : a9 < 0
      · rw [if_neg (by omega), if_pos c3]
        simp only [ByteArray.append_assoc]
      · rw [if_pos (by omega), if_neg c3]
        rw [if_pos (by omega), if_pos (by omega)]
        simp only [ByteArray.append_assoc]
    · rw [if_neg c2, if_neg c2]
      by_cases c3 : a0 = 3
      · rw [if_pos c3, if_pos c3]
        repeat rw [if_pos (by omega)]
      · rw [if_neg c3, if_neg c3]
end
theorem sonSize (c : Int) : (strOfNums [c]).size = 1 := rfl
theorem markText_l0 (d : Nat) : ∀ (k n : Nat) (acc : ByteArray), n < 10 ^ d → n ≤ 9223372036854775807 → acc.size + d ≤ 1000 → d < k → ∃ b, laws_markText.l0 k (n : Int) acc = some b := by
  induction d with
  | zero =>
    intro k n acc hn hb ha hk
    obtain ⟨k, rfl⟩ : ∃ m, k = m + 1 := ⟨k - 1, by omega⟩
    have : n = 0 := by simpa using hn
    subst this
    simp only [laws_markText.l0]
    rw [if_neg (by omega), if_pos (by omega)]
    exact ⟨_, rfl⟩
  | succ d ih =>
    intro k n acc hn hb ha hk
    obtain ⟨k, rfl⟩ : ∃ m, k = m + 1 := ⟨k - 1, by omega⟩
    simp only [laws_markText.l0]
    by_cases h0 : (n : Int) > 0
    · rw [if_pos h0]
      simp only [Option.bind_some]
      rw [if_pos (by rw [sonSize]; omega)]
      have hd : n / 10 < 10 ^ d := by
        rw [Nat.div_lt_iff_lt_mul (by omega)]
        rw [Nat.pow_succ] at hn
        exact hn
      obtain ⟨b, hb⟩ := ih k (n / 10) (strOfNums [(wrap64 (48 + (Int.tmod (n : Int) 10))) % 256] ++ acc) hd (by omega) (by rw [ByteArray.size_append, sonSize]; omega) (by omega)
      refine ⟨b, ?_⟩
      rw [Int.tdiv_eq_ediv_of_nonneg (by omega), w64 (by omega) (by omega)]
      exact hb
    · rw [if_neg h0, if_pos (by omega)]
      exact ⟨_, rfl⟩
def mtB (m : Int) : ByteArray := (laws_markText.f 100 m).getD ByteArray.empty
theorem markText_f (m : Int) (h0 : 0 ≤ m) (h1 : m ≤ 9223372036854775807) (k : Nat) (hk : 100 ≤ k) : laws_markText.f k m = some (mtB m) := by
  have : ∃ b, laws_markText.f 100 m = some b := by
    unfold laws_markText.f
    by_cases h : m ≤ 0
    · rw [if_pos h]
      exact ⟨_, rfl⟩
    · rw [if_neg h]
      obtain ⟨n, rfl⟩ := Int.eq_ofNat_of_zero_le h0
      have hn : n < 10 ^ 19 := Nat.lt_of_le_of_lt (show n ≤ 9223372036854775807 by omega) (by decide)
      exact markText_l0 19 100 n _ hn (by omega) (by decide) (by omega)
  obtain ⟨b, hb⟩ := this
  have e : mtB m = b := by
    unfold mtB
    rw [hb]
    rfl
  rw [e]
  exact at_rounds (g := fun k => laws_markText.f k m) (fun k => laws_markText.mono m k) hk hb
def mkRow (m : Int) : S75 := ⟨mtB m, m + 1, m + 2, (Int.tmod (m + 3) 3 == 0), m + 4, m + 5, m + 6, m + 7, m + 8, m + 9⟩
theorem markRow_step (x : List S75) (m : Int) (i k : Nat) (hi : i < x.length) (hx : x.length ≤ 140737488355328) (hm : 0 ≤ m) (hm2 : m ≤ 4611686018427387904) (hk : 100 ≤ k) : laws_markRowS.l0 (k + 1) x m (i : Int) = laws_markRowS.l0 k (x.set i (mkRow m)) (m + 10) ((i + 1 : Nat) : Int) := by
  have hr : ∀ v, rd_T75 (x.set i v) (i : Int) = v := fun v => by
    rw [at_S75 _ i (by rw [List.length_set]; exact hi), List.getElem_set_self]
  have e1 : wrap64 (m + 1) = m + 1 := w64 (by omega) (by omega)
  have e2 : wrap64 (m + 1 + 1) = m + 2 := by rw [w64 (by omega) (by omega)]; omega
  have e3 : wrap64 (m + 2 + 1) = m + 3 := by rw [w64 (by omega) (by omega)]; omega
  have e4 : wrap64 (m + 3 + 1) = m + 4 := by rw [w64 (by omega) (by omega)]; omega
  have e5 : wrap64 (m + 4 + 1) = m + 5 := by rw [w64 (by omega) (by omega)]; omega
  have e6 : wrap64 (m + 5 + 1) = m + 6 := by rw [w64 (by omega) (by omega)]; omega
  have e7 : wrap64 (m + 6 + 1) = m + 7 := by rw [w64 (by omega) (by omega)]; omega
  have e8 : wrap64 (m + 7 + 1) = m + 8 := by rw [w64 (by omega) (by omega)]; omega
  have e9 : wrap64 (m + 8 + 1) = m + 9 := by rw [w64 (by omega) (by omega)]; omega
  have e10 : wrap64 (m + 9 + 1) = m + 10 := by rw [w64 (by omega) (by omega)]; omega
  have ei : wrap64 ((i : Int) + 1) = ((i + 1 : Nat) : Int) := by rw [w64 (by omega) (by omega)]; omega
  have hi0 : (i : Int) < (x.length : Int) := Int.ofNat_lt.mpr hi
  have hi1 : (0 : Int) ≤ (i : Int) := Int.natCast_nonneg i
  simp only [laws_markRowS.l0]
  rw [if_pos hi0, markText_f m hm (by omega) k hk]
  simp only [Option.bind_some, Int.toNat_natCast, List.set_set, hr, e1, e2, e3, e4, e5, e6, e7, e8, e9, e10, ei]
  rw [if_pos hi1]
  rfl
def markedRows (m : Int) (n : Nat) : List S75 := (List.range n).map fun j : Nat => mkRow (m + 10 * (j : Int))
theorem markRowS_l0 (d : Nat) : ∀ (k : Nat) (x : List S75) (m : Int) (i : Nat), i + d = x.length → x.length ≤ 140737488355328 → 0 ≤ m → m + 10 * d ≤ 4611686018427387904 → d + 101 < k →
    ∃ y, laws_markRowS.l0 k x m (i : Int) = some (m + 10 * d, y) ∧ y.length = x.length ∧ (∀ j, j < i → y[j]? = x[j]?) ∧ (∀ j, i ≤ j → j < x.length → y[j]? = some (mkRow (m + 10 * (j - i)))) := by
  induction d with
  | zero =>
    intro k x m i hd hn hm hm2 hk
    obtain ⟨k, rfl⟩ : ∃ m, k = m + 1 := ⟨k - 1, by omega⟩
    refine ⟨x, ?_, rfl, fun _ _ => rfl, fun j h1 h2 => by omega⟩
    simp only [laws_markRowS.l0]
    rw [if_neg (by omega)]
    simp
  | succ d ih =>
    intro k x m i hd hn hm hm2 hk
    obtain ⟨k, rfl⟩ : ∃ m, k = m + 1 := ⟨k - 1, by omega⟩
    obtain ⟨y, h1, h2, h3, h4⟩ := ih k (x.set i (mkRow m)) (m + 10) (i + 1) (by rw [List.length_set]; omega) (by rw [List.length_set]; omega) (by omega) (by omega) (by omega)
    rw [List.length_set] at h2 h4
    refine ⟨y, ?_, h2, fun j hj => ?_, fun j hj hj2 => ?_⟩
    · rw [markRow_step x m i k (by omega) hn hm (by omega) (by omega), h1]
      have : m + 10 + 10 * (d : Int) = m + 10 * ((d + 1 : Nat) : Int) := by omega
      rw [this]
    · rw [h3 j (by omega), List.getElem?_set_ne (by omega)]
    · by_cases e : j = i
      · subst e
        rw [h3 j (by omega), List.getElem?_set_self (by omega)]
        congr 2; omega
      · rw [h4 j (by omega) (by omega)]
        congr 2; omega
theorem markRowS_f (x : List S75) (hn : x.length ≤ 140737488355328) (m : Int) (hm : 0 ≤ m) (hm2 : m ≤ 140737488355328) (k : Nat) (hk : x.length + 101 < k) : laws_markRowS.f k x m = some (m + 10 * x.length, markedRows m x.length) := by
  obtain ⟨y, h1, h2, h3, h4⟩ := markRowS_l0 x.length k x m 0 (by omega) hn hm (by omega) hk
  have : y = markedRows m x.length := by
    refine List.ext_getElem? (fun j => ?_)
    by_cases hj : j < x.length
    · rw [h4 j (by omega) hj]
      simp [markedRows, hj]
    · rw [List.getElem?_eq_none (by omega), List.getElem?_eq_none (by simp [markedRows]; omega)]
  rw [← this]
  exact h1
theorem markEvS_go (l : List S52) (hb : ∀ x ∈ l, x.f9.length ≤ 1048576) (k : Nat) (hk : 1048700 < k) : ∀ (n : Nat) (m : Int), l.length ≤ n → n ≤ 1048576 → 0 ≤ m → m + 10485800 * n ≤ 140737488355328 → ∃ r y, laws_markEvS.go k l m = some (r, y) ∧ 0 ≤ r := by
  induction l with
  | nil => intro n m _ _ hm _; exact ⟨m, [], rfl, hm⟩
  | cons x xs ih =>
    intro n m hl hn hm hm2
    obtain ⟨n, rfl⟩ : ∃ q, n = q + 1 := ⟨n - 1, by simp at hl; omega⟩
    have hx := hb x (by simp)
    obtain ⟨r, y, h1, h2⟩ := ih (fun z hz => hb z (by simp [hz])) n (m + 12 + 10 * x.f9.length) (by simpa using hl) (by omega) (by omega) (by omega)
    have t1 := markText_f (m + 5) (by omega) (by omega) k (by omega)
    have t2 := markRowS_f x.f9 (by omega) (m + 12) (by omega) (by omega) k (by omega)
    have e1 : wrap64 (m + 1) = m + 1 := w64 (by omega) (by omega)
    have e2 : wrap64 (m + 1 + 1) = m + 2 := by rw [w64 (by omega) (by omega)]; omega
    have e3 : wrap64 (m + 2 + 1) = m + 3 := by rw [w64 (by omega) (by omega)]; omega
    have e4 : wrap64 (m + 3 + 1) = m + 4 := by rw [w64 (by omega) (by omega)]; omega
    have e5 : wrap64 (m + 4 + 1) = m + 5 := by rw [w64 (by omega) (by omega)]; omega
    have e6 : wrap64 (m + 5 + 1) = m + 6 := by rw [w64 (by omega) (by omega)]; omega
    have e7 : wrap64 (m + 6 + 1) = m + 7 := by rw [w64 (by omega) (by omega)]; omega
    have e8 : wrap64 (m + 7 + 1) = m + 8 := by rw [w64 (by omega) (by omega)]; omega
    have e9 : wrap64 (m + 8 + 1) = m + 9 := by rw [w64 (by omega) (by omega)]; omega
    have e10 : wrap64 (m + 9 + 1) = m + 10 := by rw [w64 (by omega) (by omega)]; omega
    have e11 : wrap64 (m + 10 + 1) = m + 11 := by rw [w64 (by omega) (by omega)]; omega
    have e12 : wrap64 (m + 11 + 1) = m + 12 := by rw [w64 (by omega) (by omega)]; omega
    have key : laws_markEvS.go k (x :: xs) m = some (r, (⟨m, m + 1, m + 2, m + 3, ⟨m + 4, mtB (m + 5), m + 6, m + 7⟩, m + 8, m + 9, m + 10, m + 11, markedRows (m + 12) x.f9.length⟩ : S52) :: y) := by
      simp only [laws_markEvS.go, e1, e2, e3, e4, e5, e6, e7, e8, e9, e10, e11, e12, t1, t2, h1, Option.bind_some]
    exact ⟨r, _, key, h2⟩
theorem eqStringS_l0 (a : List ByteArray) (hn : a.length ≤ 140737488355328) (d : Nat) : ∀ (k i : Nat), i + d = a.length → d < k → laws_eqStringS.l0 k a a (i : Int) = some true := by
  induction d with
  | zero =>
    intro k i hd hk
    obtain ⟨k, rfl⟩ : ∃ m, k = m + 1 := ⟨k - 1, by omega⟩
    simp only [laws_eqStringS.l0]
    rw [if_neg (by omega)]
  | succ d ih =>
    intro k i hd hk
    obtain ⟨k, rfl⟩ : ∃ m, k = m + 1 := ⟨k - 1, by omega⟩
    simp only [laws_eqStringS.l0]
    rw [if_pos (by omega), if_pos (by omega), if_pos (by omega), if_pos trivial, w64 (by omega) (by omega), succ_cast]
    exact ih k (i + 1) (by omega) (by omega)
theorem eqStringS_f (a : List ByteArray) (hn : a.length ≤ 140737488355328) (k : Nat) (hk : a.length < k) : laws_eqStringS.f k a a = some true := by
  unfold laws_eqStringS.f
  rw [if_pos rfl]
  exact eqStringS_l0 a hn a.length k 0 (by omega) hk
theorem markStringS_l0 (d : Nat) : ∀ (k : Nat) (x : List ByteArray) (m : Int) (i : Nat), i + d = x.length → x.length ≤ 140737488355328 → 0 ≤ m → m + d ≤ 4611686018427387904 → d + 101 < k →
    ∃ y, laws_markStringS.l0 k x m (i : Int) = some (m + d, y) ∧ y.length = x.length ∧ (∀ j, j < i → y[j]? = x[j]?) ∧ (∀ j, i ≤ j → j < x.length → y[j]? = some (mtB (m + (j - i)))) := by
  induction d with
  | zero =>
    intro k x m i hd hn hm hm2 hk
    obtain ⟨k, rfl⟩ : ∃ m, k = m + 1 := ⟨k - 1, by omega⟩
    refine ⟨x, ?_, rfl, fun _ _ => rfl, fun j h1 h2 => by omega⟩
    simp only [laws_markStringS.l0]
    rw [if_neg (by omega)]
    simp
  | succ d ih =>
    intro k x m i hd hn hm hm2 hk
    obtain ⟨k, rfl⟩ : ∃ m, k = m + 1 := ⟨k - 1, by omega⟩
    obtain ⟨y, h1, h2, h3, h4⟩ := ih k (x.set i (mtB m)) (m + 1) (i + 1) (by rw [List.length_set]; omega) (by rw [List.length_set]; omega) (by omega) (by omega) (by omega)
    rw [List.length_set] at h2 h4
    refine ⟨y, ?_, h2, fun j hj => ?_, fun j hj hj2 => ?_⟩
    · simp only [laws_markStringS.l0]
      rw [if_pos (by omega), markText_f m hm (by omega) k (by omega), Option.bind_some, if_pos (by omega), w64 (by omega) (by omega), w64 (by omega) (by omega), succ_cast, Int.toNat_natCast, h1]
      have : m + 1 + (d : Int) = m + ((d + 1 : Nat) : Int) := by omega
      rw [this]
    · rw [h3 j (by omega), List.getElem?_set_ne (by omega)]
    · by_cases e : j = i
      · subst e
        rw [h3 j (by omega), List.getElem?_set_self (by omega)]
        congr 2; omega
      · rw [h4 j (by omega) (by omega)]
        congr 2; omega
theorem at_strs (x : List ByteArray) (i : Nat) (h : i < x.length) : rdOf ByteArray.empty x (i : Int) = x[i] := by
  unfold rdOf
  rw [Int.toNat_natCast, List.getD_eq_getElem?_getD, List.getElem?_eq_getElem h]
  rfl
theorem heldStringS_l0 (y : List ByteArray) (hn : y.length ≤ 140737488355328) (d : Nat) : ∀ (k : Nat) (m : Int) (i : Nat), i + d = y.length → 0 ≤ m → m + d ≤ 4611686018427387904 → d + 101 < k →
    (∀ j, i ≤ j → j < y.length → y[j]? = some (mtB (m + (j - i)))) → laws_heldStringS.l0 k y m (i : Int) = some (m + d) := by
  induction d with
  | zero =>
    intro k m i hd hm hm2 hk h
    obtain ⟨k, rfl⟩ : ∃ m, k = m + 1 := ⟨k - 1, by omega⟩
    simp only [laws_heldStringS.l0]
    rw [if_neg (by omega)]
    simp
  | succ d ih =>
    intro k m i hd hm hm2 hk h
    obtain ⟨k, rfl⟩ : ∃ m, k = m + 1 := ⟨k - 1, by omega⟩
    simp only [laws_heldStringS.l0]
    have hi := h i (Nat.le_refl _) (by omega)
    rw [List.getElem?_eq_getElem (by omega)] at hi
    have hi2 := Option.some.inj hi
    have e0 : m + ((i : Int) - i) = m := by omega
    rw [e0] at hi2
    rw [if_pos (by omega), if_pos (by omega), markText_f m hm (by omega) k (by omega), Option.bind_some, at_strs y i (by omega), if_pos (by rw [hi2]), w64 (by omega) (by omega), w64 (by omega) (by omega), succ_cast]
    rw [ih k (m + 1) (i + 1) (by omega) (by omega) (by omega) (by omega) (fun j h1 h2 => by rw [h j (by omega) h2]; congr 2; omega)]
    congr 1; omega
def markedStr (m : Int) (n : Nat) : List ByteArray := (List.range n).map fun j : Nat => mtB (m + (j : Int))
theorem markStringS_f (x : List ByteArray) (hn : x.length ≤ 140737488355328) (m : Int) (hm : 0 ≤ m) (hm2 : m ≤ 140737488355328) (k : Nat) (hk : x.length + 101 < k) : laws_markStringS.f k x m = some (m + x.length, markedStr m x.length) := by
  obtain ⟨y, h1, h2, h3, h4⟩ := markStringS_l0 x.length k x m 0 (by omega) hn hm (by omega) hk
  have : y = markedStr m x.length := by
    refine List.ext_getElem? (fun j => ?_)
    by_cases hj : j < x.length
    · rw [h4 j (by omega) hj]
      simp [markedStr, hj]
    · rw [List.getElem?_eq_none (by omega), List.getElem?_eq_none (by simp [markedStr]; omega)]
  rw [← this]
  exact h1
theorem heldStringS_f (m : Int) (n : Nat) (hn : n ≤ 140737488355328) (hm : 0 ≤ m) (hm2 : m ≤ 140737488355328) (k : Nat) (hk : n + 101 < k) : laws_heldStringS.f k (markedStr m n) m = some (m + n) := by
  have hl : (markedStr m n).length = n := by simp [markedStr]
  have := heldStringS_l0 (markedStr m n) (by omega) n k m 0 (by omega) hm (by omega) hk (fun j a b => by rw [hl] at b; simp [markedStr, b])
  exact this
def evOk (x : S52) : Prop := (-9223372036854775808 ≤ x.f1 ∧ x.f1 ≤ 9223372036854775807) ∧ (-9223372036854775808 ≤ x.f2 ∧ x.f2 ≤ 9223372036854775807) ∧ (-9223372036854775808 ≤ x.f3 ∧ x.f3 ≤ 9223372036854775807) ∧ (-9223372036854775808 ≤ x.f6 ∧ x.f6 ≤ 9223372036854775807) ∧ x.f4.f1.size ≤ 1048576 ∧ x.f9.length ≤ 1048576
theorem trace_l0 (l : List S52) (hl : l.length ≤ 1048576) (hb : ∀ x ∈ l, evOk x) (F : Nat) (hF : 1048700 < F) (d : Nat) : ∀ (i k : Nat) (out : List ByteArray), i + d = l.length → out.length ≤ i → d + F < k → ∃ r, spec_Trace.l0 k l out (i : Int) = some r ∧ impl_Trace.l0 k out l (l.length : Int) (i : Int) = some r ∧ r.length ≤ l.length := by
  induction d with
  | zero =>
    intro i k out hd ho hk
    obtain ⟨k, rfl⟩ : ∃ m, k = m + 1 := ⟨k - 1, by omega⟩
    have hA : ¬ ((i : Int) < (l.length : Int)) := by omega
    refine ⟨out, ?_, ?_, by omega⟩
    · simp only [spec_Trace.l0, if_neg hA]
    · simp only [impl_Trace.l0, if_neg hA]
  | succ d ih =>
    intro i k out hd ho hk
    have hi : i < l.length := by omega
    obtain ⟨k, rfl⟩ : ∃ m, k = m + 1 := ⟨k - 1, by omega⟩
    have hk2 : d + F < k := by omega
    have hk3 : 1048700 < k := Nat.lt_trans hF (Nat.lt_of_le_of_lt (Nat.le_add_left F d) hk2)
    obtain ⟨h1, h2, h3, h6, hs, hn⟩ := hb _ (List.getElem_mem hi)
    have p1 := specEv_f l[i].f0 l[i].f1 l[i].f2 l[i].f3 l[i].f4.f0 l[i].f4.f1 l[i].f4.f2 l[i].f4.f3 l[i].f5 l[i].f6 l[i].f7 l[i].f8 l[i].f9 h1 h2 h3 h6 hs hn k hk3
    have p2 := implEv_f l[i].f0 l[i].f1 l[i].f2 l[i].f3 l[i].f4.f0 l[i].f4.f1 l[i].f4.f2 l[i].f4.f3 l[i].f5 l[i].f6 l[i].f7 l[i].f8 l[i].f9 h1 h2 h3 h6 hs hn k hk3
    have hA : (i : Int) < (l.length : Int) := by omega
    have hA0 : 0 ≤ (i : Int) := by omega
    have hA1 : out.length < 8796093022208 := by omega
    have hB : out.length ≤ i + 1 := by omega
    have hC : i + 1 + d = l.length := by omega
    have hD : ∀ t : ByteArray, (out ++ [t]).length ≤ i + 1 := fun t => by simp; omega
    have ew : wrap64 ((i : Int) + 1) = ((i + 1 : Nat) : Int) := by rw [w64 (by omega) (by omega)]; omega
    generalize showEvB l[i].f0 l[i].f1 l[i].f2 l[i].f3 l[i].f4.f0 l[i].f4.f1 l[i].f4.f2 l[i].f4.f3 l[i].f5 l[i].f6 (l[i].f9.length : Int) = t at p1 p2
    by_cases ht : t.toList = ([] : List UInt8)
    · obtain ⟨r, r1, r2, r3⟩ := ih (i + 1) k out hC hB hk2
      refine ⟨r, ?_, ?_, r3⟩
      · simp only [spec_Trace.l0, if_pos hA, if_pos hA0, at_S52 l i hi, p1, Option.bind_some, if_pos ht, ew]
        exact r1
      · simp only [impl_Trace.l0, if_pos hA, if_pos hA0, at_S52 l i hi, p2, Option.bind_some, if_pos ht, ew]
        exact r2
    · obtain ⟨r, r1, r2, r3⟩ := ih (i + 1) k (out ++ [t]) hC (hD t) hk2
      refine ⟨r, ?_, ?_, r3⟩
      · simp only [spec_Trace.l0, if_pos hA, if_pos hA0, at_S52 l i hi, p1, Option.bind_some, if_neg ht, if_pos hA1, ew]
        exact r1
      · simp only [impl_Trace.l0, if_pos hA, if_pos hA0, at_S52 l i hi, p2, Option.bind_some, if_neg ht, if_pos hA1, ew]
        exact r2
theorem trace_both (l : List S52) (hl : l.length ≤ 1048576) (hb : ∀ x ∈ l, evOk x) (k : Nat) (hk : 2097300 < k) : ∃ r, spec_Trace.f k l = some r ∧ impl_Trace.f k l = some r ∧ r.length ≤ 1048576 := by
  obtain ⟨r, h1, h2, h3⟩ := trace_l0 l hl hb 1048701 (by omega) l.length 0 k [] (by omega) (by simp) (by omega)
  exact ⟨r, h1, h2, by omega⟩
theorem FnExactTrace : FnExactTraceOwn := by
  intro l hw
  obtain ⟨r, ⟨K1, e1⟩, _, _, hb⟩ := szEvS_ev l (gwLS48 l hw) 1048576 (by omega) (by omega)
  by_cases hr : r < 0
  · refine ⟨K1, ?_⟩
    have q1 := e1 K1 (by omega)
    simp only at q1
    unfold laws_FnExactTrace.f
    exact if_pos (.inl ⟨r, q1, hr⟩)
  · have hb := hb (by omega)
    obtain ⟨K2, e2⟩ := toEvS_ev l hb
    obtain ⟨K3, e3⟩ := eqEvS_ev _ (toEvS_wl l hb)
    have hl : (toEvSV l).length ≤ 1048576 := by
      have := hb.1
      simp [toEvSV]
      omega
    have hk : ∀ x ∈ toEvSV l, evOk x := by
      intro x hx
      simp only [toEvSV, List.mem_map] at hx
      obtain ⟨y, hy, rfl⟩ := hx
      obtain ⟨_, w1, w2, w3, _, _, w9, _⟩ := hw.2 y hy
      have h2 := hb.2 y hy
      exact ⟨i64_of w1, i64_of w2, i64_of w3, i64_of w9, h2.1, by have := h2.2.1; simpa [toEvV, toRowSV] using this⟩
    obtain ⟨KK, hKK⟩ : ∃ q, q = K1 + K2 + K3 + 3300010 := ⟨_, rfl⟩
    obtain ⟨q, p1, p2, hq⟩ := trace_both (toEvSV l) hl hk KK (by omega)
    refine ⟨KK, ?_⟩
    have q1 := e1 KK (by omega)
    have q2 := e2 KK (by omega)
    have q3 := e3 KK (by omega)
    simp only at q1 q2 q3
    obtain ⟨m1, xm, q7, hm1⟩ := markEvS_go (toEvSV l) (fun x hx => (hk x hx).2.2.2.2.2) KK (by omega) 1048576 1 hl (by omega) (by omega) (by omega)
    have q8 := markStringS_f q (by omega) 1 (by omega) (by omega) KK (by omega)
    have q9 := heldStringS_f 1 q.length (by omega) (by omega) (by omega) KK (by omega)
    have q4 := eqStringS_f q (by omega) KK (by omega)
    unfold laws_FnExactTrace.f
    exact if_pos (.inr ⟨r, toEvSV l, q, m1, xm, 1 + q.length, markedStr 1 q.length, q1, by omega, q2, p1, p2, q4, q3, q7, hm1, q8, q9, by omega⟩)

end Go.Proofs.YticfkgjcklonmaaDoor.Pure
