/- For every log, Pending of the program answers what Pending of the reference answers, in memory of its own (logs of more than 2^20 events, rows and letters are let pass by the law itself). -/
import Derived.Test.YticfkgjcklonmaaQFnExactPendingx6
namespace Go.Proofs.Yticfkgjcklonmaa.Pure
open Go.RowKit Go.Proofs.Yticfkgjcklonmaa.QFnExactPending Go.Proofs.YticfkgjcklonmaaW.PrintWords Go.Proofs.YticfkgjcklonmaaW.PrintLast Go.Proofs.YticfkgjcklonmaaW.PrintMore
set_option linter.unusedVariables false
set_option linter.unusedSimpArgs false
def FnExactPendingOwn : Prop := ∀ (l0 : (List S74)), (l0.length ≤ maxLen ∧ ∀ y_l0 ∈ l0, ((Lit.int .i64 y_l0.f0).wf = true ∧ (Lit.int .i64 y_l0.f1).wf = true ∧ (Lit.int .i64 y_l0.f2).wf = true ∧ (Lit.int .i64 y_l0.f3).wf = true ∧ ((Lit.int .i64 y_l0.f4.f0).wf = true ∧ y_l0.f4.f1.size ≤ maxLen ∧ (Lit.int .i64 y_l0.f4.f2).wf = true ∧ (Lit.int .i64 y_l0.f4.f3).wf = true) ∧ (Lit.int .i64 y_l0.f5).wf = true ∧ (Lit.int .i64 y_l0.f6).wf = true ∧ (Lit.int .i64 y_l0.f7).wf = true ∧ (Lit.int .i64 y_l0.f8).wf = true ∧ (y_l0.f9.length ≤ maxLen ∧ ∀ y_y_l0_f9 ∈ y_l0.f9, (y_y_l0_f9.f0.size ≤ maxLen ∧ (Lit.int .i64 y_y_l0_f9.f1).wf = true ∧ (Lit.int .i64 y_y_l0_f9.f2).wf = true ∧ True ∧ (Lit.int .i64 y_y_l0_f9.f4).wf = true ∧ (Lit.int .i64 y_y_l0_f9.f5).wf = true ∧ (Lit.int .i64 y_y_l0_f9.f6).wf = true ∧ (Lit.int .i64 y_y_l0_f9.f7).wf = true ∧ (Lit.int .i64 y_y_l0_f9.f8).wf = true ∧ (Lit.int .i64 y_y_l0_f9.f9).wf = true)))) → ∃ k, laws_FnExactPending.f k l0 = some true
theorem w64 {i : Int} (h : -9223372036854775808 ≤ i) (h2 : i ≤ 9223372036854775807) : wrap64 i = i := by
  unfold wrap64
  omega
theorem rd_at (x : List Int) (i : Nat) (h : i < x.length) : rd x (i : Int) = x[i] := by
  unfold rd
  rw [Int.toNat_natCast, List.getD_eq_getElem?_getD, List.getElem?_eq_getElem h]
  rfl
theorem succ_cast (i : Nat) : ((i : Int) + 1) = ((i + 1 : Nat) : Int) := by omega
theorem take_succ_ext {α : Type} (a b : List α) (i : Nat) (ha : i < a.length) (hb : i < b.length) (ht : a.take i = b.take i) (he : a[i] = b[i]) : a.take (i + 1) = b.take (i + 1) := by
  rw [List.take_succ_eq_append_getElem ha, List.take_succ_eq_append_getElem hb, ht, he]
def WfS72 (x : S72) : Prop := (x.f1.size ≤ 9223372036854775807)
def BdS72 (x : S72) : Prop := (x.f1.size ≤ 1048576)
theorem szOp_ev (y : S72) (hw : WfS72 y) (x : Int) (h0 : 0 ≤ x) (h1 : x ≤ 1048576) : ∃ r, Ev (fun _ => laws_szOp.f (y.f0) (y.f1) (y.f2) (y.f3) x) r ∧ -1 ≤ r ∧ r ≤ x ∧ (0 ≤ r → BdS72 y) := by
  have w1 : y.f1.size ≤ 9223372036854775807 := hw
  by_cases c : wrap64 (x - (y.f1.size : Int)) < 0
  · refine ⟨-1, Ev.congr (fun k => ?_) (Ev.now (-1)), by omega, by omega, fun h => by omega⟩
    unfold laws_szOp.f
    rw [if_pos c]
  · have e : wrap64 (x - (y.f1.size : Int)) = x - (y.f1.size : Int) := w64 (by omega) (by omega)
    rw [e] at c
    refine ⟨x - (y.f1.size : Int), Ev.congr (fun k => ?_) (Ev.now _), by omega, by omega, fun _ => (show y.f1.size ≤ 1048576 by omega)⟩
    unfold laws_szOp.f
    rw [e, if_neg c]
def WfS56 (x : S56) : Prop := (x.f0.size ≤ 9223372036854775807)
def BdS56 (x : S56) : Prop := (x.f0.size ≤ 1048576)
theorem szRow_ev (y : S56) (hw : WfS56 y) (x : Int) (h0 : 0 ≤ x) (h1 : x ≤ 1048576) : ∃ r, Ev (fun _ => laws_szRow.f (y.f0) (y.f1) (y.f2) (y.f3) (y.f4) (y.f5) (y.f6) (y.f7) (y.f8) (y.f9) x) r ∧ -1 ≤ r ∧ r ≤ x ∧ (0 ≤ r → BdS56 y) := by
  have w0 : y.f0.size ≤ 9223372036854775807 := hw
  by_cases c : wrap64 (x - (y.f0.size : Int)) < 0
  · refine ⟨-1, Ev.congr (fun k => ?_) (Ev.now (-1)), by omega, by omega, fun h => by omega⟩
    unfold laws_szRow.f
    rw [if_pos c]
  · have e : wrap64 (x - (y.f0.size : Int)) = x - (y.f0.size : Int) := w64 (by omega) (by omega)
    rw [e] at c
    refine ⟨x - (y.f0.size : Int), Ev.congr (fun k => ?_) (Ev.now _), by omega, by omega, fun _ => (show y.f0.size ≤ 1048576 by omega)⟩
    unfold laws_szRow.f
    rw [e, if_neg c]
def WfLS56 (x : (List S56)) : Prop := (x.length ≤ 9223372036854775807 ∧ ∀ y1_ ∈ x, (y1_.f0.size ≤ 9223372036854775807))
def BdLS56 (x : (List S56)) : Prop := (x.length ≤ 1048576 ∧ ∀ y1_ ∈ x, (y1_.f0.size ≤ 1048576))
theorem at_S56 (x : List S56) (i : Nat) (h : i < x.length) : rd_T56 x (i : Int) = x[i] := by
  unfold rd_T56
  rw [Int.toNat_natCast, List.getD_eq_getElem?_getD, List.getElem?_eq_getElem h]
  rfl
theorem szRowS_l0 (l : List S56) (hl : l.length ≤ 1048576) (hw : ∀ y ∈ l, WfS56 y) (d : Nat) : ∀ (x : Int) (i : Nat), i + d = l.length → 0 ≤ x → x ≤ 1048576 →
    ∃ r, Ev (fun k => laws_szRowS.l0 k l x (i : Int)) r ∧ -1 ≤ r ∧ r ≤ x ∧ (0 ≤ r → ∀ j, (hj : j < l.length) → i ≤ j → BdS56 l[j]) := by
  induction d with
  | zero =>
    intro x i hd h0 h1
    refine ⟨x, Ev.step (f := fun _ => some x) (fun k => ?_) (Ev.now _), by omega, by omega, fun _ j hj hij => by omega⟩
    simp only [laws_szRowS.l0]
    rw [if_neg (by omega)]
  | succ d ih =>
    intro x i hd h0 h1
    have hi : i < l.length := by omega
    obtain ⟨r1, e1, a1, b1, c1⟩ := szRow_ev l[i] (hw _ (List.getElem_mem hi)) x h0 h1
    by_cases hr : r1 < 0
    · refine ⟨-1, Ev.step (f := fun k => (laws_szRow.f (l[i].f0) (l[i].f1) (l[i].f2) (l[i].f3) (l[i].f4) (l[i].f5) (l[i].f6) (l[i].f7) (l[i].f8) (l[i].f9) x).bind fun t => if t < 0 then some (-1) else laws_szRowS.l0 k l t (wrap64 ((i : Int) + 1))) (fun k => ?_) (Ev.bind e1 ?_), by omega, by omega, fun h => by omega⟩
      · simp only [laws_szRowS.l0]
        rw [if_pos (by omega), if_pos (by omega), at_S56 l i hi]
      · refine Ev.congr (fun k => ?_) (Ev.now (-1))
        show (if r1 < 0 then some (-1) else _) = _
        rw [if_pos hr]
    · obtain ⟨r2, e2, a2, b2, c2⟩ := ih r1 (i + 1) (by omega) (by omega) (by omega)
      refine ⟨r2, Ev.step (f := fun k => (laws_szRow.f (l[i].f0) (l[i].f1) (l[i].f2) (l[i].f3) (l[i].f4) (l[i].f5) (l[i].f6) (l[i].f7) (l[i].f8) (l[i].f9) x).bind fun t => if t < 0 then some (-1) else laws_szRowS.l0 k l t (wrap64 ((i : Int) + 1))) (fun k => ?_) (Ev.bind e1 ?_), a2, by omega, fun h j hj hij => ?_⟩
      · simp only [laws_szRowS.l0]
        rw [if_pos (by omega), if_pos (by omega), at_S56 l i hi]
      · refine Ev.congr (fun k => ?_) e2
        show (if r1 < 0 then some (-1) else _) = _
        rw [if_neg hr, w64 (by omega) (by omega), succ_cast]
      · by_cases hij2 : j = i
        · subst hij2
          exact c1 (by omega)
        · exact c2 h j hj (by omega)
theorem szRowS_ev (l : (List S56)) (hw : WfLS56 l) (x : Int) (h0 : 0 ≤ x) (h1 : x ≤ 1048576) : ∃ r, Ev (fun k => laws_szRowS.f k l x) r ∧ -1 ≤ r ∧ r ≤ x ∧ (0 ≤ r → BdLS56 l) := by
  obtain ⟨hl, hw⟩ := hw
  by_cases c : wrap64 (x - (l.length : Int)) < 0
  · refine ⟨-1, Ev.congr (fun k => ?_) (Ev.now (-1)), by omega, by omega, fun h => by omega⟩
    unfold laws_szRowS.f
    rw [if_pos c]
  · have e : wrap64 (x - (l.length : Int)) = x - (l.length : Int) := w64 (by omega) (by omega)
    rw [e] at c
    obtain ⟨r, e1, a1, b1, c1⟩ := szRowS_l0 l (by omega) hw l.length (x - (l.length : Int)) 0 (by omega) (by omega) (by omega)
    refine ⟨r, Ev.congr (fun k => ?_) e1, a1, by omega, fun h => ⟨by omega, fun y hy => ?_⟩⟩
    · unfold laws_szRowS.f
      rw [e, if_neg c]
      rfl
    · obtain ⟨j, hj, rfl⟩ := List.mem_iff_getElem.mp hy
      exact c1 h j hj (Nat.zero_le _)
def WfS74 (x : S74) : Prop := ((x.f4.f1.size ≤ 9223372036854775807) ∧ (x.f9.length ≤ 9223372036854775807 ∧ ∀ y4_ ∈ x.f9, (y4_.f0.size ≤ 9223372036854775807)))
def BdS74 (x : S74) : Prop := ((x.f4.f1.size ≤ 1048576) ∧ (x.f9.length ≤ 1048576 ∧ ∀ y4_ ∈ x.f9, (y4_.f0.size ≤ 1048576)))
theorem szEv_ev (y : S74) (hw : WfS74 y) (x : Int) (h0 : 0 ≤ x) (h1 : x ≤ 1048576) : ∃ r, Ev (fun k => laws_szEv.f k (y.f0) (y.f1) (y.f2) (y.f3) (y.f4.f0) (y.f4.f1) (y.f4.f2) (y.f4.f3) (y.f5) (y.f6) (y.f7) (y.f8) (y.f9) x) r ∧ -1 ≤ r ∧ r ≤ x ∧ (0 ≤ r → BdS74 y) := by
  obtain ⟨w4, w9⟩ := hw
  obtain ⟨r0, e0, a0, b0, c0⟩ := szOp_ev y.f4 w4 x (by omega) (by omega)
  by_cases hr0 : r0 < 0
  · refine ⟨-1, ?_, by omega, by omega, fun h => by omega⟩
    unfold laws_szEv.f
    refine Ev.bind e0 ?_
    exact Ev.congr (fun k => if_pos hr0) (Ev.now (-1))
  · skip
    obtain ⟨r1, e1, a1, b1, c1⟩ := szRowS_ev y.f9 w9 r0 (by omega) (by omega)
    by_cases hr1 : r1 < 0
    · refine ⟨-1, ?_, by omega, by omega, fun h => by omega⟩
      unfold laws_szEv.f
      refine Ev.bind e0 ?_
      refine Ev.congr (f := fun k => ((laws_szRowS.f k y.f9 r0).bind fun t1 => (if t1 < 0 then (some (-1)) else (some t1)))) (fun k => if_neg hr0) ?_
      refine Ev.bind e1 ?_
      exact Ev.congr (fun k => if_pos hr1) (Ev.now (-1))
    · skip
      refine ⟨r1, ?_, by omega, by omega, fun h => ⟨c0 (by omega), c1 (by omega)⟩⟩
      unfold laws_szEv.f
      refine Ev.bind e0 ?_
      refine Ev.congr (f := fun k => ((laws_szRowS.f k y.f9 r0).bind fun t1 => (if t1 < 0 then (some (-1)) else (some t1)))) (fun k => if_neg hr0) ?_
      refine Ev.bind e1 ?_
      refine Ev.congr (f := fun k => (some r1)) (fun k => if_neg hr1) ?_
      exact Ev.now _
def WfLS74 (x : (List S74)) : Prop := (x.length ≤ 9223372036854775807 ∧ ∀ y1_ ∈ x, ((y1_.f4.f1.size ≤ 9223372036854775807) ∧ (y1_.f9.length ≤ 9223372036854775807 ∧ ∀ y6_ ∈ y1_.f9, (y6_.f0.size ≤ 9223372036854775807))))
def BdLS74 (x : (List S74)) : Prop := (x.length ≤ 1048576 ∧ ∀ y1_ ∈ x, ((y1_.f4.f1.size ≤ 1048576) ∧ (y1_.f9.length ≤ 1048576 ∧ ∀ y6_ ∈ y1_.f9, (y6_.f0.size ≤ 1048576))))
theorem at_S74 (x : List S74) (i : Nat) (h : i < x.length) : rd_T74 x (i : Int) = x[i] := by
  unfold rd_T74
  rw [Int.toNat_natCast, List.getD_eq_getElem?_getD, List.getElem?_eq_getElem h]
  rfl
theorem szEvS_l0 (l : List S74) (hl : l.length ≤ 1048576) (hw : ∀ y ∈ l, WfS74 y) (d : Nat) : ∀ (x : Int) (i : Nat), i + d = l.length → 0 ≤ x → x ≤ 1048576 →
    ∃ r, Ev (fun k => laws_szEvS.l0 k l x (i : Int)) r ∧ -1 ≤ r ∧ r ≤ x ∧ (0 ≤ r → ∀ j, (hj : j < l.length) → i ≤ j → BdS74 l[j]) := by
  induction d with
  | zero =>
    intro x i hd h0 h1
    refine ⟨x, Ev.step (f := fun _ => some x) (fun k => ?_) (Ev.now _), by omega, by omega, fun _ j hj hij => by omega⟩
    simp only [laws_szEvS.l0]
    rw [if_neg (by omega)]
  | succ d ih =>
    intro x i hd h0 h1
    have hi : i < l.length := by omega
    obtain ⟨r1, e1, a1, b1, c1⟩ := szEv_ev l[i] (hw _ (List.getElem_mem hi)) x h0 h1
    by_cases hr : r1 < 0
    · refine ⟨-1, Ev.step (f := fun k => (laws_szEv.f k (l[i].f0) (l[i].f1) (l[i].f2) (l[i].f3) (l[i].f4.f0) (l[i].f4.f1) (l[i].f4.f2) (l[i].f4.f3) (l[i].f5) (l[i].f6) (l[i].f7) (l[i].f8) (l[i].f9) x).bind fun t => if t < 0 then some (-1) else laws_szEvS.l0 k l t (wrap64 ((i : Int) + 1))) (fun k => ?_) (Ev.bind e1 ?_), by omega, by omega, fun h => by omega⟩
      · simp only [laws_szEvS.l0]
        rw [if_pos (by omega), if_pos (by omega), at_S74 l i hi]
      · refine Ev.congr (fun k => ?_) (Ev.now (-1))
        show (if r1 < 0 then some (-1) else _) = _
        rw [if_pos hr]
    · obtain ⟨r2, e2, a2, b2, c2⟩ := ih r1 (i + 1) (by omega) (by omega) (by omega)
      refine ⟨r2, Ev.step (f := fun k => (laws_szEv.f k (l[i].f0) (l[i].f1) (l[i].f2) (l[i].f3) (l[i].f4.f0) (l[i].f4.f1) (l[i].f4.f2) (l[i].f4.f3) (l[i].f5) (l[i].f6) (l[i].f7) (l[i].f8) (l[i].f9) x).bind fun t => if t < 0 then some (-1) else laws_szEvS.l0 k l t (wrap64 ((i : Int) + 1))) (fun k => ?_) (Ev.bind e1 ?_), a2, by omega, fun h j hj hij => ?_⟩
      · simp only [laws_szEvS.l0]
        rw [if_pos (by omega), if_pos (by omega), at_S74 l i hi]
      · refine Ev.congr (fun k => ?_) e2
        show (if r1 < 0 then some (-1) else _) = _
        rw [if_neg hr, w64 (by omega) (by omega), succ_cast]
      · by_cases hij2 : j = i
        · subst hij2
          exact c1 (by omega)
        · exact c2 h j hj (by omega)
theorem szEvS_ev (l : (List S74)) (hw : WfLS74 l) (x : Int) (h0 : 0 ≤ x) (h1 : x ≤ 1048576) : ∃ r, Ev (fun k => laws_szEvS.f k l x) r ∧ -1 ≤ r ∧ r ≤ x ∧ (0 ≤ r → BdLS74 l) := by
  obtain ⟨hl, hw⟩ := hw
  by_cases c : wrap64 (x - (l.length : Int)) < 0
  · refine ⟨-1, Ev.congr (fun k => ?_) (Ev.now (-1)), by omega, by omega, fun h => by omega⟩
    unfold laws_szEvS.f
    rw [if_pos c]
  · have e : wrap64 (x - (l.length : Int)) = x - (l.length : Int) := w64 (by omega) (by omega)
    rw [e] at c
    obtain ⟨r, e1, a1, b1, c1⟩ := szEvS_l0 l (by omega) hw l.length (x - (l.length : Int)) 0 (by omega) (by omega) (by omega)
    refine ⟨r, Ev.congr (fun k => ?_) e1, a1, by omega, fun h => ⟨by omega, fun y hy => ?_⟩⟩
    · unfold laws_szEvS.f
      rw [e, if_neg c]
      rfl
    · obtain ⟨j, hj, rfl⟩ := List.mem_iff_getElem.mp hy
      exact c1 h j hj (Nat.zero_le _)
def WfStr (x : ByteArray) : Prop := x.size ≤ 9223372036854775807
def BdStr (x : ByteArray) : Prop := x.size ≤ 1048576
theorem gwStr (x : ByteArray) (h : x.size ≤ maxLen) : WfStr x := by
  unfold WfStr
  unfold maxLen at h
  omega
theorem gwS72 (x : S72) (h : ((Lit.int .i64 x.f0).wf = true ∧ x.f1.size ≤ maxLen ∧ (Lit.int .i64 x.f2).wf = true ∧ (Lit.int .i64 x.f3).wf = true)) : WfS72 x := by
  obtain ⟨g0, g1, g2, g3⟩ := h
  exact gwStr x.f1 g1
theorem gwS56 (x : S56) (h : (x.f0.size ≤ maxLen ∧ (Lit.int .i64 x.f1).wf = true ∧ (Lit.int .i64 x.f2).wf = true ∧ True ∧ (Lit.int .i64 x.f4).wf = true ∧ (Lit.int .i64 x.f5).wf = true ∧ (Lit.int .i64 x.f6).wf = true ∧ (Lit.int .i64 x.f7).wf = true ∧ (Lit.int .i64 x.f8).wf = true ∧ (Lit.int .i64 x.f9).wf = true)) : WfS56 x := by
  obtain ⟨g0, g1, g2, g3, g4, g5, g6, g7, g8, g9⟩ := h
  exact gwStr x.f0 g0
theorem gwLS56 (x : (List S56)) (h : (x.length ≤ maxLen ∧ ∀ y_x ∈ x, (y_x.f0.size ≤ maxLen ∧ (Lit.int .i64 y_x.f1).wf = true ∧ (Lit.int .i64 y_x.f2).wf = true ∧ True ∧ (Lit.int .i64 y_x.f4).wf = true ∧ (Lit.int .i64 y_x.f5).wf = true ∧ (Lit.int .i64 y_x.f6).wf = true ∧ (Lit.int .i64 y_x.f7).wf = true ∧ (Lit.int .i64 y_x.f8).wf = true ∧ (Lit.int .i64 y_x.f9).wf = true))) : WfLS56 x := ⟨by have := h.1; unfold maxLen at this; omega, fun y hy => gwS56 y (h.2 y hy)⟩
theorem gwS74 (x : S74) (h : ((Lit.int .i64 x.f0).wf = true ∧ (Lit.int .i64 x.f1).wf = true ∧ (Lit.int .i64 x.f2).wf = true ∧ (Lit.int .i64 x.f3).wf = true ∧ ((Lit.int .i64 x.f4.f0).wf = true ∧ x.f4.f1.size ≤ maxLen ∧ (Lit.int .i64 x.f4.f2).wf = true ∧ (Lit.int .i64 x.f4.f3).wf = true) ∧ (Lit.int .i64 x.f5).wf = true ∧ (Lit.int .i64 x.f6).wf = true ∧ (Lit.int .i64 x.f7).wf = true ∧ (Lit.int .i64 x.f8).wf = true ∧ (x.f9.length ≤ maxLen ∧ ∀ y_x_f9 ∈ x.f9, (y_x_f9.f0.size ≤ maxLen ∧ (Lit.int .i64 y_x_f9.f1).wf = true ∧ (Lit.int .i64 y_x_f9.f2).wf = true ∧ True ∧ (Lit.int .i64 y_x_f9.f4).wf = true ∧ (Lit.int .i64 y_x_f9.f5).wf = true ∧ (Lit.int .i64 y_x_f9.f6).wf = true ∧ (Lit.int .i64 y_x_f9.f7).wf = true ∧ (Lit.int .i64 y_x_f9.f8).wf = true ∧ (Lit.int .i64 y_x_f9.f9).wf = true)))) : WfS74 x := by
  obtain ⟨g0, g1, g2, g3, g4, g5, g6, g7, g8, g9⟩ := h
  exact ⟨gwS72 x.f4 g4, gwLS56 x.f9 g9⟩
theorem gwLS74 (x : (List S74)) (h : (x.length ≤ maxLen ∧ ∀ y_x ∈ x, ((Lit.int .i64 y_x.f0).wf = true ∧ (Lit.int .i64 y_x.f1).wf = true ∧ (Lit.int .i64 y_x.f2).wf = true ∧ (Lit.int .i64 y_x.f3).wf = true ∧ ((Lit.int .i64 y_x.f4.f0).wf = true ∧ y_x.f4.f1.size ≤ maxLen ∧ (Lit.int .i64 y_x.f4.f2).wf = true ∧ (Lit.int .i64 y_x.f4.f3).wf = true) ∧ (Lit.int .i64 y_x.f5).wf = true ∧ (Lit.int .i64 y_x.f6).wf = true ∧ (Lit.int .i64 y_x.f7).wf = true ∧ (Lit.int .i64 y_x.f8).wf = true ∧ (y_x.f9.length ≤ maxLen ∧ ∀ y_y_x_f9 ∈ y_x.f9, (y_y_x_f9.f0.size ≤ maxLen ∧ (Lit.int .i64 y_y_x_f9.f1).wf = true ∧ (Lit.int .i64 y_y_x_f9.f2).wf = true ∧ True ∧ (Lit.int .i64 y_y_x_f9.f4).wf = true ∧ (Lit.int .i64 y_y_x_f9.f5).wf = true ∧ (Lit.int .i64 y_y_x_f9.f6).wf = true ∧ (Lit.int .i64 y_y_x_f9.f7).wf = true ∧ (Lit.int .i64 y_y_x_f9.f8).wf = true ∧ (Lit.int .i64 y_y_x_f9.f9).wf = true))))) : WfLS74 x := ⟨by have := h.1; unfold maxLen at this; omega, fun y hy => gwS74 y (h.2 y hy)⟩
def toOpV (x : S72) : S75 := ⟨x.f0, x.f1, x.f2, x.f3⟩
def toRowV (x : S56) : S61 := ⟨x.f0, x.f1, x.f2, x.f3, x.f4, x.f5, x.f6, x.f7, x.f8, x.f9⟩
def toRowSV (l : (List S56)) : (List S61) := l.map toRowV
def toEvV (x : S74) : S77 := ⟨x.f0, x.f1, x.f2, x.f3, toOpV x.f4, x.f5, x.f6, x.f7, x.f8, toRowSV x.f9⟩
def toEvSV (l : (List S74)) : (List S77) := l.map toEvV
theorem toOp_ev (y : S72) (hb : BdS72 y) : Ev (fun _ => laws_toOp.f (y.f0) (y.f1) (y.f2) (y.f3)) ((toOpV y).f0, (toOpV y).f1, (toOpV y).f2, (toOpV y).f3) := by
  exact Ev.congr (fun k => rfl) (Ev.now _)
theorem toRow_ev (y : S56) (hb : BdS56 y) : Ev (fun _ => laws_toRow.f (y.f0) (y.f1) (y.f2) (y.f3) (y.f4) (y.f5) (y.f6) (y.f7) (y.f8) (y.f9)) ((toRowV y).f0, (toRowV y).f1, (toRowV y).f2, (toRowV y).f3, (toRowV y).f4, (toRowV y).f5, (toRowV y).f6, (toRowV y).f7, (toRowV y).f8, (toRowV y).f9) := by
  exact Ev.congr (fun k => rfl) (Ev.now _)
theorem toRowS_l0 (l : (List S56)) (hl : l.length ≤ 1048576) (hb : ∀ y ∈ l, BdS56 y) (d : Nat) : ∀ (out : (List S61)) (i : Nat), i + d = l.length → out.length = l.length → out.take i = (toRowSV l).take i → Ev (fun k => laws_toRowS.l0 k l out (i : Int)) (toRowSV l) := by
  have hlen : (toRowSV l).length = l.length := by simp [toRowSV]
  induction d with
  | zero =>
    intro out i hd ho ht
    refine Ev.step (f := fun _ => some (toRowSV l)) (fun k => ?_) (Ev.now _)
    simp only [laws_toRowS.l0]
    rw [if_neg (by omega)]
    have h1 : out.take i = out := List.take_of_length_le (by omega)
    have h2 : (toRowSV l).take i = toRowSV l := List.take_of_length_le (by omega)
    rw [← h1, ht, h2]
  | succ d ih =>
    intro out i hd ho ht
    have hi : i < l.length := by omega
    refine Ev.step (f := fun k => (laws_toRow.f (l[i].f0) (l[i].f1) (l[i].f2) (l[i].f3) (l[i].f4) (l[i].f5) (l[i].f6) (l[i].f7) (l[i].f8) (l[i].f9)).bind fun b => if (i : Int) < (out.length : Int) then laws_toRowS.l0 k l (out.set i (⟨b.1, b.2.1, b.2.2.1, b.2.2.2.1, b.2.2.2.2.1, b.2.2.2.2.2.1, b.2.2.2.2.2.2.1, b.2.2.2.2.2.2.2.1, b.2.2.2.2.2.2.2.2.1, b.2.2.2.2.2.2.2.2.2⟩ : S61)) (wrap64 ((i : Int) + 1)) else none) (fun k => ?_) (Ev.bind (toRow_ev l[i] (hb _ (List.getElem_mem hi))) ?_)
    · simp only [laws_toRowS.l0]
      rw [if_pos (by omega), if_pos (by omega), at_S56 l i hi, Int.toNat_natCast]
    · refine Ev.congr (fun k => ?_) (ih (out.set i (toRowV l[i])) (i + 1) (by omega) (by rw [List.length_set]; exact ho) ?_)
      · show (if (i : Int) < (out.length : Int) then _ else none) = _
        rw [if_pos (by omega), w64 (by omega) (by omega), succ_cast]
        try rfl
      · refine take_succ_ext _ _ i (by rw [List.length_set]; omega) (by omega) ?_ (by simp [toRowSV])
        rw [List.take_set_of_le (Nat.le_refl _)]
        exact ht
theorem toRowS_ev (l : (List S56)) (hb : BdLS56 l) : Ev (fun k => laws_toRowS.f k l) (toRowSV l) := by
  have hl : l.length ≤ 1048576 := hb.1
  refine Ev.congr (fun k => ?_) (toRowS_l0 l hl hb.2 l.length (List.replicate l.length z61) 0 (by omega) (by simp) (by simp))
  unfold laws_toRowS.f
  rw [if_pos (by omega), if_pos (by omega), Int.toNat_natCast]
  rfl
theorem toEv_ev (y : S74) (hb : BdS74 y) : Ev (fun k => laws_toEv.f k (y.f0) (y.f1) (y.f2) (y.f3) (y.f4.f0) (y.f4.f1) (y.f4.f2) (y.f4.f3) (y.f5) (y.f6) (y.f7) (y.f8) (y.f9)) ((toEvV y).f0, (toEvV y).f1, (toEvV y).f2, (toEvV y).f3, (toEvV y).f4.f0, (toEvV y).f4.f1, (toEvV y).f4.f2, (toEvV y).f4.f3, (toEvV y).f5, (toEvV y).f6, (toEvV y).f7, (toEvV y).f8, (toEvV y).f9) := by
  obtain ⟨w4, w9⟩ := hb
  unfold laws_toEv.f
  refine Ev.bind (toOp_ev y.f4 w4) ?_
  refine Ev.bind (toRowS_ev y.f9 w9) ?_
  exact Ev.now _
theorem toEvS_l0 (l : (List S74)) (hl : l.length ≤ 1048576) (hb : ∀ y ∈ l, BdS74 y) (d : Nat) : ∀ (out : (List S77)) (i : Nat), i + d = l.length → out.length = l.length → out.take i = (toEvSV l).take i → Ev (fun k => laws_toEvS.l0 k l out (i : Int)) (toEvSV l) := by
  have hlen : (toEvSV l).length = l.length := by simp [toEvSV]
  induction d with
  | zero =>
    intro out i hd ho ht
    refine Ev.step (f := fun _ => some (toEvSV l)) (fun k => ?_) (Ev.now _)
    simp only [laws_toEvS.l0]
    rw [if_neg (by omega)]
    have h1 : out.take i = out := List.take_of_length_le (by omega)
    have h2 : (toEvSV l).take i = toEvSV l := List.take_of_length_le (by omega)
    rw [← h1, ht, h2]
  | succ d ih =>
    intro out i hd ho ht
    have hi : i < l.length := by omega
    refine Ev.step (f := fun k => (laws_toEv.f k (l[i].f0) (l[i].f1) (l[i].f2) (l[i].f3) (l[i].f4.f0) (l[i].f4.f1) (l[i].f4.f2) (l[i].f4.f3) (l[i].f5) (l[i].f6) (l[i].f7) (l[i].f8) (l[i].f9)).bind fun b => if (i : Int) < (out.length : Int) then laws_toEvS.l0 k l (out.set i (⟨b.1, b.2.1, b.2.2.1, b.2.2.2.1, (⟨b.2.2.2.2.1, b.2.2.2.2.2.1, b.2.2.2.2.2.2.1, b.2.2.2.2.2.2.2.1⟩ : S75), b.2.2.2.2.2.2.2.2.1, b.2.2.2.2.2.2.2.2.2.1, b.2.2.2.2.2.2.2.2.2.2.1, b.2.2.2.2.2.2.2.2.2.2.2.1, b.2.2.2.2.2.2.2.2.2.2.2.2⟩ : S77)) (wrap64 ((i : Int) + 1)) else none) (fun k => ?_) (Ev.bind (toEv_ev l[i] (hb _ (List.getElem_mem hi))) ?_)
    · simp only [laws_toEvS.l0]
      rw [if_pos (by omega), if_pos (by omega), at_S74 l i hi, Int.toNat_natCast]
    · refine Ev.congr (fun k => ?_) (ih (out.set i (toEvV l[i])) (i + 1) (by omega) (by rw [List.length_set]; exact ho) ?_)
      · show (if (i : Int) < (out.length : Int) then _ else none) = _
        rw [if_pos (by omega), w64 (by omega) (by omega), succ_cast]
        try rfl
      · refine take_succ_ext _ _ i (by rw [List.length_set]; omega) (by omega) ?_ (by simp [toEvSV])
        rw [List.take_set_of_le (Nat.le_refl _)]
        exact ht
theorem toEvS_ev (l : (List S74)) (hb : BdLS74 l) : Ev (fun k => laws_toEvS.f k l) (toEvSV l) := by
  have hl : l.length ≤ 1048576 := hb.1
  refine Ev.congr (fun k => ?_) (toEvS_l0 l hl hb.2 l.length (List.replicate l.length z77) 0 (by omega) (by simp) (by simp))
  unfold laws_toEvS.f
  rw [if_pos (by omega), if_pos (by omega), Int.toNat_natCast]
  rfl
theorem eqOp_ev (y : S75) : Ev (fun _ => laws_eqOp.f (y.f0) (y.f1) (y.f2) (y.f3) (y.f0) (y.f1) (y.f2) (y.f3)) true := by
  refine ⟨0, fun k hk => ?_⟩
  unfold laws_eqOp.f
  simp only [if_true, bne_self_eq_false, Option.bind_some, Bool.false_eq_true, if_false]
theorem eqRow_ev (y : S61) : Ev (fun _ => laws_eqRow.f (y.f0) (y.f1) (y.f2) (y.f3) (y.f4) (y.f5) (y.f6) (y.f7) (y.f8) (y.f9) (y.f0) (y.f1) (y.f2) (y.f3) (y.f4) (y.f5) (y.f6) (y.f7) (y.f8) (y.f9)) true := by
  refine ⟨0, fun k hk => ?_⟩
  unfold laws_eqRow.f
  simp only [if_true, bne_self_eq_false, Option.bind_some, Bool.false_eq_true, if_false]
theorem at_S61 (x : List S61) (i : Nat) (h : i < x.length) : rd_T61 x (i : Int) = x[i] := by
  unfold rd_T61
  rw [Int.toNat_natCast, List.getD_eq_getElem?_getD, List.getElem?_eq_getElem h]
  rfl
theorem eqRowS_l0 (l : (List S61)) (hl : l.length ≤ 4611686018427387904) (d : Nat) : ∀ (i : Nat), i + d = l.length → Ev (fun k => laws_eqRowS.l0 k l l (i : Int)) true := by
  induction d with
  | zero =>
    intro i hd
    refine Ev.step (f := fun _ => some true) (fun k => ?_) (Ev.now _)
    simp only [laws_eqRowS.l0]
    rw [if_neg (by omega)]
  | succ d ih =>
    intro i hd
    have hi : i < l.length := by omega
    refine Ev.step (f := fun k => (laws_eqRow.f (l[i].f0) (l[i].f1) (l[i].f2) (l[i].f3) (l[i].f4) (l[i].f5) (l[i].f6) (l[i].f7) (l[i].f8) (l[i].f9) (l[i].f0) (l[i].f1) (l[i].f2) (l[i].f3) (l[i].f4) (l[i].f5) (l[i].f6) (l[i].f7) (l[i].f8) (l[i].f9)).bind fun b => if b = true then laws_eqRowS.l0 k l l (wrap64 ((i : Int) + 1)) else some false) (fun k => ?_) (Ev.bind (eqRow_ev l[i]) (Ev.congr (fun k => ?_) (ih (i + 1) (by omega))))
    · simp only [laws_eqRowS.l0]
      rw [if_pos (by omega), if_pos (by omega), if_pos (by omega), at_S61 l i hi]
    · show (if true = true then _ else some false) = _
      rw [if_pos rfl, w64 (by omega) (by omega), succ_cast]
theorem eqRowS_ev (l : (List S61)) (hw : (l.length ≤ 4611686018427387904)) : Ev (fun k => laws_eqRowS.f k l l) true := by
  refine Ev.congr (fun k => ?_) (eqRowS_l0 l hw l.length 0 (by omega))
  unfold laws_eqRowS.f
  rw [if_pos rfl]
  rfl
theorem eqEv_ev (y : S77) (hw : ((y.f9.length ≤ 4611686018427387904))) : Ev (fun k => laws_eqEv.f k (y.f0) (y.f1) (y.f2) (y.f3) (y.f4.f0) (y.f4.f1) (y.f4.f2) (y.f4.f3) (y.f5) (y.f6) (y.f7) (y.f8) (y.f9) (y.f0) (y.f1) (y.f2) (y.f3) (y.f4.f0) (y.f4.f1) (y.f4.f2) (y.f4.f3) (y.f5) (y.f6) (y.f7) (y.f8) (y.f9)) true := by
  have w9 := hw
  obtain ⟨K4, e4⟩ := eqOp_ev y.f4
  obtain ⟨K9, e9⟩ := eqRowS_ev y.f9 w9
  refine ⟨K4 + K9, fun k hk => ?_⟩
  have q4 := e4 k (by omega)
  have q9 := e9 k (by omega)
  simp only at q4 q9
  unfold laws_eqEv.f
  simp only [q4, q9, if_true, bne_self_eq_false, Option.bind_some, Bool.false_eq_true, if_false]
theorem at_S77 (x : List S77) (i : Nat) (h : i < x.length) : rd_T77 x (i : Int) = x[i] := by
  unfold rd_T77
  rw [Int.toNat_natCast, List.getD_eq_getElem?_getD, List.getElem?_eq_getElem h]
  rfl
theorem eqEvS_l0 (l : (List S77)) (hl : l.length ≤ 4611686018427387904) (hw : ∀ y ∈ l, ((y.f9.length ≤ 4611686018427387904))) (d : Nat) : ∀ (i : Nat), i + d = l.length → Ev (fun k => laws_eqEvS.l0 k l l (i : Int)) true := by
  induction d with
  | zero =>
    intro i hd
    refine Ev.step (f := fun _ => some true) (fun k => ?_) (Ev.now _)
    simp only [laws_eqEvS.l0]
    rw [if_neg (by omega)]
  | succ d ih =>
    intro i hd
    have hi : i < l.length := by omega
    refine Ev.step (f := fun k => (laws_eqEv.f k (l[i].f0) (l[i].f1) (l[i].f2) (l[i].f3) (l[i].f4.f0) (l[i].f4.f1) (l[i].f4.f2) (l[i].f4.f3) (l[i].f5) (l[i].f6) (l[i].f7) (l[i].f8) (l[i].f9) (l[i].f0) (l[i].f1) (l[i].f2) (l[i].f3) (l[i].f4.f0) (l[i].f4.f1) (l[i].f4.f2) (l[i].f4.f3) (l[i].f5) (l[i].f6) (l[i].f7) (l[i].f8) (l[i].f9)).bind fun b => if b = true then laws_eqEvS.l0 k l l (wrap64 ((i : Int) + 1)) else some false) (fun k => ?_) (Ev.bind (eqEv_ev l[i] (hw _ (List.getElem_mem hi))) (Ev.congr (fun k => ?_) (ih (i + 1) (by omega))))
    · simp only [laws_eqEvS.l0]
      rw [if_pos (by omega), if_pos (by omega), if_pos (by omega), at_S77 l i hi]
    · show (if true = true then _ else some false) = _
      rw [if_pos rfl, w64 (by omega) (by omega), succ_cast]
theorem eqEvS_ev (l : (List S77)) (hw : (l.length ≤ 4611686018427387904 ∧ ∀ y1_ ∈ l, ((y1_.f9.length ≤ 4611686018427387904)))) : Ev (fun k => laws_eqEvS.f k l l) true := by
  refine Ev.congr (fun k => ?_) (eqEvS_l0 l hw.1 hw.2 l.length 0 (by omega))
  unfold laws_eqEvS.f
  rw [if_pos rfl]
  rfl
theorem toRowS_wl (l : (List S56)) (hb : BdLS56 l) : ((toRowSV l).length ≤ 4611686018427387904) := by
  have := hb.1
  simp [toRowSV]
  omega
theorem toEv_wl (y : S74) (hb : BdS74 y) : (((toEvV y).f9.length ≤ 4611686018427387904)) := by
  obtain ⟨w4, w9⟩ := hb
  exact toRowS_wl y.f9 w9
theorem toEvS_wl (l : (List S74)) (hb : BdLS74 l) : ((toEvSV l).length ≤ 4611686018427387904 ∧ ∀ y10_ ∈ (toEvSV l), ((y10_.f9.length ≤ 4611686018427387904))) := by
  refine ⟨by have := hb.1; simp [toEvSV]; omega, fun y hy => ?_⟩
  obtain ⟨x, hx, rfl⟩ := List.mem_map.mp hy
  exact toEv_wl x (hb.2 x hx)
/-- The place of an event's kind and serial; or -1. -/
def po (l : List S77) (kind serial : Int) : Int := firstAt (impl_PlaceOf.g kind serial) l 0
theorem firstAt_in {α : Type} (g : α → Bool) (l : List α) : ∀ j : Int, firstAt g l j = -1 ∨ (j ≤ firstAt g l j ∧ firstAt g l j < j + l.length) := by
  induction l with
  | nil => intro j; exact .inl rfl
  | cons x xs ih =>
    intro j
    simp only [firstAt, List.length_cons]
    split
    · exact .inr ⟨Int.le_refl _, by omega⟩
    · rcases ih (j + 1) with h | h
      · exact .inl h
      · exact .inr ⟨by omega, by omega⟩
theorem po_in (l : List S77) (kind serial : Int) : po l kind serial = -1 ∨ (0 ≤ po l kind serial ∧ po l kind serial < l.length) := by
  have := firstAt_in (impl_PlaceOf.g kind serial) l 0
  unfold po
  omega
theorem implPO_f (l : List S77) (kind serial : Int) : impl_PlaceOf.f l kind serial = some (po l kind serial) := rfl
theorem specPO_l0 (l : List S77) (kind serial : Int) (hl : l.length ≤ 4611686018427387904) (d : Nat) : ∀ (i : Nat), i + d = l.length → ∀ k, d < k → spec_PlaceOf.l0 k l kind serial (i : Int) = some (firstAt (impl_PlaceOf.g kind serial) (l.drop i) (i : Int)) := by
  induction d with
  | zero =>
    intro i hd k hk
    obtain ⟨k, rfl⟩ : ∃ m, k = m + 1 := ⟨k - 1, by omega⟩
    simp only [spec_PlaceOf.l0]
    rw [if_neg (by omega), List.drop_of_length_le (by omega)]
    rfl
  | succ d ih =>
    intro i hd k hk
    obtain ⟨k, rfl⟩ : ∃ m, k = m + 1 := ⟨k - 1, by omega⟩
    have hi : i < l.length := by omega
    simp only [spec_PlaceOf.l0]
    rw [if_pos (by omega), if_pos (by omega), at_S77 l i hi, w64 (i := (i : Int) + 1) (by omega) (by omega), succ_cast, List.drop_eq_getElem_cons hi, ih (i + 1) (by omega) k (by omega)]
    simp only [firstAt, impl_PlaceOf.g, Bool.and_eq_true, beq_iff_eq]
    rw [← succ_cast]
    by_cases h1 : l[i].f0 = kind
    · rw [if_pos h1]
      by_cases h2 : l[i].f2 = serial
      · rw [if_pos h2, if_pos ⟨h1, h2⟩]
      · rw [if_neg h2, if_neg (fun h => h2 h.2)]
    · rw [if_neg h1, if_neg (fun h => h1 h.1)]
theorem specPO_f (l : List S77) (kind serial : Int) (hl : l.length ≤ 4611686018427387904) (k : Nat) (hk : l.length < k) : spec_PlaceOf.f k l kind serial = some (po l kind serial) :=
  specPO_l0 l kind serial hl l.length 0 (by omega) k hk
theorem sonSize (c : Int) : (strOfNums [c]).size = 1 := rfl
theorem markText_l0 (d : Nat) : ∀ (k n : Nat) (acc : ByteArray), n < 10 ^ d → n ≤ 9223372036854775807 → acc.size + d ≤ 1000 → d < k → ∃ b, laws_markText.l0 k (n : Int) acc = some b := by
  induction d with
  | zero =>
    intro k n acc hn hb ha hk
    obtain ⟨k, rfl⟩ : ∃ m, k = m + 1 := ⟨k - 1, by omega⟩
    have : n = 0 := by simpa using hn
    subst this
    simp only [laws_markText.l0]
    rw [if_neg (by omega), if_pos (by omega)]
    exact ⟨_, rfl⟩
  | succ d ih =>
    intro k n acc hn hb ha hk
    obtain ⟨k, rfl⟩ : ∃ m, k = m + 1 := ⟨k - 1, by omega⟩
    simp only [laws_markText.l0]
    by_cases h0 : (n : Int) > 0
    · rw [if_pos h0]
      simp only [Option.bind_some]
      rw [if_pos (by rw [sonSize]; omega)]
      have hd : n / 10 < 10 ^ d := by
        rw [Nat.div_lt_iff_lt_mul (by omega)]
        rw [Nat.pow_succ] at hn
        exact hn
      obtain ⟨b, hb⟩ := ih k (n / 10) (strOfNums [(wrap64 (48 + (Int.tmod (n : Int) 10))) % 256] ++ acc) hd (by omega) (by rw [ByteArray.size_append, sonSize]; omega) (by omega)
      refine ⟨b, ?_⟩
      rw [Int.tdiv_eq_ediv_of_nonneg (by omega), w64 (by omega) (by omega)]
      exact hb
    · rw [if_neg h0, if_pos (by omega)]
      exact ⟨_, rfl⟩
def mtB (m : Int) : ByteArray := (laws_markText.f 100 m).getD ByteArray.empty
theorem markText_f (m : Int) (h0 : 0 ≤ m) (h1 : m ≤ 9223372036854775807) (k : Nat) (hk : 100 ≤ k) : laws_markText.f k m = some (mtB m) := by
  have : ∃ b, laws_markText.f 100 m = some b := by
    unfold laws_markText.f
    by_cases h : m ≤ 0
    · rw [if_pos h]
      exact ⟨_, rfl⟩
    · rw [if_neg h]
      obtain ⟨n, rfl⟩ := Int.eq_ofNat_of_zero_le h0
      have hn : n < 10 ^ 19 := Nat.lt_of_le_of_lt (show n ≤ 9223372036854775807 by omega) (by decide)
      exact markText_l0 19 100 n _ hn (by omega) (by decide) (by omega)
  obtain ⟨b, hb⟩ := this
  have e : mtB m = b := by
    unfold mtB
    rw [hb]
    rfl
  rw [e]
  exact at_rounds (g := fun k => laws_markText.f k m) (fun k => laws_markText.mono m k) hk hb
def mkRow (m : Int) : S61 := ⟨mtB m, m + 1, m + 2, (Int.tmod (m + 3) 3 == 0), m + 4, m + 5, m + 6, m + 7, m + 8, m + 9⟩
theorem markRow_step (x : List S61) (m : Int) (i k : Nat) (hi : i < x.length) (hx : x.length ≤ 140737488355328) (hm : 0 ≤ m) (hm2 : m ≤ 4611686018427387904) (hk : 100 ≤ k) : laws_markRowS.l0 (k + 1) x m (i : Int) = laws_markRowS.l0 k (x.set i (mkRow m)) (m + 10) ((i + 1 : Nat) : Int) := by
  have hr : ∀ v, rd_T61 (x.set i v) (i : Int) = v := fun v => by
    rw [at_S61 _ i (by rw [List.length_set]; exact hi), List.getElem_set_self]
  have e1 : wrap64 (m + 1) = m + 1 := w64 (by omega) (by omega)
  have e2 : wrap64 (m + 1 + 1) = m + 2 := by rw [w64 (by omega) (by omega)]; omega
  have e3 : wrap64 (m + 2 + 1) = m + 3 := by rw [w64 (by omega) (by omega)]; omega
  have e4 : wrap64 (m + 3 + 1) = m + 4 := by rw [w64 (by omega) (by omega)]; omega
  have e5 : wrap64 (m + 4 + 1) = m + 5 := by rw [w64 (by omega) (by omega)]; omega
  have e6 : wrap64 (m + 5 + 1) = m + 6 := by rw [w64 (by omega) (by omega)]; omega
  have e7 : wrap64 (m + 6 + 1) = m + 7 := by rw [w64 (by omega) (by omega)]; omega
  have e8 : wrap64 (m + 7 + 1) = m + 8 := by rw [w64 (by omega) (by omega)]; omega
  have e9 : wrap64 (m + 8 + 1) = m + 9 := by rw [w64 (by omega) (by omega)]; omega
  have e10 : wrap64 (m + 9 + 1) = m + 10 := by rw [w64 (by omega) (by omega)]; omega
  have ei : wrap64 ((i : Int) + 1) = ((i + 1 : Nat) : Int) := by rw [w64 (by omega) (by omega)]; omega
  have hi0 : (i : Int) < (x.length : Int) := Int.ofNat_lt.mpr hi
  have hi1 : (0 : Int) ≤ (i : Int) := Int.natCast_nonneg i
  simp only [laws_markRowS.l0]
  rw [if_pos hi0, markText_f m hm (by omega) k hk]
  simp only [Option.bind_some, Int.toNat_natCast, List.set_set, hr, e1, e2, e3, e4, e5, e6, e7, e8, e9, e10, ei]
  rw [if_pos hi1]
  rfl
def markedRows (m : Int) (n : Nat) : List S61 := (List.range n).map fun j : Nat => mkRow (m + 10 * (j : Int))
theorem markRowS_l0 (d : Nat) : ∀ (k : Nat) (x : List S61) (m : Int) (i : Nat), i + d = x.length → x.length ≤ 140737488355328 → 0 ≤ m → m + 10 * d ≤ 4611686018427387904 → d + 101 < k →
    ∃ y, laws_markRowS.l0 k x m (i : Int) = some (m + 10 * d, y) ∧ y.length = x.length ∧ (∀ j, j < i → y[j]? = x[j]?) ∧ (∀ j, i ≤ j → j < x.length → y[j]? = some (mkRow (m + 10 * (j - i)))) := by
  induction d with
  | zero =>
    intro k x m i hd hn hm hm2 hk
    obtain ⟨k, rfl⟩ : ∃ m, k = m + 1 := ⟨k - 1, by omega⟩
    refine ⟨x, ?_, rfl, fun _ _ => rfl, fun j h1 h2 => by omega⟩
    simp only [laws_markRowS.l0]
    rw [if_neg (by omega)]
    simp
  | succ d ih =>
    intro k x m i hd hn hm hm2 hk
    obtain ⟨k, rfl⟩ : ∃ m, k = m + 1 := ⟨k - 1, by omega⟩
    obtain ⟨y, h1, h2, h3, h4⟩ := ih k (x.set i (mkRow m)) (m + 10) (i + 1) (by rw [List.length_set]; omega) (by rw [List.length_set]; omega) (by omega) (by omega) (by omega)
    rw [List.length_set] at h2 h4
    refine ⟨y, ?_, h2, fun j hj => ?_, fun j hj hj2 => ?_⟩
    · rw [markRow_step x m i k (by omega) hn hm (by omega) (by omega), h1]
      have : m + 10 + 10 * (d : Int) = m + 10 * ((d + 1 : Nat) : Int) := by omega
      rw [this]
    · rw [h3 j (by omega), List.getElem?_set_ne (by omega)]
    · by_cases e : j = i
      · subst e
        rw [h3 j (by omega), List.getElem?_set_self (by omega)]
        congr 2; omega
      · rw [h4 j (by omega) (by omega)]
        congr 2; omega
theorem markRowS_f (x : List S61) (hn : x.length ≤ 140737488355328) (m : Int) (hm : 0 ≤ m) (hm2 : m ≤ 140737488355328) (k : Nat) (hk : x.length + 101 < k) : laws_markRowS.f k x m = some (m + 10 * x.length, markedRows m x.length) := by
  obtain ⟨y, h1, h2, h3, h4⟩ := markRowS_l0 x.length k x m 0 (by omega) hn hm (by omega) hk
  have : y = markedRows m x.length := by
    refine List.ext_getElem? (fun j => ?_)
    by_cases hj : j < x.length
    · rw [h4 j (by omega) hj]
      simp [markedRows, hj]
    · rw [List.getElem?_eq_none (by omega), List.getElem?_eq_none (by simp [markedRows]; omega)]
  rw [← this]
  exact h1
theorem markEvS_go (l : List S77) (hb : ∀ x ∈ l, x.f9.length ≤ 1048576) (k : Nat) (hk : 1048700 < k) : ∀ (n : Nat) (m : Int), l.length ≤ n → n ≤ 1048576 → 0 ≤ m → m + 10485800 * n ≤ 140737488355328 → ∃ r y, laws_markEvS.go k l m = some (r, y) ∧ 0 ≤ r := by
  induction l with
  | nil => intro n m _ _ hm _; exact ⟨m, [], rfl, hm⟩
  | cons x xs ih =>
    intro n m hl hn hm hm2
    obtain ⟨n, rfl⟩ : ∃ q, n = q + 1 := ⟨n - 1, by simp at hl; omega⟩
    have hx := hb x (by simp)
    obtain ⟨r, y, h1, h2⟩ := ih (fun z hz => hb z (by simp [hz])) n (m + 12 + 10 * x.f9.length) (by simpa using hl) (by omega) (by omega) (by omega)
    have t1 := markText_f (m + 5) (by omega) (by omega) k (by omega)
    have t2 := markRowS_f x.f9 (by omega) (m + 12) (by omega) (by omega) k (by omega)
    have e1 : wrap64 (m + 1) = m + 1 := w64 (by omega) (by omega)
    have e2 : wrap64 (m + 1 + 1) = m + 2 := by rw [w64 (by omega) (by omega)]; omega
    have e3 : wrap64 (m + 2 + 1) = m + 3 := by rw [w64 (by omega) (by omega)]; omega
    have e4 : wrap64 (m + 3 + 1) = m + 4 := by rw [w64 (by omega) (by omega)]; omega
    have e5 : wrap64 (m + 4 + 1) = m + 5 := by rw [w64 (by omega) (by omega)]; omega
    have e6 : wrap64 (m + 5 + 1) = m + 6 := by rw [w64 (by omega) (by omega)]; omega
    have e7 : wrap64 (m + 6 + 1) = m + 7 := by rw [w64 (by omega) (by omega)]; omega
    have e8 : wrap64 (m + 7 + 1) = m + 8 := by rw [w64 (by omega) (by omega)]; omega
    have e9 : wrap64 (m + 8 + 1) = m + 9 := by rw [w64 (by omega) (by omega)]; omega
    have e10 : wrap64 (m + 9 + 1) = m + 10 := by rw [w64 (by omega) (by omega)]; omega
    have e11 : wrap64 (m + 10 + 1) = m + 11 := by rw [w64 (by omega) (by omega)]; omega
    have e12 : wrap64 (m + 11 + 1) = m + 12 := by rw [w64 (by omega) (by omega)]; omega
    have key : laws_markEvS.go k (x :: xs) m = some (r, (⟨m, m + 1, m + 2, m + 3, ⟨m + 4, mtB (m + 5), m + 6, m + 7⟩, m + 8, m + 9, m + 10, m + 11, markedRows (m + 12) x.f9.length⟩ : S77) :: y) := by
      simp only [laws_markEvS.go, e1, e2, e3, e4, e5, e6, e7, e8, e9, e10, e11, e12, t1, t2, h1, Option.bind_some]
    exact ⟨r, _, key, h2⟩
theorem eqIntS_l0 (a b : List Int) (hn : a.length ≤ 140737488355328) (hab : a.length = b.length) (d : Nat) : ∀ (k i : Nat), i + d = a.length → d < k → laws_eqIntS.l0 k a b (i : Int) = some (decide (a.drop i = b.drop i)) := by
  induction d with
  | zero =>
    intro k i hd hk
    obtain ⟨k, rfl⟩ : ∃ m, k = m + 1 := ⟨k - 1, by omega⟩
    simp only [laws_eqIntS.l0]
    rw [if_neg (by omega), List.drop_of_length_le (by omega), List.drop_of_length_le (by omega)]
    rfl
  | succ d ih =>
    intro k i hd hk
    obtain ⟨k, rfl⟩ : ∃ m, k = m + 1 := ⟨k - 1, by omega⟩
    simp only [laws_eqIntS.l0]
    rw [if_pos (by omega), if_pos (by omega), if_pos (by omega), rd_at a i (by omega), rd_at b i (by omega), w64 (by omega) (by omega), succ_cast]
    have ea : a.drop i = a[i] :: a.drop (i + 1) := List.drop_eq_getElem_cons (by omega)
    have eb : b.drop i = b[i] :: b.drop (i + 1) := List.drop_eq_getElem_cons (by omega)
    by_cases h : a[i] = b[i]
    · rw [if_pos h, ih k (i + 1) (by omega) (by omega), ea, eb]
      simp only [h, List.cons.injEq, true_and]
    · rw [if_neg h, ea, eb]
      simp only [h, List.cons.injEq, false_and, decide_false]
theorem eqIntS_f (a b : List Int) (hn : a.length ≤ 140737488355328) (k : Nat) (hk : a.length < k) : laws_eqIntS.f k a b = some (decide (a = b)) := by
  unfold laws_eqIntS.f
  by_cases h : a.length = b.length
  · rw [if_pos (by omega)]
    have := eqIntS_l0 a b hn h a.length k 0 (by omega) hk
    simpa using this
  · rw [if_neg (by omega)]
    have : a ≠ b := fun e => h (by rw [e])
    simp [this]
theorem markIntS_l0 (d : Nat) : ∀ (k : Nat) (x : List Int) (m : Int) (i : Nat), i + d = x.length → x.length ≤ 140737488355328 → 0 ≤ m → m + d ≤ 4611686018427387904 → d < k →
    ∃ y, laws_markIntS.l0 k x m (i : Int) = some (m + d, y) ∧ y.length = x.length ∧ (∀ j, j < i → y[j]? = x[j]?) ∧ (∀ j, i ≤ j → j < x.length → y[j]? = some (m + (j - i))) := by
  induction d with
  | zero =>
    intro k x m i hd hn hm hm2 hk
    obtain ⟨k, rfl⟩ : ∃ m, k = m + 1 := ⟨k - 1, by omega⟩
    refine ⟨x, ?_, rfl, fun _ _ => rfl, fun j h1 h2 => by omega⟩
    simp only [laws_markIntS.l0]
    rw [if_neg (by omega)]
    simp
  | succ d ih =>
    intro k x m i hd hn hm hm2 hk
    obtain ⟨k, rfl⟩ : ∃ m, k = m + 1 := ⟨k - 1, by omega⟩
    obtain ⟨y, h1, h2, h3, h4⟩ := ih k (x.set i m) (m + 1) (i + 1) (by rw [List.length_set]; omega) (by rw [List.length_set]; omega) (by omega) (by omega) (by omega)
    rw [List.length_set] at h2 h4
    refine ⟨y, ?_, h2, fun j hj => ?_, fun j hj hj2 => ?_⟩
    · simp only [laws_markIntS.l0]
      rw [if_pos (by omega), if_pos (by omega), w64 (by omega) (by omega), w64 (by omega) (by omega), succ_cast, Int.toNat_natCast, h1]
      have : m + 1 + (d : Int) = m + ((d + 1 : Nat) : Int) := by omega
      rw [this]
    · rw [h3 j (by omega), List.getElem?_set_ne (by omega)]
    · by_cases e : j = i
      · subst e
        rw [h3 j (by omega), List.getElem?_set_self (by omega)]
        congr 1; omega
      · rw [h4 j (by omega) (by omega)]
        congr 1; omega
theorem heldIntS_l0 (y : List Int) (hn : y.length ≤ 140737488355328) (d : Nat) : ∀ (k : Nat) (m : Int) (i : Nat), i + d = y.length → 0 ≤ m → m + d ≤ 4611686018427387904 → d < k →
    (∀ j, i ≤ j → j < y.length → y[j]? = some (m + (j - i))) → laws_heldIntS.l0 k y m (i : Int) = some (m + d) := by
  induction d with
  | zero =>
    intro k m i hd hm hm2 hk h
    obtain ⟨k, rfl⟩ : ∃ m, k = m + 1 := ⟨k - 1, by omega⟩
    simp only [laws_heldIntS.l0]
    rw [if_neg (by omega)]
    simp
  | succ d ih =>
    intro k m i hd hm hm2 hk h
    obtain ⟨k, rfl⟩ : ∃ m, k = m + 1 := ⟨k - 1, by omega⟩
    simp only [laws_heldIntS.l0]
    have hi := h i (Nat.le_refl _) (by omega)
    rw [List.getElem?_eq_getElem (by omega)] at hi
    have hi2 := Option.some.inj hi
    rw [if_pos (by omega), if_pos (by omega), rd_at y i (by omega), if_pos (by rw [hi2]; omega), w64 (by omega) (by omega), w64 (by omega) (by omega), succ_cast]
    rw [ih k (m + 1) (i + 1) (by omega) (by omega) (by omega) (by omega) (fun j h1 h2 => by rw [h j (by omega) h2]; congr 1; omega)]
    congr 1; omega
def markedI (m : Int) (n : Nat) : List Int := (List.range n).map fun j : Nat => m + (j : Int)
theorem markIntS_f (x : List Int) (hn : x.length ≤ 140737488355328) (m : Int) (hm : 0 ≤ m) (hm2 : m ≤ 140737488355328) (k : Nat) (hk : x.length < k) : laws_markIntS.f k x m = some (m + x.length, markedI m x.length) := by
  obtain ⟨y, h1, h2, h3, h4⟩ := markIntS_l0 x.length k x m 0 (by omega) hn hm (by omega) hk
  have : y = markedI m x.length := by
    refine List.ext_getElem? (fun j => ?_)
    by_cases hj : j < x.length
    · rw [h4 j (by omega) hj]
      simp [markedI, hj]
    · rw [List.getElem?_eq_none (by omega), List.getElem?_eq_none (by simp [markedI]; omega)]
  rw [← this]
  exact h1
theorem heldIntS_f (m : Int) (n : Nat) (hn : n ≤ 140737488355328) (hm : 0 ≤ m) (hm2 : m ≤ 140737488355328) (k : Nat) (hk : n < k) : laws_heldIntS.f k (markedI m n) m = some (m + n) := by
  have hl : (markedI m n).length = n := by simp [markedI]
  have := heldIntS_l0 (markedI m n) (by omega) n k m 0 (by omega) hm (by omega) hk (fun j a b => by rw [hl] at b; simp [markedI, b])
  exact this
def insL : List Int → Int → List Int → List Int
  | [], v, S => v :: S
  | p :: P, v, S => if p > v then insL P v (p :: S) else P.reverse ++ p :: v :: S
theorem insL_perm : ∀ (q : List Int) (v : Int) (S : List Int), (insL q v S).Perm (q.reverse ++ v :: S)
  | [], v, S => List.Perm.refl _
  | p :: P, v, S => by
    have e : (p :: P).reverse ++ v :: S = P.reverse ++ p :: v :: S := by simp
    rw [e]
    simp only [insL]
    by_cases h : p > v
    · rw [if_pos h]
      exact (insL_perm P v (p :: S)).trans (List.Perm.append_left _ (List.Perm.swap p v S))
    · rw [if_neg h]
theorem insL_sorted : ∀ (q : List Int) (v : Int) (S : List Int), (q.reverse ++ S).Pairwise (fun a b => a ≤ b) → (∀ s ∈ S, v ≤ s) → (insL q v S).Pairwise (fun a b => a ≤ b)
  | [], v, S, h, hv => by
    simp only [insL]
    exact List.Pairwise.cons hv (by simpa using h)
  | p :: P, v, S, h, hv => by
    have e : (p :: P).reverse ++ S = P.reverse ++ p :: S := by simp
    rw [e] at h
    simp only [insL]
    by_cases hp : p > v
    · rw [if_pos hp]
      refine insL_sorted P v (p :: S) h ?_
      intro s hs
      rcases List.mem_cons.1 hs with rfl | hs
      · omega
      · exact hv s hs
    · rw [if_neg hp]
      obtain ⟨hP, hpS, hc⟩ := List.pairwise_append.1 h
      obtain ⟨hpa, hS⟩ := List.pairwise_cons.1 hpS
      refine List.pairwise_append.2 ⟨hP, List.Pairwise.cons ?_ (List.Pairwise.cons hv hS), ?_⟩
      · intro s hs
        rcases List.mem_cons.1 hs with rfl | hs
        · omega
        · exact hpa s hs
      · intro a ha s hs
        have hap := hc a ha p (by simp)
        rcases List.mem_cons.1 hs with rfl | hs
        · exact hap
        · rcases List.mem_cons.1 hs with rfl | hs
          · omega
          · exact hc a ha s (by simp [hs])
theorem l0_up (x : List Int) (i : Int) (k : Nat) : ∀ (m : Nat) (r : List Int), spec_l16Sort.l0 k x i = some r → spec_l16Sort.l0 (k + m) x i = some r
  | 0, r, h => h
  | m + 1, r, h => (spec_l16Sort.mono_l (k + m)).1 x i r (l0_up x i k m r h)
theorem rd_mid (P : List Int) (h : Int) (R : List Int) : rd (P ++ h :: R) (P.length : Int) = h := by
  rw [rd_at _ P.length (by simp)]
  simp
theorem set_mid (P : List Int) (h v : Int) (R : List Int) : (P ++ h :: R).set P.length v = P ++ v :: R := by
  rw [List.set_append_right _ _ (Nat.le_refl _), Nat.sub_self]
  rfl
theorem l1_ins (k i : Nat) (v : Int) (R : List Int) : ∀ (q : List Int) (h : Int) (S r : List Int), q.length + S.length = i → i + 1 + R.length ≤ 1048576 → spec_l16Sort.l0 k (insL q v S ++ R) ((i + 1 : Nat) : Int) = some r → spec_l16Sort.l1 (k + q.length + 1) (q.reverse ++ h :: (S ++ R)) (i : Int) v (q.length : Int) = some r := by
  intro q
  induction q with
  | nil =>
    intro h S r h1 h2 h3
    have hA : ((0 : Nat) : Int) < ((h :: (S ++ R)).length : Int) := by simp; omega
    have ew : wrap64 ((i : Int) + 1) = ((i + 1 : Nat) : Int) := by rw [w64 (by omega) (by omega)]; omega
    obtain ⟨k0, hk0⟩ : ∃ q, q = k := ⟨_, rfl⟩
    simp only [List.reverse_nil, List.nil_append, List.length_nil, Nat.add_zero]
    rw [← hk0]
    simp only [spec_l16Sort.l1]
    rw [if_neg (by omega), if_pos (by omega), if_pos hA, ew, hk0]
    exact h3
  | cons p P ih =>
    intro h S r h1 h2 h3
    simp only [List.length_cons] at h1
    have hx : (p :: P).reverse ++ h :: (S ++ R) = P.reverse ++ p :: (h :: (S ++ R)) := by simp
    have hx2 : P.reverse ++ p :: (h :: (S ++ R)) = (P.reverse ++ [p]) ++ h :: (S ++ R) := by simp
    have hl : ((P.reverse ++ p :: (h :: (S ++ R))).length : Int) = P.length + 2 + S.length + R.length := by simp; omega
    have r1 : rd (P.reverse ++ p :: (h :: (S ++ R))) (P.length : Int) = p := by
      have := rd_mid P.reverse p (h :: (S ++ R))
      rwa [List.length_reverse] at this
    have hs : ∀ u, (P.reverse ++ p :: (h :: (S ++ R))).set (P.length + 1) u = P.reverse ++ p :: u :: (S ++ R) := by
      intro u
      have := set_mid (P.reverse ++ [p]) h u (S ++ R)
      rw [hx2]
      have e2 : (P.reverse ++ [p]).length = P.length + 1 := by simp
      rw [e2] at this
      rw [this]
      simp
    have h4 : ¬ (p > v) → spec_l16Sort.l0 (k + (P.length + 1)) (P.reverse ++ p :: v :: (S ++ R)) ((i + 1 : Nat) : Int) = some r := by
      intro hp
      have := l0_up _ _ k (P.length + 1) r h3
      simp only [insL, if_neg hp] at this
      simpa using this
    have hi1 : ((P.length + 1 : Nat) : Int) > 0 := by omega
    have hi2 : 0 ≤ ((P.length + 1 : Nat) : Int) := by omega
    have hi3 : ((P.length + 1 : Nat) : Int) < P.length + 2 + S.length + R.length := by omega
    have hi4 : (0 : Int) ≤ (P.length : Int) := by omega
    have hi5 : (P.length : Int) < P.length + 2 + S.length + R.length := by omega
    have w1 : wrap64 (((P.length + 1 : Nat) : Int) - 1) = (P.length : Int) := by rw [w64 (by omega) (by omega)]; omega
    have ew : wrap64 ((i : Int) + 1) = ((i + 1 : Nat) : Int) := by rw [w64 (by omega) (by omega)]; omega
    rw [hx]
    simp only [List.length_cons]
    obtain ⟨k0, hk0⟩ : ∃ q, q = k + (P.length + 1) := ⟨_, rfl⟩
    rw [← hk0] at h4 ⊢
    simp only [spec_l16Sort.l1, w1, hl, r1, ew, Int.toNat_natCast, hs]
    rw [if_pos hi1, if_pos hi4, if_pos hi5]
    by_cases hp : p > v
    · rw [if_pos hp, if_pos hi2, if_pos hi3, hk0]
      refine ih p (p :: S) r (by simp only [List.length_cons]; omega) h2 ?_
      simp only [insL, if_pos hp] at h3
      exact h3
    · rw [if_neg hp, if_pos hi2, if_pos hi3]
      exact h4 hp
theorem l0_sort (d : Nat) : ∀ (k : Nat) (L R orig : List Int), R.length = d → L.length + d ≤ 1048576 → L.Pairwise (fun a b => a ≤ b) → (L ++ R).Perm orig → d * 1048580 + 1 < k → ∃ r, spec_l16Sort.l0 k (L ++ R) (L.length : Int) = some r ∧ r.Pairwise (fun a b => a ≤ b) ∧ r.Perm orig := by
  induction d with
  | zero =>
    intro k L R orig hR hl hs hp hk
    obtain rfl := List.length_eq_zero_iff.1 hR
    obtain ⟨k, rfl⟩ : ∃ m, k = m + 1 := ⟨k - 1, by omega⟩
    rw [List.append_nil] at hp ⊢
    refine ⟨L, ?_, hs, hp⟩
    simp only [spec_l16Sort.l0]
    rw [if_neg (by omega)]
  | succ d ih =>
    intro k L R orig hR hl hs hp hk
    cases R with
    | nil => simp at hR
    | cons v R =>
      simp only [List.length_cons] at hR
      obtain ⟨k, rfl⟩ : ∃ m, k = m + 1 := ⟨k - 1, by omega⟩
      have p1 := insL_perm L.reverse v []
      rw [List.reverse_reverse] at p1
      have hlen : (insL L.reverse v []).length = L.length + 1 := by
        have := p1.length_eq
        simpa using this
      obtain ⟨C, hC⟩ : ∃ C : Nat, C = 1048580 := ⟨_, rfl⟩
      rw [← hC] at hk ih
      rw [Nat.succ_mul] at hk
      obtain ⟨D, hD⟩ : ∃ D : Nat, D = d * C := ⟨_, rfl⟩
      rw [← hD] at hk ih
      have hk2 : D + 1 < k - L.length - 1 := by omega
      have hk3 : k - L.length - 1 + L.length + 1 = k := by omega
      clear hD hC
      obtain ⟨r, r1, r2, r3⟩ := ih (k - L.length - 1) (insL L.reverse v []) R orig (by omega) (by omega) (insL_sorted _ _ _ (by simpa using hs) (by simp)) (List.Perm.trans (by
        have := List.Perm.append_right R p1
        simpa using this) hp) hk2
      refine ⟨r, ?_, r2, r3⟩
      rw [hlen] at r1
      have q := l1_ins (k - L.length - 1) L.length v R L.reverse v [] r (by simp) (by omega) r1
      simp only [List.reverse_reverse, List.length_reverse, List.nil_append] at q
      rw [hk3] at q
      have hA : (L.length : Int) < ((L ++ v :: R).length : Int) := by simp; omega
      have hB : 0 ≤ (L.length : Int) := by omega
      simp only [spec_l16Sort.l0]
      rw [if_pos hA, if_pos hB, rd_mid]
      exact q
theorem sort_f (o : List Int) (ho : o.length ≤ 1048576) (k : Nat) (hk : 1099520000000 < k) : spec_l16Sort.f k o = some (o.mergeSort fun x y => decide (x ≤ y)) := by
  have key : ∃ r, spec_l16Sort.f k o = some r ∧ r.Pairwise (fun a b => a ≤ b) ∧ r.Perm o := by
    cases o with
    | nil =>
      obtain ⟨k, rfl⟩ : ∃ m, k = m + 1 := ⟨k - 1, by omega⟩
      refine ⟨[], ?_, List.Pairwise.nil, List.Perm.refl _⟩
      unfold spec_l16Sort.f
      simp only [spec_l16Sort.l0]
      rw [if_neg (by simp)]
    | cons a R =>
      simp only [List.length_cons] at ho
      have hk2 : R.length * 1048580 + 1 < k := by
        have : R.length * 1048580 ≤ 1048576 * 1048580 := Nat.mul_le_mul_right _ (by omega)
        omega
      exact l0_sort R.length k [a] R (a :: R) rfl (by simp; omega) (by simp) (List.Perm.refl _) hk2
  obtain ⟨r, h1, h2, h3⟩ := key
  rw [h1]
  congr 1
  refine List.Perm.eq_of_pairwise (le := fun a b : Int => a ≤ b) (fun a b _ _ h h' => Int.le_antisymm h h') h2 ?_ (h3.trans (List.mergeSort_perm o _).symm)
  have := List.pairwise_mergeSort (le := fun x y : Int => decide (x ≤ y)) (fun a b c h1 h2 => by simp only [decide_eq_true_eq] at *; omega) (fun a b => by simp only [Bool.or_eq_true, decide_eq_true_eq]; omega) o
  exact this.imp (fun h => of_decide_eq_true h)
theorem pending_l0 (l : List S77) (hl : l.length ≤ 1048576) (K : Nat) (hK : 1048580 < K) (d : Nat) : ∀ (i : Nat) (out : List Int), i + d = l.length → out.length ≤ i → ∃ o, impl_Pending.go l (l.drop i) out = some o ∧ o.length ≤ l.length ∧ spec_Pending.l0 (K + d + 1) l out (i : Int) = (spec_l16Sort.f K o).bind fun t => some t := by
  induction d with
  | zero =>
    intro i out hd ho
    refine ⟨out, by rw [List.drop_of_length_le (by omega)]; rfl, by omega, ?_⟩
    obtain ⟨k0, hk0⟩ : ∃ q, q = K + 0 := ⟨_, rfl⟩
    rw [← hk0]
    simp only [spec_Pending.l0]
    rw [if_neg (by omega), hk0]
    rfl
  | succ d ih =>
    intro i out hd ho
    have hi : i < l.length := by omega
    have hB : out.length ≤ i + 1 := by omega
    have hC : i + 1 + d = l.length := by omega
    have hA : (i : Int) < (l.length : Int) := by omega
    have hA0 : 0 ≤ (i : Int) := by omega
    have hA1 : out.length < 17592186044416 := by omega
    have hA2 : out.length < 17592186044415 := by omega
    have hpo := specPO_f l 3 l[i].f2 (by omega) (K + (d + 1)) (by omega)
    have ew : wrap64 ((i : Int) + 1) = ((i + 1 : Nat) : Int) := by rw [w64 (by omega) (by omega)]; omega
    obtain ⟨k0, hk0⟩ : ∃ q, q = K + (d + 1) := ⟨_, rfl⟩
    rw [← hk0] at hpo ⊢
    have hk1 : k0 = K + d + 1 := by omega
    rw [List.drop_eq_getElem_cons hi]
    by_cases h1 : l[i].f0 = 1
    · by_cases h2 : po l 3 l[i].f2 < 0
      · obtain ⟨o, o1, o2, o3⟩ := ih (i + 1) (out ++ [l[i].f2]) hC (by simp; omega)
        refine ⟨o, ?_, o2, ?_⟩
        · simp only [impl_Pending.go, implPO_f, Option.bind_some, if_pos h1, if_pos h2, if_pos hA2]
          exact o1
        · simp only [spec_Pending.l0, if_pos hA, if_pos hA0, at_S77 l i hi, if_pos h1, hpo, Option.bind_some, if_pos h2, if_pos hA1, ew]
          rw [hk1]
          exact o3
      · obtain ⟨o, o1, o2, o3⟩ := ih (i + 1) out hC hB
        refine ⟨o, ?_, o2, ?_⟩
        · simp only [impl_Pending.go, implPO_f, Option.bind_some, if_pos h1, if_neg h2]
          exact o1
        · simp only [spec_Pending.l0, if_pos hA, if_pos hA0, at_S77 l i hi, if_pos h1, hpo, Option.bind_some, if_neg h2, ew]
          rw [hk1]
          exact o3
    · obtain ⟨o, o1, o2, o3⟩ := ih (i + 1) out hC hB
      refine ⟨o, ?_, o2, ?_⟩
      · simp only [impl_Pending.go, if_neg h1]
        exact o1
      · simp only [spec_Pending.l0, if_pos hA, if_pos hA0, at_S77 l i hi, if_neg h1, ew]
        rw [hk1]
        exact o3
theorem pending_both (l : List S77) (hl : l.length ≤ 1048576) (k : Nat) (hk : 1099530000000 < k) : ∃ r, spec_Pending.f k l = some r ∧ impl_Pending.f l = some r ∧ r.length ≤ 1048576 := by
  obtain ⟨o, o1, o2, o3⟩ := pending_l0 l hl (k - l.length - 1) (by omega) l.length 0 [] (by omega) (by simp)
  have hs := sort_f o (by omega) (k - l.length - 1) (by omega)
  refine ⟨o.mergeSort fun x y => decide (x ≤ y), ?_, ?_, by rw [List.length_mergeSort]; omega⟩
  · rw [show k - l.length - 1 + l.length + 1 = k from by omega, hs] at o3
    exact o3
  · unfold impl_Pending.f
    rw [List.drop_zero] at o1
    rw [o1]
    simp only [Option.bind_some]
    rw [if_pos (by omega)]
theorem FnExactPending : FnExactPendingOwn := by
  intro l hw
  obtain ⟨r, ⟨K1, e1⟩, _, _, hb⟩ := szEvS_ev l (gwLS74 l hw) 1048576 (by omega) (by omega)
  by_cases hr : r < 0
  · refine ⟨K1, ?_⟩
    have q1 := e1 K1 (by omega)
    simp only at q1
    unfold laws_FnExactPending.f
    exact if_pos (.inl ⟨r, q1, hr⟩)
  · have hb := hb (by omega)
    obtain ⟨K2, e2⟩ := toEvS_ev l hb
    obtain ⟨K3, e3⟩ := eqEvS_ev _ (toEvS_wl l hb)
    have hl : (toEvSV l).length ≤ 1048576 := by
      have := hb.1
      simp [toEvSV]
      omega
    have hk : ∀ x ∈ toEvSV l, x.f9.length ≤ 1048576 := by
      intro x hx
      simp only [toEvSV, List.mem_map] at hx
      obtain ⟨y, hy, rfl⟩ := hx
      have h2 := hb.2 y hy
      have := h2.2.1
      simpa [toEvV, toRowSV] using this
    obtain ⟨KK, hKK⟩ : ∃ q, q = K1 + K2 + K3 + 1099530000001 := ⟨_, rfl⟩
    have hKa : K1 ≤ KK := by omega
    have hKb : K2 ≤ KK := by omega
    have hKc : K3 ≤ KK := by omega
    have hKd : 1099530000000 < KK := by omega
    clear hKK
    obtain ⟨q, p1, p2, hq⟩ := pending_both (toEvSV l) hl KK hKd
    refine ⟨KK, ?_⟩
    have q1 := e1 KK hKa
    have q2 := e2 KK hKb
    have q3 := e3 KK hKc
    simp only at q1 q2 q3
    obtain ⟨m1, xm, q7, hm1⟩ := markEvS_go (toEvSV l) hk KK (by omega) 1048576 1 hl (by omega) (by omega) (by omega)
    have q8 := markIntS_f q (by omega) 1 (by omega) (by omega) KK (by omega)
    have q9 := heldIntS_f 1 q.length (by omega) (by omega) (by omega) KK (by omega)
    have q4 := eqIntS_f q q (by omega) KK (by omega)
    rw [decide_eq_true rfl] at q4
    unfold laws_FnExactPending.f
    exact if_pos (.inr ⟨r, toEvSV l, q, m1, xm, 1 + q.length, markedI 1 q.length, q1, by omega, q2, p1, p2, q4, q3, q7, hm1, q8, q9, by omega⟩)

end Go.Proofs.Yticfkgjcklonmaa.Pure
