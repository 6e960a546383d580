/- For every log, Contention of the program answers what Contention of the reference answers (logs of more than 2^20 events, rows and letters are let pass by the law itself). -/
import Derived.Test.YthhbgembnlpohaaQFnExactContentionx5
namespace Go.Proofs.Ythhbgembnlpohaa.Pure
open Go.RowKit Go.Proofs.Ythhbgembnlpohaa.QFnExactContention Go.Proofs.YthhbgembnlpohaaW.PrintWords Go.Proofs.YthhbgembnlpohaaW.PrintLast Go.Proofs.YthhbgembnlpohaaW.PrintMore
set_option linter.unusedVariables false
set_option linter.unusedSimpArgs false
def FnExactContentionOwn : Prop := ∀ (l0 : (List S82)), (l0.length ≤ maxLen ∧ ∀ y_l0 ∈ l0, ((Lit.int .i64 y_l0.f0).wf = true ∧ (Lit.int .i64 y_l0.f1).wf = true ∧ (Lit.int .i64 y_l0.f2).wf = true ∧ (Lit.int .i64 y_l0.f3).wf = true ∧ ((Lit.int .i64 y_l0.f4.f0).wf = true ∧ y_l0.f4.f1.size ≤ maxLen ∧ (Lit.int .i64 y_l0.f4.f2).wf = true ∧ (Lit.int .i64 y_l0.f4.f3).wf = true) ∧ (Lit.int .i64 y_l0.f5).wf = true ∧ (Lit.int .i64 y_l0.f6).wf = true ∧ (Lit.int .i64 y_l0.f7).wf = true ∧ (Lit.int .i64 y_l0.f8).wf = true ∧ (y_l0.f9.length ≤ maxLen ∧ ∀ y_y_l0_f9 ∈ y_l0.f9, (y_y_l0_f9.f0.size ≤ maxLen ∧ (Lit.int .i64 y_y_l0_f9.f1).wf = true ∧ (Lit.int .i64 y_y_l0_f9.f2).wf = true ∧ True ∧ (Lit.int .i64 y_y_l0_f9.f4).wf = true ∧ (Lit.int .i64 y_y_l0_f9.f5).wf = true ∧ (Lit.int .i64 y_y_l0_f9.f6).wf = true ∧ (Lit.int .i64 y_y_l0_f9.f7).wf = true ∧ (Lit.int .i64 y_y_l0_f9.f8).wf = true ∧ (Lit.int .i64 y_y_l0_f9.f9).wf = true)))) → ∃ k, laws_FnExactContention.f k l0 = some true
theorem w64 {i : Int} (h : -9223372036854775808 ≤ i) (h2 : i ≤ 9223372036854775807) : wrap64 i = i := by
  unfold wrap64
  omega
theorem rd_at (x : List Int) (i : Nat) (h : i < x.length) : rd x (i : Int) = x[i] := by
  unfold rd
  rw [Int.toNat_natCast, List.getD_eq_getElem?_getD, List.getElem?_eq_getElem h]
  rfl
theorem succ_cast (i : Nat) : ((i : Int) + 1) = ((i + 1 : Nat) : Int) := by omega
theorem take_succ_ext {α : Type} (a b : List α) (i : Nat) (ha : i < a.length) (hb : i < b.length) (ht : a.take i = b.take i) (he : a[i] = b[i]) : a.take (i + 1) = b.take (i + 1) := by
  rw [List.take_succ_eq_append_getElem ha, List.take_succ_eq_append_getElem hb, ht, he]
def WfS79 (x : S79) : Prop := (x.f1.size ≤ 9223372036854775807)
def BdS79 (x : S79) : Prop := (x.f1.size ≤ 1048576)
theorem szOp_ev (y : S79) (hw : WfS79 y) (x : Int) (h0 : 0 ≤ x) (h1 : x ≤ 1048576) : ∃ r, Ev (fun _ => laws_szOp.f (y.f0) (y.f1) (y.f2) (y.f3) x) r ∧ -1 ≤ r ∧ r ≤ x ∧ (0 ≤ r → BdS79 y) := by
  have w1 : y.f1.size ≤ 9223372036854775807 := hw
  by_cases c : wrap64 (x - (y.f1.size : Int)) < 0
  · refine ⟨-1, Ev.congr (fun k => ?_) (Ev.now (-1)), by omega, by omega, fun h => by omega⟩
    unfold laws_szOp.f
    rw [if_pos c]
  · have e : wrap64 (x - (y.f1.size : Int)) = x - (y.f1.size : Int) := w64 (by omega) (by omega)
    rw [e] at c
    refine ⟨x - (y.f1.size : Int), Ev.congr (fun k => ?_) (Ev.now _), by omega, by omega, fun _ => (show y.f1.size ≤ 1048576 by omega)⟩
    unfold laws_szOp.f
    rw [e, if_neg c]
def WfS118 (x : S118) : Prop := (x.f0.size ≤ 9223372036854775807)
def BdS118 (x : S118) : Prop := (x.f0.size ≤ 1048576)
theorem szRow_ev (y : S118) (hw : WfS118 y) (x : Int) (h0 : 0 ≤ x) (h1 : x ≤ 1048576) : ∃ r, Ev (fun _ => laws_szRow.f (y.f0) (y.f1) (y.f2) (y.f3) (y.f4) (y.f5) (y.f6) (y.f7) (y.f8) (y.f9) x) r ∧ -1 ≤ r ∧ r ≤ x ∧ (0 ≤ r → BdS118 y) := by
  have w0 : y.f0.size ≤ 9223372036854775807 := hw
  by_cases c : wrap64 (x - (y.f0.size : Int)) < 0
  · refine ⟨-1, Ev.congr (fun k => ?_) (Ev.now (-1)), by omega, by omega, fun h => by omega⟩
    unfold laws_szRow.f
    rw [if_pos c]
  · have e : wrap64 (x - (y.f0.size : Int)) = x - (y.f0.size : Int) := w64 (by omega) (by omega)
    rw [e] at c
    refine ⟨x - (y.f0.size : Int), Ev.congr (fun k => ?_) (Ev.now _), by omega, by omega, fun _ => (show y.f0.size ≤ 1048576 by omega)⟩
    unfold laws_szRow.f
    rw [e, if_neg c]
def WfLS118 (x : (List S118)) : Prop := (x.length ≤ 9223372036854775807 ∧ ∀ y1_ ∈ x, (y1_.f0.size ≤ 9223372036854775807))
def BdLS118 (x : (List S118)) : Prop := (x.length ≤ 1048576 ∧ ∀ y1_ ∈ x, (y1_.f0.size ≤ 1048576))
theorem at_S118 (x : List S118) (i : Nat) (h : i < x.length) : rd_T118 x (i : Int) = x[i] := by
  unfold rd_T118
  rw [Int.toNat_natCast, List.getD_eq_getElem?_getD, List.getElem?_eq_getElem h]
  rfl
theorem szRowS_l0 (l : List S118) (hl : l.length ≤ 1048576) (hw : ∀ y ∈ l, WfS118 y) (d : Nat) : ∀ (x : Int) (i : Nat), i + d = l.length → 0 ≤ x → x ≤ 1048576 →
    ∃ r, Ev (fun k => laws_szRowS.l0 k l x (i : Int)) r ∧ -1 ≤ r ∧ r ≤ x ∧ (0 ≤ r → ∀ j, (hj : j < l.length) → i ≤ j → BdS118 l[j]) := by
  induction d with
  | zero =>
    intro x i hd h0 h1
    refine ⟨x, Ev.step (f := fun _ => some x) (fun k => ?_) (Ev.now _), by omega, by omega, fun _ j hj hij => by omega⟩
    simp only [laws_szRowS.l0]
    rw [if_neg (by omega)]
  | succ d ih =>
    intro x i hd h0 h1
    have hi : i < l.length := by omega
    obtain ⟨r1, e1, a1, b1, c1⟩ := szRow_ev l[i] (hw _ (List.getElem_mem hi)) x h0 h1
    by_cases hr : r1 < 0
    · refine ⟨-1, Ev.step (f := fun k => (laws_szRow.f (l[i].f0) (l[i].f1) (l[i].f2) (l[i].f3) (l[i].f4) (l[i].f5) (l[i].f6) (l[i].f7) (l[i].f8) (l[i].f9) x).bind fun t => if t < 0 then some (-1) else laws_szRowS.l0 k l t (wrap64 ((i : Int) + 1))) (fun k => ?_) (Ev.bind e1 ?_), by omega, by omega, fun h => by omega⟩
      · simp only [laws_szRowS.l0]
        rw [if_pos (by omega), if_pos (by omega), at_S118 l i hi]
      · refine Ev.congr (fun k => ?_) (Ev.now (-1))
        show (if r1 < 0 then some (-1) else _) = _
        rw [if_pos hr]
    · obtain ⟨r2, e2, a2, b2, c2⟩ := ih r1 (i + 1) (by omega) (by omega) (by omega)
      refine ⟨r2, Ev.step (f := fun k => (laws_szRow.f (l[i].f0) (l[i].f1) (l[i].f2) (l[i].f3) (l[i].f4) (l[i].f5) (l[i].f6) (l[i].f7) (l[i].f8) (l[i].f9) x).bind fun t => if t < 0 then some (-1) else laws_szRowS.l0 k l t (wrap64 ((i : Int) + 1))) (fun k => ?_) (Ev.bind e1 ?_), a2, by omega, fun h j hj hij => ?_⟩
      · simp only [laws_szRowS.l0]
        rw [if_pos (by omega), if_pos (by omega), at_S118 l i hi]
      · refine Ev.congr (fun k => ?_) e2
        show (if r1 < 0 then some (-1) else _) = _
        rw [if_neg hr, w64 (by omega) (by omega), succ_cast]
      · by_cases hij2 : j = i
        · subst hij2
          exact c1 (by omega)
        · exact c2 h j hj (by omega)
theorem szRowS_ev (l : (List S118)) (hw : WfLS118 l) (x : Int) (h0 : 0 ≤ x) (h1 : x ≤ 1048576) : ∃ r, Ev (fun k => laws_szRowS.f k l x) r ∧ -1 ≤ r ∧ r ≤ x ∧ (0 ≤ r → BdLS118 l) := by
  obtain ⟨hl, hw⟩ := hw
  by_cases c : wrap64 (x - (l.length : Int)) < 0
  · refine ⟨-1, Ev.congr (fun k => ?_) (Ev.now (-1)), by omega, by omega, fun h => by omega⟩
    unfold laws_szRowS.f
    rw [if_pos c]
  · have e : wrap64 (x - (l.length : Int)) = x - (l.length : Int) := w64 (by omega) (by omega)
    rw [e] at c
    obtain ⟨r, e1, a1, b1, c1⟩ := szRowS_l0 l (by omega) hw l.length (x - (l.length : Int)) 0 (by omega) (by omega) (by omega)
    refine ⟨r, Ev.congr (fun k => ?_) e1, a1, by omega, fun h => ⟨by omega, fun y hy => ?_⟩⟩
    · unfold laws_szRowS.f
      rw [e, if_neg c]
      rfl
    · obtain ⟨j, hj, rfl⟩ := List.mem_iff_getElem.mp hy
      exact c1 h j hj (Nat.zero_le _)
def WfS82 (x : S82) : Prop := ((x.f4.f1.size ≤ 9223372036854775807) ∧ (x.f9.length ≤ 9223372036854775807 ∧ ∀ y4_ ∈ x.f9, (y4_.f0.size ≤ 9223372036854775807)))
def BdS82 (x : S82) : Prop := ((x.f4.f1.size ≤ 1048576) ∧ (x.f9.length ≤ 1048576 ∧ ∀ y4_ ∈ x.f9, (y4_.f0.size ≤ 1048576)))
theorem szEv_ev (y : S82) (hw : WfS82 y) (x : Int) (h0 : 0 ≤ x) (h1 : x ≤ 1048576) : ∃ r, Ev (fun k => laws_szEv.f k (y.f0) (y.f1) (y.f2) (y.f3) (y.f4.f0) (y.f4.f1) (y.f4.f2) (y.f4.f3) (y.f5) (y.f6) (y.f7) (y.f8) (y.f9) x) r ∧ -1 ≤ r ∧ r ≤ x ∧ (0 ≤ r → BdS82 y) := by
  obtain ⟨w4, w9⟩ := hw
  obtain ⟨r0, e0, a0, b0, c0⟩ := szOp_ev y.f4 w4 x (by omega) (by omega)
  by_cases hr0 : r0 < 0
  · refine ⟨-1, ?_, by omega, by omega, fun h => by omega⟩
    unfold laws_szEv.f
    refine Ev.bind e0 ?_
    exact Ev.congr (fun k => if_pos hr0) (Ev.now (-1))
  · skip
    obtain ⟨r1, e1, a1, b1, c1⟩ := szRowS_ev y.f9 w9 r0 (by omega) (by omega)
    by_cases hr1 : r1 < 0
    · refine ⟨-1, ?_, by omega, by omega, fun h => by omega⟩
      unfold laws_szEv.f
      refine Ev.bind e0 ?_
      refine Ev.congr (f := fun k => ((laws_szRowS.f k y.f9 r0).bind fun t1 => (if t1 < 0 then (some (-1)) else (some t1)))) (fun k => if_neg hr0) ?_
      refine Ev.bind e1 ?_
      exact Ev.congr (fun k => if_pos hr1) (Ev.now (-1))
    · skip
      refine ⟨r1, ?_, by omega, by omega, fun h => ⟨c0 (by omega), c1 (by omega)⟩⟩
      unfold laws_szEv.f
      refine Ev.bind e0 ?_
      refine Ev.congr (f := fun k => ((laws_szRowS.f k y.f9 r0).bind fun t1 => (if t1 < 0 then (some (-1)) else (some t1)))) (fun k => if_neg hr0) ?_
      refine Ev.bind e1 ?_
      refine Ev.congr (f := fun k => (some r1)) (fun k => if_neg hr1) ?_
      exact Ev.now _
def WfLS82 (x : (List S82)) : Prop := (x.length ≤ 9223372036854775807 ∧ ∀ y1_ ∈ x, ((y1_.f4.f1.size ≤ 9223372036854775807) ∧ (y1_.f9.length ≤ 9223372036854775807 ∧ ∀ y6_ ∈ y1_.f9, (y6_.f0.size ≤ 9223372036854775807))))
def BdLS82 (x : (List S82)) : Prop := (x.length ≤ 1048576 ∧ ∀ y1_ ∈ x, ((y1_.f4.f1.size ≤ 1048576) ∧ (y1_.f9.length ≤ 1048576 ∧ ∀ y6_ ∈ y1_.f9, (y6_.f0.size ≤ 1048576))))
theorem at_S82 (x : List S82) (i : Nat) (h : i < x.length) : rd_T82 x (i : Int) = x[i] := by
  unfold rd_T82
  rw [Int.toNat_natCast, List.getD_eq_getElem?_getD, List.getElem?_eq_getElem h]
  rfl
theorem szEvS_l0 (l : List S82) (hl : l.length ≤ 1048576) (hw : ∀ y ∈ l, WfS82 y) (d : Nat) : ∀ (x : Int) (i : Nat), i + d = l.length → 0 ≤ x → x ≤ 1048576 →
    ∃ r, Ev (fun k => laws_szEvS.l0 k l x (i : Int)) r ∧ -1 ≤ r ∧ r ≤ x ∧ (0 ≤ r → ∀ j, (hj : j < l.length) → i ≤ j → BdS82 l[j]) := by
  induction d with
  | zero =>
    intro x i hd h0 h1
    refine ⟨x, Ev.step (f := fun _ => some x) (fun k => ?_) (Ev.now _), by omega, by omega, fun _ j hj hij => by omega⟩
    simp only [laws_szEvS.l0]
    rw [if_neg (by omega)]
  | succ d ih =>
    intro x i hd h0 h1
    have hi : i < l.length := by omega
    obtain ⟨r1, e1, a1, b1, c1⟩ := szEv_ev l[i] (hw _ (List.getElem_mem hi)) x h0 h1
    by_cases hr : r1 < 0
    · refine ⟨-1, Ev.step (f := fun k => (laws_szEv.f k (l[i].f0) (l[i].f1) (l[i].f2) (l[i].f3) (l[i].f4.f0) (l[i].f4.f1) (l[i].f4.f2) (l[i].f4.f3) (l[i].f5) (l[i].f6) (l[i].f7) (l[i].f8) (l[i].f9) x).bind fun t => if t < 0 then some (-1) else laws_szEvS.l0 k l t (wrap64 ((i : Int) + 1))) (fun k => ?_) (Ev.bind e1 ?_), by omega, by omega, fun h => by omega⟩
      · simp only [laws_szEvS.l0]
        rw [if_pos (by omega), if_pos (by omega), at_S82 l i hi]
      · refine Ev.congr (fun k => ?_) (Ev.now (-1))
        show (if r1 < 0 then some (-1) else _) = _
        rw [if_pos hr]
    · obtain ⟨r2, e2, a2, b2, c2⟩ := ih r1 (i + 1) (by omega) (by omega) (by omega)
      refine ⟨r2, Ev.step (f := fun k => (laws_szEv.f k (l[i].f0) (l[i].f1) (l[i].f2) (l[i].f3) (l[i].f4.f0) (l[i].f4.f1) (l[i].f4.f2) (l[i].f4.f3) (l[i].f5) (l[i].f6) (l[i].f7) (l[i].f8) (l[i].f9) x).bind fun t => if t < 0 then some (-1) else laws_szEvS.l0 k l t (wrap64 ((i : Int) + 1))) (fun k => ?_) (Ev.bind e1 ?_), a2, by omega, fun h j hj hij => ?_⟩
      · simp only [laws_szEvS.l0]
        rw [if_pos (by omega), if_pos (by omega), at_S82 l i hi]
      · refine Ev.congr (fun k => ?_) e2
        show (if r1 < 0 then some (-1) else _) = _
        rw [if_neg hr, w64 (by omega) (by omega), succ_cast]
      · by_cases hij2 : j = i
        · subst hij2
          exact c1 (by omega)
        · exact c2 h j hj (by omega)
theorem szEvS_ev (l : (List S82)) (hw : WfLS82 l) (x : Int) (h0 : 0 ≤ x) (h1 : x ≤ 1048576) : ∃ r, Ev (fun k => laws_szEvS.f k l x) r ∧ -1 ≤ r ∧ r ≤ x ∧ (0 ≤ r → BdLS82 l) := by
  obtain ⟨hl, hw⟩ := hw
  by_cases c : wrap64 (x - (l.length : Int)) < 0
  · refine ⟨-1, Ev.congr (fun k => ?_) (Ev.now (-1)), by omega, by omega, fun h => by omega⟩
    unfold laws_szEvS.f
    rw [if_pos c]
  · have e : wrap64 (x - (l.length : Int)) = x - (l.length : Int) := w64 (by omega) (by omega)
    rw [e] at c
    obtain ⟨r, e1, a1, b1, c1⟩ := szEvS_l0 l (by omega) hw l.length (x - (l.length : Int)) 0 (by omega) (by omega) (by omega)
    refine ⟨r, Ev.congr (fun k => ?_) e1, a1, by omega, fun h => ⟨by omega, fun y hy => ?_⟩⟩
    · unfold laws_szEvS.f
      rw [e, if_neg c]
      rfl
    · obtain ⟨j, hj, rfl⟩ := List.mem_iff_getElem.mp hy
      exact c1 h j hj (Nat.zero_le _)
def WfStr (x : ByteArray) : Prop := x.size ≤ 9223372036854775807
def BdStr (x : ByteArray) : Prop := x.size ≤ 1048576
theorem gwStr (x : ByteArray) (h : x.size ≤ maxLen) : WfStr x := by
  unfold WfStr
  unfold maxLen at h
  omega
theorem gwS79 (x : S79) (h : ((Lit.int .i64 x.f0).wf = true ∧ x.f1.size ≤ maxLen ∧ (Lit.int .i64 x.f2).wf = true ∧ (Lit.int .i64 x.f3).wf = true)) : WfS79 x := by
  obtain ⟨g0, g1, g2, g3⟩ := h
  exact gwStr x.f1 g1
theorem gwS118 (x : S118) (h : (x.f0.size ≤ maxLen ∧ (Lit.int .i64 x.f1).wf = true ∧ (Lit.int .i64 x.f2).wf = true ∧ True ∧ (Lit.int .i64 x.f4).wf = true ∧ (Lit.int .i64 x.f5).wf = true ∧ (Lit.int .i64 x.f6).wf = true ∧ (Lit.int .i64 x.f7).wf = true ∧ (Lit.int .i64 x.f8).wf = true ∧ (Lit.int .i64 x.f9).wf = true)) : WfS118 x := by
  obtain ⟨g0, g1, g2, g3, g4, g5, g6, g7, g8, g9⟩ := h
  exact gwStr x.f0 g0
theorem gwLS118 (x : (List S118)) (h : (x.length ≤ maxLen ∧ ∀ y_x ∈ x, (y_x.f0.size ≤ maxLen ∧ (Lit.int .i64 y_x.f1).wf = true ∧ (Lit.int .i64 y_x.f2).wf = true ∧ True ∧ (Lit.int .i64 y_x.f4).wf = true ∧ (Lit.int .i64 y_x.f5).wf = true ∧ (Lit.int .i64 y_x.f6).wf = true ∧ (Lit.int .i64 y_x.f7).wf = true ∧ (Lit.int .i64 y_x.f8).wf = true ∧ (Lit.int .i64 y_x.f9).wf = true))) : WfLS118 x := ⟨by have := h.1; unfold maxLen at this; omega, fun y hy => gwS118 y (h.2 y hy)⟩
theorem gwS82 (x : S82) (h : ((Lit.int .i64 x.f0).wf = true ∧ (Lit.int .i64 x.f1).wf = true ∧ (Lit.int .i64 x.f2).wf = true ∧ (Lit.int .i64 x.f3).wf = true ∧ ((Lit.int .i64 x.f4.f0).wf = true ∧ x.f4.f1.size ≤ maxLen ∧ (Lit.int .i64 x.f4.f2).wf = true ∧ (Lit.int .i64 x.f4.f3).wf = true) ∧ (Lit.int .i64 x.f5).wf = true ∧ (Lit.int .i64 x.f6).wf = true ∧ (Lit.int .i64 x.f7).wf = true ∧ (Lit.int .i64 x.f8).wf = true ∧ (x.f9.length ≤ maxLen ∧ ∀ y_x_f9 ∈ x.f9, (y_x_f9.f0.size ≤ maxLen ∧ (Lit.int .i64 y_x_f9.f1).wf = true ∧ (Lit.int .i64 y_x_f9.f2).wf = true ∧ True ∧ (Lit.int .i64 y_x_f9.f4).wf = true ∧ (Lit.int .i64 y_x_f9.f5).wf = true ∧ (Lit.int .i64 y_x_f9.f6).wf = true ∧ (Lit.int .i64 y_x_f9.f7).wf = true ∧ (Lit.int .i64 y_x_f9.f8).wf = true ∧ (Lit.int .i64 y_x_f9.f9).wf = true)))) : WfS82 x := by
  obtain ⟨g0, g1, g2, g3, g4, g5, g6, g7, g8, g9⟩ := h
  exact ⟨gwS79 x.f4 g4, gwLS118 x.f9 g9⟩
theorem gwLS82 (x : (List S82)) (h : (x.length ≤ maxLen ∧ ∀ y_x ∈ x, ((Lit.int .i64 y_x.f0).wf = true ∧ (Lit.int .i64 y_x.f1).wf = true ∧ (Lit.int .i64 y_x.f2).wf = true ∧ (Lit.int .i64 y_x.f3).wf = true ∧ ((Lit.int .i64 y_x.f4.f0).wf = true ∧ y_x.f4.f1.size ≤ maxLen ∧ (Lit.int .i64 y_x.f4.f2).wf = true ∧ (Lit.int .i64 y_x.f4.f3).wf = true) ∧ (Lit.int .i64 y_x.f5).wf = true ∧ (Lit.int .i64 y_x.f6).wf = true ∧ (Lit.int .i64 y_x.f7).wf = true ∧ (Lit.int .i64 y_x.f8).wf = true ∧ (y_x.f9.length ≤ maxLen ∧ ∀ y_y_x_f9 ∈ y_x.f9, (y_y_x_f9.f0.size ≤ maxLen ∧ (Lit.int .i64 y_y_x_f9.f1).wf = true ∧ (Lit.int .i64 y_y_x_f9.f2).wf = true ∧ True ∧ (Lit.int .i64 y_y_x_f9.f4).wf = true ∧ (Lit.int .i64 y_y_x_f9.f5).wf = true ∧ (Lit.int .i64 y_y_x_f9.f6).wf = true ∧ (Lit.int .i64 y_y_x_f9.f7).wf = true ∧ (Lit.int .i64 y_y_x_f9.f8).wf = true ∧ (Lit.int .i64 y_y_x_f9.f9).wf = true))))) : WfLS82 x := ⟨by have := h.1; unfold maxLen at this; omega, fun y hy => gwS82 y (h.2 y hy)⟩
def toOpV (x : S79) : S84 := ⟨x.f0, x.f1, x.f2, x.f3⟩
def toRowV (x : S118) : S102 := ⟨x.f0, x.f1, x.f2, x.f3, x.f4, x.f5, x.f6, x.f7, x.f8, x.f9⟩
def toRowSV (l : (List S118)) : (List S102) := l.map toRowV
def toEvV (x : S82) : S86 := ⟨x.f0, x.f1, x.f2, x.f3, toOpV x.f4, x.f5, x.f6, x.f7, x.f8, toRowSV x.f9⟩
def toEvSV (l : (List S82)) : (List S86) := l.map toEvV
theorem toOp_ev (y : S79) (hb : BdS79 y) : Ev (fun _ => laws_toOp.f (y.f0) (y.f1) (y.f2) (y.f3)) ((toOpV y).f0, (toOpV y).f1, (toOpV y).f2, (toOpV y).f3) := by
  exact Ev.congr (fun k => rfl) (Ev.now _)
theorem toRow_ev (y : S118) (hb : BdS118 y) : Ev (fun _ => laws_toRow.f (y.f0) (y.f1) (y.f2) (y.f3) (y.f4) (y.f5) (y.f6) (y.f7) (y.f8) (y.f9)) ((toRowV y).f0, (toRowV y).f1, (toRowV y).f2, (toRowV y).f3, (toRowV y).f4, (toRowV y).f5, (toRowV y).f6, (toRowV y).f7, (toRowV y).f8, (toRowV y).f9) := by
  exact Ev.congr (fun k => rfl) (Ev.now _)
theorem toRowS_l0 (l : (List S118)) (hl : l.length ≤ 1048576) (hb : ∀ y ∈ l, BdS118 y) (d : Nat) : ∀ (out : (List S102)) (i : Nat), i + d = l.length → out.length = l.length → out.take i = (toRowSV l).take i → Ev (fun k => laws_toRowS.l0 k l out (i : Int)) (toRowSV l) := by
  have hlen : (toRowSV l).length = l.length := by simp [toRowSV]
  induction d with
  | zero =>
    intro out i hd ho ht
    refine Ev.step (f := fun _ => some (toRowSV l)) (fun k => ?_) (Ev.now _)
    simp only [laws_toRowS.l0]
    rw [if_neg (by omega)]
    have h1 : out.take i = out := List.take_of_length_le (by omega)
    have h2 : (toRowSV l).take i = toRowSV l := List.take_of_length_le (by omega)
    rw [← h1, ht, h2]
  | succ d ih =>
    intro out i hd ho ht
    have hi : i < l.length := by omega
    refine Ev.step (f := fun k => (laws_toRow.f (l[i].f0) (l[i].f1) (l[i].f2) (l[i].f3) (l[i].f4) (l[i].f5) (l[i].f6) (l[i].f7) (l[i].f8) (l[i].f9)).bind fun b => if (i : Int) < (out.length : Int) then laws_toRowS.l0 k l (out.set i (⟨b.1, b.2.1, b.2.2.1, b.2.2.2.1, b.2.2.2.2.1, b.2.2.2.2.2.1, b.2.2.2.2.2.2.1, b.2.2.2.2.2.2.2.1, b.2.2.2.2.2.2.2.2.1, b.2.2.2.2.2.2.2.2.2⟩ : S102)) (wrap64 ((i : Int) + 1)) else none) (fun k => ?_) (Ev.bind (toRow_ev l[i] (hb _ (List.getElem_mem hi))) ?_)
    · simp only [laws_toRowS.l0]
      rw [if_pos (by omega), if_pos (by omega), at_S118 l i hi, Int.toNat_natCast]
    · refine Ev.congr (fun k => ?_) (ih (out.set i (toRowV l[i])) (i + 1) (by omega) (by rw [List.length_set]; exact ho) ?_)
      · show (if (i : Int) < (out.length : Int) then _ else none) = _
        rw [if_pos (by omega), w64 (by omega) (by omega), succ_cast]
        try rfl
      · refine take_succ_ext _ _ i (by rw [List.length_set]; omega) (by omega) ?_ (by simp [toRowSV])
        rw [List.take_set_of_le (Nat.le_refl _)]
        exact ht
theorem toRowS_ev (l : (List S118)) (hb : BdLS118 l) : Ev (fun k => laws_toRowS.f k l) (toRowSV l) := by
  have hl : l.length ≤ 1048576 := hb.1
  refine Ev.congr (fun k => ?_) (toRowS_l0 l hl hb.2 l.length (List.replicate l.length z102) 0 (by omega) (by simp) (by simp))
  unfold laws_toRowS.f
  rw [if_pos (by omega), if_pos (by omega), Int.toNat_natCast]
  rfl
theorem toEv_ev (y : S82) (hb : BdS82 y) : Ev (fun k => laws_toEv.f k (y.f0) (y.f1) (y.f2) (y.f3) (y.f4.f0) (y.f4.f1) (y.f4.f2) (y.f4.f3) (y.f5) (y.f6) (y.f7) (y.f8) (y.f9)) ((toEvV y).f0, (toEvV y).f1, (toEvV y).f2, (toEvV y).f3, (toEvV y).f4.f0, (toEvV y).f4.f1, (toEvV y).f4.f2, (toEvV y).f4.f3, (toEvV y).f5, (toEvV y).f6, (toEvV y).f7, (toEvV y).f8, (toEvV y).f9) := by
  obtain ⟨w4, w9⟩ := hb
  unfold laws_toEv.f
  refine Ev.bind (toOp_ev y.f4 w4) ?_
  refine Ev.bind (toRowS_ev y.f9 w9) ?_
  exact Ev.now _
theorem toEvS_l0 (l : (List S82)) (hl : l.length ≤ 1048576) (hb : ∀ y ∈ l, BdS82 y) (d : Nat) : ∀ (out : (List S86)) (i : Nat), i + d = l.length → out.length = l.length → out.take i = (toEvSV l).take i → Ev (fun k => laws_toEvS.l0 k l out (i : Int)) (toEvSV l) := by
  have hlen : (toEvSV l).length = l.length := by simp [toEvSV]
  induction d with
  | zero =>
    intro out i hd ho ht
    refine Ev.step (f := fun _ => some (toEvSV l)) (fun k => ?_) (Ev.now _)
    simp only [laws_toEvS.l0]
    rw [if_neg (by omega)]
    have h1 : out.take i = out := List.take_of_length_le (by omega)
    have h2 : (toEvSV l).take i = toEvSV l := List.take_of_length_le (by omega)
    rw [← h1, ht, h2]
  | succ d ih =>
    intro out i hd ho ht
    have hi : i < l.length := by omega
    refine Ev.step (f := fun k => (laws_toEv.f k (l[i].f0) (l[i].f1) (l[i].f2) (l[i].f3) (l[i].f4.f0) (l[i].f4.f1) (l[i].f4.f2) (l[i].f4.f3) (l[i].f5) (l[i].f6) (l[i].f7) (l[i].f8) (l[i].f9)).bind fun b => if (i : Int) < (out.length : Int) then laws_toEvS.l0 k l (out.set i (⟨b.1, b.2.1, b.2.2.1, b.2.2.2.1, (⟨b.2.2.2.2.1, b.2.2.2.2.2.1, b.2.2.2.2.2.2.1, b.2.2.2.2.2.2.2.1⟩ : S84), b.2.2.2.2.2.2.2.2.1, b.2.2.2.2.2.2.2.2.2.1, b.2.2.2.2.2.2.2.2.2.2.1, b.2.2.2.2.2.2.2.2.2.2.2.1, b.2.2.2.2.2.2.2.2.2.2.2.2⟩ : S86)) (wrap64 ((i : Int) + 1)) else none) (fun k => ?_) (Ev.bind (toEv_ev l[i] (hb _ (List.getElem_mem hi))) ?_)
    · simp only [laws_toEvS.l0]
      rw [if_pos (by omega), if_pos (by omega), at_S82 l i hi, Int.toNat_natCast]
    · refine Ev.congr (fun k => ?_) (ih (out.set i (toEvV l[i])) (i + 1) (by omega) (by rw [List.length_set]; exact ho) ?_)
      · show (if (i : Int) < (out.length : Int) then _ else none) = _
        rw [if_pos (by omega), w64 (by omega) (by omega), succ_cast]
        try rfl
      · refine take_succ_ext _ _ i (by rw [List.length_set]; omega) (by omega) ?_ (by simp [toEvSV])
        rw [List.take_set_of_le (Nat.le_refl _)]
        exact ht
theorem toEvS_ev (l : (List S82)) (hb : BdLS82 l) : Ev (fun k => laws_toEvS.f k l) (toEvSV l) := by
  have hl : l.length ≤ 1048576 := hb.1
  refine Ev.congr (fun k => ?_) (toEvS_l0 l hl hb.2 l.length (List.replicate l.length z86) 0 (by omega) (by simp) (by simp))
  unfold laws_toEvS.f
  rw [if_pos (by omega), if_pos (by omega), Int.toNat_natCast]
  rfl
theorem eqOp_ev (y : S84) : Ev (fun _ => laws_eqOp.f (y.f0) (y.f1) (y.f2) (y.f3) (y.f0) (y.f1) (y.f2) (y.f3)) true := by
  refine ⟨0, fun k hk => ?_⟩
  unfold laws_eqOp.f
  simp only [if_true, bne_self_eq_false, Option.bind_some, Bool.false_eq_true, if_false]
theorem eqRow_ev (y : S102) : Ev (fun _ => laws_eqRow.f (y.f0) (y.f1) (y.f2) (y.f3) (y.f4) (y.f5) (y.f6) (y.f7) (y.f8) (y.f9) (y.f0) (y.f1) (y.f2) (y.f3) (y.f4) (y.f5) (y.f6) (y.f7) (y.f8) (y.f9)) true := by
  refine ⟨0, fun k hk => ?_⟩
  unfold laws_eqRow.f
  simp only [if_true, bne_self_eq_false, Option.bind_some, Bool.false_eq_true, if_false]
theorem at_S102 (x : List S102) (i : Nat) (h : i < x.length) : rd_T102 x (i : Int) = x[i] := by
  unfold rd_T102
  rw [Int.toNat_natCast, List.getD_eq_getElem?_getD, List.getElem?_eq_getElem h]
  rfl
theorem eqRowS_l0 (l : (List S102)) (hl : l.length ≤ 4611686018427387904) (d : Nat) : ∀ (i : Nat), i + d = l.length → Ev (fun k => laws_eqRowS.l0 k l l (i : Int)) true := by
  induction d with
  | zero =>
    intro i hd
    refine Ev.step (f := fun _ => some true) (fun k => ?_) (Ev.now _)
    simp only [laws_eqRowS.l0]
    rw [if_neg (by omega)]
  | succ d ih =>
    intro i hd
    have hi : i < l.length := by omega
    refine Ev.step (f := fun k => (laws_eqRow.f (l[i].f0) (l[i].f1) (l[i].f2) (l[i].f3) (l[i].f4) (l[i].f5) (l[i].f6) (l[i].f7) (l[i].f8) (l[i].f9) (l[i].f0) (l[i].f1) (l[i].f2) (l[i].f3) (l[i].f4) (l[i].f5) (l[i].f6) (l[i].f7) (l[i].f8) (l[i].f9)).bind fun b => if b = true then laws_eqRowS.l0 k l l (wrap64 ((i : Int) + 1)) else some false) (fun k => ?_) (Ev.bind (eqRow_ev l[i]) (Ev.congr (fun k => ?_) (ih (i + 1) (by omega))))
    · simp only [laws_eqRowS.l0]
      rw [if_pos (by omega), if_pos (by omega), if_pos (by omega), at_S102 l i hi]
    · show (if true = true then _ else some false) = _
      rw [if_pos rfl, w64 (by omega) (by omega), succ_cast]
theorem eqRowS_ev (l : (List S102)) (hw : (l.length ≤ 4611686018427387904)) : Ev (fun k => laws_eqRowS.f k l l) true := by
  refine Ev.congr (fun k => ?_) (eqRowS_l0 l hw l.length 0 (by omega))
  unfold laws_eqRowS.f
  rw [if_pos rfl]
  rfl
theorem eqEv_ev (y : S86) (hw : ((y.f9.length ≤ 4611686018427387904))) : Ev (fun k => laws_eqEv.f k (y.f0) (y.f1) (y.f2) (y.f3) (y.f4.f0) (y.f4.f1) (y.f4.f2) (y.f4.f3) (y.f5) (y.f6) (y.f7) (y.f8) (y.f9) (y.f0) (y.f1) (y.f2) (y.f3) (y.f4.f0) (y.f4.f1) (y.f4.f2) (y.f4.f3) (y.f5) (y.f6) (y.f7) (y.f8) (y.f9)) true := by
  have w9 := hw
  obtain ⟨K4, e4⟩ := eqOp_ev y.f4
  obtain ⟨K9, e9⟩ := eqRowS_ev y.f9 w9
  refine ⟨K4 + K9, fun k hk => ?_⟩
  have q4 := e4 k (by omega)
  have q9 := e9 k (by omega)
  simp only at q4 q9
  unfold laws_eqEv.f
  simp only [q4, q9, if_true, bne_self_eq_false, Option.bind_some, Bool.false_eq_true, if_false]
theorem at_S86 (x : List S86) (i : Nat) (h : i < x.length) : rd_T86 x (i : Int) = x[i] := by
  unfold rd_T86
  rw [Int.toNat_natCast, List.getD_eq_getElem?_getD, List.getElem?_eq_getElem h]
  rfl
theorem eqEvS_l0 (l : (List S86)) (hl : l.length ≤ 4611686018427387904) (hw : ∀ y ∈ l, ((y.f9.length ≤ 4611686018427387904))) (d : Nat) : ∀ (i : Nat), i + d = l.length → Ev (fun k => laws_eqEvS.l0 k l l (i : Int)) true := by
  induction d with
  | zero =>
    intro i hd
    refine Ev.step (f := fun _ => some true) (fun k => ?_) (Ev.now _)
    simp only [laws_eqEvS.l0]
    rw [if_neg (by omega)]
  | succ d ih =>
    intro i hd
    have hi : i < l.length := by omega
    refine Ev.step (f := fun k => (laws_eqEv.f k (l[i].f0) (l[i].f1) (l[i].f2) (l[i].f3) (l[i].f4.f0) (l[i].f4.f1) (l[i].f4.f2) (l[i].f4.f3) (l[i].f5) (l[i].f6) (l[i].f7) (l[i].f8) (l[i].f9) (l[i].f0) (l[i].f1) (l[i].f2) (l[i].f3) (l[i].f4.f0) (l[i].f4.f1) (l[i].f4.f2) (l[i].f4.f3) (l[i].f5) (l[i].f6) (l[i].f7) (l[i].f8) (l[i].f9)).bind fun b => if b = true then laws_eqEvS.l0 k l l (wrap64 ((i : Int) + 1)) else some false) (fun k => ?_) (Ev.bind (eqEv_ev l[i] (hw _ (List.getElem_mem hi))) (Ev.congr (fun k => ?_) (ih (i + 1) (by omega))))
    · simp only [laws_eqEvS.l0]
      rw [if_pos (by omega), if_pos (by omega), if_pos (by omega), at_S86 l i hi]
    · show (if true = true then _ else some false) = _
      rw [if_pos rfl, w64 (by omega) (by omega), succ_cast]
theorem eqEvS_ev (l : (List S86)) (hw : (l.length ≤ 4611686018427387904 ∧ ∀ y1_ ∈ l, ((y1_.f9.length ≤ 4611686018427387904)))) : Ev (fun k => laws_eqEvS.f k l l) true := by
  refine Ev.congr (fun k => ?_) (eqEvS_l0 l hw.1 hw.2 l.length 0 (by omega))
  unfold laws_eqEvS.f
  rw [if_pos rfl]
  rfl
theorem toRowS_wl (l : (List S118)) (hb : BdLS118 l) : ((toRowSV l).length ≤ 4611686018427387904) := by
  have := hb.1
  simp [toRowSV]
  omega
theorem toEv_wl (y : S82) (hb : BdS82 y) : (((toEvV y).f9.length ≤ 4611686018427387904)) := by
  obtain ⟨w4, w9⟩ := hb
  exact toRowS_wl y.f9 w9
theorem toEvS_wl (l : (List S82)) (hb : BdLS82 l) : ((toEvSV l).length ≤ 4611686018427387904 ∧ ∀ y10_ ∈ (toEvSV l), ((y10_.f9.length ≤ 4611686018427387904))) := by
  refine ⟨by have := hb.1; simp [toEvSV]; omega, fun y hy => ?_⟩
  obtain ⟨x, hx, rfl⟩ := List.mem_map.mp hy
  exact toEv_wl x (hb.2 x hx)
/-- The place of an event's kind and serial; or -1. -/
def po (l : List S86) (kind serial : Int) : Int := firstAt (impl_PlaceOf.g kind serial) l 0
theorem firstAt_in {α : Type} (g : α → Bool) (l : List α) : ∀ j : Int, firstAt g l j = -1 ∨ (j ≤ firstAt g l j ∧ firstAt g l j < j + l.length) := by
  induction l with
  | nil => intro j; exact .inl rfl
  | cons x xs ih =>
    intro j
    simp only [firstAt, List.length_cons]
    split
    · exact .inr ⟨Int.le_refl _, by omega⟩
    · rcases ih (j + 1) with h | h
      · exact .inl h
      · exact .inr ⟨by omega, by omega⟩
theorem po_in (l : List S86) (kind serial : Int) : po l kind serial = -1 ∨ (0 ≤ po l kind serial ∧ po l kind serial < l.length) := by
  have := firstAt_in (impl_PlaceOf.g kind serial) l 0
  unfold po
  omega
theorem implPO_f (l : List S86) (kind serial : Int) : impl_PlaceOf.f l kind serial = some (po l kind serial) := rfl
theorem specPO_l0 (l : List S86) (kind serial : Int) (hl : l.length ≤ 4611686018427387904) (d : Nat) : ∀ (i : Nat), i + d = l.length → ∀ k, d < k → spec_PlaceOf.l0 k l kind serial (i : Int) = some (firstAt (impl_PlaceOf.g kind serial) (l.drop i) (i : Int)) := by
  induction d with
  | zero =>
    intro i hd k hk
    obtain ⟨k, rfl⟩ : ∃ m, k = m + 1 := ⟨k - 1, by omega⟩
    simp only [spec_PlaceOf.l0]
    rw [if_neg (by omega), List.drop_of_length_le (by omega)]
    rfl
  | succ d ih =>
    intro i hd k hk
    obtain ⟨k, rfl⟩ : ∃ m, k = m + 1 := ⟨k - 1, by omega⟩
    have hi : i < l.length := by omega
    simp only [spec_PlaceOf.l0]
    rw [if_pos (by omega), if_pos (by omega), at_S86 l i hi, w64 (i := (i : Int) + 1) (by omega) (by omega), succ_cast, List.drop_eq_getElem_cons hi, ih (i + 1) (by omega) k (by omega)]
    simp only [firstAt, impl_PlaceOf.g, Bool.and_eq_true, beq_iff_eq]
    rw [← succ_cast]
    by_cases h1 : l[i].f0 = kind
    · rw [if_pos h1]
      by_cases h2 : l[i].f2 = serial
      · rw [if_pos h2, if_pos ⟨h1, h2⟩]
      · rw [if_neg h2, if_neg (fun h => h2 h.2)]
    · rw [if_neg h1, if_neg (fun h => h1 h.1)]
theorem specPO_f (l : List S86) (kind serial : Int) (hl : l.length ≤ 4611686018427387904) (k : Nat) (hk : l.length < k) : spec_PlaceOf.f k l kind serial = some (po l kind serial) :=
  specPO_l0 l kind serial hl l.length 0 (by omega) k hk
def ovB (l : List S86) (a b : Int) : Bool := (impl_Overlap.f l a b).getD false
theorem inTime_some (l : List S86) (x y : Int) : ∃ v, impl_InTime.f l x y = some v := by
  unfold impl_InTime.f
  simp only [implPO_f, Option.bind_some]
  repeat' split
  all_goals exact ⟨_, rfl⟩
theorem ov_impl (l : List S86) (a b : Int) : impl_Overlap.f l a b = some (ovB l a b) := by
  obtain ⟨v1, t1⟩ := inTime_some l a b
  obtain ⟨v2, t2⟩ := inTime_some l b a
  have : ∃ r, impl_Overlap.f l a b = some r := by
    unfold impl_Overlap.f
    simp only [implPO_f, Option.bind_some, t1, t2]
    repeat' split
    all_goals exact ⟨_, rfl⟩
  obtain ⟨r, hr⟩ := this
  unfold ovB
  rw [hr]
  rfl
theorem ov_spec (l : List S86) (a b : Int) (hl : l.length ≤ 1048576) (k : Nat) (hk : 1048580 < k) : spec_Overlap.f k l a b = some (ovB l a b) := by
  rw [← ov_impl]
  have hl' : l.length ≤ 4611686018427387904 := by omega
  have q := fun kd s => specPO_f l kd s hl' k (by omega)
  have e1 : ∀ x y, spec_InTime.f k l x y = impl_InTime.f l x y := by
    intro x y
    unfold spec_InTime.f impl_InTime.f
    simp only [q, implPO_f, Option.bind_some]
  unfold spec_Overlap.f impl_Overlap.f
  simp only [q, implPO_f, Option.bind_some, e1]
theorem ov_symm (l : List S86) (a b : Int) : ovB l a b = ovB l b a := by
  obtain ⟨v1, t1⟩ := inTime_some l a b
  obtain ⟨v2, t2⟩ := inTime_some l b a
  unfold ovB impl_Overlap.f
  simp only [implPO_f, Option.bind_some, t1, t2]
  by_cases h : a = b
  · subst h
    rw [if_pos rfl, if_pos rfl]
  · rw [if_neg h, if_neg (show ¬ b = a from fun e => h e.symm)]
    by_cases h1 : po l 1 a ≥ 0 <;> by_cases h2 : po l 1 b ≥ 0 <;> cases v1 <;> cases v2 <;> simp [h1, h2]
def isRec (x : S86) : Bool := (x.f0 == 1) && (x.f4.f0 == 2)
def hit (l : List S86) (e x : S86) : Bool := (x.f4.f1.toList == e.f4.f1.toList) && ovB l x.f2 e.f2
theorem n1_f (l : List S86) (e : S86) : ∀ (cs : List S86) (n : Int), 0 ≤ n → n + cs.length ≤ 4611686018427387904 → impl_Contention.n1 l e cs n = some (n + (cs.countP (hit l e) : Int)) := by
  intro cs
  induction cs with
  | nil => intro n _ _; simp [impl_Contention.n1]
  | cons x xs ih =>
    intro n h0 h1
    simp only [List.length_cons] at h1
    simp only [impl_Contention.n1]
    rw [ov_impl, List.countP_cons]
    simp only [Option.bind_some]
    by_cases h : x.f4.f1.toList = e.f4.f1.toList
    · rw [if_pos h]
      by_cases h2 : ovB l x.f2 e.f2 = true
      · rw [if_pos h2, w64 (by omega) (by omega), ih (n + 1) (by omega) (by omega), if_pos (by simp [hit, h, h2])]
        congr 1
        omega
      · rw [if_neg h2, ih n h0 (by omega), if_neg (by simp [hit, h2])]
        congr 1
    · rw [if_neg h, ih n h0 (by omega), if_neg (by simp [hit, h])]
      congr 1
theorem specC_step (l : List S86) (hl : l.length ≤ 1048576) (i j : Nat) (hi : i < l.length) (hj : j < i) (n : Int) (k : Nat) (hk : 1048580 < k) :
    spec_Contention.l1 (k + 1) l n (i : Int) (j : Int) = spec_Contention.l1 k l (if isRec l[i] = true ∧ isRec l[j] = true ∧ hit l l[i] l[j] = true then wrap64 (n + 1) else n) (i : Int) ((j + 1 : Nat) : Int) := by
  have hj2 : j < l.length := by omega
  obtain ⟨k0, hk0⟩ : ∃ q, q = k := ⟨_, rfl⟩
  have hov := ov_spec l l[i].f2 l[j].f2 hl k hk
  have ew : wrap64 ((j : Int) + 1) = ((j + 1 : Nat) : Int) := by rw [w64 (by omega) (by omega)]; omega
  simp only [spec_Contention.l1]
  rw [if_pos (show (j : Int) < (i : Int) by omega), if_pos (show (0 : Int) ≤ (i : Int) by omega), if_pos (show (i : Int) < (l.length : Int) by omega), if_pos (show (0 : Int) ≤ (j : Int) by omega), if_pos (show (j : Int) < (l.length : Int) by omega), at_S86 l i hi, at_S86 l j hj2, hov, ew, ov_symm]
  simp only [Option.bind_some, isRec, hit, Bool.and_eq_true, beq_iff_eq]
  clear hov hk0
  generalize l[i] = X
  generalize l[j] = Y
  generalize ovB l Y.f2 X.f2 = o
  by_cases h1 : X.f0 = 1
  · by_cases h2 : Y.f0 = 1
    · by_cases h3 : X.f4.f0 = 2
      · by_cases h4 : Y.f4.f0 = 2
        · by_cases h5 : X.f4.f1.toList = Y.f4.f1.toList
          · cases o <;> simp [h1, h2, h3, h4, h5]
          · have h6 : ¬ Y.f4.f1.toList = X.f4.f1.toList := fun e => h5 e.symm
            simp [h1, h2, h3, h4, h5, h6]
        · simp [h1, h2, h3, h4]
      · simp [h1, h2, h3]
    · simp [h1, h2]
  · simp [h1]
theorem specC_l1 (l : List S86) (hl : l.length ≤ 1048576) (i : Nat) (hi : i < l.length) (k : Nat) (hk : 1048580 < k) (d : Nat) : ∀ (j : Nat) (n : Int), j + d = i → 0 ≤ n → n + d ≤ 4611686018427387904 →
    spec_Contention.l1 (k + d + 1) l n (i : Int) (j : Int) = spec_Contention.l0 k l (n + (if isRec l[i] = true then ((((l.take i).drop j).countP fun x => isRec x && hit l l[i] x : Nat) : Int) else 0)) ((i + 1 : Nat) : Int) := by
  induction d with
  | zero =>
    intro j n hj h0 h1
    obtain rfl : j = i := by omega
    rw [List.drop_of_length_le (by simp; omega)]
    obtain ⟨k0, hk0⟩ : ∃ q, q = k := ⟨_, rfl⟩
    simp only [spec_Contention.l1, Nat.add_zero]
    rw [if_neg (by omega), w64 (by omega) (by omega)]
    simp
  | succ d ih =>
    intro j n hj h0 h1
    have hji : j < i := by omega
    rw [show k + (d + 1) + 1 = (k + d + 1) + 1 from by omega, specC_step l hl i j hi hji n (k + d + 1) (by omega)]
    have hd : (l.take i).drop j = l[j] :: (l.take i).drop (j + 1) := by
      rw [List.drop_eq_getElem_cons (by simp; omega)]
      simp
    rw [hd, List.countP_cons]
    by_cases hX : isRec l[i] = true
    · by_cases hY : isRec l[j] = true
      · by_cases hh : hit l l[i] l[j] = true
        · rw [if_pos ⟨hX, hY, hh⟩, w64 (by omega) (by omega), ih (j + 1) (n + 1) (by omega) (by omega) (by omega), if_pos hX, if_pos hX, if_pos (by simp [hY, hh])]
          congr 1
          omega
        · rw [if_neg (fun h => hh h.2.2), ih (j + 1) n (by omega) h0 (by omega), if_pos hX, if_pos hX, if_neg (by simp [hh])]
          congr 1
      · rw [if_neg (fun h => hY h.2.1), ih (j + 1) n (by omega) h0 (by omega), if_pos hX, if_pos hX, if_neg (by simp [hY])]
        congr 1
    · rw [if_neg (fun h => hX h.1), ih (j + 1) n (by omega) h0 (by omega), if_neg hX, if_neg hX]
theorem contention_l0 (l : List S86) (hl : l.length ≤ 1048576) (d : Nat) : ∀ (i k : Nat) (n : Int), i + d = l.length → 0 ≤ n → n + d * 1048576 ≤ 4611686018427387904 → 1048590 + d * 1048580 < k →
    ∃ r, spec_Contention.l0 k l n (i : Int) = some r ∧ impl_Contention.n0 l (l.drop i) ((l.take i).filter isRec) n = some r := by
  induction d with
  | zero =>
    intro i k n hi h0 h1 hk
    obtain ⟨k, rfl⟩ : ∃ m, k = m + 1 := ⟨k - 1, by omega⟩
    refine ⟨n, ?_, ?_⟩
    · simp only [spec_Contention.l0]
      rw [if_neg (by omega)]
    · rw [List.drop_of_length_le (by omega)]
      rfl
  | succ d ih =>
    intro i k n hd h0 h1 hk
    have hi : i < l.length := by omega
    obtain ⟨k, rfl⟩ : ∃ m, k = m + 1 := ⟨k - 1, by omega⟩
    have hc : ((l.take i).countP fun x => isRec x && hit l l[i] x) ≤ i := by
      have := List.countP_le_length (p := fun x => isRec x && hit l l[i] x) (l := l.take i)
      simp at this
      omega
    have s1 : spec_Contention.l0 (k + 1) l n (i : Int) = spec_Contention.l0 (k - i - 1) l (n + (if isRec l[i] = true then ((((l.take i).countP fun x => isRec x && hit l l[i] x) : Nat) : Int) else 0)) ((i + 1 : Nat) : Int) := by
      simp only [spec_Contention.l0]
      rw [if_pos (show (i : Int) < (l.length : Int) by omega)]
      have e := specC_l1 l hl i hi (k - i - 1) (by omega) i 0 n (by omega) h0 (by omega)
      rw [show k - i - 1 + i + 1 = k from by omega, List.drop_zero] at e
      exact e
    have s2 : impl_Contention.n0 l (l.drop i) ((l.take i).filter isRec) n = impl_Contention.n0 l (l.drop (i + 1)) ((l.take (i + 1)).filter isRec) (n + (if isRec l[i] = true then ((((l.take i).countP fun x => isRec x && hit l l[i] x) : Nat) : Int) else 0)) := by
      rw [List.drop_eq_getElem_cons hi]
      simp only [impl_Contention.n0]
      have ht : l.take (i + 1) = l.take i ++ [l[i]] := (List.take_append_getElem hi).symm
      rw [ht, List.filter_append]
      by_cases hX : isRec l[i] = true
      · have hX2 : l[i].f0 = 1 ∧ l[i].f4.f0 = 2 := by
          unfold isRec at hX
          simpa using hX
        have hlen : ((l.take i).filter isRec).length ≤ i := by
          have := List.length_filter_le isRec (l.take i)
          simp at this
          omega
        rw [if_pos hX2, n1_f l l[i] _ n h0 (by omega), if_pos hX]
        simp only [Option.bind_some]
        rw [if_pos (by omega), List.countP_filter]
        have e1 : ((l.take i).countP fun x => hit l l[i] x && isRec x) = ((l.take i).countP fun x => isRec x && hit l l[i] x) := by
          congr 1
          funext x
          exact Bool.and_comm _ _
        rw [e1]
        simp [hX]
      · have hX2 : ¬ (l[i].f0 = 1 ∧ l[i].f4.f0 = 2) := by
          intro h
          apply hX
          unfold isRec
          simpa using h
        rw [if_neg hX2, if_neg hX]
        simp [hX]
    rw [s1, s2]
    clear s1 s2
    obtain ⟨C, hC⟩ : ∃ C : Nat, C = 1048580 := ⟨_, rfl⟩
    rw [← hC, Nat.succ_mul] at hk
    obtain ⟨D, hD⟩ : ∃ D : Nat, D = d * C := ⟨_, rfl⟩
    rw [← hD] at hk
    have hk3 : 1048590 + D < k - i - 1 := by omega
    rw [hD, hC] at hk3
    refine ih (i + 1) (k - i - 1) _ (by omega) ?_ ?_ hk3
    · split <;> omega
    · split <;> omega
theorem contention_both (l : List S86) (hl : l.length ≤ 1048576) (k : Nat) (hk : 1099520000000 < k) : ∃ r, spec_Contention.f k l = some r ∧ impl_Contention.f l = some r := by
  obtain ⟨r, h1, h2⟩ := contention_l0 l hl l.length 0 k 0 (by omega) (by omega) (by omega) (by omega)
  refine ⟨r, ?_, ?_⟩
  · unfold spec_Contention.f
    exact h1
  · unfold impl_Contention.f
    rw [List.drop_zero, List.take_zero] at h2
    exact h2
theorem FnExactContention : FnExactContentionOwn := by
  intro l hw
  obtain ⟨r, ⟨K1, e1⟩, _, _, hb⟩ := szEvS_ev l (gwLS82 l hw) 1048576 (by omega) (by omega)
  by_cases hr : r < 0
  · refine ⟨K1, ?_⟩
    have q1 := e1 K1 (by omega)
    simp only at q1
    unfold laws_FnExactContention.f
    rw [q1, Option.bind_some, if_pos hr]
  · have hb := hb (by omega)
    obtain ⟨K2, e2⟩ := toEvS_ev l hb
    obtain ⟨K3, e3⟩ := eqEvS_ev _ (toEvS_wl l hb)
    have hl : (toEvSV l).length ≤ 1048576 := by
      have := hb.1
      simp [toEvSV]
      omega
    obtain ⟨KK, hKK⟩ : ∃ q, q = K1 + K2 + K3 + 1099520000001 := ⟨_, rfl⟩
    refine ⟨KK, ?_⟩
    have q1 := e1 KK (by omega)
    have q2 := e2 KK (by omega)
    have q3 := e3 KK (by omega)
    simp only at q1 q2 q3
    obtain ⟨v, q4, q5⟩ := contention_both (toEvSV l) hl KK (by omega)
    clear hKK
    generalize toEvSV l = L at *
    unfold laws_FnExactContention.f
    simp only [q1, q2, q3, q4, q5, Option.bind_some, if_neg hr, if_true, bne_self_eq_false, Bool.false_eq_true, if_false]

end Go.Proofs.Ythhbgembnlpohaa.Pure
