/- For every workload, ShowTodo of the program answers what ShowTodo of the reference answers, and leaves the workload as it was (workloads of more than 2^20 queues, operations and letters are let pass by the law itself). -/
import Derived.Test.YtfpdkgfinfdgoaaDoorQFnExactShowTodox8
namespace Go.Proofs.YtfpdkgfinfdgoaaDoor.Pure
open Go.RowKit Go.Proofs.YtfpdkgfinfdgoaaDoor.QFnExactShowTodo Go.Proofs.YtfpdkgfinfdgoaaDoorW.PrintWords Go.Proofs.YtfpdkgfinfdgoaaDoorW.PrintLast Go.Proofs.YtfpdkgfinfdgoaaDoorW.PrintMore
set_option linter.unusedVariables false
set_option linter.unusedSimpArgs false
def FnExactShowTodoOwn : Prop := ∀ (l0 : (List S55)), (l0.length ≤ maxLen ∧ ∀ y_l0 ∈ l0, ((y_l0.f0.length ≤ maxLen ∧ ∀ y_y_l0_f0 ∈ y_l0.f0, ((Lit.int .i64 y_y_l0_f0.f0).wf = true ∧ y_y_l0_f0.f1.size ≤ maxLen ∧ (Lit.int .i64 y_y_l0_f0.f2).wf = true ∧ (Lit.int .i64 y_y_l0_f0.f3).wf = true)))) → ∃ k, laws_FnExactShowTodo.f k l0 = some true
theorem w64 {i : Int} (h : -9223372036854775808 ≤ i) (h2 : i ≤ 9223372036854775807) : wrap64 i = i := by
  unfold wrap64
  omega
theorem rd_at (x : List Int) (i : Nat) (h : i < x.length) : rd x (i : Int) = x[i] := by
  unfold rd
  rw [Int.toNat_natCast, List.getD_eq_getElem?_getD, List.getElem?_eq_getElem h]
  rfl
theorem succ_cast (i : Nat) : ((i : Int) + 1) = ((i + 1 : Nat) : Int) := by omega
theorem take_succ_ext {α : Type} (a b : List α) (i : Nat) (ha : i < a.length) (hb : i < b.length) (ht : a.take i = b.take i) (he : a[i] = b[i]) : a.take (i + 1) = b.take (i + 1) := by
  rw [List.take_succ_eq_append_getElem ha, List.take_succ_eq_append_getElem hb, ht, he]
def WfS30 (x : S30) : Prop := (x.f1.size ≤ 9223372036854775807)
def BdS30 (x : S30) : Prop := (x.f1.size ≤ 1048576)
theorem szOp_ev (y : S30) (hw : WfS30 y) (x : Int) (h0 : 0 ≤ x) (h1 : x ≤ 1048576) : ∃ r, Ev (fun _ => laws_szOp.f (y.f0) (y.f1) (y.f2) (y.f3) x) r ∧ -1 ≤ r ∧ r ≤ x ∧ (0 ≤ r → BdS30 y) := by
  have w1 : y.f1.size ≤ 9223372036854775807 := hw
  by_cases c : wrap64 (x - (y.f1.size : Int)) < 0
  · refine ⟨-1, Ev.congr (fun k => ?_) (Ev.now (-1)), by omega, by omega, fun h => by omega⟩
    unfold laws_szOp.f
    rw [if_pos c]
  · have e : wrap64 (x - (y.f1.size : Int)) = x - (y.f1.size : Int) := w64 (by omega) (by omega)
    rw [e] at c
    refine ⟨x - (y.f1.size : Int), Ev.congr (fun k => ?_) (Ev.now _), by omega, by omega, fun _ => (show y.f1.size ≤ 1048576 by omega)⟩
    unfold laws_szOp.f
    rw [e, if_neg c]
def WfLS30 (x : (List S30)) : Prop := (x.length ≤ 9223372036854775807 ∧ ∀ y1_ ∈ x, (y1_.f1.size ≤ 9223372036854775807))
def BdLS30 (x : (List S30)) : Prop := (x.length ≤ 1048576 ∧ ∀ y1_ ∈ x, (y1_.f1.size ≤ 1048576))
theorem at_S30 (x : List S30) (i : Nat) (h : i < x.length) : rd_T30 x (i : Int) = x[i] := by
  unfold rd_T30
  rw [Int.toNat_natCast, List.getD_eq_getElem?_getD, List.getElem?_eq_getElem h]
  rfl
theorem szOpS_l0 (l : List S30) (hl : l.length ≤ 1048576) (hw : ∀ y ∈ l, WfS30 y) (d : Nat) : ∀ (x : Int) (i : Nat), i + d = l.length → 0 ≤ x → x ≤ 1048576 →
    ∃ r, Ev (fun k => laws_szOpS.l0 k l x (i : Int)) r ∧ -1 ≤ r ∧ r ≤ x ∧ (0 ≤ r → ∀ j, (hj : j < l.length) → i ≤ j → BdS30 l[j]) := by
  induction d with
  | zero =>
    intro x i hd h0 h1
    refine ⟨x, Ev.step (f := fun _ => some x) (fun k => ?_) (Ev.now _), by omega, by omega, fun _ j hj hij => by omega⟩
    simp only [laws_szOpS.l0]
    rw [if_neg (by omega)]
  | succ d ih =>
    intro x i hd h0 h1
    have hi : i < l.length := by omega
    obtain ⟨r1, e1, a1, b1, c1⟩ := szOp_ev l[i] (hw _ (List.getElem_mem hi)) x h0 h1
    by_cases hr : r1 < 0
    · refine ⟨-1, Ev.step (f := fun k => (laws_szOp.f (l[i].f0) (l[i].f1) (l[i].f2) (l[i].f3) x).bind fun t => if t < 0 then some (-1) else laws_szOpS.l0 k l t (wrap64 ((i : Int) + 1))) (fun k => ?_) (Ev.bind e1 ?_), by omega, by omega, fun h => by omega⟩
      · simp only [laws_szOpS.l0]
        rw [if_pos (by omega), if_pos (by omega), at_S30 l i hi]
      · refine Ev.congr (fun k => ?_) (Ev.now (-1))
        show (if r1 < 0 then some (-1) else _) = _
        rw [if_pos hr]
    · obtain ⟨r2, e2, a2, b2, c2⟩ := ih r1 (i + 1) (by omega) (by omega) (by omega)
      refine ⟨r2, Ev.step (f := fun k => (laws_szOp.f (l[i].f0) (l[i].f1) (l[i].f2) (l[i].f3) x).bind fun t => if t < 0 then some (-1) else laws_szOpS.l0 k l t (wrap64 ((i : Int) + 1))) (fun k => ?_) (Ev.bind e1 ?_), a2, by omega, fun h j hj hij => ?_⟩
      · simp only [laws_szOpS.l0]
        rw [if_pos (by omega), if_pos (by omega), at_S30 l i hi]
      · refine Ev.congr (fun k => ?_) e2
        show (if r1 < 0 then some (-1) else _) = _
        rw [if_neg hr, w64 (by omega) (by omega), succ_cast]
      · by_cases hij2 : j = i
        · subst hij2
          exact c1 (by omega)
        · exact c2 h j hj (by omega)
theorem szOpS_ev (l : (List S30)) (hw : WfLS30 l) (x : Int) (h0 : 0 ≤ x) (h1 : x ≤ 1048576) : ∃ r, Ev (fun k => laws_szOpS.f k l x) r ∧ -1 ≤ r ∧ r ≤ x ∧ (0 ≤ r → BdLS30 l) := by
  obtain ⟨hl, hw⟩ := hw
  by_cases c : wrap64 (x - (l.length : Int)) < 0
  · refine ⟨-1, Ev.congr (fun k => ?_) (Ev.now (-1)), by omega, by omega, fun h => by omega⟩
    unfold laws_szOpS.f
    rw [if_pos c]
  · have e : wrap64 (x - (l.length : Int)) = x - (l.length : Int) := w64 (by omega) (by omega)
    rw [e] at c
    obtain ⟨r, e1, a1, b1, c1⟩ := szOpS_l0 l (by omega) hw l.length (x - (l.length : Int)) 0 (by omega) (by omega) (by omega)
    refine ⟨r, Ev.congr (fun k => ?_) e1, a1, by omega, fun h => ⟨by omega, fun y hy => ?_⟩⟩
    · unfold laws_szOpS.f
      rw [e, if_neg c]
      rfl
    · obtain ⟨j, hj, rfl⟩ := List.mem_iff_getElem.mp hy
      exact c1 h j hj (Nat.zero_le _)
def WfS55 (x : S55) : Prop := ((x.f0.length ≤ 9223372036854775807 ∧ ∀ y4_ ∈ x.f0, (y4_.f1.size ≤ 9223372036854775807)))
def BdS55 (x : S55) : Prop := ((x.f0.length ≤ 1048576 ∧ ∀ y4_ ∈ x.f0, (y4_.f1.size ≤ 1048576)))
theorem szQueue_ev (y : S55) (hw : WfS55 y) (x : Int) (h0 : 0 ≤ x) (h1 : x ≤ 1048576) : ∃ r, Ev (fun k => laws_szQueue.f k (y.f0) x) r ∧ -1 ≤ r ∧ r ≤ x ∧ (0 ≤ r → BdS55 y) := by
  have w0 : (y.f0.length ≤ 9223372036854775807 ∧ ∀ y4_ ∈ y.f0, (y4_.f1.size ≤ 9223372036854775807)) := hw
  obtain ⟨r0, e0, a0, b0, c0⟩ := szOpS_ev y.f0 w0 x (by omega) (by omega)
  by_cases hr0 : r0 < 0
  · refine ⟨-1, ?_, by omega, by omega, fun h => by omega⟩
    unfold laws_szQueue.f
    refine Ev.bind e0 ?_
    exact Ev.congr (fun k => if_pos hr0) (Ev.now (-1))
  · skip
    refine ⟨r0, ?_, by omega, by omega, fun h => c0 (by omega)⟩
    unfold laws_szQueue.f
    refine Ev.bind e0 ?_
    refine Ev.congr (f := fun k => (some r0)) (fun k => if_neg hr0) ?_
    exact Ev.now _
def WfLS55 (x : (List S55)) : Prop := (x.length ≤ 9223372036854775807 ∧ ∀ y1_ ∈ x, ((y1_.f0.length ≤ 9223372036854775807 ∧ ∀ y6_ ∈ y1_.f0, (y6_.f1.size ≤ 9223372036854775807))))
def BdLS55 (x : (List S55)) : Prop := (x.length ≤ 1048576 ∧ ∀ y1_ ∈ x, ((y1_.f0.length ≤ 1048576 ∧ ∀ y6_ ∈ y1_.f0, (y6_.f1.size ≤ 1048576))))
theorem at_S55 (x : List S55) (i : Nat) (h : i < x.length) : rd_T55 x (i : Int) = x[i] := by
  unfold rd_T55
  rw [Int.toNat_natCast, List.getD_eq_getElem?_getD, List.getElem?_eq_getElem h]
  rfl
theorem szQueueS_l0 (l : List S55) (hl : l.length ≤ 1048576) (hw : ∀ y ∈ l, WfS55 y) (d : Nat) : ∀ (x : Int) (i : Nat), i + d = l.length → 0 ≤ x → x ≤ 1048576 →
    ∃ r, Ev (fun k => laws_szQueueS.l0 k l x (i : Int)) r ∧ -1 ≤ r ∧ r ≤ x ∧ (0 ≤ r → ∀ j, (hj : j < l.length) → i ≤ j → BdS55 l[j]) := by
  induction d with
  | zero =>
    intro x i hd h0 h1
    refine ⟨x, Ev.step (f := fun _ => some x) (fun k => ?_) (Ev.now _), by omega, by omega, fun _ j hj hij => by omega⟩
    simp only [laws_szQueueS.l0]
    rw [if_neg (by omega)]
  | succ d ih =>
    intro x i hd h0 h1
    have hi : i < l.length := by omega
    obtain ⟨r1, e1, a1, b1, c1⟩ := szQueue_ev l[i] (hw _ (List.getElem_mem hi)) x h0 h1
    by_cases hr : r1 < 0
    · refine ⟨-1, Ev.step (f := fun k => (laws_szQueue.f k (l[i].f0) x).bind fun t => if t < 0 then some (-1) else laws_szQueueS.l0 k l t (wrap64 ((i : Int) + 1))) (fun k => ?_) (Ev.bind e1 ?_), by omega, by omega, fun h => by omega⟩
      · simp only [laws_szQueueS.l0]
        rw [if_pos (by omega), if_pos (by omega), at_S55 l i hi]
      · refine Ev.congr (fun k => ?_) (Ev.now (-1))
        show (if r1 < 0 then some (-1) else _) = _
        rw [if_pos hr]
    · obtain ⟨r2, e2, a2, b2, c2⟩ := ih r1 (i + 1) (by omega) (by omega) (by omega)
      refine ⟨r2, Ev.step (f := fun k => (laws_szQueue.f k (l[i].f0) x).bind fun t => if t < 0 then some (-1) else laws_szQueueS.l0 k l t (wrap64 ((i : Int) + 1))) (fun k => ?_) (Ev.bind e1 ?_), a2, by omega, fun h j hj hij => ?_⟩
      · simp only [laws_szQueueS.l0]
        rw [if_pos (by omega), if_pos (by omega), at_S55 l i hi]
      · refine Ev.congr (fun k => ?_) e2
        show (if r1 < 0 then some (-1) else _) = _
        rw [if_neg hr, w64 (by omega) (by omega), succ_cast]
      · by_cases hij2 : j = i
        · subst hij2
          exact c1 (by omega)
        · exact c2 h j hj (by omega)
theorem szQueueS_ev (l : (List S55)) (hw : WfLS55 l) (x : Int) (h0 : 0 ≤ x) (h1 : x ≤ 1048576) : ∃ r, Ev (fun k => laws_szQueueS.f k l x) r ∧ -1 ≤ r ∧ r ≤ x ∧ (0 ≤ r → BdLS55 l) := by
  obtain ⟨hl, hw⟩ := hw
  by_cases c : wrap64 (x - (l.length : Int)) < 0
  · refine ⟨-1, Ev.congr (fun k => ?_) (Ev.now (-1)), by omega, by omega, fun h => by omega⟩
    unfold laws_szQueueS.f
    rw [if_pos c]
  · have e : wrap64 (x - (l.length : Int)) = x - (l.length : Int) := w64 (by omega) (by omega)
    rw [e] at c
    obtain ⟨r, e1, a1, b1, c1⟩ := szQueueS_l0 l (by omega) hw l.length (x - (l.length : Int)) 0 (by omega) (by omega) (by omega)
    refine ⟨r, Ev.congr (fun k => ?_) e1, a1, by omega, fun h => ⟨by omega, fun y hy => ?_⟩⟩
    · unfold laws_szQueueS.f
      rw [e, if_neg c]
      rfl
    · obtain ⟨j, hj, rfl⟩ := List.mem_iff_getElem.mp hy
      exact c1 h j hj (Nat.zero_le _)
def WfStr (x : ByteArray) : Prop := x.size ≤ 9223372036854775807
def BdStr (x : ByteArray) : Prop := x.size ≤ 1048576
theorem gwStr (x : ByteArray) (h : x.size ≤ maxLen) : WfStr x := by
  unfold WfStr
  unfold maxLen at h
  omega
theorem gwS30 (x : S30) (h : ((Lit.int .i64 x.f0).wf = true ∧ x.f1.size ≤ maxLen ∧ (Lit.int .i64 x.f2).wf = true ∧ (Lit.int .i64 x.f3).wf = true)) : WfS30 x := by
  obtain ⟨g0, g1, g2, g3⟩ := h
  exact gwStr x.f1 g1
theorem gwLS30 (x : (List S30)) (h : (x.length ≤ maxLen ∧ ∀ y_x ∈ x, ((Lit.int .i64 y_x.f0).wf = true ∧ y_x.f1.size ≤ maxLen ∧ (Lit.int .i64 y_x.f2).wf = true ∧ (Lit.int .i64 y_x.f3).wf = true))) : WfLS30 x := ⟨by have := h.1; unfold maxLen at this; omega, fun y hy => gwS30 y (h.2 y hy)⟩
theorem gwS55 (x : S55) (h : ((x.f0.length ≤ maxLen ∧ ∀ y_x_f0 ∈ x.f0, ((Lit.int .i64 y_x_f0.f0).wf = true ∧ y_x_f0.f1.size ≤ maxLen ∧ (Lit.int .i64 y_x_f0.f2).wf = true ∧ (Lit.int .i64 y_x_f0.f3).wf = true)))) : WfS55 x := by
  have g0 := h
  exact gwLS30 x.f0 g0
theorem gwLS55 (x : (List S55)) (h : (x.length ≤ maxLen ∧ ∀ y_x ∈ x, ((y_x.f0.length ≤ maxLen ∧ ∀ y_y_x_f0 ∈ y_x.f0, ((Lit.int .i64 y_y_x_f0.f0).wf = true ∧ y_y_x_f0.f1.size ≤ maxLen ∧ (Lit.int .i64 y_y_x_f0.f2).wf = true ∧ (Lit.int .i64 y_y_x_f0.f3).wf = true))))) : WfLS55 x := ⟨by have := h.1; unfold maxLen at this; omega, fun y hy => gwS55 y (h.2 y hy)⟩
def toOpV (x : S30) : S36 := ⟨x.f0, x.f1, x.f2, x.f3⟩
def toOpSV (l : (List S30)) : (List S36) := l.map toOpV
def toQueueV (x : S55) : S59 := ⟨toOpSV x.f0⟩
def toQueueSV (l : (List S55)) : (List S59) := l.map toQueueV
theorem toOp_ev (y : S30) (hb : BdS30 y) : Ev (fun _ => laws_toOp.f (y.f0) (y.f1) (y.f2) (y.f3)) ((toOpV y).f0, (toOpV y).f1, (toOpV y).f2, (toOpV y).f3) := by
  exact Ev.congr (fun k => rfl) (Ev.now _)
theorem toOpS_l0 (l : (List S30)) (hl : l.length ≤ 1048576) (hb : ∀ y ∈ l, BdS30 y) (d : Nat) : ∀ (out : (List S36)) (i : Nat), i + d = l.length → out.length = l.length → out.take i = (toOpSV l).take i → Ev (fun k => laws_toOpS.l0 k l out (i : Int)) (toOpSV l) := by
  have hlen : (toOpSV l).length = l.length := by simp [toOpSV]
  induction d with
  | zero =>
    intro out i hd ho ht
    refine Ev.step (f := fun _ => some (toOpSV l)) (fun k => ?_) (Ev.now _)
    simp only [laws_toOpS.l0]
    rw [if_neg (by omega)]
    have h1 : out.take i = out := List.take_of_length_le (by omega)
    have h2 : (toOpSV l).take i = toOpSV l := List.take_of_length_le (by omega)
    rw [← h1, ht, h2]
  | succ d ih =>
    intro out i hd ho ht
    have hi : i < l.length := by omega
    refine Ev.step (f := fun k => (laws_toOp.f (l[i].f0) (l[i].f1) (l[i].f2) (l[i].f3)).bind fun b => if (i : Int) < (out.length : Int) then laws_toOpS.l0 k l (out.set i (⟨b.1, b.2.1, b.2.2.1, b.2.2.2⟩ : S36)) (wrap64 ((i : Int) + 1)) else none) (fun k => ?_) (Ev.bind (toOp_ev l[i] (hb _ (List.getElem_mem hi))) ?_)
    · simp only [laws_toOpS.l0]
      rw [if_pos (by omega), if_pos (by omega), at_S30 l i hi, Int.toNat_natCast]
    · refine Ev.congr (fun k => ?_) (ih (out.set i (toOpV l[i])) (i + 1) (by omega) (by rw [List.length_set]; exact ho) ?_)
      · show (if (i : Int) < (out.length : Int) then _ else none) = _
        rw [if_pos (by omega), w64 (by omega) (by omega), succ_cast]
        try rfl
      · refine take_succ_ext _ _ i (by rw [List.length_set]; omega) (by omega) ?_ (by simp [toOpSV])
        rw [List.take_set_of_le (Nat.le_refl _)]
        exact ht
theorem toOpS_ev (l : (List S30)) (hb : BdLS30 l) : Ev (fun k => laws_toOpS.f k l) (toOpSV l) := by
  have hl : l.length ≤ 1048576 := hb.1
  refine Ev.congr (fun k => ?_) (toOpS_l0 l hl hb.2 l.length (List.replicate l.length z36) 0 (by omega) (by simp) (by simp))
  unfold laws_toOpS.f
  rw [if_pos (by omega), if_pos (by omega), Int.toNat_natCast]
  rfl
theorem toQueue_ev (y : S55) (hb : BdS55 y) : Ev (fun k => laws_toQueue.f k (y.f0)) ((toQueueV y).f0) := by
  have w0 : (y.f0.length ≤ 1048576 ∧ ∀ y4_ ∈ y.f0, (y4_.f1.size ≤ 1048576)) := hb
  unfold laws_toQueue.f
  refine Ev.bind (toOpS_ev y.f0 w0) ?_
  exact Ev.now _
theorem toQueueS_l0 (l : (List S55)) (hl : l.length ≤ 1048576) (hb : ∀ y ∈ l, BdS55 y) (d : Nat) : ∀ (out : (List S59)) (i : Nat), i + d = l.length → out.length = l.length → out.take i = (toQueueSV l).take i → Ev (fun k => laws_toQueueS.l0 k l out (i : Int)) (toQueueSV l) := by
  have hlen : (toQueueSV l).length = l.length := by simp [toQueueSV]
  induction d with
  | zero =>
    intro out i hd ho ht
    refine Ev.step (f := fun _ => some (toQueueSV l)) (fun k => ?_) (Ev.now _)
    simp only [laws_toQueueS.l0]
    rw [if_neg (by omega)]
    have h1 : out.take i = out := List.take_of_length_le (by omega)
    have h2 : (toQueueSV l).take i = toQueueSV l := List.take_of_length_le (by omega)
    rw [← h1, ht, h2]
  | succ d ih =>
    intro out i hd ho ht
    have hi : i < l.length := by omega
    refine Ev.step (f := fun k => (laws_toQueue.f k (l[i].f0)).bind fun b => if (i : Int) < (out.length : Int) then laws_toQueueS.l0 k l (out.set i (⟨b⟩ : S59)) (wrap64 ((i : Int) + 1)) else none) (fun k => ?_) (Ev.bind (toQueue_ev l[i] (hb _ (List.getElem_mem hi))) ?_)
    · simp only [laws_toQueueS.l0]
      rw [if_pos (by omega), if_pos (by omega), at_S55 l i hi, Int.toNat_natCast]
    · refine Ev.congr (fun k => ?_) (ih (out.set i (toQueueV l[i])) (i + 1) (by omega) (by rw [List.length_set]; exact ho) ?_)
      · show (if (i : Int) < (out.length : Int) then _ else none) = _
        rw [if_pos (by omega), w64 (by omega) (by omega), succ_cast]
        try rfl
      · refine take_succ_ext _ _ i (by rw [List.length_set]; omega) (by omega) ?_ (by simp [toQueueSV])
        rw [List.take_set_of_le (Nat.le_refl _)]
        exact ht
theorem toQueueS_ev (l : (List S55)) (hb : BdLS55 l) : Ev (fun k => laws_toQueueS.f k l) (toQueueSV l) := by
  have hl : l.length ≤ 1048576 := hb.1
  refine Ev.congr (fun k => ?_) (toQueueS_l0 l hl hb.2 l.length (List.replicate l.length z59) 0 (by omega) (by simp) (by simp))
  unfold laws_toQueueS.f
  rw [if_pos (by omega), if_pos (by omega), Int.toNat_natCast]
  rfl
theorem eqOp_ev (y : S36) : Ev (fun _ => laws_eqOp.f (y.f0) (y.f1) (y.f2) (y.f3) (y.f0) (y.f1) (y.f2) (y.f3)) true := by
  refine ⟨0, fun k hk => ?_⟩
  unfold laws_eqOp.f
  simp only [if_true, bne_self_eq_false, Option.bind_some, Bool.false_eq_true, if_false]
theorem at_S36 (x : List S36) (i : Nat) (h : i < x.length) : rd_T36 x (i : Int) = x[i] := by
  unfold rd_T36
  rw [Int.toNat_natCast, List.getD_eq_getElem?_getD, List.getElem?_eq_getElem h]
  rfl
theorem eqOpS_l0 (l : (List S36)) (hl : l.length ≤ 4611686018427387904) (d : Nat) : ∀ (i : Nat), i + d = l.length → Ev (fun k => laws_eqOpS.l0 k l l (i : Int)) true := by
  induction d with
  | zero =>
    intro i hd
    refine Ev.step (f := fun _ => some true) (fun k => ?_) (Ev.now _)
    simp only [laws_eqOpS.l0]
    rw [if_neg (by omega)]
  | succ d ih =>
    intro i hd
    have hi : i < l.length := by omega
    refine Ev.step (f := fun k => (laws_eqOp.f (l[i].f0) (l[i].f1) (l[i].f2) (l[i].f3) (l[i].f0) (l[i].f1) (l[i].f2) (l[i].f3)).bind fun b => if b = true then laws_eqOpS.l0 k l l (wrap64 ((i : Int) + 1)) else some false) (fun k => ?_) (Ev.bind (eqOp_ev l[i]) (Ev.congr (fun k => ?_) (ih (i + 1) (by omega))))
    · simp only [laws_eqOpS.l0]
      rw [if_pos (by omega), if_pos (by omega), if_pos (by omega), at_S36 l i hi]
    · show (if true = true then _ else some false) = _
      rw [if_pos rfl, w64 (by omega) (by omega), succ_cast]
theorem eqOpS_ev (l : (List S36)) (hw : (l.length ≤ 4611686018427387904)) : Ev (fun k => laws_eqOpS.f k l l) true := by
  refine Ev.congr (fun k => ?_) (eqOpS_l0 l hw l.length 0 (by omega))
  unfold laws_eqOpS.f
  rw [if_pos rfl]
  rfl
theorem eqQueue_ev (y : S59) (hw : ((y.f0.length ≤ 4611686018427387904))) : Ev (fun k => laws_eqQueue.f k (y.f0) (y.f0)) true := by
  have w0 := hw
  obtain ⟨K0, e0⟩ := eqOpS_ev y.f0 w0
  refine ⟨K0, fun k hk => ?_⟩
  have q0 := e0 k (by omega)
  simp only at q0
  unfold laws_eqQueue.f
  simp only [q0, if_true, bne_self_eq_false, Option.bind_some, Bool.false_eq_true, if_false]
theorem at_S59 (x : List S59) (i : Nat) (h : i < x.length) : rd_T59 x (i : Int) = x[i] := by
  unfold rd_T59
  rw [Int.toNat_natCast, List.getD_eq_getElem?_getD, List.getElem?_eq_getElem h]
  rfl
theorem eqQueueS_l0 (l : (List S59)) (hl : l.length ≤ 4611686018427387904) (hw : ∀ y ∈ l, ((y.f0.length ≤ 4611686018427387904))) (d : Nat) : ∀ (i : Nat), i + d = l.length → Ev (fun k => laws_eqQueueS.l0 k l l (i : Int)) true := by
  induction d with
  | zero =>
    intro i hd
    refine Ev.step (f := fun _ => some true) (fun k => ?_) (Ev.now _)
    simp only [laws_eqQueueS.l0]
    rw [if_neg (by omega)]
  | succ d ih =>
    intro i hd
    have hi : i < l.length := by omega
    refine Ev.step (f := fun k => (laws_eqQueue.f k (l[i].f0) (l[i].f0)).bind fun b => if b = true then laws_eqQueueS.l0 k l l (wrap64 ((i : Int) + 1)) else some false) (fun k => ?_) (Ev.bind (eqQueue_ev l[i] (hw _ (List.getElem_mem hi))) (Ev.congr (fun k => ?_) (ih (i + 1) (by omega))))
    · simp only [laws_eqQueueS.l0]
      rw [if_pos (by omega), if_pos (by omega), if_pos (by omega), at_S59 l i hi]
    · show (if true = true then _ else some false) = _
      rw [if_pos rfl, w64 (by omega) (by omega), succ_cast]
theorem eqQueueS_ev (l : (List S59)) (hw : (l.length ≤ 4611686018427387904 ∧ ∀ y1_ ∈ l, ((y1_.f0.length ≤ 4611686018427387904)))) : Ev (fun k => laws_eqQueueS.f k l l) true := by
  refine Ev.congr (fun k => ?_) (eqQueueS_l0 l hw.1 hw.2 l.length 0 (by omega))
  unfold laws_eqQueueS.f
  rw [if_pos rfl]
  rfl
theorem toOpS_wl (l : (List S30)) (hb : BdLS30 l) : ((toOpSV l).length ≤ 4611686018427387904) := by
  have := hb.1
  simp [toOpSV]
  omega
theorem toQueue_wl (y : S55) (hb : BdS55 y) : (((toQueueV y).f0.length ≤ 4611686018427387904)) := by
  have w0 : (y.f0.length ≤ 1048576 ∧ ∀ y4_ ∈ y.f0, (y4_.f1.size ≤ 1048576)) := hb
  exact toOpS_wl y.f0 w0
theorem toQueueS_wl (l : (List S55)) (hb : BdLS55 l) : ((toQueueSV l).length ≤ 4611686018427387904 ∧ ∀ y13_ ∈ (toQueueSV l), ((y13_.f0.length ≤ 4611686018427387904))) := by
  refine ⟨by have := hb.1; simp [toQueueSV]; omega, fun y hy => ?_⟩
  obtain ⟨x, hx, rfl⟩ := List.mem_map.mp hy
  exact toQueue_wl x (hb.2 x hx)
theorem l1In_f (x a b : Int) : spec_l1In.f x a b = some (decide (a ≤ x) && decide (x ≤ b)) := by
  unfold spec_l1In.f
  by_cases h : x ≥ a
  · rw [if_pos h]
    have h2 : a ≤ x := h
    simp [h2]
  · rw [if_neg h]
    have h2 : ¬ a ≤ x := h
    simp [h2]
theorem within_f (x a b : Int) : impl_within.f x a b = some (decide (a ≤ x) && decide (x ≤ b)) := by
  unfold impl_within.f
  by_cases h : a ≤ x <;> simp [h]
def kb (c : Int) : Bool := (decide (97 ≤ c) && decide (c ≤ 122)) || ((decide (65 ≤ c) && decide (c ≤ 90)) || ((decide (48 ≤ c) && decide (c ≤ 57)) || decide (c = 95)))
def keyOkFrom (s : ByteArray) : Nat → Nat → Bool
  | 0, _ => decide (1 ≤ s.size) && decide (s.size ≤ 4)
  | d + 1, i => kb (bt s (i : Int)) && keyOkFrom s d (i + 1)
def keyOkB (s : ByteArray) : Bool := keyOkFrom s s.size 0
theorem l4Byte_f (c : Int) : spec_l4Byte.f c = some (kb c) := by
  unfold spec_l4Byte.f spec_l1In.f kb
  by_cases h1 : c ≥ 97 <;> by_cases h2 : c ≤ 122 <;> by_cases h3 : c ≥ 65 <;> by_cases h4 : c ≤ 90 <;> by_cases h5 : c ≥ 48 <;> by_cases h6 : c ≤ 57 <;> by_cases h7 : c = 95 <;> simp [h1, h2, h3, h4, h5, h6, h7] <;> first | omega | (split <;> simp_all <;> omega)
theorem specKeyOk_l0 (s : ByteArray) (hn : s.size ≤ 9223372036854775806) (d : Nat) : ∀ (k i : Nat), i + d = s.size → d < k → spec_KeyOk.l0 k s (i : Int) = some (keyOkFrom s d i) := by
  induction d with
  | zero =>
    intro k i hd hk
    obtain ⟨k, rfl⟩ : ∃ m, k = m + 1 := ⟨k - 1, by omega⟩
    simp only [spec_KeyOk.l0, keyOkFrom]
    rw [if_neg (by omega)]
    unfold spec_l1In.f
    by_cases h : (s.size : Int) ≥ 1
    · rw [if_pos h]
      have h2 : 1 ≤ s.size := by omega
      simp only [Option.bind_some, h2, decide_true, Bool.true_and]
      congr 1
      rw [decide_eq_decide]
      omega
    · rw [if_neg h]
      have h2 : ¬ 1 ≤ s.size := by omega
      simp only [Option.bind_some, h2, decide_false, Bool.false_and]
  | succ d ih =>
    intro k i hd hk
    obtain ⟨k, rfl⟩ : ∃ m, k = m + 1 := ⟨k - 1, by omega⟩
    have hb := bt_range s (i : Int)
    simp only [spec_KeyOk.l0, keyOkFrom]
    rw [if_pos (by omega), if_pos (by omega), w64 (i := bt s (i : Int)) (by omega) (by omega), w64 (by omega) (by omega), succ_cast, l4Byte_f, Option.bind_some, ih k (i + 1) (by omega) (by omega)]
    cases kb (bt s (i : Int)) <;> simp
theorem implKeyOk_l0 (s : ByteArray) (hn : s.size ≤ 9223372036854775806) (d : Nat) : ∀ (k i : Nat), i + d = s.size → d < k → impl_KeyOk.l0 k s (s.size : Int) (i : Int) = some (keyOkFrom s d i) := by
  induction d with
  | zero =>
    intro k i hd hk
    obtain ⟨k, rfl⟩ : ∃ m, k = m + 1 := ⟨k - 1, by omega⟩
    simp only [impl_KeyOk.l0, keyOkFrom]
    rw [if_neg (by omega)]
    unfold impl_within.f
    by_cases h : 1 ≤ (s.size : Int)
    · rw [if_pos h]
      have h2 : 1 ≤ s.size := by omega
      simp only [Option.bind_some, h2, decide_true, Bool.true_and]
      congr 1
      rw [decide_eq_decide]
      omega
    · rw [if_neg h]
      have h2 : ¬ 1 ≤ s.size := by omega
      simp only [Option.bind_some, h2, decide_false, Bool.false_and]
  | succ d ih =>
    intro k i hd hk
    obtain ⟨k, rfl⟩ : ∃ m, k = m + 1 := ⟨k - 1, by omega⟩
    simp only [impl_KeyOk.l0, keyOkFrom]
    rw [if_pos (by omega), if_pos (by omega), if_pos (by omega), w64 (by omega) (by omega), succ_cast, ih k (i + 1) (by omega) (by omega)]
    generalize bt s (i : Int) = c
    cases h : kb c
    · unfold kb at h
      simp only [Bool.or_eq_false_iff, Bool.and_eq_false_iff, decide_eq_false_iff_not] at h
      rw [Bool.false_and]
      repeat' split
      all_goals first | rfl | omega
    · unfold kb at h
      simp only [Bool.or_eq_true, Bool.and_eq_true, decide_eq_true_eq] at h
      rw [Bool.true_and]
      repeat' split
      all_goals first | rfl | omega
theorem specKeyOk_f (s : ByteArray) (hn : s.size ≤ 9223372036854775806) (k : Nat) (hk : s.size < k) : spec_KeyOk.f k s = some (keyOkB s) := specKeyOk_l0 s hn s.size k 0 (by omega) hk
theorem implKeyOk_f (s : ByteArray) (hn : s.size ≤ 9223372036854775806) (k : Nat) (hk : s.size < k) : impl_KeyOk.f k s = some (keyOkB s) := implKeyOk_l0 s hn s.size k 0 (by omega) hk
/-- A kind's word. -/
def kwB (x : Int) : ByteArray := if x = 1 then ⟨#[99]⟩ else if x = 2 then ⟨#[103]⟩ else if x = 3 then ⟨#[109, 115]⟩ else ⟨#[]⟩
theorem specKw_f (x : Int) : spec_KindWord.f x = some (kwB x) := by
  unfold spec_KindWord.f kwB
  rw [l1In_f, Option.bind_some]
  by_cases h : 1 ≤ x ∧ x ≤ 3
  · have : x = 1 ∨ x = 2 ∨ x = 3 := by omega
    rcases this with rfl | rfl | rfl <;> (rw [if_pos (by decide), Option.bind_some, w64 (by omega) (by omega), if_pos (by omega), if_pos (by simp)]; rfl)
  · rw [if_neg (by simp; omega), if_neg (by omega), if_neg (by omega), if_neg (by omega)]
theorem implKw_f (x : Int) : impl_KindWord.f x = some (kwB x) := by
  unfold impl_KindWord.f kwB
  repeat' split
  all_goals rfl
theorem kwB_size (x : Int) : (kwB x).size ≤ 2 := by
  unfold kwB
  repeat' split
  all_goals decide
/-- A whole number in decimal. -/
def decB (n : Int) : ByteArray := ⟨(Lib.itoa n).toArray⟩
theorem decB_size (n : Int) (h0 : -9223372036854775808 ≤ n) (h1 : n ≤ 9223372036854775807) : (decB n).size ≤ 21 := by
  have := Lib.itoa_length_le n h0 h1
  unfold decB
  simpa [ByteArray.size] using this
theorem implDec_f (n : Int) (h0 : -9223372036854775808 ≤ n) (h1 : n ≤ 9223372036854775807) : impl_Dec.f n = some (decB n) := by
  unfold impl_Dec.f strconv_Itoa.f decB
  rw [if_pos ⟨h0, h1⟩]
  rfl
theorem ba_append (a b : List UInt8) : (⟨a.toArray⟩ : ByteArray) ++ ⟨b.toArray⟩ = ⟨(a ++ b).toArray⟩ := by
  apply ByteArray.ext
  simp [ByteArray.data_append]
theorem digit_son (m : Nat) (h : m < 10) : strOfNums [((48 + (m : Int)) % 256)] = ⟨[UInt8.ofNat (48 + m)].toArray⟩ := by
  have e : ((48 + (m : Int)) % 256) = ((48 + m : Nat) : Int) := by omega
  rw [e]
  rfl
theorem specDec_l0 (d : Nat) : ∀ (n k : Nat) (acc : List UInt8), 0 < n → n < 10 ^ d → (n : Int) ≤ 9223372036854775807 → acc.length + d ≤ 100 → d + 1 < k → spec_Dec.l0 k (n : Int) ⟨acc.toArray⟩ false = some ⟨(Lib.decDigits n ++ acc).toArray⟩ := by
  induction d with
  | zero => intro n k acc h0 h1 h2 h3 hk; simp at h1; omega
  | succ d ih =>
    intro n k acc h0 h1 h2 h3 hk
    obtain ⟨k, rfl⟩ : ∃ m, k = m + 1 := ⟨k - 1, by omega⟩
    have t1 : Int.tmod (n : Int) 10 = ((n % 10 : Nat) : Int) := by rw [Int.tmod_eq_emod_of_nonneg (by omega)]; omega
    have t2 : Int.tdiv (n : Int) 10 = ((n / 10 : Nat) : Int) := by rw [Int.tdiv_eq_ediv_of_nonneg (by omega)]; omega
    have hs : (⟨[UInt8.ofNat (48 + n % 10)].toArray⟩ : ByteArray).size = 1 := rfl
    have hs2 : (⟨acc.toArray⟩ : ByteArray).size = acc.length := by simp [ByteArray.size]
    simp only [spec_Dec.l0]
    rw [if_neg (by omega), t1, t2, if_neg (by omega), w64 (i := 48 + _) (by omega) (by omega), Option.bind_some, digit_son _ (by omega), if_pos (by omega), w64 (by omega) (by omega), ba_append]
    by_cases hq : n / 10 = 0
    · obtain ⟨k, rfl⟩ : ∃ m, k = m + 1 := ⟨k - 1, by omega⟩
      rw [hq]
      simp only [spec_Dec.l0]
      rw [if_pos (by omega), if_neg (by simp), Lib.decDigits_one (by omega), Nat.mod_eq_of_lt (by omega)]
    · rw [ih (n / 10) k _ (by omega) (by rw [Nat.pow_succ] at h1; omega) (by omega) (by simp; omega) (by omega)]
      have e : Lib.decDigits n = Lib.decDigits (n / 10) ++ [UInt8.ofNat (48 + n % 10)] := by
        rw [Lib.decDigits, dif_neg (by omega)]
      rw [e, List.append_assoc]
theorem specDec_f (n : Int) (h0 : 0 ≤ n) (h1 : n ≤ 9223372036854775807) (k : Nat) (hk : 30 < k) : spec_Dec.f k n = some (decB n) := by
  obtain ⟨m, rfl⟩ := Int.eq_ofNat_of_zero_le h0
  unfold spec_Dec.f decB
  rw [Lib.itoa_nonneg]
  by_cases hz : (m : Int) = 0
  · rw [if_pos hz]
    have : m = 0 := by omega
    subst this
    rw [Lib.decDigits_one (by omega)]
    rfl
  · rw [if_neg hz]
    have e : decide ((m : Int) < 0) = false := decide_eq_false (by omega)
    have z : (⟨#[]⟩ : ByteArray) = ⟨([] : List UInt8).toArray⟩ := rfl
    rw [e, z, specDec_l0 19 m k [] (by omega) (by omega) h1 (by simp) (by omega), List.append_nil]
/-- An operation is right. -/
def opOkB (a : Int) (s : ByteArray) (x v : Int) : Bool :=
  if a = 1 then (if keyOkB s = true then (if (kwB x).toList = ([] : List UInt8) then false else (v == 0)) else false)
  else if a = 2 then (if keyOkB s = true then (if x = 0 then (decide (0 ≤ v) && decide (v ≤ 65535)) else false) else false)
  else if a = 3 then (a == 3 && (s.toList == ([] : List UInt8) && (x == 0 && (v == 0)))) else false
theorem specOpOk_f (a : Int) (s : ByteArray) (x v : Int) (hn : s.size ≤ 9223372036854775806) (k : Nat) (hk : s.size < k) : spec_OpOk.f k a s x v = some (opOkB a s x v) := by
  unfold spec_OpOk.f opOkB
  rw [specKeyOk_f s hn k hk, specKw_f, l1In_f]
  simp only [Option.bind_some]
  repeat' split
  all_goals first | rfl | contradiction
theorem implOpOk_f (a : Int) (s : ByteArray) (x v : Int) (hn : s.size ≤ 9223372036854775806) (k : Nat) (hk : s.size < k) : impl_OpOk.f k a s x v = some (opOkB a s x v) := by
  unfold impl_OpOk.f opOkB
  rw [implKeyOk_f s hn k hk, implKw_f, within_f]
  simp only [Option.bind_some]
  repeat' split
  all_goals first | rfl | contradiction
theorem opOk_val (a : Int) (s : ByteArray) (x v : Int) (h : opOkB a s x v = true) (h2 : a = 2) : 0 ≤ v ∧ v ≤ 65535 := by
  subst h2
  unfold opOkB at h
  rw [if_neg (by omega), if_pos rfl] at h
  split at h
  · split at h
    · simpa using h
    · exact Bool.noConfusion h
  · exact Bool.noConfusion h
/-- An operation as a line. -/
def showOpB (a : Int) (s : ByteArray) (x v : Int) : ByteArray :=
  if opOkB a s x v = true then (if a = 1 then (((⟨#[114, 101, 103, 32]⟩ : ByteArray) ++ s) ++ (⟨#[32]⟩ : ByteArray)) ++ kwB x else if a = 2 then (((⟨#[114, 101, 99, 32]⟩ : ByteArray) ++ s) ++ (⟨#[32]⟩ : ByteArray)) ++ decB v else ⟨#[102, 108, 117, 115, 104]⟩) else ⟨#[]⟩
theorem showOp_size (a : Int) (s : ByteArray) (x v : Int) (hs : s.size ≤ 1048576) : (showOpB a s x v).size ≤ 1048676 := by
  have e1 : (⟨#[114, 101, 103, 32]⟩ : ByteArray).size = 4 := rfl
  have e2 : (⟨#[114, 101, 99, 32]⟩ : ByteArray).size = 4 := rfl
  have e3 : (⟨#[32]⟩ : ByteArray).size = 1 := rfl
  have e4 : (⟨#[102, 108, 117, 115, 104]⟩ : ByteArray).size = 5 := rfl
  have e5 : (⟨#[]⟩ : ByteArray).size = 0 := rfl
  have hk := kwB_size x
  unfold showOpB
  split
  · rename_i h
    split
    · simp only [ByteArray.size_append, e1, e3]
      omega
    · split
      · rename_i h2
        have hv := opOk_val a s x v h h2
        have := decB_size v (by omega) (by omega)
        simp only [ByteArray.size_append, e2, e3]
        omega
      · omega
  · omega
theorem specShowOp_f (a : Int) (s : ByteArray) (x v : Int) (hs : s.size ≤ 1048576) (k : Nat) (hk : 1048700 < k) : spec_ShowOp.f k a s x v = some (showOpB a s x v) := by
  unfold spec_ShowOp.f showOpB
  have e1 : (⟨#[114, 101, 103, 32]⟩ : ByteArray).size = 4 := rfl
  have e2 : (⟨#[114, 101, 99, 32]⟩ : ByteArray).size = 4 := rfl
  have e3 : (⟨#[32]⟩ : ByteArray).size = 1 := rfl
  have hkw := kwB_size x
  rw [specOpOk_f a s x v (by omega) k (by omega), Option.bind_some]
  by_cases h : opOkB a s x v = true
  · rw [if_pos h, if_pos h]
    simp only [ByteArray.size_append, e1, e2, e3]
    by_cases h1 : a = 1
    · rw [if_pos h1, if_pos h1, if_pos (by omega), if_pos (by omega), specKw_f, Option.bind_some, if_pos (by omega)]
    · rw [if_neg h1, if_neg h1]
      by_cases h2 : a = 2
      · have hv := opOk_val a s x v h h2
        have hd := decB_size v (by omega) (by omega)
        rw [if_pos h2, if_pos h2, if_pos (by omega), if_pos (by omega), specDec_f v (by omega) (by omega) k (by omega), Option.bind_some, if_pos (by omega)]
      · rw [if_neg h2, if_neg h2]
  · rw [if_neg h, if_neg h]
theorem implShowOp_f (a : Int) (s : ByteArray) (x v : Int) (hs : s.size ≤ 1048576) (k : Nat) (hk : 1048700 < k) : impl_ShowOp.f k a s x v = some (showOpB a s x v) := by
  unfold impl_ShowOp.f showOpB
  have e1 : (⟨#[114, 101, 103, 32]⟩ : ByteArray).size = 4 := rfl
  have e2 : (⟨#[114, 101, 99, 32]⟩ : ByteArray).size = 4 := rfl
  have e3 : (⟨#[32]⟩ : ByteArray).size = 1 := rfl
  have hkw := kwB_size x
  rw [implOpOk_f a s x v (by omega) k (by omega), Option.bind_some]
  by_cases h : opOkB a s x v = true
  · rw [if_pos h, if_pos h]
    simp only [ByteArray.size_append, e1, e2, e3]
    by_cases h1 : a = 1
    · rw [if_pos h1, if_pos h1, if_pos (by omega), if_pos (by omega), implKw_f, Option.bind_some, if_pos (by omega)]
    · rw [if_neg h1, if_neg h1]
      by_cases h2 : a = 2
      · have hv := opOk_val a s x v h h2
        have hd := decB_size v (by omega) (by omega)
        rw [if_pos h2, if_pos h2, if_pos (by omega), if_pos (by omega), implDec_f v (by omega) (by omega), Option.bind_some, if_pos (by omega)]
      · rw [if_neg h2, if_neg h2]
  · rw [if_neg h, if_neg h]
def opGood (i : Int) (o : S36) : Bool := opOkB o.f0 o.f1 o.f2 o.f3 && !((o.f0 == 3) != (i == 3))
def qsOk : List S59 → Nat → Bool
  | [], _ => true
  | q :: qs, i => (if (q.f0.length : Int) > 10 then false else q.f0.all (opGood (i : Int))) && qsOk qs (i + 1)
theorem specT_l1 (l : List S59) (i : Nat) (hi : i < l.length) (hl : l.length ≤ 1048576) (hb : ∀ o ∈ l[i].f0, o.f1.size ≤ 1048576) (h10 : l[i].f0.length ≤ 10) (R : Bool) (K : Nat) (hR : ∀ k, K ≤ k → spec_TodoOk.l0 k l ((i + 1 : Nat) : Int) = some R) (e : Nat) :
    ∀ j k, j + e = l[i].f0.length → K + e < k → 1048700 + e < k → spec_TodoOk.l1 k l (i : Int) (j : Int) = some ((l[i].f0.drop j).all (opGood (i : Int)) && R) := by
  induction e with
  | zero =>
    intro j k hj hk hk2
    obtain ⟨k, rfl⟩ : ∃ m, k = m + 1 := ⟨k - 1, by omega⟩
    simp only [spec_TodoOk.l1]
    rw [if_pos (by omega), if_pos (by omega), at_S59 l i hi, if_neg (by omega), List.drop_of_length_le (by omega), w64 (by omega) (by omega), succ_cast, hR k (by omega)]
    rfl
  | succ e ih =>
    intro j k hj hk hk2
    obtain ⟨k, rfl⟩ : ∃ m, k = m + 1 := ⟨k - 1, by omega⟩
    have hjl : j < l[i].f0.length := by omega
    have hs := hb _ (List.getElem_mem hjl)
    simp only [spec_TodoOk.l1]
    rw [if_pos (by omega), if_pos (by omega), at_S59 l i hi, if_pos (by omega), if_pos (by omega), at_S36 _ j hjl, specOpOk_f _ _ _ _ (by omega) k (by omega), Option.bind_some, w64 (by omega) (by omega), succ_cast, List.drop_eq_getElem_cons hjl, List.all_cons]
    unfold opGood
    by_cases h1 : opOkB l[i].f0[j].f0 l[i].f0[j].f1 l[i].f0[j].f2 l[i].f0[j].f3 = true
    · rw [if_pos h1, h1]
      by_cases h2 : ((l[i].f0[j].f0 == 3) != ((i : Int) == 3)) = true
      · rw [if_pos h2, h2]
        rfl
      · rw [if_neg h2, Bool.eq_false_iff.mpr h2, ih (j + 1) k (by omega) (by omega) (by omega)]
        rfl
    · rw [if_neg h1, Bool.eq_false_iff.mpr h1]
      rfl
theorem specT_l0 (l : List S59) (hl : l.length ≤ 1048576) (hb : ∀ q ∈ l, ∀ o ∈ q.f0, o.f1.size ≤ 1048576) (d : Nat) : ∀ i k, i + d = l.length → 1048800 + 12 * d < k → spec_TodoOk.l0 k l (i : Int) = some (qsOk (l.drop i) i && decide (l.length = 4)) := by
  induction d with
  | zero =>
    intro i k hi hk
    obtain ⟨k, rfl⟩ : ∃ m, k = m + 1 := ⟨k - 1, by omega⟩
    simp only [spec_TodoOk.l0]
    rw [if_neg (by omega), List.drop_of_length_le (by omega)]
    simp only [qsOk, Bool.true_and]
    congr 1
    by_cases h : l.length = 4
    · rw [h]; rfl
    · rw [decide_eq_false h]
      simp
      omega
  | succ d ih =>
    intro i k hd hk
    have hi : i < l.length := by omega
    obtain ⟨k, rfl⟩ : ∃ m, k = m + 1 := ⟨k - 1, by omega⟩
    simp only [spec_TodoOk.l0]
    rw [if_pos (by omega), if_pos (by omega), at_S59 l i hi, List.drop_eq_getElem_cons hi]
    simp only [qsOk]
    by_cases h : (l[i].f0.length : Int) > 10
    · rw [if_pos h, if_pos h]
      rfl
    · rw [if_neg h, if_neg h]
      have := specT_l1 l i hi hl (hb _ (List.getElem_mem hi)) (by omega) _ (1048801 + 12 * d) (fun k hk => ih (i + 1) k (by omega) (by omega)) l[i].f0.length 0 k (by omega) (by omega) (by omega)
      have z : spec_TodoOk.l1 k l (i : Int) 0 = spec_TodoOk.l1 k l (i : Int) ((0 : Nat) : Int) := rfl
      rw [z, this, List.drop_zero, Bool.and_assoc]
theorem implT_l1 (l : List S59) (i : Nat) (hi : i < l.length) (hl : l.length ≤ 1048576) (hb : ∀ o ∈ l[i].f0, o.f1.size ≤ 1048576) (h10 : l[i].f0.length ≤ 10) (R : Bool) (K : Nat) (hR : ∀ k, K ≤ k → impl_TodoOk.l0 k l (l.length : Int) ((i + 1 : Nat) : Int) = some R) (e : Nat) :
    ∀ j k, j + e = l[i].f0.length → K + e < k → 1048700 + e < k → impl_TodoOk.l1 k (i : Int) l (l.length : Int) (i : Int) l[i].f0 (l[i].f0.length : Int) (j : Int) = some ((l[i].f0.drop j).all (opGood (i : Int)) && R) := by
  induction e with
  | zero =>
    intro j k hj hk hk2
    obtain ⟨k, rfl⟩ : ∃ m, k = m + 1 := ⟨k - 1, by omega⟩
    simp only [impl_TodoOk.l1]
    rw [if_neg (by omega), List.drop_of_length_le (by omega), w64 (by omega) (by omega), succ_cast, hR k (by omega)]
    rfl
  | succ e ih =>
    intro j k hj hk hk2
    obtain ⟨k, rfl⟩ : ∃ m, k = m + 1 := ⟨k - 1, by omega⟩
    have hjl : j < l[i].f0.length := by omega
    have hs := hb _ (List.getElem_mem hjl)
    simp only [impl_TodoOk.l1]
    rw [if_pos (by omega), if_pos (by omega), if_pos (by omega), at_S36 _ j hjl, implOpOk_f _ _ _ _ (by omega) k (by omega), Option.bind_some, w64 (by omega) (by omega), succ_cast, List.drop_eq_getElem_cons hjl, List.all_cons]
    unfold opGood
    by_cases h1 : opOkB l[i].f0[j].f0 l[i].f0[j].f1 l[i].f0[j].f2 l[i].f0[j].f3 = true
    · rw [if_pos h1, h1]
      by_cases h2 : ((l[i].f0[j].f0 == 3) != ((i : Int) == 3)) = true
      · rw [if_pos h2, h2]
        rfl
      · rw [if_neg h2, Bool.eq_false_iff.mpr h2, ih (j + 1) k (by omega) (by omega) (by omega)]
        rfl
    · rw [if_neg h1, Bool.eq_false_iff.mpr h1]
      rfl
theorem implT_l0 (l : List S59) (hl : l.length ≤ 1048576) (hb : ∀ q ∈ l, ∀ o ∈ q.f0, o.f1.size ≤ 1048576) (d : Nat) : ∀ i k, i + d = l.length → 1048800 + 12 * d < k → impl_TodoOk.l0 k l (l.length : Int) (i : Int) = some (qsOk (l.drop i) i) := by
  induction d with
  | zero =>
    intro i k hi hk
    obtain ⟨k, rfl⟩ : ∃ m, k = m + 1 := ⟨k - 1, by omega⟩
    simp only [impl_TodoOk.l0]
    rw [if_neg (by omega), List.drop_of_length_le (by omega)]
    rfl
  | succ d ih =>
    intro i k hd hk
    have hi : i < l.length := by omega
    obtain ⟨k, rfl⟩ : ∃ m, k = m + 1 := ⟨k - 1, by omega⟩
    simp only [impl_TodoOk.l0]
    rw [if_pos (by omega), if_pos (by omega), if_pos (by omega), at_S59 l i hi, List.drop_eq_getElem_cons hi]
    simp only [qsOk]
    by_cases h : (l[i].f0.length : Int) > 10
    · rw [if_pos h, if_pos h]
      rfl
    · rw [if_neg h, if_neg h]
      have := implT_l1 l i hi hl (hb _ (List.getElem_mem hi)) (by omega) _ (1048801 + 12 * d) (fun k hk => ih (i + 1) k (by omega) (by omega)) l[i].f0.length 0 k (by omega) (by omega) (by omega)
      have z : impl_TodoOk.l1 k (i : Int) l (l.length : Int) (i : Int) l[i].f0 (l[i].f0.length : Int) 0 = impl_TodoOk.l1 k (i : Int) l (l.length : Int) (i : Int) l[i].f0 (l[i].f0.length : Int) ((0 : Nat) : Int) := rfl
      rw [z, this, List.drop_zero]
def todoOkB (l : List S59) : Bool := qsOk l 0 && decide (l.length = 4)
theorem specTodo_f (l : List S59) (hl : l.length ≤ 1048576) (hb : ∀ q ∈ l, ∀ o ∈ q.f0, o.f1.size ≤ 1048576) (k : Nat) (hk : 14000000 < k) : spec_TodoOk.f k l = some (todoOkB l) :=
  specT_l0 l hl hb l.length 0 k (by omega) (by omega)
theorem implTodo_f (l : List S59) (hl : l.length ≤ 1048576) (hb : ∀ q ∈ l, ∀ o ∈ q.f0, o.f1.size ≤ 1048576) (k : Nat) (hk : 14000000 < k) : impl_TodoOk.f k l = some (todoOkB l) := by
  unfold impl_TodoOk.f todoOkB
  by_cases h : l.length = 4
  · rw [if_pos (by omega), decide_eq_true h, Bool.and_true]
    exact implT_l0 l hl hb l.length 0 k (by omega) (by omega)
  · rw [if_neg (by omega), decide_eq_false h, Bool.and_false]
/-- One line of a workload. -/
def lineB (i : Nat) (o : S36) : ByteArray := ((decB (i : Int) ++ (⟨#[32]⟩ : ByteArray)) ++ showOpB o.f0 o.f1 o.f2 o.f3) ++ (⟨#[10]⟩ : ByteArray)
theorem lineB_size (i : Nat) (hi : i ≤ 1000) (o : S36) (ho : o.f1.size ≤ 1048576) : (lineB i o).size ≤ 1048800 := by
  have h1 := decB_size (i : Int) (by omega) (by omega)
  have h2 := showOp_size o.f0 o.f1 o.f2 o.f3 ho
  have e1 : (⟨#[32]⟩ : ByteArray).size = 1 := rfl
  have e2 : (⟨#[10]⟩ : ByteArray).size = 1 := rfl
  unfold lineB
  simp only [ByteArray.size_append, e1, e2]
  omega
def linesB (i : Nat) : List S36 → ByteArray → ByteArray
  | [], a => a
  | o :: os, a => linesB i os (a ++ lineB i o)
theorem linesB_size (i : Nat) (hi : i ≤ 1000) (os : List S36) : ∀ a : ByteArray, (∀ o ∈ os, o.f1.size ≤ 1048576) → (linesB i os a).size ≤ a.size + 1048800 * os.length := by
  induction os with
  | nil => intro a _; simp [linesB]
  | cons o os ih =>
    intro a h
    have h1 := ih (a ++ lineB i o) (fun x hx => h x (List.mem_cons_of_mem _ hx))
    have h2 := lineB_size i hi o (h o List.mem_cons_self)
    simp only [linesB, List.length_cons]
    rw [ByteArray.size_append] at h1
    omega
def allB : List S59 → Nat → ByteArray → ByteArray
  | [], _, a => a
  | q :: qs, i, a => allB qs (i + 1) (linesB i q.f0 a)
theorem specS_l1 (l : List S59) (i : Nat) (hi : i < l.length) (hl : l.length ≤ 4) (hb : ∀ o ∈ l[i].f0, o.f1.size ≤ 1048576) (h10 : l[i].f0.length ≤ 10) (e : Nat) :
    ∀ j k (a : ByteArray), j + e = l[i].f0.length → a.size ≤ 100000000 + 1048800 * j → 1048800 < k → spec_ShowTodo.l1 (k + e + 1) l a (i : Int) (j : Int) = spec_ShowTodo.l0 k l (linesB i (l[i].f0.drop j) a) ((i + 1 : Nat) : Int) := by
  induction e with
  | zero =>
    intro j k a hj ha hk
    simp only [spec_ShowTodo.l1]
    rw [if_pos (by omega), if_pos (by omega), at_S59 l i hi, if_neg (by omega), List.drop_of_length_le (by omega), w64 (by omega) (by omega), succ_cast]
    rfl
  | succ e ih =>
    intro j k a hj ha hk
    have hjl : j < l[i].f0.length := by omega
    have hs := hb _ (List.getElem_mem hjl)
    have h1 := decB_size (i : Int) (by omega) (by omega)
    have h2 := showOp_size l[i].f0[j].f0 l[i].f0[j].f1 l[i].f0[j].f2 l[i].f0[j].f3 hs
    have e1 : (⟨#[32]⟩ : ByteArray).size = 1 := rfl
    have e2 : (⟨#[10]⟩ : ByteArray).size = 1 := rfl
    rw [show k + (e + 1) + 1 = (k + e + 1) + 1 from rfl]
    generalize hm : k + e + 1 = m
    simp only [spec_ShowTodo.l1]
    rw [if_pos (by omega), if_pos (by omega), at_S59 l i hi, if_pos (by omega), specDec_f _ (by omega) (by omega) _ (by omega), Option.bind_some]
    simp only [ByteArray.size_append, e1, e2]
    rw [if_pos (by omega), if_pos (by omega), if_pos (by omega), at_S36 _ j hjl, specShowOp_f _ _ _ _ hs _ (by omega), Option.bind_some, if_pos (by omega), if_pos (by omega), w64 (by omega) (by omega), succ_cast, List.drop_eq_getElem_cons hjl]
    simp only [linesB]
    have ea : ((((a ++ decB (i : Int)) ++ (⟨#[32]⟩ : ByteArray)) ++ showOpB l[i].f0[j].f0 l[i].f0[j].f1 l[i].f0[j].f2 l[i].f0[j].f3) ++ (⟨#[10]⟩ : ByteArray)) = a ++ lineB i l[i].f0[j] := by
      unfold lineB
      simp only [ByteArray.append_assoc]
    rw [ea, ← hm]
    have hz := lineB_size i (by omega) l[i].f0[j] hs
    exact ih (j + 1) k _ (by omega) (by rw [ByteArray.size_append]; omega) hk
theorem implS_l1 (l : List S59) (i : Nat) (hi : i < l.length) (hl : l.length ≤ 4) (hb : ∀ o ∈ l[i].f0, o.f1.size ≤ 1048576) (h10 : l[i].f0.length ≤ 10) (e : Nat) :
    ∀ j k (a : ByteArray), j + e = l[i].f0.length → a.size ≤ 100000000 + 1048800 * j → 1048800 < k → impl_ShowTodo.l1 (k + e + 1) a (i : Int) l (l.length : Int) (i : Int) l[i].f0 (l[i].f0.length : Int) (j : Int) = impl_ShowTodo.l0 k (linesB i (l[i].f0.drop j) a) l (l.length : Int) ((i + 1 : Nat) : Int) := by
  induction e with
  | zero =>
    intro j k a hj ha hk
    simp only [impl_ShowTodo.l1]
    rw [if_neg (by omega), List.drop_of_length_le (by omega), w64 (by omega) (by omega), succ_cast]
    rfl
  | succ e ih =>
    intro j k a hj ha hk
    have hjl : j < l[i].f0.length := by omega
    have hs := hb _ (List.getElem_mem hjl)
    have h1 := decB_size (i : Int) (by omega) (by omega)
    have h2 := showOp_size l[i].f0[j].f0 l[i].f0[j].f1 l[i].f0[j].f2 l[i].f0[j].f3 hs
    have e1 : (⟨#[32]⟩ : ByteArray).size = 1 := rfl
    have e2 : (⟨#[10]⟩ : ByteArray).size = 1 := rfl
    rw [show k + (e + 1) + 1 = (k + e + 1) + 1 from rfl]
    generalize hm : k + e + 1 = m
    simp only [impl_ShowTodo.l1]
    rw [if_pos (by omega), if_pos (by omega), if_pos (by omega), implDec_f _ (by omega) (by omega), Option.bind_some, at_S36 _ j hjl]
    simp only [ByteArray.size_append, e1, e2]
    rw [if_pos (by omega), implShowOp_f _ _ _ _ hs _ (by omega), Option.bind_some, if_pos (by omega), if_pos (by omega), if_pos (by omega), w64 (by omega) (by omega), succ_cast, List.drop_eq_getElem_cons hjl]
    simp only [linesB]
    have hz := lineB_size i (by omega) l[i].f0[j] hs
    rw [← hm]
    exact ih (j + 1) k (a ++ lineB i l[i].f0[j]) (by omega) (by rw [ByteArray.size_append]; omega) hk
theorem qsOk_le (l : List S59) : ∀ i, qsOk l i = true → ∀ q ∈ l, q.f0.length ≤ 10 := by
  induction l with
  | nil => intro i _ q h; simp at h
  | cons x xs ih =>
    intro i h q hq
    simp only [qsOk, Bool.and_eq_true] at h
    rcases List.mem_cons.1 hq with rfl | hq
    · have := h.1
      split at this
      · exact Bool.noConfusion this
      · omega
    · exact ih (i + 1) h.2 q hq
theorem specS_l0 (l : List S59) (hok : todoOkB l = true) (hl : l.length = 4) (hb : ∀ q ∈ l, ∀ o ∈ q.f0, o.f1.size ≤ 1048576) (h10 : ∀ q ∈ l, q.f0.length ≤ 10) (d : Nat) : ∀ i k (a : ByteArray), i + d = 4 → a.size ≤ 11000000 * i → 15000000 + 20 * d < k → spec_ShowTodo.l0 k l a (i : Int) = some (allB (l.drop i) i a) := by
  induction d with
  | zero =>
    intro i k a hi ha hk
    obtain ⟨k, rfl⟩ : ∃ m, k = m + 2 := ⟨k - 2, by omega⟩
    simp only [spec_ShowTodo.l0]
    rw [if_neg (by omega), List.drop_of_length_le (by omega)]
    simp only [spec_ShowTodo.j1]
    rw [if_neg (by simp)]
    rfl
  | succ d ih =>
    intro i k a hd ha hk
    have hi : i < l.length := by omega
    have hq := h10 _ (List.getElem_mem hi)
    have hbi := hb _ (List.getElem_mem hi)
    obtain ⟨k, rfl⟩ : ∃ m, k = m + l[i].f0.length + 1 + 2 := ⟨k - l[i].f0.length - 3, by omega⟩
    simp only [spec_ShowTodo.l0]
    rw [if_pos (by omega), specTodo_f l (by omega) hb _ (by omega), Option.bind_some]
    simp only [spec_ShowTodo.j1]
    rw [if_pos hok]
    have := specS_l1 l i hi (by omega) hbi hq l[i].f0.length 0 k a (by omega) (by omega) (by omega)
    have z : spec_ShowTodo.l1 (k + l[i].f0.length + 1) l a (i : Int) 0 = spec_ShowTodo.l1 (k + l[i].f0.length + 1) l a (i : Int) ((0 : Nat) : Int) := rfl
    have hz := linesB_size i (by omega) l[i].f0 a hbi
    rw [z, this, List.drop_zero, List.drop_eq_getElem_cons hi]
    simp only [allB]
    exact ih (i + 1) k _ (by omega) (by omega) (by omega)
theorem implS_l0 (l : List S59) (hl : l.length = 4) (hb : ∀ q ∈ l, ∀ o ∈ q.f0, o.f1.size ≤ 1048576) (h10 : ∀ q ∈ l, q.f0.length ≤ 10) (d : Nat) : ∀ i k (a : ByteArray), i + d = 4 → a.size ≤ 11000000 * i → 15000000 + 20 * d < k → impl_ShowTodo.l0 k a l (l.length : Int) (i : Int) = some (allB (l.drop i) i a) := by
  induction d with
  | zero =>
    intro i k a hi ha hk
    obtain ⟨k, rfl⟩ : ∃ m, k = m + 1 := ⟨k - 1, by omega⟩
    simp only [impl_ShowTodo.l0]
    rw [if_neg (by omega), List.drop_of_length_le (by omega)]
    rfl
  | succ d ih =>
    intro i k a hd ha hk
    have hi : i < l.length := by omega
    have hq := h10 _ (List.getElem_mem hi)
    have hbi := hb _ (List.getElem_mem hi)
    obtain ⟨k, rfl⟩ : ∃ m, k = m + l[i].f0.length + 1 + 1 := ⟨k - l[i].f0.length - 2, by omega⟩
    simp only [impl_ShowTodo.l0]
    rw [if_pos (by omega), if_pos (by omega), if_pos (by omega), at_S59 l i hi]
    have := implS_l1 l i hi (by omega) hbi hq l[i].f0.length 0 k a (by omega) (by omega) (by omega)
    have z : impl_ShowTodo.l1 (k + l[i].f0.length + 1) a (i : Int) l (l.length : Int) (i : Int) l[i].f0 (l[i].f0.length : Int) 0 = impl_ShowTodo.l1 (k + l[i].f0.length + 1) a (i : Int) l (l.length : Int) (i : Int) l[i].f0 (l[i].f0.length : Int) ((0 : Nat) : Int) := rfl
    have hz := linesB_size i (by omega) l[i].f0 a hbi
    rw [z, this, List.drop_zero, List.drop_eq_getElem_cons hi]
    simp only [allB]
    exact ih (i + 1) k _ (by omega) (by omega) (by omega)
theorem showTodo_both (l : List S59) (hl : l.length ≤ 1048576) (hb : ∀ q ∈ l, ∀ o ∈ q.f0, o.f1.size ≤ 1048576) (k : Nat) (hk : 16000000 < k) : ∃ r, spec_ShowTodo.f k l = some r ∧ impl_ShowTodo.f k l = some r := by
  unfold spec_ShowTodo.f impl_ShowTodo.f
  rw [implTodo_f l hl hb k (by omega), Option.bind_some]
  by_cases h : todoOkB l = true
  · have h4 := h
    unfold todoOkB at h4
    simp only [Bool.and_eq_true, decide_eq_true_eq] at h4
    have h10 := qsOk_le l 0 h4.1
    rw [if_pos h]
    exact ⟨_, specS_l0 l h h4.2 hb h10 4 0 k _ (by omega) (by decide) (by omega), implS_l0 l h4.2 hb h10 4 0 k _ (by omega) (by decide) (by omega)⟩
  · rw [if_neg h]
    refine ⟨_, ?_, rfl⟩
    obtain ⟨k, rfl⟩ : ∃ m, k = m + 2 := ⟨k - 2, by omega⟩
    simp only [spec_ShowTodo.l0]
    split
    · rw [specTodo_f l hl hb _ (by omega), Option.bind_some]
      simp only [spec_ShowTodo.j1]
      rw [if_neg h]
    · simp only [spec_ShowTodo.j1]
      rw [if_neg (by simp)]
theorem FnExactShowTodo : FnExactShowTodoOwn := by
  intro l hw
  obtain ⟨r, ⟨K1, e1⟩, _, _, hb⟩ := szQueueS_ev l (gwLS55 l hw) 1048576 (by omega) (by omega)
  by_cases hr : r < 0
  · refine ⟨K1, ?_⟩
    have q1 := e1 K1 (by omega)
    simp only at q1
    unfold laws_FnExactShowTodo.f
    rw [q1, Option.bind_some, if_pos hr]
  · have hb := hb (by omega)
    obtain ⟨K2, e2⟩ := toQueueS_ev l hb
    obtain ⟨K3, e3⟩ := eqQueueS_ev _ (toQueueS_wl l hb)
    have hl : (toQueueSV l).length ≤ 1048576 := by
      have := hb.1
      simp [toQueueSV]
      omega
    have hk : ∀ q ∈ toQueueSV l, ∀ o ∈ q.f0, o.f1.size ≤ 1048576 := by
      intro q hq o ho
      simp only [toQueueSV, List.mem_map] at hq
      obtain ⟨q0, hq0, rfl⟩ := hq
      simp only [toQueueV, toOpSV, List.mem_map] at ho
      obtain ⟨o0, ho0, rfl⟩ := ho
      exact (hb.2 q0 hq0).2 o0 ho0
    obtain ⟨KK, hKK⟩ : ∃ q, q = K1 + K2 + K3 + 17000000 := ⟨_, rfl⟩
    refine ⟨KK, ?_⟩
    have q1 := e1 KK (by omega)
    have q2 := e2 KK (by omega)
    have q3 := e3 KK (by omega)
    simp only at q1 q2 q3
    obtain ⟨v, q4, q5⟩ := showTodo_both (toQueueSV l) hl hk KK (by omega)
    generalize toQueueSV l = L at *
    unfold laws_FnExactShowTodo.f
    simp only [q1, q2, q3, q4, q5, Option.bind_some, if_neg hr, if_true, bne_self_eq_false, Bool.false_eq_true, if_false]

end Go.Proofs.YtfpdkgfinfdgoaaDoor.Pure
