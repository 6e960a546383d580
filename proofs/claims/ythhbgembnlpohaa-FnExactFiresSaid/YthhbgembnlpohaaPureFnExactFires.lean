/- For every list of reports and every rule, Fires of the program answers what Fires of the reference answers, in memory of its own (more than 2^20 reports, rows and letters are let pass by the law itself). -/
import Derived.Test.YthhbgembnlpohaaQFnExactFiresx7
namespace Go.Proofs.Ythhbgembnlpohaa.Pure
open Go.RowKit Go.Proofs.Ythhbgembnlpohaa.QFnExactFires Go.Proofs.YthhbgembnlpohaaW.PrintWords Go.Proofs.YthhbgembnlpohaaW.PrintLast Go.Proofs.YthhbgembnlpohaaW.PrintMore
set_option linter.unusedVariables false
set_option linter.unusedSimpArgs false
def FnExactFiresOwn : Prop := ∀ (l0 : (List (List S118))) (a1_0 : ByteArray) (a1_1 : Int) (a1_2 : Int) (a1_3 : Int), (l0.length ≤ maxLen ∧ ∀ y_l0 ∈ l0, (y_l0.length ≤ maxLen ∧ ∀ y_y_l0 ∈ y_l0, (y_y_l0.f0.size ≤ maxLen ∧ (Lit.int .i64 y_y_l0.f1).wf = true ∧ (Lit.int .i64 y_y_l0.f2).wf = true ∧ True ∧ (Lit.int .i64 y_y_l0.f4).wf = true ∧ (Lit.int .i64 y_y_l0.f5).wf = true ∧ (Lit.int .i64 y_y_l0.f6).wf = true ∧ (Lit.int .i64 y_y_l0.f7).wf = true ∧ (Lit.int .i64 y_y_l0.f8).wf = true ∧ (Lit.int .i64 y_y_l0.f9).wf = true))) → a1_0.size ≤ maxLen → (Lit.int .i64 a1_1).wf = true → (Lit.int .i64 a1_2).wf = true → (Lit.int .i64 a1_3).wf = true → ∃ k, laws_FnExactFires.f k l0 a1_0 a1_1 a1_2 a1_3 = some true
theorem w64 {i : Int} (h : -9223372036854775808 ≤ i) (h2 : i ≤ 9223372036854775807) : wrap64 i = i := by
  unfold wrap64
  omega
theorem rd_at (x : List Int) (i : Nat) (h : i < x.length) : rd x (i : Int) = x[i] := by
  unfold rd
  rw [Int.toNat_natCast, List.getD_eq_getElem?_getD, List.getElem?_eq_getElem h]
  rfl
theorem succ_cast (i : Nat) : ((i : Int) + 1) = ((i + 1 : Nat) : Int) := by omega
theorem take_succ_ext {α : Type} (a b : List α) (i : Nat) (ha : i < a.length) (hb : i < b.length) (ht : a.take i = b.take i) (he : a[i] = b[i]) : a.take (i + 1) = b.take (i + 1) := by
  rw [List.take_succ_eq_append_getElem ha, List.take_succ_eq_append_getElem hb, ht, he]
def WfS118 (x : S118) : Prop := (x.f0.size ≤ 9223372036854775807)
def BdS118 (x : S118) : Prop := (x.f0.size ≤ 1048576)
theorem szRow_ev (y : S118) (hw : WfS118 y) (x : Int) (h0 : 0 ≤ x) (h1 : x ≤ 1048576) : ∃ r, Ev (fun _ => laws_szRow.f (y.f0) (y.f1) (y.f2) (y.f3) (y.f4) (y.f5) (y.f6) (y.f7) (y.f8) (y.f9) x) r ∧ -1 ≤ r ∧ r ≤ x ∧ (0 ≤ r → BdS118 y) := by
  have w0 : y.f0.size ≤ 9223372036854775807 := hw
  by_cases c : wrap64 (x - (y.f0.size : Int)) < 0
  · refine ⟨-1, Ev.congr (fun k => ?_) (Ev.now (-1)), by omega, by omega, fun h => by omega⟩
    unfold laws_szRow.f
    rw [if_pos c]
  · have e : wrap64 (x - (y.f0.size : Int)) = x - (y.f0.size : Int) := w64 (by omega) (by omega)
    rw [e] at c
    refine ⟨x - (y.f0.size : Int), Ev.congr (fun k => ?_) (Ev.now _), by omega, by omega, fun _ => (show y.f0.size ≤ 1048576 by omega)⟩
    unfold laws_szRow.f
    rw [e, if_neg c]
def WfLS118 (x : (List S118)) : Prop := (x.length ≤ 9223372036854775807 ∧ ∀ y1_ ∈ x, (y1_.f0.size ≤ 9223372036854775807))
def BdLS118 (x : (List S118)) : Prop := (x.length ≤ 1048576 ∧ ∀ y1_ ∈ x, (y1_.f0.size ≤ 1048576))
theorem at_S118 (x : List S118) (i : Nat) (h : i < x.length) : rd_T118 x (i : Int) = x[i] := by
  unfold rd_T118
  rw [Int.toNat_natCast, List.getD_eq_getElem?_getD, List.getElem?_eq_getElem h]
  rfl
theorem szRowS_l0 (l : List S118) (hl : l.length ≤ 1048576) (hw : ∀ y ∈ l, WfS118 y) (d : Nat) : ∀ (x : Int) (i : Nat), i + d = l.length → 0 ≤ x → x ≤ 1048576 →
    ∃ r, Ev (fun k => laws_szRowS.l0 k l x (i : Int)) r ∧ -1 ≤ r ∧ r ≤ x ∧ (0 ≤ r → ∀ j, (hj : j < l.length) → i ≤ j → BdS118 l[j]) := by
  induction d with
  | zero =>
    intro x i hd h0 h1
    refine ⟨x, Ev.step (f := fun _ => some x) (fun k => ?_) (Ev.now _), by omega, by omega, fun _ j hj hij => by omega⟩
    simp only [laws_szRowS.l0]
    rw [if_neg (by omega)]
  | succ d ih =>
    intro x i hd h0 h1
    have hi : i < l.length := by omega
    obtain ⟨r1, e1, a1, b1, c1⟩ := szRow_ev l[i] (hw _ (List.getElem_mem hi)) x h0 h1
    by_cases hr : r1 < 0
    · refine ⟨-1, Ev.step (f := fun k => (laws_szRow.f (l[i].f0) (l[i].f1) (l[i].f2) (l[i].f3) (l[i].f4) (l[i].f5) (l[i].f6) (l[i].f7) (l[i].f8) (l[i].f9) x).bind fun t => if t < 0 then some (-1) else laws_szRowS.l0 k l t (wrap64 ((i : Int) + 1))) (fun k => ?_) (Ev.bind e1 ?_), by omega, by omega, fun h => by omega⟩
      · simp only [laws_szRowS.l0]
        rw [if_pos (by omega), if_pos (by omega), at_S118 l i hi]
      · refine Ev.congr (fun k => ?_) (Ev.now (-1))
        show (if r1 < 0 then some (-1) else _) = _
        rw [if_pos hr]
    · obtain ⟨r2, e2, a2, b2, c2⟩ := ih r1 (i + 1) (by omega) (by omega) (by omega)
      refine ⟨r2, Ev.step (f := fun k => (laws_szRow.f (l[i].f0) (l[i].f1) (l[i].f2) (l[i].f3) (l[i].f4) (l[i].f5) (l[i].f6) (l[i].f7) (l[i].f8) (l[i].f9) x).bind fun t => if t < 0 then some (-1) else laws_szRowS.l0 k l t (wrap64 ((i : Int) + 1))) (fun k => ?_) (Ev.bind e1 ?_), a2, by omega, fun h j hj hij => ?_⟩
      · simp only [laws_szRowS.l0]
        rw [if_pos (by omega), if_pos (by omega), at_S118 l i hi]
      · refine Ev.congr (fun k => ?_) e2
        show (if r1 < 0 then some (-1) else _) = _
        rw [if_neg hr, w64 (by omega) (by omega), succ_cast]
      · by_cases hij2 : j = i
        · subst hij2
          exact c1 (by omega)
        · exact c2 h j hj (by omega)
theorem szRowS_ev (l : (List S118)) (hw : WfLS118 l) (x : Int) (h0 : 0 ≤ x) (h1 : x ≤ 1048576) : ∃ r, Ev (fun k => laws_szRowS.f k l x) r ∧ -1 ≤ r ∧ r ≤ x ∧ (0 ≤ r → BdLS118 l) := by
  obtain ⟨hl, hw⟩ := hw
  by_cases c : wrap64 (x - (l.length : Int)) < 0
  · refine ⟨-1, Ev.congr (fun k => ?_) (Ev.now (-1)), by omega, by omega, fun h => by omega⟩
    unfold laws_szRowS.f
    rw [if_pos c]
  · have e : wrap64 (x - (l.length : Int)) = x - (l.length : Int) := w64 (by omega) (by omega)
    rw [e] at c
    obtain ⟨r, e1, a1, b1, c1⟩ := szRowS_l0 l (by omega) hw l.length (x - (l.length : Int)) 0 (by omega) (by omega) (by omega)
    refine ⟨r, Ev.congr (fun k => ?_) e1, a1, by omega, fun h => ⟨by omega, fun y hy => ?_⟩⟩
    · unfold laws_szRowS.f
      rw [e, if_neg c]
      rfl
    · obtain ⟨j, hj, rfl⟩ := List.mem_iff_getElem.mp hy
      exact c1 h j hj (Nat.zero_le _)
def WfLLS118 (x : (List (List S118))) : Prop := (x.length ≤ 9223372036854775807 ∧ ∀ y1_ ∈ x, (y1_.length ≤ 9223372036854775807 ∧ ∀ y3_ ∈ y1_, (y3_.f0.size ≤ 9223372036854775807)))
def BdLLS118 (x : (List (List S118))) : Prop := (x.length ≤ 1048576 ∧ ∀ y1_ ∈ x, (y1_.length ≤ 1048576 ∧ ∀ y3_ ∈ y1_, (y3_.f0.size ≤ 1048576)))
theorem at_LS118 (x : List (List S118)) (i : Nat) (h : i < x.length) : rd_L4 x (i : Int) = x[i] := by
  unfold rd_L4
  rw [Int.toNat_natCast, List.getD_eq_getElem?_getD, List.getElem?_eq_getElem h]
  rfl
theorem szRowSS_l0 (l : List (List S118)) (hl : l.length ≤ 1048576) (hw : ∀ y ∈ l, WfLS118 y) (d : Nat) : ∀ (x : Int) (i : Nat), i + d = l.length → 0 ≤ x → x ≤ 1048576 →
    ∃ r, Ev (fun k => laws_szRowSS.l0 k l x (i : Int)) r ∧ -1 ≤ r ∧ r ≤ x ∧ (0 ≤ r → ∀ j, (hj : j < l.length) → i ≤ j → BdLS118 l[j]) := by
  induction d with
  | zero =>
    intro x i hd h0 h1
    refine ⟨x, Ev.step (f := fun _ => some x) (fun k => ?_) (Ev.now _), by omega, by omega, fun _ j hj hij => by omega⟩
    simp only [laws_szRowSS.l0]
    rw [if_neg (by omega)]
  | succ d ih =>
    intro x i hd h0 h1
    have hi : i < l.length := by omega
    obtain ⟨r1, e1, a1, b1, c1⟩ := szRowS_ev l[i] (hw _ (List.getElem_mem hi)) x h0 h1
    by_cases hr : r1 < 0
    · refine ⟨-1, Ev.step (f := fun k => (laws_szRowS.f k l[i] x).bind fun t => if t < 0 then some (-1) else laws_szRowSS.l0 k l t (wrap64 ((i : Int) + 1))) (fun k => ?_) (Ev.bind e1 ?_), by omega, by omega, fun h => by omega⟩
      · simp only [laws_szRowSS.l0]
        rw [if_pos (by omega), if_pos (by omega), at_LS118 l i hi]
      · refine Ev.congr (fun k => ?_) (Ev.now (-1))
        show (if r1 < 0 then some (-1) else _) = _
        rw [if_pos hr]
    · obtain ⟨r2, e2, a2, b2, c2⟩ := ih r1 (i + 1) (by omega) (by omega) (by omega)
      refine ⟨r2, Ev.step (f := fun k => (laws_szRowS.f k l[i] x).bind fun t => if t < 0 then some (-1) else laws_szRowSS.l0 k l t (wrap64 ((i : Int) + 1))) (fun k => ?_) (Ev.bind e1 ?_), a2, by omega, fun h j hj hij => ?_⟩
      · simp only [laws_szRowSS.l0]
        rw [if_pos (by omega), if_pos (by omega), at_LS118 l i hi]
      · refine Ev.congr (fun k => ?_) e2
        show (if r1 < 0 then some (-1) else _) = _
        rw [if_neg hr, w64 (by omega) (by omega), succ_cast]
      · by_cases hij2 : j = i
        · subst hij2
          exact c1 (by omega)
        · exact c2 h j hj (by omega)
theorem szRowSS_ev (l : (List (List S118))) (hw : WfLLS118 l) (x : Int) (h0 : 0 ≤ x) (h1 : x ≤ 1048576) : ∃ r, Ev (fun k => laws_szRowSS.f k l x) r ∧ -1 ≤ r ∧ r ≤ x ∧ (0 ≤ r → BdLLS118 l) := by
  obtain ⟨hl, hw⟩ := hw
  by_cases c : wrap64 (x - (l.length : Int)) < 0
  · refine ⟨-1, Ev.congr (fun k => ?_) (Ev.now (-1)), by omega, by omega, fun h => by omega⟩
    unfold laws_szRowSS.f
    rw [if_pos c]
  · have e : wrap64 (x - (l.length : Int)) = x - (l.length : Int) := w64 (by omega) (by omega)
    rw [e] at c
    obtain ⟨r, e1, a1, b1, c1⟩ := szRowSS_l0 l (by omega) hw l.length (x - (l.length : Int)) 0 (by omega) (by omega) (by omega)
    refine ⟨r, Ev.congr (fun k => ?_) e1, a1, by omega, fun h => ⟨by omega, fun y hy => ?_⟩⟩
    · unfold laws_szRowSS.f
      rw [e, if_neg c]
      rfl
    · obtain ⟨j, hj, rfl⟩ := List.mem_iff_getElem.mp hy
      exact c1 h j hj (Nat.zero_le _)
def WfStr (x : ByteArray) : Prop := x.size ≤ 9223372036854775807
def BdStr (x : ByteArray) : Prop := x.size ≤ 1048576
theorem gwStr (x : ByteArray) (h : x.size ≤ maxLen) : WfStr x := by
  unfold WfStr
  unfold maxLen at h
  omega
theorem gwS118 (x : S118) (h : (x.f0.size ≤ maxLen ∧ (Lit.int .i64 x.f1).wf = true ∧ (Lit.int .i64 x.f2).wf = true ∧ True ∧ (Lit.int .i64 x.f4).wf = true ∧ (Lit.int .i64 x.f5).wf = true ∧ (Lit.int .i64 x.f6).wf = true ∧ (Lit.int .i64 x.f7).wf = true ∧ (Lit.int .i64 x.f8).wf = true ∧ (Lit.int .i64 x.f9).wf = true)) : WfS118 x := by
  obtain ⟨g0, g1, g2, g3, g4, g5, g6, g7, g8, g9⟩ := h
  exact gwStr x.f0 g0
theorem gwLS118 (x : (List S118)) (h : (x.length ≤ maxLen ∧ ∀ y_x ∈ x, (y_x.f0.size ≤ maxLen ∧ (Lit.int .i64 y_x.f1).wf = true ∧ (Lit.int .i64 y_x.f2).wf = true ∧ True ∧ (Lit.int .i64 y_x.f4).wf = true ∧ (Lit.int .i64 y_x.f5).wf = true ∧ (Lit.int .i64 y_x.f6).wf = true ∧ (Lit.int .i64 y_x.f7).wf = true ∧ (Lit.int .i64 y_x.f8).wf = true ∧ (Lit.int .i64 y_x.f9).wf = true))) : WfLS118 x := ⟨by have := h.1; unfold maxLen at this; omega, fun y hy => gwS118 y (h.2 y hy)⟩
theorem gwLLS118 (x : (List (List S118))) (h : (x.length ≤ maxLen ∧ ∀ y_x ∈ x, (y_x.length ≤ maxLen ∧ ∀ y_y_x ∈ y_x, (y_y_x.f0.size ≤ maxLen ∧ (Lit.int .i64 y_y_x.f1).wf = true ∧ (Lit.int .i64 y_y_x.f2).wf = true ∧ True ∧ (Lit.int .i64 y_y_x.f4).wf = true ∧ (Lit.int .i64 y_y_x.f5).wf = true ∧ (Lit.int .i64 y_y_x.f6).wf = true ∧ (Lit.int .i64 y_y_x.f7).wf = true ∧ (Lit.int .i64 y_y_x.f8).wf = true ∧ (Lit.int .i64 y_y_x.f9).wf = true)))) : WfLLS118 x := ⟨by have := h.1; unfold maxLen at this; omega, fun y hy => gwLS118 y (h.2 y hy)⟩
def toRowV (x : S118) : S102 := ⟨x.f0, x.f1, x.f2, x.f3, x.f4, x.f5, x.f6, x.f7, x.f8, x.f9⟩
def toRowSV (l : (List S118)) : (List S102) := l.map toRowV
def toRowSSV (l : (List (List S118))) : (List (List S102)) := l.map toRowSV
theorem toRow_ev (y : S118) (hb : BdS118 y) : Ev (fun _ => laws_toRow.f (y.f0) (y.f1) (y.f2) (y.f3) (y.f4) (y.f5) (y.f6) (y.f7) (y.f8) (y.f9)) ((toRowV y).f0, (toRowV y).f1, (toRowV y).f2, (toRowV y).f3, (toRowV y).f4, (toRowV y).f5, (toRowV y).f6, (toRowV y).f7, (toRowV y).f8, (toRowV y).f9) := by
  exact Ev.congr (fun k => rfl) (Ev.now _)
theorem toRowS_l0 (l : (List S118)) (hl : l.length ≤ 1048576) (hb : ∀ y ∈ l, BdS118 y) (d : Nat) : ∀ (out : (List S102)) (i : Nat), i + d = l.length → out.length = l.length → out.take i = (toRowSV l).take i → Ev (fun k => laws_toRowS.l0 k l out (i : Int)) (toRowSV l) := by
  have hlen : (toRowSV l).length = l.length := by simp [toRowSV]
  induction d with
  | zero =>
    intro out i hd ho ht
    refine Ev.step (f := fun _ => some (toRowSV l)) (fun k => ?_) (Ev.now _)
    simp only [laws_toRowS.l0]
    rw [if_neg (by omega)]
    have h1 : out.take i = out := List.take_of_length_le (by omega)
    have h2 : (toRowSV l).take i = toRowSV l := List.take_of_length_le (by omega)
    rw [← h1, ht, h2]
  | succ d ih =>
    intro out i hd ho ht
    have hi : i < l.length := by omega
    refine Ev.step (f := fun k => (laws_toRow.f (l[i].f0) (l[i].f1) (l[i].f2) (l[i].f3) (l[i].f4) (l[i].f5) (l[i].f6) (l[i].f7) (l[i].f8) (l[i].f9)).bind fun b => if (i : Int) < (out.length : Int) then laws_toRowS.l0 k l (out.set i (⟨b.1, b.2.1, b.2.2.1, b.2.2.2.1, b.2.2.2.2.1, b.2.2.2.2.2.1, b.2.2.2.2.2.2.1, b.2.2.2.2.2.2.2.1, b.2.2.2.2.2.2.2.2.1, b.2.2.2.2.2.2.2.2.2⟩ : S102)) (wrap64 ((i : Int) + 1)) else none) (fun k => ?_) (Ev.bind (toRow_ev l[i] (hb _ (List.getElem_mem hi))) ?_)
    · simp only [laws_toRowS.l0]
      rw [if_pos (by omega), if_pos (by omega), at_S118 l i hi, Int.toNat_natCast]
    · refine Ev.congr (fun k => ?_) (ih (out.set i (toRowV l[i])) (i + 1) (by omega) (by rw [List.length_set]; exact ho) ?_)
      · show (if (i : Int) < (out.length : Int) then _ else none) = _
        rw [if_pos (by omega), w64 (by omega) (by omega), succ_cast]
        try rfl
      · refine take_succ_ext _ _ i (by rw [List.length_set]; omega) (by omega) ?_ (by simp [toRowSV])
        rw [List.take_set_of_le (Nat.le_refl _)]
        exact ht
theorem toRowS_ev (l : (List S118)) (hb : BdLS118 l) : Ev (fun k => laws_toRowS.f k l) (toRowSV l) := by
  have hl : l.length ≤ 1048576 := hb.1
  refine Ev.congr (fun k => ?_) (toRowS_l0 l hl hb.2 l.length (List.replicate l.length z102) 0 (by omega) (by simp) (by simp))
  unfold laws_toRowS.f
  rw [if_pos (by omega), if_pos (by omega), Int.toNat_natCast]
  rfl
theorem toRowSS_l0 (l : (List (List S118))) (hl : l.length ≤ 1048576) (hb : ∀ y ∈ l, BdLS118 y) (d : Nat) : ∀ (out : (List (List S102))) (i : Nat), i + d = l.length → out.length = l.length → out.take i = (toRowSSV l).take i → Ev (fun k => laws_toRowSS.l0 k l out (i : Int)) (toRowSSV l) := by
  have hlen : (toRowSSV l).length = l.length := by simp [toRowSSV]
  induction d with
  | zero =>
    intro out i hd ho ht
    refine Ev.step (f := fun _ => some (toRowSSV l)) (fun k => ?_) (Ev.now _)
    simp only [laws_toRowSS.l0]
    rw [if_neg (by omega)]
    have h1 : out.take i = out := List.take_of_length_le (by omega)
    have h2 : (toRowSSV l).take i = toRowSSV l := List.take_of_length_le (by omega)
    rw [← h1, ht, h2]
  | succ d ih =>
    intro out i hd ho ht
    have hi : i < l.length := by omega
    refine Ev.step (f := fun k => (laws_toRowS.f k l[i]).bind fun b => if (i : Int) < (out.length : Int) then laws_toRowSS.l0 k l (out.set i b) (wrap64 ((i : Int) + 1)) else none) (fun k => ?_) (Ev.bind (toRowS_ev l[i] (hb _ (List.getElem_mem hi))) ?_)
    · simp only [laws_toRowSS.l0]
      rw [if_pos (by omega), if_pos (by omega), at_LS118 l i hi, Int.toNat_natCast]
    · refine Ev.congr (fun k => ?_) (ih (out.set i (toRowSV l[i])) (i + 1) (by omega) (by rw [List.length_set]; exact ho) ?_)
      · show (if (i : Int) < (out.length : Int) then _ else none) = _
        rw [if_pos (by omega), w64 (by omega) (by omega), succ_cast]
        try rfl
      · refine take_succ_ext _ _ i (by rw [List.length_set]; omega) (by omega) ?_ (by simp [toRowSSV])
        rw [List.take_set_of_le (Nat.le_refl _)]
        exact ht
theorem toRowSS_ev (l : (List (List S118))) (hb : BdLLS118 l) : Ev (fun k => laws_toRowSS.f k l) (toRowSSV l) := by
  have hl : l.length ≤ 1048576 := hb.1
  refine Ev.congr (fun k => ?_) (toRowSS_l0 l hl hb.2 l.length (List.replicate l.length []) 0 (by omega) (by simp) (by simp))
  unfold laws_toRowSS.f
  rw [if_pos (by omega), if_pos (by omega), Int.toNat_natCast]
  rfl
theorem eqRow_ev (y : S102) : Ev (fun _ => laws_eqRow.f (y.f0) (y.f1) (y.f2) (y.f3) (y.f4) (y.f5) (y.f6) (y.f7) (y.f8) (y.f9) (y.f0) (y.f1) (y.f2) (y.f3) (y.f4) (y.f5) (y.f6) (y.f7) (y.f8) (y.f9)) true := by
  refine ⟨0, fun k hk => ?_⟩
  unfold laws_eqRow.f
  simp only [if_true, bne_self_eq_false, Option.bind_some, Bool.false_eq_true, if_false]
theorem at_S102 (x : List S102) (i : Nat) (h : i < x.length) : rd_T102 x (i : Int) = x[i] := by
  unfold rd_T102
  rw [Int.toNat_natCast, List.getD_eq_getElem?_getD, List.getElem?_eq_getElem h]
  rfl
theorem eqRowS_l0 (l : (List S102)) (hl : l.length ≤ 4611686018427387904) (d : Nat) : ∀ (i : Nat), i + d = l.length → Ev (fun k => laws_eqRowS.l0 k l l (i : Int)) true := by
  induction d with
  | zero =>
    intro i hd
    refine Ev.step (f := fun _ => some true) (fun k => ?_) (Ev.now _)
    simp only [laws_eqRowS.l0]
    rw [if_neg (by omega)]
  | succ d ih =>
    intro i hd
    have hi : i < l.length := by omega
    refine Ev.step (f := fun k => (laws_eqRow.f (l[i].f0) (l[i].f1) (l[i].f2) (l[i].f3) (l[i].f4) (l[i].f5) (l[i].f6) (l[i].f7) (l[i].f8) (l[i].f9) (l[i].f0) (l[i].f1) (l[i].f2) (l[i].f3) (l[i].f4) (l[i].f5) (l[i].f6) (l[i].f7) (l[i].f8) (l[i].f9)).bind fun b => if b = true then laws_eqRowS.l0 k l l (wrap64 ((i : Int) + 1)) else some false) (fun k => ?_) (Ev.bind (eqRow_ev l[i]) (Ev.congr (fun k => ?_) (ih (i + 1) (by omega))))
    · simp only [laws_eqRowS.l0]
      rw [if_pos (by omega), if_pos (by omega), if_pos (by omega), at_S102 l i hi]
    · show (if true = true then _ else some false) = _
      rw [if_pos rfl, w64 (by omega) (by omega), succ_cast]
theorem eqRowS_ev (l : (List S102)) (hw : (l.length ≤ 4611686018427387904)) : Ev (fun k => laws_eqRowS.f k l l) true := by
  refine Ev.congr (fun k => ?_) (eqRowS_l0 l hw l.length 0 (by omega))
  unfold laws_eqRowS.f
  rw [if_pos rfl]
  rfl
theorem at_LS102 (x : List (List S102)) (i : Nat) (h : i < x.length) : rd_L6 x (i : Int) = x[i] := by
  unfold rd_L6
  rw [Int.toNat_natCast, List.getD_eq_getElem?_getD, List.getElem?_eq_getElem h]
  rfl
theorem eqRowSS_l0 (l : (List (List S102))) (hl : l.length ≤ 4611686018427387904) (hw : ∀ y ∈ l, (y.length ≤ 4611686018427387904)) (d : Nat) : ∀ (i : Nat), i + d = l.length → Ev (fun k => laws_eqRowSS.l0 k l l (i : Int)) true := by
  induction d with
  | zero =>
    intro i hd
    refine Ev.step (f := fun _ => some true) (fun k => ?_) (Ev.now _)
    simp only [laws_eqRowSS.l0]
    rw [if_neg (by omega)]
  | succ d ih =>
    intro i hd
    have hi : i < l.length := by omega
    refine Ev.step (f := fun k => (laws_eqRowS.f k l[i] l[i]).bind fun b => if b = true then laws_eqRowSS.l0 k l l (wrap64 ((i : Int) + 1)) else some false) (fun k => ?_) (Ev.bind (eqRowS_ev l[i] (hw _ (List.getElem_mem hi))) (Ev.congr (fun k => ?_) (ih (i + 1) (by omega))))
    · simp only [laws_eqRowSS.l0]
      rw [if_pos (by omega), if_pos (by omega), if_pos (by omega), at_LS102 l i hi]
    · show (if true = true then _ else some false) = _
      rw [if_pos rfl, w64 (by omega) (by omega), succ_cast]
theorem eqRowSS_ev (l : (List (List S102))) (hw : (l.length ≤ 4611686018427387904 ∧ ∀ y1_ ∈ l, (y1_.length ≤ 4611686018427387904))) : Ev (fun k => laws_eqRowSS.f k l l) true := by
  refine Ev.congr (fun k => ?_) (eqRowSS_l0 l hw.1 hw.2 l.length 0 (by omega))
  unfold laws_eqRowSS.f
  rw [if_pos rfl]
  rfl
theorem toRowS_wl (l : (List S118)) (hb : BdLS118 l) : ((toRowSV l).length ≤ 4611686018427387904) := by
  have := hb.1
  simp [toRowSV]
  omega
theorem toRowSS_wl (l : (List (List S118))) (hb : BdLLS118 l) : ((toRowSSV l).length ≤ 4611686018427387904 ∧ ∀ y12_ ∈ (toRowSSV l), (y12_.length ≤ 4611686018427387904)) := by
  refine ⟨by have := hb.1; simp [toRowSSV]; omega, fun y hy => ?_⟩
  obtain ⟨x, hx, rfl⟩ := List.mem_map.mp hy
  exact toRowS_wl x (hb.2 x hx)
theorem l1In_f (x a b : Int) : spec_l1In.f x a b = some (decide (a ≤ x) && decide (x ≤ b)) := by
  unfold spec_l1In.f
  by_cases h : x ≥ a
  · rw [if_pos h]
    have h2 : a ≤ x := h
    simp [h2]
  · rw [if_neg h]
    have h2 : ¬ a ≤ x := h
    simp [h2]
theorem within_f (x a b : Int) : impl_within.f x a b = some (decide (a ≤ x) && decide (x ≤ b)) := by
  unfold impl_within.f
  by_cases h : a ≤ x <;> simp [h]
def kb (c : Int) : Bool := (decide (97 ≤ c) && decide (c ≤ 122)) || ((decide (65 ≤ c) && decide (c ≤ 90)) || ((decide (48 ≤ c) && decide (c ≤ 57)) || decide (c = 95)))
def keyOkFrom (s : ByteArray) : Nat → Nat → Bool
  | 0, _ => decide (1 ≤ s.size) && decide (s.size ≤ 4)
  | d + 1, i => kb (bt s (i : Int)) && keyOkFrom s d (i + 1)
def keyOkB (s : ByteArray) : Bool := keyOkFrom s s.size 0
theorem l4Byte_f (c : Int) : spec_l4Byte.f c = some (kb c) := by
  unfold spec_l4Byte.f spec_l1In.f kb
  by_cases h1 : c ≥ 97 <;> by_cases h2 : c ≤ 122 <;> by_cases h3 : c ≥ 65 <;> by_cases h4 : c ≤ 90 <;> by_cases h5 : c ≥ 48 <;> by_cases h6 : c ≤ 57 <;> by_cases h7 : c = 95 <;> simp [h1, h2, h3, h4, h5, h6, h7] <;> first | omega | (split <;> simp_all <;> omega)
theorem specKeyOk_l0 (s : ByteArray) (hn : s.size ≤ 9223372036854775806) (d : Nat) : ∀ (k i : Nat), i + d = s.size → d < k → spec_KeyOk.l0 k s (i : Int) = some (keyOkFrom s d i) := by
  induction d with
  | zero =>
    intro k i hd hk
    obtain ⟨k, rfl⟩ : ∃ m, k = m + 1 := ⟨k - 1, by omega⟩
    simp only [spec_KeyOk.l0, keyOkFrom]
    rw [if_neg (by omega)]
    unfold spec_l1In.f
    by_cases h : (s.size : Int) ≥ 1
    · rw [if_pos h]
      have h2 : 1 ≤ s.size := by omega
      simp only [Option.bind_some, h2, decide_true, Bool.true_and]
      congr 1
      rw [decide_eq_decide]
      omega
    · rw [if_neg h]
      have h2 : ¬ 1 ≤ s.size := by omega
      simp only [Option.bind_some, h2, decide_false, Bool.false_and]
  | succ d ih =>
    intro k i hd hk
    obtain ⟨k, rfl⟩ : ∃ m, k = m + 1 := ⟨k - 1, by omega⟩
    have hb := bt_range s (i : Int)
    simp only [spec_KeyOk.l0, keyOkFrom]
    rw [if_pos (by omega), if_pos (by omega), w64 (i := bt s (i : Int)) (by omega) (by omega), w64 (by omega) (by omega), succ_cast, l4Byte_f, Option.bind_some, ih k (i + 1) (by omega) (by omega)]
    cases kb (bt s (i : Int)) <;> simp
theorem implKeyOk_l0 (s : ByteArray) (hn : s.size ≤ 9223372036854775806) (d : Nat) : ∀ (k i : Nat), i + d = s.size → d < k → impl_KeyOk.l0 k s (s.size : Int) (i : Int) = some (keyOkFrom s d i) := by
  induction d with
  | zero =>
    intro k i hd hk
    obtain ⟨k, rfl⟩ : ∃ m, k = m + 1 := ⟨k - 1, by omega⟩
    simp only [impl_KeyOk.l0, keyOkFrom]
    rw [if_neg (by omega)]
    unfold impl_within.f
    by_cases h : 1 ≤ (s.size : Int)
    · rw [if_pos h]
      have h2 : 1 ≤ s.size := by omega
      simp only [Option.bind_some, h2, decide_true, Bool.true_and]
      congr 1
      rw [decide_eq_decide]
      omega
    · rw [if_neg h]
      have h2 : ¬ 1 ≤ s.size := by omega
      simp only [Option.bind_some, h2, decide_false, Bool.false_and]
  | succ d ih =>
    intro k i hd hk
    obtain ⟨k, rfl⟩ : ∃ m, k = m + 1 := ⟨k - 1, by omega⟩
    simp only [impl_KeyOk.l0, keyOkFrom]
    rw [if_pos (by omega), if_pos (by omega), if_pos (by omega), w64 (by omega) (by omega), succ_cast, ih k (i + 1) (by omega) (by omega)]
    generalize bt s (i : Int) = c
    cases h : kb c
    · unfold kb at h
      simp only [Bool.or_eq_false_iff, Bool.and_eq_false_iff, decide_eq_false_iff_not] at h
      rw [Bool.false_and]
      repeat' split
      all_goals first | rfl | omega
    · unfold kb at h
      simp only [Bool.or_eq_true, Bool.and_eq_true, decide_eq_true_eq] at h
      rw [Bool.true_and]
      repeat' split
      all_goals first | rfl | omega
theorem specKeyOk_f (s : ByteArray) (hn : s.size ≤ 9223372036854775806) (k : Nat) (hk : s.size < k) : spec_KeyOk.f k s = some (keyOkB s) := specKeyOk_l0 s hn s.size k 0 (by omega) hk
theorem implKeyOk_f (s : ByteArray) (hn : s.size ≤ 9223372036854775806) (k : Nat) (hk : s.size < k) : impl_KeyOk.f k s = some (keyOkB s) := implKeyOk_l0 s hn s.size k 0 (by omega) hk
def ruleOkB (s : ByteArray) (o l f : Int) : Bool := keyOkB s && ((decide (1 ≤ o) && decide (o ≤ 2)) && ((decide (0 ≤ l) && decide (l ≤ 999999999)) && (decide (1 ≤ f) && decide (f ≤ 9))))
theorem specRuleOk_f (s : ByteArray) (o l f : Int) (hn : s.size ≤ 9223372036854775806) (k : Nat) (hk : s.size < k) : spec_RuleOk.f k s o l f = some (ruleOkB s o l f) := by
  unfold spec_RuleOk.f ruleOkB
  rw [specKeyOk_f s hn k hk, l1In_f, l1In_f, l1In_f]
  simp only [Option.bind_some]
  generalize keyOkB s = a
  generalize (decide (1 ≤ o) && decide (o ≤ 2)) = b
  generalize (decide (0 ≤ l) && decide (l ≤ 999999999)) = c
  cases a <;> cases b <;> cases c <;> simp
theorem implRuleOk_f (s : ByteArray) (o l f : Int) (hn : s.size ≤ 9223372036854775806) (k : Nat) (hk : s.size < k) : impl_RuleOk.f k s o l f = some (ruleOkB s o l f) := by
  unfold impl_RuleOk.f ruleOkB
  rw [implKeyOk_f s hn k hk, within_f, within_f, within_f]
  simp only [Option.bind_some]
  generalize keyOkB s = a
  generalize (decide (1 ≤ o) && decide (o ≤ 2)) = b
  generalize (decide (0 ≤ l) && decide (l ≤ 999999999)) = c
  cases a <;> cases b <;> cases c <;> simp
theorem sonSize (c : Int) : (strOfNums [c]).size = 1 := rfl
theorem markText_l0 (d : Nat) : ∀ (k n : Nat) (acc : ByteArray), n < 10 ^ d → n ≤ 9223372036854775807 → acc.size + d ≤ 1000 → d < k → ∃ b, laws_markText.l0 k (n : Int) acc = some b := by
  induction d with
  | zero =>
    intro k n acc hn hb ha hk
    obtain ⟨k, rfl⟩ : ∃ m, k = m + 1 := ⟨k - 1, by omega⟩
    have : n = 0 := by simpa using hn
    subst this
    simp only [laws_markText.l0]
    rw [if_neg (by omega), if_pos (by omega)]
    exact ⟨_, rfl⟩
  | succ d ih =>
    intro k n acc hn hb ha hk
    obtain ⟨k, rfl⟩ : ∃ m, k = m + 1 := ⟨k - 1, by omega⟩
    simp only [laws_markText.l0]
    by_cases h0 : (n : Int) > 0
    · rw [if_pos h0]
      simp only [Option.bind_some]
      rw [if_pos (by rw [sonSize]; omega)]
      have hd : n / 10 < 10 ^ d := by
        rw [Nat.div_lt_iff_lt_mul (by omega)]
        rw [Nat.pow_succ] at hn
        exact hn
      obtain ⟨b, hb⟩ := ih k (n / 10) (strOfNums [(wrap64 (48 + (Int.tmod (n : Int) 10))) % 256] ++ acc) hd (by omega) (by rw [ByteArray.size_append, sonSize]; omega) (by omega)
      refine ⟨b, ?_⟩
      rw [Int.tdiv_eq_ediv_of_nonneg (by omega), w64 (by omega) (by omega)]
      exact hb
    · rw [if_neg h0, if_pos (by omega)]
      exact ⟨_, rfl⟩
def mtB (m : Int) : ByteArray := (laws_markText.f 100 m).getD ByteArray.empty
theorem markText_f (m : Int) (h0 : 0 ≤ m) (h1 : m ≤ 9223372036854775807) (k : Nat) (hk : 100 ≤ k) : laws_markText.f k m = some (mtB m) := by
  have : ∃ b, laws_markText.f 100 m = some b := by
    unfold laws_markText.f
    by_cases h : m ≤ 0
    · rw [if_pos h]
      exact ⟨_, rfl⟩
    · rw [if_neg h]
      obtain ⟨n, rfl⟩ := Int.eq_ofNat_of_zero_le h0
      have hn : n < 10 ^ 19 := Nat.lt_of_le_of_lt (show n ≤ 9223372036854775807 by omega) (by decide)
      exact markText_l0 19 100 n _ hn (by omega) (by decide) (by omega)
  obtain ⟨b, hb⟩ := this
  have e : mtB m = b := by
    unfold mtB
    rw [hb]
    rfl
  rw [e]
  exact at_rounds (g := fun k => laws_markText.f k m) (fun k => laws_markText.mono m k) hk hb
def mkRow (m : Int) : S102 := ⟨mtB m, m + 1, m + 2, (Int.tmod (m + 3) 3 == 0), m + 4, m + 5, m + 6, m + 7, m + 8, m + 9⟩
theorem markRow_step (x : List S102) (m : Int) (i k : Nat) (hi : i < x.length) (hx : x.length ≤ 140737488355328) (hm : 0 ≤ m) (hm2 : m ≤ 4611686018427387904) (hk : 100 ≤ k) : laws_markRowS.l0 (k + 1) x m (i : Int) = laws_markRowS.l0 k (x.set i (mkRow m)) (m + 10) ((i + 1 : Nat) : Int) := by
  have hr : ∀ v, rd_T102 (x.set i v) (i : Int) = v := fun v => by
    rw [at_S102 _ i (by rw [List.length_set]; exact hi), List.getElem_set_self]
  have e1 : wrap64 (m + 1) = m + 1 := w64 (by omega) (by omega)
  have e2 : wrap64 (m + 1 + 1) = m + 2 := by rw [w64 (by omega) (by omega)]; omega
  have e3 : wrap64 (m + 2 + 1) = m + 3 := by rw [w64 (by omega) (by omega)]; omega
  have e4 : wrap64 (m + 3 + 1) = m + 4 := by rw [w64 (by omega) (by omega)]; omega
  have e5 : wrap64 (m + 4 + 1) = m + 5 := by rw [w64 (by omega) (by omega)]; omega
  have e6 : wrap64 (m + 5 + 1) = m + 6 := by rw [w64 (by omega) (by omega)]; omega
  have e7 : wrap64 (m + 6 + 1) = m + 7 := by rw [w64 (by omega) (by omega)]; omega
  have e8 : wrap64 (m + 7 + 1) = m + 8 := by rw [w64 (by omega) (by omega)]; omega
  have e9 : wrap64 (m + 8 + 1) = m + 9 := by rw [w64 (by omega) (by omega)]; omega
  have e10 : wrap64 (m + 9 + 1) = m + 10 := by rw [w64 (by omega) (by omega)]; omega
  have ei : wrap64 ((i : Int) + 1) = ((i + 1 : Nat) : Int) := by rw [w64 (by omega) (by omega)]; omega
  have hi0 : (i : Int) < (x.length : Int) := Int.ofNat_lt.mpr hi
  have hi1 : (0 : Int) ≤ (i : Int) := Int.natCast_nonneg i
  simp only [laws_markRowS.l0]
  rw [if_pos hi0, markText_f m hm (by omega) k hk]
  simp only [Option.bind_some, Int.toNat_natCast, List.set_set, hr, e1, e2, e3, e4, e5, e6, e7, e8, e9, e10, ei]
  rw [if_pos hi1]
  rfl
def markedRows (m : Int) (n : Nat) : List S102 := (List.range n).map fun j : Nat => mkRow (m + 10 * (j : Int))
theorem markRowS_l0 (d : Nat) : ∀ (k : Nat) (x : List S102) (m : Int) (i : Nat), i + d = x.length → x.length ≤ 140737488355328 → 0 ≤ m → m + 10 * d ≤ 4611686018427387904 → d + 101 < k →
    ∃ y, laws_markRowS.l0 k x m (i : Int) = some (m + 10 * d, y) ∧ y.length = x.length ∧ (∀ j, j < i → y[j]? = x[j]?) ∧ (∀ j, i ≤ j → j < x.length → y[j]? = some (mkRow (m + 10 * (j - i)))) := by
  induction d with
  | zero =>
    intro k x m i hd hn hm hm2 hk
    obtain ⟨k, rfl⟩ : ∃ m, k = m + 1 := ⟨k - 1, by omega⟩
    refine ⟨x, ?_, rfl, fun _ _ => rfl, fun j h1 h2 => by omega⟩
    simp only [laws_markRowS.l0]
    rw [if_neg (by omega)]
    simp
  | succ d ih =>
    intro k x m i hd hn hm hm2 hk
    obtain ⟨k, rfl⟩ : ∃ m, k = m + 1 := ⟨k - 1, by omega⟩
    obtain ⟨y, h1, h2, h3, h4⟩ := ih k (x.set i (mkRow m)) (m + 10) (i + 1) (by rw [List.length_set]; omega) (by rw [List.length_set]; omega) (by omega) (by omega) (by omega)
    rw [List.length_set] at h2 h4
    refine ⟨y, ?_, h2, fun j hj => ?_, fun j hj hj2 => ?_⟩
    · rw [markRow_step x m i k (by omega) hn hm (by omega) (by omega), h1]
      have : m + 10 + 10 * (d : Int) = m + 10 * ((d + 1 : Nat) : Int) := by omega
      rw [this]
    · rw [h3 j (by omega), List.getElem?_set_ne (by omega)]
    · by_cases e : j = i
      · subst e
        rw [h3 j (by omega), List.getElem?_set_self (by omega)]
        congr 2; omega
      · rw [h4 j (by omega) (by omega)]
        congr 2; omega
theorem markRowS_f (x : List S102) (hn : x.length ≤ 140737488355328) (m : Int) (hm : 0 ≤ m) (hm2 : m ≤ 140737488355328) (k : Nat) (hk : x.length + 101 < k) : laws_markRowS.f k x m = some (m + 10 * x.length, markedRows m x.length) := by
  obtain ⟨y, h1, h2, h3, h4⟩ := markRowS_l0 x.length k x m 0 (by omega) hn hm (by omega) hk
  have : y = markedRows m x.length := by
    refine List.ext_getElem? (fun j => ?_)
    by_cases hj : j < x.length
    · rw [h4 j (by omega) hj]
      simp [markedRows, hj]
    · rw [List.getElem?_eq_none (by omega), List.getElem?_eq_none (by simp [markedRows]; omega)]
  rw [← this]
  exact h1
theorem markRowSS_go (l : List (List S102)) (hb : ∀ x ∈ l, x.length ≤ 1048576) (k : Nat) (hk : 1048700 < k) : ∀ (n : Nat) (m : Int), l.length ≤ n → n ≤ 1048576 → 0 ≤ m → m + 10485760 * n ≤ 140737488355328 → ∃ r y, laws_markRowSS.go k l m = some (r, y) ∧ 0 ≤ r := by
  induction l with
  | nil => intro n m _ _ hm _; exact ⟨m, [], rfl, hm⟩
  | cons x xs ih =>
    intro n m hl hn hm hm2
    obtain ⟨n, rfl⟩ : ∃ q, n = q + 1 := ⟨n - 1, by simp at hl; omega⟩
    have hx := hb x (by simp)
    obtain ⟨r, y, h1, h2⟩ := ih (fun z hz => hb z (by simp [hz])) n (m + 10 * x.length) (by simpa using hl) (by omega) (by omega) (by omega)
    refine ⟨r, markedRows m x.length :: y, ?_, h2⟩
    simp only [laws_markRowSS.go]
    rw [markRowS_f x (by omega) m hm (by omega) k (by omega)]
    simp only [Option.bind_some]
    rw [h1]
    rfl
theorem markIntS_l0 (d : Nat) : ∀ (k : Nat) (x : List Int) (m : Int) (i : Nat), i + d = x.length → x.length ≤ 140737488355328 → 0 ≤ m → m + d ≤ 4611686018427387904 → d < k →
    ∃ y, laws_markIntS.l0 k x m (i : Int) = some (m + d, y) ∧ y.length = x.length ∧ (∀ j, j < i → y[j]? = x[j]?) ∧ (∀ j, i ≤ j → j < x.length → y[j]? = some (m + (j - i))) := by
  induction d with
  | zero =>
    intro k x m i hd hn hm hm2 hk
    obtain ⟨k, rfl⟩ : ∃ m, k = m + 1 := ⟨k - 1, by omega⟩
    refine ⟨x, ?_, rfl, fun _ _ => rfl, fun j h1 h2 => by omega⟩
    simp only [laws_markIntS.l0]
    rw [if_neg (by omega)]
    simp
  | succ d ih =>
    intro k x m i hd hn hm hm2 hk
    obtain ⟨k, rfl⟩ : ∃ m, k = m + 1 := ⟨k - 1, by omega⟩
    obtain ⟨y, h1, h2, h3, h4⟩ := ih k (x.set i m) (m + 1) (i + 1) (by rw [List.length_set]; omega) (by rw [List.length_set]; omega) (by omega) (by omega) (by omega)
    rw [List.length_set] at h2 h4
    refine ⟨y, ?_, h2, fun j hj => ?_, fun j hj hj2 => ?_⟩
    · simp only [laws_markIntS.l0]
      rw [if_pos (by omega), if_pos (by omega), w64 (by omega) (by omega), w64 (by omega) (by omega), succ_cast, Int.toNat_natCast, h1]
      have : m + 1 + (d : Int) = m + ((d + 1 : Nat) : Int) := by omega
      rw [this]
    · rw [h3 j (by omega), List.getElem?_set_ne (by omega)]
    · by_cases e : j = i
      · subst e
        rw [h3 j (by omega), List.getElem?_set_self (by omega)]
        congr 1; omega
      · rw [h4 j (by omega) (by omega)]
        congr 1; omega
theorem heldIntS_l0 (y : List Int) (hn : y.length ≤ 140737488355328) (d : Nat) : ∀ (k : Nat) (m : Int) (i : Nat), i + d = y.length → 0 ≤ m → m + d ≤ 4611686018427387904 → d < k →
    (∀ j, i ≤ j → j < y.length → y[j]? = some (m + (j - i))) → laws_heldIntS.l0 k y m (i : Int) = some (m + d) := by
  induction d with
  | zero =>
    intro k m i hd hm hm2 hk h
    obtain ⟨k, rfl⟩ : ∃ m, k = m + 1 := ⟨k - 1, by omega⟩
    simp only [laws_heldIntS.l0]
    rw [if_neg (by omega)]
    simp
  | succ d ih =>
    intro k m i hd hm hm2 hk h
    obtain ⟨k, rfl⟩ : ∃ m, k = m + 1 := ⟨k - 1, by omega⟩
    simp only [laws_heldIntS.l0]
    have hi := h i (Nat.le_refl _) (by omega)
    rw [List.getElem?_eq_getElem (by omega)] at hi
    have hi2 := Option.some.inj hi
    rw [if_pos (by omega), if_pos (by omega), rd_at y i (by omega), if_pos (by rw [hi2]; omega), w64 (by omega) (by omega), w64 (by omega) (by omega), succ_cast]
    rw [ih k (m + 1) (i + 1) (by omega) (by omega) (by omega) (by omega) (fun j h1 h2 => by rw [h j (by omega) h2]; congr 1; omega)]
    congr 1; omega
def markedI (m : Int) (n : Nat) : List Int := (List.range n).map fun j : Nat => m + (j : Int)
theorem markIntS_f (x : List Int) (hn : x.length ≤ 140737488355328) (m : Int) (hm : 0 ≤ m) (hm2 : m ≤ 140737488355328) (k : Nat) (hk : x.length < k) : laws_markIntS.f k x m = some (m + x.length, markedI m x.length) := by
  obtain ⟨y, h1, h2, h3, h4⟩ := markIntS_l0 x.length k x m 0 (by omega) hn hm (by omega) hk
  have : y = markedI m x.length := by
    refine List.ext_getElem? (fun j => ?_)
    by_cases hj : j < x.length
    · rw [h4 j (by omega) hj]
      simp [markedI, hj]
    · rw [List.getElem?_eq_none (by omega), List.getElem?_eq_none (by simp [markedI]; omega)]
  rw [← this]
  exact h1
theorem heldIntS_f (m : Int) (n : Nat) (hn : n ≤ 140737488355328) (hm : 0 ≤ m) (hm2 : m ≤ 140737488355328) (k : Nat) (hk : n < k) : laws_heldIntS.f k (markedI m n) m = some (m + n) := by
  have hl : (markedI m n).length = n := by simp [markedI]
  have := heldIntS_l0 (markedI m n) (by omega) n k m 0 (by omega) hm (by omega) hk (fun j a b => by rw [hl] at b; simp [markedI, b])
  exact this
theorem eqIntS_l0 (a b : List Int) (hn : a.length ≤ 140737488355328) (hab : a.length = b.length) (d : Nat) : ∀ (k i : Nat), i + d = a.length → d < k → laws_eqIntS.l0 k a b (i : Int) = some (decide (a.drop i = b.drop i)) := by
  induction d with
  | zero =>
    intro k i hd hk
    obtain ⟨k, rfl⟩ : ∃ m, k = m + 1 := ⟨k - 1, by omega⟩
    simp only [laws_eqIntS.l0]
    rw [if_neg (by omega), List.drop_of_length_le (by omega), List.drop_of_length_le (by omega)]
    rfl
  | succ d ih =>
    intro k i hd hk
    obtain ⟨k, rfl⟩ : ∃ m, k = m + 1 := ⟨k - 1, by omega⟩
    simp only [laws_eqIntS.l0]
    rw [if_pos (by omega), if_pos (by omega), if_pos (by omega), rd_at a i (by omega), rd_at b i (by omega), w64 (by omega) (by omega), succ_cast]
    have ea : a.drop i = a[i] :: a.drop (i + 1) := List.drop_eq_getElem_cons (by omega)
    have eb : b.drop i = b[i] :: b.drop (i + 1) := List.drop_eq_getElem_cons (by omega)
    by_cases h : a[i] = b[i]
    · rw [if_pos h, ih k (i + 1) (by omega) (by omega), ea, eb]
      simp only [h, List.cons.injEq, true_and]
    · rw [if_neg h, ea, eb]
      simp only [h, List.cons.injEq, false_and, decide_false]
theorem eqIntS_f (a b : List Int) (hn : a.length ≤ 140737488355328) (k : Nat) (hk : a.length < k) : laws_eqIntS.f k a b = some (decide (a = b)) := by
  unfold laws_eqIntS.f
  by_cases h : a.length = b.length
  · rw [if_pos (by omega)]
    have := eqIntS_l0 a b hn h a.length k 0 (by omega) hk
    simpa using this
  · rw [if_neg (by omega)]
    have : a ≠ b := fun e => h (by rw [e])
    simp [this]
theorem firstAt_in {α : Type} (g : α → Bool) (l : List α) : ∀ j : Int, firstAt g l j = -1 ∨ (j ≤ firstAt g l j ∧ firstAt g l j < j + l.length) := by
  induction l with
  | nil => intro j; exact .inl rfl
  | cons x xs ih =>
    intro j
    simp only [firstAt, List.length_cons]
    split
    · exact .inr ⟨Int.le_refl _, by omega⟩
    · rcases ih (j + 1) with h | h
      · exact .inl h
      · exact .inr ⟨by omega, by omega⟩
/-- The row at a place that IndexFunc answered: as FindRow gives it. -/
def frB (l : List S102) (p : Int) : Option (ByteArray × Int × Int × Bool × Int × Int × Int × Int × Int × Int × Bool) := if p < 0 then (some ((⟨#[]⟩ : ByteArray), 0, 0, false, 0, 0, 0, 0, 0, 0, false)) else (if 0 ≤ p then (if p < (l.length : Int) then (some ((rd_T102 l p).f0, (rd_T102 l p).f1, (rd_T102 l p).f2, (rd_T102 l p).f3, (rd_T102 l p).f4, (rd_T102 l p).f5, (rd_T102 l p).f6, (rd_T102 l p).f7, (rd_T102 l p).f8, (rd_T102 l p).f9, true)) else (none)) else (none))
theorem implFR_f (l : List S102) (key : ByteArray) : impl_FindRow.f l key = frB l (firstAt (impl_rowAt.g key) l 0) := rfl
theorem specFR_l0 (l : List S102) (key : ByteArray) (hl : l.length ≤ 1048576) (d : Nat) : ∀ (i : Nat), i + d = l.length → ∀ k, d < k → spec_FindRow.l0 k l key (i : Int) = frB l (firstAt (impl_rowAt.g key) (l.drop i) (i : Int)) := by
  induction d with
  | zero =>
    intro i hd k hk
    obtain ⟨k, rfl⟩ : ∃ m, k = m + 1 := ⟨k - 1, by omega⟩
    simp only [spec_FindRow.l0]
    rw [if_neg (by omega), List.drop_of_length_le (by omega)]
    rfl
  | succ d ih =>
    intro i hd k hk
    obtain ⟨k, rfl⟩ : ∃ m, k = m + 1 := ⟨k - 1, by omega⟩
    have hi : i < l.length := by omega
    simp only [spec_FindRow.l0]
    rw [if_pos (by omega), if_pos (by omega), w64 (i := (i : Int) + 1) (by omega) (by omega), succ_cast, List.drop_eq_getElem_cons hi, ih (i + 1) (by omega) k (by omega)]
    simp only [firstAt, impl_rowAt.g, beq_iff_eq]
    rw [← succ_cast, at_S102 l i hi]
    by_cases h1 : l[i].f0.toList = key.toList
    · rw [if_pos h1, if_pos h1]
      unfold frB
      rw [if_neg (by omega), if_pos (by omega), if_pos (by omega), at_S102 l i hi]
    · rw [if_neg h1, if_neg h1]
theorem specFR_f (l : List S102) (key : ByteArray) (hl : l.length ≤ 1048576) (k : Nat) (hk : l.length < k) : spec_FindRow.f k l key = frB l (firstAt (impl_rowAt.g key) l 0) :=
  specFR_l0 l key hl l.length 0 (by omega) k hk
theorem frB_some (l : List S102) (key : ByteArray) : ∃ t, frB l (firstAt (impl_rowAt.g key) l 0) = some t := by
  unfold frB
  by_cases h1 : firstAt (impl_rowAt.g key) l 0 < 0
  · rw [if_pos h1]
    exact ⟨_, rfl⟩
  · rcases firstAt_in (impl_rowAt.g key) l 0 with h2 | h2
    · omega
    · rw [if_neg h1, if_pos (by omega), if_pos (by omega)]
      exact ⟨_, rfl⟩
theorem rank_both (a0 : ByteArray) (a1 a2 : Int) (a3 : Bool) (a4 a5 a6 a7 a8 a9 : Int) : ∃ v, spec_Rank.f a0 a1 a2 a3 a4 a5 a6 a7 a8 a9 = some v ∧ impl_Rank.f a0 a1 a2 a3 a4 a5 a6 a7 a8 a9 = some v := by
  have e : impl_Rank.f a0 a1 a2 a3 a4 a5 a6 a7 a8 a9 = spec_Rank.f a0 a1 a2 a3 a4 a5 a6 a7 a8 a9 := rfl
  rw [e]
  have : ∃ v, spec_Rank.f a0 a1 a2 a3 a4 a5 a6 a7 a8 a9 = some v := by
    unfold spec_Rank.f
    repeat' split
    all_goals exact ⟨_, rfl⟩
  obtain ⟨v, hv⟩ := this
  exact ⟨v, hv, hv⟩
theorem series_l0 (l : List (List S102)) (key : ByteArray) (hl : l.length ≤ 1048576) (hb : ∀ x ∈ l, x.length ≤ 1048576) (d : Nat) : ∀ (i k : Nat) (out : List Int), i + d = l.length → out.length = i → d + 1048578 < k → ∃ r, spec_Series.l0 k l key out (i : Int) = some r ∧ impl_Series.l0 k key out l (l.length : Int) (i : Int) = some r ∧ r.length = l.length := by
  induction d with
  | zero =>
    intro i k out hd ho hk
    obtain ⟨k, rfl⟩ : ∃ m, k = m + 1 := ⟨k - 1, by omega⟩
    simp only [spec_Series.l0, impl_Series.l0]
    rw [if_neg (by omega), if_neg (by omega)]
    exact ⟨out, rfl, rfl, by omega⟩
  | succ d ih =>
    intro i k out hd ho hk
    have hi : i < l.length := by omega
    obtain ⟨k, rfl⟩ : ∃ m, k = m + 1 := ⟨k - 1, by omega⟩
    have hx := hb _ (List.getElem_mem hi)
    simp only [spec_Series.l0, impl_Series.l0]
    rw [if_pos (by omega), if_pos (by omega), if_pos (by omega), if_pos (by omega), if_pos (by omega), at_LS102 l i hi, specFR_f l[i] key hx k (by omega), implFR_f]
    obtain ⟨t, ht⟩ := frB_some l[i] key
    rw [ht]
    simp only [Option.bind_some]
    obtain ⟨v, h1, h2⟩ := rank_both t.1 t.2.1 t.2.2.1 t.2.2.2.1 t.2.2.2.2.1 t.2.2.2.2.2.1 t.2.2.2.2.2.2.1 t.2.2.2.2.2.2.2.1 t.2.2.2.2.2.2.2.2.1 t.2.2.2.2.2.2.2.2.2.1
    rw [h1, h2]
    simp only [Option.bind_some]
    rw [if_pos (by omega), if_pos (by omega), w64 (by omega) (by omega), succ_cast]
    exact ih (i + 1) k (out ++ [v]) (by omega) (by simp [ho]) (by omega)
theorem breaks_both (s : ByteArray) (o l f v : Int) : ∃ b, spec_Breaks.f s o l f v = some b ∧ impl_Breaks.f s o l f v = some b := by
  have e : impl_Breaks.f s o l f v = spec_Breaks.f s o l f v := rfl
  rw [e]
  have : ∃ b, spec_Breaks.f s o l f v = some b := by
    unfold spec_Breaks.f
    repeat' split
    all_goals exact ⟨_, rfl⟩
  obtain ⟨b, hb⟩ := this
  exact ⟨b, hb, hb⟩
theorem fires_l0 (s : ByteArray) (o lm f : Int) (hs : s.size ≤ 1048576) (hok : ruleOkB s o lm f = true) (hf : 1 ≤ f) (t : List Int) (hl : t.length ≤ 1048576) (d : Nat) : ∀ (i k : Nat) (out : List Int) (n : Int), i + d = t.length → out.length ≤ i → 0 ≤ n → n ≤ i → 2 * d + 1048580 < k → ∃ r, spec_Fires.l0 k out n t (i : Int) s o lm f = some r ∧ impl_Fires.l0 k out n t (t.length : Int) (i : Int) s o lm f = some r ∧ r.length ≤ t.length := by
  induction d with
  | zero =>
    intro i k out n hd ho h0 h1 hk
    obtain ⟨k, rfl⟩ : ∃ m, k = m + 2 := ⟨k - 2, by omega⟩
    have hA : ¬ ((i : Int) < (t.length : Int)) := by omega
    refine ⟨out, ?_, ?_, by omega⟩
    · simp only [spec_Fires.l0, spec_Fires.j1, if_neg hA, Bool.false_eq_true, if_false]
    · simp only [impl_Fires.l0, if_neg hA]
  | succ d ih =>
    intro i k out n hd ho h0 h1 hk
    have hi : i < t.length := by omega
    obtain ⟨k, rfl⟩ : ∃ m, k = m + 2 := ⟨k - 2, by omega⟩
    obtain ⟨b, p1, p2⟩ := breaks_both s o lm f t[i]
    have st : spec_Fires.l0 (k + 2) out n t (i : Int) s o lm f = (if b = true then (if n + 1 ≥ f then spec_Fires.l0 k (out ++ [(i : Int)]) (n + 1) t ((i + 1 : Nat) : Int) s o lm f else spec_Fires.l0 k out (n + 1) t ((i + 1 : Nat) : Int) s o lm f) else spec_Fires.l0 k out 0 t ((i + 1 : Nat) : Int) s o lm f) := by
      simp only [spec_Fires.l0]
      rw [if_pos (by omega), specRuleOk_f s o lm f (by omega) (k + 1) (by omega), hok]
      simp only [Option.bind_some, spec_Fires.j1]
      rw [if_pos trivial, if_pos (by omega), if_pos (by omega), rd_at t i hi, p1]
      simp only [Option.bind_some]
      rw [w64 (i := n + 1) (by omega) (by omega), w64 (i := (i : Int) + 1) (by omega) (by omega), succ_cast, if_pos (show out.length < 17592186044416 by omega)]
    have im : impl_Fires.l0 (k + 2) out n t (t.length : Int) (i : Int) s o lm f = (if b = true then (if n + 1 ≥ f then impl_Fires.l0 (k + 1) (out ++ [(i : Int)]) (n + 1) t (t.length : Int) ((i + 1 : Nat) : Int) s o lm f else impl_Fires.l0 (k + 1) out (n + 1) t (t.length : Int) ((i + 1 : Nat) : Int) s o lm f) else impl_Fires.l0 (k + 1) out 0 t (t.length : Int) ((i + 1 : Nat) : Int) s o lm f) := by
      obtain ⟨k1, hk1⟩ : ∃ q, q = k + 1 := ⟨_, rfl⟩
      rw [show k + 2 = k1 + 1 from by omega, ← hk1]
      simp only [impl_Fires.l0]
      rw [if_pos (by omega), if_pos (by omega), if_pos (by omega), rd_at t i hi, p2]
      simp only [Option.bind_some]
      rw [w64 (i := n + 1) (by omega) (by omega), w64 (i := (i : Int) + 1) (by omega) (by omega), succ_cast, if_pos (show out.length < 17592186044416 by omega), if_neg (show ¬ (0 : Int) ≥ f by omega)]
    rw [st, im]
    have up : ∀ o2 n2 r, impl_Fires.l0 k o2 n2 t (t.length : Int) ((i + 1 : Nat) : Int) s o lm f = some r → impl_Fires.l0 (k + 1) o2 n2 t (t.length : Int) ((i + 1 : Nat) : Int) s o lm f = some r := fun o2 n2 r h => impl_Fires.mono_l k _ _ _ _ _ _ _ _ _ r h
    cases b
    · rw [if_neg (by simp), if_neg (by simp)]
      obtain ⟨r, r1, r2, r3⟩ := ih (i + 1) k out 0 (by omega) (by omega) (by omega) (by omega) (by omega)
      exact ⟨r, r1, up _ _ _ r2, r3⟩
    · rw [if_pos rfl, if_pos rfl]
      by_cases hn : n + 1 ≥ f
      · rw [if_pos hn, if_pos hn]
        obtain ⟨r, r1, r2, r3⟩ := ih (i + 1) k (out ++ [(i : Int)]) (n + 1) (by omega) (by simp; omega) (by omega) (by omega) (by omega)
        exact ⟨r, r1, up _ _ _ r2, r3⟩
      · rw [if_neg hn, if_neg hn]
        obtain ⟨r, r1, r2, r3⟩ := ih (i + 1) k out (n + 1) (by omega) (by omega) (by omega) (by omega) (by omega)
        exact ⟨r, r1, up _ _ _ r2, r3⟩
theorem fires_both (l : List (List S102)) (s : ByteArray) (o lm f : Int) (hs : s.size ≤ 1048576) (hl : l.length ≤ 1048576) (hb : ∀ x ∈ l, x.length ≤ 1048576) (k : Nat) (hk : 3300000 < k) :
    ∃ r, spec_Fires.f k l s o lm f = some r ∧ impl_Fires.f k l s o lm f = some r ∧ r.length ≤ 1048576 := by
  obtain ⟨t, t1, t2, t3⟩ := series_l0 l s hl hb l.length 0 k [] (by omega) rfl (by omega)
  have t1 : spec_Series.f k l s = some t := t1
  have t2 : impl_Series.f k l s = some t := t2
  unfold spec_Fires.f impl_Fires.f
  rw [t1, implRuleOk_f s o lm f (by omega) k (by omega)]
  simp only [Option.bind_some]
  by_cases hok : ruleOkB s o lm f = true
  · rw [if_pos hok, t2]
    simp only [Option.bind_some]
    have hf : 1 ≤ f := by
      unfold ruleOkB at hok
      simp only [Bool.and_eq_true, decide_eq_true_eq] at hok
      exact hok.2.2.2.1
    obtain ⟨r, r1, r2, r3⟩ := fires_l0 s o lm f hs hok hf t (by omega) t.length 0 k [] 0 (by omega) (by simp) (by omega) (by omega) (by omega)
    exact ⟨r, r1, r2, by omega⟩
  · rw [if_neg hok]
    refine ⟨[], ?_, rfl, by simp⟩
    obtain ⟨k, rfl⟩ : ∃ m, k = m + 2 := ⟨k - 2, by omega⟩
    simp only [spec_Fires.l0]
    by_cases h : (0 : Int) < (t.length : Int)
    · rw [if_pos h, specRuleOk_f s o lm f (by omega) (k + 1) (by omega), Bool.eq_false_iff.mpr hok]
      simp [spec_Fires.j1]
    · rw [if_neg h]
      simp [spec_Fires.j1]
theorem FnExactFires : FnExactFiresOwn := by
  intro l s o lm f hw hs _ _ _
  unfold maxLen at hs
  obtain ⟨r, ⟨K1, e1⟩, ha, hc, hb⟩ := szRowSS_ev l (gwLLS118 l hw) 1048576 (by omega) (by omega)
  by_cases hr : r < 0
  · refine ⟨K1, ?_⟩
    have q1 := e1 K1 (by omega)
    simp only at q1
    unfold laws_FnExactFires.f
    exact if_pos (.inl ⟨r, q1, hr⟩)
  · have hb := hb (by omega)
    have hw2 : wrap64 (r - (s.size : Int)) = r - (s.size : Int) := w64 (by omega) (by omega)
    by_cases hr2 : r - (s.size : Int) < 0
    · refine ⟨K1, ?_⟩
      have q1 := e1 K1 (by omega)
      simp only at q1
      unfold laws_FnExactFires.f
      refine if_pos (.inr (.inl ⟨r, -1, q1, by omega, ?_, by omega⟩))
      unfold laws_szRule.f
      rw [hw2, if_pos hr2]
    · obtain ⟨K2, e2⟩ := toRowSS_ev l hb
      obtain ⟨K3, e3⟩ := eqRowSS_ev _ (toRowSS_wl l hb)
      have hl : (toRowSSV l).length ≤ 1048576 := by
        have := hb.1
        simpa [toRowSSV] using this
      have hk : ∀ x ∈ toRowSSV l, x.length ≤ 1048576 := by
        intro x hx
        simp only [toRowSSV, List.mem_map] at hx
        obtain ⟨x0, hx0, rfl⟩ := hx
        have h2 := hb.2 x0 hx0
        have := h2.1
        simpa [toRowSV] using this
      obtain ⟨KK, hKK⟩ : ∃ q, q = K1 + K2 + K3 + 3300010 := ⟨_, rfl⟩
      obtain ⟨q, p1, p2, hq⟩ := fires_both (toRowSSV l) s o lm f (by omega) hl hk KK (by omega)
      refine ⟨KK, ?_⟩
      have q1 := e1 KK (by omega)
      have q2 := e2 KK (by omega)
      have q3 := e3 KK (by omega)
      simp only at q1 q2 q3
      obtain ⟨m1, xm, q7, hm1⟩ := markRowSS_go (toRowSSV l) hk KK (by omega) 1048576 1 hl (by omega) (by omega) (by omega)
      have q8 := markIntS_f q (by omega) 1 (by omega) (by omega) KK (by omega)
      have q9 := heldIntS_f 1 q.length (by omega) (by omega) (by omega) KK (by omega)
      have q4 := eqIntS_f q q (by omega) KK (by omega)
      rw [decide_eq_true rfl] at q4
      unfold laws_FnExactFires.f
      refine if_pos (.inr (.inr ⟨r, r - (s.size : Int), toRowSSV l, s, o, lm, f, q, m1, xm, 1 + q.length, markedI 1 q.length, q1, by omega, ?_, by omega, q2, rfl, p1, p2, q4, q3, q7, hm1, q8, q9, by omega⟩))
      unfold laws_szRule.f
      rw [hw2, if_neg hr2]

end Go.Proofs.Ythhbgembnlpohaa.Pure
