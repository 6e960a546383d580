/- For every store and every number, Window of the program answers what Window of the reference answers, in memory of its own (stores of more than 2^20 reports, rows and letters are let pass by the law itself). -/
import Derived.Test.YthhbgembnlpohaaQFnExactWindowx11
namespace Go.Proofs.Ythhbgembnlpohaa.Pure
open Go.RowKit Go.Proofs.Ythhbgembnlpohaa.QFnExactStoreOk Go.Proofs.Ythhbgembnlpohaa.QFnExactWindow Go.Proofs.YthhbgembnlpohaaW.PrintWords Go.Proofs.YthhbgembnlpohaaW.PrintLast Go.Proofs.YthhbgembnlpohaaW.PrintMore
set_option linter.unusedVariables false
set_option linter.unusedSimpArgs false
def FnExactWindowOwn : Prop := ∀ (a0_0 : Int) (a0_1 : Int) (l0_2 : (List (List S118))) (a1 : Int), (Lit.int .i64 a0_0).wf = true → (Lit.int .i64 a0_1).wf = true → (l0_2.length ≤ maxLen ∧ ∀ y_l0_2 ∈ l0_2, (y_l0_2.length ≤ maxLen ∧ ∀ y_y_l0_2 ∈ y_l0_2, (y_y_l0_2.f0.size ≤ maxLen ∧ (Lit.int .i64 y_y_l0_2.f1).wf = true ∧ (Lit.int .i64 y_y_l0_2.f2).wf = true ∧ True ∧ (Lit.int .i64 y_y_l0_2.f4).wf = true ∧ (Lit.int .i64 y_y_l0_2.f5).wf = true ∧ (Lit.int .i64 y_y_l0_2.f6).wf = true ∧ (Lit.int .i64 y_y_l0_2.f7).wf = true ∧ (Lit.int .i64 y_y_l0_2.f8).wf = true ∧ (Lit.int .i64 y_y_l0_2.f9).wf = true))) → (Lit.int .i64 a1).wf = true → ∃ k, laws_FnExactWindow.f k a0_0 a0_1 l0_2 a1 = some true
theorem w64 {i : Int} (h : -9223372036854775808 ≤ i) (h2 : i ≤ 9223372036854775807) : wrap64 i = i := by
  unfold wrap64
  omega
theorem rd_at (x : List Int) (i : Nat) (h : i < x.length) : rd x (i : Int) = x[i] := by
  unfold rd
  rw [Int.toNat_natCast, List.getD_eq_getElem?_getD, List.getElem?_eq_getElem h]
  rfl
theorem succ_cast (i : Nat) : ((i : Int) + 1) = ((i + 1 : Nat) : Int) := by omega
theorem take_succ_ext {α : Type} (a b : List α) (i : Nat) (ha : i < a.length) (hb : i < b.length) (ht : a.take i = b.take i) (he : a[i] = b[i]) : a.take (i + 1) = b.take (i + 1) := by
  rw [List.take_succ_eq_append_getElem ha, List.take_succ_eq_append_getElem hb, ht, he]
def WfS118 (x : S118) : Prop := (x.f0.size ≤ 9223372036854775807)
def BdS118 (x : S118) : Prop := (x.f0.size ≤ 1048576)
theorem szRow_ev (y : S118) (hw : WfS118 y) (x : Int) (h0 : 0 ≤ x) (h1 : x ≤ 1048576) : ∃ r, Ev (fun _ => laws_szRow.f (y.f0) (y.f1) (y.f2) (y.f3) (y.f4) (y.f5) (y.f6) (y.f7) (y.f8) (y.f9) x) r ∧ -1 ≤ r ∧ r ≤ x ∧ (0 ≤ r → BdS118 y) := by
  have w0 : y.f0.size ≤ 9223372036854775807 := hw
  by_cases c : wrap64 (x - (y.f0.size : Int)) < 0
  · refine ⟨-1, Ev.congr (fun k => ?_) (Ev.now (-1)), by omega, by omega, fun h => by omega⟩
    unfold laws_szRow.f
    rw [if_pos c]
  · have e : wrap64 (x - (y.f0.size : Int)) = x - (y.f0.size : Int) := w64 (by omega) (by omega)
    rw [e] at c
    refine ⟨x - (y.f0.size : Int), Ev.congr (fun k => ?_) (Ev.now _), by omega, by omega, fun _ => (show y.f0.size ≤ 1048576 by omega)⟩
    unfold laws_szRow.f
    rw [e, if_neg c]
def WfLS118 (x : (List S118)) : Prop := (x.length ≤ 9223372036854775807 ∧ ∀ y1_ ∈ x, (y1_.f0.size ≤ 9223372036854775807))
def BdLS118 (x : (List S118)) : Prop := (x.length ≤ 1048576 ∧ ∀ y1_ ∈ x, (y1_.f0.size ≤ 1048576))
theorem at_S118 (x : List S118) (i : Nat) (h : i < x.length) : rd_T118 x (i : Int) = x[i] := by
  unfold rd_T118
  rw [Int.toNat_natCast, List.getD_eq_getElem?_getD, List.getElem?_eq_getElem h]
  rfl
theorem szRowS_l0 (l : List S118) (hl : l.length ≤ 1048576) (hw : ∀ y ∈ l, WfS118 y) (d : Nat) : ∀ (x : Int) (i : Nat), i + d = l.length → 0 ≤ x → x ≤ 1048576 →
    ∃ r, Ev (fun k => laws_szRowS.l0 k l x (i : Int)) r ∧ -1 ≤ r ∧ r ≤ x ∧ (0 ≤ r → ∀ j, (hj : j < l.length) → i ≤ j → BdS118 l[j]) := by
  induction d with
  | zero =>
    intro x i hd h0 h1
    refine ⟨x, Ev.step (f := fun _ => some x) (fun k => ?_) (Ev.now _), by omega, by omega, fun _ j hj hij => by omega⟩
    simp only [laws_szRowS.l0]
    rw [if_neg (by omega)]
  | succ d ih =>
    intro x i hd h0 h1
    have hi : i < l.length := by omega
    obtain ⟨r1, e1, a1, b1, c1⟩ := szRow_ev l[i] (hw _ (List.getElem_mem hi)) x h0 h1
    by_cases hr : r1 < 0
    · refine ⟨-1, Ev.step (f := fun k => (laws_szRow.f (l[i].f0) (l[i].f1) (l[i].f2) (l[i].f3) (l[i].f4) (l[i].f5) (l[i].f6) (l[i].f7) (l[i].f8) (l[i].f9) x).bind fun t => if t < 0 then some (-1) else laws_szRowS.l0 k l t (wrap64 ((i : Int) + 1))) (fun k => ?_) (Ev.bind e1 ?_), by omega, by omega, fun h => by omega⟩
      · simp only [laws_szRowS.l0]
        rw [if_pos (by omega), if_pos (by omega), at_S118 l i hi]
      · refine Ev.congr (fun k => ?_) (Ev.now (-1))
        show (if r1 < 0 then some (-1) else _) = _
        rw [if_pos hr]
    · obtain ⟨r2, e2, a2, b2, c2⟩ := ih r1 (i + 1) (by omega) (by omega) (by omega)
      refine ⟨r2, Ev.step (f := fun k => (laws_szRow.f (l[i].f0) (l[i].f1) (l[i].f2) (l[i].f3) (l[i].f4) (l[i].f5) (l[i].f6) (l[i].f7) (l[i].f8) (l[i].f9) x).bind fun t => if t < 0 then some (-1) else laws_szRowS.l0 k l t (wrap64 ((i : Int) + 1))) (fun k => ?_) (Ev.bind e1 ?_), a2, by omega, fun h j hj hij => ?_⟩
      · simp only [laws_szRowS.l0]
        rw [if_pos (by omega), if_pos (by omega), at_S118 l i hi]
      · refine Ev.congr (fun k => ?_) e2
        show (if r1 < 0 then some (-1) else _) = _
        rw [if_neg hr, w64 (by omega) (by omega), succ_cast]
      · by_cases hij2 : j = i
        · subst hij2
          exact c1 (by omega)
        · exact c2 h j hj (by omega)
theorem szRowS_ev (l : (List S118)) (hw : WfLS118 l) (x : Int) (h0 : 0 ≤ x) (h1 : x ≤ 1048576) : ∃ r, Ev (fun k => laws_szRowS.f k l x) r ∧ -1 ≤ r ∧ r ≤ x ∧ (0 ≤ r → BdLS118 l) := by
  obtain ⟨hl, hw⟩ := hw
  by_cases c : wrap64 (x - (l.length : Int)) < 0
  · refine ⟨-1, Ev.congr (fun k => ?_) (Ev.now (-1)), by omega, by omega, fun h => by omega⟩
    unfold laws_szRowS.f
    rw [if_pos c]
  · have e : wrap64 (x - (l.length : Int)) = x - (l.length : Int) := w64 (by omega) (by omega)
    rw [e] at c
    obtain ⟨r, e1, a1, b1, c1⟩ := szRowS_l0 l (by omega) hw l.length (x - (l.length : Int)) 0 (by omega) (by omega) (by omega)
    refine ⟨r, Ev.congr (fun k => ?_) e1, a1, by omega, fun h => ⟨by omega, fun y hy => ?_⟩⟩
    · unfold laws_szRowS.f
      rw [e, if_neg c]
      rfl
    · obtain ⟨j, hj, rfl⟩ := List.mem_iff_getElem.mp hy
      exact c1 h j hj (Nat.zero_le _)
def WfLLS118 (x : (List (List S118))) : Prop := (x.length ≤ 9223372036854775807 ∧ ∀ y1_ ∈ x, (y1_.length ≤ 9223372036854775807 ∧ ∀ y3_ ∈ y1_, (y3_.f0.size ≤ 9223372036854775807)))
def BdLLS118 (x : (List (List S118))) : Prop := (x.length ≤ 1048576 ∧ ∀ y1_ ∈ x, (y1_.length ≤ 1048576 ∧ ∀ y3_ ∈ y1_, (y3_.f0.size ≤ 1048576)))
theorem at_LS118 (x : List (List S118)) (i : Nat) (h : i < x.length) : rd_L4 x (i : Int) = x[i] := by
  unfold rd_L4
  rw [Int.toNat_natCast, List.getD_eq_getElem?_getD, List.getElem?_eq_getElem h]
  rfl
theorem szRowSS_l0 (l : List (List S118)) (hl : l.length ≤ 1048576) (hw : ∀ y ∈ l, WfLS118 y) (d : Nat) : ∀ (x : Int) (i : Nat), i + d = l.length → 0 ≤ x → x ≤ 1048576 →
    ∃ r, Ev (fun k => laws_szRowSS.l0 k l x (i : Int)) r ∧ -1 ≤ r ∧ r ≤ x ∧ (0 ≤ r → ∀ j, (hj : j < l.length) → i ≤ j → BdLS118 l[j]) := by
  induction d with
  | zero =>
    intro x i hd h0 h1
    refine ⟨x, Ev.step (f := fun _ => some x) (fun k => ?_) (Ev.now _), by omega, by omega, fun _ j hj hij => by omega⟩
    simp only [laws_szRowSS.l0]
    rw [if_neg (by omega)]
  | succ d ih =>
    intro x i hd h0 h1
    have hi : i < l.length := by omega
    obtain ⟨r1, e1, a1, b1, c1⟩ := szRowS_ev l[i] (hw _ (List.getElem_mem hi)) x h0 h1
    by_cases hr : r1 < 0
    · refine ⟨-1, Ev.step (f := fun k => (laws_szRowS.f k l[i] x).bind fun t => if t < 0 then some (-1) else laws_szRowSS.l0 k l t (wrap64 ((i : Int) + 1))) (fun k => ?_) (Ev.bind e1 ?_), by omega, by omega, fun h => by omega⟩
      · simp only [laws_szRowSS.l0]
        rw [if_pos (by omega), if_pos (by omega), at_LS118 l i hi]
      · refine Ev.congr (fun k => ?_) (Ev.now (-1))
        show (if r1 < 0 then some (-1) else _) = _
        rw [if_pos hr]
    · obtain ⟨r2, e2, a2, b2, c2⟩ := ih r1 (i + 1) (by omega) (by omega) (by omega)
      refine ⟨r2, Ev.step (f := fun k => (laws_szRowS.f k l[i] x).bind fun t => if t < 0 then some (-1) else laws_szRowSS.l0 k l t (wrap64 ((i : Int) + 1))) (fun k => ?_) (Ev.bind e1 ?_), a2, by omega, fun h j hj hij => ?_⟩
      · simp only [laws_szRowSS.l0]
        rw [if_pos (by omega), if_pos (by omega), at_LS118 l i hi]
      · refine Ev.congr (fun k => ?_) e2
        show (if r1 < 0 then some (-1) else _) = _
        rw [if_neg hr, w64 (by omega) (by omega), succ_cast]
      · by_cases hij2 : j = i
        · subst hij2
          exact c1 (by omega)
        · exact c2 h j hj (by omega)
theorem szRowSS_ev (l : (List (List S118))) (hw : WfLLS118 l) (x : Int) (h0 : 0 ≤ x) (h1 : x ≤ 1048576) : ∃ r, Ev (fun k => laws_szRowSS.f k l x) r ∧ -1 ≤ r ∧ r ≤ x ∧ (0 ≤ r → BdLLS118 l) := by
  obtain ⟨hl, hw⟩ := hw
  by_cases c : wrap64 (x - (l.length : Int)) < 0
  · refine ⟨-1, Ev.congr (fun k => ?_) (Ev.now (-1)), by omega, by omega, fun h => by omega⟩
    unfold laws_szRowSS.f
    rw [if_pos c]
  · have e : wrap64 (x - (l.length : Int)) = x - (l.length : Int) := w64 (by omega) (by omega)
    rw [e] at c
    obtain ⟨r, e1, a1, b1, c1⟩ := szRowSS_l0 l (by omega) hw l.length (x - (l.length : Int)) 0 (by omega) (by omega) (by omega)
    refine ⟨r, Ev.congr (fun k => ?_) e1, a1, by omega, fun h => ⟨by omega, fun y hy => ?_⟩⟩
    · unfold laws_szRowSS.f
      rw [e, if_neg c]
      rfl
    · obtain ⟨j, hj, rfl⟩ := List.mem_iff_getElem.mp hy
      exact c1 h j hj (Nat.zero_le _)
def WfS38 (x : S38) : Prop := ((x.f2.length ≤ 9223372036854775807 ∧ ∀ y4_ ∈ x.f2, (y4_.length ≤ 9223372036854775807 ∧ ∀ y3_ ∈ y4_, (y3_.f0.size ≤ 9223372036854775807))))
def BdS38 (x : S38) : Prop := ((x.f2.length ≤ 1048576 ∧ ∀ y4_ ∈ x.f2, (y4_.length ≤ 1048576 ∧ ∀ y3_ ∈ y4_, (y3_.f0.size ≤ 1048576))))
theorem szStore_ev (y : S38) (hw : WfS38 y) (x : Int) (h0 : 0 ≤ x) (h1 : x ≤ 1048576) : ∃ r, Ev (fun k => laws_szStore.f k (y.f0) (y.f1) (y.f2) x) r ∧ -1 ≤ r ∧ r ≤ x ∧ (0 ≤ r → BdS38 y) := by
  have w2 : (y.f2.length ≤ 9223372036854775807 ∧ ∀ y4_ ∈ y.f2, (y4_.length ≤ 9223372036854775807 ∧ ∀ y3_ ∈ y4_, (y3_.f0.size ≤ 9223372036854775807))) := hw
  obtain ⟨r0, e0, a0, b0, c0⟩ := szRowSS_ev y.f2 w2 x (by omega) (by omega)
  by_cases hr0 : r0 < 0
  · refine ⟨-1, ?_, by omega, by omega, fun h => by omega⟩
    unfold laws_szStore.f
    refine Ev.bind e0 ?_
    exact Ev.congr (fun k => if_pos hr0) (Ev.now (-1))
  · skip
    refine ⟨r0, ?_, by omega, by omega, fun h => c0 (by omega)⟩
    unfold laws_szStore.f
    refine Ev.bind e0 ?_
    refine Ev.congr (f := fun k => (some r0)) (fun k => if_neg hr0) ?_
    exact Ev.now _
def WfStr (x : ByteArray) : Prop := x.size ≤ 9223372036854775807
def BdStr (x : ByteArray) : Prop := x.size ≤ 1048576
theorem gwStr (x : ByteArray) (h : x.size ≤ maxLen) : WfStr x := by
  unfold WfStr
  unfold maxLen at h
  omega
theorem gwS118 (x : S118) (h : (x.f0.size ≤ maxLen ∧ (Lit.int .i64 x.f1).wf = true ∧ (Lit.int .i64 x.f2).wf = true ∧ True ∧ (Lit.int .i64 x.f4).wf = true ∧ (Lit.int .i64 x.f5).wf = true ∧ (Lit.int .i64 x.f6).wf = true ∧ (Lit.int .i64 x.f7).wf = true ∧ (Lit.int .i64 x.f8).wf = true ∧ (Lit.int .i64 x.f9).wf = true)) : WfS118 x := by
  obtain ⟨g0, g1, g2, g3, g4, g5, g6, g7, g8, g9⟩ := h
  exact gwStr x.f0 g0
theorem gwLS118 (x : (List S118)) (h : (x.length ≤ maxLen ∧ ∀ y_x ∈ x, (y_x.f0.size ≤ maxLen ∧ (Lit.int .i64 y_x.f1).wf = true ∧ (Lit.int .i64 y_x.f2).wf = true ∧ True ∧ (Lit.int .i64 y_x.f4).wf = true ∧ (Lit.int .i64 y_x.f5).wf = true ∧ (Lit.int .i64 y_x.f6).wf = true ∧ (Lit.int .i64 y_x.f7).wf = true ∧ (Lit.int .i64 y_x.f8).wf = true ∧ (Lit.int .i64 y_x.f9).wf = true))) : WfLS118 x := ⟨by have := h.1; unfold maxLen at this; omega, fun y hy => gwS118 y (h.2 y hy)⟩
theorem gwLLS118 (x : (List (List S118))) (h : (x.length ≤ maxLen ∧ ∀ y_x ∈ x, (y_x.length ≤ maxLen ∧ ∀ y_y_x ∈ y_x, (y_y_x.f0.size ≤ maxLen ∧ (Lit.int .i64 y_y_x.f1).wf = true ∧ (Lit.int .i64 y_y_x.f2).wf = true ∧ True ∧ (Lit.int .i64 y_y_x.f4).wf = true ∧ (Lit.int .i64 y_y_x.f5).wf = true ∧ (Lit.int .i64 y_y_x.f6).wf = true ∧ (Lit.int .i64 y_y_x.f7).wf = true ∧ (Lit.int .i64 y_y_x.f8).wf = true ∧ (Lit.int .i64 y_y_x.f9).wf = true)))) : WfLLS118 x := ⟨by have := h.1; unfold maxLen at this; omega, fun y hy => gwLS118 y (h.2 y hy)⟩
theorem gwS38 (x : S38) (h : ((Lit.int .i64 x.f0).wf = true ∧ (Lit.int .i64 x.f1).wf = true ∧ (x.f2.length ≤ maxLen ∧ ∀ y_x_f2 ∈ x.f2, (y_x_f2.length ≤ maxLen ∧ ∀ y_y_x_f2 ∈ y_x_f2, (y_y_x_f2.f0.size ≤ maxLen ∧ (Lit.int .i64 y_y_x_f2.f1).wf = true ∧ (Lit.int .i64 y_y_x_f2.f2).wf = true ∧ True ∧ (Lit.int .i64 y_y_x_f2.f4).wf = true ∧ (Lit.int .i64 y_y_x_f2.f5).wf = true ∧ (Lit.int .i64 y_y_x_f2.f6).wf = true ∧ (Lit.int .i64 y_y_x_f2.f7).wf = true ∧ (Lit.int .i64 y_y_x_f2.f8).wf = true ∧ (Lit.int .i64 y_y_x_f2.f9).wf = true))))) : WfS38 x := by
  obtain ⟨g0, g1, g2⟩ := h
  exact gwLLS118 x.f2 g2
def toRowV (x : S118) : S102 := ⟨x.f0, x.f1, x.f2, x.f3, x.f4, x.f5, x.f6, x.f7, x.f8, x.f9⟩
def toRowSV (l : (List S118)) : (List S102) := l.map toRowV
def toRowSSV (l : (List (List S118))) : (List (List S102)) := l.map toRowSV
def toStoreV (x : S38) : S43 := ⟨x.f0, x.f1, toRowSSV x.f2⟩
theorem toRow_ev (y : S118) (hb : BdS118 y) : Ev (fun _ => laws_toRow.f (y.f0) (y.f1) (y.f2) (y.f3) (y.f4) (y.f5) (y.f6) (y.f7) (y.f8) (y.f9)) ((toRowV y).f0, (toRowV y).f1, (toRowV y).f2, (toRowV y).f3, (toRowV y).f4, (toRowV y).f5, (toRowV y).f6, (toRowV y).f7, (toRowV y).f8, (toRowV y).f9) := by
  exact Ev.congr (fun k => rfl) (Ev.now _)
theorem toRowS_l0 (l : (List S118)) (hl : l.length ≤ 1048576) (hb : ∀ y ∈ l, BdS118 y) (d : Nat) : ∀ (out : (List S102)) (i : Nat), i + d = l.length → out.length = l.length → out.take i = (toRowSV l).take i → Ev (fun k => laws_toRowS.l0 k l out (i : Int)) (toRowSV l) := by
  have hlen : (toRowSV l).length = l.length := by simp [toRowSV]
  induction d with
  | zero =>
    intro out i hd ho ht
    refine Ev.step (f := fun _ => some (toRowSV l)) (fun k => ?_) (Ev.now _)
    simp only [laws_toRowS.l0]
    rw [if_neg (by omega)]
    have h1 : out.take i = out := List.take_of_length_le (by omega)
    have h2 : (toRowSV l).take i = toRowSV l := List.take_of_length_le (by omega)
    rw [← h1, ht, h2]
  | succ d ih =>
    intro out i hd ho ht
    have hi : i < l.length := by omega
    refine Ev.step (f := fun k => (laws_toRow.f (l[i].f0) (l[i].f1) (l[i].f2) (l[i].f3) (l[i].f4) (l[i].f5) (l[i].f6) (l[i].f7) (l[i].f8) (l[i].f9)).bind fun b => if (i : Int) < (out.length : Int) then laws_toRowS.l0 k l (out.set i (⟨b.1, b.2.1, b.2.2.1, b.2.2.2.1, b.2.2.2.2.1, b.2.2.2.2.2.1, b.2.2.2.2.2.2.1, b.2.2.2.2.2.2.2.1, b.2.2.2.2.2.2.2.2.1, b.2.2.2.2.2.2.2.2.2⟩ : S102)) (wrap64 ((i : Int) + 1)) else none) (fun k => ?_) (Ev.bind (toRow_ev l[i] (hb _ (List.getElem_mem hi))) ?_)
    · simp only [laws_toRowS.l0]
      rw [if_pos (by omega), if_pos (by omega), at_S118 l i hi, Int.toNat_natCast]
    · refine Ev.congr (fun k => ?_) (ih (out.set i (toRowV l[i])) (i + 1) (by omega) (by rw [List.length_set]; exact ho) ?_)
      · show (if (i : Int) < (out.length : Int) then _ else none) = _
        rw [if_pos (by omega), w64 (by omega) (by omega), succ_cast]
        try rfl
      · refine take_succ_ext _ _ i (by rw [List.length_set]; omega) (by omega) ?_ (by simp [toRowSV])
        rw [List.take_set_of_le (Nat.le_refl _)]
        exact ht
theorem toRowS_ev (l : (List S118)) (hb : BdLS118 l) : Ev (fun k => laws_toRowS.f k l) (toRowSV l) := by
  have hl : l.length ≤ 1048576 := hb.1
  refine Ev.congr (fun k => ?_) (toRowS_l0 l hl hb.2 l.length (List.replicate l.length z102) 0 (by omega) (by simp) (by simp))
  unfold laws_toRowS.f
  rw [if_pos (by omega), if_pos (by omega), Int.toNat_natCast]
  rfl
theorem toRowSS_l0 (l : (List (List S118))) (hl : l.length ≤ 1048576) (hb : ∀ y ∈ l, BdLS118 y) (d : Nat) : ∀ (out : (List (List S102))) (i : Nat), i + d = l.length → out.length = l.length → out.take i = (toRowSSV l).take i → Ev (fun k => laws_toRowSS.l0 k l out (i : Int)) (toRowSSV l) := by
  have hlen : (toRowSSV l).length = l.length := by simp [toRowSSV]
  induction d with
  | zero =>
    intro out i hd ho ht
    refine Ev.step (f := fun _ => some (toRowSSV l)) (fun k => ?_) (Ev.now _)
    simp only [laws_toRowSS.l0]
    rw [if_neg (by omega)]
    have h1 : out.take i = out := List.take_of_length_le (by omega)
    have h2 : (toRowSSV l).take i = toRowSSV l := List.take_of_length_le (by omega)
    rw [← h1, ht, h2]
  | succ d ih =>
    intro out i hd ho ht
    have hi : i < l.length := by omega
    refine Ev.step (f := fun k => (laws_toRowS.f k l[i]).bind fun b => if (i : Int) < (out.length : Int) then laws_toRowSS.l0 k l (out.set i b) (wrap64 ((i : Int) + 1)) else none) (fun k => ?_) (Ev.bind (toRowS_ev l[i] (hb _ (List.getElem_mem hi))) ?_)
    · simp only [laws_toRowSS.l0]
      rw [if_pos (by omega), if_pos (by omega), at_LS118 l i hi, Int.toNat_natCast]
    · refine Ev.congr (fun k => ?_) (ih (out.set i (toRowSV l[i])) (i + 1) (by omega) (by rw [List.length_set]; exact ho) ?_)
      · show (if (i : Int) < (out.length : Int) then _ else none) = _
        rw [if_pos (by omega), w64 (by omega) (by omega), succ_cast]
        try rfl
      · refine take_succ_ext _ _ i (by rw [List.length_set]; omega) (by omega) ?_ (by simp [toRowSSV])
        rw [List.take_set_of_le (Nat.le_refl _)]
        exact ht
theorem toRowSS_ev (l : (List (List S118))) (hb : BdLLS118 l) : Ev (fun k => laws_toRowSS.f k l) (toRowSSV l) := by
  have hl : l.length ≤ 1048576 := hb.1
  refine Ev.congr (fun k => ?_) (toRowSS_l0 l hl hb.2 l.length (List.replicate l.length []) 0 (by omega) (by simp) (by simp))
  unfold laws_toRowSS.f
  rw [if_pos (by omega), if_pos (by omega), Int.toNat_natCast]
  rfl
theorem toStore_ev (y : S38) (hb : BdS38 y) : Ev (fun k => laws_toStore.f k (y.f0) (y.f1) (y.f2)) ((toStoreV y).f0, (toStoreV y).f1, (toStoreV y).f2) := by
  have w2 : (y.f2.length ≤ 1048576 ∧ ∀ y4_ ∈ y.f2, (y4_.length ≤ 1048576 ∧ ∀ y3_ ∈ y4_, (y3_.f0.size ≤ 1048576))) := hb
  unfold laws_toStore.f
  refine Ev.bind (toRowSS_ev y.f2 w2) ?_
  exact Ev.now _
theorem eqRow_ev (y : S102) : Ev (fun _ => laws_eqRow.f (y.f0) (y.f1) (y.f2) (y.f3) (y.f4) (y.f5) (y.f6) (y.f7) (y.f8) (y.f9) (y.f0) (y.f1) (y.f2) (y.f3) (y.f4) (y.f5) (y.f6) (y.f7) (y.f8) (y.f9)) true := by
  refine ⟨0, fun k hk => ?_⟩
  unfold laws_eqRow.f
  simp only [if_true, bne_self_eq_false, Option.bind_some, Bool.false_eq_true, if_false]
theorem at_S102 (x : List S102) (i : Nat) (h : i < x.length) : rd_T102 x (i : Int) = x[i] := by
  unfold rd_T102
  rw [Int.toNat_natCast, List.getD_eq_getElem?_getD, List.getElem?_eq_getElem h]
  rfl
theorem eqRowS_l0 (l : (List S102)) (hl : l.length ≤ 4611686018427387904) (d : Nat) : ∀ (i : Nat), i + d = l.length → Ev (fun k => laws_eqRowS.l0 k l l (i : Int)) true := by
  induction d with
  | zero =>
    intro i hd
    refine Ev.step (f := fun _ => some true) (fun k => ?_) (Ev.now _)
    simp only [laws_eqRowS.l0]
    rw [if_neg (by omega)]
  | succ d ih =>
    intro i hd
    have hi : i < l.length := by omega
    refine Ev.step (f := fun k => (laws_eqRow.f (l[i].f0) (l[i].f1) (l[i].f2) (l[i].f3) (l[i].f4) (l[i].f5) (l[i].f6) (l[i].f7) (l[i].f8) (l[i].f9) (l[i].f0) (l[i].f1) (l[i].f2) (l[i].f3) (l[i].f4) (l[i].f5) (l[i].f6) (l[i].f7) (l[i].f8) (l[i].f9)).bind fun b => if b = true then laws_eqRowS.l0 k l l (wrap64 ((i : Int) + 1)) else some false) (fun k => ?_) (Ev.bind (eqRow_ev l[i]) (Ev.congr (fun k => ?_) (ih (i + 1) (by omega))))
    · simp only [laws_eqRowS.l0]
      rw [if_pos (by omega), if_pos (by omega), if_pos (by omega), at_S102 l i hi]
    · show (if true = true then _ else some false) = _
      rw [if_pos rfl, w64 (by omega) (by omega), succ_cast]
theorem eqRowS_ev (l : (List S102)) (hw : (l.length ≤ 4611686018427387904)) : Ev (fun k => laws_eqRowS.f k l l) true := by
  refine Ev.congr (fun k => ?_) (eqRowS_l0 l hw l.length 0 (by omega))
  unfold laws_eqRowS.f
  rw [if_pos rfl]
  rfl
theorem at_LS102 (x : List (List S102)) (i : Nat) (h : i < x.length) : rd_L6 x (i : Int) = x[i] := by
  unfold rd_L6
  rw [Int.toNat_natCast, List.getD_eq_getElem?_getD, List.getElem?_eq_getElem h]
  rfl
theorem eqRowSS_l0 (l : (List (List S102))) (hl : l.length ≤ 4611686018427387904) (hw : ∀ y ∈ l, (y.length ≤ 4611686018427387904)) (d : Nat) : ∀ (i : Nat), i + d = l.length → Ev (fun k => laws_eqRowSS.l0 k l l (i : Int)) true := by
  induction d with
  | zero =>
    intro i hd
    refine Ev.step (f := fun _ => some true) (fun k => ?_) (Ev.now _)
    simp only [laws_eqRowSS.l0]
    rw [if_neg (by omega)]
  | succ d ih =>
    intro i hd
    have hi : i < l.length := by omega
    refine Ev.step (f := fun k => (laws_eqRowS.f k l[i] l[i]).bind fun b => if b = true then laws_eqRowSS.l0 k l l (wrap64 ((i : Int) + 1)) else some false) (fun k => ?_) (Ev.bind (eqRowS_ev l[i] (hw _ (List.getElem_mem hi))) (Ev.congr (fun k => ?_) (ih (i + 1) (by omega))))
    · simp only [laws_eqRowSS.l0]
      rw [if_pos (by omega), if_pos (by omega), if_pos (by omega), at_LS102 l i hi]
    · show (if true = true then _ else some false) = _
      rw [if_pos rfl, w64 (by omega) (by omega), succ_cast]
theorem eqRowSS_ev (l : (List (List S102))) (hw : (l.length ≤ 4611686018427387904 ∧ ∀ y1_ ∈ l, (y1_.length ≤ 4611686018427387904))) : Ev (fun k => laws_eqRowSS.f k l l) true := by
  refine Ev.congr (fun k => ?_) (eqRowSS_l0 l hw.1 hw.2 l.length 0 (by omega))
  unfold laws_eqRowSS.f
  rw [if_pos rfl]
  rfl
theorem eqStore_ev (y : S43) (hw : ((y.f2.length ≤ 4611686018427387904 ∧ ∀ y4_ ∈ y.f2, (y4_.length ≤ 4611686018427387904)))) : Ev (fun k => laws_eqStore.f k (y.f0) (y.f1) (y.f2) (y.f0) (y.f1) (y.f2)) true := by
  have w2 := hw
  obtain ⟨K2, e2⟩ := eqRowSS_ev y.f2 w2
  refine ⟨K2, fun k hk => ?_⟩
  have q2 := e2 k (by omega)
  simp only at q2
  unfold laws_eqStore.f
  simp only [q2, if_true, bne_self_eq_false, Option.bind_some, Bool.false_eq_true, if_false]
theorem toRowS_wl (l : (List S118)) (hb : BdLS118 l) : ((toRowSV l).length ≤ 4611686018427387904) := by
  have := hb.1
  simp [toRowSV]
  omega
theorem toRowSS_wl (l : (List (List S118))) (hb : BdLLS118 l) : ((toRowSSV l).length ≤ 4611686018427387904 ∧ ∀ y12_ ∈ (toRowSSV l), (y12_.length ≤ 4611686018427387904)) := by
  refine ⟨by have := hb.1; simp [toRowSSV]; omega, fun y hy => ?_⟩
  obtain ⟨x, hx, rfl⟩ := List.mem_map.mp hy
  exact toRowS_wl x (hb.2 x hx)
theorem toStore_wl (y : S38) (hb : BdS38 y) : (((toStoreV y).f2.length ≤ 4611686018427387904 ∧ ∀ y15_ ∈ (toStoreV y).f2, (y15_.length ≤ 4611686018427387904))) := by
  have w2 : (y.f2.length ≤ 1048576 ∧ ∀ y4_ ∈ y.f2, (y4_.length ≤ 1048576 ∧ ∀ y3_ ∈ y4_, (y3_.f0.size ≤ 1048576))) := hb
  exact toRowSS_wl y.f2 w2
theorem l1In_f (x a b : Int) : spec_l1In.f x a b = some (decide (a ≤ x) && decide (x ≤ b)) := by
  unfold spec_l1In.f
  by_cases h : x ≥ a
  · rw [if_pos h]
    have h2 : a ≤ x := h
    simp [h2]
  · rw [if_neg h]
    have h2 : ¬ a ≤ x := h
    simp [h2]
theorem within_f (x a b : Int) : impl_within.f x a b = some (decide (a ≤ x) && decide (x ≤ b)) := by
  unfold impl_within.f
  by_cases h : a ≤ x <;> simp [h]
def kb (c : Int) : Bool := (decide (97 ≤ c) && decide (c ≤ 122)) || ((decide (65 ≤ c) && decide (c ≤ 90)) || ((decide (48 ≤ c) && decide (c ≤ 57)) || decide (c = 95)))
def keyOkFrom (s : ByteArray) : Nat → Nat → Bool
  | 0, _ => decide (1 ≤ s.size) && decide (s.size ≤ 4)
  | d + 1, i => kb (bt s (i : Int)) && keyOkFrom s d (i + 1)
def keyOkB (s : ByteArray) : Bool := keyOkFrom s s.size 0
theorem l4Byte_f (c : Int) : spec_l4Byte.f c = some (kb c) := by
  unfold spec_l4Byte.f spec_l1In.f kb
  by_cases h1 : c ≥ 97 <;> by_cases h2 : c ≤ 122 <;> by_cases h3 : c ≥ 65 <;> by_cases h4 : c ≤ 90 <;> by_cases h5 : c ≥ 48 <;> by_cases h6 : c ≤ 57 <;> by_cases h7 : c = 95 <;> simp [h1, h2, h3, h4, h5, h6, h7] <;> first | omega | (split <;> simp_all <;> omega)
theorem specKeyOk_l0 (s : ByteArray) (hn : s.size ≤ 9223372036854775806) (d : Nat) : ∀ (k i : Nat), i + d = s.size → d < k → spec_KeyOk.l0 k s (i : Int) = some (keyOkFrom s d i) := by
  induction d with
  | zero =>
    intro k i hd hk
    obtain ⟨k, rfl⟩ : ∃ m, k = m + 1 := ⟨k - 1, by omega⟩
    simp only [spec_KeyOk.l0, keyOkFrom]
    rw [if_neg (by omega)]
    unfold spec_l1In.f
    by_cases h : (s.size : Int) ≥ 1
    · rw [if_pos h]
      have h2 : 1 ≤ s.size := by omega
      simp only [Option.bind_some, h2, decide_true, Bool.true_and]
      congr 1
      rw [decide_eq_decide]
      omega
    · rw [if_neg h]
      have h2 : ¬ 1 ≤ s.size := by omega
      simp only [Option.bind_some, h2, decide_false, Bool.false_and]
  | succ d ih =>
    intro k i hd hk
    obtain ⟨k, rfl⟩ : ∃ m, k = m + 1 := ⟨k - 1, by omega⟩
    have hb := bt_range s (i : Int)
    simp only [spec_KeyOk.l0, keyOkFrom]
    rw [if_pos (by omega), if_pos (by omega), w64 (i := bt s (i : Int)) (by omega) (by omega), w64 (by omega) (by omega), succ_cast, l4Byte_f, Option.bind_some, ih k (i + 1) (by omega) (by omega)]
    cases kb (bt s (i : Int)) <;> simp
theorem implKeyOk_l0 (s : ByteArray) (hn : s.size ≤ 9223372036854775806) (d : Nat) : ∀ (k i : Nat), i + d = s.size → d < k → impl_KeyOk.l0 k s (s.size : Int) (i : Int) = some (keyOkFrom s d i) := by
  induction d with
  | zero =>
    intro k i hd hk
    obtain ⟨k, rfl⟩ : ∃ m, k = m + 1 := ⟨k - 1, by omega⟩
    simp only [impl_KeyOk.l0, keyOkFrom]
    rw [if_neg (by omega)]
    unfold impl_within.f
    by_cases h : 1 ≤ (s.size : Int)
    · rw [if_pos h]
      have h2 : 1 ≤ s.size := by omega
      simp only [Option.bind_some, h2, decide_true, Bool.true_and]
      congr 1
      rw [decide_eq_decide]
      omega
    · rw [if_neg h]
      have h2 : ¬ 1 ≤ s.size := by omega
      simp only [Option.bind_some, h2, decide_false, Bool.false_and]
  | succ d ih =>
    intro k i hd hk
    obtain ⟨k, rfl⟩ : ∃ m, k = m + 1 := ⟨k - 1, by omega⟩
    simp only [impl_KeyOk.l0, keyOkFrom]
    rw [if_pos (by omega), if_pos (by omega), if_pos (by omega), w64 (by omega) (by omega), succ_cast, ih k (i + 1) (by omega) (by omega)]
    generalize bt s (i : Int) = c
    cases h : kb c
    · unfold kb at h
      simp only [Bool.or_eq_false_iff, Bool.and_eq_false_iff, decide_eq_false_iff_not] at h
      rw [Bool.false_and]
      repeat' split
      all_goals first | rfl | omega
    · unfold kb at h
      simp only [Bool.or_eq_true, Bool.and_eq_true, decide_eq_true_eq] at h
      rw [Bool.true_and]
      repeat' split
      all_goals first | rfl | omega
theorem specKeyOk_f (s : ByteArray) (hn : s.size ≤ 9223372036854775806) (k : Nat) (hk : s.size < k) : spec_KeyOk.f k s = some (keyOkB s) := specKeyOk_l0 s hn s.size k 0 (by omega) hk
theorem implKeyOk_f (s : ByteArray) (hn : s.size ≤ 9223372036854775806) (k : Nat) (hk : s.size < k) : impl_KeyOk.f k s = some (keyOkB s) := implKeyOk_l0 s hn s.size k 0 (by omega) hk
theorem rowOk_both (s : ByteArray) (a1 a2 : Int) (a3 : Bool) (a4 a5 a6 a7 a8 a9 : Int) (hs : s.size ≤ 1048576) : ∃ b, ∀ k, 1048600 < k → spec_RowOk.f k s a1 a2 a3 a4 a5 a6 a7 a8 a9 = some b ∧ impl_RowOk.f k s a1 a2 a3 a4 a5 a6 a7 a8 a9 = some b := by
  refine ⟨keyOkB s && rowB a1 a2 a3 a4 a5 a6 a7 a8 a9, fun k hk => ?_⟩
  unfold spec_RowOk.f impl_RowOk.f
  rw [specKeyOk_f s (by omega) k (by omega), implKeyOk_f s (by omega) k (by omega)]
  exact ⟨rfl, rfl⟩
theorem quiet_both (s : ByteArray) (a1 a2 : Int) (a3 : Bool) (a4 a5 a6 a7 a8 a9 : Int) : ∃ b, spec_Quiet.f s a1 a2 a3 a4 a5 a6 a7 a8 a9 = some b ∧ impl_Quiet.f s a1 a2 a3 a4 a5 a6 a7 a8 a9 = some b := by
  unfold spec_Quiet.f impl_Quiet.f
  by_cases h : a2 = 0 <;> by_cases h5 : a5 = 0 <;> cases a3 <;> simp [h, h5]
theorem report_l0 (x : List S102) (hl : x.length ≤ 1048576) (hb : ∀ y ∈ x, y.f0.size ≤ 1048576) (d : Nat) : ∀ i : Nat, i + d = x.length → ∃ b, ∀ k, 1048601 + d < k → spec_ReportOk.l0 k x (i : Int) = some b ∧ impl_ReportOk.l0 k x x (x.length : Int) (i : Int) = some b := by
  induction d with
  | zero =>
    intro i hi
    refine ⟨decide ((x.length : Int) ≤ 4), fun k hk => ?_⟩
    obtain ⟨k, rfl⟩ : ∃ m, k = m + 1 := ⟨k - 1, by omega⟩
    simp only [spec_ReportOk.l0, impl_ReportOk.l0]
    rw [if_neg (by omega), if_neg (by omega)]
    exact ⟨rfl, rfl⟩
  | succ d ih =>
    intro i hd
    have hi : i < x.length := by omega
    obtain ⟨bn, hn⟩ := ih (i + 1) (by omega)
    have hs := hb _ (List.getElem_mem hi)
    obtain ⟨b1, r1⟩ := rowOk_both x[i].f0 x[i].f1 x[i].f2 x[i].f3 x[i].f4 x[i].f5 x[i].f6 x[i].f7 x[i].f8 x[i].f9 hs
    obtain ⟨b2, q1, q2⟩ := quiet_both x[i].f0 x[i].f1 x[i].f2 x[i].f3 x[i].f4 x[i].f5 x[i].f6 x[i].f7 x[i].f8 x[i].f9
    have step : ∀ k, 1048601 + d < k →
        spec_ReportOk.l0 (k + 1) x (i : Int) = (if b1 = true then (if b2 = true then (some false) else (if (i : Int) > 0 then (if (Op.bytesLess (((rd_T102 x (wrap64 ((i : Int) - 1))).f0).toList) ((x[i].f0).toList)) = true then some bn else (some false)) else some bn)) else (some false)) ∧
        impl_ReportOk.l0 (k + 1) x x (x.length : Int) (i : Int) = (if b1 = true then (if b2 = true then (some false) else (if (i : Int) > 0 then (if (Op.bytesLess (((rd_T102 x (wrap64 ((i : Int) - 1))).f0).toList) ((x[i].f0).toList)) = true then some bn else (some false)) else some bn)) else (some false)) := by
      intro k hk
      obtain ⟨n1, n2⟩ := hn k hk
      have e : wrap64 ((i : Int) + 1) = ((i + 1 : Nat) : Int) := by rw [w64 (by omega) (by omega)]; omega
      simp only [spec_ReportOk.l0, impl_ReportOk.l0]
      have hi0 : (i : Int) < (x.length : Int) := by omega
      have hi1 : (0 : Int) ≤ (i : Int) := by omega
      rw [if_pos hi0, if_pos hi1, if_pos hi0, if_pos hi1, if_pos hi0, at_S102 x i hi, (r1 k (by omega)).1, (r1 k (by omega)).2]
      simp only [Option.bind_some, q1, q2, e, n1, n2]
      by_cases hz : (i : Int) > 0
      · have w1 : wrap64 ((i : Int) - 1) = (i : Int) - 1 := w64 (by omega) (by omega)
        have g1 : (0 ≤ wrap64 ((i : Int) - 1)) = True := eq_true (by omega)
        have g2 : (wrap64 ((i : Int) - 1) < (x.length : Int)) = True := eq_true (by omega)
        simp only [g1, g2, if_true]
        first | done | exact ⟨rfl, rfl⟩ | exact ⟨trivial, trivial⟩
      · simp only [eq_false hz, if_false]
        first | done | exact ⟨rfl, rfl⟩ | exact ⟨trivial, trivial⟩
    generalize hv : (if b1 = true then (if b2 = true then (some false) else (if (i : Int) > 0 then (if (Op.bytesLess (((rd_T102 x (wrap64 ((i : Int) - 1))).f0).toList) ((x[i].f0).toList)) = true then some bn else (some false)) else some bn)) else (some false)) = v at step
    have : ∃ b, v = some b := by
      subst hv
      repeat' split
      all_goals exact ⟨_, rfl⟩
    obtain ⟨b, rfl⟩ := this
    refine ⟨b, fun k hk => ?_⟩
    obtain ⟨k, rfl⟩ : ∃ m, k = m + 1 := ⟨k - 1, by omega⟩
    exact step k (by omega)
def repB (K : Nat) (x : List S102) : Bool := impl_ReportOk.f K x == some true
theorem report_f (K : Nat) (hK : 2200000 < K) (x : List S102) (hl : x.length ≤ 1048576) (hb : ∀ y ∈ x, y.f0.size ≤ 1048576) (k : Nat) (hk : 2200000 < k) : spec_ReportOk.f k x = some (repB K x) ∧ impl_ReportOk.f k x = some (repB K x) := by
  obtain ⟨b, h⟩ := report_l0 x hl hb x.length 0 (by omega)
  have a1 : spec_ReportOk.f k x = some b := (h k (by omega)).1
  have a2 : impl_ReportOk.f k x = some b := (h k (by omega)).2
  have a3 : impl_ReportOk.f K x = some b := (h K (by omega)).2
  have e : repB K x = b := by
    unfold repB
    rw [a3]
    cases b <;> rfl
  rw [a1, a2, e]
  exact ⟨rfl, rfl⟩
def condB (cap first : Int) (n : Int) : Bool := decide (1 ≤ cap) && (decide (cap ≤ 5) && (decide (n ≤ cap) && (decide (0 ≤ first) && (decide (first ≤ 1000000) && ((first == 0) || (n == cap))))))
theorem specStore_l0 (K : Nat) (hK : 2200000 < K) (cap first : Int) (l : List (List S102)) (hl : l.length ≤ 1048576) (hb : ∀ x ∈ l, x.length ≤ 1048576 ∧ ∀ y ∈ x, y.f0.size ≤ 1048576) (d : Nat) : ∀ i k : Nat, i + d = l.length → 2200001 + d < k → spec_StoreOk.l0 k (i : Int) cap first l = some ((l.drop i).all (repB K) && condB cap first (l.length : Int)) := by
  induction d with
  | zero =>
    intro i k hi hk
    obtain ⟨k, rfl⟩ : ∃ m, k = m + 1 := ⟨k - 1, by omega⟩
    simp only [spec_StoreOk.l0, l1In_f, Option.bind_some]
    rw [if_neg (by omega), List.drop_of_length_le (by omega)]
    unfold condB
    by_cases c1 : 1 ≤ cap <;> by_cases c2 : cap ≤ 5 <;> by_cases c3 : (l.length : Int) ≤ cap <;> by_cases c4 : 0 ≤ first <;> by_cases c5 : first ≤ 1000000 <;> by_cases c6 : first = 0 <;> simp [c1, c2, c3, c4, c5, c6]
  | succ d ih =>
    intro i k hd hk
    have hi : i < l.length := by omega
    obtain ⟨k, rfl⟩ : ∃ m, k = m + 1 := ⟨k - 1, by omega⟩
    have hx := hb _ (List.getElem_mem hi)
    simp only [spec_StoreOk.l0]
    rw [if_pos (by omega), if_pos (by omega), at_LS102 l i hi, (report_f K hK l[i] hx.1 hx.2 k (by omega)).1, Option.bind_some, List.drop_eq_getElem_cons hi, List.all_cons]
    by_cases h : repB K l[i] = true
    · rw [if_pos h, h, w64 (by omega) (by omega), succ_cast, ih (i + 1) k (by omega) (by omega), Bool.true_and]
    · rw [if_neg h, Bool.eq_false_iff.mpr h]
      rfl
theorem any_congr_m {α : Type} (l : List α) (p q : α → Bool) (h : ∀ x ∈ l, p x = q x) : l.any p = l.any q := by
  induction l with
  | nil => rfl
  | cons x xs ih => rw [List.any_cons, List.any_cons, h x (by simp), ih (fun y hy => h y (by simp [hy]))]
theorem storeOk_both (K : Nat) (hK : 2200000 < K) (cap first : Int) (l : List (List S102)) (hl : l.length ≤ 1048576) (hb : ∀ x ∈ l, x.length ≤ 1048576 ∧ ∀ y ∈ x, y.f0.size ≤ 1048576) (k : Nat) (hk : 3300000 < k) : spec_StoreOk.f k cap first l = some (l.all (repB K) && condB cap first (l.length : Int)) ∧ impl_StoreOk.f k cap first l = some (l.all (repB K) && condB cap first (l.length : Int)) := by
  constructor
  · exact specStore_l0 K hK cap first l hl hb l.length 0 k (by omega) (by omega)
  · unfold impl_StoreOk.f
    have ha : (l.all fun x => (impl_ReportOk.f k x).isSome) = true := by
      rw [List.all_eq_true]
      intro x hx
      rw [(report_f K hK x (hb x hx).1 (hb x hx).2 k (by omega)).2]
      rfl
    rw [if_pos ha]
    have hg : (l.any (impl_StoreOk.g k)) = !(l.all (repB K)) := by
      rw [List.not_all_eq_any_not]
      apply any_congr_m
      intro x hx
      unfold impl_StoreOk.g
      rw [(report_f K hK x (hb x hx).1 (hb x hx).2 k (by omega)).2]
      cases repB K x <;> rfl
    unfold impl_StoreOk.b condB
    rw [hg]
    generalize l.all (repB K) = z
    generalize decide (1 ≤ cap) = c1
    generalize decide (cap ≤ 5) = c2
    generalize decide ((l.length : Int) ≤ cap) = c3
    generalize decide (0 ≤ first) = c4
    generalize decide (first ≤ 1000000) = c5
    generalize ((first == 0) || ((l.length : Int) == cap)) = c6
    cases z <;> cases c1 <;> cases c2 <;> cases c3 <;> cases c4 <;> cases c5 <;> cases c6 <;> rfl
theorem sonSize (c : Int) : (strOfNums [c]).size = 1 := rfl
theorem markText_l0 (d : Nat) : ∀ (k n : Nat) (acc : ByteArray), n < 10 ^ d → n ≤ 9223372036854775807 → acc.size + d ≤ 1000 → d < k → ∃ b, laws_markText.l0 k (n : Int) acc = some b := by
  induction d with
  | zero =>
    intro k n acc hn hb ha hk
    obtain ⟨k, rfl⟩ : ∃ m, k = m + 1 := ⟨k - 1, by omega⟩
    have : n = 0 := by simpa using hn
    subst this
    simp only [laws_markText.l0]
    rw [if_neg (by omega), if_pos (by omega)]
    exact ⟨_, rfl⟩
  | succ d ih =>
    intro k n acc hn hb ha hk
    obtain ⟨k, rfl⟩ : ∃ m, k = m + 1 := ⟨k - 1, by omega⟩
    simp only [laws_markText.l0]
    by_cases h0 : (n : Int) > 0
    · rw [if_pos h0]
      simp only [Option.bind_some]
      rw [if_pos (by rw [sonSize]; omega)]
      have hd : n / 10 < 10 ^ d := by
        rw [Nat.div_lt_iff_lt_mul (by omega)]
        rw [Nat.pow_succ] at hn
        exact hn
      obtain ⟨b, hb⟩ := ih k (n / 10) (strOfNums [(wrap64 (48 + (Int.tmod (n : Int) 10))) % 256] ++ acc) hd (by omega) (by rw [ByteArray.size_append, sonSize]; omega) (by omega)
      refine ⟨b, ?_⟩
      rw [Int.tdiv_eq_ediv_of_nonneg (by omega), w64 (by omega) (by omega)]
      exact hb
    · rw [if_neg h0, if_pos (by omega)]
      exact ⟨_, rfl⟩
def mtB (m : Int) : ByteArray := (laws_markText.f 100 m).getD ByteArray.empty
theorem markText_f (m : Int) (h0 : 0 ≤ m) (h1 : m ≤ 9223372036854775807) (k : Nat) (hk : 100 ≤ k) : laws_markText.f k m = some (mtB m) := by
  have : ∃ b, laws_markText.f 100 m = some b := by
    unfold laws_markText.f
    by_cases h : m ≤ 0
    · rw [if_pos h]
      exact ⟨_, rfl⟩
    · rw [if_neg h]
      obtain ⟨n, rfl⟩ := Int.eq_ofNat_of_zero_le h0
      have hn : n < 10 ^ 19 := Nat.lt_of_le_of_lt (show n ≤ 9223372036854775807 by omega) (by decide)
      exact markText_l0 19 100 n _ hn (by omega) (by decide) (by omega)
  obtain ⟨b, hb⟩ := this
  have e : mtB m = b := by
    unfold mtB
    rw [hb]
    rfl
  rw [e]
  exact at_rounds (g := fun k => laws_markText.f k m) (fun k => laws_markText.mono m k) hk hb
def mkRow (m : Int) : S102 := ⟨mtB m, m + 1, m + 2, (Int.tmod (m + 3) 3 == 0), m + 4, m + 5, m + 6, m + 7, m + 8, m + 9⟩
theorem markRow_step (x : List S102) (m : Int) (i k : Nat) (hi : i < x.length) (hx : x.length ≤ 140737488355328) (hm : 0 ≤ m) (hm2 : m ≤ 4611686018427387904) (hk : 100 ≤ k) : laws_markRowS.l0 (k + 1) x m (i : Int) = laws_markRowS.l0 k (x.set i (mkRow m)) (m + 10) ((i + 1 : Nat) : Int) := by
  have hr : ∀ v, rd_T102 (x.set i v) (i : Int) = v := fun v => by
    rw [at_S102 _ i (by rw [List.length_set]; exact hi), List.getElem_set_self]
  have e1 : wrap64 (m + 1) = m + 1 := w64 (by omega) (by omega)
  have e2 : wrap64 (m + 1 + 1) = m + 2 := by rw [w64 (by omega) (by omega)]; omega
  have e3 : wrap64 (m + 2 + 1) = m + 3 := by rw [w64 (by omega) (by omega)]; omega
  have e4 : wrap64 (m + 3 + 1) = m + 4 := by rw [w64 (by omega) (by omega)]; omega
  have e5 : wrap64 (m + 4 + 1) = m + 5 := by rw [w64 (by omega) (by omega)]; omega
  have e6 : wrap64 (m + 5 + 1) = m + 6 := by rw [w64 (by omega) (by omega)]; omega
  have e7 : wrap64 (m + 6 + 1) = m + 7 := by rw [w64 (by omega) (by omega)]; omega
  have e8 : wrap64 (m + 7 + 1) = m + 8 := by rw [w64 (by omega) (by omega)]; omega
  have e9 : wrap64 (m + 8 + 1) = m + 9 := by rw [w64 (by omega) (by omega)]; omega
  have e10 : wrap64 (m + 9 + 1) = m + 10 := by rw [w64 (by omega) (by omega)]; omega
  have ei : wrap64 ((i : Int) + 1) = ((i + 1 : Nat) : Int) := by rw [w64 (by omega) (by omega)]; omega
  have hi0 : (i : Int) < (x.length : Int) := Int.ofNat_lt.mpr hi
  have hi1 : (0 : Int) ≤ (i : Int) := Int.natCast_nonneg i
  simp only [laws_markRowS.l0]
  rw [if_pos hi0, markText_f m hm (by omega) k hk]
  simp only [Option.bind_some, Int.toNat_natCast, List.set_set, hr, e1, e2, e3, e4, e5, e6, e7, e8, e9, e10, ei]
  rw [if_pos hi1]
  rfl
theorem heldRow_step (y : List S102) (m : Int) (i k : Nat) (hi : i < y.length) (hy : y[i] = mkRow m) (hx : y.length ≤ 140737488355328) (hm : 0 ≤ m) (hm2 : m ≤ 4611686018427387904) (hk : 100 ≤ k) : laws_heldRowS.l0 (k + 1) y m (i : Int) = laws_heldRowS.l0 k y (m + 10) ((i + 1 : Nat) : Int) := by
  have e1 : wrap64 (m + 1) = m + 1 := w64 (by omega) (by omega)
  have e2 : wrap64 (m + 1 + 1) = m + 2 := by rw [w64 (by omega) (by omega)]; omega
  have e3 : wrap64 (m + 2 + 1) = m + 3 := by rw [w64 (by omega) (by omega)]; omega
  have e4 : wrap64 (m + 3 + 1) = m + 4 := by rw [w64 (by omega) (by omega)]; omega
  have e5 : wrap64 (m + 4 + 1) = m + 5 := by rw [w64 (by omega) (by omega)]; omega
  have e6 : wrap64 (m + 5 + 1) = m + 6 := by rw [w64 (by omega) (by omega)]; omega
  have e7 : wrap64 (m + 6 + 1) = m + 7 := by rw [w64 (by omega) (by omega)]; omega
  have e8 : wrap64 (m + 7 + 1) = m + 8 := by rw [w64 (by omega) (by omega)]; omega
  have e9 : wrap64 (m + 8 + 1) = m + 9 := by rw [w64 (by omega) (by omega)]; omega
  have e10 : wrap64 (m + 9 + 1) = m + 10 := by rw [w64 (by omega) (by omega)]; omega
  have ei : wrap64 ((i : Int) + 1) = ((i + 1 : Nat) : Int) := by rw [w64 (by omega) (by omega)]; omega
  have hi0 : (i : Int) < (y.length : Int) := Int.ofNat_lt.mpr hi
  have hi1 : (0 : Int) ≤ (i : Int) := Int.natCast_nonneg i
  simp only [laws_heldRowS.l0]
  rw [if_pos hi0, if_pos hi1, markText_f m hm (by omega) k hk, at_S102 y i hi, hy]
  simp only [Option.bind_some, mkRow, e1, e2, e3, e4, e5, e6, e7, e8, e9, e10, ei, if_true, bne_self_eq_false, Bool.false_eq_true, if_false]
def markedRows (m : Int) (n : Nat) : List S102 := (List.range n).map fun j : Nat => mkRow (m + 10 * (j : Int))
theorem markRowS_l0 (d : Nat) : ∀ (k : Nat) (x : List S102) (m : Int) (i : Nat), i + d = x.length → x.length ≤ 140737488355328 → 0 ≤ m → m + 10 * d ≤ 4611686018427387904 → d + 101 < k →
    ∃ y, laws_markRowS.l0 k x m (i : Int) = some (m + 10 * d, y) ∧ y.length = x.length ∧ (∀ j, j < i → y[j]? = x[j]?) ∧ (∀ j, i ≤ j → j < x.length → y[j]? = some (mkRow (m + 10 * (j - i)))) := by
  induction d with
  | zero =>
    intro k x m i hd hn hm hm2 hk
    obtain ⟨k, rfl⟩ : ∃ m, k = m + 1 := ⟨k - 1, by omega⟩
    refine ⟨x, ?_, rfl, fun _ _ => rfl, fun j h1 h2 => by omega⟩
    simp only [laws_markRowS.l0]
    rw [if_neg (by omega)]
    simp
  | succ d ih =>
    intro k x m i hd hn hm hm2 hk
    obtain ⟨k, rfl⟩ : ∃ m, k = m + 1 := ⟨k - 1, by omega⟩
    obtain ⟨y, h1, h2, h3, h4⟩ := ih k (x.set i (mkRow m)) (m + 10) (i + 1) (by rw [List.length_set]; omega) (by rw [List.length_set]; omega) (by omega) (by omega) (by omega)
    rw [List.length_set] at h2 h4
    refine ⟨y, ?_, h2, fun j hj => ?_, fun j hj hj2 => ?_⟩
    · rw [markRow_step x m i k (by omega) hn hm (by omega) (by omega), h1]
      have : m + 10 + 10 * (d : Int) = m + 10 * ((d + 1 : Nat) : Int) := by omega
      rw [this]
    · rw [h3 j (by omega), List.getElem?_set_ne (by omega)]
    · by_cases e : j = i
      · subst e
        rw [h3 j (by omega), List.getElem?_set_self (by omega)]
        congr 2; omega
      · rw [h4 j (by omega) (by omega)]
        congr 2; omega
theorem heldRowS_l0 (y : List S102) (hn : y.length ≤ 140737488355328) (d : Nat) : ∀ (k : Nat) (m : Int) (i : Nat), i + d = y.length → 0 ≤ m → m + 10 * d ≤ 4611686018427387904 → d + 101 < k →
    (∀ j, i ≤ j → j < y.length → y[j]? = some (mkRow (m + 10 * (j - i)))) → laws_heldRowS.l0 k y m (i : Int) = some (m + 10 * d) := by
  induction d with
  | zero =>
    intro k m i hd hm hm2 hk h
    obtain ⟨k, rfl⟩ : ∃ m, k = m + 1 := ⟨k - 1, by omega⟩
    simp only [laws_heldRowS.l0]
    rw [if_neg (by omega)]
    simp
  | succ d ih =>
    intro k m i hd hm hm2 hk h
    obtain ⟨k, rfl⟩ : ∃ m, k = m + 1 := ⟨k - 1, by omega⟩
    have hi := h i (Nat.le_refl _) (by omega)
    rw [List.getElem?_eq_getElem (by omega)] at hi
    have hi2 := Option.some.inj hi
    have e0 : m + 10 * ((i : Int) - i) = m := by omega
    rw [e0] at hi2
    rw [heldRow_step y m i k (by omega) hi2 hn hm (by omega) (by omega)]
    rw [ih k (m + 10) (i + 1) (by omega) (by omega) (by omega) (by omega) (fun j h1 h2 => by rw [h j (by omega) h2]; congr 2; omega)]
    congr 1; omega
theorem markRowS_f (x : List S102) (hn : x.length ≤ 140737488355328) (m : Int) (hm : 0 ≤ m) (hm2 : m ≤ 140737488355328) (k : Nat) (hk : x.length + 101 < k) : laws_markRowS.f k x m = some (m + 10 * x.length, markedRows m x.length) := by
  obtain ⟨y, h1, h2, h3, h4⟩ := markRowS_l0 x.length k x m 0 (by omega) hn hm (by omega) hk
  have : y = markedRows m x.length := by
    refine List.ext_getElem? (fun j => ?_)
    by_cases hj : j < x.length
    · rw [h4 j (by omega) hj]
      simp [markedRows, hj]
    · rw [List.getElem?_eq_none (by omega), List.getElem?_eq_none (by simp [markedRows]; omega)]
  rw [← this]
  exact h1
theorem heldRowS_f (m : Int) (n : Nat) (hn : n ≤ 140737488355328) (hm : 0 ≤ m) (hm2 : m ≤ 140737488355328) (k : Nat) (hk : n + 101 < k) : laws_heldRowS.f k (markedRows m n) m = some (m + 10 * n) := by
  have hl : (markedRows m n).length = n := by simp [markedRows]
  have := heldRowS_l0 (markedRows m n) (by omega) n k m 0 (by omega) hm (by omega) hk (fun j a b => by rw [hl] at b; simp [markedRows, b])
  exact this
theorem markRowSS_go (l : List (List S102)) (hb : ∀ x ∈ l, x.length ≤ 1048576) (k : Nat) (hk : 1048700 < k) : ∀ (n : Nat) (m : Int), l.length ≤ n → n ≤ 1048576 → 0 ≤ m → m + 10485760 * n ≤ 140737488355328 → ∃ r y, laws_markRowSS.go k l m = some (r, y) ∧ 0 ≤ r := by
  induction l with
  | nil => intro n m _ _ hm _; exact ⟨m, [], rfl, hm⟩
  | cons x xs ih =>
    intro n m hl hn hm hm2
    obtain ⟨n, rfl⟩ : ∃ q, n = q + 1 := ⟨n - 1, by simp at hl; omega⟩
    have hx := hb x (by simp)
    obtain ⟨r, y, h1, h2⟩ := ih (fun z hz => hb z (by simp [hz])) n (m + 10 * x.length) (by simpa using hl) (by omega) (by omega) (by omega)
    refine ⟨r, markedRows m x.length :: y, ?_, h2⟩
    simp only [laws_markRowSS.go]
    rw [markRowS_f x (by omega) m hm (by omega) k (by omega)]
    simp only [Option.bind_some]
    rw [h1]
    rfl
theorem window_both (K : Nat) (hK : 2200000 < K) (cap first i : Int) (hi : (Lit.int .i64 i).wf = true) (l : List (List S102)) (hl : l.length ≤ 1048576) (hb : ∀ x ∈ l, x.length ≤ 1048576 ∧ ∀ y ∈ x, y.f0.size ≤ 1048576) (k : Nat) (hk : 3300000 < k) :
    ∃ (q : List S102) (b : Bool), spec_Window.f k cap first l i = some (q, b) ∧ impl_Window.f k cap first l i = some (q, b) ∧ q.length ≤ 1048576 := by
  obtain ⟨s1, s2⟩ := storeOk_both K hK cap first l hl hb k hk
  unfold spec_Window.f impl_Window.f
  rw [s1, s2]
  simp only [Option.bind_some]
  by_cases h : (l.all (repB K) && condB cap first (l.length : Int)) = true
  · rw [if_pos h, if_pos h, l1In_f, within_f]
    simp only [Option.bind_some]
    have hc : condB cap first (l.length : Int) = true := by
      rw [Bool.and_eq_true] at h
      exact h.2
    unfold condB at hc
    simp only [Bool.and_eq_true, decide_eq_true_eq] at hc
    obtain ⟨_, _, _, hf0, hf1, _⟩ := hc
    have e1 : wrap64 (wrap64 (first + (l.length : Int)) - 1) = first + (l.length : Int) - 1 := by
      rw [w64 (i := first + (l.length : Int)) (by omega) (by omega), w64 (by omega) (by omega)]
    rw [e1]
    by_cases hr : (decide (first ≤ i) && decide (i ≤ first + (l.length : Int) - 1)) = true
    · rw [if_pos hr, if_pos hr]
      rw [Bool.and_eq_true] at hr
      have r1 : first ≤ i := of_decide_eq_true hr.1
      have r2 : i ≤ first + (l.length : Int) - 1 := of_decide_eq_true hr.2
      obtain ⟨n, hn⟩ := Int.eq_ofNat_of_zero_le (show 0 ≤ i - first by omega)
      have hnl : n < l.length := by omega
      have e2 : wrap64 (i - first) = (n : Int) := by rw [w64 (by omega) (by omega)]; exact hn
      have hx := (hb _ (List.getElem_mem hnl)).1
      rw [e2, if_pos (by omega), if_pos (by omega), at_LS102 l n hnl, if_pos (by simp; omega)]
      refine ⟨l[n], true, by simp, ?_, hx⟩
      unfold impl_Row.f
      repeat rw [if_pos (by omega)]
      rfl
    · rw [if_neg hr, if_neg hr]
      exact ⟨[], false, rfl, rfl, by simp⟩
  · rw [if_neg h, if_neg h]
    exact ⟨[], false, rfl, rfl, by simp⟩
theorem FnExactWindow : FnExactWindowOwn := by
  intro cap first l i w0 w1 wl wi
  obtain ⟨y, hy⟩ : ∃ y : S38, y = ⟨cap, first, l⟩ := ⟨_, rfl⟩
  have hw : WfS38 y := by
    subst hy
    exact gwS38 _ ⟨w0, w1, wl⟩
  obtain ⟨r, ⟨K1, e1⟩, _, _, hb⟩ := szStore_ev y hw 1048576 (by omega) (by omega)
  by_cases hr : r < 0
  · refine ⟨K1, ?_⟩
    have q1 := e1 K1 (by omega)
    subst hy
    simp only at q1
    unfold laws_FnExactWindow.f
    exact if_pos (.inl ⟨r, q1, hr⟩)
  · have hb := hb (by omega)
    obtain ⟨K2, e2⟩ := toStore_ev y hb
    obtain ⟨K3, e3⟩ := eqStore_ev _ (toStore_wl y hb)
    have hl : (toStoreV y).f2.length ≤ 1048576 := by
      have := hb.1
      simpa [toStoreV, toRowSSV] using this
    have hk : ∀ x ∈ (toStoreV y).f2, x.length ≤ 1048576 ∧ ∀ z ∈ x, z.f0.size ≤ 1048576 := by
      intro x hx
      simp only [toStoreV, toRowSSV, List.mem_map] at hx
      obtain ⟨x0, hx0, rfl⟩ := hx
      have h2 := hb.2 x0 hx0
      refine ⟨by have := h2.1; simpa [toRowSV] using this, fun z hz => ?_⟩
      simp only [toRowSV, List.mem_map] at hz
      obtain ⟨z0, hz0, rfl⟩ := hz
      exact h2.2 z0 hz0
    obtain ⟨KA, hKA⟩ : ∃ q, q = K1 + K2 + K3 + 3300010 := ⟨_, rfl⟩
    obtain ⟨q, b, p1, p2, hq⟩ := window_both KA (by omega) (toStoreV y).f0 (toStoreV y).f1 i wi (toStoreV y).f2 hl hk KA (by omega)
    obtain ⟨K4, e4⟩ := eqRowS_ev q (by omega)
    obtain ⟨KK, hKK⟩ : ∃ q, q = KA + K4 := ⟨_, rfl⟩
    refine ⟨KK, ?_⟩
    have q1 := e1 KK (by omega)
    have q2 := e2 KK (by omega)
    have q3 := e3 KK (by omega)
    have q4 := e4 KK (by omega)
    have q5 := at_rounds (g := fun k => spec_Window.f k (toStoreV y).f0 (toStoreV y).f1 (toStoreV y).f2 i) (fun k => spec_Window.mono _ _ _ _ k) (show KA ≤ KK by omega) p1
    have q6 := at_rounds (g := fun k => impl_Window.f k (toStoreV y).f0 (toStoreV y).f1 (toStoreV y).f2 i) (fun k => impl_Window.mono _ _ _ _ k) (show KA ≤ KK by omega) p2
    obtain ⟨m1, xm, q7, hm1⟩ := markRowSS_go (toStoreV y).f2 (fun x hx => (hk x hx).1) KK (by omega) 1048576 1 hl (by omega) (by omega) (by omega)
    have q8 := markRowS_f q (by omega) 1 (by omega) (by omega) KK (by omega)
    have q9 := heldRowS_f 1 q.length (by omega) (by omega) (by omega) KK (by omega)
    have hy0 : y.f0 = cap ∧ y.f1 = first ∧ y.f2 = l := by subst hy; simp
    obtain ⟨g0, g1, g2⟩ := hy0
    simp only [g0, g1, g2] at q1 q2 q3
    unfold laws_FnExactWindow.f
    refine if_pos (.inr ⟨r, (toStoreV y).f0, (toStoreV y).f1, (toStoreV y).f2, q, b, m1, xm, 1 + 10 * q.length, markedRows 1 q.length, q1, by omega, q2, q5, q6, q4, q3, q7, hm1, q8, q9, by omega⟩)

end Go.Proofs.Ythhbgembnlpohaa.Pure
