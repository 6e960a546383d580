/- For every list of cells, ShowCells of the program answers what ShowCells of the reference answers (lists above 2^20 elements are let pass by the law itself). -/
import Derived.Test.YtkbhppjednooeaaQFnExactShowCellsx2
namespace Go.Proofs.Ytkbhppjednooeaa.Pure
open Go.RowKit Go.Proofs.Ytkbhppjednooeaa.QFnExactShowCells Go.Proofs.YtkbhppjednooeaaW.PrintWords Go.Proofs.YtkbhppjednooeaaW.PrintLast Go.Proofs.YtkbhppjednooeaaW.PrintMore
set_option linter.unusedVariables false
set_option linter.unusedSimpArgs false
def FnExactShowCellsOwn : Prop := ∀ (l0 : (List Int)), (l0.length ≤ maxLen ∧ ∀ y_l0 ∈ l0, (Lit.int .i64 y_l0).wf = true) → ∃ k, laws_FnExactShowCells.f k l0 = some true
theorem w64 {i : Int} (h : -9223372036854775808 ≤ i) (h2 : i ≤ 9223372036854775807) : wrap64 i = i := by
  unfold wrap64
  omega
theorem rd_at (x : List Int) (i : Nat) (h : i < x.length) : rd x (i : Int) = x[i] := by
  unfold rd
  rw [Int.toNat_natCast, List.getD_eq_getElem?_getD, List.getElem?_eq_getElem h]
  rfl
theorem succ_cast (i : Nat) : ((i : Int) + 1) = ((i + 1 : Nat) : Int) := by omega
theorem take_succ_ext {α : Type} (a b : List α) (i : Nat) (ha : i < a.length) (hb : i < b.length) (ht : a.take i = b.take i) (he : a[i] = b[i]) : a.take (i + 1) = b.take (i + 1) := by
  rw [List.take_succ_eq_append_getElem ha, List.take_succ_eq_append_getElem hb, ht, he]
theorem l1In_f (x a b : Int) : spec_l1In.f x a b = some (decide (a ≤ x) && decide (x ≤ b)) := by
  unfold spec_l1In.f
  by_cases h : x ≥ a
  · rw [if_pos h]
    have h2 : a ≤ x := h
    simp [h2]
  · rw [if_neg h]
    have h2 : ¬ a ≤ x := h
    simp [h2]
theorem within_f (x a b : Int) : impl_within.f x a b = some (decide (a ≤ x) && decide (x ≤ b)) := by
  unfold impl_within.f
  by_cases h : a ≤ x <;> simp [h]
theorem toIntS_l0 (l : List Int) (hn : l.length ≤ 35184372088832) (d : Nat) : ∀ (k : Nat) (out : List Int) (i : Nat), i + d = l.length → d < k → out.length = l.length → out.take i = l.take i → laws_toIntS.l0 k l out (i : Int) = some l := by
  induction d with
  | zero =>
    intro k out i hd hk ho ht
    obtain ⟨k, rfl⟩ : ∃ m, k = m + 1 := ⟨k - 1, by omega⟩
    simp only [laws_toIntS.l0]
    rw [if_neg (by omega)]
    have h1 : out.take i = out := List.take_of_length_le (by omega)
    have h2 : l.take i = l := List.take_of_length_le (by omega)
    rw [← h1, ht, h2]
  | succ d ih =>
    intro k out i hd hk ho ht
    obtain ⟨k, rfl⟩ : ∃ m, k = m + 1 := ⟨k - 1, by omega⟩
    simp only [laws_toIntS.l0]
    rw [if_pos (by omega), if_pos (by omega), if_pos (by omega), w64 (by omega) (by omega), succ_cast, rd_at l i (by omega), Int.toNat_natCast]
    refine ih k _ (i + 1) (by omega) (by omega) (by rw [List.length_set]; exact ho) ?_
    refine take_succ_ext _ _ i (by rw [List.length_set]; omega) (by omega) ?_ (by simp)
    rw [List.take_set_of_le (Nat.le_refl _)]
    exact ht
theorem toIntS_f (l : List Int) (hn : l.length ≤ 35184372088832) (k : Nat) (hk : l.length < k) : laws_toIntS.f k l = some l := by
  unfold laws_toIntS.f
  rw [if_pos (by omega), if_pos (by omega)]
  exact toIntS_l0 l hn l.length k _ 0 (by omega) hk (by simp) (by simp)
theorem eqIntS_l0 (a b : List Int) (hn : a.length ≤ 140737488355328) (hab : a.length = b.length) (d : Nat) : ∀ (k i : Nat), i + d = a.length → d < k → laws_eqIntS.l0 k a b (i : Int) = some (decide (a.drop i = b.drop i)) := by
  induction d with
  | zero =>
    intro k i hd hk
    obtain ⟨k, rfl⟩ : ∃ m, k = m + 1 := ⟨k - 1, by omega⟩
    simp only [laws_eqIntS.l0]
    rw [if_neg (by omega), List.drop_of_length_le (by omega), List.drop_of_length_le (by omega)]
    rfl
  | succ d ih =>
    intro k i hd hk
    obtain ⟨k, rfl⟩ : ∃ m, k = m + 1 := ⟨k - 1, by omega⟩
    simp only [laws_eqIntS.l0]
    rw [if_pos (by omega), if_pos (by omega), if_pos (by omega), rd_at a i (by omega), rd_at b i (by omega), w64 (by omega) (by omega), succ_cast]
    have ea : a.drop i = a[i] :: a.drop (i + 1) := List.drop_eq_getElem_cons (by omega)
    have eb : b.drop i = b[i] :: b.drop (i + 1) := List.drop_eq_getElem_cons (by omega)
    by_cases h : a[i] = b[i]
    · rw [if_pos h, ih k (i + 1) (by omega) (by omega), ea, eb]
      simp only [h, List.cons.injEq, true_and]
    · rw [if_neg h, ea, eb]
      simp only [h, List.cons.injEq, false_and, decide_false]
theorem eqIntS_f (a b : List Int) (hn : a.length ≤ 140737488355328) (k : Nat) (hk : a.length < k) : laws_eqIntS.f k a b = some (decide (a = b)) := by
  unfold laws_eqIntS.f
  by_cases h : a.length = b.length
  · rw [if_pos (by omega)]
    have := eqIntS_l0 a b hn h a.length k 0 (by omega) hk
    simpa using this
  · rw [if_neg (by omega)]
    have : a ≠ b := fun e => h (by rw [e])
    simp [this]
def isWordB (n : Int) : Bool := decide (0 ≤ n) && decide (n ≤ 281474976710655)
def cellsOkB (l : List Int) : Bool := l.all isWordB && decide (l.length = 71)
theorem specCO_l0 (x : List Int) (hn : x.length ≤ 140737488355328) (d : Nat) : ∀ (k i : Nat), i + d = x.length → d < k → spec_CellsOk.l0 k x (i : Int) = some ((x.drop i).all isWordB && decide (x.length = 71)) := by
  induction d with
  | zero =>
    intro k i hd hk
    obtain ⟨k, rfl⟩ : ∃ m, k = m + 1 := ⟨k - 1, by omega⟩
    simp only [spec_CellsOk.l0]
    rw [if_neg (by omega), List.drop_of_length_le (by omega)]
    have : ((x.length : Int) == 71) = decide (x.length = 71) := by
      by_cases h : x.length = 71
      · simp [h]
      · have h2 : ¬ (x.length : Int) = 71 := by omega
        simp [h, h2]
    rw [this]
    simp
  | succ d ih =>
    intro k i hd hk
    obtain ⟨k, rfl⟩ : ∃ m, k = m + 1 := ⟨k - 1, by omega⟩
    simp only [spec_CellsOk.l0]
    rw [if_pos (by omega), if_pos (by omega), rd_at x i (by omega), l1In_f, Option.bind_some, w64 (by omega) (by omega), succ_cast, ih k (i + 1) (by omega) (by omega), List.drop_eq_getElem_cons (show i < x.length by omega)]
    have : (decide (0 ≤ x[i]) && decide (x[i] ≤ 281474976710655)) = isWordB x[i] := rfl
    rw [this, List.all_cons]
    cases isWordB x[i] <;> simp
theorem specCO_f (x : List Int) (hn : x.length ≤ 140737488355328) (k : Nat) (hk : x.length < k) : spec_CellsOk.f k x = some (cellsOkB x) := by
  have := specCO_l0 x hn x.length k 0 (by omega) hk
  unfold spec_CellsOk.f cellsOkB
  simpa using this
theorem cellsOk_len {l : List Int} (h : cellsOkB l = true) : l.length = 71 := by
  unfold cellsOkB at h
  simp only [Bool.and_eq_true, decide_eq_true_eq] at h
  exact h.2
theorem implCO_f (l : List Int) : impl_CellsOk.f l = some (cellsOkB l) := by
  unfold impl_CellsOk.f cellsOkB
  have : (!l.any impl_CellsOk.g) = l.all isWordB := by
    rw [List.not_any_eq_all_not]
    congr 1
    funext x
    simp [impl_CellsOk.g, isWordB]
  rw [this, Bool.and_comm]
/-- The w bytes of n, the highest first. -/
def be : Nat → Int → List Int
  | 0, _ => []
  | w + 1, n => be w (n / 256) ++ [n % 256]
theorem be_length (w : Nat) : ∀ n, (be w n).length = w := by
  induction w with
  | zero => intro n; rfl
  | succ w ih => intro n; simp [be, ih]
theorem son_append (a b : List Int) : strOfNums (a ++ b) = strOfNums a ++ strOfNums b := by
  unfold strOfNums
  apply ByteArray.ext
  simp [ByteArray.data_append]
theorem son_size (a : List Int) : (strOfNums a).size = a.length := by
  unfold strOfNums
  simp [ByteArray.size]
theorem implFixed_l0 (d : Nat) : ∀ (k : Nat) (n : Int) (done : List Int), d ≤ 100 → d < k → impl_Fixed.l0 k n (List.replicate d 0 ++ done) ((d : Int) - 1) = some (strOfNums (be d n ++ done)) := by
  induction d with
  | zero =>
    intro k n done hd hk
    obtain ⟨k, rfl⟩ : ∃ m, k = m + 1 := ⟨k - 1, by omega⟩
    simp only [impl_Fixed.l0]
    rw [if_neg (by omega)]
    rfl
  | succ d ih =>
    intro k n done hd hk
    obtain ⟨k, rfl⟩ : ∃ m, k = m + 1 := ⟨k - 1, by omega⟩
    simp only [impl_Fixed.l0]
    rw [if_pos (by omega), if_pos (by omega), if_pos (by simp; omega), w64 (by omega) (by omega)]
    have e1 : ((d + 1 : Nat) : Int) - 1 = (d : Int) := by omega
    rw [e1, Int.toNat_natCast]
    have e2 : (List.replicate (d + 1) (0 : Int) ++ done).set d (n % 256) = List.replicate d 0 ++ (n % 256 :: done) := by
      rw [List.replicate_succ', List.append_assoc, List.set_append_right _ _ (by simp)]
      simp
    rw [e2, ih k (n / 256) (n % 256 :: done) (by omega) (by omega)]
    simp [be]
theorem specFixed_l0 (w : Nat) (hw : w ≤ 7) (d : Nat) : ∀ (k : Nat) (n : Int) (out : ByteArray) (j : Nat), j + d = w → 0 ≤ n → n ≤ 9223372036854775807 → out.size = j → d < k →
    spec_Fixed.l0 k n (w : Int) out (j : Int) = some (if n / 256 ^ d > 0 then (⟨#[]⟩ : ByteArray) else strOfNums (be d n) ++ out) := by
  induction d with
  | zero =>
    intro k n out j hd h0 h1 ho hk
    obtain ⟨k, rfl⟩ : ∃ m, k = m + 1 := ⟨k - 1, by omega⟩
    simp only [spec_Fixed.l0]
    rw [if_neg (by omega)]
    have e : n / 256 ^ 0 = n := by simp
    have e2 : strOfNums (be 0 n) ++ out = out := by
      have : strOfNums (be 0 n) = ByteArray.empty := rfl
      rw [this, ByteArray.empty_append]
    rw [e, e2]
    split <;> rfl
  | succ d ih =>
    intro k n out j hd h0 h1 ho hk
    obtain ⟨k, rfl⟩ : ∃ m, k = m + 1 := ⟨k - 1, by omega⟩
    have t1 : Int.tmod n 256 = n % 256 := Int.tmod_eq_emod_of_nonneg h0
    have t2 : Int.tdiv n 256 = n / 256 := Int.tdiv_eq_ediv_of_nonneg h0
    have t3 : n % 256 % 256 = n % 256 := by omega
    have hs : (strOfNums [n % 256]).size = 1 := son_size _
    simp only [spec_Fixed.l0]
    rw [if_pos (by omega), t1, t2, t3, Option.bind_some, if_pos (by omega), w64 (i := n / 256) (by omega) (by omega), w64 (by omega) (by omega), succ_cast]
    have hs2 : (strOfNums [n % 256] ++ out).size = j + 1 := by
      rw [ByteArray.size_append, hs, ho]
      omega
    rw [ih k (n / 256) _ (j + 1) (by omega) (by omega) (by omega) hs2 (by omega)]
    have e : n / 256 / 256 ^ d = n / 256 ^ (d + 1) := by
      rw [Int.ediv_ediv_of_nonneg (by omega)]
      congr 1
      rw [Int.pow_succ, Int.mul_comm]
    rw [e, be, son_append, ByteArray.append_assoc]
/-- What Fixed answers at a width from 1 to 7. -/
def fixedB (n : Int) (w : Nat) : ByteArray := if n < 0 then ⟨#[]⟩ else if n / 256 ^ w > 0 then ⟨#[]⟩ else strOfNums (be w n)
theorem specFixed_f (n : Int) (w : Nat) (h1 : 1 ≤ w) (hw : w ≤ 7) (hn : n ≤ 9223372036854775807) (k : Nat) (hk : 20 < k) : spec_Fixed.f k n (w : Int) = some (fixedB n w) := by
  unfold spec_Fixed.f fixedB
  obtain ⟨k, rfl⟩ : ∃ m, k = m + 1 := ⟨k - 1, by omega⟩
  rw [l1In_f, Option.bind_some, if_pos (by simp; omega)]
  simp only [spec_Fixed.j0]
  by_cases h : n < 0
  · rw [if_pos (by simp; omega), if_pos h]
  · rw [if_neg (by simp; omega), if_neg h]
    have := specFixed_l0 w hw w k n ⟨#[]⟩ 0 (by omega) (by omega) hn rfl (by omega)
    have e0 : spec_Fixed.l0 k n (w : Int) (⟨#[]⟩ : ByteArray) 0 = spec_Fixed.l0 k n (w : Int) (⟨#[]⟩ : ByteArray) ((0 : Nat) : Int) := rfl
    rw [e0, this]
    have : strOfNums (be w n) ++ (⟨#[]⟩ : ByteArray) = strOfNums (be w n) := ByteArray.append_empty
    rw [this]
theorem pow256 (w : Nat) : (2 : Int) ^ (8 * w) = 256 ^ w := by
  rw [Int.pow_mul]
  rfl
theorem implFixed_f (n : Int) (w : Nat) (h1 : 1 ≤ w) (hw : w ≤ 7) (k : Nat) (hk : 20 < k) : impl_Fixed.f k n (w : Int) = some (fixedB n w) := by
  unfold impl_Fixed.f fixedB
  obtain ⟨k, rfl⟩ : ∃ m, k = m + 1 := ⟨k - 1, by omega⟩
  rw [within_f, Option.bind_some, if_pos (by simp; omega)]
  by_cases h : n < 0
  · rw [if_pos h, if_pos h]
    simp only [impl_Fixed.j0]
    rfl
  · rw [if_neg h, if_neg h, w64 (by omega) (by omega), if_pos (by omega)]
    have hs : shr .i64 n (8 * (w : Int)) = n / 256 ^ w := by
      unfold shr
      have e1 : (8 * (w : Int)).toNat = 8 * w := by omega
      have e2 : IntKind.bits .i64 = 64 := rfl
      rw [e1, e2, Nat.min_eq_left (by omega), pow256]
    have hnn : 0 ≤ n / 256 ^ w := Int.ediv_nonneg (by omega) (Int.pow_nonneg (by omega))
    rw [hs]
    simp only [impl_Fixed.j0]
    by_cases h2 : n / 256 ^ w > 0
    · have : (n / 256 ^ w != 0) = true := by simp; omega
      rw [this, if_pos rfl, if_pos h2]
    · have : (n / 256 ^ w != 0) = false := by simp; omega
      rw [this, if_neg (by simp), if_neg h2, if_pos (by omega), if_pos (by omega), w64 (by omega) (by omega), Int.toNat_natCast]
      have := implFixed_l0 w k n [] (by omega) (by omega)
      simpa using this
theorem fixedB_size (n : Int) (w : Nat) : (fixedB n w).size ≤ w := by
  unfold fixedB
  split
  · exact Nat.zero_le _
  · split
    · exact Nat.zero_le _
    · rw [son_size, be_length]
      exact Nat.le_refl _
/-- The cells from place i on, d of them, behind what is there. -/
def showFrom (x : List Int) : Nat → Nat → ByteArray → ByteArray
  | 0, _, s => s
  | d + 1, i, s => showFrom x d (i + 1) (s ++ fixedB (rd x (i : Int)) 6)
theorem rd_wf {x : List Int} (hx : x.all isWordB = true) (i : Nat) (h : i < x.length) : 0 ≤ rd x (i : Int) ∧ rd x (i : Int) ≤ 281474976710655 := by
  rw [rd_at x i h]
  have := List.all_eq_true.mp hx _ (List.getElem_mem h)
  simp only [isWordB, Bool.and_eq_true, decide_eq_true_eq] at this
  exact this
theorem specSC_l0 (x : List Int) (hx : cellsOkB x = true) (d : Nat) : ∀ (k : Nat) (s : ByteArray) (i : Nat), i + d = 71 → s.size ≤ 6 * i → d + 100 < k → spec_ShowCells.l0 k x s (i : Int) = some (showFrom x d i s) := by
  have hl := cellsOk_len hx
  have hw : x.all isWordB = true := by
    unfold cellsOkB at hx
    simp only [Bool.and_eq_true] at hx
    exact hx.1
  induction d with
  | zero =>
    intro k s i hd hs hk
    obtain ⟨k, rfl⟩ : ∃ m, k = m + 1 := ⟨k - 1, by omega⟩
    simp only [spec_ShowCells.l0, showFrom]
    rw [if_neg (by omega)]
  | succ d ih =>
    intro k s i hd hs hk
    obtain ⟨k, rfl⟩ : ∃ m, k = m + 1 := ⟨k - 1, by omega⟩
    have hr := rd_wf hw i (by omega)
    have hz := fixedB_size (rd x (i : Int)) 6
    have hf := specFixed_f (rd x (i : Int)) 6 (by omega) (by omega) (by omega) k (by omega)
    simp only [spec_ShowCells.l0, showFrom]
    rw [if_pos (by omega), specCO_f x (by omega) _ (by omega), Option.bind_some, hx, if_pos rfl, if_pos (by omega)]
    have hf2 : spec_Fixed.f k (rd x (i : Int)) 6 = some (fixedB (rd x (i : Int)) 6) := hf
    rw [hf2, Option.bind_some, if_pos (by omega), w64 (by omega) (by omega), succ_cast]
    exact ih k _ (i + 1) (by omega) (by rw [ByteArray.size_append]; omega) (by omega)
theorem implSC_l0 (x : List Int) (hl : x.length = 71) (d : Nat) : ∀ (k : Nat) (s : ByteArray) (i : Nat), i + d = 71 → s.size ≤ 6 * i → d + 100 < k → impl_ShowCells.l0 k s x (x.length : Int) (i : Int) = some (showFrom x d i s) := by
  induction d with
  | zero =>
    intro k s i hd hs hk
    obtain ⟨k, rfl⟩ : ∃ m, k = m + 1 := ⟨k - 1, by omega⟩
    simp only [impl_ShowCells.l0, showFrom]
    rw [if_neg (by omega)]
  | succ d ih =>
    intro k s i hd hs hk
    obtain ⟨k, rfl⟩ : ∃ m, k = m + 1 := ⟨k - 1, by omega⟩
    have hz := fixedB_size (rd x (i : Int)) 6
    have hf2 : impl_Fixed.f k (rd x (i : Int)) 6 = some (fixedB (rd x (i : Int)) 6) := implFixed_f (rd x (i : Int)) 6 (by omega) (by omega) k (by omega)
    simp only [impl_ShowCells.l0, showFrom]
    rw [if_pos (by omega), if_pos (by omega), if_pos (by omega), hf2, Option.bind_some, if_pos (by omega), w64 (by omega) (by omega), succ_cast]
    exact ih k _ (i + 1) (by omega) (by rw [ByteArray.size_append]; omega) (by omega)
theorem showCells_both (x : List Int) (hn : x.length ≤ 1048576) (k : Nat) (hk : 1048700 < k) : ∃ s, spec_ShowCells.f k x = some s ∧ impl_ShowCells.f k x = some s := by
  unfold spec_ShowCells.f impl_ShowCells.f
  rw [implCO_f, Option.bind_some]
  cases hx : cellsOkB x
  · refine ⟨⟨#[]⟩, ?_, if_neg (by simp)⟩
    obtain ⟨k, rfl⟩ : ∃ m, k = m + 1 := ⟨k - 1, by omega⟩
    simp only [spec_ShowCells.l0]
    split
    · rw [specCO_f x (by omega) _ (by omega), Option.bind_some, hx]
      rfl
    · rfl
  · refine ⟨showFrom x 71 0 ⟨#[]⟩, specSC_l0 x hx 71 k _ 0 (by omega) (by decide) (by omega), ?_⟩
    rw [if_pos rfl]
    exact implSC_l0 x (cellsOk_len hx) 71 k _ 0 (by omega) (by decide) (by omega)
theorem FnExactShowCells : FnExactShowCellsOwn := by
  intro l _
  refine ⟨1048800, ?_⟩
  unfold laws_FnExactShowCells.f
  by_cases h : (l.length : Int) > 1048576
  · rw [if_pos h]
  · rw [if_neg h, toIntS_f l (by omega) _ (by omega)]
    simp only [Option.bind_some]
    obtain ⟨s, h1, h2⟩ := showCells_both l (by omega) 1048800 (by omega)
    rw [h1, h2]
    simp only [Option.bind_some]
    rw [if_pos trivial, eqIntS_f l l (by omega) _ (by omega)]
    simp

end Go.Proofs.Ytkbhppjednooeaa.Pure
