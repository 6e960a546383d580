/- For every list of cells, FreeSlots of the program answers what FreeSlots of the reference answers (lists above 2^20 elements are let pass by the law itself). -/
import Derived.Test.YtkbhppjednooeaaQFnExactFreeSlotsx2
namespace Go.Proofs.Ytkbhppjednooeaa.Pure
open Go.RowKit Go.Proofs.Ytkbhppjednooeaa.QFnExactFreeSlots Go.Proofs.YtkbhppjednooeaaW.PrintWords Go.Proofs.YtkbhppjednooeaaW.PrintLast Go.Proofs.YtkbhppjednooeaaW.PrintMore
set_option linter.unusedVariables false
set_option linter.unusedSimpArgs false
def FnExactFreeSlotsOwn : Prop := ∀ (l0 : (List Int)), (l0.length ≤ maxLen ∧ ∀ y_l0 ∈ l0, (Lit.int .i64 y_l0).wf = true) → ∃ k, laws_FnExactFreeSlots.f k l0 = some true
theorem w64 {i : Int} (h : -9223372036854775808 ≤ i) (h2 : i ≤ 9223372036854775807) : wrap64 i = i := by
  unfold wrap64
  omega
theorem rd_at (x : List Int) (i : Nat) (h : i < x.length) : rd x (i : Int) = x[i] := by
  unfold rd
  rw [Int.toNat_natCast, List.getD_eq_getElem?_getD, List.getElem?_eq_getElem h]
  rfl
theorem succ_cast (i : Nat) : ((i : Int) + 1) = ((i + 1 : Nat) : Int) := by omega
theorem take_succ_ext {α : Type} (a b : List α) (i : Nat) (ha : i < a.length) (hb : i < b.length) (ht : a.take i = b.take i) (he : a[i] = b[i]) : a.take (i + 1) = b.take (i + 1) := by
  rw [List.take_succ_eq_append_getElem ha, List.take_succ_eq_append_getElem hb, ht, he]
theorem l1In_f (x a b : Int) : spec_l1In.f x a b = some (decide (a ≤ x) && decide (x ≤ b)) := by
  unfold spec_l1In.f
  by_cases h : x ≥ a
  · rw [if_pos h]
    have h2 : a ≤ x := h
    simp [h2]
  · rw [if_neg h]
    have h2 : ¬ a ≤ x := h
    simp [h2]
theorem within_f (x a b : Int) : impl_within.f x a b = some (decide (a ≤ x) && decide (x ≤ b)) := by
  unfold impl_within.f
  by_cases h : a ≤ x <;> simp [h]
theorem toIntS_l0 (l : List Int) (hn : l.length ≤ 35184372088832) (d : Nat) : ∀ (k : Nat) (out : List Int) (i : Nat), i + d = l.length → d < k → out.length = l.length → out.take i = l.take i → laws_toIntS.l0 k l out (i : Int) = some l := by
  induction d with
  | zero =>
    intro k out i hd hk ho ht
    obtain ⟨k, rfl⟩ : ∃ m, k = m + 1 := ⟨k - 1, by omega⟩
    simp only [laws_toIntS.l0]
    rw [if_neg (by omega)]
    have h1 : out.take i = out := List.take_of_length_le (by omega)
    have h2 : l.take i = l := List.take_of_length_le (by omega)
    rw [← h1, ht, h2]
  | succ d ih =>
    intro k out i hd hk ho ht
    obtain ⟨k, rfl⟩ : ∃ m, k = m + 1 := ⟨k - 1, by omega⟩
    simp only [laws_toIntS.l0]
    rw [if_pos (by omega), if_pos (by omega), if_pos (by omega), w64 (by omega) (by omega), succ_cast, rd_at l i (by omega), Int.toNat_natCast]
    refine ih k _ (i + 1) (by omega) (by omega) (by rw [List.length_set]; exact ho) ?_
    refine take_succ_ext _ _ i (by rw [List.length_set]; omega) (by omega) ?_ (by simp)
    rw [List.take_set_of_le (Nat.le_refl _)]
    exact ht
theorem toIntS_f (l : List Int) (hn : l.length ≤ 35184372088832) (k : Nat) (hk : l.length < k) : laws_toIntS.f k l = some l := by
  unfold laws_toIntS.f
  rw [if_pos (by omega), if_pos (by omega)]
  exact toIntS_l0 l hn l.length k _ 0 (by omega) hk (by simp) (by simp)
theorem eqIntS_l0 (a b : List Int) (hn : a.length ≤ 140737488355328) (hab : a.length = b.length) (d : Nat) : ∀ (k i : Nat), i + d = a.length → d < k → laws_eqIntS.l0 k a b (i : Int) = some (decide (a.drop i = b.drop i)) := by
  induction d with
  | zero =>
    intro k i hd hk
    obtain ⟨k, rfl⟩ : ∃ m, k = m + 1 := ⟨k - 1, by omega⟩
    simp only [laws_eqIntS.l0]
    rw [if_neg (by omega), List.drop_of_length_le (by omega), List.drop_of_length_le (by omega)]
    rfl
  | succ d ih =>
    intro k i hd hk
    obtain ⟨k, rfl⟩ : ∃ m, k = m + 1 := ⟨k - 1, by omega⟩
    simp only [laws_eqIntS.l0]
    rw [if_pos (by omega), if_pos (by omega), if_pos (by omega), rd_at a i (by omega), rd_at b i (by omega), w64 (by omega) (by omega), succ_cast]
    have ea : a.drop i = a[i] :: a.drop (i + 1) := List.drop_eq_getElem_cons (by omega)
    have eb : b.drop i = b[i] :: b.drop (i + 1) := List.drop_eq_getElem_cons (by omega)
    by_cases h : a[i] = b[i]
    · rw [if_pos h, ih k (i + 1) (by omega) (by omega), ea, eb]
      simp only [h, List.cons.injEq, true_and]
    · rw [if_neg h, ea, eb]
      simp only [h, List.cons.injEq, false_and, decide_false]
theorem eqIntS_f (a b : List Int) (hn : a.length ≤ 140737488355328) (k : Nat) (hk : a.length < k) : laws_eqIntS.f k a b = some (decide (a = b)) := by
  unfold laws_eqIntS.f
  by_cases h : a.length = b.length
  · rw [if_pos (by omega)]
    have := eqIntS_l0 a b hn h a.length k 0 (by omega) hk
    simpa using this
  · rw [if_neg (by omega)]
    have : a ≠ b := fun e => h (by rw [e])
    simp [this]
def isWordB (n : Int) : Bool := decide (0 ≤ n) && decide (n ≤ 281474976710655)
def cellsOkB (l : List Int) : Bool := l.all isWordB && decide (l.length = 71)
theorem specCO_l0 (x : List Int) (hn : x.length ≤ 140737488355328) (d : Nat) : ∀ (k i : Nat), i + d = x.length → d < k → spec_CellsOk.l0 k x (i : Int) = some ((x.drop i).all isWordB && decide (x.length = 71)) := by
  induction d with
  | zero =>
    intro k i hd hk
    obtain ⟨k, rfl⟩ : ∃ m, k = m + 1 := ⟨k - 1, by omega⟩
    simp only [spec_CellsOk.l0]
    rw [if_neg (by omega), List.drop_of_length_le (by omega)]
    have : ((x.length : Int) == 71) = decide (x.length = 71) := by
      by_cases h : x.length = 71
      · simp [h]
      · have h2 : ¬ (x.length : Int) = 71 := by omega
        simp [h, h2]
    rw [this]
    simp
  | succ d ih =>
    intro k i hd hk
    obtain ⟨k, rfl⟩ : ∃ m, k = m + 1 := ⟨k - 1, by omega⟩
    simp only [spec_CellsOk.l0]
    rw [if_pos (by omega), if_pos (by omega), rd_at x i (by omega), l1In_f, Option.bind_some, w64 (by omega) (by omega), succ_cast, ih k (i + 1) (by omega) (by omega), List.drop_eq_getElem_cons (show i < x.length by omega)]
    have : (decide (0 ≤ x[i]) && decide (x[i] ≤ 281474976710655)) = isWordB x[i] := rfl
    rw [this, List.all_cons]
    cases isWordB x[i] <;> simp
theorem specCO_f (x : List Int) (hn : x.length ≤ 140737488355328) (k : Nat) (hk : x.length < k) : spec_CellsOk.f k x = some (cellsOkB x) := by
  have := specCO_l0 x hn x.length k 0 (by omega) hk
  unfold spec_CellsOk.f cellsOkB
  simpa using this
theorem cellsOk_len {l : List Int} (h : cellsOkB l = true) : l.length = 71 := by
  unfold cellsOkB at h
  simp only [Bool.and_eq_true, decide_eq_true_eq] at h
  exact h.2
theorem implCO_f (l : List Int) : impl_CellsOk.f l = some (cellsOkB l) := by
  unfold impl_CellsOk.f cellsOkB
  have : (!l.any impl_CellsOk.g) = l.all isWordB := by
    rw [List.not_any_eq_all_not]
    congr 1
    funext x
    simp [impl_CellsOk.g, isWordB]
  rw [this, Bool.and_comm]
theorem specKeyCell_f (i : Int) (h0 : 0 ≤ i) (h1 : i < 4) : spec_KeyCell.f i = some (3 + i) := by
  unfold spec_KeyCell.f
  rw [l1In_f, Option.bind_some, if_pos (by simp; omega), w64 (by omega) (by omega)]
theorem implKeyCell_f (i : Int) (h0 : 0 ≤ i) (h1 : i < 4) : impl_KeyCell.f i = some (3 + i) := by
  unfold impl_KeyCell.f
  rw [within_f, Option.bind_some, if_pos (by simp; omega), w64 (by omega) (by omega)]
/-- The free slots from slot i on, d of them looked at, n counted before. -/
def freeFrom (x : List Int) : Nat → Int → Int → Int
  | 0, _, n => n
  | d + 1, i, n => if rd x (3 + i) = 0 then freeFrom x d (i + 1) (n + 1) else freeFrom x d (i + 1) n
theorem specFS_l0 (x : List Int) (hx : cellsOkB x = true) (d : Nat) : ∀ (k : Nat) (n i : Int), 0 ≤ i → i + d = 4 → 0 ≤ n → n ≤ i → 2 * d + 80 < k → spec_FreeSlots.l0 k x n i = some (freeFrom x d i n) := by
  have hl := cellsOk_len hx
  induction d with
  | zero =>
    intro k n i h0 hd hn hn2 hk
    obtain ⟨k, rfl⟩ : ∃ m, k = m + 2 := ⟨k - 2, by omega⟩
    simp only [spec_FreeSlots.l0]
    rw [if_neg (by omega)]
    simp only [spec_FreeSlots.j1, freeFrom]
    simp
  | succ d ih =>
    intro k n i h0 hd hn hn2 hk
    obtain ⟨k, rfl⟩ : ∃ m, k = m + 2 := ⟨k - 2, by omega⟩
    simp only [spec_FreeSlots.l0]
    rw [if_pos (by omega), specCO_f x (by omega) _ (by omega), Option.bind_some, hx]
    simp only [spec_FreeSlots.j1, freeFrom]
    rw [if_pos trivial, specKeyCell_f i h0 (by omega), Option.bind_some, if_pos (by omega), if_pos (by omega), w64 (i := i + 1) (by omega) (by omega), w64 (i := n + 1) (by omega) (by omega)]
    by_cases h : rd x (3 + i) = 0
    · rw [if_pos h, if_pos h]
      exact ih k (n + 1) (i + 1) (by omega) (by omega) (by omega) (by omega) (by omega)
    · rw [if_neg h, if_neg h]
      exact ih k n (i + 1) (by omega) (by omega) (by omega) (by omega) (by omega)
theorem implFS_l0 (x : List Int) (hl : x.length = 71) (d : Nat) : ∀ (k : Nat) (n i : Int), 0 ≤ i → i + d = 4 → 0 ≤ n → n ≤ i → d < k → impl_FreeSlots.l0 k x n i = some (freeFrom x d i n) := by
  induction d with
  | zero =>
    intro k n i h0 hd hn hn2 hk
    obtain ⟨k, rfl⟩ : ∃ m, k = m + 1 := ⟨k - 1, by omega⟩
    simp only [impl_FreeSlots.l0, freeFrom]
    rw [if_neg (by omega)]
  | succ d ih =>
    intro k n i h0 hd hn hn2 hk
    obtain ⟨k, rfl⟩ : ∃ m, k = m + 1 := ⟨k - 1, by omega⟩
    simp only [impl_FreeSlots.l0, freeFrom]
    rw [if_pos (by omega), implKeyCell_f i h0 (by omega), Option.bind_some, if_pos (by omega), if_pos (by omega), w64 (i := i + 1) (by omega) (by omega), w64 (i := n + 1) (by omega) (by omega)]
    by_cases h : rd x (3 + i) = 0
    · rw [if_pos h, if_pos h]
      exact ih k (n + 1) (i + 1) (by omega) (by omega) (by omega) (by omega) (by omega)
    · rw [if_neg h, if_neg h]
      exact ih k n (i + 1) (by omega) (by omega) (by omega) (by omega) (by omega)
theorem freeSlots_both (x : List Int) (hn : x.length ≤ 1048576) (k : Nat) (hk : 1048700 < k) : ∃ n, spec_FreeSlots.f k x = some n ∧ impl_FreeSlots.f k x = some n := by
  unfold spec_FreeSlots.f impl_FreeSlots.f
  rw [implCO_f, Option.bind_some]
  cases hx : cellsOkB x
  · refine ⟨0, ?_, if_neg (by simp)⟩
    obtain ⟨k, rfl⟩ : ∃ m, k = m + 2 := ⟨k - 2, by omega⟩
    simp only [spec_FreeSlots.l0]
    rw [if_pos (by omega), specCO_f x (by omega) _ (by omega), Option.bind_some, hx]
    simp only [spec_FreeSlots.j1]
    simp
  · refine ⟨freeFrom x 4 0 0, specFS_l0 x hx 4 k 0 0 (by omega) (by omega) (by omega) (by omega) (by omega), ?_⟩
    rw [if_pos rfl]
    exact implFS_l0 x (cellsOk_len hx) 4 k 0 0 (by omega) (by omega) (by omega) (by omega) (by omega)
theorem FnExactFreeSlots : FnExactFreeSlotsOwn := by
  intro l _
  refine ⟨1048800, ?_⟩
  unfold laws_FnExactFreeSlots.f
  by_cases h : (l.length : Int) > 1048576
  · rw [if_pos h]
  · rw [if_neg h, toIntS_f l (by omega) _ (by omega)]
    simp only [Option.bind_some]
    obtain ⟨n, h1, h2⟩ := freeSlots_both l (by omega) 1048800 (by omega)
    rw [h1, h2]
    simp only [Option.bind_some]
    rw [if_pos trivial, eqIntS_f l l (by omega) _ (by omega)]
    simp

end Go.Proofs.Ytkbhppjednooeaa.Pure
