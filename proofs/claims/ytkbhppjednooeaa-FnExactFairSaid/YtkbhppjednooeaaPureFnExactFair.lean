/- For every list of picks and every bound, Fair of the program answers what Fair of the reference answers (lists above 2^20 elements are let pass by the law itself). -/
import Derived.Test.YtkbhppjednooeaaPFnExactFairx1
namespace Go.Proofs.Ytkbhppjednooeaa.Pure
open Go.RowKit Go.Proofs.Ytkbhppjednooeaa.PFnExactFair Go.Proofs.YtkbhppjednooeaaW.PrintWords Go.Proofs.YtkbhppjednooeaaW.PrintLast Go.Proofs.YtkbhppjednooeaaW.PrintMore
def FnExactFairOwn : Prop := ∀ (l0 : (List Int)) (a1 : Int), (l0.length ≤ maxLen ∧ ∀ y_l0 ∈ l0, (Lit.int .i64 y_l0).wf = true) → (Lit.int .i64 a1).wf = true → ∃ k, laws_FnExactFair.f k l0 a1 = some true
theorem w64 {i : Int} (h : -9223372036854775808 ≤ i) (h2 : i ≤ 9223372036854775807) : wrap64 i = i := by
  unfold wrap64
  omega
theorem rd_at (x : List Int) (i : Nat) (h : i < x.length) : rd x (i : Int) = x[i] := by
  unfold rd
  rw [Int.toNat_natCast, List.getD_eq_getElem?_getD, List.getElem?_eq_getElem h]
  rfl
theorem succ_cast (i : Nat) : ((i : Int) + 1) = ((i + 1 : Nat) : Int) := by omega
theorem take_succ_ext {α : Type} (a b : List α) (i : Nat) (ha : i < a.length) (hb : i < b.length) (ht : a.take i = b.take i) (he : a[i] = b[i]) : a.take (i + 1) = b.take (i + 1) := by
  rw [List.take_succ_eq_append_getElem ha, List.take_succ_eq_append_getElem hb, ht, he]
theorem toIntS_l0 (l : List Int) (hn : l.length ≤ 35184372088832) (d : Nat) : ∀ (k : Nat) (out : List Int) (i : Nat), i + d = l.length → d < k → out.length = l.length → out.take i = l.take i → laws_toIntS.l0 k l out (i : Int) = some l := by
  induction d with
  | zero =>
    intro k out i hd hk ho ht
    obtain ⟨k, rfl⟩ : ∃ m, k = m + 1 := ⟨k - 1, by omega⟩
    simp only [laws_toIntS.l0]
    rw [if_neg (by omega)]
    have h1 : out.take i = out := List.take_of_length_le (by omega)
    have h2 : l.take i = l := List.take_of_length_le (by omega)
    rw [← h1, ht, h2]
  | succ d ih =>
    intro k out i hd hk ho ht
    obtain ⟨k, rfl⟩ : ∃ m, k = m + 1 := ⟨k - 1, by omega⟩
    simp only [laws_toIntS.l0]
    rw [if_pos (by omega), if_pos (by omega), if_pos (by omega), w64 (by omega) (by omega), succ_cast, rd_at l i (by omega), Int.toNat_natCast]
    refine ih k _ (i + 1) (by omega) (by omega) (by rw [List.length_set]; exact ho) ?_
    refine take_succ_ext _ _ i (by rw [List.length_set]; omega) (by omega) ?_ (by simp)
    rw [List.take_set_of_le (Nat.le_refl _)]
    exact ht
theorem toIntS_f (l : List Int) (hn : l.length ≤ 35184372088832) (k : Nat) (hk : l.length < k) : laws_toIntS.f k l = some l := by
  unfold laws_toIntS.f
  rw [if_pos (by omega), if_pos (by omega)]
  exact toIntS_l0 l hn l.length k _ 0 (by omega) hk (by simp) (by simp)
theorem eqIntS_l0 (a b : List Int) (hn : a.length ≤ 140737488355328) (hab : a.length = b.length) (d : Nat) : ∀ (k i : Nat), i + d = a.length → d < k → laws_eqIntS.l0 k a b (i : Int) = some (decide (a.drop i = b.drop i)) := by
  induction d with
  | zero =>
    intro k i hd hk
    obtain ⟨k, rfl⟩ : ∃ m, k = m + 1 := ⟨k - 1, by omega⟩
    simp only [laws_eqIntS.l0]
    rw [if_neg (by omega), List.drop_of_length_le (by omega), List.drop_of_length_le (by omega)]
    rfl
  | succ d ih =>
    intro k i hd hk
    obtain ⟨k, rfl⟩ : ∃ m, k = m + 1 := ⟨k - 1, by omega⟩
    simp only [laws_eqIntS.l0]
    rw [if_pos (by omega), if_pos (by omega), if_pos (by omega), rd_at a i (by omega), rd_at b i (by omega), w64 (by omega) (by omega), succ_cast]
    have ea : a.drop i = a[i] :: a.drop (i + 1) := List.drop_eq_getElem_cons (by omega)
    have eb : b.drop i = b[i] :: b.drop (i + 1) := List.drop_eq_getElem_cons (by omega)
    by_cases h : a[i] = b[i]
    · rw [if_pos h, ih k (i + 1) (by omega) (by omega), ea, eb]
      simp only [h, List.cons.injEq, true_and]
    · rw [if_neg h, ea, eb]
      simp only [h, List.cons.injEq, false_and, decide_false]
theorem eqIntS_f (a b : List Int) (hn : a.length ≤ 140737488355328) (k : Nat) (hk : a.length < k) : laws_eqIntS.f k a b = some (decide (a = b)) := by
  unfold laws_eqIntS.f
  by_cases h : a.length = b.length
  · rw [if_pos (by omega)]
    have := eqIntS_l0 a b hn h a.length k 0 (by omega) hk
    simpa using this
  · rw [if_neg (by omega)]
    have : a ≠ b := fun e => h (by rw [e])
    simp [this]
def wg (t : Int) : List Int → Int → Int → Int
  | [], _, most => most
  | p :: l, n, most => if p = t then wg t l 0 (mx most 0) else wg t l (n + 1) (mx most (n + 1))
theorem mx_le {a b c : Int} (h : a ≤ c) (h2 : b ≤ c) : mx a b ≤ c := by
  unfold mx
  split <;> assumption
theorem mx_ge {a b c : Int} (h : c ≤ a) : c ≤ mx a b := by
  unfold mx
  split <;> omega
theorem wg_range (t : Int) (l : List Int) : ∀ (n most c : Int), 0 ≤ n → 0 ≤ most → most ≤ c → n + l.length ≤ c → 0 ≤ wg t l n most ∧ wg t l n most ≤ c := by
  induction l with
  | nil => intro n most c h1 h2 h3 h4; exact ⟨h2, h3⟩
  | cons p l ih =>
    intro n most c h1 h2 h3 h4
    rw [List.length_cons] at h4
    simp only [wg]
    split
    · exact ih 0 _ c (by omega) (mx_ge h2) (mx_le h3 (by omega)) (by omega)
    · exact ih (n + 1) _ c (by omega) (mx_ge h2) (mx_le h3 (by omega)) (by omega)
theorem specWG_l0 (x : List Int) (t : Int) (hn : x.length ≤ 140737488355328) (d : Nat) : ∀ (k : Nat) (n most : Int) (i : Nat), i + d = x.length → d < k → 0 ≤ n → n ≤ i → spec_WorstGap.l0 k x t n most (i : Int) = some (wg t (x.drop i) n most) := by
  induction d with
  | zero =>
    intro k n most i hd hk h1 h2
    obtain ⟨k, rfl⟩ : ∃ m, k = m + 1 := ⟨k - 1, by omega⟩
    simp only [spec_WorstGap.l0]
    rw [if_neg (by omega), List.drop_of_length_le (by omega)]
    rfl
  | succ d ih =>
    intro k n most i hd hk h1 h2
    obtain ⟨k, rfl⟩ : ∃ m, k = m + 1 := ⟨k - 1, by omega⟩
    simp only [spec_WorstGap.l0]
    rw [if_pos (by omega), if_pos (by omega), rd_at x i (by omega), w64 (i := (i : Int) + 1) (by omega) (by omega), w64 (i := n + 1) (by omega) (by omega), succ_cast, List.drop_eq_getElem_cons (show i < x.length by omega)]
    simp only [wg]
    by_cases h : x[i] = t
    · rw [if_pos h, if_pos h, ih k 0 _ (i + 1) (by omega) (by omega) (by omega) (by omega)]
    · rw [if_neg h, if_neg h, ih k (n + 1) _ (i + 1) (by omega) (by omega) (by omega) (by omega)]
theorem implWG_l0 (x : List Int) (t : Int) (hn : x.length ≤ 140737488355328) (d : Nat) : ∀ (k : Nat) (n most : Int) (i : Nat), i + d = x.length → d < k → 0 ≤ n → n ≤ i → impl_WorstGap.l0 k t most n x (x.length : Int) (i : Int) = some (wg t (x.drop i) n most) := by
  induction d with
  | zero =>
    intro k n most i hd hk h1 h2
    obtain ⟨k, rfl⟩ : ∃ m, k = m + 1 := ⟨k - 1, by omega⟩
    simp only [impl_WorstGap.l0]
    rw [if_neg (by omega), List.drop_of_length_le (by omega)]
    rfl
  | succ d ih =>
    intro k n most i hd hk h1 h2
    obtain ⟨k, rfl⟩ : ∃ m, k = m + 1 := ⟨k - 1, by omega⟩
    simp only [impl_WorstGap.l0]
    rw [if_pos (by omega), if_pos (by omega), if_pos (by omega), rd_at x i (by omega), w64 (i := (i : Int) + 1) (by omega) (by omega), w64 (i := n + 1) (by omega) (by omega), succ_cast, List.drop_eq_getElem_cons (show i < x.length by omega)]
    simp only [wg]
    by_cases h : x[i] = t
    · rw [if_pos h, if_pos h, ih k 0 _ (i + 1) (by omega) (by omega) (by omega) (by omega)]
    · rw [if_neg h, if_neg h, ih k (n + 1) _ (i + 1) (by omega) (by omega) (by omega) (by omega)]
theorem specWG_f (x : List Int) (t : Int) (hn : x.length ≤ 140737488355328) (k : Nat) (hk : x.length < k) : spec_WorstGap.f k x t = some (wg t x 0 0) :=
  specWG_l0 x t hn x.length k 0 0 0 (by omega) hk (by omega) (by omega)
theorem implWG_f (x : List Int) (t : Int) (hn : x.length ≤ 140737488355328) (k : Nat) (hk : x.length < k) : impl_WorstGap.f k x t = some (wg t x 0 0) :=
  implWG_l0 x t hn x.length k 0 0 0 (by omega) hk (by omega) (by omega)
def fairFrom (x : List Int) (f : Int) : Nat → Int → Bool
  | 0, _ => true
  | d + 1, i => if wg i x 0 0 ≥ f then false else fairFrom x f d (i + 1)
theorem specFair_l0 (x : List Int) (f : Int) (hn : x.length ≤ 140737488355328) (d : Nat) : ∀ (k : Nat) (i : Int), 0 ≤ i → i + d = 4 → d + x.length < k → spec_Fair.l0 k x f i = some (fairFrom x f d i) := by
  induction d with
  | zero =>
    intro k i h0 hd hk
    obtain ⟨k, rfl⟩ : ∃ m, k = m + 1 := ⟨k - 1, by omega⟩
    simp only [spec_Fair.l0]
    rw [if_neg (by omega)]
    rfl
  | succ d ih =>
    intro k i h0 hd hk
    obtain ⟨k, rfl⟩ : ∃ m, k = m + 1 := ⟨k - 1, by omega⟩
    simp only [spec_Fair.l0, fairFrom]
    rw [if_pos (by omega), specWG_f x i hn k (by omega), Option.bind_some]
    by_cases h : wg i x 0 0 ≥ f
    · rw [if_pos h, if_pos h]
    · rw [if_neg h, if_neg h, w64 (by omega) (by omega), ih k (i + 1) (by omega) (by omega) (by omega)]
theorem implFair_l0 (x : List Int) (f : Int) (hn : x.length ≤ 140737488355328) (d : Nat) : ∀ (k : Nat) (i : Int), 0 ≤ i → i + d = 4 → d + x.length < k → impl_Fair.l0 k x f i = some (fairFrom x f d i) := by
  induction d with
  | zero =>
    intro k i h0 hd hk
    obtain ⟨k, rfl⟩ : ∃ m, k = m + 1 := ⟨k - 1, by omega⟩
    simp only [impl_Fair.l0]
    rw [if_neg (by omega)]
    rfl
  | succ d ih =>
    intro k i h0 hd hk
    obtain ⟨k, rfl⟩ : ∃ m, k = m + 1 := ⟨k - 1, by omega⟩
    simp only [impl_Fair.l0, fairFrom]
    rw [if_pos (by omega), implWG_f x i hn k (by omega), Option.bind_some]
    by_cases h : wg i x 0 0 ≥ f
    · rw [if_pos h, if_pos h]
    · rw [if_neg h, if_neg h, w64 (by omega) (by omega), ih k (i + 1) (by omega) (by omega) (by omega)]
theorem specFair_f (x : List Int) (f : Int) (hn : x.length ≤ 140737488355328) (k : Nat) (hk : x.length + 4 < k) : spec_Fair.f k x f = some (fairFrom x f 4 0) :=
  specFair_l0 x f hn 4 k 0 (by omega) (by omega) (by omega)
theorem implFair_f (x : List Int) (f : Int) (hn : x.length ≤ 140737488355328) (k : Nat) (hk : x.length + 4 < k) : impl_Fair.f k x f = some (fairFrom x f 4 0) :=
  implFair_l0 x f hn 4 k 0 (by omega) (by omega) (by omega)
theorem FnExactFair : FnExactFairOwn := by
  intro l f _ _
  refine ⟨l.length + 6, ?_⟩
  unfold laws_FnExactFair.f
  by_cases h : (l.length : Int) > 1048576
  · rw [if_pos h]
  · rw [if_neg h, toIntS_f l (by omega) _ (by omega)]
    simp only [Option.bind_some]
    rw [specFair_f l f (by omega) _ (by omega), implFair_f l f (by omega) _ (by omega)]
    simp only [Option.bind_some]
    rw [if_neg (by simp), eqIntS_f l l (by omega) _ (by omega)]
    simp

end Go.Proofs.Ytkbhppjednooeaa.Pure
