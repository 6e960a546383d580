/- For every string, ReadCells of the program answers what ReadCells of the reference answers, and its answers share no memory (strings above 2^20 bytes are let pass by the law itself). -/
import Derived.Test.YtkbhppjednooeaaPFnExactReadCellsx2
namespace Go.Proofs.Ytkbhppjednooeaa.Pure
open Go.RowKit Go.Proofs.Ytkbhppjednooeaa.PFnExactReadCells Go.Proofs.YtkbhppjednooeaaW.PrintWords Go.Proofs.YtkbhppjednooeaaW.PrintLast Go.Proofs.YtkbhppjednooeaaW.PrintMore
set_option linter.unusedVariables false
set_option linter.unusedSimpArgs false
def FnExactReadCellsOwn : Prop := ∀ (a0 : ByteArray), a0.size ≤ maxLen → ∃ k, laws_FnExactReadCells.f k a0 = some true
theorem w64 {i : Int} (h : -9223372036854775808 ≤ i) (h2 : i ≤ 9223372036854775807) : wrap64 i = i := by
  unfold wrap64
  omega
theorem rd_at (x : List Int) (i : Nat) (h : i < x.length) : rd x (i : Int) = x[i] := by
  unfold rd
  rw [Int.toNat_natCast, List.getD_eq_getElem?_getD, List.getElem?_eq_getElem h]
  rfl
theorem succ_cast (i : Nat) : ((i : Int) + 1) = ((i + 1 : Nat) : Int) := by omega
theorem take_succ_ext {α : Type} (a b : List α) (i : Nat) (ha : i < a.length) (hb : i < b.length) (ht : a.take i = b.take i) (he : a[i] = b[i]) : a.take (i + 1) = b.take (i + 1) := by
  rw [List.take_succ_eq_append_getElem ha, List.take_succ_eq_append_getElem hb, ht, he]
theorem l1In_f (x a b : Int) : spec_l1In.f x a b = some (decide (a ≤ x) && decide (x ≤ b)) := by
  unfold spec_l1In.f
  by_cases h : x ≥ a
  · rw [if_pos h]
    have h2 : a ≤ x := h
    simp [h2]
  · rw [if_neg h]
    have h2 : ¬ a ≤ x := h
    simp [h2]
theorem within_f (x a b : Int) : impl_within.f x a b = some (decide (a ≤ x) && decide (x ≤ b)) := by
  unfold impl_within.f
  by_cases h : a ≤ x <;> simp [h]
theorem wraps_i64_ (n : Int) (h₀ : 0 ≤ n) (h₁ : n < 2 ^ 63) : IntKind.i64.wrap n = n := by
  rw [IntKind.wrap_i64]
  omega
theorem or256 (n c : Int) (hn : 0 ≤ n) (hn2 : n < 36028797018963968) (hc : 0 ≤ c) (hc2 : c ≤ 255) : Go.bits .or .i64 (n * 256) c = n * 256 + c :=
  bits_join .i64 63 (by decide) wraps_i64_ 8 (n * 256) c (by omega) (by omega) (by omega) hc (by omega) (by omega)
theorem eqIntS_l0 (a b : List Int) (hn : a.length ≤ 140737488355328) (hab : a.length = b.length) (d : Nat) : ∀ (k i : Nat), i + d = a.length → d < k → laws_eqIntS.l0 k a b (i : Int) = some (decide (a.drop i = b.drop i)) := by
  induction d with
  | zero =>
    intro k i hd hk
    obtain ⟨k, rfl⟩ : ∃ m, k = m + 1 := ⟨k - 1, by omega⟩
    simp only [laws_eqIntS.l0]
    rw [if_neg (by omega), List.drop_of_length_le (by omega), List.drop_of_length_le (by omega)]
    rfl
  | succ d ih =>
    intro k i hd hk
    obtain ⟨k, rfl⟩ : ∃ m, k = m + 1 := ⟨k - 1, by omega⟩
    simp only [laws_eqIntS.l0]
    rw [if_pos (by omega), if_pos (by omega), if_pos (by omega), rd_at a i (by omega), rd_at b i (by omega), w64 (by omega) (by omega), succ_cast]
    have ea : a.drop i = a[i] :: a.drop (i + 1) := List.drop_eq_getElem_cons (by omega)
    have eb : b.drop i = b[i] :: b.drop (i + 1) := List.drop_eq_getElem_cons (by omega)
    by_cases h : a[i] = b[i]
    · rw [if_pos h, ih k (i + 1) (by omega) (by omega), ea, eb]
      simp only [h, List.cons.injEq, true_and]
    · rw [if_neg h, ea, eb]
      simp only [h, List.cons.injEq, false_and, decide_false]
theorem eqIntS_f (a b : List Int) (hn : a.length ≤ 140737488355328) (k : Nat) (hk : a.length < k) : laws_eqIntS.f k a b = some (decide (a = b)) := by
  unfold laws_eqIntS.f
  by_cases h : a.length = b.length
  · rw [if_pos (by omega)]
    have := eqIntS_l0 a b hn h a.length k 0 (by omega) hk
    simpa using this
  · rw [if_neg (by omega)]
    have : a ≠ b := fun e => h (by rw [e])
    simp [this]
theorem markIntS_l0 (d : Nat) : ∀ (k : Nat) (x : List Int) (m : Int) (i : Nat), i + d = x.length → x.length ≤ 140737488355328 → 0 ≤ m → m + d ≤ 4611686018427387904 → d < k →
    ∃ y, laws_markIntS.l0 k x m (i : Int) = some (m + d, y) ∧ y.length = x.length ∧ (∀ j, j < i → y[j]? = x[j]?) ∧ (∀ j, i ≤ j → j < x.length → y[j]? = some (m + (j - i))) := by
  induction d with
  | zero =>
    intro k x m i hd hn hm hm2 hk
    obtain ⟨k, rfl⟩ : ∃ m, k = m + 1 := ⟨k - 1, by omega⟩
    refine ⟨x, ?_, rfl, fun _ _ => rfl, fun j h1 h2 => by omega⟩
    simp only [laws_markIntS.l0]
    rw [if_neg (by omega)]
    simp
  | succ d ih =>
    intro k x m i hd hn hm hm2 hk
    obtain ⟨k, rfl⟩ : ∃ m, k = m + 1 := ⟨k - 1, by omega⟩
    obtain ⟨y, h1, h2, h3, h4⟩ := ih k (x.set i m) (m + 1) (i + 1) (by rw [List.length_set]; omega) (by rw [List.length_set]; omega) (by omega) (by omega) (by omega)
    rw [List.length_set] at h2 h4
    refine ⟨y, ?_, h2, fun j hj => ?_, fun j hj hj2 => ?_⟩
    · simp only [laws_markIntS.l0]
      rw [if_pos (by omega), if_pos (by omega), w64 (by omega) (by omega), w64 (by omega) (by omega), succ_cast, Int.toNat_natCast, h1]
      have : m + 1 + (d : Int) = m + ((d + 1 : Nat) : Int) := by omega
      rw [this]
    · rw [h3 j (by omega), List.getElem?_set_ne (by omega)]
    · by_cases e : j = i
      · subst e
        rw [h3 j (by omega), List.getElem?_set_self (by omega)]
        congr 1; omega
      · rw [h4 j (by omega) (by omega)]
        congr 1; omega
theorem heldIntS_l0 (y : List Int) (hn : y.length ≤ 140737488355328) (d : Nat) : ∀ (k : Nat) (m : Int) (i : Nat), i + d = y.length → 0 ≤ m → m + d ≤ 4611686018427387904 → d < k →
    (∀ j, i ≤ j → j < y.length → y[j]? = some (m + (j - i))) → laws_heldIntS.l0 k y m (i : Int) = some (m + d) := by
  induction d with
  | zero =>
    intro k m i hd hm hm2 hk h
    obtain ⟨k, rfl⟩ : ∃ m, k = m + 1 := ⟨k - 1, by omega⟩
    simp only [laws_heldIntS.l0]
    rw [if_neg (by omega)]
    simp
  | succ d ih =>
    intro k m i hd hm hm2 hk h
    obtain ⟨k, rfl⟩ : ∃ m, k = m + 1 := ⟨k - 1, by omega⟩
    simp only [laws_heldIntS.l0]
    have hi := h i (Nat.le_refl _) (by omega)
    rw [List.getElem?_eq_getElem (by omega)] at hi
    have hi2 := Option.some.inj hi
    rw [if_pos (by omega), if_pos (by omega), rd_at y i (by omega), if_pos (by rw [hi2]; omega), w64 (by omega) (by omega), w64 (by omega) (by omega), succ_cast]
    rw [ih k (m + 1) (i + 1) (by omega) (by omega) (by omega) (by omega) (fun j h1 h2 => by rw [h j (by omega) h2]; congr 1; omega)]
    congr 1; omega
def markedI (m : Int) (n : Nat) : List Int := (List.range n).map fun j : Nat => m + (j : Int)
theorem markIntS_f (x : List Int) (hn : x.length ≤ 140737488355328) (m : Int) (hm : 0 ≤ m) (hm2 : m ≤ 140737488355328) (k : Nat) (hk : x.length < k) : laws_markIntS.f k x m = some (m + x.length, markedI m x.length) := by
  obtain ⟨y, h1, h2, h3, h4⟩ := markIntS_l0 x.length k x m 0 (by omega) hn hm (by omega) hk
  have : y = markedI m x.length := by
    refine List.ext_getElem? (fun j => ?_)
    by_cases hj : j < x.length
    · rw [h4 j (by omega) hj]
      simp [markedI, hj]
    · rw [List.getElem?_eq_none (by omega), List.getElem?_eq_none (by simp [markedI]; omega)]
  rw [← this]
  exact h1
theorem heldIntS_f (m : Int) (n : Nat) (hn : n ≤ 140737488355328) (hm : 0 ≤ m) (hm2 : m ≤ 140737488355328) (k : Nat) (hk : n < k) : laws_heldIntS.f k (markedI m n) m = some (m + n) := by
  have hl : (markedI m n).length = n := by simp [markedI]
  have := heldIntS_l0 (markedI m n) (by omega) n k m 0 (by omega) hm (by omega) hk (fun j a b => by rw [hl] at b; simp [markedI, b])
  exact this
/-- The number that j bytes from p on make, the first one the highest. -/
def val (s : ByteArray) (p : Nat) : Nat → Int
  | 0 => 0
  | j + 1 => val s p j * 256 + bt s ((p + j : Nat) : Int)
theorem p256 (j : Nat) (h : j ≤ 6) : (256 : Int) ^ j ≤ 281474976710656 := by
  have : j = 0 ∨ j = 1 ∨ j = 2 ∨ j = 3 ∨ j = 4 ∨ j = 5 ∨ j = 6 := by omega
  rcases this with rfl | rfl | rfl | rfl | rfl | rfl | rfl <;> decide
theorem val_range (s : ByteArray) (p j : Nat) : 0 ≤ val s p j ∧ val s p j < 256 ^ j := by
  induction j with
  | zero => exact ⟨Int.le_refl _, by simp [val]⟩
  | succ j ih =>
    have := bt_range s ((p + j : Nat) : Int)
    simp only [val, Int.pow_succ]
    omega
theorem bt_extract (s : ByteArray) (p j : Nat) (h : p + j < s.size) : bt (s.extract p s.size) (j : Int) = bt s ((p + j : Nat) : Int) := by
  unfold bt
  have hs : (s.extract p s.size).size = s.size - p := by rw [ByteArray.size_extract]; omega
  rw [dif_pos (by rw [hs]; omega), dif_pos (by omega)]
  simp only [Int.toNat_natCast]
  rw [ByteArray.getElem_extract]
theorem implRF_l0 (s : ByteArray) (p w : Nat) (hw : w ≤ 7) (hs : p + w ≤ s.size) (hm : s.size ≤ 9223372036854775806) (d : Nat) : ∀ (k j : Nat), j + d = w → d < k → impl_ReadFixed.l0 k (s.extract p s.size) (val s p j) (w : Int) (j : Int) = some (val s p w, true) := by
  have hz : (s.extract p s.size).size = s.size - p := by rw [ByteArray.size_extract]; omega
  induction d with
  | zero =>
    intro k j hd hk
    obtain ⟨k, rfl⟩ : ∃ m, k = m + 1 := ⟨k - 1, by omega⟩
    simp only [impl_ReadFixed.l0]
    rw [if_neg (by omega)]
    have : j = w := by omega
    rw [this]
  | succ d ih =>
    intro k j hd hk
    obtain ⟨k, rfl⟩ : ∃ m, k = m + 1 := ⟨k - 1, by omega⟩
    have hb := bt_range s ((p + j : Nat) : Int)
    have hv := val_range s p j
    have hp := p256 j (by omega)
    simp only [impl_ReadFixed.l0]
    rw [if_pos (by omega), if_pos (by omega), if_pos (by rw [hz]; omega), bt_extract s p j (by omega), w64 (i := bt s _) (by omega) (by omega), w64 (i := val s p j * 256) (by omega) (by omega), w64 (i := (j : Int) + 1) (by omega) (by omega), succ_cast,
      or256 _ _ hv.1 (by omega) hb.1 hb.2]
    exact ih k (j + 1) (by omega) (by omega)
theorem implRF_f (s : ByteArray) (p w : Nat) (h1 : 1 ≤ w) (hw : w ≤ 7) (hs : p + w ≤ s.size) (hm : s.size ≤ 9223372036854775806) (k : Nat) (hk : w + 1 < k) : impl_ReadFixed.f k (s.extract p s.size) (w : Int) = some (val s p w, true) := by
  have hz : (s.extract p s.size).size = s.size - p := by rw [ByteArray.size_extract]; omega
  unfold impl_ReadFixed.f
  rw [within_f, Option.bind_some, if_pos (by simp; omega)]
  obtain ⟨k, rfl⟩ : ∃ m, k = m + 1 := ⟨k - 1, by omega⟩
  simp only [impl_ReadFixed.j0]
  rw [if_neg (by simp; omega)]
  exact implRF_l0 s p w hw hs hm w k 0 (by omega) (by omega)
def isWordB (n : Int) : Bool := decide (0 ≤ n) && decide (n ≤ 281474976710655)
def cellsOkB (l : List Int) : Bool := l.all isWordB && decide (l.length = 71)
theorem specCO_l0 (x : List Int) (hn : x.length ≤ 140737488355328) (d : Nat) : ∀ (k i : Nat), i + d = x.length → d < k → spec_CellsOk.l0 k x (i : Int) = some ((x.drop i).all isWordB && decide (x.length = 71)) := by
  induction d with
  | zero =>
    intro k i hd hk
    obtain ⟨k, rfl⟩ : ∃ m, k = m + 1 := ⟨k - 1, by omega⟩
    simp only [spec_CellsOk.l0]
    rw [if_neg (by omega), List.drop_of_length_le (by omega)]
    have : ((x.length : Int) == 71) = decide (x.length = 71) := by
      by_cases h : x.length = 71
      · simp [h]
      · have h2 : ¬ (x.length : Int) = 71 := by omega
        simp [h, h2]
    rw [this]
    simp
  | succ d ih =>
    intro k i hd hk
    obtain ⟨k, rfl⟩ : ∃ m, k = m + 1 := ⟨k - 1, by omega⟩
    simp only [spec_CellsOk.l0]
    rw [if_pos (by omega), if_pos (by omega), rd_at x i (by omega), l1In_f, Option.bind_some, w64 (by omega) (by omega), succ_cast, ih k (i + 1) (by omega) (by omega), List.drop_eq_getElem_cons (show i < x.length by omega)]
    have : (decide (0 ≤ x[i]) && decide (x[i] ≤ 281474976710655)) = isWordB x[i] := rfl
    rw [this, List.all_cons]
    cases isWordB x[i] <;> simp
theorem specCO_f (x : List Int) (hn : x.length ≤ 140737488355328) (k : Nat) (hk : x.length < k) : spec_CellsOk.f k x = some (cellsOkB x) := by
  have := specCO_l0 x hn x.length k 0 (by omega) hk
  unfold spec_CellsOk.f cellsOkB
  simpa using this
/-- The first q numbers of six bytes each. -/
def cellsTo (s : ByteArray) : Nat → List Int
  | 0 => []
  | q + 1 => cellsTo s q ++ [val s (6 * q) 6]
theorem cellsTo_length (s : ByteArray) (q : Nat) : (cellsTo s q).length = q := by
  induction q with
  | zero => rfl
  | succ q ih => simp [cellsTo, ih]
theorem cellsTo_ok (s : ByteArray) (q : Nat) : (cellsTo s q).all isWordB = true := by
  induction q with
  | zero => rfl
  | succ q ih =>
    have := val_range s (6 * q) 6
    rw [cellsTo, List.all_append, ih]
    simp [isWordB]
    omega
theorem specRC_l1 (s : ByteArray) (out : List Int) (p : Nat) (hs : p + 6 ≤ s.size) (hm : s.size ≤ 1048576) (ho : out.length < 17592186044416) (e : Nat) : ∀ (k j : Nat), j + e = 6 →
    spec_ReadCells.l1 (k + e + 1) s out (p : Int) (val s p j) (j : Int) = spec_ReadCells.l0 k s (out ++ [val s p 6]) ((p + 6 : Nat) : Int) := by
  induction e with
  | zero =>
    intro k j hd
    simp only [spec_ReadCells.l1]
    have : j = 6 := by omega
    subst this
    rw [if_neg (by omega), if_pos ho, w64 (by omega) (by omega)]
    congr 1
  | succ e ih =>
    intro k j hd
    have hb := bt_range s ((p + j : Nat) : Int)
    have hv := val_range s p j
    have hp := p256 j (by omega)
    rw [show k + (e + 1) + 1 = (k + e + 1) + 1 from by omega]
    simp only [spec_ReadCells.l1]
    have e1 : wrap64 ((p : Int) + (j : Int)) = ((p + j : Nat) : Int) := by rw [w64 (by omega) (by omega)]; omega
    rw [if_pos (by omega), e1, if_pos (by omega), if_pos (by omega), w64 (i := bt s _) (by omega) (by omega), w64 (i := val s p j * 256) (by omega) (by omega), w64 (i := (j : Int) + 1) (by omega) (by omega), w64 (i := val s p j * 256 + _) (by omega) (by omega), succ_cast]
    exact ih k (j + 1) (by omega)
theorem specRC_l0 (s : ByteArray) (hm : s.size ≤ 1048576) (d : Nat) : ∀ (k q : Nat), 6 * (q + d) ≤ s.size → spec_ReadCells.l0 (k + 8 * d) s (cellsTo s q) ((6 * q : Nat) : Int) = spec_ReadCells.l0 k s (cellsTo s (q + d)) ((6 * (q + d) : Nat) : Int) := by
  induction d with
  | zero => intro k q h; rfl
  | succ d ih =>
    intro k q h
    rw [show k + 8 * (d + 1) = (k + 8 * d + 6 + 1) + 1 from by omega]
    have hl := cellsTo_length s q
    conv => lhs; simp only [spec_ReadCells.l0]
    rw [if_pos (by rw [w64 (by omega) (by omega)]; omega)]
    have := specRC_l1 s (cellsTo s q) (6 * q) (by omega) hm (by omega) 6 (k + 8 * d) 0 (by omega)
    have e0 : spec_ReadCells.l1 (k + 8 * d + 6 + 1) s (cellsTo s q) ((6 * q : Nat) : Int) 0 0 = spec_ReadCells.l1 (k + 8 * d + 6 + 1) s (cellsTo s q) ((6 * q : Nat) : Int) (val s (6 * q) 0) ((0 : Nat) : Int) := rfl
    rw [e0, this]
    have e2 : cellsTo s q ++ [val s (6 * q) 6] = cellsTo s (q + 1) := rfl
    rw [e2, show 6 * q + 6 = 6 * (q + 1) from by omega, ih k (q + 1) (by omega), show q + 1 + d = q + (d + 1) from by omega]
theorem specRC_f (s : ByteArray) (hm : s.size ≤ 1048576) (k : Nat) (hk : 8 * 1048576 ≤ k) : spec_ReadCells.f k s = some (if s.size = 426 then (cellsTo s 71, true) else ([], false)) := by
  unfold spec_ReadCells.f
  have h := specRC_l0 s hm (s.size / 6) (k - 8 * (s.size / 6)) 0 (by omega)
  rw [show k - 8 * (s.size / 6) + 8 * (s.size / 6) = k from by omega] at h
  have e0 : spec_ReadCells.l0 k s ([] : List Int) 0 = spec_ReadCells.l0 k s (cellsTo s 0) ((6 * 0 : Nat) : Int) := rfl
  rw [e0, h]
  obtain ⟨k', hk'⟩ : ∃ m, k - 8 * (s.size / 6) = m + 1 := ⟨k - 8 * (s.size / 6) - 1, by omega⟩
  have hl := cellsTo_length s (0 + s.size / 6)
  rw [hk']
  simp only [spec_ReadCells.l0]
  rw [if_neg (by rw [w64 (by omega) (by omega)]; omega)]
  by_cases hz : s.size = 426
  · rw [if_pos (by omega), if_pos hz, specCO_f _ (by omega) _ (by omega)]
    have hq : 0 + s.size / 6 = 71 := by omega
    rw [hq] at hl ⊢
    have : cellsOkB (cellsTo s 71) = true := by
      unfold cellsOkB
      rw [cellsTo_ok, hl]
      rfl
    rw [this]
    rfl
  · rw [if_neg (by omega), if_neg hz]
theorem implRC_l0 (s : ByteArray) (hz : s.size = 426) (d : Nat) : ∀ (k q : Nat), q + d = 71 → d + 10 < k → impl_ReadCells.l0 k s (cellsTo s q) ((6 * q : Nat) : Int) = some (cellsTo s 71, true) := by
  induction d with
  | zero =>
    intro k q hd hk
    obtain ⟨k, rfl⟩ : ∃ m, k = m + 1 := ⟨k - 1, by omega⟩
    have : q = 71 := by omega
    subst this
    simp only [impl_ReadCells.l0]
    rw [if_neg (by omega)]
  | succ d ih =>
    intro k q hd hk
    obtain ⟨k, rfl⟩ : ∃ m, k = m + 1 := ⟨k - 1, by omega⟩
    have hl := cellsTo_length s q
    simp only [impl_ReadCells.l0]
    have hf := implRF_f s (6 * q) 6 (by omega) (by omega) (by omega) (by omega) k (by omega)
    rw [if_pos (by omega), if_pos (by omega), if_pos (by omega), Int.toNat_natCast]
    have hf2 : impl_ReadFixed.f k (s.extract (6 * q) s.size) 6 = some (val s (6 * q) 6, true) := hf
    rw [hf2, Option.bind_some, if_pos (by omega), w64 (by omega) (by omega)]
    have e2 : cellsTo s q ++ [val s (6 * q) 6] = cellsTo s (q + 1) := rfl
    have e3 : ((6 * q : Nat) : Int) + 6 = ((6 * (q + 1) : Nat) : Int) := by omega
    rw [e3]
    show impl_ReadCells.l0 k s (cellsTo s q ++ [val s (6 * q) 6]) _ = _
    rw [e2]
    exact ih k (q + 1) (by omega) (by omega)
theorem implRC_f (s : ByteArray) (k : Nat) (hk : 90 < k) : impl_ReadCells.f k s = some (if s.size = 426 then (cellsTo s 71, true) else ([], false)) := by
  unfold impl_ReadCells.f
  by_cases hz : s.size = 426
  · rw [if_pos (by omega), if_pos hz]
    exact implRC_l0 s hz 71 k 0 (by omega) (by omega)
  · rw [if_neg (by omega), if_neg hz]
theorem FnExactReadCells : FnExactReadCellsOwn := by
  intro s hs
  refine ⟨8388613, ?_⟩
  unfold laws_FnExactReadCells.f
  by_cases h : (s.size : Int) > 1048576
  · rw [if_pos h]
  · rw [if_neg h, specRC_f s (by omega) _ (by omega), implRC_f s _ (by omega)]
    simp only [Option.bind_some]
    have hi : ∀ k, 90 < k → impl_ReadCells.f k s = some (if s.size = 426 then (cellsTo s 71, true) else ([], false)) := fun k hk => implRC_f s k hk
    have hl : (if s.size = 426 then (cellsTo s 71, true) else (([], false) : List Int × Bool)).1.length ≤ 71 := by
      split
      · rw [cellsTo_length]; omega
      · exact Nat.zero_le _
    generalize (if s.size = 426 then (cellsTo s 71, true) else (([], false) : List Int × Bool)) = r at *
    have m1 := markIntS_f r.1 (by omega) 1 (by omega) (by omega) 8388612 (by omega)
    have m2 := heldIntS_f 1 r.1.length (by omega) (by omega) (by omega)
    rw [eqIntS_f _ _ (by omega) _ (by omega)]
    simp only [Option.bind_some, decide_true, if_true, bne_self_eq_false]
    rw [show (8388613 : Nat) = 8388612 + 1 from rfl]
    simp only [laws_FnExactReadCells.j0]
    rw [if_neg (by simp), m1]
    simp only [Option.bind_some]
    rw [m2 _ (by omega)]
    simp only [Option.bind_some]
    rw [if_neg (by omega), if_pos trivial, hi _ (by omega)]
    simp only [Option.bind_some]
    rw [eqIntS_f _ _ (by omega) _ (by omega)]
    simp only [Option.bind_some, decide_true, if_true, bne_self_eq_false]
    rw [show (8388612 : Nat) = 8388611 + 1 from rfl]
    simp only [laws_FnExactReadCells.j1]
    rw [if_neg (by simp), m2 _ (by omega)]
    simp only [Option.bind_some]
    rw [if_neg (by omega), if_pos trivial]

end Go.Proofs.Ytkbhppjednooeaa.Pure
