/- For every input code: a key that is registered is found with its kind, the other keys stay as they were, and registering is told to be full exactly if no slot is free (codes above 2^20 are let pass by the law itself). -/
import Derived.Test.YtfpdkgfinfdgoaaQFnTablex9
namespace Go.Proofs.Ytfpdkgfinfdgoaa.Pure
open Go.RowKit Go.Proofs.Ytfpdkgfinfdgoaa.QFnTable Go.Proofs.YtfpdkgfinfdgoaaW.PrintWords Go.Proofs.YtfpdkgfinfdgoaaW.PrintLast Go.Proofs.YtfpdkgfinfdgoaaW.PrintMore
set_option linter.unusedVariables false
set_option linter.unusedSimpArgs false
def FnTableOwn : Prop := ∀ (l0 : (List Int)), (l0.length ≤ maxLen ∧ ∀ y_l0 ∈ l0, (Lit.int .u8 y_l0).wf = true) → ∃ k, laws_FnTable.f k l0 = some true
theorem w64 {i : Int} (h : -9223372036854775808 ≤ i) (h2 : i ≤ 9223372036854775807) : wrap64 i = i := by
  unfold wrap64
  omega
theorem rd_at (x : List Int) (i : Nat) (h : i < x.length) : rd x (i : Int) = x[i] := by
  unfold rd
  rw [Int.toNat_natCast, List.getD_eq_getElem?_getD, List.getElem?_eq_getElem h]
  rfl
theorem succ_cast (i : Nat) : ((i : Int) + 1) = ((i + 1 : Nat) : Int) := by omega
theorem take_succ_ext {α : Type} (a b : List α) (i : Nat) (ha : i < a.length) (hb : i < b.length) (ht : a.take i = b.take i) (he : a[i] = b[i]) : a.take (i + 1) = b.take (i + 1) := by
  rw [List.take_succ_eq_append_getElem ha, List.take_succ_eq_append_getElem hb, ht, he]
theorem l1In_f (x a b : Int) : spec_l1In.f x a b = some (decide (a ≤ x) && decide (x ≤ b)) := by
  unfold spec_l1In.f
  by_cases h : x ≥ a
  · rw [if_pos h]
    have h2 : a ≤ x := h
    simp [h2]
  · rw [if_neg h]
    have h2 : ¬ a ≤ x := h
    simp [h2]
theorem within_f (x a b : Int) : impl_within.f x a b = some (decide (a ≤ x) && decide (x ≤ b)) := by
  unfold impl_within.f
  by_cases h : a ≤ x <;> simp [h]
theorem wraps_i64_ (n : Int) (h₀ : 0 ≤ n) (h₁ : n < 2 ^ 63) : IntKind.i64.wrap n = n := by
  rw [IntKind.wrap_i64]
  omega
theorem or256 (n c : Int) (hn : 0 ≤ n) (hn2 : n < 36028797018963968) (hc : 0 ≤ c) (hc2 : c ≤ 255) : Go.bits .or .i64 (n * 256) c = n * 256 + c :=
  bits_join .i64 63 (by decide) wraps_i64_ 8 (n * 256) c (by omega) (by omega) (by omega) hc (by omega) (by omega)
def isWordB (n : Int) : Bool := decide (0 ≤ n) && decide (n ≤ 281474976710655)
def cellsOkB (l : List Int) : Bool := l.all isWordB && decide (l.length = 71)
theorem specCO_l0 (x : List Int) (hn : x.length ≤ 140737488355328) (d : Nat) : ∀ (k i : Nat), i + d = x.length → d < k → spec_CellsOk.l0 k x (i : Int) = some ((x.drop i).all isWordB && decide (x.length = 71)) := by
  induction d with
  | zero =>
    intro k i hd hk
    obtain ⟨k, rfl⟩ : ∃ m, k = m + 1 := ⟨k - 1, by omega⟩
    simp only [spec_CellsOk.l0]
    rw [if_neg (by omega), List.drop_of_length_le (by omega)]
    have : ((x.length : Int) == 71) = decide (x.length = 71) := by
      by_cases h : x.length = 71
      · simp [h]
      · have h2 : ¬ (x.length : Int) = 71 := by omega
        simp [h, h2]
    rw [this]
    simp
  | succ d ih =>
    intro k i hd hk
    obtain ⟨k, rfl⟩ : ∃ m, k = m + 1 := ⟨k - 1, by omega⟩
    simp only [spec_CellsOk.l0]
    rw [if_pos (by omega), if_pos (by omega), rd_at x i (by omega), l1In_f, Option.bind_some, w64 (by omega) (by omega), succ_cast, ih k (i + 1) (by omega) (by omega), List.drop_eq_getElem_cons (show i < x.length by omega)]
    have : (decide (0 ≤ x[i]) && decide (x[i] ≤ 281474976710655)) = isWordB x[i] := rfl
    rw [this, List.all_cons]
    cases isWordB x[i] <;> simp
theorem specCO_f (x : List Int) (hn : x.length ≤ 140737488355328) (k : Nat) (hk : x.length < k) : spec_CellsOk.f k x = some (cellsOkB x) := by
  have := specCO_l0 x hn x.length k 0 (by omega) hk
  unfold spec_CellsOk.f cellsOkB
  simpa using this
theorem cellsOk_len {l : List Int} (h : cellsOkB l = true) : l.length = 71 := by
  unfold cellsOkB at h
  simp only [Bool.and_eq_true, decide_eq_true_eq] at h
  exact h.2
theorem implCO_f (l : List Int) : impl_CellsOk.f l = some (cellsOkB l) := by
  unfold impl_CellsOk.f cellsOkB
  have : (!l.any impl_CellsOk.g) = l.all isWordB := by
    rw [List.not_any_eq_all_not]
    congr 1
    funext x
    simp [impl_CellsOk.g, isWordB]
  rw [this, Bool.and_comm]
def kb (c : Int) : Bool := (decide (97 ≤ c) && decide (c ≤ 122)) || ((decide (65 ≤ c) && decide (c ≤ 90)) || ((decide (48 ≤ c) && decide (c ≤ 57)) || decide (c = 95)))
def keyOkFrom (s : ByteArray) : Nat → Nat → Bool
  | 0, _ => decide (1 ≤ s.size) && decide (s.size ≤ 4)
  | d + 1, i => kb (bt s (i : Int)) && keyOkFrom s d (i + 1)
def keyOkB (s : ByteArray) : Bool := keyOkFrom s s.size 0
theorem l4Byte_f (c : Int) : spec_l4Byte.f c = some (kb c) := by
  unfold spec_l4Byte.f spec_l1In.f kb
  by_cases h1 : c ≥ 97 <;> by_cases h2 : c ≤ 122 <;> by_cases h3 : c ≥ 65 <;> by_cases h4 : c ≤ 90 <;> by_cases h5 : c ≥ 48 <;> by_cases h6 : c ≤ 57 <;> by_cases h7 : c = 95 <;> simp [h1, h2, h3, h4, h5, h6, h7] <;> first | omega | (split <;> simp_all <;> omega)
theorem specKeyOk_l0 (s : ByteArray) (hn : s.size ≤ 9223372036854775806) (d : Nat) : ∀ (k i : Nat), i + d = s.size → d < k → spec_KeyOk.l0 k s (i : Int) = some (keyOkFrom s d i) := by
  induction d with
  | zero =>
    intro k i hd hk
    obtain ⟨k, rfl⟩ : ∃ m, k = m + 1 := ⟨k - 1, by omega⟩
    simp only [spec_KeyOk.l0, keyOkFrom]
    rw [if_neg (by omega)]
    unfold spec_l1In.f
    by_cases h : (s.size : Int) ≥ 1
    · rw [if_pos h]
      have h2 : 1 ≤ s.size := by omega
      simp only [Option.bind_some, h2, decide_true, Bool.true_and]
      congr 1
      rw [decide_eq_decide]
      omega
    · rw [if_neg h]
      have h2 : ¬ 1 ≤ s.size := by omega
      simp only [Option.bind_some, h2, decide_false, Bool.false_and]
  | succ d ih =>
    intro k i hd hk
    obtain ⟨k, rfl⟩ : ∃ m, k = m + 1 := ⟨k - 1, by omega⟩
    have hb := bt_range s (i : Int)
    simp only [spec_KeyOk.l0, keyOkFrom]
    rw [if_pos (by omega), if_pos (by omega), w64 (i := bt s (i : Int)) (by omega) (by omega), w64 (by omega) (by omega), succ_cast, l4Byte_f, Option.bind_some, ih k (i + 1) (by omega) (by omega)]
    cases kb (bt s (i : Int)) <;> simp
theorem implKeyOk_l0 (s : ByteArray) (hn : s.size ≤ 9223372036854775806) (d : Nat) : ∀ (k i : Nat), i + d = s.size → d < k → impl_KeyOk.l0 k s (s.size : Int) (i : Int) = some (keyOkFrom s d i) := by
  induction d with
  | zero =>
    intro k i hd hk
    obtain ⟨k, rfl⟩ : ∃ m, k = m + 1 := ⟨k - 1, by omega⟩
    simp only [impl_KeyOk.l0, keyOkFrom]
    rw [if_neg (by omega)]
    unfold impl_within.f
    by_cases h : 1 ≤ (s.size : Int)
    · rw [if_pos h]
      have h2 : 1 ≤ s.size := by omega
      simp only [Option.bind_some, h2, decide_true, Bool.true_and]
      congr 1
      rw [decide_eq_decide]
      omega
    · rw [if_neg h]
      have h2 : ¬ 1 ≤ s.size := by omega
      simp only [Option.bind_some, h2, decide_false, Bool.false_and]
  | succ d ih =>
    intro k i hd hk
    obtain ⟨k, rfl⟩ : ∃ m, k = m + 1 := ⟨k - 1, by omega⟩
    simp only [impl_KeyOk.l0, keyOkFrom]
    rw [if_pos (by omega), if_pos (by omega), if_pos (by omega), w64 (by omega) (by omega), succ_cast, ih k (i + 1) (by omega) (by omega)]
    generalize bt s (i : Int) = c
    cases h : kb c
    · unfold kb at h
      simp only [Bool.or_eq_false_iff, Bool.and_eq_false_iff, decide_eq_false_iff_not] at h
      rw [Bool.false_and]
      repeat' split
      all_goals first | rfl | omega
    · unfold kb at h
      simp only [Bool.or_eq_true, Bool.and_eq_true, decide_eq_true_eq] at h
      rw [Bool.true_and]
      repeat' split
      all_goals first | rfl | omega
theorem specKeyOk_f (s : ByteArray) (hn : s.size ≤ 9223372036854775806) (k : Nat) (hk : s.size < k) : spec_KeyOk.f k s = some (keyOkB s) := specKeyOk_l0 s hn s.size k 0 (by omega) hk
theorem implKeyOk_f (s : ByteArray) (hn : s.size ≤ 9223372036854775806) (k : Nat) (hk : s.size < k) : impl_KeyOk.f k s = some (keyOkB s) := implKeyOk_l0 s hn s.size k 0 (by omega) hk
theorem specKeyCell_f (i : Int) (h0 : 0 ≤ i) (h1 : i < 4) : spec_KeyCell.f i = some (3 + i) := by
  unfold spec_KeyCell.f
  rw [l1In_f, Option.bind_some, if_pos (by simp; omega), w64 (by omega) (by omega)]
theorem implKeyCell_f (i : Int) (h0 : 0 ≤ i) (h1 : i < 4) : impl_KeyCell.f i = some (3 + i) := by
  unfold impl_KeyCell.f
  rw [within_f, Option.bind_some, if_pos (by simp; omega), w64 (by omega) (by omega)]
/-- Bit by bit. -/
def xorN (a b : Int) : Int := ((a.toNat ^^^ b.toNat : Nat) : Int)
theorem xorN_lt (a b : Int) (ha : 0 ≤ a) (ha2 : a < 4294967296) (hb : 0 ≤ b) (hb2 : b ≤ 255) : 0 ≤ xorN a b ∧ xorN a b < 4294967296 := by
  unfold xorN
  have : a.toNat ^^^ b.toNat < 2 ^ 32 := Nat.xor_lt_two_pow (by omega) (by omega)
  omega
theorem xor_i64 (a b : Int) (ha : 0 ≤ a) (ha2 : a < 4294967296) (hb : 0 ≤ b) (hb2 : b ≤ 255) : Go.bits .xor .i64 a b = xorN a b := by
  have hx := xorN_lt a b ha ha2 hb hb2
  obtain ⟨m, rfl⟩ := Int.eq_ofNat_of_zero_le ha
  obtain ⟨n, rfl⟩ := Int.eq_ofNat_of_zero_le hb
  unfold xorN at *
  have e : Go.bits .xor .i64 (m : Int) (n : Int) = IntKind.i64.wrap (((BitVec.ofInt 64 (m : Int) ^^^ BitVec.ofInt 64 (n : Int)).toNat : Nat) : Int) := rfl
  rw [e, BitVec.toNat_xor, BitVec.ofInt_natCast, BitVec.ofInt_natCast, BitVec.toNat_ofNat, BitVec.toNat_ofNat, Nat.mod_eq_of_lt (by omega), Nat.mod_eq_of_lt (by omega), IntKind.wrap_i64]
  simp only [Int.toNat_natCast] at *
  omega
theorem xor_u32 (a b : Int) (ha : 0 ≤ a) (ha2 : a < 4294967296) (hb : 0 ≤ b) (hb2 : b ≤ 255) : Go.bits .xor .u32 a b = xorN a b := by
  have hx := xorN_lt a b ha ha2 hb hb2
  obtain ⟨m, rfl⟩ := Int.eq_ofNat_of_zero_le ha
  obtain ⟨n, rfl⟩ := Int.eq_ofNat_of_zero_le hb
  unfold xorN at *
  have e : Go.bits .xor .u32 (m : Int) (n : Int) = IntKind.u32.wrap (((BitVec.ofInt 32 (m : Int) ^^^ BitVec.ofInt 32 (n : Int)).toNat : Nat) : Int) := rfl
  rw [e, BitVec.toNat_xor, BitVec.ofInt_natCast, BitVec.ofInt_natCast, BitVec.toNat_ofNat, BitVec.toNat_ofNat, Nat.mod_eq_of_lt (by omega), Nat.mod_eq_of_lt (by omega), IntKind.wrap_u32]
  simp only [Int.toNat_natCast] at *
  omega
def hashFrom (s : ByteArray) : Nat → Nat → Int → Int
  | 0, _, h => h
  | d + 1, i, h => hashFrom s d (i + 1) (xorN h (bt s (i : Int)) * 16777619 % 4294967296)
def hashB (s : ByteArray) : Int := hashFrom s s.size 0 2166136261
theorem hashFrom_range (s : ByteArray) (d : Nat) : ∀ (i : Nat) (h : Int), 0 ≤ h → h < 4294967296 → 0 ≤ hashFrom s d i h ∧ hashFrom s d i h < 4294967296 := by
  induction d with
  | zero => intro i h h0 h1; exact ⟨h0, h1⟩
  | succ d ih => intro i h h0 h1; exact ih (i + 1) _ (by omega) (by omega)
theorem hashB_range (s : ByteArray) : 0 ≤ hashB s ∧ hashB s < 4294967296 := hashFrom_range s s.size 0 _ (by omega) (by omega)
theorem specHash_l0 (s : ByteArray) (hn : s.size ≤ 9223372036854775806) (d : Nat) : ∀ (k i : Nat) (h : Int), i + d = s.size → d < k → 0 ≤ h → h < 4294967296 → spec_HashKey.l0 k s h (i : Int) = some (hashFrom s d i h) := by
  induction d with
  | zero =>
    intro k i h hd hk h0 h1
    obtain ⟨k, rfl⟩ : ∃ m, k = m + 1 := ⟨k - 1, by omega⟩
    simp only [spec_HashKey.l0, hashFrom]
    rw [if_neg (by omega)]
  | succ d ih =>
    intro k i h hd hk h0 h1
    obtain ⟨k, rfl⟩ : ∃ m, k = m + 1 := ⟨k - 1, by omega⟩
    have hb := bt_range s (i : Int)
    have hx := xorN_lt h (bt s (i : Int)) h0 h1 hb.1 hb.2
    simp only [spec_HashKey.l0, hashFrom]
    rw [if_pos (by omega), if_pos (by omega), w64 (i := bt s (i : Int)) (by omega) (by omega), xor_i64 _ _ h0 h1 hb.1 hb.2, w64 (i := xorN h _ * 16777619) (by omega) (by omega), w64 (i := (i : Int) + 1) (by omega) (by omega), succ_cast, Int.tmod_eq_emod_of_nonneg (by omega)]
    exact ih k (i + 1) _ (by omega) (by omega) (by omega) (by omega)
theorem specHash_f (s : ByteArray) (hn : s.size ≤ 9223372036854775806) (k : Nat) (hk : s.size < k) : spec_HashKey.f k s = some (hashB s) := specHash_l0 s hn s.size k 0 _ (by omega) hk (by omega) (by omega)
theorem implHash_l0 (s : ByteArray) (hn : s.size ≤ 9223372036854775806) (d : Nat) : ∀ (k i : Nat) (h : Int), i + d = s.size → d < k → 0 ≤ h → h < 4294967296 → impl_HashKey.l0 k s h (s.size : Int) (i : Int) = some (hashFrom s d i h) := by
  induction d with
  | zero =>
    intro k i h hd hk h0 h1
    obtain ⟨k, rfl⟩ : ∃ m, k = m + 1 := ⟨k - 1, by omega⟩
    simp only [impl_HashKey.l0, hashFrom]
    rw [if_neg (by omega), w64 (by omega) (by omega)]
  | succ d ih =>
    intro k i h hd hk h0 h1
    obtain ⟨k, rfl⟩ : ∃ m, k = m + 1 := ⟨k - 1, by omega⟩
    have hb := bt_range s (i : Int)
    have hx := xorN_lt h (bt s (i : Int)) h0 h1 hb.1 hb.2
    have e : bt s (i : Int) % 4294967296 = bt s (i : Int) := by omega
    simp only [impl_HashKey.l0, hashFrom]
    rw [if_pos (by omega), if_pos (by omega), if_pos (by omega), e, xor_u32 _ _ h0 h1 hb.1 hb.2, w64 (i := (i : Int) + 1) (by omega) (by omega), succ_cast]
    exact ih k (i + 1) _ (by omega) (by omega) (by omega) (by omega)
theorem implHash_f (s : ByteArray) (hn : s.size ≤ 9223372036854775806) (k : Nat) (hk : s.size < k) : impl_HashKey.f k s = some (hashB s) := implHash_l0 s hn s.size k 0 _ (by omega) hk (by omega) (by omega)
/-- The slot that is looked at as number n on a key's way. -/
def probeB (s : ByteArray) (n : Int) : Int := if keyOkB s = true then (if 0 ≤ n ∧ n ≤ 3 then (hashB s + n) % 4 else -1) else -1
theorem probeB_range (s : ByteArray) (n : Int) (hs : keyOkB s = true) (h0 : 0 ≤ n) (h1 : n < 4) : 0 ≤ probeB s n ∧ probeB s n < 4 := by
  unfold probeB
  rw [if_pos hs, if_pos (by omega)]
  omega
theorem specProbe_f (s : ByteArray) (n : Int) (hn : s.size ≤ 9223372036854775806) (k : Nat) (hk : s.size < k) : spec_Probe.f k s n = some (probeB s n) := by
  unfold spec_Probe.f probeB
  have hh := hashB_range s
  rw [specKeyOk_f s hn k hk, Option.bind_some, l1In_f, Option.bind_some]
  by_cases h1 : keyOkB s = true
  · rw [if_pos h1, if_pos h1]
    by_cases h2 : 0 ≤ n ∧ n ≤ 3
    · rw [if_pos (by simp [h2]), if_pos h2, specHash_f s hn k hk, Option.bind_some, w64 (by omega) (by omega), Int.tmod_eq_emod_of_nonneg (by omega)]
    · rw [if_neg (by simp; omega), if_neg h2]
  · rw [if_neg h1, if_neg h1]
theorem implProbe_f (s : ByteArray) (n : Int) (hn : s.size ≤ 9223372036854775806) (k : Nat) (hk : s.size < k) : impl_Probe.f k s n = some (probeB s n) := by
  unfold impl_Probe.f probeB
  have hh := hashB_range s
  rw [implKeyOk_f s hn k hk, Option.bind_some, within_f, Option.bind_some]
  by_cases h1 : keyOkB s = true
  · rw [if_pos h1, if_pos h1]
    by_cases h2 : 0 ≤ n ∧ n ≤ 3
    · rw [if_pos (by simp [h2]), if_pos h2, implHash_f s hn k hk, Option.bind_some, w64 (by omega) (by omega), Int.tmod_eq_emod_of_nonneg (by omega)]
    · rw [if_neg (by simp; omega), if_neg h2]
  · rw [if_neg h1, if_neg h1]
/-- The number that j bytes from p on make, the first one the highest. -/
def val (s : ByteArray) (p : Nat) : Nat → Int
  | 0 => 0
  | j + 1 => val s p j * 256 + bt s ((p + j : Nat) : Int)
theorem p256 (j : Nat) (h : j ≤ 6) : (256 : Int) ^ j ≤ 281474976710656 := by
  have : j = 0 ∨ j = 1 ∨ j = 2 ∨ j = 3 ∨ j = 4 ∨ j = 5 ∨ j = 6 := by omega
  rcases this with rfl | rfl | rfl | rfl | rfl | rfl | rfl <;> decide
theorem val_range (s : ByteArray) (p j : Nat) : 0 ≤ val s p j ∧ val s p j < 256 ^ j := by
  induction j with
  | zero => exact ⟨Int.le_refl _, by simp [val]⟩
  | succ j ih =>
    have := bt_range s ((p + j : Nat) : Int)
    simp only [val, Int.pow_succ]
    omega
theorem bt_extract (s : ByteArray) (p j : Nat) (h : p + j < s.size) : bt (s.extract p s.size) (j : Int) = bt s ((p + j : Nat) : Int) := by
  unfold bt
  have hs : (s.extract p s.size).size = s.size - p := by rw [ByteArray.size_extract]; omega
  rw [dif_pos (by rw [hs]; omega), dif_pos (by omega)]
  simp only [Int.toNat_natCast]
  rw [ByteArray.getElem_extract]
theorem val_extract (s : ByteArray) (p w : Nat) (h : p + w ≤ s.size) : val (s.extract p s.size) 0 w = val s p w := by
  induction w with
  | zero => rfl
  | succ w ih =>
    simp only [val]
    rw [ih (by omega), Nat.zero_add, bt_extract s p w (by omega)]
theorem implRF_l0 (t : ByteArray) (w : Nat) (hw : w ≤ 7) (hs : w ≤ t.size) (d : Nat) : ∀ (k j : Nat), j + d = w → d < k → impl_ReadFixed.l0 k t (val t 0 j) (w : Int) (j : Int) = some (val t 0 w, true) := by
  induction d with
  | zero =>
    intro k j hd hk
    obtain ⟨k, rfl⟩ : ∃ m, k = m + 1 := ⟨k - 1, by omega⟩
    simp only [impl_ReadFixed.l0]
    rw [if_neg (by omega)]
    have : j = w := by omega
    rw [this]
  | succ d ih =>
    intro k j hd hk
    obtain ⟨k, rfl⟩ : ∃ m, k = m + 1 := ⟨k - 1, by omega⟩
    have hb := bt_range t (j : Int)
    have hv := val_range t 0 j
    have hp := p256 j (by omega)
    simp only [impl_ReadFixed.l0]
    rw [if_pos (by omega), if_pos (by omega), if_pos (by omega), w64 (i := bt t _) (by omega) (by omega), w64 (i := val t 0 j * 256) (by omega) (by omega), w64 (i := (j : Int) + 1) (by omega) (by omega), succ_cast,
      or256 _ _ hv.1 (by omega) hb.1 hb.2]
    have e : val t 0 j * 256 + bt t (j : Int) = val t 0 (j + 1) := by
      simp only [val, Nat.zero_add]
    rw [e]
    exact ih k (j + 1) (by omega) (by omega)
theorem implRF_t (t : ByteArray) (w : Nat) (h1 : 1 ≤ w) (hw : w ≤ 7) (hs : w ≤ t.size) (k : Nat) (hk : w + 1 < k) : impl_ReadFixed.f k t (w : Int) = some (val t 0 w, true) := by
  unfold impl_ReadFixed.f
  rw [within_f, Option.bind_some, if_pos (by simp; omega)]
  obtain ⟨k, rfl⟩ : ∃ m, k = m + 1 := ⟨k - 1, by omega⟩
  simp only [impl_ReadFixed.j0]
  rw [if_neg (by simp; omega)]
  exact implRF_l0 t w hw hs w k 0 (by omega) (by omega)
theorem implRF_f (s : ByteArray) (p w : Nat) (h1 : 1 ≤ w) (hw : w ≤ 7) (hs : p + w ≤ s.size) (k : Nat) (hk : w + 1 < k) : impl_ReadFixed.f k (s.extract p s.size) (w : Int) = some (val s p w, true) := by
  have hz : (s.extract p s.size).size = s.size - p := by rw [ByteArray.size_extract]; omega
  rw [implRF_t _ w h1 hw (by omega) k hk, val_extract s p w hs]
/-- The w bytes of n, the highest first. -/
def be : Nat → Int → List Int
  | 0, _ => []
  | w + 1, n => be w (n / 256) ++ [n % 256]
theorem be_length (w : Nat) : ∀ n, (be w n).length = w := by
  induction w with
  | zero => intro n; rfl
  | succ w ih => intro n; simp [be, ih]
theorem son_append (a b : List Int) : strOfNums (a ++ b) = strOfNums a ++ strOfNums b := by
  unfold strOfNums
  apply ByteArray.ext
  simp [ByteArray.data_append]
theorem son_size (a : List Int) : (strOfNums a).size = a.length := by
  unfold strOfNums
  simp [ByteArray.size]
theorem implFixed_l0 (d : Nat) : ∀ (k : Nat) (n : Int) (done : List Int), d ≤ 100 → d < k → impl_Fixed.l0 k n (List.replicate d 0 ++ done) ((d : Int) - 1) = some (strOfNums (be d n ++ done)) := by
  induction d with
  | zero =>
    intro k n done hd hk
    obtain ⟨k, rfl⟩ : ∃ m, k = m + 1 := ⟨k - 1, by omega⟩
    simp only [impl_Fixed.l0]
    rw [if_neg (by omega)]
    rfl
  | succ d ih =>
    intro k n done hd hk
    obtain ⟨k, rfl⟩ : ∃ m, k = m + 1 := ⟨k - 1, by omega⟩
    simp only [impl_Fixed.l0]
    rw [if_pos (by omega), if_pos (by omega), if_pos (by simp; omega), w64 (by omega) (by omega)]
    have e1 : ((d + 1 : Nat) : Int) - 1 = (d : Int) := by omega
    rw [e1, Int.toNat_natCast]
    have e2 : (List.replicate (d + 1) (0 : Int) ++ done).set d (n % 256) = List.replicate d 0 ++ (n % 256 :: done) := by
      rw [List.replicate_succ', List.append_assoc, List.set_append_right _ _ (by simp)]
      simp
    rw [e2, ih k (n / 256) (n % 256 :: done) (by omega) (by omega)]
    simp [be]
/-- What Fixed answers at a width from 1 to 7. -/
def fixedB (n : Int) (w : Nat) : ByteArray := if n < 0 then ⟨#[]⟩ else if n / 256 ^ w > 0 then ⟨#[]⟩ else strOfNums (be w n)
theorem pow256 (w : Nat) : (2 : Int) ^ (8 * w) = 256 ^ w := by
  rw [Int.pow_mul]
  rfl
theorem implFixed_f (n : Int) (w : Nat) (h1 : 1 ≤ w) (hw : w ≤ 7) (k : Nat) (hk : 20 < k) : impl_Fixed.f k n (w : Int) = some (fixedB n w) := by
  unfold impl_Fixed.f fixedB
  obtain ⟨k, rfl⟩ : ∃ m, k = m + 1 := ⟨k - 1, by omega⟩
  rw [within_f, Option.bind_some, if_pos (by simp; omega)]
  by_cases h : n < 0
  · rw [if_pos h, if_pos h]
    simp only [impl_Fixed.j0]
    rfl
  · rw [if_neg h, if_neg h, w64 (by omega) (by omega), if_pos (by omega)]
    have hs : shr .i64 n (8 * (w : Int)) = n / 256 ^ w := by
      unfold shr
      have e1 : (8 * (w : Int)).toNat = 8 * w := by omega
      have e2 : IntKind.bits .i64 = 64 := rfl
      rw [e1, e2, Nat.min_eq_left (by omega), pow256]
    have hnn : 0 ≤ n / 256 ^ w := Int.ediv_nonneg (by omega) (Int.pow_nonneg (by omega))
    rw [hs]
    simp only [impl_Fixed.j0]
    by_cases h2 : n / 256 ^ w > 0
    · have : (n / 256 ^ w != 0) = true := by simp; omega
      rw [this, if_pos rfl, if_pos h2]
    · have : (n / 256 ^ w != 0) = false := by simp; omega
      rw [this, if_neg (by simp), if_neg h2, if_pos (by omega), if_pos (by omega), w64 (by omega) (by omega), Int.toNat_natCast]
      have := implFixed_l0 w k n [] (by omega) (by omega)
      simpa using this
theorem fixedB_size (n : Int) (w : Nat) : (fixedB n w).size ≤ w := by
  unfold fixedB
  split
  · exact Nat.zero_le _
  · split
    · exact Nat.zero_le _
    · rw [son_size, be_length]
      exact Nat.le_refl _
theorem p256_mono {a b : Nat} (h : a ≤ b) : (256 : Int) ^ a ≤ 256 ^ b := by
  induction h with
  | refl => exact Int.le_refl _
  | step _ ih =>
    rename_i m _
    have : (0 : Int) ≤ 256 ^ m := Int.pow_nonneg (by omega)
    rw [Int.pow_succ]
    omega
theorem bt_son (l : List Int) (i : Nat) (h : i < l.length) (h0 : 0 ≤ l[i]) : bt (strOfNums l) (i : Int) = l[i] % 256 := by
  unfold bt
  rw [dif_pos (by rw [son_size]; omega)]
  unfold strOfNums
  simp only [Int.toNat_natCast, ByteArray.getElem_eq_getElem_data, List.getElem_toArray, List.getElem_map]
  have := Int.emod_nonneg l[i] (b := 256) (by omega)
  have := Int.emod_lt_of_pos l[i] (b := 256) (by omega)
  simp
  omega
theorem val_congr (s t : ByteArray) (w : Nat) (h : ∀ j, j < w → bt s (j : Int) = bt t (j : Int)) : val s 0 w = val t 0 w := by
  induction w with
  | zero => rfl
  | succ w ih =>
    simp only [val, Nat.zero_add]
    rw [ih (fun j hj => h j (by omega)), h w (by omega)]
theorem be_nonneg (w : Nat) : ∀ (n : Int) (i : Nat) (h : i < (be w n).length), 0 ≤ (be w n)[i] := by
  induction w with
  | zero => intro n i h; simp [be] at h
  | succ w ih =>
    intro n i h
    simp only [be]
    rw [List.getElem_append]
    split
    · exact ih _ _ _
    · simp
      omega
theorem be_getElem_last (w : Nat) (n : Int) (h : w < (be (w + 1) n).length) : (be (w + 1) n)[w] = n % 256 := by
  simp [be, be_length]
theorem val_be (w : Nat) : ∀ n : Int, 0 ≤ n → n < 256 ^ w → val (strOfNums (be w n)) 0 w = n := by
  induction w with
  | zero => intro n h0 h1; simp at h1; simp only [val]; omega
  | succ w ih =>
    intro n h0 h1
    have h2 : n / 256 < 256 ^ w := by rw [Int.pow_succ] at h1; omega
    have e := ih (n / 256) (by omega) h2
    have c : val (strOfNums (be (w + 1) n)) 0 w = val (strOfNums (be w (n / 256))) 0 w := by
      apply val_congr
      intro j hj
      rw [bt_son _ j (by rw [be_length]; omega) (be_nonneg _ _ _ _), bt_son _ j (by rw [be_length]; omega) (be_nonneg _ _ _ _)]
      congr 1
      simp only [be]
      rw [List.getElem_append_left (by rw [be_length]; omega)]
    have l := bt_son (be (w + 1) n) w (by rw [be_length]; omega) (be_nonneg _ _ _ _)
    rw [be_getElem_last] at l
    simp only [val, Nat.zero_add]
    rw [c, e, l]
    omega
theorem be_zero (w : Nat) : ∀ n : Int, 0 ≤ n → n < 256 ^ w → be (w + 1) n = 0 :: be w n := by
  induction w with
  | zero => intro n h0 h1; simp at h1; have : n = 0 := by omega
            subst this; rfl
  | succ w ih =>
    intro n h0 h1
    have h2 : n / 256 < 256 ^ w := by rw [Int.pow_succ] at h1; omega
    have e := ih (n / 256) (by omega) h2
    rw [be, e]
    rfl
theorem keyOk_zero (l : List Int) : keyOkB (strOfNums (0 :: l)) = false := by
  unfold keyOkB
  have hs : (strOfNums (0 :: l)).size = l.length + 1 := by rw [son_size]; rfl
  rw [hs]
  simp only [keyOkFrom]
  have := bt_son (0 :: l) 0 (by simp) (Int.le_refl _)
  simp only [Int.ofNat_zero, List.getElem_cons_zero] at this
  have e : kb (bt (strOfNums (0 :: l)) ((0 : Nat) : Int)) = false := by
    have h : bt (strOfNums (0 :: l)) ((0 : Nat) : Int) = 0 := by simpa using this
    rw [h]
    rfl
  rw [e, Bool.false_and]
theorem keyOkFrom_size (s : ByteArray) (d : Nat) : ∀ i, keyOkFrom s d i = true → 1 ≤ s.size ∧ s.size ≤ 4 := by
  induction d with
  | zero => intro i h; simpa [keyOkFrom] using h
  | succ d ih => intro i h; simp only [keyOkFrom, Bool.and_eq_true] at h; exact ih _ h.2
theorem keyOk_size (s : ByteArray) (h : keyOkB s = true) : 1 ≤ s.size ∧ s.size ≤ 4 := keyOkFrom_size s _ _ h
/-- A key as a number; 0 for what is no key. -/
def packB (s : ByteArray) : Int := if keyOkB s = true then val s 0 s.size else 0
theorem packB_range (s : ByteArray) : 0 ≤ packB s ∧ packB s < 4294967296 := by
  unfold packB
  split
  · rename_i h
    have hs := keyOk_size s h
    have hv := val_range s 0 s.size
    have : (256 : Int) ^ s.size ≤ 4294967296 := by
      have : s.size = 1 ∨ s.size = 2 ∨ s.size = 3 ∨ s.size = 4 := by omega
      rcases this with h | h | h | h <;> rw [h] <;> decide
    omega
  · omega
theorem implPack_f (s : ByteArray) (hn : s.size ≤ 9223372036854775806) (k : Nat) (hk : s.size + 10 < k) : impl_PackKey.f k s = some (packB s) := by
  unfold impl_PackKey.f packB
  rw [implKeyOk_f s hn k (by omega), Option.bind_some]
  by_cases h : keyOkB s = true
  · have hs := keyOk_size s h
    rw [if_pos h, if_pos h, implRF_t s s.size hs.1 (by omega) (Nat.le_refl _) k (by omega), Option.bind_some]
  · rw [if_neg h, if_neg h]
def wd (n : Int) : Nat := if n ≤ 0 then 0 else if n < 256 then 1 else if n < 65536 then 2 else if n < 16777216 then 3 else 4
def keyOf (n : Int) : ByteArray := strOfNums (be (wd n) n)
/-- A number as a key. -/
def unpB (n : Int) : ByteArray × Bool := if 1 ≤ n ∧ n ≤ 4294967295 ∧ keyOkB (keyOf n) = true then (keyOf n, true) else (⟨#[]⟩, false)
def dg : Nat → Int → List Int
  | 0, _ => []
  | w + 1, n => if n ≤ 0 then [] else dg w (n / 256) ++ [n % 256]
theorem dg_be (n : Int) (h0 : 0 ≤ n) (h1 : n < 4294967296) : dg 5 n = be (wd n) n := by
  unfold wd
  by_cases a : n ≤ 0
  · simp [dg, a, be]
  · by_cases b : n < 256
    · simp [dg, a, b, be, show n / 256 ≤ 0 by omega]
    · by_cases c : n < 65536
      · simp [dg, a, b, c, be, show ¬ n / 256 ≤ 0 by omega, show n / 256 / 256 ≤ 0 by omega]
      · by_cases d : n < 16777216
        · simp [dg, a, b, c, d, be, show ¬ n / 256 ≤ 0 by omega, show ¬ n / 256 / 256 ≤ 0 by omega, show n / 256 / 256 / 256 ≤ 0 by omega]
        · simp [dg, a, b, c, d, be, show ¬ n / 256 ≤ 0 by omega, show ¬ n / 256 / 256 ≤ 0 by omega, show ¬ n / 256 / 256 / 256 ≤ 0 by omega, show n / 256 / 256 / 256 / 256 ≤ 0 by omega]
theorem dg_length (w : Nat) : ∀ n, (dg w n).length ≤ w := by
  induction w with
  | zero => intro n; exact Nat.le_refl _
  | succ w ih => intro n; simp only [dg]; split
                 · exact Nat.zero_le _
                 · have := ih (n / 256); simp; omega
theorem specUnp_end (k w : Nat) (n : Int) (acc : List Int) (h0 : n ≤ 0) (h2 : acc.length ≤ 1000) (hk : 1100 < k) : spec_UnpackKey.l0 k n acc = some (if keyOkB (strOfNums (dg (w + 1) n ++ acc)) = true then (strOfNums (dg (w + 1) n ++ acc), true) else (⟨#[]⟩, false)) := by
  obtain ⟨k, rfl⟩ : ∃ m, k = m + 1 := ⟨k - 1, by omega⟩
  have hd : dg (w + 1) n = [] := by simp [dg, h0]
  simp only [spec_UnpackKey.l0]
  rw [if_neg (by omega), specKeyOk_f _ (by rw [son_size]; omega) k (by rw [son_size]; omega), Option.bind_some, hd, List.nil_append]
  split <;> rfl
theorem specUnp_l0 (w : Nat) : ∀ (k : Nat) (n : Int) (acc : List Int), 0 ≤ n → n < 4294967296 → n < 256 ^ w → acc.length + w ≤ 1000 → 1100 + w < k →
    spec_UnpackKey.l0 k n acc = some (if keyOkB (strOfNums (dg (w + 1) n ++ acc)) = true then (strOfNums (dg (w + 1) n ++ acc), true) else (⟨#[]⟩, false)) := by
  induction w with
  | zero => intro k n acc h0 hb h1 h2 hk; simp at h1; exact specUnp_end k 0 n acc (by omega) (by omega) (by omega)
  | succ w ih =>
    intro k n acc h0 hb h1 h2 hk
    by_cases hz : n ≤ 0
    · exact specUnp_end k (w + 1) n acc hz (by omega) (by omega)
    · obtain ⟨k, rfl⟩ : ∃ m, k = m + 1 := ⟨k - 1, by omega⟩
      have h3 : n / 256 < 256 ^ w := by rw [Int.pow_succ] at h1; omega
      have t1 : Int.tmod n 256 = n % 256 := Int.tmod_eq_emod_of_nonneg h0
      have t2 : Int.tdiv n 256 = n / 256 := Int.tdiv_eq_ediv_of_nonneg h0
      have t3 : n % 256 % 256 = n % 256 := by omega
      simp only [spec_UnpackKey.l0]
      rw [if_pos (by omega), t1, t2, t3, Option.bind_some, if_pos (by simp; omega), w64 (by omega) (by omega), ih k (n / 256) _ (by omega) (by omega) h3 (by simp; omega) (by omega)]
      have e : dg (w + 1 + 1) n = dg (w + 1) (n / 256) ++ [n % 256] := by
        rw [dg, if_neg hz]
      rw [e, List.append_assoc]
theorem specUnp_f (n : Int) (k : Nat) (hk : 1200 < k) : spec_UnpackKey.f k n = some (unpB n) := by
  unfold spec_UnpackKey.f unpB
  rw [l1In_f, Option.bind_some]
  by_cases h : 1 ≤ n ∧ n ≤ 4294967295
  · rw [if_pos (by simp [h]), specUnp_l0 4 k n [] (by omega) (by omega) (by omega) (by simp) (by omega), List.append_nil, dg_be n (by omega) (by omega)]
    unfold keyOf
    by_cases h2 : keyOkB (strOfNums (be (wd n) n)) = true
    · rw [if_pos h2, if_pos ⟨h.1, h.2, h2⟩]
    · rw [if_neg h2, if_neg (fun q => h2 q.2.2)]
  · rw [if_neg (by simp; omega), if_neg (fun q => h ⟨q.1, q.2.1⟩)]
theorem wd_lt (n : Int) (h1 : n < 4294967296) (w : Nat) (h : wd n ≤ w) : n < 256 ^ w := by
  have a : n < 256 ^ (wd n) := by
    unfold wd
    split
    · simp; omega
    · split
      · simp; omega
      · split
        · simp; omega
        · split <;> simp <;> omega
  have b : (256 : Int) ^ (wd n) ≤ 256 ^ w := p256_mono h
  omega
theorem wd_le (n : Int) : wd n ≤ 4 := by unfold wd; (repeat' split) <;> omega
theorem wd_gt (n : Int) (w : Nat) (h : w < wd n) : 256 ^ w ≤ n := by
  unfold wd at h
  split at h
  · omega
  · have : w = 0 ∨ w = 1 ∨ w = 2 ∨ w = 3 := by (repeat' split at h) <;> omega
    rcases this with rfl | rfl | rfl | rfl
    · simp; omega
    · split at h
      · omega
      · simp; omega
    · split at h
      · omega
      · split at h
        · omega
        · simp; omega
    · split at h
      · omega
      · split at h
        · omega
        · split at h
          · omega
          · simp; omega
theorem son_toList (l : List Int) (h : 0 < l.length) : ¬ (strOfNums l).toList = ([] : List UInt8) := by
  intro q
  have e := son_size l
  rw [ByteArray.toList_eq] at q
  have : (strOfNums l).data.toList.length = (strOfNums l).size := rfl
  rw [q] at this
  simp at this
  omega
theorem nil_toList : (⟨#[]⟩ : ByteArray).toList = ([] : List UInt8) := by rw [ByteArray.toList_eq]
def hit (n : Int) (w : Nat) : Prop := 1 ≤ n ∧ n ≤ 4294967295 ∧ wd n = w ∧ keyOkB (keyOf n) = true
theorem implUnp_one (n : Int) (w k : Nat) (h1 : 1 ≤ w) (hw : w ≤ 4) (hk : 100 < k) :
    (hit n w → impl_UnpackKey.l0 (k + 1) n (w : Int) = some (keyOf n, true)) ∧ (¬ hit n w → impl_UnpackKey.l0 (k + 1) n (w : Int) = impl_UnpackKey.l0 k n ((w + 1 : Nat) : Int)) := by
  have F := implFixed_f n w h1 (by omega) k (by omega)
  have Z : impl_UnpackKey.l0 (k + 1) n (w : Int) = (if (fixedB n w).toList = ([] : List UInt8) then (impl_UnpackKey.l0 k n ((w + 1 : Nat) : Int)) else (if packB (fixedB n w) = n then (if n > 0 then (some (fixedB n w, true)) else (impl_UnpackKey.l0 k n ((w + 1 : Nat) : Int))) else (impl_UnpackKey.l0 k n ((w + 1 : Nat) : Int)))) := by
    simp only [impl_UnpackKey.l0]
    have s := fixedB_size n w
    rw [if_pos (by omega), F, Option.bind_some, w64 (by omega) (by omega), succ_cast, implPack_f _ (by omega) k (by omega), Option.bind_some]
  rw [Z]
  unfold fixedB hit
  by_cases a : n < 0
  · simp only [if_pos a, nil_toList, if_true]
    exact ⟨fun q => by omega, fun _ => trivial⟩
  · simp only [if_neg a]
    by_cases b : n / 256 ^ w > 0
    · rw [if_pos b, if_pos nil_toList]
      refine ⟨fun q => ?_, fun _ => rfl⟩
      have := wd_lt n (by omega) w (by omega)
      have : n / 256 ^ w = 0 := Int.ediv_eq_zero_of_lt (by omega) this
      omega
    · have hp : (0 : Int) < 256 ^ w := Int.pow_pos (by omega)
      have c : n < 256 ^ w := by
        have z : n / 256 ^ w = 0 := by
          have := Int.ediv_nonneg (a := n) (b := 256 ^ w) (by omega) (by omega)
          omega
        have e := Int.mul_ediv_add_emod n (256 ^ w)
        have m := Int.emod_lt_of_pos n hp
        rw [z] at e
        omega
      have c4 : n < 4294967296 := by
        have : (256 : Int) ^ w ≤ 256 ^ 4 := p256_mono hw
        omega
      have hs : (strOfNums (be w n)).size = w := by rw [son_size, be_length]
      simp only [if_neg b]
      rw [if_neg (son_toList _ (by rw [be_length]; omega))]
      constructor
      · rintro ⟨q1, q2, q3, q4⟩
        have ek : keyOf n = strOfNums (be w n) := by unfold keyOf; rw [q3]
        rw [ek] at q4
        have ep : packB (strOfNums (be w n)) = n := by
          unfold packB
          rw [if_pos q4, hs, val_be w n (by omega) c]
        rw [if_pos ep, if_pos (by omega), ek]
      · intro q
        by_cases ep : packB (strOfNums (be w n)) = n
        · rw [if_pos ep]
          by_cases hn : n > 0
          · exfalso
            have hk2 : keyOkB (strOfNums (be w n)) = true := by
              apply Classical.byContradiction
              intro h
              unfold packB at ep
              rw [if_neg h] at ep
              omega
            have hl : ¬ w < wd n := fun h => by
              have := wd_gt n w h
              omega
            by_cases hw2 : wd n = w
            · exact q ⟨by omega, by omega, hw2, by unfold keyOf; rw [hw2]; exact hk2⟩
            · obtain ⟨v, rfl⟩ : ∃ v, w = v + 1 := ⟨w - 1, by omega⟩
              rw [be_zero v n (by omega) (wd_lt n c4 v (by omega)), keyOk_zero] at hk2
              exact Bool.noConfusion hk2
          · rw [if_neg hn]
        · rw [if_neg ep]
theorem implUnp_f (n : Int) (k : Nat) (hk : 200 < k) : impl_UnpackKey.f k n = some (unpB n) := by
  unfold impl_UnpackKey.f unpB
  have e1 := implUnp_one n 1 (k - 1) (by omega) (by omega) (by omega)
  have e2 := implUnp_one n 2 (k - 2) (by omega) (by omega) (by omega)
  have e3 := implUnp_one n 3 (k - 3) (by omega) (by omega) (by omega)
  have e4 := implUnp_one n 4 (k - 4) (by omega) (by omega) (by omega)
  rw [show k - 1 + 1 = k by omega] at e1
  rw [show k - 2 + 1 = k - 1 by omega] at e2
  rw [show k - 3 + 1 = k - 2 by omega] at e3
  rw [show k - 4 + 1 = k - 3 by omega] at e4
  have e5 : impl_UnpackKey.l0 (k - 4) n ((5 : Nat) : Int) = some (⟨#[]⟩, false) := by
    rw [show k - 4 = k - 5 + 1 by omega]
    simp only [impl_UnpackKey.l0]
    rw [if_neg (by omega)]
  have z : impl_UnpackKey.l0 k n 1 = impl_UnpackKey.l0 k n ((1 : Nat) : Int) := rfl
  rw [z]
  by_cases q : 1 ≤ n ∧ n ≤ 4294967295 ∧ keyOkB (keyOf n) = true
  · rw [if_pos q]
    have hw := wd_le n
    have hw1 : 1 ≤ wd n := by unfold wd; (repeat' split) <;> omega
    have : wd n = 1 ∨ wd n = 2 ∨ wd n = 3 ∨ wd n = 4 := by omega
    rcases this with h | h | h | h
    · exact e1.1 ⟨q.1, q.2.1, h, q.2.2⟩
    · rw [e1.2 (fun g => by have := g.2.2.1; omega)]
      exact e2.1 ⟨q.1, q.2.1, h, q.2.2⟩
    · rw [e1.2 (fun g => by have := g.2.2.1; omega), e2.2 (fun g => by have := g.2.2.1; omega)]
      exact e3.1 ⟨q.1, q.2.1, h, q.2.2⟩
    · rw [e1.2 (fun g => by have := g.2.2.1; omega), e2.2 (fun g => by have := g.2.2.1; omega), e3.2 (fun g => by have := g.2.2.1; omega)]
      exact e4.1 ⟨q.1, q.2.1, h, q.2.2⟩
  · rw [if_neg q, e1.2 (fun g => q ⟨g.1, g.2.1, g.2.2.2⟩), e2.2 (fun g => q ⟨g.1, g.2.1, g.2.2.2⟩), e3.2 (fun g => q ⟨g.1, g.2.1, g.2.2.2⟩), e4.2 (fun g => q ⟨g.1, g.2.1, g.2.2.2⟩), e5]
/-- A kind's word. -/
def kwB (x : Int) : ByteArray := if x = 1 then ⟨#[99]⟩ else if x = 2 then ⟨#[103]⟩ else if x = 3 then ⟨#[109, 115]⟩ else ⟨#[]⟩
theorem specKw_f (x : Int) : spec_KindWord.f x = some (kwB x) := by
  unfold spec_KindWord.f kwB
  rw [l1In_f, Option.bind_some]
  by_cases h : 1 ≤ x ∧ x ≤ 3
  · have : x = 1 ∨ x = 2 ∨ x = 3 := by omega
    rcases this with rfl | rfl | rfl <;> (rw [if_pos (by decide), Option.bind_some, w64 (by omega) (by omega), if_pos (by omega), if_pos (by simp)]; rfl)
  · rw [if_neg (by simp; omega), if_neg (by omega), if_neg (by omega), if_neg (by omega)]
theorem implKw_f (x : Int) : impl_KindWord.f x = some (kwB x) := by
  unfold impl_KindWord.f kwB
  repeat' split
  all_goals rfl
theorem kwB_nil (x : Int) : (kwB x).toList = ([] : List UInt8) ↔ ¬ (1 ≤ x ∧ x ≤ 3) := by
  have e1 : ¬ (⟨#[99]⟩ : ByteArray).toList = [] := son_toList [99] (by decide)
  have e2 : ¬ (⟨#[103]⟩ : ByteArray).toList = [] := son_toList [103] (by decide)
  have e3 : ¬ (⟨#[109, 115]⟩ : ByteArray).toList = [] := son_toList [109, 115] (by decide)
  unfold kwB
  split
  · exact ⟨fun h => absurd h e1, fun h => by omega⟩
  · split
    · exact ⟨fun h => absurd h e2, fun h => by omega⟩
    · split
      · exact ⟨fun h => absurd h e3, fun h => by omega⟩
      · exact ⟨fun _ => by omega, fun _ => nil_toList⟩
theorem pack_unp (n : Int) (h : (unpB n).2 = true) : 1 ≤ n ∧ n ≤ 4294967295 ∧ keyOkB (unpB n).1 = true ∧ packB (unpB n).1 = n := by
  unfold unpB at *
  split at h
  · rename_i q
    rw [if_pos q]
    refine ⟨q.1, q.2.1, q.2.2, ?_⟩
    unfold packB
    simp only
    rw [if_pos q.2.2]
    unfold keyOf
    rw [son_size, be_length, val_be _ n (by omega) (wd_lt n (by omega) _ (Nat.le_refl _))]
  · simp at h
theorem unp_size (n : Int) : (unpB n).1.size ≤ 4 := by
  unfold unpB
  split
  · unfold keyOf
    simp only
    rw [son_size, be_length]
    exact wd_le n
  · exact Nat.zero_le _
/-- A cell as a key and its kind. -/
def untB (a : Int) : ByteArray × Int := if 1 ≤ a ∧ a ≤ 17179869183 ∧ (unpB (a / 4)).2 = true ∧ 1 ≤ a % 4 then ((unpB (a / 4)).1, a % 4) else (⟨#[]⟩, 0)
theorem unt_size (a : Int) : (untB a).1.size ≤ 4 := by
  unfold untB
  split
  · exact unp_size _
  · exact Nat.zero_le _
theorem specUnt_f (a : Int) (k : Nat) (hk : 1200 < k) : spec_Untag.f k a = some (untB a) := by
  unfold spec_Untag.f untB
  rw [l1In_f, Option.bind_some]
  by_cases h : 1 ≤ a ∧ a ≤ 17179869183
  · have t1 : Int.tmod a 4 = a % 4 := Int.tmod_eq_emod_of_nonneg (by omega)
    have t2 : Int.tdiv a 4 = a / 4 := Int.tdiv_eq_ediv_of_nonneg (by omega)
    rw [if_pos (by simp [h]), t1, t2, w64 (by omega) (by omega), specUnp_f _ k hk, Option.bind_some]
    by_cases h2 : (unpB (a / 4)).2 = true
    · rw [if_pos h2, specKw_f, Option.bind_some]
      by_cases h3 : 1 ≤ a % 4
      · rw [if_neg (fun q => (kwB_nil _).1 q (by omega)), if_pos ⟨h.1, h.2, h2, h3⟩]
      · rw [if_pos ((kwB_nil _).2 (by omega)), if_neg (fun q => h3 q.2.2.2)]
    · rw [if_neg h2, if_neg (fun q => h2 q.2.2.1)]
  · rw [if_neg (by simp; omega), if_neg (fun q => h ⟨q.1, q.2.1⟩)]
theorem implTagged_f (s : ByteArray) (x : Int) (hn : s.size ≤ 9223372036854775806) (hx : 0 ≤ x ∧ x ≤ 4) (k : Nat) (hk : s.size + 10 < k) : impl_Tagged.f k s x = some (if keyOkB s = true then (if 1 ≤ x ∧ x ≤ 3 then 4 * packB s + x else 0) else 0) := by
  unfold impl_Tagged.f
  have hp := packB_range s
  rw [implKeyOk_f s hn k (by omega), Option.bind_some]
  by_cases h : keyOkB s = true
  · rw [if_pos h, if_pos h, implKw_f, Option.bind_some]
    by_cases h2 : 1 ≤ x ∧ x ≤ 3
    · rw [if_neg (fun q => (kwB_nil _).1 q h2), if_pos h2, implPack_f s hn k hk, Option.bind_some, w64 (i := 4 * packB s) (by omega) (by omega), w64 (by omega) (by omega)]
    · rw [if_pos ((kwB_nil _).2 h2), if_neg h2]
  · rw [if_neg h, if_neg h]
theorem tdiv4 (a : Int) : (0 ≤ a → Int.tdiv a 4 = a / 4) ∧ (a < 0 → Int.tdiv a 4 = -((-a) / 4)) := by
  constructor
  · intro h
    exact Int.tdiv_eq_ediv_of_nonneg h
  · intro h
    have e := Int.neg_tdiv (-a) 4
    rw [Int.neg_neg, Int.tdiv_eq_ediv_of_nonneg (a := -a) (by omega)] at e
    exact e
theorem implUnt_f (a : Int) (ha : -9223372036854775808 ≤ a) (ha2 : a ≤ 9223372036854775807) (k : Nat) (hk : 1200 < k) : impl_Untag.f k a = some (untB a) := by
  unfold impl_Untag.f untB
  have hd := tdiv4 a
  have ht : -9223372036854775808 ≤ Int.tdiv a 4 ∧ Int.tdiv a 4 ≤ 9223372036854775807 := by omega
  rw [w64 ht.1 ht.2, implUnp_f _ k (by omega), Option.bind_some]
  by_cases h2 : (unpB (Int.tdiv a 4)).2 = true
  · rw [if_pos h2]
    obtain ⟨q1, q2, q3, q4⟩ := pack_unp _ h2
    have h0 : 0 ≤ a := by omega
    have t1 : Int.tmod a 4 = a % 4 := Int.tmod_eq_emod_of_nonneg (by omega)
    have t2 : Int.tdiv a 4 = a / 4 := Int.tdiv_eq_ediv_of_nonneg (by omega)
    clear hd ht
    rw [t2] at q1 q2 q3 q4 h2 ⊢
    rw [t1]
    have hs := unp_size (a / 4)
    rw [implTagged_f _ _ (by omega) (by omega) k (by omega), Option.bind_some, if_pos q3]
    by_cases h3 : 1 ≤ a % 4
    · rw [if_pos (by omega), if_pos ⟨by omega, by omega, h2, h3⟩]
    · rw [if_neg (by omega), if_neg (fun q => h3 q.2.2.2)]
  · rw [if_neg h2, if_neg]
    rintro ⟨g1, g2, g3, g4⟩
    rw [Int.tdiv_eq_ediv_of_nonneg (by omega)] at h2
    exact h2 g3
/-- The first look, from number i on, at a free slot or at the key. -/
def lookAt (x : List Int) (s : ByteArray) (i : Nat) : Prop := rd x (3 + probeB s (i : Int)) = 0 ∨ (untB (rd x (3 + probeB s (i : Int)))).1.toList = s.toList
instance (x : List Int) (s : ByteArray) (i : Nat) : Decidable (lookAt x s i) := by unfold lookAt; infer_instance
def pfind (x : List Int) (s : ByteArray) : Nat → Nat → Option Nat
  | 0, _ => none
  | d + 1, i => if lookAt x s i then some i else pfind x s d (i + 1)
theorem pfind_in (x : List Int) (s : ByteArray) (d : Nat) : ∀ i j, pfind x s d i = some j → i ≤ j ∧ j < i + d ∧ lookAt x s j := by
  induction d with
  | zero => intro i j h; simp [pfind] at h
  | succ d ih =>
    intro i j h
    simp only [pfind] at h
    split at h
    · rename_i q
      have : i = j := by simpa using h
      subst this
      exact ⟨by omega, by omega, q⟩
    · have := ih _ _ h
      exact ⟨by omega, by omega, this.2.2⟩
theorem cell_range (x : List Int) (hx : cellsOkB x = true) (i : Int) (h0 : 0 ≤ i) (h1 : i < 71) : 0 ≤ rd x i ∧ rd x i ≤ 281474976710655 := by
  have hl := cellsOk_len hx
  unfold cellsOkB at hx
  simp only [Bool.and_eq_true, List.all_eq_true] at hx
  obtain ⟨n, rfl⟩ := Int.eq_ofNat_of_zero_le h0
  rw [rd_at x n (by omega)]
  have := hx.1 x[n] (List.getElem_mem _)
  simpa [isWordB] using this
/-- The number of looks that a key takes. -/
def plenB (x : List Int) (s : ByteArray) : Int := if cellsOkB x = true ∧ keyOkB s = true then (match pfind x s 4 0 with | some j => (j : Int) + 1 | none => 4) else 0
theorem implPr_l0 (x : List Int) (s : ByteArray) (hx : cellsOkB x = true) (hs : keyOkB s = true) (d : Nat) : ∀ (k i : Nat), i + d = 4 → 1300 + d < k → ∃ b, impl_probed.l0 k x s (i : Int) = some (match pfind x s d i with | some j => (probeB s (j : Int), b) | none => (-1, false)) := by
  have hsz := keyOk_size s hs
  have hl := cellsOk_len hx
  induction d with
  | zero =>
    intro k i hd hk
    obtain ⟨k, rfl⟩ : ∃ m, k = m + 1 := ⟨k - 1, by omega⟩
    simp only [impl_probed.l0, pfind]
    exact ⟨true, by rw [if_neg (by omega)]⟩
  | succ d ih =>
    intro k i hd hk
    obtain ⟨k, rfl⟩ : ∃ m, k = m + 1 := ⟨k - 1, by omega⟩
    have hp := probeB_range s (i : Int) hs (by omega) (by omega)
    have hc := cell_range x hx (3 + probeB s (i : Int)) (by omega) (by omega)
    simp only [impl_probed.l0, pfind]
    rw [if_pos (by omega), implProbe_f s _ (by omega) k (by omega), Option.bind_some, implKeyCell_f _ hp.1 hp.2, Option.bind_some, if_pos (by omega), if_pos (by omega), implUnt_f _ (by omega) (by omega) k (by omega), Option.bind_some, w64 (by omega) (by omega)]
    by_cases h1 : rd x (3 + probeB s (i : Int)) = 0
    · rw [if_pos h1, if_pos (.inl h1)]
      exact ⟨false, rfl⟩
    · rw [if_neg h1]
      by_cases h2 : (untB (rd x (3 + probeB s (i : Int)))).1.toList = s.toList
      · rw [if_pos h2, if_pos (.inr h2)]
        exact ⟨true, rfl⟩
      · rw [if_neg h2, if_neg (fun q => q.elim h1 h2), succ_cast]
        exact ih k (i + 1) (by omega) (by omega)
theorem probe_ne (s : ByteArray) (hs : keyOkB s = true) (i j : Int) (h0 : 0 ≤ i) (hi : i < 4) (h1 : 0 ≤ j) (hj : j < 4) (h : probeB s i = probeB s j) : i = j := by
  unfold probeB at h
  rw [if_pos hs, if_pos (by omega), if_pos hs, if_pos (by omega)] at h
  omega
theorem implPL_l0 (s : ByteArray) (hs : keyOkB s = true) (at_ : Int) (r : Int) (hr : (at_ = -1 ∧ r = 4) ∨ ∃ j : Nat, j < 4 ∧ at_ = probeB s (j : Int) ∧ r = (j : Int) + 1) (d : Nat) : ∀ (k i : Nat), i + d = 4 → 1300 + d < k → (∀ j : Nat, j < i → at_ ≠ probeB s (j : Int)) → impl_ProbeLen.l0 k s at_ (i : Int) = some r := by
  have hsz := keyOk_size s hs
  induction d with
  | zero =>
    intro k i hd hk hne
    obtain ⟨k, rfl⟩ : ∃ m, k = m + 1 := ⟨k - 1, by omega⟩
    simp only [impl_ProbeLen.l0]
    rw [if_neg (by omega)]
    rcases hr with h | ⟨j, h1, h2, h3⟩
    · rw [h.2]
    · exact absurd h2 (hne j (by omega))
  | succ d ih =>
    intro k i hd hk hne
    obtain ⟨k, rfl⟩ : ∃ m, k = m + 1 := ⟨k - 1, by omega⟩
    have hp := probeB_range s (i : Int) hs (by omega) (by omega)
    simp only [impl_ProbeLen.l0]
    rw [if_pos (by omega), implProbe_f s _ (by omega) k (by omega), Option.bind_some, w64 (by omega) (by omega)]
    by_cases h : probeB s (i : Int) = at_
    · rw [if_pos h]
      rcases hr with g | ⟨j, h1, h2, h3⟩
      · omega
      · rw [h2] at h
        have := probe_ne s hs _ _ (by omega) (by omega) (by omega) (by omega) h
        rw [h3, this]
    · rw [if_neg h, succ_cast]
      refine ih k (i + 1) (by omega) (by omega) ?_
      intro j hj
      by_cases e : j = i
      · subst e
        exact fun q => h q.symm
      · exact hne j (by omega)
theorem implPL_f (x : List Int) (s : ByteArray) (hs : s.size ≤ 1048576) (k : Nat) (hk : 1048700 < k) : impl_ProbeLen.f k x s = some (plenB x s) := by
  unfold impl_ProbeLen.f plenB
  obtain ⟨k, rfl⟩ : ∃ m, k = m + 1 := ⟨k - 1, by omega⟩
  rw [implCO_f x, Option.bind_some]
  by_cases hx : cellsOkB x = true
  · rw [if_pos hx, implKeyOk_f s (by omega) _ (by omega), Option.bind_some]
    simp only [impl_ProbeLen.j0]
    by_cases h : keyOkB s = true
    · rw [if_neg (by simp [h]), if_pos ⟨hx, h⟩]
      obtain ⟨b, e⟩ := implPr_l0 x s hx h 4 k 0 (by omega) (by omega)
      have e2 : impl_probed.f k x s = impl_probed.l0 k x s ((0 : Nat) : Int) := rfl
      rw [e2, e, Option.bind_some]
      have L := fun a r hr => implPL_l0 s h a r hr 4 k 0 (by omega) (by omega) (fun j hj => by omega)
      cases hf : pfind x s 4 0 with
      | none => exact L _ _ (.inl ⟨rfl, rfl⟩)
      | some j =>
        have := pfind_in x s 4 0 j hf
        exact L _ _ (.inr ⟨j, by omega, rfl, rfl⟩)
    · rw [if_pos (by simp [h]), if_neg (fun q => h q.2)]
  · rw [if_neg hx, if_neg (fun q => hx q.1)]
    simp only [impl_ProbeLen.j0]
    rw [if_pos trivial]
/-- The keys of a list of cells, from slot i on. -/
def keysFrom (x : List Int) : Nat → Nat → List ByteArray
  | 0, _ => []
  | d + 1, i => if (untB (rd x (3 + (i : Int)))).2 = 0 then keysFrom x d (i + 1) else (untB (rd x (3 + (i : Int)))).1 :: keysFrom x d (i + 1)
def keysInB (x : List Int) : List ByteArray := if cellsOkB x = true then keysFrom x 4 0 else []
theorem keysFrom_le (x : List Int) (d : Nat) : ∀ i, (keysFrom x d i).length ≤ d := by
  induction d with
  | zero => intro i; exact Nat.le_refl _
  | succ d ih =>
    intro i
    have := ih (i + 1)
    simp only [keysFrom]
    split
    · omega
    · simp; omega
theorem keysFrom_size (x : List Int) (d : Nat) : ∀ i, ∀ s ∈ keysFrom x d i, s.size ≤ 4 := by
  induction d with
  | zero => intro i s h; simp [keysFrom] at h
  | succ d ih =>
    intro i s h
    simp only [keysFrom] at h
    split at h
    · exact ih _ _ h
    · rcases List.mem_cons.1 h with rfl | h
      · exact unt_size _
      · exact ih _ _ h
theorem keysIn_le (x : List Int) : (keysInB x).length ≤ 4 := by
  unfold keysInB
  split
  · exact keysFrom_le x 4 0
  · exact Nat.zero_le _
theorem keysIn_mem (x : List Int) (s : ByteArray) (h : s ∈ keysInB x) : s.size ≤ 4 := by
  unfold keysInB at h
  split at h
  · exact keysFrom_size x 4 0 s h
  · simp at h
theorem keysIn_size (x : List Int) (i : Int) : (rdOf ByteArray.empty (keysInB x) i).size ≤ 4 := by
  unfold rdOf
  rw [List.getD_eq_getElem?_getD]
  cases h : (keysInB x)[i.toNat]? with
  | none => exact Nat.zero_le _
  | some s => exact keysIn_mem x s (List.mem_of_getElem? h)
theorem unt_kind (a : Int) : (untB a).2 = 0 ∨ (untB a).2 > 0 := by
  unfold untB
  split
  · right; simp only; omega
  · left; rfl
theorem specKI_l0 (x : List Int) (hn : x.length ≤ 1048576) (hx : cellsOkB x = true) (d : Nat) : ∀ (k i : Nat) (acc : List ByteArray), i + d = 4 → acc.length ≤ i → 1048600 + 2 * d < k → spec_KeysIn.l0 k x acc (i : Int) = some (acc ++ keysFrom x d i) := by
  have hl := cellsOk_len hx
  induction d with
  | zero =>
    intro k i acc hd ha hk
    obtain ⟨k, rfl⟩ : ∃ m, k = m + 2 := ⟨k - 2, by omega⟩
    simp only [spec_KeysIn.l0, keysFrom]
    rw [if_neg (by omega), List.append_nil]
    simp only [spec_KeysIn.j1]
    rw [if_neg (by simp)]
  | succ d ih =>
    intro k i acc hd ha hk
    obtain ⟨k, rfl⟩ : ∃ m, k = m + 2 := ⟨k - 2, by omega⟩
    simp only [spec_KeysIn.l0, keysFrom]
    rw [if_pos (by omega), specCO_f x (by omega) _ (by omega), Option.bind_some]
    simp only [spec_KeysIn.j1]
    rw [if_pos hx, specKeyCell_f _ (by omega) (by omega), Option.bind_some, if_pos (by omega), if_pos (by omega), specUnt_f _ k (by omega), Option.bind_some, w64 (by omega) (by omega), succ_cast]
    by_cases h : (untB (rd x (3 + (i : Int)))).2 = 0
    · rw [if_pos h, if_pos h]
      exact ih k (i + 1) acc (by omega) (by omega) (by omega)
    · rw [if_neg h, if_neg h, if_pos (by omega), ih k (i + 1) _ (by omega) (by simp; omega) (by omega)]
      simp
theorem specKI_f (x : List Int) (hn : x.length ≤ 1048576) (k : Nat) (hk : 1048700 < k) : spec_KeysIn.f k x = some (keysInB x) := by
  unfold spec_KeysIn.f keysInB
  by_cases hx : cellsOkB x = true
  · rw [if_pos hx]
    exact specKI_l0 x hn hx 4 k 0 [] (by omega) (by simp) (by omega)
  · rw [if_neg hx]
    obtain ⟨k, rfl⟩ : ∃ m, k = m + 2 := ⟨k - 2, by omega⟩
    simp only [spec_KeysIn.l0]
    rw [if_pos (by omega), specCO_f x (by omega) _ (by omega), Option.bind_some]
    simp only [spec_KeysIn.j1]
    rw [if_neg hx]
theorem implKI_l0 (x : List Int) (hx : cellsOkB x = true) (d : Nat) : ∀ (k i : Nat) (acc : List ByteArray), i + d = 4 → acc.length ≤ i → 1300 + 2 * d < k → impl_KeysIn.l0 k x acc (i : Int) = some (acc ++ keysFrom x d i) := by
  have hl := cellsOk_len hx
  induction d with
  | zero =>
    intro k i acc hd ha hk
    obtain ⟨k, rfl⟩ : ∃ m, k = m + 1 := ⟨k - 1, by omega⟩
    simp only [impl_KeysIn.l0, keysFrom]
    rw [if_neg (by omega), List.append_nil]
  | succ d ih =>
    intro k i acc hd ha hk
    obtain ⟨k, rfl⟩ : ∃ m, k = m + 1 := ⟨k - 1, by omega⟩
    have hc := cell_range x hx (3 + (i : Int)) (by omega) (by omega)
    have hu := unt_kind (rd x (3 + (i : Int)))
    simp only [impl_KeysIn.l0, keysFrom]
    rw [if_pos (by omega), implKeyCell_f _ (by omega) (by omega), Option.bind_some, if_pos (by omega), if_pos (by omega), implUnt_f _ (by omega) (by omega) k (by omega), Option.bind_some, w64 (by omega) (by omega), succ_cast]
    by_cases h : (untB (rd x (3 + (i : Int)))).2 = 0
    · rw [if_neg (by omega), if_pos h]
      exact ih k (i + 1) acc (by omega) (by omega) (by omega)
    · rw [if_pos (by omega), if_neg h, if_pos (by omega), ih k (i + 1) _ (by omega) (by simp; omega) (by omega)]
      simp
theorem implKI_f (x : List Int) (k : Nat) (hk : 1400 < k) : impl_KeysIn.f k x = some (keysInB x) := by
  unfold impl_KeysIn.f keysInB
  rw [Option.bind_some, implCO_f x, Option.bind_some]
  by_cases hx : cellsOkB x = true
  · rw [if_pos hx, if_pos hx]
    exact implKI_l0 x hx 4 k 0 [] (by omega) (by simp) (by omega)
  · rw [if_neg hx, if_neg hx]
theorem be_val (s : ByteArray) (w : Nat) : be w (val s 0 w) = (List.range w).map (fun j => bt s ((j : Nat) : Int)) := by
  induction w with
  | zero => rfl
  | succ w ih =>
    have hb := bt_range s ((w : Nat) : Int)
    have e1 : (val s 0 w * 256 + bt s ((w : Nat) : Int)) / 256 = val s 0 w := by omega
    have e2 : (val s 0 w * 256 + bt s ((w : Nat) : Int)) % 256 = bt s ((w : Nat) : Int) := by omega
    simp only [be, val, Nat.zero_add]
    rw [e1, e2, ih, List.range_succ, List.map_append]
    rfl
theorem son_val (s : ByteArray) : strOfNums (be s.size (val s 0 s.size)) = s := by
  rw [be_val]
  apply ByteArray.ext
  apply Array.ext
  · simp [strOfNums]
  · intro i h1 h2
    have hs : i < s.size := h2
    simp only [strOfNums, List.getElem_toArray, List.getElem_map, List.getElem_range]
    unfold bt
    rw [dif_pos (by omega)]
    simp
    rfl
theorem kb_pos (c : Int) (h : kb c = true) : 1 ≤ c := by
  unfold kb at h
  simp only [Bool.or_eq_true, Bool.and_eq_true, decide_eq_true_eq] at h
  omega
theorem key_first (s : ByteArray) (h : keyOkB s = true) : 1 ≤ bt s 0 := by
  have hs := keyOk_size s h
  unfold keyOkB at h
  obtain ⟨n, hn⟩ : ∃ n, s.size = n + 1 := ⟨s.size - 1, by omega⟩
  rw [hn] at h
  simp only [keyOkFrom, Bool.and_eq_true] at h
  exact kb_pos _ h.1
theorem val_first (s : ByteArray) (w : Nat) (h : 1 ≤ bt s 0) : 256 ^ w ≤ val s 0 (w + 1) := by
  induction w with
  | zero => simp [val]; exact h
  | succ w ih =>
    have hb := bt_range s ((w + 1 : Nat) : Int)
    have e : val s 0 (w + 1 + 1) = val s 0 (w + 1) * 256 + bt s ((w + 1 : Nat) : Int) := by simp only [val, Nat.zero_add]
    rw [e, Int.pow_succ]
    omega
theorem wd_of (n : Int) (w : Nat) (hw : w ≤ 3) (h1 : 256 ^ w ≤ n) (h2 : n < 256 ^ (w + 1)) : wd n = w + 1 := by
  have : w = 0 ∨ w = 1 ∨ w = 2 ∨ w = 3 := by omega
  unfold wd
  rcases this with rfl | rfl | rfl | rfl
  · simp at h1 h2; rw [if_neg (by omega), if_pos (by omega)]
  · simp at h1 h2; rw [if_neg (by omega), if_neg (by omega), if_pos (by omega)]
  · simp at h1 h2; rw [if_neg (by omega), if_neg (by omega), if_neg (by omega), if_pos (by omega)]
  · simp at h1 h2; rw [if_neg (by omega), if_neg (by omega), if_neg (by omega), if_neg (by omega)]
/-- A key's number tells the key. -/
theorem unp_pack (s : ByteArray) (h : keyOkB s = true) : unpB (packB s) = (s, true) := by
  have hs := keyOk_size s h
  have hp : packB s = val s 0 s.size := by unfold packB; rw [if_pos h]
  have hr := packB_range s
  obtain ⟨n, hn⟩ : ∃ n, s.size = n + 1 := ⟨s.size - 1, by omega⟩
  have hf := val_first s n (key_first s h)
  have hl := val_range s 0 (n + 1)
  have hw : wd (packB s) = s.size := by
    rw [hp, hn]
    exact wd_of _ n (by omega) hf hl.2
  have hk : keyOf (packB s) = s := by
    unfold keyOf
    rw [hw, hp]
    exact son_val s
  have h1 : (1 : Int) ≤ packB s := by
    rw [hp, hn]
    have : (0 : Int) < 256 ^ n := Int.pow_pos (by omega)
    omega
  unfold unpB
  rw [hk, if_pos ⟨h1, by omega, h⟩]
/-- A key and its kind as a cell; 0 for what is none. -/
def tagB (s : ByteArray) (x : Int) : Int := if keyOkB s = true ∧ 1 ≤ x ∧ x ≤ 3 then 4 * packB s + x else 0
theorem tagB_range (s : ByteArray) (x : Int) : 0 ≤ tagB s x ∧ tagB s x ≤ 281474976710655 := by
  have := packB_range s
  unfold tagB
  split <;> omega
theorem unt_tag (s : ByteArray) (x : Int) (h : tagB s x ≠ 0) : untB (tagB s x) = (s, x) := by
  have hp := packB_range s
  unfold tagB at *
  by_cases q : keyOkB s = true ∧ 1 ≤ x ∧ x ≤ 3
  · rw [if_pos q]
    have e1 : (4 * packB s + x) / 4 = packB s := by omega
    have e2 : (4 * packB s + x) % 4 = x := by omega
    have hu := unp_pack s q.1
    have h1 := (pack_unp (packB s) (by rw [hu])).1
    unfold untB
    rw [e1, e2, hu, if_pos ⟨by omega, by omega, rfl, by omega⟩]
  · rw [if_neg q] at h
    exact absurd rfl h
/-- A cell that tells a key is that key's cell. -/
theorem tag_unt (c : Int) (h : (untB c).2 ≠ 0) : tagB (untB c).1 (untB c).2 = c ∧ keyOkB (untB c).1 = true ∧ 1 ≤ (untB c).2 ∧ (untB c).2 ≤ 3 := by
  unfold untB at *
  split at h
  · rename_i q
    rw [if_pos q]
    obtain ⟨g1, g2, g3, g4⟩ := pack_unp (c / 4) q.2.2.1
    simp only
    unfold tagB
    rw [if_pos ⟨g3, by omega, by omega⟩, g4]
    exact ⟨by omega, g3, by omega, by omega⟩
  · exact absurd rfl h
theorem implTag_f (s : ByteArray) (x : Int) (hn : s.size ≤ 1048576) (k : Nat) (hk : 1048700 < k) : impl_Tagged.f k s x = some (tagB s x) := by
  unfold impl_Tagged.f tagB
  have hp := packB_range s
  rw [implKeyOk_f s (by omega) k (by omega), Option.bind_some]
  by_cases h : keyOkB s = true
  · rw [if_pos h, implKw_f, Option.bind_some]
    by_cases h2 : 1 ≤ x ∧ x ≤ 3
    · rw [if_neg (fun q => (kwB_nil _).1 q h2), if_pos ⟨h, h2⟩, implPack_f s (by omega) k (by omega), Option.bind_some, w64 (i := 4 * packB s) (by omega) (by omega), w64 (by omega) (by omega)]
    · rw [if_pos ((kwB_nil _).2 h2), if_neg (fun q => h2 q.2)]
  · rw [if_neg h, if_neg (fun q => h q.1)]
theorem specPack_l0 (s : ByteArray) (hs : s.size ≤ 4) (d : Nat) : ∀ k i : Nat, i + d = s.size → d < k → spec_PackKey.l0 k s (val s 0 i) (i : Int) = some (val s 0 s.size) := by
  induction d with
  | zero =>
    intro k i hd hk
    obtain ⟨k, rfl⟩ : ∃ m, k = m + 1 := ⟨k - 1, by omega⟩
    simp only [spec_PackKey.l0]
    rw [if_neg (by omega)]
    have : i = s.size := by omega
    rw [this]
  | succ d ih =>
    intro k i hd hk
    obtain ⟨k, rfl⟩ : ∃ m, k = m + 1 := ⟨k - 1, by omega⟩
    have hb := bt_range s (i : Int)
    have hv := val_range s 0 i
    have hp := p256 i (by omega)
    simp only [spec_PackKey.l0]
    rw [if_pos (by omega), if_pos (by omega), w64 (i := val s 0 i * 256) (by omega) (by omega), w64 (i := bt s _) (by omega) (by omega), w64 (i := _ + bt s _) (by omega) (by omega), w64 (by omega) (by omega), succ_cast]
    have e : val s 0 i * 256 + bt s (i : Int) = val s 0 (i + 1) := by simp only [val, Nat.zero_add]
    rw [e]
    exact ih k (i + 1) (by omega) (by omega)
theorem specTag_f (s : ByteArray) (x : Int) (hn : s.size ≤ 1048576) (k : Nat) (hk : 1048700 < k) : spec_Tagged.f k s x = some (tagB s x) := by
  unfold spec_Tagged.f tagB spec_PackKey.f
  have hp := packB_range s
  rw [specKeyOk_f s (by omega) k (by omega), Option.bind_some]
  by_cases h : keyOkB s = true
  · have hs := keyOk_size s h
    have e : packB s = val s 0 s.size := by unfold packB; rw [if_pos h]
    have q : spec_PackKey.l0 k s 0 0 = some (val s 0 s.size) := specPack_l0 s hs.2 s.size k 0 (by omega) (by omega)
    rw [if_pos h, specKw_f, Option.bind_some, Option.bind_some, if_pos h, q, ← e]
    by_cases h2 : 1 ≤ x ∧ x ≤ 3
    · rw [if_neg (fun q => (kwB_nil _).1 q h2), if_pos ⟨h, h2⟩, Option.bind_some, w64 (i := packB s * 4) (by omega) (by omega), w64 (by omega) (by omega), Int.mul_comm]
    · rw [if_pos ((kwB_nil _).2 h2), if_neg (fun q => h2 q.2)]
  · rw [if_neg h, if_neg (fun q => h q.1)]
theorem ba_of_toList (a b : ByteArray) (h : a.toList = b.toList) : a = b := by
  rw [ByteArray.toList_eq, ByteArray.toList_eq] at h
  apply ByteArray.ext
  exact Array.toList_inj.1 h
theorem unt_zero (c : Int) (h : (untB c).2 = 0) : (untB c).1 = ⟨#[]⟩ := by
  unfold untB at *
  split
  · rename_i q
    rw [if_pos q] at h
    simp only at h
    omega
  · rfl
theorem implPr2_l0 (x : List Int) (s : ByteArray) (hx : cellsOkB x = true) (hs : keyOkB s = true) (d : Nat) : ∀ (k i : Nat), i + d = 4 → 1300 + d < k → impl_probed.l0 k x s (i : Int) = some (match pfind x s d i with | some j => (probeB s (j : Int), !decide (rd x (3 + probeB s (j : Int)) = 0)) | none => (-1, false)) := by
  have hsz := keyOk_size s hs
  have hl := cellsOk_len hx
  induction d with
  | zero =>
    intro k i hd hk
    obtain ⟨k, rfl⟩ : ∃ m, k = m + 1 := ⟨k - 1, by omega⟩
    simp only [impl_probed.l0, pfind]
    rw [if_neg (by omega)]
  | succ d ih =>
    intro k i hd hk
    obtain ⟨k, rfl⟩ : ∃ m, k = m + 1 := ⟨k - 1, by omega⟩
    have hp := probeB_range s (i : Int) hs (by omega) (by omega)
    have hc := cell_range x hx (3 + probeB s (i : Int)) (by omega) (by omega)
    simp only [impl_probed.l0, pfind]
    rw [if_pos (by omega), implProbe_f s _ (by omega) k (by omega), Option.bind_some, implKeyCell_f _ hp.1 hp.2, Option.bind_some, if_pos (by omega), if_pos (by omega), implUnt_f _ (by omega) (by omega) k (by omega), Option.bind_some, w64 (by omega) (by omega)]
    by_cases h1 : rd x (3 + probeB s (i : Int)) = 0
    · rw [if_pos h1, if_pos (.inl h1)]
      simp [h1]
    · rw [if_neg h1]
      by_cases h2 : (untB (rd x (3 + probeB s (i : Int)))).1.toList = s.toList
      · rw [if_pos h2, if_pos (.inr h2)]
        simp [h1]
      · rw [if_neg h2, if_neg (fun q => q.elim h1 h2), succ_cast]
        exact ih k (i + 1) (by omega) (by omega)
theorem specFind_l0 (x : List Int) (s : ByteArray) (hx : cellsOkB x = true) (hs : keyOkB s = true) (d : Nat) : ∀ (k i : Nat), i + d = 4 → 1300 + d < k → spec_l6Find.l0 k x s (i : Int) = some (match pfind x s d i with | some j => (if rd x (3 + probeB s (j : Int)) = 0 then (-1, 0, probeB s (j : Int)) else (probeB s (j : Int), (untB (rd x (3 + probeB s (j : Int)))).2, -1)) | none => (-1, 0, -1)) := by
  have hsz := keyOk_size s hs
  have hl := cellsOk_len hx
  induction d with
  | zero =>
    intro k i hd hk
    obtain ⟨k, rfl⟩ : ∃ m, k = m + 1 := ⟨k - 1, by omega⟩
    simp only [spec_l6Find.l0, pfind]
    rw [if_neg (by omega)]
  | succ d ih =>
    intro k i hd hk
    obtain ⟨k, rfl⟩ : ∃ m, k = m + 1 := ⟨k - 1, by omega⟩
    have hp := probeB_range s (i : Int) hs (by omega) (by omega)
    simp only [spec_l6Find.l0, pfind]
    rw [if_pos (by omega), specProbe_f s _ (by omega) k (by omega), Option.bind_some, specKeyCell_f _ hp.1 hp.2, Option.bind_some, if_pos (by omega), if_pos (by omega)]
    by_cases h1 : rd x (3 + probeB s (i : Int)) = 0
    · rw [if_pos h1, if_pos (.inl h1)]
      simp [h1]
    · rw [if_neg h1, specUnt_f _ k (by omega), Option.bind_some]
      by_cases h2 : (untB (rd x (3 + probeB s (i : Int)))).1.toList = s.toList
      · rw [if_pos h2, if_pos (.inr h2)]
        simp [h1]
      · rw [if_neg h2, if_neg (fun q => q.elim h1 h2), w64 (by omega) (by omega), succ_cast]
        exact ih k (i + 1) (by omega) (by omega)
/-- What registering a key answers: the cells behind it, the slot, the code. -/
def regB (a : List Int) (s : ByteArray) (x : Int) : List Int × Int × Int :=
  if cellsOkB a = true ∧ tagB s x ≠ 0 then
    (match pfind a s 4 0 with
     | none => (a, -1, 3)
     | some j => if rd a (3 + probeB s (j : Int)) = 0 then (a.set (3 + probeB s (j : Int)).toNat (tagB s x), probeB s (j : Int), 0) else if (untB (rd a (3 + probeB s (j : Int)))).2 = x then (a, probeB s (j : Int), 0) else (a, probeB s (j : Int), 4))
  else (a, -1, 1)
theorem tag_key (s : ByteArray) (x : Int) (h : tagB s x ≠ 0) : keyOkB s = true := by
  unfold tagB at h
  apply Classical.byContradiction
  intro q
  rw [if_neg (fun z => q z.1)] at h
  exact h rfl
theorem cell_tag (a : List Int) (s : ByteArray) (x : Int) (hs : keyOkB s = true) (j : Nat) (hl : lookAt a s j) (h0 : rd a (3 + probeB s (j : Int)) ≠ 0) (hT : tagB s x ≠ 0) : rd a (3 + probeB s (j : Int)) = tagB s x ↔ (untB (rd a (3 + probeB s (j : Int)))).2 = x := by
  have e : (untB (rd a (3 + probeB s (j : Int)))).1 = s := ba_of_toList _ _ (hl.resolve_left h0)
  constructor
  · intro h
    rw [h, unt_tag s x hT]
  · intro h
    have hz : (untB (rd a (3 + probeB s (j : Int)))).2 ≠ 0 := by
      intro q
      have := unt_zero _ q
      rw [e] at this
      have hk := keyOk_size s hs
      rw [this] at hk
      exact absurd hk.1 (by decide)
    have := (tag_unt _ hz).1
    rw [e, h] at this
    exact this.symm
theorem copied_f (a : List Int) (h : a.length ≤ 1048576) : impl_copied.f a = some a := by
  unfold impl_copied.f
  simp only [Option.bind_some, List.nil_append, List.length_nil]
  rw [if_pos (by omega)]
theorem l2Copy_f (a : List Int) (h : a.length ≤ 1048576) : spec_l2Copy.f a = some a := by
  unfold spec_l2Copy.f
  simp only [Option.bind_some, List.nil_append, List.length_nil]
  rw [if_pos (by omega)]
theorem storeCell_f (a : List Int) (i v : Int) (ha : cellsOkB a = true) (h0 : 0 ≤ i) (h1 : i < 71) (hv : 0 ≤ v ∧ v ≤ 281474976710655) : impl_StoreCell.f a i v = some (a.set i.toNat v, true) := by
  have hl := cellsOk_len ha
  unfold impl_StoreCell.f slices_Clone_int_int.f impl_LoadCell.f impl_isWord.f
  rw [if_pos (by omega), implCO_f, w64 (by omega) (by omega)]
  simp only [within_f, Option.bind_some]
  rw [if_pos ha, if_pos (by simp; omega), if_pos h0, if_pos (by omega)]
  simp only [Option.bind_some]
  rw [if_pos trivial, if_pos (by simp; omega), if_pos h0, if_pos (by omega)]
theorem implReg_f (a : List Int) (s : ByteArray) (x : Int) (ha : a.length ≤ 1048576) (hs : s.size ≤ 1048576) (k : Nat) (hk : 1048800 < k) : impl_Register.f k a s x = some (regB a s x) := by
  unfold impl_Register.f regB
  obtain ⟨k, rfl⟩ : ∃ m, k = m + 1 := ⟨k - 1, by omega⟩
  rw [implTag_f s x hs _ (by omega), Option.bind_some, implCO_f, Option.bind_some]
  by_cases hx : cellsOkB a = true
  · rw [if_pos hx]
    simp only [impl_Register.j0]
    by_cases hT : tagB s x = 0
    · rw [if_pos (by simp [hT]), if_neg (fun q => q.2 hT), copied_f a ha, Option.bind_some]
    · have hsk := tag_key s x hT
      have hl := cellsOk_len hx
      rw [if_neg (by simp [hT]), if_pos ⟨hx, hT⟩]
      have e : impl_probed.f k a s = _ := implPr2_l0 a s hx hsk 4 k 0 (by omega) (by omega)
      rw [e, Option.bind_some]
      cases hf : pfind a s 4 0 with
      | none =>
        simp only
        rw [if_pos (by omega), copied_f a ha, Option.bind_some]
      | some j =>
        have hj := pfind_in a s 4 0 j hf
        have hp := probeB_range s (j : Int) hsk (by omega) (by omega)
        simp only
        rw [if_neg (by omega)]
        by_cases h0 : rd a (3 + probeB s (j : Int)) = 0
        · rw [if_neg (by simp [h0]), if_pos h0, implKeyCell_f _ hp.1 hp.2, Option.bind_some, storeCell_f a _ _ hx (by omega) (by omega) (tagB_range s x), Option.bind_some]
        · rw [if_pos (by simp [h0]), if_neg h0, implKeyCell_f _ hp.1 hp.2, Option.bind_some, if_pos (by omega), if_pos (by omega)]
          have ct := cell_tag a s x hsk j hj.2.2 h0 hT
          by_cases h3 : rd a (3 + probeB s (j : Int)) = tagB s x
          · rw [if_pos h3, if_pos (ct.1 h3), copied_f a ha, Option.bind_some]
          · rw [if_neg h3, if_neg (fun q => h3 (ct.2 q)), copied_f a ha, Option.bind_some]
  · rw [if_neg hx, if_neg (fun q => hx q.1)]
    simp only [impl_Register.j0]
    rw [if_pos trivial, copied_f a ha, Option.bind_some]
theorem specReg_f (a : List Int) (s : ByteArray) (x : Int) (ha : a.length ≤ 1048576) (hs : s.size ≤ 1048576) (k : Nat) (hk : 1048800 < k) : spec_Register.f k a s x = some (regB a s x) := by
  unfold spec_Register.f regB
  obtain ⟨k, rfl⟩ : ∃ m, k = m + 2 := ⟨k - 2, by omega⟩
  rw [l2Copy_f a ha, Option.bind_some, specCO_f a (by omega) _ (by omega), Option.bind_some]
  by_cases hx : cellsOkB a = true
  · rw [if_pos hx, specTag_f s x hs _ (by omega), Option.bind_some]
    simp only [spec_Register.j0]
    by_cases hT : tagB s x = 0
    · rw [if_pos (by simp [hT]), if_neg (fun q => q.2 hT)]
    · have hsk := tag_key s x hT
      have hl := cellsOk_len hx
      rw [if_neg (by simp [hT]), if_pos ⟨hx, hT⟩]
      have e : spec_l6Find.f (k + 1) a s = _ := specFind_l0 a s hx hsk 4 (k + 1) 0 (by omega) (by omega)
      rw [e, Option.bind_some]
      cases hf : pfind a s 4 0 with
      | none =>
        simp only
        rw [if_neg (by omega)]
        simp only [spec_Register.j1]
        rw [if_neg (by simp), if_neg (by omega), if_pos (by omega)]
      | some j =>
        have hj := pfind_in a s 4 0 j hf
        have hp := probeB_range s (j : Int) hsk (by omega) (by omega)
        simp only
        by_cases h0 : rd a (3 + probeB s (j : Int)) = 0
        · rw [if_pos h0, if_pos h0]
          simp only
          rw [if_neg (by omega)]
          simp only [spec_Register.j1]
          rw [if_neg (by simp), if_neg (by omega), if_neg (by omega), specKeyCell_f _ hp.1 hp.2, Option.bind_some, specTag_f s x hs _ (by omega), Option.bind_some, if_pos (by omega), if_pos (by omega)]
        · rw [if_neg h0, if_neg h0]
          simp only
          rw [if_pos (by omega)]
          simp only [spec_Register.j1]
          by_cases h3 : (untB (rd a (3 + probeB s (j : Int)))).2 = x
          · rw [if_neg (by simp [h3]), if_pos (by omega), if_pos h3]
          · rw [if_pos (by simp [h3]), if_neg h3]
  · rw [if_neg hx, if_neg (fun q => hx q.1)]
    simp only [spec_Register.j0]
    rw [if_pos trivial]
def findB (x : List Int) (s : ByteArray) : Int × Int :=
  if cellsOkB x = true ∧ keyOkB s = true then (match pfind x s 4 0 with | some j => (if rd x (3 + probeB s (j : Int)) = 0 then (-1, 0) else (probeB s (j : Int), (untB (rd x (3 + probeB s (j : Int)))).2)) | none => (-1, 0)) else (-1, 0)
theorem implFK_f (x : List Int) (s : ByteArray) (hs : s.size ≤ 1048576) (k : Nat) (hk : 1048800 < k) : impl_FindKey.f k x s = some (findB x s) := by
  unfold impl_FindKey.f findB
  obtain ⟨k, rfl⟩ : ∃ m, k = m + 1 := ⟨k - 1, by omega⟩
  rw [implCO_f, Option.bind_some]
  by_cases hx : cellsOkB x = true
  · rw [if_pos hx, implKeyOk_f s (by omega) _ (by omega), Option.bind_some]
    simp only [impl_FindKey.j0]
    by_cases h : keyOkB s = true
    · have hl := cellsOk_len hx
      rw [if_neg (by simp [h]), if_pos ⟨hx, h⟩]
      have e : impl_probed.f k x s = _ := implPr2_l0 x s hx h 4 k 0 (by omega) (by omega)
      rw [e, Option.bind_some]
      cases hf : pfind x s 4 0 with
      | none => simp
      | some j =>
        have hj := pfind_in x s 4 0 j hf
        have hp := probeB_range s (j : Int) h (by omega) (by omega)
        have hc := cell_range x hx (3 + probeB s (j : Int)) (by omega) (by omega)
        simp only
        by_cases h0 : rd x (3 + probeB s (j : Int)) = 0
        · rw [if_neg (by simp [h0]), if_pos h0]
        · rw [if_pos (by simp [h0]), if_neg h0, implKeyCell_f _ hp.1 hp.2, Option.bind_some, if_pos (by omega), if_pos (by omega), implUnt_f _ (by omega) (by omega) k (by omega), Option.bind_some]
    · rw [if_pos (by simp [h]), if_neg (fun q => h q.2)]
  · rw [if_neg hx, if_neg (fun q => hx q.1)]
    simp only [impl_FindKey.j0]
    rw [if_pos trivial]
theorem specFK_f (x : List Int) (s : ByteArray) (hxl : x.length ≤ 1048576) (hs : s.size ≤ 1048576) (k : Nat) (hk : 1048800 < k) : spec_FindKey.f k x s = some (findB x s) := by
  unfold spec_FindKey.f findB
  rw [specCO_f x (by omega) _ (by omega), Option.bind_some]
  by_cases hx : cellsOkB x = true
  · rw [if_pos hx, specKeyOk_f s (by omega) _ (by omega), Option.bind_some]
    by_cases h : keyOkB s = true
    · rw [if_pos h, if_pos ⟨hx, h⟩]
      have e : spec_l6Find.f k x s = _ := specFind_l0 x s hx h 4 k 0 (by omega) (by omega)
      rw [e, Option.bind_some]
      cases hf : pfind x s 4 0 with
      | none => rfl
      | some j =>
        simp only
        split <;> rfl
    · rw [if_neg h, if_neg (fun q => h q.2)]
  · rw [if_neg hx, if_neg (fun q => hx q.1)]
/-- Slots that are taken stay as they are. -/
def Grows (a x : List Int) : Prop := ∀ q : Int, 0 ≤ q → q < 4 → rd a (3 + q) ≠ 0 → rd x (3 + q) = rd a (3 + q)
theorem pfind_ext (a x : List Int) (s : ByteArray) (hs : keyOkB s = true) (hG : Grows a x) (d : Nat) : ∀ i j, i + d ≤ 4 → pfind a s d i = some j → rd a (3 + probeB s (j : Int)) ≠ 0 → pfind x s d i = some j := by
  induction d with
  | zero => intro i j _ h; simp [pfind] at h
  | succ d ih =>
    intro i j hi h hne
    have hp := probeB_range s (i : Int) hs (by omega) (by omega)
    simp only [pfind] at h ⊢
    by_cases hL : lookAt a s i
    · rw [if_pos hL] at h
      obtain rfl : i = j := by simpa using h
      have e := hG _ hp.1 hp.2 hne
      have : lookAt x s i := by
        unfold lookAt at *
        rw [e]
        exact hL
      rw [if_pos this]
    · rw [if_neg hL] at h
      have h0 : rd a (3 + probeB s (i : Int)) ≠ 0 := fun q => hL (.inl q)
      have e := hG _ hp.1 hp.2 h0
      have : ¬ lookAt x s i := by
        unfold lookAt at *
        rw [e]
        exact hL
      rw [if_neg this]
      exact ih (i + 1) j (by omega) h hne
theorem findB_ext (a x : List Int) (s : ByteArray) (hx : cellsOkB x = true) (hG : Grows a x) (h : 0 ≤ (findB a s).1) : findB x s = findB a s := by
  unfold findB at *
  by_cases hc : cellsOkB a = true ∧ keyOkB s = true
  · rw [if_pos hc] at h ⊢
    rw [if_pos ⟨hx, hc.2⟩]
    cases hf : pfind a s 4 0 with
    | none => rw [hf] at h; simp at h
    | some j =>
      have hj := pfind_in a s 4 0 j hf
      have hp := probeB_range s (j : Int) hc.2 (by omega) (by omega)
      rw [hf] at h
      by_cases h0 : rd a (3 + probeB s (j : Int)) = 0
      · simp [h0] at h
      · rw [pfind_ext a x s hc.2 hG 4 0 j (by omega) hf h0]
        simp only
        rw [hG _ hp.1 hp.2 h0]
  · rw [if_neg hc] at h
    simp at h
/-- Each slot that is taken is where its key is looked for. -/
def TabP (a : List Int) : Prop := ∀ q : Int, 0 ≤ q → q < 4 → rd a (3 + q) = 0 ∨ (findB a (untB (rd a (3 + q))).1).1 = q
theorem specTB_l0 (a : List Int) (ha : cellsOkB a = true) (d : Nat) : ∀ i : Nat, i + d = 4 → ∃ b : Bool, (∀ k, 1300 + d + 10 < k → spec_TableOk.l0 k a (i : Int) = some b) ∧ (b = true → ∀ q : Int, (i : Int) ≤ q → q < 4 → rd a (3 + q) = 0 ∨ (findB a (untB (rd a (3 + q))).1).1 = q) := by
  have hl := cellsOk_len ha
  induction d with
  | zero =>
    intro i hi
    refine ⟨true, fun k hk => ?_, fun _ q h1 h2 => by omega⟩
    obtain ⟨k, rfl⟩ : ∃ m, k = m + 1 := ⟨k - 1, by omega⟩
    simp only [spec_TableOk.l0]
    rw [if_neg (by omega)]
  | succ d ih =>
    intro i hi
    obtain ⟨bn, hn, pn⟩ := ih (i + 1) (by omega)
    have start : ∀ k, spec_TableOk.l0 (k + 1) a (i : Int) = (if (rd a (3 + (i : Int))) = 0 then (spec_TableOk.l0 k a ((i + 1 : Nat) : Int)) else ((spec_Untag.f k (rd a (3 + (i : Int)))).bind fun bt396 => (if bt396.2 = 0 then (some false) else ((spec_l6Find.f k a bt396.1).bind fun bt398 => (if bt398.1 = (i : Int) then (spec_TableOk.l0 k a ((i + 1 : Nat) : Int)) else (some false)))))) := by
      intro k
      simp only [spec_TableOk.l0]
      rw [if_pos (by omega), specKeyCell_f _ (by omega) (by omega), Option.bind_some, if_pos (by omega), if_pos (by omega), w64 (by omega) (by omega), succ_cast]
    by_cases h0 : rd a (3 + (i : Int)) = 0
    · refine ⟨bn, fun k hk => ?_, fun hb q h1 h2 => ?_⟩
      · obtain ⟨k, rfl⟩ : ∃ m, k = m + 1 := ⟨k - 1, by omega⟩
        rw [start, if_pos h0]
        exact hn k (by omega)
      · by_cases e : q = (i : Int)
        · rw [e]; exact .inl h0
        · exact pn hb q (by omega) h2
    · by_cases hz : (untB (rd a (3 + (i : Int)))).2 = 0
      · refine ⟨false, fun k hk => ?_, fun hb => Bool.noConfusion hb⟩
        obtain ⟨k, rfl⟩ : ∃ m, k = m + 1 := ⟨k - 1, by omega⟩
        rw [start, if_neg h0, specUnt_f _ k (by omega), Option.bind_some, if_pos hz]
      · have hk := (tag_unt _ hz).2.1
        obtain ⟨s, hs⟩ : ∃ s, s = (untB (rd a (3 + (i : Int)))).1 := ⟨_, rfl⟩
        rw [← hs] at hk
        have step : ∀ k, 1310 < k → spec_TableOk.l0 (k + 1) a (i : Int) = (if (match pfind a s 4 0 with | some j => (if rd a (3 + probeB s (j : Int)) = 0 then (-1, 0, probeB s (j : Int)) else (probeB s (j : Int), (untB (rd a (3 + probeB s (j : Int)))).2, -1)) | none => ((-1, 0, -1) : Int × Int × Int)).1 = (i : Int) then (spec_TableOk.l0 k a ((i + 1 : Nat) : Int)) else (some false)) := by
          intro k hk2
          have e : spec_l6Find.f k a s = _ := specFind_l0 a s ha hk 4 k 0 (by omega) (by omega)
          rw [start, if_neg h0, specUnt_f _ k (by omega), Option.bind_some, if_neg hz, ← hs, e, Option.bind_some]
        by_cases hm : (match pfind a s 4 0 with | some j => (if rd a (3 + probeB s (j : Int)) = 0 then (-1, 0, probeB s (j : Int)) else (probeB s (j : Int), (untB (rd a (3 + probeB s (j : Int)))).2, -1)) | none => ((-1, 0, -1) : Int × Int × Int)).1 = (i : Int)
        · refine ⟨bn, fun k hk2 => ?_, fun hb q h1 h2 => ?_⟩
          · obtain ⟨k, rfl⟩ : ∃ m, k = m + 1 := ⟨k - 1, by omega⟩
            rw [step k (by omega), if_pos hm]
            exact hn k (by omega)
          · by_cases e : q = (i : Int)
            · rw [e, ← hs]
              right
              unfold findB
              rw [if_pos ⟨ha, hk⟩]
              cases hf : pfind a s 4 0 with
              | none => rw [hf] at hm; (simp at hm) <;> omega
              | some j =>
                rw [hf] at hm
                simp only at hm ⊢
                by_cases hc : rd a (3 + probeB s (j : Int)) = 0
                · rw [if_pos hc] at hm; (simp at hm) <;> omega
                · rw [if_neg hc] at hm ⊢
                  exact hm
            · exact pn hb q (by omega) h2
        · refine ⟨false, fun k hk2 => ?_, fun hb => Bool.noConfusion hb⟩
          obtain ⟨k, rfl⟩ : ∃ m, k = m + 1 := ⟨k - 1, by omega⟩
          rw [step k (by omega), if_neg hm]
theorem specTB_f (a : List Int) (hal : a.length ≤ 1048576) (ha : cellsOkB a = true) : ∃ b : Bool, (∀ k, 1048800 < k → spec_TableOk.f k a = some b) ∧ (b = true → TabP a) := by
  obtain ⟨b, h1, h2⟩ := specTB_l0 a ha 4 0 (by omega)
  refine ⟨b, fun k hk => ?_, fun hb q => h2 hb q⟩
  unfold spec_TableOk.f
  rw [specCO_f a (by omega) _ (by omega), Option.bind_some, if_pos ha]
  exact h1 k (by omega)
theorem implTB_l0 (x : List Int) (hx : cellsOkB x = true) (hT : TabP x) (d : Nat) : ∀ k i : Nat, i + d = 4 → 1048900 + d < k → impl_TableOk.l0 k x (i : Int) = some true := by
  have hl := cellsOk_len hx
  induction d with
  | zero =>
    intro k i hi hk
    obtain ⟨k, rfl⟩ : ∃ m, k = m + 1 := ⟨k - 1, by omega⟩
    simp only [impl_TableOk.l0]
    rw [if_neg (by omega)]
  | succ d ih =>
    intro k i hi hk
    obtain ⟨k, rfl⟩ : ∃ m, k = m + 1 := ⟨k - 1, by omega⟩
    have hc := cell_range x hx (3 + (i : Int)) (by omega) (by omega)
    have hu := unt_size (rd x (3 + (i : Int)))
    simp only [impl_TableOk.l0]
    rw [if_pos (by omega), implKeyCell_f _ (by omega) (by omega), Option.bind_some, if_pos (by omega), if_pos (by omega), w64 (by omega) (by omega), succ_cast]
    rcases hT (i : Int) (by omega) (by omega) with h | h
    · rw [if_pos h]
      exact ih k (i + 1) (by omega) (by omega)
    · by_cases h0 : rd x (3 + (i : Int)) = 0
      · rw [if_pos h0]
        exact ih k (i + 1) (by omega) (by omega)
      · rw [if_neg h0, implUnt_f _ (by omega) (by omega) k (by omega), Option.bind_some, implFK_f x _ (by omega) k (by omega), Option.bind_some, if_pos h]
        exact ih k (i + 1) (by omega) (by omega)
theorem implTB_f (x : List Int) (hx : cellsOkB x = true) (hT : TabP x) (k : Nat) (hk : 1049000 < k) : impl_TableOk.f k x = some true := by
  unfold impl_TableOk.f
  rw [implCO_f, Option.bind_some, if_pos hx]
  exact implTB_l0 x hx hT 4 k 0 (by omega) (by omega)
def lpFrom (x : List Int) (ks : List ByteArray) : Nat → Nat → Int → Int
  | 0, _, m => m
  | d + 1, i, m => lpFrom x ks d (i + 1) (mx m (plenB x (rdOf ByteArray.empty ks (i : Int))))
theorem implLP_l0 (x : List Int) (ks : List ByteArray) (hk4 : ks.length ≤ 4) (hks : ∀ i, (rdOf ByteArray.empty ks i).size ≤ 4) (d : Nat) : ∀ (k i : Nat) (m : Int), i + d = ks.length → 1048710 + d < k → impl_LongestProbe.l0 k x m ks (ks.length : Int) (i : Int) = some (lpFrom x ks d i m) := by
  induction d with
  | zero =>
    intro k i m hd hk
    obtain ⟨k, rfl⟩ : ∃ m, k = m + 1 := ⟨k - 1, by omega⟩
    simp only [impl_LongestProbe.l0, lpFrom]
    rw [if_neg (by omega)]
  | succ d ih =>
    intro k i m hd hk
    obtain ⟨k, rfl⟩ : ∃ m, k = m + 1 := ⟨k - 1, by omega⟩
    have hz := hks (i : Int)
    simp only [impl_LongestProbe.l0, lpFrom]
    rw [if_pos (by omega), if_pos (by omega), if_pos (by omega), implPL_f x _ (by omega) k (by omega), Option.bind_some, w64 (by omega) (by omega), succ_cast]
    exact ih k (i + 1) _ (by omega) (by omega)
def freeFrom (x : List Int) : Nat → Int → Int → Int
  | 0, _, n => n
  | d + 1, i, n => if rd x (3 + i) = 0 then freeFrom x d (i + 1) (n + 1) else freeFrom x d (i + 1) n
theorem plen_le (x : List Int) (s : ByteArray) : 0 ≤ plenB x s ∧ plenB x s ≤ 4 := by
  unfold plenB
  split
  · cases h : pfind x s 4 0 with
    | none => simp
    | some j =>
      have := pfind_in x s 4 0 j h
      simp only
      omega
  · simp
theorem lpFrom_le (x : List Int) (ks : List ByteArray) (d : Nat) : ∀ i m, m ≤ 4 → lpFrom x ks d i m ≤ 4 := by
  induction d with
  | zero => intro i m h; exact h
  | succ d ih =>
    intro i m h
    simp only [lpFrom]
    apply ih
    have := plen_le x (rdOf ByteArray.empty ks (i : Int))
    unfold mx
    split <;> omega
/-- Is a key told? -/
def cnt (c : Int) : Nat := if (untB c).2 = 0 then 0 else 1
theorem cnt_le (c : Int) : cnt c ≤ 1 := by unfold cnt; split <;> omega
theorem cnt_zero : cnt 0 = 0 := by
  have : (untB 0).2 = 0 := by unfold untB; rw [if_neg (by omega)]
  unfold cnt
  rw [if_pos this]
theorem keysFrom_len (x : List Int) (d : Nat) : ∀ i, (keysFrom x (d + 1) i).length = cnt (rd x (3 + (i : Int))) + (keysFrom x d (i + 1)).length := by
  intro i
  simp only [keysFrom]
  unfold cnt
  split
  · omega
  · simp only [List.length_cons]; omega
theorem keysIn_len (x : List Int) (hx : cellsOkB x = true) : (keysInB x).length = cnt (rd x (3 + 0)) + (cnt (rd x (3 + 1)) + (cnt (rd x (3 + 2)) + cnt (rd x (3 + 3)))) := by
  unfold keysInB
  rw [if_pos hx, keysFrom_len, keysFrom_len, keysFrom_len, keysFrom_len]
  rfl
def zr (c : Int) : Int := if c = 0 then 1 else 0
theorem cnt_zr (c : Int) : (cnt c : Int) + zr c ≤ 1 := by
  unfold zr
  by_cases h : c = 0
  · rw [if_pos h, h, cnt_zero]; omega
  · rw [if_neg h]
    have := cnt_le c
    omega
theorem free_len (x : List Int) : freeFrom x 4 0 0 = zr (rd x (3 + 0)) + (zr (rd x (3 + 1)) + (zr (rd x (3 + 2)) + zr (rd x (3 + 3)))) := by
  unfold zr
  by_cases h0 : rd x (3 + 0) = 0 <;> by_cases h1 : rd x (3 + 1) = 0 <;> by_cases h2 : rd x (3 + 2) = 0 <;> by_cases h3 : rd x (3 + 3) = 0 <;>
    simp only [freeFrom, h0, h1, h2, h3, if_true, if_false, Int.zero_add, show (0 : Int) + 1 = 1 from rfl, show (1 : Int) + 1 = 2 from rfl, show (2 : Int) + 1 = 3 from rfl] <;> rfl
theorem same_l0 (a : List Int) (hn : a.length ≤ 1048576) (d : Nat) : ∀ k i : Nat, i + d = a.length → d < k → spec_SameCells.l0 k a a (i : Int) = some true := by
  induction d with
  | zero =>
    intro k i hd hk
    obtain ⟨k, rfl⟩ : ∃ m, k = m + 1 := ⟨k - 1, by omega⟩
    simp only [spec_SameCells.l0]
    rw [if_neg (by omega)]
  | succ d ih =>
    intro k i hd hk
    obtain ⟨k, rfl⟩ : ∃ m, k = m + 1 := ⟨k - 1, by omega⟩
    simp only [spec_SameCells.l0]
    rw [if_pos (by omega), if_pos (by omega), if_pos (by omega), if_pos trivial, w64 (by omega) (by omega), succ_cast]
    exact ih k (i + 1) (by omega) (by omega)
theorem same_f (a : List Int) (hn : a.length ≤ 1048576) (k : Nat) (hk : 1048600 < k) : spec_SameCells.f k a a = some true := by
  unfold spec_SameCells.f
  rw [if_pos rfl]
  exact same_l0 a hn a.length k 0 (by omega) (by omega)
theorem implFS_l0' (x : List Int) (hl : x.length = 71) (d : Nat) : ∀ (k : Nat) (n i : Int), 0 ≤ i → i + d = 4 → 0 ≤ n → n ≤ 4 - d → d < k → impl_FreeSlots.l0 k x n i = some (freeFrom x d i n) := by
  induction d with
  | zero =>
    intro k n i h0 hd hn hn2 hk
    obtain ⟨k, rfl⟩ : ∃ m, k = m + 1 := ⟨k - 1, by omega⟩
    simp only [impl_FreeSlots.l0, freeFrom]
    rw [if_neg (by omega)]
  | succ d ih =>
    intro k n i h0 hd hn hn2 hk
    obtain ⟨k, rfl⟩ : ∃ m, k = m + 1 := ⟨k - 1, by omega⟩
    simp only [impl_FreeSlots.l0, freeFrom]
    rw [if_pos (by omega), implKeyCell_f i h0 (by omega), Option.bind_some, if_pos (by omega), if_pos (by omega), w64 (i := i + 1) (by omega) (by omega), w64 (i := n + 1) (by omega) (by omega)]
    by_cases h : rd x (3 + i) = 0
    · rw [if_pos h, if_pos h]
      exact ih k (n + 1) (i + 1) (by omega) (by omega) (by omega) (by omega) (by omega)
    · rw [if_neg h, if_neg h]
      exact ih k n (i + 1) (by omega) (by omega) (by omega) (by omega) (by omega)
def freeB (x : List Int) : Int := if cellsOkB x = true then freeFrom x 4 0 0 else 0
theorem implFree_f (x : List Int) (k : Nat) (hk : 100 < k) : impl_FreeSlots.f k x = some (freeB x) := by
  unfold impl_FreeSlots.f freeB
  rw [implCO_f, Option.bind_some]
  by_cases hx : cellsOkB x = true
  · rw [if_pos hx, if_pos hx]
    exact implFS_l0' x (cellsOk_len hx) 4 k 0 0 (by omega) (by omega) (by omega) (by omega) (by omega)
  · rw [if_neg hx, if_neg hx]
theorem implLong_f (x : List Int) (k : Nat) (hk : 1048800 < k) : ∃ m, m ≤ 4 ∧ impl_LongestProbe.f k x = some m := by
  have c := keysIn_le x
  have z := keysIn_size x
  refine ⟨lpFrom x (keysInB x) (keysInB x).length 0 0, lpFrom_le x _ _ 0 0 (by omega), ?_⟩
  unfold impl_LongestProbe.f
  rw [implKI_f x k (by omega), Option.bind_some]
  exact implLP_l0 x _ c z _ _ 0 0 (by omega) (by omega)
theorem pfind_none (x : List Int) (s : ByteArray) (d : Nat) : ∀ i, pfind x s d i = none → ∀ j, i ≤ j → j < i + d → ¬ lookAt x s j := by
  induction d with
  | zero => intro i _ j h1 h2; omega
  | succ d ih =>
    intro i h j h1 h2
    simp only [pfind] at h
    by_cases hL : lookAt x s i
    · rw [if_pos hL] at h; cases h
    · rw [if_neg hL] at h
      by_cases e : j = i
      · rw [e]; exact hL
      · exact ih (i + 1) h j (by omega) (by omega)
theorem probe_surj (s : ByteArray) (hs : keyOkB s = true) (q : Int) (h0 : 0 ≤ q) (h1 : q < 4) : ∃ j : Nat, j < 4 ∧ probeB s (j : Int) = q := by
  refine ⟨((q - hashB s) % 4).toNat, by omega, ?_⟩
  have h := hashB_range s
  unfold probeB
  rw [if_pos hs, if_pos (by omega)]
  omega
theorem free_none (a : List Int) (s : ByteArray) (ha : cellsOkB a = true) (hs : keyOkB s = true) (h : pfind a s 4 0 = none) : freeB a = 0 := by
  have hz : ∀ q : Int, 0 ≤ q → q < 4 → zr (rd a (3 + q)) = 0 := by
    intro q h0 h1
    obtain ⟨j, hj, e⟩ := probe_surj s hs q h0 h1
    have := pfind_none a s 4 0 h j (by omega) (by omega)
    unfold zr
    rw [if_neg]
    intro z
    apply this
    left
    rw [e]
    exact z
  unfold freeB
  rw [if_pos ha, free_len, hz 0 (by omega) (by omega), hz 1 (by omega) (by omega), hz 2 (by omega) (by omega), hz 3 (by omega) (by omega)]
  rfl
theorem keys_free (x : List Int) (hx : cellsOkB x = true) : ((keysInB x).length : Int) + freeB x ≤ 4 ∧ 0 ≤ freeB x := by
  unfold freeB
  rw [if_pos hx, free_len, keysIn_len x hx]
  have a0 := cnt_zr (rd x (3 + 0))
  have a1 := cnt_zr (rd x (3 + 1))
  have a2 := cnt_zr (rd x (3 + 2))
  have a3 := cnt_zr (rd x (3 + 3))
  have z : ∀ c, 0 ≤ zr c := fun c => by unfold zr; split <;> omega
  have b0 := z (rd x (3 + 0))
  have b1 := z (rd x (3 + 1))
  have b2 := z (rd x (3 + 2))
  have b3 := z (rd x (3 + 3))
  omega
theorem tabl_l0 (a x : List Int) (hal : a.length ≤ 1048576) (hx : cellsOkB x = true) (hG : Grows a x) (ks : List ByteArray) (hk4 : ks.length ≤ 4) (hks : ∀ i, (rdOf ByteArray.empty ks i).size ≤ 4) (h1 : ks.length ≤ (keysInB x).length) (h2 : (keysInB x).length ≤ ks.length + 1) (d : Nat) : ∀ k i : Nat, i + d = ks.length → 1049000 + d < k → laws_FnTable.l0 k a x ks (i : Int) = some true := by
  induction d with
  | zero =>
    intro k i hi hk
    obtain ⟨k, rfl⟩ : ∃ m, k = m + 1 := ⟨k - 1, by omega⟩
    have kf := keys_free x hx
    have kl := keysIn_le x
    obtain ⟨m, hm, em⟩ := implLong_f x k (by omega)
    simp only [laws_FnTable.l0]
    rw [if_neg (by omega), implKI_f x k (by omega), Option.bind_some, if_pos (by omega), w64 (i := (ks.length : Int) + 1) (by omega) (by omega), if_pos (by omega), implFree_f x k (by omega), Option.bind_some, w64 (by omega) (by omega), if_pos kf.1, em, Option.bind_some, decide_eq_true hm]
  | succ d ih =>
    intro k i hi hk
    obtain ⟨k, rfl⟩ : ∃ m, k = m + 1 := ⟨k - 1, by omega⟩
    have hz := hks (i : Int)
    simp only [laws_FnTable.l0]
    rw [if_pos (by omega), if_pos (by omega), specFK_f a _ hal (by omega) k (by omega), Option.bind_some, implFK_f x _ (by omega) k (by omega), Option.bind_some, w64 (by omega) (by omega), succ_cast]
    by_cases h : (findB a (rdOf ByteArray.empty ks (i : Int))).1 ≥ 0
    · rw [if_pos h, findB_ext a x _ hx hG h, if_pos rfl, if_pos rfl]
      exact ih k (i + 1) (by omega) (by omega)
    · rw [if_neg h]
      exact ih k (i + 1) (by omega) (by omega)
theorem tabl_j1 (a x : List Int) (hal : a.length ≤ 1048576) (hx : cellsOkB x = true) (hG : Grows a x) (h1 : (keysInB a).length ≤ (keysInB x).length) (h2 : (keysInB x).length ≤ (keysInB a).length + 1) (k : Nat) (hk : 1049100 < k) : laws_FnTable.j1 k a x false = some true := by
  obtain ⟨k, rfl⟩ : ∃ m, k = m + 1 := ⟨k - 1, by omega⟩
  have c := keysIn_le a
  have z := keysIn_size a
  simp only [laws_FnTable.j1]
  rw [if_neg (by simp), specKI_f a hal k (by omega), Option.bind_some]
  exact tabl_l0 a x hal hx hG _ c z h1 h2 (keysInB a).length k 0 (by omega) (by omega)
theorem plen_pos (x : List Int) (s : ByteArray) (hx : cellsOkB x = true) (hs : keyOkB s = true) : 1 ≤ plenB x s := by
  unfold plenB
  rw [if_pos ⟨hx, hs⟩]
  cases h : pfind x s 4 0 with
  | none => simp
  | some j => simp only; omega
theorem okCase (a x : List Int) (s : ByteArray) (kd p : Int) (hal : a.length ≤ 1048576) (ha : cellsOkB a = true) (hx : cellsOkB x = true) (hs : s.size ≤ 1048576) (hsk : keyOkB s = true) (hG : Grows a x) (hF : findB x s = (p, kd)) (hp : 0 ≤ p)
    (hN : ∀ q : Int, 0 ≤ q → q < 4 → rd a (3 + q) = 0 → rd x (3 + q) ≠ 0 → (untB (rd x (3 + q))).1 = s ∧ q = p)
    (h1 : (keysInB a).length ≤ (keysInB x).length) (h2 : (keysInB x).length ≤ (keysInB a).length + 1) (k : Nat) (hk : 1049200 < k) : laws_FnTable.j0 k a s kd x p 0 false = some true := by
  obtain ⟨k, rfl⟩ : ∃ m, k = m + 1 := ⟨k - 1, by omega⟩
  have hpl := plen_pos x s hx hsk
  obtain ⟨b, hb1, hb2⟩ := specTB_f a hal ha
  have J := tabl_j1 a x hal hx hG h1 h2 k (by omega)
  simp only [laws_FnTable.j0]
  rw [if_neg (by simp), if_pos trivial, implFK_f x s hs k (by omega), hF, Option.bind_some]
  simp only
  rw [if_pos trivial, if_pos trivial, implPL_f x s hs k (by omega), Option.bind_some, if_neg (by omega), hb1 k (by omega), Option.bind_some]
  cases b with
  | false => exact J
  | true =>
    have hT : TabP x := by
      intro q q0 q1
      by_cases hz : rd a (3 + q) = 0
      · by_cases hz2 : rd x (3 + q) = 0
        · exact .inl hz2
        · obtain ⟨e1, e2⟩ := hN q q0 q1 hz hz2
          right
          rw [e1, hF, e2]
      · have e := hG q q0 q1 hz
        rcases hb2 rfl q q0 q1 with h | h
        · exact absurd h hz
        · right
          rw [e, findB_ext a x _ hx hG (by omega)]
          exact h
    rw [if_pos rfl, implTB_f x hx hT k (by omega), Option.bind_some]
    exact J
theorem rd_set (a : List Int) (hl : a.length = 71) (p q T : Int) (hp : 0 ≤ p ∧ p < 4) (hq : 0 ≤ q ∧ q < 4) : rd (a.set (3 + p).toNat T) (3 + q) = if q = p then T else rd a (3 + q) := by
  unfold rd
  rw [List.getD_eq_getElem?_getD, List.getD_eq_getElem?_getD, List.getElem?_set]
  by_cases h : q = p
  · subst h
    rw [if_pos rfl, if_pos (by omega), if_pos rfl]
    rfl
  · rw [if_neg (by omega), if_neg h]
theorem cellsOk_set (a : List Int) (ha : cellsOkB a = true) (i : Nat) (T : Int) (hT : 0 ≤ T ∧ T ≤ 281474976710655) : cellsOkB (a.set i T) = true := by
  unfold cellsOkB at *
  simp only [Bool.and_eq_true, List.all_eq_true, decide_eq_true_eq, List.length_set] at *
  refine ⟨fun c hc => ?_, ha.2⟩
  rcases List.mem_or_eq_of_mem_set hc with h | h
  · exact ha.1 c h
  · rw [h]
    unfold isWordB
    simp [hT.1, hT.2]
theorem pfind_set (a : List Int) (s : ByteArray) (hs : keyOkB s = true) (hl : a.length = 71) (T : Int) (hT : T ≠ 0) (hTs : (untB T).1 = s) (j0 : Nat) (hj : j0 < 4) (d : Nat) : ∀ i, i + d ≤ 4 → pfind a s d i = some j0 → rd a (3 + probeB s (j0 : Int)) = 0 → pfind (a.set (3 + probeB s (j0 : Int)).toNat T) s d i = some j0 := by
  have hp0 := probeB_range s (j0 : Int) hs (by omega) (by omega)
  induction d with
  | zero => intro i _ h; simp [pfind] at h
  | succ d ih =>
    intro i hi h h0
    have hp := probeB_range s (i : Int) hs (by omega) (by omega)
    have e := rd_set a hl (probeB s (j0 : Int)) (probeB s (i : Int)) T hp0 hp
    simp only [pfind] at h ⊢
    by_cases hL : lookAt a s i
    · rw [if_pos hL] at h
      obtain rfl : i = j0 := by simpa using h
      rw [if_pos rfl] at e
      have : lookAt (a.set (3 + probeB s (i : Int)).toNat T) s i := by
        right
        rw [e, hTs]
      rw [if_pos this]
    · rw [if_neg hL] at h
      have hne : probeB s (i : Int) ≠ probeB s (j0 : Int) := by
        intro q
        apply hL
        left
        rw [q]
        exact h0
      rw [if_neg hne] at e
      have : ¬ lookAt (a.set (3 + probeB s (j0 : Int)).toNat T) s i := by
        unfold lookAt at *
        rw [e]
        exact hL
      rw [if_neg this]
      exact ih (i + 1) (by omega) h h0
theorem table_core (a : List Int) (s : ByteArray) (kd : Int) (hal : a.length ≤ 1048576) (hs : s.size ≤ 1048576) (k : Nat) (hk : 1049300 < k) : laws_FnTable.j0 k a s kd (regB a s kd).1 (regB a s kd).2.1 (regB a s kd).2.2 ((regB a s kd).2.1 != (regB a s kd).2.1) = some true := by
  have hbne : ((regB a s kd).2.1 != (regB a s kd).2.1) = false := by simp
  rw [hbne]
  have bad : ∀ (p c : Int), c ≠ 0 → (c = 3 → freeB a = 0) → laws_FnTable.j0 k a s kd a p c false = some true := by
    intro p c hc h3
    obtain ⟨k, rfl⟩ : ∃ m, k = m + 1 := ⟨k - 1, by omega⟩
    simp only [laws_FnTable.j0]
    rw [if_neg (by simp), if_neg hc, implFree_f a k (by omega), Option.bind_some, same_f a hal k (by omega), Option.bind_some, if_pos rfl]
    by_cases e : c = 3
    · rw [if_pos e, h3 e]; rfl
    · rw [if_neg e]
  unfold regB
  by_cases h : cellsOkB a = true ∧ tagB s kd ≠ 0
  · rw [if_pos h]
    obtain ⟨ha, hT⟩ := h
    have hsk := tag_key s kd hT
    have hl := cellsOk_len ha
    cases hf : pfind a s 4 0 with
    | none => exact bad (-1) 3 (by omega) (fun _ => free_none a s ha hsk hf)
    | some j =>
      have hj := pfind_in a s 4 0 j hf
      have hp := probeB_range s (j : Int) hsk (by omega) (by omega)
      simp only
      by_cases h0 : rd a (3 + probeB s (j : Int)) = 0
      · rw [if_pos h0]
        simp only
        have hu := unt_tag s kd hT
        have hx := cellsOk_set a ha (3 + probeB s (j : Int)).toNat (tagB s kd) (tagB_range s kd)
        have hR := fun q (hq : 0 ≤ q ∧ q < 4) => rd_set a hl (probeB s (j : Int)) q (tagB s kd) hp hq
        have hP := pfind_set a s hsk hl (tagB s kd) hT (by rw [hu]) j (by omega) 4 0 (by omega) hf h0
        have hkd : kd ≠ 0 := by
          intro z
          unfold tagB at hT
          rw [if_neg (by omega)] at hT
          exact hT rfl
        refine okCase a _ s kd _ hal ha hx hs hsk ?_ ?_ hp.1 ?_ ?_ ?_ k (by omega)
        · intro q q0 q1 hne
          rw [hR q ⟨q0, q1⟩, if_neg]
          intro z
          rw [z] at hne
          exact hne h0
        · unfold findB
          rw [if_pos ⟨hx, hsk⟩, hP]
          simp only
          rw [hR _ hp, if_pos rfl, if_neg hT, hu]
        · intro q q0 q1 hz hz2
          rw [hR q ⟨q0, q1⟩] at hz2 ⊢
          by_cases e : q = probeB s (j : Int)
          · rw [if_pos e, hu]; exact ⟨rfl, e⟩
          · rw [if_neg e] at hz2; exact absurd hz hz2
        · rw [keysIn_len a ha, keysIn_len _ hx, hR 0 (by omega), hR 1 (by omega), hR 2 (by omega), hR 3 (by omega)]
          have hc : cnt (rd a (3 + probeB s (j : Int))) = 0 := by rw [h0, cnt_zero]
          have c1 : ∀ q : Int, cnt (rd a (3 + q)) ≤ cnt (if q = probeB s (j : Int) then tagB s kd else rd a (3 + q)) := by
            intro q
            by_cases e : q = probeB s (j : Int)
            · rw [e, hc]; omega
            · rw [if_neg e]; omega
          have := c1 0
          have := c1 1
          have := c1 2
          have := c1 3
          omega
        · rw [keysIn_len a ha, keysIn_len _ hx, hR 0 (by omega), hR 1 (by omega), hR 2 (by omega), hR 3 (by omega)]
          have ct := cnt_le (tagB s kd)
          have : probeB s (j : Int) = 0 ∨ probeB s (j : Int) = 1 ∨ probeB s (j : Int) = 2 ∨ probeB s (j : Int) = 3 := by omega
          rcases this with e | e | e | e <;> rw [e] <;> simp only [if_true, show ¬ ((0 : Int) = 1) by decide, show ¬ ((0 : Int) = 2) by decide, show ¬ ((0 : Int) = 3) by decide, show ¬ ((1 : Int) = 0) by decide, show ¬ ((1 : Int) = 2) by decide, show ¬ ((1 : Int) = 3) by decide, show ¬ ((2 : Int) = 0) by decide, show ¬ ((2 : Int) = 1) by decide, show ¬ ((2 : Int) = 3) by decide, show ¬ ((3 : Int) = 0) by decide, show ¬ ((3 : Int) = 1) by decide, show ¬ ((3 : Int) = 2) by decide, if_false] <;> omega
      · rw [if_neg h0]
        by_cases h3 : (untB (rd a (3 + probeB s (j : Int)))).2 = kd
        · rw [if_pos h3]
          simp only
          refine okCase a a s kd _ hal ha ha hs hsk (fun q _ _ _ => rfl) ?_ hp.1 (fun q _ _ hz hz2 => absurd hz hz2) (Nat.le_refl _) (by omega) k (by omega)
          unfold findB
          rw [if_pos ⟨ha, hsk⟩, hf]
          simp only
          rw [if_neg h0, h3]
        · rw [if_neg h3]
          exact bad _ 4 (by omega) (fun q => by omega)
  · rw [if_neg h]
    exact bad (-1) 1 (by omega) (fun q => by omega)
theorem and255 (x : Int) : 0 ≤ Go.bits .and .i64 x 255 ∧ Go.bits .and .i64 x 255 ≤ 255 := by
  have key : ∀ a : BitVec 64, (a &&& BitVec.ofInt 64 255).toNat ≤ 255 := fun a => by
    rw [BitVec.toNat_and]
    exact Nat.le_trans Nat.and_le_right (by decide)
  have h := key (BitVec.ofInt 64 x)
  have e : Go.bits .and .i64 x 255 = IntKind.i64.wrap (((BitVec.ofInt 64 x &&& BitVec.ofInt 64 255).toNat : Nat) : Int) := rfl
  rw [e, IntKind.wrap_i64]
  omega
/-- A cursor of draws: the code, how far it was read, the number that follows from it. -/
def Cur (s : List Int) (i : Int) : Prop := 0 ≤ i ∧ i ≤ (s.length : Int) ∧ s.length ≤ 9223372036854775807
theorem byte_ok {s : List Int} {i : Int} (c : Cur s i) (h : Int) : ∃ v i' h', spec_l1Byte.f s i h = some (v, i', h') ∧ Cur s i' ∧ 0 ≤ v ∧ v ≤ 255 := by
  obtain ⟨h0, h1, h2⟩ := c
  unfold spec_l1Byte.f
  by_cases hl : i < (s.length : Int)
  · rw [if_pos hl, if_pos h0]
    have := and255 (wrap64 ((Go.bits .and .i64 (Go.bits .xor .i64 ((wrap64 ((wrap64 (h * 6364136223846793005)) + 1442695040888963407)) / 8589934592) ((wrap64 ((wrap64 (h * 6364136223846793005)) + 1442695040888963407)) / 35184372088832)) 255) + (wrap64 (rd s i))))
    refine ⟨_, _, _, rfl, ⟨?_, ?_, h2⟩, this⟩
    · rw [w64 (by omega) (by omega)]; omega
    · rw [w64 (by omega) (by omega)]; omega
  · rw [if_neg hl]
    have := and255 (Go.bits .xor .i64 ((wrap64 ((wrap64 (h * 6364136223846793005)) + 1442695040888963407)) / 8589934592) ((wrap64 ((wrap64 (h * 6364136223846793005)) + 1442695040888963407)) / 35184372088832))
    exact ⟨_, _, _, rfl, ⟨h0, h1, h2⟩, this⟩
theorem below_ok {s : List Int} {i : Int} (c : Cur s i) (h n : Int) : ∃ v i' h', spec_l1Below.f s i h n = some (v, i', h') ∧ Cur s i' ∧ 0 ≤ v ∧ (0 < n → v < n) ∧ (n ≤ 0 → v = 0) := by
  unfold spec_l1Below.f
  by_cases h0 : n ≤ 0
  · rw [if_pos h0]
    exact ⟨0, i, h, rfl, c, by omega, by omega, fun _ => rfl⟩
  · rw [if_neg h0]
    by_cases h1 : n ≤ 256
    · rw [if_pos h1]
      obtain ⟨v, i', h', e, c', a, b⟩ := byte_ok c h
      rw [e, Option.bind_some, if_neg (by omega)]
      refine ⟨_, _, _, rfl, c', ?_, fun _ => ?_, fun _ => by omega⟩
      · exact Int.tmod_nonneg _ a
      · exact Int.tmod_lt_of_pos _ (by omega)
    · rw [if_neg h1]
      obtain ⟨x, i1, h1', e1, c1, a1, b1⟩ := byte_ok c h
      obtain ⟨y, i2, h2', e2, c2, a2, b2⟩ := byte_ok c1 h1'
      obtain ⟨z, i3, h3', e3, c3, a3, b3⟩ := byte_ok c2 h2'
      obtain ⟨w, i4, h4', e4, c4, a4, b4⟩ := byte_ok c3 h3'
      rw [e1]
      simp only [Option.bind_some]
      rw [e2]
      simp only [Option.bind_some]
      rw [e3]
      simp only [Option.bind_some]
      rw [e4]
      simp only [Option.bind_some]
      rw [if_neg (by omega)]
      refine ⟨_, _, _, rfl, c4, ?_, fun _ => ?_, fun _ => by omega⟩
      · refine Int.tmod_nonneg _ ?_
        rw [w64 (i := x * 16777216) (by omega) (by omega), w64 (i := y * 65536) (by omega) (by omega), w64 (i := z * 256) (by omega) (by omega), w64 (i := x * 16777216 + y * 65536) (by omega) (by omega), w64 (i := x * 16777216 + y * 65536 + z * 256) (by omega) (by omega), w64 (by omega) (by omega)]
        omega
      · exact Int.tmod_lt_of_pos _ (by omega)
theorem new_l0 (s : List Int) (hs : s.length ≤ 9223372036854775807) (d : Nat) : ∀ (k : Nat) (x i : Int), 0 ≤ i → i + d = 4000 → d < k → ∃ h, ∀ k', k ≤ k' → spec_l1New.l0 k' s x i = some (s, 0, h) := by
  induction d with
  | zero =>
    intro k x i h0 hd hk
    refine ⟨x, fun k' hk' => ?_⟩
    obtain ⟨k', rfl⟩ : ∃ m, k' = m + 1 := ⟨k' - 1, by omega⟩
    simp only [spec_l1New.l0]
    by_cases h : i < (s.length : Int)
    · rw [if_pos h, if_neg (by omega)]
    · rw [if_neg h]
  | succ d ih =>
    intro k x i h0 hd hk
    by_cases h : i < (s.length : Int)
    · obtain ⟨r, hr⟩ := ih (k - 1) (Go.bits .and .i64 (wrap64 ((wrap64 ((wrap64 (x * 131)) + (wrap64 (rd s i)))) + 7)) 1073741823) (i + 1) (by omega) (by omega) (by omega)
      refine ⟨r, fun k' hk' => ?_⟩
      obtain ⟨k', rfl⟩ : ∃ m, k' = m + 1 := ⟨k' - 1, by omega⟩
      simp only [spec_l1New.l0]
      rw [if_pos h, if_pos (by omega), if_pos h0, w64 (i := i + 1) (by omega) (by omega)]
      exact hr k' (by omega)
    · refine ⟨x, fun k' hk' => ?_⟩
      obtain ⟨k', rfl⟩ : ∃ m, k' = m + 1 := ⟨k' - 1, by omega⟩
      simp only [spec_l1New.l0]
      rw [if_neg h]
theorem new_ok (s : List Int) (hs : s.length ≤ 9223372036854775807) : ∃ h, Ev (fun k => spec_l1New.f k s) (s, 0, h) ∧ Cur s 0 := by
  obtain ⟨h, hh⟩ := new_l0 s hs 4000 4001 (wrap64 (10101 + (s.length : Int))) 0 (by omega) (by omega) (by omega)
  exact ⟨h, ⟨4001, hh⟩, by omega, by omega, hs⟩
theorem once_ok {s : List Int} {i : Int} (c : Cur s i) (h n : Int) : ∃ (b : Bool) (i' h' : Int), spec_l1Once.f s i h n = some (b, i', h') ∧ Cur s i' := by
  unfold spec_l1Once.f
  obtain ⟨v, i', h', e, c', _⟩ := below_ok c h n
  rw [e, Option.bind_some]
  exact ⟨_, _, _, rfl, c'⟩
theorem pickInt_ok {s : List Int} {i : Int} (c : Cur s i) (h : Int) (l : List Int) (hl : l ≠ []) (hl2 : l.length ≤ 9223372036854775807) : ∃ v i' h', spec_l1PickInt.f s i h l = some (v, i', h') ∧ Cur s i' ∧ v ∈ l := by
  unfold spec_l1PickInt.f
  obtain ⟨v, i', h', e, c', a, b, _⟩ := below_ok c h (l.length : Int)
  have hp : 0 < l.length := List.length_pos_iff.mpr hl
  have hb := b (by omega)
  rw [e, Option.bind_some, if_pos a, if_pos hb]
  refine ⟨_, _, _, rfl, c', ?_⟩
  obtain ⟨n, rfl⟩ := Int.eq_ofNat_of_zero_le a
  rw [rd_at l n (by omega)]
  exact List.getElem_mem _
theorem pick_ok {s : List Int} {i : Int} (c : Cur s i) (h : Int) (l : List ByteArray) (hl : l ≠ []) (hl2 : l.length ≤ 1000) : ∃ v i' h', spec_l1Pick.f s i h l = some (v, i', h') ∧ Cur s i' ∧ v ∈ l := by
  obtain ⟨v, i', h', e, c', v0, v1, _⟩ := below_ok c h (l.length : Int)
  have hp : 0 < l.length := List.length_pos_iff.2 hl
  have hv := v1 (by omega)
  refine ⟨rdOf ByteArray.empty l v, i', h', ?_, c', ?_⟩
  · unfold spec_l1Pick.f
    rw [e, Option.bind_some]
    simp only
    rw [if_pos v0, if_pos hv]
  · unfold rdOf
    rw [List.getD_eq_getElem?_getD, List.getElem?_eq_getElem (by omega : v.toNat < l.length)]
    exact List.getElem_mem _
theorem key_ok {s : List Int} {i : Int} (c : Cur s i) (h : Int) : ∃ v i' h', spec_l4Key.f s i h = some (v, i', h') ∧ Cur s i' ∧ v.size ≤ 5 := by
  obtain ⟨v, i', h', e, c', hv⟩ := pick_ok c h [(⟨#[97]⟩ : ByteArray), (⟨#[98]⟩ : ByteArray), (⟨#[99, 112, 117]⟩ : ByteArray), (⟨#[114, 101, 113]⟩ : ByteArray), (⟨#[120, 95, 49]⟩ : ByteArray), (⟨#[90, 57]⟩ : ByteArray), (⟨#[109, 101, 109]⟩ : ByteArray), (⟨#[113]⟩ : ByteArray)] (by simp) (by simp)
  refine ⟨v, i', h', ?_, c', ?_⟩
  · unfold spec_l4Key.f
    rw [e, Option.bind_some]
  · simp only [List.mem_cons, List.not_mem_nil, or_false] at hv
    rcases hv with rfl | rfl | rfl | rfl | rfl | rfl | rfl | rfl <;> decide
theorem any_ok {s : List Int} {i : Int} (c : Cur s i) (h : Int) : ∃ v i' h', spec_l4Any.f s i h = some (v, i', h') ∧ Cur s i' ∧ v.size ≤ 5 := by
  obtain ⟨b, i1, h1, e1, c1⟩ := once_ok c h 5
  unfold spec_l4Any.f
  rw [e1, Option.bind_some]
  cases b
  · obtain ⟨v, i', h', e, c', hv⟩ := key_ok c1 h1
    refine ⟨v, i', h', ?_, c', hv⟩
    simp only
    rw [if_neg (by simp), e, Option.bind_some]
  · obtain ⟨v, i', h', e, c', hv⟩ := pick_ok c1 h1 [(⟨#[]⟩ : ByteArray), (⟨#[97, 98, 99, 100, 101]⟩ : ByteArray), (⟨#[97, 32, 98]⟩ : ByteArray), (⟨#[97, 58]⟩ : ByteArray), (⟨#[0]⟩ : ByteArray), (⟨#[97, 98, 99, 100]⟩ : ByteArray), (⟨#[255]⟩ : ByteArray)] (by simp) (by simp)
    refine ⟨v, i', h', ?_, c', ?_⟩
    · simp only
      rw [if_pos trivial, e, Option.bind_some]
    · simp only [List.mem_cons, List.not_mem_nil, or_false] at hv
      rcases hv with rfl | rfl | rfl | rfl | rfl | rfl | rfl <;> decide
theorem regB_len (a : List Int) (s : ByteArray) (x : Int) : (regB a s x).1.length = a.length := by
  unfold regB
  split
  · cases pfind a s 4 0 with
    | none => rfl
    | some j =>
      simp only
      split
      · simp
      · split <;> rfl
  · rfl
theorem arena_l0 (s : List Int) (n : Nat) : ∀ (x : List Int) (i h : Int), x.length = 71 → Cur s i → n ≤ 100 → ∃ a i' h', a.length = 71 ∧ Cur s i' ∧ ∀ k, 1049400 + n < k → spec_l6Arena.l0 k x (n : Int) s i h = some (a, i', h') := by
  induction n with
  | zero =>
    intro x i h hx c _
    refine ⟨x, i, h, hx, c, fun k hk => ?_⟩
    obtain ⟨k, rfl⟩ : ∃ m, k = m + 1 := ⟨k - 1, by omega⟩
    simp only [spec_l6Arena.l0]
    rw [if_neg (by omega)]
  | succ n ih =>
    intro x i h hx c hn
    obtain ⟨v, i1, h1, e1, c1, hv⟩ := key_ok c h
    obtain ⟨w, i2, h2, e2, c2, w0, w1, _⟩ := below_ok c1 h1 3
    obtain ⟨a, i3, h3, ha, c3, e3⟩ := ih (regB x v (wrap64 (1 + w))).1 i2 h2 (by rw [regB_len]; exact hx) c2 (by omega)
    refine ⟨a, i3, h3, ha, c3, fun k hk => ?_⟩
    obtain ⟨k, rfl⟩ : ∃ m, k = m + 1 := ⟨k - 1, by omega⟩
    simp only [spec_l6Arena.l0]
    rw [if_pos (by omega), e1, Option.bind_some, e2, Option.bind_some, specReg_f x v _ (by omega) (by omega) k (by omega), Option.bind_some, w64 (i := ((n + 1 : Nat) : Int) - 1) (by omega) (by omega)]
    have e : ((n + 1 : Nat) : Int) - 1 = (n : Int) := by omega
    rw [e]
    exact e3 k (by omega)
theorem arena_ok {s : List Int} {i : Int} (c : Cur s i) (h : Int) : ∃ a i' h', a.length = 71 ∧ Cur s i' ∧ ∀ k, 1049600 < k → spec_l6Arena.f k s i h 6 = some (a, i', h') := by
  obtain ⟨v, i1, h1, e1, c1, v0, v1, _⟩ := below_ok c h (wrap64 (6 + 1))
  have w : wrap64 (6 + 1) = 7 := w64 (by omega) (by omega)
  have hv : v < 7 := by
    have := v1 (by omega)
    omega
  obtain ⟨n, rfl⟩ := Int.eq_ofNat_of_zero_le v0
  obtain ⟨a, i2, h2, ha, c2, e2⟩ := arena_l0 s n (List.replicate 71 0) i1 h1 (by simp) c1 (by omega)
  refine ⟨a, i2, h2, ha, c2, fun k hk => ?_⟩
  unfold spec_l6Arena.f
  rw [if_pos (by omega), e1, Option.bind_some]
  exact e2 k (by omega)
theorem cells_l0 (s : List Int) (n : Nat) : ∀ (x : List Int) (i h : Int), x.length = 71 → Cur s i → n ≤ 100 → ∃ a i' h', a.length ≤ 71 ∧ Cur s i' ∧ ∀ k, n < k → spec_l2Cells.l0 k x (n : Int) s i h = some (a, i', h') := by
  induction n with
  | zero =>
    intro x i h hx c _
    obtain ⟨v, i1, h1, e1, c1, v0, v1, _⟩ := below_ok c h 20
    by_cases z0 : v = 0
    · refine ⟨x.take ((wrap64 ((x.length : Int) - 1)) : Int).toNat, i1, h1, by rw [List.length_take]; omega, c1, fun k hk => ?_⟩
      obtain ⟨k, rfl⟩ : ∃ m, k = m + 1 := ⟨k - 1, by omega⟩
      have w := w64 (i := (x.length : Int) - 1) (by omega) (by omega)
      simp only [spec_l2Cells.l0]
      rw [if_neg (by omega), e1, Option.bind_some]
      simp only
      rw [if_pos z0, if_pos (by omega), if_pos (by omega)]
    · by_cases z1 : v = 1
      · obtain ⟨u, i2, h2, e2, c2, u0, u1, _⟩ := below_ok c1 h1 (x.length : Int)
        obtain ⟨t, i3, h3, e3, c3, _⟩ := pickInt_ok c2 h2 [(-1), 281474976710656] (by simp) (by simp)
        have hu := u1 (by omega)
        refine ⟨x.set u.toNat t, i3, h3, by rw [List.length_set]; omega, c3, fun k hk => ?_⟩
        obtain ⟨k, rfl⟩ : ∃ m, k = m + 1 := ⟨k - 1, by omega⟩
        simp only [spec_l2Cells.l0]
        rw [if_neg (by omega), e1, Option.bind_some]
        simp only
        rw [if_neg z0, if_pos z1, e2, Option.bind_some]
        simp only
        rw [e3, Option.bind_some, if_pos u0, if_pos hu]
      · refine ⟨x, i1, h1, by omega, c1, fun k hk => ?_⟩
        obtain ⟨k, rfl⟩ : ∃ m, k = m + 1 := ⟨k - 1, by omega⟩
        simp only [spec_l2Cells.l0]
        rw [if_neg (by omega), e1, Option.bind_some]
        simp only
        rw [if_neg z0, if_neg z1]
  | succ n ih =>
    intro x i h hx c hn
    obtain ⟨u, i1, h1, e1, c1, u0, u1, _⟩ := below_ok c h (x.length : Int)
    have hu := u1 (by omega)
    obtain ⟨w, i2, h2, e2, c2, w0, w1, _⟩ := below_ok c1 h1 999
    obtain ⟨t, i3, h3, e3, c3, _⟩ := pickInt_ok c2 h2 [1, 2, 281474976710655, w] (by simp) (by simp)
    obtain ⟨a, i4, h4, ha, c4, e4⟩ := ih (x.set u.toNat t) i3 h3 (by rw [List.length_set]; exact hx) c3 (by omega)
    refine ⟨a, i4, h4, ha, c4, fun k hk => ?_⟩
    obtain ⟨k, rfl⟩ : ∃ m, k = m + 1 := ⟨k - 1, by omega⟩
    simp only [spec_l2Cells.l0]
    rw [if_pos (by omega), e1, Option.bind_some]
    simp only
    rw [e2, Option.bind_some]
    simp only
    rw [e3, Option.bind_some]
    simp only
    rw [if_pos u0, if_pos hu, w64 (by omega) (by omega)]
    have e : ((n + 1 : Nat) : Int) - 1 = (n : Int) := by omega
    rw [e]
    exact e4 k (by omega)
theorem cells_ok {s : List Int} {i : Int} (c : Cur s i) (h : Int) : ∃ a i' h', a.length ≤ 71 ∧ Cur s i' ∧ ∀ k, 200 < k → spec_l2Cells.f k s i h = some (a, i', h') := by
  obtain ⟨v, i1, h1, e1, c1, v0, v1, _⟩ := below_ok c h 12
  have hv := v1 (by omega)
  obtain ⟨n, rfl⟩ := Int.eq_ofNat_of_zero_le v0
  obtain ⟨a, i2, h2, ha, c2, e2⟩ := cells_l0 s n (List.replicate 71 0) i1 h1 (by simp) c1 (by omega)
  refine ⟨a, i2, h2, ha, c2, fun k hk => ?_⟩
  unfold spec_l2Cells.f
  rw [if_pos (by omega), e1, Option.bind_some]
  exact e2 k (by omega)
theorem l6Any_ok {s : List Int} {i : Int} (c : Cur s i) (h : Int) : ∃ a i' h', a.length ≤ 71 ∧ Cur s i' ∧ ∀ k, 1049700 < k → spec_l6Any.f k s i h = some (a, i', h') := by
  obtain ⟨a, i1, h1, ha, c1, e1⟩ := arena_ok c h
  obtain ⟨v, i2, h2, e2, c2, v0, v1, _⟩ := below_ok c1 h1 16
  by_cases z0 : v = 0
  · obtain ⟨u, i3, h3, e3, c3, u0, u1, _⟩ := below_ok c2 h2 4
    have hu := u1 (by omega)
    obtain ⟨y, i4, h4, e4, c4, hy⟩ := key_ok c3 h3
    obtain ⟨t, i5, h5, e5, c5, _⟩ := pickInt_ok c4 h4 [0, 1, 7, tagB y 2] (by simp) (by simp)
    refine ⟨a.set (3 + u).toNat t, i5, h5, by rw [List.length_set]; omega, c5, fun k hk => ?_⟩
    unfold spec_l6Any.f
    rw [e1 k (by omega), Option.bind_some]
    simp only
    rw [e2, Option.bind_some]
    simp only
    rw [if_pos z0, e3, Option.bind_some]
    simp only
    rw [specKeyCell_f u u0 hu, Option.bind_some, e4, Option.bind_some]
    simp only
    rw [specTag_f y 2 (by omega) k (by omega), Option.bind_some, e5, Option.bind_some, if_pos (by omega), if_pos (by omega)]
  · by_cases z1 : v = 1
    · obtain ⟨b, i3, h3, hb, c3, e3⟩ := cells_ok c2 h2
      refine ⟨b, i3, h3, hb, c3, fun k hk => ?_⟩
      unfold spec_l6Any.f
      rw [e1 k (by omega), Option.bind_some]
      simp only
      rw [e2, Option.bind_some]
      simp only
      rw [if_neg z0, if_pos z1, e3 k (by omega), Option.bind_some]
    · refine ⟨a, i2, h2, by omega, c2, fun k hk => ?_⟩
      unfold spec_l6Any.f
      rw [e1 k (by omega), Option.bind_some]
      simp only
      rw [e2, Option.bind_some]
      simp only
      rw [if_neg z0, if_neg z1]
theorem kind_ok {s : List Int} {i : Int} (c : Cur s i) (h : Int) : ∃ v i' h', spec_l5Kind.f s i h = some (v, i', h') := by
  obtain ⟨v, i', h', e, _, _⟩ := pickInt_ok c h [1, 2, 3, 1, 2, 3, 1, 2, 3, 0, 4] (by simp) (by simp)
  refine ⟨v, i', h', ?_⟩
  unfold spec_l5Kind.f
  rw [e, Option.bind_some]
theorem drawReg_ok (l : List Int) (hl : l.length ≤ 1048576) : ∃ (K : Nat) (a : List Int) (y : ByteArray) (kd : Int), a.length ≤ 71 ∧ y.size ≤ 5 ∧ ∀ k, K ≤ k → 1049700 < k → spec_DrawRegister.f k l = some (a, y, kd) := by
  obtain ⟨h, ⟨K, e0⟩, c⟩ := new_ok l (by omega)
  obtain ⟨a, i1, h1, ha, c1, e1⟩ := l6Any_ok c h
  obtain ⟨y, i2, h2, e2, c2, hy⟩ := any_ok c1 h1
  obtain ⟨v, i3, h3, e3⟩ := kind_ok c2 h2
  refine ⟨K, a, y, v, ha, hy, fun k hk hk2 => ?_⟩
  have q := e0 k hk
  simp only at q
  unfold spec_DrawRegister.f
  rw [q, Option.bind_some]
  simp only
  rw [e1 k hk2, Option.bind_some]
  simp only
  rw [e2, Option.bind_some]
  simp only
  rw [e3, Option.bind_some]
theorem FnTable : FnTableOwn := by
  intro l _
  unfold laws_FnTable.f laws_big.f
  by_cases h : (l.length : Int) > 1048576
  · refine ⟨0, ?_⟩
    rw [Option.bind_some, if_pos (by simp; omega)]
  · obtain ⟨K, a, y, kd, ha, hy, e⟩ := drawReg_ok l (by omega)
    obtain ⟨KK, hKK⟩ : ∃ q, q = K + 1049800 := ⟨_, rfl⟩
    refine ⟨KK, ?_⟩
    rw [Option.bind_some, if_neg (by simp; omega), e KK (by omega) (by omega), Option.bind_some]
    simp only
    rw [implReg_f a y kd (by omega) (by omega) KK (by omega), Option.bind_some, specReg_f a y kd (by omega) (by omega) KK (by omega), Option.bind_some, if_pos rfl]
    exact table_core a y kd (by omega) (by omega) KK (by omega)

end Go.Proofs.Ytfpdkgfinfdgoaa.Pure
