/- For every text, ReadRule of the program answers what ReadRule of the reference answers (texts above 2^20 bytes are let pass by the law itself). -/
import Derived.Test.YticfkgjcklonmaaDoorQFnExactReadRulex5
namespace Go.Proofs.YticfkgjcklonmaaDoor.Pure
open Go.RowKit Go.Proofs.YticfkgjcklonmaaDoor.QFnExactReadRule Go.Proofs.YticfkgjcklonmaaDoorW.PrintWords Go.Proofs.YticfkgjcklonmaaDoorW.PrintLast Go.Proofs.YticfkgjcklonmaaDoorW.PrintMore
set_option linter.unusedVariables false
set_option linter.unusedSimpArgs false
def FnExactReadRuleOwn : Prop := ∀ (a0 : ByteArray), a0.size ≤ maxLen → ∃ k, laws_FnExactReadRule.f k a0 = some true
theorem w64 {i : Int} (h : -9223372036854775808 ≤ i) (h2 : i ≤ 9223372036854775807) : wrap64 i = i := by
  unfold wrap64
  omega
theorem rd_at (x : List Int) (i : Nat) (h : i < x.length) : rd x (i : Int) = x[i] := by
  unfold rd
  rw [Int.toNat_natCast, List.getD_eq_getElem?_getD, List.getElem?_eq_getElem h]
  rfl
theorem succ_cast (i : Nat) : ((i : Int) + 1) = ((i + 1 : Nat) : Int) := by omega
theorem take_succ_ext {α : Type} (a b : List α) (i : Nat) (ha : i < a.length) (hb : i < b.length) (ht : a.take i = b.take i) (he : a[i] = b[i]) : a.take (i + 1) = b.take (i + 1) := by
  rw [List.take_succ_eq_append_getElem ha, List.take_succ_eq_append_getElem hb, ht, he]
theorem l1In_f (x a b : Int) : spec_l1In.f x a b = some (decide (a ≤ x) && decide (x ≤ b)) := by
  unfold spec_l1In.f
  by_cases h : x ≥ a
  · rw [if_pos h]
    have h2 : a ≤ x := h
    simp [h2]
  · rw [if_neg h]
    have h2 : ¬ a ≤ x := h
    simp [h2]
theorem within_f (x a b : Int) : impl_within.f x a b = some (decide (a ≤ x) && decide (x ≤ b)) := by
  unfold impl_within.f
  by_cases h : a ≤ x <;> simp [h]
def kb (c : Int) : Bool := (decide (97 ≤ c) && decide (c ≤ 122)) || ((decide (65 ≤ c) && decide (c ≤ 90)) || ((decide (48 ≤ c) && decide (c ≤ 57)) || decide (c = 95)))
def keyOkFrom (s : ByteArray) : Nat → Nat → Bool
  | 0, _ => decide (1 ≤ s.size) && decide (s.size ≤ 4)
  | d + 1, i => kb (bt s (i : Int)) && keyOkFrom s d (i + 1)
def keyOkB (s : ByteArray) : Bool := keyOkFrom s s.size 0
theorem l4Byte_f (c : Int) : spec_l4Byte.f c = some (kb c) := by
  unfold spec_l4Byte.f spec_l1In.f kb
  by_cases h1 : c ≥ 97 <;> by_cases h2 : c ≤ 122 <;> by_cases h3 : c ≥ 65 <;> by_cases h4 : c ≤ 90 <;> by_cases h5 : c ≥ 48 <;> by_cases h6 : c ≤ 57 <;> by_cases h7 : c = 95 <;> simp [h1, h2, h3, h4, h5, h6, h7] <;> first | omega | (split <;> simp_all <;> omega)
theorem specKeyOk_l0 (s : ByteArray) (hn : s.size ≤ 9223372036854775806) (d : Nat) : ∀ (k i : Nat), i + d = s.size → d < k → spec_KeyOk.l0 k s (i : Int) = some (keyOkFrom s d i) := by
  induction d with
  | zero =>
    intro k i hd hk
    obtain ⟨k, rfl⟩ : ∃ m, k = m + 1 := ⟨k - 1, by omega⟩
    simp only [spec_KeyOk.l0, keyOkFrom]
    rw [if_neg (by omega)]
    unfold spec_l1In.f
    by_cases h : (s.size : Int) ≥ 1
    · rw [if_pos h]
      have h2 : 1 ≤ s.size := by omega
      simp only [Option.bind_some, h2, decide_true, Bool.true_and]
      congr 1
      rw [decide_eq_decide]
      omega
    · rw [if_neg h]
      have h2 : ¬ 1 ≤ s.size := by omega
      simp only [Option.bind_some, h2, decide_false, Bool.false_and]
  | succ d ih =>
    intro k i hd hk
    obtain ⟨k, rfl⟩ : ∃ m, k = m + 1 := ⟨k - 1, by omega⟩
    have hb := bt_range s (i : Int)
    simp only [spec_KeyOk.l0, keyOkFrom]
    rw [if_pos (by omega), if_pos (by omega), w64 (i := bt s (i : Int)) (by omega) (by omega), w64 (by omega) (by omega), succ_cast, l4Byte_f, Option.bind_some, ih k (i + 1) (by omega) (by omega)]
    cases kb (bt s (i : Int)) <;> simp
theorem implKeyOk_l0 (s : ByteArray) (hn : s.size ≤ 9223372036854775806) (d : Nat) : ∀ (k i : Nat), i + d = s.size → d < k → impl_KeyOk.l0 k s (s.size : Int) (i : Int) = some (keyOkFrom s d i) := by
  induction d with
  | zero =>
    intro k i hd hk
    obtain ⟨k, rfl⟩ : ∃ m, k = m + 1 := ⟨k - 1, by omega⟩
    simp only [impl_KeyOk.l0, keyOkFrom]
    rw [if_neg (by omega)]
    unfold impl_within.f
    by_cases h : 1 ≤ (s.size : Int)
    · rw [if_pos h]
      have h2 : 1 ≤ s.size := by omega
      simp only [Option.bind_some, h2, decide_true, Bool.true_and]
      congr 1
      rw [decide_eq_decide]
      omega
    · rw [if_neg h]
      have h2 : ¬ 1 ≤ s.size := by omega
      simp only [Option.bind_some, h2, decide_false, Bool.false_and]
  | succ d ih =>
    intro k i hd hk
    obtain ⟨k, rfl⟩ : ∃ m, k = m + 1 := ⟨k - 1, by omega⟩
    simp only [impl_KeyOk.l0, keyOkFrom]
    rw [if_pos (by omega), if_pos (by omega), if_pos (by omega), w64 (by omega) (by omega), succ_cast, ih k (i + 1) (by omega) (by omega)]
    generalize bt s (i : Int) = c
    cases h : kb c
    · unfold kb at h
      simp only [Bool.or_eq_false_iff, Bool.and_eq_false_iff, decide_eq_false_iff_not] at h
      rw [Bool.false_and]
      repeat' split
      all_goals first | rfl | omega
    · unfold kb at h
      simp only [Bool.or_eq_true, Bool.and_eq_true, decide_eq_true_eq] at h
      rw [Bool.true_and]
      repeat' split
      all_goals first | rfl | omega
theorem specKeyOk_f (s : ByteArray) (hn : s.size ≤ 9223372036854775806) (k : Nat) (hk : s.size < k) : spec_KeyOk.f k s = some (keyOkB s) := specKeyOk_l0 s hn s.size k 0 (by omega) hk
theorem implKeyOk_f (s : ByteArray) (hn : s.size ≤ 9223372036854775806) (k : Nat) (hk : s.size < k) : impl_KeyOk.f k s = some (keyOkB s) := implKeyOk_l0 s hn s.size k 0 (by omega) hk
def ruleOkB (s : ByteArray) (o l f : Int) : Bool := keyOkB s && ((decide (1 ≤ o) && decide (o ≤ 2)) && ((decide (0 ≤ l) && decide (l ≤ 999999999)) && (decide (1 ≤ f) && decide (f ≤ 9))))
theorem specRuleOk_f (s : ByteArray) (o l f : Int) (hn : s.size ≤ 9223372036854775806) (k : Nat) (hk : s.size < k) : spec_RuleOk.f k s o l f = some (ruleOkB s o l f) := by
  unfold spec_RuleOk.f ruleOkB
  rw [specKeyOk_f s hn k hk, l1In_f, l1In_f, l1In_f]
  simp only [Option.bind_some]
  generalize keyOkB s = a
  generalize (decide (1 ≤ o) && decide (o ≤ 2)) = b
  generalize (decide (0 ≤ l) && decide (l ≤ 999999999)) = c
  cases a <;> cases b <;> cases c <;> simp
theorem implRuleOk_f (s : ByteArray) (o l f : Int) (hn : s.size ≤ 9223372036854775806) (k : Nat) (hk : s.size < k) : impl_RuleOk.f k s o l f = some (ruleOkB s o l f) := by
  unfold impl_RuleOk.f ruleOkB
  rw [implKeyOk_f s hn k hk, within_f, within_f, within_f]
  simp only [Option.bind_some]
  generalize keyOkB s = a
  generalize (decide (1 ≤ o) && decide (o ≤ 2)) = b
  generalize (decide (0 ≤ l) && decide (l ≤ 999999999)) = c
  cases a <;> cases b <;> cases c <;> simp
/-- A whole number in decimal. -/
def decB (n : Int) : ByteArray := ⟨(Lib.itoa n).toArray⟩
theorem decB_size (n : Int) (h0 : -9223372036854775808 ≤ n) (h1 : n ≤ 9223372036854775807) : (decB n).size ≤ 21 := by
  have := Lib.itoa_length_le n h0 h1
  unfold decB
  simpa [ByteArray.size] using this
theorem implDec_f (n : Int) (h0 : -9223372036854775808 ≤ n) (h1 : n ≤ 9223372036854775807) : impl_Dec.f n = some (decB n) := by
  unfold impl_Dec.f strconv_Itoa.f decB
  rw [if_pos ⟨h0, h1⟩]
  rfl
theorem ba_append (a b : List UInt8) : (⟨a.toArray⟩ : ByteArray) ++ ⟨b.toArray⟩ = ⟨(a ++ b).toArray⟩ := by
  apply ByteArray.ext
  simp [ByteArray.data_append]
theorem digit_son (m : Nat) (h : m < 10) : strOfNums [((48 + (m : Int)) % 256)] = ⟨[UInt8.ofNat (48 + m)].toArray⟩ := by
  have e : ((48 + (m : Int)) % 256) = ((48 + m : Nat) : Int) := by omega
  rw [e]
  rfl
theorem specDec_l0 (d : Nat) : ∀ (n k : Nat) (acc : List UInt8), 0 < n → n < 10 ^ d → (n : Int) ≤ 9223372036854775807 → acc.length + d ≤ 100 → d + 1 < k → spec_Dec.l0 k (n : Int) ⟨acc.toArray⟩ false = some ⟨(Lib.decDigits n ++ acc).toArray⟩ := by
  induction d with
  | zero => intro n k acc h0 h1 h2 h3 hk; simp at h1; omega
  | succ d ih =>
    intro n k acc h0 h1 h2 h3 hk
    obtain ⟨k, rfl⟩ : ∃ m, k = m + 1 := ⟨k - 1, by omega⟩
    have t1 : Int.tmod (n : Int) 10 = ((n % 10 : Nat) : Int) := by rw [Int.tmod_eq_emod_of_nonneg (by omega)]; omega
    have t2 : Int.tdiv (n : Int) 10 = ((n / 10 : Nat) : Int) := by rw [Int.tdiv_eq_ediv_of_nonneg (by omega)]; omega
    have hs : (⟨[UInt8.ofNat (48 + n % 10)].toArray⟩ : ByteArray).size = 1 := rfl
    have hs2 : (⟨acc.toArray⟩ : ByteArray).size = acc.length := by simp [ByteArray.size]
    simp only [spec_Dec.l0]
    rw [if_neg (by omega), t1, t2, if_neg (by omega), w64 (i := 48 + _) (by omega) (by omega), Option.bind_some, digit_son _ (by omega), if_pos (by omega), w64 (by omega) (by omega), ba_append]
    by_cases hq : n / 10 = 0
    · obtain ⟨k, rfl⟩ : ∃ m, k = m + 1 := ⟨k - 1, by omega⟩
      rw [hq]
      simp only [spec_Dec.l0]
      rw [if_pos (by omega), if_neg (by simp), Lib.decDigits_one (by omega), Nat.mod_eq_of_lt (by omega)]
    · rw [ih (n / 10) k _ (by omega) (by rw [Nat.pow_succ] at h1; omega) (by omega) (by simp; omega) (by omega)]
      have e : Lib.decDigits n = Lib.decDigits (n / 10) ++ [UInt8.ofNat (48 + n % 10)] := by
        rw [Lib.decDigits, dif_neg (by omega)]
      rw [e, List.append_assoc]
theorem specDec_f (n : Int) (h0 : 0 ≤ n) (h1 : n ≤ 9223372036854775807) (k : Nat) (hk : 30 < k) : spec_Dec.f k n = some (decB n) := by
  obtain ⟨m, rfl⟩ := Int.eq_ofNat_of_zero_le h0
  unfold spec_Dec.f decB
  rw [Lib.itoa_nonneg]
  by_cases hz : (m : Int) = 0
  · rw [if_pos hz]
    have : m = 0 := by omega
    subst this
    rw [Lib.decDigits_one (by omega)]
    rfl
  · rw [if_neg hz]
    have e : decide ((m : Int) < 0) = false := decide_eq_false (by omega)
    have z : (⟨#[]⟩ : ByteArray) = ⟨([] : List UInt8).toArray⟩ := rfl
    rw [e, z, specDec_l0 19 m k [] (by omega) (by omega) h1 (by simp) (by omega), List.append_nil]
theorem specDecNeg_l0 (d : Nat) : ∀ (n k : Nat) (acc : List UInt8), 0 < n → n < 10 ^ d → (n : Int) ≤ 9223372036854775808 → acc.length + d ≤ 100 → d + 1 < k → spec_Dec.l0 k (-(n : Int)) ⟨acc.toArray⟩ true = some ⟨(45 :: (Lib.decDigits n ++ acc)).toArray⟩ := by
  induction d with
  | zero => intro n k acc h0 h1 h2 h3 hk; simp at h1; omega
  | succ d ih =>
    intro n k acc h0 h1 h2 h3 hk
    obtain ⟨k, rfl⟩ : ∃ m, k = m + 1 := ⟨k - 1, by omega⟩
    have t1 : Int.tmod (-(n : Int)) 10 = -((n % 10 : Nat) : Int) := by rw [Int.neg_tmod, Int.tmod_eq_emod_of_nonneg (by omega)]; omega
    have t2 : Int.tdiv (-(n : Int)) 10 = -((n / 10 : Nat) : Int) := by rw [Int.neg_tdiv, Int.tdiv_eq_ediv_of_nonneg (by omega)]; omega
    have hs : (⟨[UInt8.ofNat (48 + n % 10)].toArray⟩ : ByteArray).size = 1 := rfl
    have hs2 : (⟨acc.toArray⟩ : ByteArray).size = acc.length := by simp [ByteArray.size]
    have rest : (if (strOfNums [((48 + ((n % 10 : Nat) : Int)) % 256)]).size + (⟨acc.toArray⟩ : ByteArray).size ≤ 9223372036854775807 then (spec_Dec.l0 k (wrap64 (-((n / 10 : Nat) : Int))) ((strOfNums [((48 + ((n % 10 : Nat) : Int)) % 256)]) ++ ⟨acc.toArray⟩) true) else (none)) = some ⟨(45 :: (Lib.decDigits n ++ acc)).toArray⟩ := by
      rw [digit_son _ (by omega), if_pos (by omega), w64 (by omega) (by omega), ba_append]
      by_cases hq : n / 10 = 0
      · obtain ⟨k, rfl⟩ : ∃ m, k = m + 1 := ⟨k - 1, by omega⟩
        rw [hq]
        simp only [spec_Dec.l0]
        have e1 : (⟨([UInt8.ofNat (48 + n % 10)] ++ acc).toArray⟩ : ByteArray).size = acc.length + 1 := by simp [ByteArray.size]
        have z : (⟨#[45]⟩ : ByteArray) = ⟨([45] : List UInt8).toArray⟩ := rfl
        rw [if_pos (by omega), if_pos trivial, if_pos (by omega), z, ba_append, Lib.decDigits_one (by omega), Nat.mod_eq_of_lt (by omega)]
        rfl
      · rw [ih (n / 10) k _ (by omega) (by rw [Nat.pow_succ] at h1; omega) (by omega) (by simp; omega) (by omega)]
        have e : Lib.decDigits n = Lib.decDigits (n / 10) ++ [UInt8.ofNat (48 + n % 10)] := by
          rw [Lib.decDigits, dif_neg (by omega)]
        rw [e, List.append_assoc]
    simp only [spec_Dec.l0]
    rw [if_neg (by omega), t1, t2]
    by_cases hn : -((n % 10 : Nat) : Int) < 0
    · rw [if_pos hn, Int.neg_neg, w64 (i := ((n % 10 : Nat) : Int)) (by omega) (by omega), w64 (i := 48 + _) (by omega) (by omega), Option.bind_some]
      exact rest
    · have e0 : n % 10 = 0 := by omega
      have e1 : (48 + -((n % 10 : Nat) : Int)) = 48 + ((n % 10 : Nat) : Int) := by omega
      rw [if_neg hn, e1, w64 (i := 48 + _) (by omega) (by omega), Option.bind_some]
      exact rest
theorem specDecAny_f (n : Int) (h0 : -9223372036854775808 ≤ n) (h1 : n ≤ 9223372036854775807) (k : Nat) (hk : 30 < k) : spec_Dec.f k n = some (decB n) := by
  by_cases h : 0 ≤ n
  · exact specDec_f n h h1 k hk
  · obtain ⟨m, rfl⟩ : ∃ m : Nat, n = -(m : Int) := ⟨n.natAbs, by omega⟩
    unfold spec_Dec.f decB
    have e : decide (-(m : Int) < 0) = true := decide_eq_true (by omega)
    have z : (⟨#[]⟩ : ByteArray) = ⟨([] : List UInt8).toArray⟩ := rfl
    rw [if_neg (by omega), e, z, specDecNeg_l0 20 m k [] (by omega) (by omega) (by omega) (by simp) (by omega), List.append_nil, Lib.itoa_neg m (by omega)]
/-- The words of a list of bytes, parted at spaces. -/
def cutB : List UInt8 → List (List UInt8)
  | [] => [[]]
  | b :: bs => if b = 32 then [] :: cutB bs else (match cutB bs with | [] => [[b]] | w :: ws => (b :: w) :: ws)
theorem cutB_ne : ∀ L, cutB L ≠ []
  | [] => by simp [cutB]
  | b :: bs => by
    simp only [cutB]
    split
    · simp
    · split <;> simp
def hdB (cur : List UInt8) : List (List UInt8) → List (List UInt8)
  | [] => [cur]
  | w :: ws => (cur ++ w) :: ws
theorem hdB_nil (L : List UInt8) : hdB [] (cutB L) = cutB L := by
  have := cutB_ne L
  cases h : cutB L with
  | nil => exact absurd h this
  | cons w ws => rfl
theorem hdB_snoc (cur : List UInt8) (b : UInt8) (bs : List UInt8) (hb : b ≠ 32) : hdB cur (cutB (b :: bs)) = hdB (cur ++ [b]) (cutB bs) := by
  simp only [cutB, if_neg hb]
  have := cutB_ne bs
  cases h : cutB bs with
  | nil => exact absurd h this
  | cons w ws => simp [hdB]
theorem hdB_space (cur bs : List UInt8) : hdB cur (cutB (32 :: bs)) = cur :: cutB bs := by simp [cutB, hdB]
theorem cut_miss : ∀ L : List UInt8, Lib.indexByte L 32 = -1 → cutB L = [L]
  | [], _ => rfl
  | b :: bs, h => by
    unfold Lib.indexByte at h
    by_cases hb : b = 32
    · rw [if_pos (by simp [hb])] at h
      omega
    · rw [if_neg (by simp [hb])] at h
      have hi : Lib.indexByte bs 32 = -1 := by
        by_cases q : Lib.indexByte bs 32 = -1
        · exact q
        · rw [if_neg (by simp [q])] at h
          have := Lib.indexByte_ge bs 32
          omega
      simp only [cutB, if_neg hb, cut_miss bs hi]
theorem cut_hit : ∀ (L : List UInt8) (i : Nat), Lib.indexByte L 32 = i → cutB L = L.take i :: cutB (L.drop (i + 1))
  | [], i, h => by
    unfold Lib.indexByte at h
    omega
  | b :: bs, i, h => by
    unfold Lib.indexByte at h
    by_cases hb : b = 32
    · rw [if_pos (by simp [hb])] at h
      obtain rfl : i = 0 := by omega
      simp [cutB, hb]
    · rw [if_neg (by simp [hb])] at h
      by_cases q : Lib.indexByte bs 32 = -1
      · rw [if_pos (by simp [q])] at h
        omega
      · rw [if_neg (by simp [q])] at h
        obtain ⟨j, rfl⟩ : ∃ j, i = j + 1 := ⟨i - 1, by have := Lib.indexByte_ge bs 32; omega⟩
        have := cut_hit bs j (by omega)
        simp only [cutB, if_neg hb, this, List.take_succ_cons, List.drop_succ_cons]
theorem split_cut (n : Nat) : ∀ s : ByteArray, s.size ≤ n → (Lib.splitB (⟨#[32]⟩ : ByteArray) 0 (Lib.countB s (⟨#[32]⟩ : ByteArray)) s).map (fun x => x.data.toList) = cutB s.data.toList := by
  induction n with
  | zero =>
    intro s hs
    have h : Lib.indexB s (⟨#[32]⟩ : ByteArray) = -1 := by
      rcases Lib.indexB_cases s (⟨#[32]⟩ : ByteArray) with h | ⟨i, h, hi⟩
      · exact h
      · have : (⟨#[32]⟩ : ByteArray).size = 1 := rfl
        omega
    rw [Lib.splitB_miss _ _ _ _ h, cut_miss _ ((Lib.index_one s.data.toList 32).symm.trans h)]
    rfl
  | succ n ih =>
    intro s hs
    have h1 : (⟨#[32]⟩ : ByteArray).size = 1 := rfl
    rcases Lib.indexB_cases s (⟨#[32]⟩ : ByteArray) with h | ⟨i, h, hi⟩
    · rw [Lib.splitB_miss _ _ _ _ h, cut_miss _ ((Lib.index_one s.data.toList 32).symm.trans h)]
      rfl
    · rw [Lib.countB_hit s _ i (by omega) h, Nat.add_comm, Lib.splitB_hit _ _ _ _ i h, List.map_cons, cut_hit _ i ((Lib.index_one s.data.toList 32).symm.trans h)]
      have hsz : (s.extract (i + 1) s.size).size ≤ n := by
        rw [ByteArray.size_extract]
        omega
      have := ih _ hsz
      rw [h1, this, Nat.add_zero, Lib.extract_from_zero]
      have he : (s.extract (i + 1) s.size).data.toList = s.data.toList.drop (i + 1) := by
        rw [ByteArray.data_extract, Array.toList_extract, List.extract_eq_take_drop, List.take_of_length_le]
        rw [List.length_drop, data_length]
        omega
      rw [he]
theorem bt_list (s : ByteArray) (i : Nat) (hi : i < s.data.toList.length) : bt s (i : Int) = ((s.data.toList[i]).toNat : Int) := by
  have h : i < s.size := by rw [data_length] at hi; exact hi
  unfold bt
  rw [dif_pos (by simpa using h)]
  rfl
theorem bt_is32 (s : ByteArray) (i : Nat) (hi : i < s.data.toList.length) : bt s (i : Int) = 32 ↔ s.data.toList[i] = 32 := by
  rw [bt_list s i hi]
  constructor
  · intro h
    apply UInt8.toNat_inj.1
    have : (s.data.toList[i]).toNat = 32 := by omega
    rw [this]
    rfl
  · intro h
    rw [h]
    rfl
theorem extr_list (s : ByteArray) (a b : Nat) (hb : b ≤ s.size) : (s.extract a b).data.toList = (s.data.toList.drop a).take (b - a) := by
  rw [ByteArray.data_extract, Array.toList_extract, List.extract_eq_take_drop]
theorem l21_l0 (s : ByteArray) (hs : s.size ≤ 1048576) (d : Nat) : ∀ (i k frm : Nat) (out : List ByteArray), i + d = s.size → frm ≤ i → out.length ≤ i → d < k →
    ∃ r, spec_l21Cut.l0 k s 32 out (frm : Int) (i : Int) = some r ∧ r.map (fun x => x.data.toList) = out.map (fun x => x.data.toList) ++ hdB ((s.data.toList.drop frm).take (i - frm)) (cutB (s.data.toList.drop i)) := by
  induction d with
  | zero =>
    intro i k frm out hd hf ho hk
    obtain ⟨k, rfl⟩ : ∃ m, k = m + 1 := ⟨k - 1, by omega⟩
    have hA : ¬ ((i : Int) < (s.size : Int)) := by omega
    have hB : 0 ≤ (frm : Int) := by omega
    have hC : (frm : Int) ≤ (s.size : Int) := by omega
    have hD : out.length < 8796093022208 := by omega
    refine ⟨out ++ [s.extract frm s.size], ?_, ?_⟩
    · simp only [spec_l21Cut.l0, if_neg hA, if_pos hB, if_pos hC, if_pos hD, Int.toNat_natCast]
    · have e : s.data.toList.drop i = [] := List.drop_of_length_le (by rw [data_length]; omega)
      rw [List.map_append, List.map_cons, List.map_nil, extr_list s frm s.size (Nat.le_refl _), e]
      have e2 : i - frm = s.size - frm := by omega
      simp [cutB, hdB, e2]
  | succ d ih =>
    intro i k frm out hd hf ho hk
    obtain ⟨k, rfl⟩ : ∃ m, k = m + 1 := ⟨k - 1, by omega⟩
    have hi : i < s.data.toList.length := by rw [data_length]; omega
    have hA : (i : Int) < (s.size : Int) := by omega
    have hA0 : 0 ≤ (i : Int) := by omega
    have hB : 0 ≤ (frm : Int) := by omega
    have hC : (frm : Int) ≤ (i : Int) := by omega
    have hC2 : (i : Int) ≤ (s.size : Int) := by omega
    have hD : out.length < 8796093022208 := by omega
    have hE : i + 1 + d = s.size := by omega
    have hF : frm ≤ i + 1 := by omega
    have hG : out.length ≤ i + 1 := by omega
    have hH : ∀ x : ByteArray, (out ++ [x]).length ≤ i + 1 := fun x => by simp; omega
    have hk2 : d < k := by omega
    have hdr : s.data.toList.drop i = s.data.toList[i] :: s.data.toList.drop (i + 1) := List.drop_eq_getElem_cons hi
    have ht : (s.data.toList.drop frm).take (i + 1 - frm) = (s.data.toList.drop frm).take (i - frm) ++ [s.data.toList[i]] := by
      have e : i + 1 - frm = (i - frm) + 1 := by omega
      have hq : i - frm < (s.data.toList.drop frm).length := by rw [List.length_drop]; omega
      rw [e, List.take_succ_eq_append_getElem hq]
      congr 2
      rw [List.getElem_drop]
      congr 1
      omega
    have hiE : i ≤ s.size := by omega
    have ew : wrap64 ((i : Int) + 1) = ((i + 1 : Nat) : Int) := by rw [w64 (by omega) (by omega)]; omega
    by_cases hb : s.data.toList[i] = 32
    · obtain ⟨r, r1, r2⟩ := ih (i + 1) k (i + 1) (out ++ [s.extract frm i]) hE (Nat.le_refl _) (hH _) hk2
      refine ⟨r, ?_, ?_⟩
      · simp only [spec_l21Cut.l0, if_pos hA, if_pos hA0, if_pos ((bt_is32 s i hi).2 hb), if_pos hB, if_pos hC, if_pos hC2, if_pos hD, Int.toNat_natCast, ew]
        exact r1
      · rw [r2, Nat.sub_self, List.take_zero, hdB_nil, hdr, hb, hdB_space, List.map_append, List.map_cons, List.map_nil, extr_list s frm i hiE]
        simp
    · obtain ⟨r, r1, r2⟩ := ih (i + 1) k frm out hE hF hG hk2
      refine ⟨r, ?_, ?_⟩
      · simp only [spec_l21Cut.l0, if_pos hA, if_pos hA0, if_neg (fun q => hb ((bt_is32 s i hi).1 q)), ew]
        exact r1
      · rw [r2, ht, hdr, hdB_snoc _ _ _ hb]
theorem map_data_inj : ∀ (a b : List ByteArray), a.map (fun x => x.data.toList) = b.map (fun x => x.data.toList) → a = b
  | [], [], _ => rfl
  | [], y :: ys, h => by simp at h
  | x :: xs, [], h => by simp at h
  | x :: xs, y :: ys, h => by
    simp only [List.map_cons, List.cons.injEq] at h
    have e : x = y := by
      cases x with
      | mk dx => cases y with
        | mk dy => exact congrArg ByteArray.mk (Array.toList_inj.1 h.1)
    rw [e, map_data_inj xs ys h.2]
theorem cut_spec (s : ByteArray) (hs : s.size ≤ 1048576) (k : Nat) (hk : s.size < k) : ∃ W, spec_l21Cut.f k s 32 = some W ∧ W.map (fun x => x.data.toList) = cutB s.data.toList := by
  obtain ⟨r, r1, r2⟩ := l21_l0 s hs s.size 0 k 0 [] (by omega) (Nat.le_refl _) (by simp) hk
  exact ⟨r, r1, by rw [r2]; simp [hdB_nil]⟩
def isDig (b : UInt8) : Bool := decide (48 ≤ b.toNat) && decide (b.toNat ≤ 57)
def valN (n : Nat) (L : List UInt8) : Nat := L.foldl (fun m b => m * 10 + (b.toNat - 48)) n
theorem valN_nil (n : Nat) : valN n [] = n := by unfold valN; exact List.foldl_nil
theorem valN_cons (n : Nat) (b : UInt8) (bs : List UInt8) : valN n (b :: bs) = valN (n * 10 + (b.toNat - 48)) bs := by unfold valN; exact List.foldl_cons
def p10 : Nat → Nat
  | 0 => 1
  | i + 1 => p10 i * 10
theorem pow_le10 (i : Nat) (h : i ≤ 11) : p10 i ≤ 100000000000 := by
  have : i = 0 ∨ i = 1 ∨ i = 2 ∨ i = 3 ∨ i = 4 ∨ i = 5 ∨ i = 6 ∨ i = 7 ∨ i = 8 ∨ i = 9 ∨ i = 10 ∨ i = 11 := by omega
  rcases this with rfl | rfl | rfl | rfl | rfl | rfl | rfl | rfl | rfl | rfl | rfl | rfl <;> decide
theorem p10_up {n i : Nat} (h : n < p10 i) : n < p10 (i + 1) := by
  show n < p10 i * 10
  omega
theorem p10_dig {n i b : Nat} (h : n < p10 i) (hb : b ≤ 57) : n * 10 + (b - 48) < p10 (i + 1) := by
  show n * 10 + (b - 48) < p10 i * 10
  omega
theorem valN_lt (L : List UInt8) : ∀ (n i : Nat), (∀ b ∈ L, isDig b = true) → n < p10 i → valN n L < p10 (i + L.length) := by
  induction L with
  | nil =>
    intro n i _ h
    have e := valN_nil n
    rw [e, List.length_nil, Nat.add_zero]
    exact h
  | cons b bs ih =>
    intro n i hd h
    have hb := hd b (by simp)
    unfold isDig at hb
    rw [Bool.and_eq_true] at hb
    have hb2 : b.toNat ≤ 57 := of_decide_eq_true hb.2
    have q := ih (n * 10 + (b.toNat - 48)) (i + 1) (fun c hc => hd c (by simp [hc])) (p10_dig h hb2)
    have e := valN_cons n b bs
    rw [e, List.length_cons, show i + (bs.length + 1) = i + 1 + bs.length from by omega]
    exact q
theorem digits_dig (u : Nat) : ∀ b ∈ Lib.decDigits u, isDig b = true := by
  have one : ∀ v : Nat, v < 10 → isDig (UInt8.ofNat (48 + v)) = true := by
    intro v hv
    have : (UInt8.ofNat (48 + v)).toNat = 48 + v := by
      rw [UInt8.toNat_ofNat']
      omega
    unfold isDig
    rw [this]
    simp
    omega
  induction u using Nat.strongRecOn with
  | ind u ih =>
    intro b hb
    rw [Lib.decDigits] at hb
    by_cases h : u < 10
    · rw [dif_pos h] at hb
      rw [List.mem_singleton.1 hb]
      exact one u h
    · rw [dif_neg h] at hb
      rcases List.mem_append.1 hb with hb | hb
      · exact ih (u / 10) (by omega) b hb
      · rw [List.mem_singleton.1 hb]
        exact one (u % 10) (by omega)
theorem digits_ne (u : Nat) : Lib.decDigits u ≠ [] := by
  rw [Lib.decDigits]
  by_cases h : u < 10
  · rw [dif_pos h]; simp
  · rw [dif_neg h]; simp
theorem decB_list (n : Int) : (decB n).toList = Lib.itoa n := by
  rw [ByteArray.toList_eq]
  rfl
/-- What spec.ReadDec's end answers. -/
def rdEnd (x : ByteArray) (c : Int) : Int × Bool := if (decB c).toList = x.toList then (c, true) else (0, false)
theorem specRD_j2 (x : ByteArray) (n c : Nat) (hn : n < 100000000000) (neg : Bool) (K : Nat) (hK : 40 < K) : spec_ReadDec.j2 K x (n : Int) (c : Int) neg = some (if c > 9 then (0, false) else if x.size > 10 then (0, false) else rdEnd x (if neg = true then -(n : Int) else (n : Int))) := by
  obtain ⟨K, rfl⟩ : ∃ m, K = m + 1 := ⟨K - 1, by omega⟩
  have w1 : wrap64 (-(n : Int)) = -(n : Int) := w64 (by omega) (by omega)
  simp only [spec_ReadDec.j2, w1]
  have d1 := specDecAny_f (-(n : Int)) (by omega) (by omega) K (by omega)
  have d2 := specDecAny_f (n : Int) (by omega) (by omega) K (by omega)
  have hx : ((x.size : Int) > 10) = (x.size > 10) := propext ⟨fun h => by omega, fun h => by omega⟩
  have hc : ((c : Int) > 9) = (c > 9) := propext ⟨fun h => by omega, fun h => by omega⟩
  simp only [d1, d2, Option.bind_some, hx, hc]
  unfold rdEnd
  cases neg <;> by_cases h1 : c > 9 <;> by_cases h2 : x.size > 10
  all_goals simp only [h1, h2, if_true, if_false, Bool.false_eq_true]
  all_goals (split <;> rfl)
theorem wsucc (i : Nat) (h : i ≤ 4611686018427387904) : wrap64 ((i : Int) + 1) = ((i + 1 : Nat) : Int) := by
  rw [w64 (by omega) (by omega)]
  omega
theorem rdstep (n b : Nat) (hn : n ≤ 100000000000) (h1 : 48 ≤ b) (h2 : b ≤ 57) : wrap64 ((wrap64 ((n : Int) * 10)) + (((b : Int) - 48) % 256)) = ((n * 10 + (b - 48) : Nat) : Int) := by
  have q : ((b : Int) - 48) % 256 = (b : Int) - 48 := by omega
  rw [q, w64 (i := (n : Int) * 10) (by omega) (by omega), w64 (by omega) (by omega)]
  omega
theorem specRD_l0 (x : ByteArray) (lim : Nat) (hl : lim ≤ 11) (hls : lim ≤ x.size) (hle : lim = x.size ∨ lim = 11) (hx : x.size ≤ 1048576) (hp : 0 < x.size) (K : Nat) (d : Nat) : ∀ (i n c : Nat), i + d = lim → n < p10 i → c ≤ i →
    spec_ReadDec.l0 (K + 2 * d + 2) x (n : Int) (c : Int) (i : Int) = spec_ReadDec.j2 K x ((valN n (((x.data.toList.take lim).drop i).filter isDig) : Nat) : Int) ((c + (((x.data.toList.take lim).drop i).filter isDig).length : Nat) : Int) (bt x 0 == 45) := by
  have hll : (x.data.toList.take lim).length = lim := by rw [List.length_take, data_length]; omega
  have hp1 : (x.size : Int) > 0 := by omega
  have hp2 : (0 : Int) < (x.size : Int) := by omega
  induction d with
  | zero =>
    intro i n c hi hn hc
    obtain rfl : i = lim := by omega
    rw [List.drop_of_length_le (by omega)]
    simp only [List.filter_nil, valN_nil, List.length_nil, Nat.add_zero, Nat.mul_zero]
    obtain ⟨K1, hK1⟩ : ∃ q, q = K + 1 := ⟨_, rfl⟩
    rw [show K + 2 = K1 + 1 from by omega]
    simp only [spec_ReadDec.l0]
    have hj : spec_ReadDec.j1 K1 x (n : Int) (c : Int) (i : Int) false = spec_ReadDec.j2 K x (n : Int) (c : Int) (bt x 0 == 45) := by
      rw [hK1]
      obtain ⟨K2, hK2⟩ : ∃ q, q = K := ⟨_, rfl⟩
      rw [← hK2]
      simp only [spec_ReadDec.j1, Bool.false_eq_true, if_false, if_pos hp1, if_pos hp2]
    rcases hle with h | h
    · rw [if_neg (by omega), hj]
    · have e : decide ((i : Int) < 11) = false := decide_eq_false (by omega)
      rw [e]
      split <;> exact hj
  | succ d ih =>
    intro i n c hi hn hc
    have hi11 : i ≤ 11 := by omega
    have hi' : i + 1 + d = lim := by omega
    have hil : i < (x.data.toList.take lim).length := by omega
    have hix : i < x.data.toList.length := by rw [data_length]; omega
    have hg : (x.data.toList.take lim)[i]'hil = x.data.toList[i]'hix := List.getElem_take
    have hA : (i : Int) < (x.size : Int) := by omega
    have hA0 : 0 ≤ (i : Int) := by omega
    have hA1 : decide ((i : Int) < 11) = true := decide_eq_true (by omega)
    have hbt := bt_list x i hix
    have hP := pow_le10 i hi11
    have ew := wsucc i (Nat.le_trans hi11 (by decide))
    have ec := wsucc c (Nat.le_trans hc (Nat.le_trans hi11 (by decide)))
    obtain ⟨K1, hK1⟩ : ∃ q, q = K + 2 * d + 2 := ⟨_, rfl⟩
    have ihd := fun n' c' h1 h2 => ih (i + 1) n' c' hi' h1 h2
    rw [← hK1] at ihd
    have hKK : K + 2 * (d + 1) + 2 = (K1 + 1) + 1 := by rw [hK1]; clear ihd hle; omega
    rw [hKK, List.drop_eq_getElem_cons hil, hg]
    obtain ⟨K2, hK2⟩ : ∃ q, q = K1 + 1 := ⟨_, rfl⟩
    rw [← hK2]
    simp only [spec_ReadDec.l0]
    rw [if_pos hA, hA1, hK2]
    obtain ⟨K3, hK3⟩ : ∃ q, q = K1 := ⟨_, rfl⟩
    rw [← hK3]
    simp only [spec_ReadDec.j1]
    rw [if_pos trivial, if_pos hA0, if_pos hA, hK3, hbt, ew, ec]
    generalize x.data.toList[i] = b at *
    by_cases h1 : 48 ≤ b.toNat
    · by_cases h2 : b.toNat ≤ 57
      · have hd : isDig b = true := by simp [isDig, h1, h2]
        have e1 := rdstep n b.toNat (Nat.le_of_lt (Nat.lt_of_lt_of_le hn hP)) h1 h2
        rw [if_pos (show (b.toNat : Int) ≥ 48 from Int.ofNat_le.mpr h1), if_pos (show (b.toNat : Int) ≤ 57 from Int.ofNat_le.mpr h2), e1, ihd _ _ (p10_dig hn h2) (Nat.succ_le_succ hc), List.filter_cons_of_pos hd]
        simp only [valN_cons, List.length_cons]
        rw [Nat.add_assoc c 1, Nat.add_comm 1]
      · have hd : ¬ isDig b = true := by simp [isDig, h2]
        rw [if_pos (show (b.toNat : Int) ≥ 48 from Int.ofNat_le.mpr h1), if_neg (show ¬ (b.toNat : Int) ≤ 57 from fun q => h2 (Int.ofNat_le.mp q)), ihd n c (p10_up hn) (Nat.le_succ_of_le hc), List.filter_cons_of_neg hd]
    · have hd : ¬ isDig b = true := by simp [isDig, h1]
      rw [if_neg (show ¬ (b.toNat : Int) ≥ 48 from fun q => h1 (Int.ofNat_le.mp q)), ihd n c (p10_up hn) (Nat.le_succ_of_le hc), List.filter_cons_of_neg hd]
theorem implRD_l0 (x t : ByteArray) (sg : Int) (hsg : sg = 1 ∨ sg = -1) (ht : t.size ≤ 9) (K d : Nat) : ∀ (i n : Nat), i + d = t.size → n < p10 i →
    impl_ReadDec.l0 (K + d + 1) x t sg (n : Int) (t.size : Int) (i : Int) = some (if (t.data.toList.drop i).all isDig = true then rdEnd x (sg * (valN n (t.data.toList.drop i) : Int)) else (0, false)) := by
  induction d with
  | zero =>
    intro i n hi hn
    have hP := pow_le10 i (by omega)
    rw [List.drop_of_length_le (by rw [data_length]; omega)]
    obtain ⟨K1, hK1⟩ : ∃ q, q = K := ⟨_, rfl⟩
    simp only [Nat.add_zero]
    rw [← hK1]
    simp only [impl_ReadDec.l0, List.all_nil, if_true, valN_nil]
    have e : wrap64 (sg * (n : Int)) = sg * (n : Int) := by
      rcases hsg with rfl | rfl
      · exact w64 (by omega) (by omega)
      · exact w64 (by omega) (by omega)
    have hd := implDec_f (sg * (n : Int)) (by rcases hsg with rfl | rfl <;> omega) (by rcases hsg with rfl | rfl <;> omega)
    rw [if_neg (by omega), e, hd]
    simp only [Option.bind_some]
    unfold rdEnd
    split <;> rfl
  | succ d ih =>
    intro i n hi hn
    have hix : i < t.data.toList.length := by rw [data_length]; omega
    have hA : (i : Int) < (t.size : Int) := by omega
    have hA0 : 0 ≤ (i : Int) := by omega
    have hbt := bt_list t i hix
    have hP := pow_le10 i (by omega)
    have ew : wrap64 ((i : Int) + 1) = ((i + 1 : Nat) : Int) := by rw [w64 (by omega) (by omega)]; omega
    obtain ⟨K1, hK1⟩ : ∃ q, q = K + d + 1 := ⟨_, rfl⟩
    have ihd := fun n' h1 => ih (i + 1) n' (by omega) h1
    rw [← hK1] at ihd
    rw [show K + (d + 1) + 1 = K1 + 1 from by omega, List.drop_eq_getElem_cons hix]
    obtain ⟨K2, hK2⟩ : ∃ q, q = K1 := ⟨_, rfl⟩
    rw [← hK2]
    simp only [impl_ReadDec.l0]
    rw [if_pos hA, if_pos hA0, if_pos hA, hbt, ew, hK2]
    generalize t.data.toList[i] = b at *
    by_cases h1 : 48 ≤ b.toNat
    · by_cases h2 : b.toNat ≤ 57
      · have hd : isDig b = true := by simp [isDig, h1, h2]
        have e1 : wrap64 ((wrap64 (10 * (n : Int))) + (((b.toNat : Int) - 48) % 256)) = ((n * 10 + (b.toNat - 48) : Nat) : Int) := by
          have q : ((b.toNat : Int) - 48) % 256 = (b.toNat : Int) - 48 := by omega
          rw [q, w64 (i := 10 * (n : Int)) (by omega) (by omega), w64 (by omega) (by omega)]
          omega
        have hall : (b :: t.data.toList.drop (i + 1)).all isDig = (t.data.toList.drop (i + 1)).all isDig := by simp [hd]
        rw [if_neg (by omega), if_neg (by omega), e1, ihd _ (p10_dig hn h2), hall]
        rw [valN_cons]
      · have hd : isDig b = false := by simp [isDig, h2]
        have hall : (b :: t.data.toList.drop (i + 1)).all isDig = false := by simp [hd]
        rw [if_neg (by omega), if_pos (by omega), hall]
        rfl
    · have hd : isDig b = false := by simp [isDig, h1]
      have hall : (b :: t.data.toList.drop (i + 1)).all isDig = false := by simp [hd]
      rw [if_pos (by omega), hall]
      rfl
theorem filter_all {α : Type} (p : α → Bool) (L : List α) (h : L.all p = true) : L.filter p = L := List.filter_eq_self.2 (List.all_eq_true.1 h)
/-- A decimal that is a text without a sign has digits alone. -/
theorem end_pos (x : ByteArray) (n : Nat) (h : ¬ x.data.toList.all isDig = true) : rdEnd x (n : Int) = (0, false) := by
  unfold rdEnd
  rw [if_neg]
  intro e
  rw [decB_list, ByteArray.toList_eq, Lib.itoa_nonneg] at e
  exact h (List.all_eq_true.2 (by rw [← e]; exact digits_dig n))
theorem end_neg (x : ByteArray) (n : Nat) (bs : List UInt8) (hx : x.data.toList = 45 :: bs) (h : bs = [] ∨ ¬ bs.all isDig = true) : rdEnd x (-(n : Int)) = (0, false) := by
  unfold rdEnd
  rw [if_neg]
  intro e
  rw [decB_list, ByteArray.toList_eq, hx] at e
  by_cases h0 : n = 0
  · subst h0
    have := digits_dig 0 45 (by
      have : Lib.itoa (-((0 : Nat) : Int)) = Lib.decDigits 0 := Lib.itoa_nonneg 0
      rw [this] at e
      rw [e]
      simp)
    exact absurd this (by decide)
  · rw [Lib.itoa_neg n (by omega)] at e
    injection e with _ e
    rcases h with h | h
    · rw [h] at e
      exact digits_ne n e
    · exact h (List.all_eq_true.2 (by rw [← e]; exact digits_dig n))
theorem readDec_both (x : ByteArray) (hx : x.size ≤ 1048576) (k : Nat) (hk : 200 < k) : ∃ v, spec_ReadDec.f k x = some v ∧ impl_ReadDec.f k x = some v := by
  obtain ⟨L, hL⟩ : ∃ L, L = x.data.toList := ⟨_, rfl⟩
  have hLl : L.length = x.size := by rw [hL, data_length]
  by_cases h0 : x.size = 0
  · -- the empty text
    refine ⟨(0, false), ?_, ?_⟩
    · obtain ⟨k, rfl⟩ : ∃ m, k = m + 1 + 1 := ⟨k - 2, by omega⟩
      have e : spec_ReadDec.f (k + 1 + 1) x = spec_ReadDec.j2 k x ((0 : Nat) : Int) ((0 : Nat) : Int) false := by
        unfold spec_ReadDec.f
        obtain ⟨K1, hK1⟩ : ∃ q, q = k + 1 := ⟨_, rfl⟩
        rw [← hK1]
        simp only [spec_ReadDec.l0]
        rw [if_neg (by omega), hK1]
        obtain ⟨K2, hK2⟩ : ∃ q, q = k := ⟨_, rfl⟩
        rw [← hK2]
        simp only [spec_ReadDec.j1, Bool.false_eq_true, if_false]
        rw [if_neg (by omega)]
        rfl
      rw [e, specRD_j2 x 0 0 (by omega) false k (by omega), if_neg (by omega), if_neg (by omega)]
      congr 1
      unfold rdEnd
      rw [if_neg]
      intro e
      rw [decB_list, ByteArray.toList_eq, ← hL] at e
      have : L = [] := List.length_eq_zero_iff.1 (by omega)
      rw [this] at e
      simp only [Bool.false_eq_true, if_false] at e
      rw [Lib.itoa_nonneg 0] at e
      exact digits_ne 0 e
    · unfold impl_ReadDec.f
      rw [if_neg (by omega)]
      obtain ⟨k, rfl⟩ : ∃ m, k = m + 1 + 1 := ⟨k - 2, by omega⟩
      obtain ⟨K1, hK1⟩ : ∃ q, q = k + 1 := ⟨_, rfl⟩
      rw [← hK1]
      simp only [impl_ReadDec.j0, Bool.false_eq_true, if_false]
      rw [hK1]
      simp only [impl_ReadDec.j1, within_f, Option.bind_some]
      rw [if_neg]
      simp only [Bool.and_eq_true, decide_eq_true_eq]
      omega
  · obtain ⟨b0, bs, hb⟩ : ∃ b0 bs, L = b0 :: bs := by
      cases L with
      | nil => simp at hLl; omega
      | cons b bs => exact ⟨b, bs, rfl⟩
    have hb0 : (bt x 0 == 45) = (b0 == 45) := by
      have := bt_list x 0 (by rw [data_length]; omega)
      have e : x.data.toList[0]'(by rw [data_length]; omega) = b0 := by simp only [← hL, hb, List.getElem_cons_zero]
      rw [e] at this
      rw [show bt x 0 = (b0.toNat : Int) from this, Bool.eq_iff_iff, beq_iff_eq, beq_iff_eq]
      constructor
      · intro h
        apply UInt8.toNat_inj.1
        have : b0.toNat = 45 := by omega
        rw [this]
        rfl
      · intro h
        rw [h]
        rfl
    obtain ⟨lim, hlim⟩ : ∃ l, l = min x.size 11 := ⟨_, rfl⟩
    have hspec : spec_ReadDec.f k x = spec_ReadDec.j2 (k - 2 * lim - 2) x ((valN 0 ((L.take lim).filter isDig) : Nat) : Int) ((((L.take lim).filter isDig).length : Nat) : Int) (b0 == 45) := by
      have := specRD_l0 x lim (by omega) (by omega) (by omega) hx (by omega) (k - 2 * lim - 2) lim 0 0 0 (by omega) (by decide) (by omega)
      rw [show k - 2 * lim - 2 + 2 * lim + 2 = k from by omega, List.drop_zero, Nat.zero_add, hb0, ← hL] at this
      exact this
    have hvl : valN 0 ((L.take lim).filter isDig) < 100000000000 := by
      have h1 := valN_lt ((L.take lim).filter isDig) 0 0 (fun b hb => (List.mem_filter.1 hb).2) (by decide)
      have h2 : ((L.take lim).filter isDig).length ≤ 11 := by
        have := List.length_filter_le isDig (L.take lim)
        rw [List.length_take] at this
        omega
      rw [Nat.zero_add] at h1
      exact Nat.lt_of_lt_of_le h1 (pow_le10 _ h2)
    rw [hspec, specRD_j2 x _ _ hvl _ _ (by omega)]
    have himpl : impl_ReadDec.f k x = (if b0 = 45 then impl_ReadDec.j1 (k - 1) x (x.extract 1 x.size) (-1) else impl_ReadDec.j1 (k - 1) x x 1) := by
      unfold impl_ReadDec.f
      rw [if_pos (by omega), if_pos (by omega), hb0]
      obtain ⟨k, rfl⟩ : ∃ m, k = m + 1 := ⟨k - 1, by omega⟩
      rw [Nat.add_sub_cancel]
      obtain ⟨K1, hK1⟩ : ∃ q, q = k := ⟨_, rfl⟩
      rw [← hK1]
      simp only [impl_ReadDec.j0]
      by_cases h : b0 = 45
      · rw [if_pos (by simp [h]), if_pos (by omega), if_pos h]
      · rw [if_neg (by simp [h]), if_neg h]
    rw [himpl]
    have hj1 : ∀ (t : ByteArray) (sg : Int), (sg = 1 ∨ sg = -1) → impl_ReadDec.j1 (k - 1) x t sg = some (if 1 ≤ t.size ∧ t.size ≤ 9 then (if t.data.toList.all isDig = true then rdEnd x (sg * (valN 0 t.data.toList : Int)) else (0, false)) else (0, false)) := by
      intro t sg hsg
      obtain ⟨K1, hK1⟩ : ∃ q, k - 1 = q + 1 := ⟨k - 2, by omega⟩
      rw [hK1]
      obtain ⟨K2, hK2⟩ : ∃ q, q = K1 := ⟨_, rfl⟩
      rw [← hK2]
      simp only [impl_ReadDec.j1, within_f, Option.bind_some]
      by_cases h : 1 ≤ t.size ∧ t.size ≤ 9
      · rw [if_pos h, if_pos (by simp only [Bool.and_eq_true, decide_eq_true_eq]; omega)]
        have := implRD_l0 x t sg hsg h.2 (K2 - t.size - 1) t.size 0 0 (by omega) (by decide)
        rw [show K2 - t.size - 1 + t.size + 1 = K2 from by omega, List.drop_zero] at this
        exact this
      · rw [if_neg h, if_neg (by simp only [Bool.and_eq_true, decide_eq_true_eq]; omega)]
    by_cases h10 : x.size > 10
    · refine ⟨(0, false), ?_, ?_⟩
      · congr 1
        split
        · rfl
        · first | rfl | rw [if_pos h10]
      · by_cases h45 : b0 = 45
        · rw [if_pos h45, hj1 _ _ (.inr rfl), if_neg (by rw [ByteArray.size_extract]; omega)]
        · rw [if_neg h45, hj1 _ _ (.inl rfl), if_neg (by omega)]
    · have htake : L.take lim = L := List.take_of_length_le (by omega)
      rw [htake, if_neg h10]
      by_cases h45 : b0 = 45
      · rw [if_pos h45, hj1 _ _ (.inr rfl)]
        have ht : (x.extract 1 x.size).data.toList = bs := by
          rw [extr_list x 1 x.size (Nat.le_refl _), ← hL, hb]
          simp only [List.drop_succ_cons, List.drop_zero]
          exact List.take_of_length_le (by rw [hb] at hLl; simp at hLl; omega)
        have hts : (x.extract 1 x.size).size = bs.length := by rw [← data_length, ht]
        have hbl : bs.length + 1 = x.size := by rw [hb] at hLl; simpa using hLl
        have hf : L.filter isDig = bs.filter isDig := by rw [hb, h45]; rfl
        have hc : ¬ (L.filter isDig).length > 9 := by
          rw [hf]
          have := List.length_filter_le isDig bs
          omega
        have hq : (if (b0 == 45) = true then -((valN 0 (L.filter isDig) : Nat) : Int) else ((valN 0 (L.filter isDig) : Nat) : Int)) = -((valN 0 (L.filter isDig) : Nat) : Int) := if_pos (by simp [h45])
        rw [if_neg hc, hq, ht, hts]
        have hxl : x.data.toList = 45 :: bs := by rw [← hL, hb, h45]
        by_cases hall : bs.all isDig = true
        · by_cases hne : bs = []
          · rw [end_neg x _ bs hxl (.inl hne)]
            exact ⟨_, rfl, by rw [if_neg (by rw [hne]; simp)]⟩
          · have hpos : 1 ≤ bs.length := List.length_pos_iff.2 hne
            rw [if_pos ⟨hpos, by omega⟩, if_pos hall, hf, filter_all _ _ hall]
            exact ⟨_, rfl, by rw [Int.neg_one_mul]⟩
        · rw [end_neg x _ bs hxl (.inr hall)]
          refine ⟨_, rfl, ?_⟩
          split
          · first | rfl | rw [if_neg hall]
          · rfl
      · rw [if_neg h45, hj1 _ _ (.inl rfl), ← hL]
        have hq : (if (b0 == 45) = true then -((valN 0 (L.filter isDig) : Nat) : Int) else ((valN 0 (L.filter isDig) : Nat) : Int)) = ((valN 0 (L.filter isDig) : Nat) : Int) := if_neg (by simp [h45])
        rw [hq]
        by_cases hall : L.all isDig = true
        · rw [filter_all _ _ hall, hLl, if_pos hall, Int.one_mul]
          by_cases h9 : x.size > 9
          · rw [if_pos h9, if_neg (by omega)]
            exact ⟨_, rfl, rfl⟩
          · rw [if_neg h9, if_pos ⟨by omega, by omega⟩]
            exact ⟨_, rfl, rfl⟩
        · rw [end_pos x _ (by rw [← hL]; exact hall)]
          refine ⟨(0, false), ?_, ?_⟩
          · split <;> rfl
          · split
            · first | rfl | rw [if_neg hall]
            · rfl
theorem cutB_one : ∀ A : List UInt8, (∀ b ∈ A, b ≠ 32) → cutB A = [A]
  | [], _ => rfl
  | b :: bs, h => by
    rw [cutB, if_neg (h b (by simp)), cutB_one bs (fun x hx => h x (by simp [hx]))]
theorem cutB_app (B : List UInt8) : ∀ A : List UInt8, (∀ b ∈ A, b ≠ 32) → cutB (A ++ 32 :: B) = A :: cutB B
  | [], _ => by simp [cutB]
  | b :: bs, h => by
    rw [List.cons_append, cutB, if_neg (h b (by simp)), cutB_app B bs (fun x hx => h x (by simp [hx]))]
/-- The place of the first byte c, counted from i. -/
def at19 (c : UInt8) : List UInt8 → Nat → Int
  | [], _ => -1
  | b :: bs, i => if b = c then i else at19 c bs (i + 1)
theorem at19_miss (c : UInt8) : ∀ (A : List UInt8) (i : Nat), (∀ b ∈ A, b ≠ c) → at19 c A i = -1
  | [], _, _ => rfl
  | b :: bs, i, h => by rw [at19, if_neg (h b (by simp)), at19_miss c bs (i + 1) (fun x hx => h x (by simp [hx]))]
theorem at19_hit (c : UInt8) (B : List UInt8) : ∀ (A : List UInt8) (i : Nat), (∀ b ∈ A, b ≠ c) → at19 c (A ++ c :: B) i = ((i + A.length : Nat) : Int)
  | [], i, _ => by simp [at19]
  | b :: bs, i, h => by
    rw [List.cons_append, at19, if_neg (h b (by simp)), at19_hit c B bs (i + 1) (fun x hx => h x (by simp [hx])), List.length_cons]
    omega
theorem at19_range (c : UInt8) : ∀ (A : List UInt8) (i : Nat), at19 c A i = -1 ∨ ∃ j : Nat, at19 c A i = j ∧ i ≤ j ∧ j < i + A.length
  | [], _ => .inl rfl
  | b :: bs, i => by
    rw [at19]
    split
    · exact .inr ⟨i, rfl, Nat.le_refl _, by simp⟩
    · rcases at19_range c bs (i + 1) with h | ⟨j, h, h1, h2⟩
      · exact .inl h
      · exact .inr ⟨j, h, by omega, by rw [List.length_cons]; omega⟩
theorem l19_l0 (x : ByteArray) (c : UInt8) (hx : x.size ≤ 1048576) (d : Nat) : ∀ (i k : Nat), i + d = x.size → d < k → spec_l19At.l0 k x (c.toNat : Int) (i : Int) = some (at19 c (x.data.toList.drop i) i) := by
  have hl : x.data.toList.length = x.size := data_length x
  induction d with
  | zero =>
    intro i k hi hk
    obtain ⟨k, rfl⟩ : ∃ m, k = m + 1 := ⟨k - 1, by omega⟩
    rw [spec_l19At.l0, if_neg (by omega), List.drop_eq_nil_of_le (by omega)]
    rfl
  | succ d ih =>
    intro i k hi hk
    obtain ⟨k, rfl⟩ : ∃ m, k = m + 1 := ⟨k - 1, by omega⟩
    have hlt : i < x.data.toList.length := by omega
    rw [spec_l19At.l0, if_pos (by omega), if_pos (by omega), bt_list x i hlt, List.drop_eq_getElem_cons hlt, at19]
    by_cases e : x.data.toList[i] = c
    · rw [if_pos (by rw [e]), if_pos e]
    · rw [if_neg (fun q => e (UInt8.toNat_inj.1 (by omega))), if_neg e, w64 (by omega) (by omega)]
      exact ih (i + 1) k (by omega) (by omega)
theorem l19_f (x : ByteArray) (c : UInt8) (hx : x.size ≤ 1048576) (k : Nat) (hk : x.size < k) : spec_l19At.f k x 0 (c.toNat : Int) = some (at19 c x.data.toList 0) := by
  have := l19_l0 x c hx x.size 0 k (by omega) hk
  simpa [spec_l19At.f] using this
def showB (s : ByteArray) (o l f : Int) : ByteArray := (((s ++ (if o = 2 then (⟨#[60]⟩ : ByteArray) else ⟨#[62]⟩)) ++ decB l) ++ (⟨#[32, 102, 111, 114, 32]⟩ : ByteArray)) ++ decB f
theorem showRule_val (s : ByteArray) (o l f : Int) (hs : s.size ≤ 1048576) (k : Nat) (hk : 1048700 < k) (h : ruleOkB s o l f = true) : spec_ShowRule.f k s o l f = some (showB s o l f) ∧ impl_ShowRule.f k s o l f = some (showB s o l f) := by
  unfold spec_ShowRule.f impl_ShowRule.f
  rw [specRuleOk_f s o l f (by omega) k (by omega), implRuleOk_f s o l f (by omega) k (by omega)]
  simp only [Option.bind_some]
  rw [if_pos h, if_pos h]
  unfold ruleOkB at h
  simp only [Bool.and_eq_true, decide_eq_true_eq] at h
  obtain ⟨_, ⟨o1, o2⟩, ⟨l1, l2⟩, f1, f2⟩ := h
  have dl := decB_size l (by omega) (by omega)
  have df := decB_size f (by omega) (by omega)
  rw [specDec_f l (by omega) (by omega) k (by omega), specDec_f f (by omega) (by omega) k (by omega), implDec_f l (by omega) (by omega), implDec_f f (by omega) (by omega)]
  simp only [Option.bind_some]
  have e60 : (⟨#[60]⟩ : ByteArray).size = 1 := rfl
  have e62 : (⟨#[62]⟩ : ByteArray).size = 1 := rfl
  have e5 : (⟨#[32, 102, 111, 114, 32]⟩ : ByteArray).size = 5 := rfl
  have : o = 1 ∨ o = 2 := by omega
  rcases this with rfl | rfl
  · have er : rdOf ByteArray.empty ([(⟨#[]⟩ : ByteArray), (⟨#[62]⟩ : ByteArray), (⟨#[60]⟩ : ByteArray)] : List ByteArray) 1 = ⟨#[62]⟩ := rfl
    have es : showB s 1 l f = (((s ++ (⟨#[62]⟩ : ByteArray)) ++ decB l) ++ (⟨#[32, 102, 111, 114, 32]⟩ : ByteArray)) ++ decB f := rfl
    rw [er, es]
    simp only [ByteArray.size_append, e60, e62, e5, List.length_cons, List.length_nil]
    refine ⟨?_, ?_⟩ <;> repeat (first | rw [if_pos trivial] | rw [if_pos (by omega)] | rw [if_neg (by omega)])
  · have er : rdOf ByteArray.empty ([(⟨#[]⟩ : ByteArray), (⟨#[62]⟩ : ByteArray), (⟨#[60]⟩ : ByteArray)] : List ByteArray) 2 = ⟨#[60]⟩ := rfl
    have es : showB s 2 l f = (((s ++ (⟨#[60]⟩ : ByteArray)) ++ decB l) ++ (⟨#[32, 102, 111, 114, 32]⟩ : ByteArray)) ++ decB f := rfl
    rw [er, es]
    simp only [ByteArray.size_append, e60, e62, e5, List.length_cons, List.length_nil]
    refine ⟨?_, ?_⟩ <;> repeat (first | rw [if_pos trivial] | rw [if_pos (by omega)] | rw [if_neg (by omega)])
theorem showRule_no (s : ByteArray) (o l f : Int) (hs : s.size ≤ 1048576) (k : Nat) (hk : 1048700 < k) (h : ¬ ruleOkB s o l f = true) : spec_ShowRule.f k s o l f = some ⟨#[]⟩ ∧ impl_ShowRule.f k s o l f = some ⟨#[]⟩ := by
  unfold spec_ShowRule.f impl_ShowRule.f
  rw [specRuleOk_f s o l f (by omega) k (by omega), implRuleOk_f s o l f (by omega) k (by omega)]
  simp only [Option.bind_some]
  rw [if_neg h, if_neg h]
  exact ⟨rfl, rfl⟩
theorem keyBytes (s : ByteArray) : ∀ (d i : Nat), i + d = s.size → keyOkFrom s d i = true → ∀ j, i ≤ j → j < s.size → kb (bt s (j : Int)) = true
  | 0, i, hi, _, j, h1, h2 => by omega
  | d + 1, i, hi, h, j, h1, h2 => by
    rw [keyOkFrom, Bool.and_eq_true] at h
    by_cases e : j = i
    · subst e; exact h.1
    · exact keyBytes s d (i + 1) (by omega) h.2 j (by omega) h2
theorem keyOk_ne (s : ByteArray) (h : keyOkB s = true) : ∀ b ∈ s.data.toList, b ≠ 32 ∧ b ≠ 60 ∧ b ≠ 62 := by
  intro b hb
  obtain ⟨j, hj, rfl⟩ := List.getElem_of_mem hb
  have hl : s.data.toList.length = s.size := data_length s
  have := keyBytes s s.size 0 (by omega) h j (Nat.zero_le _) (by omega)
  rw [bt_list s j hj] at this
  refine ⟨?_, ?_, ?_⟩ <;> (intro e; rw [e] at this; exact absurd this (by decide))
theorem dec_ne (n : Int) (h : 0 ≤ n) : ∀ b ∈ (decB n).data.toList, b ≠ 32 ∧ b ≠ 60 ∧ b ≠ 62 := by
  obtain ⟨m, rfl⟩ : ∃ m : Nat, n = m := ⟨n.toNat, by omega⟩
  have e : (decB (m : Int)).data.toList = Lib.decDigits m := by
    have := decB_list (m : Int)
    rw [ByteArray.toList_eq, Lib.itoa_nonneg] at this
    exact this
  rw [e]
  intro b hb
  have := digits_dig m b hb
  refine ⟨?_, ?_, ?_⟩ <;> (intro q; rw [q] at this; exact absurd this (by decide))
def sgB (o : Int) : UInt8 := if o = 2 then 60 else 62
theorem showB_list (s : ByteArray) (o l f : Int) : (showB s o l f).data.toList = s.data.toList ++ sgB o :: ((decB l).data.toList ++ 32 :: ([102, 111, 114] ++ 32 :: (decB f).data.toList)) := by
  unfold showB sgB
  by_cases h : o = 2
  · simp [h, ByteArray.data_append, Array.toList_append]
  · simp [h, ByteArray.data_append, Array.toList_append]
theorem ba_ext {a b : ByteArray} (h : a.data.toList = b.data.toList) : a = b := by
  cases a; cases b
  exact congrArg ByteArray.mk (Array.toList_inj.1 h)
theorem any_range (cs : List UInt8) : ∀ L : List UInt8, Lib.indexAny L cs = -1 ∨ ∃ j : Nat, Lib.indexAny L cs = j ∧ j < L.length
  | [] => .inl rfl
  | b :: bs => by
    rw [Lib.indexAny]
    split
    · exact .inr ⟨0, rfl, by simp⟩
    · rcases any_range cs bs with h | ⟨j, h, h1⟩
      · exact .inl (by rw [h]; rfl)
      · refine .inr ⟨j + 1, ?_, by rw [List.length_cons]; omega⟩
        rw [h, if_neg (by simp)]
        omega
theorem cut_len (L S : List UInt8) : (Lib.cut L S).1.length ≤ L.length ∧ (Lib.cut L S).2.1.length ≤ L.length := by
  unfold Lib.cut
  split
  · simp only [List.length_take, List.length_drop]; omega
  · simp
theorem cutB_len : ∀ L : List UInt8, ∀ w ∈ cutB L, w.length ≤ L.length
  | [], w, h => by simp [cutB] at h; simp [h]
  | b :: bs, w, h => by
    have ih := cutB_len bs
    rw [cutB] at h
    split at h
    · rcases List.mem_cons.1 h with rfl | h
      · simp
      · have := ih w h; rw [List.length_cons]; omega
    · split at h
      · rw [List.mem_singleton.1 h]; simp
      · rename_i w' ws e
        rcases List.mem_cons.1 h with rfl | h
        · have := ih w' (by rw [e]; simp)
          simp only [List.length_cons]; omega
        · have := ih w (by rw [e]; simp [h])
          rw [List.length_cons]; omega
theorem implRR_no (a0 : ByteArray) (hs : a0.size ≤ 1048576) (K : Nat) (hK : 1048900 < K) (hno : ∀ s o l f, ruleOkB s o l f = true → a0 ≠ showB s o l f) : impl_ReadRule.f (K + 1) a0 = some (⟨#[]⟩, 0, 0, 0, false) := by
  have hl : a0.data.toList.length = a0.size := data_length a0
  have J : 0 < a0.size → ∀ (x5 x6 s : ByteArray) (o : Int), x5.size ≤ 1048576 → x6.size ≤ 1048576 → s.size ≤ 1048576 → impl_ReadRule.j0 (K + 1) a0 x5 x6 s o 0 0 = some (⟨#[]⟩, 0, 0, 0, false) := by
    intro hp x5 x6 s o h5 h6 h7
    obtain ⟨v, _, v2⟩ := readDec_both x5 h5 K (by omega)
    obtain ⟨u, _, u2⟩ := readDec_both x6 h6 K (by omega)
    rw [impl_ReadRule.j0, v2, Option.bind_some, u2, Option.bind_some]
    by_cases h : ruleOkB s o v.1 u.1 = true
    · rw [(showRule_val s o v.1 u.1 h7 K (by omega) h).2, Option.bind_some, if_neg]
      intro e
      rw [ByteArray.toList_eq, ByteArray.toList_eq] at e
      exact hno _ _ _ _ h (ba_ext e.symm)
    · rw [(showRule_no s o v.1 u.1 h7 K (by omega) h).2, Option.bind_some, if_neg]
      intro e
      rw [ByteArray.toList_eq, ByteArray.toList_eq] at e
      rw [← e] at hl
      simp at hl
      omega
  unfold impl_ReadRule.f strings_IndexAny.f
  rw [if_pos ⟨by omega, rfl⟩, Option.bind_some]
  rcases any_range [60, 62] a0.data.toList with h | ⟨j, h, hj⟩
  · rw [h, if_pos (by omega)]
  · rw [h, if_neg (by omega), w64 (i := (j : Int) + 1) (by omega) (by omega), if_pos (by omega), if_pos (by omega)]
    unfold strings_Cut.f
    rw [if_pos (by rw [ByteArray.size_extract]; omega), Option.bind_some, if_pos (by omega), if_pos (by omega), if_pos (by omega)]
    have hc := cut_len (a0.extract ((j : Int) + 1).toNat a0.size).data.toList [32, 102, 111, 114, 32]
    have he : (a0.extract ((j : Int) + 1).toNat a0.size).data.toList.length ≤ 1048576 := by rw [data_length, ByteArray.size_extract]; omega
    have hx : (a0.extract 0 (j : Int).toNat).size ≤ 1048576 := by rw [ByteArray.size_extract]; omega
    split
    · exact J (by omega) _ _ _ _ (by show ByteArray.size ⟨_⟩ ≤ _; simp only [ByteArray.size, List.size_toArray]; exact Nat.le_trans hc.1 he) (by show ByteArray.size ⟨_⟩ ≤ _; simp only [ByteArray.size, List.size_toArray]; exact Nat.le_trans hc.2 he) hx
    · exact J (by omega) _ _ _ _ (by show ByteArray.size ⟨_⟩ ≤ _; simp only [ByteArray.size, List.size_toArray]; exact Nat.le_trans hc.1 he) (by show ByteArray.size ⟨_⟩ ≤ _; simp only [ByteArray.size, List.size_toArray]; exact Nat.le_trans hc.2 he) hx
theorem specRR_no (a0 : ByteArray) (hs : a0.size ≤ 1048576) (K : Nat) (hK : 1048900 < K) (hno : ∀ s o l f, ruleOkB s o l f = true → a0 ≠ showB s o l f) : spec_ReadRule.f (K + 1) a0 = some (⟨#[]⟩, 0, 0, 0, false) := by
  have hl : a0.data.toList.length = a0.size := data_length a0
  obtain ⟨W, w1, w2⟩ := cut_spec a0 hs (K + 1) (by omega)
  have hW : ∀ x ∈ W, x.size ≤ 1048576 := by
    intro x hx
    have : x.data.toList ∈ cutB a0.data.toList := by rw [← w2]; exact List.mem_map.2 ⟨x, hx, rfl⟩
    have := cutB_len _ _ this
    rw [data_length] at this
    omega
  unfold spec_ReadRule.f
  rw [w1, Option.bind_some]
  by_cases h3 : (W.length : Int) = 3
  · rw [if_pos h3, if_pos (by omega)]
    obtain ⟨p, q, r, rfl⟩ : ∃ p q r, W = [p, q, r] := by
      match W, h3 with
      | [p, q, r], _ => exact ⟨p, q, r, rfl⟩
      | [], h => simp at h
      | [_], h => simp at h
      | [_, _], h => simp at h
      | _ :: _ :: _ :: _ :: _, h => simp at h; omega
    have r0 : rdOf ByteArray.empty [p, q, r] 0 = p := rfl
    have r2 : rdOf ByteArray.empty [p, q, r] 2 = r := rfl
    have hp := hW p (by simp)
    have hr := hW r (by simp)
    have hlp : p.data.toList.length = p.size := data_length p
    have hpos : 0 < a0.size := by
      by_cases e : a0.data.toList = []
      · rw [e] at w2
        have := congrArg List.length w2
        simp [cutB] at this
      · have := List.length_pos_iff.2 e
        omega
    have J : ∀ (t : Int) (s : ByteArray) (o : Int), (t = -1 ∨ ∃ j : Nat, t = j ∧ j < p.size) → spec_ReadRule.j0 (K + 1) a0 [p, q, r] t s o 0 0 = some (⟨#[]⟩, 0, 0, 0, false) := by
      intro t s o ht
      rw [spec_ReadRule.j0, r0, r2]
      rcases ht with rfl | ⟨j, rfl, hj⟩
      · rw [if_pos (by omega)]
      · obtain ⟨v, v1, _⟩ := readDec_both (p.extract ((j : Int) + 1).toNat p.size) (by rw [ByteArray.size_extract]; omega) K (by omega)
        obtain ⟨u, u1, _⟩ := readDec_both r hr K (by omega)
        have hx : (p.extract 0 (j : Int).toNat).size ≤ 1048576 := by rw [ByteArray.size_extract]; omega
        rw [w64 (i := (j : Int) + 1) (by omega) (by omega), if_neg (by omega), if_pos (by simp), if_pos (by omega), if_pos (by omega), if_pos (by omega), if_pos (by omega), v1, Option.bind_some, if_pos (by simp), u1, Option.bind_some]
        by_cases h : ruleOkB (p.extract 0 (j : Int).toNat) o v.1 u.1 = true
        · rw [(showRule_val _ o v.1 u.1 hx K (by omega) h).1, Option.bind_some, if_neg]
          intro e
          rw [ByteArray.toList_eq, ByteArray.toList_eq] at e
          exact hno _ _ _ _ h (ba_ext e.symm)
        · rw [(showRule_no _ o v.1 u.1 hx K (by omega) h).1, Option.bind_some, if_neg]
          intro e
          rw [ByteArray.toList_eq, ByteArray.toList_eq] at e
          rw [← e] at hl
          simp at hl
          omega
    have c62 : (62 : Int) = ((62 : UInt8).toNat : Int) := rfl
    have c60 : (60 : Int) = ((60 : UInt8).toNat : Int) := rfl
    rw [r0, c62, l19_f p 62 hp (K + 1) (by omega), Option.bind_some]
    have R : ∀ c, at19 c p.data.toList 0 = -1 ∨ ∃ j : Nat, at19 c p.data.toList 0 = j ∧ j < p.size := by
      intro c
      rcases at19_range c p.data.toList 0 with h | ⟨j, h, _, h2⟩
      · exact .inl h
      · exact .inr ⟨j, h, by omega⟩
    split
    · rw [c60, l19_f p 60 hp (K + 1) (by omega), Option.bind_some]
      exact J _ _ _ (R 60)
    · exact J _ _ _ (R 62)
  · rw [if_neg h3]
/-- What both sides answer at the text of a rule that is OK. -/
def atShow (a0 s : ByteArray) (o : Int) (v u : Int × Bool) (t : ByteArray) : ByteArray × Int × Int × Int × Bool := if t.toList = a0.toList then (s, o, v.1, u.1, true) else (⟨#[]⟩, 0, 0, 0, false)
theorem extr_of (s d : ByteArray) (A D B : List UInt8) (a b : Nat) (hs : s.data.toList = A ++ (D ++ B)) (ha : a = A.length) (hb : b = A.length + D.length) (hd : d.data.toList = D) : s.extract a b = d := by
  have hl : s.data.toList.length = s.size := data_length s
  have hlen : s.data.toList.length = A.length + (D.length + B.length) := by rw [hs]; simp
  apply ba_ext
  rw [extr_list s a b (by omega), hs, hd, ha, hb]
  simp
theorem implRR_at (a0 s : ByteArray) (o l f : Int) (hs : a0.size ≤ 1048576) (K : Nat) (hK : 1048900 < K) (h : ruleOkB s o l f = true) (ha : a0 = showB s o l f) (v u : Int × Bool) (t : ByteArray)
    (hv : impl_ReadDec.f K (decB l) = some v) (hu : impl_ReadDec.f K (decB f) = some u) (ht : impl_ShowRule.f K s o v.1 u.1 = some t) : impl_ReadRule.f (K + 1) a0 = some (atShow a0 s o v u t) := by
  have hl : a0.data.toList.length = a0.size := data_length a0
  have hL := showB_list s o l f
  rw [← ha] at hL
  have h' := h
  unfold ruleOkB at h'
  simp only [Bool.and_eq_true, decide_eq_true_eq] at h'
  obtain ⟨hk, ⟨o1, o2⟩, ⟨l1, l2⟩, f1, f2⟩ := h'
  have hA := keyOk_ne s hk
  have hD := dec_ne l l1
  generalize hA' : s.data.toList = A at hL hA
  generalize hD1 : (decB l).data.toList = D1 at hL hD
  generalize hD2 : (decB f).data.toList = D2 at hL
  have hlen : a0.size = A.length + (D1.length + (5 + D2.length) + 1) := by rw [← hl, hL]; simp; omega
  have hsg : sgB o = 60 ∨ sgB o = 62 := by unfold sgB; split <;> simp
  have hAt : Lib.indexAny a0.data.toList [60, 62] = (A.length : Int) := by
    refine Lib.indexAny_hit (x := sgB o) ?_ ?_ ?_
    · intro j b hj hb
      rw [hL, List.getElem?_append_left hj] at hb
      have := hA b (List.mem_of_getElem? hb)
      simp [this.2.1, this.2.2]
    · rw [hL]; simp
    · rcases hsg with e | e <;> rw [e] <;> decide
  have hbt : bt a0 (A.length : Int) = ((sgB o).toNat : Int) := by
    rw [bt_list a0 A.length (by omega)]
    congr 2
    have : a0.data.toList[A.length]? = some (sgB o) := by rw [hL]; simp
    rw [List.getElem?_eq_getElem (by omega)] at this
    exact Option.some.inj this
  have eK : a0.extract 0 A.length = s := extr_of a0 s [] A (sgB o :: (D1 ++ 32 :: ([102, 111, 114] ++ 32 :: D2))) 0 A.length (by rw [hL]; rfl) rfl (by simp) hA'
  have eR : (a0.extract (A.length + 1) a0.size).data.toList = D1 ++ ([32, 102, 111, 114, 32] ++ D2) := by
    rw [extr_list _ _ _ (Nat.le_refl _), hL]
    have : (A ++ sgB o :: (D1 ++ 32 :: ([102, 111, 114] ++ 32 :: D2))).drop (A.length + 1) = D1 ++ ([32, 102, 111, 114, 32] ++ D2) := by
      rw [List.drop_append, List.drop_eq_nil_of_le (by omega)]
      simp
    rw [this, List.take_of_length_le]
    simp only [List.length_append, List.length_cons, List.length_nil]
    omega
  have eI : Lib.index (D1 ++ ([32, 102, 111, 114, 32] ++ D2)) [32, 102, 111, 114, 32] = (D1.length : Int) := by
    refine Lib.index_first (by simp) (by simp [Lib.occAt]) ?_
    intro j hj
    cases e : Lib.occAt (D1 ++ ([32, 102, 111, 114, 32] ++ D2)) [32, 102, 111, 114, 32] j with
    | false => rfl
    | true =>
      have := Lib.occAt_head rfl e
      rw [List.getElem?_append_left hj] at this
      exact absurd rfl (hD 32 (List.mem_of_getElem? this)).1
  have eC : Lib.cut (D1 ++ ([32, 102, 111, 114, 32] ++ D2)) [32, 102, 111, 114, 32] = (D1, D2, true) := by
    unfold Lib.cut
    rw [eI, if_pos (by omega)]
    simp
  have b1 : (⟨D1.toArray⟩ : ByteArray) = decB l := ba_ext (by rw [hD1])
  have b2 : (⟨D2.toArray⟩ : ByteArray) = decB f := ba_ext (by rw [hD2])
  unfold impl_ReadRule.f strings_IndexAny.f
  rw [if_pos ⟨by omega, rfl⟩, Option.bind_some, hAt, if_neg (by omega), w64 (i := (A.length : Int) + 1) (by omega) (by omega), if_pos (by omega), if_pos (by omega)]
  unfold strings_Cut.f
  have en : ((A.length : Int) + 1).toNat = A.length + 1 := by omega
  have es : (⟨#[32, 102, 111, 114, 32]⟩ : ByteArray).data.toList = [32, 102, 111, 114, 32] := rfl
  rw [if_pos (by rw [ByteArray.size_extract]; omega), Option.bind_some, if_pos (by omega), if_pos (by omega), if_pos (by omega), en, es, eR, eC, hbt, Int.toNat_natCast, eK]
  simp only [b1, b2]
  have J : impl_ReadRule.j0 (K + 1) a0 (decB l) (decB f) s o 0 0 = some (atShow a0 s o v u t) := by
    rw [impl_ReadRule.j0, hv, Option.bind_some, hu, Option.bind_some, ht, Option.bind_some]
    unfold atShow
    split <;> rfl
  have ho : o = 1 ∨ o = 2 := by omega
  rcases ho with rfl | rfl
  · rw [if_neg (by decide)]; exact J
  · rw [if_pos (by decide)]; exact J
theorem specRR_at (a0 s : ByteArray) (o l f : Int) (hs : a0.size ≤ 1048576) (K : Nat) (hK : 1048900 < K) (h : ruleOkB s o l f = true) (ha : a0 = showB s o l f) (v u : Int × Bool) (t : ByteArray)
    (hv : spec_ReadDec.f K (decB l) = some v) (hu : spec_ReadDec.f K (decB f) = some u) (ht : spec_ShowRule.f K s o v.1 u.1 = some t) : spec_ReadRule.f (K + 1) a0 = some (atShow a0 s o v u t) := by
  have hl : a0.data.toList.length = a0.size := data_length a0
  have hL := showB_list s o l f
  rw [← ha] at hL
  have h' := h
  unfold ruleOkB at h'
  simp only [Bool.and_eq_true, decide_eq_true_eq] at h'
  obtain ⟨hk, ⟨o1, o2⟩, ⟨l1, l2⟩, f1, f2⟩ := h'
  have hA := keyOk_ne s hk
  have hD := dec_ne l l1
  have hE := dec_ne f (by omega)
  generalize hA' : s.data.toList = A at hL hA
  generalize hD1 : (decB l).data.toList = D1 at hL hD
  generalize hD2 : (decB f).data.toList = D2 at hL hE
  have hlen : a0.size = A.length + (D1.length + (5 + D2.length) + 1) := by rw [← hl, hL]; simp; omega
  have hsg : sgB o = 60 ∨ sgB o = 62 := by unfold sgB; split <;> simp
  have hsg32 : sgB o ≠ 32 := by rcases hsg with e | e <;> rw [e] <;> decide
  have hcut : cutB a0.data.toList = [A ++ sgB o :: D1, [102, 111, 114], D2] := by
    rw [hL, show A ++ sgB o :: (D1 ++ 32 :: ([102, 111, 114] ++ 32 :: D2)) = (A ++ sgB o :: D1) ++ 32 :: ([102, 111, 114] ++ 32 :: D2) from by simp]
    rw [cutB_app _ _ (by
      intro b hb
      rcases List.mem_append.1 hb with hb | hb
      · exact (hA b hb).1
      · rcases List.mem_cons.1 hb with rfl | hb
        · exact hsg32
        · exact (hD b hb).1), cutB_app _ _ (by decide), cutB_one D2 (fun b hb => (hE b hb).1)]
  obtain ⟨W, w1, w2⟩ := cut_spec a0 hs (K + 1) (by omega)
  rw [hcut] at w2
  obtain ⟨p, q, r, rfl, hp, hr⟩ : ∃ p q r, W = [p, q, r] ∧ p.data.toList = A ++ sgB o :: D1 ∧ r.data.toList = D2 := by
    match W, w2 with
    | [p, q, r], w2 =>
      simp only [List.map_cons, List.map_nil, List.cons.injEq] at w2
      exact ⟨p, q, r, rfl, w2.1, w2.2.2.1⟩
    | [], h => simp at h
    | [_], h => simp at h
    | [_, _], h => simp at h
    | _ :: _ :: _ :: _ :: _, h => simp at h
  have r0 : rdOf ByteArray.empty [p, q, r] 0 = p := rfl
  have r2 : rdOf ByteArray.empty [p, q, r] 2 = r := rfl
  have hlp : p.data.toList.length = p.size := data_length p
  have hps : p.size = A.length + (1 + D1.length) := by rw [← hlp, hp]; simp; omega
  have er : r = decB f := ba_ext (by rw [hr, hD2])
  have en : ((A.length : Int) + 1).toNat = A.length + 1 := by omega
  have eK : p.extract 0 A.length = s := extr_of p s [] A (sgB o :: D1) 0 A.length (by rw [hp]; rfl) rfl (by simp) hA'
  have eD : p.extract (A.length + 1) p.size = decB l := extr_of p (decB l) (A ++ [sgB o]) D1 [] (A.length + 1) p.size (by rw [hp]; simp) (by simp) (by simp; omega) hD1
  have J : spec_ReadRule.j0 (K + 1) a0 [p, q, r] (A.length : Int) (⟨#[]⟩ : ByteArray) o 0 0 = some (atShow a0 s o v u t) := by
    rw [spec_ReadRule.j0, r0, r2, w64 (i := (A.length : Int) + 1) (by omega) (by omega), if_neg (by omega), if_pos (by simp), if_pos (by omega), if_pos (by omega), if_pos (by omega), if_pos (by omega), en, Int.toNat_natCast, eD, eK, er, hv, Option.bind_some, if_pos (by simp), hu, Option.bind_some, ht, Option.bind_some]
    unfold atShow
    split <;> rfl
  unfold spec_ReadRule.f
  have c62 : (62 : Int) = ((62 : UInt8).toNat : Int) := rfl
  have c60 : (60 : Int) = ((60 : UInt8).toNat : Int) := rfl
  rw [w1, Option.bind_some, if_pos (by simp), if_pos (by simp), r0, c62, l19_f p 62 (by omega) (K + 1) (by omega), Option.bind_some, hp]
  have ho : o = 1 ∨ o = 2 := by omega
  rcases ho with rfl | rfl
  · have e1 : sgB 1 = 62 := rfl
    rw [e1, at19_hit 62 D1 A 0 (fun b hb => (hA b hb).2.2), if_neg (by omega)]
    simpa using J
  · have e2 : sgB 2 = 60 := rfl
    rw [e2, at19_miss 62 (A ++ 60 :: D1) 0 (by
      intro b hb
      rcases List.mem_append.1 hb with hb | hb
      · exact (hA b hb).2.2
      · rcases List.mem_cons.1 hb with rfl | hb
        · decide
        · exact (hD b hb).2.2), if_pos (by omega), c60, l19_f p 60 (by omega) (K + 1) (by omega), Option.bind_some, hp, e2, at19_hit 60 D1 A 0 (fun b hb => (hA b hb).2.1)]
    simpa using J
theorem readRule_both (a0 : ByteArray) (hs : a0.size ≤ 1048576) (K : Nat) (hK : 1048900 < K) : ∃ v, spec_ReadRule.f (K + 1) a0 = some v ∧ impl_ReadRule.f (K + 1) a0 = some v := by
  by_cases h : ∃ s o l f, ruleOkB s o l f = true ∧ a0 = showB s o l f
  · obtain ⟨s, o, l, f, h, ha⟩ := h
    have h' := h
    unfold ruleOkB at h'
    simp only [Bool.and_eq_true, decide_eq_true_eq] at h'
    obtain ⟨hk, ⟨o1, o2⟩, ⟨l1, l2⟩, f1, f2⟩ := h'
    have d1 := decB_size l (by omega) (by omega)
    have d2 := decB_size f (by omega) (by omega)
    have hss : s.size ≤ 1048576 := by
      have e := congrArg List.length (showB_list s o l f)
      rw [← ha, data_length, List.length_append, data_length] at e
      omega
    obtain ⟨v, v1, v2⟩ := readDec_both (decB l) (by omega) K (by omega)
    obtain ⟨u, u1, u2⟩ := readDec_both (decB f) (by omega) K (by omega)
    have ht : ∃ t, spec_ShowRule.f K s o v.1 u.1 = some t ∧ impl_ShowRule.f K s o v.1 u.1 = some t := by
      by_cases g : ruleOkB s o v.1 u.1 = true
      · exact ⟨_, showRule_val s o v.1 u.1 hss K (by omega) g⟩
      · exact ⟨_, showRule_no s o v.1 u.1 hss K (by omega) g⟩
    obtain ⟨t, t1, t2⟩ := ht
    exact ⟨_, specRR_at a0 s o l f hs K hK h ha v u t v1 u1 t1, implRR_at a0 s o l f hs K hK h ha v u t v2 u2 t2⟩
  · have hno : ∀ s o l f, ruleOkB s o l f = true → a0 ≠ showB s o l f := fun s o l f g e => h ⟨s, o, l, f, g, e⟩
    exact ⟨_, specRR_no a0 hs K hK hno, implRR_no a0 hs K hK hno⟩
theorem FnExactReadRule : FnExactReadRuleOwn := by
  intro s hs0
  by_cases h : (s.size : Int) > 1048576
  · refine ⟨0, ?_⟩
    unfold laws_FnExactReadRule.f
    rw [if_pos h]
  · obtain ⟨K, hK⟩ : ∃ q, q = 2000000 := ⟨_, rfl⟩
    obtain ⟨v, v1, v2⟩ := readRule_both s (by omega) K (by omega)
    refine ⟨K + 1, ?_⟩
    unfold laws_FnExactReadRule.f
    rw [if_neg h, v1, v2]
    simp only [Option.bind_some]
    unfold laws_eqRule.f
    simp

end Go.Proofs.YticfkgjcklonmaaDoor.Pure
