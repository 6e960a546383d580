/- For every text, ReadOp of the program answers what ReadOp of the reference answers (texts above 2^20 bytes are let pass by the law itself). -/
import Derived.Test.YticfkgjcklonmaaDoorQFnExactReadOpx9
namespace Go.Proofs.YticfkgjcklonmaaDoor.Pure
open Go.RowKit Go.Proofs.YticfkgjcklonmaaDoor.QFnExactReadOp Go.Proofs.YticfkgjcklonmaaDoorW.PrintWords Go.Proofs.YticfkgjcklonmaaDoorW.PrintLast Go.Proofs.YticfkgjcklonmaaDoorW.PrintMore
set_option linter.unusedVariables false
set_option linter.unusedSimpArgs false
def FnExactReadOpOwn : Prop := ∀ (a0 : ByteArray), a0.size ≤ maxLen → ∃ k, laws_FnExactReadOp.f k a0 = some true
theorem w64 {i : Int} (h : -9223372036854775808 ≤ i) (h2 : i ≤ 9223372036854775807) : wrap64 i = i := by
  unfold wrap64
  omega
theorem rd_at (x : List Int) (i : Nat) (h : i < x.length) : rd x (i : Int) = x[i] := by
  unfold rd
  rw [Int.toNat_natCast, List.getD_eq_getElem?_getD, List.getElem?_eq_getElem h]
  rfl
theorem succ_cast (i : Nat) : ((i : Int) + 1) = ((i + 1 : Nat) : Int) := by omega
theorem take_succ_ext {α : Type} (a b : List α) (i : Nat) (ha : i < a.length) (hb : i < b.length) (ht : a.take i = b.take i) (he : a[i] = b[i]) : a.take (i + 1) = b.take (i + 1) := by
  rw [List.take_succ_eq_append_getElem ha, List.take_succ_eq_append_getElem hb, ht, he]
theorem l1In_f (x a b : Int) : spec_l1In.f x a b = some (decide (a ≤ x) && decide (x ≤ b)) := by
  unfold spec_l1In.f
  by_cases h : x ≥ a
  · rw [if_pos h]
    have h2 : a ≤ x := h
    simp [h2]
  · rw [if_neg h]
    have h2 : ¬ a ≤ x := h
    simp [h2]
theorem within_f (x a b : Int) : impl_within.f x a b = some (decide (a ≤ x) && decide (x ≤ b)) := by
  unfold impl_within.f
  by_cases h : a ≤ x <;> simp [h]
def kb (c : Int) : Bool := (decide (97 ≤ c) && decide (c ≤ 122)) || ((decide (65 ≤ c) && decide (c ≤ 90)) || ((decide (48 ≤ c) && decide (c ≤ 57)) || decide (c = 95)))
def keyOkFrom (s : ByteArray) : Nat → Nat → Bool
  | 0, _ => decide (1 ≤ s.size) && decide (s.size ≤ 4)
  | d + 1, i => kb (bt s (i : Int)) && keyOkFrom s d (i + 1)
def keyOkB (s : ByteArray) : Bool := keyOkFrom s s.size 0
theorem l4Byte_f (c : Int) : spec_l4Byte.f c = some (kb c) := by
  unfold spec_l4Byte.f spec_l1In.f kb
  by_cases h1 : c ≥ 97 <;> by_cases h2 : c ≤ 122 <;> by_cases h3 : c ≥ 65 <;> by_cases h4 : c ≤ 90 <;> by_cases h5 : c ≥ 48 <;> by_cases h6 : c ≤ 57 <;> by_cases h7 : c = 95 <;> simp [h1, h2, h3, h4, h5, h6, h7] <;> first | omega | (split <;> simp_all <;> omega)
theorem specKeyOk_l0 (s : ByteArray) (hn : s.size ≤ 9223372036854775806) (d : Nat) : ∀ (k i : Nat), i + d = s.size → d < k → spec_KeyOk.l0 k s (i : Int) = some (keyOkFrom s d i) := by
  induction d with
  | zero =>
    intro k i hd hk
    obtain ⟨k, rfl⟩ : ∃ m, k = m + 1 := ⟨k - 1, by omega⟩
    simp only [spec_KeyOk.l0, keyOkFrom]
    rw [if_neg (by omega)]
    unfold spec_l1In.f
    by_cases h : (s.size : Int) ≥ 1
    · rw [if_pos h]
      have h2 : 1 ≤ s.size := by omega
      simp only [Option.bind_some, h2, decide_true, Bool.true_and]
      congr 1
      rw [decide_eq_decide]
      omega
    · rw [if_neg h]
      have h2 : ¬ 1 ≤ s.size := by omega
      simp only [Option.bind_some, h2, decide_false, Bool.false_and]
  | succ d ih =>
    intro k i hd hk
    obtain ⟨k, rfl⟩ : ∃ m, k = m + 1 := ⟨k - 1, by omega⟩
    have hb := bt_range s (i : Int)
    simp only [spec_KeyOk.l0, keyOkFrom]
    rw [if_pos (by omega), if_pos (by omega), w64 (i := bt s (i : Int)) (by omega) (by omega), w64 (by omega) (by omega), succ_cast, l4Byte_f, Option.bind_some, ih k (i + 1) (by omega) (by omega)]
    cases kb (bt s (i : Int)) <;> simp
theorem implKeyOk_l0 (s : ByteArray) (hn : s.size ≤ 9223372036854775806) (d : Nat) : ∀ (k i : Nat), i + d = s.size → d < k → impl_KeyOk.l0 k s (s.size : Int) (i : Int) = some (keyOkFrom s d i) := by
  induction d with
  | zero =>
    intro k i hd hk
    obtain ⟨k, rfl⟩ : ∃ m, k = m + 1 := ⟨k - 1, by omega⟩
    simp only [impl_KeyOk.l0, keyOkFrom]
    rw [if_neg (by omega)]
    unfold impl_within.f
    by_cases h : 1 ≤ (s.size : Int)
    · rw [if_pos h]
      have h2 : 1 ≤ s.size := by omega
      simp only [Option.bind_some, h2, decide_true, Bool.true_and]
      congr 1
      rw [decide_eq_decide]
      omega
    · rw [if_neg h]
      have h2 : ¬ 1 ≤ s.size := by omega
      simp only [Option.bind_some, h2, decide_false, Bool.false_and]
  | succ d ih =>
    intro k i hd hk
    obtain ⟨k, rfl⟩ : ∃ m, k = m + 1 := ⟨k - 1, by omega⟩
    simp only [impl_KeyOk.l0, keyOkFrom]
    rw [if_pos (by omega), if_pos (by omega), if_pos (by omega), w64 (by omega) (by omega), succ_cast, ih k (i + 1) (by omega) (by omega)]
    generalize bt s (i : Int) = c
    cases h : kb c
    · unfold kb at h
      simp only [Bool.or_eq_false_iff, Bool.and_eq_false_iff, decide_eq_false_iff_not] at h
      rw [Bool.false_and]
      repeat' split
      all_goals first | rfl | omega
    · unfold kb at h
      simp only [Bool.or_eq_true, Bool.and_eq_true, decide_eq_true_eq] at h
      rw [Bool.true_and]
      repeat' split
      all_goals first | rfl | omega
theorem specKeyOk_f (s : ByteArray) (hn : s.size ≤ 9223372036854775806) (k : Nat) (hk : s.size < k) : spec_KeyOk.f k s = some (keyOkB s) := specKeyOk_l0 s hn s.size k 0 (by omega) hk
theorem implKeyOk_f (s : ByteArray) (hn : s.size ≤ 9223372036854775806) (k : Nat) (hk : s.size < k) : impl_KeyOk.f k s = some (keyOkB s) := implKeyOk_l0 s hn s.size k 0 (by omega) hk
/-- A kind's word. -/
def kwB (x : Int) : ByteArray := if x = 1 then ⟨#[99]⟩ else if x = 2 then ⟨#[103]⟩ else if x = 3 then ⟨#[109, 115]⟩ else ⟨#[]⟩
theorem specKw_f (x : Int) : spec_KindWord.f x = some (kwB x) := by
  unfold spec_KindWord.f kwB
  rw [l1In_f, Option.bind_some]
  by_cases h : 1 ≤ x ∧ x ≤ 3
  · have : x = 1 ∨ x = 2 ∨ x = 3 := by omega
    rcases this with rfl | rfl | rfl <;> (rw [if_pos (by decide), Option.bind_some, w64 (by omega) (by omega), if_pos (by omega), if_pos (by simp)]; rfl)
  · rw [if_neg (by simp; omega), if_neg (by omega), if_neg (by omega), if_neg (by omega)]
theorem implKw_f (x : Int) : impl_KindWord.f x = some (kwB x) := by
  unfold impl_KindWord.f kwB
  repeat' split
  all_goals rfl
theorem kwB_size (x : Int) : (kwB x).size ≤ 2 := by
  unfold kwB
  repeat' split
  all_goals decide
/-- A whole number in decimal. -/
def decB (n : Int) : ByteArray := ⟨(Lib.itoa n).toArray⟩
theorem decB_size (n : Int) (h0 : -9223372036854775808 ≤ n) (h1 : n ≤ 9223372036854775807) : (decB n).size ≤ 21 := by
  have := Lib.itoa_length_le n h0 h1
  unfold decB
  simpa [ByteArray.size] using this
theorem implDec_f (n : Int) (h0 : -9223372036854775808 ≤ n) (h1 : n ≤ 9223372036854775807) : impl_Dec.f n = some (decB n) := by
  unfold impl_Dec.f strconv_Itoa.f decB
  rw [if_pos ⟨h0, h1⟩]
  rfl
theorem ba_append (a b : List UInt8) : (⟨a.toArray⟩ : ByteArray) ++ ⟨b.toArray⟩ = ⟨(a ++ b).toArray⟩ := by
  apply ByteArray.ext
  simp [ByteArray.data_append]
theorem digit_son (m : Nat) (h : m < 10) : strOfNums [((48 + (m : Int)) % 256)] = ⟨[UInt8.ofNat (48 + m)].toArray⟩ := by
  have e : ((48 + (m : Int)) % 256) = ((48 + m : Nat) : Int) := by omega
  rw [e]
  rfl
theorem specDec_l0 (d : Nat) : ∀ (n k : Nat) (acc : List UInt8), 0 < n → n < 10 ^ d → (n : Int) ≤ 9223372036854775807 → acc.length + d ≤ 100 → d + 1 < k → spec_Dec.l0 k (n : Int) ⟨acc.toArray⟩ false = some ⟨(Lib.decDigits n ++ acc).toArray⟩ := by
  induction d with
  | zero => intro n k acc h0 h1 h2 h3 hk; simp at h1; omega
  | succ d ih =>
    intro n k acc h0 h1 h2 h3 hk
    obtain ⟨k, rfl⟩ : ∃ m, k = m + 1 := ⟨k - 1, by omega⟩
    have t1 : Int.tmod (n : Int) 10 = ((n % 10 : Nat) : Int) := by rw [Int.tmod_eq_emod_of_nonneg (by omega)]; omega
    have t2 : Int.tdiv (n : Int) 10 = ((n / 10 : Nat) : Int) := by rw [Int.tdiv_eq_ediv_of_nonneg (by omega)]; omega
    have hs : (⟨[UInt8.ofNat (48 + n % 10)].toArray⟩ : ByteArray).size = 1 := rfl
    have hs2 : (⟨acc.toArray⟩ : ByteArray).size = acc.length := by simp [ByteArray.size]
    simp only [spec_Dec.l0]
    rw [if_neg (by omega), t1, t2, if_neg (by omega), w64 (i := 48 + _) (by omega) (by omega), Option.bind_some, digit_son _ (by omega), if_pos (by omega), w64 (by omega) (by omega), ba_append]
    by_cases hq : n / 10 = 0
    · obtain ⟨k, rfl⟩ : ∃ m, k = m + 1 := ⟨k - 1, by omega⟩
      rw [hq]
      simp only [spec_Dec.l0]
      rw [if_pos (by omega), if_neg (by simp), Lib.decDigits_one (by omega), Nat.mod_eq_of_lt (by omega)]
    · rw [ih (n / 10) k _ (by omega) (by rw [Nat.pow_succ] at h1; omega) (by omega) (by simp; omega) (by omega)]
      have e : Lib.decDigits n = Lib.decDigits (n / 10) ++ [UInt8.ofNat (48 + n % 10)] := by
        rw [Lib.decDigits, dif_neg (by omega)]
      rw [e, List.append_assoc]
theorem specDec_f (n : Int) (h0 : 0 ≤ n) (h1 : n ≤ 9223372036854775807) (k : Nat) (hk : 30 < k) : spec_Dec.f k n = some (decB n) := by
  obtain ⟨m, rfl⟩ := Int.eq_ofNat_of_zero_le h0
  unfold spec_Dec.f decB
  rw [Lib.itoa_nonneg]
  by_cases hz : (m : Int) = 0
  · rw [if_pos hz]
    have : m = 0 := by omega
    subst this
    rw [Lib.decDigits_one (by omega)]
    rfl
  · rw [if_neg hz]
    have e : decide ((m : Int) < 0) = false := decide_eq_false (by omega)
    have z : (⟨#[]⟩ : ByteArray) = ⟨([] : List UInt8).toArray⟩ := rfl
    rw [e, z, specDec_l0 19 m k [] (by omega) (by omega) h1 (by simp) (by omega), List.append_nil]
theorem specDecNeg_l0 (d : Nat) : ∀ (n k : Nat) (acc : List UInt8), 0 < n → n < 10 ^ d → (n : Int) ≤ 9223372036854775808 → acc.length + d ≤ 100 → d + 1 < k → spec_Dec.l0 k (-(n : Int)) ⟨acc.toArray⟩ true = some ⟨(45 :: (Lib.decDigits n ++ acc)).toArray⟩ := by
  induction d with
  | zero => intro n k acc h0 h1 h2 h3 hk; simp at h1; omega
  | succ d ih =>
    intro n k acc h0 h1 h2 h3 hk
    obtain ⟨k, rfl⟩ : ∃ m, k = m + 1 := ⟨k - 1, by omega⟩
    have t1 : Int.tmod (-(n : Int)) 10 = -((n % 10 : Nat) : Int) := by rw [Int.neg_tmod, Int.tmod_eq_emod_of_nonneg (by omega)]; omega
    have t2 : Int.tdiv (-(n : Int)) 10 = -((n / 10 : Nat) : Int) := by rw [Int.neg_tdiv, Int.tdiv_eq_ediv_of_nonneg (by omega)]; omega
    have hs : (⟨[UInt8.ofNat (48 + n % 10)].toArray⟩ : ByteArray).size = 1 := rfl
    have hs2 : (⟨acc.toArray⟩ : ByteArray).size = acc.length := by simp [ByteArray.size]
    have rest : (if (strOfNums [((48 + ((n % 10 : Nat) : Int)) % 256)]).size + (⟨acc.toArray⟩ : ByteArray).size ≤ 9223372036854775807 then (spec_Dec.l0 k (wrap64 (-((n / 10 : Nat) : Int))) ((strOfNums [((48 + ((n % 10 : Nat) : Int)) % 256)]) ++ ⟨acc.toArray⟩) true) else (none)) = some ⟨(45 :: (Lib.decDigits n ++ acc)).toArray⟩ := by
      rw [digit_son _ (by omega), if_pos (by omega), w64 (by omega) (by omega), ba_append]
      by_cases hq : n / 10 = 0
      · obtain ⟨k, rfl⟩ : ∃ m, k = m + 1 := ⟨k - 1, by omega⟩
        rw [hq]
        simp only [spec_Dec.l0]
        have e1 : (⟨([UInt8.ofNat (48 + n % 10)] ++ acc).toArray⟩ : ByteArray).size = acc.length + 1 := by simp [ByteArray.size]
        have z : (⟨#[45]⟩ : ByteArray) = ⟨([45] : List UInt8).toArray⟩ := rfl
        rw [if_pos (by omega), if_pos trivial, if_pos (by omega), z, ba_append, Lib.decDigits_one (by omega), Nat.mod_eq_of_lt (by omega)]
        rfl
      · rw [ih (n / 10) k _ (by omega) (by rw [Nat.pow_succ] at h1; omega) (by omega) (by simp; omega) (by omega)]
        have e : Lib.decDigits n = Lib.decDigits (n / 10) ++ [UInt8.ofNat (48 + n % 10)] := by
          rw [Lib.decDigits, dif_neg (by omega)]
        rw [e, List.append_assoc]
    simp only [spec_Dec.l0]
    rw [if_neg (by omega), t1, t2]
    by_cases hn : -((n % 10 : Nat) : Int) < 0
    · rw [if_pos hn, Int.neg_neg, w64 (i := ((n % 10 : Nat) : Int)) (by omega) (by omega), w64 (i := 48 + _) (by omega) (by omega), Option.bind_some]
      exact rest
    · have e0 : n % 10 = 0 := by omega
      have e1 : (48 + -((n % 10 : Nat) : Int)) = 48 + ((n % 10 : Nat) : Int) := by omega
      rw [if_neg hn, e1, w64 (i := 48 + _) (by omega) (by omega), Option.bind_some]
      exact rest
theorem specDecAny_f (n : Int) (h0 : -9223372036854775808 ≤ n) (h1 : n ≤ 9223372036854775807) (k : Nat) (hk : 30 < k) : spec_Dec.f k n = some (decB n) := by
  by_cases h : 0 ≤ n
  · exact specDec_f n h h1 k hk
  · obtain ⟨m, rfl⟩ : ∃ m : Nat, n = -(m : Int) := ⟨n.natAbs, by omega⟩
    unfold spec_Dec.f decB
    have e : decide (-(m : Int) < 0) = true := decide_eq_true (by omega)
    have z : (⟨#[]⟩ : ByteArray) = ⟨([] : List UInt8).toArray⟩ := rfl
    rw [if_neg (by omega), e, z, specDecNeg_l0 20 m k [] (by omega) (by omega) (by omega) (by simp) (by omega), List.append_nil, Lib.itoa_neg m (by omega)]
/-- An operation is right. -/
def opOkB (a : Int) (s : ByteArray) (x v : Int) : Bool :=
  if a = 1 then (if keyOkB s = true then (if (kwB x).toList = ([] : List UInt8) then false else (v == 0)) else false)
  else if a = 2 then (if keyOkB s = true then (if x = 0 then (decide (0 ≤ v) && decide (v ≤ 65535)) else false) else false)
  else if a = 3 then (a == 3 && (s.toList == ([] : List UInt8) && (x == 0 && (v == 0)))) else false
theorem specOpOk_f (a : Int) (s : ByteArray) (x v : Int) (hn : s.size ≤ 9223372036854775806) (k : Nat) (hk : s.size < k) : spec_OpOk.f k a s x v = some (opOkB a s x v) := by
  unfold spec_OpOk.f opOkB
  rw [specKeyOk_f s hn k hk, specKw_f, l1In_f]
  simp only [Option.bind_some]
  repeat' split
  all_goals first | rfl | contradiction
theorem implOpOk_f (a : Int) (s : ByteArray) (x v : Int) (hn : s.size ≤ 9223372036854775806) (k : Nat) (hk : s.size < k) : impl_OpOk.f k a s x v = some (opOkB a s x v) := by
  unfold impl_OpOk.f opOkB
  rw [implKeyOk_f s hn k hk, implKw_f, within_f]
  simp only [Option.bind_some]
  repeat' split
  all_goals first | rfl | contradiction
theorem opOk_val (a : Int) (s : ByteArray) (x v : Int) (h : opOkB a s x v = true) (h2 : a = 2) : 0 ≤ v ∧ v ≤ 65535 := by
  subst h2
  unfold opOkB at h
  rw [if_neg (by omega), if_pos rfl] at h
  split at h
  · split at h
    · simpa using h
    · exact Bool.noConfusion h
  · exact Bool.noConfusion h
/-- An operation as a line. -/
def showOpB (a : Int) (s : ByteArray) (x v : Int) : ByteArray :=
  if opOkB a s x v = true then (if a = 1 then (((⟨#[114, 101, 103, 32]⟩ : ByteArray) ++ s) ++ (⟨#[32]⟩ : ByteArray)) ++ kwB x else if a = 2 then (((⟨#[114, 101, 99, 32]⟩ : ByteArray) ++ s) ++ (⟨#[32]⟩ : ByteArray)) ++ decB v else ⟨#[102, 108, 117, 115, 104]⟩) else ⟨#[]⟩
theorem showOp_size (a : Int) (s : ByteArray) (x v : Int) (hs : s.size ≤ 1048576) : (showOpB a s x v).size ≤ 1048676 := by
  have e1 : (⟨#[114, 101, 103, 32]⟩ : ByteArray).size = 4 := rfl
  have e2 : (⟨#[114, 101, 99, 32]⟩ : ByteArray).size = 4 := rfl
  have e3 : (⟨#[32]⟩ : ByteArray).size = 1 := rfl
  have e4 : (⟨#[102, 108, 117, 115, 104]⟩ : ByteArray).size = 5 := rfl
  have e5 : (⟨#[]⟩ : ByteArray).size = 0 := rfl
  have hk := kwB_size x
  unfold showOpB
  split
  · rename_i h
    split
    · simp only [ByteArray.size_append, e1, e3]
      omega
    · split
      · rename_i h2
        have hv := opOk_val a s x v h h2
        have := decB_size v (by omega) (by omega)
        simp only [ByteArray.size_append, e2, e3]
        omega
      · omega
  · omega
theorem specShowOp_f (a : Int) (s : ByteArray) (x v : Int) (hs : s.size ≤ 1048576) (k : Nat) (hk : 1048700 < k) : spec_ShowOp.f k a s x v = some (showOpB a s x v) := by
  unfold spec_ShowOp.f showOpB
  have e1 : (⟨#[114, 101, 103, 32]⟩ : ByteArray).size = 4 := rfl
  have e2 : (⟨#[114, 101, 99, 32]⟩ : ByteArray).size = 4 := rfl
  have e3 : (⟨#[32]⟩ : ByteArray).size = 1 := rfl
  have hkw := kwB_size x
  rw [specOpOk_f a s x v (by omega) k (by omega), Option.bind_some]
  by_cases h : opOkB a s x v = true
  · rw [if_pos h, if_pos h]
    simp only [ByteArray.size_append, e1, e2, e3]
    by_cases h1 : a = 1
    · rw [if_pos h1, if_pos h1, if_pos (by omega), if_pos (by omega), specKw_f, Option.bind_some, if_pos (by omega)]
    · rw [if_neg h1, if_neg h1]
      by_cases h2 : a = 2
      · have hv := opOk_val a s x v h h2
        have hd := decB_size v (by omega) (by omega)
        rw [if_pos h2, if_pos h2, if_pos (by omega), if_pos (by omega), specDec_f v (by omega) (by omega) k (by omega), Option.bind_some, if_pos (by omega)]
      · rw [if_neg h2, if_neg h2]
  · rw [if_neg h, if_neg h]
theorem implShowOp_f (a : Int) (s : ByteArray) (x v : Int) (hs : s.size ≤ 1048576) (k : Nat) (hk : 1048700 < k) : impl_ShowOp.f k a s x v = some (showOpB a s x v) := by
  unfold impl_ShowOp.f showOpB
  have e1 : (⟨#[114, 101, 103, 32]⟩ : ByteArray).size = 4 := rfl
  have e2 : (⟨#[114, 101, 99, 32]⟩ : ByteArray).size = 4 := rfl
  have e3 : (⟨#[32]⟩ : ByteArray).size = 1 := rfl
  have hkw := kwB_size x
  rw [implOpOk_f a s x v (by omega) k (by omega), Option.bind_some]
  by_cases h : opOkB a s x v = true
  · rw [if_pos h, if_pos h]
    simp only [ByteArray.size_append, e1, e2, e3]
    by_cases h1 : a = 1
    · rw [if_pos h1, if_pos h1, if_pos (by omega), if_pos (by omega), implKw_f, Option.bind_some, if_pos (by omega)]
    · rw [if_neg h1, if_neg h1]
      by_cases h2 : a = 2
      · have hv := opOk_val a s x v h h2
        have hd := decB_size v (by omega) (by omega)
        rw [if_pos h2, if_pos h2, if_pos (by omega), if_pos (by omega), implDec_f v (by omega) (by omega), Option.bind_some, if_pos (by omega)]
      · rw [if_neg h2, if_neg h2]
  · rw [if_neg h, if_neg h]
/-- The words of a list of bytes, parted at spaces. -/
def cutB : List UInt8 → List (List UInt8)
  | [] => [[]]
  | b :: bs => if b = 32 then [] :: cutB bs else (match cutB bs with | [] => [[b]] | w :: ws => (b :: w) :: ws)
theorem cutB_ne : ∀ L, cutB L ≠ []
  | [] => by simp [cutB]
  | b :: bs => by
    simp only [cutB]
    split
    · simp
    · split <;> simp
def hdB (cur : List UInt8) : List (List UInt8) → List (List UInt8)
  | [] => [cur]
  | w :: ws => (cur ++ w) :: ws
theorem hdB_nil (L : List UInt8) : hdB [] (cutB L) = cutB L := by
  have := cutB_ne L
  cases h : cutB L with
  | nil => exact absurd h this
  | cons w ws => rfl
theorem hdB_snoc (cur : List UInt8) (b : UInt8) (bs : List UInt8) (hb : b ≠ 32) : hdB cur (cutB (b :: bs)) = hdB (cur ++ [b]) (cutB bs) := by
  simp only [cutB, if_neg hb]
  have := cutB_ne bs
  cases h : cutB bs with
  | nil => exact absurd h this
  | cons w ws => simp [hdB]
theorem hdB_space (cur bs : List UInt8) : hdB cur (cutB (32 :: bs)) = cur :: cutB bs := by simp [cutB, hdB]
theorem cut_miss : ∀ L : List UInt8, Lib.indexByte L 32 = -1 → cutB L = [L]
  | [], _ => rfl
  | b :: bs, h => by
    unfold Lib.indexByte at h
    by_cases hb : b = 32
    · rw [if_pos (by simp [hb])] at h
      omega
    · rw [if_neg (by simp [hb])] at h
      have hi : Lib.indexByte bs 32 = -1 := by
        by_cases q : Lib.indexByte bs 32 = -1
        · exact q
        · rw [if_neg (by simp [q])] at h
          have := Lib.indexByte_ge bs 32
          omega
      simp only [cutB, if_neg hb, cut_miss bs hi]
theorem cut_hit : ∀ (L : List UInt8) (i : Nat), Lib.indexByte L 32 = i → cutB L = L.take i :: cutB (L.drop (i + 1))
  | [], i, h => by
    unfold Lib.indexByte at h
    omega
  | b :: bs, i, h => by
    unfold Lib.indexByte at h
    by_cases hb : b = 32
    · rw [if_pos (by simp [hb])] at h
      obtain rfl : i = 0 := by omega
      simp [cutB, hb]
    · rw [if_neg (by simp [hb])] at h
      by_cases q : Lib.indexByte bs 32 = -1
      · rw [if_pos (by simp [q])] at h
        omega
      · rw [if_neg (by simp [q])] at h
        obtain ⟨j, rfl⟩ : ∃ j, i = j + 1 := ⟨i - 1, by have := Lib.indexByte_ge bs 32; omega⟩
        have := cut_hit bs j (by omega)
        simp only [cutB, if_neg hb, this, List.take_succ_cons, List.drop_succ_cons]
theorem split_cut (n : Nat) : ∀ s : ByteArray, s.size ≤ n → (Lib.splitB (⟨#[32]⟩ : ByteArray) 0 (Lib.countB s (⟨#[32]⟩ : ByteArray)) s).map (fun x => x.data.toList) = cutB s.data.toList := by
  induction n with
  | zero =>
    intro s hs
    have h : Lib.indexB s (⟨#[32]⟩ : ByteArray) = -1 := by
      rcases Lib.indexB_cases s (⟨#[32]⟩ : ByteArray) with h | ⟨i, h, hi⟩
      · exact h
      · have : (⟨#[32]⟩ : ByteArray).size = 1 := rfl
        omega
    rw [Lib.splitB_miss _ _ _ _ h, cut_miss _ ((Lib.index_one s.data.toList 32).symm.trans h)]
    rfl
  | succ n ih =>
    intro s hs
    have h1 : (⟨#[32]⟩ : ByteArray).size = 1 := rfl
    rcases Lib.indexB_cases s (⟨#[32]⟩ : ByteArray) with h | ⟨i, h, hi⟩
    · rw [Lib.splitB_miss _ _ _ _ h, cut_miss _ ((Lib.index_one s.data.toList 32).symm.trans h)]
      rfl
    · rw [Lib.countB_hit s _ i (by omega) h, Nat.add_comm, Lib.splitB_hit _ _ _ _ i h, List.map_cons, cut_hit _ i ((Lib.index_one s.data.toList 32).symm.trans h)]
      have hsz : (s.extract (i + 1) s.size).size ≤ n := by
        rw [ByteArray.size_extract]
        omega
      have := ih _ hsz
      rw [h1, this, Nat.add_zero, Lib.extract_from_zero]
      have he : (s.extract (i + 1) s.size).data.toList = s.data.toList.drop (i + 1) := by
        rw [ByteArray.data_extract, Array.toList_extract, List.extract_eq_take_drop, List.take_of_length_le]
        rw [List.length_drop, data_length]
        omega
      rw [he]
theorem bt_list (s : ByteArray) (i : Nat) (hi : i < s.data.toList.length) : bt s (i : Int) = ((s.data.toList[i]).toNat : Int) := by
  have h : i < s.size := by rw [data_length] at hi; exact hi
  unfold bt
  rw [dif_pos (by simpa using h)]
  rfl
theorem bt_is32 (s : ByteArray) (i : Nat) (hi : i < s.data.toList.length) : bt s (i : Int) = 32 ↔ s.data.toList[i] = 32 := by
  rw [bt_list s i hi]
  constructor
  · intro h
    apply UInt8.toNat_inj.1
    have : (s.data.toList[i]).toNat = 32 := by omega
    rw [this]
    rfl
  · intro h
    rw [h]
    rfl
theorem extr_list (s : ByteArray) (a b : Nat) (hb : b ≤ s.size) : (s.extract a b).data.toList = (s.data.toList.drop a).take (b - a) := by
  rw [ByteArray.data_extract, Array.toList_extract, List.extract_eq_take_drop]
theorem l21_l0 (s : ByteArray) (hs : s.size ≤ 1048576) (d : Nat) : ∀ (i k frm : Nat) (out : List ByteArray), i + d = s.size → frm ≤ i → out.length ≤ i → d < k →
    ∃ r, spec_l21Cut.l0 k s 32 out (frm : Int) (i : Int) = some r ∧ r.map (fun x => x.data.toList) = out.map (fun x => x.data.toList) ++ hdB ((s.data.toList.drop frm).take (i - frm)) (cutB (s.data.toList.drop i)) := by
  induction d with
  | zero =>
    intro i k frm out hd hf ho hk
    obtain ⟨k, rfl⟩ : ∃ m, k = m + 1 := ⟨k - 1, by omega⟩
    have hA : ¬ ((i : Int) < (s.size : Int)) := by omega
    have hB : 0 ≤ (frm : Int) := by omega
    have hC : (frm : Int) ≤ (s.size : Int) := by omega
    have hD : out.length < 8796093022208 := by omega
    refine ⟨out ++ [s.extract frm s.size], ?_, ?_⟩
    · simp only [spec_l21Cut.l0, if_neg hA, if_pos hB, if_pos hC, if_pos hD, Int.toNat_natCast]
    · have e : s.data.toList.drop i = [] := List.drop_of_length_le (by rw [data_length]; omega)
      rw [List.map_append, List.map_cons, List.map_nil, extr_list s frm s.size (Nat.le_refl _), e]
      have e2 : i - frm = s.size - frm := by omega
      simp [cutB, hdB, e2]
  | succ d ih =>
    intro i k frm out hd hf ho hk
    obtain ⟨k, rfl⟩ : ∃ m, k = m + 1 := ⟨k - 1, by omega⟩
    have hi : i < s.data.toList.length := by rw [data_length]; omega
    have hA : (i : Int) < (s.size : Int) := by omega
    have hA0 : 0 ≤ (i : Int) := by omega
    have hB : 0 ≤ (frm : Int) := by omega
    have hC : (frm : Int) ≤ (i : Int) := by omega
    have hC2 : (i : Int) ≤ (s.size : Int) := by omega
    have hD : out.length < 8796093022208 := by omega
    have hE : i + 1 + d = s.size := by omega
    have hF : frm ≤ i + 1 := by omega
    have hG : out.length ≤ i + 1 := by omega
    have hH : ∀ x : ByteArray, (out ++ [x]).length ≤ i + 1 := fun x => by simp; omega
    have hk2 : d < k := by omega
    have hdr : s.data.toList.drop i = s.data.toList[i] :: s.data.toList.drop (i + 1) := List.drop_eq_getElem_cons hi
    have ht : (s.data.toList.drop frm).take (i + 1 - frm) = (s.data.toList.drop frm).take (i - frm) ++ [s.data.toList[i]] := by
      have e : i + 1 - frm = (i - frm) + 1 := by omega
      have hq : i - frm < (s.data.toList.drop frm).length := by rw [List.length_drop]; omega
      rw [e, List.take_succ_eq_append_getElem hq]
      congr 2
      rw [List.getElem_drop]
      congr 1
      omega
    have hiE : i ≤ s.size := by omega
    have ew : wrap64 ((i : Int) + 1) = ((i + 1 : Nat) : Int) := by rw [w64 (by omega) (by omega)]; omega
    by_cases hb : s.data.toList[i] = 32
    · obtain ⟨r, r1, r2⟩ := ih (i + 1) k (i + 1) (out ++ [s.extract frm i]) hE (Nat.le_refl _) (hH _) hk2
      refine ⟨r, ?_, ?_⟩
      · simp only [spec_l21Cut.l0, if_pos hA, if_pos hA0, if_pos ((bt_is32 s i hi).2 hb), if_pos hB, if_pos hC, if_pos hC2, if_pos hD, Int.toNat_natCast, ew]
        exact r1
      · rw [r2, Nat.sub_self, List.take_zero, hdB_nil, hdr, hb, hdB_space, List.map_append, List.map_cons, List.map_nil, extr_list s frm i hiE]
        simp
    · obtain ⟨r, r1, r2⟩ := ih (i + 1) k frm out hE hF hG hk2
      refine ⟨r, ?_, ?_⟩
      · simp only [spec_l21Cut.l0, if_pos hA, if_pos hA0, if_neg (fun q => hb ((bt_is32 s i hi).1 q)), ew]
        exact r1
      · rw [r2, ht, hdr, hdB_snoc _ _ _ hb]
theorem map_data_inj : ∀ (a b : List ByteArray), a.map (fun x => x.data.toList) = b.map (fun x => x.data.toList) → a = b
  | [], [], _ => rfl
  | [], y :: ys, h => by simp at h
  | x :: xs, [], h => by simp at h
  | x :: xs, y :: ys, h => by
    simp only [List.map_cons, List.cons.injEq] at h
    have e : x = y := by
      cases x with
      | mk dx => cases y with
        | mk dy => exact congrArg ByteArray.mk (Array.toList_inj.1 h.1)
    rw [e, map_data_inj xs ys h.2]
theorem cut_both (s : ByteArray) (hs : s.size ≤ 1048576) (k : Nat) (hk : s.size < k) : ∃ W, spec_l21Cut.f k s 32 = some W ∧ strings_Split.f s (⟨#[32]⟩ : ByteArray) = some W ∧ W.map (fun x => x.data.toList) = cutB s.data.toList := by
  obtain ⟨r, r1, r2⟩ := l21_l0 s hs s.size 0 k 0 [] (by omega) (Nat.le_refl _) (by simp) hk
  have r3 : r.map (fun x => x.data.toList) = cutB s.data.toList := by
    rw [r2]
    simp [hdB_nil]
  refine ⟨r, r1, ?_, r3⟩
  unfold strings_Split.f
  rw [if_pos ⟨by omega, by decide⟩]
  congr 1
  exact map_data_inj _ _ ((split_cut s.size s (Nat.le_refl _)).trans r3.symm)
def isDig (b : UInt8) : Bool := decide (48 ≤ b.toNat) && decide (b.toNat ≤ 57)
def valN (n : Nat) (L : List UInt8) : Nat := L.foldl (fun m b => m * 10 + (b.toNat - 48)) n
theorem valN_nil (n : Nat) : valN n [] = n := by unfold valN; exact List.foldl_nil
theorem valN_cons (n : Nat) (b : UInt8) (bs : List UInt8) : valN n (b :: bs) = valN (n * 10 + (b.toNat - 48)) bs := by unfold valN; exact List.foldl_cons
def p10 : Nat → Nat
  | 0 => 1
  | i + 1 => p10 i * 10
theorem pow_le10 (i : Nat) (h : i ≤ 11) : p10 i ≤ 100000000000 := by
  have : i = 0 ∨ i = 1 ∨ i = 2 ∨ i = 3 ∨ i = 4 ∨ i = 5 ∨ i = 6 ∨ i = 7 ∨ i = 8 ∨ i = 9 ∨ i = 10 ∨ i = 11 := by omega
  rcases this with rfl | rfl | rfl | rfl | rfl | rfl | rfl | rfl | rfl | rfl | rfl | rfl <;> decide
theorem p10_up {n i : Nat} (h : n < p10 i) : n < p10 (i + 1) := by
  show n < p10 i * 10
  omega
theorem p10_dig {n i b : Nat} (h : n < p10 i) (hb : b ≤ 57) : n * 10 + (b - 48) < p10 (i + 1) := by
  show n * 10 + (b - 48) < p10 i * 10
  omega
theorem valN_lt (L : List UInt8) : ∀ (n i : Nat), (∀ b ∈ L, isDig b = true) → n < p10 i → valN n L < p10 (i + L.length) := by
  induction L with
  | nil =>
    intro n i _ h
    have e := valN_nil n
    rw [e, List.length_nil, Nat.add_zero]
    exact h
  | cons b bs ih =>
    intro n i hd h
    have hb := hd b (by simp)
    unfold isDig at hb
    rw [Bool.and_eq_true] at hb
    have hb2 : b.toNat ≤ 57 := of_decide_eq_true hb.2
    have q := ih (n * 10 + (b.toNat - 48)) (i + 1) (fun c hc => hd c (by simp [hc])) (p10_dig h hb2)
    have e := valN_cons n b bs
    rw [e, List.length_cons, show i + (bs.length + 1) = i + 1 + bs.length from by omega]
    exact q
theorem digits_dig (u : Nat) : ∀ b ∈ Lib.decDigits u, isDig b = true := by
  have one : ∀ v : Nat, v < 10 → isDig (UInt8.ofNat (48 + v)) = true := by
    intro v hv
    have : (UInt8.ofNat (48 + v)).toNat = 48 + v := by
      rw [UInt8.toNat_ofNat']
      omega
    unfold isDig
    rw [this]
    simp
    omega
  induction u using Nat.strongRecOn with
  | ind u ih =>
    intro b hb
    rw [Lib.decDigits] at hb
    by_cases h : u < 10
    · rw [dif_pos h] at hb
      rw [List.mem_singleton.1 hb]
      exact one u h
    · rw [dif_neg h] at hb
      rcases List.mem_append.1 hb with hb | hb
      · exact ih (u / 10) (by omega) b hb
      · rw [List.mem_singleton.1 hb]
        exact one (u % 10) (by omega)
theorem digits_ne (u : Nat) : Lib.decDigits u ≠ [] := by
  rw [Lib.decDigits]
  by_cases h : u < 10
  · rw [dif_pos h]; simp
  · rw [dif_neg h]; simp
theorem decB_list (n : Int) : (decB n).toList = Lib.itoa n := by
  rw [ByteArray.toList_eq]
  rfl
/-- What spec.ReadDec's end answers. -/
def rdEnd (x : ByteArray) (c : Int) : Int × Bool := if (decB c).toList = x.toList then (c, true) else (0, false)
theorem specRD_j2 (x : ByteArray) (n c : Nat) (hn : n < 100000000000) (neg : Bool) (K : Nat) (hK : 40 < K) : spec_ReadDec.j2 K x (n : Int) (c : Int) neg = some (if c > 9 then (0, false) else if x.size > 10 then (0, false) else rdEnd x (if neg = true then -(n : Int) else (n : Int))) := by
  obtain ⟨K, rfl⟩ : ∃ m, K = m + 1 := ⟨K - 1, by omega⟩
  have w1 : wrap64 (-(n : Int)) = -(n : Int) := w64 (by omega) (by omega)
  simp only [spec_ReadDec.j2, w1]
  have d1 := specDecAny_f (-(n : Int)) (by omega) (by omega) K (by omega)
  have d2 := specDecAny_f (n : Int) (by omega) (by omega) K (by omega)
  have hx : ((x.size : Int) > 10) = (x.size > 10) := propext ⟨fun h => by omega, fun h => by omega⟩
  have hc : ((c : Int) > 9) = (c > 9) := propext ⟨fun h => by omega, fun h => by omega⟩
  simp only [d1, d2, Option.bind_some, hx, hc]
  unfold rdEnd
  cases neg <;> by_cases h1 : c > 9 <;> by_cases h2 : x.size > 10
  all_goals simp only [h1, h2, if_true, if_false, Bool.false_eq_true]
  all_goals (split <;> rfl)
theorem wsucc (i : Nat) (h : i ≤ 4611686018427387904) : wrap64 ((i : Int) + 1) = ((i + 1 : Nat) : Int) := by
  rw [w64 (by omega) (by omega)]
  omega
theorem rdstep (n b : Nat) (hn : n ≤ 100000000000) (h1 : 48 ≤ b) (h2 : b ≤ 57) : wrap64 ((wrap64 ((n : Int) * 10)) + (((b : Int) - 48) % 256)) = ((n * 10 + (b - 48) : Nat) : Int) := by
  have q : ((b : Int) - 48) % 256 = (b : Int) - 48 := by omega
  rw [q, w64 (i := (n : Int) * 10) (by omega) (by omega), w64 (by omega) (by omega)]
  omega
theorem specRD_l0 (x : ByteArray) (lim : Nat) (hl : lim ≤ 11) (hls : lim ≤ x.size) (hle : lim = x.size ∨ lim = 11) (hx : x.size ≤ 1048576) (hp : 0 < x.size) (K : Nat) (d : Nat) : ∀ (i n c : Nat), i + d = lim → n < p10 i → c ≤ i →
    spec_ReadDec.l0 (K + 2 * d + 2) x (n : Int) (c : Int) (i : Int) = spec_ReadDec.j2 K x ((valN n (((x.data.toList.take lim).drop i).filter isDig) : Nat) : Int) ((c + (((x.data.toList.take lim).drop i).filter isDig).length : Nat) : Int) (bt x 0 == 45) := by
  have hll : (x.data.toList.take lim).length = lim := by rw [List.length_take, data_length]; omega
  have hp1 : (x.size : Int) > 0 := by omega
  have hp2 : (0 : Int) < (x.size : Int) := by omega
  induction d with
  | zero =>
    intro i n c hi hn hc
    obtain rfl : i = lim := by omega
    rw [List.drop_of_length_le (by omega)]
    simp only [List.filter_nil, valN_nil, List.length_nil, Nat.add_zero, Nat.mul_zero]
    obtain ⟨K1, hK1⟩ : ∃ q, q = K + 1 := ⟨_, rfl⟩
    rw [show K + 2 = K1 + 1 from by omega]
    simp only [spec_ReadDec.l0]
    have hj : spec_ReadDec.j1 K1 x (n : Int) (c : Int) (i : Int) false = spec_ReadDec.j2 K x (n : Int) (c : Int) (bt x 0 == 45) := by
      rw [hK1]
      obtain ⟨K2, hK2⟩ : ∃ q, q = K := ⟨_, rfl⟩
      rw [← hK2]
      simp only [spec_ReadDec.j1, Bool.false_eq_true, if_false, if_pos hp1, if_pos hp2]
    rcases hle with h | h
    · rw [if_neg (by omega), hj]
    · have e : decide ((i : Int) < 11) = false := decide_eq_false (by omega)
      rw [e]
      split <;> exact hj
  | succ d ih =>
    intro i n c hi hn hc
    have hi11 : i ≤ 11 := by omega
    have hi' : i + 1 + d = lim := by omega
    have hil : i < (x.data.toList.take lim).length := by omega
    have hix : i < x.data.toList.length := by rw [data_length]; omega
    have hg : (x.data.toList.take lim)[i]'hil = x.data.toList[i]'hix := List.getElem_take
    have hA : (i : Int) < (x.size : Int) := by omega
    have hA0 : 0 ≤ (i : Int) := by omega
    have hA1 : decide ((i : Int) < 11) = true := decide_eq_true (by omega)
    have hbt := bt_list x i hix
    have hP := pow_le10 i hi11
    have ew := wsucc i (Nat.le_trans hi11 (by decide))
    have ec := wsucc c (Nat.le_trans hc (Nat.le_trans hi11 (by decide)))
    obtain ⟨K1, hK1⟩ : ∃ q, q = K + 2 * d + 2 := ⟨_, rfl⟩
    have ihd := fun n' c' h1 h2 => ih (i + 1) n' c' hi' h1 h2
    rw [← hK1] at ihd
    have hKK : K + 2 * (d + 1) + 2 = (K1 + 1) + 1 := by rw [hK1]; clear ihd hle; omega
    rw [hKK, List.drop_eq_getElem_cons hil, hg]
    obtain ⟨K2, hK2⟩ : ∃ q, q = K1 + 1 := ⟨_, rfl⟩
    rw [← hK2]
    simp only [spec_ReadDec.l0]
    rw [if_pos hA, hA1, hK2]
    obtain ⟨K3, hK3⟩ : ∃ q, q = K1 := ⟨_, rfl⟩
    rw [← hK3]
    simp only [spec_ReadDec.j1]
    rw [if_pos trivial, if_pos hA0, if_pos hA, hK3, hbt, ew, ec]
    generalize x.data.toList[i] = b at *
    by_cases h1 : 48 ≤ b.toNat
    · by_cases h2 : b.toNat ≤ 57
      · have hd : isDig b = true := by simp [isDig, h1, h2]
        have e1 := rdstep n b.toNat (Nat.le_of_lt (Nat.lt_of_lt_of_le hn hP)) h1 h2
        rw [if_pos (show (b.toNat : Int) ≥ 48 from Int.ofNat_le.mpr h1), if_pos (show (b.toNat : Int) ≤ 57 from Int.ofNat_le.mpr h2), e1, ihd _ _ (p10_dig hn h2) (Nat.succ_le_succ hc), List.filter_cons_of_pos hd]
        simp only [valN_cons, List.length_cons]
        rw [Nat.add_assoc c 1, Nat.add_comm 1]
      · have hd : ¬ isDig b = true := by simp [isDig, h2]
        rw [if_pos (show (b.toNat : Int) ≥ 48 from Int.ofNat_le.mpr h1), if_neg (show ¬ (b.toNat : Int) ≤ 57 from fun q => h2 (Int.ofNat_le.mp q)), ihd n c (p10_up hn) (Nat.le_succ_of_le hc), List.filter_cons_of_neg hd]
    · have hd : ¬ isDig b = true := by simp [isDig, h1]
      rw [if_neg (show ¬ (b.toNat : Int) ≥ 48 from fun q => h1 (Int.ofNat_le.mp q)), ihd n c (p10_up hn) (Nat.le_succ_of_le hc), List.filter_cons_of_neg hd]
theorem implRD_l0 (x t : ByteArray) (sg : Int) (hsg : sg = 1 ∨ sg = -1) (ht : t.size ≤ 9) (K d : Nat) : ∀ (i n : Nat), i + d = t.size → n < p10 i →
    impl_ReadDec.l0 (K + d + 1) x t sg (n : Int) (t.size : Int) (i : Int) = some (if (t.data.toList.drop i).all isDig = true then rdEnd x (sg * (valN n (t.data.toList.drop i) : Int)) else (0, false)) := by
  induction d with
  | zero =>
    intro i n hi hn
    have hP := pow_le10 i (by omega)
    rw [List.drop_of_length_le (by rw [data_length]; omega)]
    obtain ⟨K1, hK1⟩ : ∃ q, q = K := ⟨_, rfl⟩
    simp only [Nat.add_zero]
    rw [← hK1]
    simp only [impl_ReadDec.l0, List.all_nil, if_true, valN_nil]
    have e : wrap64 (sg * (n : Int)) = sg * (n : Int) := by
      rcases hsg with rfl | rfl
      · exact w64 (by omega) (by omega)
      · exact w64 (by omega) (by omega)
    have hd := implDec_f (sg * (n : Int)) (by rcases hsg with rfl | rfl <;> omega) (by rcases hsg with rfl | rfl <;> omega)
    rw [if_neg (by omega), e, hd]
    simp only [Option.bind_some]
    unfold rdEnd
    split <;> rfl
  | succ d ih =>
    intro i n hi hn
    have hix : i < t.data.toList.length := by rw [data_length]; omega
    have hA : (i : Int) < (t.size : Int) := by omega
    have hA0 : 0 ≤ (i : Int) := by omega
    have hbt := bt_list t i hix
    have hP := pow_le10 i (by omega)
    have ew : wrap64 ((i : Int) + 1) = ((i + 1 : Nat) : Int) := by rw [w64 (by omega) (by omega)]; omega
    obtain ⟨K1, hK1⟩ : ∃ q, q = K + d + 1 := ⟨_, rfl⟩
    have ihd := fun n' h1 => ih (i + 1) n' (by omega) h1
    rw [← hK1] at ihd
    rw [show K + (d + 1) + 1 = K1 + 1 from by omega, List.drop_eq_getElem_cons hix]
    obtain ⟨K2, hK2⟩ : ∃ q, q = K1 := ⟨_, rfl⟩
    rw [← hK2]
    simp only [impl_ReadDec.l0]
    rw [if_pos hA, if_pos hA0, if_pos hA, hbt, ew, hK2]
    generalize t.data.toList[i] = b at *
    by_cases h1 : 48 ≤ b.toNat
    · by_cases h2 : b.toNat ≤ 57
      · have hd : isDig b = true := by simp [isDig, h1, h2]
        have e1 : wrap64 ((wrap64 (10 * (n : Int))) + (((b.toNat : Int) - 48) % 256)) = ((n * 10 + (b.toNat - 48) : Nat) : Int) := by
          have q : ((b.toNat : Int) - 48) % 256 = (b.toNat : Int) - 48 := by omega
          rw [q, w64 (i := 10 * (n : Int)) (by omega) (by omega), w64 (by omega) (by omega)]
          omega
        have hall : (b :: t.data.toList.drop (i + 1)).all isDig = (t.data.toList.drop (i + 1)).all isDig := by simp [hd]
        rw [if_neg (by omega), if_neg (by omega), e1, ihd _ (p10_dig hn h2), hall]
        rw [valN_cons]
      · have hd : isDig b = false := by simp [isDig, h2]
        have hall : (b :: t.data.toList.drop (i + 1)).all isDig = false := by simp [hd]
        rw [if_neg (by omega), if_pos (by omega), hall]
        rfl
    · have hd : isDig b = false := by simp [isDig, h1]
      have hall : (b :: t.data.toList.drop (i + 1)).all isDig = false := by simp [hd]
      rw [if_pos (by omega), hall]
      rfl
theorem filter_all {α : Type} (p : α → Bool) (L : List α) (h : L.all p = true) : L.filter p = L := List.filter_eq_self.2 (List.all_eq_true.1 h)
/-- A decimal that is a text without a sign has digits alone. -/
theorem end_pos (x : ByteArray) (n : Nat) (h : ¬ x.data.toList.all isDig = true) : rdEnd x (n : Int) = (0, false) := by
  unfold rdEnd
  rw [if_neg]
  intro e
  rw [decB_list, ByteArray.toList_eq, Lib.itoa_nonneg] at e
  exact h (List.all_eq_true.2 (by rw [← e]; exact digits_dig n))
theorem end_neg (x : ByteArray) (n : Nat) (bs : List UInt8) (hx : x.data.toList = 45 :: bs) (h : bs = [] ∨ ¬ bs.all isDig = true) : rdEnd x (-(n : Int)) = (0, false) := by
  unfold rdEnd
  rw [if_neg]
  intro e
  rw [decB_list, ByteArray.toList_eq, hx] at e
  by_cases h0 : n = 0
  · subst h0
    have := digits_dig 0 45 (by
      have : Lib.itoa (-((0 : Nat) : Int)) = Lib.decDigits 0 := Lib.itoa_nonneg 0
      rw [this] at e
      rw [e]
      simp)
    exact absurd this (by decide)
  · rw [Lib.itoa_neg n (by omega)] at e
    injection e with _ e
    rcases h with h | h
    · rw [h] at e
      exact digits_ne n e
    · exact h (List.all_eq_true.2 (by rw [← e]; exact digits_dig n))
theorem readDec_both (x : ByteArray) (hx : x.size ≤ 1048576) (k : Nat) (hk : 200 < k) : ∃ v, spec_ReadDec.f k x = some v ∧ impl_ReadDec.f k x = some v := by
  obtain ⟨L, hL⟩ : ∃ L, L = x.data.toList := ⟨_, rfl⟩
  have hLl : L.length = x.size := by rw [hL, data_length]
  by_cases h0 : x.size = 0
  · -- the empty text
    refine ⟨(0, false), ?_, ?_⟩
    · obtain ⟨k, rfl⟩ : ∃ m, k = m + 1 + 1 := ⟨k - 2, by omega⟩
      have e : spec_ReadDec.f (k + 1 + 1) x = spec_ReadDec.j2 k x ((0 : Nat) : Int) ((0 : Nat) : Int) false := by
        unfold spec_ReadDec.f
        obtain ⟨K1, hK1⟩ : ∃ q, q = k + 1 := ⟨_, rfl⟩
        rw [← hK1]
        simp only [spec_ReadDec.l0]
        rw [if_neg (by omega), hK1]
        obtain ⟨K2, hK2⟩ : ∃ q, q = k := ⟨_, rfl⟩
        rw [← hK2]
        simp only [spec_ReadDec.j1, Bool.false_eq_true, if_false]
        rw [if_neg (by omega)]
        rfl
      rw [e, specRD_j2 x 0 0 (by omega) false k (by omega), if_neg (by omega), if_neg (by omega)]
      congr 1
      unfold rdEnd
      rw [if_neg]
      intro e
      rw [decB_list, ByteArray.toList_eq, ← hL] at e
      have : L = [] := List.length_eq_zero_iff.1 (by omega)
      rw [this] at e
      simp only [Bool.false_eq_true, if_false] at e
      rw [Lib.itoa_nonneg 0] at e
      exact digits_ne 0 e
    · unfold impl_ReadDec.f
      rw [if_neg (by omega)]
      obtain ⟨k, rfl⟩ : ∃ m, k = m + 1 + 1 := ⟨k - 2, by omega⟩
      obtain ⟨K1, hK1⟩ : ∃ q, q = k + 1 := ⟨_, rfl⟩
      rw [← hK1]
      simp only [impl_ReadDec.j0, Bool.false_eq_true, if_false]
      rw [hK1]
      simp only [impl_ReadDec.j1, within_f, Option.bind_some]
      rw [if_neg]
      simp only [Bool.and_eq_true, decide_eq_true_eq]
      omega
  · obtain ⟨b0, bs, hb⟩ : ∃ b0 bs, L = b0 :: bs := by
      cases L with
      | nil => simp at hLl; omega
      | cons b bs => exact ⟨b, bs, rfl⟩
    have hb0 : (bt x 0 == 45) = (b0 == 45) := by
      have := bt_list x 0 (by rw [data_length]; omega)
      have e : x.data.toList[0]'(by rw [data_length]; omega) = b0 := by simp only [← hL, hb, List.getElem_cons_zero]
      rw [e] at this
      rw [show bt x 0 = (b0.toNat : Int) from this, Bool.eq_iff_iff, beq_iff_eq, beq_iff_eq]
      constructor
      · intro h
        apply UInt8.toNat_inj.1
        have : b0.toNat = 45 := by omega
        rw [this]
        rfl
      · intro h
        rw [h]
        rfl
    obtain ⟨lim, hlim⟩ : ∃ l, l = min x.size 11 := ⟨_, rfl⟩
    have hspec : spec_ReadDec.f k x = spec_ReadDec.j2 (k - 2 * lim - 2) x ((valN 0 ((L.take lim).filter isDig) : Nat) : Int) ((((L.take lim).filter isDig).length : Nat) : Int) (b0 == 45) := by
      have := specRD_l0 x lim (by omega) (by omega) (by omega) hx (by omega) (k - 2 * lim - 2) lim 0 0 0 (by omega) (by decide) (by omega)
      rw [show k - 2 * lim - 2 + 2 * lim + 2 = k from by omega, List.drop_zero, Nat.zero_add, hb0, ← hL] at this
      exact this
    have hvl : valN 0 ((L.take lim).filter isDig) < 100000000000 := by
      have h1 := valN_lt ((L.take lim).filter isDig) 0 0 (fun b hb => (List.mem_filter.1 hb).2) (by decide)
      have h2 : ((L.take lim).filter isDig).length ≤ 11 := by
        have := List.length_filter_le isDig (L.take lim)
        rw [List.length_take] at this
        omega
      rw [Nat.zero_add] at h1
      exact Nat.lt_of_lt_of_le h1 (pow_le10 _ h2)
    rw [hspec, specRD_j2 x _ _ hvl _ _ (by omega)]
    have himpl : impl_ReadDec.f k x = (if b0 = 45 then impl_ReadDec.j1 (k - 1) x (x.extract 1 x.size) (-1) else impl_ReadDec.j1 (k - 1) x x 1) := by
      unfold impl_ReadDec.f
      rw [if_pos (by omega), if_pos (by omega), hb0]
      obtain ⟨k, rfl⟩ : ∃ m, k = m + 1 := ⟨k - 1, by omega⟩
      rw [Nat.add_sub_cancel]
      obtain ⟨K1, hK1⟩ : ∃ q, q = k := ⟨_, rfl⟩
      rw [← hK1]
      simp only [impl_ReadDec.j0]
      by_cases h : b0 = 45
      · rw [if_pos (by simp [h]), if_pos (by omega), if_pos h]
      · rw [if_neg (by simp [h]), if_neg h]
    rw [himpl]
    have hj1 : ∀ (t : ByteArray) (sg : Int), (sg = 1 ∨ sg = -1) → impl_ReadDec.j1 (k - 1) x t sg = some (if 1 ≤ t.size ∧ t.size ≤ 9 then (if t.data.toList.all isDig = true then rdEnd x (sg * (valN 0 t.data.toList : Int)) else (0, false)) else (0, false)) := by
      intro t sg hsg
      obtain ⟨K1, hK1⟩ : ∃ q, k - 1 = q + 1 := ⟨k - 2, by omega⟩
      rw [hK1]
      obtain ⟨K2, hK2⟩ : ∃ q, q = K1 := ⟨_, rfl⟩
      rw [← hK2]
      simp only [impl_ReadDec.j1, within_f, Option.bind_some]
      by_cases h : 1 ≤ t.size ∧ t.size ≤ 9
      · rw [if_pos h, if_pos (by simp only [Bool.and_eq_true, decide_eq_true_eq]; omega)]
        have := implRD_l0 x t sg hsg h.2 (K2 - t.size - 1) t.size 0 0 (by omega) (by decide)
        rw [show K2 - t.size - 1 + t.size + 1 = K2 from by omega, List.drop_zero] at this
        exact this
      · rw [if_neg h, if_neg (by simp only [Bool.and_eq_true, decide_eq_true_eq]; omega)]
    by_cases h10 : x.size > 10
    · refine ⟨(0, false), ?_, ?_⟩
      · congr 1
        split
        · rfl
        · first | rfl | rw [if_pos h10]
      · by_cases h45 : b0 = 45
        · rw [if_pos h45, hj1 _ _ (.inr rfl), if_neg (by rw [ByteArray.size_extract]; omega)]
        · rw [if_neg h45, hj1 _ _ (.inl rfl), if_neg (by omega)]
    · have htake : L.take lim = L := List.take_of_length_le (by omega)
      rw [htake, if_neg h10]
      by_cases h45 : b0 = 45
      · rw [if_pos h45, hj1 _ _ (.inr rfl)]
        have ht : (x.extract 1 x.size).data.toList = bs := by
          rw [extr_list x 1 x.size (Nat.le_refl _), ← hL, hb]
          simp only [List.drop_succ_cons, List.drop_zero]
          exact List.take_of_length_le (by rw [hb] at hLl; simp at hLl; omega)
        have hts : (x.extract 1 x.size).size = bs.length := by rw [← data_length, ht]
        have hbl : bs.length + 1 = x.size := by rw [hb] at hLl; simpa using hLl
        have hf : L.filter isDig = bs.filter isDig := by rw [hb, h45]; rfl
        have hc : ¬ (L.filter isDig).length > 9 := by
          rw [hf]
          have := List.length_filter_le isDig bs
          omega
        have hq : (if (b0 == 45) = true then -((valN 0 (L.filter isDig) : Nat) : Int) else ((valN 0 (L.filter isDig) : Nat) : Int)) = -((valN 0 (L.filter isDig) : Nat) : Int) := if_pos (by simp [h45])
        rw [if_neg hc, hq, ht, hts]
        have hxl : x.data.toList = 45 :: bs := by rw [← hL, hb, h45]
        by_cases hall : bs.all isDig = true
        · by_cases hne : bs = []
          · rw [end_neg x _ bs hxl (.inl hne)]
            exact ⟨_, rfl, by rw [if_neg (by rw [hne]; simp)]⟩
          · have hpos : 1 ≤ bs.length := List.length_pos_iff.2 hne
            rw [if_pos ⟨hpos, by omega⟩, if_pos hall, hf, filter_all _ _ hall]
            exact ⟨_, rfl, by rw [Int.neg_one_mul]⟩
        · rw [end_neg x _ bs hxl (.inr hall)]
          refine ⟨_, rfl, ?_⟩
          split
          · first | rfl | rw [if_neg hall]
          · rfl
      · rw [if_neg h45, hj1 _ _ (.inl rfl), ← hL]
        have hq : (if (b0 == 45) = true then -((valN 0 (L.filter isDig) : Nat) : Int) else ((valN 0 (L.filter isDig) : Nat) : Int)) = ((valN 0 (L.filter isDig) : Nat) : Int) := if_neg (by simp [h45])
        rw [hq]
        by_cases hall : L.all isDig = true
        · rw [filter_all _ _ hall, hLl, if_pos hall, Int.one_mul]
          by_cases h9 : x.size > 9
          · rw [if_pos h9, if_neg (by omega)]
            exact ⟨_, rfl, rfl⟩
          · rw [if_neg h9, if_pos ⟨by omega, by omega⟩]
            exact ⟨_, rfl, rfl⟩
        · rw [end_pos x _ (by rw [← hL]; exact hall)]
          refine ⟨(0, false), ?_, ?_⟩
          · split <;> rfl
          · split
            · first | rfl | rw [if_neg hall]
            · rfl
theorem kindOf_l0 (x : ByteArray) (d : Nat) : ∀ i k : Nat, 1 ≤ i → i + d = 4 → d < k → ∃ t, spec_KindOf.l0 k x (i : Int) = some t ∧ impl_KindOf.l0 k x (i : Int) = some t := by
  induction d with
  | zero =>
    intro i k h1 hi hk
    obtain ⟨k, rfl⟩ : ∃ m, k = m + 1 := ⟨k - 1, by omega⟩
    have hA : ¬ ((i : Int) ≤ 3) := by omega
    refine ⟨0, ?_, ?_⟩
    · simp only [spec_KindOf.l0, if_neg hA]
    · simp only [impl_KindOf.l0, if_neg hA]
  | succ d ih =>
    intro i k h1 hi hk
    obtain ⟨k, rfl⟩ : ∃ m, k = m + 1 := ⟨k - 1, by omega⟩
    have hA : (i : Int) ≤ 3 := by omega
    obtain ⟨t, t1, t2⟩ := ih (i + 1) k (by omega) (by omega) (by omega)
    have ew : wrap64 ((i : Int) + 1) = ((i + 1 : Nat) : Int) := by rw [w64 (by omega) (by omega)]; omega
    by_cases h : (kwB (i : Int)).toList = x.toList
    · refine ⟨(i : Int), ?_, ?_⟩
      · simp only [spec_KindOf.l0, if_pos hA, specKw_f, Option.bind_some, if_pos h]
      · simp only [impl_KindOf.l0, if_pos hA, implKw_f, Option.bind_some, if_pos h]
    · refine ⟨t, ?_, ?_⟩
      · simp only [spec_KindOf.l0, if_pos hA, specKw_f, Option.bind_some, if_neg h, ew]
        exact t1
      · simp only [impl_KindOf.l0, if_pos hA, implKw_f, Option.bind_some, if_neg h, ew]
        exact t2
theorem kindOf_both (x : ByteArray) (k : Nat) (hk : 10 < k) : ∃ t, spec_KindOf.f k x = some t ∧ impl_KindOf.f k x = some t := kindOf_l0 x 3 1 k (by omega) (by omega) (by omega)
theorem cut_len : ∀ (L : List UInt8), ∀ w ∈ cutB L, w.length ≤ L.length
  | [], w, h => by
    simp only [cutB, List.mem_singleton] at h
    rw [h]
    exact Nat.le_refl _
  | b :: bs, w, h => by
    have ih := cut_len bs
    simp only [cutB] at h
    split at h
    · rcases List.mem_cons.1 h with rfl | h
      · simp
      · have := ih w h
        simp only [List.length_cons]
        omega
    · cases hc : cutB bs with
      | nil => exact absurd hc (cutB_ne bs)
      | cons v vs =>
        rw [hc] at h ih
        simp only at h
        rcases List.mem_cons.1 h with rfl | h
        · have := ih v (by simp)
          simp only [List.length_cons]
          omega
        · have := ih w (by simp [h])
          simp only [List.length_cons]
          omega
theorem flush_show : showOpB 3 (⟨#[]⟩ : ByteArray) 0 0 = (⟨#[102, 108, 117, 115, 104]⟩ : ByteArray) := by
  have e : (⟨#[]⟩ : ByteArray).toList = ([] : List UInt8) := by rw [ByteArray.toList_eq]
  have h : opOkB 3 (⟨#[]⟩ : ByteArray) 0 0 = true := by
    unfold opOkB
    rw [if_neg (by omega), if_neg (by omega), if_pos rfl, e]
    rfl
  unfold showOpB
  rw [if_pos h, if_neg (by omega), if_neg (by omega)]
theorem flush_list : (⟨#[102, 108, 117, 115, 104]⟩ : ByteArray).toList = ([102, 108, 117, 115, 104] : List UInt8) := by rw [ByteArray.toList_eq]
theorem rec_show (s w1 : ByteArray) (n : Int) (w : List UInt8) (ws : List (List UInt8)) (hc : cutB s.data.toList = w :: ws) (hw : w ≠ ([114, 101, 99] : List UInt8)) (hs : s.toList ≠ ([] : List UInt8)) : ¬ (showOpB 2 w1 0 n).toList = s.toList := by
  intro e
  rw [ByteArray.toList_eq, ByteArray.toList_eq] at e
  unfold showOpB at e
  by_cases h : opOkB 2 w1 0 n = true
  · rw [if_pos h, if_neg (by omega), if_pos rfl] at e
    simp only [ByteArray.toList_data_append] at e
    rw [← e] at hc
    simp only [List.append_assoc, List.cons_append, List.nil_append] at hc
    generalize w1.data.toList ++ 32 :: (decB n).data.toList = rest at hc
    have : cutB (114 :: 101 :: 99 :: 32 :: rest) = [114, 101, 99] :: cutB rest := by
      simp [cutB]
    rw [this] at hc
    injection hc with q _
    exact hw q.symm
  · rw [if_neg h] at e
    rw [ByteArray.toList_eq, ← e] at hs
    exact hs rfl
theorem len3 {α : Type} (W : List α) (h : (W.length : Int) = 3) : ∃ a b c, W = [a, b, c] := by
  have h : W.length = 3 := by omega
  cases W with
  | nil => simp at h
  | cons a W => cases W with
    | nil => simp at h
    | cons b W => cases W with
      | nil => simp at h
      | cons c W => cases W with
        | nil => exact ⟨a, b, c, rfl⟩
        | cons d W => simp at h
theorem readOp_both (s : ByteArray) (hs : s.size ≤ 1048576) (k : Nat) (hk : 1048800 < k) : ∃ v, spec_ReadOp.f k s = some v ∧ impl_ReadOp.f k s = some v := by
  obtain ⟨W, c1, c2, hW⟩ := cut_both s hs k (by omega)
  have hz : (⟨#[]⟩ : ByteArray).size = 0 := rfl
  obtain ⟨m, rfl⟩ : ∃ m, k = m + 1 + 1 + 1 := ⟨k - 3, by omega⟩
  obtain ⟨K, hK⟩ : ∃ q, q = m + 1 + 1 + 1 := ⟨_, rfl⟩
  obtain ⟨K2, hK2⟩ : ∃ q, q = m + 1 + 1 := ⟨_, rfl⟩
  obtain ⟨K1, hK1⟩ : ∃ q, q = m + 1 := ⟨_, rfl⟩
  have e3 : m + 1 + 1 + 1 = K2 + 1 := by omega
  have e2 : K2 = K1 + 1 := by omega
  unfold spec_ReadOp.f impl_ReadOp.f
  rw [c1, c2]
  simp only [Option.bind_some]
  rw [← hK]
  have f1 := specShowOp_f 3 (⟨#[]⟩ : ByteArray) 0 0 (by omega) m (by omega)
  have f2 := implShowOp_f 3 (⟨#[]⟩ : ByteArray) 0 0 (by omega) K (by omega)
  rw [flush_show] at f1 f2
  have J0f : ∀ (X : List ByteArray), spec_ReadOp.j0 K s X false 3 (⟨#[]⟩ : ByteArray) 0 0 = spec_ReadOp.j1 K2 s X 3 (⟨#[]⟩ : ByteArray) 0 0 := by
    intro X
    rw [hK, e3]
    obtain ⟨q, hq⟩ : ∃ q, q = K2 := ⟨_, rfl⟩
    rw [← hq]
    simp only [spec_ReadOp.j0, Bool.false_eq_true, if_false]
  have J2f : ∀ (X : List ByteArray) (a : Int) (b : ByteArray) (c d : Int), spec_ReadOp.j2 K1 s X false a b c d = (if s.toList = ([] : List UInt8) then (some (0, (⟨#[]⟩ : ByteArray), 0, 0, false)) else ((spec_ShowOp.f m a b c d).bind fun t => (if t.toList = s.toList then (some (a, b, c, d, true)) else (some (0, (⟨#[]⟩ : ByteArray), 0, 0, false))))) := by
    intro X a b c d
    rw [hK1]
    obtain ⟨q, hq⟩ : ∃ q, q = m := ⟨_, rfl⟩
    rw [← hq]
    simp only [spec_ReadOp.j2, Bool.false_eq_true, if_false]
  by_cases hlen : (W.length : Int) = 3
  · obtain ⟨w0, w1, w2, rfl⟩ := len3 W hlen
    have l3 : (([w0, w1, w2] : List ByteArray).length : Int) = 3 := rfl
    have r0 : rdOf ByteArray.empty [w0, w1, w2] 0 = w0 := rfl
    have r1 : rdOf ByteArray.empty [w0, w1, w2] 1 = w1 := rfl
    have r2 : rdOf ByteArray.empty [w0, w1, w2] 2 = w2 := rfl
    simp only [List.map_cons, List.map_nil] at hW
    have hmem := cut_len s.data.toList
    rw [← hW] at hmem
    have hw1 : w1.size ≤ 1048576 := by
      have := hmem w1.data.toList (by simp)
      rw [data_length, data_length] at this
      omega
    have hw2 : w2.size ≤ 1048576 := by
      have := hmem w2.data.toList (by simp)
      rw [data_length, data_length] at this
      omega
    have hne : ¬ s.toList = ([] : List UInt8) := by
      intro e
      rw [ByteArray.toList_eq] at e
      rw [e] at hW
      simp [cutB] at hW
    have hnf : ¬ s.toList = ([102, 108, 117, 115, 104] : List UInt8) := by
      intro e
      rw [ByteArray.toList_eq] at e
      rw [e] at hW
      simp [cutB] at hW
    have J1 : ∀ (a : Int) (b : ByteArray) (c d : Int), spec_ReadOp.j1 K2 s [w0, w1, w2] a b c d = spec_ReadOp.j2 K1 s [w0, w1, w2] (w0.toList == ([114, 101, 99] : List UInt8)) a b c d := by
      intro a b c d
      rw [e2]
      obtain ⟨q, hq⟩ : ∃ q, q = K1 := ⟨_, rfl⟩
      rw [← hq]
      simp only [spec_ReadOp.j1, l3, r0]
      rw [if_pos trivial, if_pos (by omega)]
    simp only [l3, r0, r1, r2]
    rw [if_pos trivial, if_pos trivial, if_pos (show (0 : Int) < 3 by omega), if_pos (show (0 : Int) < 3 by omega), if_neg hnf]
    by_cases hreg : w0.toList = ([114, 101, 103] : List UInt8)
    · obtain ⟨t, t1, t2⟩ := kindOf_both w2 K2 (by omega)
      have t3 : impl_KindOf.f K w2 = some t := at_rounds (g := fun k => impl_KindOf.f k w2) (fun k => impl_KindOf.mono _ k) (show K2 ≤ K by omega) t2
      have q1 := specShowOp_f 1 w1 t 0 hw1 m (by omega)
      have q2 := implShowOp_f 1 w1 t 0 hw1 K (by omega)
      have hb : (w0.toList == ([114, 101, 103] : List UInt8)) = true := beq_iff_eq.mpr hreg
      have hb2 : (w0.toList == ([114, 101, 99] : List UInt8)) = false := by rw [hreg]; rfl
      have J0 : spec_ReadOp.j0 K s [w0, w1, w2] true 3 (⟨#[]⟩ : ByteArray) 0 0 = spec_ReadOp.j1 K2 s [w0, w1, w2] 1 w1 t 0 := by
        rw [hK, e3]
        obtain ⟨q, hq⟩ : ∃ q, q = K2 := ⟨_, rfl⟩
        rw [← hq] at t1 ⊢
        simp only [spec_ReadOp.j0, l3, r1, r2, t1, Option.bind_some]
        rw [if_pos trivial, if_pos (by omega), if_pos (by omega)]
      rw [hb, J0, J1, hb2, J2f, if_neg hne, q1, if_pos hreg, if_pos (by omega), if_pos (by omega), t3]
      simp only [Option.bind_some]
      rw [q2]
      simp only [Option.bind_some]
      split
      · exact ⟨_, rfl, rfl⟩
      · exact ⟨_, rfl, rfl⟩
    · have hb : (w0.toList == ([114, 101, 103] : List UInt8)) = false := beq_eq_false_iff_ne.mpr hreg
      rw [hb, J0f, J1, if_neg hreg, if_pos (show (2 : Int) < 3 by omega)]
      obtain ⟨v, v1, v2⟩ := readDec_both w2 hw2 m (by omega)
      have v3 : impl_ReadDec.f K w2 = some v := at_rounds (g := fun k => impl_ReadDec.f k w2) (fun k => impl_ReadDec.mono _ k) (show m ≤ K by omega) v2
      rw [v3]
      simp only [Option.bind_some]
      rw [if_pos (show (1 : Int) < 3 by omega)]
      have q2 := implShowOp_f 2 w1 0 v.1 hw1 K (by omega)
      rw [q2]
      simp only [Option.bind_some]
      by_cases hrec : w0.toList = ([114, 101, 99] : List UInt8)
      · have hb2 : (w0.toList == ([114, 101, 99] : List UInt8)) = true := beq_iff_eq.mpr hrec
        have q1 := specShowOp_f 2 w1 0 v.1 hw1 m (by omega)
        have J2 : ∀ (a : Int) (b : ByteArray) (c d : Int), spec_ReadOp.j2 K1 s [w0, w1, w2] true a b c d = (if (showOpB 2 w1 0 v.1).toList = s.toList then some (2, w1, 0, v.1, true) else some (0, (⟨#[]⟩ : ByteArray), 0, 0, false)) := by
          intro a b c d
          rw [hK1]
          obtain ⟨q, hq⟩ : ∃ q, q = m := ⟨_, rfl⟩
          rw [← hq] at v1 q1 ⊢
          simp only [spec_ReadOp.j2, l3, r1, r2, v1, q1, Option.bind_some]
          rw [if_pos trivial, if_pos (by omega), if_pos (by omega), if_neg hne]
        rw [hb2, J2]
        split
        · exact ⟨_, rfl, rfl⟩
        · exact ⟨_, rfl, rfl⟩
      · have hb2 : (w0.toList == ([114, 101, 99] : List UInt8)) = false := beq_eq_false_iff_ne.mpr hrec
        rw [hb2, J2f, if_neg hne, f1]
        simp only [Option.bind_some]
        rw [flush_list, if_neg (fun e => hnf e.symm), if_neg (rec_show s w1 v.1 w0.data.toList _ hW.symm (by rw [← ByteArray.toList_eq]; exact hrec) hne)]
        exact ⟨_, rfl, rfl⟩
  · rw [if_neg hlen, if_neg hlen, J0f]
    have J1 : spec_ReadOp.j1 K2 s W 3 (⟨#[]⟩ : ByteArray) 0 0 = spec_ReadOp.j2 K1 s W false 3 (⟨#[]⟩ : ByteArray) 0 0 := by
      rw [e2]
      obtain ⟨q, hq⟩ : ∃ q, q = K1 := ⟨_, rfl⟩
      rw [← hq]
      simp only [spec_ReadOp.j1]
      rw [if_neg hlen]
    rw [J1, J2f, f1, f2]
    simp only [Option.bind_some]
    rw [flush_list]
    by_cases hf : s.toList = ([102, 108, 117, 115, 104] : List UInt8)
    · have hne : ¬ s.toList = ([] : List UInt8) := by rw [hf]; simp
      rw [if_neg hne, if_pos hf.symm, if_pos hf]
      exact ⟨_, rfl, rfl⟩
    · rw [if_neg hf]
      refine ⟨(0, (⟨#[]⟩ : ByteArray), 0, 0, false), ?_, rfl⟩
      split
      · rfl
      · rw [if_neg (fun e => hf e.symm)]
theorem FnExactReadOp : FnExactReadOpOwn := by
  intro s hs0
  by_cases h : (s.size : Int) > 1048576
  · refine ⟨0, ?_⟩
    unfold laws_FnExactReadOp.f
    rw [if_pos h]
  · obtain ⟨K, hK⟩ : ∃ q, q = 2000000 := ⟨_, rfl⟩
    obtain ⟨v, v1, v2⟩ := readOp_both s (by omega) K (by omega)
    refine ⟨K, ?_⟩
    unfold laws_FnExactReadOp.f
    rw [if_neg h, v1, v2]
    simp only [Option.bind_some]
    unfold laws_eqOp.f
    simp

end Go.Proofs.YticfkgjcklonmaaDoor.Pure
