/- For every operation, ShowOp of the program answers what ShowOp of the reference answers (keys above 2^20 bytes are let pass by the law itself). -/
import Derived.Test.YthhbgembnlpohaaDoorQFnExactShowOpx5
namespace Go.Proofs.YthhbgembnlpohaaDoor.Pure
open Go.RowKit Go.Proofs.YthhbgembnlpohaaDoor.QFnExactShowOp Go.Proofs.YthhbgembnlpohaaDoorW.PrintWords Go.Proofs.YthhbgembnlpohaaDoorW.PrintLast Go.Proofs.YthhbgembnlpohaaDoorW.PrintMore
set_option linter.unusedVariables false
set_option linter.unusedSimpArgs false
def FnExactShowOpOwn : Prop := ∀ (a0_0 : Int) (a0_1 : ByteArray) (a0_2 : Int) (a0_3 : Int), (Lit.int .i64 a0_0).wf = true → a0_1.size ≤ maxLen → (Lit.int .i64 a0_2).wf = true → (Lit.int .i64 a0_3).wf = true → ∃ k, laws_FnExactShowOp.f k a0_0 a0_1 a0_2 a0_3 = some true
theorem w64 {i : Int} (h : -9223372036854775808 ≤ i) (h2 : i ≤ 9223372036854775807) : wrap64 i = i := by
  unfold wrap64
  omega
theorem rd_at (x : List Int) (i : Nat) (h : i < x.length) : rd x (i : Int) = x[i] := by
  unfold rd
  rw [Int.toNat_natCast, List.getD_eq_getElem?_getD, List.getElem?_eq_getElem h]
  rfl
theorem succ_cast (i : Nat) : ((i : Int) + 1) = ((i + 1 : Nat) : Int) := by omega
theorem take_succ_ext {α : Type} (a b : List α) (i : Nat) (ha : i < a.length) (hb : i < b.length) (ht : a.take i = b.take i) (he : a[i] = b[i]) : a.take (i + 1) = b.take (i + 1) := by
  rw [List.take_succ_eq_append_getElem ha, List.take_succ_eq_append_getElem hb, ht, he]
theorem l1In_f (x a b : Int) : spec_l1In.f x a b = some (decide (a ≤ x) && decide (x ≤ b)) := by
  unfold spec_l1In.f
  by_cases h : x ≥ a
  · rw [if_pos h]
    have h2 : a ≤ x := h
    simp [h2]
  · rw [if_neg h]
    have h2 : ¬ a ≤ x := h
    simp [h2]
theorem within_f (x a b : Int) : impl_within.f x a b = some (decide (a ≤ x) && decide (x ≤ b)) := by
  unfold impl_within.f
  by_cases h : a ≤ x <;> simp [h]
def kb (c : Int) : Bool := (decide (97 ≤ c) && decide (c ≤ 122)) || ((decide (65 ≤ c) && decide (c ≤ 90)) || ((decide (48 ≤ c) && decide (c ≤ 57)) || decide (c = 95)))
def keyOkFrom (s : ByteArray) : Nat → Nat → Bool
  | 0, _ => decide (1 ≤ s.size) && decide (s.size ≤ 4)
  | d + 1, i => kb (bt s (i : Int)) && keyOkFrom s d (i + 1)
def keyOkB (s : ByteArray) : Bool := keyOkFrom s s.size 0
theorem l4Byte_f (c : Int) : spec_l4Byte.f c = some (kb c) := by
  unfold spec_l4Byte.f spec_l1In.f kb
  by_cases h1 : c ≥ 97 <;> by_cases h2 : c ≤ 122 <;> by_cases h3 : c ≥ 65 <;> by_cases h4 : c ≤ 90 <;> by_cases h5 : c ≥ 48 <;> by_cases h6 : c ≤ 57 <;> by_cases h7 : c = 95 <;> simp [h1, h2, h3, h4, h5, h6, h7] <;> first | omega | (split <;> simp_all <;> omega)
theorem specKeyOk_l0 (s : ByteArray) (hn : s.size ≤ 9223372036854775806) (d : Nat) : ∀ (k i : Nat), i + d = s.size → d < k → spec_KeyOk.l0 k s (i : Int) = some (keyOkFrom s d i) := by
  induction d with
  | zero =>
    intro k i hd hk
    obtain ⟨k, rfl⟩ : ∃ m, k = m + 1 := ⟨k - 1, by omega⟩
    simp only [spec_KeyOk.l0, keyOkFrom]
    rw [if_neg (by omega)]
    unfold spec_l1In.f
    by_cases h : (s.size : Int) ≥ 1
    · rw [if_pos h]
      have h2 : 1 ≤ s.size := by omega
      simp only [Option.bind_some, h2, decide_true, Bool.true_and]
      congr 1
      rw [decide_eq_decide]
      omega
    · rw [if_neg h]
      have h2 : ¬ 1 ≤ s.size := by omega
      simp only [Option.bind_some, h2, decide_false, Bool.false_and]
  | succ d ih =>
    intro k i hd hk
    obtain ⟨k, rfl⟩ : ∃ m, k = m + 1 := ⟨k - 1, by omega⟩
    have hb := bt_range s (i : Int)
    simp only [spec_KeyOk.l0, keyOkFrom]
    rw [if_pos (by omega), if_pos (by omega), w64 (i := bt s (i : Int)) (by omega) (by omega), w64 (by omega) (by omega), succ_cast, l4Byte_f, Option.bind_some, ih k (i + 1) (by omega) (by omega)]
    cases kb (bt s (i : Int)) <;> simp
theorem implKeyOk_l0 (s : ByteArray) (hn : s.size ≤ 9223372036854775806) (d : Nat) : ∀ (k i : Nat), i + d = s.size → d < k → impl_KeyOk.l0 k s (s.size : Int) (i : Int) = some (keyOkFrom s d i) := by
  induction d with
  | zero =>
    intro k i hd hk
    obtain ⟨k, rfl⟩ : ∃ m, k = m + 1 := ⟨k - 1, by omega⟩
    simp only [impl_KeyOk.l0, keyOkFrom]
    rw [if_neg (by omega)]
    unfold impl_within.f
    by_cases h : 1 ≤ (s.size : Int)
    · rw [if_pos h]
      have h2 : 1 ≤ s.size := by omega
      simp only [Option.bind_some, h2, decide_true, Bool.true_and]
      congr 1
      rw [decide_eq_decide]
      omega
    · rw [if_neg h]
      have h2 : ¬ 1 ≤ s.size := by omega
      simp only [Option.bind_some, h2, decide_false, Bool.false_and]
  | succ d ih =>
    intro k i hd hk
    obtain ⟨k, rfl⟩ : ∃ m, k = m + 1 := ⟨k - 1, by omega⟩
    simp only [impl_KeyOk.l0, keyOkFrom]
    rw [if_pos (by omega), if_pos (by omega), if_pos (by omega), w64 (by omega) (by omega), succ_cast, ih k (i + 1) (by omega) (by omega)]
    generalize bt s (i : Int) = c
    cases h : kb c
    · unfold kb at h
      simp only [Bool.or_eq_false_iff, Bool.and_eq_false_iff, decide_eq_false_iff_not] at h
      rw [Bool.false_and]
      repeat' split
      all_goals first | rfl | omega
    · unfold kb at h
      simp only [Bool.or_eq_true, Bool.and_eq_true, decide_eq_true_eq] at h
      rw [Bool.true_and]
      repeat' split
      all_goals first | rfl | omega
theorem specKeyOk_f (s : ByteArray) (hn : s.size ≤ 9223372036854775806) (k : Nat) (hk : s.size < k) : spec_KeyOk.f k s = some (keyOkB s) := specKeyOk_l0 s hn s.size k 0 (by omega) hk
theorem implKeyOk_f (s : ByteArray) (hn : s.size ≤ 9223372036854775806) (k : Nat) (hk : s.size < k) : impl_KeyOk.f k s = some (keyOkB s) := implKeyOk_l0 s hn s.size k 0 (by omega) hk
/-- A kind's word. -/
def kwB (x : Int) : ByteArray := if x = 1 then ⟨#[99]⟩ else if x = 2 then ⟨#[103]⟩ else if x = 3 then ⟨#[109, 115]⟩ else ⟨#[]⟩
theorem specKw_f (x : Int) : spec_KindWord.f x = some (kwB x) := by
  unfold spec_KindWord.f kwB
  rw [l1In_f, Option.bind_some]
  by_cases h : 1 ≤ x ∧ x ≤ 3
  · have : x = 1 ∨ x = 2 ∨ x = 3 := by omega
    rcases this with rfl | rfl | rfl <;> (rw [if_pos (by decide), Option.bind_some, w64 (by omega) (by omega), if_pos (by omega), if_pos (by simp)]; rfl)
  · rw [if_neg (by simp; omega), if_neg (by omega), if_neg (by omega), if_neg (by omega)]
theorem implKw_f (x : Int) : impl_KindWord.f x = some (kwB x) := by
  unfold impl_KindWord.f kwB
  repeat' split
  all_goals rfl
theorem kwB_size (x : Int) : (kwB x).size ≤ 2 := by
  unfold kwB
  repeat' split
  all_goals decide
/-- A whole number in decimal. -/
def decB (n : Int) : ByteArray := ⟨(Lib.itoa n).toArray⟩
theorem decB_size (n : Int) (h0 : -9223372036854775808 ≤ n) (h1 : n ≤ 9223372036854775807) : (decB n).size ≤ 21 := by
  have := Lib.itoa_length_le n h0 h1
  unfold decB
  simpa [ByteArray.size] using this
theorem implDec_f (n : Int) (h0 : -9223372036854775808 ≤ n) (h1 : n ≤ 9223372036854775807) : impl_Dec.f n = some (decB n) := by
  unfold impl_Dec.f strconv_Itoa.f decB
  rw [if_pos ⟨h0, h1⟩]
  rfl
theorem ba_append (a b : List UInt8) : (⟨a.toArray⟩ : ByteArray) ++ ⟨b.toArray⟩ = ⟨(a ++ b).toArray⟩ := by
  apply ByteArray.ext
  simp [ByteArray.data_append]
theorem digit_son (m : Nat) (h : m < 10) : strOfNums [((48 + (m : Int)) % 256)] = ⟨[UInt8.ofNat (48 + m)].toArray⟩ := by
  have e : ((48 + (m : Int)) % 256) = ((48 + m : Nat) : Int) := by omega
  rw [e]
  rfl
theorem specDec_l0 (d : Nat) : ∀ (n k : Nat) (acc : List UInt8), 0 < n → n < 10 ^ d → (n : Int) ≤ 9223372036854775807 → acc.length + d ≤ 100 → d + 1 < k → spec_Dec.l0 k (n : Int) ⟨acc.toArray⟩ false = some ⟨(Lib.decDigits n ++ acc).toArray⟩ := by
  induction d with
  | zero => intro n k acc h0 h1 h2 h3 hk; simp at h1; omega
  | succ d ih =>
    intro n k acc h0 h1 h2 h3 hk
    obtain ⟨k, rfl⟩ : ∃ m, k = m + 1 := ⟨k - 1, by omega⟩
    have t1 : Int.tmod (n : Int) 10 = ((n % 10 : Nat) : Int) := by rw [Int.tmod_eq_emod_of_nonneg (by omega)]; omega
    have t2 : Int.tdiv (n : Int) 10 = ((n / 10 : Nat) : Int) := by rw [Int.tdiv_eq_ediv_of_nonneg (by omega)]; omega
    have hs : (⟨[UInt8.ofNat (48 + n % 10)].toArray⟩ : ByteArray).size = 1 := rfl
    have hs2 : (⟨acc.toArray⟩ : ByteArray).size = acc.length := by simp [ByteArray.size]
    simp only [spec_Dec.l0]
    rw [if_neg (by omega), t1, t2, if_neg (by omega), w64 (i := 48 + _) (by omega) (by omega), Option.bind_some, digit_son _ (by omega), if_pos (by omega), w64 (by omega) (by omega), ba_append]
    by_cases hq : n / 10 = 0
    · obtain ⟨k, rfl⟩ : ∃ m, k = m + 1 := ⟨k - 1, by omega⟩
      rw [hq]
      simp only [spec_Dec.l0]
      rw [if_pos (by omega), if_neg (by simp), Lib.decDigits_one (by omega), Nat.mod_eq_of_lt (by omega)]
    · rw [ih (n / 10) k _ (by omega) (by rw [Nat.pow_succ] at h1; omega) (by omega) (by simp; omega) (by omega)]
      have e : Lib.decDigits n = Lib.decDigits (n / 10) ++ [UInt8.ofNat (48 + n % 10)] := by
        rw [Lib.decDigits, dif_neg (by omega)]
      rw [e, List.append_assoc]
theorem specDec_f (n : Int) (h0 : 0 ≤ n) (h1 : n ≤ 9223372036854775807) (k : Nat) (hk : 30 < k) : spec_Dec.f k n = some (decB n) := by
  obtain ⟨m, rfl⟩ := Int.eq_ofNat_of_zero_le h0
  unfold spec_Dec.f decB
  rw [Lib.itoa_nonneg]
  by_cases hz : (m : Int) = 0
  · rw [if_pos hz]
    have : m = 0 := by omega
    subst this
    rw [Lib.decDigits_one (by omega)]
    rfl
  · rw [if_neg hz]
    have e : decide ((m : Int) < 0) = false := decide_eq_false (by omega)
    have z : (⟨#[]⟩ : ByteArray) = ⟨([] : List UInt8).toArray⟩ := rfl
    rw [e, z, specDec_l0 19 m k [] (by omega) (by omega) h1 (by simp) (by omega), List.append_nil]
/-- An operation is right. -/
def opOkB (a : Int) (s : ByteArray) (x v : Int) : Bool :=
  if a = 1 then (if keyOkB s = true then (if (kwB x).toList = ([] : List UInt8) then false else (v == 0)) else false)
  else if a = 2 then (if keyOkB s = true then (if x = 0 then (decide (0 ≤ v) && decide (v ≤ 65535)) else false) else false)
  else if a = 3 then (a == 3 && (s.toList == ([] : List UInt8) && (x == 0 && (v == 0)))) else false
theorem specOpOk_f (a : Int) (s : ByteArray) (x v : Int) (hn : s.size ≤ 9223372036854775806) (k : Nat) (hk : s.size < k) : spec_OpOk.f k a s x v = some (opOkB a s x v) := by
  unfold spec_OpOk.f opOkB
  rw [specKeyOk_f s hn k hk, specKw_f, l1In_f]
  simp only [Option.bind_some]
  repeat' split
  all_goals first | rfl | contradiction
theorem implOpOk_f (a : Int) (s : ByteArray) (x v : Int) (hn : s.size ≤ 9223372036854775806) (k : Nat) (hk : s.size < k) : impl_OpOk.f k a s x v = some (opOkB a s x v) := by
  unfold impl_OpOk.f opOkB
  rw [implKeyOk_f s hn k hk, implKw_f, within_f]
  simp only [Option.bind_some]
  repeat' split
  all_goals first | rfl | contradiction
theorem opOk_val (a : Int) (s : ByteArray) (x v : Int) (h : opOkB a s x v = true) (h2 : a = 2) : 0 ≤ v ∧ v ≤ 65535 := by
  subst h2
  unfold opOkB at h
  rw [if_neg (by omega), if_pos rfl] at h
  split at h
  · split at h
    · simpa using h
    · exact Bool.noConfusion h
  · exact Bool.noConfusion h
/-- An operation as a line. -/
def showOpB (a : Int) (s : ByteArray) (x v : Int) : ByteArray :=
  if opOkB a s x v = true then (if a = 1 then (((⟨#[114, 101, 103, 32]⟩ : ByteArray) ++ s) ++ (⟨#[32]⟩ : ByteArray)) ++ kwB x else if a = 2 then (((⟨#[114, 101, 99, 32]⟩ : ByteArray) ++ s) ++ (⟨#[32]⟩ : ByteArray)) ++ decB v else ⟨#[102, 108, 117, 115, 104]⟩) else ⟨#[]⟩
theorem showOp_size (a : Int) (s : ByteArray) (x v : Int) (hs : s.size ≤ 1048576) : (showOpB a s x v).size ≤ 1048676 := by
  have e1 : (⟨#[114, 101, 103, 32]⟩ : ByteArray).size = 4 := rfl
  have e2 : (⟨#[114, 101, 99, 32]⟩ : ByteArray).size = 4 := rfl
  have e3 : (⟨#[32]⟩ : ByteArray).size = 1 := rfl
  have e4 : (⟨#[102, 108, 117, 115, 104]⟩ : ByteArray).size = 5 := rfl
  have e5 : (⟨#[]⟩ : ByteArray).size = 0 := rfl
  have hk := kwB_size x
  unfold showOpB
  split
  · rename_i h
    split
    · simp only [ByteArray.size_append, e1, e3]
      omega
    · split
      · rename_i h2
        have hv := opOk_val a s x v h h2
        have := decB_size v (by omega) (by omega)
        simp only [ByteArray.size_append, e2, e3]
        omega
      · omega
  · omega
theorem specShowOp_f (a : Int) (s : ByteArray) (x v : Int) (hs : s.size ≤ 1048576) (k : Nat) (hk : 1048700 < k) : spec_ShowOp.f k a s x v = some (showOpB a s x v) := by
  unfold spec_ShowOp.f showOpB
  have e1 : (⟨#[114, 101, 103, 32]⟩ : ByteArray).size = 4 := rfl
  have e2 : (⟨#[114, 101, 99, 32]⟩ : ByteArray).size = 4 := rfl
  have e3 : (⟨#[32]⟩ : ByteArray).size = 1 := rfl
  have hkw := kwB_size x
  rw [specOpOk_f a s x v (by omega) k (by omega), Option.bind_some]
  by_cases h : opOkB a s x v = true
  · rw [if_pos h, if_pos h]
    simp only [ByteArray.size_append, e1, e2, e3]
    by_cases h1 : a = 1
    · rw [if_pos h1, if_pos h1, if_pos (by omega), if_pos (by omega), specKw_f, Option.bind_some, if_pos (by omega)]
    · rw [if_neg h1, if_neg h1]
      by_cases h2 : a = 2
      · have hv := opOk_val a s x v h h2
        have hd := decB_size v (by omega) (by omega)
        rw [if_pos h2, if_pos h2, if_pos (by omega), if_pos (by omega), specDec_f v (by omega) (by omega) k (by omega), Option.bind_some, if_pos (by omega)]
      · rw [if_neg h2, if_neg h2]
  · rw [if_neg h, if_neg h]
theorem implShowOp_f (a : Int) (s : ByteArray) (x v : Int) (hs : s.size ≤ 1048576) (k : Nat) (hk : 1048700 < k) : impl_ShowOp.f k a s x v = some (showOpB a s x v) := by
  unfold impl_ShowOp.f showOpB
  have e1 : (⟨#[114, 101, 103, 32]⟩ : ByteArray).size = 4 := rfl
  have e2 : (⟨#[114, 101, 99, 32]⟩ : ByteArray).size = 4 := rfl
  have e3 : (⟨#[32]⟩ : ByteArray).size = 1 := rfl
  have hkw := kwB_size x
  rw [implOpOk_f a s x v (by omega) k (by omega), Option.bind_some]
  by_cases h : opOkB a s x v = true
  · rw [if_pos h, if_pos h]
    simp only [ByteArray.size_append, e1, e2, e3]
    by_cases h1 : a = 1
    · rw [if_pos h1, if_pos h1, if_pos (by omega), if_pos (by omega), implKw_f, Option.bind_some, if_pos (by omega)]
    · rw [if_neg h1, if_neg h1]
      by_cases h2 : a = 2
      · have hv := opOk_val a s x v h h2
        have hd := decB_size v (by omega) (by omega)
        rw [if_pos h2, if_pos h2, if_pos (by omega), if_pos (by omega), implDec_f v (by omega) (by omega), Option.bind_some, if_pos (by omega)]
      · rw [if_neg h2, if_neg h2]
  · rw [if_neg h, if_neg h]
theorem FnExactShowOp : FnExactShowOpOwn := by
  intro a s x v _ hs _ _
  refine ⟨1048800, ?_⟩
  unfold laws_FnExactShowOp.f laws_szOp.f laws_toOp.f
  have hm : maxLen ≤ 9223372036854775807 := by decide
  rw [w64 (by omega) (by omega)]
  by_cases h : (1048576 : Int) - (s.size : Int) < 0
  · rw [if_pos h, Option.bind_some, if_pos (by omega)]
  · rw [if_neg h, Option.bind_some, if_neg h]
    simp only [Option.bind_some]
    rw [specShowOp_f a s x v (by omega) _ (by omega), implShowOp_f a s x v (by omega) _ (by omega)]
    simp

end Go.Proofs.YthhbgembnlpohaaDoor.Pure
