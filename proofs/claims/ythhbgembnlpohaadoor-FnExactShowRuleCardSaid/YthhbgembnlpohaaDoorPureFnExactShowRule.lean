/- For every rule, ShowRule of the program answers what ShowRule of the reference answers (keys above 2^20 bytes are let pass by the law itself). -/
import Derived.Test.YthhbgembnlpohaaDoorQFnExactShowRulex4
namespace Go.Proofs.YthhbgembnlpohaaDoor.Pure
open Go.RowKit Go.Proofs.YthhbgembnlpohaaDoor.QFnExactShowRule Go.Proofs.YthhbgembnlpohaaDoorW.PrintWords Go.Proofs.YthhbgembnlpohaaDoorW.PrintLast Go.Proofs.YthhbgembnlpohaaDoorW.PrintMore
set_option linter.unusedVariables false
set_option linter.unusedSimpArgs false
def FnExactShowRuleOwn : Prop := ∀ (a0_0 : ByteArray) (a0_1 : Int) (a0_2 : Int) (a0_3 : Int), a0_0.size ≤ maxLen → (Lit.int .i64 a0_1).wf = true → (Lit.int .i64 a0_2).wf = true → (Lit.int .i64 a0_3).wf = true → ∃ k, laws_FnExactShowRule.f k a0_0 a0_1 a0_2 a0_3 = some true
theorem w64 {i : Int} (h : -9223372036854775808 ≤ i) (h2 : i ≤ 9223372036854775807) : wrap64 i = i := by
  unfold wrap64
  omega
theorem rd_at (x : List Int) (i : Nat) (h : i < x.length) : rd x (i : Int) = x[i] := by
  unfold rd
  rw [Int.toNat_natCast, List.getD_eq_getElem?_getD, List.getElem?_eq_getElem h]
  rfl
theorem succ_cast (i : Nat) : ((i : Int) + 1) = ((i + 1 : Nat) : Int) := by omega
theorem take_succ_ext {α : Type} (a b : List α) (i : Nat) (ha : i < a.length) (hb : i < b.length) (ht : a.take i = b.take i) (he : a[i] = b[i]) : a.take (i + 1) = b.take (i + 1) := by
  rw [List.take_succ_eq_append_getElem ha, List.take_succ_eq_append_getElem hb, ht, he]
theorem l1In_f (x a b : Int) : spec_l1In.f x a b = some (decide (a ≤ x) && decide (x ≤ b)) := by
  unfold spec_l1In.f
  by_cases h : x ≥ a
  · rw [if_pos h]
    have h2 : a ≤ x := h
    simp [h2]
  · rw [if_neg h]
    have h2 : ¬ a ≤ x := h
    simp [h2]
theorem within_f (x a b : Int) : impl_within.f x a b = some (decide (a ≤ x) && decide (x ≤ b)) := by
  unfold impl_within.f
  by_cases h : a ≤ x <;> simp [h]
def kb (c : Int) : Bool := (decide (97 ≤ c) && decide (c ≤ 122)) || ((decide (65 ≤ c) && decide (c ≤ 90)) || ((decide (48 ≤ c) && decide (c ≤ 57)) || decide (c = 95)))
def keyOkFrom (s : ByteArray) : Nat → Nat → Bool
  | 0, _ => decide (1 ≤ s.size) && decide (s.size ≤ 4)
  | d + 1, i => kb (bt s (i : Int)) && keyOkFrom s d (i + 1)
def keyOkB (s : ByteArray) : Bool := keyOkFrom s s.size 0
theorem l4Byte_f (c : Int) : spec_l4Byte.f c = some (kb c) := by
  unfold spec_l4Byte.f spec_l1In.f kb
  by_cases h1 : c ≥ 97 <;> by_cases h2 : c ≤ 122 <;> by_cases h3 : c ≥ 65 <;> by_cases h4 : c ≤ 90 <;> by_cases h5 : c ≥ 48 <;> by_cases h6 : c ≤ 57 <;> by_cases h7 : c = 95 <;> simp [h1, h2, h3, h4, h5, h6, h7] <;> first | omega | (split <;> simp_all <;> omega)
theorem specKeyOk_l0 (s : ByteArray) (hn : s.size ≤ 9223372036854775806) (d : Nat) : ∀ (k i : Nat), i + d = s.size → d < k → spec_KeyOk.l0 k s (i : Int) = some (keyOkFrom s d i) := by
  induction d with
  | zero =>
    intro k i hd hk
    obtain ⟨k, rfl⟩ : ∃ m, k = m + 1 := ⟨k - 1, by omega⟩
    simp only [spec_KeyOk.l0, keyOkFrom]
    rw [if_neg (by omega)]
    unfold spec_l1In.f
    by_cases h : (s.size : Int) ≥ 1
    · rw [if_pos h]
      have h2 : 1 ≤ s.size := by omega
      simp only [Option.bind_some, h2, decide_true, Bool.true_and]
      congr 1
      rw [decide_eq_decide]
      omega
    · rw [if_neg h]
      have h2 : ¬ 1 ≤ s.size := by omega
      simp only [Option.bind_some, h2, decide_false, Bool.false_and]
  | succ d ih =>
    intro k i hd hk
    obtain ⟨k, rfl⟩ : ∃ m, k = m + 1 := ⟨k - 1, by omega⟩
    have hb := bt_range s (i : Int)
    simp only [spec_KeyOk.l0, keyOkFrom]
    rw [if_pos (by omega), if_pos (by omega), w64 (i := bt s (i : Int)) (by omega) (by omega), w64 (by omega) (by omega), succ_cast, l4Byte_f, Option.bind_some, ih k (i + 1) (by omega) (by omega)]
    cases kb (bt s (i : Int)) <;> simp
theorem implKeyOk_l0 (s : ByteArray) (hn : s.size ≤ 9223372036854775806) (d : Nat) : ∀ (k i : Nat), i + d = s.size → d < k → impl_KeyOk.l0 k s (s.size : Int) (i : Int) = some (keyOkFrom s d i) := by
  induction d with
  | zero =>
    intro k i hd hk
    obtain ⟨k, rfl⟩ : ∃ m, k = m + 1 := ⟨k - 1, by omega⟩
    simp only [impl_KeyOk.l0, keyOkFrom]
    rw [if_neg (by omega)]
    unfold impl_within.f
    by_cases h : 1 ≤ (s.size : Int)
    · rw [if_pos h]
      have h2 : 1 ≤ s.size := by omega
      simp only [Option.bind_some, h2, decide_true, Bool.true_and]
      congr 1
      rw [decide_eq_decide]
      omega
    · rw [if_neg h]
      have h2 : ¬ 1 ≤ s.size := by omega
      simp only [Option.bind_some, h2, decide_false, Bool.false_and]
  | succ d ih =>
    intro k i hd hk
    obtain ⟨k, rfl⟩ : ∃ m, k = m + 1 := ⟨k - 1, by omega⟩
    simp only [impl_KeyOk.l0, keyOkFrom]
    rw [if_pos (by omega), if_pos (by omega), if_pos (by omega), w64 (by omega) (by omega), succ_cast, ih k (i + 1) (by omega) (by omega)]
    generalize bt s (i : Int) = c
    cases h : kb c
    · unfold kb at h
      simp only [Bool.or_eq_false_iff, Bool.and_eq_false_iff, decide_eq_false_iff_not] at h
      rw [Bool.false_and]
      repeat' split
      all_goals first | rfl | omega
    · unfold kb at h
      simp only [Bool.or_eq_true, Bool.and_eq_true, decide_eq_true_eq] at h
      rw [Bool.true_and]
      repeat' split
      all_goals first | rfl | omega
theorem specKeyOk_f (s : ByteArray) (hn : s.size ≤ 9223372036854775806) (k : Nat) (hk : s.size < k) : spec_KeyOk.f k s = some (keyOkB s) := specKeyOk_l0 s hn s.size k 0 (by omega) hk
theorem implKeyOk_f (s : ByteArray) (hn : s.size ≤ 9223372036854775806) (k : Nat) (hk : s.size < k) : impl_KeyOk.f k s = some (keyOkB s) := implKeyOk_l0 s hn s.size k 0 (by omega) hk
def ruleOkB (s : ByteArray) (o l f : Int) : Bool := keyOkB s && ((decide (1 ≤ o) && decide (o ≤ 2)) && ((decide (0 ≤ l) && decide (l ≤ 999999999)) && (decide (1 ≤ f) && decide (f ≤ 9))))
theorem specRuleOk_f (s : ByteArray) (o l f : Int) (hn : s.size ≤ 9223372036854775806) (k : Nat) (hk : s.size < k) : spec_RuleOk.f k s o l f = some (ruleOkB s o l f) := by
  unfold spec_RuleOk.f ruleOkB
  rw [specKeyOk_f s hn k hk, l1In_f, l1In_f, l1In_f]
  simp only [Option.bind_some]
  generalize keyOkB s = a
  generalize (decide (1 ≤ o) && decide (o ≤ 2)) = b
  generalize (decide (0 ≤ l) && decide (l ≤ 999999999)) = c
  cases a <;> cases b <;> cases c <;> simp
theorem implRuleOk_f (s : ByteArray) (o l f : Int) (hn : s.size ≤ 9223372036854775806) (k : Nat) (hk : s.size < k) : impl_RuleOk.f k s o l f = some (ruleOkB s o l f) := by
  unfold impl_RuleOk.f ruleOkB
  rw [implKeyOk_f s hn k hk, within_f, within_f, within_f]
  simp only [Option.bind_some]
  generalize keyOkB s = a
  generalize (decide (1 ≤ o) && decide (o ≤ 2)) = b
  generalize (decide (0 ≤ l) && decide (l ≤ 999999999)) = c
  cases a <;> cases b <;> cases c <;> simp
/-- A whole number in decimal. -/
def decB (n : Int) : ByteArray := ⟨(Lib.itoa n).toArray⟩
theorem decB_size (n : Int) (h0 : -9223372036854775808 ≤ n) (h1 : n ≤ 9223372036854775807) : (decB n).size ≤ 21 := by
  have := Lib.itoa_length_le n h0 h1
  unfold decB
  simpa [ByteArray.size] using this
theorem implDec_f (n : Int) (h0 : -9223372036854775808 ≤ n) (h1 : n ≤ 9223372036854775807) : impl_Dec.f n = some (decB n) := by
  unfold impl_Dec.f strconv_Itoa.f decB
  rw [if_pos ⟨h0, h1⟩]
  rfl
theorem ba_append (a b : List UInt8) : (⟨a.toArray⟩ : ByteArray) ++ ⟨b.toArray⟩ = ⟨(a ++ b).toArray⟩ := by
  apply ByteArray.ext
  simp [ByteArray.data_append]
theorem digit_son (m : Nat) (h : m < 10) : strOfNums [((48 + (m : Int)) % 256)] = ⟨[UInt8.ofNat (48 + m)].toArray⟩ := by
  have e : ((48 + (m : Int)) % 256) = ((48 + m : Nat) : Int) := by omega
  rw [e]
  rfl
theorem specDec_l0 (d : Nat) : ∀ (n k : Nat) (acc : List UInt8), 0 < n → n < 10 ^ d → (n : Int) ≤ 9223372036854775807 → acc.length + d ≤ 100 → d + 1 < k → spec_Dec.l0 k (n : Int) ⟨acc.toArray⟩ false = some ⟨(Lib.decDigits n ++ acc).toArray⟩ := by
  induction d with
  | zero => intro n k acc h0 h1 h2 h3 hk; simp at h1; omega
  | succ d ih =>
    intro n k acc h0 h1 h2 h3 hk
    obtain ⟨k, rfl⟩ : ∃ m, k = m + 1 := ⟨k - 1, by omega⟩
    have t1 : Int.tmod (n : Int) 10 = ((n % 10 : Nat) : Int) := by rw [Int.tmod_eq_emod_of_nonneg (by omega)]; omega
    have t2 : Int.tdiv (n : Int) 10 = ((n / 10 : Nat) : Int) := by rw [Int.tdiv_eq_ediv_of_nonneg (by omega)]; omega
    have hs : (⟨[UInt8.ofNat (48 + n % 10)].toArray⟩ : ByteArray).size = 1 := rfl
    have hs2 : (⟨acc.toArray⟩ : ByteArray).size = acc.length := by simp [ByteArray.size]
    simp only [spec_Dec.l0]
    rw [if_neg (by omega), t1, t2, if_neg (by omega), w64 (i := 48 + _) (by omega) (by omega), Option.bind_some, digit_son _ (by omega), if_pos (by omega), w64 (by omega) (by omega), ba_append]
    by_cases hq : n / 10 = 0
    · obtain ⟨k, rfl⟩ : ∃ m, k = m + 1 := ⟨k - 1, by omega⟩
      rw [hq]
      simp only [spec_Dec.l0]
      rw [if_pos (by omega), if_neg (by simp), Lib.decDigits_one (by omega), Nat.mod_eq_of_lt (by omega)]
    · rw [ih (n / 10) k _ (by omega) (by rw [Nat.pow_succ] at h1; omega) (by omega) (by simp; omega) (by omega)]
      have e : Lib.decDigits n = Lib.decDigits (n / 10) ++ [UInt8.ofNat (48 + n % 10)] := by
        rw [Lib.decDigits, dif_neg (by omega)]
      rw [e, List.append_assoc]
theorem specDec_f (n : Int) (h0 : 0 ≤ n) (h1 : n ≤ 9223372036854775807) (k : Nat) (hk : 30 < k) : spec_Dec.f k n = some (decB n) := by
  obtain ⟨m, rfl⟩ := Int.eq_ofNat_of_zero_le h0
  unfold spec_Dec.f decB
  rw [Lib.itoa_nonneg]
  by_cases hz : (m : Int) = 0
  · rw [if_pos hz]
    have : m = 0 := by omega
    subst this
    rw [Lib.decDigits_one (by omega)]
    rfl
  · rw [if_neg hz]
    have e : decide ((m : Int) < 0) = false := decide_eq_false (by omega)
    have z : (⟨#[]⟩ : ByteArray) = ⟨([] : List UInt8).toArray⟩ := rfl
    rw [e, z, specDec_l0 19 m k [] (by omega) (by omega) h1 (by simp) (by omega), List.append_nil]
theorem showRule_both (s : ByteArray) (o l f : Int) (hs : s.size ≤ 1048576) (k : Nat) (hk : 1048700 < k) : ∃ r, spec_ShowRule.f k s o l f = some r ∧ impl_ShowRule.f k s o l f = some r := by
  unfold spec_ShowRule.f impl_ShowRule.f
  rw [specRuleOk_f s o l f (by omega) k (by omega), implRuleOk_f s o l f (by omega) k (by omega)]
  simp only [Option.bind_some]
  by_cases h : ruleOkB s o l f = true
  · rw [if_pos h, if_pos h]
    unfold ruleOkB at h
    simp only [Bool.and_eq_true, decide_eq_true_eq] at h
    obtain ⟨_, ⟨o1, o2⟩, ⟨l1, l2⟩, f1, f2⟩ := h
    have dl := decB_size l (by omega) (by omega)
    have df := decB_size f (by omega) (by omega)
    rw [specDec_f l (by omega) (by omega) k (by omega), specDec_f f (by omega) (by omega) k (by omega), implDec_f l (by omega) (by omega), implDec_f f (by omega) (by omega)]
    simp only [Option.bind_some]
    have e60 : (⟨#[60]⟩ : ByteArray).size = 1 := rfl
    have e62 : (⟨#[62]⟩ : ByteArray).size = 1 := rfl
    have e5 : (⟨#[32, 102, 111, 114, 32]⟩ : ByteArray).size = 5 := rfl
    have : o = 1 ∨ o = 2 := by omega
    rcases this with rfl | rfl
    · have er : rdOf ByteArray.empty ([(⟨#[]⟩ : ByteArray), (⟨#[62]⟩ : ByteArray), (⟨#[60]⟩ : ByteArray)] : List ByteArray) 1 = ⟨#[62]⟩ := rfl
      rw [er]
      simp only [ByteArray.size_append, e60, e62, e5, List.length_cons, List.length_nil]
      refine ⟨(((s ++ (⟨#[62]⟩ : ByteArray)) ++ decB l) ++ (⟨#[32, 102, 111, 114, 32]⟩ : ByteArray)) ++ decB f, ?_, ?_⟩ <;> repeat (first | rw [if_pos trivial] | rw [if_pos (by omega)] | rw [if_neg (by omega)])
    · have er : rdOf ByteArray.empty ([(⟨#[]⟩ : ByteArray), (⟨#[62]⟩ : ByteArray), (⟨#[60]⟩ : ByteArray)] : List ByteArray) 2 = ⟨#[60]⟩ := rfl
      rw [er]
      simp only [ByteArray.size_append, e60, e62, e5, List.length_cons, List.length_nil]
      refine ⟨(((s ++ (⟨#[60]⟩ : ByteArray)) ++ decB l) ++ (⟨#[32, 102, 111, 114, 32]⟩ : ByteArray)) ++ decB f, ?_, ?_⟩ <;> repeat (first | rw [if_pos trivial] | rw [if_pos (by omega)] | rw [if_neg (by omega)])
  · rw [if_neg h, if_neg h]
    exact ⟨_, rfl, rfl⟩
theorem FnExactShowRule : FnExactShowRuleOwn := by
  intro s o l f hs _ _ _
  refine ⟨1048800, ?_⟩
  unfold laws_FnExactShowRule.f laws_szRule.f laws_toRule.f
  have hm : maxLen ≤ 9223372036854775807 := by decide
  rw [w64 (by omega) (by omega)]
  by_cases h : (1048576 : Int) - (s.size : Int) < 0
  · rw [if_pos h, Option.bind_some, if_pos (by omega)]
  · rw [if_neg h, Option.bind_some, if_neg h]
    simp only [Option.bind_some]
    obtain ⟨r, h1, h2⟩ := showRule_both s o l f (by omega) 1048800 (by omega)
    rw [h1, h2]
    simp

end Go.Proofs.YthhbgembnlpohaaDoor.Pure
