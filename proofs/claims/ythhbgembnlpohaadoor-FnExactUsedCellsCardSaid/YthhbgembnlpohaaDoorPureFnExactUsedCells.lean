/- For every list of cells, UsedCells of the program answers what UsedCells of the reference answers, in memory of its own (lists above 2^20 elements are let pass by the law itself). -/
import Derived.Test.YthhbgembnlpohaaDoorQFnExactUsedCellsx4
namespace Go.Proofs.YthhbgembnlpohaaDoor.Pure
open Go.RowKit Go.Proofs.YthhbgembnlpohaaDoor.QFnExactUsedCells Go.Proofs.YthhbgembnlpohaaDoorW.PrintWords Go.Proofs.YthhbgembnlpohaaDoorW.PrintLast Go.Proofs.YthhbgembnlpohaaDoorW.PrintMore
set_option linter.unusedVariables false
set_option linter.unusedSimpArgs false
def FnExactUsedCellsOwn : Prop := ∀ (l0 : (List Int)), (l0.length ≤ maxLen ∧ ∀ y_l0 ∈ l0, (Lit.int .i64 y_l0).wf = true) → ∃ k, laws_FnExactUsedCells.f k l0 = some true
theorem w64 {i : Int} (h : -9223372036854775808 ≤ i) (h2 : i ≤ 9223372036854775807) : wrap64 i = i := by
  unfold wrap64
  omega
theorem rd_at (x : List Int) (i : Nat) (h : i < x.length) : rd x (i : Int) = x[i] := by
  unfold rd
  rw [Int.toNat_natCast, List.getD_eq_getElem?_getD, List.getElem?_eq_getElem h]
  rfl
theorem succ_cast (i : Nat) : ((i : Int) + 1) = ((i + 1 : Nat) : Int) := by omega
theorem take_succ_ext {α : Type} (a b : List α) (i : Nat) (ha : i < a.length) (hb : i < b.length) (ht : a.take i = b.take i) (he : a[i] = b[i]) : a.take (i + 1) = b.take (i + 1) := by
  rw [List.take_succ_eq_append_getElem ha, List.take_succ_eq_append_getElem hb, ht, he]
theorem l1In_f (x a b : Int) : spec_l1In.f x a b = some (decide (a ≤ x) && decide (x ≤ b)) := by
  unfold spec_l1In.f
  by_cases h : x ≥ a
  · rw [if_pos h]
    have h2 : a ≤ x := h
    simp [h2]
  · rw [if_neg h]
    have h2 : ¬ a ≤ x := h
    simp [h2]
theorem within_f (x a b : Int) : impl_within.f x a b = some (decide (a ≤ x) && decide (x ≤ b)) := by
  unfold impl_within.f
  by_cases h : a ≤ x <;> simp [h]
theorem toIntS_l0 (l : List Int) (hn : l.length ≤ 35184372088832) (d : Nat) : ∀ (k : Nat) (out : List Int) (i : Nat), i + d = l.length → d < k → out.length = l.length → out.take i = l.take i → laws_toIntS.l0 k l out (i : Int) = some l := by
  induction d with
  | zero =>
    intro k out i hd hk ho ht
    obtain ⟨k, rfl⟩ : ∃ m, k = m + 1 := ⟨k - 1, by omega⟩
    simp only [laws_toIntS.l0]
    rw [if_neg (by omega)]
    have h1 : out.take i = out := List.take_of_length_le (by omega)
    have h2 : l.take i = l := List.take_of_length_le (by omega)
    rw [← h1, ht, h2]
  | succ d ih =>
    intro k out i hd hk ho ht
    obtain ⟨k, rfl⟩ : ∃ m, k = m + 1 := ⟨k - 1, by omega⟩
    simp only [laws_toIntS.l0]
    rw [if_pos (by omega), if_pos (by omega), if_pos (by omega), w64 (by omega) (by omega), succ_cast, rd_at l i (by omega), Int.toNat_natCast]
    refine ih k _ (i + 1) (by omega) (by omega) (by rw [List.length_set]; exact ho) ?_
    refine take_succ_ext _ _ i (by rw [List.length_set]; omega) (by omega) ?_ (by simp)
    rw [List.take_set_of_le (Nat.le_refl _)]
    exact ht
theorem toIntS_f (l : List Int) (hn : l.length ≤ 35184372088832) (k : Nat) (hk : l.length < k) : laws_toIntS.f k l = some l := by
  unfold laws_toIntS.f
  rw [if_pos (by omega), if_pos (by omega)]
  exact toIntS_l0 l hn l.length k _ 0 (by omega) hk (by simp) (by simp)
theorem eqIntS_l0 (a b : List Int) (hn : a.length ≤ 140737488355328) (hab : a.length = b.length) (d : Nat) : ∀ (k i : Nat), i + d = a.length → d < k → laws_eqIntS.l0 k a b (i : Int) = some (decide (a.drop i = b.drop i)) := by
  induction d with
  | zero =>
    intro k i hd hk
    obtain ⟨k, rfl⟩ : ∃ m, k = m + 1 := ⟨k - 1, by omega⟩
    simp only [laws_eqIntS.l0]
    rw [if_neg (by omega), List.drop_of_length_le (by omega), List.drop_of_length_le (by omega)]
    rfl
  | succ d ih =>
    intro k i hd hk
    obtain ⟨k, rfl⟩ : ∃ m, k = m + 1 := ⟨k - 1, by omega⟩
    simp only [laws_eqIntS.l0]
    rw [if_pos (by omega), if_pos (by omega), if_pos (by omega), rd_at a i (by omega), rd_at b i (by omega), w64 (by omega) (by omega), succ_cast]
    have ea : a.drop i = a[i] :: a.drop (i + 1) := List.drop_eq_getElem_cons (by omega)
    have eb : b.drop i = b[i] :: b.drop (i + 1) := List.drop_eq_getElem_cons (by omega)
    by_cases h : a[i] = b[i]
    · rw [if_pos h, ih k (i + 1) (by omega) (by omega), ea, eb]
      simp only [h, List.cons.injEq, true_and]
    · rw [if_neg h, ea, eb]
      simp only [h, List.cons.injEq, false_and, decide_false]
theorem eqIntS_f (a b : List Int) (hn : a.length ≤ 140737488355328) (k : Nat) (hk : a.length < k) : laws_eqIntS.f k a b = some (decide (a = b)) := by
  unfold laws_eqIntS.f
  by_cases h : a.length = b.length
  · rw [if_pos (by omega)]
    have := eqIntS_l0 a b hn h a.length k 0 (by omega) hk
    simpa using this
  · rw [if_neg (by omega)]
    have : a ≠ b := fun e => h (by rw [e])
    simp [this]
theorem markIntS_l0 (d : Nat) : ∀ (k : Nat) (x : List Int) (m : Int) (i : Nat), i + d = x.length → x.length ≤ 140737488355328 → 0 ≤ m → m + d ≤ 4611686018427387904 → d < k →
    ∃ y, laws_markIntS.l0 k x m (i : Int) = some (m + d, y) ∧ y.length = x.length ∧ (∀ j, j < i → y[j]? = x[j]?) ∧ (∀ j, i ≤ j → j < x.length → y[j]? = some (m + (j - i))) := by
  induction d with
  | zero =>
    intro k x m i hd hn hm hm2 hk
    obtain ⟨k, rfl⟩ : ∃ m, k = m + 1 := ⟨k - 1, by omega⟩
    refine ⟨x, ?_, rfl, fun _ _ => rfl, fun j h1 h2 => by omega⟩
    simp only [laws_markIntS.l0]
    rw [if_neg (by omega)]
    simp
  | succ d ih =>
    intro k x m i hd hn hm hm2 hk
    obtain ⟨k, rfl⟩ : ∃ m, k = m + 1 := ⟨k - 1, by omega⟩
    obtain ⟨y, h1, h2, h3, h4⟩ := ih k (x.set i m) (m + 1) (i + 1) (by rw [List.length_set]; omega) (by rw [List.length_set]; omega) (by omega) (by omega) (by omega)
    rw [List.length_set] at h2 h4
    refine ⟨y, ?_, h2, fun j hj => ?_, fun j hj hj2 => ?_⟩
    · simp only [laws_markIntS.l0]
      rw [if_pos (by omega), if_pos (by omega), w64 (by omega) (by omega), w64 (by omega) (by omega), succ_cast, Int.toNat_natCast, h1]
      have : m + 1 + (d : Int) = m + ((d + 1 : Nat) : Int) := by omega
      rw [this]
    · rw [h3 j (by omega), List.getElem?_set_ne (by omega)]
    · by_cases e : j = i
      · subst e
        rw [h3 j (by omega), List.getElem?_set_self (by omega)]
        congr 1; omega
      · rw [h4 j (by omega) (by omega)]
        congr 1; omega
def markedI (m : Int) (n : Nat) : List Int := (List.range n).map fun j : Nat => m + (j : Int)
theorem markIntS_f (x : List Int) (hn : x.length ≤ 140737488355328) (m : Int) (hm : 0 ≤ m) (hm2 : m ≤ 140737488355328) (k : Nat) (hk : x.length < k) : laws_markIntS.f k x m = some (m + x.length, markedI m x.length) := by
  obtain ⟨y, h1, h2, h3, h4⟩ := markIntS_l0 x.length k x m 0 (by omega) hn hm (by omega) hk
  have : y = markedI m x.length := by
    refine List.ext_getElem? (fun j => ?_)
    by_cases hj : j < x.length
    · rw [h4 j (by omega) hj]
      simp [markedI, hj]
    · rw [List.getElem?_eq_none (by omega), List.getElem?_eq_none (by simp [markedI]; omega)]
  rw [← this]
  exact h1
def isWordB (n : Int) : Bool := decide (0 ≤ n) && decide (n ≤ 281474976710655)
def cellsOkB (l : List Int) : Bool := l.all isWordB && decide (l.length = 71)
theorem specCO_l0 (x : List Int) (hn : x.length ≤ 140737488355328) (d : Nat) : ∀ (k i : Nat), i + d = x.length → d < k → spec_CellsOk.l0 k x (i : Int) = some ((x.drop i).all isWordB && decide (x.length = 71)) := by
  induction d with
  | zero =>
    intro k i hd hk
    obtain ⟨k, rfl⟩ : ∃ m, k = m + 1 := ⟨k - 1, by omega⟩
    simp only [spec_CellsOk.l0]
    rw [if_neg (by omega), List.drop_of_length_le (by omega)]
    have : ((x.length : Int) == 71) = decide (x.length = 71) := by
      by_cases h : x.length = 71
      · simp [h]
      · have h2 : ¬ (x.length : Int) = 71 := by omega
        simp [h, h2]
    rw [this]
    simp
  | succ d ih =>
    intro k i hd hk
    obtain ⟨k, rfl⟩ : ∃ m, k = m + 1 := ⟨k - 1, by omega⟩
    simp only [spec_CellsOk.l0]
    rw [if_pos (by omega), if_pos (by omega), rd_at x i (by omega), l1In_f, Option.bind_some, w64 (by omega) (by omega), succ_cast, ih k (i + 1) (by omega) (by omega), List.drop_eq_getElem_cons (show i < x.length by omega)]
    have : (decide (0 ≤ x[i]) && decide (x[i] ≤ 281474976710655)) = isWordB x[i] := rfl
    rw [this, List.all_cons]
    cases isWordB x[i] <;> simp
theorem specCO_f (x : List Int) (hn : x.length ≤ 140737488355328) (k : Nat) (hk : x.length < k) : spec_CellsOk.f k x = some (cellsOkB x) := by
  have := specCO_l0 x hn x.length k 0 (by omega) hk
  unfold spec_CellsOk.f cellsOkB
  simpa using this
theorem cellsOk_len {l : List Int} (h : cellsOkB l = true) : l.length = 71 := by
  unfold cellsOkB at h
  simp only [Bool.and_eq_true, decide_eq_true_eq] at h
  exact h.2
theorem implCO_f (l : List Int) : impl_CellsOk.f l = some (cellsOkB l) := by
  unfold impl_CellsOk.f cellsOkB
  have : (!l.any impl_CellsOk.g) = l.all isWordB := by
    rw [List.not_any_eq_all_not]
    congr 1
    funext x
    simp [impl_CellsOk.g, isWordB]
  rw [this, Bool.and_comm]
/-- A whole number in decimal. -/
def decB (n : Int) : ByteArray := ⟨(Lib.itoa n).toArray⟩
theorem decB_size (n : Int) (h0 : -9223372036854775808 ≤ n) (h1 : n ≤ 9223372036854775807) : (decB n).size ≤ 21 := by
  have := Lib.itoa_length_le n h0 h1
  unfold decB
  simpa [ByteArray.size] using this
theorem implDec_f (n : Int) (h0 : -9223372036854775808 ≤ n) (h1 : n ≤ 9223372036854775807) : impl_Dec.f n = some (decB n) := by
  unfold impl_Dec.f strconv_Itoa.f decB
  rw [if_pos ⟨h0, h1⟩]
  rfl
theorem ba_append (a b : List UInt8) : (⟨a.toArray⟩ : ByteArray) ++ ⟨b.toArray⟩ = ⟨(a ++ b).toArray⟩ := by
  apply ByteArray.ext
  simp [ByteArray.data_append]
theorem digit_son (m : Nat) (h : m < 10) : strOfNums [((48 + (m : Int)) % 256)] = ⟨[UInt8.ofNat (48 + m)].toArray⟩ := by
  have e : ((48 + (m : Int)) % 256) = ((48 + m : Nat) : Int) := by omega
  rw [e]
  rfl
theorem specDec_l0 (d : Nat) : ∀ (n k : Nat) (acc : List UInt8), 0 < n → n < 10 ^ d → (n : Int) ≤ 9223372036854775807 → acc.length + d ≤ 100 → d + 1 < k → spec_Dec.l0 k (n : Int) ⟨acc.toArray⟩ false = some ⟨(Lib.decDigits n ++ acc).toArray⟩ := by
  induction d with
  | zero => intro n k acc h0 h1 h2 h3 hk; simp at h1; omega
  | succ d ih =>
    intro n k acc h0 h1 h2 h3 hk
    obtain ⟨k, rfl⟩ : ∃ m, k = m + 1 := ⟨k - 1, by omega⟩
    have t1 : Int.tmod (n : Int) 10 = ((n % 10 : Nat) : Int) := by rw [Int.tmod_eq_emod_of_nonneg (by omega)]; omega
    have t2 : Int.tdiv (n : Int) 10 = ((n / 10 : Nat) : Int) := by rw [Int.tdiv_eq_ediv_of_nonneg (by omega)]; omega
    have hs : (⟨[UInt8.ofNat (48 + n % 10)].toArray⟩ : ByteArray).size = 1 := rfl
    have hs2 : (⟨acc.toArray⟩ : ByteArray).size = acc.length := by simp [ByteArray.size]
    simp only [spec_Dec.l0]
    rw [if_neg (by omega), t1, t2, if_neg (by omega), w64 (i := 48 + _) (by omega) (by omega), Option.bind_some, digit_son _ (by omega), if_pos (by omega), w64 (by omega) (by omega), ba_append]
    by_cases hq : n / 10 = 0
    · obtain ⟨k, rfl⟩ : ∃ m, k = m + 1 := ⟨k - 1, by omega⟩
      rw [hq]
      simp only [spec_Dec.l0]
      rw [if_pos (by omega), if_neg (by simp), Lib.decDigits_one (by omega), Nat.mod_eq_of_lt (by omega)]
    · rw [ih (n / 10) k _ (by omega) (by rw [Nat.pow_succ] at h1; omega) (by omega) (by simp; omega) (by omega)]
      have e : Lib.decDigits n = Lib.decDigits (n / 10) ++ [UInt8.ofNat (48 + n % 10)] := by
        rw [Lib.decDigits, dif_neg (by omega)]
      rw [e, List.append_assoc]
theorem specDec_f (n : Int) (h0 : 0 ≤ n) (h1 : n ≤ 9223372036854775807) (k : Nat) (hk : 30 < k) : spec_Dec.f k n = some (decB n) := by
  obtain ⟨m, rfl⟩ := Int.eq_ofNat_of_zero_le h0
  unfold spec_Dec.f decB
  rw [Lib.itoa_nonneg]
  by_cases hz : (m : Int) = 0
  · rw [if_pos hz]
    have : m = 0 := by omega
    subst this
    rw [Lib.decDigits_one (by omega)]
    rfl
  · rw [if_neg hz]
    have e : decide ((m : Int) < 0) = false := decide_eq_false (by omega)
    have z : (⟨#[]⟩ : ByteArray) = ⟨([] : List UInt8).toArray⟩ := rfl
    rw [e, z, specDec_l0 19 m k [] (by omega) (by omega) h1 (by simp) (by omega), List.append_nil]
theorem specDecNeg_l0 (d : Nat) : ∀ (n k : Nat) (acc : List UInt8), 0 < n → n < 10 ^ d → (n : Int) ≤ 9223372036854775808 → acc.length + d ≤ 100 → d + 1 < k → spec_Dec.l0 k (-(n : Int)) ⟨acc.toArray⟩ true = some ⟨(45 :: (Lib.decDigits n ++ acc)).toArray⟩ := by
  induction d with
  | zero => intro n k acc h0 h1 h2 h3 hk; simp at h1; omega
  | succ d ih =>
    intro n k acc h0 h1 h2 h3 hk
    obtain ⟨k, rfl⟩ : ∃ m, k = m + 1 := ⟨k - 1, by omega⟩
    have t1 : Int.tmod (-(n : Int)) 10 = -((n % 10 : Nat) : Int) := by rw [Int.neg_tmod, Int.tmod_eq_emod_of_nonneg (by omega)]; omega
    have t2 : Int.tdiv (-(n : Int)) 10 = -((n / 10 : Nat) : Int) := by rw [Int.neg_tdiv, Int.tdiv_eq_ediv_of_nonneg (by omega)]; omega
    have hs : (⟨[UInt8.ofNat (48 + n % 10)].toArray⟩ : ByteArray).size = 1 := rfl
    have hs2 : (⟨acc.toArray⟩ : ByteArray).size = acc.length := by simp [ByteArray.size]
    have rest : (if (strOfNums [((48 + ((n % 10 : Nat) : Int)) % 256)]).size + (⟨acc.toArray⟩ : ByteArray).size ≤ 9223372036854775807 then (spec_Dec.l0 k (wrap64 (-((n / 10 : Nat) : Int))) ((strOfNums [((48 + ((n % 10 : Nat) : Int)) % 256)]) ++ ⟨acc.toArray⟩) true) else (none)) = some ⟨(45 :: (Lib.decDigits n ++ acc)).toArray⟩ := by
      rw [digit_son _ (by omega), if_pos (by omega), w64 (by omega) (by omega), ba_append]
      by_cases hq : n / 10 = 0
      · obtain ⟨k, rfl⟩ : ∃ m, k = m + 1 := ⟨k - 1, by omega⟩
        rw [hq]
        simp only [spec_Dec.l0]
        have e1 : (⟨([UInt8.ofNat (48 + n % 10)] ++ acc).toArray⟩ : ByteArray).size = acc.length + 1 := by simp [ByteArray.size]
        have z : (⟨#[45]⟩ : ByteArray) = ⟨([45] : List UInt8).toArray⟩ := rfl
        rw [if_pos (by omega), if_pos trivial, if_pos (by omega), z, ba_append, Lib.decDigits_one (by omega), Nat.mod_eq_of_lt (by omega)]
        rfl
      · rw [ih (n / 10) k _ (by omega) (by rw [Nat.pow_succ] at h1; omega) (by omega) (by simp; omega) (by omega)]
        have e : Lib.decDigits n = Lib.decDigits (n / 10) ++ [UInt8.ofNat (48 + n % 10)] := by
          rw [Lib.decDigits, dif_neg (by omega)]
        rw [e, List.append_assoc]
    simp only [spec_Dec.l0]
    rw [if_neg (by omega), t1, t2]
    by_cases hn : -((n % 10 : Nat) : Int) < 0
    · rw [if_pos hn, Int.neg_neg, w64 (i := ((n % 10 : Nat) : Int)) (by omega) (by omega), w64 (i := 48 + _) (by omega) (by omega), Option.bind_some]
      exact rest
    · have e0 : n % 10 = 0 := by omega
      have e1 : (48 + -((n % 10 : Nat) : Int)) = 48 + ((n % 10 : Nat) : Int) := by omega
      rw [if_neg hn, e1, w64 (i := 48 + _) (by omega) (by omega), Option.bind_some]
      exact rest
theorem specDecAny_f (n : Int) (h0 : -9223372036854775808 ≤ n) (h1 : n ≤ 9223372036854775807) (k : Nat) (hk : 30 < k) : spec_Dec.f k n = some (decB n) := by
  by_cases h : 0 ≤ n
  · exact specDec_f n h h1 k hk
  · obtain ⟨m, rfl⟩ : ∃ m : Nat, n = -(m : Int) := ⟨n.natAbs, by omega⟩
    unfold spec_Dec.f decB
    have e : decide (-(m : Int) < 0) = true := decide_eq_true (by omega)
    have z : (⟨#[]⟩ : ByteArray) = ⟨([] : List UInt8).toArray⟩ := rfl
    rw [if_neg (by omega), e, z, specDecNeg_l0 20 m k [] (by omega) (by omega) (by omega) (by simp) (by omega), List.append_nil, Lib.itoa_neg m (by omega)]
theorem decS_decB (n : Int) : decS n = decB n := rfl
theorem nameB_size (i : Int) (h0 : 0 ≤ i) (h1 : i ≤ 70) : (impl_CellName.b i).size ≤ 200 := by
  have hp : (impl_CellName.place i).size ≤ 60 := by
    unfold impl_CellName.place
    have s1 := decB_size ((i - 7) / 32) (by omega) (by omega)
    have s2 := decB_size ((i - 7) % 32 / 8) (by omega) (by omega)
    simp only [ByteArray.size_append, decS_decB]
    have : (⟨#[32]⟩ : ByteArray).size = 1 := rfl
    omega
  have s1 := decB_size (i - 1) (by omega) (by omega)
  have s2 := decB_size (i - 3) (by omega) (by omega)
  have s3 := decB_size ((i - 7) % 8) (by omega) (by omega)
  have s4 := decB_size ((i - 7) % 8 - 2 - 3) (by omega) (by omega)
  unfold impl_CellName.b
  simp only [decS_decB]
  repeat' split
  all_goals try simp only [ByteArray.size_append]
  all_goals first
    | (show _ ≤ 200; have : (⟨#[32]⟩ : ByteArray).size = 1 := rfl; have : (⟨#[105, 110, 32]⟩ : ByteArray).size = 3 := rfl; have : (⟨#[107, 101, 121, 32]⟩ : ByteArray).size = 4 := rfl; have : (⟨#[115, 116, 114, 105, 112, 101]⟩ : ByteArray).size = 6 := rfl; have : (⟨#[115, 116, 97, 109, 112]⟩ : ByteArray).size = 5 := rfl; have : (⟨#[103, 97, 117, 103, 101]⟩ : ByteArray).size = 5 := rfl; have : (⟨#[116, 105, 99, 107, 101, 116]⟩ : ByteArray).size = 6 := rfl; have : (⟨#[114, 105, 110, 103]⟩ : ByteArray).size = 4 := rfl; omega)
    | decide
theorem specName_f (i : Int) (h0 : 0 ≤ i) (h1 : i ≤ 70) (k : Nat) (hk : 30 < k) : spec_CellName.f k i = some (impl_CellName.b i) := by
  have q1 : (⟨#[32]⟩ : ByteArray).size = 1 := rfl
  have q2 : (⟨#[115, 116, 114, 105, 112, 101]⟩ : ByteArray).size = 6 := rfl
  have q3 : (⟨#[114, 105, 110, 103]⟩ : ByteArray).size = 4 := rfl
  have D : ∀ n : Int, -1000 ≤ n → n ≤ 1000 → spec_Dec.f k n = some (decB n) ∧ (decB n).size ≤ 21 := fun n a b => ⟨specDecAny_f n (by omega) (by omega) k hk, decB_size n (by omega) (by omega)⟩
  unfold spec_CellName.f impl_CellName.b
  rw [show spec_l1In.f i 0 70 = some true from by unfold spec_l1In.f; rw [if_pos h0]; exact congrArg some (decide_eq_true h1)]
  rw [Option.bind_some, if_pos rfl]
  by_cases c0 : i = 0
  · rw [if_pos c0, if_pos c0]
  · rw [if_neg c0, if_neg c0]
    by_cases c1 : i < 3
    · obtain ⟨d1, d2⟩ := D (i - 1) (by omega) (by omega)
      rw [if_pos c1, if_pos (show 1 ≤ i ∧ i ≤ 2 by omega), w64 (by omega) (by omega), d1, Option.bind_some, if_pos (by omega)]
      rfl
    · rw [if_neg c1, if_neg (show ¬ (1 ≤ i ∧ i ≤ 2) by omega)]
      by_cases c2 : i < 7
      · obtain ⟨d1, d2⟩ := D (i - 3) (by omega) (by omega)
        rw [if_pos c2, if_pos (show 3 ≤ i ∧ i ≤ 6 by omega), w64 (by omega) (by omega), d1, Option.bind_some, if_pos (by omega)]
        rfl
      · rw [if_neg c2, if_neg (show ¬ (3 ≤ i ∧ i ≤ 6) by omega), if_pos (show 7 ≤ i ∧ i ≤ 70 by omega)]
        obtain ⟨d1, e1⟩ := D ((i - 7) / 32) (by omega) (by omega)
        obtain ⟨d2, e2⟩ := D ((i - 7) % 32 / 8) (by omega) (by omega)
        rw [show wrap64 (i - 7) = i - 7 from w64 (by omega) (by omega)]
        rw [show Int.tdiv (i - 7) 32 = (i - 7) / 32 from Int.tdiv_eq_ediv_of_nonneg (by omega), show Int.tmod (i - 7) 32 = (i - 7) % 32 from Int.tmod_eq_emod_of_nonneg (by omega), show Int.tmod (i - 7) 8 = (i - 7) % 8 from Int.tmod_eq_emod_of_nonneg (by omega)]
        rw [show Int.tdiv ((i - 7) % 32) 8 = (i - 7) % 32 / 8 from Int.tdiv_eq_ediv_of_nonneg (by omega), w64 (i := (i - 7) / 32) (by omega) (by omega), w64 (i := (i - 7) % 32 / 8) (by omega) (by omega)]
        rw [d1, Option.bind_some, if_pos (by omega), if_pos (by rw [ByteArray.size_append]; omega), d2, Option.bind_some, if_pos (by simp only [ByteArray.size_append]; omega)]
        have hp : impl_CellName.place i = (((⟨#[32]⟩ : ByteArray) ++ decB ((i - 7) / 32)) ++ (⟨#[32]⟩ : ByteArray)) ++ decB ((i - 7) % 32 / 8) := rfl
        rw [← hp]
        have hs : (impl_CellName.place i).size ≤ 60 := by
          rw [hp]
          simp only [ByteArray.size_append]
          omega
        generalize impl_CellName.place i = P at *
        by_cases c3 : (i - 7) % 8 < 2
        · obtain ⟨d3, e3⟩ := D ((i - 7) % 8) (by omega) (by omega)
          rw [if_pos c3, if_pos c3, if_pos (by omega), if_pos (by simp only [ByteArray.size_append]; omega), d3, Option.bind_some, if_pos (by simp only [ByteArray.size_append]; omega)]
          rfl
        · rw [if_neg c3, if_neg c3]
          by_cases c4 : (i - 7) % 8 = 2
          · rw [if_pos c4, if_pos c4, if_pos (by omega)]
          · rw [if_neg c4, if_neg c4]
            by_cases c5 : (i - 7) % 8 = 3
            · rw [if_pos c5, if_pos c5, if_pos (by omega)]
            · rw [if_neg c5, if_neg c5]
              by_cases c6 : (i - 7) % 8 = 4
              · rw [if_pos c6, if_pos c6, if_pos (by omega)]
              · obtain ⟨d3, e3⟩ := D ((i - 7) % 8 - 5) (by omega) (by omega)
                rw [if_neg c6, if_neg c6, if_pos (by omega), if_pos (by simp only [ByteArray.size_append]; omega), w64 (i := (i - 7) % 8 - 5) (by omega) (by omega), d3, Option.bind_some, if_pos (by simp only [ByteArray.size_append]; omega)]
                rw [show (i - 7) % 8 - 2 - 3 = (i - 7) % 8 - 5 from by omega]
                rfl
theorem sonSize (c : Int) : (strOfNums [c]).size = 1 := rfl
theorem markText_l0 (d : Nat) : ∀ (k n : Nat) (acc : ByteArray), n < 10 ^ d → n ≤ 9223372036854775807 → acc.size + d ≤ 1000 → d < k → ∃ b, laws_markText.l0 k (n : Int) acc = some b := by
  induction d with
  | zero =>
    intro k n acc hn hb ha hk
    obtain ⟨k, rfl⟩ : ∃ m, k = m + 1 := ⟨k - 1, by omega⟩
    have : n = 0 := by simpa using hn
    subst this
    simp only [laws_markText.l0]
    rw [if_neg (by omega), if_pos (by omega)]
    exact ⟨_, rfl⟩
  | succ d ih =>
    intro k n acc hn hb ha hk
    obtain ⟨k, rfl⟩ : ∃ m, k = m + 1 := ⟨k - 1, by omega⟩
    simp only [laws_markText.l0]
    by_cases h0 : (n : Int) > 0
    · rw [if_pos h0]
      simp only [Option.bind_some]
      rw [if_pos (by rw [sonSize]; omega)]
      have hd : n / 10 < 10 ^ d := by
        rw [Nat.div_lt_iff_lt_mul (by omega)]
        rw [Nat.pow_succ] at hn
        exact hn
      obtain ⟨b, hb⟩ := ih k (n / 10) (strOfNums [(wrap64 (48 + (Int.tmod (n : Int) 10))) % 256] ++ acc) hd (by omega) (by rw [ByteArray.size_append, sonSize]; omega) (by omega)
      refine ⟨b, ?_⟩
      rw [Int.tdiv_eq_ediv_of_nonneg (by omega), w64 (by omega) (by omega)]
      exact hb
    · rw [if_neg h0, if_pos (by omega)]
      exact ⟨_, rfl⟩
def mtB (m : Int) : ByteArray := (laws_markText.f 100 m).getD ByteArray.empty
theorem markText_f (m : Int) (h0 : 0 ≤ m) (h1 : m ≤ 9223372036854775807) (k : Nat) (hk : 100 ≤ k) : laws_markText.f k m = some (mtB m) := by
  have : ∃ b, laws_markText.f 100 m = some b := by
    unfold laws_markText.f
    by_cases h : m ≤ 0
    · rw [if_pos h]
      exact ⟨_, rfl⟩
    · rw [if_neg h]
      obtain ⟨n, rfl⟩ := Int.eq_ofNat_of_zero_le h0
      have hn : n < 10 ^ 19 := Nat.lt_of_le_of_lt (show n ≤ 9223372036854775807 by omega) (by decide)
      exact markText_l0 19 100 n _ hn (by omega) (by decide) (by omega)
  obtain ⟨b, hb⟩ := this
  have e : mtB m = b := by
    unfold mtB
    rw [hb]
    rfl
  rw [e]
  exact at_rounds (g := fun k => laws_markText.f k m) (fun k => laws_markText.mono m k) hk hb
theorem markStringS_l0 (d : Nat) : ∀ (k : Nat) (x : List ByteArray) (m : Int) (i : Nat), i + d = x.length → x.length ≤ 140737488355328 → 0 ≤ m → m + d ≤ 4611686018427387904 → d + 101 < k →
    ∃ y, laws_markStringS.l0 k x m (i : Int) = some (m + d, y) ∧ y.length = x.length ∧ (∀ j, j < i → y[j]? = x[j]?) ∧ (∀ j, i ≤ j → j < x.length → y[j]? = some (mtB (m + (j - i)))) := by
  induction d with
  | zero =>
    intro k x m i hd hn hm hm2 hk
    obtain ⟨k, rfl⟩ : ∃ m, k = m + 1 := ⟨k - 1, by omega⟩
    refine ⟨x, ?_, rfl, fun _ _ => rfl, fun j h1 h2 => by omega⟩
    simp only [laws_markStringS.l0]
    rw [if_neg (by omega)]
    simp
  | succ d ih =>
    intro k x m i hd hn hm hm2 hk
    obtain ⟨k, rfl⟩ : ∃ m, k = m + 1 := ⟨k - 1, by omega⟩
    obtain ⟨y, h1, h2, h3, h4⟩ := ih k (x.set i (mtB m)) (m + 1) (i + 1) (by rw [List.length_set]; omega) (by rw [List.length_set]; omega) (by omega) (by omega) (by omega)
    rw [List.length_set] at h2 h4
    refine ⟨y, ?_, h2, fun j hj => ?_, fun j hj hj2 => ?_⟩
    · simp only [laws_markStringS.l0]
      rw [if_pos (by omega), markText_f m hm (by omega) k (by omega), Option.bind_some, if_pos (by omega), w64 (by omega) (by omega), w64 (by omega) (by omega), succ_cast, Int.toNat_natCast, h1]
      have : m + 1 + (d : Int) = m + ((d + 1 : Nat) : Int) := by omega
      rw [this]
    · rw [h3 j (by omega), List.getElem?_set_ne (by omega)]
    · by_cases e : j = i
      · subst e
        rw [h3 j (by omega), List.getElem?_set_self (by omega)]
        congr 2; omega
      · rw [h4 j (by omega) (by omega)]
        congr 2; omega
theorem at_strs (x : List ByteArray) (i : Nat) (h : i < x.length) : rdOf ByteArray.empty x (i : Int) = x[i] := by
  unfold rdOf
  rw [Int.toNat_natCast, List.getD_eq_getElem?_getD, List.getElem?_eq_getElem h]
  rfl
theorem heldStringS_l0 (y : List ByteArray) (hn : y.length ≤ 140737488355328) (d : Nat) : ∀ (k : Nat) (m : Int) (i : Nat), i + d = y.length → 0 ≤ m → m + d ≤ 4611686018427387904 → d + 101 < k →
    (∀ j, i ≤ j → j < y.length → y[j]? = some (mtB (m + (j - i)))) → laws_heldStringS.l0 k y m (i : Int) = some (m + d) := by
  induction d with
  | zero =>
    intro k m i hd hm hm2 hk h
    obtain ⟨k, rfl⟩ : ∃ m, k = m + 1 := ⟨k - 1, by omega⟩
    simp only [laws_heldStringS.l0]
    rw [if_neg (by omega)]
    simp
  | succ d ih =>
    intro k m i hd hm hm2 hk h
    obtain ⟨k, rfl⟩ : ∃ m, k = m + 1 := ⟨k - 1, by omega⟩
    simp only [laws_heldStringS.l0]
    have hi := h i (Nat.le_refl _) (by omega)
    rw [List.getElem?_eq_getElem (by omega)] at hi
    have hi2 := Option.some.inj hi
    have e0 : m + ((i : Int) - i) = m := by omega
    rw [e0] at hi2
    rw [if_pos (by omega), if_pos (by omega), markText_f m hm (by omega) k (by omega), Option.bind_some, at_strs y i (by omega), if_pos (by rw [hi2]), w64 (by omega) (by omega), w64 (by omega) (by omega), succ_cast]
    rw [ih k (m + 1) (i + 1) (by omega) (by omega) (by omega) (by omega) (fun j h1 h2 => by rw [h j (by omega) h2]; congr 2; omega)]
    congr 1; omega
def markedStr (m : Int) (n : Nat) : List ByteArray := (List.range n).map fun j : Nat => mtB (m + (j : Int))
theorem markStringS_f (x : List ByteArray) (hn : x.length ≤ 140737488355328) (m : Int) (hm : 0 ≤ m) (hm2 : m ≤ 140737488355328) (k : Nat) (hk : x.length + 101 < k) : laws_markStringS.f k x m = some (m + x.length, markedStr m x.length) := by
  obtain ⟨y, h1, h2, h3, h4⟩ := markStringS_l0 x.length k x m 0 (by omega) hn hm (by omega) hk
  have : y = markedStr m x.length := by
    refine List.ext_getElem? (fun j => ?_)
    by_cases hj : j < x.length
    · rw [h4 j (by omega) hj]
      simp [markedStr, hj]
    · rw [List.getElem?_eq_none (by omega), List.getElem?_eq_none (by simp [markedStr]; omega)]
  rw [← this]
  exact h1
theorem heldStringS_f (m : Int) (n : Nat) (hn : n ≤ 140737488355328) (hm : 0 ≤ m) (hm2 : m ≤ 140737488355328) (k : Nat) (hk : n + 101 < k) : laws_heldStringS.f k (markedStr m n) m = some (m + n) := by
  have hl : (markedStr m n).length = n := by simp [markedStr]
  have := heldStringS_l0 (markedStr m n) (by omega) n k m 0 (by omega) hm (by omega) hk (fun j a b => by rw [hl] at b; simp [markedStr, b])
  exact this
theorem eqStringS_l0 (a : List ByteArray) (hn : a.length ≤ 140737488355328) (d : Nat) : ∀ (k i : Nat), i + d = a.length → d < k → laws_eqStringS.l0 k a a (i : Int) = some true := by
  induction d with
  | zero =>
    intro k i hd hk
    obtain ⟨k, rfl⟩ : ∃ m, k = m + 1 := ⟨k - 1, by omega⟩
    simp only [laws_eqStringS.l0]
    rw [if_neg (by omega)]
  | succ d ih =>
    intro k i hd hk
    obtain ⟨k, rfl⟩ : ∃ m, k = m + 1 := ⟨k - 1, by omega⟩
    simp only [laws_eqStringS.l0]
    rw [if_pos (by omega), if_pos (by omega), if_pos (by omega), if_pos trivial, w64 (by omega) (by omega), succ_cast]
    exact ih k (i + 1) (by omega) (by omega)
theorem eqStringS_f (a : List ByteArray) (hn : a.length ≤ 140737488355328) (k : Nat) (hk : a.length < k) : laws_eqStringS.f k a a = some true := by
  unfold laws_eqStringS.f
  rw [if_pos rfl]
  exact eqStringS_l0 a hn a.length k 0 (by omega) hk
/-- The used cells from cell i on, d of them looked at. -/
def usedFrom (x : List Int) : Nat → Int → List ByteArray
  | 0, _ => []
  | d + 1, i => if rd x i = 0 then usedFrom x d (i + 1) else ((impl_CellName.b i ++ (⟨#[32, 61, 32]⟩ : ByteArray)) ++ decB (rd x i)) :: usedFrom x d (i + 1)
theorem usedFrom_len (x : List Int) (d : Nat) : ∀ i, (usedFrom x d i).length ≤ d := by
  induction d with
  | zero => intro i; exact Nat.le_refl _
  | succ d ih =>
    intro i
    have := ih (i + 1)
    simp only [usedFrom]
    split
    · omega
    · simp only [List.length_cons]; omega
theorem word_rd (x : List Int) (hx : cellsOkB x = true) (i : Int) (h0 : 0 ≤ i) (h1 : i < 71) : 0 ≤ rd x i ∧ rd x i ≤ 281474976710655 := by
  have hl := cellsOk_len hx
  obtain ⟨n, rfl⟩ := Int.eq_ofNat_of_zero_le h0
  rw [rd_at x n (by omega)]
  unfold cellsOkB at hx
  rw [Bool.and_eq_true] at hx
  have := List.all_eq_true.1 hx.1 _ (List.getElem_mem (show n < x.length by omega))
  unfold isWordB at this
  simpa using this
theorem specUC_l0 (x : List Int) (hx : cellsOkB x = true) (d : Nat) : ∀ (k : Nat) (out : List ByteArray) (i : Int), 0 ≤ i → i + d = 71 → out.length ≤ 71 - d → 2 * d + 200 < k → spec_UsedCells.l0 k x out i = some (out ++ usedFrom x d i) := by
  have hl := cellsOk_len hx
  have q3 : (⟨#[32, 61, 32]⟩ : ByteArray).size = 3 := rfl
  induction d with
  | zero =>
    intro k out i h0 hd ho hk
    obtain ⟨k, rfl⟩ : ∃ m, k = m + 2 := ⟨k - 2, by omega⟩
    simp only [spec_UsedCells.l0]
    rw [if_neg (by omega)]
    simp [spec_UsedCells.j1, usedFrom]
  | succ d ih =>
    intro k out i h0 hd ho hk
    obtain ⟨k, rfl⟩ : ∃ m, k = m + 2 := ⟨k - 2, by omega⟩
    have hr := word_rd x hx i h0 (by omega)
    have hs := nameB_size i h0 (by omega)
    have hd1 := decB_size (rd x i) (by omega) (by omega)
    simp only [spec_UsedCells.l0]
    rw [if_pos (by omega), specCO_f x (by omega) _ (by omega), Option.bind_some, hx]
    simp only [spec_UsedCells.j1, usedFrom]
    rw [if_pos trivial, if_pos h0, if_pos (by omega), w64 (i := i + 1) (by omega) (by omega)]
    by_cases h : rd x i = 0
    · rw [if_pos h, if_pos h]
      exact ih k out (i + 1) (by omega) (by omega) (by omega) (by omega)
    · rw [if_neg h, if_neg h, specName_f i h0 (by omega) k (by omega), Option.bind_some, if_pos (by omega), specDecAny_f _ (by omega) (by omega) k (by omega), Option.bind_some, if_pos (by rw [ByteArray.size_append]; omega), if_pos (by omega)]
      rw [ih k _ (i + 1) (by omega) (by omega) (by rw [List.length_append]; simp; omega) (by omega)]
      rw [List.append_assoc]
      rfl
theorem implUC_l0 (x : List Int) (hx : cellsOkB x = true) (d : Nat) : ∀ (k : Nat) (out : List ByteArray) (i : Int), 0 ≤ i → i + d = 71 → out.length ≤ 71 - d → d < k → impl_UsedCells.l0 k out x (x.length : Int) i = some (out ++ usedFrom x d i) := by
  have hl := cellsOk_len hx
  have q3 : (⟨#[32, 61, 32]⟩ : ByteArray).size = 3 := rfl
  induction d with
  | zero =>
    intro k out i h0 hd ho hk
    obtain ⟨k, rfl⟩ : ∃ m, k = m + 1 := ⟨k - 1, by omega⟩
    simp only [impl_UsedCells.l0, usedFrom]
    rw [if_neg (by omega), List.append_nil]
  | succ d ih =>
    intro k out i h0 hd ho hk
    obtain ⟨k, rfl⟩ : ∃ m, k = m + 1 := ⟨k - 1, by omega⟩
    have hr := word_rd x hx i h0 (by omega)
    have hs := nameB_size i h0 (by omega)
    have hd1 := decB_size (rd x i) (by omega) (by omega)
    simp only [impl_UsedCells.l0, usedFrom]
    rw [if_pos (by omega), if_pos h0, if_pos (by omega), w64 (i := i + 1) (by omega) (by omega)]
    by_cases h : rd x i = 0
    · rw [if_pos h, if_pos h]
      exact ih k out (i + 1) (by omega) (by omega) (by omega) (by omega)
    · rw [if_neg h, if_neg h, show impl_CellName.f i = some (impl_CellName.b i) from rfl, Option.bind_some, if_pos (by omega), implDec_f _ (by omega) (by omega), Option.bind_some, if_pos (by rw [ByteArray.size_append]; omega), if_pos (by omega)]
      rw [ih k _ (i + 1) (by omega) (by omega) (by rw [List.length_append]; simp; omega) (by omega)]
      rw [List.append_assoc]
      rfl
def usedAll (x : List Int) : List ByteArray := if cellsOkB x = true then usedFrom x 71 0 else []
theorem usedAll_len (x : List Int) : (usedAll x).length ≤ 71 := by
  unfold usedAll
  split
  · exact usedFrom_len x 71 0
  · simp
theorem used_both (x : List Int) (hn : x.length ≤ 1048576) (k : Nat) (hk : 1048900 < k) : spec_UsedCells.f k x = some (usedAll x) ∧ impl_UsedCells.f k x = some (usedAll x) := by
  unfold spec_UsedCells.f impl_UsedCells.f usedAll
  rw [implCO_f]
  simp only [Option.bind_some]
  cases hx : cellsOkB x
  · refine ⟨?_, by simp⟩
    obtain ⟨k, rfl⟩ : ∃ m, k = m + 2 := ⟨k - 2, by omega⟩
    simp only [spec_UsedCells.l0]
    by_cases h0 : (0 : Int) < (x.length : Int)
    · rw [if_pos h0, specCO_f x (by omega) _ (by omega), Option.bind_some, hx]
      simp [spec_UsedCells.j1]
    · rw [if_neg h0]
      simp [spec_UsedCells.j1]
  · rw [if_pos rfl, if_pos rfl]
    exact ⟨specUC_l0 x hx 71 k [] 0 (by omega) (by omega) (by simp) (by omega), implUC_l0 x hx 71 k [] 0 (by omega) (by omega) (by simp) (by omega)⟩
theorem FnExactUsedCells : FnExactUsedCellsOwn := by
  intro l _
  by_cases hn : (l.length : Int) > 1048576
  · refine ⟨0, ?_⟩
    unfold laws_FnExactUsedCells.f
    rw [if_pos hn]
  · refine ⟨1100000 + 1, ?_⟩
    obtain ⟨k, hk⟩ : ∃ k, k = 1100000 := ⟨_, rfl⟩
    rw [← hk]
    have t1 : ∀ k', 1099999 ≤ k' → laws_toIntS.f k' l = some l := fun k' h => toIntS_f l (by omega) k' (by omega)
    have u1 : ∀ k', 1099999 ≤ k' → spec_UsedCells.f k' l = some (usedAll l) ∧ impl_UsedCells.f k' l = some (usedAll l) := fun k' h => used_both l (by omega) k' (by omega)
    have ul := usedAll_len l
    have e1 : ∀ k', 1099999 ≤ k' → laws_eqStringS.f k' (usedAll l) (usedAll l) = some true := fun k' h => eqStringS_f _ (by omega) k' (by omega)
    have e2 : ∀ k', 1099999 ≤ k' → laws_eqIntS.f k' l l = some true := fun k' h => by rw [eqIntS_f l l (by omega) k' (by omega)]; simp
    have m1 := markIntS_f l (by omega) 1 (by omega) (by omega) (k + 1) (by omega)
    have m2 := markStringS_f (usedAll l) (by omega) 1 (by omega) (by omega) k (by omega)
    have m3 := heldStringS_f 1 (usedAll l).length (by omega) (by omega) (by omega) k (by omega)
    unfold laws_FnExactUsedCells.f
    rw [if_neg hn]
    simp only [t1 (k + 1) (by omega), (u1 (k + 1) (by omega)).1, (u1 (k + 1) (by omega)).2, e1 (k + 1) (by omega), e2 (k + 1) (by omega), m1, Option.bind_some, if_true]
    rw [if_neg (by omega)]
    simp only [laws_FnExactUsedCells.j0, Bool.not_true, Bool.false_eq_true, if_false, m2, m3, t1 k (by omega), (u1 k (by omega)).2, e1 k (by omega), Option.bind_some, if_true]
    rw [if_neg (by omega), if_neg (by omega)]

end Go.Proofs.YthhbgembnlpohaaDoor.Pure
