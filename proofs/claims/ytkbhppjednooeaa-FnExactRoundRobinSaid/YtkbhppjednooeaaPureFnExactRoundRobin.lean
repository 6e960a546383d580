/- For every number, RoundRobin of the program answers what RoundRobin of the reference answers, and its answers share no memory. -/
import Derived.Test.YtkbhppjednooeaaPFnExactRoundRobinx1
namespace Go.Proofs.Ytkbhppjednooeaa.Pure
open Go.RowKit Go.Proofs.Ytkbhppjednooeaa.PFnExactRoundRobin Go.Proofs.YtkbhppjednooeaaW.PrintWords Go.Proofs.YtkbhppjednooeaaW.PrintLast Go.Proofs.YtkbhppjednooeaaW.PrintMore
def FnExactRoundRobinOwn : Prop := ∀ (a0 : Int), (Lit.int .i64 a0).wf = true → ∃ k, laws_FnExactRoundRobin.f k a0 = some true
theorem w64 {i : Int} (h : -9223372036854775808 ≤ i) (h2 : i ≤ 9223372036854775807) : wrap64 i = i := by
  unfold wrap64
  omega
theorem rd_at (x : List Int) (i : Nat) (h : i < x.length) : rd x (i : Int) = x[i] := by
  unfold rd
  rw [Int.toNat_natCast, List.getD_eq_getElem?_getD, List.getElem?_eq_getElem h]
  rfl
theorem succ_cast (i : Nat) : ((i : Int) + 1) = ((i + 1 : Nat) : Int) := by omega
theorem take_succ_ext {α : Type} (a b : List α) (i : Nat) (ha : i < a.length) (hb : i < b.length) (ht : a.take i = b.take i) (he : a[i] = b[i]) : a.take (i + 1) = b.take (i + 1) := by
  rw [List.take_succ_eq_append_getElem ha, List.take_succ_eq_append_getElem hb, ht, he]
theorem eqIntS_l0 (a b : List Int) (hn : a.length ≤ 140737488355328) (hab : a.length = b.length) (d : Nat) : ∀ (k i : Nat), i + d = a.length → d < k → laws_eqIntS.l0 k a b (i : Int) = some (decide (a.drop i = b.drop i)) := by
  induction d with
  | zero =>
    intro k i hd hk
    obtain ⟨k, rfl⟩ : ∃ m, k = m + 1 := ⟨k - 1, by omega⟩
    simp only [laws_eqIntS.l0]
    rw [if_neg (by omega), List.drop_of_length_le (by omega), List.drop_of_length_le (by omega)]
    rfl
  | succ d ih =>
    intro k i hd hk
    obtain ⟨k, rfl⟩ : ∃ m, k = m + 1 := ⟨k - 1, by omega⟩
    simp only [laws_eqIntS.l0]
    rw [if_pos (by omega), if_pos (by omega), if_pos (by omega), rd_at a i (by omega), rd_at b i (by omega), w64 (by omega) (by omega), succ_cast]
    have ea : a.drop i = a[i] :: a.drop (i + 1) := List.drop_eq_getElem_cons (by omega)
    have eb : b.drop i = b[i] :: b.drop (i + 1) := List.drop_eq_getElem_cons (by omega)
    by_cases h : a[i] = b[i]
    · rw [if_pos h, ih k (i + 1) (by omega) (by omega), ea, eb]
      simp only [h, List.cons.injEq, true_and]
    · rw [if_neg h, ea, eb]
      simp only [h, List.cons.injEq, false_and, decide_false]
theorem eqIntS_f (a b : List Int) (hn : a.length ≤ 140737488355328) (k : Nat) (hk : a.length < k) : laws_eqIntS.f k a b = some (decide (a = b)) := by
  unfold laws_eqIntS.f
  by_cases h : a.length = b.length
  · rw [if_pos (by omega)]
    have := eqIntS_l0 a b hn h a.length k 0 (by omega) hk
    simpa using this
  · rw [if_neg (by omega)]
    have : a ≠ b := fun e => h (by rw [e])
    simp [this]
theorem markIntS_l0 (d : Nat) : ∀ (k : Nat) (x : List Int) (m : Int) (i : Nat), i + d = x.length → x.length ≤ 140737488355328 → 0 ≤ m → m + d ≤ 4611686018427387904 → d < k →
    ∃ y, laws_markIntS.l0 k x m (i : Int) = some (m + d, y) ∧ y.length = x.length ∧ (∀ j, j < i → y[j]? = x[j]?) ∧ (∀ j, i ≤ j → j < x.length → y[j]? = some (m + (j - i))) := by
  induction d with
  | zero =>
    intro k x m i hd hn hm hm2 hk
    obtain ⟨k, rfl⟩ : ∃ m, k = m + 1 := ⟨k - 1, by omega⟩
    refine ⟨x, ?_, rfl, fun _ _ => rfl, fun j h1 h2 => by omega⟩
    simp only [laws_markIntS.l0]
    rw [if_neg (by omega)]
    simp
  | succ d ih =>
    intro k x m i hd hn hm hm2 hk
    obtain ⟨k, rfl⟩ : ∃ m, k = m + 1 := ⟨k - 1, by omega⟩
    obtain ⟨y, h1, h2, h3, h4⟩ := ih k (x.set i m) (m + 1) (i + 1) (by rw [List.length_set]; omega) (by rw [List.length_set]; omega) (by omega) (by omega) (by omega)
    rw [List.length_set] at h2 h4
    refine ⟨y, ?_, h2, fun j hj => ?_, fun j hj hj2 => ?_⟩
    · simp only [laws_markIntS.l0]
      rw [if_pos (by omega), if_pos (by omega), w64 (by omega) (by omega), w64 (by omega) (by omega), succ_cast, Int.toNat_natCast, h1]
      have : m + 1 + (d : Int) = m + ((d + 1 : Nat) : Int) := by omega
      rw [this]
    · rw [h3 j (by omega), List.getElem?_set_ne (by omega)]
    · by_cases e : j = i
      · subst e
        rw [h3 j (by omega), List.getElem?_set_self (by omega)]
        congr 1; omega
      · rw [h4 j (by omega) (by omega)]
        congr 1; omega
theorem heldIntS_l0 (y : List Int) (hn : y.length ≤ 140737488355328) (d : Nat) : ∀ (k : Nat) (m : Int) (i : Nat), i + d = y.length → 0 ≤ m → m + d ≤ 4611686018427387904 → d < k →
    (∀ j, i ≤ j → j < y.length → y[j]? = some (m + (j - i))) → laws_heldIntS.l0 k y m (i : Int) = some (m + d) := by
  induction d with
  | zero =>
    intro k m i hd hm hm2 hk h
    obtain ⟨k, rfl⟩ : ∃ m, k = m + 1 := ⟨k - 1, by omega⟩
    simp only [laws_heldIntS.l0]
    rw [if_neg (by omega)]
    simp
  | succ d ih =>
    intro k m i hd hm hm2 hk h
    obtain ⟨k, rfl⟩ : ∃ m, k = m + 1 := ⟨k - 1, by omega⟩
    simp only [laws_heldIntS.l0]
    have hi := h i (Nat.le_refl _) (by omega)
    rw [List.getElem?_eq_getElem (by omega)] at hi
    have hi2 := Option.some.inj hi
    rw [if_pos (by omega), if_pos (by omega), rd_at y i (by omega), if_pos (by rw [hi2]; omega), w64 (by omega) (by omega), w64 (by omega) (by omega), succ_cast]
    rw [ih k (m + 1) (i + 1) (by omega) (by omega) (by omega) (by omega) (fun j h1 h2 => by rw [h j (by omega) h2]; congr 1; omega)]
    congr 1; omega
theorem markheldIntS (x : List Int) (hn : x.length ≤ 140737488355328) (m : Int) (hm : 0 ≤ m) (hm2 : m ≤ 140737488355328) (k : Nat) (hk : x.length < k) :
    ∃ y, laws_markIntS.f k x m = some (m + x.length, y) ∧ laws_heldIntS.f k y m = some (m + x.length) := by
  obtain ⟨y, h1, h2, h3, h4⟩ := markIntS_l0 x.length k x m 0 (by omega) hn hm (by omega) hk
  refine ⟨y, h1, ?_⟩
  have := heldIntS_l0 y (by omega) y.length k m 0 (by omega) hm (by omega) (by omega) (fun j a b => h4 j a (by omega))
  rw [h2] at this
  exact this
/-- What the first n of 0, 1, 2, 3, 0 and so on are, from i on. -/
def rrs : Nat → Nat → List Int
  | 0, _ => []
  | d + 1, i => Int.tmod (i : Int) 4 :: rrs d (i + 1)
theorem rrs_length (d : Nat) : ∀ i, (rrs d i).length = d := by
  induction d with
  | zero => intro i; rfl
  | succ d ih => intro i; simp [rrs, ih]
theorem specRR_l0 (n : Int) (d : Nat) : ∀ (k : Nat) (out : List Int) (i : Nat), i + d = (mn n 500).toNat → d < k → out.length = i → spec_RoundRobin.l0 k n out (i : Int) = some (out ++ rrs d i) := by
  induction d with
  | zero =>
    intro k out i hd hk ho
    obtain ⟨k, rfl⟩ : ∃ m, k = m + 1 := ⟨k - 1, by omega⟩
    simp only [spec_RoundRobin.l0, rrs, List.append_nil]
    unfold mn at hd
    by_cases h : (i : Int) < n
    · rw [if_pos h]
      split at hd
      · rw [if_neg (by omega)]
      · omega
    · rw [if_neg h]
  | succ d ih =>
    intro k out i hd hk ho
    obtain ⟨k, rfl⟩ : ∃ m, k = m + 1 := ⟨k - 1, by omega⟩
    have h5 : (i : Int) < n ∧ (i : Int) < 500 := by
      unfold mn at hd
      split at hd <;> omega
    simp only [spec_RoundRobin.l0, rrs]
    rw [if_pos h5.1, if_pos h5.2, if_pos (by omega), w64 (by omega) (by omega), succ_cast, ih k _ (i + 1) (by omega) (by omega) (by simp [ho])]
    simp
theorem implRR_l0 (n : Int) (d : Nat) : ∀ (k : Nat) (out : List Int) (i : Nat), i + d = (mn n 500).toNat → d < k → out.length = i → impl_RoundRobin.l0 k n out (i : Int) = some (out ++ rrs d i) := by
  induction d with
  | zero =>
    intro k out i hd hk ho
    obtain ⟨k, rfl⟩ : ∃ m, k = m + 1 := ⟨k - 1, by omega⟩
    simp only [impl_RoundRobin.l0, rrs, List.append_nil]
    rw [if_neg (by omega)]
  | succ d ih =>
    intro k out i hd hk ho
    obtain ⟨k, rfl⟩ : ∃ m, k = m + 1 := ⟨k - 1, by omega⟩
    have h5 : (i : Int) < n ∧ (i : Int) < 500 := by
      unfold mn at hd
      split at hd <;> omega
    simp only [impl_RoundRobin.l0, rrs]
    rw [if_pos (by omega), if_pos (by omega), w64 (by omega) (by omega), succ_cast, ih k _ (i + 1) (by omega) (by omega) (by simp [ho])]
    simp
theorem FnExactRoundRobin : FnExactRoundRobinOwn := by
  intro n _
  have hm : (mn n 500).toNat ≤ 500 := by unfold mn; split <;> omega
  have h1 : ∀ k, (mn n 500).toNat < k → spec_RoundRobin.f k n = some (rrs (mn n 500).toNat 0) := fun k hk => specRR_l0 n _ k [] 0 (by omega) hk rfl
  have h2 : ∀ k, (mn n 500).toNat < k → impl_RoundRobin.f k n = some (rrs (mn n 500).toNat 0) := fun k hk => implRR_l0 n _ k [] 0 (by omega) hk rfl
  have hl := rrs_length (mn n 500).toNat 0
  generalize rrs (mn n 500).toNat 0 = x at *
  refine ⟨x.length + 1, ?_⟩
  obtain ⟨y, m1, m2⟩ := markheldIntS x (by omega) 1 (by omega) (by omega) (x.length + 1) (by omega)
  unfold laws_FnExactRoundRobin.f
  rw [h1 _ (by omega), h2 _ (by omega)]
  simp only [Option.bind_some]
  rw [eqIntS_f x x (by omega) _ (by omega)]
  simp only [Option.bind_some, decide_true, if_true]
  rw [m1]
  simp only [Option.bind_some]
  rw [m2]
  simp only [Option.bind_some]
  rw [if_neg (by omega), if_pos trivial, if_neg (by omega), if_pos trivial]

end Go.Proofs.Ytkbhppjednooeaa.Pure
