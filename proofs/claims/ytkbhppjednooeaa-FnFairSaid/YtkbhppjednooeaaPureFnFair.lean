/- For every code, the picks that are drawn of it are fair exactly where no thread's gap reaches the bound, and the program answers so (codes above 2^20 bytes are let pass by the law itself). -/
import Derived.Test.YtkbhppjednooeaaQFnFairx2
namespace Go.Proofs.Ytkbhppjednooeaa.Pure
open Go.RowKit Go.Proofs.Ytkbhppjednooeaa.QFnFair Go.Proofs.YtkbhppjednooeaaW.PrintWords Go.Proofs.YtkbhppjednooeaaW.PrintLast Go.Proofs.YtkbhppjednooeaaW.PrintMore
set_option linter.unusedVariables false
set_option linter.unusedSimpArgs false
def FnFairOwn : Prop := ∀ (l0 : (List Int)), (l0.length ≤ maxLen ∧ ∀ y_l0 ∈ l0, (Lit.int .u8 y_l0).wf = true) → ∃ k, laws_FnFair.f k l0 = some true
theorem w64 {i : Int} (h : -9223372036854775808 ≤ i) (h2 : i ≤ 9223372036854775807) : wrap64 i = i := by
  unfold wrap64
  omega
theorem rd_at (x : List Int) (i : Nat) (h : i < x.length) : rd x (i : Int) = x[i] := by
  unfold rd
  rw [Int.toNat_natCast, List.getD_eq_getElem?_getD, List.getElem?_eq_getElem h]
  rfl
theorem succ_cast (i : Nat) : ((i : Int) + 1) = ((i + 1 : Nat) : Int) := by omega
theorem take_succ_ext {α : Type} (a b : List α) (i : Nat) (ha : i < a.length) (hb : i < b.length) (ht : a.take i = b.take i) (he : a[i] = b[i]) : a.take (i + 1) = b.take (i + 1) := by
  rw [List.take_succ_eq_append_getElem ha, List.take_succ_eq_append_getElem hb, ht, he]
def wg (t : Int) : List Int → Int → Int → Int
  | [], _, most => most
  | p :: l, n, most => if p = t then wg t l 0 (mx most 0) else wg t l (n + 1) (mx most (n + 1))
theorem mx_le {a b c : Int} (h : a ≤ c) (h2 : b ≤ c) : mx a b ≤ c := by
  unfold mx
  split <;> assumption
theorem mx_ge {a b c : Int} (h : c ≤ a) : c ≤ mx a b := by
  unfold mx
  split <;> omega
theorem wg_range (t : Int) (l : List Int) : ∀ (n most c : Int), 0 ≤ n → 0 ≤ most → most ≤ c → n + l.length ≤ c → 0 ≤ wg t l n most ∧ wg t l n most ≤ c := by
  induction l with
  | nil => intro n most c h1 h2 h3 h4; exact ⟨h2, h3⟩
  | cons p l ih =>
    intro n most c h1 h2 h3 h4
    rw [List.length_cons] at h4
    simp only [wg]
    split
    · exact ih 0 _ c (by omega) (mx_ge h2) (mx_le h3 (by omega)) (by omega)
    · exact ih (n + 1) _ c (by omega) (mx_ge h2) (mx_le h3 (by omega)) (by omega)
theorem specWG_l0 (x : List Int) (t : Int) (hn : x.length ≤ 140737488355328) (d : Nat) : ∀ (k : Nat) (n most : Int) (i : Nat), i + d = x.length → d < k → 0 ≤ n → n ≤ i → spec_WorstGap.l0 k x t n most (i : Int) = some (wg t (x.drop i) n most) := by
  induction d with
  | zero =>
    intro k n most i hd hk h1 h2
    obtain ⟨k, rfl⟩ : ∃ m, k = m + 1 := ⟨k - 1, by omega⟩
    simp only [spec_WorstGap.l0]
    rw [if_neg (by omega), List.drop_of_length_le (by omega)]
    rfl
  | succ d ih =>
    intro k n most i hd hk h1 h2
    obtain ⟨k, rfl⟩ : ∃ m, k = m + 1 := ⟨k - 1, by omega⟩
    simp only [spec_WorstGap.l0]
    rw [if_pos (by omega), if_pos (by omega), rd_at x i (by omega), w64 (i := (i : Int) + 1) (by omega) (by omega), w64 (i := n + 1) (by omega) (by omega), succ_cast, List.drop_eq_getElem_cons (show i < x.length by omega)]
    simp only [wg]
    by_cases h : x[i] = t
    · rw [if_pos h, if_pos h, ih k 0 _ (i + 1) (by omega) (by omega) (by omega) (by omega)]
    · rw [if_neg h, if_neg h, ih k (n + 1) _ (i + 1) (by omega) (by omega) (by omega) (by omega)]
theorem implWG_l0 (x : List Int) (t : Int) (hn : x.length ≤ 140737488355328) (d : Nat) : ∀ (k : Nat) (n most : Int) (i : Nat), i + d = x.length → d < k → 0 ≤ n → n ≤ i → impl_WorstGap.l0 k t most n x (x.length : Int) (i : Int) = some (wg t (x.drop i) n most) := by
  induction d with
  | zero =>
    intro k n most i hd hk h1 h2
    obtain ⟨k, rfl⟩ : ∃ m, k = m + 1 := ⟨k - 1, by omega⟩
    simp only [impl_WorstGap.l0]
    rw [if_neg (by omega), List.drop_of_length_le (by omega)]
    rfl
  | succ d ih =>
    intro k n most i hd hk h1 h2
    obtain ⟨k, rfl⟩ : ∃ m, k = m + 1 := ⟨k - 1, by omega⟩
    simp only [impl_WorstGap.l0]
    rw [if_pos (by omega), if_pos (by omega), if_pos (by omega), rd_at x i (by omega), w64 (i := (i : Int) + 1) (by omega) (by omega), w64 (i := n + 1) (by omega) (by omega), succ_cast, List.drop_eq_getElem_cons (show i < x.length by omega)]
    simp only [wg]
    by_cases h : x[i] = t
    · rw [if_pos h, if_pos h, ih k 0 _ (i + 1) (by omega) (by omega) (by omega) (by omega)]
    · rw [if_neg h, if_neg h, ih k (n + 1) _ (i + 1) (by omega) (by omega) (by omega) (by omega)]
theorem specWG_f (x : List Int) (t : Int) (hn : x.length ≤ 140737488355328) (k : Nat) (hk : x.length < k) : spec_WorstGap.f k x t = some (wg t x 0 0) :=
  specWG_l0 x t hn x.length k 0 0 0 (by omega) hk (by omega) (by omega)
theorem implWG_f (x : List Int) (t : Int) (hn : x.length ≤ 140737488355328) (k : Nat) (hk : x.length < k) : impl_WorstGap.f k x t = some (wg t x 0 0) :=
  implWG_l0 x t hn x.length k 0 0 0 (by omega) hk (by omega) (by omega)
def fairFrom (x : List Int) (f : Int) : Nat → Int → Bool
  | 0, _ => true
  | d + 1, i => if wg i x 0 0 ≥ f then false else fairFrom x f d (i + 1)
theorem specFair_l0 (x : List Int) (f : Int) (hn : x.length ≤ 140737488355328) (d : Nat) : ∀ (k : Nat) (i : Int), 0 ≤ i → i + d = 4 → d + x.length < k → spec_Fair.l0 k x f i = some (fairFrom x f d i) := by
  induction d with
  | zero =>
    intro k i h0 hd hk
    obtain ⟨k, rfl⟩ : ∃ m, k = m + 1 := ⟨k - 1, by omega⟩
    simp only [spec_Fair.l0]
    rw [if_neg (by omega)]
    rfl
  | succ d ih =>
    intro k i h0 hd hk
    obtain ⟨k, rfl⟩ : ∃ m, k = m + 1 := ⟨k - 1, by omega⟩
    simp only [spec_Fair.l0, fairFrom]
    rw [if_pos (by omega), specWG_f x i hn k (by omega), Option.bind_some]
    by_cases h : wg i x 0 0 ≥ f
    · rw [if_pos h, if_pos h]
    · rw [if_neg h, if_neg h, w64 (by omega) (by omega), ih k (i + 1) (by omega) (by omega) (by omega)]
theorem implFair_l0 (x : List Int) (f : Int) (hn : x.length ≤ 140737488355328) (d : Nat) : ∀ (k : Nat) (i : Int), 0 ≤ i → i + d = 4 → d + x.length < k → impl_Fair.l0 k x f i = some (fairFrom x f d i) := by
  induction d with
  | zero =>
    intro k i h0 hd hk
    obtain ⟨k, rfl⟩ : ∃ m, k = m + 1 := ⟨k - 1, by omega⟩
    simp only [impl_Fair.l0]
    rw [if_neg (by omega)]
    rfl
  | succ d ih =>
    intro k i h0 hd hk
    obtain ⟨k, rfl⟩ : ∃ m, k = m + 1 := ⟨k - 1, by omega⟩
    simp only [impl_Fair.l0, fairFrom]
    rw [if_pos (by omega), implWG_f x i hn k (by omega), Option.bind_some]
    by_cases h : wg i x 0 0 ≥ f
    · rw [if_pos h, if_pos h]
    · rw [if_neg h, if_neg h, w64 (by omega) (by omega), ih k (i + 1) (by omega) (by omega) (by omega)]
theorem specFair_f (x : List Int) (f : Int) (hn : x.length ≤ 140737488355328) (k : Nat) (hk : x.length + 4 < k) : spec_Fair.f k x f = some (fairFrom x f 4 0) :=
  specFair_l0 x f hn 4 k 0 (by omega) (by omega) (by omega)
theorem implFair_f (x : List Int) (f : Int) (hn : x.length ≤ 140737488355328) (k : Nat) (hk : x.length + 4 < k) : impl_Fair.f k x f = some (fairFrom x f 4 0) :=
  implFair_l0 x f hn 4 k 0 (by omega) (by omega) (by omega)
/-- What the first n of 0, 1, 2, 3, 0 and so on are, from i on. -/
def rrs : Nat → Nat → List Int
  | 0, _ => []
  | d + 1, i => Int.tmod (i : Int) 4 :: rrs d (i + 1)
theorem rrs_length (d : Nat) : ∀ i, (rrs d i).length = d := by
  induction d with
  | zero => intro i; rfl
  | succ d ih => intro i; simp [rrs, ih]
theorem specRR_l0 (n : Int) (d : Nat) : ∀ (k : Nat) (out : List Int) (i : Nat), i + d = (mn n 500).toNat → d < k → out.length = i → spec_RoundRobin.l0 k n out (i : Int) = some (out ++ rrs d i) := by
  induction d with
  | zero =>
    intro k out i hd hk ho
    obtain ⟨k, rfl⟩ : ∃ m, k = m + 1 := ⟨k - 1, by omega⟩
    simp only [spec_RoundRobin.l0, rrs, List.append_nil]
    unfold mn at hd
    by_cases h : (i : Int) < n
    · rw [if_pos h]
      split at hd
      · rw [if_neg (by omega)]
      · omega
    · rw [if_neg h]
  | succ d ih =>
    intro k out i hd hk ho
    obtain ⟨k, rfl⟩ : ∃ m, k = m + 1 := ⟨k - 1, by omega⟩
    have h5 : (i : Int) < n ∧ (i : Int) < 500 := by
      unfold mn at hd
      split at hd <;> omega
    simp only [spec_RoundRobin.l0, rrs]
    rw [if_pos h5.1, if_pos h5.2, if_pos (by omega), w64 (by omega) (by omega), succ_cast, ih k _ (i + 1) (by omega) (by omega) (by simp [ho])]
    simp
theorem and255 (x : Int) : 0 ≤ Go.bits .and .i64 x 255 ∧ Go.bits .and .i64 x 255 ≤ 255 := by
  have key : ∀ a : BitVec 64, (a &&& BitVec.ofInt 64 255).toNat ≤ 255 := fun a => by
    rw [BitVec.toNat_and]
    exact Nat.le_trans Nat.and_le_right (by decide)
  have h := key (BitVec.ofInt 64 x)
  have e : Go.bits .and .i64 x 255 = IntKind.i64.wrap (((BitVec.ofInt 64 x &&& BitVec.ofInt 64 255).toNat : Nat) : Int) := rfl
  rw [e, IntKind.wrap_i64]
  omega
/-- A cursor of draws: the code, how far it was read, the number that follows from it. -/
def Cur (s : List Int) (i : Int) : Prop := 0 ≤ i ∧ i ≤ (s.length : Int) ∧ s.length ≤ 9223372036854775807
theorem byte_ok {s : List Int} {i : Int} (c : Cur s i) (h : Int) : ∃ v i' h', spec_l1Byte.f s i h = some (v, i', h') ∧ Cur s i' ∧ 0 ≤ v ∧ v ≤ 255 := by
  obtain ⟨h0, h1, h2⟩ := c
  unfold spec_l1Byte.f
  by_cases hl : i < (s.length : Int)
  · rw [if_pos hl, if_pos h0]
    have := and255 (wrap64 ((Go.bits .and .i64 (Go.bits .xor .i64 ((wrap64 ((wrap64 (h * 6364136223846793005)) + 1442695040888963407)) / 8589934592) ((wrap64 ((wrap64 (h * 6364136223846793005)) + 1442695040888963407)) / 35184372088832)) 255) + (wrap64 (rd s i))))
    refine ⟨_, _, _, rfl, ⟨?_, ?_, h2⟩, this⟩
    · rw [w64 (by omega) (by omega)]; omega
    · rw [w64 (by omega) (by omega)]; omega
  · rw [if_neg hl]
    have := and255 (Go.bits .xor .i64 ((wrap64 ((wrap64 (h * 6364136223846793005)) + 1442695040888963407)) / 8589934592) ((wrap64 ((wrap64 (h * 6364136223846793005)) + 1442695040888963407)) / 35184372088832))
    exact ⟨_, _, _, rfl, ⟨h0, h1, h2⟩, this⟩
theorem below_ok {s : List Int} {i : Int} (c : Cur s i) (h n : Int) : ∃ v i' h', spec_l1Below.f s i h n = some (v, i', h') ∧ Cur s i' ∧ 0 ≤ v ∧ (0 < n → v < n) ∧ (n ≤ 0 → v = 0) := by
  unfold spec_l1Below.f
  by_cases h0 : n ≤ 0
  · rw [if_pos h0]
    exact ⟨0, i, h, rfl, c, by omega, by omega, fun _ => rfl⟩
  · rw [if_neg h0]
    by_cases h1 : n ≤ 256
    · rw [if_pos h1]
      obtain ⟨v, i', h', e, c', a, b⟩ := byte_ok c h
      rw [e, Option.bind_some, if_neg (by omega)]
      refine ⟨_, _, _, rfl, c', ?_, fun _ => ?_, fun _ => by omega⟩
      · exact Int.tmod_nonneg _ a
      · exact Int.tmod_lt_of_pos _ (by omega)
    · rw [if_neg h1]
      obtain ⟨x, i1, h1', e1, c1, a1, b1⟩ := byte_ok c h
      obtain ⟨y, i2, h2', e2, c2, a2, b2⟩ := byte_ok c1 h1'
      obtain ⟨z, i3, h3', e3, c3, a3, b3⟩ := byte_ok c2 h2'
      obtain ⟨w, i4, h4', e4, c4, a4, b4⟩ := byte_ok c3 h3'
      rw [e1]
      simp only [Option.bind_some]
      rw [e2]
      simp only [Option.bind_some]
      rw [e3]
      simp only [Option.bind_some]
      rw [e4]
      simp only [Option.bind_some]
      rw [if_neg (by omega)]
      refine ⟨_, _, _, rfl, c4, ?_, fun _ => ?_, fun _ => by omega⟩
      · refine Int.tmod_nonneg _ ?_
        rw [w64 (i := x * 16777216) (by omega) (by omega), w64 (i := y * 65536) (by omega) (by omega), w64 (i := z * 256) (by omega) (by omega), w64 (i := x * 16777216 + y * 65536) (by omega) (by omega), w64 (i := x * 16777216 + y * 65536 + z * 256) (by omega) (by omega), w64 (by omega) (by omega)]
        omega
      · exact Int.tmod_lt_of_pos _ (by omega)
theorem once_ok {s : List Int} {i : Int} (c : Cur s i) (h n : Int) : ∃ (b : Bool) (i' h' : Int), spec_l1Once.f s i h n = some (b, i', h') ∧ Cur s i' := by
  unfold spec_l1Once.f
  obtain ⟨v, i', h', e, c', _⟩ := below_ok c h n
  rw [e, Option.bind_some]
  exact ⟨_, _, _, rfl, c'⟩
theorem pickInt_ok {s : List Int} {i : Int} (c : Cur s i) (h : Int) (l : List Int) (hl : l ≠ []) (hl2 : l.length ≤ 9223372036854775807) : ∃ v i' h', spec_l1PickInt.f s i h l = some (v, i', h') ∧ Cur s i' ∧ v ∈ l := by
  unfold spec_l1PickInt.f
  obtain ⟨v, i', h', e, c', a, b, _⟩ := below_ok c h (l.length : Int)
  have hp : 0 < l.length := List.length_pos_iff.mpr hl
  have hb := b (by omega)
  rw [e, Option.bind_some, if_pos a, if_pos hb]
  refine ⟨_, _, _, rfl, c', ?_⟩
  obtain ⟨n, rfl⟩ := Int.eq_ofNat_of_zero_le a
  rw [rd_at l n (by omega)]
  exact List.getElem_mem _
theorem new_l0 (s : List Int) (hs : s.length ≤ 9223372036854775807) (d : Nat) : ∀ (k : Nat) (x i : Int), 0 ≤ i → i + d = 4000 → d < k → ∃ h, ∀ k', k ≤ k' → spec_l1New.l0 k' s x i = some (s, 0, h) := by
  induction d with
  | zero =>
    intro k x i h0 hd hk
    refine ⟨x, fun k' hk' => ?_⟩
    obtain ⟨k', rfl⟩ : ∃ m, k' = m + 1 := ⟨k' - 1, by omega⟩
    simp only [spec_l1New.l0]
    by_cases h : i < (s.length : Int)
    · rw [if_pos h, if_neg (by omega)]
    · rw [if_neg h]
  | succ d ih =>
    intro k x i h0 hd hk
    by_cases h : i < (s.length : Int)
    · obtain ⟨r, hr⟩ := ih (k - 1) (Go.bits .and .i64 (wrap64 ((wrap64 ((wrap64 (x * 131)) + (wrap64 (rd s i)))) + 7)) 1073741823) (i + 1) (by omega) (by omega) (by omega)
      refine ⟨r, fun k' hk' => ?_⟩
      obtain ⟨k', rfl⟩ : ∃ m, k' = m + 1 := ⟨k' - 1, by omega⟩
      simp only [spec_l1New.l0]
      rw [if_pos h, if_pos (by omega), if_pos h0, w64 (i := i + 1) (by omega) (by omega)]
      exact hr k' (by omega)
    · refine ⟨x, fun k' hk' => ?_⟩
      obtain ⟨k', rfl⟩ : ∃ m, k' = m + 1 := ⟨k' - 1, by omega⟩
      simp only [spec_l1New.l0]
      rw [if_neg h]
theorem new_ok (s : List Int) (hs : s.length ≤ 9223372036854775807) : ∃ h, Ev (fun k => spec_l1New.f k s) (s, 0, h) ∧ Cur s 0 := by
  obtain ⟨h, hh⟩ := new_l0 s hs 4000 4001 (wrap64 (10101 + (s.length : Int))) 0 (by omega) (by omega) (by omega)
  exact ⟨h, ⟨4001, hh⟩, by omega, by omega, hs⟩
theorem ev_shift {α : Type} {g f : Nat → Option α} {r : α} (c : Nat) (h : ∀ k, g (k + c) = f k) (e : Ev f r) : Ev g r := by
  obtain ⟨K, e⟩ := e
  refine ⟨K + c, fun n hn => ?_⟩
  obtain ⟨m, rfl⟩ : ∃ m, n = m + c := ⟨n - c, by omega⟩
  rw [h]
  exact e m (by omega)
theorem l12Picks_l1 (s : List Int) (n t i h : Int) (c : Nat) : ∀ (k : Nat) (out : List Int), c ≤ 100 → out.length + c ≤ 1000000 → 0 < n → n ≤ 1000000 → spec_l12Picks.l1 (k + c + 1) out n t (c : Int) s i h = spec_l12Picks.l0 k (out ++ List.replicate c t) (n - 1) s i h := by
  induction c with
  | zero =>
    intro k out hc ho h0 hn
    simp only [spec_l12Picks.l1]
    rw [if_neg (by omega), w64 (by omega) (by omega)]
    simp
  | succ c ih =>
    intro k out hc ho h0 hn
    rw [show k + (c + 1) + 1 = (k + c + 1) + 1 from by omega]
    generalize hm : k + c + 1 = m
    simp only [spec_l12Picks.l1]
    rw [if_pos (by omega), if_pos (by omega), w64 (by omega) (by omega)]
    have e : ((c + 1 : Nat) : Int) - 1 = (c : Int) := by omega
    rw [e]
    rw [← hm, ih k (out ++ [t]) (by omega) (by simp; omega) h0 hn]
    congr 1
    rw [List.append_assoc, List.replicate_succ]
    rfl
theorem l12Picks_l0 (s : List Int) (n : Nat) : ∀ (out : List Int) (i h : Int), n ≤ 1000 → out.length + 5 * n ≤ 1000000 → Cur s i →
    ∃ (out' : List Int) (i' h' : Int), Ev (fun k => spec_l12Picks.l0 k out (n : Int) s i h) (out', i', h') ∧ Cur s i' ∧ out'.length ≤ out.length + 5 * n ∧ ∀ x ∈ out', x ∈ out ∨ (0 ≤ x ∧ x < 4) := by
  induction n with
  | zero =>
    intro out i h hn ho c
    refine ⟨out, i, h, Ev.step (f := fun _ => some (out, i, h)) (fun k => ?_) (Ev.now _), c, by omega, fun x hx => .inl hx⟩
    simp only [spec_l12Picks.l0]
    rw [if_neg (by omega)]
  | succ n ih =>
    intro out i h hn ho c
    obtain ⟨t, i1, h1, e1, c1, a1, b1, _⟩ := below_ok c h 4
    obtain ⟨m, i2, h2, e2, c2, a2, b2, _⟩ := below_ok c1 h1 5
    have hm := b2 (by omega)
    obtain ⟨q, hq⟩ : ∃ q : Nat, 1 + m = (q : Int) := ⟨(1 + m).toNat, by omega⟩
    obtain ⟨out', i', h', e, c', hl, hx⟩ := ih (out ++ List.replicate q t) i2 h2 (by omega) (by simp; omega) c2
    refine ⟨out', i', h', ev_shift (q + 2) (fun k => ?_) e, c', by simp at hl; omega, fun x hxm => ?_⟩
    · rw [show k + (q + 2) = (k + q + 1) + 1 from by omega]
      simp only [spec_l12Picks.l0]
      rw [if_pos (by omega), e1]
      simp only [Option.bind_some]
      rw [e2]
      simp only [Option.bind_some]
      rw [w64 (by omega) (by omega), hq, l12Picks_l1 s _ t i2 h2 q k out (by omega) (by omega) (by omega) (by omega)]
      congr 1
      omega
    · rcases hx x hxm with hx | hx
      · rcases List.mem_append.mp hx with hx | hx
        · exact .inl hx
        · have := List.eq_of_mem_replicate hx
          have hb := b1 (by omega)
          exact .inr (by omega)
      · exact .inr hx
theorem l12Picks_ok (s : List Int) (m : Int) (hm : 0 < m) (hm2 : m ≤ 1000) (i h : Int) (c : Cur s i) :
    ∃ (out : List Int) (i' h' : Int), Ev (fun k => spec_l12Picks.f k s i h m) (out, i', h') ∧ Cur s i' ∧ out.length ≤ 5000 ∧ ∀ x ∈ out, 0 ≤ x ∧ x < 4 := by
  obtain ⟨n, i1, h1, e1, c1, a1, b1, _⟩ := below_ok c h m
  obtain ⟨q, rfl⟩ := Int.eq_ofNat_of_zero_le a1
  have hb := b1 hm
  obtain ⟨out, i', h', e, c', hl, hx⟩ := l12Picks_l0 s q [] i1 h1 (by omega) (by simp; omega) c1
  refine ⟨out, i', h', Ev.congr (fun k => ?_) e, c', by simp at hl; omega, fun x hxm => ?_⟩
  · unfold spec_l12Picks.f
    rw [e1]
    rfl
  · rcases hx x hxm with hx | hx
    · cases hx
    · exact hx
theorem l32Picks_l0 (s : List Int) (n : Nat) : ∀ (out : List Int) (i h : Int), n ≤ 1000 → out.length + n ≤ 1000000 → Cur s i →
    ∃ (out' : List Int) (i' h' : Int), Ev (fun k => spec_l32Picks.l0 k out (n : Int) s i h) (out', i', h') ∧ Cur s i' ∧ out'.length ≤ 1000000 := by
  induction n with
  | zero =>
    intro out i h hn ho c
    obtain ⟨b, i1, h1, e1, c1⟩ := once_ok c h 3
    cases b
    · refine ⟨out, i1, h1, Ev.step (f := fun _ => some (out, i1, h1)) (fun k => ?_) (Ev.now _), c1, by omega⟩
      simp only [spec_l32Picks.l0]
      rw [if_neg (by omega), e1]
      rfl
    · obtain ⟨v, i2, h2, e2, c2, a2, b2, _⟩ := below_ok c1 h1 30
      have hv := b2 (by omega)
      have hmn : (mn v 500).toNat ≤ 500 := by unfold mn; split <;> omega
      have hrr : Ev (fun k => spec_RoundRobin.f k v) (rrs (mn v 500).toNat 0) := ⟨501, fun k hk => specRR_l0 v _ k [] 0 (by omega) (by omega) rfl⟩
      refine ⟨rrs (mn v 500).toNat 0, i2, h2, Ev.step (f := fun k => (spec_RoundRobin.f k v).bind fun t => some (t, i2, h2)) (fun k => ?_) (Ev.bind hrr (Ev.now _)), c2, by rw [rrs_length]; omega⟩
      simp only [spec_l32Picks.l0]
      rw [if_neg (by omega), e1, Option.bind_some, if_pos rfl, e2]
      rfl
  | succ n ih =>
    intro out i h hn ho c
    obtain ⟨v, i1, h1, e1, c1, _⟩ := below_ok c h 4
    obtain ⟨out', i', h', e, c', hl⟩ := ih (out ++ [v]) i1 h1 (by omega) (by simp; omega) c1
    refine ⟨out', i', h', Ev.step (fun k => ?_) e, c', hl⟩
    simp only [spec_l32Picks.l0]
    rw [if_pos (by omega), e1, Option.bind_some, if_pos (by omega), w64 (by omega) (by omega)]
    congr 1
    omega
theorem l32Picks_ok (s : List Int) (i h : Int) (c : Cur s i) : ∃ (out : List Int) (i' h' : Int), Ev (fun k => spec_l32Picks.f k s i h) (out, i', h') ∧ Cur s i' ∧ out.length ≤ 1000000 := by
  obtain ⟨b, i1, h1, e1, c1⟩ := once_ok c h 3
  cases b
  · obtain ⟨n, i2, h2, e2, c2, a2, b2, _⟩ := below_ok c1 h1 30
    obtain ⟨q, rfl⟩ := Int.eq_ofNat_of_zero_le a2
    have hb := b2 (by omega)
    obtain ⟨out, i', h', e, c', hl⟩ := l32Picks_l0 s q [] i2 h2 (by omega) (by simp; omega) c2
    refine ⟨out, i', h', Ev.congr (fun k => ?_) e, c', hl⟩
    unfold spec_l32Picks.f
    rw [e1, Option.bind_some, if_neg (by simp), e2]
    rfl
  · obtain ⟨out, i', h', e, c', hl, _⟩ := l12Picks_ok s 20 (by omega) (by omega) i1 h1 c1
    refine ⟨out, i', h', Ev.congr (g := fun k => spec_l32Picks.f k s i h) (f := fun k => (spec_l12Picks.f k s i1 h1 20).bind fun b => some (b.1, b.2.1, b.2.2)) (fun k => ?_) (Ev.bind e (Ev.now _)), c', by omega⟩
    unfold spec_l32Picks.f
    rw [e1, Option.bind_some, if_pos rfl]
theorem fairFrom_and (x : List Int) (f : Int) (d : Nat) : ∀ i : Int, fairFrom x f (d + 1) i = (decide (wg i x 0 0 < f) && fairFrom x f d (i + 1)) := by
  intro i
  simp only [fairFrom]
  by_cases h : wg i x 0 0 ≥ f
  · rw [if_pos h, decide_eq_false (by omega), Bool.false_and]
  · rw [if_neg h, decide_eq_true (by omega), Bool.true_and]
theorem law_l0 (x : List Int) (f : Int) (is V : Bool) (hn : x.length ≤ 1000000) (hs : is = V) (hV : V = fairFrom x f 4 0) (d : Nat) : ∀ (k : Nat) (all : Bool) (i : Int), 0 ≤ i → i + d = 4 → d + x.length + 10 < k → V = (all && fairFrom x f d i) →
    laws_FnFair.l0 k x f is all i = some true := by
  induction d with
  | zero =>
    intro k all i h0 hd hk ha
    obtain ⟨k, rfl⟩ : ∃ m, k = m + 1 := ⟨k - 1, by omega⟩
    simp only [laws_FnFair.l0]
    simp only [fairFrom, Bool.and_true] at ha
    rw [if_neg (by omega), specFair_f x f (by omega) k (by omega), ← hV, hs, ha]
    simp
  | succ d ih =>
    intro k all i h0 hd hk ha
    obtain ⟨k, rfl⟩ : ∃ m, k = m + 1 := ⟨k - 1, by omega⟩
    simp only [laws_FnFair.l0]
    have hr := wg_range i x 0 0 x.length (by omega) (by omega) (by omega) (by omega)
    rw [if_pos (by omega), implWG_f x i (by omega) k (by omega), specWG_f x i (by omega) k (by omega)]
    simp only [Option.bind_some]
    rw [if_pos trivial, if_neg (by omega), if_neg (by omega), w64 (by omega) (by omega)]
    rw [fairFrom_and] at ha
    cases all
    · rw [if_neg (by simp)]
      exact ih k false (i + 1) (by omega) (by omega) (by omega) (by rw [ha]; simp)
    · rw [if_pos rfl]
      exact ih k _ (i + 1) (by omega) (by omega) (by omega) (by rw [ha]; simp)
theorem FnFair : FnFairOwn := by
  intro s hs
  obtain ⟨hs1, _⟩ := hs
  unfold maxLen at hs1
  by_cases hb : (s.length : Int) > 1048576
  · refine ⟨0, ?_⟩
    unfold laws_FnFair.f laws_big.f
    rw [Option.bind_some, if_pos (decide_eq_true hb)]
  · obtain ⟨h, e1, c1⟩ := new_ok s (by omega)
    obtain ⟨x, i2, h2, e2, c2, hx⟩ := l32Picks_ok s 0 h c1
    obtain ⟨f, i3, h3, e3, c3, _⟩ := pickInt_ok c2 h2 [4, 3, 8, 12, 20, 0, (-1), 30] (by simp) (by decide)
    obtain ⟨K1, e1⟩ := e1
    obtain ⟨K2, e2⟩ := e2
    refine ⟨K1 + K2 + x.length + 100, ?_⟩
    unfold laws_FnFair.f laws_big.f
    rw [Option.bind_some, if_neg (by simp; omega)]
    unfold spec_DrawFair.f
    have e1' := e1 (K1 + K2 + x.length + 100) (by omega)
    have e2' := e2 (K1 + K2 + x.length + 100) (by omega)
    simp only at e1' e2'
    rw [e1']
    simp only [Option.bind_some]
    rw [e2']
    simp only [Option.bind_some]
    rw [e3]
    simp only [Option.bind_some]
    rw [implFair_f x f (by omega) _ (by omega), Option.bind_some]
    exact law_l0 x f _ _ hx rfl rfl 4 _ true 0 (by omega) (by omega) (by omega) (by simp)

end Go.Proofs.Ytkbhppjednooeaa.Pure
