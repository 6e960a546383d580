/- A verified evaluator of the translated code, part 4: EvaPq -/
import Derived.Test.YtjpndagendnefaaE3
section
/- FnMerged: the law. -/
namespace Go.Eva
open Go.RowKit (wrap64)
set_option linter.unusedVariables false
set_option linter.unusedSimpArgs false

theorem lk_none {s : ByteArray} {r : Rw} (hs : keq s r = true) : ∀ {out : List Rw}, rep r out = none → lk s out = none
  | [], _ => rfl
  | x :: xs, h => by
    unfold rep at h
    split at h
    · cases h
    · rename_i hx
      have h' : rep r xs = none := by cases hh : rep r xs with
        | none => rfl
        | some o => rw [hh] at h; cases h
      unfold lk
      have : ¬ keq s x = true := fun q => hx (by unfold keq at q hs ⊢; rw [decide_eq_true_eq] at q hs ⊢; rw [q, hs])
      rw [if_neg this]
      exact lk_none hs h'
theorem lk_rep {s : ByteArray} {r : Rw} : ∀ {out o : List Rw}, rep r out = some o → lk s o = if keq s r = true then some (match lk s out with | some a => mr a r | none => r) else lk s out
  | [], o, h => by cases h
  | x :: xs, o, h => by
    unfold rep at h
    split at h
    · rename_i hx
      injection h with h
      subst h
      have hk : x.1.toList = r.1.toList := by simpa [keq] using hx
      have hm := mr_key hk
      by_cases hs : keq s r = true
      · have hsx : keq s x = true := by unfold keq at hs ⊢; rw [decide_eq_true_eq] at hs ⊢; rw [hk, hs]
        have hsm : keq s (mr x r) = true := by unfold keq at hs ⊢; rw [decide_eq_true_eq] at hs ⊢; rw [hm, hk, hs]
        simp [lk, hs, hsx, hsm]
      · have hsx : ¬ keq s x = true := by unfold keq at hs ⊢; rw [decide_eq_true_eq] at hs ⊢; rw [hk]; exact hs
        have hsm : ¬ keq s (mr x r) = true := by unfold keq at hs ⊢; rw [decide_eq_true_eq] at hs ⊢; rw [hm, hk]; exact hs
        simp [lk, hs, hsx, hsm]
    · rename_i hx
      cases hh : rep r xs with
      | none => rw [hh] at h; cases h
      | some o' =>
        rw [hh] at h
        injection h with h
        subst h
        have ih := lk_rep (s := s) hh
        by_cases hsx : keq s x = true
        · have hs : ¬ keq s r = true := fun q => hx (by unfold keq at q hsx ⊢; rw [decide_eq_true_eq] at q hsx ⊢; rw [hsx, q])
          simp [lk, hs, hsx]
        · simp only [lk, if_neg hsx]
          exact ih
theorem lk_ins {s : ByteArray} {r : Rw} : ∀ {out : List Rw}, lk s (ins r out) = if keq s r = true then (if lk s out = none then some r else lk s (ins r out)) else lk s out
  | [] => by by_cases hs : keq s r = true <;> simp [ins, lk, hs]
  | x :: xs => by
    have ih := lk_ins (s := s) (r := r) (out := xs)
    by_cases hs : keq s r = true
    · rw [if_pos hs] at ih ⊢
      split
      · rename_i hn
        unfold lk at hn
        split at hn
        · cases hn
        · rename_i hx
          rw [if_pos hn] at ih
          unfold ins
          split
          · simp [lk, hs]
          · simp only [lk, if_neg hx]; exact ih
      · rfl
    · rw [if_neg hs] at ih ⊢
      unfold ins
      split
      · simp [lk, hs]
      · simp only [lk]; rw [ih]
theorem lk_upd {s : ByteArray} {r : Rw} {out : List Rw} : lk s (upd out r) = if keq s r = true then some (match lk s out with | some a => mr a r | none => r) else lk s out := by
  unfold upd
  cases h : rep r out with
  | some o => exact lk_rep h
  | none =>
    show lk s (ins r out) = _
    rw [lk_ins]
    by_cases hs : keq s r = true
    · rw [if_pos hs, if_pos hs, lk_none hs h]; rfl
    · rw [if_neg hs, if_neg hs]
def Lt (s : ByteArray) (out : List Rw) (t : Rw) : Prop := (lk s out = none ∧ t = rw0) ∨ lk s out = some t
theorem Lt.step {s : ByteArray} {out : List Rw} {t r : Rw} (h : Lt s out t) : Lt s (upd out r) (tst s t r) := by
  unfold Lt tst
  rw [lk_upd]
  by_cases hs : keq s r = true
  · rw [if_pos hs, if_pos hs]
    rcases h with ⟨h1, h2⟩ | h1
    · rw [h1, h2, mr_zero]; exact .inr rfl
    · rw [h1]; exact .inr rfl
  · rw [if_neg hs, if_neg hs]; exact h
theorem Lt.list {s : ByteArray} (l : List Rw) : ∀ {out : List Rw} {t : Rw}, Lt s out t → Lt s (l.foldl upd out) (l.foldl (tst s) t) := by
  induction l with
  | nil => intro out t h; exact h
  | cons x l ih => intro out t h; exact ih h.step
theorem Lt.all {s : ByteArray} (rs : List (List Rw)) : ∀ {out : List Rw} {t : Rw}, Lt s out t → Lt s (ov rs out) (tot s rs t) := by
  induction rs with
  | nil => intro out t h; exact h
  | cons x l ih => intro out t h; exact ih (Lt.list x h)

/-! ### keys -/
def ky (l : List Rw) : List (List UInt8) := l.map fun x => x.1.toList
theorem ky_rep {r : Rw} : ∀ {out o : List Rw}, rep r out = some o → ky o = ky out ∧ r.1.toList ∈ ky out
  | [], o, h => by cases h
  | x :: xs, o, h => by
    unfold rep at h
    split at h
    · rename_i hx
      injection h with h
      subst h
      have hk : x.1.toList = r.1.toList := by simpa [keq] using hx
      simp [ky, mr_key hk, hk]
    · cases hh : rep r xs with
      | none => rw [hh] at h; cases h
      | some o' =>
        rw [hh] at h
        injection h with h
        subst h
        obtain ⟨h1, h2⟩ := ky_rep hh
        exact ⟨by show x.1.toList :: ky o' = x.1.toList :: ky xs; rw [h1], List.mem_cons_of_mem _ h2⟩
theorem ky_not {r : Rw} : ∀ {out : List Rw}, rep r out = none → r.1.toList ∉ ky out
  | [], _ => by simp [ky]
  | x :: xs, h => by
    unfold rep at h
    split at h
    · cases h
    · rename_i hx
      have h' : rep r xs = none := by cases hh : rep r xs with
        | none => rfl
        | some o => rw [hh] at h; cases h
      intro hm
      rcases List.mem_cons.1 hm with q | q
      · exact hx (by unfold keq; rw [decide_eq_true_eq]; exact q.symm)
      · exact ky_not h' q
theorem ins_perm (r : Rw) : ∀ out : List Rw, (ins r out).Perm (r :: out)
  | [] => List.Perm.refl _
  | x :: xs => by
    unfold ins
    split
    · exact List.Perm.refl _
    · exact ((ins_perm r xs).cons x).trans (List.Perm.swap _ _ _)
theorem ky_upd {out : List Rw} (h : (ky out).Nodup) (r : Rw) : (ky (upd out r)).Nodup ∧ ∀ k, k ∈ ky (upd out r) ↔ k ∈ ky out ∨ k = r.1.toList := by
  unfold upd
  cases hh : rep r out with
  | some o =>
    obtain ⟨h1, h2⟩ := ky_rep hh
    show (ky o).Nodup ∧ _
    refine ⟨by rw [h1]; exact h, fun k => ?_⟩
    show k ∈ ky o ↔ _
    rw [h1]
    exact ⟨.inl, fun q => q.elim id fun q => by rw [q]; exact h2⟩
  | none =>
    have hp : (ky (ins r out)).Perm (r.1.toList :: ky out) := (ins_perm r out).map _
    refine ⟨hp.nodup_iff.2 (List.nodup_cons.2 ⟨ky_not hh, h⟩), fun k => ?_⟩
    show k ∈ ky (ins r out) ↔ _
    rw [hp.mem_iff, List.mem_cons, or_comm]
theorem ky_list (l : List Rw) : ∀ {out : List Rw}, (ky out).Nodup → (ky (l.foldl upd out)).Nodup ∧ ∀ k, k ∈ ky (l.foldl upd out) ↔ k ∈ ky out ∨ k ∈ ky l := by
  induction l with
  | nil => intro out h; exact ⟨h, fun k => by simp [ky]⟩
  | cons x l ih =>
    intro out h
    obtain ⟨h1, h2⟩ := ky_upd h x
    obtain ⟨h3, h4⟩ := ih h1
    refine ⟨h3, fun k => ?_⟩
    rw [List.foldl_cons, h4, h2]
    show _ ↔ k ∈ ky out ∨ k ∈ x.1.toList :: ky l
    rw [List.mem_cons, or_assoc]
theorem ky_ov (rs : List (List Rw)) : ∀ {out : List Rw}, (ky out).Nodup → (ky (ov rs out)).Nodup ∧ ∀ k, k ∈ ky (ov rs out) ↔ k ∈ ky out ∨ ∃ l ∈ rs, k ∈ ky l := by
  induction rs with
  | nil => intro out h; exact ⟨h, fun k => by simp [ov]⟩
  | cons x l ih =>
    intro out h
    obtain ⟨h1, h2⟩ := ky_list x h
    obtain ⟨h3, h4⟩ := ih h1
    refine ⟨h3, fun k => ?_⟩
    show k ∈ ky (ov l (x.foldl upd out)) ↔ _
    rw [h4, h2]
    simp only [List.mem_cons, or_assoc, exists_eq_or_imp]
theorem parts_len (r1 r2 : List (List Rw)) : ((ov r2 []).foldl upd (ov r1 [])).length = (ov (r1 ++ r2) []).length := by
  have n0 : (ky ([] : List Rw)).Nodup := List.nodup_nil
  obtain ⟨a1, a2⟩ := ky_ov r1 n0
  obtain ⟨b1, b2⟩ := ky_ov r2 n0
  obtain ⟨c1, c2⟩ := ky_list (ov r2 []) a1
  obtain ⟨d1, d2⟩ := ky_ov (r1 ++ r2) n0
  have hp := (List.perm_ext_iff_of_nodup c1 d1).2 fun k => by
    rw [c2, a2, b2, d2]
    simp only [show ky ([] : List Rw) = [] from rfl, List.not_mem_nil, false_or, List.mem_append, or_and_right, exists_or]
  have := hp.length_eq
  simpa [ky] using this

/-! ### the law -/
theorem t54 {n : Nat} {y : List Int} (hy : ∀ x ∈ y, 0 ≤ x ∧ x < 256) : ok (F54 n y 0) fun r => 0 ≤ r.1 ∧ r.1 < 256 := by
  unfold F54
  refine ok.ite (fun h => ok.guard (by omega) (ok.guard h (ok.some ?_))) (fun h => ok.guard (by omega) (ok.some ?_))
  · have := hy _ (rdOf_mem (d := (0 : Int)) (i := 0) (Int.le_refl _) h)
    rw [w64 (by omega) (by omega)]
    exact this
  · have h0 : (y.length : Int) = 0 := by omega
    have e : wrap64 (wrap64 ((0 : Int) * 37) + wrap64 ((y.length : Int) * 11)) = 0 := by rw [h0]; unfold wrap64; omega
    rw [e]
    exact ⟨by decide, by decide⟩
theorem t18 {n : Nat} {y : List Int} (hy : ∀ x ∈ y, 0 ≤ x ∧ x < 256) {m : Nat} (hm : m ≤ 4) : ok (F18 n y 0 (m : Int)) fun r => 0 ≤ r.1 ∧ r.1 ≤ m := by
  unfold F18
  refine (t54 hy).bind fun r q => ok.guard (by omega) (ok.some ?_)
  obtain ⟨x, u⟩ := r
  obtain ⟨q1, q2⟩ := q
  simp only at q1 q2 ⊢
  have e : wrap64 ((m : Int) + 1) = (m : Int) + 1 := w64 (by omega) (by omega)
  have h3 : 0 ≤ x * ((m : Int) + 1) := Int.mul_nonneg q1 (by omega)
  have h4 : x * ((m : Int) + 1) ≤ 255 * ((m : Int) + 1) := Int.mul_le_mul_of_nonneg_right (by omega) (by omega)
  rw [e, w64 (x := x * ((m : Int) + 1)) (by omega) (by omega), Int.tdiv_eq_ediv_of_nonneg h3, w64 (by omega) (by omega)]
  omega
theorem eqR (a : Rf) : (decide (a.1.toList = a.1.toList) && (decide (a.2.1 = a.2.1) && (decide (a.2.2.1 = a.2.2.1) && ((a.2.2.2.1 == a.2.2.2.1) && (decide (a.2.2.2.2.1 = a.2.2.2.2.1) && (decide (a.2.2.2.2.2.1 = a.2.2.2.2.2.1) && (decide (a.2.2.2.2.2.2.1 = a.2.2.2.2.2.2.1) && (decide (a.2.2.2.2.2.2.2.1 = a.2.2.2.2.2.2.2.1) && (decide (a.2.2.2.2.2.2.2.2.1 = a.2.2.2.2.2.2.2.2.1) && (decide (a.2.2.2.2.2.2.2.2.2.1 = a.2.2.2.2.2.2.2.2.2.1) && true)))))))))) = true := by simp
theorem t4_0 {n : Nat} (hn : 5000 ≤ n) {y : List Int} (hb : y.length ≤ 1048576) (hy : ∀ x ∈ y, 0 ≤ x ∧ x < 256) {rs : List (List Rw)} (hr : rs.length ≤ 4) (hl : ∀ l ∈ rs, l.length ≤ 4) {m : List Rw} (hm : m.length = (ov rs []).length) {ks : List ByteArray} (hks : ks.length ≤ 10) : ∀ (k i : Nat), i ≤ ks.length → ks.length - i < k →
    ok (lp4_0 n k y (i : Int) rs (ov rs []) m ks) fun r => r = (true, ())
  | 0, i, h, hk => by omega
  | k + 1, i, h, hk => by
    have hol := ov_len rs 4 [] hl
    simp only [List.length_nil] at hol
    have hl8 : ∀ l ∈ rs, l.length ≤ 8 := fun l h => by have := hl l h; omega
    show ok (st4_0 n (lp4_0 n k) y _ rs (ov rs []) m ks) _
    unfold st4_0
    refine ok.ite (fun h1 => ok.guard (by omega) (ok.guard h1 ?_)) (fun h1 => ?_)
    · have hi : i < ks.length := by omega
      rw [rdOf_nat hi]
      have hL : Lt ks[i] (ov rs []) (tot ks[i] rs rw0) := Lt.all rs (.inl ⟨rfl, rfl⟩)
      refine (t20 (n := n) (l := ov rs []) (s := ks[i]) (by omega) (by omega)).bind fun r8 q8 => ok.guard (by omega) (ok.guard h1 ?_)
      refine (t21 (n := n) (s := ks[i]) (by omega) hl8 (by omega)).bind fun r9 q9 => ?_
      have fin : ∀ b : Bool, b = false → ok (j4_0 n (lp4_0 n k) y (i : Int) b rs (ov rs []) m ks) fun r => r = (true, ()) := fun b hb2 => by
        subst hb2
        unfold j4_0
        refine ok.iteb (fun h => by cases h) (fun _ => ?_)
        rw [w1 hi (by omega)]
        exact t4_0 hn hb hy hr hl hm hks k (i + 1) (by omega) (by omega)
      have h22 := t22 (n := n) (s := ks[i]) (rs := rs) (by omega) hl8 (by omega)
      rcases hL with ⟨e1, e2⟩ | e1
      · rw [e1] at q8
        subst q8
        rw [e2] at q9 h22
        subst q9
        refine ok.iteb (fun _ => ok.iteb (fun h => by simp [toF, rw0] at h) (fun _ => ok.iteb (fun h => by cases h) (fun _ => ok.guard (by omega) (ok.guard h1 (h22.bind fun r q => ?_))))) (fun h => by cases h)
        subst q
        exact fin _ (by rw [eqR]; rfl)
      · rw [e1] at q8
        subst q8
        subst q9
        refine ok.iteb (fun h => by cases h) (fun _ => ok.iteb (fun _ => ok.iteb (fun h => ?_) (fun _ => ok.guard (by omega) (ok.guard h1 (h22.bind fun r q => ?_)))) (fun h => by cases h))
        · have := eqR (toF (tot ks[i] rs rw0))
          simp [toF] at h
        · subst q
          exact fin _ (by rw [eqR]; rfl)
    · refine (t23 hn hb hy).bind fun r14 _ => ?_
      let a : Rw := (r14.1, r14.2.1, r14.2.2.1, r14.2.2.2.1, r14.2.2.2.2.1, r14.2.2.2.2.2.1, r14.2.2.2.2.2.2.1, r14.2.2.2.2.2.2.2.1, r14.2.2.2.2.2.2.2.2.1, r14.2.2.2.2.2.2.2.2.2.1)
      let b : Rw := (r14.2.2.2.2.2.2.2.2.2.2.1, r14.2.2.2.2.2.2.2.2.2.2.2.1, r14.2.2.2.2.2.2.2.2.2.2.2.2.1, r14.2.2.2.2.2.2.2.2.2.2.2.2.2.1, r14.2.2.2.2.2.2.2.2.2.2.2.2.2.2.1, r14.2.2.2.2.2.2.2.2.2.2.2.2.2.2.2.1, r14.2.2.2.2.2.2.2.2.2.2.2.2.2.2.2.2.1, r14.2.2.2.2.2.2.2.2.2.2.2.2.2.2.2.2.2.1, r14.2.2.2.2.2.2.2.2.2.2.2.2.2.2.2.2.2.2.1, r14.2.2.2.2.2.2.2.2.2.2.2.2.2.2.2.2.2.2.2.1)
      refine (t24 (n := n) a b).bind fun r15 q15 => (t25 (n := n) (by omega) hl (by omega)).bind fun r16 q16 => ?_
      subst q16
      refine (t14 (n := n) (l := ov rs []) (by omega) (by omega)).bind fun r17 q17 => ?_
      subst q17
      refine ok.iteb (fun _ => ok.ite (fun _ => ?_) (fun h => absurd (by rw [hm]) h)) (fun h => by cases h)
      refine (t26 (n := n) a b).bind fun r18 q18 => ?_
      subst q15 q18
      refine ok.iteb (fun _ => ?_) (fun h => by rw [eqR] at h; cases h)
      refine (t24 (n := n) rw0 b).bind fun r19 q19 => ok.some ?_
      rw [mr_zero] at q19
      subst q19
      rw [Prod.mk.injEq]
      exact ⟨eqR (toF b), rfl⟩
theorem pureFnMerged (y : List Int) (h1 : y.length ≤ maxLen) (h2 : ∀ b ∈ y, 0 ≤ b ∧ b < 256) : ∃ k, F4 k y = some (true, ()) := by
  obtain ⟨n, hn⟩ : ∃ n : Nat, 5000 ≤ n := ⟨5000, Nat.le_refl _⟩
  refine ⟨n, ?_⟩
  suffices h : ok (F4 n y) fun r => r = (true, ()) by
    obtain ⟨r, h, rfl⟩ := h
    exact h
  unfold F4 st4 F7
  simp only [Option.bind_some]
  refine ok.ite (fun _ => ok.some rfl) (fun hb => ?_)
  have hb : y.length ≤ 1048576 := by omega
  refine (t16 hn hb h2).bind fun r2 q2 => ?_
  have hl8 : ∀ l ∈ r2.1, l.length ≤ 8 := fun l h => by have := q2.2 l h; omega
  refine (t17 (n := n) (by omega) hl8 (by omega)).bind fun r3 q3 => ?_
  subst q3
  refine (t18 (n := n) h2 q2.1).bind fun r4 q4 => ok.guard (by omega) (ok.guard q4.1 (ok.guard q4.2 ?_))
  obtain ⟨k, hk⟩ := Int.eq_ofNat_of_zero_le q4.1
  rw [hk] at q4 ⊢
  have c1 : cutL r2.1 0 (k : Int) = r2.1.take k := by simp [cutL]
  have c2 : cutL r2.1 (k : Int) (r2.1.length : Int) = r2.1.drop k := by simp [cutL]
  rw [c1, c2]
  refine (t17 (n := n) (rs := r2.1.take k) (by simp; omega) (fun l h => hl8 l (List.mem_of_mem_take h)) (by omega)).bind fun r5 q5 => ok.guard q4.1 (ok.guard q4.2 (ok.guard (Int.le_refl _) ?_))
  refine (t17 (n := n) (rs := r2.1.drop k) (by simp; omega) (fun l h => hl8 l (List.mem_of_mem_drop h)) (by omega)).bind fun r6 q6 => ?_
  subst q5 q6
  have o1 := ov_len (r2.1.take k) 8 [] (fun l h => hl8 l (List.mem_of_mem_take h))
  have o2 := ov_len (r2.1.drop k) 8 [] (fun l h => hl8 l (List.mem_of_mem_drop h))
  simp only [List.length_nil, List.length_take, List.length_drop] at o1 o2
  refine (t19 (n := n) (a := ov (r2.1.take k) []) (b := ov (r2.1.drop k) []) (by omega) (by omega) (by omega)).bind fun r7 q7 => ?_
  subst q7
  refine t4_0 hn hb h2 q2.1 q2.2 ?_ (by decide) n 0 (by omega) (by simp; omega)
  rw [parts_len, List.take_append_drop]
end Go.Eva
end
