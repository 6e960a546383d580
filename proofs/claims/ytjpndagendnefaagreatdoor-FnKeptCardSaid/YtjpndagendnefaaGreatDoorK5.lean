/- A verified evaluator of the translated code, part 5: EvaGz -/
import Derived.Test.YtjpndagendnefaaGreatDoorK4
section
/- FnKept: the law. -/
namespace Go.Eva
open Go.RowKit (wrap64)
set_option linter.unusedVariables false
set_option linter.unusedSimpArgs false

noncomputable def P14 (n : Nat) (a0 : List Int) : Option (Bool × Unit) :=
  (F14 n a0).bind fun r11 =>
  (F16 n r11.1).bind fun r12 =>
  (F15 n r12.1).bind fun r13 =>
  (F17 n r11.1).bind fun r14 =>
  if r14.1 = true then
    if (!r13.2.1) = true then
      some (false, ())
    else
      (F16 n r13.1).bind fun r15 =>
      (F16 n r11.1).bind fun r16 =>
      if (!decide (r15.1.toList = r16.1.toList)) = true then
        some (false, ())
      else
        (F17 n r11.1).bind fun r17 =>
        if (!r17.1) = true then
          (F16 n r11.1).bind fun r18 =>
          j3_0 n a0 (!decide (r18.1.toList = (⟨#[]⟩ : ByteArray).toList))
        else
          (F18 n a0).bind fun r27 =>
          (F15 n r27.1).bind fun r28 =>
          (F19 n r27.1).bind fun r29 =>
          (F20 n a0).bind fun r30 =>
          (F6 n r30.1).bind fun r31 =>
          if (r28.2.1 == r29.2.1) = true then
            if (!r28.2.1) = true then
              if (!r31.2.1) = true then
                some (true, ())
              else
                (F7 n r31.1).bind fun r32 =>
                some (decide (r32.1.toList = r30.1.toList), ())
            else
              (F16 n r28.1).bind fun r33 =>
              if (decide (r33.1.toList = r27.1.toList)) = true then
                if (!r31.2.1) = true then
                  some (true, ())
                else
                  (F7 n r31.1).bind fun r34 =>
                  some (decide (r34.1.toList = r30.1.toList), ())
              else
                some (false, ())
          else
            some (false, ())
  else
    (F17 n r11.1).bind fun r35 =>
    if (!r35.1) = true then
      (F16 n r11.1).bind fun r36 =>
      j3_0 n a0 (!decide (r36.1.toList = (⟨#[]⟩ : ByteArray).toList))
    else
      (F18 n a0).bind fun r37 =>
      (F15 n r37.1).bind fun r38 =>
      (F19 n r37.1).bind fun r39 =>
      (F20 n a0).bind fun r40 =>
      (F6 n r40.1).bind fun r41 =>
      if (r38.2.1 == r39.2.1) = true then
        if (!r38.2.1) = true then
          if (!r41.2.1) = true then
            some (true, ())
          else
            (F7 n r41.1).bind fun r42 =>
            some (decide (r42.1.toList = r40.1.toList), ())
        else
          (F16 n r38.1).bind fun r43 =>
          if (decide (r43.1.toList = r37.1.toList)) = true then
            if (!r41.2.1) = true then
              some (true, ())
            else
              (F7 n r41.1).bind fun r44 =>
              some (decide (r44.1.toList = r40.1.toList), ())
          else
            some (false, ())
      else
        some (false, ())
noncomputable def P10 (n : Nat) (a0 : List Int) : Option (Bool × Unit) :=
  (F10 n a0).bind fun r7 =>
  (F12 n r7.1 r7.2.1 r7.2.2.1 r7.2.2.2.1).bind fun r8 =>
  (F11 n r8.1).bind fun r9 =>
  (F13 n r7.1 r7.2.1 r7.2.2.1 r7.2.2.2.1).bind fun r10 =>
  if (!(r9.2.2.2.2.1 == r10.1)) = true then
    some (false, ())
  else
    if r9.2.2.2.2.1 = true then
      if (!(decide (r7.1 = r9.1) && (decide (r7.2.1.toList = r9.2.1.toList) && (decide (r7.2.2.1 = r9.2.2.1) && (decide (r7.2.2.2.1 = r9.2.2.2.1) && true))))) = true then
        some (false, ())
      else
        (F14 n a0).bind fun r11 =>
        (F16 n r11.1).bind fun r12 =>
        (F15 n r12.1).bind fun r13 =>
        (F17 n r11.1).bind fun r14 =>
        if r14.1 = true then
          if (!r13.2.1) = true then
            some (false, ())
          else
            (F16 n r13.1).bind fun r15 =>
            (F16 n r11.1).bind fun r16 =>
            if (!decide (r15.1.toList = r16.1.toList)) = true then
              some (false, ())
            else
              (F17 n r11.1).bind fun r17 =>
              if (!r17.1) = true then
                (F16 n r11.1).bind fun r18 =>
                j3_0 n a0 (!decide (r18.1.toList = (⟨#[]⟩ : ByteArray).toList))
              else
                (F18 n a0).bind fun r27 =>
                (F15 n r27.1).bind fun r28 =>
                (F19 n r27.1).bind fun r29 =>
                (F20 n a0).bind fun r30 =>
                (F6 n r30.1).bind fun r31 =>
                if (r28.2.1 == r29.2.1) = true then
                  if (!r28.2.1) = true then
                    if (!r31.2.1) = true then
                      some (true, ())
                    else
                      (F7 n r31.1).bind fun r32 =>
                      some (decide (r32.1.toList = r30.1.toList), ())
                  else
                    (F16 n r28.1).bind fun r33 =>
                    if (decide (r33.1.toList = r27.1.toList)) = true then
                      if (!r31.2.1) = true then
                        some (true, ())
                      else
                        (F7 n r31.1).bind fun r34 =>
                        some (decide (r34.1.toList = r30.1.toList), ())
                    else
                      some (false, ())
                else
                  some (false, ())
        else
          (F17 n r11.1).bind fun r35 =>
          if (!r35.1) = true then
            (F16 n r11.1).bind fun r36 =>
            j3_0 n a0 (!decide (r36.1.toList = (⟨#[]⟩ : ByteArray).toList))
          else
            (F18 n a0).bind fun r37 =>
            (F15 n r37.1).bind fun r38 =>
            (F19 n r37.1).bind fun r39 =>
            (F20 n a0).bind fun r40 =>
            (F6 n r40.1).bind fun r41 =>
            if (r38.2.1 == r39.2.1) = true then
              if (!r38.2.1) = true then
                if (!r41.2.1) = true then
                  some (true, ())
                else
                  (F7 n r41.1).bind fun r42 =>
                  some (decide (r42.1.toList = r40.1.toList), ())
              else
                (F16 n r38.1).bind fun r43 =>
                if (decide (r43.1.toList = r37.1.toList)) = true then
                  if (!r41.2.1) = true then
                    some (true, ())
                  else
                    (F7 n r41.1).bind fun r44 =>
                    some (decide (r44.1.toList = r40.1.toList), ())
                else
                  some (false, ())
            else
              some (false, ())
    else
      (F14 n a0).bind fun r45 =>
      (F16 n r45.1).bind fun r46 =>
      (F15 n r46.1).bind fun r47 =>
      (F17 n r45.1).bind fun r48 =>
      if r48.1 = true then
        if (!r47.2.1) = true then
          some (false, ())
        else
          (F16 n r47.1).bind fun r49 =>
          (F16 n r45.1).bind fun r50 =>
          if (!decide (r49.1.toList = r50.1.toList)) = true then
            some (false, ())
          else
            (F17 n r45.1).bind fun r51 =>
            if (!r51.1) = true then
              (F16 n r45.1).bind fun r52 =>
              j3_0 n a0 (!decide (r52.1.toList = (⟨#[]⟩ : ByteArray).toList))
            else
              (F18 n a0).bind fun r53 =>
              (F15 n r53.1).bind fun r54 =>
              (F19 n r53.1).bind fun r55 =>
              (F20 n a0).bind fun r56 =>
              (F6 n r56.1).bind fun r57 =>
              if (r54.2.1 == r55.2.1) = true then
                if (!r54.2.1) = true then
                  if (!r57.2.1) = true then
                    some (true, ())
                  else
                    (F7 n r57.1).bind fun r58 =>
                    some (decide (r58.1.toList = r56.1.toList), ())
                else
                  (F16 n r54.1).bind fun r59 =>
                  if (decide (r59.1.toList = r53.1.toList)) = true then
                    if (!r57.2.1) = true then
                      some (true, ())
                    else
                      (F7 n r57.1).bind fun r60 =>
                      some (decide (r60.1.toList = r56.1.toList), ())
                  else
                    some (false, ())
              else
                some (false, ())
      else
        (F17 n r45.1).bind fun r61 =>
        if (!r61.1) = true then
          (F16 n r45.1).bind fun r62 =>
          j3_0 n a0 (!decide (r62.1.toList = (⟨#[]⟩ : ByteArray).toList))
        else
          (F18 n a0).bind fun r63 =>
          (F15 n r63.1).bind fun r64 =>
          (F19 n r63.1).bind fun r65 =>
          (F20 n a0).bind fun r66 =>
          (F6 n r66.1).bind fun r67 =>
          if (r64.2.1 == r65.2.1) = true then
            if (!r64.2.1) = true then
              if (!r67.2.1) = true then
                some (true, ())
              else
                (F7 n r67.1).bind fun r68 =>
                some (decide (r68.1.toList = r66.1.toList), ())
            else
              (F16 n r64.1).bind fun r69 =>
              if (decide (r69.1.toList = r63.1.toList)) = true then
                if (!r67.2.1) = true then
                  some (true, ())
                else
                  (F7 n r67.1).bind fun r70 =>
                  some (decide (r70.1.toList = r66.1.toList), ())
              else
                some (false, ())
          else
            some (false, ())
abbrev Yes (r : Bool × Unit) : Prop := r = (true, ())
theorem cellT {n : Nat} (hn : 2000000 ≤ n) {x : ByteArray} {r : List Int × Bool × Unit} (q : r.2.1 = decide (x.size = 426) ∧ (x.size = 426 → cokB r.1 = true ∧ encL r.1 = x.data.toList)) :
    ok (if (!r.2.1) = true then some (true, ()) else (F7 n r.1).bind fun r24 => some (decide (r24.1.toList = x.toList), ())) Yes := by
  refine ok.iteb (fun _ => ok.some rfl) (fun h => ?_)
  have h : r.2.1 = true := by simpa using h
  have e := of_decide_eq_true (q.1.symm.trans h)
  refine (t7 hn (q.2 e).1).bind fun r24 q24 => ok.some ?_
  have : r24.1 = x := ba_ext (q24.trans (q.2 e).2)
  show (decide (r24.1.toList = x.toList), ()) = (true, ())
  rw [this, decide_eq_true rfl]
theorem jok {n : Nat} (hn : 2000000 ≤ n) {y : List Int} (hb : y.length ≤ 1048576) (hy : ∀ x ∈ y, 0 ≤ x ∧ x < 256) : ok (j3_0 n y false) Yes := by
  unfold j3_0
  refine ok.iteb (fun h => by cases h) (fun _ => (t18 hn hb hy).bind fun r19 q19 => ?_)
  by_cases hT : ∃ T, Txt n r19.1 T
  · obtain ⟨T, t⟩ := hT
    refine (t15c hn q19 t).bind fun r20 q20 => (t19c hn q19 t).bind fun r21 q21 => (t20 hn hb hy).bind fun r22 _ => (t6 hn).bind fun r23 q23 => ?_
    subst q20
    subst q21
    refine ok.iteb (fun _ => ok.iteb (fun h => by cases h) (fun _ => (t16 hn t.ok t.sz).bind fun r25 q25 => ok.ite (fun _ => cellT hn q23) (fun h => ?_))) (fun h => by cases h)
    exact absurd (by rw [show r25.1 = r19.1 from ba_ext (q25.1.trans t.tx)]) h
  · refine (t15 hn q19).bind fun r20 q20 => (t19 hn q19).bind fun r21 q21 => (t20 hn hb hy).bind fun r22 _ => (t6 hn).bind fun r23 q23 => ?_
    have e20 : r20.2.1 = false := by
      cases e : r20.2.1
      · rfl
      · have := q20 e
        exact absurd ⟨_, ⟨this.1, this.2.1, this.2.2⟩⟩ hT
    have e21 : r21.2.1 = false := by
      cases e : r21.2.1
      · rfl
      · have := q21 e
        exact absurd ⟨_, ⟨this.1, this.2.1, this.2.2⟩⟩ hT
    rw [e20, e21]
    exact ok.iteb (fun _ => ok.iteb (fun _ => cellT hn q23) (fun h => by cases h)) (fun h => by cases h)
theorem p14k {n : Nat} (hn : 2000000 ≤ n) {y : List Int} (hb : y.length ≤ 1048576) (hy : ∀ x ∈ y, 0 ≤ x ∧ x < 256) : ok (P14 n y) Yes := by
  unfold P14
  refine (t14 hn hb hy).bind fun r11 q11 => ?_
  have hs := q11.2.sz
  have hl : r11.1.length ≤ 1000 := by have := q11.1; omega
  by_cases hT : TOk n r11.1
  · refine (t16 hn hT hs).bind fun r12 q12 => (t15c hn (by omega) ⟨hT, hs, q12.1.symm⟩).bind fun r13 q13 => (t17 hn hl hs).bind fun r14 q14 => ?_
    subst q13
    refine ok.iteb (fun _ => ok.iteb (fun h => by cases h) (fun _ => (t16 hn hT hs).bind fun r15 q15 => (t16 hn hT hs).bind fun r16 q16 => ok.iteb (fun h => ?_) (fun _ => (t17 hn hl hs).bind fun r17 q17 => ok.iteb (fun h => ?_) (fun _ => ?_)))) (fun h => ?_)
    · rw [show r15.1 = r16.1 from ba_ext (q15.1.trans q16.1.symm), decide_eq_true rfl] at h
      cases h
    · rw [q17.2 hT] at h
      cases h
    · exact jok hn hb hy
    · rw [q14.2 hT] at h
      cases h
  · refine (t16n hn hT hs).bind fun r12 q12 => ?_
    subst q12
    refine (t15 hn (by decide)).bind fun r13 q13 => (t17 hn hl hs).bind fun r14 q14 => ok.iteb (fun h => absurd (q14.1 h) hT) (fun _ => (t17 hn hl hs).bind fun r35 q35 => ok.iteb (fun _ => (t16n hn hT hs).bind fun r36 q36 => ?_) (fun h => ?_))
    · subst q36
      have : (!decide ((⟨#[]⟩ : ByteArray).toList = (⟨#[]⟩ : ByteArray).toList)) = false := by rw [decide_eq_true rfl]; rfl
      show ok (j3_0 n y (!decide ((⟨#[]⟩ : ByteArray).toList = (⟨#[]⟩ : ByteArray).toList))) _
      rw [this]
      exact jok hn hb hy
    · exact absurd (q35.1 (by simpa using h)) hT
theorem p10k {n : Nat} (hn : 2000000 ≤ n) {y : List Int} (hb : y.length ≤ 1048576) (hy : ∀ x ∈ y, 0 ≤ x ∧ x < 256) : ok (P10 n y) Yes := by
  unfold P10
  refine (t10 hn hb hy).bind fun r7 q7 => ?_
  obtain ⟨k, s, w, v, u⟩ := r7
  have hs : s.size ≤ 1048576 := by have : s.size ≤ 5 := q7; omega
  by_cases hr : opB n k s w v = true
  · refine ok.run (f12_ok hn hs hr) ((t11c hn (a0 := opT k s w v) ⟨hr, hs, rfl⟩).bind fun r9 q9 => ok.run (f13 hn hs) ?_)
    subst q9
    refine ok.iteb (fun h => ?_) (fun _ => ok.iteb (fun _ => ok.iteb (fun h => ?_) (fun _ => p14k hn hb hy)) (fun h => by cases h))
    · have h : (!(true == opB n k s w v)) = true := h
      rw [hr] at h; cases h
    · have e : (decide (k = k) && (decide (s.toList = s.toList) && (decide (w = w) && (decide (v = v) && true)))) = true := by simp
      have h : (!(decide (k = k) && (decide (s.toList = s.toList) && (decide (w = w) && (decide (v = v) && true))))) = true := h
      rw [e] at h; cases h
  · have hr' : opB n k s w v = false := by simpa using hr
    refine ok.run (f12_no hn hs hr) ((t11s hn (a0 := ⟨#[]⟩) (by decide)).bind fun r9 q9 => ok.run (f13 hn hs) ?_)
    have e9 : r9.2.2.2.2.1 = false := by
      cases e : r9.2.2.2.2.1
      · rfl
      · have O := q9 e
        have := (opT_size (oOk hn O.2.1 O.1)).2
        rw [← O.2.2] at this
        exact absurd this (by decide)
    rw [e9]
    refine ok.iteb (fun h => ?_) (fun _ => ok.iteb (fun h => by cases h) (fun _ => p14k hn hb hy))
    have h : (!(false == opB n k s w v)) = true := h
    rw [hr'] at h; cases h
theorem t3 {n : Nat} (hn : 2000000 ≤ n) {y : List Int} (hy : ∀ x ∈ y, 0 ≤ x ∧ x < 256) : ok (F3 n y) Yes := by
  unfold F3 F4
  refine ok.run rfl (ok.ite (fun _ => ok.some rfl) (fun hb => ?_))
  have hb : y.length ≤ 1048576 := by omega
  refine (t5 hn hb hy).bind fun r2 q2 => ?_
  have hl : r2.1.length ≤ 1000 := by omega
  by_cases hc : cokB r2.1 = true
  · refine (t7 hn hc).bind fun r3 q3 => (t6 hn).bind fun r4 q4 => (t8 hn hl).bind fun r5 q5 => ?_
    subst q5
    have hz : r3.1.size = 426 := by
      have := size_list q3
      rw [encL_len, cok_len hc] at this
      exact this
    have e4 : r4.2.1 = true := q4.1.trans (decide_eq_true hz)
    have h4 := q4.2 hz
    have ec : r4.1 = r2.1 := encL_inj _ _ (cok_all h4.1) (cok_all hc) (h4.2.trans q3)
    rw [e4, ec, hc]
    refine ok.iteb (fun h => by cases h) (fun _ => ok.iteb (fun _ => (t9 hn hl).bind fun r6 q6 => ok.iteb (fun h => ?_) (fun _ => p10k hn hb hy)) (fun h => by cases h))
    rw [q6] at h; cases h
  · have hc : cokB r2.1 = false := by simpa using hc
    refine (t7n hn hl hc).bind fun r3 q3 => (t6 hn).bind fun r4 q4 => (t8 hn hl).bind fun r5 q5 => ?_
    subst q5
    have e4 : r4.2.1 = false := q4.1.trans (decide_eq_false (by rw [q3]; decide))
    rw [e4, hc]
    exact ok.iteb (fun h => by cases h) (fun _ => ok.iteb (fun h => by cases h) (fun _ => p10k hn hb hy))
theorem pureFnKept (y : List Int) (h1 : y.length ≤ maxLen) (h2 : ∀ b ∈ y, 0 ≤ b ∧ b < 256) : ∃ k, F3 k y = some (true, ()) := by
  obtain ⟨n, hn⟩ : ∃ n : Nat, 2000000 ≤ n := ⟨2000000, Nat.le_refl _⟩
  obtain ⟨r, h, e⟩ := t3 hn h2
  have e : r = (true, ()) := e
  subst e
  exact ⟨n, h⟩
end Go.Eva
end
