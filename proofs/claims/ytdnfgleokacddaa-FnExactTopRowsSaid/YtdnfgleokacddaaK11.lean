/- A verified evaluator of the translated code, part 11: EvaKi -/
import Derived.Test.YtdnfgleokacddaaK10
section
/- symMergeCmpFunc, stableCmpFunc, SortStableFunc: a list of rows sorted. -/
namespace Go.Eva
open Go.Proofs Go.Shelf
open Go.RowKit Go.Lib Go.Sort
set_option linter.unusedVariables false
set_option linter.unusedSimpArgs false
set_option maxRecDepth 100000
theorem sym26 {k blk off cap N : Nat} {l0 : List Tr} {w0 : World} (zE : ∀ w, (Go.sizeOf 34).run Try.prog w = .ok k w) (hC : CmpLays Try.prog 17 #[] encR k cfR blk off l0.toArray.size w0) (R : RL k w0 blk off l0) (hs : l0.length = N) (hsz : N < 4611686018427387904) :
    ∀ (d : Nat) (wr : World) (a' m' b' : Nat) (P' A' B' Q' : List Tr), b' - a' ≤ d → Srt rkR A' → Srt rkR B' → 1 ≤ A'.length → 1 ≤ B'.length → a' = P'.length → m' = a' + A'.length → b' = m' + B'.length → (P' ++ (A' ++ (B' ++ Q'))).length = N → SL k w0 blk off (P' ++ (A' ++ (B' ++ Q'))) wr →
      Calls Try.prog 26 #[.slice (some ⟨blk, off, none⟩) N cap, .int .i64 a', .int .i64 m', .int .i64 b', cmpV] wr fun e w' => e = unitR ∧ SL k w0 blk off (P' ++ (mrg rkR A' B' ++ Q')) w'
  | 0, wr, a, m, b, P, A, B, Q, hd, hA, hB, hA1, hB1, ha, hm, hb, hl, S0 => by omega
  | d + 1, wr, a, m, b, P, A, B, Q, hd, hA, hB, hA1, hB1, ha, hm, hb, hl, S0 => by
    by_cases h1 : A.length = 1
    · obtain ⟨x, rfl⟩ := List.length_eq_one_iff.1 h1
      exact sym1 (cap := cap) zE hC R hs hB ha (by simpa using hm) hb hl S0 hsz
    · by_cases h2 : B.length = 1
      · obtain ⟨y, rfl⟩ := List.length_eq_one_iff.1 h2
        exact sym2 (cap := cap) zE hC R hs hA (by omega) ha hm (by simpa using hb) hl S0 hsz
      · have IH : ∀ (wr : World) (a' m' b' : Nat) (P' A' B' Q' : List Tr), Srt rkR A' → Srt rkR B' → 1 ≤ A'.length → 1 ≤ B'.length → a' = P'.length → m' = a' + A'.length → b' = m' + B'.length → (P' ++ (A' ++ (B' ++ Q'))).length = N → b' - a' < b - a → SL k w0 blk off (P' ++ (A' ++ (B' ++ Q'))) wr →
            Calls Try.prog 26 #[.slice (some ⟨blk, off, none⟩) N cap, .int .i64 a', .int .i64 m', .int .i64 b', cmpV] wr fun e w' => e = unitR ∧ SL k w0 blk off (P' ++ (mrg rkR A' B' ++ Q')) w' :=
          fun wr a' m' b' P' A' B' Q' q1 q2 q3 q4 q5 q6 q7 q8 q9 q10 => sym26 zE hC R hs hsz d wr a' m' b' P' A' B' Q' (by omega) q1 q2 q3 q4 q5 q6 q7 q8 q10
        by_cases hg : (a + b) / 2 < m
        · exact sym3b (cap := cap) zE hC R hs hA hB (by omega) (by omega) ha hm hb hl rfl hg S0 hsz IH
        · exact sym3a (cap := cap) zE hC R hs hA hB (by omega) (by omega) ha hm hb hl rfl (by omega) S0 hsz IH
set_option maxHeartbeats 4000000 in
theorem stab23 {blk off cap N : Nat} {l0 l : List Tr} {w0 w : World} (R : RL 10 w0 blk off l0) (hs : l0.length = N) (hl : l.length = N) (S0 : SL 10 w0 blk off l w) (hsz : N < 2000000000000) :
    Calls Try.prog 23 #[.slice (some ⟨blk, off, none⟩) N cap, .int .i64 N, cmpV] w fun e w' => e = unitR ∧ SL 10 w0 blk off (S rkR l) w' := by
  have mixed : Try.prog.follows .mixedOrders = true := by kernel_rfl
  have HINS : Hid (∀ (wr : World) (P X Q : List Tr) (a b : Nat), SL 10 w0 blk off (P ++ (X ++ Q)) wr → (P ++ (X ++ Q)).length = N → a = P.length → b = a + X.length → Calls Try.prog 25 #[.slice (some ⟨blk, off, none⟩) N cap, .int .i64 a, .int .i64 b, cmpV] wr fun e w' => e = unitR ∧ SL 10 w0 blk off (P ++ (S rkR X ++ Q)) w') := ⟨fun wr P X Q a b h1 h2 h3 h4 => by
    have := ins25 (cap := cap) R (by rw [h2, hs]) h1 (by omega)
    rw [hs] at this
    rw [h4, h3]
    exact this⟩
  have HSYM : Hid (∀ (wr : World) (a' m' b' : Nat) (P' A' B' Q' : List Tr), Srt rkR A' → Srt rkR B' → 1 ≤ A'.length → 1 ≤ B'.length → a' = P'.length → m' = a' + A'.length → b' = m' + B'.length → (P' ++ (A' ++ (B' ++ Q'))).length = N → SL 10 w0 blk off (P' ++ (A' ++ (B' ++ Q'))) wr →
      Calls Try.prog 26 #[.slice (some ⟨blk, off, none⟩) N cap, .int .i64 a', .int .i64 m', .int .i64 b', cmpV] wr fun e w' => e = unitR ∧ SL 10 w0 blk off (P' ++ (mrg rkR A' B' ++ Q')) w') :=
    ⟨fun wr a' m' b' P' A' B' Q' q1 q2 q3 q4 q5 q6 q7 q8 q10 => sym26 size34 (cmpLays blk off _ w0) R hs (by omega) (b' - a') wr a' m' b' P' A' B' Q' (Nat.le_refl _) q1 q2 q3 q4 q5 q6 q7 q8 q10⟩
  have HL := Hid.mk hl
  have S1 : Hid (∃ P : List Tr, P.length = 0 ∧ SL 10 w0 blk off (P ++ l.drop 0) w ∧ P ++ RR rkR 20 (l.drop 0) = RR rkR 20 l) := ⟨[], rfl, S0, rfl⟩
  clear S0 R hs hl
  go_enter Try.func23, Try.ntmps23
  go_wp2
  go_loopg [7, 8] N (fun kx s7 s8 wr => ∃ a b : Nat, s7 = .int .i64 (a : Int) ∧ s8 = .int .i64 (b : Int) ∧ b = a + 20 ∧ a ≤ N ∧ N - a ≤ kx ∧ Hid (∃ P : List Tr, P.length = a ∧ SL 10 w0 blk off (P ++ l.drop a) wr ∧ P ++ RR rkR 20 (l.drop a) = RR rkR 20 l))
  case atStart => exact ⟨0, 20, rfl, rfl, rfl, Nat.zero_le _, by omega, S1⟩
  case round =>
    clear S1
    obtain ⟨a, b, rfl, rfl, hb, haN, hk, S1⟩ := hrel
    obtain ⟨P, hP, hS, hR⟩ := S1.out
    have hl := HL.out
    by_cases hlt : b ≤ N
    · have hz : (b : Int) ≤ (N : Int) := by omega
      have hC := HINS.out wr P ((l.drop a).take 20) (l.drop b) a b (by rw [hb, ← List.drop_drop, List.take_append_drop]; exact hS) (by simp only [List.length_append, List.length_take, List.length_drop]; omega) hP.symm (by simp only [List.length_take, List.length_drop]; omega)
      have HC := Hid.mk hC
      have HN : Hid (∀ w', SL 10 w0 blk off (P ++ (S rkR ((l.drop a).take 20) ++ l.drop b)) w' → ∃ P1 : List Tr, P1.length = b ∧ SL 10 w0 blk off (P1 ++ l.drop b) w' ∧ P1 ++ RR rkR 20 (l.drop b) = RR rkR 20 l) := ⟨fun w' h => ⟨P ++ S rkR ((l.drop a).take 20), by rw [List.length_append, S_len]; simp only [List.length_take, List.length_drop]; omega, by rw [List.append_assoc]; exact h, by rw [← hR, RR_cut rkR (by decide) (l.drop a), List.drop_drop, ← hb, List.append_assoc]⟩⟩
      have rb : IntKind.i64.wrap ((b : Int) + 20) = ((b + 20 : Nat) : Int) := by rw [IntKind.wrap_i64]; omega
      have hmes : N - b < N - a := by omega
      clear hC hS hR hP S1 hl hb
      go_wp2_with (go_at_call 25; (with_reducible refine HC.out.mono ?_); rintro e w' ⟨rfl, ho⟩; have HO := Hid.mk ho; clear ho)
      go_roundg (N - b)
      case measure => omega
      case rel => exact ⟨b, b + 20, rfl, by first | rfl | (simp only [rb]) | (push_cast; rfl), rfl, hlt, Nat.le_refl _, ⟨HN.out _ HO.out⟩⟩
    · have hz : ¬ ((b : Int) ≤ (N : Int)) := by omega
      have hC := HINS.out wr P (l.drop a) [] a N (by rw [List.append_nil]; exact hS) (by simp only [List.length_append, List.length_drop, List.length_nil]; omega) hP.symm (by simp only [List.length_drop]; omega)
      have HC := Hid.mk hC
      have HN : Hid (∀ w', SL 10 w0 blk off (P ++ (S rkR (l.drop a) ++ [])) w' → SL 10 w0 blk off (RR rkR 20 l) w') := ⟨fun w' h => by
        rw [← hR, RR_one rkR (by decide) (by rw [List.length_drop]; omega)]
        rw [List.append_nil] at h
        exact h⟩
      clear hC hS hR hP S1 hl hb hk
      go_wp2_with (go_at_call 25; (with_reducible refine HC.out.mono ?_); rintro e w1 ⟨rfl, ho⟩; have HO := Hid.mk (HN.out _ ho); clear ho)
      go_loopg [6] N (fun kx s6 wr => ∃ q : Nat, s6 = .int .i64 (q : Int) ∧ 1 ≤ q ∧ q ≤ 20 + 2 * N ∧ N - q ≤ kx ∧ Hid (SL 10 w0 blk off (RR rkR q l) wr))
      case atStart => exact ⟨20, rfl, by decide, by omega, by omega, HO⟩
      case round =>
        clear HO HC HN
        obtain ⟨q, rfl, hq1, hq2, hk2, S2⟩ := hrel
        have hl := HL.out
        by_cases hlt2 : q < N
        · have hz2 : (q : Int) < (N : Int) := by omega
          obtain ⟨q2, hq2e⟩ : ∃ q2, q2 = 2 * q := ⟨_, rfl⟩
          have z2 : 2 * (q : Int) = (q2 : Int) := by omega
          have z2' : (q : Int) * 2 = (q2 : Int) := by omega
          have r2 : IntKind.i64.wrap (2 * (q : Int)) = (q2 : Int) := by rw [IntKind.wrap_i64]; omega
          have r2' : IntKind.i64.wrap ((q : Int) * 2) = (q2 : Int) := by rw [IntKind.wrap_i64]; omega
          have w2 : IntKind.i64.wrap (q2 : Int) = (q2 : Int) := by rw [IntKind.wrap_i64]; omega
          have S3 : Hid (∃ P : List Tr, P.length = 0 ∧ SL 10 w0 blk off (P ++ RR rkR q (l.drop 0)) wr ∧ P ++ RR rkR q2 (l.drop 0) = RR rkR q2 l) := ⟨[], rfl, S2.out, rfl⟩
          have HQ2 := Hid.mk hq2e
          have hq2b : q2 ≤ 2 * N := by omega
          clear S2 hl hq2e
          go_wp2
          go_loopg [7, 8] N (fun kx s7 s8 wr => ∃ a b : Nat, s7 = .int .i64 (a : Int) ∧ s8 = .int .i64 (b : Int) ∧ b = a + q2 ∧ a ≤ N ∧ N - a ≤ kx ∧ Hid (∃ P : List Tr, P.length = a ∧ SL 10 w0 blk off (P ++ RR rkR q (l.drop a)) wr ∧ P ++ RR rkR q2 (l.drop a) = RR rkR q2 l))
          case atStart => exact ⟨0, q2, rfl, by first | rfl | simp, by omega, Nat.zero_le _, by omega, S3⟩
          case round =>
            clear S3
            obtain ⟨a, b, rfl, rfl, hb, haN, hk3, S1⟩ := hrel
            obtain ⟨P, hP, hS, hR⟩ := S1.out
            have hl := HL.out
            have hq2e := HQ2.out
            obtain ⟨m, hm⟩ : ∃ m, m = a + q := ⟨_, rfl⟩
            have zm : (a : Int) + (q : Int) = (m : Int) := by omega
            have rm : IntKind.i64.wrap ((a : Int) + (q : Int)) = (m : Int) := by rw [IntKind.wrap_i64]; omega
            have wm : IntKind.i64.wrap (m : Int) = (m : Int) := by rw [IntKind.wrap_i64]; omega
            have hS' := hS
            rw [RR_two rkR hq1 (l.drop a), ← hq2e] at hS'
            by_cases hlt3 : b ≤ N
            · have hz3 : (b : Int) ≤ (N : Int) := by omega
              have hC := HSYM.out wr a m b P (S rkR ((l.drop a).take q)) (S rkR (((l.drop a).drop q).take q)) (RR rkR q ((l.drop a).drop q2)) (S_srt rkR _) (S_srt rkR _) (by rw [S_len]; simp only [List.length_take, List.length_drop]; omega) (by rw [S_len]; simp only [List.length_take, List.length_drop]; omega) hP.symm (by rw [S_len]; simp only [List.length_take, List.length_drop]; omega) (by rw [S_len]; simp only [List.length_take, List.length_drop]; omega) (by
                have e := congrArg List.length (RR_two rkR hq1 (l.drop a))
                have e2 : (RR rkR q (l.drop a)).length = (l.drop a).length := RR_len rkR hq1 _
                rw [← hq2e] at e
                rw [List.length_append, ← e, e2, List.length_drop]; omega) hS'
              have HC := Hid.mk hC
              have HN : Hid (∀ w', SL 10 w0 blk off (P ++ (mrg rkR (S rkR ((l.drop a).take q)) (S rkR (((l.drop a).drop q).take q)) ++ RR rkR q ((l.drop a).drop q2))) w' → ∃ P1 : List Tr, P1.length = b ∧ SL 10 w0 blk off (P1 ++ RR rkR q (l.drop b)) w' ∧ P1 ++ RR rkR q2 (l.drop b) = RR rkR q2 l) := ⟨fun w' h => by
                rw [S_two, ← hq2e, List.drop_drop, ← hb] at h
                refine ⟨P ++ S rkR ((l.drop a).take q2), by rw [List.length_append, S_len]; simp only [List.length_take, List.length_drop]; omega, by rw [List.append_assoc]; exact h, ?_⟩
                rw [← hR, RR_cut rkR (by omega) (l.drop a), List.drop_drop, ← hb, List.append_assoc]⟩
              obtain ⟨b2, hb2⟩ : ∃ b2, b2 = b + q2 := ⟨_, rfl⟩
              have zb : (b : Int) + (q2 : Int) = (b2 : Int) := by omega
              have rb : IntKind.i64.wrap ((b : Int) + (q2 : Int)) = (b2 : Int) := by rw [IntKind.wrap_i64]; omega
              have wb : IntKind.i64.wrap (b2 : Int) = (b2 : Int) := by rw [IntKind.wrap_i64]; omega
              have hmes : N - b < N - a := by omega
              have HB2 := Hid.mk hb2
              clear hC hS hS' hR hP S1 hl hm hq2e hb2 hb
              go_wp2_with (go_at_call 26; (with_reducible refine HC.out.mono ?_); rintro e w' ⟨rfl, ho⟩; have HO := Hid.mk ho; clear ho)
              go_roundg (N - b)
              case measure => omega
              case rel => exact ⟨b, b2, rfl, by first | rfl | simp, HB2.out, hlt3, Nat.le_refl _, ⟨HN.out _ HO.out⟩⟩
            · have hz3 : ¬ ((b : Int) ≤ (N : Int)) := by omega
              have hmes : N - q2 < N - q := by omega
              by_cases hmN : m < N
              · have hz4 : (m : Int) < (N : Int) := by omega
                have e1 : ((l.drop a).drop q).take q = (l.drop a).drop q := List.take_of_length_le (by simp only [List.length_drop]; omega)
                have e2 : (l.drop a).drop q2 = [] := List.drop_eq_nil_of_le (by simp only [List.length_drop]; omega)
                have e3 : RR rkR q ([] : List Tr) = [] := rfl
                rw [e1, e2, e3] at hS'
                have hC := HSYM.out wr a m N P (S rkR ((l.drop a).take q)) (S rkR ((l.drop a).drop q)) [] (S_srt rkR _) (S_srt rkR _) (by rw [S_len]; simp only [List.length_take, List.length_drop]; omega) (by rw [S_len]; simp only [List.length_drop]; omega) hP.symm (by rw [S_len]; simp only [List.length_take, List.length_drop]; omega) (by rw [S_len]; simp only [List.length_drop]; omega) (by simp only [List.length_append, S_len, List.length_take, List.length_drop, List.length_nil]; omega) hS'
                have HC := Hid.mk hC
                have HN : Hid (∀ w', SL 10 w0 blk off (P ++ (mrg rkR (S rkR ((l.drop a).take q)) (S rkR ((l.drop a).drop q)) ++ [])) w' → SL 10 w0 blk off (RR rkR q2 l) w') := ⟨fun w' h => by
                  rw [← S_append, List.take_append_drop, List.append_nil] at h
                  rw [← hR, RR_one rkR (by omega) (by simp only [List.length_drop]; omega)]
                  exact h⟩
                clear hC hS hS' hR hP S1 hl hm hq2e e1 e2 e3 hb
                go_wp2_with (go_at_call 26; (with_reducible refine HC.out.mono ?_); rintro e w' ⟨rfl, ho⟩; have HO := Hid.mk (HN.out _ ho); clear ho)
                go_roundg (N - q2)
                case measure => omega
                case rel => exact ⟨q2, by first | rfl | simp, by omega, by omega, Nat.le_refl _, HO⟩
              · have hz4 : ¬ ((m : Int) < (N : Int)) := by omega
                have HO : Hid (SL 10 w0 blk off (RR rkR q2 l) wr) := ⟨by
                  rw [← hR, RR_one rkR (by omega) (by simp only [List.length_drop]; omega)]
                  rw [RR_one rkR hq1 (by simp only [List.length_drop]; omega)] at hS
                  exact hS⟩
                clear hS hS' hR hP S1 hl hm hq2e hb
                go_wp2
                go_roundg (N - q2)
                case measure => omega
                case rel => exact ⟨q2, by first | rfl | simp, by omega, by omega, Nat.le_refl _, HO⟩
        · have hz2 : ¬ ((q : Int) < (N : Int)) := by omega
          have HO : Hid (SL 10 w0 blk off (S rkR l) wr) := ⟨by
            have := S2.out
            rw [RR_one rkR hq1 (by omega)] at this
            exact this⟩
          clear S2 hl
          go_wp2
          go_end0
          exact ⟨rfl, HO.out⟩
end Go.Eva
end
