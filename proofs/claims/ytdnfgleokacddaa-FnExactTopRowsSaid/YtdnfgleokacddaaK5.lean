/- A verified evaluator of the translated code, part 5: EvaKd -/
import Derived.Test.YtdnfgleokacddaaK4
section
/- rotateCmpFunc walked. -/
namespace Go.Eva
open Go.Proofs Go.Shelf
open Go.RowKit Go.Lib Go.Sort
set_option linter.unusedVariables false
set_option linter.unusedSimpArgs false
set_option maxRecDepth 100000
set_option maxHeartbeats 2000000 in
theorem rot27 {k blk off cap N a m b : Nat} {l0 P U V Q : List Tr} {w0 w : World} (zE : ∀ w, (Go.sizeOf 34).run Try.prog w = .ok k w) (R : RL k w0 blk off l0) (hs : l0.length = N) (hU : 1 ≤ U.length) (hV : 1 ≤ V.length) (ha : a = P.length) (hm : m = a + U.length) (hb : b = m + V.length) (hl : (P ++ (U ++ (V ++ Q))).length = N) (S0 : SL k w0 blk off (P ++ (U ++ (V ++ Q))) w) (hsz : N < 4611686018427387904) :
    Calls Try.prog 27 #[.slice (some ⟨blk, off, none⟩) N cap, .int .i64 a, .int .i64 m, .int .i64 b, cmpV] w fun e w' => e = unitR ∧ SL k w0 blk off (P ++ (V ++ (U ++ Q))) w' := by
  have mixed : Try.prog.follows .mixedOrders = true := by kernel_rfl
  obtain ⟨T, hT⟩ : ∃ T, T = P ++ (V ++ (U ++ Q)) := ⟨_, rfl⟩
  rw [← hT]
  have hTl : T.length = N := by rw [hT, ← hl]; simp only [List.length_append]; omega
  have hmN : m ≤ N := by rw [← hl]; simp only [List.length_append]; omega
  have hbN : b ≤ N := by rw [← hl]; simp only [List.length_append]; omega
  have e1 : (m : Int) - (a : Int) = (U.length : Nat) := by omega
  have e2 : (b : Int) - (m : Int) = (V.length : Nat) := by omega
  have r1 : IntKind.i64.wrap ((m : Int) - (a : Int)) = (U.length : Nat) := by rw [IntKind.wrap_i64]; omega
  have r2 : IntKind.i64.wrap ((b : Int) - (m : Int)) = (V.length : Nat) := by rw [IntKind.wrap_i64]; omega
  have INV : Hid (∃ P' U' V' Q' : List Tr, U'.length = U.length ∧ V'.length = V.length ∧ 1 ≤ U.length ∧ 1 ≤ V.length ∧ m = P'.length + U.length ∧ SL k w0 blk off (P' ++ (U' ++ (V' ++ Q'))) w ∧ T = P' ++ (V' ++ (U' ++ Q'))) := ⟨P, U, V, Q, rfl, rfl, hU, hV, by omega, S0, hT⟩
  have CALL : Hid (∀ (wr : World) (P' X Y Z Q' : List Tr) (n a' b' : Nat), SL k w0 blk off (P' ++ (X ++ (Y ++ (Z ++ Q')))) wr → X.length = n → Z.length = n → a' = P'.length → b' = P'.length + n + Y.length → (P' ++ (X ++ (Y ++ (Z ++ Q')))).length = N →
      Calls Try.prog 28 #[.slice (some ⟨blk, off, none⟩) N cap, .int .i64 a', .int .i64 b', .int .i64 n, cmpV] wr fun e w' => e = unitR ∧ SL k w0 blk off (P' ++ (Z ++ (Y ++ (X ++ Q')))) w') :=
    ⟨fun wr P' X Y Z Q' n a' b' q1 q2 q3 q4 q5 q6 => swr28 (cap := cap) zE R hs q2 q3 q4 q5 q6 q1 hsz⟩
  have HTL := Hid.mk hTl
  obtain ⟨i0, hi0⟩ : ∃ i0, i0 = U.length := ⟨_, rfl⟩
  obtain ⟨j0, hj0⟩ : ∃ j0, j0 = V.length := ⟨_, rfl⟩
  rw [← hi0] at r1 INV
  rw [← hj0] at r2 INV
  clear S0 R hs hU hV ha hm hb hl hT hTl hi0 hj0 e1 e2 zE
  go_enter Try.func27, Try.ntmps27
  go_wp2
  go_loopg [10, 11] (i0 + j0) (fun kx s10 s11 wr => ∃ i j : Nat, s10 = .int .i64 (i : Int) ∧ s11 = .int .i64 (j : Int) ∧ i + j ≤ kx ∧ Hid (∃ P' U' V' Q' : List Tr, U'.length = i ∧ V'.length = j ∧ 1 ≤ i ∧ 1 ≤ j ∧ m = P'.length + i ∧ SL k w0 blk off (P' ++ (U' ++ (V' ++ Q'))) wr ∧ T = P' ++ (V' ++ (U' ++ Q'))))
  case atStart => exact ⟨i0, j0, rfl, rfl, Nat.le_refl _, INV⟩
  case round =>
    clear INV
    obtain ⟨i, j, rfl, rfl, hk, INV⟩ := hrel
    obtain ⟨P', U', V', Q', hU, hV, hi1, hj1, hm, S1, hT⟩ := INV.out
    have hTl := HTL.out
    have hTl' : P'.length + j + i + Q'.length = N := by rw [← hTl, hT]; simp only [List.length_append]; omega
    by_cases hij : i = j
    · subst hij
      have hC := CALL.out wr P' U' [] V' Q' i (m - i) m (by simpa using S1) hU hV (by omega) (by simp; omega) (by simp only [List.length_append, List.length_nil]; omega)
      have hc1 : ((m - i : Nat) : Int) = (m : Int) - (i : Int) := by omega
      rw [hc1] at hC
      have HC := Hid.mk hC
      have rm : IntKind.i64.wrap ((m : Int) - (i : Int)) = (m : Int) - (i : Int) := by rw [IntKind.wrap_i64]; omega
      have HT := Hid.mk hT
      clear hC hT hTl hTl' hm hU hV S1 INV hc1
      go_wp2_with (go_at_call 28; (with_reducible refine HC.out.mono ?_); rintro e w' ⟨rfl, ho⟩; have HO := Hid.mk ho; clear ho)
      go_end0
      refine ⟨rfl, ?_⟩
      rw [HT.out]
      have := HO.out
      simpa using this
    · have hne : ¬ ((i : Int) = (j : Int)) := by omega
      have hne1 : ((i : Int) != (j : Int)) = true := by simp; omega
      have hne2 : ((i : Int) == (j : Int)) = false := by simp; omega
      have rm : IntKind.i64.wrap ((m : Int) - (i : Int)) = (m : Int) - (i : Int) := by rw [IntKind.wrap_i64]; omega
      by_cases hgt : j < i
      · have hz : (j : Int) < (i : Int) := by omega
        have hC := CALL.out wr P' (U'.take j) (U'.drop j) V' Q' j (m - i) m (by rw [← List.append_assoc (U'.take j), List.take_append_drop]; exact S1) (by rw [List.length_take]; omega) hV (by omega) (by rw [List.length_drop]; omega) (by simp only [List.length_append, List.length_take, List.length_drop]; omega)
        have hc1 : ((m - i : Nat) : Int) = (m : Int) - (i : Int) := by omega
        rw [hc1] at hC
        have HC := Hid.mk hC
        have rj : IntKind.i64.wrap ((i : Int) - (j : Int)) = ((i - j : Nat) : Int) := by rw [IntKind.wrap_i64]; omega
        have HN : Hid (∀ w', SL k w0 blk off (P' ++ (V' ++ (U'.drop j ++ (U'.take j ++ Q')))) w' → ∃ P1 U1 V1 Q1 : List Tr, U1.length = i - j ∧ V1.length = j ∧ 1 ≤ i - j ∧ 1 ≤ j ∧ m = P1.length + (i - j) ∧ SL k w0 blk off (P1 ++ (U1 ++ (V1 ++ Q1))) w' ∧ T = P1 ++ (V1 ++ (U1 ++ Q1))) := ⟨fun w' h => ⟨P' ++ V', U'.drop j, U'.take j, Q', by rw [List.length_drop, hU], by rw [List.length_take]; omega, by omega, hj1, by rw [List.length_append]; omega, by rw [List.append_assoc]; exact h, by rw [hT, List.append_assoc, ← List.append_assoc (U'.take j), List.take_append_drop]⟩⟩
        have hmes : i - j + j < i + j := by omega
        clear hC hT hTl hTl' hm hU hV S1 INV hc1
        go_wp2_with (go_at_call 28; (with_reducible refine HC.out.mono ?_); rintro e w' ⟨rfl, ho⟩; have HO := Hid.mk ho; clear ho)
        go_roundg (i - j + j)
        case measure => omega
        case rel => exact ⟨i - j, j, by first | rfl | (simp only [rj]), rfl, Nat.le_refl _, ⟨HN.out _ HO.out⟩⟩
      · have hz : ¬ (j : Int) < (i : Int) := by omega
        have hz' : (i : Int) ≤ (j : Int) := by omega
        have hC := CALL.out wr P' U' (V'.take (j - i)) (V'.drop (j - i)) Q' i (m - i) (m + j - i) (by rw [← List.append_assoc (V'.take (j - i)), List.take_append_drop]; exact S1) hU (by rw [List.length_drop]; omega) (by omega) (by rw [List.length_take]; omega) (by simp only [List.length_append, List.length_take, List.length_drop]; omega)
        have hc1 : ((m - i : Nat) : Int) = (m : Int) - (i : Int) := by omega
        have hc2 : ((m + j - i : Nat) : Int) = (m : Int) + (j : Int) - (i : Int) := by omega
        rw [hc1, hc2] at hC
        have HC := Hid.mk hC
        have rj : IntKind.i64.wrap ((j : Int) - (i : Int)) = ((j - i : Nat) : Int) := by rw [IntKind.wrap_i64]; omega
        have r3 : IntKind.i64.wrap ((m : Int) + (j : Int)) = (m : Int) + (j : Int) := by rw [IntKind.wrap_i64]; omega
        have r4 : IntKind.i64.wrap ((m : Int) + (j : Int) - (i : Int)) = (m : Int) + (j : Int) - (i : Int) := by rw [IntKind.wrap_i64]; omega
        have HN : Hid (∀ w', SL k w0 blk off (P' ++ (V'.drop (j - i) ++ (V'.take (j - i) ++ (U' ++ Q')))) w' → ∃ P1 U1 V1 Q1 : List Tr, U1.length = i ∧ V1.length = j - i ∧ 1 ≤ i ∧ 1 ≤ j - i ∧ m = P1.length + i ∧ SL k w0 blk off (P1 ++ (U1 ++ (V1 ++ Q1))) w' ∧ T = P1 ++ (V1 ++ (U1 ++ Q1))) := ⟨fun w' h => ⟨P', V'.drop (j - i), V'.take (j - i), U' ++ Q', by rw [List.length_drop]; omega, by rw [List.length_take]; omega, hi1, by omega, hm, h, by rw [hT, ← List.append_assoc (V'.take (j - i)), List.take_append_drop]⟩⟩
        have hmes : i + (j - i) < i + j := by omega
        clear hC hT hTl hTl' hm hU hV S1 INV hc1 hc2
        go_wp2_with (go_at_call 28; (with_reducible refine HC.out.mono ?_); rintro e w' ⟨rfl, ho⟩; have HO := Hid.mk ho; clear ho)
        go_roundg (i + (j - i))
        case measure => omega
        case rel => exact ⟨i, j - i, rfl, by first | rfl | (simp only [rj]), Nat.le_refl _, ⟨HN.out _ HO.out⟩⟩
end Go.Eva
end
