/- A verified evaluator of the translated code, part 7: EvaKf -/
import Derived.Test.YtdnfgleokacddaaK6
import Derived.BigFrame
section
/- symMergeCmpFunc walked: one row on the right. -/
namespace Go.Eva
open Go.Proofs Go.Shelf
open Go.RowKit Go.Lib Go.Sort
set_option linter.unusedVariables false
set_option linter.unusedSimpArgs false
set_option maxRecDepth 100000

set_option maxHeartbeats 4000000 in
theorem sym2 {k blk off cap N a m b : Nat} {y : Tr} {l0 P A Q : List Tr} {w0 w : World} (zE : ∀ w, (Go.sizeOf 34).run Try.prog w = .ok k w) (hC : CmpLays Try.prog 17 #[] encR k cfR blk off l0.toArray.size w0) (R : RL k w0 blk off l0) (hs : l0.length = N) (hA : Srt rkR A) (hA2 : 2 ≤ A.length) (ha : a = P.length) (hm : m = a + A.length) (hb : b = m + 1) (hl : (P ++ (A ++ (y :: Q))).length = N) (S0 : SL k w0 blk off (P ++ (A ++ (y :: Q))) w) (hsz : N < 4611686018427387904) :
    Calls Try.prog 26 #[.slice (some ⟨blk, off, none⟩) N cap, .int .i64 a, .int .i64 m, .int .i64 b, cmpV] w fun e w' => e = unitR ∧ SL k w0 blk off (P ++ (mrg rkR A [y] ++ Q)) w' := by
  have mixed : Try.prog.follows .mixedOrders = true := by kernel_rfl
  have aE := agg34
  have eg := Try.call17
  have hbN : b ≤ N := by rw [← hl]; simp only [List.length_append, List.length_cons]; omega
  have hmN : m < N := by omega
  have r1 : IntKind.i64.wrap ((m : Int) - (a : Int)) = (m : Int) - (a : Int) := by rw [IntKind.wrap_i64]; omega
  have r2 : IntKind.i64.wrap ((b : Int) - (m : Int)) = 1 := by rw [IntKind.wrap_i64]; omega
  have hm1 : ¬ ((m : Int) - (a : Int) = 1) := by omega
  have hm1b : (((m : Int) - (a : Int)) == 1) = false := by simp; omega
  have hm2 : (b : Int) - (m : Int) = 1 := by omega
  have ham : a ≤ m := by omega
  have S1 : Hid (SL k w0 blk off (P ++ (A ++ (y :: Q))) w) := ⟨S0⟩
  have RR : Hid (RL k w0 blk off l0) := ⟨R⟩
  have HC := Hid.mk hC
  have HA := Hid.mk ha
  have HM := Hid.mk hm
  have HBL := Hid.mk hb
  have HSS := Hid.mk hs
  have HL := Hid.mk hl
  have HAA := Hid.mk hA
  clear S0 R hC ha hm hb hs hl hA hA2
  go_enter Try.func26, Try.ntmps26
  go_wp2
  go_loopg [14, 15] (m - a) (fun kx s10 s11 wr => ∃ i j : Nat, s10 = .int .i64 (i : Int) ∧ s11 = .int .i64 (j : Int) ∧ a ≤ i ∧ i ≤ j ∧ j ≤ m ∧ j - i ≤ kx ∧ Hid (SL k w0 blk off (P ++ (A ++ (y :: Q))) wr) ∧ Hid ((i = a ∨ ∃ z, A[i - 1 - a]? = some z ∧ lt rkR y z = false) ∧ (j = m ∨ ∃ z, A[j - a]? = some z ∧ lt rkR y z = true)))
  case atStart => exact ⟨a, m, rfl, rfl, Nat.le_refl _, ham, Nat.le_refl _, Nat.le_refl _, S1, ⟨.inl rfl, .inl rfl⟩⟩
  case round =>
    clear S1
    obtain ⟨i, j, rfl, rfl, him, hij, hjb, hk, S1, HE⟩ := hrel
    by_cases hlt : i < j
    · have hz : (i : Int) < (j : Int) := by omega
      obtain ⟨z, hy⟩ : ∃ z, A[(i + j) / 2 - a]? = some z := by
        have := HM.out
        exact ⟨A[(i + j) / 2 - a]'(by omega), List.getElem?_eq_getElem (by omega)⟩
      have hJ : (P ++ (A ++ (y :: Q)))[(i + j) / 2]? = some z := by
        have := HA.out
        have hlA : (i + j) / 2 - a < A.length := (List.getElem?_eq_some_iff.1 hy).1
        rw [List.getElem?_append_right (by omega), show (i + j) / 2 - P.length = (i + j) / 2 - a by omega, List.getElem?_append_left hlA]
        exact hy
      have hJ := (List.getElem?_eq_some_iff.1 hJ).2
      have hI : (P ++ (A ++ (y :: Q)))[m]? = some y := by
        have := HA.out
        have := HM.out
        rw [List.getElem?_append_right (by omega), List.getElem?_append_right (by omega), show m - P.length - A.length = 0 by omega]
        rfl
      have hI := (List.getElem?_eq_some_iff.1 hI).2
      have lJ : (i + j) / 2 < N := by omega
      have lI : m < N := hmN
      have hs := HSS.out
      have hlen := HL.out
      have S1 := S1.out
      have sz : (P ++ (A ++ (y :: Q))).toArray.size = N := by rw [List.size_toArray, hlen]
      have sz0 : (P ++ (A ++ (y :: Q))).toArray.size = l0.toArray.size := by rw [sz, List.size_toArray, hs]
      have gI : (P ++ (A ++ (y :: Q))).toArray[m]! = y := by rw [arr_get (by rw [hlen]; exact lI)]; exact hI
      have gJ : (P ++ (A ++ (y :: Q))).toArray[(i + j) / 2]! = z := by rw [arr_get (by rw [hlen]; exact lJ)]; exact hJ
      have lx := fun (n' : Nat) (os' : Array Obj) => S1.ld RR.out sz0 Try.prog (m) (by rw [sz]; exact lI) n' os'
      have ly := fun (n' : Nat) (os' : Array Obj) => S1.ld RR.out sz0 Try.prog ((i + j) / 2) (by rw [sz]; exact lJ) n' os'
      have hcg : ∀ (n' : Nat) (os' : Array Obj), Calls Try.prog 17 #[.agg (encR y).toArray, .agg (encR z).toArray] (Go.Sort.grow (wr.drewN n') os') fun e w' => e = .returned (.int .i64 (cfR y z)) ∧ ∃ q os'', w' = Go.Sort.grow ((Go.Sort.grow (wr.drewN n') os').drewN q) os'' := fun n' os' => S1.cmp HC.out sz0 y z n' os'
      rw [gI] at lx
      rw [gJ] at ly
      have SG : Hid (∀ nq osq, SL k w0 blk off (P ++ (A ++ (y :: Q))) (Go.Sort.grow (wr.drewN nq) osq)) := ⟨fun nq osq => S1.grown nq osq⟩
      obtain ⟨cv, hcv⟩ : ∃ c, c = cfR y z := ⟨_, rfl⟩
      rw [← hcv] at hcg
      have hlt : lt rkR y z = decide (cv < 0) := by rw [hcv, ← ltR]; rfl
      have n1 : (encR y).length = k := RR.out.hk _
      have n2 : (encR z).length = k := RR.out.hk _
      have HLT := Hid.mk hlt
      generalize encR y = cX at lx hcg n1
      generalize encR z = cY at ly hcg n2
      clear sz sz0 gI gJ hcv hlt
      have HY := Hid.mk hy
      have ehh : (((i : Int) + (j : Int)) / 2).toNat = (i + j) / 2 := by omega
      have phh : (0 : Int) ≤ ((i : Int) + (j : Int)) / 2 := by omega
      have bhh : ((i : Int) + (j : Int)) / 2 < (N : Int) := by omega
      have bha : (m : Int) < (N : Int) := by omega
      clear hI hJ hy hs hlen S1
      by_cases hlv : cv < 0
      · go_wp2_with fail
        go_quiet_grown (first | (go_at_call 17; refine Calls.grown_of (hcg _ _)))
        go_wp2
        go_roundg ((i + j) / 2 - i)
        case measure => omega
        case rel =>
          refine ⟨i, (i + j) / 2, rfl, by rw [show ((i : Int) + (j : Int)) / 2 = (((i + j) / 2 : Nat) : Int) by omega], him, by omega, by omega, Nat.le_refl _, ⟨SG.out _ _⟩, ⟨HE.out.1, .inr ⟨z, HY.out, ?_⟩⟩⟩
          rw [HLT.out]; exact decide_eq_true hlv
      · have hlvb : decide (cv < 0) = false := decide_eq_false hlv
        have hlvc : (0 : Int) ≤ cv := by omega
        go_wp2_with fail
        go_quiet_grown (first | (go_at_call 17; refine Calls.grown_of (hcg _ _)))
        go_wp2
        go_roundg (j - ((i + j) / 2 + 1))
        case measure => omega
        case rel =>
          refine ⟨(i + j) / 2 + 1, j, by rw [show ((i : Int) + (j : Int)) / 2 + 1 = (((i + j) / 2 + 1 : Nat) : Int) by omega], rfl, by omega, by omega, hjb, Nat.le_refl _, ⟨SG.out _ _⟩, ⟨.inr ⟨z, ?_, ?_⟩, HE.out.2⟩⟩
          · rw [show (i + j) / 2 + 1 - 1 - a = (i + j) / 2 - a by omega]; exact HY.out
          · rw [HLT.out]; exact decide_eq_false (by omega)
    · obtain rfl : i = j := by omega
      have hz : ¬ ((i : Int) < (i : Int)) := by omega
      have hmrg : mrg rkR A [y] = A.take (i - a) ++ y :: A.drop (i - a) := by
        have hbl := HM.out
        refine mrg_at rkR HAA.out (List.take_append_drop _ _).symm (fun z h => ?_) (fun z h => ?_)
        · obtain ⟨q0, q1⟩ := lastTake (by omega) h
          rcases HE.out.1 with q | ⟨y', q2, q3⟩
          · omega
          · rw [show i - 1 - a = i - a - 1 by omega, q1] at q2
            injection q2 with q2
            rw [q2]; exact q3
        · rw [headDrop] at h
          rcases HE.out.2 with q | ⟨y', q2, q3⟩
          · have := (List.getElem?_eq_some_iff.1 h).1
            omega
          · rw [h] at q2
            injection q2 with q2
            rw [q2]; exact q3
      have S2 : Hid (SL k w0 blk off (P ++ (A.take (m - a) ++ y :: (A.drop (m - a) ++ Q))) wr) := ⟨by
        have := HM.out
        rw [List.take_of_length_le (by omega), List.drop_eq_nil_of_le (by omega)]
        simpa using S1.out⟩
      have HMRG := Hid.mk hmrg
      clear hmrg S1 HE
      go_wp2
      go_loopg [17] (m - i) (fun kx s13 wr => ∃ kk : Nat, s13 = .int .i64 (kk : Int) ∧ kk ≤ m ∧ i + kx = kk ∧ Hid (SL k w0 blk off (P ++ (A.take (kk - a) ++ y :: (A.drop (kk - a) ++ Q))) wr))
      case atStart => exact ⟨m, rfl, Nat.le_refl _, by omega, S2⟩
      case round =>
        clear S2
        obtain ⟨kk, rfl, hak, hkk, S1⟩ := hrel
        cases gk with
        | zero =>
          obtain rfl : i = kk := by omega
          have hz2 : ¬ ((i : Int) < (i : Int)) := by omega
          go_wp2
          refine bodyPost_ret (results_none rfl _ _ _) rfl ?_
          refine ⟨rfl, ?_⟩
          rw [HMRG.out]
          have := S1.out
          simpa using this
        | succ gk =>
          obtain ⟨kp, rfl⟩ : ∃ kp, kk = kp + 1 := ⟨kk - 1, by omega⟩
          have hz2 : (i : Int) < ((kp + 1 : Nat) : Int) := by omega
          have hz3 : (i : Int) < (kp : Int) + 1 := by omega
          have hbl := HM.out
          have hq : kp - a < A.length := by omega
          obtain ⟨z, hy⟩ : ∃ z, z = A[kp - a] := ⟨_, rfl⟩
          obtain ⟨P1, hP1⟩ : ∃ P1, P1 = P ++ A.take (kp - a) := ⟨_, rfl⟩
          obtain ⟨Q1, hQ1⟩ : ∃ Q1, Q1 = A.drop (kp - a + 1) ++ Q := ⟨_, rfl⟩
          have S1 := S1.out
          have el : P ++ (A.take (kp + 1 - a) ++ y :: (A.drop (kp + 1 - a) ++ Q)) = P1 ++ z :: ([] ++ y :: Q1) := by
            rw [show kp + 1 - a = kp - a + 1 by omega, List.take_succ_eq_append_getElem hq, ← hy, hP1, hQ1]; simp only [List.append_assoc, List.cons_append, List.nil_append]
          have en : P1 ++ y :: ([] ++ z :: Q1) = P ++ (A.take (kp - a) ++ y :: (A.drop (kp - a) ++ Q)) := by
            rw [List.drop_eq_getElem_cons hq, ← hy, hP1, hQ1]; simp only [List.append_assoc, List.cons_append, List.nil_append]
          have hlen : (P1 ++ z :: ([] ++ y :: Q1)).length = N := by
            have := HL.out
            rw [← el, ← this]; simp only [List.length_append, List.length_cons, List.length_take, List.length_drop]; omega
          have hia : kp = P1.length := by rw [hP1, List.length_append, List.length_take]; have := HA.out; omega
          have hjb : kp + 1 = P1.length + 1 + ([] : List Tr).length := by simp; omega
          have l1 : kp < N := by omega
          have l2 : kp + 1 < N := by omega
          have hs := HSS.out
          rw [el] at S1
          have gI : (P1 ++ z :: ([] ++ y :: Q1)).toArray[kp]! = z := by rw [arr_get (by rw [hlen]; exact l1)]; exact get_at _ hia
          have gJ : (P1 ++ z :: ([] ++ y :: Q1)).toArray[(kp + 1)]! = y := by rw [arr_get (by rw [hlen]; exact l2)]; exact get_at2 _ hjb
          have sz : (P1 ++ z :: ([] ++ y :: Q1)).toArray.size = N := by rw [List.size_toArray, hlen]
          have sz0 : (P1 ++ z :: ([] ++ y :: Q1)).toArray.size = l0.toArray.size := by rw [sz, List.size_toArray, hs]
          have S2 := S1.swapped RR.out ((kp + 1)) (kp) (by rw [sz]; exact l2) (by rw [sz]; exact l1)
          have l44a := S1.ld1 RR.out sz0 Try.prog ((kp + 1)) (by rw [sz]; exact l2)
          have l44b := S1.ld1 RR.out sz0 Try.prog (kp) (by rw [sz]; exact l1)
          have s44a := S1.st1 RR.out sz0 Try.prog ((kp + 1)) (by rw [sz]; exact l2) z
          have s44b := S1.st2 RR.out sz0 Try.prog ((kp + 1)) (kp) (by rw [sz]; exact l2) (by rw [sz]; exact l1) z y
          rw [gI, gJ, swp_listR hia hjb] at S2
          rw [gI] at l44b
          rw [gJ] at l44a
          have n44a : (encR z).length = k := RR.out.hk _
          have n44b : (encR y).length = k := RR.out.hk _
          rw [en] at S2
          have S2 := Hid.mk S2
          generalize encR z = cI at S2 l44a l44b s44a s44b n44a
          generalize encR y = cJ at S2 l44a l44b s44a s44b n44b
          have rk1 : IntKind.i64.wrap (kp : Int) = (kp : Int) := by rw [IntKind.wrap_i64]; omega
          have pk1 : (0 : Int) ≤ (kp : Int) + 1 := by omega
          have bk1 : (kp : Int) + 1 < (N : Int) := by omega
          have ek1 : ((kp : Int) + 1).toNat = kp + 1 := by omega
          have ka1 : (kp : Int) < (N : Int) := by omega
          have hkk2 : i + gk = kp := by omega
          have hkm : kp ≤ m := by omega
          clear gI gJ sz sz0 S1 el en hlen hia hjb l1 l2 hs hP1 hQ1 hy hq hbl
          go_wp2_with fail
          go_big_region_o
          clear l44a l44b s44a s44b
          generalize (wr.drew.setCells blk (off + ((kp + 1)) * k) cI).setCells blk (off + (kp) * k) cJ = w2 at S2 ⊢
          go_wp2
          go_roundg gk
          case measure => omega
          case rel => exact ⟨kp, rfl, hkm, hkk2, S2⟩
end Go.Eva
end
