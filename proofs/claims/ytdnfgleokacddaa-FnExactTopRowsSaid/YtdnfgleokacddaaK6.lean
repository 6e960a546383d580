/- A verified evaluator of the translated code, part 6: EvaKe -/
import Derived.Test.YtdnfgleokacddaaK5
import Derived.BigFrame
section
/- symMergeCmpFunc walked: one row on the left. -/
namespace Go.Eva
open Go.Proofs Go.Shelf
open Go.RowKit Go.Lib Go.Sort
set_option linter.unusedVariables false
set_option linter.unusedSimpArgs false
set_option maxRecDepth 100000

theorem lastTake {α : Type} {B : List α} {n : Nat} {z : α} (hn : n ≤ B.length) (h : (B.take n).getLast? = some z) : 0 < n ∧ B[n - 1]? = some z := by
  cases n with
  | zero => simp at h
  | succ n =>
    refine ⟨by omega, ?_⟩
    rw [List.getLast?_eq_getElem?, List.length_take, Nat.min_eq_left hn, List.getElem?_take] at h
    simpa using h
theorem headDrop {α : Type} {B : List α} {n : Nat} : (B.drop n).head? = B[n]? := by
  rw [List.head?_eq_getElem?, List.getElem?_drop]; simp
set_option maxHeartbeats 4000000 in
theorem sym1 {k blk off cap N a m b : Nat} {x : Tr} {l0 P B Q : List Tr} {w0 w : World} (zE : ∀ w, (Go.sizeOf 34).run Try.prog w = .ok k w) (hC : CmpLays Try.prog 17 #[] encR k cfR blk off l0.toArray.size w0) (R : RL k w0 blk off l0) (hs : l0.length = N) (hB : Srt rkR B) (ha : a = P.length) (hm : m = a + 1) (hb : b = m + B.length) (hl : (P ++ (x :: (B ++ Q))).length = N) (S0 : SL k w0 blk off (P ++ (x :: (B ++ Q))) w) (hsz : N < 4611686018427387904) :
    Calls Try.prog 26 #[.slice (some ⟨blk, off, none⟩) N cap, .int .i64 a, .int .i64 m, .int .i64 b, cmpV] w fun e w' => e = unitR ∧ SL k w0 blk off (P ++ (mrg rkR [x] B ++ Q)) w' := by
  have mixed : Try.prog.follows .mixedOrders = true := by kernel_rfl
  have aE := agg34
  have eg := Try.call17
  have hbN : b ≤ N := by rw [← hl]; simp only [List.length_append, List.length_cons]; omega
  have haN : a < N := by omega
  have r1 : IntKind.i64.wrap ((m : Int) - (a : Int)) = 1 := by rw [IntKind.wrap_i64]; omega
  have hm1 : (m : Int) - (a : Int) = 1 := by omega
  have hma : a + 1 = m := by omega
  have hmb : m ≤ b := by omega
  have S1 : Hid (SL k w0 blk off (P ++ (x :: (B ++ Q))) w) := ⟨S0⟩
  have RR : Hid (RL k w0 blk off l0) := ⟨R⟩
  have HC := Hid.mk hC
  have HA := Hid.mk ha
  have HM := Hid.mk hm
  have HBL := Hid.mk hb
  have HSS := Hid.mk hs
  have HL := Hid.mk hl
  have HB := Hid.mk hB
  clear S0 R hC ha hm hb hs hl hB hma
  go_enter Try.func26, Try.ntmps26
  go_wp2
  go_loopg [10, 11] (b - m) (fun kx s10 s11 wr => ∃ i j : Nat, s10 = .int .i64 (i : Int) ∧ s11 = .int .i64 (j : Int) ∧ m ≤ i ∧ i ≤ j ∧ j ≤ b ∧ j - i ≤ kx ∧ Hid (SL k w0 blk off (P ++ (x :: (B ++ Q))) wr) ∧ Hid ((i = m ∨ ∃ y, B[i - 1 - m]? = some y ∧ lt rkR y x = true) ∧ (j = b ∨ ∃ y, B[j - m]? = some y ∧ lt rkR y x = false)))
  case atStart => exact ⟨m, b, rfl, rfl, Nat.le_refl _, hmb, Nat.le_refl _, Nat.le_refl _, S1, ⟨.inl rfl, .inl rfl⟩⟩
  case round =>
    clear S1
    obtain ⟨i, j, rfl, rfl, him, hij, hjb, hk, S1, HE⟩ := hrel
    by_cases hlt : i < j
    · have hz : (i : Int) < (j : Int) := by omega
      obtain ⟨y, hy⟩ : ∃ y, B[(i + j) / 2 - m]? = some y := by
        have := HBL.out
        exact ⟨B[(i + j) / 2 - m]'(by omega), List.getElem?_eq_getElem (by omega)⟩
      have hI : (P ++ (x :: (B ++ Q)))[(i + j) / 2]? = some y := by
        have := HA.out
        have := HM.out
        have hlB : (i + j) / 2 - m < B.length := (List.getElem?_eq_some_iff.1 hy).1
        rw [List.getElem?_append_right (by omega), show (i + j) / 2 - P.length = ((i + j) / 2 - m) + 1 by omega, List.getElem?_cons_succ, List.getElem?_append_left hlB]
        exact hy
      have hI := (List.getElem?_eq_some_iff.1 hI).2
      have hJ : (P ++ (x :: (B ++ Q)))[a]'(by rw [HL.out]; exact haN) = x := get_at _ HA.out
      have lI : (i + j) / 2 < N := by omega
      have lJ : a < N := haN
      have hs := HSS.out
      have hlen := HL.out
      have S1 := S1.out
      have sz : (P ++ (x :: (B ++ Q))).toArray.size = N := by rw [List.size_toArray, hlen]
      have sz0 : (P ++ (x :: (B ++ Q))).toArray.size = l0.toArray.size := by rw [sz, List.size_toArray, hs]
      have gI : (P ++ (x :: (B ++ Q))).toArray[(i + j) / 2]! = y := by rw [arr_get (by rw [hlen]; exact lI)]; exact hI
      have gJ : (P ++ (x :: (B ++ Q))).toArray[a]! = x := by rw [arr_get (by rw [hlen]; exact lJ)]; exact hJ
      have lx := fun (n' : Nat) (os' : Array Obj) => S1.ld RR.out sz0 Try.prog ((i + j) / 2) (by rw [sz]; exact lI) n' os'
      have ly := fun (n' : Nat) (os' : Array Obj) => S1.ld RR.out sz0 Try.prog (a) (by rw [sz]; exact lJ) n' os'
      have hcg : ∀ (n' : Nat) (os' : Array Obj), Calls Try.prog 17 #[.agg (encR y).toArray, .agg (encR x).toArray] (Go.Sort.grow (wr.drewN n') os') fun e w' => e = .returned (.int .i64 (cfR y x)) ∧ ∃ q os'', w' = Go.Sort.grow ((Go.Sort.grow (wr.drewN n') os').drewN q) os'' := fun n' os' => S1.cmp HC.out sz0 y x n' os'
      rw [gI] at lx
      rw [gJ] at ly
      have SG : Hid (∀ nq osq, SL k w0 blk off (P ++ (x :: (B ++ Q))) (Go.Sort.grow (wr.drewN nq) osq)) := ⟨fun nq osq => S1.grown nq osq⟩
      obtain ⟨cv, hcv⟩ : ∃ c, c = cfR y x := ⟨_, rfl⟩
      rw [← hcv] at hcg
      have hlt : lt rkR y x = decide (cv < 0) := by rw [hcv, ← ltR]; rfl
      have n1 : (encR y).length = k := RR.out.hk _
      have n2 : (encR x).length = k := RR.out.hk _
      have HLT := Hid.mk hlt
      generalize encR y = cX at lx hcg n1
      generalize encR x = cY at ly hcg n2
      clear sz sz0 gI gJ hcv hlt
      have HY := Hid.mk hy
      have ehh : (((i : Int) + (j : Int)) / 2).toNat = (i + j) / 2 := by omega
      have phh : (0 : Int) ≤ ((i : Int) + (j : Int)) / 2 := by omega
      have bhh : ((i : Int) + (j : Int)) / 2 < (N : Int) := by omega
      have bha : (a : Int) < (N : Int) := by omega
      clear hI hJ hy hs hlen S1
      by_cases hlv : cv < 0
      · go_wp2_with fail
        go_quiet_grown (first | (go_at_call 17; refine Calls.grown_of (hcg _ _)))
        go_wp2
        go_roundg (j - ((i + j) / 2 + 1))
        case measure => omega
        case rel =>
          refine ⟨(i + j) / 2 + 1, j, by rw [show ((i : Int) + (j : Int)) / 2 + 1 = (((i + j) / 2 + 1 : Nat) : Int) by omega], rfl, by omega, by omega, hjb, Nat.le_refl _, ⟨SG.out _ _⟩, ⟨.inr ⟨y, ?_, ?_⟩, HE.out.2⟩⟩
          · rw [show (i + j) / 2 + 1 - 1 - m = (i + j) / 2 - m by omega]; exact HY.out
          · rw [HLT.out]; exact decide_eq_true hlv
      · go_wp2_with fail
        go_quiet_grown (first | (go_at_call 17; refine Calls.grown_of (hcg _ _)))
        go_wp2
        go_roundg ((i + j) / 2 - i)
        case measure => omega
        case rel =>
          refine ⟨i, (i + j) / 2, rfl, by rw [show ((i : Int) + (j : Int)) / 2 = (((i + j) / 2 : Nat) : Int) by omega], him, by omega, by omega, Nat.le_refl _, ⟨SG.out _ _⟩, ⟨HE.out.1, .inr ⟨y, HY.out, ?_⟩⟩⟩
          rw [HLT.out]; exact decide_eq_false (by omega)
    · obtain rfl : i = j := by omega
      have hz : ¬ ((i : Int) < (i : Int)) := by omega
      have hmrg : mrg rkR [x] B = B.take (i - m) ++ x :: B.drop (i - m) := by
        have hbl := HBL.out
        refine mrg_at2 rkR HB.out (List.take_append_drop _ _).symm (fun z h => ?_) (fun z h => ?_)
        · obtain ⟨q0, q1⟩ := lastTake (by omega) h
          rcases HE.out.1 with q | ⟨y, q2, q3⟩
          · omega
          · rw [show i - 1 - m = i - m - 1 by omega, q1] at q2
            injection q2 with q2
            rw [q2]; exact q3
        · rw [headDrop] at h
          rcases HE.out.2 with q | ⟨y, q2, q3⟩
          · have := (List.getElem?_eq_some_iff.1 h).1
            omega
          · rw [h] at q2
            injection q2 with q2
            rw [q2]; exact q3
      have S2 : Hid (SL k w0 blk off (P ++ (B.take 0 ++ x :: (B.drop 0 ++ Q))) wr) := ⟨by simpa using S1.out⟩
      have HMRG := Hid.mk hmrg
      clear hmrg S1 HE
      have ri1 : IntKind.i64.wrap ((i : Int) - 1) = (i : Int) - 1 := by rw [IntKind.wrap_i64]; omega
      go_wp2
      go_loopg [13] (i - m) (fun kx s13 wr => ∃ kk : Nat, s13 = .int .i64 (kk : Int) ∧ a ≤ kk ∧ kk + 1 + kx = i ∧ Hid (SL k w0 blk off (P ++ (B.take (kk - a) ++ x :: (B.drop (kk - a) ++ Q))) wr))
      case atStart =>
        have := HM.out
        exact ⟨a, rfl, Nat.le_refl _, by omega, by rw [Nat.sub_self]; exact S2⟩
      case round =>
        clear S2
        obtain ⟨kk, rfl, hak, hkk, S1⟩ := hrel
        cases gk with
        | zero =>
          have hz2 : ¬ ((kk : Int) < (i : Int) - 1) := by omega
          go_wp2
          refine bodyPost_ret (results_none rfl _ _ _) rfl ?_
          refine ⟨rfl, ?_⟩
          rw [HMRG.out]
          have := S1.out
          have e : kk - a = i - m := by have := HM.out; omega
          rw [e] at this
          simpa using this
        | succ gk =>
          have hz2 : (kk : Int) < (i : Int) - 1 := by omega
          have hbl := HBL.out
          have hma := HM.out
          have hq : kk - a < B.length := by omega
          obtain ⟨y, hy⟩ : ∃ y, y = B[kk - a] := ⟨_, rfl⟩
          obtain ⟨P1, hP1⟩ : ∃ P1, P1 = P ++ B.take (kk - a) := ⟨_, rfl⟩
          obtain ⟨Q1, hQ1⟩ : ∃ Q1, Q1 = B.drop (kk - a + 1) ++ Q := ⟨_, rfl⟩
          have S1 := S1.out
          have el : P ++ (B.take (kk - a) ++ x :: (B.drop (kk - a) ++ Q)) = P1 ++ x :: ([] ++ y :: Q1) := by
            rw [List.drop_eq_getElem_cons hq, ← hy, hP1, hQ1]; simp only [List.append_assoc, List.cons_append, List.nil_append]
          have en : P1 ++ y :: ([] ++ x :: Q1) = P ++ (B.take (kk + 1 - a) ++ x :: (B.drop (kk + 1 - a) ++ Q)) := by
            rw [show kk + 1 - a = kk - a + 1 by omega, List.take_succ_eq_append_getElem hq, ← hy, hP1, hQ1]; simp only [List.append_assoc, List.cons_append, List.nil_append]
          have hlen : (P1 ++ x :: ([] ++ y :: Q1)).length = N := by
            have := HL.out
            rw [← el, ← this]; simp only [List.length_append, List.length_cons, List.length_take, List.length_drop]; omega
          have hia : kk = P1.length := by rw [hP1, List.length_append, List.length_take]; have := HA.out; omega
          have hjb : kk + 1 = P1.length + 1 + ([] : List Tr).length := by simp; omega
          have l1 : kk < N := by omega
          have l2 : kk + 1 < N := by omega
          have hs := HSS.out
          rw [el] at S1
          have gI : (P1 ++ x :: ([] ++ y :: Q1)).toArray[kk]! = x := by rw [arr_get (by rw [hlen]; exact l1)]; exact get_at _ hia
          have gJ : (P1 ++ x :: ([] ++ y :: Q1)).toArray[(kk + 1)]! = y := by rw [arr_get (by rw [hlen]; exact l2)]; exact get_at2 _ hjb
          have sz : (P1 ++ x :: ([] ++ y :: Q1)).toArray.size = N := by rw [List.size_toArray, hlen]
          have sz0 : (P1 ++ x :: ([] ++ y :: Q1)).toArray.size = l0.toArray.size := by rw [sz, List.size_toArray, hs]
          have S2 := S1.swapped RR.out (kk) ((kk + 1)) (by rw [sz]; exact l1) (by rw [sz]; exact l2)
          have l44a := S1.ld1 RR.out sz0 Try.prog (kk) (by rw [sz]; exact l1)
          have l44b := S1.ld1 RR.out sz0 Try.prog ((kk + 1)) (by rw [sz]; exact l2)
          have s44a := S1.st1 RR.out sz0 Try.prog (kk) (by rw [sz]; exact l1) y
          have s44b := S1.st2 RR.out sz0 Try.prog (kk) ((kk + 1)) (by rw [sz]; exact l1) (by rw [sz]; exact l2) y x
          rw [gI, gJ, swp_list hia hjb] at S2
          rw [gI] at l44a
          rw [gJ] at l44b
          have n44a : (encR x).length = k := RR.out.hk _
          have n44b : (encR y).length = k := RR.out.hk _
          rw [en] at S2
          have S2 := Hid.mk S2
          generalize encR x = cI at S2 l44a l44b s44a s44b n44a
          generalize encR y = cJ at S2 l44a l44b s44a s44b n44b
          have rk1 : IntKind.i64.wrap ((kk : Int) + 1) = (kk : Int) + 1 := by rw [IntKind.wrap_i64]; omega
          have pk1 : (0 : Int) ≤ (kk : Int) + 1 := by omega
          have bk1 : (kk : Int) + 1 < (N : Int) := by omega
          have ek1 : ((kk : Int) + 1).toNat = kk + 1 := by omega
          have ka1 : (kk : Int) < (N : Int) := by omega
          have hkk2 : kk + 1 + 1 + gk = i := by omega
          clear gI gJ sz sz0 S1 el en hlen hia hjb l1 l2 hs hP1 hQ1 hy hq hbl hma
          go_wp2_with fail
          go_big_region_o
          clear l44a l44b s44a s44b
          generalize (wr.drew.setCells blk (off + (kk) * k) cJ).setCells blk (off + ((kk + 1)) * k) cI = w2 at S2 ⊢
          go_wp2
          go_roundg gk
          case measure => omega
          case rel => exact ⟨kk + 1, by push_cast; rfl, by omega, hkk2, S2⟩
end Go.Eva
end
