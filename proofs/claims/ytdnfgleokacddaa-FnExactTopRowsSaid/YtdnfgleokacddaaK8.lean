/- A verified evaluator of the translated code, part 8: EvaKg -/
import Derived.Test.YtdnfgleokacddaaK7
import Derived.BigFrame
section
/- symMergeCmpFunc walked: parted. -/
namespace Go.Eva
open Go.Proofs Go.Shelf
open Go.RowKit Go.Lib Go.Sort
set_option linter.unusedVariables false
set_option linter.unusedSimpArgs false
set_option maxRecDepth 100000

/-- Where the parts lie. -/
theorem part_at {A B : List Tr} {a m b n s s0 r0 : Nat} (hA : Srt rkR A) (hB : Srt rkR B) (hm : m = a + A.length) (hb : b = m + B.length) (h1 : a ≤ s) (h2 : s ≤ m) (h3 : m + s ≤ n) (h4 : n ≤ b + s) (d1 : s0 = a ∨ n = b + s0) (d2 : r0 = m ∨ n = m + r0)
    (b1 : s = s0 ∨ ∃ x y, A[s - 1 - a]? = some x ∧ B[n - s - m]? = some y ∧ lt rkR y x = false) (b2 : s = r0 ∨ ∃ x y, A[s - a]? = some x ∧ B[n - 1 - s - m]? = some y ∧ lt rkR y x = true) :
    mrg rkR A B = mrg rkR (A.take (s - a)) (B.take (n - s - m)) ++ mrg rkR (A.drop (s - a)) (B.drop (n - s - m)) := by
  have := mrg_part rkR (A1 := A.take (s - a)) (A2 := A.drop (s - a)) (B1 := B.take (n - s - m)) (B2 := B.drop (n - s - m)) (by rw [List.take_append_drop]; exact hA) (by rw [List.take_append_drop]; exact hB) (fun x y hx hy => ?_) (fun x y hx hy => ?_)
  · rwa [List.take_append_drop, List.take_append_drop] at this
  · obtain ⟨q0, q1⟩ := lastTake (by omega) hx
    rw [headDrop] at hy
    rcases b1 with q | ⟨x', y', q2, q3, q4⟩
    · have := (List.getElem?_eq_some_iff.1 hy).1
      omega
    · rw [show s - 1 - a = s - a - 1 by omega, q1] at q2
      rw [hy] at q3
      injection q2 with q2
      injection q3 with q3
      rw [q2, q3]; exact q4
  · obtain ⟨q0, q1⟩ := lastTake (by omega) hy
    rw [headDrop] at hx
    rcases b2 with q | ⟨x', y', q2, q3, q4⟩
    · have := (List.getElem?_eq_some_iff.1 hx).1
      omega
    · rw [show n - 1 - s - m = n - s - m - 1 by omega, q1] at q3
      rw [hx] at q2
      injection q2 with q2
      injection q3 with q3
      rw [q2, q3]; exact q4
theorem srt_take {A : List Tr} (h : Srt rkR A) (n : Nat) : Srt rkR (A.take n) := h.sublist (List.take_sublist _ _)
theorem srt_drop {A : List Tr} (h : Srt rkR A) (n : Nat) : Srt rkR (A.drop n) := h.sublist (List.drop_sublist _ _)
set_option maxHeartbeats 16000000 in
theorem sym3a {k blk off cap N a m b mid : Nat} {l0 P A B Q : List Tr} {w0 w : World} (zE : ∀ w, (Go.sizeOf 34).run Try.prog w = .ok k w) (hC : CmpLays Try.prog 17 #[] encR k cfR blk off l0.toArray.size w0) (R : RL k w0 blk off l0) (hs : l0.length = N) (hA : Srt rkR A) (hB : Srt rkR B) (hA2 : 2 ≤ A.length) (hB2 : 2 ≤ B.length) (ha : a = P.length) (hm : m = a + A.length) (hb : b = m + B.length) (hl : (P ++ (A ++ (B ++ Q))).length = N) (hmid : mid = (a + b) / 2) (hG : m ≤ mid) (S0 : SL k w0 blk off (P ++ (A ++ (B ++ Q))) w) (hsz : N < 4611686018427387904)
    (IH : ∀ (wr : World) (a' m' b' : Nat) (P' A' B' Q' : List Tr), Srt rkR A' → Srt rkR B' → 1 ≤ A'.length → 1 ≤ B'.length → a' = P'.length → m' = a' + A'.length → b' = m' + B'.length → (P' ++ (A' ++ (B' ++ Q'))).length = N → b' - a' < b - a → SL k w0 blk off (P' ++ (A' ++ (B' ++ Q'))) wr →
      Calls Try.prog 26 #[.slice (some ⟨blk, off, none⟩) N cap, .int .i64 a', .int .i64 m', .int .i64 b', cmpV] wr fun e w' => e = unitR ∧ SL k w0 blk off (P' ++ (mrg rkR A' B' ++ Q')) w') :
    Calls Try.prog 26 #[.slice (some ⟨blk, off, none⟩) N cap, .int .i64 a, .int .i64 m, .int .i64 b, cmpV] w fun e w' => e = unitR ∧ SL k w0 blk off (P ++ (mrg rkR A B ++ Q)) w' := by
  have mixed : Try.prog.follows .mixedOrders = true := by kernel_rfl
  have aE := agg34
  have eg := Try.call17
  have hbN : b ≤ N := by rw [← hl]; simp only [List.length_append]; omega
  obtain ⟨n, hn⟩ : ∃ n, n = mid + m := ⟨_, rfl⟩
  obtain ⟨p, hp⟩ : ∃ p, p = n - 1 := ⟨_, rfl⟩
  obtain ⟨s0, hs0⟩ : ∃ s0, s0 = a := ⟨_, rfl⟩
  obtain ⟨r0, hr0⟩ : ∃ r0, r0 = m := ⟨_, rfl⟩
  have d1 : s0 = a ∨ n = b + s0 := by omega
  have d2 : r0 = m ∨ n = m + r0 := by omega
  have f1 : a ≤ s0 := by omega
  have f2 : s0 ≤ r0 := by omega
  have f3 : r0 ≤ m := by omega
  have f4 : m + r0 ≤ n := by omega
  have f5 : n ≤ b + s0 := by omega
  have r1 : IntKind.i64.wrap ((m : Int) - (a : Int)) = (m : Int) - (a : Int) := by rw [IntKind.wrap_i64]; omega
  have r2 : IntKind.i64.wrap ((b : Int) - (m : Int)) = (b : Int) - (m : Int) := by rw [IntKind.wrap_i64]; omega
  have hm1 : ¬ ((m : Int) - (a : Int) = 1) := by omega
  have hm1b : (((m : Int) - (a : Int)) == 1) = false := by simp; omega
  have hm2 : ¬ ((b : Int) - (m : Int) = 1) := by omega
  have hm2b : (((b : Int) - (m : Int)) == 1) = false := by simp; omega
  have zm : ((a : Int) + (b : Int)) / 2 = (mid : Int) := by omega
  have zn : (mid : Int) + (m : Int) = (n : Int) := by omega
  have rn : IntKind.i64.wrap ((mid : Int) + (m : Int)) = (n : Int) := by rw [IntKind.wrap_i64]; omega
  have zp : (n : Int) - 1 = (p : Int) := by omega
  have rp : IntKind.i64.wrap ((n : Int) - 1) = (p : Int) := by rw [IntKind.wrap_i64]; omega
  have nb : n ≤ 9223372036854775806 := by omega
  have zg : ¬ ((mid : Int) < (m : Int)) := by omega
  have zg2 : (m : Int) ≤ (mid : Int) := by omega
  have mb : mid < b := by omega
  have wn : IntKind.i64.wrap (n : Int) = (n : Int) := by rw [IntKind.wrap_i64]; omega
  have wp : IntKind.i64.wrap (p : Int) = (p : Int) := by rw [IntKind.wrap_i64]; omega
  have ws0 : IntKind.i64.wrap (s0 : Int) = (s0 : Int) := by rw [IntKind.wrap_i64]; omega
  have S1 : Hid (SL k w0 blk off (P ++ (A ++ (B ++ Q))) w) := ⟨S0⟩
  have RR : Hid (RL k w0 blk off l0) := ⟨R⟩
  have HC := Hid.mk hC
  have HA := Hid.mk ha
  have HM := Hid.mk hm
  have HBL := Hid.mk hb
  have HSS := Hid.mk hs
  have HL := Hid.mk hl
  have HAA := Hid.mk hA
  have HBB := Hid.mk hB
  have HN := Hid.mk hn
  have HP := Hid.mk hp
  have HMID := Hid.mk hmid
  have HD := Hid.mk (And.intro d1 d2)
  have HIH := Hid.mk IH
  have hab : a < mid := by omega
  have HZ := Hid.mk zE
  clear S0 R hC ha hm hb hs hl hA hB hA2 hB2 hn hp hmid d1 d2 IH
  have HS0 := Hid.mk hs0
  have HR0 := Hid.mk hr0
  clear hs0 hr0
  go_enter Try.func26, Try.ntmps26
  go_wp2
  go_loopg [20, 21] (r0 - s0) (fun kx s10 s11 wr => ∃ s r : Nat, s10 = .int .i64 (s : Int) ∧ s11 = .int .i64 (r : Int) ∧ s0 ≤ s ∧ s ≤ r ∧ r ≤ r0 ∧ r - s ≤ kx ∧ Hid (SL k w0 blk off (P ++ (A ++ (B ++ Q))) wr) ∧ Hid ((s = s0 ∨ ∃ x y, A[s - 1 - a]? = some x ∧ B[n - s - m]? = some y ∧ lt rkR y x = false) ∧ (r = r0 ∨ ∃ x y, A[r - a]? = some x ∧ B[n - 1 - r - m]? = some y ∧ lt rkR y x = true)))
  case atStart => exact ⟨s0, r0, by first | rfl | (rw [HS0.out]; done) | (have := HS0.out; simp; omega), by first | rfl | (rw [HR0.out]; done) | (have := HR0.out; simp; omega), Nat.le_refl _, f2, Nat.le_refl _, Nat.le_refl _, S1, ⟨.inl rfl, .inl rfl⟩⟩
  case round =>
    clear S1
    obtain ⟨s, r, rfl, rfl, hs0s, hsr, hrr, hk, S1, HE⟩ := hrel
    by_cases hlt : s < r
    · have hz : (s : Int) < (r : Int) := by omega
      have hp := HP.out
      have hm := HM.out
      have hb := HBL.out
      have ha := HA.out
      obtain ⟨pc, hpc⟩ : ∃ pc, pc = p - (s + r) / 2 := ⟨_, rfl⟩
      obtain ⟨x, hx⟩ : ∃ x, A[(s + r) / 2 - a]? = some x := ⟨A[(s + r) / 2 - a]'(by omega), List.getElem?_eq_getElem (by omega)⟩
      obtain ⟨y, hy⟩ : ∃ y, B[n - 1 - (s + r) / 2 - m]? = some y := ⟨B[n - 1 - (s + r) / 2 - m]'(by omega), List.getElem?_eq_getElem (by omega)⟩
      have hJ : (P ++ (A ++ (B ++ Q)))[(s + r) / 2]? = some x := by
        have hlA : (s + r) / 2 - a < A.length := (List.getElem?_eq_some_iff.1 hx).1
        rw [List.getElem?_append_right (by omega), show (s + r) / 2 - P.length = (s + r) / 2 - a by omega, List.getElem?_append_left hlA]
        exact hx
      have hJ := (List.getElem?_eq_some_iff.1 hJ).2
      have hI : (P ++ (A ++ (B ++ Q)))[pc]? = some y := by
        have hlB : n - 1 - (s + r) / 2 - m < B.length := (List.getElem?_eq_some_iff.1 hy).1
        rw [List.getElem?_append_right (by omega), List.getElem?_append_right (by omega), show pc - P.length - A.length = n - 1 - (s + r) / 2 - m by omega, List.getElem?_append_left hlB]
        exact hy
      have hI := (List.getElem?_eq_some_iff.1 hI).2
      have lJ : (s + r) / 2 < N := by omega
      have lI : pc < N := by omega
      have zpc : (p : Int) - ((s : Int) + (r : Int)) / 2 = (pc : Int) := by omega
      have rpc : IntKind.i64.wrap ((p : Int) - ((s : Int) + (r : Int)) / 2) = (pc : Int) := by rw [IntKind.wrap_i64]; omega
      have hs := HSS.out
      have hlen := HL.out
      have S1 := S1.out
      have zE := HZ.out
      have sz : (P ++ (A ++ (B ++ Q))).toArray.size = N := by rw [List.size_toArray, hlen]
      have sz0 : (P ++ (A ++ (B ++ Q))).toArray.size = l0.toArray.size := by rw [sz, List.size_toArray, hs]
      have gI : (P ++ (A ++ (B ++ Q))).toArray[pc]! = y := by rw [arr_get (by rw [hlen]; exact lI)]; exact hI
      have gJ : (P ++ (A ++ (B ++ Q))).toArray[(s + r) / 2]! = x := by rw [arr_get (by rw [hlen]; exact lJ)]; exact hJ
      have lx := fun (n' : Nat) (os' : Array Obj) => S1.ld RR.out sz0 Try.prog (pc) (by rw [sz]; exact lI) n' os'
      have ly := fun (n' : Nat) (os' : Array Obj) => S1.ld RR.out sz0 Try.prog ((s + r) / 2) (by rw [sz]; exact lJ) n' os'
      have hcg : ∀ (n' : Nat) (os' : Array Obj), Calls Try.prog 17 #[.agg (encR y).toArray, .agg (encR x).toArray] (Go.Sort.grow (wr.drewN n') os') fun e w' => e = .returned (.int .i64 (cfR y x)) ∧ ∃ q os'', w' = Go.Sort.grow ((Go.Sort.grow (wr.drewN n') os').drewN q) os'' := fun n' os' => S1.cmp HC.out sz0 y x n' os'
      rw [gI] at lx
      rw [gJ] at ly
      have SG : Hid (∀ nq osq, SL k w0 blk off (P ++ (A ++ (B ++ Q))) (Go.Sort.grow (wr.drewN nq) osq)) := ⟨fun nq osq => S1.grown nq osq⟩
      obtain ⟨cv, hcv⟩ : ∃ c, c = cfR y x := ⟨_, rfl⟩
      rw [← hcv] at hcg
      have hlt : lt rkR y x = decide (cv < 0) := by rw [hcv, ← ltR]; rfl
      have n1 : (encR y).length = k := RR.out.hk _
      have n2 : (encR x).length = k := RR.out.hk _
      have HLT := Hid.mk hlt
      generalize encR y = cX at lx hcg n1
      generalize encR x = cY at ly hcg n2
      clear sz sz0 gI gJ hcv hlt
      have HX := Hid.mk hx
      have HY := Hid.mk hy
      have ehh : (((s : Int) + (r : Int)) / 2).toNat = (s + r) / 2 := by omega
      have phh : (0 : Int) ≤ ((s : Int) + (r : Int)) / 2 := by omega
      have bhh : ((s : Int) + (r : Int)) / 2 < (N : Int) := by omega
      have bpc : (pc : Int) < (N : Int) := by omega
      have wpc : IntKind.i64.wrap (pc : Int) = (pc : Int) := by rw [IntKind.wrap_i64]; omega
      have ppc2 : (0 : Int) ≤ (p : Int) - ((s : Int) + (r : Int)) / 2 := by omega
      have bpc2 : (p : Int) - ((s : Int) + (r : Int)) / 2 < (N : Int) := by omega
      have epc2 : ((p : Int) - ((s : Int) + (r : Int)) / 2).toNat = pc := by omega
      have rcc : IntKind.i64.wrap (((s : Int) + (r : Int)) / 2 + 1) = ((s : Int) + (r : Int)) / 2 + 1 := by rw [IntKind.wrap_i64]; omega
      clear hI hJ hx hy hs hlen S1 hp hm hb ha hpc lI lJ
      by_cases hlv : cv < 0
      · have hlvb : decide (cv < 0) = true := decide_eq_true hlv
        go_wp2_with fail
        go_quiet_grown (first | (go_at_call 17; refine Calls.grown_of (hcg _ _)))
        go_wp2
        go_roundg ((s + r) / 2 - s)
        case measure => omega
        case rel =>
          refine ⟨s, (s + r) / 2, rfl, by rw [show ((s : Int) + (r : Int)) / 2 = (((s + r) / 2 : Nat) : Int) by omega], hs0s, by omega, by omega, Nat.le_refl _, ⟨SG.out _ _⟩, ⟨HE.out.1, .inr ⟨x, y, HX.out, HY.out, ?_⟩⟩⟩
          rw [HLT.out]; exact decide_eq_true hlv
      · have hlvb : decide (cv < 0) = false := decide_eq_false hlv
        have hlvc : (0 : Int) ≤ cv := by omega
        go_wp2_with fail
        go_quiet_grown (first | (go_at_call 17; refine Calls.grown_of (hcg _ _)))
        go_wp2
        go_roundg (r - ((s + r) / 2 + 1))
        case measure => omega
        case rel =>
          refine ⟨(s + r) / 2 + 1, r, by rw [show ((s : Int) + (r : Int)) / 2 + 1 = (((s + r) / 2 + 1 : Nat) : Int) by omega], rfl, by omega, by omega, hrr, Nat.le_refl _, ⟨SG.out _ _⟩, ⟨.inr ⟨x, y, ?_, ?_, ?_⟩, HE.out.2⟩⟩
          · rw [show (s + r) / 2 + 1 - 1 - a = (s + r) / 2 - a by omega]; exact HX.out
          · rw [show n - ((s + r) / 2 + 1) - m = n - 1 - (s + r) / 2 - m by omega]; exact HY.out
          · rw [HLT.out]; exact decide_eq_false (by omega)
    · obtain rfl : s = r := by omega
      have hz : ¬ ((s : Int) < (s : Int)) := by omega
      have hm := HM.out
      have hb := HBL.out
      have ha := HA.out
      have hn := HN.out
      have hl := HL.out
      have hmrg := part_at HAA.out HBB.out hm hb (by omega) (by omega) (by omega) (by omega) HD.out.1 HD.out.2 HE.out.1 HE.out.2
      obtain ⟨e, he⟩ : ∃ e, e = n - s := ⟨_, rfl⟩
      rw [← he] at hmrg
      have ze : (n : Int) - (s : Int) = (e : Int) := by omega
      have re : IntKind.i64.wrap ((n : Int) - (s : Int)) = (e : Int) := by rw [IntKind.wrap_i64]; omega
      have we : IntKind.i64.wrap (e : Int) = (e : Int) := by rw [IntKind.wrap_i64]; omega
      obtain ⟨A1, hA1⟩ : ∃ A1, A1 = A.take (s - a) := ⟨_, rfl⟩
      obtain ⟨A2, hA2⟩ : ∃ A2, A2 = A.drop (s - a) := ⟨_, rfl⟩
      obtain ⟨B1, hB1⟩ : ∃ B1, B1 = B.take (e - m) := ⟨_, rfl⟩
      obtain ⟨B2, hB2⟩ : ∃ B2, B2 = B.drop (e - m) := ⟨_, rfl⟩
      have lA1 : A1.length = s - a := by rw [hA1, List.length_take]; omega
      have lA2 : A2.length = m - s := by rw [hA2, List.length_drop]; omega
      have lB1 : B1.length = mid - s := by rw [hB1, List.length_take]; omega
      have lB2 : B2.length = b - e := by rw [hB2, List.length_drop]; omega
      have sA1 : Srt rkR A1 := by rw [hA1]; exact srt_take HAA.out _
      have sA2 : Srt rkR A2 := by rw [hA2]; exact srt_drop HAA.out _
      have sB1 : Srt rkR B1 := by rw [hB1]; exact srt_take HBB.out _
      have sB2 : Srt rkR B2 := by rw [hB2]; exact srt_drop HBB.out _
      have eA : A = A1 ++ A2 := by rw [hA1, hA2, List.take_append_drop]
      have eB : B = B1 ++ B2 := by rw [hB1, hB2, List.take_append_drop]
      rw [← hA1, ← hA2, ← hB1, ← hB2] at hmrg
      have S1 := S1.out
      rw [eA, eB] at S1 hl
      have lN : P.length + (s - a) + (mid - s) + (m - s) + (b - e) + Q.length = N := by rw [← hl]; simp only [List.length_append]; omega
      have zE := HZ.out
      have HROT : Hid (s < m → s < mid → Calls Try.prog 27 #[.slice (some ⟨blk, off, none⟩) N cap, .int .i64 s, .int .i64 m, .int .i64 e, cmpV] wr fun e w' => e = unitR ∧ SL k w0 blk off (P ++ (A1 ++ (B1 ++ (A2 ++ (B2 ++ Q))))) w') := ⟨fun q1 q2 => by
        have := rot27 (cap := cap) (a := s) (m := m) (b := e) (P := P ++ A1) (U := A2) (V := B1) (Q := B2 ++ Q) zE RR.out HSS.out (by omega) (by omega) (by rw [List.length_append]; omega) (by omega) (by omega) (by simp only [List.length_append]; omega) (by simpa only [List.append_assoc] using S1) hsz
        simpa only [List.append_assoc] using this⟩
      have HLFT : Hid (a < s → s < mid → ∀ wr, SL k w0 blk off (P ++ (A1 ++ (B1 ++ (A2 ++ (B2 ++ Q))))) wr → Calls Try.prog 26 #[.slice (some ⟨blk, off, none⟩) N cap, .int .i64 a, .int .i64 s, .int .i64 mid, cmpV] wr fun e w' => e = unitR ∧ SL k w0 blk off (P ++ (mrg rkR A1 B1 ++ (A2 ++ (B2 ++ Q)))) w') := ⟨fun q1 q2 wr h =>
        HIH.out wr a s mid P A1 B1 (A2 ++ (B2 ++ Q)) sA1 sB1 (by omega) (by omega) ha (by omega) (by omega) (by simp only [List.length_append]; omega) (by omega) h⟩
      have lM : (mrg rkR A1 B1).length = mid - a := by rw [mrg_len]; omega
      have HRGT : Hid (s < m → e < b → ∀ wr, SL k w0 blk off (P ++ (mrg rkR A1 B1 ++ (A2 ++ (B2 ++ Q)))) wr → Calls Try.prog 26 #[.slice (some ⟨blk, off, none⟩) N cap, .int .i64 mid, .int .i64 e, .int .i64 b, cmpV] wr fun e w' => e = unitR ∧ SL k w0 blk off (P ++ (mrg rkR A1 B1 ++ (mrg rkR A2 B2 ++ Q))) w') := ⟨fun q1 q2 wr h => by
        have := HIH.out wr mid e b (P ++ mrg rkR A1 B1) A2 B2 Q sA2 sB2 (by omega) (by omega) (by rw [List.length_append]; omega) (by omega) (by omega) (by simp only [List.length_append]; omega) (by omega) (by simpa only [List.append_assoc] using h)
        simpa only [List.append_assoc] using this⟩
      have E12 : Hid (¬ (s < m ∧ s < mid) → SL k w0 blk off (P ++ (A1 ++ (B1 ++ (A2 ++ (B2 ++ Q))))) wr) := ⟨fun q => by
        by_cases q1 : s < m
        · obtain rfl : B1 = [] := List.eq_nil_of_length_eq_zero (by omega)
          simpa only [List.append_assoc, List.nil_append] using S1
        · obtain rfl : A2 = [] := List.eq_nil_of_length_eq_zero (by omega)
          simpa only [List.append_assoc, List.nil_append, List.append_nil] using S1⟩
      have E23 : Hid (¬ (a < s ∧ s < mid) → ∀ wr, SL k w0 blk off (P ++ (A1 ++ (B1 ++ (A2 ++ (B2 ++ Q))))) wr → SL k w0 blk off (P ++ (mrg rkR A1 B1 ++ (A2 ++ (B2 ++ Q)))) wr) := ⟨fun q wr h => by
        by_cases q1 : a < s
        · obtain rfl : B1 = [] := List.eq_nil_of_length_eq_zero (by omega)
          rw [mrg_nil]
          simpa only [List.append_assoc, List.nil_append] using h
        · obtain rfl : A1 = [] := List.eq_nil_of_length_eq_zero (by omega)
          exact h⟩
      have E34 : Hid (¬ (s < m ∧ e < b) → ∀ wr, SL k w0 blk off (P ++ (mrg rkR A1 B1 ++ (A2 ++ (B2 ++ Q)))) wr → SL k w0 blk off (P ++ (mrg rkR A1 B1 ++ (mrg rkR A2 B2 ++ Q))) wr) := ⟨fun q wr h => by
        by_cases q1 : s < m
        · obtain rfl : B2 = [] := List.eq_nil_of_length_eq_zero (by omega)
          rw [mrg_nil]
          simpa only [List.append_assoc, List.nil_append] using h
        · obtain rfl : A2 = [] := List.eq_nil_of_length_eq_zero (by omega)
          exact h⟩
      have E4 : Hid (∀ wr, SL k w0 blk off (P ++ (mrg rkR A1 B1 ++ (mrg rkR A2 B2 ++ Q))) wr → SL k w0 blk off (P ++ (mrg rkR A B ++ Q)) wr) := ⟨fun wr h => by rw [hmrg]; simpa only [List.append_assoc] using h⟩
      have i1 : s < m ↔ mid < e := by omega
      have i2 : m < e ↔ s < mid := by omega
      clear S1 HE hmrg lA1 lA2 lB1 lB2 sA1 sA2 sB1 sB2 eA eB hA1 hA2 hB1 hB2 lN lM hl ha hb hm hn he zE
      by_cases hα : s < m
      · by_cases hβ : s < mid
        · by_cases hγ : a < s
          · by_cases hδ : e < b
            · have za : (s : Int) < (m : Int) := by omega
              have zab : decide ((s : Int) < (m : Int)) = true := decide_eq_true za
              have zb : (m : Int) < (e : Int) := by omega
              have zbb : decide ((m : Int) < (e : Int)) = true := decide_eq_true zb
              have zc : (a : Int) < (s : Int) := by omega
              have zcb : decide ((a : Int) < (s : Int)) = true := decide_eq_true zc
              have zd : (s : Int) < (mid : Int) := by omega
              have zdb : decide ((s : Int) < (mid : Int)) = true := decide_eq_true zd
              have zf : (mid : Int) < (e : Int) := by omega
              have zfb : decide ((mid : Int) < (e : Int)) = true := decide_eq_true zf
              have zh : (e : Int) < (b : Int) := by omega
              have zhb : decide ((e : Int) < (b : Int)) = true := decide_eq_true zh
              have ML : True := trivial
              go_wp2_with (first | (go_at_call 27; (with_reducible refine (HROT.out hα hβ).mono ?_); rintro e1 w1 ⟨rfl, ho⟩; have HO1 := Hid.mk ho; clear ho) | (go_at_call 26; clear ML; (with_reducible refine (HLFT.out hγ hβ _ HO1.out).mono ?_); rintro e2 w2 ⟨rfl, ho⟩; have HO2 := Hid.mk ho; clear ho) | (go_at_call 26; (with_reducible refine (HRGT.out hα hδ _ HO2.out).mono ?_); rintro e3 w3 ⟨rfl, ho⟩; have HO3 := Hid.mk ho; clear ho))
              all_goals go_end0
              all_goals exact ⟨rfl, E4.out _ HO3.out⟩
            · have za : (s : Int) < (m : Int) := by omega
              have zab : decide ((s : Int) < (m : Int)) = true := decide_eq_true za
              have zb : (m : Int) < (e : Int) := by omega
              have zbb : decide ((m : Int) < (e : Int)) = true := decide_eq_true zb
              have zc : (a : Int) < (s : Int) := by omega
              have zcb : decide ((a : Int) < (s : Int)) = true := decide_eq_true zc
              have zd : (s : Int) < (mid : Int) := by omega
              have zdb : decide ((s : Int) < (mid : Int)) = true := decide_eq_true zd
              have zf : (mid : Int) < (e : Int) := by omega
              have zfb : decide ((mid : Int) < (e : Int)) = true := decide_eq_true zf
              have zh : ¬ ((e : Int) < (b : Int)) := by omega
              have zhb : decide ((e : Int) < (b : Int)) = false := decide_eq_false zh
              have ML : True := trivial
              go_wp2_with (first | (go_at_call 27; (with_reducible refine (HROT.out hα hβ).mono ?_); rintro e1 w1 ⟨rfl, ho⟩; have HO1 := Hid.mk ho; clear ho) | (go_at_call 26; clear ML; (with_reducible refine (HLFT.out hγ hβ _ HO1.out).mono ?_); rintro e2 w2 ⟨rfl, ho⟩; have HO2 := Hid.mk ho; clear ho))
              all_goals go_end0
              all_goals exact ⟨rfl, E4.out _ (E34.out (by omega) _ HO2.out)⟩
          · by_cases hδ : e < b
            · have za : (s : Int) < (m : Int) := by omega
              have zab : decide ((s : Int) < (m : Int)) = true := decide_eq_true za
              have zb : (m : Int) < (e : Int) := by omega
              have zbb : decide ((m : Int) < (e : Int)) = true := decide_eq_true zb
              have zc : ¬ ((a : Int) < (s : Int)) := by omega
              have zcb : decide ((a : Int) < (s : Int)) = false := decide_eq_false zc
              have zd : (s : Int) < (mid : Int) := by omega
              have zdb : decide ((s : Int) < (mid : Int)) = true := decide_eq_true zd
              have zf : (mid : Int) < (e : Int) := by omega
              have zfb : decide ((mid : Int) < (e : Int)) = true := decide_eq_true zf
              have zh : (e : Int) < (b : Int) := by omega
              have zhb : decide ((e : Int) < (b : Int)) = true := decide_eq_true zh
              go_wp2_with (first | (go_at_call 27; (with_reducible refine (HROT.out hα hβ).mono ?_); rintro e1 w1 ⟨rfl, ho⟩; have HO1 := Hid.mk ho; clear ho) | (go_at_call 26; (with_reducible refine (HRGT.out hα hδ _ (E23.out (by omega) _ HO1.out)).mono ?_); rintro e3 w3 ⟨rfl, ho⟩; have HO3 := Hid.mk ho; clear ho))
              all_goals go_end0
              all_goals exact ⟨rfl, E4.out _ HO3.out⟩
            · have za : (s : Int) < (m : Int) := by omega
              have zab : decide ((s : Int) < (m : Int)) = true := decide_eq_true za
              have zb : (m : Int) < (e : Int) := by omega
              have zbb : decide ((m : Int) < (e : Int)) = true := decide_eq_true zb
              have zc : ¬ ((a : Int) < (s : Int)) := by omega
              have zcb : decide ((a : Int) < (s : Int)) = false := decide_eq_false zc
              have zd : (s : Int) < (mid : Int) := by omega
              have zdb : decide ((s : Int) < (mid : Int)) = true := decide_eq_true zd
              have zf : (mid : Int) < (e : Int) := by omega
              have zfb : decide ((mid : Int) < (e : Int)) = true := decide_eq_true zf
              have zh : ¬ ((e : Int) < (b : Int)) := by omega
              have zhb : decide ((e : Int) < (b : Int)) = false := decide_eq_false zh
              go_wp2_with (first | (go_at_call 27; (with_reducible refine (HROT.out hα hβ).mono ?_); rintro e1 w1 ⟨rfl, ho⟩; have HO1 := Hid.mk ho; clear ho))
              all_goals go_end0
              all_goals exact ⟨rfl, E4.out _ (E34.out (by omega) _ (E23.out (by omega) _ HO1.out))⟩
        · by_cases hγ : a < s
          · by_cases hδ : e < b
            · have za : (s : Int) < (m : Int) := by omega
              have zab : decide ((s : Int) < (m : Int)) = true := decide_eq_true za
              have zb : ¬ ((m : Int) < (e : Int)) := by omega
              have zbb : decide ((m : Int) < (e : Int)) = false := decide_eq_false zb
              have zc : (a : Int) < (s : Int) := by omega
              have zcb : decide ((a : Int) < (s : Int)) = true := decide_eq_true zc
              have zd : ¬ ((s : Int) < (mid : Int)) := by omega
              have zdb : decide ((s : Int) < (mid : Int)) = false := decide_eq_false zd
              have zf : (mid : Int) < (e : Int) := by omega
              have zfb : decide ((mid : Int) < (e : Int)) = true := decide_eq_true zf
              have zh : (e : Int) < (b : Int) := by omega
              have zhb : decide ((e : Int) < (b : Int)) = true := decide_eq_true zh
              have HO1 := Hid.mk (E12.out (by omega))
              go_wp2_with (first | (go_at_call 26; (with_reducible refine (HRGT.out hα hδ _ (E23.out (by omega) _ HO1.out)).mono ?_); rintro e3 w3 ⟨rfl, ho⟩; have HO3 := Hid.mk ho; clear ho))
              all_goals go_end0
              all_goals exact ⟨rfl, E4.out _ HO3.out⟩
            · have za : (s : Int) < (m : Int) := by omega
              have zab : decide ((s : Int) < (m : Int)) = true := decide_eq_true za
              have zb : ¬ ((m : Int) < (e : Int)) := by omega
              have zbb : decide ((m : Int) < (e : Int)) = false := decide_eq_false zb
              have zc : (a : Int) < (s : Int) := by omega
              have zcb : decide ((a : Int) < (s : Int)) = true := decide_eq_true zc
              have zd : ¬ ((s : Int) < (mid : Int)) := by omega
              have zdb : decide ((s : Int) < (mid : Int)) = false := decide_eq_false zd
              have zf : (mid : Int) < (e : Int) := by omega
              have zfb : decide ((mid : Int) < (e : Int)) = true := decide_eq_true zf
              have zh : ¬ ((e : Int) < (b : Int)) := by omega
              have zhb : decide ((e : Int) < (b : Int)) = false := decide_eq_false zh
              have HO1 := Hid.mk (E12.out (by omega))
              go_wp2
              all_goals go_end0
              all_goals exact ⟨rfl, E4.out _ (E34.out (by omega) _ (E23.out (by omega) _ HO1.out))⟩
          · by_cases hδ : e < b
            · have za : (s : Int) < (m : Int) := by omega
              have zab : decide ((s : Int) < (m : Int)) = true := decide_eq_true za
              have zb : ¬ ((m : Int) < (e : Int)) := by omega
              have zbb : decide ((m : Int) < (e : Int)) = false := decide_eq_false zb
              have zc : ¬ ((a : Int) < (s : Int)) := by omega
              have zcb : decide ((a : Int) < (s : Int)) = false := decide_eq_false zc
              have zd : ¬ ((s : Int) < (mid : Int)) := by omega
              have zdb : decide ((s : Int) < (mid : Int)) = false := decide_eq_false zd
              have zf : (mid : Int) < (e : Int) := by omega
              have zfb : decide ((mid : Int) < (e : Int)) = true := decide_eq_true zf
              have zh : (e : Int) < (b : Int) := by omega
              have zhb : decide ((e : Int) < (b : Int)) = true := decide_eq_true zh
              have HO1 := Hid.mk (E12.out (by omega))
              go_wp2_with (first | (go_at_call 26; (with_reducible refine (HRGT.out hα hδ _ (E23.out (by omega) _ HO1.out)).mono ?_); rintro e3 w3 ⟨rfl, ho⟩; have HO3 := Hid.mk ho; clear ho))
              all_goals go_end0
              all_goals exact ⟨rfl, E4.out _ HO3.out⟩
            · have za : (s : Int) < (m : Int) := by omega
              have zab : decide ((s : Int) < (m : Int)) = true := decide_eq_true za
              have zb : ¬ ((m : Int) < (e : Int)) := by omega
              have zbb : decide ((m : Int) < (e : Int)) = false := decide_eq_false zb
              have zc : ¬ ((a : Int) < (s : Int)) := by omega
              have zcb : decide ((a : Int) < (s : Int)) = false := decide_eq_false zc
              have zd : ¬ ((s : Int) < (mid : Int)) := by omega
              have zdb : decide ((s : Int) < (mid : Int)) = false := decide_eq_false zd
              have zf : (mid : Int) < (e : Int) := by omega
              have zfb : decide ((mid : Int) < (e : Int)) = true := decide_eq_true zf
              have zh : ¬ ((e : Int) < (b : Int)) := by omega
              have zhb : decide ((e : Int) < (b : Int)) = false := decide_eq_false zh
              have HO1 := Hid.mk (E12.out (by omega))
              go_wp2
              all_goals go_end0
              all_goals exact ⟨rfl, E4.out _ (E34.out (by omega) _ (E23.out (by omega) _ HO1.out))⟩
      · by_cases hβ : s < mid
        · by_cases hγ : a < s
          · by_cases hδ : e < b
            · have za : ¬ ((s : Int) < (m : Int)) := by omega
              have zab : decide ((s : Int) < (m : Int)) = false := decide_eq_false za
              have zb : (m : Int) < (e : Int) := by omega
              have zbb : decide ((m : Int) < (e : Int)) = true := decide_eq_true zb
              have zc : (a : Int) < (s : Int) := by omega
              have zcb : decide ((a : Int) < (s : Int)) = true := decide_eq_true zc
              have zd : (s : Int) < (mid : Int) := by omega
              have zdb : decide ((s : Int) < (mid : Int)) = true := decide_eq_true zd
              have zf : ¬ ((mid : Int) < (e : Int)) := by omega
              have zfb : decide ((mid : Int) < (e : Int)) = false := decide_eq_false zf
              have zh : (e : Int) < (b : Int) := by omega
              have zhb : decide ((e : Int) < (b : Int)) = true := decide_eq_true zh
              have HO1 := Hid.mk (E12.out (by omega))
              have ML : True := trivial
              go_wp2_with (first | (go_at_call 26; clear ML; (with_reducible refine (HLFT.out hγ hβ _ HO1.out).mono ?_); rintro e2 w2 ⟨rfl, ho⟩; have HO2 := Hid.mk ho; clear ho))
              all_goals go_end0
              all_goals exact ⟨rfl, E4.out _ (E34.out (by omega) _ HO2.out)⟩
            · have za : ¬ ((s : Int) < (m : Int)) := by omega
              have zab : decide ((s : Int) < (m : Int)) = false := decide_eq_false za
              have zb : (m : Int) < (e : Int) := by omega
              have zbb : decide ((m : Int) < (e : Int)) = true := decide_eq_true zb
              have zc : (a : Int) < (s : Int) := by omega
              have zcb : decide ((a : Int) < (s : Int)) = true := decide_eq_true zc
              have zd : (s : Int) < (mid : Int) := by omega
              have zdb : decide ((s : Int) < (mid : Int)) = true := decide_eq_true zd
              have zf : ¬ ((mid : Int) < (e : Int)) := by omega
              have zfb : decide ((mid : Int) < (e : Int)) = false := decide_eq_false zf
              have zh : ¬ ((e : Int) < (b : Int)) := by omega
              have zhb : decide ((e : Int) < (b : Int)) = false := decide_eq_false zh
              have HO1 := Hid.mk (E12.out (by omega))
              have ML : True := trivial
              go_wp2_with (first | (go_at_call 26; clear ML; (with_reducible refine (HLFT.out hγ hβ _ HO1.out).mono ?_); rintro e2 w2 ⟨rfl, ho⟩; have HO2 := Hid.mk ho; clear ho))
              all_goals go_end0
              all_goals exact ⟨rfl, E4.out _ (E34.out (by omega) _ HO2.out)⟩
          · by_cases hδ : e < b
            · have za : ¬ ((s : Int) < (m : Int)) := by omega
              have zab : decide ((s : Int) < (m : Int)) = false := decide_eq_false za
              have zb : (m : Int) < (e : Int) := by omega
              have zbb : decide ((m : Int) < (e : Int)) = true := decide_eq_true zb
              have zc : ¬ ((a : Int) < (s : Int)) := by omega
              have zcb : decide ((a : Int) < (s : Int)) = false := decide_eq_false zc
              have zd : (s : Int) < (mid : Int) := by omega
              have zdb : decide ((s : Int) < (mid : Int)) = true := decide_eq_true zd
              have zf : ¬ ((mid : Int) < (e : Int)) := by omega
              have zfb : decide ((mid : Int) < (e : Int)) = false := decide_eq_false zf
              have zh : (e : Int) < (b : Int) := by omega
              have zhb : decide ((e : Int) < (b : Int)) = true := decide_eq_true zh
              have HO1 := Hid.mk (E12.out (by omega))
              go_wp2
              all_goals go_end0
              all_goals exact ⟨rfl, E4.out _ (E34.out (by omega) _ (E23.out (by omega) _ HO1.out))⟩
            · have za : ¬ ((s : Int) < (m : Int)) := by omega
              have zab : decide ((s : Int) < (m : Int)) = false := decide_eq_false za
              have zb : (m : Int) < (e : Int) := by omega
              have zbb : decide ((m : Int) < (e : Int)) = true := decide_eq_true zb
              have zc : ¬ ((a : Int) < (s : Int)) := by omega
              have zcb : decide ((a : Int) < (s : Int)) = false := decide_eq_false zc
              have zd : (s : Int) < (mid : Int) := by omega
              have zdb : decide ((s : Int) < (mid : Int)) = true := decide_eq_true zd
              have zf : ¬ ((mid : Int) < (e : Int)) := by omega
              have zfb : decide ((mid : Int) < (e : Int)) = false := decide_eq_false zf
              have zh : ¬ ((e : Int) < (b : Int)) := by omega
              have zhb : decide ((e : Int) < (b : Int)) = false := decide_eq_false zh
              have HO1 := Hid.mk (E12.out (by omega))
              go_wp2
              all_goals go_end0
              all_goals exact ⟨rfl, E4.out _ (E34.out (by omega) _ (E23.out (by omega) _ HO1.out))⟩
        · by_cases hγ : a < s
          · by_cases hδ : e < b
            · have za : ¬ ((s : Int) < (m : Int)) := by omega
              have zab : decide ((s : Int) < (m : Int)) = false := decide_eq_false za
              have zb : ¬ ((m : Int) < (e : Int)) := by omega
              have zbb : decide ((m : Int) < (e : Int)) = false := decide_eq_false zb
              have zc : (a : Int) < (s : Int) := by omega
              have zcb : decide ((a : Int) < (s : Int)) = true := decide_eq_true zc
              have zd : ¬ ((s : Int) < (mid : Int)) := by omega
              have zdb : decide ((s : Int) < (mid : Int)) = false := decide_eq_false zd
              have zf : ¬ ((mid : Int) < (e : Int)) := by omega
              have zfb : decide ((mid : Int) < (e : Int)) = false := decide_eq_false zf
              have zh : (e : Int) < (b : Int) := by omega
              have zhb : decide ((e : Int) < (b : Int)) = true := decide_eq_true zh
              have HO1 := Hid.mk (E12.out (by omega))
              go_wp2
              all_goals go_end0
              all_goals exact ⟨rfl, E4.out _ (E34.out (by omega) _ (E23.out (by omega) _ HO1.out))⟩
            · have za : ¬ ((s : Int) < (m : Int)) := by omega
              have zab : decide ((s : Int) < (m : Int)) = false := decide_eq_false za
              have zb : ¬ ((m : Int) < (e : Int)) := by omega
              have zbb : decide ((m : Int) < (e : Int)) = false := decide_eq_false zb
              have zc : (a : Int) < (s : Int) := by omega
              have zcb : decide ((a : Int) < (s : Int)) = true := decide_eq_true zc
              have zd : ¬ ((s : Int) < (mid : Int)) := by omega
              have zdb : decide ((s : Int) < (mid : Int)) = false := decide_eq_false zd
              have zf : ¬ ((mid : Int) < (e : Int)) := by omega
              have zfb : decide ((mid : Int) < (e : Int)) = false := decide_eq_false zf
              have zh : ¬ ((e : Int) < (b : Int)) := by omega
              have zhb : decide ((e : Int) < (b : Int)) = false := decide_eq_false zh
              have HO1 := Hid.mk (E12.out (by omega))
              go_wp2
              all_goals go_end0
              all_goals exact ⟨rfl, E4.out _ (E34.out (by omega) _ (E23.out (by omega) _ HO1.out))⟩
          · by_cases hδ : e < b
            · have za : ¬ ((s : Int) < (m : Int)) := by omega
              have zab : decide ((s : Int) < (m : Int)) = false := decide_eq_false za
              have zb : ¬ ((m : Int) < (e : Int)) := by omega
              have zbb : decide ((m : Int) < (e : Int)) = false := decide_eq_false zb
              have zc : ¬ ((a : Int) < (s : Int)) := by omega
              have zcb : decide ((a : Int) < (s : Int)) = false := decide_eq_false zc
              have zd : ¬ ((s : Int) < (mid : Int)) := by omega
              have zdb : decide ((s : Int) < (mid : Int)) = false := decide_eq_false zd
              have zf : ¬ ((mid : Int) < (e : Int)) := by omega
              have zfb : decide ((mid : Int) < (e : Int)) = false := decide_eq_false zf
              have zh : (e : Int) < (b : Int) := by omega
              have zhb : decide ((e : Int) < (b : Int)) = true := decide_eq_true zh
              have HO1 := Hid.mk (E12.out (by omega))
              go_wp2
              all_goals go_end0
              all_goals exact ⟨rfl, E4.out _ (E34.out (by omega) _ (E23.out (by omega) _ HO1.out))⟩
            · have za : ¬ ((s : Int) < (m : Int)) := by omega
              have zab : decide ((s : Int) < (m : Int)) = false := decide_eq_false za
              have zb : ¬ ((m : Int) < (e : Int)) := by omega
              have zbb : decide ((m : Int) < (e : Int)) = false := decide_eq_false zb
              have zc : ¬ ((a : Int) < (s : Int)) := by omega
              have zcb : decide ((a : Int) < (s : Int)) = false := decide_eq_false zc
              have zd : ¬ ((s : Int) < (mid : Int)) := by omega
              have zdb : decide ((s : Int) < (mid : Int)) = false := decide_eq_false zd
              have zf : ¬ ((mid : Int) < (e : Int)) := by omega
              have zfb : decide ((mid : Int) < (e : Int)) = false := decide_eq_false zf
              have zh : ¬ ((e : Int) < (b : Int)) := by omega
              have zhb : decide ((e : Int) < (b : Int)) = false := decide_eq_false zh
              have HO1 := Hid.mk (E12.out (by omega))
              go_wp2
              all_goals go_end0
              all_goals exact ⟨rfl, E4.out _ (E34.out (by omega) _ (E23.out (by omega) _ HO1.out))⟩
end Go.Eva
end
