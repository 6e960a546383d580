/- A verified evaluator of the translated code, part 4: EvaKc -/
import Derived.Test.YtdnfgleokacddaaK3
import Derived.Sort.WalkB2
import Derived.Sort.WalkB12
import Derived.Deep.LoopGhost
section
/- swapRangeCmpFunc walked. -/
namespace Go.Eva
open Go.Proofs Go.Shelf
open Go.RowKit Go.Lib Go.Sort
set_option linter.unusedVariables false
set_option linter.unusedSimpArgs false
set_option maxRecDepth 100000
structure Hid (p : Prop) : Prop where
  out : p
theorem sw_len {α : Type} {P X Y Z Q : List α} {n i : Nat} (hX : X.length = n) (hZ : Z.length = n) (hi : i ≤ n) : (sw P X Y Z Q i).length = P.length + n + Y.length + n + Q.length := by
  simp only [sw, List.length_append, List.length_take, List.length_drop]
  omega
set_option maxHeartbeats 2000000 in
theorem swr28 {k blk off cap N n a b : Nat} {l0 P X Y Z Q : List Tr} {w0 w : World} (zE : ∀ w, (Go.sizeOf 34).run Try.prog w = .ok k w) (R : RL k w0 blk off l0) (hs : l0.length = N) (hX : X.length = n) (hZ : Z.length = n) (ha : a = P.length) (hb : b = P.length + n + Y.length) (hl : (P ++ (X ++ (Y ++ (Z ++ Q)))).length = N) (S0 : SL k w0 blk off (P ++ (X ++ (Y ++ (Z ++ Q)))) w) (hsz : N < 4611686018427387904) :
    Calls Try.prog 28 #[.slice (some ⟨blk, off, none⟩) N cap, .int .i64 a, .int .i64 b, .int .i64 n, cmpV] w fun e w' => e = unitR ∧ SL k w0 blk off (P ++ (Z ++ (Y ++ (X ++ Q)))) w' := by
  have mixed : Try.prog.follows .mixedOrders = true := by kernel_rfl
  have aE := agg34
  have hN : N = P.length + n + Y.length + n + Q.length := by simp at hl; omega
  have S1 : Hid (SL k w0 blk off (sw P X Y Z Q 0) w) := ⟨by rw [sw_zero]; exact S0⟩
  have RR : Hid (RL k w0 blk off l0) := ⟨R⟩
  have HA := Hid.mk ha
  have HBb := Hid.mk hb
  have HNN := Hid.mk hN
  have HS := Hid.mk hs
  have HXX := Hid.mk hX
  have HZZ := Hid.mk hZ
  clear S0 R hl ha hb hN hs hX hZ
  go_enter Try.func28, Try.ntmps28
  go_wp2
  go_loopg [10] n (fun kx s10 wr => ∃ i : Nat, s10 = .int .i64 (i : Int) ∧ i + kx = n ∧ Hid (SL k w0 blk off (sw P X Y Z Q i) wr))
  case atStart => exact ⟨0, rfl, by omega, S1⟩
  case round =>
    clear S1
    obtain ⟨i, rfl, hik, S1⟩ := hrel
    cases gk with
    | zero =>
      obtain rfl : i = n := by omega
      have hd : decide ((i : Int) < (i : Int)) = false := decide_eq_false (by omega)
      go_wp2
      go_end0
      exact ⟨rfl, by rw [← sw_all HXX.out HZZ.out]; exact S1.out⟩
    | succ gk =>
      have hi : i < n := by omega
      have ha := HA.out
      have hb := HBb.out
      have hN := HNN.out
      have hs := HS.out
      have hX := HXX.out
      have hZ := HZZ.out
      obtain ⟨P1, x, M, z, Q1, e1, e2, e3, e4⟩ := sw_open (P := P) (Y := Y) (Q := Q) hX hZ hi
      have hlen : (P1 ++ x :: (M ++ z :: Q1)).length = N := by rw [← e1, sw_len hX hZ (by omega)]; omega
      have hia : a + i = P1.length := by omega
      have hjb : b + i = P1.length + 1 + M.length := by omega
      have l1 : a + i < N := by omega
      have l2 : b + i < N := by omega
      have S1 := S1.out
      rw [e1] at S1
      have gI : (P1 ++ x :: (M ++ z :: Q1)).toArray[a + i]! = x := by rw [arr_get (by rw [hlen]; exact l1)]; exact get_at _ hia
      have gJ : (P1 ++ x :: (M ++ z :: Q1)).toArray[b + i]! = z := by rw [arr_get (by rw [hlen]; exact l2)]; exact get_at2 _ hjb
      have sz : (P1 ++ x :: (M ++ z :: Q1)).toArray.size = N := by rw [List.size_toArray, hlen]
      have sz0 : (P1 ++ x :: (M ++ z :: Q1)).toArray.size = l0.toArray.size := by rw [sz, List.size_toArray, hs]
      have S2 := S1.swapped RR.out (a + i) (b + i) (by rw [sz]; exact l1) (by rw [sz]; exact l2)
      have l44a := S1.ld1 RR.out sz0 Try.prog (a + i) (by rw [sz]; exact l1)
      have l44b := S1.ld1 RR.out sz0 Try.prog (b + i) (by rw [sz]; exact l2)
      have s44a := S1.st1 RR.out sz0 Try.prog (a + i) (by rw [sz]; exact l1) z
      have s44b := S1.st2 RR.out sz0 Try.prog (a + i) (b + i) (by rw [sz]; exact l1) (by rw [sz]; exact l2) z x
      rw [gI, gJ, swp_list hia hjb] at S2
      rw [gI] at l44a
      rw [gJ] at l44b
      have n44a : (encR x).length = k := RR.out.hk _
      have n44b : (encR z).length = k := RR.out.hk _
      rw [← e4] at S2
      have S2 := Hid.mk S2
      generalize encR x = cI at S2 l44a s44b n44a
      generalize encR z = cJ at S2 l44b s44a s44b n44b
      have ea1 : ((a : Int) + (i : Int)).toNat = a + i := by omega
      have pa1 : (0 : Int) ≤ (a : Int) + (i : Int) := by omega
      have ba1 : (a : Int) + (i : Int) < (N : Int) := by omega
      have ra1 : IntKind.i64.wrap ((a : Int) + (i : Int)) = (a : Int) + (i : Int) := by rw [IntKind.wrap_i64]; omega
      have ec1 : ((b : Int) + (i : Int)).toNat = b + i := by omega
      have pc1 : (0 : Int) ≤ (b : Int) + (i : Int) := by omega
      have bc1 : (b : Int) + (i : Int) < (N : Int) := by omega
      have rc1 : IntKind.i64.wrap ((b : Int) + (i : Int)) = (b : Int) + (i : Int) := by rw [IntKind.wrap_i64]; omega
      have iz : (i : Int) < (n : Int) := by omega
      have ri1 : IntKind.i64.wrap ((i : Int) + 1) = (i : Int) + 1 := by rw [IntKind.wrap_i64]; omega
      clear S1 gI gJ sz sz0 e1 e4 hlen hia hjb l1 l2 e2 e3 ha hb hN hs hX hZ
      go_wp2_with fail
      go_big_region_o
      clear l44a l44b s44a s44b
      generalize (wr.drew.setCells blk (off + (a + i) * k) cJ).setCells blk (off + (b + i) * k) cI = w2 at S2 ⊢
      go_wp2
      go_roundg gk
      case measure => omega
      case rel => exact ⟨i + 1, by push_cast; rfl, by omega, S2⟩
end Go.Eva
end
