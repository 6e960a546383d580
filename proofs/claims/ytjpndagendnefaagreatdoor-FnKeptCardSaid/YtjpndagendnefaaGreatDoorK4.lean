/- A verified evaluator of the translated code, part 4: EvaG_5, EvaOk, EvaGd, EvaGt, EvaGa, EvaGv, EvaGo, EvaGp, EvaGq, EvaGr, EvaGs, EvaGu, EvaGx -/
import Derived.Test.YtjpndagendnefaaGreatDoorK3
import Derived.Lib.Split
section
/- The functions, as their texts evaluate. -/
set_option linter.unusedVariables false
set_option maxRecDepth 100000
namespace Go.Eva
open Go.Proofs
open Go.RowKit (wrap64)
/-! spec.StampCell -/
noncomputable def F108 (n : Nat) (a0 : Int) (a1 : Int) : Option (Int × Unit) :=
  (F126 n a0 a1 (2 : Int)).bind fun r1 =>
  some (r1.1, ())
noncomputable def c108 (n : Nat) : Con := ⟨[.one (.int .i64), .one (.int .i64)], [], [.one (.int .i64)], [], fun (x : Int × Int × Unit) => F108 n x.1 x.2.1⟩
noncomputable def G108 (n : Nat) : Gam := [((126, []), c126 n)]
theorem e108 (n : Nat) (x : Int × Int × Unit) : evBody tab (G108 n) n (c108 n) Tryz.f108 x = F108 n x.1 x.2.1 := by kernel_rfl
theorem g108 (W : World) (n : Nat) : Good Tryz.prog W 108 (c108 n) := body_good follows tabOk (GamOk.cons (g126 W n) GamOk.nil) (f := 108) (fn := Tryz.f108) (c := bodyOf Tryz.f108) (by kernel_rfl) (by kernel_rfl) (by kernel_rfl) (by kernel_rfl) (by kernel_rfl) (by kernel_rfl) (by kernel_rfl) (fun x r h => ⟨n, (e108 n x).trans h⟩)
/-! spec.GaugeCell -/
noncomputable def F110 (n : Nat) (a0 : Int) (a1 : Int) : Option (Int × Unit) :=
  (F126 n a0 a1 (3 : Int)).bind fun r1 =>
  some (r1.1, ())
noncomputable def c110 (n : Nat) : Con := ⟨[.one (.int .i64), .one (.int .i64)], [], [.one (.int .i64)], [], fun (x : Int × Int × Unit) => F110 n x.1 x.2.1⟩
noncomputable def G110 (n : Nat) : Gam := [((126, []), c126 n)]
theorem e110 (n : Nat) (x : Int × Int × Unit) : evBody tab (G110 n) n (c110 n) Tryz.f110 x = F110 n x.1 x.2.1 := by kernel_rfl
theorem g110 (W : World) (n : Nat) : Good Tryz.prog W 110 (c110 n) := body_good follows tabOk (GamOk.cons (g126 W n) GamOk.nil) (f := 110) (fn := Tryz.f110) (c := bodyOf Tryz.f110) (by kernel_rfl) (by kernel_rfl) (by kernel_rfl) (by kernel_rfl) (by kernel_rfl) (by kernel_rfl) (by kernel_rfl) (fun x r h => ⟨n, (e110 n x).trans h⟩)
/-! spec.PackGauge -/
noncomputable def F111 (n : Nat) (a0 : Int) (a1 : Int) : Option (Int × Unit) :=
  (F26 n a0 (1 : Int) (65535 : Int)).bind fun r1 =>
  if (!r1.1) = true then
    some (0, ())
  else
    (F26 n a1 (0 : Int) (65535 : Int)).bind fun r2 =>
    if (!r2.1) = true then
      some (0, ())
    else
      some ((wrap64 ((wrap64 (a0 * 65536)) + a1)), ())
noncomputable def c111 (n : Nat) : Con := ⟨[.one (.int .i64), .one (.int .i64)], [], [.one (.int .i64)], [], fun (x : Int × Int × Unit) => F111 n x.1 x.2.1⟩
noncomputable def G111 (n : Nat) : Gam := [((26, []), c26 n)]
theorem e111 (n : Nat) (x : Int × Int × Unit) : evBody tab (G111 n) n (c111 n) Tryz.f111 x = F111 n x.1 x.2.1 := by kernel_rfl
theorem g111 (W : World) (n : Nat) : Good Tryz.prog W 111 (c111 n) := body_good follows tabOk (GamOk.cons (g26 W n) GamOk.nil) (f := 111) (fn := Tryz.f111) (c := bodyOf Tryz.f111) (by kernel_rfl) (by kernel_rfl) (by kernel_rfl) (by kernel_rfl) (by kernel_rfl) (by kernel_rfl) (by kernel_rfl) (fun x r h => ⟨n, (e111 n x).trans h⟩)
/-! spec.TicketCell -/
noncomputable def F112 (n : Nat) (a0 : Int) (a1 : Int) : Option (Int × Unit) :=
  (F126 n a0 a1 (4 : Int)).bind fun r1 =>
  some (r1.1, ())
noncomputable def c112 (n : Nat) : Con := ⟨[.one (.int .i64), .one (.int .i64)], [], [.one (.int .i64)], [], fun (x : Int × Int × Unit) => F112 n x.1 x.2.1⟩
noncomputable def G112 (n : Nat) : Gam := [((126, []), c126 n)]
theorem e112 (n : Nat) (x : Int × Int × Unit) : evBody tab (G112 n) n (c112 n) Tryz.f112 x = F112 n x.1 x.2.1 := by kernel_rfl
theorem g112 (W : World) (n : Nat) : Good Tryz.prog W 112 (c112 n) := body_good follows tabOk (GamOk.cons (g126 W n) GamOk.nil) (f := 112) (fn := Tryz.f112) (c := bodyOf Tryz.f112) (by kernel_rfl) (by kernel_rfl) (by kernel_rfl) (by kernel_rfl) (by kernel_rfl) (by kernel_rfl) (by kernel_rfl) (fun x r h => ⟨n, (e112 n x).trans h⟩)
/-! spec.RingCell -/
noncomputable def F113 (n : Nat) (a0 : Int) (a1 : Int) (a2 : Int) : Option (Int × Unit) :=
  (F26 n a2 (0 : Int) (2 : Int)).bind fun r1 =>
  if (!r1.1) = true then
    some ((-1), ())
  else
    (F126 n a0 a1 (wrap64 (5 + a2))).bind fun r2 =>
    some (r2.1, ())
noncomputable def c113 (n : Nat) : Con := ⟨[.one (.int .i64), .one (.int .i64), .one (.int .i64)], [], [.one (.int .i64)], [], fun (x : Int × Int × Int × Unit) => F113 n x.1 x.2.1 x.2.2.1⟩
noncomputable def G113 (n : Nat) : Gam := [((26, []), c26 n), ((126, []), c126 n)]
theorem e113 (n : Nat) (x : Int × Int × Int × Unit) : evBody tab (G113 n) n (c113 n) Tryz.f113 x = F113 n x.1 x.2.1 x.2.2.1 := by kernel_rfl
theorem g113 (W : World) (n : Nat) : Good Tryz.prog W 113 (c113 n) := body_good follows tabOk (GamOk.cons (g26 W n) (GamOk.cons (g126 W n) GamOk.nil)) (f := 113) (fn := Tryz.f113) (c := bodyOf Tryz.f113) (by kernel_rfl) (by kernel_rfl) (by kernel_rfl) (by kernel_rfl) (by kernel_rfl) (by kernel_rfl) (by kernel_rfl) (fun x r h => ⟨n, (e113 n x).trans h⟩)
/-! spec.l9Put -/
noncomputable def F91 (n : Nat) (a0 : List Int) (a1 : Int) (a2 : Int) (a3 : Int) (a4 : Int) (a5 : Int) : Option (List Int × Bool × Unit) :=
  if (decide (a3 = 1)) = true then
    if (decide (2 ≠ 0)) = true then
    (F107 n a1 a2 (a4.tmod (2 : Int))).bind fun r1 =>
    if (decide (0 ≤ r1.1)) = true then
    if (decide (r1.1 < (a0.length : Int))) = true then
    (F87 n (wrap64 ((rdOf (0 : Int) a0 r1.1) + a5))).bind fun r2 =>
    if (decide (0 ≤ r1.1)) = true then
    if (decide (r1.1 < (a0.length : Int))) = true then
    some ((a0.set r1.1.toNat r2.1), false, ())
    else none
    else none
    else none
    else none
    else none
  else
    if (decide (a3 = 2)) = true then
      (F108 n a1 a2).bind fun r3 =>
      if (decide (0 ≤ r3.1)) = true then
      if (decide (r3.1 < (a0.length : Int))) = true then
      (F87 n (wrap64 ((rdOf (0 : Int) a0 r3.1) + 1))).bind fun r4 =>
      if (decide (0 ≤ r3.1)) = true then
      if (decide (r3.1 < (a0.length : Int))) = true then
      (F110 n a1 a2).bind fun r5 =>
      if (decide (0 ≤ r5.1)) = true then
      if (decide (r5.1 < ((a0.set r3.1.toNat r4.1).length : Int))) = true then
      (F109 n (rdOf (0 : Int) (a0.set r3.1.toNat r4.1) r5.1)).bind fun r6 =>
      if (decide (0 ≤ r3.1)) = true then
      if (decide (r3.1 < ((a0.set r3.1.toNat r4.1).length : Int))) = true then
      if (decide (r6.1 ≤ (rdOf (0 : Int) (a0.set r3.1.toNat r4.1) r3.1))) = true then
        (F110 n a1 a2).bind fun r7 =>
        if (decide (0 ≤ r3.1)) = true then
        if (decide (r3.1 < ((a0.set r3.1.toNat r4.1).length : Int))) = true then
        (F111 n (rdOf (0 : Int) (a0.set r3.1.toNat r4.1) r3.1) a5).bind fun r8 =>
        if (decide (0 ≤ r7.1)) = true then
        if (decide (r7.1 < ((a0.set r3.1.toNat r4.1).length : Int))) = true then
        some (((a0.set r3.1.toNat r4.1).set r7.1.toNat r8.1), false, ())
        else none
        else none
        else none
        else none
      else
        some ((a0.set r3.1.toNat r4.1), false, ())
      else none
      else none
      else none
      else none
      else none
      else none
      else none
      else none
    else
      (F112 n a1 a2).bind fun r9 =>
      if (decide (0 ≤ r9.1)) = true then
      if (decide (r9.1 < (a0.length : Int))) = true then
      if (decide (0 ≤ r9.1)) = true then
      if (decide (r9.1 < (a0.length : Int))) = true then
      (F87 n (wrap64 ((rdOf (0 : Int) a0 r9.1) + 1))).bind fun r10 =>
      if (decide (0 ≤ r9.1)) = true then
      if (decide (r9.1 < (a0.length : Int))) = true then
      if (decide ((rdOf (0 : Int) a0 r9.1) ≥ 3)) = true then
        some ((a0.set r9.1.toNat r10.1), true, ())
      else
        (F113 n a1 a2 (rdOf (0 : Int) a0 r9.1)).bind fun r11 =>
        if (decide (0 ≤ r11.1)) = true then
        if (decide (r11.1 < ((a0.set r9.1.toNat r10.1).length : Int))) = true then
        some (((a0.set r9.1.toNat r10.1).set r11.1.toNat (wrap64 (a5 + 1))), false, ())
        else none
        else none
      else none
      else none
      else none
      else none
      else none
      else none
noncomputable def c91 (n : Nat) : Con := ⟨[.one (.sl .own 3 (.int .i64)), .one (.int .i64), .one (.int .i64), .one (.int .i64), .one (.int .i64), .one (.int .i64)], [], [.one (.sl .own 3 (.int .i64)), .one (.bool)], [], fun (x : List Int × Int × Int × Int × Int × Int × Unit) => F91 n x.1 x.2.1 x.2.2.1 x.2.2.2.1 x.2.2.2.2.1 x.2.2.2.2.2.1⟩
noncomputable def G91 (n : Nat) : Gam := [((87, []), c87 n), ((107, []), c107 n), ((108, []), c108 n), ((109, []), c109 n), ((110, []), c110 n), ((111, []), c111 n), ((112, []), c112 n), ((113, []), c113 n)]
theorem e91 (n : Nat) (x : List Int × Int × Int × Int × Int × Int × Unit) : evBody tab (G91 n) n (c91 n) Tryz.f91 x = F91 n x.1 x.2.1 x.2.2.1 x.2.2.2.1 x.2.2.2.2.1 x.2.2.2.2.2.1 := by kernel_rfl
theorem g91 (W : World) (n : Nat) : Good Tryz.prog W 91 (c91 n) := body_good follows tabOk (GamOk.cons (g87 W n) (GamOk.cons (g107 W n) (GamOk.cons (g108 W n) (GamOk.cons (g109 W n) (GamOk.cons (g110 W n) (GamOk.cons (g111 W n) (GamOk.cons (g112 W n) (GamOk.cons (g113 W n) GamOk.nil)))))))) (f := 91) (fn := Tryz.f91) (c := bodyOf Tryz.f91) (by kernel_rfl) (by kernel_rfl) (by kernel_rfl) (by kernel_rfl) (by kernel_rfl) (by kernel_rfl) (by kernel_rfl) (fun x r h => ⟨n, (e91 n x).trans h⟩)
/-! spec.RecordNow -/
noncomputable def F74 (n : Nat) (a0 : List Int) (a1 : Int) (a2 : ByteArray) (a3 : Int) : Option (List Int × Int × Unit) :=
  (F84 n a0).bind fun r1 =>
  (F8 n a0).bind fun r2 =>
  if (!r2.1) = true then
    some (r1.1, 1, ())
  else
    (F26 n a1 (0 : Int) (2 : Int)).bind fun r3 =>
    if (!r3.1) = true then
      some (r1.1, 1, ())
    else
      (F34 n a2).bind fun r4 =>
      if (!r4.1) = true then
        some (r1.1, 1, ())
      else
        (F26 n a3 (0 : Int) (65535 : Int)).bind fun r5 =>
        if (!r5.1) = true then
          some (r1.1, 1, ())
        else
          (F90 n a0 a2).bind fun r6 =>
          if (decide (r6.1 < 0)) = true then
            some (r1.1, 2, ())
          else
            if (decide (0 ≤ 0)) = true then
            if (decide (0 < (a0.length : Int))) = true then
            if (decide (2 ≠ 0)) = true then
            (F91 n r1.1 ((rdOf (0 : Int) a0 (0 : Int)).tmod (2 : Int)) r6.1 r6.2.1 a1 a3).bind fun r7 =>
            if r7.2.1 = true then
              some (r7.1, 5, ())
            else
              some (r7.1, 0, ())
            else none
            else none
            else none
noncomputable def c74 (n : Nat) : Con := ⟨[.one (.sl (.imm true) 3 (.int .i64)), .one (.int .i64), .one (.str), .one (.int .i64)], [], [.one (.sl .own 3 (.int .i64)), .one (.int .i64)], [], fun (x : List Int × Int × ByteArray × Int × Unit) => F74 n x.1 x.2.1 x.2.2.1 x.2.2.2.1⟩
noncomputable def G74 (n : Nat) : Gam := [((8, []), c8 n), ((26, []), c26 n), ((34, []), c34 n), ((84, []), c84 n), ((90, []), c90 n), ((91, []), c91 n)]
theorem e74 (n : Nat) (x : List Int × Int × ByteArray × Int × Unit) : evBody tab (G74 n) n (c74 n) Tryz.f74 x = F74 n x.1 x.2.1 x.2.2.1 x.2.2.2.1 := by kernel_rfl
theorem g74 (W : World) (n : Nat) : Good Tryz.prog W 74 (c74 n) := body_good follows tabOk (GamOk.cons (g8 W n) (GamOk.cons (g26 W n) (GamOk.cons (g34 W n) (GamOk.cons (g84 W n) (GamOk.cons (g90 W n) (GamOk.cons (g91 W n) GamOk.nil)))))) (f := 74) (fn := Tryz.f74) (c := bodyOf Tryz.f74) (by kernel_rfl) (by kernel_rfl) (by kernel_rfl) (by kernel_rfl) (by kernel_rfl) (by kernel_rfl) (by kernel_rfl) (fun x r h => ⟨n, (e74 n x).trans h⟩)
/-! spec.l8Arena -/
noncomputable def st49_0 (n : Nat) (g0 : Int → (List Int) → (List Int) → Int → Int → Option (List Int × List Int × Int × Int × Unit)) (i0 : Int) (l1 : List Int) (l2 : List Int) (i3 : Int) (i4 : Int) : Option (List Int × List Int × Int × Int × Unit) :=
  if (decide (i0 > 0)) = true then
    (F65 n (8 : Int) l2 i3 i4).bind fun r3 =>
    if r3.1 = true then
      (F72 n l1).bind fun r4 =>
      (F73 n r4.1).bind fun r5 =>
      if (decide ((r5.1.length : Int) > 0)) = true then
        (F43 n (3 : Int) r3.2.1 r3.2.2.1 r3.2.2.2.1).bind fun r6 =>
        (F43 n (r5.1.length : Int) r6.2.1 r6.2.2.1 r6.2.2.2.1).bind fun r7 =>
        if (decide (0 ≤ r7.1)) = true then
        if (decide (r7.1 < (r5.1.length : Int))) = true then
        (F75 n r7.2.1 r7.2.2.1 r7.2.2.2.1).bind fun r8 =>
        (F74 n r4.1 r6.1 (rdOf (⟨#[]⟩ : ByteArray) r5.1 r7.1) r8.1).bind fun r9 =>
        g0 (wrap64 (i0 - 1)) r9.1 r8.2.1 r8.2.2.1 r8.2.2.2.1
        else none
        else none
      else
        g0 (wrap64 (i0 - 1)) r4.1 r3.2.1 r3.2.2.1 r3.2.2.2.1
    else
      (F73 n l1).bind fun r10 =>
      if (decide ((r10.1.length : Int) > 0)) = true then
        (F43 n (3 : Int) r3.2.1 r3.2.2.1 r3.2.2.2.1).bind fun r11 =>
        (F43 n (r10.1.length : Int) r11.2.1 r11.2.2.1 r11.2.2.2.1).bind fun r12 =>
        if (decide (0 ≤ r12.1)) = true then
        if (decide (r12.1 < (r10.1.length : Int))) = true then
        (F75 n r12.2.1 r12.2.2.1 r12.2.2.2.1).bind fun r13 =>
        (F74 n l1 r11.1 (rdOf (⟨#[]⟩ : ByteArray) r10.1 r12.1) r13.1).bind fun r14 =>
        g0 (wrap64 (i0 - 1)) r14.1 r13.2.1 r13.2.2.1 r13.2.2.2.1
        else none
        else none
      else
        g0 (wrap64 (i0 - 1)) l1 r3.2.1 r3.2.2.1 r3.2.2.2.1
  else
    some (l1, l2, i3, i4, ())
noncomputable def lp49_0 (n : Nat) : Nat → Int → (List Int) → (List Int) → Int → Int → Option (List Int × List Int × Int × Int × Unit)
  | 0 => fun _ _ _ _ _ => none
  | k + 1 => st49_0 n (lp49_0 n k)
noncomputable def st49 (n : Nat) (h0 : Int → (List Int) → (List Int) → Int → Int → Option (List Int × List Int × Int × Int × Unit)) (a1 : List Int) (a2 : Int) (a3 : Int) : Option (List Int × List Int × Int × Int × Unit) :=
  (F71 n (5 : Int) a1 a2 a3).bind fun r1 =>
  (F43 n (14 : Int) r1.2.1 r1.2.2.1 r1.2.2.2.1).bind fun r2 =>
  h0 r2.1 r1.1 r2.2.1 r2.2.2.1 r2.2.2.2.1
noncomputable def F49 (n : Nat) (a1 : List Int) (a2 : Int) (a3 : Int) : Option (List Int × List Int × Int × Int × Unit) := st49 n (lp49_0 n n) a1 a2 a3
noncomputable def c49 (n : Nat) : Con := ⟨[.one (.ptr 0 0)], [[(.sl (.imm false) 5 (.int .u8)), (.int .i64), (.int .i64)]], [.one (.sl .own 3 (.int .i64))], [[(.sl (.imm false) 5 (.int .u8)), (.int .i64), (.int .i64)]], fun (x : Unit × List Int × Int × Int × Unit) => F49 n x.2.1 x.2.2.1 x.2.2.2.1⟩
noncomputable def G49 (n : Nat) : Gam := [((43, []), c43 n), ((65, []), c65 n), ((71, []), c71 n), ((72, []), c72 n), ((73, []), c73 n), ((74, []), c74 n), ((75, []), c75 n)]
noncomputable def S49_0 (i0 : Int) (l1 : List Int) (l2 : List Int) (i3 : Int) (i4 : Int) : St := ⟨[.ptr 43 0, .dead, .dead, .sr 3 0 none 0 0 none, .int .i64 i0] ++ List.replicate 38 .dead, [Ob.none, Ob.none, Ob.none, ⟨false, [.sl .own 3 (.int .i64) l1], 0, 0⟩] ++ List.replicate 39 Ob.none ++ [⟨true, [.sl (.imm false) 5 (.int .u8) l2, .int .i64 i3, .int .i64 i4], 0, 0⟩]⟩
noncomputable def ga49_0 (n : Nat) (ks : List Nat) (k : Nat) (st : St) : Option (List Int × List Int × Int × Int × Unit) := goAt tab (G49 n) n (bodyOf Tryz.f49) (lvOf Tryz.f49) (lvOf Tryz.f49).ret [1, 1, 0, 1, 0] ks k st (evBody.endK tab (c49 n) Tryz.f49)
theorem el49_0 (n : Nat) : ∀ (k : Nat), ∀ (i0 : Int) (l1 : List Int) (l2 : List Int) (i3 : Int) (i4 : Int), ga49_0 n [] k (S49_0 i0 l1 l2 i3 i4) = lp49_0 n k i0 l1 l2 i3 i4 := by
  intro k
  induction k with
  | zero => intros; rfl
  | succ k ih =>
    intro i0 l1 l2 i3 i4
    have h : ga49_0 n [] (k + 1) (S49_0 i0 l1 l2 i3 i4) = st49_0 n (fun w0 w1 w2 w3 w4 => ga49_0 n [] k (S49_0 w0 w1 w2 w3 w4)) i0 l1 l2 i3 i4 := by kernel_rfl
    rw [h]
    have e : (fun w0 w1 w2 w3 w4 => ga49_0 n [] k (S49_0 w0 w1 w2 w3 w4)) = lp49_0 n k := by
      funext w0 w1 w2 w3 w4; exact ih w0 w1 w2 w3 w4
    rw [e]
    rfl
theorem e49 (n : Nat) (x : Unit × List Int × Int × Int × Unit) : evBody tab (G49 n) n (c49 n) Tryz.f49 x = F49 n x.2.1 x.2.2.1 x.2.2.2.1 := by
  have h : evBody tab (G49 n) n (c49 n) Tryz.f49 x = st49 n (fun w0 w1 w2 w3 w4 => ga49_0 n [] n (S49_0 w0 w1 w2 w3 w4)) x.2.1 x.2.2.1 x.2.2.2.1 := by kernel_rfl
  rw [h]
  have e0 : (fun w0 w1 w2 w3 w4 => ga49_0 n [] n (S49_0 w0 w1 w2 w3 w4)) = lp49_0 n n := by
    funext w0 w1 w2 w3 w4; exact el49_0 n n w0 w1 w2 w3 w4
  rw [e0]
  rfl
theorem g49 (W : World) (n : Nat) : Good Tryz.prog W 49 (c49 n) := body_good follows tabOk (GamOk.cons (g43 W n) (GamOk.cons (g65 W n) (GamOk.cons (g71 W n) (GamOk.cons (g72 W n) (GamOk.cons (g73 W n) (GamOk.cons (g74 W n) (GamOk.cons (g75 W n) GamOk.nil))))))) (f := 49) (fn := Tryz.f49) (c := bodyOf Tryz.f49) (by kernel_rfl) (by kernel_rfl) (by kernel_rfl) (by kernel_rfl) (by kernel_rfl) (by kernel_rfl) (by kernel_rfl) (fun x r h => ⟨n, (e49 n x).trans h⟩)
/-! spec.DrawReadCells -/
noncomputable def F20 (n : Nat) (a0 : List Int) : Option (ByteArray × Unit) :=
  (F22 n a0).bind fun r1 =>
  (F49 n r1.2.1 r1.2.2.1 r1.2.2.2.1).bind fun r2 =>
  (F48 n r2.1).bind fun r3 =>
  (F43 n (4 : Int) r2.2.1 r2.2.2.1 r2.2.2.2.1).bind fun r4 =>
  if (decide (r4.1 = 0)) = true then
    (F44 n r3.1 r4.2.1 r4.2.2.1 r4.2.2.2.1).bind fun r5 =>
    some (r5.1, ())
  else
    if (decide (r4.1 = 1)) = true then
      if (decide ((r3.1.size + (⟨#[0]⟩ : ByteArray).size : Nat) ≤ 9223372036854775807)) = true then
      some ((r3.1 ++ (⟨#[0]⟩ : ByteArray)), ())
      else none
    else
      some (r3.1, ())
noncomputable def c20 (n : Nat) : Con := ⟨[.one (.sl (.imm false) 5 (.int .u8))], [], [.one (.str)], [], fun (x : List Int × Unit) => F20 n x.1⟩
noncomputable def G20 (n : Nat) : Gam := [((22, []), c22 n), ((43, []), c43 n), ((44, []), c44 n), ((48, []), c48 n), ((49, []), c49 n)]
theorem e20 (n : Nat) (x : List Int × Unit) : evBody tab (G20 n) n (c20 n) Tryz.f20 x = F20 n x.1 := by kernel_rfl
theorem g20 (W : World) (n : Nat) : Good Tryz.prog W 20 (c20 n) := body_good follows tabOk (GamOk.cons (g22 W n) (GamOk.cons (g43 W n) (GamOk.cons (g44 W n) (GamOk.cons (g48 W n) (GamOk.cons (g49 W n) GamOk.nil))))) (f := 20) (fn := Tryz.f20) (c := bodyOf Tryz.f20) (by kernel_rfl) (by kernel_rfl) (by kernel_rfl) (by kernel_rfl) (by kernel_rfl) (by kernel_rfl) (by kernel_rfl) (fun x r h => ⟨n, (e20 n x).trans h⟩)
/-! laws.big -/
noncomputable def F4 (n : Nat) (a0 : List Int) : Option (Bool × Unit) :=
  some (decide ((a0.length : Int) > 1048576), ())
noncomputable def c4 (n : Nat) : Con := ⟨[.one (.sl (.imm true) 5 (.int .u8))], [], [.one (.bool)], [], fun (x : List Int × Unit) => F4 n x.1⟩
noncomputable def G4 (n : Nat) : Gam := []
theorem e4 (n : Nat) (x : List Int × Unit) : evBody tab (G4 n) n (c4 n) Tryz.f4 x = F4 n x.1 := by kernel_rfl
theorem g4 (W : World) (n : Nat) : Good Tryz.prog W 4 (c4 n) := body_good follows tabOk GamOk.nil (f := 4) (fn := Tryz.f4) (c := bodyOf Tryz.f4) (by kernel_rfl) (by kernel_rfl) (by kernel_rfl) (by kernel_rfl) (by kernel_rfl) (by kernel_rfl) (by kernel_rfl) (fun x r h => ⟨n, (e4 n x).trans h⟩)
/-! spec.l2Cells -/
noncomputable def st51_0 (n : Nat) (g0 : Int → (List Int) → (List Int) → Int → Int → Option (List Int × List Int × Int × Int × Unit)) (i0 : Int) (l1 : List Int) (l2 : List Int) (i3 : Int) (i4 : Int) : Option (List Int × List Int × Int × Int × Unit) :=
  if (decide (i0 > 0)) = true then
    (F43 n (l1.length : Int) l2 i3 i4).bind fun r2 =>
    (F43 n (999 : Int) r2.2.1 r2.2.2.1 r2.2.2.2.1).bind fun r3 =>
    (F50 n ([1, 2, 281474976710655, r3.1] : List Int) r3.2.1 r3.2.2.1 r3.2.2.2.1).bind fun r4 =>
    if (decide (0 ≤ r2.1)) = true then
    if (decide (r2.1 < (l1.length : Int))) = true then
    g0 (wrap64 (i0 - 1)) (l1.set r2.1.toNat r4.1) r4.2.1 r4.2.2.1 r4.2.2.2.1
    else none
    else none
  else
    (F43 n (20 : Int) l2 i3 i4).bind fun r5 =>
    if (decide (r5.1 = 0)) = true then
      if (decide (0 ≤ 0)) = true then
      if (decide (0 ≤ (wrap64 ((l1.length : Int) - 1)))) = true then
      if (decide ((wrap64 ((l1.length : Int) - 1)) ≤ (l1.length : Int))) = true then
      some ((cutL l1 (0 : Int) (wrap64 ((l1.length : Int) - 1))), r5.2.1, r5.2.2.1, r5.2.2.2.1, ())
      else none
      else none
      else none
    else
      if (decide (r5.1 = 1)) = true then
        (F43 n (l1.length : Int) r5.2.1 r5.2.2.1 r5.2.2.2.1).bind fun r6 =>
        (F50 n ([(-1), 281474976710656] : List Int) r6.2.1 r6.2.2.1 r6.2.2.2.1).bind fun r7 =>
        if (decide (0 ≤ r6.1)) = true then
        if (decide (r6.1 < (l1.length : Int))) = true then
        some ((l1.set r6.1.toNat r7.1), r7.2.1, r7.2.2.1, r7.2.2.2.1, ())
        else none
        else none
      else
        some (l1, r5.2.1, r5.2.2.1, r5.2.2.2.1, ())
noncomputable def lp51_0 (n : Nat) : Nat → Int → (List Int) → (List Int) → Int → Int → Option (List Int × List Int × Int × Int × Unit)
  | 0 => fun _ _ _ _ _ => none
  | k + 1 => st51_0 n (lp51_0 n k)
noncomputable def st51 (n : Nat) (h0 : Int → (List Int) → (List Int) → Int → Int → Option (List Int × List Int × Int × Int × Unit)) (a1 : List Int) (a2 : Int) (a3 : Int) : Option (List Int × List Int × Int × Int × Unit) :=
  if (decide (0 ≤ 71)) = true then
  if (decide (71 = 71)) = true then
  if (decide (71 * 8 ≤ 140737488355328)) = true then
  (F43 n (12 : Int) a1 a2 a3).bind fun r1 =>
  h0 r1.1 (List.replicate (71 : Int).toNat (0 : Int)) r1.2.1 r1.2.2.1 r1.2.2.2.1
  else none
  else none
  else none
noncomputable def F51 (n : Nat) (a1 : List Int) (a2 : Int) (a3 : Int) : Option (List Int × List Int × Int × Int × Unit) := st51 n (lp51_0 n n) a1 a2 a3
noncomputable def c51 (n : Nat) : Con := ⟨[.one (.ptr 0 0)], [[(.sl (.imm false) 5 (.int .u8)), (.int .i64), (.int .i64)]], [.one (.sl .own 3 (.int .i64))], [[(.sl (.imm false) 5 (.int .u8)), (.int .i64), (.int .i64)]], fun (x : Unit × List Int × Int × Int × Unit) => F51 n x.2.1 x.2.2.1 x.2.2.2.1⟩
noncomputable def G51 (n : Nat) : Gam := [((43, []), c43 n), ((50, []), c50 n)]
noncomputable def S51_0 (i0 : Int) (l1 : List Int) (l2 : List Int) (i3 : Int) (i4 : Int) : St := ⟨[.ptr 44 0, .dead, .dead, .sr 3 0 none 0 0 none, .int .i64 i0] ++ List.replicate 39 .dead, [Ob.none, Ob.none, Ob.none, ⟨false, [.sl .own 3 (.int .i64) l1], 0, 0⟩] ++ List.replicate 40 Ob.none ++ [⟨true, [.sl (.imm false) 5 (.int .u8) l2, .int .i64 i3, .int .i64 i4], 0, 0⟩]⟩
noncomputable def ga51_0 (n : Nat) (ks : List Nat) (k : Nat) (st : St) : Option (List Int × List Int × Int × Int × Unit) := goAt tab (G51 n) n (bodyOf Tryz.f51) (lvOf Tryz.f51) (lvOf Tryz.f51).ret [1, 1, 0, 1, 0] ks k st (evBody.endK tab (c51 n) Tryz.f51)
theorem el51_0 (n : Nat) : ∀ (k : Nat), ∀ (i0 : Int) (l1 : List Int) (l2 : List Int) (i3 : Int) (i4 : Int), ga51_0 n [] k (S51_0 i0 l1 l2 i3 i4) = lp51_0 n k i0 l1 l2 i3 i4 := by
  intro k
  induction k with
  | zero => intros; rfl
  | succ k ih =>
    intro i0 l1 l2 i3 i4
    have h : ga51_0 n [] (k + 1) (S51_0 i0 l1 l2 i3 i4) = st51_0 n (fun w0 w1 w2 w3 w4 => ga51_0 n [] k (S51_0 w0 w1 w2 w3 w4)) i0 l1 l2 i3 i4 := by kernel_rfl
    rw [h]
    have e : (fun w0 w1 w2 w3 w4 => ga51_0 n [] k (S51_0 w0 w1 w2 w3 w4)) = lp51_0 n k := by
      funext w0 w1 w2 w3 w4; exact ih w0 w1 w2 w3 w4
    rw [e]
    rfl
theorem e51 (n : Nat) (x : Unit × List Int × Int × Int × Unit) : evBody tab (G51 n) n (c51 n) Tryz.f51 x = F51 n x.2.1 x.2.2.1 x.2.2.2.1 := by
  have h : evBody tab (G51 n) n (c51 n) Tryz.f51 x = st51 n (fun w0 w1 w2 w3 w4 => ga51_0 n [] n (S51_0 w0 w1 w2 w3 w4)) x.2.1 x.2.2.1 x.2.2.2.1 := by kernel_rfl
  rw [h]
  have e0 : (fun w0 w1 w2 w3 w4 => ga51_0 n [] n (S51_0 w0 w1 w2 w3 w4)) = lp51_0 n n := by
    funext w0 w1 w2 w3 w4; exact el51_0 n n w0 w1 w2 w3 w4
  rw [e0]
  rfl
theorem g51 (W : World) (n : Nat) : Good Tryz.prog W 51 (c51 n) := body_good follows tabOk (GamOk.cons (g43 W n) (GamOk.cons (g50 W n) GamOk.nil)) (f := 51) (fn := Tryz.f51) (c := bodyOf Tryz.f51) (by kernel_rfl) (by kernel_rfl) (by kernel_rfl) (by kernel_rfl) (by kernel_rfl) (by kernel_rfl) (by kernel_rfl) (fun x r h => ⟨n, (e51 n x).trans h⟩)
/-! spec.l8Any -/
noncomputable def F21 (n : Nat) (a1 : List Int) (a2 : Int) (a3 : Int) : Option (List Int × List Int × Int × Int × Unit) :=
  (F49 n a1 a2 a3).bind fun r1 =>
  (F43 n (14 : Int) r1.2.1 r1.2.2.1 r1.2.2.2.1).bind fun r2 =>
  if (decide (r2.1 = 0)) = true then
    (F43 n (r1.1.length : Int) r2.2.1 r2.2.2.1 r2.2.2.2.1).bind fun r3 =>
    (F50 n ([1, 9, 281474976710655, 65537] : List Int) r3.2.1 r3.2.2.1 r3.2.2.2.1).bind fun r4 =>
    if (decide (0 ≤ r3.1)) = true then
    if (decide (r3.1 < (r1.1.length : Int))) = true then
    some ((r1.1.set r3.1.toNat r4.1), r4.2.1, r4.2.2.1, r4.2.2.2.1, ())
    else none
    else none
  else
    if (decide (r2.1 = 1)) = true then
      (F51 n r2.2.1 r2.2.2.1 r2.2.2.2.1).bind fun r5 =>
      some (r5.1, r5.2.1, r5.2.2.1, r5.2.2.2.1, ())
    else
      if (decide (r2.1 = 2)) = true then
        (F50 n ([1, 5, 281474976710655] : List Int) r2.2.1 r2.2.2.1 r2.2.2.2.1).bind fun r6 =>
        if (decide (0 ≤ 0)) = true then
        if (decide (0 < (r1.1.length : Int))) = true then
        some ((r1.1.set (0 : Int).toNat r6.1), r6.2.1, r6.2.2.1, r6.2.2.2.1, ())
        else none
        else none
      else
        some (r1.1, r2.2.1, r2.2.2.1, r2.2.2.2.1, ())
noncomputable def c21 (n : Nat) : Con := ⟨[.one (.ptr 0 0)], [[(.sl (.imm false) 5 (.int .u8)), (.int .i64), (.int .i64)]], [.one (.sl .own 3 (.int .i64))], [[(.sl (.imm false) 5 (.int .u8)), (.int .i64), (.int .i64)]], fun (x : Unit × List Int × Int × Int × Unit) => F21 n x.2.1 x.2.2.1 x.2.2.2.1⟩
noncomputable def G21 (n : Nat) : Gam := [((43, []), c43 n), ((49, []), c49 n), ((50, []), c50 n), ((51, []), c51 n)]
theorem e21 (n : Nat) (x : Unit × List Int × Int × Int × Unit) : evBody tab (G21 n) n (c21 n) Tryz.f21 x = F21 n x.2.1 x.2.2.1 x.2.2.2.1 := by kernel_rfl
theorem g21 (W : World) (n : Nat) : Good Tryz.prog W 21 (c21 n) := body_good follows tabOk (GamOk.cons (g43 W n) (GamOk.cons (g49 W n) (GamOk.cons (g50 W n) (GamOk.cons (g51 W n) GamOk.nil)))) (f := 21) (fn := Tryz.f21) (c := bodyOf Tryz.f21) (by kernel_rfl) (by kernel_rfl) (by kernel_rfl) (by kernel_rfl) (by kernel_rfl) (by kernel_rfl) (by kernel_rfl) (fun x r h => ⟨n, (e21 n x).trans h⟩)
/-! spec.DrawShowCells -/
noncomputable def F5 (n : Nat) (a0 : List Int) : Option (List Int × Unit) :=
  (F22 n a0).bind fun r1 =>
  (F21 n r1.2.1 r1.2.2.1 r1.2.2.2.1).bind fun r2 =>
  some (r2.1, ())
noncomputable def c5 (n : Nat) : Con := ⟨[.one (.sl (.imm false) 5 (.int .u8))], [], [.one (.sl .own 3 (.int .i64))], [], fun (x : List Int × Unit) => F5 n x.1⟩
noncomputable def G5 (n : Nat) : Gam := [((21, []), c21 n), ((22, []), c22 n)]
theorem e5 (n : Nat) (x : List Int × Unit) : evBody tab (G5 n) n (c5 n) Tryz.f5 x = F5 n x.1 := by kernel_rfl
theorem g5 (W : World) (n : Nat) : Good Tryz.prog W 5 (c5 n) := body_good follows tabOk (GamOk.cons (g21 W n) (GamOk.cons (g22 W n) GamOk.nil)) (f := 5) (fn := Tryz.f5) (c := bodyOf Tryz.f5) (by kernel_rfl) (by kernel_rfl) (by kernel_rfl) (by kernel_rfl) (by kernel_rfl) (by kernel_rfl) (by kernel_rfl) (fun x r h => ⟨n, (e5 n x).trans h⟩)
/-! impl.ReadFixed -/
noncomputable def st23_0 (n : Nat) (g0 : ByteArray → Int → Int → Int → Option (Int × Bool × Unit)) (s0 : ByteArray) (i1 : Int) (i2 : Int) (i3 : Int) : Option (Int × Bool × Unit) :=
  if (decide (i3 < i2)) = true then
    if (decide (0 ≤ 8)) = true then
    if (decide (0 ≤ i3)) = true then
    if (decide (i3 < (s0.size : Int))) = true then
    g0 s0 (orI .i64 (shlI .i64 i1 (min (8 : Int).toNat 64)) (wrap64 ((bt s0 i3)))) i2 (wrap64 (i3 + 1))
    else none
    else none
    else none
  else
    some (i1, true, ())
noncomputable def lp23_0 (n : Nat) : Nat → ByteArray → Int → Int → Int → Option (Int × Bool × Unit)
  | 0 => fun _ _ _ _ => none
  | k + 1 => st23_0 n (lp23_0 n k)
noncomputable def st23 (n : Nat) (h0 : ByteArray → Int → Int → Int → Option (Int × Bool × Unit)) (a0 : ByteArray) (a1 : Int) : Option (Int × Bool × Unit) :=
  (F39 n a1 (1 : Int) (7 : Int)).bind fun r1 =>
  if (!r1.1) = true then
    some (0, false, ())
  else
    if (decide ((a0.size : Int) < a1)) = true then
      some (0, false, ())
    else
      h0 a0 (0 : Int) a1 (0 : Int)
noncomputable def F23 (n : Nat) (a0 : ByteArray) (a1 : Int) : Option (Int × Bool × Unit) := st23 n (lp23_0 n n) a0 a1
noncomputable def c23 (n : Nat) : Con := ⟨[.one (.str), .one (.int .i64)], [], [.one (.int .i64), .one (.bool)], [], fun (x : ByteArray × Int × Unit) => F23 n x.1 x.2.1⟩
noncomputable def G23 (n : Nat) : Gam := [((39, []), c39 n)]
noncomputable def S23_0 (s0 : ByteArray) (i1 : Int) (i2 : Int) (i3 : Int) : St := ⟨[.str s0] ++ List.replicate 5 .dead ++ [.int .i64 i1] ++ List.replicate 10 .dead ++ [.int .i64 i2, .int .i64 i3] ++ List.replicate 11 .dead, List.replicate 30 Ob.none⟩
noncomputable def ga23_0 (n : Nat) (ks : List Nat) (k : Nat) (st : St) : Option (Int × Bool × Unit) := goAt tab (G23 n) n (bodyOf Tryz.f23) (lvOf Tryz.f23) (lvOf Tryz.f23).ret [1, 1, 1, 0, 1, 0] ks k st (evBody.endK tab (c23 n) Tryz.f23)
theorem el23_0 (n : Nat) : ∀ (k : Nat), ∀ (s0 : ByteArray) (i1 : Int) (i2 : Int) (i3 : Int), ga23_0 n [] k (S23_0 s0 i1 i2 i3) = lp23_0 n k s0 i1 i2 i3 := by
  intro k
  induction k with
  | zero => intros; rfl
  | succ k ih =>
    intro s0 i1 i2 i3
    have h : ga23_0 n [] (k + 1) (S23_0 s0 i1 i2 i3) = st23_0 n (fun w0 w1 w2 w3 => ga23_0 n [] k (S23_0 w0 w1 w2 w3)) s0 i1 i2 i3 := by kernel_rfl
    rw [h]
    have e : (fun w0 w1 w2 w3 => ga23_0 n [] k (S23_0 w0 w1 w2 w3)) = lp23_0 n k := by
      funext w0 w1 w2 w3; exact ih w0 w1 w2 w3
    rw [e]
    rfl
theorem e23 (n : Nat) (x : ByteArray × Int × Unit) : evBody tab (G23 n) n (c23 n) Tryz.f23 x = F23 n x.1 x.2.1 := by
  have h : evBody tab (G23 n) n (c23 n) Tryz.f23 x = st23 n (fun w0 w1 w2 w3 => ga23_0 n [] n (S23_0 w0 w1 w2 w3)) x.1 x.2.1 := by kernel_rfl
  rw [h]
  have e0 : (fun w0 w1 w2 w3 => ga23_0 n [] n (S23_0 w0 w1 w2 w3)) = lp23_0 n n := by
    funext w0 w1 w2 w3; exact el23_0 n n w0 w1 w2 w3
  rw [e0]
  rfl
theorem g23 (W : World) (n : Nat) : Good Tryz.prog W 23 (c23 n) := body_good follows tabOk (GamOk.cons (g39 W n) GamOk.nil) (f := 23) (fn := Tryz.f23) (c := bodyOf Tryz.f23) (by kernel_rfl) (by kernel_rfl) (by kernel_rfl) (by kernel_rfl) (by kernel_rfl) (by kernel_rfl) (by kernel_rfl) (fun x r h => ⟨n, (e23 n x).trans h⟩)
/-! impl.ReadCells -/
noncomputable def st6_0 (n : Nat) (g0 : ByteArray → Int → (List Int) → Option (List Int × Bool × Unit)) (s0 : ByteArray) (i1 : Int) (l2 : List Int) : Option (List Int × Bool × Unit) :=
  if (decide (i1 < (s0.size : Int))) = true then
    if (decide (0 ≤ i1)) = true then
    if (decide (i1 ≤ (s0.size : Int))) = true then
    if (decide ((s0.size : Int) ≤ (s0.size : Int))) = true then
    (F23 n (s0.extract i1.toNat (s0.size : Int).toNat) (6 : Int)).bind fun r1 =>
    if (decide ((l2.length + ([r1.1] : List Int).length) * 8 ≤ 140737488355328)) = true then
    g0 s0 (wrap64 (i1 + 6)) (l2 ++ ([r1.1] : List Int))
    else none
    else none
    else none
    else none
  else
    some (l2, true, ())
noncomputable def lp6_0 (n : Nat) : Nat → ByteArray → Int → (List Int) → Option (List Int × Bool × Unit)
  | 0 => fun _ _ _ => none
  | k + 1 => st6_0 n (lp6_0 n k)
noncomputable def st6 (n : Nat) (h0 : ByteArray → Int → (List Int) → Option (List Int × Bool × Unit)) (a0 : ByteArray) : Option (List Int × Bool × Unit) :=
  if (decide ((a0.size : Int) ≠ 426)) = true then
    some (([] : List Int), false, ())
  else
    h0 a0 (0 : Int) ([] : List Int)
noncomputable def F6 (n : Nat) (a0 : ByteArray) : Option (List Int × Bool × Unit) := st6 n (lp6_0 n n) a0
noncomputable def c6 (n : Nat) : Con := ⟨[.one (.str)], [], [.one (.sl .own 3 (.int .i64)), .one (.bool)], [], fun (x : ByteArray × Unit) => F6 n x.1⟩
noncomputable def G6 (n : Nat) : Gam := [((23, []), c23 n)]
noncomputable def S6_0 (s0 : ByteArray) (i1 : Int) (l2 : List Int) : St := ⟨[.str s0, .dead, .dead, .dead, .sr 4 0 none 0 0 none, .int .i64 i1] ++ List.replicate 24 .dead, List.replicate 4 Ob.none ++ [⟨false, [.sl .own 3 (.int .i64) l2], 0, 0⟩] ++ List.replicate 25 Ob.none⟩
noncomputable def ga6_0 (n : Nat) (ks : List Nat) (k : Nat) (st : St) : Option (List Int × Bool × Unit) := goAt tab (G6 n) n (bodyOf Tryz.f6) (lvOf Tryz.f6) (lvOf Tryz.f6).ret [1, 1, 1, 0, 1, 0] ks k st (evBody.endK tab (c6 n) Tryz.f6)
theorem el6_0 (n : Nat) : ∀ (k : Nat), ∀ (s0 : ByteArray) (i1 : Int) (l2 : List Int), ga6_0 n [] k (S6_0 s0 i1 l2) = lp6_0 n k s0 i1 l2 := by
  intro k
  induction k with
  | zero => intros; rfl
  | succ k ih =>
    intro s0 i1 l2
    have h : ga6_0 n [] (k + 1) (S6_0 s0 i1 l2) = st6_0 n (fun w0 w1 w2 => ga6_0 n [] k (S6_0 w0 w1 w2)) s0 i1 l2 := by kernel_rfl
    rw [h]
    have e : (fun w0 w1 w2 => ga6_0 n [] k (S6_0 w0 w1 w2)) = lp6_0 n k := by
      funext w0 w1 w2; exact ih w0 w1 w2
    rw [e]
    rfl
theorem e6 (n : Nat) (x : ByteArray × Unit) : evBody tab (G6 n) n (c6 n) Tryz.f6 x = F6 n x.1 := by
  have h : evBody tab (G6 n) n (c6 n) Tryz.f6 x = st6 n (fun w0 w1 w2 => ga6_0 n [] n (S6_0 w0 w1 w2)) x.1 := by kernel_rfl
  rw [h]
  have e0 : (fun w0 w1 w2 => ga6_0 n [] n (S6_0 w0 w1 w2)) = lp6_0 n n := by
    funext w0 w1 w2; exact el6_0 n n w0 w1 w2
  rw [e0]
  rfl
theorem g6 (W : World) (n : Nat) : Good Tryz.prog W 6 (c6 n) := body_good follows tabOk (GamOk.cons (g23 W n) GamOk.nil) (f := 6) (fn := Tryz.f6) (c := bodyOf Tryz.f6) (by kernel_rfl) (by kernel_rfl) (by kernel_rfl) (by kernel_rfl) (by kernel_rfl) (by kernel_rfl) (by kernel_rfl) (fun x r h => ⟨n, (e6 n x).trans h⟩)
/-! impl.isWord -/
noncomputable def F54 (n : Nat) (a0 : Int) : Option (Bool × Unit) :=
  (F39 n a0 (0 : Int) (281474976710655 : Int)).bind fun r1 =>
  some (r1.1, ())
noncomputable def c54 (n : Nat) : Con := ⟨[.one (.int .i64)], [], [.one (.bool)], [], fun (x : Int × Unit) => F54 n x.1⟩
noncomputable def G54 (n : Nat) : Gam := [((39, []), c39 n)]
theorem e54 (n : Nat) (x : Int × Unit) : evBody tab (G54 n) n (c54 n) Tryz.f54 x = F54 n x.1 := by kernel_rfl
theorem g54 (W : World) (n : Nat) : Good Tryz.prog W 54 (c54 n) := body_good follows tabOk (GamOk.cons (g39 W n) GamOk.nil) (f := 54) (fn := Tryz.f54) (c := bodyOf Tryz.f54) (by kernel_rfl) (by kernel_rfl) (by kernel_rfl) (by kernel_rfl) (by kernel_rfl) (by kernel_rfl) (by kernel_rfl) (fun x r h => ⟨n, (e54 n x).trans h⟩)
/-! impl.CellsOk$1 -/
noncomputable def F53 (n : Nat) (a0 : Int) : Option (Bool × Unit) :=
  (F54 n a0).bind fun r1 =>
  some ((!r1.1), ())
noncomputable def c53 (n : Nat) : Con := ⟨[.one (.int .i64)], [], [.one (.bool)], [], fun (x : Int × Unit) => F53 n x.1⟩
noncomputable def G53 (n : Nat) : Gam := [((54, []), c54 n)]
theorem e53 (n : Nat) (x : Int × Unit) : evBody tab (G53 n) n (c53 n) Tryz.f53 x = F53 n x.1 := by kernel_rfl
theorem g53 (W : World) (n : Nat) : Good Tryz.prog W 53 (c53 n) := body_good follows tabOk (GamOk.cons (g54 W n) GamOk.nil) (f := 53) (fn := Tryz.f53) (c := bodyOf Tryz.f53) (by kernel_rfl) (by kernel_rfl) (by kernel_rfl) (by kernel_rfl) (by kernel_rfl) (by kernel_rfl) (by kernel_rfl) (fun x r h => ⟨n, (e53 n x).trans h⟩)
/-! slices.IndexFunc[[]int,int] -/
noncomputable def st76_53_0 (n : Nat) (g0 : (List Int) → Int → Int → Option (Int × Unit)) (l0 : List Int) (i1 : Int) (i2 : Int) : Option (Int × Unit) :=
  if (decide (i2 < i1)) = true then
    if (decide (0 ≤ i2)) = true then
    if (decide (i2 < (l0.length : Int))) = true then
    (F53 n (rdOf (0 : Int) l0 i2)).bind fun r1 =>
    if r1.1 = true then
      some (i2, ())
    else
      g0 l0 i1 (wrap64 (i2 + 1))
    else none
    else none
  else
    some ((-1), ())
noncomputable def lp76_53_0 (n : Nat) : Nat → (List Int) → Int → Int → Option (Int × Unit)
  | 0 => fun _ _ _ => none
  | k + 1 => st76_53_0 n (lp76_53_0 n k)
noncomputable def st76_53 (n : Nat) (h0 : (List Int) → Int → Int → Option (Int × Unit)) (a0 : List Int) : Option (Int × Unit) :=
  h0 a0 (a0.length : Int) (0 : Int)
noncomputable def F76_53 (n : Nat) (a0 : List Int) : Option (Int × Unit) := st76_53 n (lp76_53_0 n n) a0
noncomputable def c76_53 (n : Nat) : Con := ⟨[.one (.sl (.imm true) 3 (.int .i64)), .one (.fn 53 [])], [], [.one (.int .i64)], [], fun (x : List Int × Unit × Unit) => F76_53 n x.1⟩
noncomputable def G76_53 (n : Nat) : Gam := [((53, []), c53 n)]
noncomputable def S76_53_0 (l0 : List Int) (i1 : Int) (i2 : Int) : St := ⟨[.sl (.imm true) 3 (.int .i64) l0, .fn 53 []] ++ List.replicate 5 .dead ++ [.int .i64 i1, .int .i64 i2] ++ List.replicate 10 .dead, List.replicate 19 Ob.none⟩
noncomputable def ga76_53_0 (n : Nat) (ks : List Nat) (k : Nat) (st : St) : Option (Int × Unit) := goAt tab (G76_53 n) n (bodyOf Tryz.f76) (lvOf Tryz.f76) (lvOf Tryz.f76).ret [1, 0, 1, 0] ks k st (evBody.endK tab (c76_53 n) Tryz.f76)
theorem el76_53_0 (n : Nat) : ∀ (k : Nat), ∀ (l0 : List Int) (i1 : Int) (i2 : Int), ga76_53_0 n [] k (S76_53_0 l0 i1 i2) = lp76_53_0 n k l0 i1 i2 := by
  intro k
  induction k with
  | zero => intros; rfl
  | succ k ih =>
    intro l0 i1 i2
    have h : ga76_53_0 n [] (k + 1) (S76_53_0 l0 i1 i2) = st76_53_0 n (fun w0 w1 w2 => ga76_53_0 n [] k (S76_53_0 w0 w1 w2)) l0 i1 i2 := by kernel_rfl
    rw [h]
    have e : (fun w0 w1 w2 => ga76_53_0 n [] k (S76_53_0 w0 w1 w2)) = lp76_53_0 n k := by
      funext w0 w1 w2; exact ih w0 w1 w2
    rw [e]
    rfl
theorem e76_53 (n : Nat) (x : List Int × Unit × Unit) : evBody tab (G76_53 n) n (c76_53 n) Tryz.f76 x = F76_53 n x.1 := by
  have h : evBody tab (G76_53 n) n (c76_53 n) Tryz.f76 x = st76_53 n (fun w0 w1 w2 => ga76_53_0 n [] n (S76_53_0 w0 w1 w2)) x.1 := by kernel_rfl
  rw [h]
  have e0 : (fun w0 w1 w2 => ga76_53_0 n [] n (S76_53_0 w0 w1 w2)) = lp76_53_0 n n := by
    funext w0 w1 w2; exact el76_53_0 n n w0 w1 w2
  rw [e0]
  rfl
theorem g76_53 (W : World) (n : Nat) : Good Tryz.prog W 76 (c76_53 n) := body_good follows tabOk (GamOk.cons (g53 W n) GamOk.nil) (f := 76) (fn := Tryz.f76) (c := bodyOf Tryz.f76) (by kernel_rfl) (by kernel_rfl) (by kernel_rfl) (by kernel_rfl) (by kernel_rfl) (by kernel_rfl) (by kernel_rfl) (fun x r h => ⟨n, (e76_53 n x).trans h⟩)
/-! slices.ContainsFunc[[]int,int] -/
noncomputable def F52_53 (n : Nat) (a0 : List Int) : Option (Bool × Unit) :=
  (F76_53 n a0).bind fun r1 =>
  some (decide (r1.1 ≥ 0), ())
noncomputable def c52_53 (n : Nat) : Con := ⟨[.one (.sl (.imm true) 3 (.int .i64)), .one (.fn 53 [])], [], [.one (.bool)], [], fun (x : List Int × Unit × Unit) => F52_53 n x.1⟩
noncomputable def G52_53 (n : Nat) : Gam := [((76, [53]), c76_53 n)]
theorem e52_53 (n : Nat) (x : List Int × Unit × Unit) : evBody tab (G52_53 n) n (c52_53 n) Tryz.f52 x = F52_53 n x.1 := by kernel_rfl
theorem g52_53 (W : World) (n : Nat) : Good Tryz.prog W 52 (c52_53 n) := body_good follows tabOk (GamOk.cons (g76_53 W n) GamOk.nil) (f := 52) (fn := Tryz.f52) (c := bodyOf Tryz.f52) (by kernel_rfl) (by kernel_rfl) (by kernel_rfl) (by kernel_rfl) (by kernel_rfl) (by kernel_rfl) (by kernel_rfl) (fun x r h => ⟨n, (e52_53 n x).trans h⟩)
/-! impl.CellsOk -/
noncomputable def F24 (n : Nat) (a0 : List Int) : Option (Bool × Unit) :=
  if (decide ((a0.length : Int) = 71)) = true then
    (F52_53 n a0).bind fun r1 =>
    some ((!r1.1), ())
  else
    some (false, ())
noncomputable def c24 (n : Nat) : Con := ⟨[.one (.sl (.imm true) 3 (.int .i64))], [], [.one (.bool)], [], fun (x : List Int × Unit) => F24 n x.1⟩
noncomputable def G24 (n : Nat) : Gam := [((52, [53]), c52_53 n)]
theorem e24 (n : Nat) (x : List Int × Unit) : evBody tab (G24 n) n (c24 n) Tryz.f24 x = F24 n x.1 := by kernel_rfl
theorem g24 (W : World) (n : Nat) : Good Tryz.prog W 24 (c24 n) := body_good follows tabOk (GamOk.cons (g52_53 W n) GamOk.nil) (f := 24) (fn := Tryz.f24) (c := bodyOf Tryz.f24) (by kernel_rfl) (by kernel_rfl) (by kernel_rfl) (by kernel_rfl) (by kernel_rfl) (by kernel_rfl) (by kernel_rfl) (fun x r h => ⟨n, (e24 n x).trans h⟩)
/-! impl.Fixed -/
noncomputable def st25_0 (n : Nat) (g0 : Int → Int → (List Int) → Option (ByteArray × Unit)) (i0 : Int) (i1 : Int) (l2 : List Int) : Option (ByteArray × Unit) :=
  if (decide (i1 ≥ 0)) = true then
    if (decide (0 ≤ i1)) = true then
    if (decide (i1 < (l2.length : Int))) = true then
    if (decide (0 ≤ 8)) = true then
    g0 (shrI i0 (min (8 : Int).toNat 64)) (wrap64 (i1 - 1)) (l2.set i1.toNat (wrapI .u8 (i0)))
    else none
    else none
    else none
  else
    some ((strOf l2), ())
noncomputable def lp25_0 (n : Nat) : Nat → Int → Int → (List Int) → Option (ByteArray × Unit)
  | 0 => fun _ _ _ => none
  | k + 1 => st25_0 n (lp25_0 n k)
noncomputable def st25 (n : Nat) (h0 : Int → Int → (List Int) → Option (ByteArray × Unit)) (a0 : Int) (a1 : Int) : Option (ByteArray × Unit) :=
  (F39 n a1 (1 : Int) (7 : Int)).bind fun r1 =>
  if (!r1.1) = true then
    some ((⟨#[]⟩ : ByteArray), ())
  else
    if (decide (a0 < 0)) = true then
      some ((⟨#[]⟩ : ByteArray), ())
    else
      if (decide (0 ≤ (wrap64 (8 * a1)))) = true then
      if (decide ((shrI a0 (min (wrap64 (8 * a1)).toNat 64)) ≠ 0)) = true then
        some ((⟨#[]⟩ : ByteArray), ())
      else
        if (decide (0 ≤ a1)) = true then
        if (decide (a1 = a1)) = true then
        if (decide (a1 * 1 ≤ 140737488355328)) = true then
        h0 a0 (wrap64 (a1 - 1)) (List.replicate a1.toNat (0 : Int))
        else none
        else none
        else none
      else none
noncomputable def F25 (n : Nat) (a0 : Int) (a1 : Int) : Option (ByteArray × Unit) := st25 n (lp25_0 n n) a0 a1
noncomputable def c25 (n : Nat) : Con := ⟨[.one (.int .i64), .one (.int .i64)], [], [.one (.str)], [], fun (x : Int × Int × Unit) => F25 n x.1 x.2.1⟩
noncomputable def G25 (n : Nat) : Gam := [((39, []), c39 n)]
noncomputable def S25_0 (i0 : Int) (i1 : Int) (l2 : List Int) : St := ⟨[.int .i64 i0] ++ List.replicate 4 .dead ++ [.sr 5 0 none 0 0 none, .int .i64 i1] ++ List.replicate 31 .dead, List.replicate 5 Ob.none ++ [⟨false, [.sl .own 5 (.int .u8) l2], 0, 0⟩] ++ List.replicate 32 Ob.none⟩
noncomputable def ga25_0 (n : Nat) (ks : List Nat) (k : Nat) (st : St) : Option (ByteArray × Unit) := goAt tab (G25 n) n (bodyOf Tryz.f25) (lvOf Tryz.f25) (lvOf Tryz.f25).ret [1, 1, 1, 0, 1, 0] ks k st (evBody.endK tab (c25 n) Tryz.f25)
theorem el25_0 (n : Nat) : ∀ (k : Nat), ∀ (i0 : Int) (i1 : Int) (l2 : List Int), ga25_0 n [] k (S25_0 i0 i1 l2) = lp25_0 n k i0 i1 l2 := by
  intro k
  induction k with
  | zero => intros; rfl
  | succ k ih =>
    intro i0 i1 l2
    have h : ga25_0 n [] (k + 1) (S25_0 i0 i1 l2) = st25_0 n (fun w0 w1 w2 => ga25_0 n [] k (S25_0 w0 w1 w2)) i0 i1 l2 := by kernel_rfl
    rw [h]
    have e : (fun w0 w1 w2 => ga25_0 n [] k (S25_0 w0 w1 w2)) = lp25_0 n k := by
      funext w0 w1 w2; exact ih w0 w1 w2
    rw [e]
    rfl
theorem e25 (n : Nat) (x : Int × Int × Unit) : evBody tab (G25 n) n (c25 n) Tryz.f25 x = F25 n x.1 x.2.1 := by
  have h : evBody tab (G25 n) n (c25 n) Tryz.f25 x = st25 n (fun w0 w1 w2 => ga25_0 n [] n (S25_0 w0 w1 w2)) x.1 x.2.1 := by kernel_rfl
  rw [h]
  have e0 : (fun w0 w1 w2 => ga25_0 n [] n (S25_0 w0 w1 w2)) = lp25_0 n n := by
    funext w0 w1 w2; exact el25_0 n n w0 w1 w2
  rw [e0]
  rfl
theorem g25 (W : World) (n : Nat) : Good Tryz.prog W 25 (c25 n) := body_good follows tabOk (GamOk.cons (g39 W n) GamOk.nil) (f := 25) (fn := Tryz.f25) (c := bodyOf Tryz.f25) (by kernel_rfl) (by kernel_rfl) (by kernel_rfl) (by kernel_rfl) (by kernel_rfl) (by kernel_rfl) (by kernel_rfl) (fun x r h => ⟨n, (e25 n x).trans h⟩)
/-! impl.ShowCells -/
noncomputable def st7_0 (n : Nat) (g0 : ByteArray → (List Int) → Int → Int → Option (ByteArray × Unit)) (s0 : ByteArray) (l1 : List Int) (i2 : Int) (i3 : Int) : Option (ByteArray × Unit) :=
  if (decide (i3 < i2)) = true then
    if (decide (0 ≤ i3)) = true then
    if (decide (i3 < (l1.length : Int))) = true then
    (F25 n (rdOf (0 : Int) l1 i3) (6 : Int)).bind fun r2 =>
    if (decide ((s0.size + r2.1.size : Nat) ≤ 9223372036854775807)) = true then
    g0 (s0 ++ r2.1) l1 i2 (wrap64 (i3 + 1))
    else none
    else none
    else none
  else
    some (s0, ())
noncomputable def lp7_0 (n : Nat) : Nat → ByteArray → (List Int) → Int → Int → Option (ByteArray × Unit)
  | 0 => fun _ _ _ _ => none
  | k + 1 => st7_0 n (lp7_0 n k)
noncomputable def st7 (n : Nat) (h0 : ByteArray → (List Int) → Int → Int → Option (ByteArray × Unit)) (a0 : List Int) : Option (ByteArray × Unit) :=
  (F24 n a0).bind fun r1 =>
  if (!r1.1) = true then
    some ((⟨#[]⟩ : ByteArray), ())
  else
    h0 (⟨#[]⟩ : ByteArray) a0 (a0.length : Int) (0 : Int)
noncomputable def F7 (n : Nat) (a0 : List Int) : Option (ByteArray × Unit) := st7 n (lp7_0 n n) a0
noncomputable def c7 (n : Nat) : Con := ⟨[.one (.sl (.imm true) 3 (.int .i64))], [], [.one (.str)], [], fun (x : List Int × Unit) => F7 n x.1⟩
noncomputable def G7 (n : Nat) : Gam := [((24, []), c24 n), ((25, []), c25 n)]
noncomputable def S7_0 (s0 : ByteArray) (l1 : List Int) (i2 : Int) (i3 : Int) : St := ⟨[.dead, .dead, .dead, .str s0] ++ List.replicate 6 .dead ++ [.sl (.imm true) 3 (.int .i64) l1, .int .i64 i2, .int .i64 i3] ++ List.replicate 9 .dead, List.replicate 22 Ob.none⟩
noncomputable def ga7_0 (n : Nat) (ks : List Nat) (k : Nat) (st : St) : Option (ByteArray × Unit) := goAt tab (G7 n) n (bodyOf Tryz.f7) (lvOf Tryz.f7) (lvOf Tryz.f7).ret [1, 1, 1, 0, 1, 0] ks k st (evBody.endK tab (c7 n) Tryz.f7)
theorem el7_0 (n : Nat) : ∀ (k : Nat), ∀ (s0 : ByteArray) (l1 : List Int) (i2 : Int) (i3 : Int), ga7_0 n [] k (S7_0 s0 l1 i2 i3) = lp7_0 n k s0 l1 i2 i3 := by
  intro k
  induction k with
  | zero => intros; rfl
  | succ k ih =>
    intro s0 l1 i2 i3
    have h : ga7_0 n [] (k + 1) (S7_0 s0 l1 i2 i3) = st7_0 n (fun w0 w1 w2 w3 => ga7_0 n [] k (S7_0 w0 w1 w2 w3)) s0 l1 i2 i3 := by kernel_rfl
    rw [h]
    have e : (fun w0 w1 w2 w3 => ga7_0 n [] k (S7_0 w0 w1 w2 w3)) = lp7_0 n k := by
      funext w0 w1 w2 w3; exact ih w0 w1 w2 w3
    rw [e]
    rfl
theorem e7 (n : Nat) (x : List Int × Unit) : evBody tab (G7 n) n (c7 n) Tryz.f7 x = F7 n x.1 := by
  have h : evBody tab (G7 n) n (c7 n) Tryz.f7 x = st7 n (fun w0 w1 w2 w3 => ga7_0 n [] n (S7_0 w0 w1 w2 w3)) x.1 := by kernel_rfl
  rw [h]
  have e0 : (fun w0 w1 w2 w3 => ga7_0 n [] n (S7_0 w0 w1 w2 w3)) = lp7_0 n n := by
    funext w0 w1 w2 w3; exact el7_0 n n w0 w1 w2 w3
  rw [e0]
  rfl
theorem g7 (W : World) (n : Nat) : Good Tryz.prog W 7 (c7 n) := body_good follows tabOk (GamOk.cons (g24 W n) (GamOk.cons (g25 W n) GamOk.nil)) (f := 7) (fn := Tryz.f7) (c := bodyOf Tryz.f7) (by kernel_rfl) (by kernel_rfl) (by kernel_rfl) (by kernel_rfl) (by kernel_rfl) (by kernel_rfl) (by kernel_rfl) (fun x r h => ⟨n, (e7 n x).trans h⟩)
/-! spec.SameCells -/
noncomputable def st9_0 (n : Nat) (g0 : (List Int) → (List Int) → Int → Option (Bool × Unit)) (l0 : List Int) (l1 : List Int) (i2 : Int) : Option (Bool × Unit) :=
  if (decide (i2 < (l0.length : Int))) = true then
    if (decide (0 ≤ i2)) = true then
    if (decide (i2 < (l0.length : Int))) = true then
    if (decide (0 ≤ i2)) = true then
    if (decide (i2 < (l1.length : Int))) = true then
    if (decide ((rdOf (0 : Int) l0 i2) ≠ (rdOf (0 : Int) l1 i2))) = true then
      some (false, ())
    else
      g0 l0 l1 (wrap64 (i2 + 1))
    else none
    else none
    else none
    else none
  else
    some (true, ())
noncomputable def lp9_0 (n : Nat) : Nat → (List Int) → (List Int) → Int → Option (Bool × Unit)
  | 0 => fun _ _ _ => none
  | k + 1 => st9_0 n (lp9_0 n k)
noncomputable def st9 (n : Nat) (h0 : (List Int) → (List Int) → Int → Option (Bool × Unit)) (a0 : List Int) (a1 : List Int) : Option (Bool × Unit) :=
  if (decide ((a0.length : Int) ≠ (a1.length : Int))) = true then
    some (false, ())
  else
    h0 a0 a1 (0 : Int)
noncomputable def F9 (n : Nat) (a0 : List Int) (a1 : List Int) : Option (Bool × Unit) := st9 n (lp9_0 n n) a0 a1
noncomputable def c9 (n : Nat) : Con := ⟨[.one (.sl (.imm true) 3 (.int .i64)), .one (.sl (.imm true) 3 (.int .i64))], [], [.one (.bool)], [], fun (x : List Int × List Int × Unit) => F9 n x.1 x.2.1⟩
noncomputable def G9 (n : Nat) : Gam := []
noncomputable def S9_0 (l0 : List Int) (l1 : List Int) (i2 : Int) : St := ⟨[.sl (.imm true) 3 (.int .i64) l0, .sl (.imm true) 3 (.int .i64) l1, .dead, .dead, .dead, .int .i64 i2] ++ List.replicate 20 .dead, List.replicate 26 Ob.none⟩
noncomputable def ga9_0 (n : Nat) (ks : List Nat) (k : Nat) (st : St) : Option (Bool × Unit) := goAt tab (G9 n) n (bodyOf Tryz.f9) (lvOf Tryz.f9) (lvOf Tryz.f9).ret [1, 1, 0, 1, 0] ks k st (evBody.endK tab (c9 n) Tryz.f9)
theorem el9_0 (n : Nat) : ∀ (k : Nat), ∀ (l0 : List Int) (l1 : List Int) (i2 : Int), ga9_0 n [] k (S9_0 l0 l1 i2) = lp9_0 n k l0 l1 i2 := by
  intro k
  induction k with
  | zero => intros; rfl
  | succ k ih =>
    intro l0 l1 i2
    have h : ga9_0 n [] (k + 1) (S9_0 l0 l1 i2) = st9_0 n (fun w0 w1 w2 => ga9_0 n [] k (S9_0 w0 w1 w2)) l0 l1 i2 := by kernel_rfl
    rw [h]
    have e : (fun w0 w1 w2 => ga9_0 n [] k (S9_0 w0 w1 w2)) = lp9_0 n k := by
      funext w0 w1 w2; exact ih w0 w1 w2
    rw [e]
    rfl
theorem e9 (n : Nat) (x : List Int × List Int × Unit) : evBody tab (G9 n) n (c9 n) Tryz.f9 x = F9 n x.1 x.2.1 := by
  have h : evBody tab (G9 n) n (c9 n) Tryz.f9 x = st9 n (fun w0 w1 w2 => ga9_0 n [] n (S9_0 w0 w1 w2)) x.1 x.2.1 := by kernel_rfl
  rw [h]
  have e0 : (fun w0 w1 w2 => ga9_0 n [] n (S9_0 w0 w1 w2)) = lp9_0 n n := by
    funext w0 w1 w2; exact el9_0 n n w0 w1 w2
  rw [e0]
  rfl
theorem g9 (W : World) (n : Nat) : Good Tryz.prog W 9 (c9 n) := body_good follows tabOk GamOk.nil (f := 9) (fn := Tryz.f9) (c := bodyOf Tryz.f9) (by kernel_rfl) (by kernel_rfl) (by kernel_rfl) (by kernel_rfl) (by kernel_rfl) (by kernel_rfl) (by kernel_rfl) (fun x r h => ⟨n, (e9 n x).trans h⟩)
/-! laws.FnKept -/
noncomputable def j3_0 (n : Nat) (l0 : List Int) (b1 : Bool) : Option (Bool × Unit) :=
  if b1 = true then
    some (false, ())
  else
    (F18 n l0).bind fun r19 =>
    (F15 n r19.1).bind fun r20 =>
    (F19 n r19.1).bind fun r21 =>
    (F20 n l0).bind fun r22 =>
    (F6 n r22.1).bind fun r23 =>
    if (r20.2.1 == r21.2.1) = true then
      if (!r20.2.1) = true then
        if (!r23.2.1) = true then
          some (true, ())
        else
          (F7 n r23.1).bind fun r24 =>
          some (decide (r24.1.toList = r22.1.toList), ())
      else
        (F16 n r20.1).bind fun r25 =>
        if (decide (r25.1.toList = r19.1.toList)) = true then
          if (!r23.2.1) = true then
            some (true, ())
          else
            (F7 n r23.1).bind fun r26 =>
            some (decide (r26.1.toList = r22.1.toList), ())
        else
          some (false, ())
    else
      some (false, ())
noncomputable def F3 (n : Nat) (a0 : List Int) : Option (Bool × Unit) :=
  (F4 n a0).bind fun r1 =>
  if r1.1 = true then
    some (true, ())
  else
    (F5 n a0).bind fun r2 =>
    (F7 n r2.1).bind fun r3 =>
    (F6 n r3.1).bind fun r4 =>
    (F8 n r2.1).bind fun r5 =>
    if (!(r4.2.1 == r5.1)) = true then
      some (false, ())
    else
      if r4.2.1 = true then
        (F9 n r2.1 r4.1).bind fun r6 =>
        if (!r6.1) = true then
          some (false, ())
        else
          (F10 n a0).bind fun r7 =>
          (F12 n r7.1 r7.2.1 r7.2.2.1 r7.2.2.2.1).bind fun r8 =>
          (F11 n r8.1).bind fun r9 =>
          (F13 n r7.1 r7.2.1 r7.2.2.1 r7.2.2.2.1).bind fun r10 =>
          if (!(r9.2.2.2.2.1 == r10.1)) = true then
            some (false, ())
          else
            if r9.2.2.2.2.1 = true then
              if (!(decide (r7.1 = r9.1) && (decide (r7.2.1.toList = r9.2.1.toList) && (decide (r7.2.2.1 = r9.2.2.1) && (decide (r7.2.2.2.1 = r9.2.2.2.1) && true))))) = true then
                some (false, ())
              else
                (F14 n a0).bind fun r11 =>
                (F16 n r11.1).bind fun r12 =>
                (F15 n r12.1).bind fun r13 =>
                (F17 n r11.1).bind fun r14 =>
                if r14.1 = true then
                  if (!r13.2.1) = true then
                    some (false, ())
                  else
                    (F16 n r13.1).bind fun r15 =>
                    (F16 n r11.1).bind fun r16 =>
                    if (!decide (r15.1.toList = r16.1.toList)) = true then
                      some (false, ())
                    else
                      (F17 n r11.1).bind fun r17 =>
                      if (!r17.1) = true then
                        (F16 n r11.1).bind fun r18 =>
                        j3_0 n a0 (!decide (r18.1.toList = (⟨#[]⟩ : ByteArray).toList))
                      else
                        (F18 n a0).bind fun r27 =>
                        (F15 n r27.1).bind fun r28 =>
                        (F19 n r27.1).bind fun r29 =>
                        (F20 n a0).bind fun r30 =>
                        (F6 n r30.1).bind fun r31 =>
                        if (r28.2.1 == r29.2.1) = true then
                          if (!r28.2.1) = true then
                            if (!r31.2.1) = true then
                              some (true, ())
                            else
                              (F7 n r31.1).bind fun r32 =>
                              some (decide (r32.1.toList = r30.1.toList), ())
                          else
                            (F16 n r28.1).bind fun r33 =>
                            if (decide (r33.1.toList = r27.1.toList)) = true then
                              if (!r31.2.1) = true then
                                some (true, ())
                              else
                                (F7 n r31.1).bind fun r34 =>
                                some (decide (r34.1.toList = r30.1.toList), ())
                            else
                              some (false, ())
                        else
                          some (false, ())
                else
                  (F17 n r11.1).bind fun r35 =>
                  if (!r35.1) = true then
                    (F16 n r11.1).bind fun r36 =>
                    j3_0 n a0 (!decide (r36.1.toList = (⟨#[]⟩ : ByteArray).toList))
                  else
                    (F18 n a0).bind fun r37 =>
                    (F15 n r37.1).bind fun r38 =>
                    (F19 n r37.1).bind fun r39 =>
                    (F20 n a0).bind fun r40 =>
                    (F6 n r40.1).bind fun r41 =>
                    if (r38.2.1 == r39.2.1) = true then
                      if (!r38.2.1) = true then
                        if (!r41.2.1) = true then
                          some (true, ())
                        else
                          (F7 n r41.1).bind fun r42 =>
                          some (decide (r42.1.toList = r40.1.toList), ())
                      else
                        (F16 n r38.1).bind fun r43 =>
                        if (decide (r43.1.toList = r37.1.toList)) = true then
                          if (!r41.2.1) = true then
                            some (true, ())
                          else
                            (F7 n r41.1).bind fun r44 =>
                            some (decide (r44.1.toList = r40.1.toList), ())
                        else
                          some (false, ())
                    else
                      some (false, ())
            else
              (F14 n a0).bind fun r45 =>
              (F16 n r45.1).bind fun r46 =>
              (F15 n r46.1).bind fun r47 =>
              (F17 n r45.1).bind fun r48 =>
              if r48.1 = true then
                if (!r47.2.1) = true then
                  some (false, ())
                else
                  (F16 n r47.1).bind fun r49 =>
                  (F16 n r45.1).bind fun r50 =>
                  if (!decide (r49.1.toList = r50.1.toList)) = true then
                    some (false, ())
                  else
                    (F17 n r45.1).bind fun r51 =>
                    if (!r51.1) = true then
                      (F16 n r45.1).bind fun r52 =>
                      j3_0 n a0 (!decide (r52.1.toList = (⟨#[]⟩ : ByteArray).toList))
                    else
                      (F18 n a0).bind fun r53 =>
                      (F15 n r53.1).bind fun r54 =>
                      (F19 n r53.1).bind fun r55 =>
                      (F20 n a0).bind fun r56 =>
                      (F6 n r56.1).bind fun r57 =>
                      if (r54.2.1 == r55.2.1) = true then
                        if (!r54.2.1) = true then
                          if (!r57.2.1) = true then
                            some (true, ())
                          else
                            (F7 n r57.1).bind fun r58 =>
                            some (decide (r58.1.toList = r56.1.toList), ())
                        else
                          (F16 n r54.1).bind fun r59 =>
                          if (decide (r59.1.toList = r53.1.toList)) = true then
                            if (!r57.2.1) = true then
                              some (true, ())
                            else
                              (F7 n r57.1).bind fun r60 =>
                              some (decide (r60.1.toList = r56.1.toList), ())
                          else
                            some (false, ())
                      else
                        some (false, ())
              else
                (F17 n r45.1).bind fun r61 =>
                if (!r61.1) = true then
                  (F16 n r45.1).bind fun r62 =>
                  j3_0 n a0 (!decide (r62.1.toList = (⟨#[]⟩ : ByteArray).toList))
                else
                  (F18 n a0).bind fun r63 =>
                  (F15 n r63.1).bind fun r64 =>
                  (F19 n r63.1).bind fun r65 =>
                  (F20 n a0).bind fun r66 =>
                  (F6 n r66.1).bind fun r67 =>
                  if (r64.2.1 == r65.2.1) = true then
                    if (!r64.2.1) = true then
                      if (!r67.2.1) = true then
                        some (true, ())
                      else
                        (F7 n r67.1).bind fun r68 =>
                        some (decide (r68.1.toList = r66.1.toList), ())
                    else
                      (F16 n r64.1).bind fun r69 =>
                      if (decide (r69.1.toList = r63.1.toList)) = true then
                        if (!r67.2.1) = true then
                          some (true, ())
                        else
                          (F7 n r67.1).bind fun r70 =>
                          some (decide (r70.1.toList = r66.1.toList), ())
                      else
                        some (false, ())
                  else
                    some (false, ())
      else
        (F10 n a0).bind fun r71 =>
        (F12 n r71.1 r71.2.1 r71.2.2.1 r71.2.2.2.1).bind fun r72 =>
        (F11 n r72.1).bind fun r73 =>
        (F13 n r71.1 r71.2.1 r71.2.2.1 r71.2.2.2.1).bind fun r74 =>
        if (!(r73.2.2.2.2.1 == r74.1)) = true then
          some (false, ())
        else
          if r73.2.2.2.2.1 = true then
            if (!(decide (r71.1 = r73.1) && (decide (r71.2.1.toList = r73.2.1.toList) && (decide (r71.2.2.1 = r73.2.2.1) && (decide (r71.2.2.2.1 = r73.2.2.2.1) && true))))) = true then
              some (false, ())
            else
              (F14 n a0).bind fun r75 =>
              (F16 n r75.1).bind fun r76 =>
              (F15 n r76.1).bind fun r77 =>
              (F17 n r75.1).bind fun r78 =>
              if r78.1 = true then
                if (!r77.2.1) = true then
                  some (false, ())
                else
                  (F16 n r77.1).bind fun r79 =>
                  (F16 n r75.1).bind fun r80 =>
                  if (!decide (r79.1.toList = r80.1.toList)) = true then
                    some (false, ())
                  else
                    (F17 n r75.1).bind fun r81 =>
                    if (!r81.1) = true then
                      (F16 n r75.1).bind fun r82 =>
                      j3_0 n a0 (!decide (r82.1.toList = (⟨#[]⟩ : ByteArray).toList))
                    else
                      (F18 n a0).bind fun r83 =>
                      (F15 n r83.1).bind fun r84 =>
                      (F19 n r83.1).bind fun r85 =>
                      (F20 n a0).bind fun r86 =>
                      (F6 n r86.1).bind fun r87 =>
                      if (r84.2.1 == r85.2.1) = true then
                        if (!r84.2.1) = true then
                          if (!r87.2.1) = true then
                            some (true, ())
                          else
                            (F7 n r87.1).bind fun r88 =>
                            some (decide (r88.1.toList = r86.1.toList), ())
                        else
                          (F16 n r84.1).bind fun r89 =>
                          if (decide (r89.1.toList = r83.1.toList)) = true then
                            if (!r87.2.1) = true then
                              some (true, ())
                            else
                              (F7 n r87.1).bind fun r90 =>
                              some (decide (r90.1.toList = r86.1.toList), ())
                          else
                            some (false, ())
                      else
                        some (false, ())
              else
                (F17 n r75.1).bind fun r91 =>
                if (!r91.1) = true then
                  (F16 n r75.1).bind fun r92 =>
                  j3_0 n a0 (!decide (r92.1.toList = (⟨#[]⟩ : ByteArray).toList))
                else
                  (F18 n a0).bind fun r93 =>
                  (F15 n r93.1).bind fun r94 =>
                  (F19 n r93.1).bind fun r95 =>
                  (F20 n a0).bind fun r96 =>
                  (F6 n r96.1).bind fun r97 =>
                  if (r94.2.1 == r95.2.1) = true then
                    if (!r94.2.1) = true then
                      if (!r97.2.1) = true then
                        some (true, ())
                      else
                        (F7 n r97.1).bind fun r98 =>
                        some (decide (r98.1.toList = r96.1.toList), ())
                    else
                      (F16 n r94.1).bind fun r99 =>
                      if (decide (r99.1.toList = r93.1.toList)) = true then
                        if (!r97.2.1) = true then
                          some (true, ())
                        else
                          (F7 n r97.1).bind fun r100 =>
                          some (decide (r100.1.toList = r96.1.toList), ())
                      else
                        some (false, ())
                  else
                    some (false, ())
          else
            (F14 n a0).bind fun r101 =>
            (F16 n r101.1).bind fun r102 =>
            (F15 n r102.1).bind fun r103 =>
            (F17 n r101.1).bind fun r104 =>
            if r104.1 = true then
              if (!r103.2.1) = true then
                some (false, ())
              else
                (F16 n r103.1).bind fun r105 =>
                (F16 n r101.1).bind fun r106 =>
                if (!decide (r105.1.toList = r106.1.toList)) = true then
                  some (false, ())
                else
                  (F17 n r101.1).bind fun r107 =>
                  if (!r107.1) = true then
                    (F16 n r101.1).bind fun r108 =>
                    j3_0 n a0 (!decide (r108.1.toList = (⟨#[]⟩ : ByteArray).toList))
                  else
                    (F18 n a0).bind fun r109 =>
                    (F15 n r109.1).bind fun r110 =>
                    (F19 n r109.1).bind fun r111 =>
                    (F20 n a0).bind fun r112 =>
                    (F6 n r112.1).bind fun r113 =>
                    if (r110.2.1 == r111.2.1) = true then
                      if (!r110.2.1) = true then
                        if (!r113.2.1) = true then
                          some (true, ())
                        else
                          (F7 n r113.1).bind fun r114 =>
                          some (decide (r114.1.toList = r112.1.toList), ())
                      else
                        (F16 n r110.1).bind fun r115 =>
                        if (decide (r115.1.toList = r109.1.toList)) = true then
                          if (!r113.2.1) = true then
                            some (true, ())
                          else
                            (F7 n r113.1).bind fun r116 =>
                            some (decide (r116.1.toList = r112.1.toList), ())
                        else
                          some (false, ())
                    else
                      some (false, ())
            else
              (F17 n r101.1).bind fun r117 =>
              if (!r117.1) = true then
                (F16 n r101.1).bind fun r118 =>
                j3_0 n a0 (!decide (r118.1.toList = (⟨#[]⟩ : ByteArray).toList))
              else
                (F18 n a0).bind fun r119 =>
                (F15 n r119.1).bind fun r120 =>
                (F19 n r119.1).bind fun r121 =>
                (F20 n a0).bind fun r122 =>
                (F6 n r122.1).bind fun r123 =>
                if (r120.2.1 == r121.2.1) = true then
                  if (!r120.2.1) = true then
                    if (!r123.2.1) = true then
                      some (true, ())
                    else
                      (F7 n r123.1).bind fun r124 =>
                      some (decide (r124.1.toList = r122.1.toList), ())
                  else
                    (F16 n r120.1).bind fun r125 =>
                    if (decide (r125.1.toList = r119.1.toList)) = true then
                      if (!r123.2.1) = true then
                        some (true, ())
                      else
                        (F7 n r123.1).bind fun r126 =>
                        some (decide (r126.1.toList = r122.1.toList), ())
                    else
                      some (false, ())
                else
                  some (false, ())
noncomputable def c3 (n : Nat) : Con := ⟨[.one (.sl (.imm false) 5 (.int .u8))], [], [.one (.bool)], [], fun (x : List Int × Unit) => F3 n x.1⟩
noncomputable def G3 (n : Nat) : Gam := [((4, []), c4 n), ((5, []), c5 n), ((6, []), c6 n), ((7, []), c7 n), ((8, []), c8 n), ((9, []), c9 n), ((10, []), c10 n), ((11, []), c11 n), ((12, []), c12 n), ((13, []), c13 n), ((14, []), c14 n), ((15, []), c15 n), ((16, []), c16 n), ((17, []), c17 n), ((18, []), c18 n), ((19, []), c19 n), ((20, []), c20 n)]
theorem e3 (n : Nat) (x : List Int × Unit) : evBody tab (G3 n) n (c3 n) Tryz.f3 x = F3 n x.1 := by kernel_rfl
theorem g3 (W : World) (n : Nat) (h28 : ∀ n, Good Tryz.prog W 28 (c28 n)) (h38 : ∀ n, Good Tryz.prog W 38 (c38 n)) (h60 : ∀ n, Good Tryz.prog W 60 (c60 n)) : Good Tryz.prog W 3 (c3 n) := body_good follows tabOk (GamOk.cons (g4 W n) (GamOk.cons (g5 W n) (GamOk.cons (g6 W n) (GamOk.cons (g7 W n) (GamOk.cons (g8 W n) (GamOk.cons (g9 W n) (GamOk.cons (g10 W n) (GamOk.cons (g11 W n h28 h60) (GamOk.cons (g12 W n h60) (GamOk.cons (g13 W n) (GamOk.cons (g14 W n) (GamOk.cons (g15 W n h28 h38 h60) (GamOk.cons (g16 W n h60) (GamOk.cons (g17 W n) (GamOk.cons (g18 W n) (GamOk.cons (g19 W n) (GamOk.cons (g20 W n) GamOk.nil))))))))))))))))) (f := 3) (fn := Tryz.f3) (c := bodyOf Tryz.f3) (by kernel_rfl) (by kernel_rfl) (by kernel_rfl) (by kernel_rfl) (by kernel_rfl) (by kernel_rfl) (by kernel_rfl) (fun x r h => ⟨n, (e3 n x).trans h⟩)
end Go.Eva
end
section
/- Total functions: rules for what an Option answers. -/
namespace Go.Eva
open Go.RowKit (wrap64)
set_option linter.unusedVariables false

def ok {α : Type} (x : Option α) (Q : α → Prop) : Prop := ∃ a, x = some a ∧ Q a
theorem ok.some {α : Type} {a : α} {Q : α → Prop} (h : Q a) : ok (some a) Q := ⟨a, rfl, h⟩
theorem ok.bind {α β : Type} {x : Option α} {f : α → Option β} {Q : α → Prop} {R : β → Prop} (h : ok x Q) (k : ∀ a, Q a → ok (f a) R) : ok (x.bind f) R := by
  obtain ⟨a, rfl, q⟩ := h
  exact k a q
theorem ok.guard {α : Type} {c : Prop} [Decidable c] {x : Option α} {Q : α → Prop} (h : c) (k : ok x Q) : ok (if decide c = true then x else none) Q := by rw [if_pos (decide_eq_true h)]; exact k
theorem ok.ite {α : Type} {c : Prop} [Decidable c] {x y : Option α} {Q : α → Prop} (h : c → ok x Q) (k : ¬ c → ok y Q) : ok (if decide c = true then x else y) Q := by
  by_cases hc : c
  · rw [if_pos (decide_eq_true hc)]; exact h hc
  · rw [if_neg (by simpa using hc)]; exact k hc
theorem ok.iteb {α : Type} {c : Bool} {x y : Option α} {Q : α → Prop} (h : c = true → ok x Q) (k : c = false → ok y Q) : ok (if c = true then x else y) Q := by
  cases c
  · exact k rfl
  · exact h rfl
theorem ok.mono {α : Type} {x : Option α} {Q R : α → Prop} (h : ok x Q) (k : ∀ a, Q a → R a) : ok x R := by
  obtain ⟨a, q1, q2⟩ := h
  exact ⟨a, q1, k a q2⟩
theorem w64 {x : Int} (h : -9223372036854775808 ≤ x) (h' : x ≤ 9223372036854775807) : wrap64 x = x := by unfold wrap64; omega
theorem andI_bd (x : Int) (m : Nat) (hm : m < 9223372036854775808) : 0 ≤ andI .i64 x m ∧ andI .i64 x m ≤ m := by
  unfold andI
  have h1 : (BitVec.ofInt IntKind.i64.bits x &&& BitVec.ofInt IntKind.i64.bits (m : Int)).toNat ≤ m := by
    rw [BitVec.toNat_and]
    have : (BitVec.ofInt IntKind.i64.bits (m : Int)).toNat = m := by
      rw [BitVec.toNat_ofInt]
      show ((m : Int) % (2 ^ 64 : Nat)).toNat = m
      omega
    rw [this]
    exact Nat.and_le_right
  have h2 : IntKind.i64.wrap ((BitVec.ofInt IntKind.i64.bits x &&& BitVec.ofInt IntKind.i64.bits (m : Int)).toNat : Int) = ((BitVec.ofInt IntKind.i64.bits x &&& BitVec.ofInt IntKind.i64.bits (m : Int)).toNat : Int) := by
    rw [IntKind.wrap_i64]; omega
  rw [h2]
  omega
theorem and255 (x : Int) : 0 ≤ andI .i64 x 255 ∧ andI .i64 x 255 < 256 := by
  have := andI_bd x 255 (by omega)
  exact ⟨this.1, Int.lt_of_le_of_lt this.2 (by decide)⟩
theorem rdOf_mem {α : Type} {d : α} {l : List α} {i : Int} (h : 0 ≤ i) (h' : i < (l.length : Int)) : rdOf d l i ∈ l := by
  unfold rdOf
  rw [List.getD_eq_getElem?_getD, List.getElem?_eq_getElem (by omega)]
  exact List.getElem_mem _
theorem rdOf_nat {α : Type} {d : α} {l : List α} {i : Nat} (h : i < l.length) : rdOf d l (i : Int) = l[i] := by
  unfold rdOf
  rw [List.getD_eq_getElem?_getD, Int.toNat_natCast, List.getElem?_eq_getElem h]; rfl
/-- A loop's rule: what goes down, and what stays. -/
theorem tmod_bd {x n : Int} (h : 0 ≤ x) (hn : 0 < n) : 0 ≤ x.tmod n ∧ x.tmod n < n := ⟨Int.tmod_nonneg _ h, Int.tmod_lt_of_pos _ hn⟩
end Go.Eva
end
section
/- What the drawing functions answer. -/
namespace Go.Eva
open Go.RowKit (wrap64)
set_option linter.unusedVariables false
set_option linter.unusedSimpArgs false

/-- A cursor: the code and the place in it. -/
structure Cur (b : List Int) (i : Int) : Prop where
  lo : 0 ≤ i
  hi : i ≤ (b.length : Int)
  len : b.length ≤ 1048576
  byt : ∀ x ∈ b, 0 ≤ x ∧ x < 256

theorem t66 {n : Nat} {b : List Int} {i h : Int} (c : Cur b i) : ok (F66 n b i h) fun r => 0 ≤ r.1 ∧ r.1 < 256 ∧ Cur r.2.1 r.2.2.1 := by
  unfold F66
  refine ok.guard (by omega) (ok.guard (by omega) (ok.ite (fun h1 => ok.guard c.lo (ok.guard h1 (ok.some ?_))) (fun h1 => ok.some ?_)))
  · have hl := c.len
    have hlo := c.lo
    refine ⟨(and255 _).1, (and255 _).2, ?_⟩
    show Cur b (wrap64 (i + 1))
    rw [w64 (x := i + 1) (by omega) (by omega)]
    exact ⟨by omega, by omega, c.len, c.byt⟩
  · exact ⟨(and255 _).1, (and255 _).2, c⟩

theorem t43 {n : Nat} {m : Int} {b : List Int} {i h : Int} (c : Cur b i) : ok (F43 n m b i h) fun r => 0 ≤ r.1 ∧ (0 < m → r.1 < m) ∧ (m ≤ 0 → r.1 = 0) ∧ Cur r.2.1 r.2.2.1 := by
  unfold F43
  refine ok.ite (fun h1 => ok.some ⟨Int.le_refl _, fun q => by omega, fun _ => rfl, c⟩) (fun h1 => ok.ite (fun h2 => ?_) (fun h2 => ?_))
  · refine (t66 c).bind fun r1 q => ok.guard (by omega) (ok.some ?_)
    have := tmod_bd (x := r1.1) (n := m) q.1 (by omega)
    exact ⟨this.1, fun _ => this.2, fun q => by omega, q.2.2⟩
  · refine (t66 c).bind fun r2 q2 => (t66 q2.2.2).bind fun r3 q3 => (t66 q3.2.2).bind fun r4 q4 => (t66 q4.2.2).bind fun r5 q5 => ok.guard (by omega) (ok.some ?_)
    have e : wrap64 ((wrap64 ((wrap64 ((wrap64 (r2.1 * 16777216)) + (wrap64 (r3.1 * 65536)))) + (wrap64 (r4.1 * 256)))) + r5.1) = r2.1 * 16777216 + r3.1 * 65536 + r4.1 * 256 + r5.1 := by
      obtain ⟨a1, a2, _⟩ := q2
      obtain ⟨b1, b2, _⟩ := q3
      obtain ⟨c1, c2, _⟩ := q4
      obtain ⟨d1, d2, _⟩ := q5
      rw [w64 (x := r2.1 * 16777216) (by omega) (by omega), w64 (x := r3.1 * 65536) (by omega) (by omega), w64 (x := r4.1 * 256) (by omega) (by omega), w64 (x := r2.1 * 16777216 + r3.1 * 65536) (by omega) (by omega), w64 (x := r2.1 * 16777216 + r3.1 * 65536 + r4.1 * 256) (by omega) (by omega), w64 (by omega) (by omega)]
    simp only [e]
    have := tmod_bd (x := r2.1 * 16777216 + r3.1 * 65536 + r4.1 * 256 + r5.1) (n := m) (by have := q2.1; have := q3.1; have := q4.1; have := q5.1; omega) (by omega)
    exact ⟨this.1, fun _ => this.2, fun q => by omega, q5.2.2⟩

theorem t65 {n : Nat} {m : Int} {b : List Int} {i h : Int} (c : Cur b i) : ok (F65 n m b i h) fun r => Cur r.2.1 r.2.2.1 := by
  unfold F65
  exact (t43 c).bind fun r q => ok.some q.2.2.2

theorem t50 {n : Nat} {l b : List Int} {i h : Int} (c : Cur b i) (hl : 0 < l.length) : ok (F50 n l b i h) fun r => r.1 ∈ l ∧ Cur r.2.1 r.2.2.1 := by
  unfold F50
  refine (t43 c).bind fun r q => ok.guard q.1 (ok.guard (q.2.1 (by omega)) (ok.some ⟨rdOf_mem q.1 (q.2.1 (by omega)), q.2.2.2⟩))

theorem t45 {n : Nat} {l : List ByteArray} {b : List Int} {i h : Int} (c : Cur b i) (hl : 0 < l.length) : ok (F45 n l b i h) fun r => r.1 ∈ l ∧ Cur r.2.1 r.2.2.1 := by
  unfold F45
  refine (t43 c).bind fun r q => ok.guard q.1 (ok.guard (q.2.1 (by omega)) (ok.some ⟨rdOf_mem q.1 (q.2.1 (by omega)), q.2.2.2⟩))

theorem t77 {n : Nat} {b : List Int} {i h : Int} (c : Cur b i) : ok (F77 n b i h) fun r => r.1.size ≤ 5 ∧ Cur r.2.1 r.2.2.1 := by
  unfold F77
  refine (t45 c (by decide)).bind fun r q => ok.some ⟨?_, q.2⟩
  have hall : ∀ x ∈ ([(⟨#[97]⟩ : ByteArray), (⟨#[98]⟩ : ByteArray), (⟨#[99, 112, 117]⟩ : ByteArray), (⟨#[114, 101, 113]⟩ : ByteArray), (⟨#[120, 95, 49]⟩ : ByteArray), (⟨#[90, 57]⟩ : ByteArray), (⟨#[109, 101, 109]⟩ : ByteArray), (⟨#[113]⟩ : ByteArray)] : List ByteArray), x.size ≤ 5 := by
    intro x hx
    simp only [List.mem_cons, List.not_mem_nil, or_false] at hx
    rcases hx with rfl | rfl | rfl | rfl | rfl | rfl | rfl | rfl <;> decide
  exact hall _ q.1

theorem t75 {n : Nat} {b : List Int} {i h : Int} (c : Cur b i) : ok (F75 n b i h) fun r => Cur r.2.1 r.2.2.1 := by
  unfold F75
  exact (t43 c).bind fun r1 q1 => (t43 q1.2.2.2).bind fun r2 q2 => (t50 q2.2.2.2 (by simp)).bind fun r3 q3 => ok.some q3.2

theorem t26 {n : Nat} {x y z : Int} : ok (F26 n x y z) fun _ => True := by
  unfold F26
  exact ok.ite (fun _ => ok.some trivial) (fun _ => ok.some trivial)
theorem t61 {n : Nat} {x : Int} : ok (F61 n x) fun _ => True := by
  unfold F61
  exact t26.bind fun _ _ => ok.iteb (fun _ => ok.some trivial) (fun _ => t26.bind fun _ _ => ok.iteb (fun _ => ok.some trivial) (fun _ => t26.bind fun _ _ => ok.iteb (fun _ => ok.some trivial) (fun _ => ok.some trivial)))
theorem t34_0 {n : Nat} {s : ByteArray} (hs : s.size ≤ 1048576) : ∀ (k : Nat) (i : Int), 0 ≤ i → i ≤ (s.size : Int) → (s.size : Int) - i < k → ok (lp34_0 n k s i) fun _ => True
  | 0, i, h0, h1, hk => by omega
  | k + 1, i, h0, h1, hk => by
    show ok (st34_0 n (lp34_0 n k) s i) _
    unfold st34_0
    refine ok.ite (fun h2 => ok.guard h0 (ok.guard h2 (t61.bind fun _ _ => ok.iteb (fun _ => ok.some trivial) (fun _ => ?_)))) (fun _ => t26.bind fun _ _ => ok.some trivial)
    rw [w64 (by omega) (by omega)]
    exact t34_0 hs k (i + 1) (by omega) (by omega) (by omega)
theorem t34 {n : Nat} {s : ByteArray} (hs : s.size ≤ 5) (hn : 100 ≤ n) : ok (F34 n s) fun _ => True := t34_0 (by omega) n 0 (by omega) (by omega) (by omega)
theorem t137 {n : Nat} {s : ByteArray} {a b : Int} {t : Bool} {d e f g u v : Int} : ok (F137 n s a b t d e f g u v) fun _ => True := by
  unfold F137
  refine ok.ite (fun _ => ok.ite (fun _ => ok.ite (fun _ => ok.ite (fun _ => ok.some trivial) (fun _ => ok.some trivial)) (fun _ => ok.some trivial)) (fun _ => ok.some trivial)) (fun _ => ?_)
  exact t26.bind fun _ _ => ok.iteb (fun _ => t26.bind fun _ _ => ok.iteb (fun _ => ok.ite (fun _ => t26.bind fun _ _ => ok.iteb (fun _ => t26.bind fun _ _ => ok.iteb (fun _ => ok.ite (fun _ => ok.some trivial) (fun _ => ok.some trivial)) (fun _ => ok.some trivial)) (fun _ => ok.some trivial)) (fun _ => ok.some trivial)) (fun _ => ok.some trivial)) (fun _ => ok.some trivial)
theorem t136 {n : Nat} {s : ByteArray} {a b : Int} {t : Bool} {d e f g u v : Int} (hs : s.size ≤ 5) (hn : 100 ≤ n) : ok (F136 n s a b t d e f g u v) fun _ => True := by
  unfold F136
  refine (t34 hs hn).bind fun _ _ => ok.iteb (fun _ => ok.some trivial) (fun _ => ok.ite (fun _ => ok.iteb (fun _ => t26.bind fun _ _ => ok.some trivial) (fun _ => ok.some trivial)) (fun _ => ok.ite (fun _ => ok.iteb (fun _ => t26.bind fun _ _ => ok.iteb (fun _ => ok.iteb (fun _ => ok.some trivial) (fun _ => ok.some trivial)) (fun _ => ok.some trivial)) (fun _ => ok.some trivial)) (fun _ => ok.ite (fun _ => ?_) (fun _ => ok.some trivial))))
  exact ok.ite (fun _ => ok.iteb (fun _ => ok.ite (fun _ => t137.bind fun _ _ => ok.some trivial) (fun _ => ok.some trivial)) (fun _ => ok.some trivial)) (fun _ => ok.some trivial)
theorem t133 {n : Nat} {s : ByteArray} {a b : Int} {t : Bool} {d e f g u v x : Int} (hs : s.size ≤ 5) (hn : 100 ≤ n) : ok (F133 n s a b t d e f g u v x) fun r => r.1 = s := by
  unfold F133
  exact (t136 hs hn).bind fun _ _ => ok.iteb (fun _ => ok.some rfl) (fun _ => ok.ite (fun _ => ok.some rfl) (fun _ => t26.bind fun _ _ => ok.iteb (fun _ => ok.some rfl) (fun _ => ok.ite (fun _ => ok.some rfl) (fun _ => ok.ite (fun _ => ok.some rfl) (fun _ => ok.some rfl)))))
theorem t104 {n : Nat} {s : ByteArray} {a b : Int} {t : Bool} {d e f g u v : Int} : ok (F104 n s a b t d e f g u v) fun _ => True := by
  unfold F104
  exact ok.ite (fun _ => ok.iteb (fun _ => ok.some trivial) (fun _ => ok.some trivial)) (fun _ => ok.some trivial)
theorem t22_0 {n : Nat} {b : List Int} (hb : b.length ≤ 1048576) (hy : ∀ x ∈ b, 0 ≤ x ∧ x < 256) : ∀ (k : Nat) (i1 i2 : Int), 0 ≤ i2 → i2 ≤ 4000 → 4000 - i2 < k → ok (lp22_0 n k b i1 i2) fun r => Cur r.2.1 r.2.2.1
  | 0, i1, i2, h0, h1, hk => by omega
  | k + 1, i1, i2, h0, h1, hk => by
    show ok (st22_0 n (lp22_0 n k) b i1 i2) _
    unfold st22_0
    refine ok.ite (fun h2 => ok.ite (fun h3 => ok.guard h0 (ok.guard h2 ?_)) (fun _ => ok.some ⟨Int.le_refl _, by simp, hb, hy⟩)) (fun _ => ok.some ⟨Int.le_refl _, by simp, hb, hy⟩)
    rw [w64 (x := i2 + 1) (by omega) (by omega)]
    exact t22_0 hb hy k _ _ (by omega) (by omega) (by omega)
theorem t22 {n : Nat} (hn : 5000 ≤ n) {b : List Int} (hb : b.length ≤ 1048576) (hy : ∀ x ∈ b, 0 ≤ x ∧ x < 256) : ok (F22 n b) fun r => Cur r.2.1 r.2.2.1 := t22_0 hb hy n _ _ (by omega) (by omega) (by omega)
theorem t56 {n : Nat} {b : List Int} {i h : Int} (c : Cur b i) : ok (F56 n b i h) fun r => r.1.size ≤ 5 ∧ Cur r.2.1 r.2.2.1 := by
  unfold F56
  refine (t65 c).bind fun r1 q1 => ok.iteb (fun _ => (t45 q1 (by decide)).bind fun r2 q2 => ok.some ⟨?_, q2.2⟩) (fun _ => (t77 q1).bind fun r3 q3 => ok.some q3)
  have hall : ∀ x ∈ ([(⟨#[]⟩ : ByteArray), (⟨#[97, 98, 99, 100, 101]⟩ : ByteArray), (⟨#[97, 32, 98]⟩ : ByteArray), (⟨#[97, 58]⟩ : ByteArray), (⟨#[0]⟩ : ByteArray), (⟨#[97, 98, 99, 100]⟩ : ByteArray), (⟨#[255]⟩ : ByteArray)] : List ByteArray), x.size ≤ 5 := by
    intro x hx
    simp only [List.mem_cons, List.not_mem_nil, or_false] at hx
    rcases hx with rfl | rfl | rfl | rfl | rfl | rfl | rfl <;> decide
  exact hall _ q2.1
theorem t57 {n : Nat} {b : List Int} {i h : Int} (c : Cur b i) : ok (F57 n b i h) fun r => Cur r.2.1 r.2.2.1 := by
  unfold F57
  exact (t50 c (by decide)).bind fun r1 q1 => ok.some q1.2
abbrev Rw := (ByteArray × (Int × (Int × (Bool × (Int × (Int × (Int × (Int × (Int × Int)))))))))
theorem drop_cons {α : Type} {l : List α} {i : Nat} (h : i < l.length) : l.drop i = l[i] :: l.drop (i + 1) := List.drop_eq_getElem_cons h
theorem w1 {i n : Nat} (h : i < n) (hn : n ≤ 1000000000) : wrap64 ((i : Int) + 1) = ((i + 1 : Nat) : Int) := by rw [w64 (by omega) (by omega)]; rfl

def inr (x a b : Int) : Bool := decide (a ≤ x ∧ x ≤ b)
theorem f26 {n : Nat} {x a b : Int} : F26 n x a b = some (inr x a b, ()) := by
  unfold F26 inr
  by_cases h1 : a ≤ x <;> by_cases h2 : x ≤ b <;> simp [h1, h2]
theorem f39 {n : Nat} {x a b : Int} : F39 n x a b = some (inr x a b, ()) := by
  unfold F39 inr
  by_cases h1 : a ≤ x <;> by_cases h2 : x ≤ b <;> simp [h1, h2]
def kc (x : Int) : Bool := inr x 97 122 || (inr x 65 90 || (inr x 48 57 || decide (x = 95)))
theorem f61 {n : Nat} {x : Int} : F61 n x = some (kc x, ()) := by
  unfold F61 kc
  simp only [f26, Option.bind_some]
  cases inr x 97 122 <;> cases inr x 65 90 <;> cases inr x 48 57 <;> simp
theorem bt_bd (s : ByteArray) (i : Int) : 0 ≤ bt s i ∧ bt s i < 256 := by
  unfold bt
  split
  · have := (s[i.toNat]).toNat_lt; omega
  · omega
theorem kc_eq (x : Int) (α : Type) (a b : Option α) : (if (!kc x) = true then a else b) = if decide (x ≥ 97) = true then (if decide (x ≤ 122) = true then b else (if decide (x ≥ 65) = true then (if decide (x ≤ 90) = true then b else (if decide (x ≥ 48) = true then (if decide (x ≤ 57) = true then b else (if (!(decide (x = 95))) = true then a else b)) else (if (!(decide (x = 95))) = true then a else b)))
    else (if decide (x ≥ 48) = true then (if decide (x ≤ 57) = true then b else (if (!(decide (x = 95))) = true then a else b)) else (if (!(decide (x = 95))) = true then a else b))))
   else (if decide (x ≥ 65) = true then (if decide (x ≤ 90) = true then b else (if decide (x ≥ 48) = true then (if decide (x ≤ 57) = true then b else (if (!(decide (x = 95))) = true then a else b)) else (if (!(decide (x = 95))) = true then a else b)))
    else (if decide (x ≥ 48) = true then (if decide (x ≤ 57) = true then b else (if (!(decide (x = 95))) = true then a else b)) else (if (!(decide (x = 95))) = true then a else b))) := by
  unfold kc inr
  by_cases h1 : x ≥ 97
  · by_cases h2 : x ≤ 122
    · have : (97 : Int) ≤ x ∧ x ≤ 122 := ⟨h1, h2⟩
      simp [h1, h2]
    · have e1 : ¬ x ≤ 90 := by omega
      have e2 : ¬ x ≤ 57 := by omega
      have e3 : ¬ x = 95 := by omega
      have e4 : x ≥ 65 := by omega
      have e5 : x ≥ 48 := by omega
      simp [h1, h2, e1, e2, e3, e4, e5]
  · by_cases h3 : x ≥ 65
    · by_cases h4 : x ≤ 90
      · simp [h1, h3, h4]
      · have e2 : ¬ x ≤ 57 := by omega
        have e5 : x ≥ 48 := by omega
        by_cases h5 : x = 95 <;> simp [h1, h3, h4, e2, e5, h5]
    · have e3 : ¬ x = 95 := by omega
      by_cases h5 : x ≥ 48 <;> by_cases h6 : x ≤ 57 <;> simp [h1, h3, e3, h5, h6]
theorem f59_0 {n : Nat} {s : ByteArray} : ∀ (k : Nat) (i : Int), lp59_0 n k s (s.size : Int) i = lp34_0 n k s i
  | 0, i => rfl
  | k + 1, i => by
    show st59_0 n (lp59_0 n k) s _ i = st34_0 n (lp34_0 n k) s i
    unfold st59_0 st34_0 j59_0
    have hb := bt_bd s i
    have ih := f59_0 (n := n) (s := s) k (wrap64 (i + 1))
    simp only [f61, f39, f26, Option.bind_some, w64 (x := bt s i) (by omega) (by omega), kc_eq, ih]
theorem f59 {n : Nat} {s : ByteArray} : F59 n s = F34 n s := f59_0 n 0
theorem t46g {n : Nat} {s : ByteArray} (hs : s.size ≤ 1048576) (hn : 2000000 ≤ n) : ok (F34 n s) fun _ => True := t34_0 hs n 0 (by omega) (by omega) (by omega)
noncomputable def kob (n : Nat) (s : ByteArray) : Bool := ((F34 n s).getD (false, ())).1
theorem bt_list (s : ByteArray) (i : Nat) (h : i < s.data.toList.length) : bt s (i : Int) = ((s.data.toList[i]).toNat : Int) := by
  have hl : s.data.toList.length = s.size := Array.length_toList
  unfold bt
  rw [Int.toNat_natCast, dif_pos (by omega)]
  rfl
theorem t46k {n : Nat} {s : ByteArray} (hs : s.size ≤ 1048576) : ∀ (k i : Nat), i ≤ s.size → s.size - i < k → ok (lp34_0 n k s (i : Int)) fun r => r.1 = true → (∀ j, i ≤ j → j < s.size → kc (bt s (j : Int)) = true) ∧ 1 ≤ s.size ∧ s.size ≤ 4
  | 0, i, h, hk => by omega
  | k + 1, i, h, hk => by
    show ok (st34_0 n (lp34_0 n k) s _) _
    unfold st34_0
    refine ok.ite (fun h1 => ok.guard (by omega) (ok.guard h1 ?_)) (fun h1 => ?_)
    · have hb := bt_bd s (i : Int)
      rw [f61, w64 (x := bt s (i : Int)) (by omega) (by omega)]
      simp only [Option.bind_some]
      refine ok.iteb (fun _ => ok.some fun h => by cases h) (fun hk1 => ?_)
      have hk1 : kc (bt s (i : Int)) = true := by simpa using hk1
      have hi : i < s.size := by omega
      have e : wrap64 ((i : Int) + 1) = ((i + 1 : Nat) : Int) := by rw [w64 (by omega) (by omega)]; rfl
      rw [e]
      refine (t46k hs k (i + 1) (by omega) (by omega)).mono fun r q h => ⟨fun j h2 h3 => ?_, (q h).2⟩
      by_cases e : j = i
      · subst e; exact hk1
      · exact (q h).1 j (by omega) h3
    · rw [f26]
      refine ok.some fun h => ⟨fun j h2 h3 => by omega, ?_⟩
      have h : inr (s.size : Int) 1 4 = true := h
      unfold inr at h
      have := of_decide_eq_true h
      omega
theorem kc_ne {x : Int} (h : kc x = true) : x ≠ 32 ∧ x ≠ 60 ∧ x ≠ 62 := by
  unfold kc inr at h
  simp only [Bool.or_eq_true, decide_eq_true_eq] at h
  omega
end Go.Eva
end
section
/- Numbers as texts. -/
namespace Go.Eva
open Go.RowKit (wrap64)
set_option linter.unusedVariables false
set_option linter.unusedSimpArgs false

def isDig (b : UInt8) : Bool := decide (48 ≤ b.toNat) && decide (b.toNat ≤ 57)
def valN (n : Nat) (L : List UInt8) : Nat := L.foldl (fun m b => m * 10 + (b.toNat - 48)) n
theorem valN_nil (n : Nat) : valN n [] = n := by unfold valN; exact List.foldl_nil
theorem valN_cons (n : Nat) (b : UInt8) (bs : List UInt8) : valN n (b :: bs) = valN (n * 10 + (b.toNat - 48)) bs := by unfold valN; exact List.foldl_cons
def p10 : Nat → Nat
  | 0 => 1
  | i + 1 => p10 i * 10
theorem pow_le10 (i : Nat) (h : i ≤ 11) : p10 i ≤ 100000000000 := by
  have : i = 0 ∨ i = 1 ∨ i = 2 ∨ i = 3 ∨ i = 4 ∨ i = 5 ∨ i = 6 ∨ i = 7 ∨ i = 8 ∨ i = 9 ∨ i = 10 ∨ i = 11 := by omega
  rcases this with rfl | rfl | rfl | rfl | rfl | rfl | rfl | rfl | rfl | rfl | rfl | rfl <;> decide
theorem p10_up {n i : Nat} (h : n < p10 i) : n < p10 (i + 1) := by
  show n < p10 i * 10
  omega
theorem p10_dig {n i b : Nat} (h : n < p10 i) (hb : b ≤ 57) : n * 10 + (b - 48) < p10 (i + 1) := by
  show n * 10 + (b - 48) < p10 i * 10
  omega
theorem valN_lt (L : List UInt8) : ∀ (n i : Nat), (∀ b ∈ L, isDig b = true) → n < p10 i → valN n L < p10 (i + L.length) := by
  induction L with
  | nil =>
    intro n i _ h
    have e := valN_nil n
    rw [e, List.length_nil, Nat.add_zero]
    exact h
  | cons b bs ih =>
    intro n i hd h
    have hb := hd b (by simp)
    unfold isDig at hb
    rw [Bool.and_eq_true] at hb
    have hb2 : b.toNat ≤ 57 := of_decide_eq_true hb.2
    have q := ih (n * 10 + (b.toNat - 48)) (i + 1) (fun c hc => hd c (by simp [hc])) (p10_dig h hb2)
    have e := valN_cons n b bs
    rw [e, List.length_cons, show i + (bs.length + 1) = i + 1 + bs.length from by omega]
    exact q
theorem digits_dig (u : Nat) : ∀ b ∈ Go.Lib.decDigits u, isDig b = true := by
  have one : ∀ v : Nat, v < 10 → isDig (UInt8.ofNat (48 + v)) = true := by
    intro v hv
    have : (UInt8.ofNat (48 + v)).toNat = 48 + v := by
      rw [UInt8.toNat_ofNat']
      omega
    unfold isDig
    rw [this]
    simp
    omega
  induction u using Nat.strongRecOn with
  | ind u ih =>
    intro b hb
    rw [Go.Lib.decDigits] at hb
    by_cases h : u < 10
    · rw [dif_pos h] at hb
      rw [List.mem_singleton.1 hb]
      exact one u h
    · rw [dif_neg h] at hb
      rcases List.mem_append.1 hb with hb | hb
      · exact ih (u / 10) (by omega) b hb
      · rw [List.mem_singleton.1 hb]
        exact one (u % 10) (by omega)
theorem digits_ne (u : Nat) : Go.Lib.decDigits u ≠ [] := by
  rw [Go.Lib.decDigits]
  by_cases h : u < 10
  · rw [dif_pos h]; simp
  · rw [dif_neg h]; simp

def dB (n : Int) : ByteArray := ⟨(Go.Lib.itoa n).toArray⟩
theorem dB_nat (m : Nat) : (dB (m : Int)).data.toList = Go.Lib.decDigits m := by
  show (Go.Lib.itoa (m : Int)).toArray.toList = _
  rw [Go.Lib.itoa_nonneg]
theorem ba_ext {a b : ByteArray} (h : a.data.toList = b.data.toList) : a = b := by
  cases a; cases b
  exact congrArg ByteArray.mk (Array.toList_inj.1 h)
theorem sz_list (s : ByteArray) : s.data.toList.length = s.size := Array.length_toList
theorem ba_app (a b : List UInt8) : (⟨a.toArray⟩ : ByteArray) ++ ⟨b.toArray⟩ = ⟨(a ++ b).toArray⟩ := by
  apply ba_ext
  simp
theorem valN_app (n : Nat) (A B : List UInt8) : valN n (A ++ B) = valN (valN n A) B := by unfold valN; exact List.foldl_append
theorem dg_toNat (v : Nat) (h : v < 10) : (UInt8.ofNat (48 + v)).toNat = 48 + v := by
  rw [UInt8.toNat_ofNat']; omega
theorem valN_digits (u : Nat) : valN 0 (Go.Lib.decDigits u) = u := by
  induction u using Nat.strongRecOn with
  | ind u ih =>
    rw [Go.Lib.decDigits]
    by_cases h : u < 10
    · rw [dif_pos h, valN_cons, valN_nil, dg_toNat u h]; omega
    · rw [dif_neg h, valN_app, ih (u / 10) (by omega), valN_cons, valN_nil, dg_toNat (u % 10) (by omega)]; omega
theorem digits_len : ∀ (i u : Nat), u < p10 (i + 1) → (Go.Lib.decDigits u).length ≤ i + 1
  | 0, u, h => by
    have h : u < 10 := h
    rw [Go.Lib.decDigits, dif_pos h]
    exact Nat.le_refl _
  | i + 1, u, h => by
    rw [Go.Lib.decDigits]
    by_cases h10 : u < 10
    · rw [dif_pos h10]; simp
    · rw [dif_neg h10, List.length_append]
      have h : u < p10 (i + 1) * 10 := h
      have := digits_len i (u / 10) (by omega)
      simp only [List.length_cons, List.length_nil]
      omega
theorem w_range (x : Int) : -9223372036854775808 ≤ wrap64 x ∧ wrap64 x ≤ 9223372036854775807 := by unfold wrap64; omega
theorem t33 {n : Nat} {a : Int} (h1 : -9223372036854775808 ≤ a) (h2 : a ≤ 9223372036854775807) : F33 n a = some (dB a, ()) := by
  unfold F33 F60 itoF
  rw [if_pos (decide_eq_true ⟨h1, h2⟩)]
  rfl
theorem dig1 (m : Nat) (h : m < 10) : strOf [wrapI .u8 (wrap64 (48 + (m : Int)))] = ⟨[UInt8.ofNat (48 + m)].toArray⟩ := by
  rw [w64 (by omega) (by omega)]
  have : wrapI .u8 (48 + (m : Int)) = 48 + (m : Int) := by
    show (48 + (m : Int)) % 256 = _
    omega
  unfold strOf
  rw [this]
  have e : (48 + (m : Int)).toNat = 48 + m := by omega
  simp [e]
theorem t63_0 {n : Nat} : ∀ (d m k : Nat) (acc : List UInt8), 0 < m → m < p10 d → d + 1 < k → (m : Int) ≤ 9223372036854775807 → acc.length + d ≤ 100 → lp63_0 n k (m : Int) ⟨acc.toArray⟩ false = some (⟨(Go.Lib.decDigits m ++ acc).toArray⟩, ())
  | 0, m, k, acc, h0, h1, hk, hm, ha => by
    have h1 : m < 1 := h1
    omega
  | d + 1, m, k, acc, h0, h1, hk, hm, ha => by
    obtain ⟨k, rfl⟩ : ∃ q, k = q + 1 := ⟨k - 1, by omega⟩
    have h1 : m < p10 d * 10 := h1
    show st63_0 n (lp63_0 n k) (m : Int) _ false = _
    have hz : ((m : Int).tmod 10) = ((m % 10 : Nat) : Int) := by rw [Int.tmod_eq_emod_of_nonneg (by omega)]; omega
    have hq : wrap64 ((m : Int).tdiv 10) = ((m / 10 : Nat) : Int) := by
      rw [Int.tdiv_eq_ediv_of_nonneg (by omega), w64 (by omega) (by omega)]; omega
    have hs1 : (⟨[UInt8.ofNat (48 + m % 10)].toArray⟩ : ByteArray).size = 1 := rfl
    have hs2 : (⟨acc.toArray⟩ : ByteArray).size = acc.length := by show acc.toArray.size = _; simp
    unfold st63_0
    rw [if_pos (decide_eq_true (show (m : Int) ≠ 0 by omega)), if_pos (by decide), hz, if_neg (by simp; omega)]
    unfold j63_0
    rw [dig1 (m % 10) (by omega), if_pos (decide_eq_true (by rw [hs1, hs2]; omega)), if_pos (by decide), hq, ba_app]
    rw [Go.Lib.decDigits]
    by_cases h10 : m < 10
    · have e0 : m / 10 = 0 := by omega
      have e1 : m % 10 = m := by omega
      rw [dif_pos h10, e0, e1]
      obtain ⟨k, rfl⟩ : ∃ q, k = q + 1 := ⟨k - 1, by omega⟩
      rfl
    · rw [dif_neg h10, t63_0 d (m / 10) k _ (by omega) (by omega) (by omega) (by omega) (by simp only [List.singleton_append, List.length_cons]; omega)]
      simp
theorem p10_19 : p10 19 = 10000000000000000000 := by decide
theorem t63 {n : Nat} (hn : 100 ≤ n) {m : Nat} (hm : (m : Int) ≤ 9223372036854775807) : F63 n (m : Int) = some (dB (m : Int), ()) := by
  unfold F63 st63
  by_cases h : m = 0
  · subst h
    have e : (⟨#[48]⟩ : ByteArray) = dB ((0 : Nat) : Int) := ba_ext (by rw [dB_nat, Go.Lib.decDigits, dif_pos (by omega)]; rfl)
    rw [if_pos (by decide), e]
  · rw [if_neg (by simp; omega)]
    have e : decide ((m : Int) < 0) = false := decide_eq_false (by omega)
    rw [e, show (⟨#[]⟩ : ByteArray) = ⟨([] : List UInt8).toArray⟩ from rfl, t63_0 19 m n [] (by omega) (by rw [p10_19]; omega) (by omega) hm (by simp), List.append_nil]
    congr 2
theorem t11t_0 {n : Nat} : ∀ (d k : Nat) (i : Int) (s : ByteArray) (b : Bool), i.natAbs < p10 d → d < k → -9223372036854775808 ≤ i → i ≤ 9223372036854775807 → s.size + d ≤ 1000000 → ok (lp63_0 n k i s b) fun r => r.1.size ≤ s.size + d + 1
  | d, 0, i, s, b, h1, hk, hl, hh, hs => by omega
  | d, k + 1, i, s, b, h1, hk, hl, hh, hs => by
    show ok (st63_0 n (lp63_0 n k) i s b) _
    unfold st63_0
    refine ok.ite (fun h2 => ?_) (fun h2 => ?_)
    · obtain ⟨d, rfl⟩ : ∃ q, d = q + 1 := ⟨d - 1, by
        rcases d with _ | d
        · have h1 : i.natAbs < 1 := h1
          omega
        · omega⟩
      have h1 : i.natAbs < p10 d * 10 := h1
      have hq : (i.tdiv 10).natAbs = i.natAbs / 10 := Int.natAbs_tdiv i 10
      have hj : ∀ x : Int, ok (j63_0 n (lp63_0 n k) i s b x) fun r => r.1.size ≤ s.size + (d + 1) + 1 := fun x => by
        unfold j63_0
        have hs1 : (strOf [wrapI .u8 (wrap64 (48 + x))]).size = 1 := rfl
        refine ok.guard (by rw [hs1]; omega) (ok.guard (by decide) ?_)
        rw [w64 (x := i.tdiv 10) (by omega) (by omega)]
        refine (t11t_0 d k _ _ b (by omega) (by omega) (by omega) (by omega) (by rw [ByteArray.size_append, hs1]; omega)).mono fun r q => ?_
        rw [ByteArray.size_append, hs1] at q
        omega
      exact ok.guard (by decide) (ok.ite (fun _ => hj _) (fun _ => hj _))
    · refine ok.iteb (fun _ => ok.guard (by show 1 + s.size ≤ _; omega) (ok.some ?_)) (fun _ => ok.some (by show s.size ≤ _; omega))
      show ((⟨#[45]⟩ : ByteArray) ++ s).size ≤ _
      rw [ByteArray.size_append]
      show 1 + s.size ≤ _
      omega
theorem t11t {n : Nat} (hn : 100 ≤ n) {i : Int} (hl : -9223372036854775808 ≤ i) (hh : i ≤ 9223372036854775807) : ok (F63 n i) fun r => r.1.size ≤ 21 := by
  unfold F63 st63
  refine ok.ite (fun _ => ok.some (by show 1 ≤ 21; omega)) (fun _ => ?_)
  exact (t11t_0 19 n i (⟨#[]⟩ : ByteArray) _ (by rw [p10_19]; omega) (by omega) hl hh (by show 0 + 19 ≤ 1000000; omega)).mono fun r q => Nat.le_trans q (show 0 + 19 + 1 ≤ 21 by omega)
theorem dB_size {i : Int} (hl : -9223372036854775808 ≤ i) (hh : i ≤ 9223372036854775807) : (dB i).size ≤ 21 := by
  have := Go.Lib.itoa_length_le i hl hh
  show (Go.Lib.itoa i).toArray.size ≤ 21
  simpa using this
theorem wb (i n : Nat) (h : i ≤ n) (hn : n ≤ 1048576) : wrap64 ((i : Int) + 1) = ((i + 1 : Nat) : Int) := by rw [w64 (by omega) (by omega)]; rfl
/-- The program's reading of a number: total. -/
theorem t49t_0 {n : Nat} {s0 t : ByteArray} (ht : t.size ≤ 1048576) {i2 : Int} : ∀ (k i : Nat) (i3 : Int), i ≤ t.size → t.size - i < k → ok (lp30_0 n k s0 t i2 i3 (t.size : Int) (i : Int)) fun _ => True
  | 0, i, i3, h, hk => by omega
  | k + 1, i, i3, h, hk => by
    show ok (st30_0 n (lp30_0 n k) s0 t i2 i3 _ _) _
    unfold st30_0
    refine ok.ite (fun h1 => ok.guard (by omega) (ok.guard h1 (ok.ite (fun _ => ok.some trivial) (fun _ => ok.guard (by omega) (ok.guard h1 (ok.ite (fun _ => ok.some trivial) (fun _ => ok.guard (by omega) (ok.guard h1 ?_)))))))) (fun _ => ?_)
    · rw [wb i t.size h ht]
      exact t49t_0 ht k (i + 1) _ (by omega) (by omega)
    · have := w_range (i2 * i3)
      rw [t33 this.1 this.2]
      exact ok.iteb (fun _ => ok.some trivial) (fun _ => ok.some trivial)
theorem t49t {n : Nat} {s : ByteArray} (hs : s.size ≤ 1048576) (hn : 2000000 ≤ n) : ok (F30 n s) fun _ => True := by
  have hx : (s.extract (1 : Int).toNat (s.size : Int).toNat).size ≤ 1048576 := by rw [ByteArray.size_extract]; omega
  unfold F30 st30
  simp only [f39, Option.bind_some]
  refine ok.ite (fun h => ok.guard (by decide) (ok.guard (by omega) (ok.ite (fun _ => ok.guard (by decide) (ok.guard (by omega) (ok.guard (by omega) (ok.iteb (fun _ => ok.some trivial) (fun _ => t49t_0 hx n 0 _ (by omega) (by omega)))))) (fun _ => ok.iteb (fun _ => ok.some trivial) (fun _ => t49t_0 hs n 0 _ (by omega) (by omega)))))) (fun _ => ok.iteb (fun _ => ok.some trivial) (fun _ => t49t_0 hs n 0 _ (by omega) (by omega)))
theorem rdstep (v b : Nat) (hv : v ≤ 100000000000) (h1 : 48 ≤ b) (h2 : b ≤ 57) : wrap64 ((wrap64 (10 * (v : Int))) + (wrap64 (wrapI .u8 ((b : Int) - 48)))) = ((v * 10 + (b - 48) : Nat) : Int) := by
  have e : wrapI .u8 ((b : Int) - 48) = (b : Int) - 48 := by
    show ((b : Int) - 48) % 256 = _
    omega
  rw [e, w64 (x := 10 * (v : Int)) (by omega) (by omega), w64 (x := (b : Int) - 48) (by omega) (by omega), w64 (by omega) (by omega)]
  omega
theorem dig_bt {s : ByteArray} (hd : ∀ b ∈ s.data.toList, isDig b = true) {i : Nat} (hi : i < s.data.toList.length) : bt s (i : Int) = ((s.data.toList[i]).toNat : Int) ∧ 48 ≤ (s.data.toList[i]).toNat ∧ (s.data.toList[i]).toNat ≤ 57 := by
  have := hd _ (List.getElem_mem hi)
  unfold isDig at this
  simp only [Bool.and_eq_true, decide_eq_true_eq] at this
  exact ⟨bt_list s i hi, this⟩
/-- .. and what it reads of a number's text. -/
theorem t30_0 {n : Nat} {s : ByteArray} (hd : ∀ b ∈ s.data.toList, isDig b = true) (h9 : s.size ≤ 9) {m : Nat} (hm : valN 0 s.data.toList = m) (hs : s.toList = (dB (m : Int)).toList) : ∀ (k i v : Nat), i ≤ s.size → s.size - i < k → v < p10 i → valN v (s.data.toList.drop i) = m →
    lp30_0 n k s s 1 (v : Int) (s.size : Int) (i : Int) = some ((m : Int), true, ())
  | 0, i, v, h, hk, hv, he => by omega
  | k + 1, i, v, h, hk, hv, he => by
    have hl := sz_list s
    have hp := pow_le10 i (by omega)
    show st30_0 n (lp30_0 n k) s s 1 _ _ _ = _
    unfold st30_0
    by_cases h1 : i < s.size
    · obtain ⟨e1, e2, e3⟩ := dig_bt hd (i := i) (by omega)
      rw [if_pos (decide_eq_true (by omega)), if_pos (decide_eq_true (by omega)), if_pos (decide_eq_true (by omega)), if_neg (by rw [e1, decide_eq_false (by omega)]; decide), if_pos (decide_eq_true (by omega)), if_pos (decide_eq_true (by omega)), if_neg (by rw [e1, decide_eq_false (by omega)]; decide), if_pos (decide_eq_true (by omega)), if_pos (decide_eq_true (by omega)), e1]
      rw [rdstep v _ (by omega) e2 e3, wb i s.size h (by omega)]
      rw [List.drop_eq_getElem_cons (show i < s.data.toList.length by omega), valN_cons] at he
      exact t30_0 hd h9 hm hs k (i + 1) _ (by omega) (by omega) (p10_dig hv e3) he
    · rw [List.drop_eq_nil_of_le (by omega), valN_nil] at he
      subst he
      rw [if_neg (by simp; omega), Int.one_mul, w64 (x := (v : Int)) (by omega) (by omega), t33 (by omega) (by omega)]
      simp only [Option.bind_some]
      rw [if_neg (by rw [decide_eq_true hs.symm]; decide)]
theorem num_text {m : Nat} (hm : m ≤ 999999999) : (∀ b ∈ (dB (m : Int)).data.toList, isDig b = true) ∧ 1 ≤ (dB (m : Int)).size ∧ (dB (m : Int)).size ≤ 9 ∧ valN 0 (dB (m : Int)).data.toList = m := by
  have hl := sz_list (dB (m : Int))
  rw [dB_nat] at hl ⊢
  refine ⟨digits_dig m, ?_, ?_, valN_digits m⟩
  · have := List.length_pos_iff.2 (digits_ne m); omega
  · have := digits_len 8 m (Nat.lt_of_le_of_lt hm (by decide))
    omega
theorem t30 {n : Nat} (hn : 2000000 ≤ n) {m : Nat} (hm : m ≤ 999999999) : F30 n (dB (m : Int)) = some ((m : Int), true, ()) := by
  obtain ⟨h1, h2, h3, h4⟩ := num_text hm
  have hl := sz_list (dB (m : Int))
  obtain ⟨e1, e2, e3⟩ := dig_bt h1 (i := 0) (by omega)
  have e1 : bt (dB (m : Int)) 0 = _ := e1
  unfold F30 st30
  simp only [f39, Option.bind_some]
  have hi : inr ((dB (m : Int)).size : Int) 1 9 = true := by unfold inr; exact decide_eq_true ⟨by omega, by omega⟩
  rw [if_pos (decide_eq_true (by omega)), if_pos (by decide), if_pos (decide_eq_true (by omega)), if_neg (by rw [e1, decide_eq_false (by omega)]; decide), hi, if_neg (by decide)]
  exact t30_0 h1 h3 h4 rfl n 0 0 (by omega) (by omega) (by decide) (by rw [List.drop_zero]; exact h4)
/-- The reference's reading of a number. -/
theorem t56j {n : Nat} (hn : 100 ≤ n) {s : ByteArray} {i1 i2 : Int} (h1 : -9223372036854775808 ≤ i1) (h2 : i1 ≤ 9223372036854775807) : ok (j69_0 n s i1 i2) fun _ => True := by
  have hj : ∀ x : Int, -9223372036854775808 ≤ x → x ≤ 9223372036854775807 → ok (j69_1 n s x i2) fun _ => True := fun x a b => by
    unfold j69_1
    exact ok.ite (fun _ => ok.some trivial) (fun _ => ok.ite (fun _ => ok.some trivial) (fun _ => (t11t hn a b).bind fun r q => ok.iteb (fun _ => ok.some trivial) (fun _ => ok.some trivial)))
  unfold j69_0
  exact ok.ite (fun h => ok.guard (by decide) (ok.guard (by omega) (ok.ite (fun _ => hj _ (w_range _).1 (w_range _).2) (fun _ => hj _ h1 h2)))) (fun _ => hj _ h1 h2)
theorem t56t_0 {n : Nat} (hn : 100 ≤ n) {s : ByteArray} (hs : s.size ≤ 1048576) : ∀ (k i : Nat) (i1 i2 : Int), i ≤ s.size → s.size - i < k → -9223372036854775808 ≤ i1 → i1 ≤ 9223372036854775807 → ok (lp69_0 n k s i1 i2 (i : Int)) fun _ => True
  | 0, i, i1, i2, h, hk, a, b => by omega
  | k + 1, i, i1, i2, h, hk, a, b => by
    show ok (st69_0 n (lp69_0 n k) s i1 i2 _) _
    unfold st69_0
    refine ok.ite (fun h1 => ok.ite (fun h2 => ok.guard (by omega) (ok.guard h1 (ok.ite (fun _ => ok.guard (by omega) (ok.guard h1 (ok.ite (fun _ => ok.guard (by omega) (ok.guard h1 ?_)) (fun _ => ?_)))) (fun _ => ?_)))) (fun _ => t56j hn a b)) (fun _ => t56j hn a b)
    · rw [wb i s.size h hs]
      exact t56t_0 hn hs k (i + 1) _ _ (by omega) (by omega) (w_range _).1 (w_range _).2
    · rw [wb i s.size h hs]
      exact t56t_0 hn hs k (i + 1) _ _ (by omega) (by omega) a b
    · rw [wb i s.size h hs]
      exact t56t_0 hn hs k (i + 1) _ _ (by omega) (by omega) a b
theorem t56t {n : Nat} {s : ByteArray} (hs : s.size ≤ 1048576) (hn : 2000000 ≤ n) : ok (F69 n s) fun _ => True := by
  unfold F69 st69
  exact t56t_0 (by omega) hs n 0 0 0 (by omega) (by omega) (by omega) (by omega)
theorem rdstep2 (v b : Nat) (hv : v ≤ 100000000000) (h1 : 48 ≤ b) (h2 : b ≤ 57) : wrap64 ((wrap64 ((v : Int) * 10)) + (wrap64 (wrapI .u8 ((b : Int) - 48)))) = ((v * 10 + (b - 48) : Nat) : Int) := by
  rw [Int.mul_comm]
  exact rdstep v b hv h1 h2
theorem t69_0 {n : Nat} (hn : 100 ≤ n) {s : ByteArray} (hd : ∀ b ∈ s.data.toList, isDig b = true) (h9 : s.size ≤ 9) (hp : 1 ≤ s.size) {m : Nat} (hs : s.toList = (dB (m : Int)).toList) : ∀ (k i v : Nat), i ≤ s.size → s.size - i < k → v < p10 i → valN v (s.data.toList.drop i) = m →
    lp69_0 n k s (v : Int) (i : Int) (i : Int) = some ((m : Int), true, ())
  | 0, i, v, h, hk, hv, he => by omega
  | k + 1, i, v, h, hk, hv, he => by
    have hl := sz_list s
    have hp10 := pow_le10 i (by omega)
    show st69_0 n (lp69_0 n k) s _ _ _ = _
    unfold st69_0
    by_cases h1 : i < s.size
    · obtain ⟨e1, e2, e3⟩ := dig_bt hd (i := i) (by omega)
      rw [if_pos (decide_eq_true (by omega)), if_pos (decide_eq_true (by omega)), if_pos (decide_eq_true (by omega)), if_pos (decide_eq_true (by omega)), if_pos (by rw [e1]; exact decide_eq_true (by omega)), if_pos (decide_eq_true (by omega)), if_pos (decide_eq_true (by omega)), if_pos (by rw [e1]; exact decide_eq_true (by omega)), if_pos (decide_eq_true (by omega)), if_pos (decide_eq_true (by omega)), e1]
      rw [rdstep2 v _ (by omega) e2 e3, wb i s.size h (by omega)]
      rw [List.drop_eq_getElem_cons (show i < s.data.toList.length by omega), valN_cons] at he
      exact t69_0 hn hd h9 hp hs k (i + 1) _ (by omega) (by omega) (p10_dig hv e3) he
    · rw [List.drop_eq_nil_of_le (by omega), valN_nil] at he
      subst he
      obtain ⟨e1, e2, e3⟩ := dig_bt hd (i := 0) (by omega)
      have e1 : bt s 0 = _ := e1
      rw [if_neg (by simp; omega)]
      unfold j69_0 j69_1
      rw [if_pos (decide_eq_true (by omega)), if_pos (by decide), if_pos (decide_eq_true (by omega)), if_neg (by rw [e1, decide_eq_false (by omega)]; decide), if_neg (by simp; omega), if_neg (by simp; omega), t63 hn (by omega)]
      simp only [Option.bind_some]
      rw [if_neg (by rw [decide_eq_true hs.symm]; decide)]
theorem t69 {n : Nat} (hn : 2000000 ≤ n) {m : Nat} (hm : m ≤ 999999999) : F69 n (dB (m : Int)) = some ((m : Int), true, ()) := by
  obtain ⟨h1, h2, h3, h4⟩ := num_text hm
  unfold F69 st69
  exact t69_0 (by omega) h1 h3 h2 rfl n 0 0 (by omega) (by omega) (by decide) (by rw [List.drop_zero]; exact h4)
end Go.Eva
end
section
/- The arena. -/
namespace Go.Eva
open Go.RowKit (wrap64)
set_option linter.unusedVariables false
set_option linter.unusedSimpArgs false

def wd (x : Int) : Bool := inr x 0 281474976710655
def cokB (a : List Int) : Bool := a.all wd && decide ((a.length : Int) = 71)
theorem t8_0 {n : Nat} {a : List Int} (ha : a.length ≤ 1000) : ∀ (k i : Nat), i ≤ a.length → a.length - i < k → ok (lp8_0 n k a (i : Int)) fun r => r = ((a.drop i).all wd && decide ((a.length : Int) = 71), ())
  | 0, i, h, hk => by omega
  | k + 1, i, h, hk => by
    show ok (st8_0 n (lp8_0 n k) a _) _
    unfold st8_0
    refine ok.ite (fun h1 => ok.guard (by omega) (ok.guard h1 ?_)) (fun h1 => ok.some ?_)
    · have hi : i < a.length := by omega
      rw [rdOf_nat hi, f26, w1 hi (by omega), drop_cons hi]
      simp only [Option.bind_some]
      refine ok.iteb (fun h2 => ok.some ?_) (fun h2 => (t8_0 ha k (i + 1) (by omega) (by omega)).mono fun r q => ?_)
      · have h2 : wd a[i] = false := by unfold wd; simpa using h2
        rw [List.all_cons, h2]; rfl
      · have h2 : wd a[i] = true := by unfold wd; simpa using h2
        rw [q, List.all_cons, h2]; rfl
    · rw [List.drop_eq_nil_of_le (by omega)]; rfl
theorem t8 {n : Nat} (hn : 2000000 ≤ n) {a : List Int} (ha : a.length ≤ 1000) : ok (F8 n a) fun r => r = (cokB a, ()) := t8_0 ha n 0 (by omega) (by omega)
theorem cok_len {a : List Int} (h : cokB a = true) : a.length = 71 := by
  unfold cokB at h
  have := of_decide_eq_true (Bool.and_eq_true_iff.1 h).2
  omega
theorem cok_rd {a : List Int} (h : cokB a = true) {i : Int} (h0 : 0 ≤ i) (h1 : i < a.length) : 0 ≤ rdOf (0 : Int) a i ∧ rdOf (0 : Int) a i ≤ 281474976710655 := by
  unfold cokB at h
  have := List.all_eq_true.1 (Bool.and_eq_true_iff.1 h).1 _ (rdOf_mem (d := (0 : Int)) h0 h1)
  unfold wd inr at this
  exact of_decide_eq_true this
theorem f84 {n : Nat} {a : List Int} (ha : a.length ≤ 1000) : F84 n a = some (a, ()) := by
  unfold F84
  rw [if_pos (decide_eq_true (by simp only [List.length_nil]; omega))]
  rfl
theorem f89 {n : Nat} {i : Int} (h0 : 0 ≤ i) (h1 : i ≤ 3) : F89 n i = some (3 + i, ()) := by
  unfold F89
  have e : inr i 0 3 = true := by unfold inr; exact decide_eq_true ⟨h0, h1⟩
  rw [f26, e]
  simp only [Option.bind_some]
  rw [w64 (by omega) (by omega)]
  rfl
theorem xor32 {x b : Int} (h0 : 0 ≤ x) (h1 : x < 4294967296) (h2 : 0 ≤ b) (h3 : b < 256) : 0 ≤ xorI .i64 x b ∧ xorI .i64 x b < 4294967296 := by
  obtain ⟨X, rfl⟩ := Int.eq_ofNat_of_zero_le h0
  obtain ⟨B, rfl⟩ := Int.eq_ofNat_of_zero_le h2
  unfold xorI
  have hX : (BitVec.ofInt IntKind.i64.bits (X : Int)).toNat = X := by
    rw [BitVec.toNat_ofInt]
    show ((X : Int) % (2 ^ 64 : Nat)).toNat = X
    omega
  have hB : (BitVec.ofInt IntKind.i64.bits (B : Int)).toNat = B := by
    rw [BitVec.toNat_ofInt]
    show ((B : Int) % (2 ^ 64 : Nat)).toNat = B
    omega
  have hlt : (BitVec.ofInt IntKind.i64.bits (X : Int) ^^^ BitVec.ofInt IntKind.i64.bits (B : Int)).toNat < 2 ^ 32 := by
    rw [BitVec.toNat_xor, hX, hB]
    exact Nat.xor_lt_two_pow (by omega) (by omega)
  generalize (BitVec.ofInt IntKind.i64.bits (X : Int) ^^^ BitVec.ofInt IntKind.i64.bits (B : Int)).toNat = Z at hlt
  rw [IntKind.wrap_i64]
  omega
theorem t132_0 {n : Nat} {s : ByteArray} (hs : s.size ≤ 1048576) : ∀ (k i : Nat) (x : Int), i ≤ s.size → s.size - i < k → 0 ≤ x → x < 4294967296 → ok (lp132_0 n k s x (i : Int)) fun r => 0 ≤ r.1 ∧ r.1 < 4294967296
  | 0, i, x, h, hk, a, b => by omega
  | k + 1, i, x, h, hk, a, b => by
    show ok (st132_0 n (lp132_0 n k) s x _) _
    unfold st132_0
    refine ok.ite (fun h1 => ok.guard (by omega) (ok.guard h1 (ok.guard (by decide) ?_))) (fun h1 => ok.some ⟨a, b⟩)
    have hb := bt_bd s (i : Int)
    rw [w64 (x := bt s (i : Int)) (by omega) (by omega)]
    obtain ⟨z, hz⟩ : ∃ z, z = xorI .i64 x (bt s (i : Int)) := ⟨_, rfl⟩
    have hx := xor32 a b hb.1 hb.2
    rw [← hz] at hx ⊢
    clear hz
    rw [w64 (x := z * 16777619) (by omega) (by omega)]
    have ht := tmod_bd (x := z * 16777619) (n := 4294967296) (by omega) (by decide)
    obtain ⟨y, hy⟩ : ∃ y, y = (z * 16777619).tmod 4294967296 := ⟨_, rfl⟩
    rw [← hy] at ht ⊢
    clear hy
    have e : wrap64 ((i : Int) + 1) = ((i + 1 : Nat) : Int) := by rw [w64 (by omega) (by omega)]; rfl
    rw [e]
    exact t132_0 hs k (i + 1) y (by omega) (by omega) ht.1 ht.2
theorem t122 {n : Nat} (hn : 2000000 ≤ n) {s : ByteArray} (hs : s.size ≤ 1048576) (hk : kob n s = true) {i : Int} (h0 : 0 ≤ i) (h1 : i ≤ 3) : ok (F122 n s i) fun r => 0 ≤ r.1 ∧ r.1 < 4 := by
  obtain ⟨⟨b, u⟩, h, _⟩ := t46g (n := n) hs hn
  have hb : b = true := by unfold kob at hk; rw [h] at hk; exact hk
  subst hb
  have e : inr i 0 3 = true := by unfold inr; exact decide_eq_true ⟨h0, h1⟩
  unfold F122
  rw [h, f26, e]
  simp only [Option.bind_some]
  refine ok.iteb (fun h => by cases h) (fun _ => ok.iteb (fun h => by cases h) (fun _ => ?_))
  have h151 : ok (F132 n s) fun r => 0 ≤ r.1 ∧ r.1 < 4294967296 := t132_0 hs n 0 2166136261 (by omega) (by omega) (by decide) (by decide)
  refine h151.bind fun r3 q3 => ok.guard (by decide) (ok.some ?_)
  rw [w64 (x := r3.1 + i) (by omega) (by omega)]
  exact tmod_bd (by omega) (by decide)
theorem t35 {n : Nat} {x : Int} : ok (F35 n x) fun _ => True := by
  unfold F35
  rw [f26]
  simp only [Option.bind_some]
  refine ok.iteb (fun _ => ok.some trivial) (fun h => ?_)
  have h : inr x 1 3 = true := by simpa using h
  unfold inr at h
  have h := of_decide_eq_true h
  rw [w64 (by omega) (by omega)]
  exact ok.guard (by omega) (ok.guard (by simp only [List.length_cons, List.length_nil]; omega) (ok.some trivial))
def p256 : Nat → Int
  | 0 => 1
  | d + 1 => p256 d * 256
theorem strOf_size (l : List Int) : (strOf l).size = l.length := by
  show Array.size (List.toArray _) = _
  rw [List.size_toArray, List.length_map]
theorem t106_0 {n : Nat} (hn : 2000000 ≤ n) : ∀ (d k : Nat) (i : Int) (l : List Int), i < p256 d → d < k → l.length + d ≤ 1000 → i ≤ 4294967296 → ok (lp106_0 n k i l) fun r => r.1.size ≤ 4
  | d, 0, i, l, h, hk, hl, hi => by omega
  | d, k + 1, i, l, h, hk, hl, hi => by
    show ok (st106_0 n (lp106_0 n k) i l) _
    unfold st106_0
    refine ok.ite (fun h1 => ok.guard (by decide) (ok.guard (by simp only [List.length_cons, List.length_nil]; omega) (ok.guard (by decide) ?_))) (fun h1 => ?_)
    · cases d with
      | zero =>
        have h : i < 1 := h
        omega
      | succ d =>
        have h : i < p256 d * 256 := h
        have e : wrap64 (i.tdiv 256) = i / 256 := by rw [Int.tdiv_eq_ediv_of_nonneg (by omega), w64 (by omega) (by omega)]
        rw [e]
        exact t106_0 hn d k _ _ (by omega) (by omega) (by simp only [List.length_append, List.length_cons, List.length_nil]; omega) (by omega)
    · have hsz : (strOf l).size ≤ 1048576 := by rw [strOf_size]; omega
      have h2 : ok (F34 n (strOf l)) fun r => r.1 = true → (∀ j, 0 ≤ j → j < (strOf l).size → kc (bt (strOf l) (j : Int)) = true) ∧ 1 ≤ (strOf l).size ∧ (strOf l).size ≤ 4 := t46k (n := n) hsz n 0 (by omega) (by omega)
      refine h2.bind fun r2 q2 => ok.iteb (fun _ => ok.some (by show 0 ≤ 4; omega)) (fun h3 => ok.some ?_)
      exact (q2 (by simpa using h3)).2.2
theorem t88 {n : Nat} (hn : 2000000 ≤ n) {x : Int} : ok (F88 n x) fun r => r.1.size ≤ 4 := by
  have h0 : (⟨#[]⟩ : ByteArray).size ≤ 4 := by show 0 ≤ 4; omega
  unfold F88
  rw [f26]
  simp only [Option.bind_some]
  refine ok.iteb (fun _ => ok.some h0) (fun h => ok.guard (by decide) ?_)
  have h152 : ∀ y : Int, ok (F106 n y) fun r => r.1.size ≤ 4 := fun y => by
    unfold F106 st106
    rw [f26]
    simp only [Option.bind_some]
    refine ok.iteb (fun _ => ok.some h0) (fun h => ?_)
    have h : inr y 1 4294967295 = true := by simpa using h
    unfold inr at h
    have h := of_decide_eq_true h
    exact t106_0 hn 4 n y [] (Int.lt_of_le_of_lt h.2 (by decide)) (by omega) (by simp) (by omega)
  exact (h152 _).bind fun r2 q2 => ok.iteb (fun _ => ok.some h0) (fun _ => ok.guard (by decide) (t35.bind fun r3 _ => ok.iteb (fun _ => ok.some h0) (fun _ => ok.guard (by decide) (ok.some q2))))
theorem t121_0 {n : Nat} {s : ByteArray} (hs : s.size ≤ 1048576) : ∀ (k i : Nat) (x : Int), i ≤ s.size → s.size - i < k → ok (lp121_0 n k s x (i : Int)) fun _ => True
  | 0, i, x, h, hk => by omega
  | k + 1, i, x, h, hk => by
    show ok (st121_0 n (lp121_0 n k) s x _) _
    unfold st121_0
    refine ok.ite (fun h1 => ok.guard (by omega) (ok.guard h1 ?_)) (fun h1 => ok.some trivial)
    have e : wrap64 ((i : Int) + 1) = ((i + 1 : Nat) : Int) := by rw [w64 (by omega) (by omega)]; rfl
    rw [e]
    exact t121_0 hs k (i + 1) _ (by omega) (by omega)
theorem t100 {n : Nat} (hn : 2000000 ≤ n) {s : ByteArray} (hs : s.size ≤ 1048576) {x : Int} : ok (F100 n s x) fun r => r.1 ≠ 0 → kob n s = true := by
  obtain ⟨⟨b, u⟩, h, _⟩ := t46g (n := n) hs hn
  have hb : kob n s = b := by unfold kob; rw [h]; rfl
  unfold F100
  rw [h, hb]
  simp only [Option.bind_some]
  refine ok.iteb (fun _ => ok.some fun h => absurd rfl h) (fun h2 => ?_)
  have h2 : b = true := by simpa using h2
  refine t35.bind fun r2 _ => ok.iteb (fun _ => ok.some fun h => absurd rfl h) (fun _ => ?_)
  have h153 : ok (F121 n s) fun _ => True := by
    unfold F121 st121
    rw [h]
    simp only [Option.bind_some]
    exact ok.iteb (fun _ => ok.some trivial) (fun _ => t121_0 hs n 0 _ (by omega) (by omega))
  exact h153.bind fun r3 _ => ok.some fun _ => h2
def slot (x : Int) : Prop := x = -1 ∨ (0 ≤ x ∧ x < 4)
theorem t101_0 {n : Nat} (hn : 2000000 ≤ n) {a : List Int} (ha : a.length = 71) {s : ByteArray} (hs : s.size ≤ 1048576) (hk : kob n s = true) : ∀ (k i : Nat), i ≤ 4 → 4 - i < k → ok (lp101_0 n k a s (i : Int)) fun r => slot r.1 ∧ slot r.2.2.1
  | 0, i, h, hk => by omega
  | k + 1, i, h, hk' => by
    show ok (st101_0 n (lp101_0 n k) a s _) _
    unfold st101_0
    refine ok.ite (fun h1 => ?_) (fun h1 => ok.some ⟨.inl rfl, .inl rfl⟩)
    refine (t122 hn hs hk (i := (i : Int)) (by omega) (by omega)).bind fun r1 q1 => ?_
    rw [f89 q1.1 (by omega)]
    simp only [Option.bind_some]
    refine ok.guard (by omega) (ok.guard (by omega) (ok.ite (fun _ => ok.some ⟨.inl rfl, .inr q1⟩) (fun _ => (t88 hn).bind fun r3 q3 => ok.iteb (fun _ => ok.some ⟨.inr q1, .inl rfl⟩) (fun _ => ?_))))
    have e : wrap64 ((i : Int) + 1) = ((i + 1 : Nat) : Int) := by rw [w64 (by omega) (by omega)]; rfl
    rw [e]
    exact t101_0 hn ha hs hk k (i + 1) (by omega) (by omega)
theorem t101 {n : Nat} (hn : 2000000 ≤ n) {a : List Int} (ha : a.length = 71) {s : ByteArray} (hs : s.size ≤ 1048576) (hk : kob n s = true) : ok (F101 n a s) fun r => slot r.1 ∧ slot r.2.2.1 := t101_0 hn ha hs hk n 0 (by omega) (by omega)
theorem t83 {n : Nat} (hn : 2000000 ≤ n) {a : List Int} (ha : a.length = 71) {s : ByteArray} (hs : s.size ≤ 1048576) {x : Int} : ok (F83 n a s x) fun r => r.1.length = 71 := by
  unfold F83
  rw [f84 (by omega)]
  simp only [Option.bind_some]
  refine (t8 hn (a := a) (by omega)).bind fun r2 _ => ok.iteb (fun _ => ok.some ha) (fun _ => (t100 hn hs).bind fun r3 q3 => ok.ite (fun _ => ok.some ha) (fun h3 => ?_))
  refine (t101 hn ha hs (q3 h3)).bind fun r4 q4 => ?_
  have hj : ∀ b : Bool, ok (j83_0 n s x r4.1 r4.2.2.1 b a) fun r => r.1.length = 71 := fun b => by
    unfold j83_0
    refine ok.iteb (fun _ => ok.some ha) (fun _ => ok.ite (fun _ => ok.some ha) (fun h => ?_))
    have h4 : 0 ≤ r4.2.2.1 ∧ r4.2.2.1 < 4 := q4.2.elim (fun e => by omega) id
    rw [f89 h4.1 (by omega)]
    simp only [Option.bind_some]
    exact (t100 hn hs).bind fun r6 _ => ok.guard (by omega) (ok.guard (by omega) (ok.some (by show (a.set _ _).length = 71; rw [List.length_set]; exact ha)))
  exact ok.ite (fun _ => ok.ite (fun _ => ok.some ha) (fun _ => hj _)) (fun _ => hj _)
theorem t71_0 {n : Nat} (hn : 2000000 ≤ n) : ∀ (k : Nat) (i0 : Int) (a l : List Int) (i h : Int), 0 ≤ i0 → i0 < k → i0 ≤ 1000 → a.length = 71 → Cur l i → ok (lp71_0 n k i0 a l i h) fun r => r.1.length = 71 ∧ Cur r.2.1 r.2.2.1
  | 0, i0, a, l, i, h, h0, hk, hb, ha, c => by omega
  | k + 1, i0, a, l, i, h, h0, hk, hb, ha, c => by
    show ok (st71_0 n (lp71_0 n k) i0 a l i h) _
    unfold st71_0
    refine ok.ite (fun h1 => (t77 c).bind fun r2 q2 => (t43 q2.2).bind fun r3 q3 => (t83 hn ha (by omega)).bind fun r4 q4 => ?_) (fun h1 => ok.some ⟨ha, c⟩)
    rw [w64 (x := i0 - 1) (by omega) (by omega)]
    exact t71_0 hn k _ _ _ _ _ (by omega) (by omega) (by omega) q4 q3.2.2.2
theorem rep71 : (List.replicate (71 : Int).toNat (0 : Int)).length = 71 := by simp
theorem t71 {n : Nat} (hn : 2000000 ≤ n) {m : Int} (hm0 : 0 ≤ m) (hm : m ≤ 100) {l : List Int} {i h : Int} (c : Cur l i) : ok (F71 n m l i h) fun r => r.1.length = 71 ∧ Cur r.2.1 r.2.2.1 := by
  unfold F71 st71
  refine ok.guard (by decide) (ok.guard (by decide) (ok.guard (by decide) ((t43 c).bind fun r1 q1 => ?_)))
  rw [w64 (x := m + 1) (by omega) (by omega)] at q1
  have := q1.2.1 (by omega)
  exact t71_0 hn n _ _ _ _ _ q1.1 (by omega) (by omega) rep71 q1.2.2.2
theorem f102 {n : Nat} {b : Int} (h0 : 0 ≤ b) (h1 : b ≤ 1) : F102 n b = some (1 + b, ()) := by
  unfold F102
  have e : inr b 0 1 = true := by unfold inr; exact decide_eq_true ⟨h0, h1⟩
  rw [f26, e]
  simp only [Option.bind_some]
  rw [w64 (by omega) (by omega)]
  rfl
theorem f123 {n : Nat} {b s : Int} (h0 : 0 ≤ b) (h1 : b ≤ 1) (h2 : 0 ≤ s) (h3 : s ≤ 3) : F123 n b s = some (7 + b * 32 + s * 8, ()) := by
  unfold F123
  have e : inr b 0 1 = true := by unfold inr; exact decide_eq_true ⟨h0, h1⟩
  have e2 : inr s 0 3 = true := by unfold inr; exact decide_eq_true ⟨h2, h3⟩
  rw [f26, f26, e, e2]
  simp only [Option.bind_some]
  rw [w64 (x := b * 32) (by omega) (by omega), w64 (x := s * 8) (by omega) (by omega), w64 (x := 7 + b * 32) (by omega) (by omega), w64 (by omega) (by omega)]
  rfl
theorem t125 {n : Nat} {a : List Int} (ha : a.length = 71) {b s : Int} (h0 : 0 ≤ b) (h1 : b ≤ 1) (h2 : 0 ≤ s) (h3 : s ≤ 3) : ok (F125 n a b s) fun r => r.1.length = 8 := by
  unfold F125
  rw [f123 h0 h1 h2 h3]
  simp only [Option.bind_some]
  rw [w64 (x := 7 + b * 32 + s * 8 + 8) (by omega) (by omega)]
  refine ok.guard (by omega) (ok.guard (by omega) (ok.guard (by omega) (ok.some ?_)))
  show (cutL a _ _).length = 8
  unfold cutL
  rw [List.length_drop, List.length_take]
  omega

theorem t113s {n : Nat} (hn : 100 ≤ n) {s : ByteArray} {a b : Int} {t : Bool} {d e f g u v x : Int} (hs : s.size ≤ 4) : ok (F133 n s a b t d e f g u v x) fun r => r.1.size ≤ 4 := (t133 (by omega) hn).mono fun r q => by rw [q]; exact hs
theorem f87 {n : Nat} {x : Int} : ok (F87 n x) fun _ => True := by
  unfold F87
  exact ok.guard (by decide) (ok.guard (by decide) (ok.some trivial))
theorem f109 {n : Nat} {x : Int} : ok (F109 n x) fun _ => True := by
  unfold F109
  rw [f26]
  simp only [Option.bind_some]
  exact ok.iteb (fun _ => ok.some trivial) (fun _ => ok.guard (by decide) (ok.guard (by decide) (ok.some trivial)))
theorem f111 {n : Nat} {x y : Int} : ok (F111 n x y) fun _ => True := by
  unfold F111
  rw [f26, f26]
  simp only [Option.bind_some]
  exact ok.iteb (fun _ => ok.some trivial) (fun _ => ok.iteb (fun _ => ok.some trivial) (fun _ => ok.some trivial))
theorem t124_0 {n : Nat} {w : List Int} (hw : w.length = 8) {s2 : ByteArray} {i3 i4 : Int} {b5 : Bool} {i6 i7 i8 i9 i10 i11 : Int} {s12 : ByteArray} {i13 : Int} {b15 : Bool} {i16 i17 i18 i19 i20 i21 : Int} : ∀ (k i : Nat) (i14 : Int), i ≤ 2 → 2 - i < k → ok (lp124_0 n k w (i : Int) s2 i3 i4 b5 i6 i7 i8 i9 i10 i11 s12 i13 i14 b15 i16 i17 i18 i19 i20 i21) fun _ => True
  | 0, i, i14, h, hk => by omega
  | k + 1, i, i14, h, hk => by
    show ok (st124_0 n (lp124_0 n k) w _ s2 i3 i4 b5 i6 i7 i8 i9 i10 i11 s12 i13 i14 b15 i16 i17 i18 i19 i20 i21) _
    unfold st124_0
    refine ok.ite (fun h1 => ok.guard (by omega) (ok.guard (by omega) (f87.bind fun r2 _ => f87.bind fun r3 _ => ?_))) (fun _ => ok.some trivial)
    have e : wrap64 ((i : Int) + 1) = ((i + 1 : Nat) : Int) := by rw [w64 (by omega) (by omega)]; rfl
    rw [e]
    exact t124_0 hw k (i + 1) _ (by omega) (by omega)
theorem t124_1 {n : Nat} (hn : 100 ≤ n) {w : List Int} (hw : w.length = 8) {s2 : ByteArray} {i3 i4 : Int} {b5 : Bool} {i6 i7 i8 i9 i10 i11 : Int} : ∀ (k i : Nat) (s12 : ByteArray) (i13 i14 : Int) (b15 : Bool) (i16 i17 i18 i19 i20 i21 : Int), i ≤ 3 → 3 - i < k → s12.size ≤ 4 → ok (lp124_1 n k w (i : Int) s2 i3 i4 b5 i6 i7 i8 i9 i10 i11 s12 i13 i14 b15 i16 i17 i18 i19 i20 i21) fun _ => True
  | 0, i, s12, i13, i14, b15, i16, i17, i18, i19, i20, i21, h, hk, hs => by omega
  | k + 1, i, s12, i13, i14, b15, i16, i17, i18, i19, i20, i21, h, hk, hs => by
    show ok (st124_1 n (lp124_1 n k) w _ s2 i3 i4 b5 i6 i7 i8 i9 i10 i11 s12 i13 i14 b15 i16 i17 i18 i19 i20 i21) _
    unfold st124_1
    have hj : ok (j124_0 n w s2 i3 i4 b5 i6 i7 i8 i9 i10 i11 s12 i13 i14 b15 i16 i17 i18 i19 i20 i21) fun _ => True := by
      unfold j124_0
      exact ok.ite (fun _ => ok.guard (by decide) (ok.guard (by omega) (ok.ite (fun _ => ok.guard (by decide) (ok.guard (by omega) (ok.some trivial))) (fun _ => ok.some trivial)))) (fun _ => ok.some trivial)
    refine ok.ite (fun h1 => ok.guard (by decide) (ok.guard (by omega) (ok.ite (fun _ => ?_) (fun _ => hj)))) (fun _ => hj)
    rw [w64 (x := 5 + (i : Int)) (by omega) (by omega)]
    refine ok.guard (by omega) (ok.guard (by omega) ((t113s hn hs).bind fun r5 q5 => ?_))
    have e : wrap64 ((i : Int) + 1) = ((i + 1 : Nat) : Int) := by rw [w64 (by omega) (by omega)]; rfl
    rw [e]
    exact t124_1 hn hw k (i + 1) _ _ _ _ _ _ _ _ _ _ (by omega) (by omega) q5
theorem t124 {n : Nat} (hn : 2000000 ≤ n) {x : Int} {w : List Int} (hw : w.length = 8) : ok (F124 n x w) fun _ => True := by
  unfold F124 st124
  refine (t88 hn).bind fun r1 q1 => ok.ite (fun _ => ok.some trivial) (fun _ => ok.ite (fun _ => ok.some trivial) (fun _ => ok.ite (fun _ => ?_) (fun _ => ok.ite (fun _ => ok.guard (by decide) (ok.guard (by omega) (f109.bind fun r4 _ => ok.some trivial))) (fun _ => ?_))))
  · exact t124_0 hw n 0 _ (by omega) (by omega)
  · exact t124_1 (by omega) hw n 0 _ _ _ _ _ _ _ _ _ _ (by omega) (by omega) q1
theorem t103 {n : Nat} (hn : 2000000 ≤ n) {a : List Int} (ha : a.length = 71) {b s : Int} (h0 : 0 ≤ b) (h1 : b ≤ 1) (h2 : 0 ≤ s) (h3 : s ≤ 3) : ok (F103 n a b s) fun _ => True := by
  unfold F103
  refine (t8 hn (a := a) (by omega)).bind fun r1 _ => ok.iteb (fun _ => ok.some trivial) (fun _ => ?_)
  rw [f123 h0 h1 h2 h3, f89 h2 h3]
  simp only [Option.bind_some]
  exact ok.ite (fun _ => ok.some trivial) (fun _ => ok.guard (by omega) (ok.guard (by omega) ((t125 ha h0 h1 h2 h3).bind fun r4 q4 => (t124 hn q4).bind fun r5 _ => ok.some trivial)))
theorem t105_0 {n : Nat} {l : List Rw} (hl : l.length ≤ 1000) {s3 : ByteArray} {i4 i5 : Int} {b6 : Bool} {i7 i8 i9 i10 i11 i12 : Int} : ∀ (k i : Nat) (b : Bool) (out : List Rw), i ≤ l.length → l.length - i < k → out.length ≤ i + (if b = true then 1 else 0) → ok (lp105_0 n k b (i : Int) l s3 i4 i5 b6 i7 i8 i9 i10 i11 i12 out) fun r => r.1.length ≤ l.length + 1
  | 0, i, b, out, h, hk, ho => by omega
  | k + 1, i, b, out, h, hk, ho => by
    show ok (st105_0 n (lp105_0 n k) b _ l s3 i4 i5 b6 i7 i8 i9 i10 i11 i12 out) _
    have hb1 : (if b = true then 1 else 0) ≤ 1 := by split <;> omega
    unfold st105_0
    refine ok.ite (fun h1 => ok.guard (by omega) (ok.guard h1 ?_)) (fun h1 => ok.iteb (fun hb => ok.guard (by simp only [List.length_cons, List.length_nil]; omega) (ok.some ?_)) (fun hb => ok.some ?_))
    · have hi : i < l.length := by omega
      have e : wrap64 ((i : Int) + 1) = ((i + 1 : Nat) : Int) := w1 hi (by omega)
      have hj : ok (j105_0 n (lp105_0 n k) b (i : Int) l s3 i4 i5 b6 i7 i8 i9 i10 i11 i12 out) fun r => r.1.length ≤ l.length + 1 := by
        unfold j105_0
        refine ok.guard (by omega) (ok.guard h1 (ok.guard (by simp only [List.length_cons, List.length_nil]; omega) ?_))
        rw [e]
        exact t105_0 hl k (i + 1) b _ (by omega) (by omega) (by simp only [List.length_append, List.length_cons, List.length_nil]; omega)
      refine ok.ite (fun _ => ok.some (by show l.length ≤ _; omega)) (fun _ => ok.iteb (fun hb => ok.guard (by omega) (ok.guard h1 (ok.iteb (fun _ => ?_) (fun _ => hj)))) (fun _ => hj))
      refine ok.guard (by simp only [List.length_cons, List.length_nil]; omega) (ok.guard (by omega) (ok.guard h1 (ok.guard (by simp only [List.length_append, List.length_cons, List.length_nil]; omega) ?_)))
      rw [e]
      have hb : b = false := by simpa using hb
      subst hb
      exact t105_0 hl k (i + 1) true _ (by omega) (by omega) (by simp only [List.length_append, List.length_cons, List.length_nil] at ho ⊢; simp at ho ⊢; omega)
    · have hb : b = false := by simpa using hb
      subst hb
      show (out ++ _ : List Rw).length ≤ _
      simp only [List.length_append, List.length_cons, List.length_nil]
      simp at ho
      omega
    · show out.length ≤ _
      omega
theorem t105 {n : Nat} (hn : 3000 ≤ n) {l : List Rw} (hl : l.length ≤ 1000) {s3 : ByteArray} {i4 i5 : Int} {b6 : Bool} {i7 i8 i9 i10 i11 i12 : Int} : ok (F105 n l s3 i4 i5 b6 i7 i8 i9 i10 i11 i12) fun r => r.1.length ≤ l.length + 1 := by
  unfold F105 st105
  exact t105_0 hl n 0 false [] (by omega) (by omega) (by simp)
theorem t85_0 {n : Nat} (hn : 2000000 ≤ n) {a : List Int} (ha : a.length = 71) {b : Int} (h0 : 0 ≤ b) (h1 : b ≤ 1) : ∀ (k i : Nat) (l : List Rw), i ≤ 4 → 4 - i < k → l.length ≤ i → ok (lp85_0 n k a b (i : Int) l) fun _ => True
  | 0, i, l, h, hk, hl => by omega
  | k + 1, i, l, h, hk, hl => by
    show ok (st85_0 n (lp85_0 n k) a b _ l) _
    unfold st85_0
    refine ok.ite (fun hi => ?_) (fun _ => ok.some trivial)
    have e : wrap64 ((i : Int) + 1) = ((i + 1 : Nat) : Int) := by rw [w64 (by omega) (by omega)]; rfl
    rw [e]
    have ih := fun l' hl' => t85_0 hn ha h0 h1 k (i + 1) l' (by omega) (by omega) hl'
    refine (t103 hn ha h0 h1 (s := (i : Int)) (by omega) (by omega)).bind fun r3 _ => ok.ite (fun _ => t104.bind fun r4 _ => ok.iteb (fun _ => (t105 (by omega) (l := l) (by omega)).bind fun r5 q5 => ih _ (by omega)) (fun _ => ih _ (by omega))) (fun _ => ih _ (by omega))
theorem t85 {n : Nat} (hn : 2000000 ≤ n) {a : List Int} (ha : a.length = 71) {b : Int} (h0 : 0 ≤ b) (h1 : b ≤ 1) : ok (F85 n a b) fun _ => True := by
  unfold F85 st85
  refine (t8 hn (a := a) (by omega)).bind fun r1 _ => ok.iteb (fun _ => ok.some trivial) (fun _ => ?_)
  rw [f102 h0 h1]
  simp only [Option.bind_some]
  exact ok.ite (fun _ => ok.some trivial) (fun _ => t85_0 hn ha h0 h1 n 0 [] (by omega) (by omega) (by simp))
theorem t86_0 {n : Nat} {b : Int} (h0 : 0 ≤ b) (h1 : b ≤ 1) : ∀ (k i : Nat) (a : List Int), i ≤ 32 → 32 - i < k → a.length = 71 → ok (lp86_0 n k b (i : Int) a) fun r => r.1.length = 71
  | 0, i, a, h, hk, ha => by omega
  | k + 1, i, a, h, hk, ha => by
    show ok (st86_0 n (lp86_0 n k) b _ a) _
    unfold st86_0
    refine ok.ite (fun hi => ?_) (fun _ => ok.some ha)
    have e : wrap64 ((i : Int) + 1) = ((i + 1 : Nat) : Int) := by rw [w64 (by omega) (by omega)]; rfl
    rw [e, w64 (x := b * 32) (by omega) (by omega), w64 (x := 7 + b * 32) (by omega) (by omega), w64 (x := 7 + b * 32 + (i : Int)) (by omega) (by omega)]
    exact ok.guard (by omega) (ok.guard (by omega) (t86_0 h0 h1 k (i + 1) _ (by omega) (by omega) (by rw [List.length_set]; exact ha)))
theorem t86 {n : Nat} (hn : 2000000 ≤ n) {a : List Int} (ha : a.length = 71) {b : Int} (h0 : 0 ≤ b) (h1 : b ≤ 1) : ok (F86 n a b) fun r => r.1.length = 71 := by
  unfold F86 st86
  rw [f84 (by omega), f102 h0 h1]
  simp only [Option.bind_some]
  exact (t8 hn (a := a) (by omega)).bind fun r1 _ => ok.iteb (fun _ => ok.some ha) (fun _ => ok.ite (fun _ => ok.some ha) (fun _ => t86_0 h0 h1 n 0 a (by omega) (by omega) ha))
theorem half {x : Int} (h : 0 ≤ x) : 0 ≤ x.tmod 2 ∧ x.tmod 2 ≤ 1 := by
  have := tmod_bd (x := x) (n := 2) h (by decide)
  omega
theorem t72 {n : Nat} (hn : 2000000 ≤ n) {a : List Int} (ha : a.length = 71) : ok (F72 n a) fun r => r.1.length = 71 := by
  unfold F72
  rw [f84 (by omega)]
  simp only [Option.bind_some]
  refine (t8 hn (a := a) (by omega)).bind fun r2 q2 => ?_
  subst q2
  refine ok.iteb (fun _ => ok.some ha) (fun h => ?_)
  have hc : cokB a = true := by simpa using h
  have h2 := half (cok_rd hc (i := 0) (by decide) (by omega)).1
  refine ok.guard (by decide) (ok.guard (by omega) (ok.guard (by decide) ((t85 hn ha h2.1 h2.2).bind fun r3 _ => (t86 hn ha h2.1 h2.2).bind fun r4 q4 => ok.guard (by decide) (ok.guard (by omega) (f87.bind fun r5 _ => ok.guard (by decide) (ok.guard (by omega) (ok.some ?_)))))))
  show (r4.1.set _ _).length = 71
  rw [List.length_set]; exact q4
theorem t73_0 {n : Nat} (hn : 2000000 ≤ n) {a : List Int} (ha : a.length ≤ 1000) : ∀ (k i : Nat) (l : List ByteArray), i ≤ 4 → 4 - i < k → l.length ≤ i → (∀ x ∈ l, x.size ≤ 4) → ok (lp73_0 n k a (i : Int) l) fun r => r.1.length ≤ 4 ∧ ∀ x ∈ r.1, x.size ≤ 4
  | 0, i, l, h, hk, hl, hs => by omega
  | k + 1, i, l, h, hk, hl, hs => by
    show ok (st73_0 n (lp73_0 n k) a _ l) _
    unfold st73_0
    have hend : l.length ≤ 4 ∧ ∀ x ∈ l, x.size ≤ 4 := ⟨by omega, hs⟩
    refine ok.ite (fun hi => (t8 hn ha).bind fun r1 q1 => ok.iteb (fun hc => ?_) (fun _ => ok.some hend)) (fun _ => ok.some hend)
    subst q1
    have hL := cok_len hc
    rw [f89 (i := (i : Int)) (by omega) (by omega)]
    simp only [Option.bind_some]
    have e : wrap64 ((i : Int) + 1) = ((i + 1 : Nat) : Int) := by rw [w64 (by omega) (by omega)]; rfl
    rw [e]
    refine ok.guard (by omega) (ok.guard (by omega) ((t88 hn).bind fun r3 q3 => ok.ite (fun _ => ok.guard (by simp only [List.length_cons, List.length_nil]; omega) ?_) (fun _ => ?_)))
    · refine t73_0 hn ha k (i + 1) _ (by omega) (by omega) (by simp only [List.length_append, List.length_cons, List.length_nil]; omega) fun x hx => ?_
      rcases List.mem_append.1 hx with hx | hx
      · exact hs x hx
      · rw [List.mem_singleton.1 hx]; exact q3
    · exact t73_0 hn ha k (i + 1) _ (by omega) (by omega) (by omega) hs
theorem t73 {n : Nat} (hn : 2000000 ≤ n) {a : List Int} (ha : a.length ≤ 1000) : ok (F73 n a) fun r => r.1.length ≤ 4 ∧ ∀ x ∈ r.1, x.size ≤ 4 := t73_0 hn ha n 0 [] (by omega) (by omega) (by simp) (fun x hx => by cases hx)
theorem t90 {n : Nat} (hn : 2000000 ≤ n) {a : List Int} (ha : a.length = 71) {s : ByteArray} (hs : s.size ≤ 1048576) : ok (F90 n a s) fun r => slot r.1 := by
  obtain ⟨⟨b, u⟩, h, _⟩ := t46g (n := n) hs hn
  have hb : kob n s = b := by unfold kob; rw [h]; rfl
  unfold F90
  rw [h]
  simp only [Option.bind_some]
  refine (t8 hn (a := a) (by omega)).bind fun r1 _ => ok.iteb (fun _ => ok.some (.inl rfl)) (fun _ => ok.iteb (fun _ => ok.some (.inl rfl)) (fun h2 => ?_))
  have h2 : b = true := by simpa using h2
  exact (t101 hn ha hs (hb.trans h2)).bind fun r3 q3 => ok.some q3.1
theorem f126 {n : Nat} {b s x : Int} (h0 : 0 ≤ b) (h1 : b ≤ 1) (h2 : 0 ≤ s) (h3 : s ≤ 3) (h4 : 0 ≤ x) (h5 : x ≤ 7) : F126 n b s x = some (7 + b * 32 + s * 8 + x, ()) := by
  unfold F126
  rw [f123 h0 h1 h2 h3]
  simp only [Option.bind_some]
  rw [if_neg (by rw [decide_eq_false (by omega)]; decide), w64 (by omega) (by omega)]
theorem t91 {n : Nat} {a : List Int} (hc : cokB a = true) {b s k w v : Int} (h0 : 0 ≤ b) (h1 : b ≤ 1) (h2 : 0 ≤ s) (h3 : s ≤ 3) (h4 : 0 ≤ w) : ok (F91 n a b s k w v) fun r => r.1.length = 71 := by
  have ha := cok_len hc
  have hw := half h4
  have e1 : inr (w.tmod 2) 0 1 = true := by unfold inr; exact decide_eq_true ⟨hw.1, hw.2⟩
  unfold F91 F107 F108 F112 F110
  rw [f26, e1, f126 h0 h1 h2 h3 hw.1 (by omega), f126 h0 h1 h2 h3 (x := 2) (by decide) (by decide), f126 h0 h1 h2 h3 (x := 4) (by decide) (by decide), f126 h0 h1 h2 h3 (x := 3) (by decide) (by decide)]
  simp only [Option.bind_some]
  refine ok.ite (fun _ => ok.guard (by decide) ?_) (fun _ => ok.ite (fun _ => ?_) (fun _ => ?_))
  · rw [if_neg (by decide)]
    simp only [Option.bind_some]
    refine ok.guard (by omega) (ok.guard (by omega) (f87.bind fun r2 _ => ok.guard (by omega) (ok.guard (by omega) (ok.some ?_))))
    show (a.set _ _).length = 71
    rw [List.length_set]; exact ha
  · refine ok.guard (by omega) (ok.guard (by omega) (f87.bind fun r4 _ => ok.guard (by omega) (ok.guard (by omega) ?_)))
    refine ok.guard (by omega) (ok.guard (by rw [List.length_set]; omega) (f109.bind fun r6 _ => ok.guard (by omega) (ok.guard (by rw [List.length_set]; omega) (ok.ite (fun _ => ok.guard (by omega) (ok.guard (by rw [List.length_set]; omega) (f111.bind fun r8 _ => ok.guard (by omega) (ok.guard (by rw [List.length_set]; omega) (ok.some ?_))))) (fun _ => ok.some ?_)))))
    · show ((a.set _ _).set _ _).length = 71
      rw [List.length_set, List.length_set]; exact ha
    · show (a.set _ _).length = 71
      rw [List.length_set]; exact ha
  · obtain ⟨T, hT⟩ : ∃ T, T = 7 + b * 32 + s * 8 + 4 := ⟨_, rfl⟩
    rw [← hT]
    have hr := cok_rd hc (i := T) (by omega) (by omega)
    refine ok.guard (by omega) (ok.guard (by omega) (ok.guard (by omega) (ok.guard (by omega) (f87.bind fun r10 _ => ok.guard (by omega) (ok.guard (by omega) (ok.ite (fun _ => ok.some ?_) (fun hlt => ?_)))))))
    · show (a.set _ _).length = 71
      rw [List.length_set]; exact ha
    · obtain ⟨y, hy⟩ : ∃ y, y = rdOf (0 : Int) a T := ⟨_, rfl⟩
      rw [← hy] at hr hlt ⊢
      have e2 : inr y 0 2 = true := by unfold inr; exact decide_eq_true ⟨hr.1, by omega⟩
      unfold F113
      rw [f26, e2, w64 (x := 5 + y) (by omega) (by omega), f126 h0 h1 h2 h3 (x := 5 + y) (by omega) (by omega)]
      simp only [Option.bind_some]
      rw [if_neg (by decide)]
      simp only [Option.bind_some]
      refine ok.guard (by omega) (ok.guard (by rw [List.length_set]; omega) (ok.some ?_))
      show ((a.set _ _).set _ _).length = 71
      rw [List.length_set, List.length_set]; exact ha
theorem t74 {n : Nat} (hn : 2000000 ≤ n) {a : List Int} (ha : a.length = 71) {w v : Int} {s : ByteArray} (hs : s.size ≤ 1048576) : ok (F74 n a w s v) fun r => r.1.length = 71 := by
  obtain ⟨⟨b, u⟩, h, _⟩ := t46g (n := n) hs hn
  unfold F74
  rw [f84 (by omega), f26, h, f26]
  simp only [Option.bind_some]
  refine (t8 hn (a := a) (by omega)).bind fun r2 q2 => ?_
  subst q2
  refine ok.iteb (fun _ => ok.some ha) (fun hc => ok.iteb (fun _ => ok.some ha) (fun hw => ok.iteb (fun _ => ok.some ha) (fun _ => ok.iteb (fun _ => ok.some ha) (fun _ => (t90 hn ha hs).bind fun r6 q6 => ok.ite (fun _ => ok.some ha) (fun h6 => ?_)))))
  have hc : cokB a = true := by simpa using hc
  have hw : inr w 0 2 = true := by simpa using hw
  unfold inr at hw
  have hw := of_decide_eq_true hw
  have h2 := half (cok_rd hc (i := 0) (by decide) (by omega)).1
  have h7 : 0 ≤ r6.1 ∧ r6.1 < 4 := q6.elim (fun e => by omega) id
  exact ok.guard (by decide) (ok.guard (by omega) (ok.guard (by decide) ((t91 hc h2.1 h2.2 h7.1 (by omega) hw.1).bind fun r7 q7 => ok.iteb (fun _ => ok.some q7) (fun _ => ok.some q7))))
theorem t49_0 {n : Nat} (hn : 2000000 ≤ n) : ∀ (k : Nat) (i0 : Int) (a l : List Int) (i h : Int), 0 ≤ i0 → i0 < k → i0 ≤ 1000 → a.length = 71 → Cur l i → ok (lp49_0 n k i0 a l i h) fun r => r.1.length = 71 ∧ Cur r.2.1 r.2.2.1
  | 0, i0, a, l, i, h, h0, hk, hb, ha, c => by omega
  | k + 1, i0, a, l, i, h, h0, hk, hb, ha, c => by
    show ok (st49_0 n (lp49_0 n k) i0 a l i h) _
    unfold st49_0
    refine ok.ite (fun h1 => (t65 c).bind fun r3 q3 => ?_) (fun h1 => ok.some ⟨ha, c⟩)
    rw [w64 (x := i0 - 1) (by omega) (by omega)]
    have ih := fun a' l' i' h' ha' c' => t49_0 hn k (i0 - 1) a' l' i' h' (by omega) (by omega) (by omega) ha' c'
    have recq : ∀ a' : List Int, a'.length = 71 → ok ((F73 n a').bind fun r5 =>
      if (decide ((r5.1.length : Int) > 0)) = true then
        (F43 n (3 : Int) r3.2.1 r3.2.2.1 r3.2.2.2.1).bind fun r6 =>
        (F43 n (r5.1.length : Int) r6.2.1 r6.2.2.1 r6.2.2.2.1).bind fun r7 =>
        if (decide (0 ≤ r7.1)) = true then
        if (decide (r7.1 < (r5.1.length : Int))) = true then
        (F75 n r7.2.1 r7.2.2.1 r7.2.2.2.1).bind fun r8 =>
        (F74 n a' r6.1 (rdOf (⟨#[]⟩ : ByteArray) r5.1 r7.1) r8.1).bind fun r9 =>
        lp49_0 n k (i0 - 1) r9.1 r8.2.1 r8.2.2.1 r8.2.2.2.1
        else none
        else none
      else
        lp49_0 n k (i0 - 1) a' r3.2.1 r3.2.2.1 r3.2.2.2.1) fun r => r.1.length = 71 ∧ Cur r.2.1 r.2.2.1 := fun a' ha' => by
      refine (t73 hn (a := a') (by omega)).bind fun r5 q5 => ok.ite (fun h5 => (t43 q3).bind fun r6 q6 => (t43 q6.2.2.2).bind fun r7 q7 => ?_) (fun _ => ih _ _ _ _ ha' q3)
      have h7 := q7.2.1 (by omega)
      refine ok.guard q7.1 (ok.guard h7 ((t75 q7.2.2.2).bind fun r8 q8 => ?_))
      have hs := q5.2 _ (rdOf_mem (d := (⟨#[]⟩ : ByteArray)) q7.1 h7)
      exact (t74 hn ha' (by omega)).bind fun r9 q9 => ih _ _ _ _ q9 q8
    exact ok.iteb (fun _ => (t72 hn ha).bind fun r4 q4 => recq _ q4) (fun _ => recq _ ha)
theorem t49 {n : Nat} (hn : 2000000 ≤ n) {l : List Int} {i h : Int} (c : Cur l i) : ok (F49 n l i h) fun r => r.1.length = 71 ∧ Cur r.2.1 r.2.2.1 := by
  unfold F49 st49
  refine (t71 hn (m := 5) (by decide) (by decide) c).bind fun r1 q1 => (t43 q1.2).bind fun r2 q2 => ?_
  have := q2.2.1 (by decide)
  exact t49_0 hn n _ _ _ _ _ q2.1 (by omega) (by omega) q1.1 q2.2.2.2
theorem t51_0 {n : Nat} : ∀ (k : Nat) (i0 : Int) (a l : List Int) (i h : Int), 0 ≤ i0 → i0 < k → i0 ≤ 1000 → a.length = 71 → Cur l i → ok (lp51_0 n k i0 a l i h) fun r => r.1.length ≤ 71
  | 0, i0, a, l, i, h, h0, hk, hb, ha, c => by omega
  | k + 1, i0, a, l, i, h, h0, hk, hb, ha, c => by
    show ok (st51_0 n (lp51_0 n k) i0 a l i h) _
    unfold st51_0
    refine ok.ite (fun h1 => (t43 c).bind fun r2 q2 => (t43 q2.2.2.2).bind fun r3 q3 => (t50 q3.2.2.2 (by simp)).bind fun r4 q4 => ?_) (fun h1 => (t43 c).bind fun r5 q5 => ok.ite (fun _ => ?_) (fun _ => ok.ite (fun _ => (t43 q5.2.2.2).bind fun r6 q6 => (t50 q6.2.2.2 (by decide)).bind fun r7 q7 => ?_) (fun _ => ok.some (by show a.length ≤ 71; omega))))
    · have := q2.2.1 (by omega)
      rw [w64 (x := i0 - 1) (by omega) (by omega)]
      exact ok.guard q2.1 (ok.guard this (t51_0 k _ _ _ _ _ (by omega) (by omega) (by omega) (by rw [List.length_set]; exact ha) q4.2))
    · rw [w64 (x := (a.length : Int) - 1) (by omega) (by omega)]
      refine ok.guard (by decide) (ok.guard (by omega) (ok.guard (by omega) (ok.some ?_)))
      show (cutL a _ _).length ≤ 71
      unfold cutL
      rw [List.length_drop, List.length_take]
      omega
    · have := q6.2.1 (by omega)
      refine ok.guard q6.1 (ok.guard this (ok.some ?_))
      show (a.set _ _).length ≤ 71
      rw [List.length_set]; omega
theorem t51 {n : Nat} (hn : 2000000 ≤ n) {l : List Int} {i h : Int} (c : Cur l i) : ok (F51 n l i h) fun r => r.1.length ≤ 71 := by
  unfold F51 st51
  refine ok.guard (by decide) (ok.guard (by decide) (ok.guard (by decide) ((t43 c).bind fun r1 q1 => ?_)))
  have := q1.2.1 (by decide)
  exact t51_0 n _ _ _ _ _ q1.1 (by omega) (by omega) rep71 q1.2.2.2
theorem t21 {n : Nat} (hn : 2000000 ≤ n) {l : List Int} {i h : Int} (c : Cur l i) : ok (F21 n l i h) fun r => r.1.length ≤ 71 := by
  unfold F21
  refine (t49 hn c).bind fun r1 q1 => (t43 q1.2).bind fun r2 q2 => ok.ite (fun _ => (t43 q2.2.2.2).bind fun r3 q3 => (t50 q3.2.2.2 (by decide)).bind fun r4 q4 => ?_) (fun _ => ok.ite (fun _ => (t51 hn q2.2.2.2).bind fun r5 q5 => ok.some q5) (fun _ => ok.ite (fun _ => (t50 q2.2.2.2 (by decide)).bind fun r6 q6 => ?_) (fun _ => ok.some (by show r1.1.length ≤ 71; omega))))
  · have := q3.2.1 (by omega)
    refine ok.guard q3.1 (ok.guard this (ok.some ?_))
    show (r1.1.set _ _).length ≤ 71
    rw [List.length_set]; omega
  · refine ok.guard (by decide) (ok.guard (by omega) (ok.some ?_))
    show (r1.1.set _ _).length ≤ 71
    rw [List.length_set]; omega
end Go.Eva
end
section
/- Texts parted at a byte. -/
namespace Go.Eva
open Go.RowKit (wrap64)
set_option linter.unusedVariables false
set_option linter.unusedSimpArgs false

/-- The words of a list of bytes, parted at a byte. -/
def spC (c : UInt8) : List UInt8 → List (List UInt8)
  | [] => [[]]
  | b :: bs => if b = c then [] :: spC c bs else (match spC c bs with | [] => [[b]] | w :: ws => (b :: w) :: ws)
theorem spC_ne {c : UInt8} : ∀ L, spC c L ≠ []
  | [] => by simp [spC]
  | b :: bs => by
    simp only [spC]
    split
    · simp
    · split <;> simp
def hdB (cur : List UInt8) : List (List UInt8) → List (List UInt8)
  | [] => [cur]
  | w :: ws => (cur ++ w) :: ws
theorem hdB_nil {c : UInt8} (L : List UInt8) : hdB [] (spC c L) = spC c L := by
  have := spC_ne (c := c) L
  cases h : spC c L with
  | nil => exact absurd h this
  | cons w ws => rfl
theorem hdB_snoc {c : UInt8} (cur : List UInt8) (b : UInt8) (bs : List UInt8) (hb : b ≠ c) : hdB cur (spC c (b :: bs)) = hdB (cur ++ [b]) (spC c bs) := by
  simp only [spC, if_neg hb]
  have := spC_ne (c := c) bs
  cases h : spC c bs with
  | nil => exact absurd h this
  | cons w ws => simp [hdB]
theorem hdB_space {c : UInt8} (cur bs : List UInt8) : hdB cur (spC c (c :: bs)) = cur :: spC c bs := by simp [spC, hdB]
theorem cut_miss : ∀ L : List UInt8, Go.Lib.indexByte L 32 = -1 → spC 32 L = [L]
  | [], _ => rfl
  | b :: bs, h => by
    unfold Go.Lib.indexByte at h
    by_cases hb : b = 32
    · rw [if_pos (by simp [hb])] at h
      omega
    · rw [if_neg (by simp [hb])] at h
      have hi : Go.Lib.indexByte bs 32 = -1 := by
        by_cases q : Go.Lib.indexByte bs 32 = -1
        · exact q
        · rw [if_neg (by simp [q])] at h
          have := Go.Lib.indexByte_ge bs 32
          omega
      simp only [spC, if_neg hb, cut_miss bs hi]
theorem cut_hit : ∀ (L : List UInt8) (i : Nat), Go.Lib.indexByte L 32 = i → spC 32 L = L.take i :: spC 32 (L.drop (i + 1))
  | [], i, h => by
    unfold Go.Lib.indexByte at h
    omega
  | b :: bs, i, h => by
    unfold Go.Lib.indexByte at h
    by_cases hb : b = 32
    · rw [if_pos (by simp [hb])] at h
      obtain rfl : i = 0 := by omega
      simp [spC, hb]
    · rw [if_neg (by simp [hb])] at h
      by_cases q : Go.Lib.indexByte bs 32 = -1
      · rw [if_pos (by simp [q])] at h
        omega
      · rw [if_neg (by simp [q])] at h
        obtain ⟨j, rfl⟩ : ∃ j, i = j + 1 := ⟨i - 1, by have := Go.Lib.indexByte_ge bs 32; omega⟩
        have := cut_hit bs j (by omega)
        simp only [spC, if_neg hb, this, List.take_succ_cons, List.drop_succ_cons]
theorem split_cut (n : Nat) : ∀ s : ByteArray, s.size ≤ n → (Go.Lib.splitB (⟨#[32]⟩ : ByteArray) 0 (Go.Lib.countB s (⟨#[32]⟩ : ByteArray)) s).map (fun x => x.data.toList) = spC 32 s.data.toList := by
  induction n with
  | zero =>
    intro s hs
    have h : Go.Lib.indexB s (⟨#[32]⟩ : ByteArray) = -1 := by
      rcases Go.Lib.indexB_cases s (⟨#[32]⟩ : ByteArray) with h | ⟨i, h, hi⟩
      · exact h
      · have : (⟨#[32]⟩ : ByteArray).size = 1 := rfl
        omega
    rw [Go.Lib.splitB_miss _ _ _ _ h, cut_miss _ ((Go.Lib.index_one s.data.toList 32).symm.trans h)]
    rfl
  | succ n ih =>
    intro s hs
    have h1 : (⟨#[32]⟩ : ByteArray).size = 1 := rfl
    rcases Go.Lib.indexB_cases s (⟨#[32]⟩ : ByteArray) with h | ⟨i, h, hi⟩
    · rw [Go.Lib.splitB_miss _ _ _ _ h, cut_miss _ ((Go.Lib.index_one s.data.toList 32).symm.trans h)]
      rfl
    · rw [Go.Lib.countB_hit s _ i (by omega) h, Nat.add_comm, Go.Lib.splitB_hit _ _ _ _ i h, List.map_cons, cut_hit _ i ((Go.Lib.index_one s.data.toList 32).symm.trans h)]
      have hsz : (s.extract (i + 1) s.size).size ≤ n := by
        rw [ByteArray.size_extract]
        omega
      have := ih _ hsz
      rw [h1, this, Nat.add_zero, Go.Lib.extract_from_zero]
      have he : (s.extract (i + 1) s.size).data.toList = s.data.toList.drop (i + 1) := by
        rw [ByteArray.data_extract, Array.toList_extract, List.extract_eq_take_drop, List.take_of_length_le]
        rw [List.length_drop, sz_list]
        omega
      rw [he]
theorem spC_one {c : UInt8} : ∀ A : List UInt8, (∀ b ∈ A, b ≠ c) → spC c A = [A]
  | [], _ => rfl
  | b :: bs, h => by
    rw [spC, if_neg (h b (by simp)), spC_one bs (fun x hx => h x (by simp [hx]))]
theorem spC_app {c : UInt8} (B : List UInt8) : ∀ A : List UInt8, (∀ b ∈ A, b ≠ c) → spC c (A ++ c :: B) = A :: spC c B
  | [], _ => by simp [spC]
  | b :: bs, h => by
    rw [List.cons_append, spC, if_neg (h b (by simp)), spC_app B bs (fun x hx => h x (by simp [hx]))]
theorem spC_len {c : UInt8} : ∀ L : List UInt8, ∀ w ∈ spC c L, w.length ≤ L.length
  | [], w, h => by simp [spC] at h; simp [h]
  | b :: bs, w, h => by
    have ih := spC_len (c := c) bs
    rw [spC] at h
    split at h
    · rcases List.mem_cons.1 h with rfl | h
      · simp
      · have := ih w h; rw [List.length_cons]; omega
    · split at h
      · rw [List.mem_singleton.1 h]; simp
      · rename_i w' ws e
        rcases List.mem_cons.1 h with rfl | h
        · have := ih w' (by rw [e]; simp)
          simp only [List.length_cons]; omega
        · have := ih w (by rw [e]; simp [h])
          rw [List.length_cons]; omega
theorem extr_list (s : ByteArray) (a b : Nat) (hb : b ≤ s.size) : (s.extract a b).data.toList = (s.data.toList.drop a).take (b - a) := by
  rw [ByteArray.data_extract, Array.toList_extract, List.extract_eq_take_drop]
/-- The reference's cutting at a byte. -/
theorem t46c_0 {n : Nat} {c : UInt8} {s : ByteArray} (hs : s.size ≤ 1048576) : ∀ (k i frm : Nat) (out : List ByteArray), i ≤ s.size → s.size - i < k → frm ≤ i → out.length ≤ i → ok (lp46_0 n k s (c.toNat : Int) (frm : Int) (i : Int) out) fun r => r.1.map (fun x => x.data.toList) = out.map (fun x => x.data.toList) ++ hdB ((s.data.toList.drop frm).take (i - frm)) (spC c (s.data.toList.drop i))
  | 0, i, frm, out, h, hk, hf, ho => by omega
  | k + 1, i, frm, out, h, hk, hf, ho => by
    have hl := sz_list s
    show ok (st46_0 n (lp46_0 n k) s (c.toNat : Int) _ _ out) _
    unfold st46_0
    refine ok.ite (fun h1 => ok.guard (by omega) (ok.guard h1 ?_)) (fun h1 => ok.guard (by omega) (ok.guard (by omega) (ok.guard (by omega) (ok.guard (by simp only [List.length_cons, List.length_nil]; omega) (ok.some ?_)))))
    · have hi : i < s.data.toList.length := by omega
      have hsp : s.data.toList.drop i = s.data.toList[i] :: s.data.toList.drop (i + 1) := List.drop_eq_getElem_cons hi
      rw [bt_list s i hi, wb i s.size h hs]
      refine ok.ite (fun h2 => ok.guard (by omega) (ok.guard (by omega) (ok.guard (by omega) (ok.guard (by simp only [List.length_cons, List.length_nil]; omega) ?_)))) (fun h2 => ?_)
      · have hb : s.data.toList[i] = c := UInt8.toNat_inj.1 (by omega)
        refine (t46c_0 hs k (i + 1) (i + 1) _ (by omega) (by omega) (Nat.le_refl _) (by simp only [List.length_append, List.length_cons, List.length_nil]; omega)).mono fun r q => ?_
        rw [q, hsp, hb, hdB_space, List.map_append, List.append_assoc, Nat.sub_self, List.take_zero, hdB_nil]
        congr 1
        simp only [List.map_cons, List.map_nil, Int.toNat_natCast, List.singleton_append]
        rw [extr_list s frm i (by omega)]
      · have hb : s.data.toList[i] ≠ c := fun e => h2 (by rw [e])
        refine (t46c_0 hs k (i + 1) frm out (by omega) (by omega) (by omega) (by omega)).mono fun r q => ?_
        rw [q, hsp, hdB_snoc _ _ _ hb]
        congr 2
        have e : i + 1 - frm = (i - frm) + 1 := by omega
        rw [e, List.take_succ_eq_append_getElem (by rw [List.length_drop]; omega)]
        congr 2
        rw [List.getElem_drop]
        congr 1
        omega
    · rw [List.drop_eq_nil_of_le (show s.data.toList.length ≤ i by omega)]
      have e : i = s.size := by omega
      simp only [List.map_append, List.map_cons, List.map_nil, Int.toNat_natCast, spC, hdB, List.append_nil]
      rw [extr_list s frm s.size (Nat.le_refl _), e]
theorem t46c {n : Nat} {c : UInt8} {s : ByteArray} (hs : s.size ≤ 1048576) (hn : 2000000 ≤ n) {x : Int} (hx : x = (c.toNat : Int)) : ok (F46 n s x) fun r => r.1.map (fun x => x.data.toList) = spC c s.data.toList := by
  subst hx
  unfold F46 st46
  refine (t46c_0 hs n 0 0 [] (by omega) (by omega) (Nat.le_refl _) (Nat.le_refl _)).mono fun r q => ?_
  rw [q, Nat.sub_self, List.take_zero, List.drop_zero, hdB_nil]
  rfl
theorem extr_of (s d : ByteArray) (A D B : List UInt8) (a b : Nat) (hs : s.data.toList = A ++ (D ++ B)) (ha : a = A.length) (hb : b = A.length + D.length) (hd : d.data.toList = D) : s.extract a b = d := by
  have hl := sz_list s
  have hlen : s.data.toList.length = A.length + (D.length + B.length) := by rw [hs]; simp
  apply ba_ext
  rw [extr_list s a b (by omega), hs, hd, ha, hb]
  simp
end Go.Eva
end
section
/- Operations as texts, read again. -/
namespace Go.Eva
open Go.RowKit (wrap64)
set_option linter.unusedVariables false
set_option linter.unusedSimpArgs false

abbrev Op4 := Int × (ByteArray × (Int × Int))
def kw (x : Int) : ByteArray := if x = 1 then ⟨#[99]⟩ else if x = 2 then ⟨#[103]⟩ else if x = 3 then ⟨#[109, 115]⟩ else ⟨#[]⟩
theorem tl_eq {a b : ByteArray} (h : a.toList = b.toList) : a = b := ba_ext (by rw [← ByteArray.toList_eq, ← ByteArray.toList_eq]; exact h)
theorem f32 {n : Nat} {x : Int} : F32 n x = some (kw x, ()) := by
  unfold F32 kw
  by_cases h1 : x = 1
  · rw [if_pos (decide_eq_true h1), if_pos h1]
  · rw [if_neg (by rw [decide_eq_false h1]; decide), if_neg h1]
    by_cases h2 : x = 2
    · rw [if_pos (decide_eq_true h2), if_pos h2]
    · rw [if_neg (by rw [decide_eq_false h2]; decide), if_neg h2]
      by_cases h3 : x = 3
      · rw [if_pos (decide_eq_true h3), if_pos h3]
      · rw [if_neg (by rw [decide_eq_false h3]; decide), if_neg h3]
theorem f35 {n : Nat} {x : Int} : F35 n x = some (kw x, ()) := by
  unfold F35
  rw [f26]
  simp only [Option.bind_some]
  by_cases h : 1 ≤ x ∧ x ≤ 3
  · have e : inr x 1 3 = true := by unfold inr; exact decide_eq_true h
    have hx : x = 1 ∨ x = 2 ∨ x = 3 := by omega
    have w1 : wrap64 ((1 : Int) - 1) = 0 := by rw [w64 (by omega) (by omega)]; rfl
    have w2 : wrap64 ((2 : Int) - 1) = 1 := by rw [w64 (by omega) (by omega)]; rfl
    have w3 : wrap64 ((3 : Int) - 1) = 2 := by rw [w64 (by omega) (by omega)]; rfl
    rw [e]
    rcases hx with rfl | rfl | rfl
    · rw [w1]; rfl
    · rw [w2]; rfl
    · rw [w3]; rfl
  · have e : inr x 1 3 = false := by unfold inr; exact decide_eq_false h
    rw [e]
    unfold kw
    rw [if_neg (show ¬ x = 1 by omega), if_neg (show ¬ x = 2 by omega), if_neg (show ¬ x = 3 by omega)]
    rfl
theorem kw_ne {x : Int} : (kw x).toList = (⟨#[]⟩ : ByteArray).toList ↔ ¬ (1 ≤ x ∧ x ≤ 3) := by
  constructor
  · intro h hx
    have h := congrArg ByteArray.size (tl_eq h)
    have hx : x = 1 ∨ x = 2 ∨ x = 3 := by omega
    rcases hx with rfl | rfl | rfl
    · exact absurd (show (1 : Nat) = 0 from h) (by decide)
    · exact absurd (show (1 : Nat) = 0 from h) (by decide)
    · exact absurd (show (2 : Nat) = 0 from h) (by decide)
  · intro h
    unfold kw
    rw [if_neg (show ¬ x = 1 by omega), if_neg (show ¬ x = 2 by omega), if_neg (show ¬ x = 3 by omega)]
noncomputable def opB (n : Nat) (k : Int) (s : ByteArray) (w v : Int) : Bool :=
  if k = 1 then kob n s && (inr w 1 3 && decide (v = 0)) else if k = 2 then kob n s && (decide (w = 0) && inr v 0 65535) else if k = 3 then decide (s.toList = (⟨#[]⟩ : ByteArray).toList) && (decide (w = 0) && decide (v = 0)) else false
theorem f34 {n : Nat} (hn : 2000000 ≤ n) {s : ByteArray} (hs : s.size ≤ 1048576) : F34 n s = some (kob n s, ()) := by
  obtain ⟨⟨b, u⟩, h, _⟩ := t46g (n := n) hs hn
  unfold kob
  rw [h]
  rfl
theorem f13 {n : Nat} (hn : 2000000 ≤ n) {k : Int} {s : ByteArray} {w v : Int} (hs : s.size ≤ 1048576) : F13 n k s w v = some (opB n k s w v, ()) := by
  unfold F13 opB
  rw [f34 hn hs, f35, f26]
  simp only [Option.bind_some]
  by_cases h1 : k = 1
  · rw [if_pos (decide_eq_true h1), if_pos h1]
    cases kob n s
    · rfl
    · rw [if_pos rfl, Bool.true_and]
      by_cases hw : 1 ≤ w ∧ w ≤ 3
      · have e : inr w 1 3 = true := by unfold inr; exact decide_eq_true hw
        rw [if_pos (by rw [decide_eq_false (fun q => kw_ne.1 q hw)]; rfl), e, Bool.true_and]
      · have e : inr w 1 3 = false := by unfold inr; exact decide_eq_false hw
        rw [if_neg (by rw [decide_eq_true (kw_ne.2 hw)]; decide), e, Bool.false_and]
  · rw [if_neg (by rw [decide_eq_false h1]; decide), if_neg h1]
    by_cases h2 : k = 2
    · rw [if_pos (decide_eq_true h2), if_pos h2]
      cases kob n s
      · rfl
      · rw [if_pos rfl, Bool.true_and]
        by_cases hw : w = 0
        · rw [if_pos (decide_eq_true hw), decide_eq_true hw, Bool.true_and]
        · rw [if_neg (by rw [decide_eq_false hw]; decide), decide_eq_false hw, Bool.false_and]
    · rw [if_neg (by rw [decide_eq_false h2]; decide), if_neg h2]
      by_cases h3 : k = 3
      · rw [if_pos (decide_eq_true h3), if_pos h3, decide_eq_true h3]
        simp
      · rw [if_neg (by rw [decide_eq_false h3]; decide), if_neg h3]
theorem f31o {n : Nat} (hn : 2000000 ≤ n) {k : Int} {s : ByteArray} {w v : Int} (hs : s.size ≤ 1048576) : F31 n k s w v = some (opB n k s w v, ()) := by
  rw [← f13 hn hs]
  unfold F31 F13
  simp only [f59, f32, f35, f39, f26]
structure OOk (k : Int) (s : ByteArray) (w v : Int) : Prop where
  one : (k = 1 ∧ (1 ≤ w ∧ w ≤ 3) ∧ v = 0) ∨ (k = 2 ∧ w = 0 ∧ 0 ≤ v ∧ v ≤ 65535) ∨ (k = 3 ∧ s = ⟨#[]⟩ ∧ w = 0 ∧ v = 0)
  key : k ≠ 3 → (∀ b ∈ s.data.toList, b ≠ 32 ∧ b ≠ 10) ∧ 1 ≤ s.size
  len : s.size ≤ 4
theorem kob_key {n : Nat} {s : ByteArray} (hs : s.size ≤ 1048576) (hn : 2000000 ≤ n) (h : kob n s = true) : (∀ b ∈ s.data.toList, b ≠ 32 ∧ b ≠ 10) ∧ 1 ≤ s.size ∧ s.size ≤ 4 := by
  obtain ⟨⟨b, u⟩, h1, h2⟩ := t46k (n := n) hs n 0 (by omega) (by omega)
  have h1 : F34 n s = some (b, u) := h1
  unfold kob at h
  rw [h1] at h
  obtain ⟨k1, k2, k3⟩ := h2 h
  refine ⟨fun b hb => ?_, k2, k3⟩
  obtain ⟨j, hj, rfl⟩ := List.getElem_of_mem hb
  have hl : s.data.toList.length = s.size := Array.length_toList
  have hk := k1 j (Nat.zero_le _) (by omega)
  rw [bt_list s j hj] at hk
  unfold kc inr at hk
  simp only [Bool.or_eq_true, decide_eq_true_eq] at hk
  refine ⟨fun e => ?_, fun e => ?_⟩
  · rw [e] at hk
    have : (UInt8.toNat 32 : Int) = 32 := rfl
    omega
  · rw [e] at hk
    have : (UInt8.toNat 10 : Int) = 10 := rfl
    omega
theorem oOk {n : Nat} (hn : 2000000 ≤ n) {k : Int} {s : ByteArray} {w v : Int} (hs : s.size ≤ 1048576) (h : opB n k s w v = true) : OOk k s w v := by
  unfold opB inr at h
  split at h
  · rename_i hk
    simp only [Bool.and_eq_true, decide_eq_true_eq] at h
    obtain ⟨h1, h2, h3⟩ := h
    have K := kob_key hs hn h1
    exact ⟨.inl ⟨hk, h2, h3⟩, fun _ => ⟨K.1, K.2.1⟩, K.2.2⟩
  · split at h
    · rename_i hk
      simp only [Bool.and_eq_true, decide_eq_true_eq] at h
      obtain ⟨h1, h2, h3⟩ := h
      have K := kob_key hs hn h1
      exact ⟨.inr (.inl ⟨hk, h2, h3⟩), fun _ => ⟨K.1, K.2.1⟩, K.2.2⟩
    · split at h
      · rename_i hk
        simp only [Bool.and_eq_true, decide_eq_true_eq] at h
        obtain ⟨h1, h2, h3⟩ := h
        have e := tl_eq h1
        exact ⟨.inr (.inr ⟨hk, e, h2, h3⟩), fun q => absurd hk q, by rw [e]; exact Nat.zero_le _⟩
      · cases h
def opT (k : Int) (s : ByteArray) (w v : Int) : ByteArray :=
  if k = 1 then (((⟨#[114, 101, 103, 32]⟩ : ByteArray) ++ s) ++ (⟨#[32]⟩ : ByteArray)) ++ kw w else if k = 2 then (((⟨#[114, 101, 99, 32]⟩ : ByteArray) ++ s) ++ (⟨#[32]⟩ : ByteArray)) ++ dB v else ⟨#[102, 108, 117, 115, 104]⟩
theorem kw_size (w : Int) : (kw w).size ≤ 2 := by
  unfold kw
  split
  · show 1 ≤ 2; omega
  · split
    · show 1 ≤ 2; omega
    · split
      · show 2 ≤ 2; omega
      · show 0 ≤ 2; omega
theorem opT_size {k : Int} {s : ByteArray} {w v : Int} (O : OOk k s w v) : (opT k s w v).size ≤ 40 ∧ 3 ≤ (opT k s w v).size := by
  have h4 := O.len
  have e4 : (⟨#[114, 101, 103, 32]⟩ : ByteArray).size = 4 := rfl
  have e5 : (⟨#[114, 101, 99, 32]⟩ : ByteArray).size = 4 := rfl
  have e1 : (⟨#[32]⟩ : ByteArray).size = 1 := rfl
  have hk := kw_size w
  unfold opT
  split
  · simp only [ByteArray.size_append, e4, e1]; omega
  · split
    · rename_i h1 h2
      have hv : 0 ≤ v ∧ v ≤ 65535 := by
        rcases O.one with h | h | h
        · omega
        · omega
        · omega
      have := dB_size (i := v) (by omega) (by omega)
      simp only [ByteArray.size_append, e5, e1]; omega
    · show 5 ≤ 40 ∧ 3 ≤ 5; omega
theorem f12_ok {n : Nat} (hn : 2000000 ≤ n) {k : Int} {s : ByteArray} {w v : Int} (hs : s.size ≤ 1048576) (h : opB n k s w v = true) : F12 n k s w v = some (opT k s w v, ()) := by
  have O := oOk hn hs h
  have h4 := O.len
  have e4 : (⟨#[114, 101, 103, 32]⟩ : ByteArray).size = 4 := rfl
  have e5 : (⟨#[114, 101, 99, 32]⟩ : ByteArray).size = 4 := rfl
  have e1 : (⟨#[32]⟩ : ByteArray).size = 1 := rfl
  have hk := kw_size w
  unfold F12 opT
  rw [f31o hn hs, h, f32]
  simp only [Option.bind_some, ByteArray.size_append, e4, e5, e1]
  rw [if_neg (by decide)]
  by_cases h1 : k = 1
  · rw [if_pos (decide_eq_true h1), if_pos h1, if_pos (decide_eq_true (by omega)), if_pos (decide_eq_true (by omega)), if_pos (decide_eq_true (by omega))]
  · rw [if_neg (by rw [decide_eq_false h1]; decide), if_neg h1]
    by_cases h2 : k = 2
    · have hv : 0 ≤ v ∧ v ≤ 65535 := by
        rcases O.one with h | h | h
        · omega
        · omega
        · omega
      have := dB_size (i := v) (by omega) (by omega)
      rw [if_pos (decide_eq_true h2), if_pos h2, if_pos (decide_eq_true (by omega)), if_pos (decide_eq_true (by omega)), t33 (by omega) (by omega)]
      simp only [Option.bind_some]
      rw [if_pos (decide_eq_true (by omega))]
    · rw [if_neg (by rw [decide_eq_false h2]; decide), if_neg h2]
theorem f12_no {n : Nat} (hn : 2000000 ≤ n) {k : Int} {s : ByteArray} {w v : Int} (hs : s.size ≤ 1048576) (h : ¬ opB n k s w v = true) : F12 n k s w v = some (⟨#[]⟩, ()) := by
  have h : opB n k s w v = false := by simpa using h
  unfold F12
  rw [f31o hn hs, h]
  rfl
theorem f64_ok {n : Nat} (hn : 2000000 ≤ n) {k : Int} {s : ByteArray} {w v : Int} (hs : s.size ≤ 1048576) (h : opB n k s w v = true) : F64 n k s w v = some (opT k s w v, ()) := by
  have O := oOk hn hs h
  have h4 := O.len
  have e4 : (⟨#[114, 101, 103, 32]⟩ : ByteArray).size = 4 := rfl
  have e5 : (⟨#[114, 101, 99, 32]⟩ : ByteArray).size = 4 := rfl
  have e1 : (⟨#[32]⟩ : ByteArray).size = 1 := rfl
  have hk := kw_size w
  unfold F64 opT
  rw [f13 hn hs, h, f35]
  simp only [Option.bind_some, ByteArray.size_append, e4, e5, e1]
  rw [if_neg (by decide)]
  by_cases h1 : k = 1
  · rw [if_pos (decide_eq_true h1), if_pos h1, if_pos (decide_eq_true (by omega)), if_pos (decide_eq_true (by omega)), if_pos (decide_eq_true (by omega))]
  · rw [if_neg (by rw [decide_eq_false h1]; decide), if_neg h1]
    by_cases h2 : k = 2
    · have hv : 0 ≤ v ∧ v ≤ 65535 := by
        rcases O.one with h | h | h
        · omega
        · omega
        · omega
      have := dB_size (i := v) (by omega) (by omega)
      obtain ⟨V, rfl⟩ := Int.eq_ofNat_of_zero_le hv.1
      rw [if_pos (decide_eq_true h2), if_pos h2, if_pos (decide_eq_true (by omega)), if_pos (decide_eq_true (by omega)), t63 (by omega) (by omega)]
      simp only [Option.bind_some]
      rw [if_pos (decide_eq_true (by omega))]
    · rw [if_neg (by rw [decide_eq_false h2]; decide), if_neg h2]
theorem f64_no {n : Nat} (hn : 2000000 ≤ n) {k : Int} {s : ByteArray} {w v : Int} (hs : s.size ≤ 1048576) (h : ¬ opB n k s w v = true) : F64 n k s w v = some (⟨#[]⟩, ()) := by
  have h : opB n k s w v = false := by simpa using h
  unfold F64
  rw [f13 hn hs, h]
  rfl
/-- A kind's word read. -/
theorem t29 {n : Nat} (hn : 100 ≤ n) {s : ByteArray} : ok (F29 n s) fun r => ∀ x : Int, 1 ≤ x → x ≤ 3 → s = kw x → r.1 = x := by
  obtain ⟨k, rfl⟩ : ∃ q, n = q + 4 := ⟨n - 4, by omega⟩
  have e1 : wrap64 ((1 : Int) + 1) = 2 := by rw [w64 (by omega) (by omega)]; rfl
  have e2 : wrap64 ((2 : Int) + 1) = 3 := by rw [w64 (by omega) (by omega)]; rfl
  have e3 : wrap64 ((3 : Int) + 1) = 4 := by rw [w64 (by omega) (by omega)]; rfl
  have inj : ∀ x y : Int, 1 ≤ x → x ≤ 3 → 1 ≤ y → y ≤ 3 → kw x = kw y → x = y := fun x y a b c d h => by
    have hx : x = 1 ∨ x = 2 ∨ x = 3 := by omega
    have hy : y = 1 ∨ y = 2 ∨ y = 3 := by omega
    rcases hx with rfl | rfl | rfl <;> rcases hy with rfl | rfl | rfl <;> first | rfl | (exact absurd (congrArg ByteArray.data h) (by decide))
  have hgo : ∀ (d : Nat) (i : Int) (m : Nat), 1 ≤ i → i + d = 4 → ok (lp29_0 (k + 4) (m + d + 1) s i) fun r => ∀ x : Int, i ≤ x → x ≤ 3 → s = kw x → r.1 = x := by
    intro d
    induction d with
    | zero =>
      intro i m h1 h2
      show ok (st29_0 (k + 4) (lp29_0 (k + 4) (m + 0)) s i) _
      unfold st29_0
      exact ok.ite (fun h => by omega) (fun h => ok.some fun x a b _ => by omega)
    | succ d ih =>
      intro i m h1 h2
      show ok (st29_0 (k + 4) (lp29_0 (k + 4) (m + (d + 1))) s i) _
      unfold st29_0
      rw [f32]
      refine ok.ite (fun h => ok.bind (Q := fun r => r = (kw i, ())) (ok.some rfl) fun r1 q1 => ?_) (fun h => by omega)
      subst q1
      refine ok.ite (fun h3 => ok.some fun x a b hx => ?_) (fun h3 => ?_)
      · exact inj i x h1 (by omega) (by omega) b ((tl_eq h3).trans hx)
      · rw [w64 (x := i + 1) (by omega) (by omega)]
        refine (ih (i + 1) m (by omega) (by omega)).mono fun r q x a b hx => ?_
        by_cases e : x = i
        · subst e
          exact absurd (by rw [hx]) h3
        · exact q x (by omega) b hx
  exact hgo 3 1 k (by omega) (by omega)
theorem t68 {n : Nat} (hn : 100 ≤ n) {s : ByteArray} : ok (F68 n s) fun r => ∀ x : Int, 1 ≤ x → x ≤ 3 → s = kw x → r.1 = x := by
  have h29 := t29 hn (s := s)
  have e : F68 n s = F29 n s := by
    have hst : ∀ g, st68_0 n g = st29_0 n g := fun g => by
      funext s0 i1
      unfold st68_0 st29_0
      rw [f35, f32]
    have hl : ∀ k, lp68_0 n k = lp29_0 n k := fun k => by
      induction k with
      | zero => rfl
      | succ k ih => show st68_0 n (lp68_0 n k) = st29_0 n (lp29_0 n k); rw [ih, hst]
    unfold F68 F29 st68 st29
    rw [hl]
  rw [e]
  exact h29
end Go.Eva
end
section
/- Operations read from texts. -/
namespace Go.Eva
open Go.RowKit (wrap64)
set_option linter.unusedVariables false
set_option linter.unusedSimpArgs false

theorem cutc_miss {c : UInt8} : ∀ L : List UInt8, Go.Lib.indexByte L c = -1 → spC c L = [L]
  | [], _ => rfl
  | b :: bs, h => by
    unfold Go.Lib.indexByte at h
    by_cases hb : b = c
    · rw [if_pos (by simp [hb])] at h
      omega
    · rw [if_neg (by simp [hb])] at h
      have hi : Go.Lib.indexByte bs c = -1 := by
        by_cases q : Go.Lib.indexByte bs c = -1
        · exact q
        · rw [if_neg (by simp [q])] at h
          have := Go.Lib.indexByte_ge bs c
          omega
      simp only [spC, if_neg hb, cutc_miss bs hi]
theorem cutc_hit {c : UInt8} : ∀ (L : List UInt8) (i : Nat), Go.Lib.indexByte L c = i → spC c L = L.take i :: spC c (L.drop (i + 1))
  | [], i, h => by
    unfold Go.Lib.indexByte at h
    omega
  | b :: bs, i, h => by
    unfold Go.Lib.indexByte at h
    by_cases hb : b = c
    · rw [if_pos (by simp [hb])] at h
      obtain rfl : i = 0 := by omega
      simp [spC, hb]
    · rw [if_neg (by simp [hb])] at h
      by_cases q : Go.Lib.indexByte bs c = -1
      · rw [if_pos (by simp [q])] at h
        omega
      · rw [if_neg (by simp [q])] at h
        obtain ⟨j, rfl⟩ : ∃ j, i = j + 1 := ⟨i - 1, by have := Go.Lib.indexByte_ge bs c; omega⟩
        have := cutc_hit (c := c) bs j (by omega)
        simp only [spC, if_neg hb, this, List.take_succ_cons, List.drop_succ_cons]
theorem split_cutc {c : UInt8} (n : Nat) : ∀ s : ByteArray, s.size ≤ n → (Go.Lib.splitB (⟨#[c]⟩ : ByteArray) 0 (Go.Lib.countB s (⟨#[c]⟩ : ByteArray)) s).map (fun x => x.data.toList) = spC c s.data.toList := by
  induction n with
  | zero =>
    intro s hs
    have h : Go.Lib.indexB s (⟨#[c]⟩ : ByteArray) = -1 := by
      rcases Go.Lib.indexB_cases s (⟨#[c]⟩ : ByteArray) with h | ⟨i, h, hi⟩
      · exact h
      · have : (⟨#[c]⟩ : ByteArray).size = 1 := rfl
        omega
    rw [Go.Lib.splitB_miss _ _ _ _ h, cutc_miss _ ((Go.Lib.index_one s.data.toList c).symm.trans h)]
    rfl
  | succ n ih =>
    intro s hs
    have h1 : (⟨#[c]⟩ : ByteArray).size = 1 := rfl
    rcases Go.Lib.indexB_cases s (⟨#[c]⟩ : ByteArray) with h | ⟨i, h, hi⟩
    · rw [Go.Lib.splitB_miss _ _ _ _ h, cutc_miss _ ((Go.Lib.index_one s.data.toList c).symm.trans h)]
      rfl
    · rw [Go.Lib.countB_hit s _ i (by omega) h, Nat.add_comm, Go.Lib.splitB_hit _ _ _ _ i h, List.map_cons, cutc_hit _ i ((Go.Lib.index_one s.data.toList c).symm.trans h)]
      have hsz : (s.extract (i + 1) s.size).size ≤ n := by
        rw [ByteArray.size_extract]
        omega
      have := ih _ hsz
      rw [h1, this, Nat.add_zero, Go.Lib.extract_from_zero]
      have he : (s.extract (i + 1) s.size).data.toList = s.data.toList.drop (i + 1) := by
        rw [ByteArray.data_extract, Array.toList_extract, List.extract_eq_take_drop, List.take_of_length_le]
        rw [List.length_drop, sz_list]
        omega
      rw [he]
theorem t28 {n : Nat} {c : UInt8} {s d : ByteArray} (hs : s.size ≤ 1048576) (hd : d = ⟨#[c]⟩) : ok (F28 n s d) fun r => r.1.map (fun x => x.data.toList) = spC c s.data.toList := by
  subst hd
  unfold F28 splF
  exact ok.guard (by omega) (ok.guard (show 1 ≤ 1 from Nat.le_refl _) (ok.some (split_cutc s.size s (Nat.le_refl _))))
theorem three {W : List ByteArray} (h : ¬ ((W.length : Int) ≠ 3)) : ∃ p q r, W = [p, q, r] := by
  match W, h with
  | [p, q, r], _ => exact ⟨p, q, r, rfl⟩
  | [], h => simp at h
  | [_], h => simp at h
  | [_, _], h => simp at h
  | _ :: _ :: _ :: _ :: _, h => exact absurd (by simp only [List.length_cons]; omega) h
theorem map_w3 {W : List ByteArray} {a b c : ByteArray} (h : W.map (fun x => x.data.toList) = [a.data.toList, b.data.toList, c.data.toList]) : W = [a, b, c] := by
  match W, h with
  | [p, q, r], h =>
    simp only [List.map_cons, List.map_nil, List.cons.injEq, and_true] at h
    rw [ba_ext h.1, ba_ext h.2.1, ba_ext h.2.2]
  | [], h => simp at h
  | [_], h => simp at h
  | [_, _], h => simp at h
  | _ :: _ :: _ :: _ :: _, h => simp at h
theorem map_w1 {W : List ByteArray} {a : ByteArray} (h : W.map (fun x => x.data.toList) = [a.data.toList]) : W = [a] := by
  match W, h with
  | [p], h =>
    simp only [List.map_cons, List.map_nil, List.cons.injEq, and_true] at h
    rw [ba_ext h]
  | [], h => simp at h
  | _ :: _ :: _, h => simp at h
theorem words_le {c : UInt8} {W : List ByteArray} {s : ByteArray} (h : W.map (fun x => x.data.toList) = spC c s.data.toList) : ∀ x ∈ W, x.size ≤ s.size := by
  intro x hx
  have : x.data.toList ∈ spC c s.data.toList := by rw [← h]; exact List.mem_map.2 ⟨x, hx, rfl⟩
  have := spC_len _ _ this
  rwa [sz_list, sz_list] at this
def OSh (n : Nat) (a0 : ByteArray) (k : Int) (s : ByteArray) (w v : Int) : Prop := opB n k s w v = true ∧ s.size ≤ 1048576 ∧ a0 = opT k s w v
abbrev ORes := Int × ByteArray × Int × Int × Bool × Unit
theorem cmp12 {n : Nat} (hn : 2000000 ≤ n) {a0 s : ByteArray} (hs : s.size ≤ 1048576) (h0 : 1 ≤ a0.size) {k w v : Int} :
    ok ((F12 n k s w v).bind fun r4 => if (!decide (r4.1.toList = a0.toList)) = true then some (((0 : Int), (⟨#[]⟩ : ByteArray), (0 : Int), (0 : Int), false, ()) : ORes) else some (k, s, w, v, true, ())) fun r => r.2.2.2.2.1 = true → OSh n a0 r.1 r.2.1 r.2.2.1 r.2.2.2.1 := by
  by_cases hr : opB n k s w v = true
  · rw [f12_ok hn hs hr]
    simp only [Option.bind_some]
    refine ok.iteb (fun _ => ok.some fun h => by cases h) (fun h2 => ok.some fun _ => ⟨hr, hs, ?_⟩)
    have h2 : (opT k s w v).toList = a0.toList := by simpa using h2
    exact (tl_eq h2).symm
  · rw [f12_no hn hs hr]
    simp only [Option.bind_some]
    refine ok.iteb (fun _ => ok.some fun h => by cases h) (fun h2 => ?_)
    exfalso
    have h2 : (⟨#[]⟩ : ByteArray).toList = a0.toList := by simpa using h2
    have := tl_eq h2
    rw [← this] at h0
    exact absurd h0 (Nat.not_succ_le_zero _)
theorem cmp12c {n : Nat} (hn : 2000000 ≤ n) {a0 s : ByteArray} {k w v : Int} (h : OSh n a0 k s w v) :
    ok ((F12 n k s w v).bind fun r4 => if (!decide (r4.1.toList = a0.toList)) = true then some (((0 : Int), (⟨#[]⟩ : ByteArray), (0 : Int), (0 : Int), false, ()) : ORes) else some (k, s, w, v, true, ())) fun r => r = (k, s, w, v, true, ()) := by
  rw [f12_ok hn h.2.1 h.1, h.2.2]
  simp only [Option.bind_some]
  exact ok.iteb (fun h => by simp at h) (fun _ => ok.some rfl)
theorem size1 {c : UInt8} {p q : ByteArray} {W : List ByteArray} {s : ByteArray} (h : (p :: q :: W).map (fun x => x.data.toList) = spC c s.data.toList) : 1 ≤ s.size := by
  by_cases e : s.data.toList = []
  · rw [e] at h
    have := congrArg List.length h
    simp [spC] at this
  · have := List.length_pos_iff.2 e
    rw [sz_list] at this
    omega
theorem t11s {n : Nat} (hn : 2000000 ≤ n) {a0 : ByteArray} (hs : a0.size ≤ 1048576) : ok (F11 n a0) fun r => r.2.2.2.2.1 = true → OSh n a0 r.1 r.2.1 r.2.2.1 r.2.2.2.1 := by
  unfold F11
  refine (t28 hs rfl).bind fun r1 q1 => ok.ite (fun h => ?_) (fun h => ?_)
  · exact cmp12 hn (by decide) (by rw [tl_eq h]; decide)
  · obtain ⟨W, u⟩ := r1
    refine ok.ite (fun _ => ok.some fun h => by cases h) (fun h3 => ?_)
    obtain ⟨p, q, r, rfl⟩ := three (W := W) h3
    have hW := words_le q1
    have h0 := size1 q1
    have hq : q.size ≤ 1048576 := by have := hW q (by simp); omega
    have hr : r.size ≤ 1048576 := by have := hW r (by simp); omega
    refine ok.guard (by decide) (ok.guard (by simp) (ok.ite (fun _ => ok.guard (by decide) (ok.guard (by simp) (ok.guard (by decide) (ok.guard (by simp) ?_)))) (fun _ => ok.guard (by decide) (ok.guard (by simp) ?_))))
    · exact (t29 (by omega)).bind fun r3 _ => cmp12 hn hq h0
    · exact (t49t (show (rdOf (⟨#[]⟩ : ByteArray) [p, q, r] (2 : Int)).size ≤ 1048576 from hr) hn).bind fun r5 _ => ok.guard (by decide) (ok.guard (by simp) (cmp12 hn hq h0))
theorem opT_1 {s : ByteArray} {w v : Int} : (opT 1 s w v).data.toList = [114, 101, 103] ++ 32 :: (s.data.toList ++ 32 :: (kw w).data.toList) := by
  unfold opT
  rw [if_pos rfl]
  simp only [ByteArray.data_append, Array.toList_append, List.append_assoc]
  rfl
theorem opT_2 {s : ByteArray} {w v : Int} : (opT 2 s w v).data.toList = [114, 101, 99] ++ 32 :: (s.data.toList ++ 32 :: (dB v).data.toList) := by
  unfold opT
  rw [if_neg (by decide), if_pos rfl]
  simp only [ByteArray.data_append, Array.toList_append, List.append_assoc]
  rfl
theorem opT_3 {s : ByteArray} {w v : Int} : opT 3 s w v = ⟨#[102, 108, 117, 115, 104]⟩ := by
  unfold opT
  rw [if_neg (by decide), if_neg (by decide)]
theorem kw_sp (w : Int) : ∀ b ∈ (kw w).data.toList, b ≠ 32 ∧ b ≠ 10 := by
  unfold kw
  split
  · decide
  · split
    · decide
    · split
      · decide
      · decide
theorem dig_sp {m : Nat} (hm : m ≤ 999999999) : ∀ b ∈ (dB (m : Int)).data.toList, b ≠ 32 ∧ b ≠ 10 := by
  intro b hb
  have := (num_text hm).1 b hb
  refine ⟨?_, ?_⟩ <;> (intro q; rw [q] at this; exact absurd this (by decide))
theorem op_words1 {s : ByteArray} {w v : Int} (hs : ∀ b ∈ s.data.toList, b ≠ 32 ∧ b ≠ 10) : spC 32 (opT 1 s w v).data.toList = [(⟨#[114, 101, 103]⟩ : ByteArray).data.toList, s.data.toList, (kw w).data.toList] := by
  rw [opT_1, spC_app _ _ (by decide), spC_app _ _ (fun b hb => (hs b hb).1), spC_one _ (fun b hb => (kw_sp w b hb).1)]
theorem op_words2 {s : ByteArray} {w : Int} {m : Nat} (hm : m ≤ 999999999) (hs : ∀ b ∈ s.data.toList, b ≠ 32 ∧ b ≠ 10) : spC 32 (opT 2 s w (m : Int)).data.toList = [(⟨#[114, 101, 99]⟩ : ByteArray).data.toList, s.data.toList, (dB (m : Int)).data.toList] := by
  rw [opT_2, spC_app _ _ (by decide), spC_app _ _ (fun b hb => (hs b hb).1), spC_one _ (fun b hb => (dig_sp hm b hb).1)]
theorem fl_words : spC 32 (⟨#[102, 108, 117, 115, 104]⟩ : ByteArray).data.toList = [(⟨#[102, 108, 117, 115, 104]⟩ : ByteArray).data.toList] := by decide
theorem rec_reg {P : Prop} (e : (⟨#[114, 101, 99]⟩ : ByteArray).toList = (⟨#[114, 101, 103]⟩ : ByteArray).toList) : P := absurd (congrArg ByteArray.data (tl_eq e)) (by decide)
theorem reg_rec {P : Prop} (e : (⟨#[114, 101, 103]⟩ : ByteArray).toList = (⟨#[114, 101, 99]⟩ : ByteArray).toList) : P := absurd (congrArg ByteArray.data (tl_eq e)) (by decide)
theorem t11c {n : Nat} (hn : 2000000 ≤ n) {a0 s : ByteArray} {k w v : Int} (h : OSh n a0 k s w v) : ok (F11 n a0) fun r => r = (k, s, w, v, true, ()) := by
  have O := oOk hn h.2.1 h.1
  have hz := opT_size O
  have hs : a0.size ≤ 1048576 := by rw [h.2.2]; omega
  unfold F11
  rcases O.one with ⟨rfl, hw, rfl⟩ | ⟨rfl, rfl, hv⟩ | ⟨rfl, rfl, rfl, rfl⟩
  · have hk := (O.key (by decide)).1
    have hwd := op_words1 (w := w) (v := 0) hk
    refine (t28 hs rfl).bind fun r1 q1 => ?_
    obtain ⟨W, u⟩ := r1
    have q1 : W.map (fun x => x.data.toList) = spC 32 a0.data.toList := q1
    rw [h.2.2, hwd] at q1
    obtain rfl := map_w3 q1
    refine ok.ite (fun e => ?_) (fun _ => ok.ite (fun e => absurd rfl e) (fun _ => ok.guard (by decide) (ok.guard (by simp) (ok.ite (fun _ => ?_) (fun e => absurd rfl e)))))
    · rw [← h.2.2, tl_eq e, fl_words] at hwd
      cases hwd
    · refine ok.guard (by decide) (ok.guard (by simp) (ok.guard (by decide) (ok.guard (by simp) ((t29 (by omega)).bind fun r3 q3 => ?_))))
      have e := q3 w hw.1 hw.2 rfl
      rw [e]
      exact cmp12c hn h
  · have hk := (O.key (by decide)).1
    obtain ⟨m, rfl⟩ := Int.eq_ofNat_of_zero_le hv.1
    have hm : m ≤ 999999999 := by omega
    have hwd := op_words2 (w := 0) hm hk
    refine (t28 hs rfl).bind fun r1 q1 => ?_
    obtain ⟨W, u⟩ := r1
    have q1 : W.map (fun x => x.data.toList) = spC 32 a0.data.toList := q1
    rw [h.2.2, hwd] at q1
    obtain rfl := map_w3 q1
    refine ok.ite (fun e => ?_) (fun _ => ok.ite (fun e => absurd rfl e) (fun _ => ok.guard (by decide) (ok.guard (by simp) (ok.ite (fun e => ?_) (fun _ => ?_)))))
    · rw [← h.2.2, tl_eq e, fl_words] at hwd
      cases hwd
    · exact rec_reg e
    · refine ok.guard (by decide) (ok.guard (by simp) ?_)
      rw [show F30 n (rdOf (⟨#[]⟩ : ByteArray) (([⟨#[114, 101, 99]⟩, s, dB (m : Int)] : List ByteArray), u).1 (2 : Int)) = some ((m : Int), true, ()) from t30 hn hm]
      simp only [Option.bind_some]
      exact ok.guard (by decide) (ok.guard (by simp) (cmp12c hn h))
  · refine (t28 hs rfl).bind fun r1 q1 => ok.ite (fun e => cmp12c hn h) (fun e => ?_)
    exact absurd (by rw [h.2.2, opT_3]) e
/-- The reference. -/
theorem cmp47 {n : Nat} (hn : 2000000 ≤ n) {a0 s s2 : ByteArray} (hs : s.size ≤ 1048576) {k w v x1 x3 x4 : Int} : ok (j47_1 n a0 x1 s2 x3 x4 k s w v) fun r => r.2.2.2.2.1 = true → OSh n a0 r.1 r.2.1 r.2.2.1 r.2.2.2.1 := by
  unfold j47_1
  refine ok.ite (fun _ => ok.some fun h => by cases h) (fun h0 => ?_)
  by_cases hr : opB n k s w v = true
  · rw [f64_ok hn hs hr]
    simp only [Option.bind_some]
    refine ok.iteb (fun _ => ok.some fun h => by cases h) (fun h2 => ok.some fun _ => ⟨hr, hs, ?_⟩)
    have h2 : (opT k s w v).toList = a0.toList := by simpa using h2
    exact (tl_eq h2).symm
  · rw [f64_no hn hs hr]
    simp only [Option.bind_some]
    refine ok.iteb (fun _ => ok.some fun h => by cases h) (fun h2 => ?_)
    have h2 : (⟨#[]⟩ : ByteArray).toList = a0.toList := by simpa using h2
    exact absurd h2.symm h0
theorem cmp47c {n : Nat} (hn : 2000000 ≤ n) {a0 s s2 : ByteArray} {k w v x1 x3 x4 : Int} (h : OSh n a0 k s w v) : ok (j47_1 n a0 x1 s2 x3 x4 k s w v) fun r => r = (k, s, w, v, true, ()) := by
  have O := oOk hn h.2.1 h.1
  have hz := opT_size O
  unfold j47_1
  refine ok.ite (fun e => ?_) (fun _ => ?_)
  · have e := tl_eq e
    rw [h.2.2] at e
    rw [e] at hz
    exact absurd hz.2 (by decide)
  · rw [f64_ok hn h.2.1 h.1, h.2.2]
    simp only [Option.bind_some]
    exact ok.iteb (fun h => by simp at h) (fun _ => ok.some rfl)
theorem t47j {n : Nat} (hn : 2000000 ≤ n) {a0 s2 s7 : ByteArray} {i1 i3 i4 i6 i8 i9 : Int} {W : List ByteArray} (hW : ∀ x ∈ W, x.size ≤ 1048576) (h7 : s7.size ≤ 1048576) : ok (j47_0 n a0 i1 s2 i3 i4 W i6 s7 i8 i9) fun r => r.2.2.2.2.1 = true → OSh n a0 r.1 r.2.1 r.2.2.1 r.2.2.2.1 := by
  unfold j47_0
  refine ok.ite (fun h3 => ?_) (fun _ => cmp47 hn h7)
  obtain ⟨p, q, r, rfl⟩ := three (fun h => h h3)
  have hq := hW q (by simp)
  have hr := hW r (by simp)
  refine ok.guard (by decide) (ok.guard (by simp) (ok.ite (fun _ => ok.guard (by decide) (ok.guard (by simp) ?_)) (fun _ => cmp47 hn h7)))
  exact (t56t (show (rdOf (⟨#[]⟩ : ByteArray) [p, q, r] (2 : Int)).size ≤ 1048576 from hr) hn).bind fun r5 _ => ok.guard (by decide) (ok.guard (by simp) (cmp47 hn hq))
theorem t47s {n : Nat} (hn : 2000000 ≤ n) {a0 : ByteArray} (hs : a0.size ≤ 1048576) : ok (F47 n a0) fun r => r.2.2.2.2.1 = true → OSh n a0 r.1 r.2.1 r.2.2.1 r.2.2.2.1 := by
  unfold F47
  refine (t46c (c := 32) hs hn rfl).bind fun r1 q1 => ?_
  obtain ⟨W, u⟩ := r1
  have hW : ∀ x ∈ W, x.size ≤ 1048576 := fun x hx => by have := words_le q1 x hx; omega
  refine ok.ite (fun h3 => ?_) (fun _ => t47j hn hW (by decide))
  obtain ⟨p, q, r, rfl⟩ := three (W := W) (fun h => h h3)
  have hq := hW q (by simp)
  refine ok.guard (by decide) (ok.guard (by simp) (ok.ite (fun _ => ok.guard (by decide) (ok.guard (by simp) (ok.guard (by decide) (ok.guard (by simp) ?_)))) (fun _ => t47j hn hW (by decide))))
  exact (t68 (by omega)).bind fun r2 _ => t47j hn hW hq
theorem t47c {n : Nat} (hn : 2000000 ≤ n) {a0 s : ByteArray} {k w v : Int} (h : OSh n a0 k s w v) : ok (F47 n a0) fun r => r = (k, s, w, v, true, ()) := by
  have O := oOk hn h.2.1 h.1
  have hz := opT_size O
  have hs : a0.size ≤ 1048576 := by rw [h.2.2]; omega
  unfold F47
  rcases O.one with ⟨rfl, hw, rfl⟩ | ⟨rfl, rfl, hv⟩ | ⟨rfl, rfl, rfl, rfl⟩
  · have hk := (O.key (by decide)).1
    have hwd := op_words1 (w := w) (v := 0) hk
    refine (t46c (c := 32) hs hn rfl).bind fun r1 q1 => ?_
    obtain ⟨W, u⟩ := r1
    have q1 : W.map (fun x => x.data.toList) = spC 32 a0.data.toList := q1
    rw [h.2.2, hwd] at q1
    obtain rfl := map_w3 q1
    refine ok.ite (fun _ => ok.guard (by decide) (ok.guard (by simp) (ok.ite (fun _ => ?_) (fun e => absurd rfl e)))) (fun e => absurd rfl e)
    refine ok.guard (by decide) (ok.guard (by simp) (ok.guard (by decide) (ok.guard (by simp) ((t68 (by omega)).bind fun r3 q3 => ?_))))
    have e := q3 w hw.1 hw.2 rfl
    rw [e]
    unfold j47_0
    refine ok.ite (fun _ => ok.guard (by decide) (ok.guard (by simp) (ok.ite (fun e => ?_) (fun _ => cmp47c hn h)))) (fun e => absurd rfl e)
    exact reg_rec e
  · have hk := (O.key (by decide)).1
    obtain ⟨m, rfl⟩ := Int.eq_ofNat_of_zero_le hv.1
    have hm : m ≤ 999999999 := by omega
    have hwd := op_words2 (w := 0) hm hk
    refine (t46c (c := 32) hs hn rfl).bind fun r1 q1 => ?_
    obtain ⟨W, u⟩ := r1
    have q1 : W.map (fun x => x.data.toList) = spC 32 a0.data.toList := q1
    rw [h.2.2, hwd] at q1
    obtain rfl := map_w3 q1
    refine ok.ite (fun _ => ok.guard (by decide) (ok.guard (by simp) (ok.ite (fun e => ?_) (fun _ => ?_)))) (fun e => absurd rfl e)
    · exact rec_reg e
    · unfold j47_0
      refine ok.ite (fun _ => ok.guard (by decide) (ok.guard (by simp) (ok.ite (fun _ => ok.guard (by decide) (ok.guard (by simp) ?_)) (fun e => absurd rfl e)))) (fun e => absurd rfl e)
      rw [show F69 n (rdOf (⟨#[]⟩ : ByteArray) (([⟨#[114, 101, 99]⟩, s, dB (m : Int)] : List ByteArray), u).1 (2 : Int)) = some ((m : Int), true, ()) from t69 hn hm]
      simp only [Option.bind_some]
      exact ok.guard (by decide) (ok.guard (by simp) (cmp47c hn h))
  · refine (t46c (c := 32) hs hn rfl).bind fun r1 q1 => ?_
    obtain ⟨W, u⟩ := r1
    have q1 : W.map (fun x => x.data.toList) = spC 32 a0.data.toList := q1
    rw [h.2.2, opT_3, fl_words] at q1
    obtain rfl := map_w1 q1
    refine ok.ite (fun e => absurd (show ((1 : Nat) : Int) = 3 from e) (by decide)) (fun _ => ?_)
    unfold j47_0
    exact ok.ite (fun e => absurd (show ((1 : Nat) : Int) = 3 from e) (by decide)) (fun _ => cmp47c hn h)
end Go.Eva
end
section
/- Todos: when they are right, and their text. -/
namespace Go.Eva
open Go.RowKit (wrap64)
set_option linter.unusedVariables false
set_option linter.unusedSimpArgs false

theorem ok.run {α β : Type} {x : Option α} {a : α} {f : α → Option β} {R : β → Prop} (h : x = Option.some a) (k : ok (f a) R) : ok (x.bind f) R := by rw [h]; exact k
abbrev Td := List (List Op4)
def gd (n : Nat) (i : Int) (o : Op4) : Prop := opB n o.1 o.2.1 o.2.2.1 o.2.2.2 = true ∧ (o.1 = 3 ↔ i = 3)
def TSz (T : Td) : Prop := ∀ l ∈ T, ∀ o ∈ l, o.2.1.size ≤ 1048576
def rowOk (n : Nat) (i : Int) (l : List Op4) : Prop := l.length ≤ 10 ∧ ∀ o ∈ l, gd n i o
def TOk (n : Nat) (T : Td) : Prop := T.length = 4 ∧ ∀ (i : Nat) (h : i < T.length), rowOk n (i : Int) T[i]
theorem beq_iff3 {a b : Int} : (!((decide (a = 3)) == (decide (b = 3)))) = true ↔ ¬ (a = 3 ↔ b = 3) := by
  by_cases h1 : a = 3 <;> by_cases h2 : b = 3 <;> simp [h1, h2]
theorem step3 {n : Nat} {i : Int} {l : List Op4} {j : Nat} (hj : j < l.length) (hp : ∀ j' (h : j' < l.length), j' < j → gd n i l[j']) (g : gd n i l[j]) : ∀ j' (h : j' < l.length), j' < j + 1 → gd n i l[j'] := by
  intro j' h h2
  by_cases e : j' = j
  · subst e; exact g
  · exact hp j' h (by omega)
theorem t40_1 {n : Nat} (hn : 2000000 ≤ n) {Q : Bool × Unit → Prop} {g0 : Td → Int → Int → Option (Bool × Unit)} {T : Td} {i N : Int} {l : List Op4} (hl : l.length ≤ 10) (hs : ∀ o ∈ l, o.2.1.size ≤ 1048576)
    (hy : (∀ o ∈ l, gd n i o) → ok (g0 T N (wrap64 (i + 1))) Q) (hno : ∀ o ∈ l, ¬ gd n i o → Q (false, ())) :
    ∀ (k j : Nat), j ≤ l.length → l.length - j < k → (∀ j' (h : j' < l.length), j' < j → gd n i l[j']) → ok (lp40_1 n g0 k i T N i l (l.length : Int) (j : Int)) Q
  | 0, j, h, hk, hp => by omega
  | k + 1, j, h, hk, hp => by
    show ok (st40_1 n g0 (lp40_1 n g0 k) i T N i l (l.length : Int) (j : Int)) Q
    unfold st40_1
    refine ok.ite (fun h1 => ok.guard (by omega) (ok.guard h1 ?_)) (fun h1 => hy fun o ho => ?_)
    · have hj : j < l.length := by omega
      rw [rdOf_nat hj, wb j l.length (by omega) (by omega)]
      have hm := List.getElem_mem hj
      refine ok.run (f31o hn (hs _ hm)) (ok.iteb (fun h2 => ok.some (hno _ hm fun g => ?_)) (fun h2 => ok.iteb (fun h3 => ok.some (hno _ hm fun g => ?_)) (fun h3 => ?_)))
      · have h2 : (!(opB n l[j].1 l[j].2.1 l[j].2.2.1 l[j].2.2.2)) = true := h2
        rw [g.1] at h2; cases h2
      · exact beq_iff3.1 h3 g.2
      · refine t40_1 hn hl hs hy hno k (j + 1) (by omega) (by omega) (step3 hj hp ⟨by simpa using h2, ?_⟩)
        by_cases q : (l[j].1 = 3 ↔ i = 3)
        · exact q
        · rw [beq_iff3.2 q] at h3; cases h3
    · obtain ⟨j', h', rfl⟩ := List.getElem_of_mem ho
      exact hp j' h' (by omega)
theorem rowOk_iff {n : Nat} {T : Td} {i : Nat} (h : ∀ i' (h : i' < T.length), i' < i → rowOk n (i' : Int) T[i']) (hi : i < T.length) (g : rowOk n (i : Int) T[i]) : ∀ i' (h : i' < T.length), i' < i + 1 → rowOk n (i' : Int) T[i'] := by
  intro i' h' h2
  by_cases e : i' = i
  · subst e; exact g
  · exact h i' h' (by omega)
theorem t40_0 {n : Nat} (hn : 2000000 ≤ n) {T : Td} (hT : T.length = 4) (hs : TSz T) : ∀ (k i : Nat), i ≤ T.length → T.length - i < k → (∀ i' (h : i' < T.length), i' < i → rowOk n (i' : Int) T[i']) → ok (lp40_0 n k T (T.length : Int) (i : Int)) fun r => r.1 = true ↔ TOk n T
  | 0, i, h, hk, hp => by omega
  | k + 1, i, h, hk, hp => by
    show ok (st40_0 n (lp40_1 n (lp40_0 n k) n) (lp40_0 n k) T (T.length : Int) (i : Int)) _
    unfold st40_0
    refine ok.ite (fun h1 => ok.guard (by omega) (ok.guard h1 ?_)) (fun h1 => ok.some ⟨fun _ => ⟨hT, fun i' h' => hp i' h' (by omega)⟩, fun _ => rfl⟩)
    have hi : i < T.length := by omega
    rw [rdOf_nat hi]
    refine ok.ite (fun h2 => ok.some ⟨fun e => (by cases e), fun t => ?_⟩) (fun h2 => ?_)
    · have := (t.2 i hi).1; omega
    · refine t40_1 hn (by omega) (hs _ (List.getElem_mem hi)) (fun hy => ?_) (fun o ho g => ⟨fun e => (by cases e), fun t => absurd ((t.2 i hi).2 o ho) g⟩) n 0 (by omega) (by omega) (fun j' _ h => by omega)
      rw [wb i T.length (by omega) (by omega)]
      exact t40_0 hn hT hs k (i + 1) (by omega) (by omega) (rowOk_iff hp hi ⟨by omega, hy⟩)
theorem t40 {n : Nat} (hn : 2000000 ≤ n) {T : Td} (hs : TSz T) : ok (F40 n T) fun r => r.1 = true ↔ TOk n T := by
  unfold F40 st40
  refine ok.ite (fun h => ok.some ⟨fun e => (by cases e), fun t => ?_⟩) (fun h => ?_)
  · have := t.1; omega
  · exact t40_0 hn (by omega) hs n 0 (by omega) (by omega) (fun i' _ h => by omega)
/-- The reference. -/
theorem t17_1 {n : Nat} (hn : 2000000 ≤ n) {Q : Bool × Unit → Prop} {g0 : Td → Int → Option (Bool × Unit)} {T : Td} {i : Nat} (hi : i < T.length) (hl : T[i].length ≤ 10) (hs : ∀ o ∈ T[i], o.2.1.size ≤ 1048576)
    (hy : (∀ o ∈ T[i], gd n i o) → ok (g0 T (wrap64 ((i : Int) + 1))) Q) (hno : ∀ o ∈ T[i], ¬ gd n i o → Q (false, ())) :
    ∀ (k j : Nat), j ≤ T[i].length → T[i].length - j < k → (∀ j' (h : j' < T[i].length), j' < j → gd n i T[i][j']) → ok (lp17_1 n g0 k T (i : Int) (j : Int)) Q
  | 0, j, h, hk, hp => by omega
  | k + 1, j, h, hk, hp => by
    show ok (st17_1 n g0 (lp17_1 n g0 k) T (i : Int) (j : Int)) Q
    unfold st17_1
    rw [rdOf_nat hi]
    refine ok.guard (by omega) (ok.guard (by omega) (ok.ite (fun h1 => ok.guard (by omega) (ok.guard (by omega) (ok.guard (by omega) (ok.guard h1 ?_)))) (fun h1 => hy fun o ho => ?_)))
    · have hj : j < T[i].length := by omega
      rw [rdOf_nat hj, wb j T[i].length (by omega) (by omega)]
      have hm := List.getElem_mem hj
      refine ok.run (f13 hn (hs _ hm)) (ok.iteb (fun h2 => ok.some (hno _ hm fun g => ?_)) (fun h2 => ok.iteb (fun h3 => ok.some (hno _ hm fun g => ?_)) (fun h3 => ?_)))
      · have h2 : (!(opB n T[i][j].1 T[i][j].2.1 T[i][j].2.2.1 T[i][j].2.2.2)) = true := h2
        rw [g.1] at h2; cases h2
      · exact beq_iff3.1 h3 g.2
      · refine t17_1 hn hi hl hs hy hno k (j + 1) (by omega) (by omega) (step3 hj hp ⟨by simpa using h2, ?_⟩)
        by_cases q : (T[i][j].1 = 3 ↔ (i : Int) = 3)
        · exact q
        · rw [beq_iff3.2 q] at h3; cases h3
    · obtain ⟨j', h', rfl⟩ := List.getElem_of_mem ho
      exact hp j' h' (by omega)
theorem t17_0 {n : Nat} (hn : 2000000 ≤ n) {T : Td} (hT : T.length ≤ 1000) (hs : TSz T) : ∀ (k i : Nat), i ≤ T.length → T.length - i < k → (∀ i' (h : i' < T.length), i' < i → rowOk n (i' : Int) T[i']) → ok (lp17_0 n k T (i : Int)) fun r => r.1 = true ↔ TOk n T
  | 0, i, h, hk, hp => by omega
  | k + 1, i, h, hk, hp => by
    show ok (st17_0 n (lp17_1 n (lp17_0 n k) n) (lp17_0 n k) T (i : Int)) _
    unfold st17_0
    refine ok.ite (fun h1 => ok.guard (by omega) (ok.guard h1 ?_)) (fun h1 => ok.some ⟨fun e => ⟨?_, fun i' h' => hp i' h' (by omega)⟩, fun t => ?_⟩)
    · have hi : i < T.length := by omega
      rw [rdOf_nat hi]
      refine ok.ite (fun h2 => ok.some ⟨fun e => (by cases e), fun t => ?_⟩) (fun h2 => ?_)
      · have := (t.2 i hi).1; omega
      · refine t17_1 hn hi (by omega) (hs _ (List.getElem_mem hi)) (fun hy => ?_) (fun o ho g => ⟨fun e => (by cases e), fun t => absurd ((t.2 i hi).2 o ho) g⟩) n 0 (by omega) (by omega) (fun j' _ h => by omega)
        rw [wb i T.length (by omega) (by omega)]
        exact t17_0 hn hT hs k (i + 1) (by omega) (by omega) (rowOk_iff hp hi ⟨by omega, hy⟩)
    · have e : decide ((T.length : Int) = 4) = true := e
      have := of_decide_eq_true e
      omega
    · have := t.1
      exact decide_eq_true (by omega)
theorem t17 {n : Nat} (hn : 2000000 ≤ n) {T : Td} (hT : T.length ≤ 1000) (hs : TSz T) : ok (F17 n T) fun r => r.1 = true ↔ TOk n T := by
  unfold F17 st17
  exact t17_0 hn hT hs n 0 (by omega) (by omega) (fun i' _ h => by omega)
/-- The text of a todo. -/
def opX (o : Op4) : ByteArray := opT o.1 o.2.1 o.2.2.1 o.2.2.2
def lnB (i : Int) (o : Op4) : ByteArray := (dB i ++ (⟨#[32]⟩ : ByteArray)) ++ opX o
def tdL : Nat → Td → List ByteArray
  | _, [] => []
  | i, l :: T => l.map (lnB (i : Int)) ++ tdL (i + 1) T
def flat (L : List ByteArray) : List UInt8 := (L.map fun x => x.data.toList ++ [10]).flatten
theorem flat_app (A B : List ByteArray) : flat (A ++ B) = flat A ++ flat B := by simp [flat]
theorem flat_snoc (A : List ByteArray) (x : ByteArray) : flat (A ++ [x]) = flat A ++ (x.data.toList ++ [10]) := by simp [flat]
theorem tdL_drop {T : Td} {i : Nat} (h : i < T.length) : tdL i (T.drop i) = T[i].map (lnB (i : Int)) ++ tdL (i + 1) (T.drop (i + 1)) := by
  rw [List.drop_eq_getElem_cons h]; rfl
theorem lnB_size {i : Nat} (hi : i ≤ 9) {o : Op4} {n : Nat} (hn : 2000000 ≤ n) (h : opB n o.1 o.2.1 o.2.2.1 o.2.2.2 = true) (hs : o.2.1.size ≤ 1048576) : (lnB (i : Int) o).size ≤ 62 := by
  have := opT_size (oOk hn hs h)
  have hd := dB_size (i := (i : Int)) (by omega) (by omega)
  unfold lnB opX
  simp only [ByteArray.size_append]
  have e1 : (⟨#[32]⟩ : ByteArray).size = 1 := rfl
  omega
theorem size_list {s : ByteArray} {L : List UInt8} (h : s.data.toList = L) : s.size = L.length := by rw [← h, sz_list]
theorem list_app (a b : ByteArray) : (a ++ b).data.toList = a.data.toList ++ b.data.toList := by rw [ByteArray.data_append, Array.toList_append]
theorem t16_1 {n : Nat} (hn : 2000000 ≤ n) {Q : ByteArray × Unit → Prop} {g0 : ByteArray → Td → Int → Int → Option (ByteArray × Unit)} {T : Td} {i : Nat} (hi : i ≤ 9) {N : Int} {l : List Op4} (hl : rowOk n (i : Int) l) (hs : ∀ o ∈ l, o.2.1.size ≤ 1048576) {s : ByteArray} (hz : s.size ≤ 100000)
    (hy : ∀ x : ByteArray, x.size ≤ s.size + 630 → x.data.toList = s.data.toList ++ flat (l.map (lnB (i : Int))) → ok (g0 x T N (wrap64 ((i : Int) + 1))) Q) :
    ∀ (k j : Nat) (x : ByteArray), j ≤ l.length → l.length - j < k → x.size ≤ s.size + 63 * j → x.data.toList = s.data.toList ++ flat ((l.take j).map (lnB (i : Int))) → ok (lp16_1 n g0 k x (i : Int) T N (i : Int) l (l.length : Int) (j : Int)) Q
  | 0, j, x, h, hk, hx, hp => by omega
  | k + 1, j, x, h, hk, hx, hp => by
    have h10 := hl.1
    show ok (st16_1 n g0 (lp16_1 n g0 k) x (i : Int) T N (i : Int) l (l.length : Int) (j : Int)) Q
    unfold st16_1
    refine ok.ite (fun h1 => ok.guard (by omega) (ok.guard h1 ?_)) (fun h1 => hy x (by omega) ?_)
    · have hj : j < l.length := by omega
      rw [rdOf_nat hj, wb j l.length (by omega) (by omega)]
      have hm := List.getElem_mem hj
      have hg := (hl.2 _ hm).1
      have hsz := lnB_size hi hn hg (hs _ hm)
      have e1 : (⟨#[32]⟩ : ByteArray).size = 1 := rfl
      have e2 : (⟨#[10]⟩ : ByteArray).size = 1 := rfl
      have hu : (dB (i : Int)).size + 1 + (opX l[j]).size ≤ 62 := by
        unfold lnB at hsz
        simp only [ByteArray.size_append, e1] at hsz
        exact hsz
      refine ok.run (t33 (by omega) (by omega)) (ok.guard ?_ (ok.run (f12_ok hn (hs _ hm) hg) ?_))
      · show (dB (i : Int)).size + (⟨#[32]⟩ : ByteArray).size ≤ 9223372036854775807
        omega
      · refine ok.guard ?_ (ok.guard ?_ (ok.guard ?_ ?_))
        · show ((dB (i : Int)) ++ (⟨#[32]⟩ : ByteArray)).size + (opX l[j]).size ≤ 9223372036854775807
          rw [ByteArray.size_append]
          omega
        · show (lnB (i : Int) l[j]).size + (⟨#[10]⟩ : ByteArray).size ≤ 9223372036854775807
          omega
        · show x.size + (lnB (i : Int) l[j] ++ (⟨#[10]⟩ : ByteArray)).size ≤ 9223372036854775807
          rw [ByteArray.size_append]
          omega
        · refine t16_1 hn hi hl hs hz hy k (j + 1) (x ++ (lnB (i : Int) l[j] ++ (⟨#[10]⟩ : ByteArray))) (by omega) (by omega) ?_ ?_
          · rw [ByteArray.size_append, ByteArray.size_append]
            omega
          · rw [list_app, list_app, hp, List.take_succ_eq_append_getElem hj, List.map_append, List.map_cons, List.map_nil, flat_snoc, List.append_assoc]
    · rw [hp, List.take_of_length_le (by omega)]
theorem t16_0 {n : Nat} (hn : 2000000 ≤ n) {T : Td} (hT : TOk n T) (hs : TSz T) : ∀ (k i : Nat) (x : ByteArray), i ≤ T.length → T.length - i < k → x.size ≤ 630 * i → x.data.toList ++ flat (tdL i (T.drop i)) = flat (tdL 0 T) → ok (lp16_0 n k x T (T.length : Int) (i : Int)) fun r => r.1.data.toList = flat (tdL 0 T) ∧ r.1.size ≤ 3000
  | 0, i, x, h, hk, hx, hp => by omega
  | k + 1, i, x, h, hk, hx, hp => by
    have h4 := hT.1
    show ok (st16_0 n (lp16_1 n (lp16_0 n k) n) (lp16_0 n k) x T (T.length : Int) (i : Int)) _
    unfold st16_0
    refine ok.ite (fun h1 => ok.guard (by omega) (ok.guard h1 ?_)) (fun h1 => ok.some ⟨?_, by show x.size ≤ 3000; omega⟩)
    · have hi : i < T.length := by omega
      rw [rdOf_nat hi]
      refine t16_1 hn (by omega) (hT.2 i hi) (hs _ (List.getElem_mem hi)) (s := x) (by omega) (fun y hy1 hy2 => ?_) n 0 x (by omega) (by have := (hT.2 i hi).1; omega) (by omega) (by simp [flat])
      rw [wb i T.length (by omega) (by omega)]
      refine t16_0 hn hT hs k (i + 1) y (by omega) (by omega) (by omega) ?_
      rw [hy2, ← hp, tdL_drop hi, flat_app, List.append_assoc]
    · rw [← hp, List.drop_eq_nil_of_le (by omega)]
      simp [tdL, flat]
theorem t16 {n : Nat} (hn : 2000000 ≤ n) {T : Td} (hT : TOk n T) (hs : TSz T) : ok (F16 n T) fun r => r.1.data.toList = flat (tdL 0 T) ∧ r.1.size ≤ 3000 := by
  unfold F16 st16
  refine (t40 hn hs).bind fun r1 q1 => ok.iteb (fun h => ?_) (fun h => ?_)
  · rw [q1.2 hT] at h; cases h
  · exact t16_0 hn hT hs n 0 ⟨#[]⟩ (by omega) (by have := hT.1; omega) (by decide) rfl
theorem t16n {n : Nat} (hn : 2000000 ≤ n) {T : Td} (hT : ¬ TOk n T) (hs : TSz T) : ok (F16 n T) fun r => r = (⟨#[]⟩, ()) := by
  unfold F16 st16
  refine (t40 hn hs).bind fun r1 q1 => ok.iteb (fun h => ok.some rfl) (fun h => ?_)
  exact absurd (q1.1 (by simpa using h)) hT
theorem t41_1 {n : Nat} (hn : 2000000 ≤ n) {Q : ByteArray × Unit → Prop} {g0 : Td → ByteArray → Int → Option (ByteArray × Unit)} {T : Td} {i : Nat} (hiT : i < T.length) (hi : i ≤ 9) (hl : rowOk n (i : Int) T[i]) (hs : ∀ o ∈ T[i], o.2.1.size ≤ 1048576) {s : ByteArray} (hz : s.size ≤ 100000)
    (hy : ∀ x : ByteArray, x.size ≤ s.size + 630 → x.data.toList = s.data.toList ++ flat (T[i].map (lnB (i : Int))) → ok (g0 T x (wrap64 ((i : Int) + 1))) Q) :
    ∀ (k j : Nat) (x : ByteArray), j ≤ T[i].length → T[i].length - j < k → x.size ≤ s.size + 63 * j → x.data.toList = s.data.toList ++ flat ((T[i].take j).map (lnB (i : Int))) → ok (lp41_1 n g0 k T x (i : Int) (j : Int)) Q
  | 0, j, x, h, hk, hx, hp => by omega
  | k + 1, j, x, h, hk, hx, hp => by
    have h10 := hl.1
    show ok (st41_1 n g0 (lp41_1 n g0 k) T x (i : Int) (j : Int)) Q
    unfold st41_1
    rw [rdOf_nat hiT]
    refine ok.guard (by omega) (ok.guard (by omega) (ok.ite (fun h1 => ?_) (fun h1 => hy x (by omega) ?_)))
    · have hj : j < T[i].length := by omega
      rw [rdOf_nat hj, wb j T[i].length (by omega) (by omega)]
      have hm := List.getElem_mem hj
      have hg := (hl.2 _ hm).1
      have hsz := lnB_size hi hn hg (hs _ hm)
      have e1 : (⟨#[32]⟩ : ByteArray).size = 1 := rfl
      have e2 : (⟨#[10]⟩ : ByteArray).size = 1 := rfl
      have hu : (dB (i : Int)).size + 1 + (opX T[i][j]).size ≤ 62 := by
        unfold lnB at hsz
        simp only [ByteArray.size_append, e1] at hsz
        exact hsz
      refine ok.run (t63 (by omega) (by omega)) (ok.guard ?_ (ok.guard ?_ (ok.guard (by omega) (ok.guard (by omega) (ok.guard (by omega) (ok.guard h1 (ok.run (f64_ok hn (hs _ hm) hg) (ok.guard ?_ (ok.guard ?_ ?_)))))))))
      · show x.size + (dB (i : Int)).size ≤ 9223372036854775807
        omega
      · show (x ++ dB (i : Int)).size + (⟨#[32]⟩ : ByteArray).size ≤ 9223372036854775807
        rw [ByteArray.size_append]
        omega
      · show ((x ++ dB (i : Int)) ++ (⟨#[32]⟩ : ByteArray)).size + (opX T[i][j]).size ≤ 9223372036854775807
        rw [ByteArray.size_append, ByteArray.size_append]
        omega
      · show (((x ++ dB (i : Int)) ++ (⟨#[32]⟩ : ByteArray)) ++ opX T[i][j]).size + (⟨#[10]⟩ : ByteArray).size ≤ 9223372036854775807
        rw [ByteArray.size_append, ByteArray.size_append, ByteArray.size_append]
        omega
      · refine t41_1 hn hiT hi hl hs hz hy k (j + 1) ((((x ++ dB (i : Int)) ++ (⟨#[32]⟩ : ByteArray)) ++ opX T[i][j]) ++ (⟨#[10]⟩ : ByteArray)) (by omega) (by omega) ?_ ?_
        · rw [ByteArray.size_append, ByteArray.size_append, ByteArray.size_append, ByteArray.size_append]
          omega
        · rw [list_app, list_app, list_app, list_app, hp, List.take_succ_eq_append_getElem hj, List.map_append, List.map_cons, List.map_nil, flat_snoc]
          unfold lnB
          rw [list_app, list_app]
          simp only [List.append_assoc]
    · rw [hp, List.take_of_length_le (by omega)]
theorem t41_0 {n : Nat} (hn : 2000000 ≤ n) {T : Td} (hT : TOk n T) (hs : TSz T) : ∀ (k i : Nat) (x : ByteArray), i ≤ T.length → T.length - i < k → x.size ≤ 630 * i → x.data.toList ++ flat (tdL i (T.drop i)) = flat (tdL 0 T) → ok (lp41_0 n k T x (i : Int)) fun r => r.1.data.toList = flat (tdL 0 T) ∧ r.1.size ≤ 3000
  | 0, i, x, h, hk, hx, hp => by omega
  | k + 1, i, x, h, hk, hx, hp => by
    have h4 := hT.1
    show ok (st41_0 n (lp41_1 n (lp41_0 n k) n) (lp41_0 n k) T x (i : Int)) _
    unfold st41_0
    refine ok.ite (fun h1 => (t17 hn (by omega) hs).bind fun r1 q1 => ok.iteb (fun _ => ?_) (fun h2 => ?_)) (fun h1 => ok.some ⟨?_, by show x.size ≤ 3000; omega⟩)
    · have hi : i < T.length := by omega
      refine t41_1 hn hi (by omega) (hT.2 i hi) (hs _ (List.getElem_mem hi)) (s := x) (by omega) (fun y hy1 hy2 => ?_) n 0 x (by omega) (by have := (hT.2 i hi).1; omega) (by omega) (by simp [flat])
      rw [wb i T.length (by omega) (by omega)]
      refine t41_0 hn hT hs k (i + 1) y (by omega) (by omega) (by omega) ?_
      rw [hy2, ← hp, tdL_drop hi, flat_app, List.append_assoc]
    · rw [q1.2 hT] at h2; cases h2
    · rw [← hp, List.drop_eq_nil_of_le (by omega)]
      simp [tdL, flat]
theorem t41 {n : Nat} (hn : 2000000 ≤ n) {T : Td} (hT : TOk n T) (hs : TSz T) : ok (F41 n T) fun r => r.1.data.toList = flat (tdL 0 T) ∧ r.1.size ≤ 3000 := by
  unfold F41 st41
  exact t41_0 hn hT hs n 0 ⟨#[]⟩ (by omega) (by have := hT.1; omega) (by decide) rfl
end Go.Eva
end
section
/- Todos read from texts. -/
namespace Go.Eva
open Go.RowKit (wrap64)
set_option linter.unusedVariables false
set_option linter.unusedSimpArgs false

theorem cut_len (L S : List UInt8) : (Go.Lib.cut L S).1.length ≤ L.length ∧ (Go.Lib.cut L S).2.1.length ≤ L.length := by
  unfold Go.Lib.cut
  split
  · simp only [List.length_take, List.length_drop]; omega
  · simp
def neB (x : ByteArray) : Bool := !decide (x.toList = (⟨#[]⟩ : ByteArray).toList)
theorem spC_cnt {c : UInt8} : ∀ L : List UInt8, (spC c L).length ≤ L.length + 1
  | [] => by simp [spC]
  | b :: bs => by
    have ih := spC_cnt (c := c) bs
    rw [spC]
    split
    · simp only [List.length_cons]; omega
    · split
      · simp
      · rename_i w ws e
        rw [e] at ih
        simp only [List.length_cons] at ih ⊢
        omega
theorem words_cnt {c : UInt8} {W : List ByteArray} {s : ByteArray} (h : W.map (fun x => x.data.toList) = spC c s.data.toList) : W.length ≤ s.size + 1 := by
  have := congrArg List.length h
  rw [List.length_map] at this
  have h2 := spC_cnt (c := c) s.data.toList
  rw [sz_list] at h2
  omega
theorem t37_0 {n : Nat} {W : List ByteArray} (hW : W.length ≤ 1048577) : ∀ (k i : Nat) (out : List ByteArray), i ≤ W.length → W.length - i < k → out.length ≤ i → ok (lp37_0 n k (W.length : Int) (i : Int) out W) fun r => r.1 = out ++ (W.drop i).filter neB
  | 0, i, out, h, hk, ho => by omega
  | k + 1, i, out, h, hk, ho => by
    show ok (st37_0 n (lp37_0 n k) (W.length : Int) (i : Int) out W) _
    unfold st37_0
    refine ok.ite (fun h1 => ok.guard (by omega) (ok.guard h1 ?_)) (fun h1 => ok.some ?_)
    · have hi : i < W.length := by omega
      rw [rdOf_nat hi, w1 (n := 1048578) (by omega) (by omega)]
      have hd : W.drop i = W[i] :: W.drop (i + 1) := List.drop_eq_getElem_cons hi
      refine ok.iteb (fun h2 => ok.guard (by simp only [List.length_cons, List.length_nil]; omega) ?_) (fun h2 => ?_)
      · refine (t37_0 hW k (i + 1) _ (by omega) (by omega) (by simp only [List.length_append, List.length_cons, List.length_nil]; omega)).mono fun r q => ?_
        rw [q, hd, List.filter_cons, if_pos (show neB W[i] = true from h2), List.append_assoc]
        rfl
      · refine (t37_0 hW k (i + 1) out (by omega) (by omega) (by omega)).mono fun r q => ?_
        rw [q, hd, List.filter_cons, if_neg (by rw [show neB W[i] = false from h2]; decide)]
    · show out = _
      rw [List.drop_eq_nil_of_le (by omega)]
      simp
theorem t37 {n : Nat} (hn : 2000000 ≤ n) {s : ByteArray} (hs : s.size ≤ 1048576) : ok (F37 n s) fun r => ∃ W : List ByteArray, W.map (fun x => x.data.toList) = spC 10 s.data.toList ∧ r.1 = W.filter neB := by
  unfold F37 st37
  refine (t28 hs rfl).bind fun r1 q1 => ?_
  have hc := words_cnt q1
  refine (t37_0 (W := r1.1) (by omega) n 0 [] (by omega) (by omega) (Nat.le_refl _)).mono fun r q => ⟨r1.1, q1, ?_⟩
  rw [q]; simp
theorem f38 {n : Nat} {s c : ByteArray} (hs : s.size ≤ 1048576) : F38 n s c = some (⟨(Go.Lib.cut s.data.toList c.data.toList).1.toArray⟩, ⟨(Go.Lib.cut s.data.toList c.data.toList).2.1.toArray⟩, (Go.Lib.cut s.data.toList c.data.toList).2.2, ()) := by
  unfold F38 cutF
  rw [if_pos (decide_eq_true (by omega))]
def ResT (n : Nat) (s0 : ByteArray) (r : Td × Bool × Unit) : Prop := r.2.1 = true → TOk n r.1 ∧ TSz r.1 ∧ flat (tdL 0 r.1) = s0.data.toList
abbrev no4 : Td × Bool × Unit := (([] : Td), false, ())
theorem put_ok {T : Td} {i j : Nat} {o : Op4} (hi : i < T.length) (hs : TSz T) (hl : ∀ l ∈ T, l.length ≤ j) (ho : o.2.1.size ≤ 1048576) : TSz (T.set i (T[i] ++ [o])) ∧ (∀ l ∈ T.set i (T[i] ++ [o]), l.length ≤ j + 1) := by
  refine ⟨fun l hm q hq => ?_, fun l hm => ?_⟩
  · rcases List.mem_or_eq_of_mem_set hm with h | rfl
    · exact hs l h q hq
    · rcases List.mem_append.1 hq with h | h
      · exact hs _ (List.getElem_mem hi) q h
      · rw [List.mem_singleton.1 h]; exact ho
  · rcases List.mem_or_eq_of_mem_set hm with h | rfl
    · have := hl l h; omega
    · have := hl _ (List.getElem_mem hi)
      simp only [List.length_append, List.length_cons, List.length_nil]; omega
theorem fin15 {n : Nat} (hn : 2000000 ≤ n) {T : Td} (hs : TSz T) {s0 : ByteArray} :
    ok ((F40 n T).bind fun r6 => if (!r6.1) = true then some no4 else (F16 n T).bind fun r7 => if (!decide (r7.1.toList = s0.toList)) = true then some no4 else some (T, true, ())) (ResT n s0) := by
  refine (t40 hn hs).bind fun r6 q6 => ok.iteb (fun _ => ok.some fun h => by cases h) (fun h6 => ?_)
  have hT := q6.1 (by simpa using h6)
  refine (t16 hn hT hs).bind fun r7 q7 => ok.iteb (fun _ => ok.some fun h => by cases h) (fun h7 => ok.some fun _ => ⟨hT, hs, ?_⟩)
  have h7 : r7.1.toList = s0.toList := by simpa using h7
  rw [← tl_eq h7]
  exact q7.1.symm
theorem fin15c {n : Nat} (hn : 2000000 ≤ n) {T : Td} (hs : TSz T) (hT : TOk n T) {s0 : ByteArray} (h0 : flat (tdL 0 T) = s0.data.toList) :
    ok ((F40 n T).bind fun r6 => if (!r6.1) = true then some no4 else (F16 n T).bind fun r7 => if (!decide (r7.1.toList = s0.toList)) = true then some no4 else some (T, true, ())) fun r => r = (T, true, ()) := by
  refine (t40 hn hs).bind fun r6 q6 => ok.iteb (fun h6 => ?_) (fun h6 => ?_)
  · rw [q6.2 hT] at h6; cases h6
  · refine (t16 hn hT hs).bind fun r7 q7 => ok.iteb (fun h7 => ?_) (fun h7 => ok.some rfl)
    have e : r7.1 = s0 := ba_ext (q7.1.trans h0)
    rw [e] at h7
    simp at h7
theorem t15_0 {n : Nat} (hn : 2000000 ≤ n) {s0 : ByteArray} {W : List ByteArray} (hc : W.length ≤ 1048577) (hW : ∀ x ∈ W, x.size ≤ 1048576) : ∀ (k i : Nat) (T : Td), i ≤ W.length → W.length - i < k → T.length = 4 → (∀ l ∈ T, l.length ≤ i) → TSz T → ok (lp15_0 n k s0 (W.length : Int) (i : Int) T W) (ResT n s0)
  | 0, i, T, h, hk, h4, hl, hs => by omega
  | k + 1, i, T, h, hk, h4, hl, hs => by
    show ok (st15_0 n (lp15_0 n k) s0 (W.length : Int) (i : Int) T W) _
    unfold st15_0
    refine ok.ite (fun h1 => ok.guard (by omega) (ok.guard h1 ?_)) (fun h1 => fin15 hn hs)
    have hi : i < W.length := by omega
    rw [rdOf_nat hi, w1 (n := 1048578) (by omega) (by omega)]
    have hw := hW _ (List.getElem_mem hi)
    have hcl := cut_len W[i].data.toList (⟨#[32]⟩ : ByteArray).data.toList
    rw [sz_list] at hcl
    refine ok.run (f38 hw) ?_
    obtain ⟨C1, hC1⟩ : ∃ C, C = (⟨(Go.Lib.cut W[i].data.toList (⟨#[32]⟩ : ByteArray).data.toList).1.toArray⟩ : ByteArray) := ⟨_, rfl⟩
    obtain ⟨C2, hC2⟩ : ∃ C, C = (⟨(Go.Lib.cut W[i].data.toList (⟨#[32]⟩ : ByteArray).data.toList).2.1.toArray⟩ : ByteArray) := ⟨_, rfl⟩
    have s1 : C1.size ≤ 1048576 := by
      rw [hC1]
      show Array.size (List.toArray _) ≤ _
      rw [List.size_toArray]
      omega
    have s2 : C2.size ≤ 1048576 := by
      rw [hC2]
      show Array.size (List.toArray _) ≤ _
      rw [List.size_toArray]
      omega
    rw [← hC1, ← hC2]
    refine (t49t s1 hn).bind fun r3 _ => (t11s hn s2).bind fun r4 q4 => ok.iteb (fun _ => ok.some fun h => by cases h) (fun _ => ok.iteb (fun _ => ok.some fun h => by cases h) (fun h4' => ok.run f39 (ok.iteb (fun _ => ok.some fun h => by cases h) (fun h5 => ?_))))
    have O := q4 (by simpa using h4')
    have h5 : inr r3.1 0 3 = true := by simpa using h5
    have h5 := of_decide_eq_true h5
    obtain ⟨m, hm⟩ := Int.eq_ofNat_of_zero_le h5.1
    have hmT : m < T.length := by omega
    have hl' := hl _ (List.getElem_mem hmT)
    rw [hm, rdOf_nat hmT, Int.toNat_natCast]
    refine ok.guard (by omega) (ok.guard (by omega) (ok.guard (by simp only [List.length_cons, List.length_nil]; omega) (ok.guard (by omega) (ok.guard (by omega) (ok.guard rfl ?_)))))
    have P := put_ok (i := m) (j := i) (o := (r4.1, r4.2.1, r4.2.2.1, r4.2.2.2.1)) hmT hs hl O.2.1
    exact t15_0 hn hc hW k (i + 1) _ (by omega) (by omega) (by rw [List.length_set]; exact h4) P.2 P.1
theorem rep4 : (List.replicate (4 : Int).toNat ([] : List Op4)) = [[], [], [], []] := rfl
theorem sz4 : TSz [[], [], [], []] := fun l hl o ho => by
  simp only [List.mem_cons, List.not_mem_nil, or_false, or_self] at hl
  rw [hl] at ho
  cases ho
theorem t15 {n : Nat} (hn : 2000000 ≤ n) {s : ByteArray} (hs : s.size ≤ 1048576) : ok (F15 n s) (ResT n s) := by
  unfold F15 st15
  refine ok.guard (by decide) (ok.guard (by decide) (ok.guard (by decide) ((t37 hn hs).bind fun r1 q1 => ?_)))
  obtain ⟨W, e, q⟩ := q1
  rw [q, rep4]
  have hc := words_cnt e
  have hf : (W.filter neB).length ≤ W.length := List.length_filter_le _ _
  refine t15_0 hn (by omega) (fun x hx => ?_) n 0 _ (by omega) (by omega) rfl (fun l hl => ?_) sz4
  · have := words_le e x (List.mem_filter.1 hx).1; omega
  · simp only [List.mem_cons, List.not_mem_nil, or_false, or_self] at hl
    rw [hl]; exact Nat.le_refl _
theorem fin19 {n : Nat} (hn : 2000000 ≤ n) {T : Td} (h4 : T.length ≤ 1000) (hs : TSz T) {s0 : ByteArray} :
    ok ((F17 n T).bind fun r6 => if (!r6.1) = true then some no4 else (F41 n T).bind fun r7 => if (!decide (r7.1.toList = s0.toList)) = true then some no4 else some (T, true, ())) (ResT n s0) := by
  refine (t17 hn h4 hs).bind fun r6 q6 => ok.iteb (fun _ => ok.some fun h => by cases h) (fun h6 => ?_)
  have hT := q6.1 (by simpa using h6)
  refine (t41 hn hT hs).bind fun r7 q7 => ok.iteb (fun _ => ok.some fun h => by cases h) (fun h7 => ok.some fun _ => ⟨hT, hs, ?_⟩)
  have h7 : r7.1.toList = s0.toList := by simpa using h7
  rw [← tl_eq h7]
  exact q7.1.symm
theorem fin19c {n : Nat} (hn : 2000000 ≤ n) {T : Td} (hs : TSz T) (hT : TOk n T) {s0 : ByteArray} (h0 : flat (tdL 0 T) = s0.data.toList) :
    ok ((F17 n T).bind fun r6 => if (!r6.1) = true then some no4 else (F41 n T).bind fun r7 => if (!decide (r7.1.toList = s0.toList)) = true then some no4 else some (T, true, ())) fun r => r = (T, true, ()) := by
  refine (t17 hn (by have := hT.1; omega) hs).bind fun r6 q6 => ok.iteb (fun h6 => ?_) (fun h6 => ?_)
  · rw [q6.2 hT] at h6; cases h6
  · refine (t41 hn hT hs).bind fun r7 q7 => ok.iteb (fun h7 => ?_) (fun h7 => ok.some rfl)
    have e : r7.1 = s0 := ba_ext (q7.1.trans h0)
    rw [e] at h7
    simp at h7
theorem t19_0 {n : Nat} (hn : 2000000 ≤ n) {s0 : ByteArray} {W : List ByteArray} (hc : W.length ≤ 1048577) (hW : ∀ x ∈ W, x.size ≤ 1048576) : ∀ (k i : Nat) (T : Td), i ≤ W.length → W.length - i < k → T.length = 4 → (∀ l ∈ T, l.length ≤ i) → TSz T → ok (lp19_0 n k s0 (i : Int) T W) (ResT n s0)
  | 0, i, T, h, hk, h4, hl, hs => by omega
  | k + 1, i, T, h, hk, h4, hl, hs => by
    show ok (st19_0 n (lp19_0 n k) s0 (i : Int) T W) _
    unfold st19_0
    rw [w1 (n := 1048578) (by omega) (by omega)]
    refine ok.ite (fun h1 => ok.guard (by omega) (ok.guard (by omega) ?_)) (fun h1 => fin19 hn (by omega) hs)
    have hi : i < W.length := by omega
    rw [rdOf_nat hi]
    have hw := hW _ (List.getElem_mem hi)
    obtain ⟨D, hD⟩ : ∃ D, D = wrap64 ((wrap64 (bt W[i] (0 : Int))) - 48) := ⟨_, rfl⟩
    rw [← hD]
    refine ok.ite (fun _ => ok.some fun h => by cases h) (fun h3 => ok.guard (by omega) (ok.guard (by omega) (ok.guard (by decide) (ok.guard (by omega) (ok.guard (by omega) (ok.guard (by omega) (ok.guard (by decide) (ok.guard (by omega) (ok.guard (Int.le_refl _) ?_)))))))))
    have s2 : (W[i].extract (2 : Int).toNat (W[i].size : Int).toNat).size ≤ 1048576 := by rw [ByteArray.size_extract]; omega
    refine (t47s hn s2).bind fun r4 q4 => ok.iteb (fun _ => ok.some fun h => by cases h) (fun h4' => ok.run f26 (ok.iteb (fun _ => ok.some fun h => by cases h) (fun h5 => ?_)))
    have O := q4 (by simpa using h4')
    have h5 : inr D 0 3 = true := by simpa using h5
    have h5 := of_decide_eq_true h5
    obtain ⟨m, hm⟩ := Int.eq_ofNat_of_zero_le h5.1
    have hmT : m < T.length := by omega
    have hl' := hl _ (List.getElem_mem hmT)
    rw [hm, rdOf_nat hmT, Int.toNat_natCast]
    refine ok.guard (by omega) (ok.guard (by omega) (ok.guard (by simp only [List.length_cons, List.length_nil]; omega) (ok.guard (by omega) (ok.guard (by omega) (ok.guard rfl ?_)))))
    have P := put_ok (i := m) (j := i) (o := (r4.1, r4.2.1, r4.2.2.1, r4.2.2.2.1)) hmT hs hl O.2.1
    exact t19_0 hn hc hW k (i + 1) _ (by omega) (by omega) (by rw [List.length_set]; exact h4) P.2 P.1
theorem t19 {n : Nat} (hn : 2000000 ≤ n) {s : ByteArray} (hs : s.size ≤ 1048576) : ok (F19 n s) (ResT n s) := by
  unfold F19 st19
  refine ok.guard (by decide) (ok.guard (by decide) (ok.guard (by decide) ((t46c (c := 10) hs hn rfl).bind fun r1 q1 => ?_)))
  rw [rep4]
  have hc := words_cnt q1
  refine t19_0 hn (by omega) (fun x hx => ?_) n 0 _ (by omega) (by omega) rfl (fun l hl => ?_) sz4
  · have := words_le q1 x hx; omega
  · simp only [List.mem_cons, List.not_mem_nil, or_false, or_self] at hl
    rw [hl]; exact Nat.le_refl _
end Go.Eva
end
section
/- A todo's text is read as that todo. -/
namespace Go.Eva
open Go.RowKit (wrap64)
set_option linter.unusedVariables false
set_option linter.unusedSimpArgs false

def prs : Nat → Td → List (Nat × Op4)
  | _, [] => []
  | i, l :: T => l.map (fun o => (i, o)) ++ prs (i + 1) T
def lnP (p : Nat × Op4) : ByteArray := lnB (p.1 : Int) p.2
theorem tdL_prs : ∀ (T : Td) (i : Nat), tdL i T = (prs i T).map lnP
  | [], i => rfl
  | l :: T, i => by
    rw [tdL, prs, List.map_append, tdL_prs T (i + 1), List.map_map]
    rfl
def putO (T : Td) (p : Nat × Op4) : Td := T.set p.1 (rdOf [] T (p.1 : Int) ++ [p.2])
theorem put_len (T : Td) (p : Nat × Op4) : (putO T p).length = T.length := List.length_set
theorem fold_row (i : Nat) : ∀ (l : List Op4) (T : Td), i < T.length → (l.map (fun o => (i, o))).foldl putO T = T.set i (rdOf [] T (i : Int) ++ l)
  | [], T, h => by
    rw [rdOf_nat h]
    simp
  | o :: l, T, h => by
    rw [List.map_cons, List.foldl_cons, fold_row i l (putO T (i, o)) (by rw [put_len]; exact h)]
    unfold putO
    rw [rdOf_nat h, rdOf_nat (by rw [List.length_set]; exact h)]
    simp only [List.getElem_set_self, List.set_set, List.append_assoc]
    rfl
theorem fold_all {T : Td} (h : T.length = 4) : (prs 0 T).foldl putO [[], [], [], []] = T := by
  match T, h with
  | [a, b, c, d], _ =>
    show (a.map (fun o => (0, o)) ++ (b.map (fun o => (1, o)) ++ (c.map (fun o => (2, o)) ++ (d.map (fun o => (3, o)) ++ [])))).foldl putO [[], [], [], []] = [a, b, c, d]
    rw [List.append_nil, List.foldl_append, List.foldl_append, List.foldl_append, fold_row 0 a _ (by decide)]
    show (d.map (fun o => (3, o))).foldl putO ((c.map (fun o => (2, o))).foldl putO ((b.map (fun o => (1, o))).foldl putO [a, [], [], []])) = _
    rw [fold_row 1 b [a, [], [], []] (show 1 < 4 by decide)]
    show (d.map (fun o => (3, o))).foldl putO ((c.map (fun o => (2, o))).foldl putO [a, b, [], []]) = _
    rw [fold_row 2 c [a, b, [], []] (show 2 < 4 by decide)]
    show (d.map (fun o => (3, o))).foldl putO [a, b, c, []] = _
    rw [fold_row 3 d [a, b, c, []] (show 3 < 4 by decide)]
    rfl
def gP (n : Nat) (p : Nat × Op4) : Prop := p.1 ≤ 3 ∧ opB n p.2.1 p.2.2.1 p.2.2.2.1 p.2.2.2.2 = true ∧ p.2.2.1.size ≤ 1048576
theorem prs_ok {n : Nat} : ∀ (T : Td) (i : Nat), i + T.length ≤ 4 → (∀ (j : Nat) (h : j < T.length), rowOk n ((i + j : Nat) : Int) T[j]) → TSz T → ∀ p ∈ prs i T, gP n p
  | [], i, h, hr, hs, p, hp => by cases hp
  | l :: T, i, h, hr, hs, p, hp => by
    simp only [List.length_cons] at h
    rw [prs] at hp
    rcases List.mem_append.1 hp with hp | hp
    · obtain ⟨o, ho, rfl⟩ := List.mem_map.1 hp
      exact ⟨by show i ≤ 3; omega, ((hr 0 (by simp)).2 o ho).1, hs l (by simp) o ho⟩
    · refine prs_ok T (i + 1) (by omega) (fun j hj => ?_) (fun l' hl' => hs l' (by simp [hl'])) p hp
      have := hr (j + 1) (by simp only [List.length_cons]; omega)
      rw [show i + (j + 1) = i + 1 + j by omega] at this
      exact this
theorem prs_len : ∀ (T : Td) (i : Nat), (∀ l ∈ T, l.length ≤ 10) → (prs i T).length ≤ 10 * T.length
  | [], i, h => by simp [prs]
  | l :: T, i, h => by
    have := prs_len T (i + 1) (fun l hl => h l (by simp [hl]))
    have := h l (by simp)
    rw [prs]
    simp only [List.length_append, List.length_map, List.length_cons]
    omega
theorem op_no10 {n : Nat} (hn : 2000000 ≤ n) {k : Int} {s : ByteArray} {w v : Int} (hs : s.size ≤ 1048576) (h : opB n k s w v = true) : ∀ b ∈ (opT k s w v).data.toList, b ≠ 10 := by
  have O := oOk hn hs h
  rcases O.one with ⟨rfl, hw, rfl⟩ | ⟨rfl, rfl, hv⟩ | ⟨rfl, rfl, rfl, rfl⟩
  · have hk := (O.key (by decide)).1
    rw [opT_1]
    intro b hb
    simp only [List.mem_append, List.mem_cons, List.not_mem_nil, or_false] at hb
    rcases hb with (rfl | rfl | rfl) | rfl | hb | rfl | hb
    · decide
    · decide
    · decide
    · decide
    · exact (hk b hb).2
    · decide
    · exact (kw_sp w b hb).2
  · have hk := (O.key (by decide)).1
    obtain ⟨m, rfl⟩ := Int.eq_ofNat_of_zero_le hv.1
    rw [opT_2]
    intro b hb
    simp only [List.mem_append, List.mem_cons, List.not_mem_nil, or_false] at hb
    rcases hb with (rfl | rfl | rfl) | rfl | hb | rfl | hb
    · decide
    · decide
    · decide
    · decide
    · exact (hk b hb).2
    · decide
    · exact (dig_sp (by omega) b hb).2
  · rw [opT_3]
    decide
theorem lnP_list (p : Nat × Op4) : (lnP p).data.toList = (dB (p.1 : Int)).data.toList ++ 32 :: (opX p.2).data.toList := by
  unfold lnP lnB
  rw [list_app, list_app]
  simp only [List.append_assoc]
  rfl
theorem lnP_no10 {n : Nat} (hn : 2000000 ≤ n) {p : Nat × Op4} (h : gP n p) : ∀ b ∈ (lnP p).data.toList, b ≠ 10 := by
  rw [lnP_list]
  intro b hb
  simp only [List.mem_append, List.mem_cons] at hb
  rcases hb with hb | rfl | hb
  · have := h.1
    exact (dig_sp (by omega) b hb).2
  · decide
  · exact op_no10 hn h.2.2 h.2.1 b hb
theorem lnP_size {n : Nat} (hn : 2000000 ≤ n) {p : Nat × Op4} (h : gP n p) : 3 ≤ (lnP p).size ∧ (lnP p).size ≤ 62 := by
  have hz := opT_size (oOk hn h.2.2 h.2.1)
  have h1 := lnB_size (i := p.1) (by have := h.1; omega) hn h.2.1 h.2.2
  refine ⟨?_, h1⟩
  have := size_list (lnP_list p)
  rw [this]
  have hd : (opX p.2).data.toList.length = (opX p.2).size := sz_list _
  simp only [List.length_append, List.length_cons]
  rw [hd]
  unfold opX
  have := hz.2
  omega
theorem spC_flat {L : List ByteArray} (h : ∀ x ∈ L, ∀ b ∈ x.data.toList, b ≠ 10) : spC 10 (flat L) = (L ++ [(⟨#[]⟩ : ByteArray)]).map (fun x => x.data.toList) := by
  induction L with
  | nil => rfl
  | cons x L ih =>
    have e : flat (x :: L) = x.data.toList ++ 10 :: flat L := by simp [flat]
    rw [e, spC_app _ _ (h x (by simp)), ih (fun y hy => h y (by simp [hy]))]
    rfl
theorem map_inj {W L : List ByteArray} (h : W.map (fun x => x.data.toList) = L.map (fun x => x.data.toList)) : W = L := by
  induction W generalizing L with
  | nil => cases L with
    | nil => rfl
    | cons => simp at h
  | cons w W ih => cases L with
    | nil => simp at h
    | cons x L =>
      simp only [List.map_cons, List.cons.injEq] at h
      rw [ba_ext h.1, ih h.2]
/-- The list of a todo's lines, and what it says. -/
structure Txt (n : Nat) (s0 : ByteArray) (T : Td) : Prop where
  ok : TOk n T
  sz : TSz T
  tx : flat (tdL 0 T) = s0.data.toList
theorem Txt.prs {n : Nat} {s0 : ByteArray} {T : Td} (t : Txt n s0 T) : ∀ p ∈ prs 0 T, gP n p :=
  prs_ok T 0 (by rw [t.ok.1]; decide) (fun j h => by rw [Nat.zero_add]; exact t.ok.2 j h) t.sz
theorem Txt.len {n : Nat} {s0 : ByteArray} {T : Td} (t : Txt n s0 T) : (Eva.prs 0 T).length ≤ 40 := by
  have := prs_len T 0 (fun l hl => by
    obtain ⟨j, hj, rfl⟩ := List.getElem_of_mem hl
    exact (t.ok.2 j hj).1)
  rw [t.ok.1] at this
  exact this
theorem Txt.words {n : Nat} (hn : 2000000 ≤ n) {s0 : ByteArray} {T : Td} (t : Txt n s0 T) {W : List ByteArray} (h : W.map (fun x => x.data.toList) = spC 10 s0.data.toList) : W = (Eva.prs 0 T).map lnP ++ [(⟨#[]⟩ : ByteArray)] := by
  rw [← t.tx, tdL_prs, spC_flat] at h
  · exact map_inj h
  · intro x hx
    obtain ⟨p, hp, rfl⟩ := List.mem_map.1 hx
    exact lnP_no10 hn (t.prs p hp)
theorem dig_at {m : Nat} : ∀ (L : List UInt8), True := fun _ => trivial
theorem cut_ln {n : Nat} {p : Nat × Op4} (h : gP n p) : Go.Lib.cut (lnP p).data.toList [32] = ((dB (p.1 : Int)).data.toList, (opX p.2).data.toList, true) := by
  rw [lnP_list]
  have hD := dig_sp (m := p.1) (by have := h.1; omega)
  generalize (dB (p.1 : Int)).data.toList = D at hD
  generalize (opX p.2).data.toList = B
  have eI : Go.Lib.index (D ++ 32 :: B) [32] = (D.length : Int) := by
    refine Go.Lib.index_first (by simp) (by simp [Go.Lib.occAt]) ?_
    intro j hj
    cases e : Go.Lib.occAt (D ++ 32 :: B) [32] j with
    | false => rfl
    | true =>
      have := Go.Lib.occAt_head rfl e
      rw [List.getElem?_append_left hj] at this
      exact absurd rfl (hD 32 (List.mem_of_getElem? this)).1
  unfold Go.Lib.cut
  rw [eI, if_pos (by omega)]
  simp
theorem neB_ln {n : Nat} (hn : 2000000 ≤ n) {p : Nat × Op4} (h : gP n p) : neB (lnP p) = true := by
  have := lnP_size hn h
  unfold neB
  rw [decide_eq_false]
  · rfl
  · intro e
    rw [tl_eq e] at this
    exact absurd this.1 (by decide)
theorem t15c_0 {n : Nat} (hn : 2000000 ≤ n) {s0 : ByteArray} {T : Td} (t : Txt n s0 T) {W : List ByteArray} {ps : List (Nat × Op4)} (hps : ∀ p ∈ ps, gP n p) (hpl : ps.length ≤ 40) (hW : W = ps.map lnP) :
    ∀ (k i : Nat) (A : Td), i ≤ ps.length → ps.length - i < k → A.length = 4 → (∀ l ∈ A, l.length ≤ i) → TSz A → (ps.drop i).foldl putO A = T → ok (lp15_0 n k s0 (W.length : Int) (i : Int) A W) fun r => r = (T, true, ())
  | 0, i, A, h, hk, h4, hl, hs, hf => by omega
  | k + 1, i, A, h, hk, h4, hl, hs, hf => by
    have hWl : W.length = ps.length := by rw [hW, List.length_map]
    show ok (st15_0 n (lp15_0 n k) s0 (W.length : Int) (i : Int) A W) _
    unfold st15_0
    refine ok.ite (fun h1 => ok.guard (by omega) (ok.guard h1 ?_)) (fun h1 => ?_)
    · have hi : i < W.length := by omega
      have hip : i < ps.length := by omega
      rw [rdOf_nat hi, w1 (n := 1048578) (by omega) (by omega)]
      have hg := hps _ (List.getElem_mem hip)
      have eW : W[i] = lnP ps[i] := by subst hW; rw [List.getElem_map]
      rw [eW]
      have hsz := lnP_size hn hg
      have hd : ps.drop i = ps[i] :: ps.drop (i + 1) := List.drop_eq_getElem_cons hip
      rw [hd, List.foldl_cons] at hf
      generalize ps[i] = p at hg hsz hf
      obtain ⟨m, o⟩ := p
      have hm : m ≤ 3 := hg.1
      refine ok.run (f38 (by omega)) ?_
      rw [show (⟨#[32]⟩ : ByteArray).data.toList = [32] from rfl, cut_ln hg]
      have b1 : (⟨(dB (m : Int)).data.toList.toArray⟩ : ByteArray) = dB (m : Int) := ba_ext rfl
      have b2 : (⟨(opX o).data.toList.toArray⟩ : ByteArray) = opX o := ba_ext rfl
      show ok ((F30 n (⟨(dB (m : Int)).data.toList.toArray⟩ : ByteArray)).bind _) _
      rw [b1]
      refine ok.run (t30 hn (by omega)) ?_
      show ok ((F11 n (⟨(opX o).data.toList.toArray⟩ : ByteArray)).bind _) _
      rw [b2]
      refine (t11c hn (s := o.2.1) (k := o.1) (w := o.2.2.1) (v := o.2.2.2) ⟨hg.2.1, hg.2.2, rfl⟩).bind fun r4 q4 => ?_
      subst q4
      refine ok.iteb (fun h => by cases h) (fun _ => ok.iteb (fun h => by cases h) (fun _ => ok.run f39 (ok.iteb (fun h => ?_) (fun _ => ?_))))
      · have : inr (m : Int) 0 3 = true := decide_eq_true (by omega)
        have h : (!(inr (m : Int) 0 3)) = true := h
        rw [this] at h; cases h
      · have hmT : m < A.length := by omega
        have hl' := hl _ (List.getElem_mem hmT)
        have hf : (ps.drop (i + 1)).foldl putO (A.set m (rdOf [] A (m : Int) ++ [o])) = T := hf
        rw [rdOf_nat hmT] at hf
        show ok (if decide ((0 : Int) ≤ (m : Int)) = true then _ else _) _
        rw [rdOf_nat hmT, Int.toNat_natCast]
        refine ok.guard (by omega) (ok.guard (by omega) (ok.guard (by simp only [List.length_cons, List.length_nil]; omega) (ok.guard (by omega) (ok.guard (by omega) (ok.guard rfl ?_)))))
        have P := put_ok (i := m) (j := i) (o := o) hmT hs hl hg.2.2
        exact t15c_0 hn t hps hpl hW k (i + 1) _ (by omega) (by omega) (by rw [List.length_set]; exact h4) P.2 P.1 hf
    · rw [List.drop_eq_nil_of_le (by omega)] at hf
      have hf : A = T := hf
      subst hf
      exact fin15c hn t.sz t.ok t.tx
theorem t15c {n : Nat} (hn : 2000000 ≤ n) {s : ByteArray} (hs : s.size ≤ 1048576) {T : Td} (t : Txt n s T) : ok (F15 n s) fun r => r = (T, true, ()) := by
  unfold F15 st15
  refine ok.guard (by decide) (ok.guard (by decide) (ok.guard (by decide) ((t37 hn hs).bind fun r1 q1 => ?_)))
  obtain ⟨W, e, q⟩ := q1
  have eW := t.words hn e
  have ef : W.filter neB = (prs 0 T).map lnP := by
    rw [eW, List.filter_append, List.filter_eq_self.2 (fun x hx => ?_)]
    · rw [List.filter_cons, if_neg (by rw [show neB ⟨#[]⟩ = false from by unfold neB; rw [decide_eq_true rfl]; rfl]; decide), List.filter_nil, List.append_nil]
    · obtain ⟨p, hp, rfl⟩ := List.mem_map.1 hx
      exact neB_ln hn (t.prs p hp)
  rw [q, rep4]
  have := t.len
  refine t15c_0 hn t t.prs t.len ef n 0 _ (by omega) (by omega) rfl (fun l hl => ?_) sz4 (fold_all t.ok.1)
  simp only [List.mem_cons, List.not_mem_nil, or_false, or_self] at hl
  rw [hl]; exact Nat.le_refl _
theorem dig_one {m : Nat} (hm : m ≤ 3) : (dB (m : Int)).data.toList = [UInt8.ofNat (48 + m)] := by
  rw [dB_nat]
  have : m = 0 ∨ m = 1 ∨ m = 2 ∨ m = 3 := by omega
  rcases this with rfl | rfl | rfl | rfl <;> (rw [Go.Lib.decDigits, dif_pos (by decide)])
theorem t19c_0 {n : Nat} (hn : 2000000 ≤ n) {s0 : ByteArray} {T : Td} (t : Txt n s0 T) {W : List ByteArray} {ps : List (Nat × Op4)} (hps : ∀ p ∈ ps, gP n p) (hpl : ps.length ≤ 40) (hW : W = ps.map lnP ++ [(⟨#[]⟩ : ByteArray)]) :
    ∀ (k i : Nat) (A : Td), i ≤ ps.length → ps.length - i < k → A.length = 4 → (∀ l ∈ A, l.length ≤ i) → TSz A → (ps.drop i).foldl putO A = T → ok (lp19_0 n k s0 (i : Int) A W) fun r => r = (T, true, ())
  | 0, i, A, h, hk, h4, hl, hs, hf => by omega
  | k + 1, i, A, h, hk, h4, hl, hs, hf => by
    have hWl : W.length = ps.length + 1 := by rw [hW, List.length_append, List.length_map]; rfl
    show ok (st19_0 n (lp19_0 n k) s0 (i : Int) A W) _
    unfold st19_0
    rw [w1 (n := 1048578) (by omega) (by omega)]
    refine ok.ite (fun h1 => ok.guard (by omega) (ok.guard (by omega) ?_)) (fun h1 => ?_)
    · have hi : i < W.length := by omega
      have hip : i < ps.length := by omega
      rw [rdOf_nat hi]
      have hg := hps _ (List.getElem_mem hip)
      have eW : W[i] = lnP ps[i] := by subst hW; rw [List.getElem_append_left (by rw [List.length_map]; exact hip), List.getElem_map]
      rw [eW]
      have hsz := lnP_size hn hg
      have hd : ps.drop i = ps[i] :: ps.drop (i + 1) := List.drop_eq_getElem_cons hip
      rw [hd, List.foldl_cons] at hf
      generalize ps[i] = p at hg hsz hf
      obtain ⟨m, o⟩ := p
      have hm : m ≤ 3 := hg.1
      have hL := lnP_list (m, o)
      rw [show (dB (((m, o) : Nat × Op4).1 : Int)).data.toList = [UInt8.ofNat (48 + m)] from dig_one hm] at hL
      have hL : (lnP (m, o)).data.toList = [UInt8.ofNat (48 + m), 32] ++ ((opX o).data.toList ++ []) := by rw [hL]; simp
      generalize lnP (m, o) = w at hL hsz
      have hbt : bt w (0 : Int) = ((48 + m : Nat) : Int) := by
        have hz : 0 < w.data.toList.length := by rw [hL]; simp
        have e := bt_list w 0 hz
        have e2 : w.data.toList[0] = UInt8.ofNat (48 + m) := by
          have : w.data.toList[0]? = some (UInt8.ofNat (48 + m)) := by rw [hL]; rfl
          rw [List.getElem?_eq_getElem hz] at this
          exact Option.some.inj this
        rw [e2, dg_toNat m (by omega)] at e
        exact e
      have eD : wrap64 ((wrap64 (bt w (0 : Int))) - 48) = (m : Int) := by
        rw [hbt, w64 (x := ((48 + m : Nat) : Int)) (by omega) (by omega), w64 (by omega) (by omega)]
        omega
      rw [eD]
      have hszl := size_list hL
      have eX : w.extract (2 : Int).toNat (w.size : Int).toNat = opX o := extr_of w (opX o) [UInt8.ofNat (48 + m), 32] (opX o).data.toList [] _ _ hL rfl (by rw [Int.toNat_natCast, hszl]; simp only [List.length_append, List.length_cons, List.length_nil]; omega) rfl
      rw [eX]
      refine ok.ite (fun h => by omega) (fun h3 => ok.guard (by omega) (ok.guard (by omega) (ok.guard (by decide) (ok.guard (by omega) (ok.guard (by omega) (ok.guard (by omega) (ok.guard (by decide) (ok.guard (by omega) (ok.guard (Int.le_refl _) ?_)))))))))
      refine (t47c hn (s := o.2.1) (k := o.1) (w := o.2.2.1) (v := o.2.2.2) ⟨hg.2.1, hg.2.2, rfl⟩).bind fun r4 q4 => ?_
      subst q4
      refine ok.iteb (fun h => by cases h) (fun _ => ok.run f26 (ok.iteb (fun h => ?_) (fun _ => ?_)))
      · have : inr (m : Int) 0 3 = true := decide_eq_true (by omega)
        have h : (!(inr (m : Int) 0 3)) = true := h
        rw [this] at h; cases h
      · have hmT : m < A.length := by omega
        have hl' := hl _ (List.getElem_mem hmT)
        have hf : (ps.drop (i + 1)).foldl putO (A.set m (rdOf [] A (m : Int) ++ [o])) = T := hf
        rw [rdOf_nat hmT] at hf
        rw [rdOf_nat hmT, Int.toNat_natCast]
        refine ok.guard (by omega) (ok.guard (by omega) (ok.guard (by simp only [List.length_cons, List.length_nil]; omega) (ok.guard (by omega) (ok.guard (by omega) (ok.guard rfl ?_)))))
        have P := put_ok (i := m) (j := i) (o := o) hmT hs hl hg.2.2
        exact t19c_0 hn t hps hpl hW k (i + 1) _ (by omega) (by omega) (by rw [List.length_set]; exact h4) P.2 P.1 hf
    · rw [List.drop_eq_nil_of_le (by omega)] at hf
      have hf : A = T := hf
      subst hf
      exact fin19c hn t.sz t.ok t.tx
theorem t19c {n : Nat} (hn : 2000000 ≤ n) {s : ByteArray} (hs : s.size ≤ 1048576) {T : Td} (t : Txt n s T) : ok (F19 n s) fun r => r = (T, true, ()) := by
  unfold F19 st19
  refine ok.guard (by decide) (ok.guard (by decide) (ok.guard (by decide) ((t46c (c := 10) hs hn rfl).bind fun r1 q1 => ?_)))
  rw [rep4]
  have := t.len
  refine t19c_0 hn t t.prs t.len (t.words hn q1) n 0 _ (by omega) (by omega) rfl (fun l hl => ?_) sz4 (fold_all t.ok.1)
  simp only [List.mem_cons, List.not_mem_nil, or_false, or_self] at hl
  rw [hl]; exact Nat.le_refl _
end Go.Eva
end
section
/- Cells as bytes, and back. -/
namespace Go.Eva
open Go.RowKit (wrap64)
set_option linter.unusedVariables false
set_option linter.unusedSimpArgs false

def d6 (v : Int) : List Int := [v / 1099511627776 % 256, v / 4294967296 % 256, v / 16777216 % 256, v / 65536 % 256, v / 256 % 256, v % 256]
def ex6 (v : Int) : List UInt8 := (d6 v).map fun n => UInt8.ofNat n.toNat
def encL (c : List Int) : List UInt8 := (c.map ex6).flatten
theorem ex6_len (v : Int) : (ex6 v).length = 6 := rfl
theorem wd_bd {v : Int} (h : wd v = true) : 0 ≤ v ∧ v ≤ 281474976710655 := of_decide_eq_true h
theorem shr8 {v : Int} : shrI v (min (8 : Int).toNat 64) = v / 256 := by
  unfold shrI
  show v.fdiv (2 ^ 8) = _
  rw [Int.fdiv_eq_ediv_of_nonneg _ (by decide)]
  rfl
theorem f25s {n k : Nat} {v : Int} {j : Nat} (hj : j ≤ 5) {l : List Int} (hl : l.length = 6) : lp25_0 n (k + 1) v (j : Int) l = lp25_0 n k (v / 256) ((j : Int) - 1) (l.set j (v % 256)) := by
  show st25_0 n (lp25_0 n k) v (j : Int) l = _
  unfold st25_0
  rw [if_pos (decide_eq_true (show (j : Int) ≥ 0 by omega)), if_pos (decide_eq_true (show 0 ≤ (j : Int) by omega)), if_pos (decide_eq_true (show (j : Int) < l.length by omega)), if_pos (decide_eq_true (by omega)), shr8, w64 (x := (j : Int) - 1) (by omega) (by omega), Int.toNat_natCast]
  rfl
theorem f25m {k : Nat} {v : Int} (hb : 0 ≤ v ∧ v ≤ 281474976710655) : lp25_0 (k + 7) (k + 7) v 5 [0, 0, 0, 0, 0, 0] = some (strOf (d6 v), ()) := by
  have s5 := f25s (n := k + 7) (k := k + 6) (v := v) (j := 5) (by omega) (l := [0, 0, 0, 0, 0, 0]) rfl
  have s4 := f25s (n := k + 7) (k := k + 5) (v := v / 256) (j := 4) (by omega) (l := [0, 0, 0, 0, 0, v % 256]) rfl
  have s3 := f25s (n := k + 7) (k := k + 4) (v := v / 256 / 256) (j := 3) (by omega) (l := [0, 0, 0, 0, v / 256 % 256, v % 256]) rfl
  have s2 := f25s (n := k + 7) (k := k + 3) (v := v / 256 / 256 / 256) (j := 2) (by omega) (l := [0, 0, 0, v / 256 / 256 % 256, v / 256 % 256, v % 256]) rfl
  have s1 := f25s (n := k + 7) (k := k + 2) (v := v / 256 / 256 / 256 / 256) (j := 1) (by omega) (l := [0, 0, v / 256 / 256 / 256 % 256, v / 256 / 256 % 256, v / 256 % 256, v % 256]) rfl
  have s0 := f25s (n := k + 7) (k := k + 1) (v := v / 256 / 256 / 256 / 256 / 256) (j := 0) (by omega) (l := [0, v / 256 / 256 / 256 / 256 % 256, v / 256 / 256 / 256 % 256, v / 256 / 256 % 256, v / 256 % 256, v % 256]) rfl
  refine s5.trans (s4.trans (s3.trans (s2.trans (s1.trans (s0.trans ?_)))))
  show st25_0 (k + 7) (lp25_0 (k + 7) k) _ (-1) _ = _
  unfold st25_0
  rw [if_neg (by decide)]
  have q1 : v / 256 / 256 = v / 65536 := by omega
  have q2 : v / 65536 / 256 = v / 16777216 := by omega
  have q3 : v / 16777216 / 256 = v / 4294967296 := by omega
  have q4 : v / 4294967296 / 256 = v / 1099511627776 := by omega
  show some (strOf [v / 256 / 256 / 256 / 256 / 256 % 256, v / 256 / 256 / 256 / 256 % 256, v / 256 / 256 / 256 % 256, v / 256 / 256 % 256, v / 256 % 256, v % 256], ()) = _
  rw [q1, q2, q3, q4]
  rfl
theorem f25 {n : Nat} (hn : 100 ≤ n) {v : Int} (h : wd v = true) : F25 n v 6 = some (strOf (d6 v), ()) := by
  have hb := wd_bd h
  obtain ⟨k, rfl⟩ : ∃ k, n = k + 7 := ⟨n - 7, by omega⟩
  have ex6' : wrap64 ((6 : Int) - 1) = 5 := by rw [w64 (by omega) (by omega)]; rfl
  have e48 : wrap64 (8 * (6 : Int)) = 48 := by rw [w64 (by omega) (by omega)]; rfl
  have hs : shrI v (min (48 : Int).toNat 64) = 0 := by
    unfold shrI
    show v.fdiv (281474976710656 : Int) = 0
    rw [Int.fdiv_eq_ediv_of_nonneg _ (by decide)]
    omega
  have hmain : lp25_0 (k + 7) (k + 7) v 5 [0, 0, 0, 0, 0, 0] = some (strOf (d6 v), ()) := f25m hb
  have : ok (F25 (k + 7) v 6) fun r => r = (strOf (d6 v), ()) := by
    unfold F25 st25
    refine ok.run f39 (ok.iteb (fun h => by cases h) (fun _ => ok.ite (fun h => by omega) (fun _ => ?_)))
    rw [e48, hs, ex6']
    exact ok.guard (by decide) (ok.ite (fun h => absurd rfl h) (fun _ => ok.guard (by decide) (ok.guard rfl (ok.guard (by decide) ⟨_, hmain, rfl⟩))))
  obtain ⟨a, h, rfl⟩ := this
  exact h
theorem f53 {n : Nat} {x : Int} : F53 n x = some ((!wd x), ()) := by
  unfold F53 F54
  rw [f39]
  rfl
theorem t76_0 {n : Nat} {a : List Int} (ha : a.length ≤ 1000) : ∀ (k i : Nat), i ≤ a.length → a.length - i < k → ok (lp76_53_0 n k a (a.length : Int) (i : Int)) fun r => decide (r.1 ≥ 0) = !((a.drop i).all wd)
  | 0, i, h, hk => by omega
  | k + 1, i, h, hk => by
    show ok (st76_53_0 n (lp76_53_0 n k) a (a.length : Int) (i : Int)) _
    unfold st76_53_0
    refine ok.ite (fun h1 => ok.guard (by omega) (ok.guard h1 (ok.run f53 ?_))) (fun h1 => ok.some ?_)
    · have hi : i < a.length := by omega
      have hd : a.drop i = a[i] :: a.drop (i + 1) := List.drop_eq_getElem_cons hi
      rw [rdOf_nat hi, wb i a.length (by omega) (by omega)]
      refine ok.iteb (fun h2 => ok.some ?_) (fun h2 => ?_)
      · have h2 : (!wd a[i]) = true := h2
        rw [hd, List.all_cons, show wd a[i] = false by simpa using h2, Bool.false_and]
        exact decide_eq_true (by show (i : Int) ≥ 0; omega)
      · have h2 : (!wd a[i]) = false := h2
        refine (t76_0 ha k (i + 1) (by omega) (by omega)).mono fun r q => ?_
        rw [q, hd, List.all_cons, show wd a[i] = true by simpa using h2, Bool.true_and]
    · rw [List.drop_eq_nil_of_le (by omega)]
      rfl
theorem t24 {n : Nat} (hn : 2000000 ≤ n) {a : List Int} (ha : a.length ≤ 1000) : ok (F24 n a) fun r => r = (cokB a, ()) := by
  unfold F24 F52_53 F76_53 st76_53 cokB
  refine ok.ite (fun h => ?_) (fun h => ok.some ?_)
  · refine ok.bind (Q := fun r => r.1 = !(a.all wd)) ((t76_0 ha n 0 (by omega) (by omega)).bind fun r q => ok.some q) fun r q => ok.some ?_
    rw [q, decide_eq_true h, Bool.not_not, Bool.and_true]
  · rw [decide_eq_false h, Bool.and_false]
theorem cok_mem {a : List Int} (h : cokB a = true) {i : Nat} (hi : i < a.length) : wd a[i] = true := by
  unfold cokB at h
  rw [Bool.and_eq_true, List.all_eq_true] at h
  exact h.1 _ (List.getElem_mem hi)
theorem encL_len (c : List Int) : (encL c).length = 6 * c.length := by
  unfold encL
  induction c with
  | nil => rfl
  | cons x c ih =>
    rw [List.map_cons, List.flatten_cons, List.length_append, ih, ex6_len, List.length_cons]
    omega
theorem encL_snoc (c : List Int) (x : Int) : encL (c ++ [x]) = encL c ++ ex6 x := by
  unfold encL
  simp
theorem t7_0 {n : Nat} (hn : 2000000 ≤ n) {c : List Int} (hc : cokB c = true) : ∀ (k i : Nat) (s : ByteArray), i ≤ c.length → c.length - i < k → s.data.toList = encL (c.take i) → ok (lp7_0 n k s c (c.length : Int) (i : Int)) fun r => r.1.data.toList = encL c
  | 0, i, s, h, hk, hs => by omega
  | k + 1, i, s, h, hk, hs => by
    have hl := cok_len hc
    show ok (st7_0 n (lp7_0 n k) s c (c.length : Int) (i : Int)) _
    unfold st7_0
    refine ok.ite (fun h1 => ok.guard (by omega) (ok.guard h1 ?_)) (fun h1 => ok.some ?_)
    · have hi : i < c.length := by omega
      have hz := size_list hs
      rw [encL_len, List.length_take] at hz
      rw [rdOf_nat hi, wb i c.length (by omega) (by omega)]
      refine ok.run (f25 (by omega) (cok_mem hc hi)) (ok.guard ?_ ?_)
      · show s.size + (strOf (d6 c[i])).size ≤ 9223372036854775807
        rw [strOf_size]
        have : (d6 c[i]).length = 6 := rfl
        omega
      · refine t7_0 hn hc k (i + 1) _ (by omega) (by omega) ?_
        rw [list_app, hs, List.take_succ_eq_append_getElem hi, encL_snoc]
        rfl
    · show s.data.toList = _
      rw [hs, List.take_of_length_le (by omega)]
theorem t7 {n : Nat} (hn : 2000000 ≤ n) {c : List Int} (hc : cokB c = true) : ok (F7 n c) fun r => r.1.data.toList = encL c := by
  have hl := cok_len hc
  unfold F7 st7
  refine ok.bind (Q := fun r => r = (cokB c, ())) (t24 hn (by omega)) fun r q => ?_
  subst q
  refine ok.iteb (fun h => ?_) (fun _ => t7_0 hn hc n 0 _ (by omega) (by omega) rfl)
  have h : (!cokB c) = true := h
  rw [hc] at h; cases h
theorem t7n {n : Nat} (hn : 2000000 ≤ n) {c : List Int} (hl : c.length ≤ 1000) (hc : cokB c = false) : ok (F7 n c) fun r => r.1 = ⟨#[]⟩ := by
  unfold F7 st7
  refine ok.bind (Q := fun r => r = (cokB c, ())) (t24 hn (by omega)) fun r q => ?_
  subst q
  refine ok.iteb (fun h => ok.some rfl) (fun h => ?_)
  have h : (!cokB c) = false := h
  rw [hc] at h; cases h
theorem or8 {v b : Nat} (hv : v < 1099511627776) (hb : b < 256) : orI .i64 (shlI .i64 (v : Int) (min (8 : Int).toNat 64)) (wrap64 (b : Int)) = ((v * 256 + b : Nat) : Int) := by
  have e1 : shlI .i64 (v : Int) (min (8 : Int).toNat 64) = ((v * 256 : Nat) : Int) := by
    unfold shlI
    show wrap64 ((v : Int) * 2 ^ 8) = _
    have : (v : Int) * 2 ^ 8 = ((v * 256 : Nat) : Int) := by rw [show ((2 : Int) ^ 8) = 256 from rfl]; omega
    rw [this, w64 (by omega) (by omega)]
  rw [e1, w64 (x := (b : Int)) (by omega) (by omega)]
  unfold orI
  have hX : (BitVec.ofInt IntKind.i64.bits ((v * 256 : Nat) : Int)).toNat = v * 256 := by
    rw [BitVec.toNat_ofInt]
    show (((v * 256 : Nat) : Int) % (2 ^ 64 : Nat)).toNat = v * 256
    omega
  have hB : (BitVec.ofInt IntKind.i64.bits (b : Int)).toNat = b := by
    rw [BitVec.toNat_ofInt]
    show ((b : Int) % (2 ^ 64 : Nat)).toNat = b
    omega
  rw [BitVec.toNat_or, hX, hB]
  have := Nat.shiftLeft_add_eq_or_of_lt (i := 8) (show b < 2 ^ 8 from hb) v
  rw [Nat.shiftLeft_eq, show 2 ^ 8 = 256 from rfl] at this
  rw [← this, IntKind.wrap_i64]
  omega
theorem f23s {n k : Nat} {s : ByteArray} {v j b : Nat} (hv : v < 1099511627776) (hj : j < 6) (hs : j < s.size) (hb : bt s (j : Int) = (b : Int)) (hb2 : b < 256) : lp23_0 n (k + 1) s (v : Int) 6 (j : Int) = lp23_0 n k s ((v * 256 + b : Nat) : Int) 6 ((j + 1 : Nat) : Int) := by
  show st23_0 n (lp23_0 n k) s (v : Int) 6 (j : Int) = _
  unfold st23_0
  rw [if_pos (decide_eq_true (show (j : Int) < 6 by omega)), if_pos (by decide), if_pos (decide_eq_true (show 0 ≤ (j : Int) by omega)), if_pos (decide_eq_true (show (j : Int) < s.size by omega)), hb, or8 hv hb2, wb j 6 (by omega) (by omega)]
theorem t23 {n : Nat} (hn : 100 ≤ n) {s : ByteArray} (hs : 6 ≤ s.size) : ok (F23 n s 6) fun r => wd r.1 = true ∧ ex6 r.1 = s.data.toList.take 6 := by
  obtain ⟨k, rfl⟩ : ∃ k, n = k + 7 := ⟨n - 7, by omega⟩
  have hl := sz_list s
  generalize hL : s.data.toList = L at hl
  match L, hl, hL with
  | a0 :: a1 :: a2 :: a3 :: a4 :: a5 :: R, hl, hL =>
    have hb : ∀ (j : Nat) (h : j < (a0 :: a1 :: a2 :: a3 :: a4 :: a5 :: R).length), bt s (j : Int) = (((a0 :: a1 :: a2 :: a3 :: a4 :: a5 :: R)[j]).toNat : Int) := fun j h => by
      rw [bt_list s j (by rw [hL]; exact h)]
      congr 2
      simp only [hL]
    have hl6 : 6 ≤ (a0 :: a1 :: a2 :: a3 :: a4 :: a5 :: R).length := by omega
    have l0 := UInt8.toNat_lt a0
    have l1 := UInt8.toNat_lt a1
    have l2 := UInt8.toNat_lt a2
    have l3 := UInt8.toNat_lt a3
    have l4 := UInt8.toNat_lt a4
    have l5 := UInt8.toNat_lt a5
    have b0 : bt s ((0 : Nat) : Int) = (a0.toNat : Int) := hb 0 (by omega)
    have b1 : bt s ((1 : Nat) : Int) = (a1.toNat : Int) := hb 1 (by omega)
    have b2 : bt s ((2 : Nat) : Int) = (a2.toNat : Int) := hb 2 (by omega)
    have b3 : bt s ((3 : Nat) : Int) = (a3.toNat : Int) := hb 3 (by omega)
    have b4 : bt s ((4 : Nat) : Int) = (a4.toNat : Int) := hb 4 (by omega)
    have b5 : bt s ((5 : Nat) : Int) = (a5.toNat : Int) := hb 5 (by omega)
    have u0 : UInt8.ofNat a0.toNat = a0 := UInt8.ofNat_toNat
    have u1 : UInt8.ofNat a1.toNat = a1 := UInt8.ofNat_toNat
    have u2 : UInt8.ofNat a2.toNat = a2 := UInt8.ofNat_toNat
    have u3 : UInt8.ofNat a3.toNat = a3 := UInt8.ofNat_toNat
    have u4 : UInt8.ofNat a4.toNat = a4 := UInt8.ofNat_toNat
    have u5 : UInt8.ofNat a5.toNat = a5 := UInt8.ofNat_toNat
    generalize a0.toNat = x0 at *
    generalize a1.toNat = x1 at *
    generalize a2.toNat = x2 at *
    generalize a3.toNat = x3 at *
    generalize a4.toNat = x4 at *
    generalize a5.toNat = x5 at *
    clear hb
    unfold F23 st23
    refine ok.run f39 (ok.iteb (fun h => by cases h) (fun _ => ok.ite (fun h => by omega) (fun _ => ?_)))
    have s0 := f23s (n := k + 7) (k := k + 6) (v := 0) (by omega) (by omega) (by omega) b0 (by omega)
    have s1 := f23s (n := k + 7) (k := k + 5) (v := 0 * 256 + x0) (by omega) (by omega) (by omega) b1 (by omega)
    have s2 := f23s (n := k + 7) (k := k + 4) (v := (0 * 256 + x0) * 256 + x1) (by omega) (by omega) (by omega) b2 (by omega)
    have s3 := f23s (n := k + 7) (k := k + 3) (v := ((0 * 256 + x0) * 256 + x1) * 256 + x2) (by omega) (by omega) (by omega) b3 (by omega)
    have s4 := f23s (n := k + 7) (k := k + 2) (v := (((0 * 256 + x0) * 256 + x1) * 256 + x2) * 256 + x3) (by omega) (by omega) (by omega) b4 (by omega)
    have s5 := f23s (n := k + 7) (k := k + 1) (v := ((((0 * 256 + x0) * 256 + x1) * 256 + x2) * 256 + x3) * 256 + x4) (by omega) (by omega) (by omega) b5 (by omega)
    refine ⟨_, s0.trans (s1.trans (s2.trans (s3.trans (s4.trans (s5.trans rfl))))), ?_⟩
    obtain ⟨V, hV⟩ : ∃ V, V = (((((0 * 256 + x0) * 256 + x1) * 256 + x2) * 256 + x3) * 256 + x4) * 256 + x5 := ⟨_, rfl⟩
    show wd (((((((0 * 256 + x0) * 256 + x1) * 256 + x2) * 256 + x3) * 256 + x4) * 256 + x5 : Nat) : Int) = true ∧ ex6 (((((((0 * 256 + x0) * 256 + x1) * 256 + x2) * 256 + x3) * 256 + x4) * 256 + x5 : Nat) : Int) = [a0, a1, a2, a3, a4, a5]
    rw [← hV]
    refine ⟨decide_eq_true (by omega), ?_⟩
    have g0 : ((V : Int) / 1099511627776 % 256).toNat = x0 := by omega
    have g1 : ((V : Int) / 4294967296 % 256).toNat = x1 := by omega
    have g2 : ((V : Int) / 16777216 % 256).toNat = x2 := by omega
    have g3 : ((V : Int) / 65536 % 256).toNat = x3 := by omega
    have g4 : ((V : Int) / 256 % 256).toNat = x4 := by omega
    have g5 : ((V : Int) % 256).toNat = x5 := by omega
    unfold ex6 d6
    simp only [List.map_cons, List.map_nil]
    rw [g0, g1, g2, g3, g4, g5, u0, u1, u2, u3, u4, u5]
  | [], hl, hL => simp at hl; omega
  | [_], hl, hL => simp at hl; omega
  | [_, _], hl, hL => simp at hl; omega
  | [_, _, _], hl, hL => simp at hl; omega
  | [_, _, _, _], hl, hL => simp at hl; omega
  | [_, _, _, _, _], hl, hL => simp at hl; omega
theorem t6_0 {n : Nat} (hn : 2000000 ≤ n) {s : ByteArray} (hs : s.size = 426) : ∀ (k j : Nat) (L : List Int), j ≤ 71 → 71 - j < k → L.length = j → L.all wd = true → encL L = s.data.toList.take (6 * j) → ok (lp6_0 n k s ((6 * j : Nat) : Int) L) fun r => r.2.1 = true ∧ cokB r.1 = true ∧ encL r.1 = s.data.toList
  | 0, j, L, h, hk, hl, hw, he => by omega
  | k + 1, j, L, h, hk, hl, hw, he => by
    have hsl := sz_list s
    show ok (st6_0 n (lp6_0 n k) s ((6 * j : Nat) : Int) L) _
    unfold st6_0
    refine ok.ite (fun h1 => ok.guard (by omega) (ok.guard (by omega) (ok.guard (Int.le_refl _) ?_))) (fun h1 => ok.some ⟨rfl, ?_, ?_⟩)
    · have hx : (s.extract ((6 * j : Nat) : Int).toNat (s.size : Int).toNat).data.toList = s.data.toList.drop (6 * j) := by
        rw [Int.toNat_natCast, Int.toNat_natCast, extr_list _ _ _ (Nat.le_refl _), List.take_of_length_le]
        rw [List.length_drop]
        omega
      have hxs := size_list hx
      rw [List.length_drop] at hxs
      refine (t23 (by omega) (s := s.extract ((6 * j : Nat) : Int).toNat (s.size : Int).toNat) (by omega)).bind fun r1 q1 => ok.guard (by simp only [List.length_cons, List.length_nil]; omega) ?_
      rw [w64 (by omega) (by omega), show (((6 * j : Nat) : Int) + 6) = ((6 * (j + 1) : Nat) : Int) by omega]
      refine t6_0 hn hs k (j + 1) _ (by omega) (by omega) (by simp only [List.length_append, List.length_cons, List.length_nil]; omega) ?_ ?_
      · rw [List.all_append, hw, List.all_cons, q1.1]
        rfl
      · rw [encL_snoc, he, q1.2, hx, show 6 * (j + 1) = 6 * j + 6 by omega, List.take_add]
    · unfold cokB
      have hw : (L.all wd) = true := hw
      show (L.all wd && decide ((L.length : Int) = 71)) = true
      rw [hw, decide_eq_true (show (L.length : Int) = 71 by omega)]
      rfl
    · show encL L = _
      rw [he, List.take_of_length_le (by omega)]
theorem t6 {n : Nat} (hn : 2000000 ≤ n) {s : ByteArray} : ok (F6 n s) fun r => r.2.1 = decide (s.size = 426) ∧ (s.size = 426 → cokB r.1 = true ∧ encL r.1 = s.data.toList) := by
  unfold F6 st6
  refine ok.ite (fun h => ok.some ⟨?_, fun e => ?_⟩) (fun h => ?_)
  · show false = _
    rw [decide_eq_false (by omega)]
  · omega
  · refine (t6_0 hn (by omega) n 0 [] (by omega) (by omega) rfl rfl (by rw [Nat.mul_zero, List.take_zero]; rfl)).mono fun r q => ⟨?_, fun _ => q.2⟩
    rw [q.1, decide_eq_true (by omega)]
theorem ofNat_inj {x y : Int} (hx : 0 ≤ x) (hx2 : x < 256) (hy : 0 ≤ y) (hy2 : y < 256) (h : UInt8.ofNat x.toNat = UInt8.ofNat y.toNat) : x = y := by
  have := congrArg UInt8.toNat h
  rw [UInt8.toNat_ofNat', UInt8.toNat_ofNat'] at this
  omega
theorem ex6_inj {v w : Int} (hv : wd v = true) (hw : wd w = true) (h : ex6 v = ex6 w) : v = w := by
  have bv := wd_bd hv
  have bw := wd_bd hw
  unfold ex6 d6 at h
  simp only [List.map_cons, List.map_nil, List.cons.injEq, and_true] at h
  obtain ⟨h0, h1, h2, h3, h4, h5⟩ := h
  have g0 := ofNat_inj (by omega) (by omega) (by omega) (by omega) h0
  have g1 := ofNat_inj (by omega) (by omega) (by omega) (by omega) h1
  have g2 := ofNat_inj (by omega) (by omega) (by omega) (by omega) h2
  have g3 := ofNat_inj (by omega) (by omega) (by omega) (by omega) h3
  have g4 := ofNat_inj (by omega) (by omega) (by omega) (by omega) h4
  have g5 := ofNat_inj (by omega) (by omega) (by omega) (by omega) h5
  clear h0 h1 h2 h3 h4 h5
  omega
theorem encL_inj : ∀ (a b : List Int), a.all wd = true → b.all wd = true → encL a = encL b → a = b
  | [], [], _, _, _ => rfl
  | [], y :: b, _, _, h => by
    have := congrArg List.length h
    rw [encL_len, encL_len] at this
    simp at this
  | x :: a, [], _, _, h => by
    have := congrArg List.length h
    rw [encL_len, encL_len] at this
    simp at this
  | x :: a, y :: b, ha, hb, h => by
    rw [List.all_cons, Bool.and_eq_true] at ha hb
    have h : ex6 x ++ encL a = ex6 y ++ encL b := h
    have := List.append_inj h (by rw [ex6_len, ex6_len])
    rw [ex6_inj ha.1 hb.1 this.1, encL_inj a b ha.2 hb.2 this.2]
theorem cok_all {a : List Int} (h : cokB a = true) : a.all wd = true := by
  unfold cokB at h
  rw [Bool.and_eq_true] at h
  exact h.1
theorem t9_0 {n : Nat} {c : List Int} (hc : c.length ≤ 1000) : ∀ (k i : Nat), i ≤ c.length → c.length - i < k → ok (lp9_0 n k c c (i : Int)) fun r => r.1 = true
  | 0, i, h, hk => by omega
  | k + 1, i, h, hk => by
    show ok (st9_0 n (lp9_0 n k) c c (i : Int)) _
    unfold st9_0
    refine ok.ite (fun h1 => ok.guard (by omega) (ok.guard h1 (ok.guard (by omega) (ok.guard h1 (ok.ite (fun h => absurd rfl h) (fun _ => ?_)))))) (fun _ => ok.some rfl)
    rw [wb i c.length (by omega) (by omega)]
    exact t9_0 hc k (i + 1) (by omega) (by omega)
theorem t9 {n : Nat} (hn : 2000000 ≤ n) {c : List Int} (hc : c.length ≤ 1000) : ok (F9 n c c) fun r => r.1 = true := by
  unfold F9 st9
  exact ok.ite (fun h => absurd rfl h) (fun _ => t9_0 hc n 0 (by omega) (by omega))
/-- The reference's text of cells: its size. -/
theorem t70_0 {n : Nat} : ∀ (k i : Nat) (v : Int) (s : ByteArray), i ≤ 6 → 6 - i < k → s.size ≤ i → ok (lp70_0 n k v 6 s (i : Int)) fun r => r.1.size ≤ 6
  | 0, i, v, s, h, hk, hs => by omega
  | k + 1, i, v, s, h, hk, hs => by
    show ok (st70_0 n (lp70_0 n k) v 6 s (i : Int)) _
    unfold st70_0
    have e1 : ∀ x : Int, (strOf [x]).size = 1 := fun x => strOf_size [x]
    refine ok.ite (fun h1 => ok.guard (by decide) (ok.guard (by rw [e1]; omega) (ok.guard (by decide) ?_))) (fun h1 => ok.ite (fun _ => ok.some (show (0 : Nat) ≤ 6 by omega)) (fun _ => ok.some (show s.size ≤ 6 by omega)))
    rw [wb i 6 (by omega) (by omega)]
    exact t70_0 k (i + 1) _ _ (by omega) (by omega) (by rw [ByteArray.size_append, e1]; omega)
theorem t70 {n : Nat} (hn : 100 ≤ n) {v : Int} : ok (F70 n v 6) fun r => r.1.size ≤ 6 := by
  unfold F70 st70
  exact ok.run f26 (ok.iteb (fun _ => ok.some (show (0 : Nat) ≤ 6 by omega)) (fun _ => ok.ite (fun _ => ok.some (show (0 : Nat) ≤ 6 by omega)) (fun _ => t70_0 n 0 v _ (by omega) (by omega) (Nat.le_refl _))))
theorem t48_0 {n : Nat} (hn : 2000000 ≤ n) {c : List Int} (hc : c.length ≤ 1000) : ∀ (k i : Nat) (s : ByteArray), i ≤ c.length → c.length - i < k → s.size ≤ 6 * i → ok (lp48_0 n k c s (i : Int)) fun r => r.1.size ≤ 6000
  | 0, i, s, h, hk, hs => by omega
  | k + 1, i, s, h, hk, hs => by
    show ok (st48_0 n (lp48_0 n k) c s (i : Int)) _
    unfold st48_0
    refine ok.ite (fun h1 => (t8 hn hc).bind fun r1 _ => ok.iteb (fun _ => ok.guard (by omega) (ok.guard h1 ((t70 (by omega)).bind fun r2 q2 => ok.guard (by omega) ?_))) (fun _ => ok.some (show s.size ≤ 6000 by omega))) (fun _ => ok.some (show s.size ≤ 6000 by omega))
    rw [wb i c.length (by omega) (by omega)]
    exact t48_0 hn hc k (i + 1) _ (by omega) (by omega) (by rw [ByteArray.size_append]; omega)
theorem t48 {n : Nat} (hn : 2000000 ≤ n) {c : List Int} (hc : c.length ≤ 1000) : ok (F48 n c) fun r => r.1.size ≤ 6000 := by
  unfold F48 st48
  exact t48_0 hn hc n 0 _ (by omega) (by omega) (Nat.le_refl _)
end Go.Eva
end
section
/- FnKept: the draws, the law. -/
namespace Go.Eva
open Go.RowKit (wrap64)
set_option linter.unusedVariables false
set_option linter.unusedSimpArgs false

theorem t67_0 {n : Nat} {i0 : Int} : ∀ (k : Nat) (i1 : Int) (l2 l3 : List Int) (i4 i5 : Int), 0 ≤ i1 → i1 < k → l2.length + i1 ≤ 100 → Cur l3 i4 → ok (lp67_0 n k i0 i1 l2 l3 i4 i5) fun r => r.1.size ≤ 100 ∧ Cur r.2.1 r.2.2.1
  | 0, i1, l2, l3, i4, i5, h0, hk, hl, c => by omega
  | k + 1, i1, l2, l3, i4, i5, h0, hk, hl, c => by
    show ok (st67_0 n (lp67_0 n k) i0 i1 l2 l3 i4 i5) _
    unfold st67_0
    refine ok.ite (fun h => (t66 c).bind fun r3 q3 => ?_) (fun h => ok.some ⟨by show (strOf l2).size ≤ 100; rw [strOf_size]; omega, c⟩)
    have hj : ∀ x : Int, ok (j67_0 n (lp67_0 n k) i0 i1 x l2 r3.2.1 r3.2.2.1 r3.2.2.2.1) fun r => r.1.size ≤ 100 ∧ Cur r.2.1 r.2.2.1 := fun x => by
      unfold j67_0
      refine ok.guard (by simp only [List.length_cons, List.length_nil]; omega) ?_
      rw [w64 (by omega) (by omega)]
      exact t67_0 k _ _ _ _ _ (by omega) (by omega) (by simp only [List.length_append, List.length_cons, List.length_nil]; omega) q3.2.2
    exact ok.ite (fun _ => ok.guard (by decide) (ok.ite (fun _ => ok.guard (by decide) (hj _)) (fun _ => hj _))) (fun _ => ok.ite (fun _ => ok.guard (by decide) (hj _)) (fun _ => hj _))
theorem t67 {n : Nat} (hn : 5000 ≤ n) {b : List Int} {i h : Int} (c : Cur b i) : ok (F67 n 3 b i h) fun r => r.1.size ≤ 100 ∧ Cur r.2.1 r.2.2.1 := by
  unfold F67 st67
  refine (t43 c).bind fun r1 q1 => (t43 q1.2.2.2).bind fun r2 q2 => ?_
  have h4 : wrap64 ((3 : Int) + 1) = 4 := w64 (by decide) (by decide)
  rw [h4] at q2
  have := q2.2.1 (by decide)
  exact t67_0 n _ [] _ _ _ q2.1 (by omega) (by simp only [List.length_nil]; omega) q2.2.2.2
theorem t44 {n : Nat} (hn : 5000 ≤ n) {s : ByteArray} (hs : s.size ≤ 100000) {b : List Int} {i h : Int} (c : Cur b i) : ok (F44 n s b i h) fun r => r.1.size ≤ 300000 ∧ Cur r.2.1 r.2.2.1 := by
  have ex : ∀ a b : Nat, (s.extract a b).size ≤ 100000 := fun a b => by rw [ByteArray.size_extract]; omega
  have e1 : ∀ x : Int, (strOf [x]).size = 1 := fun x => strOf_size [x]
  unfold F44
  refine ok.ite (fun _ => (t67 hn c).bind fun r1 q1 => ok.some ⟨by show r1.1.size ≤ 300000; omega, q1.2⟩) (fun h0 => ?_)
  refine (t43 c).bind fun r2 q2 => (t43 q2.2.2.2).bind fun r3 q3 => ?_
  have h1 := q2.1
  have h2 := q2.2.1 (by omega)
  rw [w64 (x := r2.1 + 1) (by omega) (by omega)]
  have x1 := ex (0 : Int).toNat r2.1.toNat
  have x2 := ex (r2.1 + 1).toNat (s.size : Int).toNat
  have x3 := ex r2.1.toNat (s.size : Int).toNat
  refine ok.ite (fun _ => ok.guard (by decide) (ok.guard h1 (ok.guard (by omega) (ok.guard (by omega) (ok.guard (by omega) (ok.guard (by omega) (ok.guard (by omega) (ok.some ⟨?_, q3.2.2.2⟩)))))))) (fun _ => ?_)
  · show (_ ++ _ : ByteArray).size ≤ 300000
    rw [ByteArray.size_append]; omega
  · refine ok.ite (fun _ => ok.guard (by decide) (ok.guard h1 (ok.guard (by omega) ((t66 q3.2.2.2).bind fun r4 q4 => ok.guard (by rw [e1]; omega) (ok.guard h1 (ok.guard (by omega) (ok.guard (by omega) (ok.guard (by rw [ByteArray.size_append, e1]; omega) (ok.some ⟨?_, q4.2.2⟩))))))))) (fun _ => ?_)
    · show (_ ++ _ ++ _ : ByteArray).size ≤ 300000
      rw [ByteArray.size_append, ByteArray.size_append, e1]; omega
    · refine ok.ite (fun _ => ok.guard (by decide) (ok.guard h1 (ok.guard (by omega) (ok.some ⟨by show (s.extract _ _).size ≤ 300000; omega, q3.2.2.2⟩)))) (fun _ => ?_)
      refine ok.guard (by decide) (ok.guard h1 (ok.guard (by omega) (ok.guard h1 (ok.guard (by omega) ((t43 q3.2.2.2).bind fun r5 q5 => ok.guard (by rw [e1]; omega) (ok.guard (by omega) (ok.guard (by omega) (ok.guard (by omega) (ok.guard (by rw [ByteArray.size_append, e1]; omega) (ok.some ⟨?_, q5.2.2.2⟩))))))))))
      show (_ ++ _ ++ _ : ByteArray).size ≤ 300000
      rw [ByteArray.size_append, ByteArray.size_append, e1]; omega

def rowS (w : Nat) (l : List Op4) : Prop := l.length ≤ w ∧ ∀ o ∈ l, o.2.1.size ≤ 5
def TS (w : Nat) (T : Td) : Prop := ∀ l ∈ T, rowS w l
theorem TS.sz {w : Nat} {T : Td} (h : TS w T) : TSz T := fun l hl o ho => by have := (h l hl).2 o ho; omega
theorem key5 {l : List ByteArray} (h : ∀ x ∈ l, x.size ≤ 5) {n : Nat} {b : List Int} {i g : Int} (c : Cur b i) (hl : 0 < l.length) : ok (F45 n l b i g) fun r => r.1.size ≤ 5 ∧ Cur r.2.1 r.2.2.1 :=
  (t45 c hl).mono fun r q => ⟨h _ q.1, q.2⟩
theorem t55 {n : Nat} {b : List Int} {i h : Int} (c : Cur b i) : ok (F55 n b i h) fun r => r.2.1.size ≤ 5 ∧ Cur r.2.2.2.2.1 r.2.2.2.2.2.1 := by
  unfold F55
  refine (key5 (fun x hx => ?_) c (by decide)).bind fun r1 q1 => (t65 q1.2).bind fun r2 q2 => ok.iteb (fun _ => (t50 q2 (by decide)).bind fun r3 q3 => ok.some ⟨q1.1, q3.2⟩) (fun _ => (t75 q2).bind fun r4 q4 => ok.some ⟨q1.1, q4⟩)
  simp only [List.mem_cons, List.not_mem_nil, or_false] at hx
  rcases hx with rfl | rfl | rfl | rfl | rfl | rfl | rfl | rfl <;> decide
theorem t42_1 {n : Nat} {Q : Td × List Int × Int × Int × Unit → Prop} {g0 : Int → Int → Td → List Int → List Int → Int → Int → Option (Td × List Int × Int × Int × Unit)} {i0 i1 : Int} {L3 : Td} {L4 : List Int} (hL : L3.length ≤ 10)
    (hg : ∀ row b i h, rowS 100 row → Cur b i → ok (g0 i0 (wrap64 (i1 + 1)) (L3 ++ [row]) L4 b i h) Q) : ∀ (k : Nat) (i2 : Int) (row : List Op4) (b : List Int) (i h : Int), 0 ≤ i2 → i2 < k → i2 ≤ 1000 → row.length ≤ 10 → (∀ o ∈ row, o.2.1.size ≤ 5) → Cur b i → ok (lp42_1 n g0 k i0 i1 i2 L3 L4 row b i h) Q
  | 0, i2, row, b, i, h, h0, hk, hm, hr, hs, c => by omega
  | k + 1, i2, row, b, i, h, h0, hk, hm, hr, hs, c => by
    have hj : ok (j42_0 n g0 i0 i1 L3 L4 row b i h) Q := by
      unfold j42_0
      exact ok.guard (by simp only [List.length_cons, List.length_nil]; omega) (hg row b i h ⟨by omega, hs⟩ c)
    show ok (st42_1 n g0 (lp42_1 n g0 k) i0 i1 i2 L3 L4 row b i h) Q
    unfold st42_1
    refine ok.ite (fun h1 => ok.ite (fun h2 => (t55 c).bind fun r5 q5 => ok.guard (by simp only [List.length_cons, List.length_nil]; omega) ?_) (fun _ => hj)) (fun _ => hj)
    rw [w64 (x := i2 - 1) (by omega) (by omega)]
    refine t42_1 hL hg k _ _ _ _ _ (by omega) (by omega) (by omega) (by simp only [List.length_append, List.length_cons, List.length_nil]; omega) (fun o ho => ?_) q5.2
    rcases List.mem_append.1 ho with ho | ho
    · exact hs o ho
    · rw [List.mem_singleton.1 ho]; exact q5.1
theorem TS.snoc {T : Td} (h : TS 100 T) {row : List Op4} (hr : rowS 100 row) : TS 100 (T ++ [row]) := fun l hl => by
  rcases List.mem_append.1 hl with hl | hl
  · exact h l hl
  · rw [List.mem_singleton.1 hl]; exact hr
theorem t42_2 {n : Nat} {T : Td} (h3 : T.length = 3) (hT : TS 100 T) : ∀ (k : Nat) (i0 : Int) (row : List Op4) (b : List Int) (i h : Int), 0 ≤ i0 → i0 < k → row.length + i0 ≤ 100 → (∀ o ∈ row, o.2.1.size ≤ 5) → Cur b i → ok (lp42_2 n k i0 T row b i h) fun r => r.1.length = 4 ∧ TS 100 r.1 ∧ Cur r.2.1 r.2.2.1
  | 0, i0, row, b, i, h, h0, hk, hm, hs, c => by omega
  | k + 1, i0, row, b, i, h, h0, hk, hm, hs, c => by
    show ok (st42_2 n (lp42_2 n k) i0 T row b i h) _
    unfold st42_2
    refine ok.ite (fun h1 => ok.guard (by simp only [List.length_cons, List.length_nil]; omega) ?_) (fun _ => ok.guard (by simp only [List.length_cons, List.length_nil]; omega) (ok.some ⟨by show (T ++ [row]).length = 4; rw [List.length_append, h3]; rfl, hT.snoc ⟨by omega, hs⟩, c⟩))
    rw [w64 (x := i0 - 1) (by omega) (by omega)]
    refine t42_2 h3 hT k _ _ _ _ _ (by omega) (by omega) (by simp only [List.length_append, List.length_cons, List.length_nil]; omega) (fun o ho => ?_) c
    rcases List.mem_append.1 ho with ho | ho
    · exact hs o ho
    · rw [List.mem_singleton.1 ho]; show (0 : Nat) ≤ 5; omega
theorem t42_0 {n : Nat} (hn : 2000000 ≤ n) {m : Int} (hm0 : 0 < m) (hm : m ≤ 100) {p q : Int} : ∀ (k j : Nat) (T : Td) (b : List Int) (i h : Int), j ≤ 3 → 3 - j < k → T.length = j → TS 100 T → Cur b i → ok (lp42_0 n k m (j : Int) T [p, q] b i h) fun r => r.1.length = 4 ∧ TS 100 r.1 ∧ Cur r.2.1 r.2.2.1
  | 0, j, T, b, i, h, hj, hk, hl, hT, c => by omega
  | k + 1, j, T, b, i, h, hj, hk, hl, hT, c => by
    show ok (st42_0 n (lp42_1 n (lp42_0 n k) n) (lp42_2 n n) (lp42_0 n k) m (j : Int) T [p, q] b i h) _
    unfold st42_0
    refine ok.ite (fun h1 => (t65 c).bind fun r3 q3 => ?_) (fun h1 => (t43 c).bind fun r7 q7 => ?_)
    · have hg : ∀ row b i h, rowS 100 row → Cur b i → ok (lp42_0 n k m (wrap64 ((j : Int) + 1)) (T ++ [row]) [p, q] b i h) fun r => r.1.length = 4 ∧ TS 100 r.1 ∧ Cur r.2.1 r.2.2.1 := fun row b i h hr c => by
        rw [wb j 3 (by omega) (by omega)]
        exact t42_0 hn hm0 hm k (j + 1) _ _ _ _ (by omega) (by omega) (by rw [List.length_append, hl]; rfl) (hT.snoc hr) c
      refine ok.iteb (fun _ => ok.guard (by decide) (ok.guard (by simp) (ok.guard (by decide) (ok.guard (by simp) (ok.guard (by simp) ((t43 q3).bind fun r4 q4 => ?_)))))) (fun _ => (t43 q3).bind fun r6 q6 => ?_)
      · have := q4.2.1 hm0
        refine t42_1 (by omega) hg n _ _ _ _ _ q4.1 (by omega) (by omega) (by simp) (fun o ho => ?_) q4.2.2.2
        simp only [List.nil_append, List.mem_cons, List.not_mem_nil, or_false] at ho
        rcases ho with rfl | rfl
        · show (1 : Nat) ≤ 5; omega
        · show (1 : Nat) ≤ 5; omega
      · have := q6.2.1 hm0
        exact t42_1 (by omega) hg n _ _ _ _ _ q6.1 (by omega) (by omega) (by simp) (fun o ho => by cases ho) q6.2.2.2
    · have := q7.2.1 (by decide)
      exact t42_2 (by omega) hT n _ _ _ _ _ q7.1 (by omega) (by simp only [List.length_nil]; omega) (fun o ho => by cases ho) q7.2.2.2
theorem t42 {n : Nat} (hn : 2000000 ≤ n) {m : Int} (hm0 : 0 < m) (hm : m ≤ 100) {b : List Int} {i h : Int} (c : Cur b i) : ok (F42 n m b i h) fun r => r.1.length = 4 ∧ TS 100 r.1 ∧ Cur r.2.1 r.2.2.1 := by
  unfold F42 st42
  exact (t43 c).bind fun r1 q1 => (t43 q1.2.2.2).bind fun r2 q2 => t42_0 hn hm0 hm n 0 [] _ _ _ (by omega) (by omega) rfl (fun l hl => by cases hl) q2.2.2.2
theorem TS.put {T : Td} (h : TS 150 T) {i : Nat} {o : Op4} (hi : i < T.length) (hl : T[i].length ≤ 149) (ho : o.2.1.size ≤ 5) : TS 150 (T.set i (T[i] ++ [o])) := fun l hm => by
  rcases List.mem_or_eq_of_mem_set hm with hm | rfl
  · exact h l hm
  · refine ⟨by simp only [List.length_append, List.length_cons, List.length_nil]; omega, fun q hq => ?_⟩
    rcases List.mem_append.1 hq with hq | hq
    · exact (h _ (List.getElem_mem hi)).2 q hq
    · rw [List.mem_singleton.1 hq]; exact ho
theorem t36_0 {n : Nat} : ∀ (k : Nat) (T : Td) (b : List Int) (i h : Int) (h4 : T.length = 4), TS 150 T → Cur b i → 300 - (T[0]'(by omega)).length < k → ok (lp36_0 n k T b i h) fun r => r.1.length = 4 ∧ TS 150 r.1
  | 0, T, b, i, h, h4, hT, c, hk => by omega
  | k + 1, T, b, i, h, h4, hT, c, hk => by
    have h0 : 0 < T.length := by omega
    show ok (st36_0 n (lp36_0 n k) T b i h) _
    unfold st36_0
    have e0 : rdOf ([] : List Op4) T (0 : Int) = T[0] := rdOf_nat (i := 0) h0
    rw [e0]
    refine ok.guard (by decide) (ok.guard (by omega) ((t43 c).bind fun r3 q3 => ?_))
    have hm := q3.2.1 (by decide)
    have hm0 := q3.1
    rw [w64 (x := 10 + r3.1) (by omega) (by omega)]
    refine ok.ite (fun h1 => ok.guard (by decide) (ok.guard (by omega) ((t55 q3.2.2.2).bind fun r4 q4 => ok.guard (by simp only [List.length_cons, List.length_nil]; omega) (ok.guard (by decide) (ok.guard (by omega) (ok.guard rfl ?_)))))) (fun _ => ok.some ⟨h4, hT⟩)
    refine t36_0 k _ _ _ _ (by rw [List.length_set]; exact h4) (hT.put h0 (by omega) q4.1) q4.2 ?_
    show 300 - ((T.set 0 (T[0] ++ [_]))[0]'_).length < k
    rw [List.getElem_set_self]
    simp only [List.length_append, List.length_cons, List.length_nil]
    omega
theorem t36 {n : Nat} (hn : 2000000 ≤ n) {b : List Int} {i h : Int} (c : Cur b i) : ok (F36 n b i h) fun r => r.1.length ≤ 4 ∧ TS 150 r.1 := by
  unfold F36 st36
  refine (t42 hn (by decide) (by decide) c).bind fun r1 q1 => (t43 q1.2.2).bind fun r2 q2 => ?_
  obtain ⟨T, b1, i1, h1, u⟩ := r1
  obtain ⟨h4, hT, c1⟩ := q1
  have h4 : T.length = 4 := h4
  have hT : TS 100 T := hT
  have hT2 : TS 150 T := fun l hl => ⟨by have := (hT l hl).1; omega, (hT l hl).2⟩
  have e1 : rdOf ([] : List Op4) T (1 : Int) = T[1] := rdOf_nat (i := 1) (by omega)
  have e2 : rdOf ([] : List Op4) T (2 : Int) = T[2] := rdOf_nat (i := 2) (by omega)
  have l1 := (hT _ (List.getElem_mem (show 1 < T.length by omega))).1
  have l2 := (hT _ (List.getElem_mem (show 2 < T.length by omega))).1
  refine ok.ite (fun _ => ok.guard (by decide) (ok.guard (by decide) (ok.guard ?_ (ok.some ⟨?_, ?_⟩)))) (fun _ => ok.ite (fun _ => ?_) (fun _ => ok.ite (fun _ => ?_) (fun _ => ok.ite (fun _ => ?_) (fun _ => ok.some ⟨by show T.length ≤ 4; omega, hT2⟩))))
  · show (3 : Int) ≤ (T.length : Int); omega
  · show (cutL T 0 3).length ≤ 4
    unfold cutL
    rw [List.length_drop, List.length_take]
    omega
  · intro l hl
    have hl : l ∈ cutL T 0 3 := hl
    unfold cutL at hl
    exact hT2 l (List.mem_of_mem_take (List.mem_of_mem_drop hl))
  · show ok (if decide ((0 : Int) ≤ 1) = true then if decide ((1 : Int) < (T.length : Int)) = true then if decide (((rdOf ([] : List Op4) T (1 : Int)).length + _) * 40 ≤ 140737488355328) = true then _ else _ else _ else _) _
    have e1' : rdOf ([] : List Op4) ((T, b1, i1, h1, u) : Td × List Int × Int × Int × Unit).1 (1 : Int) = T[1] := e1
    rw [e1']
    refine ok.guard (by decide) (ok.guard (by omega) (ok.guard (by simp only [List.length_cons, List.length_nil]; omega) (ok.guard (by decide) (ok.guard (by show (1 : Int) < (T.length : Int); omega) (ok.guard rfl (ok.some ⟨?_, hT2.put (show 1 < T.length by omega) (by omega) (show (0 : Nat) ≤ 5 by omega)⟩))))))
    show (T.set 1 _).length ≤ 4
    rw [List.length_set]; omega
  · exact (t36_0 n T _ _ _ h4 hT2 q2.2.2.2 (by omega)).mono fun r q => ⟨by omega, q.2⟩
  · refine ok.guard (by decide) (ok.guard (by show (2 : Int) < (T.length : Int); omega) ((t56 q2.2.2.2).bind fun r5 q5 => (t50 q5.2 (by decide)).bind fun r6 q6 => ?_))
    have e2' : rdOf ([] : List Op4) ((T, b1, i1, h1, u) : Td × List Int × Int × Int × Unit).1 (2 : Int) = T[2] := e2
    rw [e2']
    refine ok.guard (by simp only [List.length_cons, List.length_nil]; omega) (ok.guard (by decide) (ok.guard (by show (2 : Int) < (T.length : Int); omega) (ok.guard rfl (ok.some ⟨?_, hT2.put (show 2 < T.length by omega) (by omega) q5.1⟩))))
    show (T.set 2 _).length ≤ 4
    rw [List.length_set]; omega
theorem t14 {n : Nat} (hn : 2000000 ≤ n) {y : List Int} (hb : y.length ≤ 1048576) (hy : ∀ x ∈ y, 0 ≤ x ∧ x < 256) : ok (F14 n y) fun r => r.1.length ≤ 4 ∧ TS 150 r.1 := by
  unfold F14
  exact (t22 (by omega) hb hy).bind fun r1 q1 => (t36 hn q1).bind fun r2 q2 => ok.some q2
theorem t27 {n : Nat} (hn : 2000000 ≤ n) {y : List Int} (hb : y.length ≤ 1048576) (hy : ∀ x ∈ y, 0 ≤ x ∧ x < 256) : ok (F27 n y) fun r => r.2.1.size ≤ 5 := by
  unfold F27
  exact (t22 (by omega) hb hy).bind fun r1 q1 => (t55 q1).bind fun r2 q2 => (t43 q2.2).bind fun r3 q3 => ok.ite (fun _ => (t43 q3.2.2.2).bind fun r4 _ => ok.some q2.1) (fun _ => ok.ite (fun _ => (t56 q3.2.2.2).bind fun r5 q5 => ok.some q5.1) (fun _ => ok.ite (fun _ => (t57 q3.2.2.2).bind fun r6 _ => ok.some q2.1) (fun _ => ok.ite (fun _ => (t50 q3.2.2.2 (by decide)).bind fun r7 _ => ok.some q2.1) (fun _ => ok.ite (fun _ => ok.some (show (0 : Nat) ≤ 5 by omega)) (fun _ => ok.some q2.1)))))
theorem t10 {n : Nat} (hn : 2000000 ≤ n) {y : List Int} (hb : y.length ≤ 1048576) (hy : ∀ x ∈ y, 0 ≤ x ∧ x < 256) : ok (F10 n y) fun r => r.2.1.size ≤ 5 := by
  unfold F10
  exact (t27 hn hb hy).bind fun r1 q1 => ok.some q1
theorem t41a {n : Nat} (hn : 2000000 ≤ n) {T : Td} (h4 : T.length = 4) (hs : TSz T) : ok (F41 n T) fun r => r.1.size ≤ 3000 := by
  by_cases hT : TOk n T
  · exact (t41 hn hT hs).mono fun r q => q.2
  · obtain ⟨k, rfl⟩ : ∃ k, n = k + 1 := ⟨n - 1, by omega⟩
    unfold F41 st41
    show ok (st41_0 (k + 1) (lp41_1 (k + 1) (lp41_0 (k + 1) k) (k + 1)) (lp41_0 (k + 1) k) T _ 0) _
    unfold st41_0
    refine ok.ite (fun _ => (t17 hn (by omega) hs).bind fun r1 q1 => ok.iteb (fun h => absurd (q1.1 h) hT) (fun _ => ok.some (show (0 : Nat) ≤ 3000 by omega))) (fun _ => ok.some (show (0 : Nat) ≤ 3000 by omega))
theorem t18 {n : Nat} (hn : 2000000 ≤ n) {y : List Int} (hb : y.length ≤ 1048576) (hy : ∀ x ∈ y, 0 ≤ x ∧ x < 256) : ok (F18 n y) fun r => r.1.size ≤ 1048576 := by
  unfold F18
  refine (t22 (by omega) hb hy).bind fun r1 q1 => (t42 hn (by decide) (by decide) q1).bind fun r2 q2 => (t41a hn q2.1 q2.2.1.sz).bind fun r3 q3 => (t43 q2.2.2).bind fun r4 q4 => ok.ite (fun _ => (t44 (by omega) (by omega) q4.2.2.2).bind fun r5 q5 => ok.some (by show r5.1.size ≤ _; omega)) (fun _ => ok.ite (fun _ => ?_) (fun _ => ok.some (by show r3.1.size ≤ _; omega)))
  refine (t45 q4.2.2.2 (by decide)).bind fun r6 q6 => ?_
  have hx : r6.1.size ≤ 10 := by
    have := q6.1
    simp only [List.mem_cons, List.not_mem_nil, or_false] at this
    rcases this with e | e | e | e <;> (rw [e]; decide)
  exact ok.guard (by omega) (ok.some (by show (r3.1 ++ r6.1).size ≤ _; rw [ByteArray.size_append]; omega))
theorem t20 {n : Nat} (hn : 2000000 ≤ n) {y : List Int} (hb : y.length ≤ 1048576) (hy : ∀ x ∈ y, 0 ≤ x ∧ x < 256) : ok (F20 n y) fun _ => True := by
  unfold F20
  refine (t22 (by omega) hb hy).bind fun r1 q1 => (t49 hn q1).bind fun r2 q2 => (t48 hn (by omega)).bind fun r3 q3 => (t43 q2.2).bind fun r4 q4 => ok.ite (fun _ => (t44 (by omega) (by omega) q4.2.2.2).bind fun r5 q5 => ok.some trivial) (fun _ => ok.ite (fun _ => ok.guard ?_ (ok.some trivial)) (fun _ => ok.some trivial))
  have : (⟨#[0]⟩ : ByteArray).size = 1 := rfl
  omega
theorem t5 {n : Nat} (hn : 2000000 ≤ n) {y : List Int} (hb : y.length ≤ 1048576) (hy : ∀ x ∈ y, 0 ≤ x ∧ x < 256) : ok (F5 n y) fun r => r.1.length ≤ 71 := by
  unfold F5
  exact (t22 (by omega) hb hy).bind fun r1 q1 => (t21 hn q1).bind fun r2 q2 => ok.some q2
end Go.Eva
end
