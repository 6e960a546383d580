/- A verified evaluator of the translated code, part 3: EvaU_1, EvaU_2, EvaU_3, EvaU_4 -/
import Derived.Test.YtjpndagendnefaaR2
section
/- The functions, as their texts evaluate. -/
set_option linter.unusedVariables false
set_option maxRecDepth 100000
namespace Go.Eva
open Go.Proofs
open Go.RowKit (wrap64)
/-! spec.SameReport -/
noncomputable def st14_0 (n : Nat) (g0 : (List (ByteArray × (Int × (Int × (Bool × (Int × (Int × (Int × (Int × (Int × Int)))))))))) → (List (ByteArray × (Int × (Int × (Bool × (Int × (Int × (Int × (Int × (Int × Int)))))))))) → Int → Option (Bool × Unit)) (l0 : List (ByteArray × (Int × (Int × (Bool × (Int × (Int × (Int × (Int × (Int × Int)))))))))) (l1 : List (ByteArray × (Int × (Int × (Bool × (Int × (Int × (Int × (Int × (Int × Int)))))))))) (i2 : Int) : Option (Bool × Unit) :=
  if (decide (i2 < (l0.length : Int))) = true then
    if (decide (0 ≤ i2)) = true then
    if (decide (i2 < (l0.length : Int))) = true then
    if (decide (0 ≤ i2)) = true then
    if (decide (i2 < (l1.length : Int))) = true then
    if (!(decide (((rdOf ((⟨#[]⟩ : ByteArray), ((0 : Int), ((0 : Int), (false, ((0 : Int), ((0 : Int), ((0 : Int), ((0 : Int), ((0 : Int), (0 : Int)))))))))) l0 i2).1).toList = ((rdOf ((⟨#[]⟩ : ByteArray), ((0 : Int), ((0 : Int), (false, ((0 : Int), ((0 : Int), ((0 : Int), ((0 : Int), ((0 : Int), (0 : Int)))))))))) l1 i2).1).toList) && (decide (((rdOf ((⟨#[]⟩ : ByteArray), ((0 : Int), ((0 : Int), (false, ((0 : Int), ((0 : Int), ((0 : Int), ((0 : Int), ((0 : Int), (0 : Int)))))))))) l0 i2).2).1 = ((rdOf ((⟨#[]⟩ : ByteArray), ((0 : Int), ((0 : Int), (false, ((0 : Int), ((0 : Int), ((0 : Int), ((0 : Int), ((0 : Int), (0 : Int)))))))))) l1 i2).2).1) && (decide ((((rdOf ((⟨#[]⟩ : ByteArray), ((0 : Int), ((0 : Int), (false, ((0 : Int), ((0 : Int), ((0 : Int), ((0 : Int), ((0 : Int), (0 : Int)))))))))) l0 i2).2).2).1 = (((rdOf ((⟨#[]⟩ : ByteArray), ((0 : Int), ((0 : Int), (false, ((0 : Int), ((0 : Int), ((0 : Int), ((0 : Int), ((0 : Int), (0 : Int)))))))))) l1 i2).2).2).1) && (((((((rdOf ((⟨#[]⟩ : ByteArray), ((0 : Int), ((0 : Int), (false, ((0 : Int), ((0 : Int), ((0 : Int), ((0 : Int), ((0 : Int), (0 : Int)))))))))) l0 i2).2).2).2).1) == (((((rdOf ((⟨#[]⟩ : ByteArray), ((0 : Int), ((0 : Int), (false, ((0 : Int), ((0 : Int), ((0 : Int), ((0 : Int), ((0 : Int), (0 : Int)))))))))) l1 i2).2).2).2).1)) && (decide ((((((rdOf ((⟨#[]⟩ : ByteArray), ((0 : Int), ((0 : Int), (false, ((0 : Int), ((0 : Int), ((0 : Int), ((0 : Int), ((0 : Int), (0 : Int)))))))))) l0 i2).2).2).2).2).1 = (((((rdOf ((⟨#[]⟩ : ByteArray), ((0 : Int), ((0 : Int), (false, ((0 : Int), ((0 : Int), ((0 : Int), ((0 : Int), ((0 : Int), (0 : Int)))))))))) l1 i2).2).2).2).2).1) && (decide (((((((rdOf ((⟨#[]⟩ : ByteArray), ((0 : Int), ((0 : Int), (false, ((0 : Int), ((0 : Int), ((0 : Int), ((0 : Int), ((0 : Int), (0 : Int)))))))))) l0 i2).2).2).2).2).2).1 = ((((((rdOf ((⟨#[]⟩ : ByteArray), ((0 : Int), ((0 : Int), (false, ((0 : Int), ((0 : Int), ((0 : Int), ((0 : Int), ((0 : Int), (0 : Int)))))))))) l1 i2).2).2).2).2).2).1) && (decide ((((((((rdOf ((⟨#[]⟩ : ByteArray), ((0 : Int), ((0 : Int), (false, ((0 : Int), ((0 : Int), ((0 : Int), ((0 : Int), ((0 : Int), (0 : Int)))))))))) l0 i2).2).2).2).2).2).2).1 = (((((((rdOf ((⟨#[]⟩ : ByteArray), ((0 : Int), ((0 : Int), (false, ((0 : Int), ((0 : Int), ((0 : Int), ((0 : Int), ((0 : Int), (0 : Int)))))))))) l1 i2).2).2).2).2).2).2).1) && (decide (((((((((rdOf ((⟨#[]⟩ : ByteArray), ((0 : Int), ((0 : Int), (false, ((0 : Int), ((0 : Int), ((0 : Int), ((0 : Int), ((0 : Int), (0 : Int)))))))))) l0 i2).2).2).2).2).2).2).2).1 = ((((((((rdOf ((⟨#[]⟩ : ByteArray), ((0 : Int), ((0 : Int), (false, ((0 : Int), ((0 : Int), ((0 : Int), ((0 : Int), ((0 : Int), (0 : Int)))))))))) l1 i2).2).2).2).2).2).2).2).1) && (decide ((((((((((rdOf ((⟨#[]⟩ : ByteArray), ((0 : Int), ((0 : Int), (false, ((0 : Int), ((0 : Int), ((0 : Int), ((0 : Int), ((0 : Int), (0 : Int)))))))))) l0 i2).2).2).2).2).2).2).2).2).1 = (((((((((rdOf ((⟨#[]⟩ : ByteArray), ((0 : Int), ((0 : Int), (false, ((0 : Int), ((0 : Int), ((0 : Int), ((0 : Int), ((0 : Int), (0 : Int)))))))))) l1 i2).2).2).2).2).2).2).2).2).1) && (decide ((((((((((rdOf ((⟨#[]⟩ : ByteArray), ((0 : Int), ((0 : Int), (false, ((0 : Int), ((0 : Int), ((0 : Int), ((0 : Int), ((0 : Int), (0 : Int)))))))))) l0 i2).2).2).2).2).2).2).2).2).2 = (((((((((rdOf ((⟨#[]⟩ : ByteArray), ((0 : Int), ((0 : Int), (false, ((0 : Int), ((0 : Int), ((0 : Int), ((0 : Int), ((0 : Int), (0 : Int)))))))))) l1 i2).2).2).2).2).2).2).2).2).2) && true))))))))))) = true then
      some (false, ())
    else
      g0 l0 l1 (wrap64 (i2 + 1))
    else none
    else none
    else none
    else none
  else
    some (true, ())
noncomputable def lp14_0 (n : Nat) : Nat → (List (ByteArray × (Int × (Int × (Bool × (Int × (Int × (Int × (Int × (Int × Int)))))))))) → (List (ByteArray × (Int × (Int × (Bool × (Int × (Int × (Int × (Int × (Int × Int)))))))))) → Int → Option (Bool × Unit)
  | 0 => fun _ _ _ => none
  | k + 1 => st14_0 n (lp14_0 n k)
noncomputable def st14 (n : Nat) (h0 : (List (ByteArray × (Int × (Int × (Bool × (Int × (Int × (Int × (Int × (Int × Int)))))))))) → (List (ByteArray × (Int × (Int × (Bool × (Int × (Int × (Int × (Int × (Int × Int)))))))))) → Int → Option (Bool × Unit)) (a0 : List (ByteArray × (Int × (Int × (Bool × (Int × (Int × (Int × (Int × (Int × Int)))))))))) (a1 : List (ByteArray × (Int × (Int × (Bool × (Int × (Int × (Int × (Int × (Int × Int)))))))))) : Option (Bool × Unit) :=
  if (decide ((a0.length : Int) ≠ (a1.length : Int))) = true then
    some (false, ())
  else
    h0 a0 a1 (0 : Int)
noncomputable def F14 (n : Nat) (a0 : List (ByteArray × (Int × (Int × (Bool × (Int × (Int × (Int × (Int × (Int × Int)))))))))) (a1 : List (ByteArray × (Int × (Int × (Bool × (Int × (Int × (Int × (Int × (Int × Int)))))))))) : Option (Bool × Unit) := st14 n (lp14_0 n n) a0 a1
noncomputable def c14 (n : Nat) : Con := ⟨[.one (.sl (.imm true) 30 (.pair .str (.pair (.int .i64) (.pair (.int .i64) (.pair .bool (.pair (.int .i64) (.pair (.int .i64) (.pair (.int .i64) (.pair (.int .i64) (.pair (.int .i64) (.int .i64))))))))))), .one (.sl (.imm true) 30 (.pair .str (.pair (.int .i64) (.pair (.int .i64) (.pair .bool (.pair (.int .i64) (.pair (.int .i64) (.pair (.int .i64) (.pair (.int .i64) (.pair (.int .i64) (.int .i64)))))))))))], [], [.one (.bool)], [], fun (x : List (ByteArray × (Int × (Int × (Bool × (Int × (Int × (Int × (Int × (Int × Int))))))))) × List (ByteArray × (Int × (Int × (Bool × (Int × (Int × (Int × (Int × (Int × Int))))))))) × Unit) => F14 n x.1 x.2.1⟩
noncomputable def G14 (n : Nat) : Gam := []
noncomputable def S14_0 (l0 : List (ByteArray × (Int × (Int × (Bool × (Int × (Int × (Int × (Int × (Int × Int)))))))))) (l1 : List (ByteArray × (Int × (Int × (Bool × (Int × (Int × (Int × (Int × (Int × Int)))))))))) (i2 : Int) : St := ⟨[.sl (.imm true) 30 (.pair .str (.pair (.int .i64) (.pair (.int .i64) (.pair .bool (.pair (.int .i64) (.pair (.int .i64) (.pair (.int .i64) (.pair (.int .i64) (.pair (.int .i64) (.int .i64)))))))))) l0, .sl (.imm true) 30 (.pair .str (.pair (.int .i64) (.pair (.int .i64) (.pair .bool (.pair (.int .i64) (.pair (.int .i64) (.pair (.int .i64) (.pair (.int .i64) (.pair (.int .i64) (.int .i64)))))))))) l1, .dead, .dead, .dead, .int .i64 i2] ++ List.replicate 20 .dead, List.replicate 26 Ob.none⟩
noncomputable def ga14_0 (n : Nat) (ks : List Nat) (k : Nat) (st : St) : Option (Bool × Unit) := goAt tab (G14 n) n (bodyOf Try.f14) (lvOf Try.f14) (lvOf Try.f14).ret [1, 1, 0, 1, 0] ks k st (evBody.endK tab (c14 n) Try.f14)
theorem el14_0 (n : Nat) : ∀ (k : Nat), ∀ (l0 : List (ByteArray × (Int × (Int × (Bool × (Int × (Int × (Int × (Int × (Int × Int)))))))))) (l1 : List (ByteArray × (Int × (Int × (Bool × (Int × (Int × (Int × (Int × (Int × Int)))))))))) (i2 : Int), ga14_0 n [] k (S14_0 l0 l1 i2) = lp14_0 n k l0 l1 i2 := by
  intro k
  induction k with
  | zero => intros; rfl
  | succ k ih =>
    intro l0 l1 i2
    have h : ga14_0 n [] (k + 1) (S14_0 l0 l1 i2) = st14_0 n (fun w0 w1 w2 => ga14_0 n [] k (S14_0 w0 w1 w2)) l0 l1 i2 := by kernel_rfl
    rw [h]
    have e : (fun w0 w1 w2 => ga14_0 n [] k (S14_0 w0 w1 w2)) = lp14_0 n k := by
      funext w0 w1 w2; exact ih w0 w1 w2
    rw [e]
    rfl
theorem e14 (n : Nat) (x : List (ByteArray × (Int × (Int × (Bool × (Int × (Int × (Int × (Int × (Int × Int))))))))) × List (ByteArray × (Int × (Int × (Bool × (Int × (Int × (Int × (Int × (Int × Int))))))))) × Unit) : evBody tab (G14 n) n (c14 n) Try.f14 x = F14 n x.1 x.2.1 := by
  have h : evBody tab (G14 n) n (c14 n) Try.f14 x = st14 n (fun w0 w1 w2 => ga14_0 n [] n (S14_0 w0 w1 w2)) x.1 x.2.1 := by kernel_rfl
  rw [h]
  have e0 : (fun w0 w1 w2 => ga14_0 n [] n (S14_0 w0 w1 w2)) = lp14_0 n n := by
    funext w0 w1 w2; exact el14_0 n n w0 w1 w2
  rw [e0]
  rfl
theorem g14 (W : World) (n : Nat) : Good Try.prog W 14 (c14 n) := body_good follows tabOk GamOk.nil (f := 14) (fn := Try.f14) (c := bodyOf Try.f14) (by kernel_rfl) (by kernel_rfl) (by kernel_rfl) (by kernel_rfl) (by kernel_rfl) (by kernel_rfl) (by kernel_rfl) (fun x r h => ⟨n, (e14 n x).trans h⟩)
/-! spec.l1New -/
noncomputable def st41_0 (n : Nat) (g0 : (List Int) → Int → Int → Option (Unit × List Int × Int × Int × Unit)) (l0 : List Int) (i1 : Int) (i2 : Int) : Option (Unit × List Int × Int × Int × Unit) :=
  if (decide (i2 < (l0.length : Int))) = true then
    if (decide (i2 < 4000)) = true then
      if (decide (0 ≤ i2)) = true then
      if (decide (i2 < (l0.length : Int))) = true then
      g0 l0 (andI .i64 (wrap64 ((wrap64 ((wrap64 (i1 * 131)) + (wrap64 ((rdOf (0 : Int) l0 i2))))) + 7)) (1073741823 : Int)) (wrap64 (i2 + 1))
      else none
      else none
    else
      some ((), l0, 0, i1, ())
  else
    some ((), l0, 0, i1, ())
noncomputable def lp41_0 (n : Nat) : Nat → (List Int) → Int → Int → Option (Unit × List Int × Int × Int × Unit)
  | 0 => fun _ _ _ => none
  | k + 1 => st41_0 n (lp41_0 n k)
noncomputable def st41 (n : Nat) (h0 : (List Int) → Int → Int → Option (Unit × List Int × Int × Int × Unit)) (a0 : List Int) : Option (Unit × List Int × Int × Int × Unit) :=
  h0 a0 (wrap64 (10101 + (a0.length : Int))) (0 : Int)
noncomputable def F41 (n : Nat) (a0 : List Int) : Option (Unit × List Int × Int × Int × Unit) := st41 n (lp41_0 n n) a0
noncomputable def c41 (n : Nat) : Con := ⟨[.one (.sl (.imm false) 5 (.int .u8))], [], [.one (.ptr 0 0)], [[(.sl (.imm false) 5 (.int .u8)), (.int .i64), (.int .i64)]], fun (x : List Int × Unit) => F41 n x.1⟩
noncomputable def G41 (n : Nat) : Gam := []
noncomputable def S41_0 (l0 : List Int) (i1 : Int) (i2 : Int) : St := ⟨[.sl (.imm false) 5 (.int .u8) l0, .dead, .dead, .int .i64 i1, .int .i64 i2] ++ List.replicate 27 .dead, List.replicate 32 Ob.none⟩
noncomputable def ga41_0 (n : Nat) (ks : List Nat) (k : Nat) (st : St) : Option (Unit × List Int × Int × Int × Unit) := goAt tab (G41 n) n (bodyOf Try.f41) (lvOf Try.f41) (lvOf Try.f41).ret [1, 1, 0, 1, 0] ks k st (evBody.endK tab (c41 n) Try.f41)
theorem el41_0 (n : Nat) : ∀ (k : Nat), ∀ (l0 : List Int) (i1 : Int) (i2 : Int), ga41_0 n [] k (S41_0 l0 i1 i2) = lp41_0 n k l0 i1 i2 := by
  intro k
  induction k with
  | zero => intros; rfl
  | succ k ih =>
    intro l0 i1 i2
    have h : ga41_0 n [] (k + 1) (S41_0 l0 i1 i2) = st41_0 n (fun w0 w1 w2 => ga41_0 n [] k (S41_0 w0 w1 w2)) l0 i1 i2 := by kernel_rfl
    rw [h]
    have e : (fun w0 w1 w2 => ga41_0 n [] k (S41_0 w0 w1 w2)) = lp41_0 n k := by
      funext w0 w1 w2; exact ih w0 w1 w2
    rw [e]
    rfl
theorem e41 (n : Nat) (x : List Int × Unit) : evBody tab (G41 n) n (c41 n) Try.f41 x = F41 n x.1 := by
  have h : evBody tab (G41 n) n (c41 n) Try.f41 x = st41 n (fun w0 w1 w2 => ga41_0 n [] n (S41_0 w0 w1 w2)) x.1 := by kernel_rfl
  rw [h]
  have e0 : (fun w0 w1 w2 => ga41_0 n [] n (S41_0 w0 w1 w2)) = lp41_0 n n := by
    funext w0 w1 w2; exact el41_0 n n w0 w1 w2
  rw [e0]
  rfl
theorem g41 (W : World) (n : Nat) : Good Try.prog W 41 (c41 n) := body_good follows tabOk GamOk.nil (f := 41) (fn := Try.f41) (c := bodyOf Try.f41) (by kernel_rfl) (by kernel_rfl) (by kernel_rfl) (by kernel_rfl) (by kernel_rfl) (by kernel_rfl) (by kernel_rfl) (fun x r h => ⟨n, (e41 n x).trans h⟩)
/-! spec.l1Byte -/
noncomputable def F71 (n : Nat) (a1 : List Int) (a2 : Int) (a3 : Int) : Option (Int × List Int × Int × Int × Unit) :=
  if (decide (0 ≤ 33)) = true then
  if (decide (0 ≤ 45)) = true then
  if (decide (a2 < (a1.length : Int))) = true then
    if (decide (0 ≤ a2)) = true then
    if (decide (a2 < (a1.length : Int))) = true then
    some ((andI .i64 (wrap64 ((andI .i64 (xorI .i64 (shrI (wrap64 ((wrap64 (a3 * 6364136223846793005)) + 1442695040888963407)) (min (33 : Int).toNat 64)) (shrI (wrap64 ((wrap64 (a3 * 6364136223846793005)) + 1442695040888963407)) (min (45 : Int).toNat 64))) (255 : Int)) + (wrap64 ((rdOf (0 : Int) a1 a2))))) (255 : Int)), a1, (wrap64 (a2 + 1)), (wrap64 ((wrap64 (a3 * 6364136223846793005)) + 1442695040888963407)), ())
    else none
    else none
  else
    some ((andI .i64 (xorI .i64 (shrI (wrap64 ((wrap64 (a3 * 6364136223846793005)) + 1442695040888963407)) (min (33 : Int).toNat 64)) (shrI (wrap64 ((wrap64 (a3 * 6364136223846793005)) + 1442695040888963407)) (min (45 : Int).toNat 64))) (255 : Int)), a1, a2, (wrap64 ((wrap64 (a3 * 6364136223846793005)) + 1442695040888963407)), ())
  else none
  else none
noncomputable def c71 (n : Nat) : Con := ⟨[.one (.ptr 0 0)], [[(.sl (.imm false) 5 (.int .u8)), (.int .i64), (.int .i64)]], [.one (.int .i64)], [[(.sl (.imm false) 5 (.int .u8)), (.int .i64), (.int .i64)]], fun (x : Unit × List Int × Int × Int × Unit) => F71 n x.2.1 x.2.2.1 x.2.2.2.1⟩
noncomputable def G71 (n : Nat) : Gam := []
theorem e71 (n : Nat) (x : Unit × List Int × Int × Int × Unit) : evBody tab (G71 n) n (c71 n) Try.f71 x = F71 n x.2.1 x.2.2.1 x.2.2.2.1 := by kernel_rfl
theorem g71 (W : World) (n : Nat) : Good Try.prog W 71 (c71 n) := body_good follows tabOk GamOk.nil (f := 71) (fn := Try.f71) (c := bodyOf Try.f71) (by kernel_rfl) (by kernel_rfl) (by kernel_rfl) (by kernel_rfl) (by kernel_rfl) (by kernel_rfl) (by kernel_rfl) (fun x r h => ⟨n, (e71 n x).trans h⟩)
/-! spec.l1Below -/
noncomputable def F45 (n : Nat) (a1 : Int) (a2 : List Int) (a3 : Int) (a4 : Int) : Option (Int × List Int × Int × Int × Unit) :=
  if (decide (a1 ≤ 0)) = true then
    some (0, a2, a3, a4, ())
  else
    if (decide (a1 ≤ 256)) = true then
      (F71 n a2 a3 a4).bind fun r1 =>
      if (decide (a1 ≠ 0)) = true then
      some ((r1.1.tmod a1), r1.2.1, r1.2.2.1, r1.2.2.2.1, ())
      else none
    else
      (F71 n a2 a3 a4).bind fun r2 =>
      (F71 n r2.2.1 r2.2.2.1 r2.2.2.2.1).bind fun r3 =>
      (F71 n r3.2.1 r3.2.2.1 r3.2.2.2.1).bind fun r4 =>
      (F71 n r4.2.1 r4.2.2.1 r4.2.2.2.1).bind fun r5 =>
      if (decide (a1 ≠ 0)) = true then
      some (((wrap64 ((wrap64 ((wrap64 ((wrap64 (r2.1 * 16777216)) + (wrap64 (r3.1 * 65536)))) + (wrap64 (r4.1 * 256)))) + r5.1)).tmod a1), r5.2.1, r5.2.2.1, r5.2.2.2.1, ())
      else none
noncomputable def c45 (n : Nat) : Con := ⟨[.one (.ptr 0 0), .one (.int .i64)], [[(.sl (.imm false) 5 (.int .u8)), (.int .i64), (.int .i64)]], [.one (.int .i64)], [[(.sl (.imm false) 5 (.int .u8)), (.int .i64), (.int .i64)]], fun (x : Unit × Int × List Int × Int × Int × Unit) => F45 n x.2.1 x.2.2.1 x.2.2.2.1 x.2.2.2.2.1⟩
noncomputable def G45 (n : Nat) : Gam := [((71, []), c71 n)]
theorem e45 (n : Nat) (x : Unit × Int × List Int × Int × Int × Unit) : evBody tab (G45 n) n (c45 n) Try.f45 x = F45 n x.2.1 x.2.2.1 x.2.2.2.1 x.2.2.2.2.1 := by kernel_rfl
theorem g45 (W : World) (n : Nat) : Good Try.prog W 45 (c45 n) := body_good follows tabOk (GamOk.cons (g71 W n) GamOk.nil) (f := 45) (fn := Try.f45) (c := bodyOf Try.f45) (by kernel_rfl) (by kernel_rfl) (by kernel_rfl) (by kernel_rfl) (by kernel_rfl) (by kernel_rfl) (by kernel_rfl) (fun x r h => ⟨n, (e45 n x).trans h⟩)
/-! spec.l1Once -/
noncomputable def F60 (n : Nat) (a1 : Int) (a2 : List Int) (a3 : Int) (a4 : Int) : Option (Bool × List Int × Int × Int × Unit) :=
  (F45 n a1 a2 a3 a4).bind fun r1 =>
  some (decide (r1.1 = 0), r1.2.1, r1.2.2.1, r1.2.2.2.1, ())
noncomputable def c60 (n : Nat) : Con := ⟨[.one (.ptr 0 0), .one (.int .i64)], [[(.sl (.imm false) 5 (.int .u8)), (.int .i64), (.int .i64)]], [.one (.bool)], [[(.sl (.imm false) 5 (.int .u8)), (.int .i64), (.int .i64)]], fun (x : Unit × Int × List Int × Int × Int × Unit) => F60 n x.2.1 x.2.2.1 x.2.2.2.1 x.2.2.2.2.1⟩
noncomputable def G60 (n : Nat) : Gam := [((45, []), c45 n)]
theorem e60 (n : Nat) (x : Unit × Int × List Int × Int × Int × Unit) : evBody tab (G60 n) n (c60 n) Try.f60 x = F60 n x.2.1 x.2.2.1 x.2.2.2.1 x.2.2.2.2.1 := by kernel_rfl
theorem g60 (W : World) (n : Nat) : Good Try.prog W 60 (c60 n) := body_good follows tabOk (GamOk.cons (g45 W n) GamOk.nil) (f := 60) (fn := Try.f60) (c := bodyOf Try.f60) (by kernel_rfl) (by kernel_rfl) (by kernel_rfl) (by kernel_rfl) (by kernel_rfl) (by kernel_rfl) (by kernel_rfl) (fun x r h => ⟨n, (e60 n x).trans h⟩)
/-! spec.l1PickInt -/
noncomputable def F79 (n : Nat) (a1 : List Int) (a2 : List Int) (a3 : Int) (a4 : Int) : Option (Int × List Int × Int × Int × Unit) :=
  (F45 n (a1.length : Int) a2 a3 a4).bind fun r1 =>
  if (decide (0 ≤ r1.1)) = true then
  if (decide (r1.1 < (a1.length : Int))) = true then
  some ((rdOf (0 : Int) a1 r1.1), r1.2.1, r1.2.2.1, r1.2.2.2.1, ())
  else none
  else none
noncomputable def c79 (n : Nat) : Con := ⟨[.one (.ptr 0 0), .one (.sl (.imm true) 3 (.int .i64))], [[(.sl (.imm false) 5 (.int .u8)), (.int .i64), (.int .i64)]], [.one (.int .i64)], [[(.sl (.imm false) 5 (.int .u8)), (.int .i64), (.int .i64)]], fun (x : Unit × List Int × List Int × Int × Int × Unit) => F79 n x.2.1 x.2.2.1 x.2.2.2.1 x.2.2.2.2.1⟩
noncomputable def G79 (n : Nat) : Gam := [((45, []), c45 n)]
theorem e79 (n : Nat) (x : Unit × List Int × List Int × Int × Int × Unit) : evBody tab (G79 n) n (c79 n) Try.f79 x = F79 n x.2.1 x.2.2.1 x.2.2.2.1 x.2.2.2.2.1 := by kernel_rfl
theorem g79 (W : World) (n : Nat) : Good Try.prog W 79 (c79 n) := body_good follows tabOk (GamOk.cons (g45 W n) GamOk.nil) (f := 79) (fn := Try.f79) (c := bodyOf Try.f79) (by kernel_rfl) (by kernel_rfl) (by kernel_rfl) (by kernel_rfl) (by kernel_rfl) (by kernel_rfl) (by kernel_rfl) (fun x r h => ⟨n, (e79 n x).trans h⟩)
/-! spec.l1Pick -/
noncomputable def F43 (n : Nat) (a1 : List ByteArray) (a2 : List Int) (a3 : Int) (a4 : Int) : Option (ByteArray × List Int × Int × Int × Unit) :=
  (F45 n (a1.length : Int) a2 a3 a4).bind fun r1 =>
  if (decide (0 ≤ r1.1)) = true then
  if (decide (r1.1 < (a1.length : Int))) = true then
  some ((rdOf (⟨#[]⟩ : ByteArray) a1 r1.1), r1.2.1, r1.2.2.1, r1.2.2.2.1, ())
  else none
  else none
noncomputable def c43 (n : Nat) : Con := ⟨[.one (.ptr 0 0), .one (.sl (.imm true) 9 .str)], [[(.sl (.imm false) 5 (.int .u8)), (.int .i64), (.int .i64)]], [.one (.str)], [[(.sl (.imm false) 5 (.int .u8)), (.int .i64), (.int .i64)]], fun (x : Unit × List ByteArray × List Int × Int × Int × Unit) => F43 n x.2.1 x.2.2.1 x.2.2.2.1 x.2.2.2.2.1⟩
noncomputable def G43 (n : Nat) : Gam := [((45, []), c45 n)]
theorem e43 (n : Nat) (x : Unit × List ByteArray × List Int × Int × Int × Unit) : evBody tab (G43 n) n (c43 n) Try.f43 x = F43 n x.2.1 x.2.2.1 x.2.2.2.1 x.2.2.2.2.1 := by kernel_rfl
theorem g43 (W : World) (n : Nat) : Good Try.prog W 43 (c43 n) := body_good follows tabOk (GamOk.cons (g45 W n) GamOk.nil) (f := 43) (fn := Try.f43) (c := bodyOf Try.f43) (by kernel_rfl) (by kernel_rfl) (by kernel_rfl) (by kernel_rfl) (by kernel_rfl) (by kernel_rfl) (by kernel_rfl) (fun x r h => ⟨n, (e43 n x).trans h⟩)
/-! spec.l4Key -/
noncomputable def F88 (n : Nat) (a1 : List Int) (a2 : Int) (a3 : Int) : Option (ByteArray × List Int × Int × Int × Unit) :=
  (F43 n ([(⟨#[97]⟩ : ByteArray), (⟨#[98]⟩ : ByteArray), (⟨#[99, 112, 117]⟩ : ByteArray), (⟨#[114, 101, 113]⟩ : ByteArray), (⟨#[120, 95, 49]⟩ : ByteArray), (⟨#[90, 57]⟩ : ByteArray), (⟨#[109, 101, 109]⟩ : ByteArray), (⟨#[113]⟩ : ByteArray)] : List ByteArray) a1 a2 a3).bind fun r1 =>
  some (r1.1, r1.2.1, r1.2.2.1, r1.2.2.2.1, ())
noncomputable def c88 (n : Nat) : Con := ⟨[.one (.ptr 0 0)], [[(.sl (.imm false) 5 (.int .u8)), (.int .i64), (.int .i64)]], [.one (.str)], [[(.sl (.imm false) 5 (.int .u8)), (.int .i64), (.int .i64)]], fun (x : Unit × List Int × Int × Int × Unit) => F88 n x.2.1 x.2.2.1 x.2.2.2.1⟩
noncomputable def G88 (n : Nat) : Gam := [((43, []), c43 n)]
theorem e88 (n : Nat) (x : Unit × List Int × Int × Int × Unit) : evBody tab (G88 n) n (c88 n) Try.f88 x = F88 n x.2.1 x.2.2.1 x.2.2.2.1 := by kernel_rfl
theorem g88 (W : World) (n : Nat) : Good Try.prog W 88 (c88 n) := body_good follows tabOk (GamOk.cons (g43 W n) GamOk.nil) (f := 88) (fn := Try.f88) (c := bodyOf Try.f88) (by kernel_rfl) (by kernel_rfl) (by kernel_rfl) (by kernel_rfl) (by kernel_rfl) (by kernel_rfl) (by kernel_rfl) (fun x r h => ⟨n, (e88 n x).trans h⟩)
/-! spec.l5Val -/
noncomputable def F89 (n : Nat) (a1 : List Int) (a2 : Int) (a3 : Int) : Option (Int × List Int × Int × Int × Unit) :=
  (F45 n (60000 : Int) a1 a2 a3).bind fun r1 =>
  (F45 n (100 : Int) r1.2.1 r1.2.2.1 r1.2.2.2.1).bind fun r2 =>
  (F79 n ([0, 1, 5, 65535, r1.1, r2.1] : List Int) r2.2.1 r2.2.2.1 r2.2.2.2.1).bind fun r3 =>
  some (r3.1, r3.2.1, r3.2.2.1, r3.2.2.2.1, ())
noncomputable def c89 (n : Nat) : Con := ⟨[.one (.ptr 0 0)], [[(.sl (.imm false) 5 (.int .u8)), (.int .i64), (.int .i64)]], [.one (.int .i64)], [[(.sl (.imm false) 5 (.int .u8)), (.int .i64), (.int .i64)]], fun (x : Unit × List Int × Int × Int × Unit) => F89 n x.2.1 x.2.2.1 x.2.2.2.1⟩
noncomputable def G89 (n : Nat) : Gam := [((45, []), c45 n), ((79, []), c79 n)]
theorem e89 (n : Nat) (x : Unit × List Int × Int × Int × Unit) : evBody tab (G89 n) n (c89 n) Try.f89 x = F89 n x.2.1 x.2.2.1 x.2.2.2.1 := by kernel_rfl
theorem g89 (W : World) (n : Nat) : Good Try.prog W 89 (c89 n) := body_good follows tabOk (GamOk.cons (g45 W n) (GamOk.cons (g79 W n) GamOk.nil)) (f := 89) (fn := Try.f89) (c := bodyOf Try.f89) (by kernel_rfl) (by kernel_rfl) (by kernel_rfl) (by kernel_rfl) (by kernel_rfl) (by kernel_rfl) (by kernel_rfl) (fun x r h => ⟨n, (e89 n x).trans h⟩)
/-! spec.l1In -/
noncomputable def F52 (n : Nat) (a0 : Int) (a1 : Int) (a2 : Int) : Option (Bool × Unit) :=
  if (decide (a0 ≥ a1)) = true then
    some (decide (a0 ≤ a2), ())
  else
    some (false, ())
noncomputable def c52 (n : Nat) : Con := ⟨[.one (.int .i64), .one (.int .i64), .one (.int .i64)], [], [.one (.bool)], [], fun (x : Int × Int × Int × Unit) => F52 n x.1 x.2.1 x.2.2.1⟩
noncomputable def G52 (n : Nat) : Gam := []
theorem e52 (n : Nat) (x : Int × Int × Int × Unit) : evBody tab (G52 n) n (c52 n) Try.f52 x = F52 n x.1 x.2.1 x.2.2.1 := by kernel_rfl
theorem g52 (W : World) (n : Nat) : Good Try.prog W 52 (c52 n) := body_good follows tabOk GamOk.nil (f := 52) (fn := Try.f52) (c := bodyOf Try.f52) (by kernel_rfl) (by kernel_rfl) (by kernel_rfl) (by kernel_rfl) (by kernel_rfl) (by kernel_rfl) (by kernel_rfl) (fun x r h => ⟨n, (e52 n x).trans h⟩)
/-! spec.l4Byte -/
noncomputable def F97 (n : Nat) (a0 : Int) : Option (Bool × Unit) :=
  (F52 n a0 (97 : Int) (122 : Int)).bind fun r1 =>
  if r1.1 = true then
    some (true, ())
  else
    (F52 n a0 (65 : Int) (90 : Int)).bind fun r2 =>
    if r2.1 = true then
      some (true, ())
    else
      (F52 n a0 (48 : Int) (57 : Int)).bind fun r3 =>
      if r3.1 = true then
        some (true, ())
      else
        some (decide (a0 = 95), ())
noncomputable def c97 (n : Nat) : Con := ⟨[.one (.int .i64)], [], [.one (.bool)], [], fun (x : Int × Unit) => F97 n x.1⟩
noncomputable def G97 (n : Nat) : Gam := [((52, []), c52 n)]
theorem e97 (n : Nat) (x : Int × Unit) : evBody tab (G97 n) n (c97 n) Try.f97 x = F97 n x.1 := by kernel_rfl
theorem g97 (W : World) (n : Nat) : Good Try.prog W 97 (c97 n) := body_good follows tabOk (GamOk.cons (g52 W n) GamOk.nil) (f := 97) (fn := Try.f97) (c := bodyOf Try.f97) (by kernel_rfl) (by kernel_rfl) (by kernel_rfl) (by kernel_rfl) (by kernel_rfl) (by kernel_rfl) (by kernel_rfl) (fun x r h => ⟨n, (e97 n x).trans h⟩)
/-! spec.KeyOk -/
noncomputable def st85_0 (n : Nat) (g0 : ByteArray → Int → Option (Bool × Unit)) (s0 : ByteArray) (i1 : Int) : Option (Bool × Unit) :=
  if (decide (i1 < (s0.size : Int))) = true then
    if (decide (0 ≤ i1)) = true then
    if (decide (i1 < (s0.size : Int))) = true then
    (F97 n (wrap64 ((bt s0 i1)))).bind fun r1 =>
    if (!r1.1) = true then
      some (false, ())
    else
      g0 s0 (wrap64 (i1 + 1))
    else none
    else none
  else
    (F52 n (s0.size : Int) (1 : Int) (4 : Int)).bind fun r2 =>
    some (r2.1, ())
noncomputable def lp85_0 (n : Nat) : Nat → ByteArray → Int → Option (Bool × Unit)
  | 0 => fun _ _ => none
  | k + 1 => st85_0 n (lp85_0 n k)
noncomputable def st85 (n : Nat) (h0 : ByteArray → Int → Option (Bool × Unit)) (a0 : ByteArray) : Option (Bool × Unit) :=
  h0 a0 (0 : Int)
noncomputable def F85 (n : Nat) (a0 : ByteArray) : Option (Bool × Unit) := st85 n (lp85_0 n n) a0
noncomputable def c85 (n : Nat) : Con := ⟨[.one (.str)], [], [.one (.bool)], [], fun (x : ByteArray × Unit) => F85 n x.1⟩
noncomputable def G85 (n : Nat) : Gam := [((52, []), c52 n), ((97, []), c97 n)]
noncomputable def S85_0 (s0 : ByteArray) (i1 : Int) : St := ⟨[.str s0, .dead, .dead, .int .i64 i1] ++ List.replicate 15 .dead, List.replicate 19 Ob.none⟩
noncomputable def ga85_0 (n : Nat) (ks : List Nat) (k : Nat) (st : St) : Option (Bool × Unit) := goAt tab (G85 n) n (bodyOf Try.f85) (lvOf Try.f85) (lvOf Try.f85).ret [1, 0, 1, 0] ks k st (evBody.endK tab (c85 n) Try.f85)
theorem el85_0 (n : Nat) : ∀ (k : Nat), ∀ (s0 : ByteArray) (i1 : Int), ga85_0 n [] k (S85_0 s0 i1) = lp85_0 n k s0 i1 := by
  intro k
  induction k with
  | zero => intros; rfl
  | succ k ih =>
    intro s0 i1
    have h : ga85_0 n [] (k + 1) (S85_0 s0 i1) = st85_0 n (fun w0 w1 => ga85_0 n [] k (S85_0 w0 w1)) s0 i1 := by kernel_rfl
    rw [h]
    have e : (fun w0 w1 => ga85_0 n [] k (S85_0 w0 w1)) = lp85_0 n k := by
      funext w0 w1; exact ih w0 w1
    rw [e]
    rfl
theorem e85 (n : Nat) (x : ByteArray × Unit) : evBody tab (G85 n) n (c85 n) Try.f85 x = F85 n x.1 := by
  have h : evBody tab (G85 n) n (c85 n) Try.f85 x = st85 n (fun w0 w1 => ga85_0 n [] n (S85_0 w0 w1)) x.1 := by kernel_rfl
  rw [h]
  have e0 : (fun w0 w1 => ga85_0 n [] n (S85_0 w0 w1)) = lp85_0 n n := by
    funext w0 w1; exact el85_0 n n w0 w1
  rw [e0]
  rfl
theorem g85 (W : World) (n : Nat) : Good Try.prog W 85 (c85 n) := body_good follows tabOk (GamOk.cons (g52 W n) (GamOk.cons (g97 W n) GamOk.nil)) (f := 85) (fn := Try.f85) (c := bodyOf Try.f85) (by kernel_rfl) (by kernel_rfl) (by kernel_rfl) (by kernel_rfl) (by kernel_rfl) (by kernel_rfl) (by kernel_rfl) (fun x r h => ⟨n, (e85 n x).trans h⟩)
/-! spec.l7Timer -/
noncomputable def F86 (n : Nat) (a0 : ByteArray) (a1 : Int) (a2 : Int) (a3 : Bool) (a4 : Int) (a5 : Int) (a6 : Int) (a7 : Int) (a8 : Int) (a9 : Int) : Option (Bool × Unit) :=
  if (decide (a5 = 0)) = true then
    if (decide (a6 = 0)) = true then
      if (decide (a7 = 0)) = true then
        if (decide (a8 = 0)) = true then
          some (decide (a9 = 0), ())
        else
          some (false, ())
      else
        some (false, ())
    else
      some (false, ())
  else
    (F52 n a5 (1 : Int) (3 : Int)).bind fun r1 =>
    if r1.1 = true then
      (F52 n a6 (0 : Int) a7).bind fun r2 =>
      if r2.1 = true then
        if (decide (a7 ≤ 65535)) = true then
          (F52 n a8 (wrap64 (a6 * a5)) (wrap64 (a7 * a5))).bind fun r3 =>
          if r3.1 = true then
            (F52 n a9 (0 : Int) (65535 : Int)).bind fun r4 =>
            if r4.1 = true then
              if (decide (a9 = 0)) = true then
                some (true, ())
              else
                some (decide (a5 = 3), ())
            else
              some (false, ())
          else
            some (false, ())
        else
          some (false, ())
      else
        some (false, ())
    else
      some (false, ())
noncomputable def c86 (n : Nat) : Con := ⟨[.agg [(.str), (.int .i64), (.int .i64), (.bool), (.int .i64), (.int .i64), (.int .i64), (.int .i64), (.int .i64), (.int .i64)]], [], [.one (.bool)], [], fun (x : ByteArray × Int × Int × Bool × Int × Int × Int × Int × Int × Int × Unit) => F86 n x.1 x.2.1 x.2.2.1 x.2.2.2.1 x.2.2.2.2.1 x.2.2.2.2.2.1 x.2.2.2.2.2.2.1 x.2.2.2.2.2.2.2.1 x.2.2.2.2.2.2.2.2.1 x.2.2.2.2.2.2.2.2.2.1⟩
noncomputable def G86 (n : Nat) : Gam := [((52, []), c52 n)]
theorem e86 (n : Nat) (x : ByteArray × Int × Int × Bool × Int × Int × Int × Int × Int × Int × Unit) : evBody tab (G86 n) n (c86 n) Try.f86 x = F86 n x.1 x.2.1 x.2.2.1 x.2.2.2.1 x.2.2.2.2.1 x.2.2.2.2.2.1 x.2.2.2.2.2.2.1 x.2.2.2.2.2.2.2.1 x.2.2.2.2.2.2.2.2.1 x.2.2.2.2.2.2.2.2.2.1 := by kernel_rfl
theorem g86 (W : World) (n : Nat) : Good Try.prog W 86 (c86 n) := body_good follows tabOk (GamOk.cons (g52 W n) GamOk.nil) (f := 86) (fn := Try.f86) (c := bodyOf Try.f86) (by kernel_rfl) (by kernel_rfl) (by kernel_rfl) (by kernel_rfl) (by kernel_rfl) (by kernel_rfl) (by kernel_rfl) (fun x r h => ⟨n, (e86 n x).trans h⟩)
/-! spec.RowOk -/
noncomputable def F65 (n : Nat) (a0 : ByteArray) (a1 : Int) (a2 : Int) (a3 : Bool) (a4 : Int) (a5 : Int) (a6 : Int) (a7 : Int) (a8 : Int) (a9 : Int) : Option (Bool × Unit) :=
  (F85 n a0).bind fun r1 =>
  if (!r1.1) = true then
    some (false, ())
  else
    if (decide (a1 = 1)) = true then
      if (decide (a0.toList = a0.toList) && (decide (a1 = a1) && (decide (a2 = a2) && ((a3 == false) && (decide (a4 = 0) && (decide (a5 = 0) && (decide (a6 = 0) && (decide (a7 = 0) && (decide (a8 = 0) && (decide (a9 = 0) && true)))))))))) = true then
        (F52 n a2 (0 : Int) (281474976710655 : Int)).bind fun r2 =>
        some (r2.1, ())
      else
        some (false, ())
    else
      if (decide (a1 = 2)) = true then
        if (decide (a0.toList = a0.toList) && (decide (a1 = a1) && (decide (a2 = 0) && ((a3 == a3) && (decide (a4 = a4) && (decide (a5 = 0) && (decide (a6 = 0) && (decide (a7 = 0) && (decide (a8 = 0) && (decide (a9 = 0) && true)))))))))) = true then
          (F52 n a4 (0 : Int) (65535 : Int)).bind fun r3 =>
          if r3.1 = true then
            if a3 = true then
              some (true, ())
            else
              some (decide (a4 = 0), ())
          else
            some (false, ())
        else
          some (false, ())
      else
        if (decide (a1 = 3)) = true then
          if (decide (a2 = 0)) = true then
            if (!a3) = true then
              if (decide (a4 = 0)) = true then
                (F86 n a0 a1 a2 a3 a4 a5 a6 a7 a8 a9).bind fun r4 =>
                some (r4.1, ())
              else
                some (false, ())
            else
              some (false, ())
          else
            some (false, ())
        else
          some (false, ())
noncomputable def c65 (n : Nat) : Con := ⟨[.agg [(.str), (.int .i64), (.int .i64), (.bool), (.int .i64), (.int .i64), (.int .i64), (.int .i64), (.int .i64), (.int .i64)]], [], [.one (.bool)], [], fun (x : ByteArray × Int × Int × Bool × Int × Int × Int × Int × Int × Int × Unit) => F65 n x.1 x.2.1 x.2.2.1 x.2.2.2.1 x.2.2.2.2.1 x.2.2.2.2.2.1 x.2.2.2.2.2.2.1 x.2.2.2.2.2.2.2.1 x.2.2.2.2.2.2.2.2.1 x.2.2.2.2.2.2.2.2.2.1⟩
noncomputable def G65 (n : Nat) : Gam := [((52, []), c52 n), ((85, []), c85 n), ((86, []), c86 n)]
theorem e65 (n : Nat) (x : ByteArray × Int × Int × Bool × Int × Int × Int × Int × Int × Int × Unit) : evBody tab (G65 n) n (c65 n) Try.f65 x = F65 n x.1 x.2.1 x.2.2.1 x.2.2.2.1 x.2.2.2.2.1 x.2.2.2.2.2.1 x.2.2.2.2.2.2.1 x.2.2.2.2.2.2.2.1 x.2.2.2.2.2.2.2.2.1 x.2.2.2.2.2.2.2.2.2.1 := by kernel_rfl
theorem g65 (W : World) (n : Nat) : Good Try.prog W 65 (c65 n) := body_good follows tabOk (GamOk.cons (g52 W n) (GamOk.cons (g85 W n) (GamOk.cons (g86 W n) GamOk.nil))) (f := 65) (fn := Try.f65) (c := bodyOf Try.f65) (by kernel_rfl) (by kernel_rfl) (by kernel_rfl) (by kernel_rfl) (by kernel_rfl) (by kernel_rfl) (by kernel_rfl) (fun x r h => ⟨n, (e65 n x).trans h⟩)
/-! spec.Sampled -/
noncomputable def F90 (n : Nat) (a0 : ByteArray) (a1 : Int) (a2 : Int) (a3 : Bool) (a4 : Int) (a5 : Int) (a6 : Int) (a7 : Int) (a8 : Int) (a9 : Int) (a10 : Int) : Option (ByteArray × Int × Int × Bool × Int × Int × Int × Int × Int × Int × Unit) :=
  (F65 n a0 a1 a2 a3 a4 a5 a6 a7 a8 a9).bind fun r1 =>
  if (!r1.1) = true then
    some (a0, a1, a2, a3, a4, a5, a6, a7, a8, a9, ())
  else
    if (decide (a1 ≠ 3)) = true then
      some (a0, a1, a2, a3, a4, a5, a6, a7, a8, a9, ())
    else
      (F52 n a10 (0 : Int) (65535 : Int)).bind fun r2 =>
      if (!r2.1) = true then
        some (a0, a1, a2, a3, a4, a5, a6, a7, a8, a9, ())
      else
        if (decide (a5 = 3)) = true then
          some (a0, a1, a2, a3, a4, a5, a6, a7, a8, (mn (wrap64 (a9 + 1)) (65535 : Int)), ())
        else
          if (decide (a5 = 0)) = true then
            some (a0, a1, a2, a3, a4, (wrap64 (a5 + 1)), (mn a10 a10), (mx a10 a10), (wrap64 (a8 + a10)), a9, ())
          else
            some (a0, a1, a2, a3, a4, (wrap64 (a5 + 1)), (mn a6 a10), (mx a7 a10), (wrap64 (a8 + a10)), a9, ())
noncomputable def c90 (n : Nat) : Con := ⟨[.agg [(.str), (.int .i64), (.int .i64), (.bool), (.int .i64), (.int .i64), (.int .i64), (.int .i64), (.int .i64), (.int .i64)], .one (.int .i64)], [], [.agg [(.str), (.int .i64), (.int .i64), (.bool), (.int .i64), (.int .i64), (.int .i64), (.int .i64), (.int .i64), (.int .i64)]], [], fun (x : ByteArray × Int × Int × Bool × Int × Int × Int × Int × Int × Int × Int × Unit) => F90 n x.1 x.2.1 x.2.2.1 x.2.2.2.1 x.2.2.2.2.1 x.2.2.2.2.2.1 x.2.2.2.2.2.2.1 x.2.2.2.2.2.2.2.1 x.2.2.2.2.2.2.2.2.1 x.2.2.2.2.2.2.2.2.2.1 x.2.2.2.2.2.2.2.2.2.2.1⟩
noncomputable def G90 (n : Nat) : Gam := [((52, []), c52 n), ((65, []), c65 n)]
theorem e90 (n : Nat) (x : ByteArray × Int × Int × Bool × Int × Int × Int × Int × Int × Int × Int × Unit) : evBody tab (G90 n) n (c90 n) Try.f90 x = F90 n x.1 x.2.1 x.2.2.1 x.2.2.2.1 x.2.2.2.2.1 x.2.2.2.2.2.1 x.2.2.2.2.2.2.1 x.2.2.2.2.2.2.2.1 x.2.2.2.2.2.2.2.2.1 x.2.2.2.2.2.2.2.2.2.1 x.2.2.2.2.2.2.2.2.2.2.1 := by kernel_rfl
theorem g90 (W : World) (n : Nat) : Good Try.prog W 90 (c90 n) := body_good follows tabOk (GamOk.cons (g52 W n) (GamOk.cons (g65 W n) GamOk.nil)) (f := 90) (fn := Try.f90) (c := bodyOf Try.f90) (by kernel_rfl) (by kernel_rfl) (by kernel_rfl) (by kernel_rfl) (by kernel_rfl) (by kernel_rfl) (by kernel_rfl) (fun x r h => ⟨n, (e90 n x).trans h⟩)
/-! spec.l7Row -/
noncomputable def st69_0 (n : Nat) (g0 : Int → ByteArray → Int → Int → Bool → Int → Int → Int → Int → Int → Int → ByteArray → Int → Int → Bool → Int → Int → Int → Int → Int → Int → (List Int) → Int → Int → Option (ByteArray × Int × Int × Bool × Int × Int × Int × Int × Int × Int × List Int × Int × Int × Unit)) (i0 : Int) (s1 : ByteArray) (i2 : Int) (i3 : Int) (b4 : Bool) (i5 : Int) (i6 : Int) (i7 : Int) (i8 : Int) (i9 : Int) (i10 : Int) (s11 : ByteArray) (i12 : Int) (i13 : Int) (b14 : Bool) (i15 : Int) (i16 : Int) (i17 : Int) (i18 : Int) (i19 : Int) (i20 : Int) (l21 : List Int) (i22 : Int) (i23 : Int) : Option (ByteArray × Int × Int × Bool × Int × Int × Int × Int × Int × Int × List Int × Int × Int × Unit) :=
  if (decide (i0 > 0)) = true then
    (F89 n l21 i22 i23).bind fun r8 =>
    (F90 n s11 i12 i13 b14 i15 i16 i17 i18 i19 i20 r8.1).bind fun r9 =>
    g0 (wrap64 (i0 - 1)) s1 i2 i3 b4 i5 i6 i7 i8 i9 i10 r9.1 r9.2.1 r9.2.2.1 r9.2.2.2.1 r9.2.2.2.2.1 r9.2.2.2.2.2.1 r9.2.2.2.2.2.2.1 r9.2.2.2.2.2.2.2.1 r9.2.2.2.2.2.2.2.2.1 r9.2.2.2.2.2.2.2.2.2.1 r8.2.1 r8.2.2.1 r8.2.2.2.1
  else
    some (s11, i12, i13, b14, i15, i16, i17, i18, i19, i20, l21, i22, i23, ())
noncomputable def lp69_0 (n : Nat) : Nat → Int → ByteArray → Int → Int → Bool → Int → Int → Int → Int → Int → Int → ByteArray → Int → Int → Bool → Int → Int → Int → Int → Int → Int → (List Int) → Int → Int → Option (ByteArray × Int × Int × Bool × Int × Int × Int × Int × Int × Int × List Int × Int × Int × Unit)
  | 0 => fun _ _ _ _ _ _ _ _ _ _ _ _ _ _ _ _ _ _ _ _ _ _ _ _ => none
  | k + 1 => st69_0 n (lp69_0 n k)
noncomputable def st69 (n : Nat) (h0 : Int → ByteArray → Int → Int → Bool → Int → Int → Int → Int → Int → Int → ByteArray → Int → Int → Bool → Int → Int → Int → Int → Int → Int → (List Int) → Int → Int → Option (ByteArray × Int × Int × Bool × Int × Int × Int × Int × Int × Int × List Int × Int × Int × Unit)) (a1 : List Int) (a2 : Int) (a3 : Int) : Option (ByteArray × Int × Int × Bool × Int × Int × Int × Int × Int × Int × List Int × Int × Int × Unit) :=
  (F88 n a1 a2 a3).bind fun r1 =>
  (F45 n (3 : Int) r1.2.1 r1.2.2.1 r1.2.2.2.1).bind fun r2 =>
  if (decide ((wrap64 (1 + r2.1)) = 1)) = true then
    (F45 n (9999 : Int) r2.2.1 r2.2.2.1 r2.2.2.2.1).bind fun r3 =>
    (F79 n ([0, 1, 281474976710655, r3.1] : List Int) r3.2.1 r3.2.2.1 r3.2.2.2.1).bind fun r4 =>
    some (r1.1, (wrap64 (1 + r2.1)), r4.1, false, 0, 0, 0, 0, 0, 0, r4.2.1, r4.2.2.1, r4.2.2.2.1, ())
  else
    if (decide ((wrap64 (1 + r2.1)) = 2)) = true then
      (F60 n (4 : Int) r2.2.1 r2.2.2.1 r2.2.2.2.1).bind fun r5 =>
      if (!r5.1) = true then
        (F89 n r5.2.1 r5.2.2.1 r5.2.2.2.1).bind fun r6 =>
        some (r1.1, (wrap64 (1 + r2.1)), 0, true, r6.1, 0, 0, 0, 0, 0, r6.2.1, r6.2.2.1, r6.2.2.2.1, ())
      else
        some (r1.1, (wrap64 (1 + r2.1)), 0, false, 0, 0, 0, 0, 0, 0, r5.2.1, r5.2.2.1, r5.2.2.2.1, ())
    else
      (F45 n (6 : Int) r2.2.1 r2.2.2.1 r2.2.2.2.1).bind fun r7 =>
      h0 r7.1 (⟨#[]⟩ : ByteArray) (0 : Int) (0 : Int) false (0 : Int) (0 : Int) (0 : Int) (0 : Int) (0 : Int) (0 : Int) r1.1 (wrap64 (1 + r2.1)) (0 : Int) false (0 : Int) (0 : Int) (0 : Int) (0 : Int) (0 : Int) (0 : Int) r7.2.1 r7.2.2.1 r7.2.2.2.1
noncomputable def F69 (n : Nat) (a1 : List Int) (a2 : Int) (a3 : Int) : Option (ByteArray × Int × Int × Bool × Int × Int × Int × Int × Int × Int × List Int × Int × Int × Unit) := st69 n (lp69_0 n n) a1 a2 a3
noncomputable def c69 (n : Nat) : Con := ⟨[.one (.ptr 0 0)], [[(.sl (.imm false) 5 (.int .u8)), (.int .i64), (.int .i64)]], [.agg [(.str), (.int .i64), (.int .i64), (.bool), (.int .i64), (.int .i64), (.int .i64), (.int .i64), (.int .i64), (.int .i64)]], [[(.sl (.imm false) 5 (.int .u8)), (.int .i64), (.int .i64)]], fun (x : Unit × List Int × Int × Int × Unit) => F69 n x.2.1 x.2.2.1 x.2.2.2.1⟩
noncomputable def G69 (n : Nat) : Gam := [((45, []), c45 n), ((60, []), c60 n), ((79, []), c79 n), ((88, []), c88 n), ((89, []), c89 n), ((90, []), c90 n)]
noncomputable def S69_0 (i0 : Int) (s1 : ByteArray) (i2 : Int) (i3 : Int) (b4 : Bool) (i5 : Int) (i6 : Int) (i7 : Int) (i8 : Int) (i9 : Int) (i10 : Int) (s11 : ByteArray) (i12 : Int) (i13 : Int) (b14 : Bool) (i15 : Int) (i16 : Int) (i17 : Int) (i18 : Int) (i19 : Int) (i20 : Int) (l21 : List Int) (i22 : Int) (i23 : Int) : St := ⟨[.ptr 41 0, .dead, .ptr 2 0, .ptr 3 0, .int .i64 i0] ++ List.replicate 36 .dead, [Ob.none, Ob.none, ⟨true, [.str s1, .int .i64 i2, .int .i64 i3, .bool b4, .int .i64 i5, .int .i64 i6, .int .i64 i7, .int .i64 i8, .int .i64 i9, .int .i64 i10], 0, 0⟩, ⟨true, [.str s11, .int .i64 i12, .int .i64 i13, .bool b14, .int .i64 i15, .int .i64 i16, .int .i64 i17, .int .i64 i18, .int .i64 i19, .int .i64 i20], 0, 0⟩] ++ List.replicate 37 Ob.none ++ [⟨true, [.sl (.imm false) 5 (.int .u8) l21, .int .i64 i22, .int .i64 i23], 0, 0⟩]⟩
noncomputable def ga69_0 (n : Nat) (ks : List Nat) (k : Nat) (st : St) : Option (ByteArray × Int × Int × Bool × Int × Int × Int × Int × Int × Int × List Int × Int × Int × Unit) := goAt tab (G69 n) n (bodyOf Try.f69) (lvOf Try.f69) (lvOf Try.f69).ret [1, 1, 0, 1, 0, 1, 1, 1, 1, 1, 0] ks k st (evBody.endK tab (c69 n) Try.f69)
theorem el69_0 (n : Nat) : ∀ (k : Nat), ∀ (i0 : Int) (s1 : ByteArray) (i2 : Int) (i3 : Int) (b4 : Bool) (i5 : Int) (i6 : Int) (i7 : Int) (i8 : Int) (i9 : Int) (i10 : Int) (s11 : ByteArray) (i12 : Int) (i13 : Int) (b14 : Bool) (i15 : Int) (i16 : Int) (i17 : Int) (i18 : Int) (i19 : Int) (i20 : Int) (l21 : List Int) (i22 : Int) (i23 : Int), ga69_0 n [] k (S69_0 i0 s1 i2 i3 b4 i5 i6 i7 i8 i9 i10 s11 i12 i13 b14 i15 i16 i17 i18 i19 i20 l21 i22 i23) = lp69_0 n k i0 s1 i2 i3 b4 i5 i6 i7 i8 i9 i10 s11 i12 i13 b14 i15 i16 i17 i18 i19 i20 l21 i22 i23 := by
  intro k
  induction k with
  | zero => intros; rfl
  | succ k ih =>
    intro i0 s1 i2 i3 b4 i5 i6 i7 i8 i9 i10 s11 i12 i13 b14 i15 i16 i17 i18 i19 i20 l21 i22 i23
    have h : ga69_0 n [] (k + 1) (S69_0 i0 s1 i2 i3 b4 i5 i6 i7 i8 i9 i10 s11 i12 i13 b14 i15 i16 i17 i18 i19 i20 l21 i22 i23) = st69_0 n (fun w0 w1 w2 w3 w4 w5 w6 w7 w8 w9 w10 w11 w12 w13 w14 w15 w16 w17 w18 w19 w20 w21 w22 w23 => ga69_0 n [] k (S69_0 w0 w1 w2 w3 w4 w5 w6 w7 w8 w9 w10 w11 w12 w13 w14 w15 w16 w17 w18 w19 w20 w21 w22 w23)) i0 s1 i2 i3 b4 i5 i6 i7 i8 i9 i10 s11 i12 i13 b14 i15 i16 i17 i18 i19 i20 l21 i22 i23 := by kernel_rfl
    rw [h]
    have e : (fun w0 w1 w2 w3 w4 w5 w6 w7 w8 w9 w10 w11 w12 w13 w14 w15 w16 w17 w18 w19 w20 w21 w22 w23 => ga69_0 n [] k (S69_0 w0 w1 w2 w3 w4 w5 w6 w7 w8 w9 w10 w11 w12 w13 w14 w15 w16 w17 w18 w19 w20 w21 w22 w23)) = lp69_0 n k := by
      funext w0 w1 w2 w3 w4 w5 w6 w7 w8 w9 w10 w11 w12 w13 w14 w15 w16 w17 w18 w19 w20 w21 w22 w23; exact ih w0 w1 w2 w3 w4 w5 w6 w7 w8 w9 w10 w11 w12 w13 w14 w15 w16 w17 w18 w19 w20 w21 w22 w23
    rw [e]
    rfl
theorem e69 (n : Nat) (x : Unit × List Int × Int × Int × Unit) : evBody tab (G69 n) n (c69 n) Try.f69 x = F69 n x.2.1 x.2.2.1 x.2.2.2.1 := by
  have h : evBody tab (G69 n) n (c69 n) Try.f69 x = st69 n (fun w0 w1 w2 w3 w4 w5 w6 w7 w8 w9 w10 w11 w12 w13 w14 w15 w16 w17 w18 w19 w20 w21 w22 w23 => ga69_0 n [] n (S69_0 w0 w1 w2 w3 w4 w5 w6 w7 w8 w9 w10 w11 w12 w13 w14 w15 w16 w17 w18 w19 w20 w21 w22 w23)) x.2.1 x.2.2.1 x.2.2.2.1 := by kernel_rfl
  rw [h]
  have e0 : (fun w0 w1 w2 w3 w4 w5 w6 w7 w8 w9 w10 w11 w12 w13 w14 w15 w16 w17 w18 w19 w20 w21 w22 w23 => ga69_0 n [] n (S69_0 w0 w1 w2 w3 w4 w5 w6 w7 w8 w9 w10 w11 w12 w13 w14 w15 w16 w17 w18 w19 w20 w21 w22 w23)) = lp69_0 n n := by
    funext w0 w1 w2 w3 w4 w5 w6 w7 w8 w9 w10 w11 w12 w13 w14 w15 w16 w17 w18 w19 w20 w21 w22 w23; exact el69_0 n n w0 w1 w2 w3 w4 w5 w6 w7 w8 w9 w10 w11 w12 w13 w14 w15 w16 w17 w18 w19 w20 w21 w22 w23
  rw [e0]
  rfl
theorem g69 (W : World) (n : Nat) : Good Try.prog W 69 (c69 n) := body_good follows tabOk (GamOk.cons (g45 W n) (GamOk.cons (g60 W n) (GamOk.cons (g79 W n) (GamOk.cons (g88 W n) (GamOk.cons (g89 W n) (GamOk.cons (g90 W n) GamOk.nil)))))) (f := 69) (fn := Try.f69) (c := bodyOf Try.f69) (by kernel_rfl) (by kernel_rfl) (by kernel_rfl) (by kernel_rfl) (by kernel_rfl) (by kernel_rfl) (by kernel_rfl) (fun x r h => ⟨n, (e69 n x).trans h⟩)
/-! spec.l4Any -/
noncomputable def F77 (n : Nat) (a1 : List Int) (a2 : Int) (a3 : Int) : Option (ByteArray × List Int × Int × Int × Unit) :=
  (F60 n (5 : Int) a1 a2 a3).bind fun r1 =>
  if r1.1 = true then
    (F43 n ([(⟨#[]⟩ : ByteArray), (⟨#[97, 98, 99, 100, 101]⟩ : ByteArray), (⟨#[97, 32, 98]⟩ : ByteArray), (⟨#[97, 58]⟩ : ByteArray), (⟨#[0]⟩ : ByteArray), (⟨#[97, 98, 99, 100]⟩ : ByteArray), (⟨#[255]⟩ : ByteArray)] : List ByteArray) r1.2.1 r1.2.2.1 r1.2.2.2.1).bind fun r2 =>
    some (r2.1, r2.2.1, r2.2.2.1, r2.2.2.2.1, ())
  else
    (F88 n r1.2.1 r1.2.2.1 r1.2.2.2.1).bind fun r3 =>
    some (r3.1, r3.2.1, r3.2.2.1, r3.2.2.2.1, ())
noncomputable def c77 (n : Nat) : Con := ⟨[.one (.ptr 0 0)], [[(.sl (.imm false) 5 (.int .u8)), (.int .i64), (.int .i64)]], [.one (.str)], [[(.sl (.imm false) 5 (.int .u8)), (.int .i64), (.int .i64)]], fun (x : Unit × List Int × Int × Int × Unit) => F77 n x.2.1 x.2.2.1 x.2.2.2.1⟩
noncomputable def G77 (n : Nat) : Gam := [((43, []), c43 n), ((60, []), c60 n), ((88, []), c88 n)]
theorem e77 (n : Nat) (x : Unit × List Int × Int × Int × Unit) : evBody tab (G77 n) n (c77 n) Try.f77 x = F77 n x.2.1 x.2.2.1 x.2.2.2.1 := by kernel_rfl
theorem g77 (W : World) (n : Nat) : Good Try.prog W 77 (c77 n) := body_good follows tabOk (GamOk.cons (g43 W n) (GamOk.cons (g60 W n) (GamOk.cons (g88 W n) GamOk.nil))) (f := 77) (fn := Try.f77) (c := bodyOf Try.f77) (by kernel_rfl) (by kernel_rfl) (by kernel_rfl) (by kernel_rfl) (by kernel_rfl) (by kernel_rfl) (by kernel_rfl) (fun x r h => ⟨n, (e77 n x).trans h⟩)
/-! spec.l5Kind -/
noncomputable def F78 (n : Nat) (a1 : List Int) (a2 : Int) (a3 : Int) : Option (Int × List Int × Int × Int × Unit) :=
  (F79 n ([1, 2, 3, 1, 2, 3, 1, 2, 3, 0, 4] : List Int) a1 a2 a3).bind fun r1 =>
  some (r1.1, r1.2.1, r1.2.2.1, r1.2.2.2.1, ())
noncomputable def c78 (n : Nat) : Con := ⟨[.one (.ptr 0 0)], [[(.sl (.imm false) 5 (.int .u8)), (.int .i64), (.int .i64)]], [.one (.int .i64)], [[(.sl (.imm false) 5 (.int .u8)), (.int .i64), (.int .i64)]], fun (x : Unit × List Int × Int × Int × Unit) => F78 n x.2.1 x.2.2.1 x.2.2.2.1⟩
noncomputable def G78 (n : Nat) : Gam := [((79, []), c79 n)]
theorem e78 (n : Nat) (x : Unit × List Int × Int × Int × Unit) : evBody tab (G78 n) n (c78 n) Try.f78 x = F78 n x.2.1 x.2.2.1 x.2.2.2.1 := by kernel_rfl
theorem g78 (W : World) (n : Nat) : Good Try.prog W 78 (c78 n) := body_good follows tabOk (GamOk.cons (g79 W n) GamOk.nil) (f := 78) (fn := Try.f78) (c := bodyOf Try.f78) (by kernel_rfl) (by kernel_rfl) (by kernel_rfl) (by kernel_rfl) (by kernel_rfl) (by kernel_rfl) (by kernel_rfl) (fun x r h => ⟨n, (e78 n x).trans h⟩)
/-! spec.l7Any -/
noncomputable def F59 (n : Nat) (a1 : List Int) (a2 : Int) (a3 : Int) : Option (ByteArray × Int × Int × Bool × Int × Int × Int × Int × Int × Int × List Int × Int × Int × Unit) :=
  (F69 n a1 a2 a3).bind fun r1 =>
  (F45 n (16 : Int) r1.2.2.2.2.2.2.2.2.2.2.1 r1.2.2.2.2.2.2.2.2.2.2.2.1 r1.2.2.2.2.2.2.2.2.2.2.2.2.1).bind fun r2 =>
  if (decide (r2.1 = 0)) = true then
    (F77 n r2.2.1 r2.2.2.1 r2.2.2.2.1).bind fun r3 =>
    some (r3.1, r1.2.1, r1.2.2.1, r1.2.2.2.1, r1.2.2.2.2.1, r1.2.2.2.2.2.1, r1.2.2.2.2.2.2.1, r1.2.2.2.2.2.2.2.1, r1.2.2.2.2.2.2.2.2.1, r1.2.2.2.2.2.2.2.2.2.1, r3.2.1, r3.2.2.1, r3.2.2.2.1, ())
  else
    if (decide (r2.1 = 1)) = true then
      (F78 n r2.2.1 r2.2.2.1 r2.2.2.2.1).bind fun r4 =>
      some (r1.1, r4.1, r1.2.2.1, r1.2.2.2.1, r1.2.2.2.2.1, r1.2.2.2.2.2.1, r1.2.2.2.2.2.2.1, r1.2.2.2.2.2.2.2.1, r1.2.2.2.2.2.2.2.2.1, r1.2.2.2.2.2.2.2.2.2.1, r4.2.1, r4.2.2.1, r4.2.2.2.1, ())
    else
      if (decide (r2.1 = 2)) = true then
        some (r1.1, r1.2.1, r1.2.2.1, r1.2.2.2.1, r1.2.2.2.2.1, (wrap64 (r1.2.2.2.2.2.1 + 1)), r1.2.2.2.2.2.2.1, r1.2.2.2.2.2.2.2.1, r1.2.2.2.2.2.2.2.2.1, r1.2.2.2.2.2.2.2.2.2.1, r2.2.1, r2.2.2.1, r2.2.2.2.1, ())
      else
        if (decide (r2.1 = 3)) = true then
          (F79 n ([(-1), 281474976710656, 1] : List Int) r2.2.1 r2.2.2.1 r2.2.2.2.1).bind fun r5 =>
          some (r1.1, r1.2.1, r5.1, r1.2.2.2.1, r1.2.2.2.2.1, r1.2.2.2.2.2.1, r1.2.2.2.2.2.2.1, r1.2.2.2.2.2.2.2.1, r1.2.2.2.2.2.2.2.2.1, r1.2.2.2.2.2.2.2.2.2.1, r5.2.1, r5.2.2.1, r5.2.2.2.1, ())
        else
          if (decide (r2.1 = 4)) = true then
            (F79 n ([(-1), 65536, 1] : List Int) r2.2.1 r2.2.2.1 r2.2.2.2.1).bind fun r6 =>
            some (r1.1, r1.2.1, r1.2.2.1, r1.2.2.2.1, r6.1, r1.2.2.2.2.2.1, r1.2.2.2.2.2.2.1, r1.2.2.2.2.2.2.2.1, r1.2.2.2.2.2.2.2.2.1, r1.2.2.2.2.2.2.2.2.2.1, r6.2.1, r6.2.2.1, r6.2.2.2.1, ())
          else
            if (decide (r2.1 = 5)) = true then
              some (r1.1, r1.2.1, r1.2.2.1, r1.2.2.2.1, r1.2.2.2.2.1, r1.2.2.2.2.2.1, (wrap64 (r1.2.2.2.2.2.2.1 + 1)), r1.2.2.2.2.2.2.2.1, r1.2.2.2.2.2.2.2.2.1, r1.2.2.2.2.2.2.2.2.2.1, r2.2.1, r2.2.2.1, r2.2.2.2.1, ())
            else
              if (decide (r2.1 = 6)) = true then
                (F79 n ([(-1), 1, 65535, 65536] : List Int) r2.2.1 r2.2.2.1 r2.2.2.2.1).bind fun r7 =>
                some (r1.1, r1.2.1, r1.2.2.1, r1.2.2.2.1, r1.2.2.2.2.1, r1.2.2.2.2.2.1, r1.2.2.2.2.2.2.1, r1.2.2.2.2.2.2.2.1, r1.2.2.2.2.2.2.2.2.1, r7.1, r7.2.1, r7.2.2.1, r7.2.2.2.1, ())
              else
                some (r1.1, r1.2.1, r1.2.2.1, r1.2.2.2.1, r1.2.2.2.2.1, r1.2.2.2.2.2.1, r1.2.2.2.2.2.2.1, r1.2.2.2.2.2.2.2.1, r1.2.2.2.2.2.2.2.2.1, r1.2.2.2.2.2.2.2.2.2.1, r2.2.1, r2.2.2.1, r2.2.2.2.1, ())
noncomputable def c59 (n : Nat) : Con := ⟨[.one (.ptr 0 0)], [[(.sl (.imm false) 5 (.int .u8)), (.int .i64), (.int .i64)]], [.agg [(.str), (.int .i64), (.int .i64), (.bool), (.int .i64), (.int .i64), (.int .i64), (.int .i64), (.int .i64), (.int .i64)]], [[(.sl (.imm false) 5 (.int .u8)), (.int .i64), (.int .i64)]], fun (x : Unit × List Int × Int × Int × Unit) => F59 n x.2.1 x.2.2.1 x.2.2.2.1⟩
noncomputable def G59 (n : Nat) : Gam := [((45, []), c45 n), ((69, []), c69 n), ((77, []), c77 n), ((78, []), c78 n), ((79, []), c79 n)]
theorem e59 (n : Nat) (x : Unit × List Int × Int × Int × Unit) : evBody tab (G59 n) n (c59 n) Try.f59 x = F59 n x.2.1 x.2.2.1 x.2.2.2.1 := by kernel_rfl
theorem g59 (W : World) (n : Nat) : Good Try.prog W 59 (c59 n) := body_good follows tabOk (GamOk.cons (g45 W n) (GamOk.cons (g69 W n) (GamOk.cons (g77 W n) (GamOk.cons (g78 W n) (GamOk.cons (g79 W n) GamOk.nil))))) (f := 59) (fn := Try.f59) (c := bodyOf Try.f59) (by kernel_rfl) (by kernel_rfl) (by kernel_rfl) (by kernel_rfl) (by kernel_rfl) (by kernel_rfl) (by kernel_rfl) (fun x r h => ⟨n, (e59 n x).trans h⟩)
/-! spec.Quiet -/
noncomputable def F66 (n : Nat) (a0 : ByteArray) (a1 : Int) (a2 : Int) (a3 : Bool) (a4 : Int) (a5 : Int) (a6 : Int) (a7 : Int) (a8 : Int) (a9 : Int) : Option (Bool × Unit) :=
  if (decide (a2 = 0)) = true then
    if (!a3) = true then
      some (decide (a5 = 0), ())
    else
      some (false, ())
  else
    some (false, ())
noncomputable def c66 (n : Nat) : Con := ⟨[.agg [(.str), (.int .i64), (.int .i64), (.bool), (.int .i64), (.int .i64), (.int .i64), (.int .i64), (.int .i64), (.int .i64)]], [], [.one (.bool)], [], fun (x : ByteArray × Int × Int × Bool × Int × Int × Int × Int × Int × Int × Unit) => F66 n x.1 x.2.1 x.2.2.1 x.2.2.2.1 x.2.2.2.2.1 x.2.2.2.2.2.1 x.2.2.2.2.2.2.1 x.2.2.2.2.2.2.2.1 x.2.2.2.2.2.2.2.2.1 x.2.2.2.2.2.2.2.2.2.1⟩
noncomputable def G66 (n : Nat) : Gam := []
theorem e66 (n : Nat) (x : ByteArray × Int × Int × Bool × Int × Int × Int × Int × Int × Int × Unit) : evBody tab (G66 n) n (c66 n) Try.f66 x = F66 n x.1 x.2.1 x.2.2.1 x.2.2.2.1 x.2.2.2.2.1 x.2.2.2.2.2.1 x.2.2.2.2.2.2.1 x.2.2.2.2.2.2.2.1 x.2.2.2.2.2.2.2.2.1 x.2.2.2.2.2.2.2.2.2.1 := by kernel_rfl
theorem g66 (W : World) (n : Nat) : Good Try.prog W 66 (c66 n) := body_good follows tabOk GamOk.nil (f := 66) (fn := Try.f66) (c := bodyOf Try.f66) (by kernel_rfl) (by kernel_rfl) (by kernel_rfl) (by kernel_rfl) (by kernel_rfl) (by kernel_rfl) (by kernel_rfl) (fun x r h => ⟨n, (e66 n x).trans h⟩)
/-! spec.l7Report -/
noncomputable def st42_0 (n : Nat) (g0 : Int → (List (ByteArray × (Int × (Int × (Bool × (Int × (Int × (Int × (Int × (Int × Int)))))))))) → (List ByteArray) → (List Int) → Int → Int → Option (List (ByteArray × (Int × (Int × (Bool × (Int × (Int × (Int × (Int × (Int × Int))))))))) × List Int × Int × Int × Unit)) (i0 : Int) (l1 : List (ByteArray × (Int × (Int × (Bool × (Int × (Int × (Int × (Int × (Int × Int)))))))))) (l2 : List ByteArray) (l3 : List Int) (i4 : Int) (i5 : Int) : Option (List (ByteArray × (Int × (Int × (Bool × (Int × (Int × (Int × (Int × (Int × Int))))))))) × List Int × Int × Int × Unit) :=
  if (decide (i0 < (l2.length : Int))) = true then
    (F69 n l3 i4 i5).bind fun r1 =>
    if (decide (0 ≤ i0)) = true then
    if (decide (i0 < (l2.length : Int))) = true then
    (F66 n (rdOf (⟨#[]⟩ : ByteArray) l2 i0) r1.2.1 r1.2.2.1 r1.2.2.2.1 r1.2.2.2.2.1 r1.2.2.2.2.2.1 r1.2.2.2.2.2.2.1 r1.2.2.2.2.2.2.2.1 r1.2.2.2.2.2.2.2.2.1 r1.2.2.2.2.2.2.2.2.2.1).bind fun r2 =>
    if (!r2.1) = true then
      (F60 n (2 : Int) r1.2.2.2.2.2.2.2.2.2.2.1 r1.2.2.2.2.2.2.2.2.2.2.2.1 r1.2.2.2.2.2.2.2.2.2.2.2.2.1).bind fun r3 =>
      if r3.1 = true then
        if (decide ((l1.length : Int) < 4)) = true then
          if (decide ((l1.length + ([((rdOf (⟨#[]⟩ : ByteArray) l2 i0), (r1.2.1, (r1.2.2.1, (r1.2.2.2.1, (r1.2.2.2.2.1, (r1.2.2.2.2.2.1, (r1.2.2.2.2.2.2.1, (r1.2.2.2.2.2.2.2.1, (r1.2.2.2.2.2.2.2.2.1, r1.2.2.2.2.2.2.2.2.2.1)))))))))] : List (ByteArray × (Int × (Int × (Bool × (Int × (Int × (Int × (Int × (Int × Int)))))))))).length) * 88 ≤ 140737488355328)) = true then
          g0 (wrap64 (i0 + 1)) (l1 ++ ([((rdOf (⟨#[]⟩ : ByteArray) l2 i0), (r1.2.1, (r1.2.2.1, (r1.2.2.2.1, (r1.2.2.2.2.1, (r1.2.2.2.2.2.1, (r1.2.2.2.2.2.2.1, (r1.2.2.2.2.2.2.2.1, (r1.2.2.2.2.2.2.2.2.1, r1.2.2.2.2.2.2.2.2.2.1)))))))))] : List (ByteArray × (Int × (Int × (Bool × (Int × (Int × (Int × (Int × (Int × Int))))))))))) l2 r3.2.1 r3.2.2.1 r3.2.2.2.1
          else none
        else
          g0 (wrap64 (i0 + 1)) l1 l2 r3.2.1 r3.2.2.1 r3.2.2.2.1
      else
        g0 (wrap64 (i0 + 1)) l1 l2 r3.2.1 r3.2.2.1 r3.2.2.2.1
    else
      g0 (wrap64 (i0 + 1)) l1 l2 r1.2.2.2.2.2.2.2.2.2.2.1 r1.2.2.2.2.2.2.2.2.2.2.2.1 r1.2.2.2.2.2.2.2.2.2.2.2.2.1
    else none
    else none
  else
    if (decide ((l1.length : Int) > 0)) = true then
      (F60 n (10 : Int) l3 i4 i5).bind fun r4 =>
      if r4.1 = true then
        (F45 n (l1.length : Int) r4.2.1 r4.2.2.1 r4.2.2.2.1).bind fun r5 =>
        (F59 n r5.2.1 r5.2.2.1 r5.2.2.2.1).bind fun r6 =>
        if (decide (0 ≤ r5.1)) = true then
        if (decide (r5.1 < (l1.length : Int))) = true then
        some ((l1.set r5.1.toNat (r6.1, (r6.2.1, (r6.2.2.1, (r6.2.2.2.1, (r6.2.2.2.2.1, (r6.2.2.2.2.2.1, (r6.2.2.2.2.2.2.1, (r6.2.2.2.2.2.2.2.1, (r6.2.2.2.2.2.2.2.2.1, r6.2.2.2.2.2.2.2.2.2.1)))))))))), r6.2.2.2.2.2.2.2.2.2.2.1, r6.2.2.2.2.2.2.2.2.2.2.2.1, r6.2.2.2.2.2.2.2.2.2.2.2.2.1, ())
        else none
        else none
      else
        some (l1, r4.2.1, r4.2.2.1, r4.2.2.2.1, ())
    else
      some (l1, l3, i4, i5, ())
noncomputable def lp42_0 (n : Nat) : Nat → Int → (List (ByteArray × (Int × (Int × (Bool × (Int × (Int × (Int × (Int × (Int × Int)))))))))) → (List ByteArray) → (List Int) → Int → Int → Option (List (ByteArray × (Int × (Int × (Bool × (Int × (Int × (Int × (Int × (Int × Int))))))))) × List Int × Int × Int × Unit)
  | 0 => fun _ _ _ _ _ _ => none
  | k + 1 => st42_0 n (lp42_0 n k)
noncomputable def st42 (n : Nat) (h0 : Int → (List (ByteArray × (Int × (Int × (Bool × (Int × (Int × (Int × (Int × (Int × Int)))))))))) → (List ByteArray) → (List Int) → Int → Int → Option (List (ByteArray × (Int × (Int × (Bool × (Int × (Int × (Int × (Int × (Int × Int))))))))) × List Int × Int × Int × Unit)) (a1 : List Int) (a2 : Int) (a3 : Int) : Option (List (ByteArray × (Int × (Int × (Bool × (Int × (Int × (Int × (Int × (Int × Int))))))))) × List Int × Int × Int × Unit) :=
  h0 (0 : Int) ([] : List (ByteArray × (Int × (Int × (Bool × (Int × (Int × (Int × (Int × (Int × Int)))))))))) ([(⟨#[90, 57]⟩ : ByteArray), (⟨#[97]⟩ : ByteArray), (⟨#[98]⟩ : ByteArray), (⟨#[99, 112, 117]⟩ : ByteArray), (⟨#[109, 101, 109]⟩ : ByteArray), (⟨#[113]⟩ : ByteArray)] : List ByteArray) a1 a2 a3
noncomputable def F42 (n : Nat) (a1 : List Int) (a2 : Int) (a3 : Int) : Option (List (ByteArray × (Int × (Int × (Bool × (Int × (Int × (Int × (Int × (Int × Int))))))))) × List Int × Int × Int × Unit) := st42 n (lp42_0 n n) a1 a2 a3
noncomputable def c42 (n : Nat) : Con := ⟨[.one (.ptr 0 0)], [[(.sl (.imm false) 5 (.int .u8)), (.int .i64), (.int .i64)]], [.one (.sl .own 30 (.pair .str (.pair (.int .i64) (.pair (.int .i64) (.pair .bool (.pair (.int .i64) (.pair (.int .i64) (.pair (.int .i64) (.pair (.int .i64) (.pair (.int .i64) (.int .i64)))))))))))], [[(.sl (.imm false) 5 (.int .u8)), (.int .i64), (.int .i64)]], fun (x : Unit × List Int × Int × Int × Unit) => F42 n x.2.1 x.2.2.1 x.2.2.2.1⟩
noncomputable def G42 (n : Nat) : Gam := [((45, []), c45 n), ((59, []), c59 n), ((60, []), c60 n), ((66, []), c66 n), ((69, []), c69 n)]
noncomputable def S42_0 (i0 : Int) (l1 : List (ByteArray × (Int × (Int × (Bool × (Int × (Int × (Int × (Int × (Int × Int)))))))))) (l2 : List ByteArray) (l3 : List Int) (i4 : Int) (i5 : Int) : St := ⟨[.ptr 54 0, .dead, .dead, .sr 3 0 none 0 0 none, .sr 4 0 none 0 0 none, .int .i64 i0] ++ List.replicate 48 .dead, [Ob.none, Ob.none, Ob.none, ⟨false, [.sl .own 30 (.pair .str (.pair (.int .i64) (.pair (.int .i64) (.pair .bool (.pair (.int .i64) (.pair (.int .i64) (.pair (.int .i64) (.pair (.int .i64) (.pair (.int .i64) (.int .i64)))))))))) l1], 0, 0⟩, ⟨false, [.sl .own 9 .str l2], 0, 0⟩] ++ List.replicate 49 Ob.none ++ [⟨true, [.sl (.imm false) 5 (.int .u8) l3, .int .i64 i4, .int .i64 i5], 0, 0⟩]⟩
noncomputable def ga42_0 (n : Nat) (ks : List Nat) (k : Nat) (st : St) : Option (List (ByteArray × (Int × (Int × (Bool × (Int × (Int × (Int × (Int × (Int × Int))))))))) × List Int × Int × Int × Unit) := goAt tab (G42 n) n (bodyOf Try.f42) (lvOf Try.f42) (lvOf Try.f42).ret [1, 1, 1, 0, 1, 0] ks k st (evBody.endK tab (c42 n) Try.f42)
theorem el42_0 (n : Nat) : ∀ (k : Nat), ∀ (i0 : Int) (l1 : List (ByteArray × (Int × (Int × (Bool × (Int × (Int × (Int × (Int × (Int × Int)))))))))) (l2 : List ByteArray) (l3 : List Int) (i4 : Int) (i5 : Int), ga42_0 n [] k (S42_0 i0 l1 l2 l3 i4 i5) = lp42_0 n k i0 l1 l2 l3 i4 i5 := by
  intro k
  induction k with
  | zero => intros; rfl
  | succ k ih =>
    intro i0 l1 l2 l3 i4 i5
    have h : ga42_0 n [] (k + 1) (S42_0 i0 l1 l2 l3 i4 i5) = st42_0 n (fun w0 w1 w2 w3 w4 w5 => ga42_0 n [] k (S42_0 w0 w1 w2 w3 w4 w5)) i0 l1 l2 l3 i4 i5 := by kernel_rfl
    rw [h]
    have e : (fun w0 w1 w2 w3 w4 w5 => ga42_0 n [] k (S42_0 w0 w1 w2 w3 w4 w5)) = lp42_0 n k := by
      funext w0 w1 w2 w3 w4 w5; exact ih w0 w1 w2 w3 w4 w5
    rw [e]
    rfl
theorem e42 (n : Nat) (x : Unit × List Int × Int × Int × Unit) : evBody tab (G42 n) n (c42 n) Try.f42 x = F42 n x.2.1 x.2.2.1 x.2.2.2.1 := by
  have h : evBody tab (G42 n) n (c42 n) Try.f42 x = st42 n (fun w0 w1 w2 w3 w4 w5 => ga42_0 n [] n (S42_0 w0 w1 w2 w3 w4 w5)) x.2.1 x.2.2.1 x.2.2.2.1 := by kernel_rfl
  rw [h]
  have e0 : (fun w0 w1 w2 w3 w4 w5 => ga42_0 n [] n (S42_0 w0 w1 w2 w3 w4 w5)) = lp42_0 n n := by
    funext w0 w1 w2 w3 w4 w5; exact el42_0 n n w0 w1 w2 w3 w4 w5
  rw [e0]
  rfl
theorem g42 (W : World) (n : Nat) : Good Try.prog W 42 (c42 n) := body_good follows tabOk (GamOk.cons (g45 W n) (GamOk.cons (g59 W n) (GamOk.cons (g60 W n) (GamOk.cons (g66 W n) (GamOk.cons (g69 W n) GamOk.nil))))) (f := 42) (fn := Try.f42) (c := bodyOf Try.f42) (by kernel_rfl) (by kernel_rfl) (by kernel_rfl) (by kernel_rfl) (by kernel_rfl) (by kernel_rfl) (by kernel_rfl) (fun x r h => ⟨n, (e42 n x).trans h⟩)
/-! spec.DrawTotalIn -/
noncomputable def st53_0 (n : Nat) (g0 : Int → (List (List (ByteArray × (Int × (Int × (Bool × (Int × (Int × (Int × (Int × (Int × Int))))))))))) → (List Int) → Int → Int → Option (List (List (ByteArray × (Int × (Int × (Bool × (Int × (Int × (Int × (Int × (Int × Int)))))))))) × ByteArray × Unit)) (i0 : Int) (l1 : List (List (ByteArray × (Int × (Int × (Bool × (Int × (Int × (Int × (Int × (Int × Int))))))))))) (l2 : List Int) (i3 : Int) (i4 : Int) : Option (List (List (ByteArray × (Int × (Int × (Bool × (Int × (Int × (Int × (Int × (Int × Int)))))))))) × ByteArray × Unit) :=
  if (decide (i0 > 0)) = true then
    (F42 n l2 i3 i4).bind fun r3 =>
    if (decide ((l1.length + ([r3.1] : List (List (ByteArray × (Int × (Int × (Bool × (Int × (Int × (Int × (Int × (Int × Int))))))))))).length) * 24 ≤ 140737488355328)) = true then
    g0 (wrap64 (i0 - 1)) (l1 ++ ([r3.1] : List (List (ByteArray × (Int × (Int × (Bool × (Int × (Int × (Int × (Int × (Int × Int)))))))))))) r3.2.1 r3.2.2.1 r3.2.2.2.1
    else none
  else
    (F43 n ([(⟨#[90, 57]⟩ : ByteArray), (⟨#[97]⟩ : ByteArray), (⟨#[98]⟩ : ByteArray), (⟨#[99, 112, 117]⟩ : ByteArray), (⟨#[109, 101, 109]⟩ : ByteArray), (⟨#[113]⟩ : ByteArray)] : List ByteArray) l2 i3 i4).bind fun r4 =>
    some (l1, r4.1, ())
noncomputable def lp53_0 (n : Nat) : Nat → Int → (List (List (ByteArray × (Int × (Int × (Bool × (Int × (Int × (Int × (Int × (Int × Int))))))))))) → (List Int) → Int → Int → Option (List (List (ByteArray × (Int × (Int × (Bool × (Int × (Int × (Int × (Int × (Int × Int)))))))))) × ByteArray × Unit)
  | 0 => fun _ _ _ _ _ => none
  | k + 1 => st53_0 n (lp53_0 n k)
noncomputable def st53 (n : Nat) (h0 : Int → (List (List (ByteArray × (Int × (Int × (Bool × (Int × (Int × (Int × (Int × (Int × Int))))))))))) → (List Int) → Int → Int → Option (List (List (ByteArray × (Int × (Int × (Bool × (Int × (Int × (Int × (Int × (Int × Int)))))))))) × ByteArray × Unit)) (a0 : List Int) : Option (List (List (ByteArray × (Int × (Int × (Bool × (Int × (Int × (Int × (Int × (Int × Int)))))))))) × ByteArray × Unit) :=
  (F41 n a0).bind fun r1 =>
  (F45 n (5 : Int) r1.2.1 r1.2.2.1 r1.2.2.2.1).bind fun r2 =>
  h0 r2.1 ([] : List (List (ByteArray × (Int × (Int × (Bool × (Int × (Int × (Int × (Int × (Int × Int))))))))))) r2.2.1 r2.2.2.1 r2.2.2.2.1
noncomputable def F53 (n : Nat) (a0 : List Int) : Option (List (List (ByteArray × (Int × (Int × (Bool × (Int × (Int × (Int × (Int × (Int × Int)))))))))) × ByteArray × Unit) := st53 n (lp53_0 n n) a0
noncomputable def c53 (n : Nat) : Con := ⟨[.one (.sl (.imm false) 5 (.int .u8))], [], [.one (.sl .own 24 (.sl 30 (.pair .str (.pair (.int .i64) (.pair (.int .i64) (.pair .bool (.pair (.int .i64) (.pair (.int .i64) (.pair (.int .i64) (.pair (.int .i64) (.pair (.int .i64) (.int .i64)))))))))))), .one (.str)], [], fun (x : List Int × Unit) => F53 n x.1⟩
noncomputable def G53 (n : Nat) : Gam := [((41, []), c41 n), ((42, []), c42 n), ((43, []), c43 n), ((45, []), c45 n)]
noncomputable def S53_0 (i0 : Int) (l1 : List (List (ByteArray × (Int × (Int × (Bool × (Int × (Int × (Int × (Int × (Int × Int))))))))))) (l2 : List Int) (i3 : Int) (i4 : Int) : St := ⟨List.replicate 4 .dead ++ [.ptr 8 0, .sr 5 0 none 0 0 none, .int .i64 i0] ++ List.replicate 18 .dead, List.replicate 5 Ob.none ++ [⟨false, [.sl .own 24 (.sl 30 (.pair .str (.pair (.int .i64) (.pair (.int .i64) (.pair .bool (.pair (.int .i64) (.pair (.int .i64) (.pair (.int .i64) (.pair (.int .i64) (.pair (.int .i64) (.int .i64))))))))))) l1], 0, 0⟩, Ob.none, Ob.none, ⟨true, [.sl (.imm false) 5 (.int .u8) l2, .int .i64 i3, .int .i64 i4], 0, 0⟩] ++ List.replicate 16 Ob.none⟩
noncomputable def ga53_0 (n : Nat) (ks : List Nat) (k : Nat) (st : St) : Option (List (List (ByteArray × (Int × (Int × (Bool × (Int × (Int × (Int × (Int × (Int × Int)))))))))) × ByteArray × Unit) := goAt tab (G53 n) n (bodyOf Try.f53) (lvOf Try.f53) (lvOf Try.f53).ret [1, 1, 1, 0, 1, 0] ks k st (evBody.endK tab (c53 n) Try.f53)
theorem el53_0 (n : Nat) : ∀ (k : Nat), ∀ (i0 : Int) (l1 : List (List (ByteArray × (Int × (Int × (Bool × (Int × (Int × (Int × (Int × (Int × Int))))))))))) (l2 : List Int) (i3 : Int) (i4 : Int), ga53_0 n [] k (S53_0 i0 l1 l2 i3 i4) = lp53_0 n k i0 l1 l2 i3 i4 := by
  intro k
  induction k with
  | zero => intros; rfl
  | succ k ih =>
    intro i0 l1 l2 i3 i4
    have h : ga53_0 n [] (k + 1) (S53_0 i0 l1 l2 i3 i4) = st53_0 n (fun w0 w1 w2 w3 w4 => ga53_0 n [] k (S53_0 w0 w1 w2 w3 w4)) i0 l1 l2 i3 i4 := by kernel_rfl
    rw [h]
    have e : (fun w0 w1 w2 w3 w4 => ga53_0 n [] k (S53_0 w0 w1 w2 w3 w4)) = lp53_0 n k := by
      funext w0 w1 w2 w3 w4; exact ih w0 w1 w2 w3 w4
    rw [e]
    rfl
theorem e53 (n : Nat) (x : List Int × Unit) : evBody tab (G53 n) n (c53 n) Try.f53 x = F53 n x.1 := by
  have h : evBody tab (G53 n) n (c53 n) Try.f53 x = st53 n (fun w0 w1 w2 w3 w4 => ga53_0 n [] n (S53_0 w0 w1 w2 w3 w4)) x.1 := by kernel_rfl
  rw [h]
  have e0 : (fun w0 w1 w2 w3 w4 => ga53_0 n [] n (S53_0 w0 w1 w2 w3 w4)) = lp53_0 n n := by
    funext w0 w1 w2 w3 w4; exact el53_0 n n w0 w1 w2 w3 w4
  rw [e0]
  rfl
theorem g53 (W : World) (n : Nat) : Good Try.prog W 53 (c53 n) := body_good follows tabOk (GamOk.cons (g41 W n) (GamOk.cons (g42 W n) (GamOk.cons (g43 W n) (GamOk.cons (g45 W n) GamOk.nil)))) (f := 53) (fn := Try.f53) (c := bodyOf Try.f53) (by kernel_rfl) (by kernel_rfl) (by kernel_rfl) (by kernel_rfl) (by kernel_rfl) (by kernel_rfl) (by kernel_rfl) (fun x r h => ⟨n, (e53 n x).trans h⟩)
end Go.Eva
end
section
/- The functions, as their texts evaluate. -/
set_option linter.unusedVariables false
set_option maxRecDepth 100000
namespace Go.Eva
open Go.Proofs
open Go.RowKit (wrap64)
/-! spec.DrawOverall -/
noncomputable def F16 (n : Nat) (a0 : List Int) : Option (List (List (ByteArray × (Int × (Int × (Bool × (Int × (Int × (Int × (Int × (Int × Int)))))))))) × Unit) :=
  (F53 n a0).bind fun r1 =>
  some (r1.1, ())
noncomputable def c16 (n : Nat) : Con := ⟨[.one (.sl (.imm false) 5 (.int .u8))], [], [.one (.sl .own 24 (.sl 30 (.pair .str (.pair (.int .i64) (.pair (.int .i64) (.pair .bool (.pair (.int .i64) (.pair (.int .i64) (.pair (.int .i64) (.pair (.int .i64) (.pair (.int .i64) (.int .i64))))))))))))], [], fun (x : List Int × Unit) => F16 n x.1⟩
noncomputable def G16 (n : Nat) : Gam := [((53, []), c53 n)]
theorem e16 (n : Nat) (x : List Int × Unit) : evBody tab (G16 n) n (c16 n) Try.f16 x = F16 n x.1 := by kernel_rfl
theorem g16 (W : World) (n : Nat) : Good Try.prog W 16 (c16 n) := body_good follows tabOk (GamOk.cons (g53 W n) GamOk.nil) (f := 16) (fn := Try.f16) (c := bodyOf Try.f16) (by kernel_rfl) (by kernel_rfl) (by kernel_rfl) (by kernel_rfl) (by kernel_rfl) (by kernel_rfl) (by kernel_rfl) (fun x r h => ⟨n, (e16 n x).trans h⟩)
/-! impl.MergeRow -/
noncomputable def F24 (n : Nat) (a0 : ByteArray) (a1 : Int) (a2 : Int) (a3 : Bool) (a4 : Int) (a5 : Int) (a6 : Int) (a7 : Int) (a8 : Int) (a9 : Int) (a10 : ByteArray) (a11 : Int) (a12 : Int) (a13 : Bool) (a14 : Int) (a15 : Int) (a16 : Int) (a17 : Int) (a18 : Int) (a19 : Int) : Option (ByteArray × Int × Int × Bool × Int × Int × Int × Int × Int × Int × Unit) :=
  if (decide (a0.toList = (⟨#[]⟩ : ByteArray).toList) && (decide (a1 = 0) && (decide (a2 = 0) && ((a3 == false) && (decide (a4 = 0) && (decide (a5 = 0) && (decide (a6 = 0) && (decide (a7 = 0) && (decide (a8 = 0) && (decide (a9 = 0) && true)))))))))) = true then
    some (a10, a11, a12, a13, a14, a15, a16, a17, a18, a19, ())
  else
    if (!decide (a0.toList = a10.toList)) = true then
      some (a0, a1, a2, a3, a4, a5, a6, a7, a8, a9, ())
    else
      if (decide (a1 ≠ a11)) = true then
        some (a0, a1, a2, a3, a4, a5, a6, a7, a8, a9, ())
      else
        if (decide (281474976710656 ≠ 0)) = true then
        if (decide (281474976710656 ≠ 0)) = true then
        if a13 = true then
          if (decide (a5 = 0)) = true then
            some (a0, a1, ((wrap64 (((wrap64 (a2 + a12)).tmod (281474976710656 : Int)) + 281474976710656)).tmod (281474976710656 : Int)), true, a14, (wrap64 (a5 + a15)), a16, a17, (wrap64 (a8 + a18)), (wrap64 (a9 + a19)), ())
          else
            if (decide (a15 > 0)) = true then
              some (a0, a1, ((wrap64 (((wrap64 (a2 + a12)).tmod (281474976710656 : Int)) + 281474976710656)).tmod (281474976710656 : Int)), true, a14, (wrap64 (a5 + a15)), (mn a6 a16), (mx a7 a17), (wrap64 (a8 + a18)), (wrap64 (a9 + a19)), ())
            else
              some (a0, a1, ((wrap64 (((wrap64 (a2 + a12)).tmod (281474976710656 : Int)) + 281474976710656)).tmod (281474976710656 : Int)), true, a14, (wrap64 (a5 + a15)), a6, a7, (wrap64 (a8 + a18)), (wrap64 (a9 + a19)), ())
        else
          if (decide (a5 = 0)) = true then
            some (a0, a1, ((wrap64 (((wrap64 (a2 + a12)).tmod (281474976710656 : Int)) + 281474976710656)).tmod (281474976710656 : Int)), a3, a4, (wrap64 (a5 + a15)), a16, a17, (wrap64 (a8 + a18)), (wrap64 (a9 + a19)), ())
          else
            if (decide (a15 > 0)) = true then
              some (a0, a1, ((wrap64 (((wrap64 (a2 + a12)).tmod (281474976710656 : Int)) + 281474976710656)).tmod (281474976710656 : Int)), a3, a4, (wrap64 (a5 + a15)), (mn a6 a16), (mx a7 a17), (wrap64 (a8 + a18)), (wrap64 (a9 + a19)), ())
            else
              some (a0, a1, ((wrap64 (((wrap64 (a2 + a12)).tmod (281474976710656 : Int)) + 281474976710656)).tmod (281474976710656 : Int)), a3, a4, (wrap64 (a5 + a15)), a6, a7, (wrap64 (a8 + a18)), (wrap64 (a9 + a19)), ())
        else none
        else none
noncomputable def c24 (n : Nat) : Con := ⟨[.agg [(.str), (.int .i64), (.int .i64), (.bool), (.int .i64), (.int .i64), (.int .i64), (.int .i64), (.int .i64), (.int .i64)], .agg [(.str), (.int .i64), (.int .i64), (.bool), (.int .i64), (.int .i64), (.int .i64), (.int .i64), (.int .i64), (.int .i64)]], [], [.agg [(.str), (.int .i64), (.int .i64), (.bool), (.int .i64), (.int .i64), (.int .i64), (.int .i64), (.int .i64), (.int .i64)]], [], fun (x : ByteArray × Int × Int × Bool × Int × Int × Int × Int × Int × Int × ByteArray × Int × Int × Bool × Int × Int × Int × Int × Int × Int × Unit) => F24 n x.1 x.2.1 x.2.2.1 x.2.2.2.1 x.2.2.2.2.1 x.2.2.2.2.2.1 x.2.2.2.2.2.2.1 x.2.2.2.2.2.2.2.1 x.2.2.2.2.2.2.2.2.1 x.2.2.2.2.2.2.2.2.2.1 x.2.2.2.2.2.2.2.2.2.2.1 x.2.2.2.2.2.2.2.2.2.2.2.1 x.2.2.2.2.2.2.2.2.2.2.2.2.1 x.2.2.2.2.2.2.2.2.2.2.2.2.2.1 x.2.2.2.2.2.2.2.2.2.2.2.2.2.2.1 x.2.2.2.2.2.2.2.2.2.2.2.2.2.2.2.1 x.2.2.2.2.2.2.2.2.2.2.2.2.2.2.2.2.1 x.2.2.2.2.2.2.2.2.2.2.2.2.2.2.2.2.2.1 x.2.2.2.2.2.2.2.2.2.2.2.2.2.2.2.2.2.2.1 x.2.2.2.2.2.2.2.2.2.2.2.2.2.2.2.2.2.2.2.1⟩
noncomputable def G24 (n : Nat) : Gam := []
theorem e24 (n : Nat) (x : ByteArray × Int × Int × Bool × Int × Int × Int × Int × Int × Int × ByteArray × Int × Int × Bool × Int × Int × Int × Int × Int × Int × Unit) : evBody tab (G24 n) n (c24 n) Try.f24 x = F24 n x.1 x.2.1 x.2.2.1 x.2.2.2.1 x.2.2.2.2.1 x.2.2.2.2.2.1 x.2.2.2.2.2.2.1 x.2.2.2.2.2.2.2.1 x.2.2.2.2.2.2.2.2.1 x.2.2.2.2.2.2.2.2.2.1 x.2.2.2.2.2.2.2.2.2.2.1 x.2.2.2.2.2.2.2.2.2.2.2.1 x.2.2.2.2.2.2.2.2.2.2.2.2.1 x.2.2.2.2.2.2.2.2.2.2.2.2.2.1 x.2.2.2.2.2.2.2.2.2.2.2.2.2.2.1 x.2.2.2.2.2.2.2.2.2.2.2.2.2.2.2.1 x.2.2.2.2.2.2.2.2.2.2.2.2.2.2.2.2.1 x.2.2.2.2.2.2.2.2.2.2.2.2.2.2.2.2.2.1 x.2.2.2.2.2.2.2.2.2.2.2.2.2.2.2.2.2.2.1 x.2.2.2.2.2.2.2.2.2.2.2.2.2.2.2.2.2.2.2.1 := by kernel_rfl
theorem g24 (W : World) (n : Nat) : Good Try.prog W 24 (c24 n) := body_good follows tabOk GamOk.nil (f := 24) (fn := Try.f24) (c := bodyOf Try.f24) (by kernel_rfl) (by kernel_rfl) (by kernel_rfl) (by kernel_rfl) (by kernel_rfl) (by kernel_rfl) (by kernel_rfl) (fun x r h => ⟨n, (e24 n x).trans h⟩)
/-! impl.rowAt$1 -/
noncomputable def F74 (n : Nat) (a0 : ByteArray) (a1 : Int) (a2 : Int) (a3 : Bool) (a4 : Int) (a5 : Int) (a6 : Int) (a7 : Int) (a8 : Int) (a9 : Int) (a11 : ByteArray) : Option (Bool × ByteArray × Unit) :=
  some (decide (a0.toList = a11.toList), a11, ())
noncomputable def c74 (n : Nat) : Con := ⟨[.agg [(.str), (.int .i64), (.int .i64), (.bool), (.int .i64), (.int .i64), (.int .i64), (.int .i64), (.int .i64), (.int .i64)], .one (.ptr 0 0)], [[(.str)]], [.one (.bool)], [[(.str)]], fun (x : ByteArray × Int × Int × Bool × Int × Int × Int × Int × Int × Int × Unit × ByteArray × Unit) => F74 n x.1 x.2.1 x.2.2.1 x.2.2.2.1 x.2.2.2.2.1 x.2.2.2.2.2.1 x.2.2.2.2.2.2.1 x.2.2.2.2.2.2.2.1 x.2.2.2.2.2.2.2.2.1 x.2.2.2.2.2.2.2.2.2.1 x.2.2.2.2.2.2.2.2.2.2.2.1⟩
noncomputable def G74 (n : Nat) : Gam := []
theorem e74 (n : Nat) (x : ByteArray × Int × Int × Bool × Int × Int × Int × Int × Int × Int × Unit × ByteArray × Unit) : evBody tab (G74 n) n (c74 n) Try.f74 x = F74 n x.1 x.2.1 x.2.2.1 x.2.2.2.1 x.2.2.2.2.1 x.2.2.2.2.2.1 x.2.2.2.2.2.2.1 x.2.2.2.2.2.2.2.1 x.2.2.2.2.2.2.2.2.1 x.2.2.2.2.2.2.2.2.2.1 x.2.2.2.2.2.2.2.2.2.2.2.1 := by kernel_rfl
theorem g74 (W : World) (n : Nat) : Good Try.prog W 74 (c74 n) := body_good follows tabOk GamOk.nil (f := 74) (fn := Try.f74) (c := bodyOf Try.f74) (by kernel_rfl) (by kernel_rfl) (by kernel_rfl) (by kernel_rfl) (by kernel_rfl) (by kernel_rfl) (by kernel_rfl) (fun x r h => ⟨n, (e74 n x).trans h⟩)
/-! impl.Row] -/
noncomputable def st56_74_0 (n : Nat) (g0 : (List (ByteArray × (Int × (Int × (Bool × (Int × (Int × (Int × (Int × (Int × Int)))))))))) → Int → Int → ByteArray → Option (Int × ByteArray × Unit)) (l0 : List (ByteArray × (Int × (Int × (Bool × (Int × (Int × (Int × (Int × (Int × Int)))))))))) (i1 : Int) (i2 : Int) (s3 : ByteArray) : Option (Int × ByteArray × Unit) :=
  if (decide (i2 < i1)) = true then
    if (decide (0 ≤ i2)) = true then
    if (decide (i2 < (l0.length : Int))) = true then
    (F74 n ((rdOf ((⟨#[]⟩ : ByteArray), ((0 : Int), ((0 : Int), (false, ((0 : Int), ((0 : Int), ((0 : Int), ((0 : Int), ((0 : Int), (0 : Int)))))))))) l0 i2).1) (((rdOf ((⟨#[]⟩ : ByteArray), ((0 : Int), ((0 : Int), (false, ((0 : Int), ((0 : Int), ((0 : Int), ((0 : Int), ((0 : Int), (0 : Int)))))))))) l0 i2).2).1) ((((rdOf ((⟨#[]⟩ : ByteArray), ((0 : Int), ((0 : Int), (false, ((0 : Int), ((0 : Int), ((0 : Int), ((0 : Int), ((0 : Int), (0 : Int)))))))))) l0 i2).2).2).1) (((((rdOf ((⟨#[]⟩ : ByteArray), ((0 : Int), ((0 : Int), (false, ((0 : Int), ((0 : Int), ((0 : Int), ((0 : Int), ((0 : Int), (0 : Int)))))))))) l0 i2).2).2).2).1) ((((((rdOf ((⟨#[]⟩ : ByteArray), ((0 : Int), ((0 : Int), (false, ((0 : Int), ((0 : Int), ((0 : Int), ((0 : Int), ((0 : Int), (0 : Int)))))))))) l0 i2).2).2).2).2).1) (((((((rdOf ((⟨#[]⟩ : ByteArray), ((0 : Int), ((0 : Int), (false, ((0 : Int), ((0 : Int), ((0 : Int), ((0 : Int), ((0 : Int), (0 : Int)))))))))) l0 i2).2).2).2).2).2).1) ((((((((rdOf ((⟨#[]⟩ : ByteArray), ((0 : Int), ((0 : Int), (false, ((0 : Int), ((0 : Int), ((0 : Int), ((0 : Int), ((0 : Int), (0 : Int)))))))))) l0 i2).2).2).2).2).2).2).1) (((((((((rdOf ((⟨#[]⟩ : ByteArray), ((0 : Int), ((0 : Int), (false, ((0 : Int), ((0 : Int), ((0 : Int), ((0 : Int), ((0 : Int), (0 : Int)))))))))) l0 i2).2).2).2).2).2).2).2).1) ((((((((((rdOf ((⟨#[]⟩ : ByteArray), ((0 : Int), ((0 : Int), (false, ((0 : Int), ((0 : Int), ((0 : Int), ((0 : Int), ((0 : Int), (0 : Int)))))))))) l0 i2).2).2).2).2).2).2).2).2).1) ((((((((((rdOf ((⟨#[]⟩ : ByteArray), ((0 : Int), ((0 : Int), (false, ((0 : Int), ((0 : Int), ((0 : Int), ((0 : Int), ((0 : Int), (0 : Int)))))))))) l0 i2).2).2).2).2).2).2).2).2).2) s3).bind fun r1 =>
    if r1.1 = true then
      some (i2, r1.2.1, ())
    else
      g0 l0 i1 (wrap64 (i2 + 1)) r1.2.1
    else none
    else none
  else
    some ((-1), s3, ())
noncomputable def lp56_74_0 (n : Nat) : Nat → (List (ByteArray × (Int × (Int × (Bool × (Int × (Int × (Int × (Int × (Int × Int)))))))))) → Int → Int → ByteArray → Option (Int × ByteArray × Unit)
  | 0 => fun _ _ _ _ => none
  | k + 1 => st56_74_0 n (lp56_74_0 n k)
noncomputable def st56_74 (n : Nat) (h0 : (List (ByteArray × (Int × (Int × (Bool × (Int × (Int × (Int × (Int × (Int × Int)))))))))) → Int → Int → ByteArray → Option (Int × ByteArray × Unit)) (a0 : List (ByteArray × (Int × (Int × (Bool × (Int × (Int × (Int × (Int × (Int × Int)))))))))) (a2 : ByteArray) : Option (Int × ByteArray × Unit) :=
  h0 a0 (a0.length : Int) (0 : Int) a2
noncomputable def F56_74 (n : Nat) (a0 : List (ByteArray × (Int × (Int × (Bool × (Int × (Int × (Int × (Int × (Int × Int)))))))))) (a2 : ByteArray) : Option (Int × ByteArray × Unit) := st56_74 n (lp56_74_0 n n) a0 a2
noncomputable def c56_74 (n : Nat) : Con := ⟨[.one (.sl (.imm true) 30 (.pair .str (.pair (.int .i64) (.pair (.int .i64) (.pair .bool (.pair (.int .i64) (.pair (.int .i64) (.pair (.int .i64) (.pair (.int .i64) (.pair (.int .i64) (.int .i64))))))))))), .one (.fn 74 [(0, 0)])], [[(.str)]], [.one (.int .i64)], [[(.str)]], fun (x : List (ByteArray × (Int × (Int × (Bool × (Int × (Int × (Int × (Int × (Int × Int))))))))) × Unit × ByteArray × Unit) => F56_74 n x.1 x.2.2.1⟩
noncomputable def G56_74 (n : Nat) : Gam := [((74, []), c74 n)]
noncomputable def S56_74_0 (l0 : List (ByteArray × (Int × (Int × (Bool × (Int × (Int × (Int × (Int × (Int × Int)))))))))) (i1 : Int) (i2 : Int) (s3 : ByteArray) : St := ⟨[.sl (.imm true) 30 (.pair .str (.pair (.int .i64) (.pair (.int .i64) (.pair .bool (.pair (.int .i64) (.pair (.int .i64) (.pair (.int .i64) (.pair (.int .i64) (.pair (.int .i64) (.int .i64)))))))))) l0, .fn 74 [(19, 0)]] ++ List.replicate 5 .dead ++ [.int .i64 i1, .int .i64 i2] ++ List.replicate 10 .dead, List.replicate 19 Ob.none ++ [⟨true, [.str s3], 0, 0⟩]⟩
noncomputable def ga56_74_0 (n : Nat) (ks : List Nat) (k : Nat) (st : St) : Option (Int × ByteArray × Unit) := goAt tab (G56_74 n) n (bodyOf Try.f56) (lvOf Try.f56) (lvOf Try.f56).ret [1, 0, 1, 0] ks k st (evBody.endK tab (c56_74 n) Try.f56)
theorem el56_74_0 (n : Nat) : ∀ (k : Nat), ∀ (l0 : List (ByteArray × (Int × (Int × (Bool × (Int × (Int × (Int × (Int × (Int × Int)))))))))) (i1 : Int) (i2 : Int) (s3 : ByteArray), ga56_74_0 n [] k (S56_74_0 l0 i1 i2 s3) = lp56_74_0 n k l0 i1 i2 s3 := by
  intro k
  induction k with
  | zero => intros; rfl
  | succ k ih =>
    intro l0 i1 i2 s3
    have h : ga56_74_0 n [] (k + 1) (S56_74_0 l0 i1 i2 s3) = st56_74_0 n (fun w0 w1 w2 w3 => ga56_74_0 n [] k (S56_74_0 w0 w1 w2 w3)) l0 i1 i2 s3 := by kernel_rfl
    rw [h]
    have e : (fun w0 w1 w2 w3 => ga56_74_0 n [] k (S56_74_0 w0 w1 w2 w3)) = lp56_74_0 n k := by
      funext w0 w1 w2 w3; exact ih w0 w1 w2 w3
    rw [e]
    rfl
theorem e56_74 (n : Nat) (x : List (ByteArray × (Int × (Int × (Bool × (Int × (Int × (Int × (Int × (Int × Int))))))))) × Unit × ByteArray × Unit) : evBody tab (G56_74 n) n (c56_74 n) Try.f56 x = F56_74 n x.1 x.2.2.1 := by
  have h : evBody tab (G56_74 n) n (c56_74 n) Try.f56 x = st56_74 n (fun w0 w1 w2 w3 => ga56_74_0 n [] n (S56_74_0 w0 w1 w2 w3)) x.1 x.2.2.1 := by kernel_rfl
  rw [h]
  have e0 : (fun w0 w1 w2 w3 => ga56_74_0 n [] n (S56_74_0 w0 w1 w2 w3)) = lp56_74_0 n n := by
    funext w0 w1 w2 w3; exact el56_74_0 n n w0 w1 w2 w3
  rw [e0]
  rfl
theorem g56_74 (W : World) (n : Nat) : Good Try.prog W 56 (c56_74 n) := body_good follows tabOk (GamOk.cons (g74 W n) GamOk.nil) (f := 56) (fn := Try.f56) (c := bodyOf Try.f56) (by kernel_rfl) (by kernel_rfl) (by kernel_rfl) (by kernel_rfl) (by kernel_rfl) (by kernel_rfl) (by kernel_rfl) (fun x r h => ⟨n, (e56_74 n x).trans h⟩)
/-! impl.rowAt -/
noncomputable def F55 (n : Nat) (a0 : List (ByteArray × (Int × (Int × (Bool × (Int × (Int × (Int × (Int × (Int × Int)))))))))) (a1 : ByteArray) : Option (Int × Unit) :=
  (F56_74 n a0 a1).bind fun r1 =>
  some (r1.1, ())
noncomputable def c55 (n : Nat) : Con := ⟨[.one (.sl (.imm true) 30 (.pair .str (.pair (.int .i64) (.pair (.int .i64) (.pair .bool (.pair (.int .i64) (.pair (.int .i64) (.pair (.int .i64) (.pair (.int .i64) (.pair (.int .i64) (.int .i64))))))))))), .one (.str)], [], [.one (.int .i64)], [], fun (x : List (ByteArray × (Int × (Int × (Bool × (Int × (Int × (Int × (Int × (Int × Int))))))))) × ByteArray × Unit) => F55 n x.1 x.2.1⟩
noncomputable def G55 (n : Nat) : Gam := [((56, [74]), c56_74 n)]
theorem e55 (n : Nat) (x : List (ByteArray × (Int × (Int × (Bool × (Int × (Int × (Int × (Int × (Int × Int))))))))) × ByteArray × Unit) : evBody tab (G55 n) n (c55 n) Try.f55 x = F55 n x.1 x.2.1 := by kernel_rfl
theorem g55 (W : World) (n : Nat) : Good Try.prog W 55 (c55 n) := body_good follows tabOk (GamOk.cons (g56_74 W n) GamOk.nil) (f := 55) (fn := Try.f55) (c := bodyOf Try.f55) (by kernel_rfl) (by kernel_rfl) (by kernel_rfl) (by kernel_rfl) (by kernel_rfl) (by kernel_rfl) (by kernel_rfl) (fun x r h => ⟨n, (e55 n x).trans h⟩)
/-! impl.MergeReport$1 -/
noncomputable def F57 (n : Nat) (a0 : ByteArray) (a1 : Int) (a2 : Int) (a3 : Bool) (a4 : Int) (a5 : Int) (a6 : Int) (a7 : Int) (a8 : Int) (a9 : Int) (a11 : ByteArray) (a12 : Int) (a13 : Int) (a14 : Bool) (a15 : Int) (a16 : Int) (a17 : Int) (a18 : Int) (a19 : Int) (a20 : Int) : Option (Bool × ByteArray × Int × Int × Bool × Int × Int × Int × Int × Int × Int × Unit) :=
  some ((!(Op.bytesLess a0.toList a11.toList || decide (a0.toList = a11.toList))), a11, a12, a13, a14, a15, a16, a17, a18, a19, a20, ())
noncomputable def c57 (n : Nat) : Con := ⟨[.agg [(.str), (.int .i64), (.int .i64), (.bool), (.int .i64), (.int .i64), (.int .i64), (.int .i64), (.int .i64), (.int .i64)], .one (.ptr 0 0)], [[(.str), (.int .i64), (.int .i64), (.bool), (.int .i64), (.int .i64), (.int .i64), (.int .i64), (.int .i64), (.int .i64)]], [.one (.bool)], [[(.str), (.int .i64), (.int .i64), (.bool), (.int .i64), (.int .i64), (.int .i64), (.int .i64), (.int .i64), (.int .i64)]], fun (x : ByteArray × Int × Int × Bool × Int × Int × Int × Int × Int × Int × Unit × ByteArray × Int × Int × Bool × Int × Int × Int × Int × Int × Int × Unit) => F57 n x.1 x.2.1 x.2.2.1 x.2.2.2.1 x.2.2.2.2.1 x.2.2.2.2.2.1 x.2.2.2.2.2.2.1 x.2.2.2.2.2.2.2.1 x.2.2.2.2.2.2.2.2.1 x.2.2.2.2.2.2.2.2.2.1 x.2.2.2.2.2.2.2.2.2.2.2.1 x.2.2.2.2.2.2.2.2.2.2.2.2.1 x.2.2.2.2.2.2.2.2.2.2.2.2.2.1 x.2.2.2.2.2.2.2.2.2.2.2.2.2.2.1 x.2.2.2.2.2.2.2.2.2.2.2.2.2.2.2.1 x.2.2.2.2.2.2.2.2.2.2.2.2.2.2.2.2.1 x.2.2.2.2.2.2.2.2.2.2.2.2.2.2.2.2.2.1 x.2.2.2.2.2.2.2.2.2.2.2.2.2.2.2.2.2.2.1 x.2.2.2.2.2.2.2.2.2.2.2.2.2.2.2.2.2.2.2.1 x.2.2.2.2.2.2.2.2.2.2.2.2.2.2.2.2.2.2.2.2.1⟩
noncomputable def G57 (n : Nat) : Gam := []
theorem e57 (n : Nat) (x : ByteArray × Int × Int × Bool × Int × Int × Int × Int × Int × Int × Unit × ByteArray × Int × Int × Bool × Int × Int × Int × Int × Int × Int × Unit) : evBody tab (G57 n) n (c57 n) Try.f57 x = F57 n x.1 x.2.1 x.2.2.1 x.2.2.2.1 x.2.2.2.2.1 x.2.2.2.2.2.1 x.2.2.2.2.2.2.1 x.2.2.2.2.2.2.2.1 x.2.2.2.2.2.2.2.2.1 x.2.2.2.2.2.2.2.2.2.1 x.2.2.2.2.2.2.2.2.2.2.2.1 x.2.2.2.2.2.2.2.2.2.2.2.2.1 x.2.2.2.2.2.2.2.2.2.2.2.2.2.1 x.2.2.2.2.2.2.2.2.2.2.2.2.2.2.1 x.2.2.2.2.2.2.2.2.2.2.2.2.2.2.2.1 x.2.2.2.2.2.2.2.2.2.2.2.2.2.2.2.2.1 x.2.2.2.2.2.2.2.2.2.2.2.2.2.2.2.2.2.1 x.2.2.2.2.2.2.2.2.2.2.2.2.2.2.2.2.2.2.1 x.2.2.2.2.2.2.2.2.2.2.2.2.2.2.2.2.2.2.2.1 x.2.2.2.2.2.2.2.2.2.2.2.2.2.2.2.2.2.2.2.2.1 := by kernel_rfl
theorem g57 (W : World) (n : Nat) : Good Try.prog W 57 (c57 n) := body_good follows tabOk GamOk.nil (f := 57) (fn := Try.f57) (c := bodyOf Try.f57) (by kernel_rfl) (by kernel_rfl) (by kernel_rfl) (by kernel_rfl) (by kernel_rfl) (by kernel_rfl) (by kernel_rfl) (fun x r h => ⟨n, (e57 n x).trans h⟩)
/-! impl.Row] -/
noncomputable def st56_57_0 (n : Nat) (g0 : (List (ByteArray × (Int × (Int × (Bool × (Int × (Int × (Int × (Int × (Int × Int)))))))))) → Int → Int → ByteArray → Int → Int → Bool → Int → Int → Int → Int → Int → Int → Option (Int × ByteArray × Int × Int × Bool × Int × Int × Int × Int × Int × Int × Unit)) (l0 : List (ByteArray × (Int × (Int × (Bool × (Int × (Int × (Int × (Int × (Int × Int)))))))))) (i1 : Int) (i2 : Int) (s3 : ByteArray) (i4 : Int) (i5 : Int) (b6 : Bool) (i7 : Int) (i8 : Int) (i9 : Int) (i10 : Int) (i11 : Int) (i12 : Int) : Option (Int × ByteArray × Int × Int × Bool × Int × Int × Int × Int × Int × Int × Unit) :=
  if (decide (i2 < i1)) = true then
    if (decide (0 ≤ i2)) = true then
    if (decide (i2 < (l0.length : Int))) = true then
    (F57 n ((rdOf ((⟨#[]⟩ : ByteArray), ((0 : Int), ((0 : Int), (false, ((0 : Int), ((0 : Int), ((0 : Int), ((0 : Int), ((0 : Int), (0 : Int)))))))))) l0 i2).1) (((rdOf ((⟨#[]⟩ : ByteArray), ((0 : Int), ((0 : Int), (false, ((0 : Int), ((0 : Int), ((0 : Int), ((0 : Int), ((0 : Int), (0 : Int)))))))))) l0 i2).2).1) ((((rdOf ((⟨#[]⟩ : ByteArray), ((0 : Int), ((0 : Int), (false, ((0 : Int), ((0 : Int), ((0 : Int), ((0 : Int), ((0 : Int), (0 : Int)))))))))) l0 i2).2).2).1) (((((rdOf ((⟨#[]⟩ : ByteArray), ((0 : Int), ((0 : Int), (false, ((0 : Int), ((0 : Int), ((0 : Int), ((0 : Int), ((0 : Int), (0 : Int)))))))))) l0 i2).2).2).2).1) ((((((rdOf ((⟨#[]⟩ : ByteArray), ((0 : Int), ((0 : Int), (false, ((0 : Int), ((0 : Int), ((0 : Int), ((0 : Int), ((0 : Int), (0 : Int)))))))))) l0 i2).2).2).2).2).1) (((((((rdOf ((⟨#[]⟩ : ByteArray), ((0 : Int), ((0 : Int), (false, ((0 : Int), ((0 : Int), ((0 : Int), ((0 : Int), ((0 : Int), (0 : Int)))))))))) l0 i2).2).2).2).2).2).1) ((((((((rdOf ((⟨#[]⟩ : ByteArray), ((0 : Int), ((0 : Int), (false, ((0 : Int), ((0 : Int), ((0 : Int), ((0 : Int), ((0 : Int), (0 : Int)))))))))) l0 i2).2).2).2).2).2).2).1) (((((((((rdOf ((⟨#[]⟩ : ByteArray), ((0 : Int), ((0 : Int), (false, ((0 : Int), ((0 : Int), ((0 : Int), ((0 : Int), ((0 : Int), (0 : Int)))))))))) l0 i2).2).2).2).2).2).2).2).1) ((((((((((rdOf ((⟨#[]⟩ : ByteArray), ((0 : Int), ((0 : Int), (false, ((0 : Int), ((0 : Int), ((0 : Int), ((0 : Int), ((0 : Int), (0 : Int)))))))))) l0 i2).2).2).2).2).2).2).2).2).1) ((((((((((rdOf ((⟨#[]⟩ : ByteArray), ((0 : Int), ((0 : Int), (false, ((0 : Int), ((0 : Int), ((0 : Int), ((0 : Int), ((0 : Int), (0 : Int)))))))))) l0 i2).2).2).2).2).2).2).2).2).2) s3 i4 i5 b6 i7 i8 i9 i10 i11 i12).bind fun r1 =>
    if r1.1 = true then
      some (i2, r1.2.1, r1.2.2.1, r1.2.2.2.1, r1.2.2.2.2.1, r1.2.2.2.2.2.1, r1.2.2.2.2.2.2.1, r1.2.2.2.2.2.2.2.1, r1.2.2.2.2.2.2.2.2.1, r1.2.2.2.2.2.2.2.2.2.1, r1.2.2.2.2.2.2.2.2.2.2.1, ())
    else
      g0 l0 i1 (wrap64 (i2 + 1)) r1.2.1 r1.2.2.1 r1.2.2.2.1 r1.2.2.2.2.1 r1.2.2.2.2.2.1 r1.2.2.2.2.2.2.1 r1.2.2.2.2.2.2.2.1 r1.2.2.2.2.2.2.2.2.1 r1.2.2.2.2.2.2.2.2.2.1 r1.2.2.2.2.2.2.2.2.2.2.1
    else none
    else none
  else
    some ((-1), s3, i4, i5, b6, i7, i8, i9, i10, i11, i12, ())
noncomputable def lp56_57_0 (n : Nat) : Nat → (List (ByteArray × (Int × (Int × (Bool × (Int × (Int × (Int × (Int × (Int × Int)))))))))) → Int → Int → ByteArray → Int → Int → Bool → Int → Int → Int → Int → Int → Int → Option (Int × ByteArray × Int × Int × Bool × Int × Int × Int × Int × Int × Int × Unit)
  | 0 => fun _ _ _ _ _ _ _ _ _ _ _ _ _ => none
  | k + 1 => st56_57_0 n (lp56_57_0 n k)
noncomputable def st56_57 (n : Nat) (h0 : (List (ByteArray × (Int × (Int × (Bool × (Int × (Int × (Int × (Int × (Int × Int)))))))))) → Int → Int → ByteArray → Int → Int → Bool → Int → Int → Int → Int → Int → Int → Option (Int × ByteArray × Int × Int × Bool × Int × Int × Int × Int × Int × Int × Unit)) (a0 : List (ByteArray × (Int × (Int × (Bool × (Int × (Int × (Int × (Int × (Int × Int)))))))))) (a2 : ByteArray) (a3 : Int) (a4 : Int) (a5 : Bool) (a6 : Int) (a7 : Int) (a8 : Int) (a9 : Int) (a10 : Int) (a11 : Int) : Option (Int × ByteArray × Int × Int × Bool × Int × Int × Int × Int × Int × Int × Unit) :=
  h0 a0 (a0.length : Int) (0 : Int) a2 a3 a4 a5 a6 a7 a8 a9 a10 a11
noncomputable def F56_57 (n : Nat) (a0 : List (ByteArray × (Int × (Int × (Bool × (Int × (Int × (Int × (Int × (Int × Int)))))))))) (a2 : ByteArray) (a3 : Int) (a4 : Int) (a5 : Bool) (a6 : Int) (a7 : Int) (a8 : Int) (a9 : Int) (a10 : Int) (a11 : Int) : Option (Int × ByteArray × Int × Int × Bool × Int × Int × Int × Int × Int × Int × Unit) := st56_57 n (lp56_57_0 n n) a0 a2 a3 a4 a5 a6 a7 a8 a9 a10 a11
noncomputable def c56_57 (n : Nat) : Con := ⟨[.one (.sl (.imm true) 30 (.pair .str (.pair (.int .i64) (.pair (.int .i64) (.pair .bool (.pair (.int .i64) (.pair (.int .i64) (.pair (.int .i64) (.pair (.int .i64) (.pair (.int .i64) (.int .i64))))))))))), .one (.fn 57 [(0, 0)])], [[(.str), (.int .i64), (.int .i64), (.bool), (.int .i64), (.int .i64), (.int .i64), (.int .i64), (.int .i64), (.int .i64)]], [.one (.int .i64)], [[(.str), (.int .i64), (.int .i64), (.bool), (.int .i64), (.int .i64), (.int .i64), (.int .i64), (.int .i64), (.int .i64)]], fun (x : List (ByteArray × (Int × (Int × (Bool × (Int × (Int × (Int × (Int × (Int × Int))))))))) × Unit × ByteArray × Int × Int × Bool × Int × Int × Int × Int × Int × Int × Unit) => F56_57 n x.1 x.2.2.1 x.2.2.2.1 x.2.2.2.2.1 x.2.2.2.2.2.1 x.2.2.2.2.2.2.1 x.2.2.2.2.2.2.2.1 x.2.2.2.2.2.2.2.2.1 x.2.2.2.2.2.2.2.2.2.1 x.2.2.2.2.2.2.2.2.2.2.1 x.2.2.2.2.2.2.2.2.2.2.2.1⟩
noncomputable def G56_57 (n : Nat) : Gam := [((57, []), c57 n)]
noncomputable def S56_57_0 (l0 : List (ByteArray × (Int × (Int × (Bool × (Int × (Int × (Int × (Int × (Int × Int)))))))))) (i1 : Int) (i2 : Int) (s3 : ByteArray) (i4 : Int) (i5 : Int) (b6 : Bool) (i7 : Int) (i8 : Int) (i9 : Int) (i10 : Int) (i11 : Int) (i12 : Int) : St := ⟨[.sl (.imm true) 30 (.pair .str (.pair (.int .i64) (.pair (.int .i64) (.pair .bool (.pair (.int .i64) (.pair (.int .i64) (.pair (.int .i64) (.pair (.int .i64) (.pair (.int .i64) (.int .i64)))))))))) l0, .fn 57 [(19, 0)]] ++ List.replicate 5 .dead ++ [.int .i64 i1, .int .i64 i2] ++ List.replicate 10 .dead, List.replicate 19 Ob.none ++ [⟨true, [.str s3, .int .i64 i4, .int .i64 i5, .bool b6, .int .i64 i7, .int .i64 i8, .int .i64 i9, .int .i64 i10, .int .i64 i11, .int .i64 i12], 0, 0⟩]⟩
noncomputable def ga56_57_0 (n : Nat) (ks : List Nat) (k : Nat) (st : St) : Option (Int × ByteArray × Int × Int × Bool × Int × Int × Int × Int × Int × Int × Unit) := goAt tab (G56_57 n) n (bodyOf Try.f56) (lvOf Try.f56) (lvOf Try.f56).ret [1, 0, 1, 0] ks k st (evBody.endK tab (c56_57 n) Try.f56)
theorem el56_57_0 (n : Nat) : ∀ (k : Nat), ∀ (l0 : List (ByteArray × (Int × (Int × (Bool × (Int × (Int × (Int × (Int × (Int × Int)))))))))) (i1 : Int) (i2 : Int) (s3 : ByteArray) (i4 : Int) (i5 : Int) (b6 : Bool) (i7 : Int) (i8 : Int) (i9 : Int) (i10 : Int) (i11 : Int) (i12 : Int), ga56_57_0 n [] k (S56_57_0 l0 i1 i2 s3 i4 i5 b6 i7 i8 i9 i10 i11 i12) = lp56_57_0 n k l0 i1 i2 s3 i4 i5 b6 i7 i8 i9 i10 i11 i12 := by
  intro k
  induction k with
  | zero => intros; rfl
  | succ k ih =>
    intro l0 i1 i2 s3 i4 i5 b6 i7 i8 i9 i10 i11 i12
    have h : ga56_57_0 n [] (k + 1) (S56_57_0 l0 i1 i2 s3 i4 i5 b6 i7 i8 i9 i10 i11 i12) = st56_57_0 n (fun w0 w1 w2 w3 w4 w5 w6 w7 w8 w9 w10 w11 w12 => ga56_57_0 n [] k (S56_57_0 w0 w1 w2 w3 w4 w5 w6 w7 w8 w9 w10 w11 w12)) l0 i1 i2 s3 i4 i5 b6 i7 i8 i9 i10 i11 i12 := by kernel_rfl
    rw [h]
    have e : (fun w0 w1 w2 w3 w4 w5 w6 w7 w8 w9 w10 w11 w12 => ga56_57_0 n [] k (S56_57_0 w0 w1 w2 w3 w4 w5 w6 w7 w8 w9 w10 w11 w12)) = lp56_57_0 n k := by
      funext w0 w1 w2 w3 w4 w5 w6 w7 w8 w9 w10 w11 w12; exact ih w0 w1 w2 w3 w4 w5 w6 w7 w8 w9 w10 w11 w12
    rw [e]
    rfl
theorem e56_57 (n : Nat) (x : List (ByteArray × (Int × (Int × (Bool × (Int × (Int × (Int × (Int × (Int × Int))))))))) × Unit × ByteArray × Int × Int × Bool × Int × Int × Int × Int × Int × Int × Unit) : evBody tab (G56_57 n) n (c56_57 n) Try.f56 x = F56_57 n x.1 x.2.2.1 x.2.2.2.1 x.2.2.2.2.1 x.2.2.2.2.2.1 x.2.2.2.2.2.2.1 x.2.2.2.2.2.2.2.1 x.2.2.2.2.2.2.2.2.1 x.2.2.2.2.2.2.2.2.2.1 x.2.2.2.2.2.2.2.2.2.2.1 x.2.2.2.2.2.2.2.2.2.2.2.1 := by
  have h : evBody tab (G56_57 n) n (c56_57 n) Try.f56 x = st56_57 n (fun w0 w1 w2 w3 w4 w5 w6 w7 w8 w9 w10 w11 w12 => ga56_57_0 n [] n (S56_57_0 w0 w1 w2 w3 w4 w5 w6 w7 w8 w9 w10 w11 w12)) x.1 x.2.2.1 x.2.2.2.1 x.2.2.2.2.1 x.2.2.2.2.2.1 x.2.2.2.2.2.2.1 x.2.2.2.2.2.2.2.1 x.2.2.2.2.2.2.2.2.1 x.2.2.2.2.2.2.2.2.2.1 x.2.2.2.2.2.2.2.2.2.2.1 x.2.2.2.2.2.2.2.2.2.2.2.1 := by kernel_rfl
  rw [h]
  have e0 : (fun w0 w1 w2 w3 w4 w5 w6 w7 w8 w9 w10 w11 w12 => ga56_57_0 n [] n (S56_57_0 w0 w1 w2 w3 w4 w5 w6 w7 w8 w9 w10 w11 w12)) = lp56_57_0 n n := by
    funext w0 w1 w2 w3 w4 w5 w6 w7 w8 w9 w10 w11 w12; exact el56_57_0 n n w0 w1 w2 w3 w4 w5 w6 w7 w8 w9 w10 w11 w12
  rw [e0]
  rfl
theorem g56_57 (W : World) (n : Nat) : Good Try.prog W 56 (c56_57 n) := body_good follows tabOk (GamOk.cons (g57 W n) GamOk.nil) (f := 56) (fn := Try.f56) (c := bodyOf Try.f56) (by kernel_rfl) (by kernel_rfl) (by kernel_rfl) (by kernel_rfl) (by kernel_rfl) (by kernel_rfl) (by kernel_rfl) (fun x r h => ⟨n, (e56_57 n x).trans h⟩)
/-! impl.MergeReport -/
noncomputable def st19_0 (n : Nat) (g0 : (List (ByteArray × (Int × (Int × (Bool × (Int × (Int × (Int × (Int × (Int × Int)))))))))) → Int → Int → (List (ByteArray × (Int × (Int × (Bool × (Int × (Int × (Int × (Int × (Int × Int)))))))))) → Option (List (ByteArray × (Int × (Int × (Bool × (Int × (Int × (Int × (Int × (Int × Int))))))))) × Unit)) (l0 : List (ByteArray × (Int × (Int × (Bool × (Int × (Int × (Int × (Int × (Int × Int)))))))))) (i1 : Int) (i2 : Int) (l3 : List (ByteArray × (Int × (Int × (Bool × (Int × (Int × (Int × (Int × (Int × Int)))))))))) : Option (List (ByteArray × (Int × (Int × (Bool × (Int × (Int × (Int × (Int × (Int × Int))))))))) × Unit) :=
  if (decide (i2 < i1)) = true then
    if (decide (0 ≤ i2)) = true then
    if (decide (i2 < (l0.length : Int))) = true then
    (F55 n l3 ((rdOf ((⟨#[]⟩ : ByteArray), ((0 : Int), ((0 : Int), (false, ((0 : Int), ((0 : Int), ((0 : Int), ((0 : Int), ((0 : Int), (0 : Int)))))))))) l0 i2).1)).bind fun r2 =>
    if (decide (r2.1 ≥ 0)) = true then
      if (decide (0 ≤ r2.1)) = true then
      if (decide (r2.1 < (l3.length : Int))) = true then
      (F24 n ((rdOf ((⟨#[]⟩ : ByteArray), ((0 : Int), ((0 : Int), (false, ((0 : Int), ((0 : Int), ((0 : Int), ((0 : Int), ((0 : Int), (0 : Int)))))))))) l3 r2.1).1) (((rdOf ((⟨#[]⟩ : ByteArray), ((0 : Int), ((0 : Int), (false, ((0 : Int), ((0 : Int), ((0 : Int), ((0 : Int), ((0 : Int), (0 : Int)))))))))) l3 r2.1).2).1) ((((rdOf ((⟨#[]⟩ : ByteArray), ((0 : Int), ((0 : Int), (false, ((0 : Int), ((0 : Int), ((0 : Int), ((0 : Int), ((0 : Int), (0 : Int)))))))))) l3 r2.1).2).2).1) (((((rdOf ((⟨#[]⟩ : ByteArray), ((0 : Int), ((0 : Int), (false, ((0 : Int), ((0 : Int), ((0 : Int), ((0 : Int), ((0 : Int), (0 : Int)))))))))) l3 r2.1).2).2).2).1) ((((((rdOf ((⟨#[]⟩ : ByteArray), ((0 : Int), ((0 : Int), (false, ((0 : Int), ((0 : Int), ((0 : Int), ((0 : Int), ((0 : Int), (0 : Int)))))))))) l3 r2.1).2).2).2).2).1) (((((((rdOf ((⟨#[]⟩ : ByteArray), ((0 : Int), ((0 : Int), (false, ((0 : Int), ((0 : Int), ((0 : Int), ((0 : Int), ((0 : Int), (0 : Int)))))))))) l3 r2.1).2).2).2).2).2).1) ((((((((rdOf ((⟨#[]⟩ : ByteArray), ((0 : Int), ((0 : Int), (false, ((0 : Int), ((0 : Int), ((0 : Int), ((0 : Int), ((0 : Int), (0 : Int)))))))))) l3 r2.1).2).2).2).2).2).2).1) (((((((((rdOf ((⟨#[]⟩ : ByteArray), ((0 : Int), ((0 : Int), (false, ((0 : Int), ((0 : Int), ((0 : Int), ((0 : Int), ((0 : Int), (0 : Int)))))))))) l3 r2.1).2).2).2).2).2).2).2).1) ((((((((((rdOf ((⟨#[]⟩ : ByteArray), ((0 : Int), ((0 : Int), (false, ((0 : Int), ((0 : Int), ((0 : Int), ((0 : Int), ((0 : Int), (0 : Int)))))))))) l3 r2.1).2).2).2).2).2).2).2).2).1) ((((((((((rdOf ((⟨#[]⟩ : ByteArray), ((0 : Int), ((0 : Int), (false, ((0 : Int), ((0 : Int), ((0 : Int), ((0 : Int), ((0 : Int), (0 : Int)))))))))) l3 r2.1).2).2).2).2).2).2).2).2).2) ((rdOf ((⟨#[]⟩ : ByteArray), ((0 : Int), ((0 : Int), (false, ((0 : Int), ((0 : Int), ((0 : Int), ((0 : Int), ((0 : Int), (0 : Int)))))))))) l0 i2).1) (((rdOf ((⟨#[]⟩ : ByteArray), ((0 : Int), ((0 : Int), (false, ((0 : Int), ((0 : Int), ((0 : Int), ((0 : Int), ((0 : Int), (0 : Int)))))))))) l0 i2).2).1) ((((rdOf ((⟨#[]⟩ : ByteArray), ((0 : Int), ((0 : Int), (false, ((0 : Int), ((0 : Int), ((0 : Int), ((0 : Int), ((0 : Int), (0 : Int)))))))))) l0 i2).2).2).1) (((((rdOf ((⟨#[]⟩ : ByteArray), ((0 : Int), ((0 : Int), (false, ((0 : Int), ((0 : Int), ((0 : Int), ((0 : Int), ((0 : Int), (0 : Int)))))))))) l0 i2).2).2).2).1) ((((((rdOf ((⟨#[]⟩ : ByteArray), ((0 : Int), ((0 : Int), (false, ((0 : Int), ((0 : Int), ((0 : Int), ((0 : Int), ((0 : Int), (0 : Int)))))))))) l0 i2).2).2).2).2).1) (((((((rdOf ((⟨#[]⟩ : ByteArray), ((0 : Int), ((0 : Int), (false, ((0 : Int), ((0 : Int), ((0 : Int), ((0 : Int), ((0 : Int), (0 : Int)))))))))) l0 i2).2).2).2).2).2).1) ((((((((rdOf ((⟨#[]⟩ : ByteArray), ((0 : Int), ((0 : Int), (false, ((0 : Int), ((0 : Int), ((0 : Int), ((0 : Int), ((0 : Int), (0 : Int)))))))))) l0 i2).2).2).2).2).2).2).1) (((((((((rdOf ((⟨#[]⟩ : ByteArray), ((0 : Int), ((0 : Int), (false, ((0 : Int), ((0 : Int), ((0 : Int), ((0 : Int), ((0 : Int), (0 : Int)))))))))) l0 i2).2).2).2).2).2).2).2).1) ((((((((((rdOf ((⟨#[]⟩ : ByteArray), ((0 : Int), ((0 : Int), (false, ((0 : Int), ((0 : Int), ((0 : Int), ((0 : Int), ((0 : Int), (0 : Int)))))))))) l0 i2).2).2).2).2).2).2).2).2).1) ((((((((((rdOf ((⟨#[]⟩ : ByteArray), ((0 : Int), ((0 : Int), (false, ((0 : Int), ((0 : Int), ((0 : Int), ((0 : Int), ((0 : Int), (0 : Int)))))))))) l0 i2).2).2).2).2).2).2).2).2).2)).bind fun r3 =>
      if (decide (0 ≤ r2.1)) = true then
      if (decide (r2.1 < (l3.length : Int))) = true then
      g0 l0 i1 (wrap64 (i2 + 1)) (l3.set r2.1.toNat (r3.1, (r3.2.1, (r3.2.2.1, (r3.2.2.2.1, (r3.2.2.2.2.1, (r3.2.2.2.2.2.1, (r3.2.2.2.2.2.2.1, (r3.2.2.2.2.2.2.2.1, (r3.2.2.2.2.2.2.2.2.1, r3.2.2.2.2.2.2.2.2.2.1))))))))))
      else none
      else none
      else none
      else none
    else
      (F56_57 n l3 ((rdOf ((⟨#[]⟩ : ByteArray), ((0 : Int), ((0 : Int), (false, ((0 : Int), ((0 : Int), ((0 : Int), ((0 : Int), ((0 : Int), (0 : Int)))))))))) l0 i2).1) (((rdOf ((⟨#[]⟩ : ByteArray), ((0 : Int), ((0 : Int), (false, ((0 : Int), ((0 : Int), ((0 : Int), ((0 : Int), ((0 : Int), (0 : Int)))))))))) l0 i2).2).1) ((((rdOf ((⟨#[]⟩ : ByteArray), ((0 : Int), ((0 : Int), (false, ((0 : Int), ((0 : Int), ((0 : Int), ((0 : Int), ((0 : Int), (0 : Int)))))))))) l0 i2).2).2).1) (((((rdOf ((⟨#[]⟩ : ByteArray), ((0 : Int), ((0 : Int), (false, ((0 : Int), ((0 : Int), ((0 : Int), ((0 : Int), ((0 : Int), (0 : Int)))))))))) l0 i2).2).2).2).1) ((((((rdOf ((⟨#[]⟩ : ByteArray), ((0 : Int), ((0 : Int), (false, ((0 : Int), ((0 : Int), ((0 : Int), ((0 : Int), ((0 : Int), (0 : Int)))))))))) l0 i2).2).2).2).2).1) (((((((rdOf ((⟨#[]⟩ : ByteArray), ((0 : Int), ((0 : Int), (false, ((0 : Int), ((0 : Int), ((0 : Int), ((0 : Int), ((0 : Int), (0 : Int)))))))))) l0 i2).2).2).2).2).2).1) ((((((((rdOf ((⟨#[]⟩ : ByteArray), ((0 : Int), ((0 : Int), (false, ((0 : Int), ((0 : Int), ((0 : Int), ((0 : Int), ((0 : Int), (0 : Int)))))))))) l0 i2).2).2).2).2).2).2).1) (((((((((rdOf ((⟨#[]⟩ : ByteArray), ((0 : Int), ((0 : Int), (false, ((0 : Int), ((0 : Int), ((0 : Int), ((0 : Int), ((0 : Int), (0 : Int)))))))))) l0 i2).2).2).2).2).2).2).2).1) ((((((((((rdOf ((⟨#[]⟩ : ByteArray), ((0 : Int), ((0 : Int), (false, ((0 : Int), ((0 : Int), ((0 : Int), ((0 : Int), ((0 : Int), (0 : Int)))))))))) l0 i2).2).2).2).2).2).2).2).2).1) ((((((((((rdOf ((⟨#[]⟩ : ByteArray), ((0 : Int), ((0 : Int), (false, ((0 : Int), ((0 : Int), ((0 : Int), ((0 : Int), ((0 : Int), (0 : Int)))))))))) l0 i2).2).2).2).2).2).2).2).2).2)).bind fun r4 =>
      if (decide (r4.1 < 0)) = true then
        (F58 n l3 (l3.length : Int) ([(r4.2.1, (r4.2.2.1, (r4.2.2.2.1, (r4.2.2.2.2.1, (r4.2.2.2.2.2.1, (r4.2.2.2.2.2.2.1, (r4.2.2.2.2.2.2.2.1, (r4.2.2.2.2.2.2.2.2.1, (r4.2.2.2.2.2.2.2.2.2.1, r4.2.2.2.2.2.2.2.2.2.2.1)))))))))] : List (ByteArray × (Int × (Int × (Bool × (Int × (Int × (Int × (Int × (Int × Int))))))))))).bind fun r5 =>
        g0 l0 i1 (wrap64 (i2 + 1)) r5.1
      else
        (F58 n l3 r4.1 ([(r4.2.1, (r4.2.2.1, (r4.2.2.2.1, (r4.2.2.2.2.1, (r4.2.2.2.2.2.1, (r4.2.2.2.2.2.2.1, (r4.2.2.2.2.2.2.2.1, (r4.2.2.2.2.2.2.2.2.1, (r4.2.2.2.2.2.2.2.2.2.1, r4.2.2.2.2.2.2.2.2.2.2.1)))))))))] : List (ByteArray × (Int × (Int × (Bool × (Int × (Int × (Int × (Int × (Int × Int))))))))))).bind fun r6 =>
        g0 l0 i1 (wrap64 (i2 + 1)) r6.1
    else none
    else none
  else
    some (l3, ())
noncomputable def lp19_0 (n : Nat) : Nat → (List (ByteArray × (Int × (Int × (Bool × (Int × (Int × (Int × (Int × (Int × Int)))))))))) → Int → Int → (List (ByteArray × (Int × (Int × (Bool × (Int × (Int × (Int × (Int × (Int × Int)))))))))) → Option (List (ByteArray × (Int × (Int × (Bool × (Int × (Int × (Int × (Int × (Int × Int))))))))) × Unit)
  | 0 => fun _ _ _ _ => none
  | k + 1 => st19_0 n (lp19_0 n k)
noncomputable def st19 (n : Nat) (h0 : (List (ByteArray × (Int × (Int × (Bool × (Int × (Int × (Int × (Int × (Int × Int)))))))))) → Int → Int → (List (ByteArray × (Int × (Int × (Bool × (Int × (Int × (Int × (Int × (Int × Int)))))))))) → Option (List (ByteArray × (Int × (Int × (Bool × (Int × (Int × (Int × (Int × (Int × Int))))))))) × Unit)) (a0 : List (ByteArray × (Int × (Int × (Bool × (Int × (Int × (Int × (Int × (Int × Int)))))))))) (a1 : List (ByteArray × (Int × (Int × (Bool × (Int × (Int × (Int × (Int × (Int × Int)))))))))) : Option (List (ByteArray × (Int × (Int × (Bool × (Int × (Int × (Int × (Int × (Int × Int))))))))) × Unit) :=
  (F46 n a0).bind fun r1 =>
  h0 a1 (a1.length : Int) (0 : Int) r1.1
noncomputable def F19 (n : Nat) (a0 : List (ByteArray × (Int × (Int × (Bool × (Int × (Int × (Int × (Int × (Int × Int)))))))))) (a1 : List (ByteArray × (Int × (Int × (Bool × (Int × (Int × (Int × (Int × (Int × Int)))))))))) : Option (List (ByteArray × (Int × (Int × (Bool × (Int × (Int × (Int × (Int × (Int × Int))))))))) × Unit) := st19 n (lp19_0 n n) a0 a1
noncomputable def c19 (n : Nat) : Con := ⟨[.one (.sl (.imm true) 30 (.pair .str (.pair (.int .i64) (.pair (.int .i64) (.pair .bool (.pair (.int .i64) (.pair (.int .i64) (.pair (.int .i64) (.pair (.int .i64) (.pair (.int .i64) (.int .i64))))))))))), .one (.sl (.imm true) 30 (.pair .str (.pair (.int .i64) (.pair (.int .i64) (.pair .bool (.pair (.int .i64) (.pair (.int .i64) (.pair (.int .i64) (.pair (.int .i64) (.pair (.int .i64) (.int .i64)))))))))))], [], [.one (.sl .own 30 (.pair .str (.pair (.int .i64) (.pair (.int .i64) (.pair .bool (.pair (.int .i64) (.pair (.int .i64) (.pair (.int .i64) (.pair (.int .i64) (.pair (.int .i64) (.int .i64)))))))))))], [], fun (x : List (ByteArray × (Int × (Int × (Bool × (Int × (Int × (Int × (Int × (Int × Int))))))))) × List (ByteArray × (Int × (Int × (Bool × (Int × (Int × (Int × (Int × (Int × Int))))))))) × Unit) => F19 n x.1 x.2.1⟩
noncomputable def G19 (n : Nat) : Gam := [((24, []), c24 n), ((46, []), c46 n), ((55, []), c55 n), ((56, [57]), c56_57 n), ((58, []), c58 n)]
noncomputable def S19_0 (l0 : List (ByteArray × (Int × (Int × (Bool × (Int × (Int × (Int × (Int × (Int × Int)))))))))) (i1 : Int) (i2 : Int) (l3 : List (ByteArray × (Int × (Int × (Bool × (Int × (Int × (Int × (Int × (Int × Int)))))))))) : St := ⟨List.replicate 5 .dead ++ [.sr 5 0 none 0 0 none] ++ List.replicate 6 .dead ++ [.sl (.imm true) 30 (.pair .str (.pair (.int .i64) (.pair (.int .i64) (.pair .bool (.pair (.int .i64) (.pair (.int .i64) (.pair (.int .i64) (.pair (.int .i64) (.pair (.int .i64) (.int .i64)))))))))) l0, .int .i64 i1, .int .i64 i2] ++ List.replicate 32 .dead, List.replicate 5 Ob.none ++ [⟨false, [.sl .own 30 (.pair .str (.pair (.int .i64) (.pair (.int .i64) (.pair .bool (.pair (.int .i64) (.pair (.int .i64) (.pair (.int .i64) (.pair (.int .i64) (.pair (.int .i64) (.int .i64)))))))))) l3], 0, 0⟩] ++ List.replicate 41 Ob.none⟩
noncomputable def ga19_0 (n : Nat) (ks : List Nat) (k : Nat) (st : St) : Option (List (ByteArray × (Int × (Int × (Bool × (Int × (Int × (Int × (Int × (Int × Int))))))))) × Unit) := goAt tab (G19 n) n (bodyOf Try.f19) (lvOf Try.f19) (lvOf Try.f19).ret [1, 1, 0, 1, 0] ks k st (evBody.endK tab (c19 n) Try.f19)
theorem el19_0 (n : Nat) : ∀ (k : Nat), ∀ (l0 : List (ByteArray × (Int × (Int × (Bool × (Int × (Int × (Int × (Int × (Int × Int)))))))))) (i1 : Int) (i2 : Int) (l3 : List (ByteArray × (Int × (Int × (Bool × (Int × (Int × (Int × (Int × (Int × Int)))))))))), ga19_0 n [] k (S19_0 l0 i1 i2 l3) = lp19_0 n k l0 i1 i2 l3 := by
  intro k
  induction k with
  | zero => intros; rfl
  | succ k ih =>
    intro l0 i1 i2 l3
    have h : ga19_0 n [] (k + 1) (S19_0 l0 i1 i2 l3) = st19_0 n (fun w0 w1 w2 w3 => ga19_0 n [] k (S19_0 w0 w1 w2 w3)) l0 i1 i2 l3 := by kernel_rfl
    rw [h]
    have e : (fun w0 w1 w2 w3 => ga19_0 n [] k (S19_0 w0 w1 w2 w3)) = lp19_0 n k := by
      funext w0 w1 w2 w3; exact ih w0 w1 w2 w3
    rw [e]
    rfl
theorem e19 (n : Nat) (x : List (ByteArray × (Int × (Int × (Bool × (Int × (Int × (Int × (Int × (Int × Int))))))))) × List (ByteArray × (Int × (Int × (Bool × (Int × (Int × (Int × (Int × (Int × Int))))))))) × Unit) : evBody tab (G19 n) n (c19 n) Try.f19 x = F19 n x.1 x.2.1 := by
  have h : evBody tab (G19 n) n (c19 n) Try.f19 x = st19 n (fun w0 w1 w2 w3 => ga19_0 n [] n (S19_0 w0 w1 w2 w3)) x.1 x.2.1 := by kernel_rfl
  rw [h]
  have e0 : (fun w0 w1 w2 w3 => ga19_0 n [] n (S19_0 w0 w1 w2 w3)) = lp19_0 n n := by
    funext w0 w1 w2 w3; exact el19_0 n n w0 w1 w2 w3
  rw [e0]
  rfl
theorem g19 (W : World) (n : Nat) : Good Try.prog W 19 (c19 n) := body_good follows tabOk (GamOk.cons (g24 W n) (GamOk.cons (g46 W n) (GamOk.cons (g55 W n) (GamOk.cons (g56_57 W n) (GamOk.cons (g58 W n) GamOk.nil))))) (f := 19) (fn := Try.f19) (c := bodyOf Try.f19) (by kernel_rfl) (by kernel_rfl) (by kernel_rfl) (by kernel_rfl) (by kernel_rfl) (by kernel_rfl) (by kernel_rfl) (fun x r h => ⟨n, (e19 n x).trans h⟩)
/-! impl.Overall -/
noncomputable def st17_0 (n : Nat) (g0 : (List (List (ByteArray × (Int × (Int × (Bool × (Int × (Int × (Int × (Int × (Int × Int))))))))))) → Int → Int → (List (ByteArray × (Int × (Int × (Bool × (Int × (Int × (Int × (Int × (Int × Int)))))))))) → Option (List (ByteArray × (Int × (Int × (Bool × (Int × (Int × (Int × (Int × (Int × Int))))))))) × Unit)) (l0 : List (List (ByteArray × (Int × (Int × (Bool × (Int × (Int × (Int × (Int × (Int × Int))))))))))) (i1 : Int) (i2 : Int) (l3 : List (ByteArray × (Int × (Int × (Bool × (Int × (Int × (Int × (Int × (Int × Int)))))))))) : Option (List (ByteArray × (Int × (Int × (Bool × (Int × (Int × (Int × (Int × (Int × Int))))))))) × Unit) :=
  if (decide (i2 < i1)) = true then
    if (decide (0 ≤ i2)) = true then
    if (decide (i2 < (l0.length : Int))) = true then
    (F19 n l3 (rdOf ([] : List (ByteArray × (Int × (Int × (Bool × (Int × (Int × (Int × (Int × (Int × Int)))))))))) l0 i2)).bind fun r1 =>
    g0 l0 i1 (wrap64 (i2 + 1)) r1.1
    else none
    else none
  else
    some (l3, ())
noncomputable def lp17_0 (n : Nat) : Nat → (List (List (ByteArray × (Int × (Int × (Bool × (Int × (Int × (Int × (Int × (Int × Int))))))))))) → Int → Int → (List (ByteArray × (Int × (Int × (Bool × (Int × (Int × (Int × (Int × (Int × Int)))))))))) → Option (List (ByteArray × (Int × (Int × (Bool × (Int × (Int × (Int × (Int × (Int × Int))))))))) × Unit)
  | 0 => fun _ _ _ _ => none
  | k + 1 => st17_0 n (lp17_0 n k)
noncomputable def st17 (n : Nat) (h0 : (List (List (ByteArray × (Int × (Int × (Bool × (Int × (Int × (Int × (Int × (Int × Int))))))))))) → Int → Int → (List (ByteArray × (Int × (Int × (Bool × (Int × (Int × (Int × (Int × (Int × Int)))))))))) → Option (List (ByteArray × (Int × (Int × (Bool × (Int × (Int × (Int × (Int × (Int × Int))))))))) × Unit)) (a0 : List (List (ByteArray × (Int × (Int × (Bool × (Int × (Int × (Int × (Int × (Int × Int))))))))))) : Option (List (ByteArray × (Int × (Int × (Bool × (Int × (Int × (Int × (Int × (Int × Int))))))))) × Unit) :=
  h0 a0 (a0.length : Int) (0 : Int) ([] : List (ByteArray × (Int × (Int × (Bool × (Int × (Int × (Int × (Int × (Int × Int))))))))))
noncomputable def F17 (n : Nat) (a0 : List (List (ByteArray × (Int × (Int × (Bool × (Int × (Int × (Int × (Int × (Int × Int))))))))))) : Option (List (ByteArray × (Int × (Int × (Bool × (Int × (Int × (Int × (Int × (Int × Int))))))))) × Unit) := st17 n (lp17_0 n n) a0
noncomputable def c17 (n : Nat) : Con := ⟨[.one (.sl (.imm true) 24 (.sl 30 (.pair .str (.pair (.int .i64) (.pair (.int .i64) (.pair .bool (.pair (.int .i64) (.pair (.int .i64) (.pair (.int .i64) (.pair (.int .i64) (.pair (.int .i64) (.int .i64))))))))))))], [], [.one (.sl .own 30 (.pair .str (.pair (.int .i64) (.pair (.int .i64) (.pair .bool (.pair (.int .i64) (.pair (.int .i64) (.pair (.int .i64) (.pair (.int .i64) (.pair (.int .i64) (.int .i64)))))))))))], [], fun (x : List (List (ByteArray × (Int × (Int × (Bool × (Int × (Int × (Int × (Int × (Int × Int)))))))))) × Unit) => F17 n x.1⟩
noncomputable def G17 (n : Nat) : Gam := [((19, []), c19 n)]
noncomputable def S17_0 (l0 : List (List (ByteArray × (Int × (Int × (Bool × (Int × (Int × (Int × (Int × (Int × Int))))))))))) (i1 : Int) (i2 : Int) (l3 : List (ByteArray × (Int × (Int × (Bool × (Int × (Int × (Int × (Int × (Int × Int)))))))))) : St := ⟨[.dead, .dead, .dead, .sr 3 0 none 0 0 none, .dead, .dead, .dead, .sl (.imm true) 24 (.sl 30 (.pair .str (.pair (.int .i64) (.pair (.int .i64) (.pair .bool (.pair (.int .i64) (.pair (.int .i64) (.pair (.int .i64) (.pair (.int .i64) (.pair (.int .i64) (.int .i64))))))))))) l0, .int .i64 i1, .int .i64 i2] ++ List.replicate 8 .dead, [Ob.none, Ob.none, Ob.none, ⟨false, [.sl .own 30 (.pair .str (.pair (.int .i64) (.pair (.int .i64) (.pair .bool (.pair (.int .i64) (.pair (.int .i64) (.pair (.int .i64) (.pair (.int .i64) (.pair (.int .i64) (.int .i64)))))))))) l3], 0, 0⟩] ++ List.replicate 14 Ob.none⟩
noncomputable def ga17_0 (n : Nat) (ks : List Nat) (k : Nat) (st : St) : Option (List (ByteArray × (Int × (Int × (Bool × (Int × (Int × (Int × (Int × (Int × Int))))))))) × Unit) := goAt tab (G17 n) n (bodyOf Try.f17) (lvOf Try.f17) (lvOf Try.f17).ret [1, 1, 0, 1, 0] ks k st (evBody.endK tab (c17 n) Try.f17)
theorem el17_0 (n : Nat) : ∀ (k : Nat), ∀ (l0 : List (List (ByteArray × (Int × (Int × (Bool × (Int × (Int × (Int × (Int × (Int × Int))))))))))) (i1 : Int) (i2 : Int) (l3 : List (ByteArray × (Int × (Int × (Bool × (Int × (Int × (Int × (Int × (Int × Int)))))))))), ga17_0 n [] k (S17_0 l0 i1 i2 l3) = lp17_0 n k l0 i1 i2 l3 := by
  intro k
  induction k with
  | zero => intros; rfl
  | succ k ih =>
    intro l0 i1 i2 l3
    have h : ga17_0 n [] (k + 1) (S17_0 l0 i1 i2 l3) = st17_0 n (fun w0 w1 w2 w3 => ga17_0 n [] k (S17_0 w0 w1 w2 w3)) l0 i1 i2 l3 := by kernel_rfl
    rw [h]
    have e : (fun w0 w1 w2 w3 => ga17_0 n [] k (S17_0 w0 w1 w2 w3)) = lp17_0 n k := by
      funext w0 w1 w2 w3; exact ih w0 w1 w2 w3
    rw [e]
    rfl
theorem e17 (n : Nat) (x : List (List (ByteArray × (Int × (Int × (Bool × (Int × (Int × (Int × (Int × (Int × Int)))))))))) × Unit) : evBody tab (G17 n) n (c17 n) Try.f17 x = F17 n x.1 := by
  have h : evBody tab (G17 n) n (c17 n) Try.f17 x = st17 n (fun w0 w1 w2 w3 => ga17_0 n [] n (S17_0 w0 w1 w2 w3)) x.1 := by kernel_rfl
  rw [h]
  have e0 : (fun w0 w1 w2 w3 => ga17_0 n [] n (S17_0 w0 w1 w2 w3)) = lp17_0 n n := by
    funext w0 w1 w2 w3; exact el17_0 n n w0 w1 w2 w3
  rw [e0]
  rfl
theorem g17 (W : World) (n : Nat) : Good Try.prog W 17 (c17 n) := body_good follows tabOk (GamOk.cons (g19 W n) GamOk.nil) (f := 17) (fn := Try.f17) (c := bodyOf Try.f17) (by kernel_rfl) (by kernel_rfl) (by kernel_rfl) (by kernel_rfl) (by kernel_rfl) (by kernel_rfl) (by kernel_rfl) (fun x r h => ⟨n, (e17 n x).trans h⟩)
/-! laws.at -/
noncomputable def F54 (n : Nat) (a0 : List Int) (a1 : Int) : Option (Int × Unit) :=
  if (decide (a1 < (a0.length : Int))) = true then
    if (decide (0 ≤ a1)) = true then
    if (decide (a1 < (a0.length : Int))) = true then
    some ((wrap64 ((rdOf (0 : Int) a0 a1))), ())
    else none
    else none
  else
    if (decide (256 ≠ 0)) = true then
    some (((wrap64 ((wrap64 (a1 * 37)) + (wrap64 ((a0.length : Int) * 11)))).tmod (256 : Int)), ())
    else none
noncomputable def c54 (n : Nat) : Con := ⟨[.one (.sl (.imm true) 5 (.int .u8)), .one (.int .i64)], [], [.one (.int .i64)], [], fun (x : List Int × Int × Unit) => F54 n x.1 x.2.1⟩
noncomputable def G54 (n : Nat) : Gam := []
theorem e54 (n : Nat) (x : List Int × Int × Unit) : evBody tab (G54 n) n (c54 n) Try.f54 x = F54 n x.1 x.2.1 := by kernel_rfl
theorem g54 (W : World) (n : Nat) : Good Try.prog W 54 (c54 n) := body_good follows tabOk GamOk.nil (f := 54) (fn := Try.f54) (c := bodyOf Try.f54) (by kernel_rfl) (by kernel_rfl) (by kernel_rfl) (by kernel_rfl) (by kernel_rfl) (by kernel_rfl) (by kernel_rfl) (fun x r h => ⟨n, (e54 n x).trans h⟩)
/-! laws.cutAt -/
noncomputable def F18 (n : Nat) (a0 : List Int) (a1 : Int) (a2 : Int) : Option (Int × Unit) :=
  (F54 n a0 a1).bind fun r1 =>
  if (decide (256 ≠ 0)) = true then
  some ((wrap64 ((wrap64 (r1.1 * (wrap64 (a2 + 1)))).tdiv (256 : Int))), ())
  else none
noncomputable def c18 (n : Nat) : Con := ⟨[.one (.sl (.imm true) 5 (.int .u8)), .one (.int .i64), .one (.int .i64)], [], [.one (.int .i64)], [], fun (x : List Int × Int × Int × Unit) => F18 n x.1 x.2.1 x.2.2.1⟩
noncomputable def G18 (n : Nat) : Gam := [((54, []), c54 n)]
theorem e18 (n : Nat) (x : List Int × Int × Int × Unit) : evBody tab (G18 n) n (c18 n) Try.f18 x = F18 n x.1 x.2.1 x.2.2.1 := by kernel_rfl
theorem g18 (W : World) (n : Nat) : Good Try.prog W 18 (c18 n) := body_good follows tabOk (GamOk.cons (g54 W n) GamOk.nil) (f := 18) (fn := Try.f18) (c := bodyOf Try.f18) (by kernel_rfl) (by kernel_rfl) (by kernel_rfl) (by kernel_rfl) (by kernel_rfl) (by kernel_rfl) (by kernel_rfl) (fun x r h => ⟨n, (e18 n x).trans h⟩)
/-! impl.FindRow -/
noncomputable def F20 (n : Nat) (a0 : List (ByteArray × (Int × (Int × (Bool × (Int × (Int × (Int × (Int × (Int × Int)))))))))) (a1 : ByteArray) : Option (ByteArray × Int × Int × Bool × Int × Int × Int × Int × Int × Int × Bool × Unit) :=
  (F55 n a0 a1).bind fun r1 =>
  if (decide (r1.1 < 0)) = true then
    some ((⟨#[]⟩ : ByteArray), 0, 0, false, 0, 0, 0, 0, 0, 0, false, ())
  else
    if (decide (0 ≤ r1.1)) = true then
    if (decide (r1.1 < (a0.length : Int))) = true then
    some ((rdOf ((⟨#[]⟩ : ByteArray), ((0 : Int), ((0 : Int), (false, ((0 : Int), ((0 : Int), ((0 : Int), ((0 : Int), ((0 : Int), (0 : Int)))))))))) a0 r1.1).1, ((rdOf ((⟨#[]⟩ : ByteArray), ((0 : Int), ((0 : Int), (false, ((0 : Int), ((0 : Int), ((0 : Int), ((0 : Int), ((0 : Int), (0 : Int)))))))))) a0 r1.1).2).1, (((rdOf ((⟨#[]⟩ : ByteArray), ((0 : Int), ((0 : Int), (false, ((0 : Int), ((0 : Int), ((0 : Int), ((0 : Int), ((0 : Int), (0 : Int)))))))))) a0 r1.1).2).2).1, ((((rdOf ((⟨#[]⟩ : ByteArray), ((0 : Int), ((0 : Int), (false, ((0 : Int), ((0 : Int), ((0 : Int), ((0 : Int), ((0 : Int), (0 : Int)))))))))) a0 r1.1).2).2).2).1, (((((rdOf ((⟨#[]⟩ : ByteArray), ((0 : Int), ((0 : Int), (false, ((0 : Int), ((0 : Int), ((0 : Int), ((0 : Int), ((0 : Int), (0 : Int)))))))))) a0 r1.1).2).2).2).2).1, ((((((rdOf ((⟨#[]⟩ : ByteArray), ((0 : Int), ((0 : Int), (false, ((0 : Int), ((0 : Int), ((0 : Int), ((0 : Int), ((0 : Int), (0 : Int)))))))))) a0 r1.1).2).2).2).2).2).1, (((((((rdOf ((⟨#[]⟩ : ByteArray), ((0 : Int), ((0 : Int), (false, ((0 : Int), ((0 : Int), ((0 : Int), ((0 : Int), ((0 : Int), (0 : Int)))))))))) a0 r1.1).2).2).2).2).2).2).1, ((((((((rdOf ((⟨#[]⟩ : ByteArray), ((0 : Int), ((0 : Int), (false, ((0 : Int), ((0 : Int), ((0 : Int), ((0 : Int), ((0 : Int), (0 : Int)))))))))) a0 r1.1).2).2).2).2).2).2).2).1, (((((((((rdOf ((⟨#[]⟩ : ByteArray), ((0 : Int), ((0 : Int), (false, ((0 : Int), ((0 : Int), ((0 : Int), ((0 : Int), ((0 : Int), (0 : Int)))))))))) a0 r1.1).2).2).2).2).2).2).2).2).1, (((((((((rdOf ((⟨#[]⟩ : ByteArray), ((0 : Int), ((0 : Int), (false, ((0 : Int), ((0 : Int), ((0 : Int), ((0 : Int), ((0 : Int), (0 : Int)))))))))) a0 r1.1).2).2).2).2).2).2).2).2).2, true, ())
    else none
    else none
noncomputable def c20 (n : Nat) : Con := ⟨[.one (.sl (.imm true) 30 (.pair .str (.pair (.int .i64) (.pair (.int .i64) (.pair .bool (.pair (.int .i64) (.pair (.int .i64) (.pair (.int .i64) (.pair (.int .i64) (.pair (.int .i64) (.int .i64))))))))))), .one (.str)], [], [.agg [(.str), (.int .i64), (.int .i64), (.bool), (.int .i64), (.int .i64), (.int .i64), (.int .i64), (.int .i64), (.int .i64)], .one (.bool)], [], fun (x : List (ByteArray × (Int × (Int × (Bool × (Int × (Int × (Int × (Int × (Int × Int))))))))) × ByteArray × Unit) => F20 n x.1 x.2.1⟩
noncomputable def G20 (n : Nat) : Gam := [((55, []), c55 n)]
theorem e20 (n : Nat) (x : List (ByteArray × (Int × (Int × (Bool × (Int × (Int × (Int × (Int × (Int × Int))))))))) × ByteArray × Unit) : evBody tab (G20 n) n (c20 n) Try.f20 x = F20 n x.1 x.2.1 := by kernel_rfl
theorem g20 (W : World) (n : Nat) : Good Try.prog W 20 (c20 n) := body_good follows tabOk (GamOk.cons (g55 W n) GamOk.nil) (f := 20) (fn := Try.f20) (c := bodyOf Try.f20) (by kernel_rfl) (by kernel_rfl) (by kernel_rfl) (by kernel_rfl) (by kernel_rfl) (by kernel_rfl) (by kernel_rfl) (fun x r h => ⟨n, (e20 n x).trans h⟩)
/-! impl.TotalIn -/
noncomputable def st21_1 (n : Nat) (g0 : ByteArray → (List (List (ByteArray × (Int × (Int × (Bool × (Int × (Int × (Int × (Int × (Int × Int))))))))))) → Int → Int → ByteArray → Int → Int → Bool → Int → Int → Int → Int → Int → Int → ByteArray → Int → Int → Bool → Int → Int → Int → Int → Int → Int → Option (ByteArray × Int × Int × Bool × Int × Int × Int × Int × Int × Int × Unit)) (g1 : ByteArray → (List (List (ByteArray × (Int × (Int × (Bool × (Int × (Int × (Int × (Int × (Int × Int))))))))))) → Int → Int → (List (ByteArray × (Int × (Int × (Bool × (Int × (Int × (Int × (Int × (Int × Int)))))))))) → Int → Int → ByteArray → Int → Int → Bool → Int → Int → Int → Int → Int → Int → ByteArray → Int → Int → Bool → Int → Int → Int → Int → Int → Int → Option (ByteArray × Int × Int × Bool × Int × Int × Int × Int × Int × Int × Unit)) (s0 : ByteArray) (l1 : List (List (ByteArray × (Int × (Int × (Bool × (Int × (Int × (Int × (Int × (Int × Int))))))))))) (i2 : Int) (i3 : Int) (l4 : List (ByteArray × (Int × (Int × (Bool × (Int × (Int × (Int × (Int × (Int × Int)))))))))) (i5 : Int) (i6 : Int) (s7 : ByteArray) (i8 : Int) (i9 : Int) (b10 : Bool) (i11 : Int) (i12 : Int) (i13 : Int) (i14 : Int) (i15 : Int) (i16 : Int) (s17 : ByteArray) (i18 : Int) (i19 : Int) (b20 : Bool) (i21 : Int) (i22 : Int) (i23 : Int) (i24 : Int) (i25 : Int) (i26 : Int) : Option (ByteArray × Int × Int × Bool × Int × Int × Int × Int × Int × Int × Unit) :=
  if (decide (i6 < i5)) = true then
    if (decide (0 ≤ i6)) = true then
    if (decide (i6 < (l4.length : Int))) = true then
    if (decide (((rdOf ((⟨#[]⟩ : ByteArray), ((0 : Int), ((0 : Int), (false, ((0 : Int), ((0 : Int), ((0 : Int), ((0 : Int), ((0 : Int), (0 : Int)))))))))) l4 i6).1).toList = s0.toList)) = true then
      (F24 n s17 i18 i19 b20 i21 i22 i23 i24 i25 i26 ((rdOf ((⟨#[]⟩ : ByteArray), ((0 : Int), ((0 : Int), (false, ((0 : Int), ((0 : Int), ((0 : Int), ((0 : Int), ((0 : Int), (0 : Int)))))))))) l4 i6).1) (((rdOf ((⟨#[]⟩ : ByteArray), ((0 : Int), ((0 : Int), (false, ((0 : Int), ((0 : Int), ((0 : Int), ((0 : Int), ((0 : Int), (0 : Int)))))))))) l4 i6).2).1) ((((rdOf ((⟨#[]⟩ : ByteArray), ((0 : Int), ((0 : Int), (false, ((0 : Int), ((0 : Int), ((0 : Int), ((0 : Int), ((0 : Int), (0 : Int)))))))))) l4 i6).2).2).1) (((((rdOf ((⟨#[]⟩ : ByteArray), ((0 : Int), ((0 : Int), (false, ((0 : Int), ((0 : Int), ((0 : Int), ((0 : Int), ((0 : Int), (0 : Int)))))))))) l4 i6).2).2).2).1) ((((((rdOf ((⟨#[]⟩ : ByteArray), ((0 : Int), ((0 : Int), (false, ((0 : Int), ((0 : Int), ((0 : Int), ((0 : Int), ((0 : Int), (0 : Int)))))))))) l4 i6).2).2).2).2).1) (((((((rdOf ((⟨#[]⟩ : ByteArray), ((0 : Int), ((0 : Int), (false, ((0 : Int), ((0 : Int), ((0 : Int), ((0 : Int), ((0 : Int), (0 : Int)))))))))) l4 i6).2).2).2).2).2).1) ((((((((rdOf ((⟨#[]⟩ : ByteArray), ((0 : Int), ((0 : Int), (false, ((0 : Int), ((0 : Int), ((0 : Int), ((0 : Int), ((0 : Int), (0 : Int)))))))))) l4 i6).2).2).2).2).2).2).1) (((((((((rdOf ((⟨#[]⟩ : ByteArray), ((0 : Int), ((0 : Int), (false, ((0 : Int), ((0 : Int), ((0 : Int), ((0 : Int), ((0 : Int), (0 : Int)))))))))) l4 i6).2).2).2).2).2).2).2).1) ((((((((((rdOf ((⟨#[]⟩ : ByteArray), ((0 : Int), ((0 : Int), (false, ((0 : Int), ((0 : Int), ((0 : Int), ((0 : Int), ((0 : Int), (0 : Int)))))))))) l4 i6).2).2).2).2).2).2).2).2).1) ((((((((((rdOf ((⟨#[]⟩ : ByteArray), ((0 : Int), ((0 : Int), (false, ((0 : Int), ((0 : Int), ((0 : Int), ((0 : Int), ((0 : Int), (0 : Int)))))))))) l4 i6).2).2).2).2).2).2).2).2).2)).bind fun r1 =>
      g1 s0 l1 i2 i3 l4 i5 (wrap64 (i6 + 1)) s7 i8 i9 b10 i11 i12 i13 i14 i15 i16 r1.1 r1.2.1 r1.2.2.1 r1.2.2.2.1 r1.2.2.2.2.1 r1.2.2.2.2.2.1 r1.2.2.2.2.2.2.1 r1.2.2.2.2.2.2.2.1 r1.2.2.2.2.2.2.2.2.1 r1.2.2.2.2.2.2.2.2.2.1
    else
      g1 s0 l1 i2 i3 l4 i5 (wrap64 (i6 + 1)) s7 i8 i9 b10 i11 i12 i13 i14 i15 i16 s17 i18 i19 b20 i21 i22 i23 i24 i25 i26
    else none
    else none
  else
    g0 s0 l1 i2 (wrap64 (i3 + 1)) s7 i8 i9 b10 i11 i12 i13 i14 i15 i16 s17 i18 i19 b20 i21 i22 i23 i24 i25 i26
noncomputable def lp21_1 (n : Nat) (g0 : ByteArray → (List (List (ByteArray × (Int × (Int × (Bool × (Int × (Int × (Int × (Int × (Int × Int))))))))))) → Int → Int → ByteArray → Int → Int → Bool → Int → Int → Int → Int → Int → Int → ByteArray → Int → Int → Bool → Int → Int → Int → Int → Int → Int → Option (ByteArray × Int × Int × Bool × Int × Int × Int × Int × Int × Int × Unit)) : Nat → ByteArray → (List (List (ByteArray × (Int × (Int × (Bool × (Int × (Int × (Int × (Int × (Int × Int))))))))))) → Int → Int → (List (ByteArray × (Int × (Int × (Bool × (Int × (Int × (Int × (Int × (Int × Int)))))))))) → Int → Int → ByteArray → Int → Int → Bool → Int → Int → Int → Int → Int → Int → ByteArray → Int → Int → Bool → Int → Int → Int → Int → Int → Int → Option (ByteArray × Int × Int × Bool × Int × Int × Int × Int × Int × Int × Unit)
  | 0 => fun _ _ _ _ _ _ _ _ _ _ _ _ _ _ _ _ _ _ _ _ _ _ _ _ _ _ _ => none
  | k + 1 => st21_1 n g0 (lp21_1 n g0 k)
noncomputable def st21_0 (n : Nat) (h1 : ByteArray → (List (List (ByteArray × (Int × (Int × (Bool × (Int × (Int × (Int × (Int × (Int × Int))))))))))) → Int → Int → (List (ByteArray × (Int × (Int × (Bool × (Int × (Int × (Int × (Int × (Int × Int)))))))))) → Int → Int → ByteArray → Int → Int → Bool → Int → Int → Int → Int → Int → Int → ByteArray → Int → Int → Bool → Int → Int → Int → Int → Int → Int → Option (ByteArray × Int × Int × Bool × Int × Int × Int × Int × Int × Int × Unit)) (g0 : ByteArray → (List (List (ByteArray × (Int × (Int × (Bool × (Int × (Int × (Int × (Int × (Int × Int))))))))))) → Int → Int → ByteArray → Int → Int → Bool → Int → Int → Int → Int → Int → Int → ByteArray → Int → Int → Bool → Int → Int → Int → Int → Int → Int → Option (ByteArray × Int × Int × Bool × Int × Int × Int × Int × Int × Int × Unit)) (s0 : ByteArray) (l1 : List (List (ByteArray × (Int × (Int × (Bool × (Int × (Int × (Int × (Int × (Int × Int))))))))))) (i2 : Int) (i3 : Int) (s4 : ByteArray) (i5 : Int) (i6 : Int) (b7 : Bool) (i8 : Int) (i9 : Int) (i10 : Int) (i11 : Int) (i12 : Int) (i13 : Int) (s14 : ByteArray) (i15 : Int) (i16 : Int) (b17 : Bool) (i18 : Int) (i19 : Int) (i20 : Int) (i21 : Int) (i22 : Int) (i23 : Int) : Option (ByteArray × Int × Int × Bool × Int × Int × Int × Int × Int × Int × Unit) :=
  if (decide (i3 < i2)) = true then
    if (decide (0 ≤ i3)) = true then
    if (decide (i3 < (l1.length : Int))) = true then
    h1 s0 l1 i2 i3 (rdOf ([] : List (ByteArray × (Int × (Int × (Bool × (Int × (Int × (Int × (Int × (Int × Int)))))))))) l1 i3) ((rdOf ([] : List (ByteArray × (Int × (Int × (Bool × (Int × (Int × (Int × (Int × (Int × Int)))))))))) l1 i3).length : Int) (0 : Int) s4 i5 i6 b7 i8 i9 i10 i11 i12 i13 s14 i15 i16 b17 i18 i19 i20 i21 i22 i23
    else none
    else none
  else
    some (s14, i15, i16, b17, i18, i19, i20, i21, i22, i23, ())
noncomputable def lp21_0 (n : Nat) : Nat → ByteArray → (List (List (ByteArray × (Int × (Int × (Bool × (Int × (Int × (Int × (Int × (Int × Int))))))))))) → Int → Int → ByteArray → Int → Int → Bool → Int → Int → Int → Int → Int → Int → ByteArray → Int → Int → Bool → Int → Int → Int → Int → Int → Int → Option (ByteArray × Int × Int × Bool × Int × Int × Int × Int × Int × Int × Unit)
  | 0 => fun _ _ _ _ _ _ _ _ _ _ _ _ _ _ _ _ _ _ _ _ _ _ _ _ => none
  | k + 1 => st21_0 n (lp21_1 n (lp21_0 n k) n) (lp21_0 n k)
noncomputable def st21 (n : Nat) (h0 : ByteArray → (List (List (ByteArray × (Int × (Int × (Bool × (Int × (Int × (Int × (Int × (Int × Int))))))))))) → Int → Int → ByteArray → Int → Int → Bool → Int → Int → Int → Int → Int → Int → ByteArray → Int → Int → Bool → Int → Int → Int → Int → Int → Int → Option (ByteArray × Int × Int × Bool × Int × Int × Int × Int × Int × Int × Unit)) (a0 : List (List (ByteArray × (Int × (Int × (Bool × (Int × (Int × (Int × (Int × (Int × Int))))))))))) (a1 : ByteArray) : Option (ByteArray × Int × Int × Bool × Int × Int × Int × Int × Int × Int × Unit) :=
  h0 a1 a0 (a0.length : Int) (0 : Int) (⟨#[]⟩ : ByteArray) (0 : Int) (0 : Int) false (0 : Int) (0 : Int) (0 : Int) (0 : Int) (0 : Int) (0 : Int) (⟨#[]⟩ : ByteArray) (0 : Int) (0 : Int) false (0 : Int) (0 : Int) (0 : Int) (0 : Int) (0 : Int) (0 : Int)
noncomputable def F21 (n : Nat) (a0 : List (List (ByteArray × (Int × (Int × (Bool × (Int × (Int × (Int × (Int × (Int × Int))))))))))) (a1 : ByteArray) : Option (ByteArray × Int × Int × Bool × Int × Int × Int × Int × Int × Int × Unit) := st21 n (lp21_0 n n) a0 a1
noncomputable def c21 (n : Nat) : Con := ⟨[.one (.sl (.imm true) 24 (.sl 30 (.pair .str (.pair (.int .i64) (.pair (.int .i64) (.pair .bool (.pair (.int .i64) (.pair (.int .i64) (.pair (.int .i64) (.pair (.int .i64) (.pair (.int .i64) (.int .i64)))))))))))), .one (.str)], [], [.agg [(.str), (.int .i64), (.int .i64), (.bool), (.int .i64), (.int .i64), (.int .i64), (.int .i64), (.int .i64), (.int .i64)]], [], fun (x : List (List (ByteArray × (Int × (Int × (Bool × (Int × (Int × (Int × (Int × (Int × Int)))))))))) × ByteArray × Unit) => F21 n x.1 x.2.1⟩
noncomputable def G21 (n : Nat) : Gam := [((24, []), c24 n)]
noncomputable def S21_1 (s0 : ByteArray) (l1 : List (List (ByteArray × (Int × (Int × (Bool × (Int × (Int × (Int × (Int × (Int × Int))))))))))) (i2 : Int) (i3 : Int) (l4 : List (ByteArray × (Int × (Int × (Bool × (Int × (Int × (Int × (Int × (Int × Int)))))))))) (i5 : Int) (i6 : Int) (s7 : ByteArray) (i8 : Int) (i9 : Int) (b10 : Bool) (i11 : Int) (i12 : Int) (i13 : Int) (i14 : Int) (i15 : Int) (i16 : Int) (s17 : ByteArray) (i18 : Int) (i19 : Int) (b20 : Bool) (i21 : Int) (i22 : Int) (i23 : Int) (i24 : Int) (i25 : Int) (i26 : Int) : St := ⟨[.dead, .str s0, .dead, .dead, .ptr 4 0, .ptr 5 0] ++ List.replicate 5 .dead ++ [.sl (.imm true) 24 (.sl 30 (.pair .str (.pair (.int .i64) (.pair (.int .i64) (.pair .bool (.pair (.int .i64) (.pair (.int .i64) (.pair (.int .i64) (.pair (.int .i64) (.pair (.int .i64) (.int .i64))))))))))) l1, .int .i64 i2, .int .i64 i3, .dead, .dead, .dead, .sl (.imm true) 30 (.pair .str (.pair (.int .i64) (.pair (.int .i64) (.pair .bool (.pair (.int .i64) (.pair (.int .i64) (.pair (.int .i64) (.pair (.int .i64) (.pair (.int .i64) (.int .i64)))))))))) l4, .int .i64 i5, .int .i64 i6] ++ List.replicate 13 .dead, List.replicate 4 Ob.none ++ [⟨true, [.str s7, .int .i64 i8, .int .i64 i9, .bool b10, .int .i64 i11, .int .i64 i12, .int .i64 i13, .int .i64 i14, .int .i64 i15, .int .i64 i16], 0, 0⟩, ⟨true, [.str s17, .int .i64 i18, .int .i64 i19, .bool b20, .int .i64 i21, .int .i64 i22, .int .i64 i23, .int .i64 i24, .int .i64 i25, .int .i64 i26], 0, 0⟩] ++ List.replicate 27 Ob.none⟩
noncomputable def ga21_1 (n : Nat) (ks : List Nat) (k : Nat) (st : St) : Option (ByteArray × Int × Int × Bool × Int × Int × Int × Int × Int × Int × Unit) := goAt tab (G21 n) n (bodyOf Try.f21) (lvOf Try.f21) (lvOf Try.f21).ret [1, 1, 0, 1, 0, 0, 1, 1, 0, 0, 1, 1, 0] ks k st (evBody.endK tab (c21 n) Try.f21)
noncomputable def S21_0 (s0 : ByteArray) (l1 : List (List (ByteArray × (Int × (Int × (Bool × (Int × (Int × (Int × (Int × (Int × Int))))))))))) (i2 : Int) (i3 : Int) (s4 : ByteArray) (i5 : Int) (i6 : Int) (b7 : Bool) (i8 : Int) (i9 : Int) (i10 : Int) (i11 : Int) (i12 : Int) (i13 : Int) (s14 : ByteArray) (i15 : Int) (i16 : Int) (b17 : Bool) (i18 : Int) (i19 : Int) (i20 : Int) (i21 : Int) (i22 : Int) (i23 : Int) : St := ⟨[.dead, .str s0, .dead, .dead, .ptr 4 0, .ptr 5 0] ++ List.replicate 5 .dead ++ [.sl (.imm true) 24 (.sl 30 (.pair .str (.pair (.int .i64) (.pair (.int .i64) (.pair .bool (.pair (.int .i64) (.pair (.int .i64) (.pair (.int .i64) (.pair (.int .i64) (.pair (.int .i64) (.int .i64))))))))))) l1, .int .i64 i2, .int .i64 i3] ++ List.replicate 19 .dead, List.replicate 4 Ob.none ++ [⟨true, [.str s4, .int .i64 i5, .int .i64 i6, .bool b7, .int .i64 i8, .int .i64 i9, .int .i64 i10, .int .i64 i11, .int .i64 i12, .int .i64 i13], 0, 0⟩, ⟨true, [.str s14, .int .i64 i15, .int .i64 i16, .bool b17, .int .i64 i18, .int .i64 i19, .int .i64 i20, .int .i64 i21, .int .i64 i22, .int .i64 i23], 0, 0⟩] ++ List.replicate 27 Ob.none⟩
noncomputable def ga21_0 (n : Nat) (ks : List Nat) (k : Nat) (st : St) : Option (ByteArray × Int × Int × Bool × Int × Int × Int × Int × Int × Int × Unit) := goAt tab (G21 n) n (bodyOf Try.f21) (lvOf Try.f21) (lvOf Try.f21).ret [1, 1, 0, 1, 0] ks k st (evBody.endK tab (c21 n) Try.f21)
theorem el21_1 (n : Nat) (k0 : Nat) : ∀ (k : Nat), ∀ (s0 : ByteArray) (l1 : List (List (ByteArray × (Int × (Int × (Bool × (Int × (Int × (Int × (Int × (Int × Int))))))))))) (i2 : Int) (i3 : Int) (l4 : List (ByteArray × (Int × (Int × (Bool × (Int × (Int × (Int × (Int × (Int × Int)))))))))) (i5 : Int) (i6 : Int) (s7 : ByteArray) (i8 : Int) (i9 : Int) (b10 : Bool) (i11 : Int) (i12 : Int) (i13 : Int) (i14 : Int) (i15 : Int) (i16 : Int) (s17 : ByteArray) (i18 : Int) (i19 : Int) (b20 : Bool) (i21 : Int) (i22 : Int) (i23 : Int) (i24 : Int) (i25 : Int) (i26 : Int), ga21_1 n [k0] k (S21_1 s0 l1 i2 i3 l4 i5 i6 s7 i8 i9 b10 i11 i12 i13 i14 i15 i16 s17 i18 i19 b20 i21 i22 i23 i24 i25 i26) = lp21_1 n (fun w0 w1 w2 w3 w4 w5 w6 w7 w8 w9 w10 w11 w12 w13 w14 w15 w16 w17 w18 w19 w20 w21 w22 w23 => ga21_0 n [] k0 (S21_0 w0 w1 w2 w3 w4 w5 w6 w7 w8 w9 w10 w11 w12 w13 w14 w15 w16 w17 w18 w19 w20 w21 w22 w23)) k s0 l1 i2 i3 l4 i5 i6 s7 i8 i9 b10 i11 i12 i13 i14 i15 i16 s17 i18 i19 b20 i21 i22 i23 i24 i25 i26 := by
  intro k
  induction k with
  | zero => intros; rfl
  | succ k ih =>
    intro s0 l1 i2 i3 l4 i5 i6 s7 i8 i9 b10 i11 i12 i13 i14 i15 i16 s17 i18 i19 b20 i21 i22 i23 i24 i25 i26
    have h : ga21_1 n [k0] (k + 1) (S21_1 s0 l1 i2 i3 l4 i5 i6 s7 i8 i9 b10 i11 i12 i13 i14 i15 i16 s17 i18 i19 b20 i21 i22 i23 i24 i25 i26) = st21_1 n (fun w0 w1 w2 w3 w4 w5 w6 w7 w8 w9 w10 w11 w12 w13 w14 w15 w16 w17 w18 w19 w20 w21 w22 w23 => ga21_0 n [] k0 (S21_0 w0 w1 w2 w3 w4 w5 w6 w7 w8 w9 w10 w11 w12 w13 w14 w15 w16 w17 w18 w19 w20 w21 w22 w23)) (fun w0 w1 w2 w3 w4 w5 w6 w7 w8 w9 w10 w11 w12 w13 w14 w15 w16 w17 w18 w19 w20 w21 w22 w23 w24 w25 w26 => ga21_1 n [k0] k (S21_1 w0 w1 w2 w3 w4 w5 w6 w7 w8 w9 w10 w11 w12 w13 w14 w15 w16 w17 w18 w19 w20 w21 w22 w23 w24 w25 w26)) s0 l1 i2 i3 l4 i5 i6 s7 i8 i9 b10 i11 i12 i13 i14 i15 i16 s17 i18 i19 b20 i21 i22 i23 i24 i25 i26 := by kernel_rfl
    rw [h]
    have e : (fun w0 w1 w2 w3 w4 w5 w6 w7 w8 w9 w10 w11 w12 w13 w14 w15 w16 w17 w18 w19 w20 w21 w22 w23 w24 w25 w26 => ga21_1 n [k0] k (S21_1 w0 w1 w2 w3 w4 w5 w6 w7 w8 w9 w10 w11 w12 w13 w14 w15 w16 w17 w18 w19 w20 w21 w22 w23 w24 w25 w26)) = lp21_1 n (fun w0 w1 w2 w3 w4 w5 w6 w7 w8 w9 w10 w11 w12 w13 w14 w15 w16 w17 w18 w19 w20 w21 w22 w23 => ga21_0 n [] k0 (S21_0 w0 w1 w2 w3 w4 w5 w6 w7 w8 w9 w10 w11 w12 w13 w14 w15 w16 w17 w18 w19 w20 w21 w22 w23)) k := by
      funext w0 w1 w2 w3 w4 w5 w6 w7 w8 w9 w10 w11 w12 w13 w14 w15 w16 w17 w18 w19 w20 w21 w22 w23 w24 w25 w26; exact ih w0 w1 w2 w3 w4 w5 w6 w7 w8 w9 w10 w11 w12 w13 w14 w15 w16 w17 w18 w19 w20 w21 w22 w23 w24 w25 w26
    rw [e]
    rfl
theorem el21_0 (n : Nat) : ∀ (k : Nat), ∀ (s0 : ByteArray) (l1 : List (List (ByteArray × (Int × (Int × (Bool × (Int × (Int × (Int × (Int × (Int × Int))))))))))) (i2 : Int) (i3 : Int) (s4 : ByteArray) (i5 : Int) (i6 : Int) (b7 : Bool) (i8 : Int) (i9 : Int) (i10 : Int) (i11 : Int) (i12 : Int) (i13 : Int) (s14 : ByteArray) (i15 : Int) (i16 : Int) (b17 : Bool) (i18 : Int) (i19 : Int) (i20 : Int) (i21 : Int) (i22 : Int) (i23 : Int), ga21_0 n [] k (S21_0 s0 l1 i2 i3 s4 i5 i6 b7 i8 i9 i10 i11 i12 i13 s14 i15 i16 b17 i18 i19 i20 i21 i22 i23) = lp21_0 n k s0 l1 i2 i3 s4 i5 i6 b7 i8 i9 i10 i11 i12 i13 s14 i15 i16 b17 i18 i19 i20 i21 i22 i23 := by
  intro k
  induction k with
  | zero => intros; rfl
  | succ k ih =>
    intro s0 l1 i2 i3 s4 i5 i6 b7 i8 i9 i10 i11 i12 i13 s14 i15 i16 b17 i18 i19 i20 i21 i22 i23
    have h : ga21_0 n [] (k + 1) (S21_0 s0 l1 i2 i3 s4 i5 i6 b7 i8 i9 i10 i11 i12 i13 s14 i15 i16 b17 i18 i19 i20 i21 i22 i23) = st21_0 n (fun w0 w1 w2 w3 w4 w5 w6 w7 w8 w9 w10 w11 w12 w13 w14 w15 w16 w17 w18 w19 w20 w21 w22 w23 w24 w25 w26 => ga21_1 n [k] n (S21_1 w0 w1 w2 w3 w4 w5 w6 w7 w8 w9 w10 w11 w12 w13 w14 w15 w16 w17 w18 w19 w20 w21 w22 w23 w24 w25 w26)) (fun w0 w1 w2 w3 w4 w5 w6 w7 w8 w9 w10 w11 w12 w13 w14 w15 w16 w17 w18 w19 w20 w21 w22 w23 => ga21_0 n [] k (S21_0 w0 w1 w2 w3 w4 w5 w6 w7 w8 w9 w10 w11 w12 w13 w14 w15 w16 w17 w18 w19 w20 w21 w22 w23)) s0 l1 i2 i3 s4 i5 i6 b7 i8 i9 i10 i11 i12 i13 s14 i15 i16 b17 i18 i19 i20 i21 i22 i23 := by kernel_rfl
    rw [h]
    have e1 : (fun w0 w1 w2 w3 w4 w5 w6 w7 w8 w9 w10 w11 w12 w13 w14 w15 w16 w17 w18 w19 w20 w21 w22 w23 w24 w25 w26 => ga21_1 n [k] n (S21_1 w0 w1 w2 w3 w4 w5 w6 w7 w8 w9 w10 w11 w12 w13 w14 w15 w16 w17 w18 w19 w20 w21 w22 w23 w24 w25 w26)) = lp21_1 n (fun w0 w1 w2 w3 w4 w5 w6 w7 w8 w9 w10 w11 w12 w13 w14 w15 w16 w17 w18 w19 w20 w21 w22 w23 => ga21_0 n [] k (S21_0 w0 w1 w2 w3 w4 w5 w6 w7 w8 w9 w10 w11 w12 w13 w14 w15 w16 w17 w18 w19 w20 w21 w22 w23)) n := by
      funext w0 w1 w2 w3 w4 w5 w6 w7 w8 w9 w10 w11 w12 w13 w14 w15 w16 w17 w18 w19 w20 w21 w22 w23 w24 w25 w26; exact el21_1 n k n w0 w1 w2 w3 w4 w5 w6 w7 w8 w9 w10 w11 w12 w13 w14 w15 w16 w17 w18 w19 w20 w21 w22 w23 w24 w25 w26
    have e : (fun w0 w1 w2 w3 w4 w5 w6 w7 w8 w9 w10 w11 w12 w13 w14 w15 w16 w17 w18 w19 w20 w21 w22 w23 => ga21_0 n [] k (S21_0 w0 w1 w2 w3 w4 w5 w6 w7 w8 w9 w10 w11 w12 w13 w14 w15 w16 w17 w18 w19 w20 w21 w22 w23)) = lp21_0 n k := by
      funext w0 w1 w2 w3 w4 w5 w6 w7 w8 w9 w10 w11 w12 w13 w14 w15 w16 w17 w18 w19 w20 w21 w22 w23; exact ih w0 w1 w2 w3 w4 w5 w6 w7 w8 w9 w10 w11 w12 w13 w14 w15 w16 w17 w18 w19 w20 w21 w22 w23
    rw [e1, e]
    rfl
theorem e21 (n : Nat) (x : List (List (ByteArray × (Int × (Int × (Bool × (Int × (Int × (Int × (Int × (Int × Int)))))))))) × ByteArray × Unit) : evBody tab (G21 n) n (c21 n) Try.f21 x = F21 n x.1 x.2.1 := by
  have h : evBody tab (G21 n) n (c21 n) Try.f21 x = st21 n (fun w0 w1 w2 w3 w4 w5 w6 w7 w8 w9 w10 w11 w12 w13 w14 w15 w16 w17 w18 w19 w20 w21 w22 w23 => ga21_0 n [] n (S21_0 w0 w1 w2 w3 w4 w5 w6 w7 w8 w9 w10 w11 w12 w13 w14 w15 w16 w17 w18 w19 w20 w21 w22 w23)) x.1 x.2.1 := by kernel_rfl
  rw [h]
  have e0 : (fun w0 w1 w2 w3 w4 w5 w6 w7 w8 w9 w10 w11 w12 w13 w14 w15 w16 w17 w18 w19 w20 w21 w22 w23 => ga21_0 n [] n (S21_0 w0 w1 w2 w3 w4 w5 w6 w7 w8 w9 w10 w11 w12 w13 w14 w15 w16 w17 w18 w19 w20 w21 w22 w23)) = lp21_0 n n := by
    funext w0 w1 w2 w3 w4 w5 w6 w7 w8 w9 w10 w11 w12 w13 w14 w15 w16 w17 w18 w19 w20 w21 w22 w23; exact el21_0 n n w0 w1 w2 w3 w4 w5 w6 w7 w8 w9 w10 w11 w12 w13 w14 w15 w16 w17 w18 w19 w20 w21 w22 w23
  rw [e0]
  rfl
theorem g21 (W : World) (n : Nat) : Good Try.prog W 21 (c21 n) := body_good follows tabOk (GamOk.cons (g24 W n) GamOk.nil) (f := 21) (fn := Try.f21) (c := bodyOf Try.f21) (by kernel_rfl) (by kernel_rfl) (by kernel_rfl) (by kernel_rfl) (by kernel_rfl) (by kernel_rfl) (by kernel_rfl) (fun x r h => ⟨n, (e21 n x).trans h⟩)
end Go.Eva
end
section
/- The functions, as their texts evaluate. -/
set_option linter.unusedVariables false
set_option maxRecDepth 100000
namespace Go.Eva
open Go.Proofs
open Go.RowKit (wrap64)
/-! spec.l2Mod -/
noncomputable def F62 (n : Nat) (a0 : Int) : Option (Int × Unit) :=
  if (decide (281474976710656 ≠ 0)) = true then
  if (decide (281474976710656 ≠ 0)) = true then
  some (((wrap64 ((a0.tmod (281474976710656 : Int)) + 281474976710656)).tmod (281474976710656 : Int)), ())
  else none
  else none
noncomputable def c62 (n : Nat) : Con := ⟨[.one (.int .i64)], [], [.one (.int .i64)], [], fun (x : Int × Unit) => F62 n x.1⟩
noncomputable def G62 (n : Nat) : Gam := []
theorem e62 (n : Nat) (x : Int × Unit) : evBody tab (G62 n) n (c62 n) Try.f62 x = F62 n x.1 := by kernel_rfl
theorem g62 (W : World) (n : Nat) : Good Try.prog W 62 (c62 n) := body_good follows tabOk GamOk.nil (f := 62) (fn := Try.f62) (c := bodyOf Try.f62) (by kernel_rfl) (by kernel_rfl) (by kernel_rfl) (by kernel_rfl) (by kernel_rfl) (by kernel_rfl) (by kernel_rfl) (fun x r h => ⟨n, (e62 n x).trans h⟩)
/-! spec.MergeRow -/
noncomputable def F26 (n : Nat) (a0 : ByteArray) (a1 : Int) (a2 : Int) (a3 : Bool) (a4 : Int) (a5 : Int) (a6 : Int) (a7 : Int) (a8 : Int) (a9 : Int) (a10 : ByteArray) (a11 : Int) (a12 : Int) (a13 : Bool) (a14 : Int) (a15 : Int) (a16 : Int) (a17 : Int) (a18 : Int) (a19 : Int) : Option (ByteArray × Int × Int × Bool × Int × Int × Int × Int × Int × Int × Unit) :=
  if (decide (a0.toList = (⟨#[]⟩ : ByteArray).toList) && (decide (a1 = 0) && (decide (a2 = 0) && ((a3 == false) && (decide (a4 = 0) && (decide (a5 = 0) && (decide (a6 = 0) && (decide (a7 = 0) && (decide (a8 = 0) && (decide (a9 = 0) && true)))))))))) = true then
    some (a10, a11, a12, a13, a14, a15, a16, a17, a18, a19, ())
  else
    if (!decide (a0.toList = a10.toList)) = true then
      some (a0, a1, a2, a3, a4, a5, a6, a7, a8, a9, ())
    else
      if (decide (a1 ≠ a11)) = true then
        some (a0, a1, a2, a3, a4, a5, a6, a7, a8, a9, ())
      else
        (F62 n a2).bind fun r1 =>
        (F62 n a12).bind fun r2 =>
        (F62 n (wrap64 (r1.1 + r2.1))).bind fun r3 =>
        if a13 = true then
          if (decide (a5 = 0)) = true then
            if (decide (a15 > 0)) = true then
              some (a0, a1, r3.1, true, a14, (wrap64 (a5 + a15)), (mn a16 a16), (mx a17 a17), (wrap64 (a8 + a18)), (wrap64 (a9 + a19)), ())
            else
              some (a0, a1, r3.1, true, a14, (wrap64 (a5 + a15)), a16, a17, (wrap64 (a8 + a18)), (wrap64 (a9 + a19)), ())
          else
            if (decide (a15 > 0)) = true then
              some (a0, a1, r3.1, true, a14, (wrap64 (a5 + a15)), (mn a6 a16), (mx a7 a17), (wrap64 (a8 + a18)), (wrap64 (a9 + a19)), ())
            else
              some (a0, a1, r3.1, true, a14, (wrap64 (a5 + a15)), a6, a7, (wrap64 (a8 + a18)), (wrap64 (a9 + a19)), ())
        else
          if (decide (a5 = 0)) = true then
            if (decide (a15 > 0)) = true then
              some (a0, a1, r3.1, a3, a4, (wrap64 (a5 + a15)), (mn a16 a16), (mx a17 a17), (wrap64 (a8 + a18)), (wrap64 (a9 + a19)), ())
            else
              some (a0, a1, r3.1, a3, a4, (wrap64 (a5 + a15)), a16, a17, (wrap64 (a8 + a18)), (wrap64 (a9 + a19)), ())
          else
            if (decide (a15 > 0)) = true then
              some (a0, a1, r3.1, a3, a4, (wrap64 (a5 + a15)), (mn a6 a16), (mx a7 a17), (wrap64 (a8 + a18)), (wrap64 (a9 + a19)), ())
            else
              some (a0, a1, r3.1, a3, a4, (wrap64 (a5 + a15)), a6, a7, (wrap64 (a8 + a18)), (wrap64 (a9 + a19)), ())
noncomputable def c26 (n : Nat) : Con := ⟨[.agg [(.str), (.int .i64), (.int .i64), (.bool), (.int .i64), (.int .i64), (.int .i64), (.int .i64), (.int .i64), (.int .i64)], .agg [(.str), (.int .i64), (.int .i64), (.bool), (.int .i64), (.int .i64), (.int .i64), (.int .i64), (.int .i64), (.int .i64)]], [], [.agg [(.str), (.int .i64), (.int .i64), (.bool), (.int .i64), (.int .i64), (.int .i64), (.int .i64), (.int .i64), (.int .i64)]], [], fun (x : ByteArray × Int × Int × Bool × Int × Int × Int × Int × Int × Int × ByteArray × Int × Int × Bool × Int × Int × Int × Int × Int × Int × Unit) => F26 n x.1 x.2.1 x.2.2.1 x.2.2.2.1 x.2.2.2.2.1 x.2.2.2.2.2.1 x.2.2.2.2.2.2.1 x.2.2.2.2.2.2.2.1 x.2.2.2.2.2.2.2.2.1 x.2.2.2.2.2.2.2.2.2.1 x.2.2.2.2.2.2.2.2.2.2.1 x.2.2.2.2.2.2.2.2.2.2.2.1 x.2.2.2.2.2.2.2.2.2.2.2.2.1 x.2.2.2.2.2.2.2.2.2.2.2.2.2.1 x.2.2.2.2.2.2.2.2.2.2.2.2.2.2.1 x.2.2.2.2.2.2.2.2.2.2.2.2.2.2.2.1 x.2.2.2.2.2.2.2.2.2.2.2.2.2.2.2.2.1 x.2.2.2.2.2.2.2.2.2.2.2.2.2.2.2.2.2.1 x.2.2.2.2.2.2.2.2.2.2.2.2.2.2.2.2.2.2.1 x.2.2.2.2.2.2.2.2.2.2.2.2.2.2.2.2.2.2.2.1⟩
noncomputable def G26 (n : Nat) : Gam := [((62, []), c62 n)]
theorem e26 (n : Nat) (x : ByteArray × Int × Int × Bool × Int × Int × Int × Int × Int × Int × ByteArray × Int × Int × Bool × Int × Int × Int × Int × Int × Int × Unit) : evBody tab (G26 n) n (c26 n) Try.f26 x = F26 n x.1 x.2.1 x.2.2.1 x.2.2.2.1 x.2.2.2.2.1 x.2.2.2.2.2.1 x.2.2.2.2.2.2.1 x.2.2.2.2.2.2.2.1 x.2.2.2.2.2.2.2.2.1 x.2.2.2.2.2.2.2.2.2.1 x.2.2.2.2.2.2.2.2.2.2.1 x.2.2.2.2.2.2.2.2.2.2.2.1 x.2.2.2.2.2.2.2.2.2.2.2.2.1 x.2.2.2.2.2.2.2.2.2.2.2.2.2.1 x.2.2.2.2.2.2.2.2.2.2.2.2.2.2.1 x.2.2.2.2.2.2.2.2.2.2.2.2.2.2.2.1 x.2.2.2.2.2.2.2.2.2.2.2.2.2.2.2.2.1 x.2.2.2.2.2.2.2.2.2.2.2.2.2.2.2.2.2.1 x.2.2.2.2.2.2.2.2.2.2.2.2.2.2.2.2.2.2.1 x.2.2.2.2.2.2.2.2.2.2.2.2.2.2.2.2.2.2.2.1 := by kernel_rfl
theorem g26 (W : World) (n : Nat) : Good Try.prog W 26 (c26 n) := body_good follows tabOk (GamOk.cons (g62 W n) GamOk.nil) (f := 26) (fn := Try.f26) (c := bodyOf Try.f26) (by kernel_rfl) (by kernel_rfl) (by kernel_rfl) (by kernel_rfl) (by kernel_rfl) (by kernel_rfl) (by kernel_rfl) (fun x r h => ⟨n, (e26 n x).trans h⟩)
/-! spec.TotalIn -/
noncomputable def st22_1 (n : Nat) (g0 : (List (List (ByteArray × (Int × (Int × (Bool × (Int × (Int × (Int × (Int × (Int × Int))))))))))) → ByteArray → Int → ByteArray → Int → Int → Bool → Int → Int → Int → Int → Int → Int → ByteArray → Int → Int → Bool → Int → Int → Int → Int → Int → Int → Option (ByteArray × Int × Int × Bool × Int × Int × Int × Int × Int × Int × Unit)) (g1 : (List (List (ByteArray × (Int × (Int × (Bool × (Int × (Int × (Int × (Int × (Int × Int))))))))))) → ByteArray → Int → Int → ByteArray → Int → Int → Bool → Int → Int → Int → Int → Int → Int → ByteArray → Int → Int → Bool → Int → Int → Int → Int → Int → Int → Option (ByteArray × Int × Int × Bool × Int × Int × Int × Int × Int × Int × Unit)) (l0 : List (List (ByteArray × (Int × (Int × (Bool × (Int × (Int × (Int × (Int × (Int × Int))))))))))) (s1 : ByteArray) (i2 : Int) (i3 : Int) (s4 : ByteArray) (i5 : Int) (i6 : Int) (b7 : Bool) (i8 : Int) (i9 : Int) (i10 : Int) (i11 : Int) (i12 : Int) (i13 : Int) (s14 : ByteArray) (i15 : Int) (i16 : Int) (b17 : Bool) (i18 : Int) (i19 : Int) (i20 : Int) (i21 : Int) (i22 : Int) (i23 : Int) : Option (ByteArray × Int × Int × Bool × Int × Int × Int × Int × Int × Int × Unit) :=
  if (decide (0 ≤ i2)) = true then
  if (decide (i2 < (l0.length : Int))) = true then
  if (decide (i3 < ((rdOf ([] : List (ByteArray × (Int × (Int × (Bool × (Int × (Int × (Int × (Int × (Int × Int)))))))))) l0 i2).length : Int))) = true then
    if (decide (0 ≤ i2)) = true then
    if (decide (i2 < (l0.length : Int))) = true then
    if (decide (0 ≤ i3)) = true then
    if (decide (i3 < ((rdOf ([] : List (ByteArray × (Int × (Int × (Bool × (Int × (Int × (Int × (Int × (Int × Int)))))))))) l0 i2).length : Int))) = true then
    if (decide (((rdOf ((⟨#[]⟩ : ByteArray), ((0 : Int), ((0 : Int), (false, ((0 : Int), ((0 : Int), ((0 : Int), ((0 : Int), ((0 : Int), (0 : Int)))))))))) (rdOf ([] : List (ByteArray × (Int × (Int × (Bool × (Int × (Int × (Int × (Int × (Int × Int)))))))))) l0 i2) i3).1).toList = s1.toList)) = true then
      if (decide (0 ≤ i2)) = true then
      if (decide (i2 < (l0.length : Int))) = true then
      if (decide (0 ≤ i3)) = true then
      if (decide (i3 < ((rdOf ([] : List (ByteArray × (Int × (Int × (Bool × (Int × (Int × (Int × (Int × (Int × Int)))))))))) l0 i2).length : Int))) = true then
      (F26 n s14 i15 i16 b17 i18 i19 i20 i21 i22 i23 ((rdOf ((⟨#[]⟩ : ByteArray), ((0 : Int), ((0 : Int), (false, ((0 : Int), ((0 : Int), ((0 : Int), ((0 : Int), ((0 : Int), (0 : Int)))))))))) (rdOf ([] : List (ByteArray × (Int × (Int × (Bool × (Int × (Int × (Int × (Int × (Int × Int)))))))))) l0 i2) i3).1) (((rdOf ((⟨#[]⟩ : ByteArray), ((0 : Int), ((0 : Int), (false, ((0 : Int), ((0 : Int), ((0 : Int), ((0 : Int), ((0 : Int), (0 : Int)))))))))) (rdOf ([] : List (ByteArray × (Int × (Int × (Bool × (Int × (Int × (Int × (Int × (Int × Int)))))))))) l0 i2) i3).2).1) ((((rdOf ((⟨#[]⟩ : ByteArray), ((0 : Int), ((0 : Int), (false, ((0 : Int), ((0 : Int), ((0 : Int), ((0 : Int), ((0 : Int), (0 : Int)))))))))) (rdOf ([] : List (ByteArray × (Int × (Int × (Bool × (Int × (Int × (Int × (Int × (Int × Int)))))))))) l0 i2) i3).2).2).1) (((((rdOf ((⟨#[]⟩ : ByteArray), ((0 : Int), ((0 : Int), (false, ((0 : Int), ((0 : Int), ((0 : Int), ((0 : Int), ((0 : Int), (0 : Int)))))))))) (rdOf ([] : List (ByteArray × (Int × (Int × (Bool × (Int × (Int × (Int × (Int × (Int × Int)))))))))) l0 i2) i3).2).2).2).1) ((((((rdOf ((⟨#[]⟩ : ByteArray), ((0 : Int), ((0 : Int), (false, ((0 : Int), ((0 : Int), ((0 : Int), ((0 : Int), ((0 : Int), (0 : Int)))))))))) (rdOf ([] : List (ByteArray × (Int × (Int × (Bool × (Int × (Int × (Int × (Int × (Int × Int)))))))))) l0 i2) i3).2).2).2).2).1) (((((((rdOf ((⟨#[]⟩ : ByteArray), ((0 : Int), ((0 : Int), (false, ((0 : Int), ((0 : Int), ((0 : Int), ((0 : Int), ((0 : Int), (0 : Int)))))))))) (rdOf ([] : List (ByteArray × (Int × (Int × (Bool × (Int × (Int × (Int × (Int × (Int × Int)))))))))) l0 i2) i3).2).2).2).2).2).1) ((((((((rdOf ((⟨#[]⟩ : ByteArray), ((0 : Int), ((0 : Int), (false, ((0 : Int), ((0 : Int), ((0 : Int), ((0 : Int), ((0 : Int), (0 : Int)))))))))) (rdOf ([] : List (ByteArray × (Int × (Int × (Bool × (Int × (Int × (Int × (Int × (Int × Int)))))))))) l0 i2) i3).2).2).2).2).2).2).1) (((((((((rdOf ((⟨#[]⟩ : ByteArray), ((0 : Int), ((0 : Int), (false, ((0 : Int), ((0 : Int), ((0 : Int), ((0 : Int), ((0 : Int), (0 : Int)))))))))) (rdOf ([] : List (ByteArray × (Int × (Int × (Bool × (Int × (Int × (Int × (Int × (Int × Int)))))))))) l0 i2) i3).2).2).2).2).2).2).2).1) ((((((((((rdOf ((⟨#[]⟩ : ByteArray), ((0 : Int), ((0 : Int), (false, ((0 : Int), ((0 : Int), ((0 : Int), ((0 : Int), ((0 : Int), (0 : Int)))))))))) (rdOf ([] : List (ByteArray × (Int × (Int × (Bool × (Int × (Int × (Int × (Int × (Int × Int)))))))))) l0 i2) i3).2).2).2).2).2).2).2).2).1) ((((((((((rdOf ((⟨#[]⟩ : ByteArray), ((0 : Int), ((0 : Int), (false, ((0 : Int), ((0 : Int), ((0 : Int), ((0 : Int), ((0 : Int), (0 : Int)))))))))) (rdOf ([] : List (ByteArray × (Int × (Int × (Bool × (Int × (Int × (Int × (Int × (Int × Int)))))))))) l0 i2) i3).2).2).2).2).2).2).2).2).2)).bind fun r1 =>
      g1 l0 s1 i2 (wrap64 (i3 + 1)) s4 i5 i6 b7 i8 i9 i10 i11 i12 i13 r1.1 r1.2.1 r1.2.2.1 r1.2.2.2.1 r1.2.2.2.2.1 r1.2.2.2.2.2.1 r1.2.2.2.2.2.2.1 r1.2.2.2.2.2.2.2.1 r1.2.2.2.2.2.2.2.2.1 r1.2.2.2.2.2.2.2.2.2.1
      else none
      else none
      else none
      else none
    else
      g1 l0 s1 i2 (wrap64 (i3 + 1)) s4 i5 i6 b7 i8 i9 i10 i11 i12 i13 s14 i15 i16 b17 i18 i19 i20 i21 i22 i23
    else none
    else none
    else none
    else none
  else
    g0 l0 s1 (wrap64 (i2 + 1)) s4 i5 i6 b7 i8 i9 i10 i11 i12 i13 s14 i15 i16 b17 i18 i19 i20 i21 i22 i23
  else none
  else none
noncomputable def lp22_1 (n : Nat) (g0 : (List (List (ByteArray × (Int × (Int × (Bool × (Int × (Int × (Int × (Int × (Int × Int))))))))))) → ByteArray → Int → ByteArray → Int → Int → Bool → Int → Int → Int → Int → Int → Int → ByteArray → Int → Int → Bool → Int → Int → Int → Int → Int → Int → Option (ByteArray × Int × Int × Bool × Int × Int × Int × Int × Int × Int × Unit)) : Nat → (List (List (ByteArray × (Int × (Int × (Bool × (Int × (Int × (Int × (Int × (Int × Int))))))))))) → ByteArray → Int → Int → ByteArray → Int → Int → Bool → Int → Int → Int → Int → Int → Int → ByteArray → Int → Int → Bool → Int → Int → Int → Int → Int → Int → Option (ByteArray × Int × Int × Bool × Int × Int × Int × Int × Int × Int × Unit)
  | 0 => fun _ _ _ _ _ _ _ _ _ _ _ _ _ _ _ _ _ _ _ _ _ _ _ _ => none
  | k + 1 => st22_1 n g0 (lp22_1 n g0 k)
noncomputable def st22_0 (n : Nat) (h1 : (List (List (ByteArray × (Int × (Int × (Bool × (Int × (Int × (Int × (Int × (Int × Int))))))))))) → ByteArray → Int → Int → ByteArray → Int → Int → Bool → Int → Int → Int → Int → Int → Int → ByteArray → Int → Int → Bool → Int → Int → Int → Int → Int → Int → Option (ByteArray × Int × Int × Bool × Int × Int × Int × Int × Int × Int × Unit)) (g0 : (List (List (ByteArray × (Int × (Int × (Bool × (Int × (Int × (Int × (Int × (Int × Int))))))))))) → ByteArray → Int → ByteArray → Int → Int → Bool → Int → Int → Int → Int → Int → Int → ByteArray → Int → Int → Bool → Int → Int → Int → Int → Int → Int → Option (ByteArray × Int × Int × Bool × Int × Int × Int × Int × Int × Int × Unit)) (l0 : List (List (ByteArray × (Int × (Int × (Bool × (Int × (Int × (Int × (Int × (Int × Int))))))))))) (s1 : ByteArray) (i2 : Int) (s3 : ByteArray) (i4 : Int) (i5 : Int) (b6 : Bool) (i7 : Int) (i8 : Int) (i9 : Int) (i10 : Int) (i11 : Int) (i12 : Int) (s13 : ByteArray) (i14 : Int) (i15 : Int) (b16 : Bool) (i17 : Int) (i18 : Int) (i19 : Int) (i20 : Int) (i21 : Int) (i22 : Int) : Option (ByteArray × Int × Int × Bool × Int × Int × Int × Int × Int × Int × Unit) :=
  if (decide (i2 < (l0.length : Int))) = true then
    h1 l0 s1 i2 (0 : Int) s3 i4 i5 b6 i7 i8 i9 i10 i11 i12 s13 i14 i15 b16 i17 i18 i19 i20 i21 i22
  else
    some (s13, i14, i15, b16, i17, i18, i19, i20, i21, i22, ())
noncomputable def lp22_0 (n : Nat) : Nat → (List (List (ByteArray × (Int × (Int × (Bool × (Int × (Int × (Int × (Int × (Int × Int))))))))))) → ByteArray → Int → ByteArray → Int → Int → Bool → Int → Int → Int → Int → Int → Int → ByteArray → Int → Int → Bool → Int → Int → Int → Int → Int → Int → Option (ByteArray × Int × Int × Bool × Int × Int × Int × Int × Int × Int × Unit)
  | 0 => fun _ _ _ _ _ _ _ _ _ _ _ _ _ _ _ _ _ _ _ _ _ _ _ => none
  | k + 1 => st22_0 n (lp22_1 n (lp22_0 n k) n) (lp22_0 n k)
noncomputable def st22 (n : Nat) (h0 : (List (List (ByteArray × (Int × (Int × (Bool × (Int × (Int × (Int × (Int × (Int × Int))))))))))) → ByteArray → Int → ByteArray → Int → Int → Bool → Int → Int → Int → Int → Int → Int → ByteArray → Int → Int → Bool → Int → Int → Int → Int → Int → Int → Option (ByteArray × Int × Int × Bool × Int × Int × Int × Int × Int × Int × Unit)) (a0 : List (List (ByteArray × (Int × (Int × (Bool × (Int × (Int × (Int × (Int × (Int × Int))))))))))) (a1 : ByteArray) : Option (ByteArray × Int × Int × Bool × Int × Int × Int × Int × Int × Int × Unit) :=
  h0 a0 a1 (0 : Int) (⟨#[]⟩ : ByteArray) (0 : Int) (0 : Int) false (0 : Int) (0 : Int) (0 : Int) (0 : Int) (0 : Int) (0 : Int) (⟨#[]⟩ : ByteArray) (0 : Int) (0 : Int) false (0 : Int) (0 : Int) (0 : Int) (0 : Int) (0 : Int) (0 : Int)
noncomputable def F22 (n : Nat) (a0 : List (List (ByteArray × (Int × (Int × (Bool × (Int × (Int × (Int × (Int × (Int × Int))))))))))) (a1 : ByteArray) : Option (ByteArray × Int × Int × Bool × Int × Int × Int × Int × Int × Int × Unit) := st22 n (lp22_0 n n) a0 a1
noncomputable def c22 (n : Nat) : Con := ⟨[.one (.sl (.imm true) 24 (.sl 30 (.pair .str (.pair (.int .i64) (.pair (.int .i64) (.pair .bool (.pair (.int .i64) (.pair (.int .i64) (.pair (.int .i64) (.pair (.int .i64) (.pair (.int .i64) (.int .i64)))))))))))), .one (.str)], [], [.agg [(.str), (.int .i64), (.int .i64), (.bool), (.int .i64), (.int .i64), (.int .i64), (.int .i64), (.int .i64), (.int .i64)]], [], fun (x : List (List (ByteArray × (Int × (Int × (Bool × (Int × (Int × (Int × (Int × (Int × Int)))))))))) × ByteArray × Unit) => F22 n x.1 x.2.1⟩
noncomputable def G22 (n : Nat) : Gam := [((26, []), c26 n)]
noncomputable def S22_1 (l0 : List (List (ByteArray × (Int × (Int × (Bool × (Int × (Int × (Int × (Int × (Int × Int))))))))))) (s1 : ByteArray) (i2 : Int) (i3 : Int) (s4 : ByteArray) (i5 : Int) (i6 : Int) (b7 : Bool) (i8 : Int) (i9 : Int) (i10 : Int) (i11 : Int) (i12 : Int) (i13 : Int) (s14 : ByteArray) (i15 : Int) (i16 : Int) (b17 : Bool) (i18 : Int) (i19 : Int) (i20 : Int) (i21 : Int) (i22 : Int) (i23 : Int) : St := ⟨[.sl (.imm true) 24 (.sl 30 (.pair .str (.pair (.int .i64) (.pair (.int .i64) (.pair .bool (.pair (.int .i64) (.pair (.int .i64) (.pair (.int .i64) (.pair (.int .i64) (.pair (.int .i64) (.int .i64))))))))))) l0, .str s1, .dead, .dead, .ptr 4 0, .ptr 5 0, .int .i64 i2, .int .i64 i3] ++ List.replicate 36 .dead, List.replicate 4 Ob.none ++ [⟨true, [.str s4, .int .i64 i5, .int .i64 i6, .bool b7, .int .i64 i8, .int .i64 i9, .int .i64 i10, .int .i64 i11, .int .i64 i12, .int .i64 i13], 0, 0⟩, ⟨true, [.str s14, .int .i64 i15, .int .i64 i16, .bool b17, .int .i64 i18, .int .i64 i19, .int .i64 i20, .int .i64 i21, .int .i64 i22, .int .i64 i23], 0, 0⟩] ++ List.replicate 38 Ob.none⟩
noncomputable def ga22_1 (n : Nat) (ks : List Nat) (k : Nat) (st : St) : Option (ByteArray × Int × Int × Bool × Int × Int × Int × Int × Int × Int × Unit) := goAt tab (G22 n) n (bodyOf Try.f22) (lvOf Try.f22) (lvOf Try.f22).ret [1, 1, 0, 1, 0, 0, 1, 0, 0, 1, 0] ks k st (evBody.endK tab (c22 n) Try.f22)
noncomputable def S22_0 (l0 : List (List (ByteArray × (Int × (Int × (Bool × (Int × (Int × (Int × (Int × (Int × Int))))))))))) (s1 : ByteArray) (i2 : Int) (s3 : ByteArray) (i4 : Int) (i5 : Int) (b6 : Bool) (i7 : Int) (i8 : Int) (i9 : Int) (i10 : Int) (i11 : Int) (i12 : Int) (s13 : ByteArray) (i14 : Int) (i15 : Int) (b16 : Bool) (i17 : Int) (i18 : Int) (i19 : Int) (i20 : Int) (i21 : Int) (i22 : Int) : St := ⟨[.sl (.imm true) 24 (.sl 30 (.pair .str (.pair (.int .i64) (.pair (.int .i64) (.pair .bool (.pair (.int .i64) (.pair (.int .i64) (.pair (.int .i64) (.pair (.int .i64) (.pair (.int .i64) (.int .i64))))))))))) l0, .str s1, .dead, .dead, .ptr 4 0, .ptr 5 0, .int .i64 i2] ++ List.replicate 37 .dead, List.replicate 4 Ob.none ++ [⟨true, [.str s3, .int .i64 i4, .int .i64 i5, .bool b6, .int .i64 i7, .int .i64 i8, .int .i64 i9, .int .i64 i10, .int .i64 i11, .int .i64 i12], 0, 0⟩, ⟨true, [.str s13, .int .i64 i14, .int .i64 i15, .bool b16, .int .i64 i17, .int .i64 i18, .int .i64 i19, .int .i64 i20, .int .i64 i21, .int .i64 i22], 0, 0⟩] ++ List.replicate 38 Ob.none⟩
noncomputable def ga22_0 (n : Nat) (ks : List Nat) (k : Nat) (st : St) : Option (ByteArray × Int × Int × Bool × Int × Int × Int × Int × Int × Int × Unit) := goAt tab (G22 n) n (bodyOf Try.f22) (lvOf Try.f22) (lvOf Try.f22).ret [1, 1, 0, 1, 0] ks k st (evBody.endK tab (c22 n) Try.f22)
theorem el22_1 (n : Nat) (k0 : Nat) : ∀ (k : Nat), ∀ (l0 : List (List (ByteArray × (Int × (Int × (Bool × (Int × (Int × (Int × (Int × (Int × Int))))))))))) (s1 : ByteArray) (i2 : Int) (i3 : Int) (s4 : ByteArray) (i5 : Int) (i6 : Int) (b7 : Bool) (i8 : Int) (i9 : Int) (i10 : Int) (i11 : Int) (i12 : Int) (i13 : Int) (s14 : ByteArray) (i15 : Int) (i16 : Int) (b17 : Bool) (i18 : Int) (i19 : Int) (i20 : Int) (i21 : Int) (i22 : Int) (i23 : Int), ga22_1 n [k0] k (S22_1 l0 s1 i2 i3 s4 i5 i6 b7 i8 i9 i10 i11 i12 i13 s14 i15 i16 b17 i18 i19 i20 i21 i22 i23) = lp22_1 n (fun w0 w1 w2 w3 w4 w5 w6 w7 w8 w9 w10 w11 w12 w13 w14 w15 w16 w17 w18 w19 w20 w21 w22 => ga22_0 n [] k0 (S22_0 w0 w1 w2 w3 w4 w5 w6 w7 w8 w9 w10 w11 w12 w13 w14 w15 w16 w17 w18 w19 w20 w21 w22)) k l0 s1 i2 i3 s4 i5 i6 b7 i8 i9 i10 i11 i12 i13 s14 i15 i16 b17 i18 i19 i20 i21 i22 i23 := by
  intro k
  induction k with
  | zero => intros; rfl
  | succ k ih =>
    intro l0 s1 i2 i3 s4 i5 i6 b7 i8 i9 i10 i11 i12 i13 s14 i15 i16 b17 i18 i19 i20 i21 i22 i23
    have h : ga22_1 n [k0] (k + 1) (S22_1 l0 s1 i2 i3 s4 i5 i6 b7 i8 i9 i10 i11 i12 i13 s14 i15 i16 b17 i18 i19 i20 i21 i22 i23) = st22_1 n (fun w0 w1 w2 w3 w4 w5 w6 w7 w8 w9 w10 w11 w12 w13 w14 w15 w16 w17 w18 w19 w20 w21 w22 => ga22_0 n [] k0 (S22_0 w0 w1 w2 w3 w4 w5 w6 w7 w8 w9 w10 w11 w12 w13 w14 w15 w16 w17 w18 w19 w20 w21 w22)) (fun w0 w1 w2 w3 w4 w5 w6 w7 w8 w9 w10 w11 w12 w13 w14 w15 w16 w17 w18 w19 w20 w21 w22 w23 => ga22_1 n [k0] k (S22_1 w0 w1 w2 w3 w4 w5 w6 w7 w8 w9 w10 w11 w12 w13 w14 w15 w16 w17 w18 w19 w20 w21 w22 w23)) l0 s1 i2 i3 s4 i5 i6 b7 i8 i9 i10 i11 i12 i13 s14 i15 i16 b17 i18 i19 i20 i21 i22 i23 := by kernel_rfl
    rw [h]
    have e : (fun w0 w1 w2 w3 w4 w5 w6 w7 w8 w9 w10 w11 w12 w13 w14 w15 w16 w17 w18 w19 w20 w21 w22 w23 => ga22_1 n [k0] k (S22_1 w0 w1 w2 w3 w4 w5 w6 w7 w8 w9 w10 w11 w12 w13 w14 w15 w16 w17 w18 w19 w20 w21 w22 w23)) = lp22_1 n (fun w0 w1 w2 w3 w4 w5 w6 w7 w8 w9 w10 w11 w12 w13 w14 w15 w16 w17 w18 w19 w20 w21 w22 => ga22_0 n [] k0 (S22_0 w0 w1 w2 w3 w4 w5 w6 w7 w8 w9 w10 w11 w12 w13 w14 w15 w16 w17 w18 w19 w20 w21 w22)) k := by
      funext w0 w1 w2 w3 w4 w5 w6 w7 w8 w9 w10 w11 w12 w13 w14 w15 w16 w17 w18 w19 w20 w21 w22 w23; exact ih w0 w1 w2 w3 w4 w5 w6 w7 w8 w9 w10 w11 w12 w13 w14 w15 w16 w17 w18 w19 w20 w21 w22 w23
    rw [e]
    rfl
theorem el22_0 (n : Nat) : ∀ (k : Nat), ∀ (l0 : List (List (ByteArray × (Int × (Int × (Bool × (Int × (Int × (Int × (Int × (Int × Int))))))))))) (s1 : ByteArray) (i2 : Int) (s3 : ByteArray) (i4 : Int) (i5 : Int) (b6 : Bool) (i7 : Int) (i8 : Int) (i9 : Int) (i10 : Int) (i11 : Int) (i12 : Int) (s13 : ByteArray) (i14 : Int) (i15 : Int) (b16 : Bool) (i17 : Int) (i18 : Int) (i19 : Int) (i20 : Int) (i21 : Int) (i22 : Int), ga22_0 n [] k (S22_0 l0 s1 i2 s3 i4 i5 b6 i7 i8 i9 i10 i11 i12 s13 i14 i15 b16 i17 i18 i19 i20 i21 i22) = lp22_0 n k l0 s1 i2 s3 i4 i5 b6 i7 i8 i9 i10 i11 i12 s13 i14 i15 b16 i17 i18 i19 i20 i21 i22 := by
  intro k
  induction k with
  | zero => intros; rfl
  | succ k ih =>
    intro l0 s1 i2 s3 i4 i5 b6 i7 i8 i9 i10 i11 i12 s13 i14 i15 b16 i17 i18 i19 i20 i21 i22
    have h : ga22_0 n [] (k + 1) (S22_0 l0 s1 i2 s3 i4 i5 b6 i7 i8 i9 i10 i11 i12 s13 i14 i15 b16 i17 i18 i19 i20 i21 i22) = st22_0 n (fun w0 w1 w2 w3 w4 w5 w6 w7 w8 w9 w10 w11 w12 w13 w14 w15 w16 w17 w18 w19 w20 w21 w22 w23 => ga22_1 n [k] n (S22_1 w0 w1 w2 w3 w4 w5 w6 w7 w8 w9 w10 w11 w12 w13 w14 w15 w16 w17 w18 w19 w20 w21 w22 w23)) (fun w0 w1 w2 w3 w4 w5 w6 w7 w8 w9 w10 w11 w12 w13 w14 w15 w16 w17 w18 w19 w20 w21 w22 => ga22_0 n [] k (S22_0 w0 w1 w2 w3 w4 w5 w6 w7 w8 w9 w10 w11 w12 w13 w14 w15 w16 w17 w18 w19 w20 w21 w22)) l0 s1 i2 s3 i4 i5 b6 i7 i8 i9 i10 i11 i12 s13 i14 i15 b16 i17 i18 i19 i20 i21 i22 := by kernel_rfl
    rw [h]
    have e1 : (fun w0 w1 w2 w3 w4 w5 w6 w7 w8 w9 w10 w11 w12 w13 w14 w15 w16 w17 w18 w19 w20 w21 w22 w23 => ga22_1 n [k] n (S22_1 w0 w1 w2 w3 w4 w5 w6 w7 w8 w9 w10 w11 w12 w13 w14 w15 w16 w17 w18 w19 w20 w21 w22 w23)) = lp22_1 n (fun w0 w1 w2 w3 w4 w5 w6 w7 w8 w9 w10 w11 w12 w13 w14 w15 w16 w17 w18 w19 w20 w21 w22 => ga22_0 n [] k (S22_0 w0 w1 w2 w3 w4 w5 w6 w7 w8 w9 w10 w11 w12 w13 w14 w15 w16 w17 w18 w19 w20 w21 w22)) n := by
      funext w0 w1 w2 w3 w4 w5 w6 w7 w8 w9 w10 w11 w12 w13 w14 w15 w16 w17 w18 w19 w20 w21 w22 w23; exact el22_1 n k n w0 w1 w2 w3 w4 w5 w6 w7 w8 w9 w10 w11 w12 w13 w14 w15 w16 w17 w18 w19 w20 w21 w22 w23
    have e : (fun w0 w1 w2 w3 w4 w5 w6 w7 w8 w9 w10 w11 w12 w13 w14 w15 w16 w17 w18 w19 w20 w21 w22 => ga22_0 n [] k (S22_0 w0 w1 w2 w3 w4 w5 w6 w7 w8 w9 w10 w11 w12 w13 w14 w15 w16 w17 w18 w19 w20 w21 w22)) = lp22_0 n k := by
      funext w0 w1 w2 w3 w4 w5 w6 w7 w8 w9 w10 w11 w12 w13 w14 w15 w16 w17 w18 w19 w20 w21 w22; exact ih w0 w1 w2 w3 w4 w5 w6 w7 w8 w9 w10 w11 w12 w13 w14 w15 w16 w17 w18 w19 w20 w21 w22
    rw [e1, e]
    rfl
theorem e22 (n : Nat) (x : List (List (ByteArray × (Int × (Int × (Bool × (Int × (Int × (Int × (Int × (Int × Int)))))))))) × ByteArray × Unit) : evBody tab (G22 n) n (c22 n) Try.f22 x = F22 n x.1 x.2.1 := by
  have h : evBody tab (G22 n) n (c22 n) Try.f22 x = st22 n (fun w0 w1 w2 w3 w4 w5 w6 w7 w8 w9 w10 w11 w12 w13 w14 w15 w16 w17 w18 w19 w20 w21 w22 => ga22_0 n [] n (S22_0 w0 w1 w2 w3 w4 w5 w6 w7 w8 w9 w10 w11 w12 w13 w14 w15 w16 w17 w18 w19 w20 w21 w22)) x.1 x.2.1 := by kernel_rfl
  rw [h]
  have e0 : (fun w0 w1 w2 w3 w4 w5 w6 w7 w8 w9 w10 w11 w12 w13 w14 w15 w16 w17 w18 w19 w20 w21 w22 => ga22_0 n [] n (S22_0 w0 w1 w2 w3 w4 w5 w6 w7 w8 w9 w10 w11 w12 w13 w14 w15 w16 w17 w18 w19 w20 w21 w22)) = lp22_0 n n := by
    funext w0 w1 w2 w3 w4 w5 w6 w7 w8 w9 w10 w11 w12 w13 w14 w15 w16 w17 w18 w19 w20 w21 w22; exact el22_0 n n w0 w1 w2 w3 w4 w5 w6 w7 w8 w9 w10 w11 w12 w13 w14 w15 w16 w17 w18 w19 w20 w21 w22
  rw [e0]
  rfl
theorem g22 (W : World) (n : Nat) : Good Try.prog W 22 (c22 n) := body_good follows tabOk (GamOk.cons (g26 W n) GamOk.nil) (f := 22) (fn := Try.f22) (c := bodyOf Try.f22) (by kernel_rfl) (by kernel_rfl) (by kernel_rfl) (by kernel_rfl) (by kernel_rfl) (by kernel_rfl) (by kernel_rfl) (fun x r h => ⟨n, (e22 n x).trans h⟩)
/-! spec.DrawMergeRow -/
noncomputable def F23 (n : Nat) (a0 : List Int) : Option (ByteArray × Int × Int × Bool × Int × Int × Int × Int × Int × Int × ByteArray × Int × Int × Bool × Int × Int × Int × Int × Int × Int × Unit) :=
  (F41 n a0).bind fun r1 =>
  (F59 n r1.2.1 r1.2.2.1 r1.2.2.2.1).bind fun r2 =>
  (F59 n r2.2.2.2.2.2.2.2.2.2.2.1 r2.2.2.2.2.2.2.2.2.2.2.2.1 r2.2.2.2.2.2.2.2.2.2.2.2.2.1).bind fun r3 =>
  (F60 n (3 : Int) r3.2.2.2.2.2.2.2.2.2.2.1 r3.2.2.2.2.2.2.2.2.2.2.2.1 r3.2.2.2.2.2.2.2.2.2.2.2.2.1).bind fun r4 =>
  if (!r4.1) = true then
    (F60 n (6 : Int) r4.2.1 r4.2.2.1 r4.2.2.2.1).bind fun r5 =>
    if r5.1 = true then
      some ((⟨#[]⟩ : ByteArray), 0, 0, false, 0, 0, 0, 0, 0, 0, r2.1, r3.2.1, r3.2.2.1, r3.2.2.2.1, r3.2.2.2.2.1, r3.2.2.2.2.2.1, r3.2.2.2.2.2.2.1, r3.2.2.2.2.2.2.2.1, r3.2.2.2.2.2.2.2.2.1, r3.2.2.2.2.2.2.2.2.2.1, ())
    else
      some (r2.1, r2.2.1, r2.2.2.1, r2.2.2.2.1, r2.2.2.2.2.1, r2.2.2.2.2.2.1, r2.2.2.2.2.2.2.1, r2.2.2.2.2.2.2.2.1, r2.2.2.2.2.2.2.2.2.1, r2.2.2.2.2.2.2.2.2.2.1, r2.1, r3.2.1, r3.2.2.1, r3.2.2.2.1, r3.2.2.2.2.1, r3.2.2.2.2.2.1, r3.2.2.2.2.2.2.1, r3.2.2.2.2.2.2.2.1, r3.2.2.2.2.2.2.2.2.1, r3.2.2.2.2.2.2.2.2.2.1, ())
  else
    (F60 n (6 : Int) r4.2.1 r4.2.2.1 r4.2.2.2.1).bind fun r6 =>
    if r6.1 = true then
      some ((⟨#[]⟩ : ByteArray), 0, 0, false, 0, 0, 0, 0, 0, 0, r3.1, r3.2.1, r3.2.2.1, r3.2.2.2.1, r3.2.2.2.2.1, r3.2.2.2.2.2.1, r3.2.2.2.2.2.2.1, r3.2.2.2.2.2.2.2.1, r3.2.2.2.2.2.2.2.2.1, r3.2.2.2.2.2.2.2.2.2.1, ())
    else
      some (r2.1, r2.2.1, r2.2.2.1, r2.2.2.2.1, r2.2.2.2.2.1, r2.2.2.2.2.2.1, r2.2.2.2.2.2.2.1, r2.2.2.2.2.2.2.2.1, r2.2.2.2.2.2.2.2.2.1, r2.2.2.2.2.2.2.2.2.2.1, r3.1, r3.2.1, r3.2.2.1, r3.2.2.2.1, r3.2.2.2.2.1, r3.2.2.2.2.2.1, r3.2.2.2.2.2.2.1, r3.2.2.2.2.2.2.2.1, r3.2.2.2.2.2.2.2.2.1, r3.2.2.2.2.2.2.2.2.2.1, ())
noncomputable def c23 (n : Nat) : Con := ⟨[.one (.sl (.imm false) 5 (.int .u8))], [], [.agg [(.str), (.int .i64), (.int .i64), (.bool), (.int .i64), (.int .i64), (.int .i64), (.int .i64), (.int .i64), (.int .i64)], .agg [(.str), (.int .i64), (.int .i64), (.bool), (.int .i64), (.int .i64), (.int .i64), (.int .i64), (.int .i64), (.int .i64)]], [], fun (x : List Int × Unit) => F23 n x.1⟩
noncomputable def G23 (n : Nat) : Gam := [((41, []), c41 n), ((59, []), c59 n), ((60, []), c60 n)]
theorem e23 (n : Nat) (x : List Int × Unit) : evBody tab (G23 n) n (c23 n) Try.f23 x = F23 n x.1 := by kernel_rfl
theorem g23 (W : World) (n : Nat) : Good Try.prog W 23 (c23 n) := body_good follows tabOk (GamOk.cons (g41 W n) (GamOk.cons (g59 W n) (GamOk.cons (g60 W n) GamOk.nil))) (f := 23) (fn := Try.f23) (c := bodyOf Try.f23) (by kernel_rfl) (by kernel_rfl) (by kernel_rfl) (by kernel_rfl) (by kernel_rfl) (by kernel_rfl) (by kernel_rfl) (fun x r h => ⟨n, (e23 n x).trans h⟩)
/-! spec.l8Put -/
noncomputable def j80_0 (n : Nat) (g0 : Bool → Int → (List (ByteArray × (Int × (Int × (Bool × (Int × (Int × (Int × (Int × (Int × Int)))))))))) → ByteArray → Int → Int → Bool → Int → Int → Int → Int → Int → Int → (List (ByteArray × (Int × (Int × (Bool × (Int × (Int × (Int × (Int × (Int × Int)))))))))) → Option (List (ByteArray × (Int × (Int × (Bool × (Int × (Int × (Int × (Int × (Int × Int))))))))) × Unit)) (b0 : Bool) (i1 : Int) (l2 : List (ByteArray × (Int × (Int × (Bool × (Int × (Int × (Int × (Int × (Int × Int)))))))))) (s3 : ByteArray) (i4 : Int) (i5 : Int) (b6 : Bool) (i7 : Int) (i8 : Int) (i9 : Int) (i10 : Int) (i11 : Int) (i12 : Int) (l13 : List (ByteArray × (Int × (Int × (Bool × (Int × (Int × (Int × (Int × (Int × Int)))))))))) : Option (List (ByteArray × (Int × (Int × (Bool × (Int × (Int × (Int × (Int × (Int × Int))))))))) × Unit) :=
  if (decide (0 ≤ i1)) = true then
  if (decide (i1 < (l2.length : Int))) = true then
  if (decide ((l13.length + ([((rdOf ((⟨#[]⟩ : ByteArray), ((0 : Int), ((0 : Int), (false, ((0 : Int), ((0 : Int), ((0 : Int), ((0 : Int), ((0 : Int), (0 : Int)))))))))) l2 i1).1, (((rdOf ((⟨#[]⟩ : ByteArray), ((0 : Int), ((0 : Int), (false, ((0 : Int), ((0 : Int), ((0 : Int), ((0 : Int), ((0 : Int), (0 : Int)))))))))) l2 i1).2).1, ((((rdOf ((⟨#[]⟩ : ByteArray), ((0 : Int), ((0 : Int), (false, ((0 : Int), ((0 : Int), ((0 : Int), ((0 : Int), ((0 : Int), (0 : Int)))))))))) l2 i1).2).2).1, (((((rdOf ((⟨#[]⟩ : ByteArray), ((0 : Int), ((0 : Int), (false, ((0 : Int), ((0 : Int), ((0 : Int), ((0 : Int), ((0 : Int), (0 : Int)))))))))) l2 i1).2).2).2).1, ((((((rdOf ((⟨#[]⟩ : ByteArray), ((0 : Int), ((0 : Int), (false, ((0 : Int), ((0 : Int), ((0 : Int), ((0 : Int), ((0 : Int), (0 : Int)))))))))) l2 i1).2).2).2).2).1, (((((((rdOf ((⟨#[]⟩ : ByteArray), ((0 : Int), ((0 : Int), (false, ((0 : Int), ((0 : Int), ((0 : Int), ((0 : Int), ((0 : Int), (0 : Int)))))))))) l2 i1).2).2).2).2).2).1, ((((((((rdOf ((⟨#[]⟩ : ByteArray), ((0 : Int), ((0 : Int), (false, ((0 : Int), ((0 : Int), ((0 : Int), ((0 : Int), ((0 : Int), (0 : Int)))))))))) l2 i1).2).2).2).2).2).2).1, (((((((((rdOf ((⟨#[]⟩ : ByteArray), ((0 : Int), ((0 : Int), (false, ((0 : Int), ((0 : Int), ((0 : Int), ((0 : Int), ((0 : Int), (0 : Int)))))))))) l2 i1).2).2).2).2).2).2).2).1, ((((((((((rdOf ((⟨#[]⟩ : ByteArray), ((0 : Int), ((0 : Int), (false, ((0 : Int), ((0 : Int), ((0 : Int), ((0 : Int), ((0 : Int), (0 : Int)))))))))) l2 i1).2).2).2).2).2).2).2).2).1, (((((((((rdOf ((⟨#[]⟩ : ByteArray), ((0 : Int), ((0 : Int), (false, ((0 : Int), ((0 : Int), ((0 : Int), ((0 : Int), ((0 : Int), (0 : Int)))))))))) l2 i1).2).2).2).2).2).2).2).2).2)))))))))] : List (ByteArray × (Int × (Int × (Bool × (Int × (Int × (Int × (Int × (Int × Int)))))))))).length) * 88 ≤ 140737488355328)) = true then
  g0 b0 (wrap64 (i1 + 1)) l2 s3 i4 i5 b6 i7 i8 i9 i10 i11 i12 (l13 ++ ([((rdOf ((⟨#[]⟩ : ByteArray), ((0 : Int), ((0 : Int), (false, ((0 : Int), ((0 : Int), ((0 : Int), ((0 : Int), ((0 : Int), (0 : Int)))))))))) l2 i1).1, (((rdOf ((⟨#[]⟩ : ByteArray), ((0 : Int), ((0 : Int), (false, ((0 : Int), ((0 : Int), ((0 : Int), ((0 : Int), ((0 : Int), (0 : Int)))))))))) l2 i1).2).1, ((((rdOf ((⟨#[]⟩ : ByteArray), ((0 : Int), ((0 : Int), (false, ((0 : Int), ((0 : Int), ((0 : Int), ((0 : Int), ((0 : Int), (0 : Int)))))))))) l2 i1).2).2).1, (((((rdOf ((⟨#[]⟩ : ByteArray), ((0 : Int), ((0 : Int), (false, ((0 : Int), ((0 : Int), ((0 : Int), ((0 : Int), ((0 : Int), (0 : Int)))))))))) l2 i1).2).2).2).1, ((((((rdOf ((⟨#[]⟩ : ByteArray), ((0 : Int), ((0 : Int), (false, ((0 : Int), ((0 : Int), ((0 : Int), ((0 : Int), ((0 : Int), (0 : Int)))))))))) l2 i1).2).2).2).2).1, (((((((rdOf ((⟨#[]⟩ : ByteArray), ((0 : Int), ((0 : Int), (false, ((0 : Int), ((0 : Int), ((0 : Int), ((0 : Int), ((0 : Int), (0 : Int)))))))))) l2 i1).2).2).2).2).2).1, ((((((((rdOf ((⟨#[]⟩ : ByteArray), ((0 : Int), ((0 : Int), (false, ((0 : Int), ((0 : Int), ((0 : Int), ((0 : Int), ((0 : Int), (0 : Int)))))))))) l2 i1).2).2).2).2).2).2).1, (((((((((rdOf ((⟨#[]⟩ : ByteArray), ((0 : Int), ((0 : Int), (false, ((0 : Int), ((0 : Int), ((0 : Int), ((0 : Int), ((0 : Int), (0 : Int)))))))))) l2 i1).2).2).2).2).2).2).2).1, ((((((((((rdOf ((⟨#[]⟩ : ByteArray), ((0 : Int), ((0 : Int), (false, ((0 : Int), ((0 : Int), ((0 : Int), ((0 : Int), ((0 : Int), (0 : Int)))))))))) l2 i1).2).2).2).2).2).2).2).2).1, (((((((((rdOf ((⟨#[]⟩ : ByteArray), ((0 : Int), ((0 : Int), (false, ((0 : Int), ((0 : Int), ((0 : Int), ((0 : Int), ((0 : Int), (0 : Int)))))))))) l2 i1).2).2).2).2).2).2).2).2).2)))))))))] : List (ByteArray × (Int × (Int × (Bool × (Int × (Int × (Int × (Int × (Int × Int)))))))))))
  else none
  else none
  else none
noncomputable def st80_0 (n : Nat) (g0 : Bool → Int → (List (ByteArray × (Int × (Int × (Bool × (Int × (Int × (Int × (Int × (Int × Int)))))))))) → ByteArray → Int → Int → Bool → Int → Int → Int → Int → Int → Int → (List (ByteArray × (Int × (Int × (Bool × (Int × (Int × (Int × (Int × (Int × Int)))))))))) → Option (List (ByteArray × (Int × (Int × (Bool × (Int × (Int × (Int × (Int × (Int × Int))))))))) × Unit)) (b0 : Bool) (i1 : Int) (l2 : List (ByteArray × (Int × (Int × (Bool × (Int × (Int × (Int × (Int × (Int × Int)))))))))) (s3 : ByteArray) (i4 : Int) (i5 : Int) (b6 : Bool) (i7 : Int) (i8 : Int) (i9 : Int) (i10 : Int) (i11 : Int) (i12 : Int) (l13 : List (ByteArray × (Int × (Int × (Bool × (Int × (Int × (Int × (Int × (Int × Int)))))))))) : Option (List (ByteArray × (Int × (Int × (Bool × (Int × (Int × (Int × (Int × (Int × Int))))))))) × Unit) :=
  if (decide (i1 < (l2.length : Int))) = true then
    if (decide (0 ≤ i1)) = true then
    if (decide (i1 < (l2.length : Int))) = true then
    if (decide (((rdOf ((⟨#[]⟩ : ByteArray), ((0 : Int), ((0 : Int), (false, ((0 : Int), ((0 : Int), ((0 : Int), ((0 : Int), ((0 : Int), (0 : Int)))))))))) l2 i1).1).toList = s3.toList)) = true then
      some (l2, ())
    else
      if (!b0) = true then
        if (decide (0 ≤ i1)) = true then
        if (decide (i1 < (l2.length : Int))) = true then
        if (!(Op.bytesLess ((rdOf ((⟨#[]⟩ : ByteArray), ((0 : Int), ((0 : Int), (false, ((0 : Int), ((0 : Int), ((0 : Int), ((0 : Int), ((0 : Int), (0 : Int)))))))))) l2 i1).1).toList s3.toList || decide (((rdOf ((⟨#[]⟩ : ByteArray), ((0 : Int), ((0 : Int), (false, ((0 : Int), ((0 : Int), ((0 : Int), ((0 : Int), ((0 : Int), (0 : Int)))))))))) l2 i1).1).toList = s3.toList))) = true then
          if (decide ((l13.length + ([(s3, (i4, (i5, (b6, (i7, (i8, (i9, (i10, (i11, i12)))))))))] : List (ByteArray × (Int × (Int × (Bool × (Int × (Int × (Int × (Int × (Int × Int)))))))))).length) * 88 ≤ 140737488355328)) = true then
          if (decide (0 ≤ i1)) = true then
          if (decide (i1 < (l2.length : Int))) = true then
          if (decide (((l13 ++ ([(s3, (i4, (i5, (b6, (i7, (i8, (i9, (i10, (i11, i12)))))))))] : List (ByteArray × (Int × (Int × (Bool × (Int × (Int × (Int × (Int × (Int × Int))))))))))).length + ([((rdOf ((⟨#[]⟩ : ByteArray), ((0 : Int), ((0 : Int), (false, ((0 : Int), ((0 : Int), ((0 : Int), ((0 : Int), ((0 : Int), (0 : Int)))))))))) l2 i1).1, (((rdOf ((⟨#[]⟩ : ByteArray), ((0 : Int), ((0 : Int), (false, ((0 : Int), ((0 : Int), ((0 : Int), ((0 : Int), ((0 : Int), (0 : Int)))))))))) l2 i1).2).1, ((((rdOf ((⟨#[]⟩ : ByteArray), ((0 : Int), ((0 : Int), (false, ((0 : Int), ((0 : Int), ((0 : Int), ((0 : Int), ((0 : Int), (0 : Int)))))))))) l2 i1).2).2).1, (((((rdOf ((⟨#[]⟩ : ByteArray), ((0 : Int), ((0 : Int), (false, ((0 : Int), ((0 : Int), ((0 : Int), ((0 : Int), ((0 : Int), (0 : Int)))))))))) l2 i1).2).2).2).1, ((((((rdOf ((⟨#[]⟩ : ByteArray), ((0 : Int), ((0 : Int), (false, ((0 : Int), ((0 : Int), ((0 : Int), ((0 : Int), ((0 : Int), (0 : Int)))))))))) l2 i1).2).2).2).2).1, (((((((rdOf ((⟨#[]⟩ : ByteArray), ((0 : Int), ((0 : Int), (false, ((0 : Int), ((0 : Int), ((0 : Int), ((0 : Int), ((0 : Int), (0 : Int)))))))))) l2 i1).2).2).2).2).2).1, ((((((((rdOf ((⟨#[]⟩ : ByteArray), ((0 : Int), ((0 : Int), (false, ((0 : Int), ((0 : Int), ((0 : Int), ((0 : Int), ((0 : Int), (0 : Int)))))))))) l2 i1).2).2).2).2).2).2).1, (((((((((rdOf ((⟨#[]⟩ : ByteArray), ((0 : Int), ((0 : Int), (false, ((0 : Int), ((0 : Int), ((0 : Int), ((0 : Int), ((0 : Int), (0 : Int)))))))))) l2 i1).2).2).2).2).2).2).2).1, ((((((((((rdOf ((⟨#[]⟩ : ByteArray), ((0 : Int), ((0 : Int), (false, ((0 : Int), ((0 : Int), ((0 : Int), ((0 : Int), ((0 : Int), (0 : Int)))))))))) l2 i1).2).2).2).2).2).2).2).2).1, (((((((((rdOf ((⟨#[]⟩ : ByteArray), ((0 : Int), ((0 : Int), (false, ((0 : Int), ((0 : Int), ((0 : Int), ((0 : Int), ((0 : Int), (0 : Int)))))))))) l2 i1).2).2).2).2).2).2).2).2).2)))))))))] : List (ByteArray × (Int × (Int × (Bool × (Int × (Int × (Int × (Int × (Int × Int)))))))))).length) * 88 ≤ 140737488355328)) = true then
          g0 true (wrap64 (i1 + 1)) l2 s3 i4 i5 b6 i7 i8 i9 i10 i11 i12 ((l13 ++ ([(s3, (i4, (i5, (b6, (i7, (i8, (i9, (i10, (i11, i12)))))))))] : List (ByteArray × (Int × (Int × (Bool × (Int × (Int × (Int × (Int × (Int × Int))))))))))) ++ ([((rdOf ((⟨#[]⟩ : ByteArray), ((0 : Int), ((0 : Int), (false, ((0 : Int), ((0 : Int), ((0 : Int), ((0 : Int), ((0 : Int), (0 : Int)))))))))) l2 i1).1, (((rdOf ((⟨#[]⟩ : ByteArray), ((0 : Int), ((0 : Int), (false, ((0 : Int), ((0 : Int), ((0 : Int), ((0 : Int), ((0 : Int), (0 : Int)))))))))) l2 i1).2).1, ((((rdOf ((⟨#[]⟩ : ByteArray), ((0 : Int), ((0 : Int), (false, ((0 : Int), ((0 : Int), ((0 : Int), ((0 : Int), ((0 : Int), (0 : Int)))))))))) l2 i1).2).2).1, (((((rdOf ((⟨#[]⟩ : ByteArray), ((0 : Int), ((0 : Int), (false, ((0 : Int), ((0 : Int), ((0 : Int), ((0 : Int), ((0 : Int), (0 : Int)))))))))) l2 i1).2).2).2).1, ((((((rdOf ((⟨#[]⟩ : ByteArray), ((0 : Int), ((0 : Int), (false, ((0 : Int), ((0 : Int), ((0 : Int), ((0 : Int), ((0 : Int), (0 : Int)))))))))) l2 i1).2).2).2).2).1, (((((((rdOf ((⟨#[]⟩ : ByteArray), ((0 : Int), ((0 : Int), (false, ((0 : Int), ((0 : Int), ((0 : Int), ((0 : Int), ((0 : Int), (0 : Int)))))))))) l2 i1).2).2).2).2).2).1, ((((((((rdOf ((⟨#[]⟩ : ByteArray), ((0 : Int), ((0 : Int), (false, ((0 : Int), ((0 : Int), ((0 : Int), ((0 : Int), ((0 : Int), (0 : Int)))))))))) l2 i1).2).2).2).2).2).2).1, (((((((((rdOf ((⟨#[]⟩ : ByteArray), ((0 : Int), ((0 : Int), (false, ((0 : Int), ((0 : Int), ((0 : Int), ((0 : Int), ((0 : Int), (0 : Int)))))))))) l2 i1).2).2).2).2).2).2).2).1, ((((((((((rdOf ((⟨#[]⟩ : ByteArray), ((0 : Int), ((0 : Int), (false, ((0 : Int), ((0 : Int), ((0 : Int), ((0 : Int), ((0 : Int), (0 : Int)))))))))) l2 i1).2).2).2).2).2).2).2).2).1, (((((((((rdOf ((⟨#[]⟩ : ByteArray), ((0 : Int), ((0 : Int), (false, ((0 : Int), ((0 : Int), ((0 : Int), ((0 : Int), ((0 : Int), (0 : Int)))))))))) l2 i1).2).2).2).2).2).2).2).2).2)))))))))] : List (ByteArray × (Int × (Int × (Bool × (Int × (Int × (Int × (Int × (Int × Int)))))))))))
          else none
          else none
          else none
          else none
        else
          j80_0 n g0 b0 i1 l2 s3 i4 i5 b6 i7 i8 i9 i10 i11 i12 l13
        else none
        else none
      else
        j80_0 n g0 b0 i1 l2 s3 i4 i5 b6 i7 i8 i9 i10 i11 i12 l13
    else none
    else none
  else
    if (!b0) = true then
      if (decide ((l13.length + ([(s3, (i4, (i5, (b6, (i7, (i8, (i9, (i10, (i11, i12)))))))))] : List (ByteArray × (Int × (Int × (Bool × (Int × (Int × (Int × (Int × (Int × Int)))))))))).length) * 88 ≤ 140737488355328)) = true then
      some ((l13 ++ ([(s3, (i4, (i5, (b6, (i7, (i8, (i9, (i10, (i11, i12)))))))))] : List (ByteArray × (Int × (Int × (Bool × (Int × (Int × (Int × (Int × (Int × Int))))))))))), ())
      else none
    else
      some (l13, ())
noncomputable def lp80_0 (n : Nat) : Nat → Bool → Int → (List (ByteArray × (Int × (Int × (Bool × (Int × (Int × (Int × (Int × (Int × Int)))))))))) → ByteArray → Int → Int → Bool → Int → Int → Int → Int → Int → Int → (List (ByteArray × (Int × (Int × (Bool × (Int × (Int × (Int × (Int × (Int × Int)))))))))) → Option (List (ByteArray × (Int × (Int × (Bool × (Int × (Int × (Int × (Int × (Int × Int))))))))) × Unit)
  | 0 => fun _ _ _ _ _ _ _ _ _ _ _ _ _ _ => none
  | k + 1 => st80_0 n (lp80_0 n k)
noncomputable def st80 (n : Nat) (h0 : Bool → Int → (List (ByteArray × (Int × (Int × (Bool × (Int × (Int × (Int × (Int × (Int × Int)))))))))) → ByteArray → Int → Int → Bool → Int → Int → Int → Int → Int → Int → (List (ByteArray × (Int × (Int × (Bool × (Int × (Int × (Int × (Int × (Int × Int)))))))))) → Option (List (ByteArray × (Int × (Int × (Bool × (Int × (Int × (Int × (Int × (Int × Int))))))))) × Unit)) (a0 : List (ByteArray × (Int × (Int × (Bool × (Int × (Int × (Int × (Int × (Int × Int)))))))))) (a1 : ByteArray) (a2 : Int) (a3 : Int) (a4 : Bool) (a5 : Int) (a6 : Int) (a7 : Int) (a8 : Int) (a9 : Int) (a10 : Int) : Option (List (ByteArray × (Int × (Int × (Bool × (Int × (Int × (Int × (Int × (Int × Int))))))))) × Unit) :=
  h0 false (0 : Int) a0 a1 a2 a3 a4 a5 a6 a7 a8 a9 a10 ([] : List (ByteArray × (Int × (Int × (Bool × (Int × (Int × (Int × (Int × (Int × Int))))))))))
noncomputable def F80 (n : Nat) (a0 : List (ByteArray × (Int × (Int × (Bool × (Int × (Int × (Int × (Int × (Int × Int)))))))))) (a1 : ByteArray) (a2 : Int) (a3 : Int) (a4 : Bool) (a5 : Int) (a6 : Int) (a7 : Int) (a8 : Int) (a9 : Int) (a10 : Int) : Option (List (ByteArray × (Int × (Int × (Bool × (Int × (Int × (Int × (Int × (Int × Int))))))))) × Unit) := st80 n (lp80_0 n n) a0 a1 a2 a3 a4 a5 a6 a7 a8 a9 a10
noncomputable def c80 (n : Nat) : Con := ⟨[.one (.sl .own 30 (.pair .str (.pair (.int .i64) (.pair (.int .i64) (.pair .bool (.pair (.int .i64) (.pair (.int .i64) (.pair (.int .i64) (.pair (.int .i64) (.pair (.int .i64) (.int .i64))))))))))), .agg [(.str), (.int .i64), (.int .i64), (.bool), (.int .i64), (.int .i64), (.int .i64), (.int .i64), (.int .i64), (.int .i64)]], [], [.one (.sl .own 30 (.pair .str (.pair (.int .i64) (.pair (.int .i64) (.pair .bool (.pair (.int .i64) (.pair (.int .i64) (.pair (.int .i64) (.pair (.int .i64) (.pair (.int .i64) (.int .i64)))))))))))], [], fun (x : List (ByteArray × (Int × (Int × (Bool × (Int × (Int × (Int × (Int × (Int × Int))))))))) × ByteArray × Int × Int × Bool × Int × Int × Int × Int × Int × Int × Unit) => F80 n x.1 x.2.1 x.2.2.1 x.2.2.2.1 x.2.2.2.2.1 x.2.2.2.2.2.1 x.2.2.2.2.2.2.1 x.2.2.2.2.2.2.2.1 x.2.2.2.2.2.2.2.2.1 x.2.2.2.2.2.2.2.2.2.1 x.2.2.2.2.2.2.2.2.2.2.1⟩
noncomputable def G80 (n : Nat) : Gam := []
noncomputable def S80_0 (b0 : Bool) (i1 : Int) (l2 : List (ByteArray × (Int × (Int × (Bool × (Int × (Int × (Int × (Int × (Int × Int)))))))))) (s3 : ByteArray) (i4 : Int) (i5 : Int) (b6 : Bool) (i7 : Int) (i8 : Int) (i9 : Int) (i10 : Int) (i11 : Int) (i12 : Int) (l13 : List (ByteArray × (Int × (Int × (Bool × (Int × (Int × (Int × (Int × (Int × Int)))))))))) : St := ⟨[.sr 0 0 none 0 0 none, .dead, .dead, .ptr 3 0, .dead, .sr 5 0 none 0 0 none, .bool b0, .int .i64 i1] ++ List.replicate 46 .dead, [⟨false, [.sl .own 30 (.pair .str (.pair (.int .i64) (.pair (.int .i64) (.pair .bool (.pair (.int .i64) (.pair (.int .i64) (.pair (.int .i64) (.pair (.int .i64) (.pair (.int .i64) (.int .i64)))))))))) l2], 0, 0⟩, Ob.none, Ob.none, ⟨true, [.str s3, .int .i64 i4, .int .i64 i5, .bool b6, .int .i64 i7, .int .i64 i8, .int .i64 i9, .int .i64 i10, .int .i64 i11, .int .i64 i12], 0, 0⟩, Ob.none, ⟨false, [.sl .own 30 (.pair .str (.pair (.int .i64) (.pair (.int .i64) (.pair .bool (.pair (.int .i64) (.pair (.int .i64) (.pair (.int .i64) (.pair (.int .i64) (.pair (.int .i64) (.int .i64)))))))))) l13], 0, 0⟩] ++ List.replicate 48 Ob.none⟩
noncomputable def ga80_0 (n : Nat) (ks : List Nat) (k : Nat) (st : St) : Option (List (ByteArray × (Int × (Int × (Bool × (Int × (Int × (Int × (Int × (Int × Int))))))))) × Unit) := goAt tab (G80 n) n (bodyOf Try.f80) (lvOf Try.f80) (lvOf Try.f80).ret [1, 1, 1, 0, 1, 0] ks k st (evBody.endK tab (c80 n) Try.f80)
theorem el80_0 (n : Nat) : ∀ (k : Nat), ∀ (b0 : Bool) (i1 : Int) (l2 : List (ByteArray × (Int × (Int × (Bool × (Int × (Int × (Int × (Int × (Int × Int)))))))))) (s3 : ByteArray) (i4 : Int) (i5 : Int) (b6 : Bool) (i7 : Int) (i8 : Int) (i9 : Int) (i10 : Int) (i11 : Int) (i12 : Int) (l13 : List (ByteArray × (Int × (Int × (Bool × (Int × (Int × (Int × (Int × (Int × Int)))))))))), ga80_0 n [] k (S80_0 b0 i1 l2 s3 i4 i5 b6 i7 i8 i9 i10 i11 i12 l13) = lp80_0 n k b0 i1 l2 s3 i4 i5 b6 i7 i8 i9 i10 i11 i12 l13 := by
  intro k
  induction k with
  | zero => intros; rfl
  | succ k ih =>
    intro b0 i1 l2 s3 i4 i5 b6 i7 i8 i9 i10 i11 i12 l13
    have h : ga80_0 n [] (k + 1) (S80_0 b0 i1 l2 s3 i4 i5 b6 i7 i8 i9 i10 i11 i12 l13) = st80_0 n (fun w0 w1 w2 w3 w4 w5 w6 w7 w8 w9 w10 w11 w12 w13 => ga80_0 n [] k (S80_0 w0 w1 w2 w3 w4 w5 w6 w7 w8 w9 w10 w11 w12 w13)) b0 i1 l2 s3 i4 i5 b6 i7 i8 i9 i10 i11 i12 l13 := by kernel_rfl
    rw [h]
    have e : (fun w0 w1 w2 w3 w4 w5 w6 w7 w8 w9 w10 w11 w12 w13 => ga80_0 n [] k (S80_0 w0 w1 w2 w3 w4 w5 w6 w7 w8 w9 w10 w11 w12 w13)) = lp80_0 n k := by
      funext w0 w1 w2 w3 w4 w5 w6 w7 w8 w9 w10 w11 w12 w13; exact ih w0 w1 w2 w3 w4 w5 w6 w7 w8 w9 w10 w11 w12 w13
    rw [e]
    rfl
theorem e80 (n : Nat) (x : List (ByteArray × (Int × (Int × (Bool × (Int × (Int × (Int × (Int × (Int × Int))))))))) × ByteArray × Int × Int × Bool × Int × Int × Int × Int × Int × Int × Unit) : evBody tab (G80 n) n (c80 n) Try.f80 x = F80 n x.1 x.2.1 x.2.2.1 x.2.2.2.1 x.2.2.2.2.1 x.2.2.2.2.2.1 x.2.2.2.2.2.2.1 x.2.2.2.2.2.2.2.1 x.2.2.2.2.2.2.2.2.1 x.2.2.2.2.2.2.2.2.2.1 x.2.2.2.2.2.2.2.2.2.2.1 := by
  have h : evBody tab (G80 n) n (c80 n) Try.f80 x = st80 n (fun w0 w1 w2 w3 w4 w5 w6 w7 w8 w9 w10 w11 w12 w13 => ga80_0 n [] n (S80_0 w0 w1 w2 w3 w4 w5 w6 w7 w8 w9 w10 w11 w12 w13)) x.1 x.2.1 x.2.2.1 x.2.2.2.1 x.2.2.2.2.1 x.2.2.2.2.2.1 x.2.2.2.2.2.2.1 x.2.2.2.2.2.2.2.1 x.2.2.2.2.2.2.2.2.1 x.2.2.2.2.2.2.2.2.2.1 x.2.2.2.2.2.2.2.2.2.2.1 := by kernel_rfl
  rw [h]
  have e0 : (fun w0 w1 w2 w3 w4 w5 w6 w7 w8 w9 w10 w11 w12 w13 => ga80_0 n [] n (S80_0 w0 w1 w2 w3 w4 w5 w6 w7 w8 w9 w10 w11 w12 w13)) = lp80_0 n n := by
    funext w0 w1 w2 w3 w4 w5 w6 w7 w8 w9 w10 w11 w12 w13; exact el80_0 n n w0 w1 w2 w3 w4 w5 w6 w7 w8 w9 w10 w11 w12 w13
  rw [e0]
  rfl
theorem g80 (W : World) (n : Nat) : Good Try.prog W 80 (c80 n) := body_good follows tabOk GamOk.nil (f := 80) (fn := Try.f80) (c := bodyOf Try.f80) (by kernel_rfl) (by kernel_rfl) (by kernel_rfl) (by kernel_rfl) (by kernel_rfl) (by kernel_rfl) (by kernel_rfl) (fun x r h => ⟨n, (e80 n x).trans h⟩)
/-! spec.MergeReport -/
noncomputable def st61_1 (n : Nat) (g0 : (List (ByteArray × (Int × (Int × (Bool × (Int × (Int × (Int × (Int × (Int × Int)))))))))) → Int → (List (ByteArray × (Int × (Int × (Bool × (Int × (Int × (Int × (Int × (Int × Int)))))))))) → Option (List (ByteArray × (Int × (Int × (Bool × (Int × (Int × (Int × (Int × (Int × Int))))))))) × Unit)) (g1 : (List (ByteArray × (Int × (Int × (Bool × (Int × (Int × (Int × (Int × (Int × Int)))))))))) → Int → Bool → Int → (List (ByteArray × (Int × (Int × (Bool × (Int × (Int × (Int × (Int × (Int × Int)))))))))) → Option (List (ByteArray × (Int × (Int × (Bool × (Int × (Int × (Int × (Int × (Int × Int))))))))) × Unit)) (l0 : List (ByteArray × (Int × (Int × (Bool × (Int × (Int × (Int × (Int × (Int × Int)))))))))) (i1 : Int) (b2 : Bool) (i3 : Int) (l4 : List (ByteArray × (Int × (Int × (Bool × (Int × (Int × (Int × (Int × (Int × Int)))))))))) : Option (List (ByteArray × (Int × (Int × (Bool × (Int × (Int × (Int × (Int × (Int × Int))))))))) × Unit) :=
  if (decide (i3 < (l4.length : Int))) = true then
    if (!b2) = true then
      if (decide (0 ≤ i3)) = true then
      if (decide (i3 < (l4.length : Int))) = true then
      if (decide (0 ≤ i1)) = true then
      if (decide (i1 < (l0.length : Int))) = true then
      if (decide (((rdOf ((⟨#[]⟩ : ByteArray), ((0 : Int), ((0 : Int), (false, ((0 : Int), ((0 : Int), ((0 : Int), ((0 : Int), ((0 : Int), (0 : Int)))))))))) l4 i3).1).toList = ((rdOf ((⟨#[]⟩ : ByteArray), ((0 : Int), ((0 : Int), (false, ((0 : Int), ((0 : Int), ((0 : Int), ((0 : Int), ((0 : Int), (0 : Int)))))))))) l0 i1).1).toList)) = true then
        if (decide (0 ≤ i3)) = true then
        if (decide (i3 < (l4.length : Int))) = true then
        if (decide (0 ≤ i1)) = true then
        if (decide (i1 < (l0.length : Int))) = true then
        (F26 n ((rdOf ((⟨#[]⟩ : ByteArray), ((0 : Int), ((0 : Int), (false, ((0 : Int), ((0 : Int), ((0 : Int), ((0 : Int), ((0 : Int), (0 : Int)))))))))) l4 i3).1) (((rdOf ((⟨#[]⟩ : ByteArray), ((0 : Int), ((0 : Int), (false, ((0 : Int), ((0 : Int), ((0 : Int), ((0 : Int), ((0 : Int), (0 : Int)))))))))) l4 i3).2).1) ((((rdOf ((⟨#[]⟩ : ByteArray), ((0 : Int), ((0 : Int), (false, ((0 : Int), ((0 : Int), ((0 : Int), ((0 : Int), ((0 : Int), (0 : Int)))))))))) l4 i3).2).2).1) (((((rdOf ((⟨#[]⟩ : ByteArray), ((0 : Int), ((0 : Int), (false, ((0 : Int), ((0 : Int), ((0 : Int), ((0 : Int), ((0 : Int), (0 : Int)))))))))) l4 i3).2).2).2).1) ((((((rdOf ((⟨#[]⟩ : ByteArray), ((0 : Int), ((0 : Int), (false, ((0 : Int), ((0 : Int), ((0 : Int), ((0 : Int), ((0 : Int), (0 : Int)))))))))) l4 i3).2).2).2).2).1) (((((((rdOf ((⟨#[]⟩ : ByteArray), ((0 : Int), ((0 : Int), (false, ((0 : Int), ((0 : Int), ((0 : Int), ((0 : Int), ((0 : Int), (0 : Int)))))))))) l4 i3).2).2).2).2).2).1) ((((((((rdOf ((⟨#[]⟩ : ByteArray), ((0 : Int), ((0 : Int), (false, ((0 : Int), ((0 : Int), ((0 : Int), ((0 : Int), ((0 : Int), (0 : Int)))))))))) l4 i3).2).2).2).2).2).2).1) (((((((((rdOf ((⟨#[]⟩ : ByteArray), ((0 : Int), ((0 : Int), (false, ((0 : Int), ((0 : Int), ((0 : Int), ((0 : Int), ((0 : Int), (0 : Int)))))))))) l4 i3).2).2).2).2).2).2).2).1) ((((((((((rdOf ((⟨#[]⟩ : ByteArray), ((0 : Int), ((0 : Int), (false, ((0 : Int), ((0 : Int), ((0 : Int), ((0 : Int), ((0 : Int), (0 : Int)))))))))) l4 i3).2).2).2).2).2).2).2).2).1) ((((((((((rdOf ((⟨#[]⟩ : ByteArray), ((0 : Int), ((0 : Int), (false, ((0 : Int), ((0 : Int), ((0 : Int), ((0 : Int), ((0 : Int), (0 : Int)))))))))) l4 i3).2).2).2).2).2).2).2).2).2) ((rdOf ((⟨#[]⟩ : ByteArray), ((0 : Int), ((0 : Int), (false, ((0 : Int), ((0 : Int), ((0 : Int), ((0 : Int), ((0 : Int), (0 : Int)))))))))) l0 i1).1) (((rdOf ((⟨#[]⟩ : ByteArray), ((0 : Int), ((0 : Int), (false, ((0 : Int), ((0 : Int), ((0 : Int), ((0 : Int), ((0 : Int), (0 : Int)))))))))) l0 i1).2).1) ((((rdOf ((⟨#[]⟩ : ByteArray), ((0 : Int), ((0 : Int), (false, ((0 : Int), ((0 : Int), ((0 : Int), ((0 : Int), ((0 : Int), (0 : Int)))))))))) l0 i1).2).2).1) (((((rdOf ((⟨#[]⟩ : ByteArray), ((0 : Int), ((0 : Int), (false, ((0 : Int), ((0 : Int), ((0 : Int), ((0 : Int), ((0 : Int), (0 : Int)))))))))) l0 i1).2).2).2).1) ((((((rdOf ((⟨#[]⟩ : ByteArray), ((0 : Int), ((0 : Int), (false, ((0 : Int), ((0 : Int), ((0 : Int), ((0 : Int), ((0 : Int), (0 : Int)))))))))) l0 i1).2).2).2).2).1) (((((((rdOf ((⟨#[]⟩ : ByteArray), ((0 : Int), ((0 : Int), (false, ((0 : Int), ((0 : Int), ((0 : Int), ((0 : Int), ((0 : Int), (0 : Int)))))))))) l0 i1).2).2).2).2).2).1) ((((((((rdOf ((⟨#[]⟩ : ByteArray), ((0 : Int), ((0 : Int), (false, ((0 : Int), ((0 : Int), ((0 : Int), ((0 : Int), ((0 : Int), (0 : Int)))))))))) l0 i1).2).2).2).2).2).2).1) (((((((((rdOf ((⟨#[]⟩ : ByteArray), ((0 : Int), ((0 : Int), (false, ((0 : Int), ((0 : Int), ((0 : Int), ((0 : Int), ((0 : Int), (0 : Int)))))))))) l0 i1).2).2).2).2).2).2).2).1) ((((((((((rdOf ((⟨#[]⟩ : ByteArray), ((0 : Int), ((0 : Int), (false, ((0 : Int), ((0 : Int), ((0 : Int), ((0 : Int), ((0 : Int), (0 : Int)))))))))) l0 i1).2).2).2).2).2).2).2).2).1) ((((((((((rdOf ((⟨#[]⟩ : ByteArray), ((0 : Int), ((0 : Int), (false, ((0 : Int), ((0 : Int), ((0 : Int), ((0 : Int), ((0 : Int), (0 : Int)))))))))) l0 i1).2).2).2).2).2).2).2).2).2)).bind fun r1 =>
        if (decide (0 ≤ i3)) = true then
        if (decide (i3 < (l4.length : Int))) = true then
        g1 l0 i1 true (wrap64 (i3 + 1)) (l4.set i3.toNat (r1.1, (r1.2.1, (r1.2.2.1, (r1.2.2.2.1, (r1.2.2.2.2.1, (r1.2.2.2.2.2.1, (r1.2.2.2.2.2.2.1, (r1.2.2.2.2.2.2.2.1, (r1.2.2.2.2.2.2.2.2.1, r1.2.2.2.2.2.2.2.2.2.1))))))))))
        else none
        else none
        else none
        else none
        else none
        else none
      else
        g1 l0 i1 b2 (wrap64 (i3 + 1)) l4
      else none
      else none
      else none
      else none
    else
      if (!b2) = true then
        if (decide (0 ≤ i1)) = true then
        if (decide (i1 < (l0.length : Int))) = true then
        (F80 n l4 ((rdOf ((⟨#[]⟩ : ByteArray), ((0 : Int), ((0 : Int), (false, ((0 : Int), ((0 : Int), ((0 : Int), ((0 : Int), ((0 : Int), (0 : Int)))))))))) l0 i1).1) (((rdOf ((⟨#[]⟩ : ByteArray), ((0 : Int), ((0 : Int), (false, ((0 : Int), ((0 : Int), ((0 : Int), ((0 : Int), ((0 : Int), (0 : Int)))))))))) l0 i1).2).1) ((((rdOf ((⟨#[]⟩ : ByteArray), ((0 : Int), ((0 : Int), (false, ((0 : Int), ((0 : Int), ((0 : Int), ((0 : Int), ((0 : Int), (0 : Int)))))))))) l0 i1).2).2).1) (((((rdOf ((⟨#[]⟩ : ByteArray), ((0 : Int), ((0 : Int), (false, ((0 : Int), ((0 : Int), ((0 : Int), ((0 : Int), ((0 : Int), (0 : Int)))))))))) l0 i1).2).2).2).1) ((((((rdOf ((⟨#[]⟩ : ByteArray), ((0 : Int), ((0 : Int), (false, ((0 : Int), ((0 : Int), ((0 : Int), ((0 : Int), ((0 : Int), (0 : Int)))))))))) l0 i1).2).2).2).2).1) (((((((rdOf ((⟨#[]⟩ : ByteArray), ((0 : Int), ((0 : Int), (false, ((0 : Int), ((0 : Int), ((0 : Int), ((0 : Int), ((0 : Int), (0 : Int)))))))))) l0 i1).2).2).2).2).2).1) ((((((((rdOf ((⟨#[]⟩ : ByteArray), ((0 : Int), ((0 : Int), (false, ((0 : Int), ((0 : Int), ((0 : Int), ((0 : Int), ((0 : Int), (0 : Int)))))))))) l0 i1).2).2).2).2).2).2).1) (((((((((rdOf ((⟨#[]⟩ : ByteArray), ((0 : Int), ((0 : Int), (false, ((0 : Int), ((0 : Int), ((0 : Int), ((0 : Int), ((0 : Int), (0 : Int)))))))))) l0 i1).2).2).2).2).2).2).2).1) ((((((((((rdOf ((⟨#[]⟩ : ByteArray), ((0 : Int), ((0 : Int), (false, ((0 : Int), ((0 : Int), ((0 : Int), ((0 : Int), ((0 : Int), (0 : Int)))))))))) l0 i1).2).2).2).2).2).2).2).2).1) ((((((((((rdOf ((⟨#[]⟩ : ByteArray), ((0 : Int), ((0 : Int), (false, ((0 : Int), ((0 : Int), ((0 : Int), ((0 : Int), ((0 : Int), (0 : Int)))))))))) l0 i1).2).2).2).2).2).2).2).2).2)).bind fun r2 =>
        g0 l0 (wrap64 (i1 + 1)) r2.1
        else none
        else none
      else
        g0 l0 (wrap64 (i1 + 1)) l4
  else
    if (!b2) = true then
      if (decide (0 ≤ i1)) = true then
      if (decide (i1 < (l0.length : Int))) = true then
      (F80 n l4 ((rdOf ((⟨#[]⟩ : ByteArray), ((0 : Int), ((0 : Int), (false, ((0 : Int), ((0 : Int), ((0 : Int), ((0 : Int), ((0 : Int), (0 : Int)))))))))) l0 i1).1) (((rdOf ((⟨#[]⟩ : ByteArray), ((0 : Int), ((0 : Int), (false, ((0 : Int), ((0 : Int), ((0 : Int), ((0 : Int), ((0 : Int), (0 : Int)))))))))) l0 i1).2).1) ((((rdOf ((⟨#[]⟩ : ByteArray), ((0 : Int), ((0 : Int), (false, ((0 : Int), ((0 : Int), ((0 : Int), ((0 : Int), ((0 : Int), (0 : Int)))))))))) l0 i1).2).2).1) (((((rdOf ((⟨#[]⟩ : ByteArray), ((0 : Int), ((0 : Int), (false, ((0 : Int), ((0 : Int), ((0 : Int), ((0 : Int), ((0 : Int), (0 : Int)))))))))) l0 i1).2).2).2).1) ((((((rdOf ((⟨#[]⟩ : ByteArray), ((0 : Int), ((0 : Int), (false, ((0 : Int), ((0 : Int), ((0 : Int), ((0 : Int), ((0 : Int), (0 : Int)))))))))) l0 i1).2).2).2).2).1) (((((((rdOf ((⟨#[]⟩ : ByteArray), ((0 : Int), ((0 : Int), (false, ((0 : Int), ((0 : Int), ((0 : Int), ((0 : Int), ((0 : Int), (0 : Int)))))))))) l0 i1).2).2).2).2).2).1) ((((((((rdOf ((⟨#[]⟩ : ByteArray), ((0 : Int), ((0 : Int), (false, ((0 : Int), ((0 : Int), ((0 : Int), ((0 : Int), ((0 : Int), (0 : Int)))))))))) l0 i1).2).2).2).2).2).2).1) (((((((((rdOf ((⟨#[]⟩ : ByteArray), ((0 : Int), ((0 : Int), (false, ((0 : Int), ((0 : Int), ((0 : Int), ((0 : Int), ((0 : Int), (0 : Int)))))))))) l0 i1).2).2).2).2).2).2).2).1) ((((((((((rdOf ((⟨#[]⟩ : ByteArray), ((0 : Int), ((0 : Int), (false, ((0 : Int), ((0 : Int), ((0 : Int), ((0 : Int), ((0 : Int), (0 : Int)))))))))) l0 i1).2).2).2).2).2).2).2).2).1) ((((((((((rdOf ((⟨#[]⟩ : ByteArray), ((0 : Int), ((0 : Int), (false, ((0 : Int), ((0 : Int), ((0 : Int), ((0 : Int), ((0 : Int), (0 : Int)))))))))) l0 i1).2).2).2).2).2).2).2).2).2)).bind fun r3 =>
      g0 l0 (wrap64 (i1 + 1)) r3.1
      else none
      else none
    else
      g0 l0 (wrap64 (i1 + 1)) l4
noncomputable def lp61_1 (n : Nat) (g0 : (List (ByteArray × (Int × (Int × (Bool × (Int × (Int × (Int × (Int × (Int × Int)))))))))) → Int → (List (ByteArray × (Int × (Int × (Bool × (Int × (Int × (Int × (Int × (Int × Int)))))))))) → Option (List (ByteArray × (Int × (Int × (Bool × (Int × (Int × (Int × (Int × (Int × Int))))))))) × Unit)) : Nat → (List (ByteArray × (Int × (Int × (Bool × (Int × (Int × (Int × (Int × (Int × Int)))))))))) → Int → Bool → Int → (List (ByteArray × (Int × (Int × (Bool × (Int × (Int × (Int × (Int × (Int × Int)))))))))) → Option (List (ByteArray × (Int × (Int × (Bool × (Int × (Int × (Int × (Int × (Int × Int))))))))) × Unit)
  | 0 => fun _ _ _ _ _ => none
  | k + 1 => st61_1 n g0 (lp61_1 n g0 k)
noncomputable def st61_0 (n : Nat) (h1 : (List (ByteArray × (Int × (Int × (Bool × (Int × (Int × (Int × (Int × (Int × Int)))))))))) → Int → Bool → Int → (List (ByteArray × (Int × (Int × (Bool × (Int × (Int × (Int × (Int × (Int × Int)))))))))) → Option (List (ByteArray × (Int × (Int × (Bool × (Int × (Int × (Int × (Int × (Int × Int))))))))) × Unit)) (g0 : (List (ByteArray × (Int × (Int × (Bool × (Int × (Int × (Int × (Int × (Int × Int)))))))))) → Int → (List (ByteArray × (Int × (Int × (Bool × (Int × (Int × (Int × (Int × (Int × Int)))))))))) → Option (List (ByteArray × (Int × (Int × (Bool × (Int × (Int × (Int × (Int × (Int × Int))))))))) × Unit)) (l0 : List (ByteArray × (Int × (Int × (Bool × (Int × (Int × (Int × (Int × (Int × Int)))))))))) (i1 : Int) (l2 : List (ByteArray × (Int × (Int × (Bool × (Int × (Int × (Int × (Int × (Int × Int)))))))))) : Option (List (ByteArray × (Int × (Int × (Bool × (Int × (Int × (Int × (Int × (Int × Int))))))))) × Unit) :=
  if (decide (i1 < (l0.length : Int))) = true then
    h1 l0 i1 false (0 : Int) l2
  else
    some (l2, ())
noncomputable def lp61_0 (n : Nat) : Nat → (List (ByteArray × (Int × (Int × (Bool × (Int × (Int × (Int × (Int × (Int × Int)))))))))) → Int → (List (ByteArray × (Int × (Int × (Bool × (Int × (Int × (Int × (Int × (Int × Int)))))))))) → Option (List (ByteArray × (Int × (Int × (Bool × (Int × (Int × (Int × (Int × (Int × Int))))))))) × Unit)
  | 0 => fun _ _ _ => none
  | k + 1 => st61_0 n (lp61_1 n (lp61_0 n k) n) (lp61_0 n k)
noncomputable def st61 (n : Nat) (h0 : (List (ByteArray × (Int × (Int × (Bool × (Int × (Int × (Int × (Int × (Int × Int)))))))))) → Int → (List (ByteArray × (Int × (Int × (Bool × (Int × (Int × (Int × (Int × (Int × Int)))))))))) → Option (List (ByteArray × (Int × (Int × (Bool × (Int × (Int × (Int × (Int × (Int × Int))))))))) × Unit)) (a0 : List (ByteArray × (Int × (Int × (Bool × (Int × (Int × (Int × (Int × (Int × Int)))))))))) (a1 : List (ByteArray × (Int × (Int × (Bool × (Int × (Int × (Int × (Int × (Int × Int)))))))))) : Option (List (ByteArray × (Int × (Int × (Bool × (Int × (Int × (Int × (Int × (Int × Int))))))))) × Unit) :=
  if (decide ((([] : List (ByteArray × (Int × (Int × (Bool × (Int × (Int × (Int × (Int × (Int × Int)))))))))).length + a0.length) * 88 ≤ 140737488355328)) = true then
  h0 a1 (0 : Int) (([] : List (ByteArray × (Int × (Int × (Bool × (Int × (Int × (Int × (Int × (Int × Int)))))))))) ++ a0)
  else none
noncomputable def F61 (n : Nat) (a0 : List (ByteArray × (Int × (Int × (Bool × (Int × (Int × (Int × (Int × (Int × Int)))))))))) (a1 : List (ByteArray × (Int × (Int × (Bool × (Int × (Int × (Int × (Int × (Int × Int)))))))))) : Option (List (ByteArray × (Int × (Int × (Bool × (Int × (Int × (Int × (Int × (Int × Int))))))))) × Unit) := st61 n (lp61_0 n n) a0 a1
noncomputable def c61 (n : Nat) : Con := ⟨[.one (.sl (.imm true) 30 (.pair .str (.pair (.int .i64) (.pair (.int .i64) (.pair .bool (.pair (.int .i64) (.pair (.int .i64) (.pair (.int .i64) (.pair (.int .i64) (.pair (.int .i64) (.int .i64))))))))))), .one (.sl (.imm true) 30 (.pair .str (.pair (.int .i64) (.pair (.int .i64) (.pair .bool (.pair (.int .i64) (.pair (.int .i64) (.pair (.int .i64) (.pair (.int .i64) (.pair (.int .i64) (.int .i64)))))))))))], [], [.one (.sl .own 30 (.pair .str (.pair (.int .i64) (.pair (.int .i64) (.pair .bool (.pair (.int .i64) (.pair (.int .i64) (.pair (.int .i64) (.pair (.int .i64) (.pair (.int .i64) (.int .i64)))))))))))], [], fun (x : List (ByteArray × (Int × (Int × (Bool × (Int × (Int × (Int × (Int × (Int × Int))))))))) × List (ByteArray × (Int × (Int × (Bool × (Int × (Int × (Int × (Int × (Int × Int))))))))) × Unit) => F61 n x.1 x.2.1⟩
noncomputable def G61 (n : Nat) : Gam := [((26, []), c26 n), ((80, []), c80 n)]
noncomputable def S61_1 (l0 : List (ByteArray × (Int × (Int × (Bool × (Int × (Int × (Int × (Int × (Int × Int)))))))))) (i1 : Int) (b2 : Bool) (i3 : Int) (l4 : List (ByteArray × (Int × (Int × (Bool × (Int × (Int × (Int × (Int × (Int × Int)))))))))) : St := ⟨[.dead, .sl (.imm true) 30 (.pair .str (.pair (.int .i64) (.pair (.int .i64) (.pair .bool (.pair (.int .i64) (.pair (.int .i64) (.pair (.int .i64) (.pair (.int .i64) (.pair (.int .i64) (.int .i64)))))))))) l0, .dead, .dead, .dead, .sr 5 0 none 0 0 none, .int .i64 i1, .bool b2, .int .i64 i3] ++ List.replicate 51 .dead, List.replicate 5 Ob.none ++ [⟨false, [.sl .own 30 (.pair .str (.pair (.int .i64) (.pair (.int .i64) (.pair .bool (.pair (.int .i64) (.pair (.int .i64) (.pair (.int .i64) (.pair (.int .i64) (.pair (.int .i64) (.int .i64)))))))))) l4], 0, 0⟩] ++ List.replicate 54 Ob.none⟩
noncomputable def ga61_1 (n : Nat) (ks : List Nat) (k : Nat) (st : St) : Option (List (ByteArray × (Int × (Int × (Bool × (Int × (Int × (Int × (Int × (Int × Int))))))))) × Unit) := goAt tab (G61 n) n (bodyOf Try.f61) (lvOf Try.f61) (lvOf Try.f61).ret [1, 1, 0, 1, 0, 0, 1, 0, 0, 1, 0, 1, 0] ks k st (evBody.endK tab (c61 n) Try.f61)
noncomputable def S61_0 (l0 : List (ByteArray × (Int × (Int × (Bool × (Int × (Int × (Int × (Int × (Int × Int)))))))))) (i1 : Int) (l2 : List (ByteArray × (Int × (Int × (Bool × (Int × (Int × (Int × (Int × (Int × Int)))))))))) : St := ⟨[.dead, .sl (.imm true) 30 (.pair .str (.pair (.int .i64) (.pair (.int .i64) (.pair .bool (.pair (.int .i64) (.pair (.int .i64) (.pair (.int .i64) (.pair (.int .i64) (.pair (.int .i64) (.int .i64)))))))))) l0, .dead, .dead, .dead, .sr 5 0 none 0 0 none, .int .i64 i1] ++ List.replicate 53 .dead, List.replicate 5 Ob.none ++ [⟨false, [.sl .own 30 (.pair .str (.pair (.int .i64) (.pair (.int .i64) (.pair .bool (.pair (.int .i64) (.pair (.int .i64) (.pair (.int .i64) (.pair (.int .i64) (.pair (.int .i64) (.int .i64)))))))))) l2], 0, 0⟩] ++ List.replicate 54 Ob.none⟩
noncomputable def ga61_0 (n : Nat) (ks : List Nat) (k : Nat) (st : St) : Option (List (ByteArray × (Int × (Int × (Bool × (Int × (Int × (Int × (Int × (Int × Int))))))))) × Unit) := goAt tab (G61 n) n (bodyOf Try.f61) (lvOf Try.f61) (lvOf Try.f61).ret [1, 1, 0, 1, 0] ks k st (evBody.endK tab (c61 n) Try.f61)
theorem el61_1 (n : Nat) (k0 : Nat) : ∀ (k : Nat), ∀ (l0 : List (ByteArray × (Int × (Int × (Bool × (Int × (Int × (Int × (Int × (Int × Int)))))))))) (i1 : Int) (b2 : Bool) (i3 : Int) (l4 : List (ByteArray × (Int × (Int × (Bool × (Int × (Int × (Int × (Int × (Int × Int)))))))))), ga61_1 n [k0] k (S61_1 l0 i1 b2 i3 l4) = lp61_1 n (fun w0 w1 w2 => ga61_0 n [] k0 (S61_0 w0 w1 w2)) k l0 i1 b2 i3 l4 := by
  intro k
  induction k with
  | zero => intros; rfl
  | succ k ih =>
    intro l0 i1 b2 i3 l4
    have h : ga61_1 n [k0] (k + 1) (S61_1 l0 i1 b2 i3 l4) = st61_1 n (fun w0 w1 w2 => ga61_0 n [] k0 (S61_0 w0 w1 w2)) (fun w0 w1 w2 w3 w4 => ga61_1 n [k0] k (S61_1 w0 w1 w2 w3 w4)) l0 i1 b2 i3 l4 := by kernel_rfl
    rw [h]
    have e : (fun w0 w1 w2 w3 w4 => ga61_1 n [k0] k (S61_1 w0 w1 w2 w3 w4)) = lp61_1 n (fun w0 w1 w2 => ga61_0 n [] k0 (S61_0 w0 w1 w2)) k := by
      funext w0 w1 w2 w3 w4; exact ih w0 w1 w2 w3 w4
    rw [e]
    rfl
theorem el61_0 (n : Nat) : ∀ (k : Nat), ∀ (l0 : List (ByteArray × (Int × (Int × (Bool × (Int × (Int × (Int × (Int × (Int × Int)))))))))) (i1 : Int) (l2 : List (ByteArray × (Int × (Int × (Bool × (Int × (Int × (Int × (Int × (Int × Int)))))))))), ga61_0 n [] k (S61_0 l0 i1 l2) = lp61_0 n k l0 i1 l2 := by
  intro k
  induction k with
  | zero => intros; rfl
  | succ k ih =>
    intro l0 i1 l2
    have h : ga61_0 n [] (k + 1) (S61_0 l0 i1 l2) = st61_0 n (fun w0 w1 w2 w3 w4 => ga61_1 n [k] n (S61_1 w0 w1 w2 w3 w4)) (fun w0 w1 w2 => ga61_0 n [] k (S61_0 w0 w1 w2)) l0 i1 l2 := by kernel_rfl
    rw [h]
    have e1 : (fun w0 w1 w2 w3 w4 => ga61_1 n [k] n (S61_1 w0 w1 w2 w3 w4)) = lp61_1 n (fun w0 w1 w2 => ga61_0 n [] k (S61_0 w0 w1 w2)) n := by
      funext w0 w1 w2 w3 w4; exact el61_1 n k n w0 w1 w2 w3 w4
    have e : (fun w0 w1 w2 => ga61_0 n [] k (S61_0 w0 w1 w2)) = lp61_0 n k := by
      funext w0 w1 w2; exact ih w0 w1 w2
    rw [e1, e]
    rfl
theorem e61 (n : Nat) (x : List (ByteArray × (Int × (Int × (Bool × (Int × (Int × (Int × (Int × (Int × Int))))))))) × List (ByteArray × (Int × (Int × (Bool × (Int × (Int × (Int × (Int × (Int × Int))))))))) × Unit) : evBody tab (G61 n) n (c61 n) Try.f61 x = F61 n x.1 x.2.1 := by
  have h : evBody tab (G61 n) n (c61 n) Try.f61 x = st61 n (fun w0 w1 w2 => ga61_0 n [] n (S61_0 w0 w1 w2)) x.1 x.2.1 := by kernel_rfl
  rw [h]
  have e0 : (fun w0 w1 w2 => ga61_0 n [] n (S61_0 w0 w1 w2)) = lp61_0 n n := by
    funext w0 w1 w2; exact el61_0 n n w0 w1 w2
  rw [e0]
  rfl
theorem g61 (W : World) (n : Nat) : Good Try.prog W 61 (c61 n) := body_good follows tabOk (GamOk.cons (g26 W n) (GamOk.cons (g80 W n) GamOk.nil)) (f := 61) (fn := Try.f61) (c := bodyOf Try.f61) (by kernel_rfl) (by kernel_rfl) (by kernel_rfl) (by kernel_rfl) (by kernel_rfl) (by kernel_rfl) (by kernel_rfl) (fun x r h => ⟨n, (e61 n x).trans h⟩)
end Go.Eva
end
section
/- The functions, as their texts evaluate. -/
set_option linter.unusedVariables false
set_option maxRecDepth 100000
namespace Go.Eva
open Go.Proofs
open Go.RowKit (wrap64)
/-! spec.Overall -/
noncomputable def st25_0 (n : Nat) (g0 : (List (List (ByteArray × (Int × (Int × (Bool × (Int × (Int × (Int × (Int × (Int × Int))))))))))) → Int → (List (ByteArray × (Int × (Int × (Bool × (Int × (Int × (Int × (Int × (Int × Int)))))))))) → Option (List (ByteArray × (Int × (Int × (Bool × (Int × (Int × (Int × (Int × (Int × Int))))))))) × Unit)) (l0 : List (List (ByteArray × (Int × (Int × (Bool × (Int × (Int × (Int × (Int × (Int × Int))))))))))) (i1 : Int) (l2 : List (ByteArray × (Int × (Int × (Bool × (Int × (Int × (Int × (Int × (Int × Int)))))))))) : Option (List (ByteArray × (Int × (Int × (Bool × (Int × (Int × (Int × (Int × (Int × Int))))))))) × Unit) :=
  if (decide (i1 < (l0.length : Int))) = true then
    if (decide (0 ≤ i1)) = true then
    if (decide (i1 < (l0.length : Int))) = true then
    (F61 n l2 (rdOf ([] : List (ByteArray × (Int × (Int × (Bool × (Int × (Int × (Int × (Int × (Int × Int)))))))))) l0 i1)).bind fun r1 =>
    g0 l0 (wrap64 (i1 + 1)) r1.1
    else none
    else none
  else
    some (l2, ())
noncomputable def lp25_0 (n : Nat) : Nat → (List (List (ByteArray × (Int × (Int × (Bool × (Int × (Int × (Int × (Int × (Int × Int))))))))))) → Int → (List (ByteArray × (Int × (Int × (Bool × (Int × (Int × (Int × (Int × (Int × Int)))))))))) → Option (List (ByteArray × (Int × (Int × (Bool × (Int × (Int × (Int × (Int × (Int × Int))))))))) × Unit)
  | 0 => fun _ _ _ => none
  | k + 1 => st25_0 n (lp25_0 n k)
noncomputable def st25 (n : Nat) (h0 : (List (List (ByteArray × (Int × (Int × (Bool × (Int × (Int × (Int × (Int × (Int × Int))))))))))) → Int → (List (ByteArray × (Int × (Int × (Bool × (Int × (Int × (Int × (Int × (Int × Int)))))))))) → Option (List (ByteArray × (Int × (Int × (Bool × (Int × (Int × (Int × (Int × (Int × Int))))))))) × Unit)) (a0 : List (List (ByteArray × (Int × (Int × (Bool × (Int × (Int × (Int × (Int × (Int × Int))))))))))) : Option (List (ByteArray × (Int × (Int × (Bool × (Int × (Int × (Int × (Int × (Int × Int))))))))) × Unit) :=
  h0 a0 (0 : Int) ([] : List (ByteArray × (Int × (Int × (Bool × (Int × (Int × (Int × (Int × (Int × Int))))))))))
noncomputable def F25 (n : Nat) (a0 : List (List (ByteArray × (Int × (Int × (Bool × (Int × (Int × (Int × (Int × (Int × Int))))))))))) : Option (List (ByteArray × (Int × (Int × (Bool × (Int × (Int × (Int × (Int × (Int × Int))))))))) × Unit) := st25 n (lp25_0 n n) a0
noncomputable def c25 (n : Nat) : Con := ⟨[.one (.sl (.imm true) 24 (.sl 30 (.pair .str (.pair (.int .i64) (.pair (.int .i64) (.pair .bool (.pair (.int .i64) (.pair (.int .i64) (.pair (.int .i64) (.pair (.int .i64) (.pair (.int .i64) (.int .i64))))))))))))], [], [.one (.sl .own 30 (.pair .str (.pair (.int .i64) (.pair (.int .i64) (.pair .bool (.pair (.int .i64) (.pair (.int .i64) (.pair (.int .i64) (.pair (.int .i64) (.pair (.int .i64) (.int .i64)))))))))))], [], fun (x : List (List (ByteArray × (Int × (Int × (Bool × (Int × (Int × (Int × (Int × (Int × Int)))))))))) × Unit) => F25 n x.1⟩
noncomputable def G25 (n : Nat) : Gam := [((61, []), c61 n)]
noncomputable def S25_0 (l0 : List (List (ByteArray × (Int × (Int × (Bool × (Int × (Int × (Int × (Int × (Int × Int))))))))))) (i1 : Int) (l2 : List (ByteArray × (Int × (Int × (Bool × (Int × (Int × (Int × (Int × (Int × Int)))))))))) : St := ⟨[.sl (.imm true) 24 (.sl 30 (.pair .str (.pair (.int .i64) (.pair (.int .i64) (.pair .bool (.pair (.int .i64) (.pair (.int .i64) (.pair (.int .i64) (.pair (.int .i64) (.pair (.int .i64) (.int .i64))))))))))) l0, .dead, .dead, .sr 3 0 none 0 0 none, .int .i64 i1] ++ List.replicate 14 .dead, [Ob.none, Ob.none, Ob.none, ⟨false, [.sl .own 30 (.pair .str (.pair (.int .i64) (.pair (.int .i64) (.pair .bool (.pair (.int .i64) (.pair (.int .i64) (.pair (.int .i64) (.pair (.int .i64) (.pair (.int .i64) (.int .i64)))))))))) l2], 0, 0⟩] ++ List.replicate 15 Ob.none⟩
noncomputable def ga25_0 (n : Nat) (ks : List Nat) (k : Nat) (st : St) : Option (List (ByteArray × (Int × (Int × (Bool × (Int × (Int × (Int × (Int × (Int × Int))))))))) × Unit) := goAt tab (G25 n) n (bodyOf Try.f25) (lvOf Try.f25) (lvOf Try.f25).ret [1, 1, 0, 1, 0] ks k st (evBody.endK tab (c25 n) Try.f25)
theorem el25_0 (n : Nat) : ∀ (k : Nat), ∀ (l0 : List (List (ByteArray × (Int × (Int × (Bool × (Int × (Int × (Int × (Int × (Int × Int))))))))))) (i1 : Int) (l2 : List (ByteArray × (Int × (Int × (Bool × (Int × (Int × (Int × (Int × (Int × Int)))))))))), ga25_0 n [] k (S25_0 l0 i1 l2) = lp25_0 n k l0 i1 l2 := by
  intro k
  induction k with
  | zero => intros; rfl
  | succ k ih =>
    intro l0 i1 l2
    have h : ga25_0 n [] (k + 1) (S25_0 l0 i1 l2) = st25_0 n (fun w0 w1 w2 => ga25_0 n [] k (S25_0 w0 w1 w2)) l0 i1 l2 := by kernel_rfl
    rw [h]
    have e : (fun w0 w1 w2 => ga25_0 n [] k (S25_0 w0 w1 w2)) = lp25_0 n k := by
      funext w0 w1 w2; exact ih w0 w1 w2
    rw [e]
    rfl
theorem e25 (n : Nat) (x : List (List (ByteArray × (Int × (Int × (Bool × (Int × (Int × (Int × (Int × (Int × Int)))))))))) × Unit) : evBody tab (G25 n) n (c25 n) Try.f25 x = F25 n x.1 := by
  have h : evBody tab (G25 n) n (c25 n) Try.f25 x = st25 n (fun w0 w1 w2 => ga25_0 n [] n (S25_0 w0 w1 w2)) x.1 := by kernel_rfl
  rw [h]
  have e0 : (fun w0 w1 w2 => ga25_0 n [] n (S25_0 w0 w1 w2)) = lp25_0 n n := by
    funext w0 w1 w2; exact el25_0 n n w0 w1 w2
  rw [e0]
  rfl
theorem g25 (W : World) (n : Nat) : Good Try.prog W 25 (c25 n) := body_good follows tabOk (GamOk.cons (g61 W n) GamOk.nil) (f := 25) (fn := Try.f25) (c := bodyOf Try.f25) (by kernel_rfl) (by kernel_rfl) (by kernel_rfl) (by kernel_rfl) (by kernel_rfl) (by kernel_rfl) (by kernel_rfl) (fun x r h => ⟨n, (e25 n x).trans h⟩)
/-! laws.big -/
noncomputable def F7 (n : Nat) (a0 : List Int) : Option (Bool × Unit) :=
  some (decide ((a0.length : Int) > 1048576), ())
noncomputable def c7 (n : Nat) : Con := ⟨[.one (.sl (.imm true) 5 (.int .u8))], [], [.one (.bool)], [], fun (x : List Int × Unit) => F7 n x.1⟩
noncomputable def G7 (n : Nat) : Gam := []
theorem e7 (n : Nat) (x : List Int × Unit) : evBody tab (G7 n) n (c7 n) Try.f7 x = F7 n x.1 := by kernel_rfl
theorem g7 (W : World) (n : Nat) : Good Try.prog W 7 (c7 n) := body_good follows tabOk GamOk.nil (f := 7) (fn := Try.f7) (c := bodyOf Try.f7) (by kernel_rfl) (by kernel_rfl) (by kernel_rfl) (by kernel_rfl) (by kernel_rfl) (by kernel_rfl) (by kernel_rfl) (fun x r h => ⟨n, (e7 n x).trans h⟩)
/-! laws.FnMerged -/
noncomputable def j4_0 (n : Nat) (g0 : (List Int) → Int → (List (List (ByteArray × (Int × (Int × (Bool × (Int × (Int × (Int × (Int × (Int × Int))))))))))) → (List (ByteArray × (Int × (Int × (Bool × (Int × (Int × (Int × (Int × (Int × Int)))))))))) → (List (ByteArray × (Int × (Int × (Bool × (Int × (Int × (Int × (Int × (Int × Int)))))))))) → (List ByteArray) → Option (Bool × Unit)) (l0 : List Int) (i1 : Int) (b2 : Bool) (l3 : List (List (ByteArray × (Int × (Int × (Bool × (Int × (Int × (Int × (Int × (Int × Int))))))))))) (l4 : List (ByteArray × (Int × (Int × (Bool × (Int × (Int × (Int × (Int × (Int × Int)))))))))) (l5 : List (ByteArray × (Int × (Int × (Bool × (Int × (Int × (Int × (Int × (Int × Int)))))))))) (l6 : List ByteArray) : Option (Bool × Unit) :=
  if b2 = true then
    some (false, ())
  else
    g0 l0 (wrap64 (i1 + 1)) l3 l4 l5 l6
noncomputable def st4_0 (n : Nat) (g0 : (List Int) → Int → (List (List (ByteArray × (Int × (Int × (Bool × (Int × (Int × (Int × (Int × (Int × Int))))))))))) → (List (ByteArray × (Int × (Int × (Bool × (Int × (Int × (Int × (Int × (Int × Int)))))))))) → (List (ByteArray × (Int × (Int × (Bool × (Int × (Int × (Int × (Int × (Int × Int)))))))))) → (List ByteArray) → Option (Bool × Unit)) (l0 : List Int) (i1 : Int) (l2 : List (List (ByteArray × (Int × (Int × (Bool × (Int × (Int × (Int × (Int × (Int × Int))))))))))) (l3 : List (ByteArray × (Int × (Int × (Bool × (Int × (Int × (Int × (Int × (Int × Int)))))))))) (l4 : List (ByteArray × (Int × (Int × (Bool × (Int × (Int × (Int × (Int × (Int × Int)))))))))) (l5 : List ByteArray) : Option (Bool × Unit) :=
  if (decide (i1 < (l5.length : Int))) = true then
    if (decide (0 ≤ i1)) = true then
    if (decide (i1 < (l5.length : Int))) = true then
    (F20 n l3 (rdOf (⟨#[]⟩ : ByteArray) l5 i1)).bind fun r8 =>
    if (decide (0 ≤ i1)) = true then
    if (decide (i1 < (l5.length : Int))) = true then
    (F21 n l2 (rdOf (⟨#[]⟩ : ByteArray) l5 i1)).bind fun r9 =>
    if (!r8.2.2.2.2.2.2.2.2.2.2.1) = true then
      if (!(decide (r9.1.toList = (⟨#[]⟩ : ByteArray).toList) && (decide (r9.2.1 = 0) && (decide (r9.2.2.1 = 0) && ((r9.2.2.2.1 == false) && (decide (r9.2.2.2.2.1 = 0) && (decide (r9.2.2.2.2.2.1 = 0) && (decide (r9.2.2.2.2.2.2.1 = 0) && (decide (r9.2.2.2.2.2.2.2.1 = 0) && (decide (r9.2.2.2.2.2.2.2.2.1 = 0) && (decide (r9.2.2.2.2.2.2.2.2.2.1 = 0) && true))))))))))) = true then
        some (false, ())
      else
        if r8.2.2.2.2.2.2.2.2.2.2.1 = true then
          if (!(decide (r8.1.toList = r9.1.toList) && (decide (r8.2.1 = r9.2.1) && (decide (r8.2.2.1 = r9.2.2.1) && ((r8.2.2.2.1 == r9.2.2.2.1) && (decide (r8.2.2.2.2.1 = r9.2.2.2.2.1) && (decide (r8.2.2.2.2.2.1 = r9.2.2.2.2.2.1) && (decide (r8.2.2.2.2.2.2.1 = r9.2.2.2.2.2.2.1) && (decide (r8.2.2.2.2.2.2.2.1 = r9.2.2.2.2.2.2.2.1) && (decide (r8.2.2.2.2.2.2.2.2.1 = r9.2.2.2.2.2.2.2.2.1) && (decide (r8.2.2.2.2.2.2.2.2.2.1 = r9.2.2.2.2.2.2.2.2.2.1) && true))))))))))) = true then
            some (false, ())
          else
            if (decide (0 ≤ i1)) = true then
            if (decide (i1 < (l5.length : Int))) = true then
            (F22 n l2 (rdOf (⟨#[]⟩ : ByteArray) l5 i1)).bind fun r10 =>
            j4_0 n g0 l0 i1 (!(decide (r9.1.toList = r10.1.toList) && (decide (r9.2.1 = r10.2.1) && (decide (r9.2.2.1 = r10.2.2.1) && ((r9.2.2.2.1 == r10.2.2.2.1) && (decide (r9.2.2.2.2.1 = r10.2.2.2.2.1) && (decide (r9.2.2.2.2.2.1 = r10.2.2.2.2.2.1) && (decide (r9.2.2.2.2.2.2.1 = r10.2.2.2.2.2.2.1) && (decide (r9.2.2.2.2.2.2.2.1 = r10.2.2.2.2.2.2.2.1) && (decide (r9.2.2.2.2.2.2.2.2.1 = r10.2.2.2.2.2.2.2.2.1) && (decide (r9.2.2.2.2.2.2.2.2.2.1 = r10.2.2.2.2.2.2.2.2.2.1) && true))))))))))) l2 l3 l4 l5
            else none
            else none
        else
          if (decide (0 ≤ i1)) = true then
          if (decide (i1 < (l5.length : Int))) = true then
          (F22 n l2 (rdOf (⟨#[]⟩ : ByteArray) l5 i1)).bind fun r11 =>
          j4_0 n g0 l0 i1 (!(decide (r9.1.toList = r11.1.toList) && (decide (r9.2.1 = r11.2.1) && (decide (r9.2.2.1 = r11.2.2.1) && ((r9.2.2.2.1 == r11.2.2.2.1) && (decide (r9.2.2.2.2.1 = r11.2.2.2.2.1) && (decide (r9.2.2.2.2.2.1 = r11.2.2.2.2.2.1) && (decide (r9.2.2.2.2.2.2.1 = r11.2.2.2.2.2.2.1) && (decide (r9.2.2.2.2.2.2.2.1 = r11.2.2.2.2.2.2.2.1) && (decide (r9.2.2.2.2.2.2.2.2.1 = r11.2.2.2.2.2.2.2.2.1) && (decide (r9.2.2.2.2.2.2.2.2.2.1 = r11.2.2.2.2.2.2.2.2.2.1) && true))))))))))) l2 l3 l4 l5
          else none
          else none
    else
      if r8.2.2.2.2.2.2.2.2.2.2.1 = true then
        if (!(decide (r8.1.toList = r9.1.toList) && (decide (r8.2.1 = r9.2.1) && (decide (r8.2.2.1 = r9.2.2.1) && ((r8.2.2.2.1 == r9.2.2.2.1) && (decide (r8.2.2.2.2.1 = r9.2.2.2.2.1) && (decide (r8.2.2.2.2.2.1 = r9.2.2.2.2.2.1) && (decide (r8.2.2.2.2.2.2.1 = r9.2.2.2.2.2.2.1) && (decide (r8.2.2.2.2.2.2.2.1 = r9.2.2.2.2.2.2.2.1) && (decide (r8.2.2.2.2.2.2.2.2.1 = r9.2.2.2.2.2.2.2.2.1) && (decide (r8.2.2.2.2.2.2.2.2.2.1 = r9.2.2.2.2.2.2.2.2.2.1) && true))))))))))) = true then
          some (false, ())
        else
          if (decide (0 ≤ i1)) = true then
          if (decide (i1 < (l5.length : Int))) = true then
          (F22 n l2 (rdOf (⟨#[]⟩ : ByteArray) l5 i1)).bind fun r12 =>
          j4_0 n g0 l0 i1 (!(decide (r9.1.toList = r12.1.toList) && (decide (r9.2.1 = r12.2.1) && (decide (r9.2.2.1 = r12.2.2.1) && ((r9.2.2.2.1 == r12.2.2.2.1) && (decide (r9.2.2.2.2.1 = r12.2.2.2.2.1) && (decide (r9.2.2.2.2.2.1 = r12.2.2.2.2.2.1) && (decide (r9.2.2.2.2.2.2.1 = r12.2.2.2.2.2.2.1) && (decide (r9.2.2.2.2.2.2.2.1 = r12.2.2.2.2.2.2.2.1) && (decide (r9.2.2.2.2.2.2.2.2.1 = r12.2.2.2.2.2.2.2.2.1) && (decide (r9.2.2.2.2.2.2.2.2.2.1 = r12.2.2.2.2.2.2.2.2.2.1) && true))))))))))) l2 l3 l4 l5
          else none
          else none
      else
        if (decide (0 ≤ i1)) = true then
        if (decide (i1 < (l5.length : Int))) = true then
        (F22 n l2 (rdOf (⟨#[]⟩ : ByteArray) l5 i1)).bind fun r13 =>
        j4_0 n g0 l0 i1 (!(decide (r9.1.toList = r13.1.toList) && (decide (r9.2.1 = r13.2.1) && (decide (r9.2.2.1 = r13.2.2.1) && ((r9.2.2.2.1 == r13.2.2.2.1) && (decide (r9.2.2.2.2.1 = r13.2.2.2.2.1) && (decide (r9.2.2.2.2.2.1 = r13.2.2.2.2.2.1) && (decide (r9.2.2.2.2.2.2.1 = r13.2.2.2.2.2.2.1) && (decide (r9.2.2.2.2.2.2.2.1 = r13.2.2.2.2.2.2.2.1) && (decide (r9.2.2.2.2.2.2.2.2.1 = r13.2.2.2.2.2.2.2.2.1) && (decide (r9.2.2.2.2.2.2.2.2.2.1 = r13.2.2.2.2.2.2.2.2.2.1) && true))))))))))) l2 l3 l4 l5
        else none
        else none
    else none
    else none
    else none
    else none
  else
    (F23 n l0).bind fun r14 =>
    (F24 n r14.1 r14.2.1 r14.2.2.1 r14.2.2.2.1 r14.2.2.2.2.1 r14.2.2.2.2.2.1 r14.2.2.2.2.2.2.1 r14.2.2.2.2.2.2.2.1 r14.2.2.2.2.2.2.2.2.1 r14.2.2.2.2.2.2.2.2.2.1 r14.2.2.2.2.2.2.2.2.2.2.1 r14.2.2.2.2.2.2.2.2.2.2.2.1 r14.2.2.2.2.2.2.2.2.2.2.2.2.1 r14.2.2.2.2.2.2.2.2.2.2.2.2.2.1 r14.2.2.2.2.2.2.2.2.2.2.2.2.2.2.1 r14.2.2.2.2.2.2.2.2.2.2.2.2.2.2.2.1 r14.2.2.2.2.2.2.2.2.2.2.2.2.2.2.2.2.1 r14.2.2.2.2.2.2.2.2.2.2.2.2.2.2.2.2.2.1 r14.2.2.2.2.2.2.2.2.2.2.2.2.2.2.2.2.2.2.1 r14.2.2.2.2.2.2.2.2.2.2.2.2.2.2.2.2.2.2.2.1).bind fun r15 =>
    (F25 n l2).bind fun r16 =>
    (F14 n l3 r16.1).bind fun r17 =>
    if r17.1 = true then
      if (decide ((l4.length : Int) = (l3.length : Int))) = true then
        (F26 n r14.1 r14.2.1 r14.2.2.1 r14.2.2.2.1 r14.2.2.2.2.1 r14.2.2.2.2.2.1 r14.2.2.2.2.2.2.1 r14.2.2.2.2.2.2.2.1 r14.2.2.2.2.2.2.2.2.1 r14.2.2.2.2.2.2.2.2.2.1 r14.2.2.2.2.2.2.2.2.2.2.1 r14.2.2.2.2.2.2.2.2.2.2.2.1 r14.2.2.2.2.2.2.2.2.2.2.2.2.1 r14.2.2.2.2.2.2.2.2.2.2.2.2.2.1 r14.2.2.2.2.2.2.2.2.2.2.2.2.2.2.1 r14.2.2.2.2.2.2.2.2.2.2.2.2.2.2.2.1 r14.2.2.2.2.2.2.2.2.2.2.2.2.2.2.2.2.1 r14.2.2.2.2.2.2.2.2.2.2.2.2.2.2.2.2.2.1 r14.2.2.2.2.2.2.2.2.2.2.2.2.2.2.2.2.2.2.1 r14.2.2.2.2.2.2.2.2.2.2.2.2.2.2.2.2.2.2.2.1).bind fun r18 =>
        if (decide (r15.1.toList = r18.1.toList) && (decide (r15.2.1 = r18.2.1) && (decide (r15.2.2.1 = r18.2.2.1) && ((r15.2.2.2.1 == r18.2.2.2.1) && (decide (r15.2.2.2.2.1 = r18.2.2.2.2.1) && (decide (r15.2.2.2.2.2.1 = r18.2.2.2.2.2.1) && (decide (r15.2.2.2.2.2.2.1 = r18.2.2.2.2.2.2.1) && (decide (r15.2.2.2.2.2.2.2.1 = r18.2.2.2.2.2.2.2.1) && (decide (r15.2.2.2.2.2.2.2.2.1 = r18.2.2.2.2.2.2.2.2.1) && (decide (r15.2.2.2.2.2.2.2.2.2.1 = r18.2.2.2.2.2.2.2.2.2.1) && true)))))))))) = true then
          (F24 n (⟨#[]⟩ : ByteArray) (0 : Int) (0 : Int) false (0 : Int) (0 : Int) (0 : Int) (0 : Int) (0 : Int) (0 : Int) r14.2.2.2.2.2.2.2.2.2.2.1 r14.2.2.2.2.2.2.2.2.2.2.2.1 r14.2.2.2.2.2.2.2.2.2.2.2.2.1 r14.2.2.2.2.2.2.2.2.2.2.2.2.2.1 r14.2.2.2.2.2.2.2.2.2.2.2.2.2.2.1 r14.2.2.2.2.2.2.2.2.2.2.2.2.2.2.2.1 r14.2.2.2.2.2.2.2.2.2.2.2.2.2.2.2.2.1 r14.2.2.2.2.2.2.2.2.2.2.2.2.2.2.2.2.2.1 r14.2.2.2.2.2.2.2.2.2.2.2.2.2.2.2.2.2.2.1 r14.2.2.2.2.2.2.2.2.2.2.2.2.2.2.2.2.2.2.2.1).bind fun r19 =>
          some ((decide (r19.1.toList = r14.2.2.2.2.2.2.2.2.2.2.1.toList) && (decide (r19.2.1 = r14.2.2.2.2.2.2.2.2.2.2.2.1) && (decide (r19.2.2.1 = r14.2.2.2.2.2.2.2.2.2.2.2.2.1) && ((r19.2.2.2.1 == r14.2.2.2.2.2.2.2.2.2.2.2.2.2.1) && (decide (r19.2.2.2.2.1 = r14.2.2.2.2.2.2.2.2.2.2.2.2.2.2.1) && (decide (r19.2.2.2.2.2.1 = r14.2.2.2.2.2.2.2.2.2.2.2.2.2.2.2.1) && (decide (r19.2.2.2.2.2.2.1 = r14.2.2.2.2.2.2.2.2.2.2.2.2.2.2.2.2.1) && (decide (r19.2.2.2.2.2.2.2.1 = r14.2.2.2.2.2.2.2.2.2.2.2.2.2.2.2.2.2.1) && (decide (r19.2.2.2.2.2.2.2.2.1 = r14.2.2.2.2.2.2.2.2.2.2.2.2.2.2.2.2.2.2.1) && (decide (r19.2.2.2.2.2.2.2.2.2.1 = r14.2.2.2.2.2.2.2.2.2.2.2.2.2.2.2.2.2.2.2.1) && true)))))))))), ())
        else
          some (false, ())
      else
        some (false, ())
    else
      some (false, ())
noncomputable def lp4_0 (n : Nat) : Nat → (List Int) → Int → (List (List (ByteArray × (Int × (Int × (Bool × (Int × (Int × (Int × (Int × (Int × Int))))))))))) → (List (ByteArray × (Int × (Int × (Bool × (Int × (Int × (Int × (Int × (Int × Int)))))))))) → (List (ByteArray × (Int × (Int × (Bool × (Int × (Int × (Int × (Int × (Int × Int)))))))))) → (List ByteArray) → Option (Bool × Unit)
  | 0 => fun _ _ _ _ _ _ => none
  | k + 1 => st4_0 n (lp4_0 n k)
noncomputable def st4 (n : Nat) (h0 : (List Int) → Int → (List (List (ByteArray × (Int × (Int × (Bool × (Int × (Int × (Int × (Int × (Int × Int))))))))))) → (List (ByteArray × (Int × (Int × (Bool × (Int × (Int × (Int × (Int × (Int × Int)))))))))) → (List (ByteArray × (Int × (Int × (Bool × (Int × (Int × (Int × (Int × (Int × Int)))))))))) → (List ByteArray) → Option (Bool × Unit)) (a0 : List Int) : Option (Bool × Unit) :=
  (F7 n a0).bind fun r1 =>
  if r1.1 = true then
    some (true, ())
  else
    (F16 n a0).bind fun r2 =>
    (F17 n r2.1).bind fun r3 =>
    (F18 n a0 (0 : Int) (r2.1.length : Int)).bind fun r4 =>
    if (decide (0 ≤ 0)) = true then
    if (decide (0 ≤ r4.1)) = true then
    if (decide (r4.1 ≤ (r2.1.length : Int))) = true then
    (F17 n (cutL r2.1 (0 : Int) r4.1)).bind fun r5 =>
    if (decide (0 ≤ r4.1)) = true then
    if (decide (r4.1 ≤ (r2.1.length : Int))) = true then
    if (decide ((r2.1.length : Int) ≤ (r2.1.length : Int))) = true then
    (F17 n (cutL r2.1 r4.1 (r2.1.length : Int))).bind fun r6 =>
    (F19 n r5.1 r6.1).bind fun r7 =>
    h0 a0 (0 : Int) r2.1 r3.1 r7.1 ([(⟨#[90, 57]⟩ : ByteArray), (⟨#[97]⟩ : ByteArray), (⟨#[98]⟩ : ByteArray), (⟨#[99, 112, 117]⟩ : ByteArray), (⟨#[109, 101, 109]⟩ : ByteArray), (⟨#[113]⟩ : ByteArray)] : List ByteArray)
    else none
    else none
    else none
    else none
    else none
    else none
noncomputable def F4 (n : Nat) (a0 : List Int) : Option (Bool × Unit) := st4 n (lp4_0 n n) a0
noncomputable def c4 (n : Nat) : Con := ⟨[.one (.sl (.imm false) 5 (.int .u8))], [], [.one (.bool)], [], fun (x : List Int × Unit) => F4 n x.1⟩
noncomputable def G4 (n : Nat) : Gam := [((7, []), c7 n), ((14, []), c14 n), ((16, []), c16 n), ((17, []), c17 n), ((18, []), c18 n), ((19, []), c19 n), ((20, []), c20 n), ((21, []), c21 n), ((22, []), c22 n), ((23, []), c23 n), ((24, []), c24 n), ((25, []), c25 n), ((26, []), c26 n)]
noncomputable def S4_0 (l0 : List Int) (i1 : Int) (l2 : List (List (ByteArray × (Int × (Int × (Bool × (Int × (Int × (Int × (Int × (Int × Int))))))))))) (l3 : List (ByteArray × (Int × (Int × (Bool × (Int × (Int × (Int × (Int × (Int × Int)))))))))) (l4 : List (ByteArray × (Int × (Int × (Bool × (Int × (Int × (Int × (Int × (Int × Int)))))))))) (l5 : List ByteArray) : St := ⟨[.sl (.imm false) 5 (.int .u8) l0, .dead, .dead, .sr 3 0 none 0 0 none, .sr 4 0 none 0 0 none, .dead, .sr 6 0 none 0 0 none, .sr 7 0 none 0 0 none, .int .i64 i1] ++ List.replicate 105 .dead, [Ob.none, Ob.none, Ob.none, ⟨false, [.sl .own 24 (.sl 30 (.pair .str (.pair (.int .i64) (.pair (.int .i64) (.pair .bool (.pair (.int .i64) (.pair (.int .i64) (.pair (.int .i64) (.pair (.int .i64) (.pair (.int .i64) (.int .i64))))))))))) l2], 0, 0⟩, ⟨false, [.sl .own 30 (.pair .str (.pair (.int .i64) (.pair (.int .i64) (.pair .bool (.pair (.int .i64) (.pair (.int .i64) (.pair (.int .i64) (.pair (.int .i64) (.pair (.int .i64) (.int .i64)))))))))) l3], 0, 0⟩, Ob.none, ⟨false, [.sl .own 30 (.pair .str (.pair (.int .i64) (.pair (.int .i64) (.pair .bool (.pair (.int .i64) (.pair (.int .i64) (.pair (.int .i64) (.pair (.int .i64) (.pair (.int .i64) (.int .i64)))))))))) l4], 0, 0⟩, ⟨false, [.sl .own 9 .str l5], 0, 0⟩] ++ List.replicate 106 Ob.none⟩
noncomputable def ga4_0 (n : Nat) (ks : List Nat) (k : Nat) (st : St) : Option (Bool × Unit) := goAt tab (G4 n) n (bodyOf Try.f4) (lvOf Try.f4) (lvOf Try.f4).ret [1, 1, 1, 1, 1, 1, 1, 0, 1, 0] ks k st (evBody.endK tab (c4 n) Try.f4)
theorem el4_0 (n : Nat) : ∀ (k : Nat), ∀ (l0 : List Int) (i1 : Int) (l2 : List (List (ByteArray × (Int × (Int × (Bool × (Int × (Int × (Int × (Int × (Int × Int))))))))))) (l3 : List (ByteArray × (Int × (Int × (Bool × (Int × (Int × (Int × (Int × (Int × Int)))))))))) (l4 : List (ByteArray × (Int × (Int × (Bool × (Int × (Int × (Int × (Int × (Int × Int)))))))))) (l5 : List ByteArray), ga4_0 n [] k (S4_0 l0 i1 l2 l3 l4 l5) = lp4_0 n k l0 i1 l2 l3 l4 l5 := by
  intro k
  induction k with
  | zero => intros; rfl
  | succ k ih =>
    intro l0 i1 l2 l3 l4 l5
    have h : ga4_0 n [] (k + 1) (S4_0 l0 i1 l2 l3 l4 l5) = st4_0 n (fun w0 w1 w2 w3 w4 w5 => ga4_0 n [] k (S4_0 w0 w1 w2 w3 w4 w5)) l0 i1 l2 l3 l4 l5 := by kernel_rfl
    rw [h]
    have e : (fun w0 w1 w2 w3 w4 w5 => ga4_0 n [] k (S4_0 w0 w1 w2 w3 w4 w5)) = lp4_0 n k := by
      funext w0 w1 w2 w3 w4 w5; exact ih w0 w1 w2 w3 w4 w5
    rw [e]
    rfl
theorem e4 (n : Nat) (x : List Int × Unit) : evBody tab (G4 n) n (c4 n) Try.f4 x = F4 n x.1 := by
  have h : evBody tab (G4 n) n (c4 n) Try.f4 x = st4 n (fun w0 w1 w2 w3 w4 w5 => ga4_0 n [] n (S4_0 w0 w1 w2 w3 w4 w5)) x.1 := by kernel_rfl
  rw [h]
  have e0 : (fun w0 w1 w2 w3 w4 w5 => ga4_0 n [] n (S4_0 w0 w1 w2 w3 w4 w5)) = lp4_0 n n := by
    funext w0 w1 w2 w3 w4 w5; exact el4_0 n n w0 w1 w2 w3 w4 w5
  rw [e0]
  rfl
theorem g4 (W : World) (n : Nat) : Good Try.prog W 4 (c4 n) := body_good follows tabOk (GamOk.cons (g7 W n) (GamOk.cons (g14 W n) (GamOk.cons (g16 W n) (GamOk.cons (g17 W n) (GamOk.cons (g18 W n) (GamOk.cons (g19 W n) (GamOk.cons (g20 W n) (GamOk.cons (g21 W n) (GamOk.cons (g22 W n) (GamOk.cons (g23 W n) (GamOk.cons (g24 W n) (GamOk.cons (g25 W n) (GamOk.cons (g26 W n) GamOk.nil))))))))))))) (f := 4) (fn := Try.f4) (c := bodyOf Try.f4) (by kernel_rfl) (by kernel_rfl) (by kernel_rfl) (by kernel_rfl) (by kernel_rfl) (by kernel_rfl) (by kernel_rfl) (fun x r h => ⟨n, (e4 n x).trans h⟩)
/-! spec.StoreNew -/
noncomputable def F81 (n : Nat) (a0 : Int) : Option (Int × Int × List (List (ByteArray × (Int × (Int × (Bool × (Int × (Int × (Int × (Int × (Int × Int)))))))))) × Unit) :=
  (F52 n a0 (1 : Int) (5 : Int)).bind fun r1 =>
  if (!r1.1) = true then
    some (0, 0, ([] : List (List (ByteArray × (Int × (Int × (Bool × (Int × (Int × (Int × (Int × (Int × Int))))))))))), ())
  else
    some (a0, 0, ([] : List (List (ByteArray × (Int × (Int × (Bool × (Int × (Int × (Int × (Int × (Int × Int))))))))))), ())
noncomputable def c81 (n : Nat) : Con := ⟨[.one (.int .i64)], [], [.agg [(.int .i64), (.int .i64), (.sl .own 24 (.sl 30 (.pair .str (.pair (.int .i64) (.pair (.int .i64) (.pair .bool (.pair (.int .i64) (.pair (.int .i64) (.pair (.int .i64) (.pair (.int .i64) (.pair (.int .i64) (.int .i64))))))))))))]], [], fun (x : Int × Unit) => F81 n x.1⟩
noncomputable def G81 (n : Nat) : Gam := [((52, []), c52 n)]
theorem e81 (n : Nat) (x : Int × Unit) : evBody tab (G81 n) n (c81 n) Try.f81 x = F81 n x.1 := by kernel_rfl
theorem g81 (W : World) (n : Nat) : Good Try.prog W 81 (c81 n) := body_good follows tabOk (GamOk.cons (g52 W n) GamOk.nil) (f := 81) (fn := Try.f81) (c := bodyOf Try.f81) (by kernel_rfl) (by kernel_rfl) (by kernel_rfl) (by kernel_rfl) (by kernel_rfl) (by kernel_rfl) (by kernel_rfl) (fun x r h => ⟨n, (e81 n x).trans h⟩)
/-! spec.ReportOk -/
noncomputable def st30_0 (n : Nat) (g0 : (List (ByteArray × (Int × (Int × (Bool × (Int × (Int × (Int × (Int × (Int × Int)))))))))) → Int → Option (Bool × Unit)) (l0 : List (ByteArray × (Int × (Int × (Bool × (Int × (Int × (Int × (Int × (Int × Int)))))))))) (i1 : Int) : Option (Bool × Unit) :=
  if (decide (i1 < (l0.length : Int))) = true then
    if (decide (0 ≤ i1)) = true then
    if (decide (i1 < (l0.length : Int))) = true then
    (F65 n ((rdOf ((⟨#[]⟩ : ByteArray), ((0 : Int), ((0 : Int), (false, ((0 : Int), ((0 : Int), ((0 : Int), ((0 : Int), ((0 : Int), (0 : Int)))))))))) l0 i1).1) (((rdOf ((⟨#[]⟩ : ByteArray), ((0 : Int), ((0 : Int), (false, ((0 : Int), ((0 : Int), ((0 : Int), ((0 : Int), ((0 : Int), (0 : Int)))))))))) l0 i1).2).1) ((((rdOf ((⟨#[]⟩ : ByteArray), ((0 : Int), ((0 : Int), (false, ((0 : Int), ((0 : Int), ((0 : Int), ((0 : Int), ((0 : Int), (0 : Int)))))))))) l0 i1).2).2).1) (((((rdOf ((⟨#[]⟩ : ByteArray), ((0 : Int), ((0 : Int), (false, ((0 : Int), ((0 : Int), ((0 : Int), ((0 : Int), ((0 : Int), (0 : Int)))))))))) l0 i1).2).2).2).1) ((((((rdOf ((⟨#[]⟩ : ByteArray), ((0 : Int), ((0 : Int), (false, ((0 : Int), ((0 : Int), ((0 : Int), ((0 : Int), ((0 : Int), (0 : Int)))))))))) l0 i1).2).2).2).2).1) (((((((rdOf ((⟨#[]⟩ : ByteArray), ((0 : Int), ((0 : Int), (false, ((0 : Int), ((0 : Int), ((0 : Int), ((0 : Int), ((0 : Int), (0 : Int)))))))))) l0 i1).2).2).2).2).2).1) ((((((((rdOf ((⟨#[]⟩ : ByteArray), ((0 : Int), ((0 : Int), (false, ((0 : Int), ((0 : Int), ((0 : Int), ((0 : Int), ((0 : Int), (0 : Int)))))))))) l0 i1).2).2).2).2).2).2).1) (((((((((rdOf ((⟨#[]⟩ : ByteArray), ((0 : Int), ((0 : Int), (false, ((0 : Int), ((0 : Int), ((0 : Int), ((0 : Int), ((0 : Int), (0 : Int)))))))))) l0 i1).2).2).2).2).2).2).2).1) ((((((((((rdOf ((⟨#[]⟩ : ByteArray), ((0 : Int), ((0 : Int), (false, ((0 : Int), ((0 : Int), ((0 : Int), ((0 : Int), ((0 : Int), (0 : Int)))))))))) l0 i1).2).2).2).2).2).2).2).2).1) ((((((((((rdOf ((⟨#[]⟩ : ByteArray), ((0 : Int), ((0 : Int), (false, ((0 : Int), ((0 : Int), ((0 : Int), ((0 : Int), ((0 : Int), (0 : Int)))))))))) l0 i1).2).2).2).2).2).2).2).2).2)).bind fun r1 =>
    if (!r1.1) = true then
      some (false, ())
    else
      if (decide (0 ≤ i1)) = true then
      if (decide (i1 < (l0.length : Int))) = true then
      (F66 n ((rdOf ((⟨#[]⟩ : ByteArray), ((0 : Int), ((0 : Int), (false, ((0 : Int), ((0 : Int), ((0 : Int), ((0 : Int), ((0 : Int), (0 : Int)))))))))) l0 i1).1) (((rdOf ((⟨#[]⟩ : ByteArray), ((0 : Int), ((0 : Int), (false, ((0 : Int), ((0 : Int), ((0 : Int), ((0 : Int), ((0 : Int), (0 : Int)))))))))) l0 i1).2).1) ((((rdOf ((⟨#[]⟩ : ByteArray), ((0 : Int), ((0 : Int), (false, ((0 : Int), ((0 : Int), ((0 : Int), ((0 : Int), ((0 : Int), (0 : Int)))))))))) l0 i1).2).2).1) (((((rdOf ((⟨#[]⟩ : ByteArray), ((0 : Int), ((0 : Int), (false, ((0 : Int), ((0 : Int), ((0 : Int), ((0 : Int), ((0 : Int), (0 : Int)))))))))) l0 i1).2).2).2).1) ((((((rdOf ((⟨#[]⟩ : ByteArray), ((0 : Int), ((0 : Int), (false, ((0 : Int), ((0 : Int), ((0 : Int), ((0 : Int), ((0 : Int), (0 : Int)))))))))) l0 i1).2).2).2).2).1) (((((((rdOf ((⟨#[]⟩ : ByteArray), ((0 : Int), ((0 : Int), (false, ((0 : Int), ((0 : Int), ((0 : Int), ((0 : Int), ((0 : Int), (0 : Int)))))))))) l0 i1).2).2).2).2).2).1) ((((((((rdOf ((⟨#[]⟩ : ByteArray), ((0 : Int), ((0 : Int), (false, ((0 : Int), ((0 : Int), ((0 : Int), ((0 : Int), ((0 : Int), (0 : Int)))))))))) l0 i1).2).2).2).2).2).2).1) (((((((((rdOf ((⟨#[]⟩ : ByteArray), ((0 : Int), ((0 : Int), (false, ((0 : Int), ((0 : Int), ((0 : Int), ((0 : Int), ((0 : Int), (0 : Int)))))))))) l0 i1).2).2).2).2).2).2).2).1) ((((((((((rdOf ((⟨#[]⟩ : ByteArray), ((0 : Int), ((0 : Int), (false, ((0 : Int), ((0 : Int), ((0 : Int), ((0 : Int), ((0 : Int), (0 : Int)))))))))) l0 i1).2).2).2).2).2).2).2).2).1) ((((((((((rdOf ((⟨#[]⟩ : ByteArray), ((0 : Int), ((0 : Int), (false, ((0 : Int), ((0 : Int), ((0 : Int), ((0 : Int), ((0 : Int), (0 : Int)))))))))) l0 i1).2).2).2).2).2).2).2).2).2)).bind fun r2 =>
      if r2.1 = true then
        some (false, ())
      else
        if (decide (i1 > 0)) = true then
          if (decide (0 ≤ i1)) = true then
          if (decide (i1 < (l0.length : Int))) = true then
          if (decide (0 ≤ (wrap64 (i1 - 1)))) = true then
          if (decide ((wrap64 (i1 - 1)) < (l0.length : Int))) = true then
          if (Op.bytesLess ((rdOf ((⟨#[]⟩ : ByteArray), ((0 : Int), ((0 : Int), (false, ((0 : Int), ((0 : Int), ((0 : Int), ((0 : Int), ((0 : Int), (0 : Int)))))))))) l0 i1).1).toList ((rdOf ((⟨#[]⟩ : ByteArray), ((0 : Int), ((0 : Int), (false, ((0 : Int), ((0 : Int), ((0 : Int), ((0 : Int), ((0 : Int), (0 : Int)))))))))) l0 (wrap64 (i1 - 1))).1).toList || decide (((rdOf ((⟨#[]⟩ : ByteArray), ((0 : Int), ((0 : Int), (false, ((0 : Int), ((0 : Int), ((0 : Int), ((0 : Int), ((0 : Int), (0 : Int)))))))))) l0 i1).1).toList = ((rdOf ((⟨#[]⟩ : ByteArray), ((0 : Int), ((0 : Int), (false, ((0 : Int), ((0 : Int), ((0 : Int), ((0 : Int), ((0 : Int), (0 : Int)))))))))) l0 (wrap64 (i1 - 1))).1).toList)) = true then
            some (false, ())
          else
            g0 l0 (wrap64 (i1 + 1))
          else none
          else none
          else none
          else none
        else
          g0 l0 (wrap64 (i1 + 1))
      else none
      else none
    else none
    else none
  else
    some (decide ((l0.length : Int) ≤ 4), ())
noncomputable def lp30_0 (n : Nat) : Nat → (List (ByteArray × (Int × (Int × (Bool × (Int × (Int × (Int × (Int × (Int × Int)))))))))) → Int → Option (Bool × Unit)
  | 0 => fun _ _ => none
  | k + 1 => st30_0 n (lp30_0 n k)
noncomputable def st30 (n : Nat) (h0 : (List (ByteArray × (Int × (Int × (Bool × (Int × (Int × (Int × (Int × (Int × Int)))))))))) → Int → Option (Bool × Unit)) (a0 : List (ByteArray × (Int × (Int × (Bool × (Int × (Int × (Int × (Int × (Int × Int)))))))))) : Option (Bool × Unit) :=
  h0 a0 (0 : Int)
noncomputable def F30 (n : Nat) (a0 : List (ByteArray × (Int × (Int × (Bool × (Int × (Int × (Int × (Int × (Int × Int)))))))))) : Option (Bool × Unit) := st30 n (lp30_0 n n) a0
noncomputable def c30 (n : Nat) : Con := ⟨[.one (.sl (.imm true) 30 (.pair .str (.pair (.int .i64) (.pair (.int .i64) (.pair .bool (.pair (.int .i64) (.pair (.int .i64) (.pair (.int .i64) (.pair (.int .i64) (.pair (.int .i64) (.int .i64)))))))))))], [], [.one (.bool)], [], fun (x : List (ByteArray × (Int × (Int × (Bool × (Int × (Int × (Int × (Int × (Int × Int))))))))) × Unit) => F30 n x.1⟩
noncomputable def G30 (n : Nat) : Gam := [((65, []), c65 n), ((66, []), c66 n)]
noncomputable def S30_0 (l0 : List (ByteArray × (Int × (Int × (Bool × (Int × (Int × (Int × (Int × (Int × Int)))))))))) (i1 : Int) : St := ⟨[.sl (.imm true) 30 (.pair .str (.pair (.int .i64) (.pair (.int .i64) (.pair .bool (.pair (.int .i64) (.pair (.int .i64) (.pair (.int .i64) (.pair (.int .i64) (.pair (.int .i64) (.int .i64)))))))))) l0, .dead, .dead, .int .i64 i1] ++ List.replicate 40 .dead, List.replicate 44 Ob.none⟩
noncomputable def ga30_0 (n : Nat) (ks : List Nat) (k : Nat) (st : St) : Option (Bool × Unit) := goAt tab (G30 n) n (bodyOf Try.f30) (lvOf Try.f30) (lvOf Try.f30).ret [1, 0, 1, 0] ks k st (evBody.endK tab (c30 n) Try.f30)
theorem el30_0 (n : Nat) : ∀ (k : Nat), ∀ (l0 : List (ByteArray × (Int × (Int × (Bool × (Int × (Int × (Int × (Int × (Int × Int)))))))))) (i1 : Int), ga30_0 n [] k (S30_0 l0 i1) = lp30_0 n k l0 i1 := by
  intro k
  induction k with
  | zero => intros; rfl
  | succ k ih =>
    intro l0 i1
    have h : ga30_0 n [] (k + 1) (S30_0 l0 i1) = st30_0 n (fun w0 w1 => ga30_0 n [] k (S30_0 w0 w1)) l0 i1 := by kernel_rfl
    rw [h]
    have e : (fun w0 w1 => ga30_0 n [] k (S30_0 w0 w1)) = lp30_0 n k := by
      funext w0 w1; exact ih w0 w1
    rw [e]
    rfl
theorem e30 (n : Nat) (x : List (ByteArray × (Int × (Int × (Bool × (Int × (Int × (Int × (Int × (Int × Int))))))))) × Unit) : evBody tab (G30 n) n (c30 n) Try.f30 x = F30 n x.1 := by
  have h : evBody tab (G30 n) n (c30 n) Try.f30 x = st30 n (fun w0 w1 => ga30_0 n [] n (S30_0 w0 w1)) x.1 := by kernel_rfl
  rw [h]
  have e0 : (fun w0 w1 => ga30_0 n [] n (S30_0 w0 w1)) = lp30_0 n n := by
    funext w0 w1; exact el30_0 n n w0 w1
  rw [e0]
  rfl
theorem g30 (W : World) (n : Nat) : Good Try.prog W 30 (c30 n) := body_good follows tabOk (GamOk.cons (g65 W n) (GamOk.cons (g66 W n) GamOk.nil)) (f := 30) (fn := Try.f30) (c := bodyOf Try.f30) (by kernel_rfl) (by kernel_rfl) (by kernel_rfl) (by kernel_rfl) (by kernel_rfl) (by kernel_rfl) (by kernel_rfl) (fun x r h => ⟨n, (e30 n x).trans h⟩)
/-! spec.StoreOk -/
noncomputable def st29_0 (n : Nat) (g0 : Int → Int → Int → (List (List (ByteArray × (Int × (Int × (Bool × (Int × (Int × (Int × (Int × (Int × Int))))))))))) → Option (Bool × Unit)) (i0 : Int) (i1 : Int) (i2 : Int) (l3 : List (List (ByteArray × (Int × (Int × (Bool × (Int × (Int × (Int × (Int × (Int × Int))))))))))) : Option (Bool × Unit) :=
  if (decide (i0 < (l3.length : Int))) = true then
    if (decide (0 ≤ i0)) = true then
    if (decide (i0 < (l3.length : Int))) = true then
    (F30 n (rdOf ([] : List (ByteArray × (Int × (Int × (Bool × (Int × (Int × (Int × (Int × (Int × Int)))))))))) l3 i0)).bind fun r1 =>
    if (!r1.1) = true then
      some (false, ())
    else
      g0 (wrap64 (i0 + 1)) i1 i2 l3
    else none
    else none
  else
    (F52 n i1 (1 : Int) (5 : Int)).bind fun r2 =>
    if r2.1 = true then
      if (decide ((l3.length : Int) ≤ i1)) = true then
        (F52 n i2 (0 : Int) (1000000 : Int)).bind fun r3 =>
        if r3.1 = true then
          if (decide (i2 = 0)) = true then
            some (true, ())
          else
            some (decide ((l3.length : Int) = i1), ())
        else
          some (false, ())
      else
        some (false, ())
    else
      some (false, ())
noncomputable def lp29_0 (n : Nat) : Nat → Int → Int → Int → (List (List (ByteArray × (Int × (Int × (Bool × (Int × (Int × (Int × (Int × (Int × Int))))))))))) → Option (Bool × Unit)
  | 0 => fun _ _ _ _ => none
  | k + 1 => st29_0 n (lp29_0 n k)
noncomputable def st29 (n : Nat) (h0 : Int → Int → Int → (List (List (ByteArray × (Int × (Int × (Bool × (Int × (Int × (Int × (Int × (Int × Int))))))))))) → Option (Bool × Unit)) (a0 : Int) (a1 : Int) (a2 : List (List (ByteArray × (Int × (Int × (Bool × (Int × (Int × (Int × (Int × (Int × Int))))))))))) : Option (Bool × Unit) :=
  h0 (0 : Int) a0 a1 a2
noncomputable def F29 (n : Nat) (a0 : Int) (a1 : Int) (a2 : List (List (ByteArray × (Int × (Int × (Bool × (Int × (Int × (Int × (Int × (Int × Int))))))))))) : Option (Bool × Unit) := st29 n (lp29_0 n n) a0 a1 a2
noncomputable def c29 (n : Nat) : Con := ⟨[.agg [(.int .i64), (.int .i64), (.sl (.imm true) 24 (.sl 30 (.pair .str (.pair (.int .i64) (.pair (.int .i64) (.pair .bool (.pair (.int .i64) (.pair (.int .i64) (.pair (.int .i64) (.pair (.int .i64) (.pair (.int .i64) (.int .i64))))))))))))]], [], [.one (.bool)], [], fun (x : Int × Int × List (List (ByteArray × (Int × (Int × (Bool × (Int × (Int × (Int × (Int × (Int × Int)))))))))) × Unit) => F29 n x.1 x.2.1 x.2.2.1⟩
noncomputable def G29 (n : Nat) : Gam := [((30, []), c30 n), ((52, []), c52 n)]
noncomputable def S29_0 (i0 : Int) (i1 : Int) (i2 : Int) (l3 : List (List (ByteArray × (Int × (Int × (Bool × (Int × (Int × (Int × (Int × (Int × Int))))))))))) : St := ⟨[.dead, .ptr 1 0, .dead, .int .i64 i0] ++ List.replicate 43 .dead, [Ob.none, ⟨true, [.int .i64 i1, .int .i64 i2, .sl (.imm true) 24 (.sl 30 (.pair .str (.pair (.int .i64) (.pair (.int .i64) (.pair .bool (.pair (.int .i64) (.pair (.int .i64) (.pair (.int .i64) (.pair (.int .i64) (.pair (.int .i64) (.int .i64))))))))))) l3], 0, 0⟩] ++ List.replicate 45 Ob.none⟩
noncomputable def ga29_0 (n : Nat) (ks : List Nat) (k : Nat) (st : St) : Option (Bool × Unit) := goAt tab (G29 n) n (bodyOf Try.f29) (lvOf Try.f29) (lvOf Try.f29).ret [1, 0, 1, 0] ks k st (evBody.endK tab (c29 n) Try.f29)
theorem el29_0 (n : Nat) : ∀ (k : Nat), ∀ (i0 : Int) (i1 : Int) (i2 : Int) (l3 : List (List (ByteArray × (Int × (Int × (Bool × (Int × (Int × (Int × (Int × (Int × Int))))))))))), ga29_0 n [] k (S29_0 i0 i1 i2 l3) = lp29_0 n k i0 i1 i2 l3 := by
  intro k
  induction k with
  | zero => intros; rfl
  | succ k ih =>
    intro i0 i1 i2 l3
    have h : ga29_0 n [] (k + 1) (S29_0 i0 i1 i2 l3) = st29_0 n (fun w0 w1 w2 w3 => ga29_0 n [] k (S29_0 w0 w1 w2 w3)) i0 i1 i2 l3 := by kernel_rfl
    rw [h]
    have e : (fun w0 w1 w2 w3 => ga29_0 n [] k (S29_0 w0 w1 w2 w3)) = lp29_0 n k := by
      funext w0 w1 w2 w3; exact ih w0 w1 w2 w3
    rw [e]
    rfl
theorem e29 (n : Nat) (x : Int × Int × List (List (ByteArray × (Int × (Int × (Bool × (Int × (Int × (Int × (Int × (Int × Int)))))))))) × Unit) : evBody tab (G29 n) n (c29 n) Try.f29 x = F29 n x.1 x.2.1 x.2.2.1 := by
  have h : evBody tab (G29 n) n (c29 n) Try.f29 x = st29 n (fun w0 w1 w2 w3 => ga29_0 n [] n (S29_0 w0 w1 w2 w3)) x.1 x.2.1 x.2.2.1 := by kernel_rfl
  rw [h]
  have e0 : (fun w0 w1 w2 w3 => ga29_0 n [] n (S29_0 w0 w1 w2 w3)) = lp29_0 n n := by
    funext w0 w1 w2 w3; exact el29_0 n n w0 w1 w2 w3
  rw [e0]
  rfl
theorem g29 (W : World) (n : Nat) : Good Try.prog W 29 (c29 n) := body_good follows tabOk (GamOk.cons (g30 W n) (GamOk.cons (g52 W n) GamOk.nil)) (f := 29) (fn := Try.f29) (c := bodyOf Try.f29) (by kernel_rfl) (by kernel_rfl) (by kernel_rfl) (by kernel_rfl) (by kernel_rfl) (by kernel_rfl) (by kernel_rfl) (fun x r h => ⟨n, (e29 n x).trans h⟩)
/-! spec.l29Copy -/
noncomputable def st94_0 (n : Nat) (g0 : Int → Int → Int → (List (List (ByteArray × (Int × (Int × (Bool × (Int × (Int × (Int × (Int × (Int × Int))))))))))) → Int → Int → (List (List (ByteArray × (Int × (Int × (Bool × (Int × (Int × (Int × (Int × (Int × Int))))))))))) → Int → Int → (List (List (ByteArray × (Int × (Int × (Bool × (Int × (Int × (Int × (Int × (Int × Int))))))))))) → Option (Int × Int × List (List (ByteArray × (Int × (Int × (Bool × (Int × (Int × (Int × (Int × (Int × Int)))))))))) × Unit)) (i0 : Int) (i1 : Int) (i2 : Int) (l3 : List (List (ByteArray × (Int × (Int × (Bool × (Int × (Int × (Int × (Int × (Int × Int))))))))))) (i4 : Int) (i5 : Int) (l6 : List (List (ByteArray × (Int × (Int × (Bool × (Int × (Int × (Int × (Int × (Int × Int))))))))))) (i7 : Int) (i8 : Int) (l9 : List (List (ByteArray × (Int × (Int × (Bool × (Int × (Int × (Int × (Int × (Int × Int))))))))))) : Option (Int × Int × List (List (ByteArray × (Int × (Int × (Bool × (Int × (Int × (Int × (Int × (Int × Int)))))))))) × Unit) :=
  if (decide (i0 < (l3.length : Int))) = true then
    if (decide (0 ≤ i0)) = true then
    if (decide (i0 < (l3.length : Int))) = true then
    if (decide ((([] : List (ByteArray × (Int × (Int × (Bool × (Int × (Int × (Int × (Int × (Int × Int)))))))))).length + (rdOf ([] : List (ByteArray × (Int × (Int × (Bool × (Int × (Int × (Int × (Int × (Int × Int)))))))))) l3 i0).length) * 88 ≤ 140737488355328)) = true then
    if (decide ((l9.length + ([(([] : List (ByteArray × (Int × (Int × (Bool × (Int × (Int × (Int × (Int × (Int × Int)))))))))) ++ (rdOf ([] : List (ByteArray × (Int × (Int × (Bool × (Int × (Int × (Int × (Int × (Int × Int)))))))))) l3 i0))] : List (List (ByteArray × (Int × (Int × (Bool × (Int × (Int × (Int × (Int × (Int × Int))))))))))).length) * 24 ≤ 140737488355328)) = true then
    g0 (wrap64 (i0 + 1)) i1 i2 l3 i4 i5 l6 i7 i8 (l9 ++ ([(([] : List (ByteArray × (Int × (Int × (Bool × (Int × (Int × (Int × (Int × (Int × Int)))))))))) ++ (rdOf ([] : List (ByteArray × (Int × (Int × (Bool × (Int × (Int × (Int × (Int × (Int × Int)))))))))) l3 i0))] : List (List (ByteArray × (Int × (Int × (Bool × (Int × (Int × (Int × (Int × (Int × Int))))))))))))
    else none
    else none
    else none
    else none
  else
    some (i7, i8, l9, ())
noncomputable def lp94_0 (n : Nat) : Nat → Int → Int → Int → (List (List (ByteArray × (Int × (Int × (Bool × (Int × (Int × (Int × (Int × (Int × Int))))))))))) → Int → Int → (List (List (ByteArray × (Int × (Int × (Bool × (Int × (Int × (Int × (Int × (Int × Int))))))))))) → Int → Int → (List (List (ByteArray × (Int × (Int × (Bool × (Int × (Int × (Int × (Int × (Int × Int))))))))))) → Option (Int × Int × List (List (ByteArray × (Int × (Int × (Bool × (Int × (Int × (Int × (Int × (Int × Int)))))))))) × Unit)
  | 0 => fun _ _ _ _ _ _ _ _ _ _ => none
  | k + 1 => st94_0 n (lp94_0 n k)
noncomputable def st94 (n : Nat) (h0 : Int → Int → Int → (List (List (ByteArray × (Int × (Int × (Bool × (Int × (Int × (Int × (Int × (Int × Int))))))))))) → Int → Int → (List (List (ByteArray × (Int × (Int × (Bool × (Int × (Int × (Int × (Int × (Int × Int))))))))))) → Int → Int → (List (List (ByteArray × (Int × (Int × (Bool × (Int × (Int × (Int × (Int × (Int × Int))))))))))) → Option (Int × Int × List (List (ByteArray × (Int × (Int × (Bool × (Int × (Int × (Int × (Int × (Int × Int)))))))))) × Unit)) (a0 : Int) (a1 : Int) (a2 : List (List (ByteArray × (Int × (Int × (Bool × (Int × (Int × (Int × (Int × (Int × Int))))))))))) : Option (Int × Int × List (List (ByteArray × (Int × (Int × (Bool × (Int × (Int × (Int × (Int × (Int × Int)))))))))) × Unit) :=
  h0 (0 : Int) a0 a1 a2 (0 : Int) (0 : Int) ([] : List (List (ByteArray × (Int × (Int × (Bool × (Int × (Int × (Int × (Int × (Int × Int))))))))))) a0 a1 ([] : List (List (ByteArray × (Int × (Int × (Bool × (Int × (Int × (Int × (Int × (Int × Int)))))))))))
noncomputable def F94 (n : Nat) (a0 : Int) (a1 : Int) (a2 : List (List (ByteArray × (Int × (Int × (Bool × (Int × (Int × (Int × (Int × (Int × Int))))))))))) : Option (Int × Int × List (List (ByteArray × (Int × (Int × (Bool × (Int × (Int × (Int × (Int × (Int × Int)))))))))) × Unit) := st94 n (lp94_0 n n) a0 a1 a2
noncomputable def c94 (n : Nat) : Con := ⟨[.agg [(.int .i64), (.int .i64), (.sl (.imm true) 24 (.sl 30 (.pair .str (.pair (.int .i64) (.pair (.int .i64) (.pair .bool (.pair (.int .i64) (.pair (.int .i64) (.pair (.int .i64) (.pair (.int .i64) (.pair (.int .i64) (.int .i64))))))))))))]], [], [.agg [(.int .i64), (.int .i64), (.sl .own 24 (.sl 30 (.pair .str (.pair (.int .i64) (.pair (.int .i64) (.pair .bool (.pair (.int .i64) (.pair (.int .i64) (.pair (.int .i64) (.pair (.int .i64) (.pair (.int .i64) (.int .i64))))))))))))]], [], fun (x : Int × Int × List (List (ByteArray × (Int × (Int × (Bool × (Int × (Int × (Int × (Int × (Int × Int)))))))))) × Unit) => F94 n x.1 x.2.1 x.2.2.1⟩
noncomputable def G94 (n : Nat) : Gam := []
noncomputable def S94_0 (i0 : Int) (i1 : Int) (i2 : Int) (l3 : List (List (ByteArray × (Int × (Int × (Bool × (Int × (Int × (Int × (Int × (Int × Int))))))))))) (i4 : Int) (i5 : Int) (l6 : List (List (ByteArray × (Int × (Int × (Bool × (Int × (Int × (Int × (Int × (Int × Int))))))))))) (i7 : Int) (i8 : Int) (l9 : List (List (ByteArray × (Int × (Int × (Bool × (Int × (Int × (Int × (Int × (Int × Int))))))))))) : St := ⟨[.dead, .ptr 1 0, .ptr 2 0, .ptr 3 0, .int .i64 i0] ++ List.replicate 25 .dead, [Ob.none, ⟨true, [.int .i64 i1, .int .i64 i2, .sl (.imm true) 24 (.sl 30 (.pair .str (.pair (.int .i64) (.pair (.int .i64) (.pair .bool (.pair (.int .i64) (.pair (.int .i64) (.pair (.int .i64) (.pair (.int .i64) (.pair (.int .i64) (.int .i64))))))))))) l3], 0, 0⟩, ⟨true, [.int .i64 i4, .int .i64 i5, .sl .own 24 (.sl 30 (.pair .str (.pair (.int .i64) (.pair (.int .i64) (.pair .bool (.pair (.int .i64) (.pair (.int .i64) (.pair (.int .i64) (.pair (.int .i64) (.pair (.int .i64) (.int .i64))))))))))) l6], 0, 0⟩, ⟨true, [.int .i64 i7, .int .i64 i8, .sl .own 24 (.sl 30 (.pair .str (.pair (.int .i64) (.pair (.int .i64) (.pair .bool (.pair (.int .i64) (.pair (.int .i64) (.pair (.int .i64) (.pair (.int .i64) (.pair (.int .i64) (.int .i64))))))))))) l9], 0, 0⟩] ++ List.replicate 26 Ob.none⟩
noncomputable def ga94_0 (n : Nat) (ks : List Nat) (k : Nat) (st : St) : Option (Int × Int × List (List (ByteArray × (Int × (Int × (Bool × (Int × (Int × (Int × (Int × (Int × Int)))))))))) × Unit) := goAt tab (G94 n) n (bodyOf Try.f94) (lvOf Try.f94) (lvOf Try.f94).ret [1, 1, 0, 1, 0] ks k st (evBody.endK tab (c94 n) Try.f94)
theorem el94_0 (n : Nat) : ∀ (k : Nat), ∀ (i0 : Int) (i1 : Int) (i2 : Int) (l3 : List (List (ByteArray × (Int × (Int × (Bool × (Int × (Int × (Int × (Int × (Int × Int))))))))))) (i4 : Int) (i5 : Int) (l6 : List (List (ByteArray × (Int × (Int × (Bool × (Int × (Int × (Int × (Int × (Int × Int))))))))))) (i7 : Int) (i8 : Int) (l9 : List (List (ByteArray × (Int × (Int × (Bool × (Int × (Int × (Int × (Int × (Int × Int))))))))))), ga94_0 n [] k (S94_0 i0 i1 i2 l3 i4 i5 l6 i7 i8 l9) = lp94_0 n k i0 i1 i2 l3 i4 i5 l6 i7 i8 l9 := by
  intro k
  induction k with
  | zero => intros; rfl
  | succ k ih =>
    intro i0 i1 i2 l3 i4 i5 l6 i7 i8 l9
    have h : ga94_0 n [] (k + 1) (S94_0 i0 i1 i2 l3 i4 i5 l6 i7 i8 l9) = st94_0 n (fun w0 w1 w2 w3 w4 w5 w6 w7 w8 w9 => ga94_0 n [] k (S94_0 w0 w1 w2 w3 w4 w5 w6 w7 w8 w9)) i0 i1 i2 l3 i4 i5 l6 i7 i8 l9 := by kernel_rfl
    rw [h]
    have e : (fun w0 w1 w2 w3 w4 w5 w6 w7 w8 w9 => ga94_0 n [] k (S94_0 w0 w1 w2 w3 w4 w5 w6 w7 w8 w9)) = lp94_0 n k := by
      funext w0 w1 w2 w3 w4 w5 w6 w7 w8 w9; exact ih w0 w1 w2 w3 w4 w5 w6 w7 w8 w9
    rw [e]
    rfl
theorem e94 (n : Nat) (x : Int × Int × List (List (ByteArray × (Int × (Int × (Bool × (Int × (Int × (Int × (Int × (Int × Int)))))))))) × Unit) : evBody tab (G94 n) n (c94 n) Try.f94 x = F94 n x.1 x.2.1 x.2.2.1 := by
  have h : evBody tab (G94 n) n (c94 n) Try.f94 x = st94 n (fun w0 w1 w2 w3 w4 w5 w6 w7 w8 w9 => ga94_0 n [] n (S94_0 w0 w1 w2 w3 w4 w5 w6 w7 w8 w9)) x.1 x.2.1 x.2.2.1 := by kernel_rfl
  rw [h]
  have e0 : (fun w0 w1 w2 w3 w4 w5 w6 w7 w8 w9 => ga94_0 n [] n (S94_0 w0 w1 w2 w3 w4 w5 w6 w7 w8 w9)) = lp94_0 n n := by
    funext w0 w1 w2 w3 w4 w5 w6 w7 w8 w9; exact el94_0 n n w0 w1 w2 w3 w4 w5 w6 w7 w8 w9
  rw [e0]
  rfl
theorem g94 (W : World) (n : Nat) : Good Try.prog W 94 (c94 n) := body_good follows tabOk GamOk.nil (f := 94) (fn := Try.f94) (c := bodyOf Try.f94) (by kernel_rfl) (by kernel_rfl) (by kernel_rfl) (by kernel_rfl) (by kernel_rfl) (by kernel_rfl) (by kernel_rfl) (fun x r h => ⟨n, (e94 n x).trans h⟩)
/-! spec.Push -/
noncomputable def F82 (n : Nat) (a0 : Int) (a1 : Int) (a2 : List (List (ByteArray × (Int × (Int × (Bool × (Int × (Int × (Int × (Int × (Int × Int))))))))))) (a3 : List (ByteArray × (Int × (Int × (Bool × (Int × (Int × (Int × (Int × (Int × Int)))))))))) : Option (Int × Int × List (List (ByteArray × (Int × (Int × (Bool × (Int × (Int × (Int × (Int × (Int × Int)))))))))) × Unit) :=
  (F94 n a0 a1 a2).bind fun r1 =>
  (F29 n a0 a1 a2).bind fun r2 =>
  if (!r2.1) = true then
    some (r1.1, r1.2.1, r1.2.2.1, ())
  else
    (F30 n a3).bind fun r3 =>
    if (!r3.1) = true then
      some (r1.1, r1.2.1, r1.2.2.1, ())
    else
      if (decide (a1 = 1000000)) = true then
        some (r1.1, r1.2.1, r1.2.2.1, ())
      else
        if (decide ((([] : List (ByteArray × (Int × (Int × (Bool × (Int × (Int × (Int × (Int × (Int × Int)))))))))).length + a3.length) * 88 ≤ 140737488355328)) = true then
        if (decide ((r1.2.2.1.length + ([(([] : List (ByteArray × (Int × (Int × (Bool × (Int × (Int × (Int × (Int × (Int × Int)))))))))) ++ a3)] : List (List (ByteArray × (Int × (Int × (Bool × (Int × (Int × (Int × (Int × (Int × Int))))))))))).length) * 24 ≤ 140737488355328)) = true then
        if (decide (((r1.2.2.1 ++ ([(([] : List (ByteArray × (Int × (Int × (Bool × (Int × (Int × (Int × (Int × (Int × Int)))))))))) ++ a3)] : List (List (ByteArray × (Int × (Int × (Bool × (Int × (Int × (Int × (Int × (Int × Int)))))))))))).length : Int) > r1.1)) = true then
          if (decide (0 ≤ 1)) = true then
          if (decide (1 ≤ ((r1.2.2.1 ++ ([(([] : List (ByteArray × (Int × (Int × (Bool × (Int × (Int × (Int × (Int × (Int × Int)))))))))) ++ a3)] : List (List (ByteArray × (Int × (Int × (Bool × (Int × (Int × (Int × (Int × (Int × Int)))))))))))).length : Int))) = true then
          if (decide (((r1.2.2.1 ++ ([(([] : List (ByteArray × (Int × (Int × (Bool × (Int × (Int × (Int × (Int × (Int × Int)))))))))) ++ a3)] : List (List (ByteArray × (Int × (Int × (Bool × (Int × (Int × (Int × (Int × (Int × Int)))))))))))).length : Int) ≤ ((r1.2.2.1 ++ ([(([] : List (ByteArray × (Int × (Int × (Bool × (Int × (Int × (Int × (Int × (Int × Int)))))))))) ++ a3)] : List (List (ByteArray × (Int × (Int × (Bool × (Int × (Int × (Int × (Int × (Int × Int)))))))))))).length : Int))) = true then
          some (r1.1, (wrap64 (r1.2.1 + 1)), (cutL (r1.2.2.1 ++ ([(([] : List (ByteArray × (Int × (Int × (Bool × (Int × (Int × (Int × (Int × (Int × Int)))))))))) ++ a3)] : List (List (ByteArray × (Int × (Int × (Bool × (Int × (Int × (Int × (Int × (Int × Int)))))))))))) (1 : Int) ((r1.2.2.1 ++ ([(([] : List (ByteArray × (Int × (Int × (Bool × (Int × (Int × (Int × (Int × (Int × Int)))))))))) ++ a3)] : List (List (ByteArray × (Int × (Int × (Bool × (Int × (Int × (Int × (Int × (Int × Int)))))))))))).length : Int)), ())
          else none
          else none
          else none
        else
          some (r1.1, r1.2.1, (r1.2.2.1 ++ ([(([] : List (ByteArray × (Int × (Int × (Bool × (Int × (Int × (Int × (Int × (Int × Int)))))))))) ++ a3)] : List (List (ByteArray × (Int × (Int × (Bool × (Int × (Int × (Int × (Int × (Int × Int)))))))))))), ())
        else none
        else none
noncomputable def c82 (n : Nat) : Con := ⟨[.agg [(.int .i64), (.int .i64), (.sl (.imm true) 24 (.sl 30 (.pair .str (.pair (.int .i64) (.pair (.int .i64) (.pair .bool (.pair (.int .i64) (.pair (.int .i64) (.pair (.int .i64) (.pair (.int .i64) (.pair (.int .i64) (.int .i64))))))))))))], .one (.sl (.imm true) 30 (.pair .str (.pair (.int .i64) (.pair (.int .i64) (.pair .bool (.pair (.int .i64) (.pair (.int .i64) (.pair (.int .i64) (.pair (.int .i64) (.pair (.int .i64) (.int .i64)))))))))))], [], [.agg [(.int .i64), (.int .i64), (.sl .own 24 (.sl 30 (.pair .str (.pair (.int .i64) (.pair (.int .i64) (.pair .bool (.pair (.int .i64) (.pair (.int .i64) (.pair (.int .i64) (.pair (.int .i64) (.pair (.int .i64) (.int .i64))))))))))))]], [], fun (x : Int × Int × List (List (ByteArray × (Int × (Int × (Bool × (Int × (Int × (Int × (Int × (Int × Int)))))))))) × List (ByteArray × (Int × (Int × (Bool × (Int × (Int × (Int × (Int × (Int × Int))))))))) × Unit) => F82 n x.1 x.2.1 x.2.2.1 x.2.2.2.1⟩
noncomputable def G82 (n : Nat) : Gam := [((29, []), c29 n), ((30, []), c30 n), ((94, []), c94 n)]
theorem e82 (n : Nat) (x : Int × Int × List (List (ByteArray × (Int × (Int × (Bool × (Int × (Int × (Int × (Int × (Int × Int)))))))))) × List (ByteArray × (Int × (Int × (Bool × (Int × (Int × (Int × (Int × (Int × Int))))))))) × Unit) : evBody tab (G82 n) n (c82 n) Try.f82 x = F82 n x.1 x.2.1 x.2.2.1 x.2.2.2.1 := by kernel_rfl
theorem g82 (W : World) (n : Nat) : Good Try.prog W 82 (c82 n) := body_good follows tabOk (GamOk.cons (g29 W n) (GamOk.cons (g30 W n) (GamOk.cons (g94 W n) GamOk.nil))) (f := 82) (fn := Try.f82) (c := bodyOf Try.f82) (by kernel_rfl) (by kernel_rfl) (by kernel_rfl) (by kernel_rfl) (by kernel_rfl) (by kernel_rfl) (by kernel_rfl) (fun x r h => ⟨n, (e82 n x).trans h⟩)
/-! spec.l29Store -/
noncomputable def st63_0 (n : Nat) (g0 : Int → Int → Int → (List (List (ByteArray × (Int × (Int × (Bool × (Int × (Int × (Int × (Int × (Int × Int))))))))))) → Int → Int → (List (List (ByteArray × (Int × (Int × (Bool × (Int × (Int × (Int × (Int × (Int × Int))))))))))) → (List Int) → Int → Int → Option (Int × Int × List (List (ByteArray × (Int × (Int × (Bool × (Int × (Int × (Int × (Int × (Int × Int)))))))))) × List Int × Int × Int × Unit)) (i0 : Int) (i1 : Int) (i2 : Int) (l3 : List (List (ByteArray × (Int × (Int × (Bool × (Int × (Int × (Int × (Int × (Int × Int))))))))))) (i4 : Int) (i5 : Int) (l6 : List (List (ByteArray × (Int × (Int × (Bool × (Int × (Int × (Int × (Int × (Int × Int))))))))))) (l7 : List Int) (i8 : Int) (i9 : Int) : Option (Int × Int × List (List (ByteArray × (Int × (Int × (Bool × (Int × (Int × (Int × (Int × (Int × Int)))))))))) × List Int × Int × Int × Unit) :=
  if (decide (i0 > 0)) = true then
    (F42 n l7 i8 i9).bind fun r4 =>
    (F82 n i4 i5 l6 r4.1).bind fun r5 =>
    g0 (wrap64 (i0 - 1)) i1 i2 l3 r5.1 r5.2.1 r5.2.2.1 r4.2.1 r4.2.2.1 r4.2.2.2.1
  else
    (F45 n (14 : Int) l7 i8 i9).bind fun r6 =>
    if (decide (r6.1 = 0)) = true then
      (F79 n ([0, 6, 1] : List Int) r6.2.1 r6.2.2.1 r6.2.2.2.1).bind fun r7 =>
      some (r7.1, i5, l6, r7.2.1, r7.2.2.1, r7.2.2.2.1, ())
    else
      if (decide (r6.1 = 1)) = true then
        (F79 n ([(-1), 3, 1000000, 1000001] : List Int) r6.2.1 r6.2.2.1 r6.2.2.2.1).bind fun r8 =>
        some (i4, r8.1, l6, r8.2.1, r8.2.2.1, r8.2.2.2.1, ())
      else
        if (decide (r6.1 = 2)) = true then
          (F59 n r6.2.1 r6.2.2.1 r6.2.2.2.1).bind fun r9 =>
          if (decide ((l6.length + ([([(r9.1, (r9.2.1, (r9.2.2.1, (r9.2.2.2.1, (r9.2.2.2.2.1, (r9.2.2.2.2.2.1, (r9.2.2.2.2.2.2.1, (r9.2.2.2.2.2.2.2.1, (r9.2.2.2.2.2.2.2.2.1, r9.2.2.2.2.2.2.2.2.2.1)))))))))] : List (ByteArray × (Int × (Int × (Bool × (Int × (Int × (Int × (Int × (Int × Int))))))))))] : List (List (ByteArray × (Int × (Int × (Bool × (Int × (Int × (Int × (Int × (Int × Int))))))))))).length) * 24 ≤ 140737488355328)) = true then
          some (i4, i5, (l6 ++ ([([(r9.1, (r9.2.1, (r9.2.2.1, (r9.2.2.2.1, (r9.2.2.2.2.1, (r9.2.2.2.2.2.1, (r9.2.2.2.2.2.2.1, (r9.2.2.2.2.2.2.2.1, (r9.2.2.2.2.2.2.2.2.1, r9.2.2.2.2.2.2.2.2.2.1)))))))))] : List (ByteArray × (Int × (Int × (Bool × (Int × (Int × (Int × (Int × (Int × Int))))))))))] : List (List (ByteArray × (Int × (Int × (Bool × (Int × (Int × (Int × (Int × (Int × Int)))))))))))), r9.2.2.2.2.2.2.2.2.2.2.1, r9.2.2.2.2.2.2.2.2.2.2.2.1, r9.2.2.2.2.2.2.2.2.2.2.2.2.1, ())
          else none
        else
          some (i4, i5, l6, r6.2.1, r6.2.2.1, r6.2.2.2.1, ())
noncomputable def lp63_0 (n : Nat) : Nat → Int → Int → Int → (List (List (ByteArray × (Int × (Int × (Bool × (Int × (Int × (Int × (Int × (Int × Int))))))))))) → Int → Int → (List (List (ByteArray × (Int × (Int × (Bool × (Int × (Int × (Int × (Int × (Int × Int))))))))))) → (List Int) → Int → Int → Option (Int × Int × List (List (ByteArray × (Int × (Int × (Bool × (Int × (Int × (Int × (Int × (Int × Int)))))))))) × List Int × Int × Int × Unit)
  | 0 => fun _ _ _ _ _ _ _ _ _ _ => none
  | k + 1 => st63_0 n (lp63_0 n k)
noncomputable def st63 (n : Nat) (h0 : Int → Int → Int → (List (List (ByteArray × (Int × (Int × (Bool × (Int × (Int × (Int × (Int × (Int × Int))))))))))) → Int → Int → (List (List (ByteArray × (Int × (Int × (Bool × (Int × (Int × (Int × (Int × (Int × Int))))))))))) → (List Int) → Int → Int → Option (Int × Int × List (List (ByteArray × (Int × (Int × (Bool × (Int × (Int × (Int × (Int × (Int × Int)))))))))) × List Int × Int × Int × Unit)) (a1 : List Int) (a2 : Int) (a3 : Int) : Option (Int × Int × List (List (ByteArray × (Int × (Int × (Bool × (Int × (Int × (Int × (Int × (Int × Int)))))))))) × List Int × Int × Int × Unit) :=
  (F45 n (5 : Int) a1 a2 a3).bind fun r1 =>
  (F81 n (wrap64 (1 + r1.1))).bind fun r2 =>
  (F45 n (8 : Int) r1.2.1 r1.2.2.1 r1.2.2.2.1).bind fun r3 =>
  h0 r3.1 (0 : Int) (0 : Int) ([] : List (List (ByteArray × (Int × (Int × (Bool × (Int × (Int × (Int × (Int × (Int × Int))))))))))) r2.1 r2.2.1 r2.2.2.1 r3.2.1 r3.2.2.1 r3.2.2.2.1
noncomputable def F63 (n : Nat) (a1 : List Int) (a2 : Int) (a3 : Int) : Option (Int × Int × List (List (ByteArray × (Int × (Int × (Bool × (Int × (Int × (Int × (Int × (Int × Int)))))))))) × List Int × Int × Int × Unit) := st63 n (lp63_0 n n) a1 a2 a3
noncomputable def c63 (n : Nat) : Con := ⟨[.one (.ptr 0 0)], [[(.sl (.imm false) 5 (.int .u8)), (.int .i64), (.int .i64)]], [.agg [(.int .i64), (.int .i64), (.sl .own 24 (.sl 30 (.pair .str (.pair (.int .i64) (.pair (.int .i64) (.pair .bool (.pair (.int .i64) (.pair (.int .i64) (.pair (.int .i64) (.pair (.int .i64) (.pair (.int .i64) (.int .i64))))))))))))]], [[(.sl (.imm false) 5 (.int .u8)), (.int .i64), (.int .i64)]], fun (x : Unit × List Int × Int × Int × Unit) => F63 n x.2.1 x.2.2.1 x.2.2.2.1⟩
noncomputable def G63 (n : Nat) : Gam := [((42, []), c42 n), ((45, []), c45 n), ((59, []), c59 n), ((79, []), c79 n), ((81, []), c81 n), ((82, []), c82 n)]
noncomputable def S63_0 (i0 : Int) (i1 : Int) (i2 : Int) (l3 : List (List (ByteArray × (Int × (Int × (Bool × (Int × (Int × (Int × (Int × (Int × Int))))))))))) (i4 : Int) (i5 : Int) (l6 : List (List (ByteArray × (Int × (Int × (Bool × (Int × (Int × (Int × (Int × (Int × Int))))))))))) (l7 : List Int) (i8 : Int) (i9 : Int) : St := ⟨[.ptr 44 0, .dead, .ptr 2 0, .ptr 3 0, .int .i64 i0] ++ List.replicate 39 .dead, [Ob.none, Ob.none, ⟨true, [.int .i64 i1, .int .i64 i2, .sl .own 24 (.sl 30 (.pair .str (.pair (.int .i64) (.pair (.int .i64) (.pair .bool (.pair (.int .i64) (.pair (.int .i64) (.pair (.int .i64) (.pair (.int .i64) (.pair (.int .i64) (.int .i64))))))))))) l3], 0, 0⟩, ⟨true, [.int .i64 i4, .int .i64 i5, .sl .own 24 (.sl 30 (.pair .str (.pair (.int .i64) (.pair (.int .i64) (.pair .bool (.pair (.int .i64) (.pair (.int .i64) (.pair (.int .i64) (.pair (.int .i64) (.pair (.int .i64) (.int .i64))))))))))) l6], 0, 0⟩] ++ List.replicate 40 Ob.none ++ [⟨true, [.sl (.imm false) 5 (.int .u8) l7, .int .i64 i8, .int .i64 i9], 0, 0⟩]⟩
noncomputable def ga63_0 (n : Nat) (ks : List Nat) (k : Nat) (st : St) : Option (Int × Int × List (List (ByteArray × (Int × (Int × (Bool × (Int × (Int × (Int × (Int × (Int × Int)))))))))) × List Int × Int × Int × Unit) := goAt tab (G63 n) n (bodyOf Try.f63) (lvOf Try.f63) (lvOf Try.f63).ret [1, 1, 0, 1, 0] ks k st (evBody.endK tab (c63 n) Try.f63)
theorem el63_0 (n : Nat) : ∀ (k : Nat), ∀ (i0 : Int) (i1 : Int) (i2 : Int) (l3 : List (List (ByteArray × (Int × (Int × (Bool × (Int × (Int × (Int × (Int × (Int × Int))))))))))) (i4 : Int) (i5 : Int) (l6 : List (List (ByteArray × (Int × (Int × (Bool × (Int × (Int × (Int × (Int × (Int × Int))))))))))) (l7 : List Int) (i8 : Int) (i9 : Int), ga63_0 n [] k (S63_0 i0 i1 i2 l3 i4 i5 l6 l7 i8 i9) = lp63_0 n k i0 i1 i2 l3 i4 i5 l6 l7 i8 i9 := by
  intro k
  induction k with
  | zero => intros; rfl
  | succ k ih =>
    intro i0 i1 i2 l3 i4 i5 l6 l7 i8 i9
    have h : ga63_0 n [] (k + 1) (S63_0 i0 i1 i2 l3 i4 i5 l6 l7 i8 i9) = st63_0 n (fun w0 w1 w2 w3 w4 w5 w6 w7 w8 w9 => ga63_0 n [] k (S63_0 w0 w1 w2 w3 w4 w5 w6 w7 w8 w9)) i0 i1 i2 l3 i4 i5 l6 l7 i8 i9 := by kernel_rfl
    rw [h]
    have e : (fun w0 w1 w2 w3 w4 w5 w6 w7 w8 w9 => ga63_0 n [] k (S63_0 w0 w1 w2 w3 w4 w5 w6 w7 w8 w9)) = lp63_0 n k := by
      funext w0 w1 w2 w3 w4 w5 w6 w7 w8 w9; exact ih w0 w1 w2 w3 w4 w5 w6 w7 w8 w9
    rw [e]
    rfl
theorem e63 (n : Nat) (x : Unit × List Int × Int × Int × Unit) : evBody tab (G63 n) n (c63 n) Try.f63 x = F63 n x.2.1 x.2.2.1 x.2.2.2.1 := by
  have h : evBody tab (G63 n) n (c63 n) Try.f63 x = st63 n (fun w0 w1 w2 w3 w4 w5 w6 w7 w8 w9 => ga63_0 n [] n (S63_0 w0 w1 w2 w3 w4 w5 w6 w7 w8 w9)) x.2.1 x.2.2.1 x.2.2.2.1 := by kernel_rfl
  rw [h]
  have e0 : (fun w0 w1 w2 w3 w4 w5 w6 w7 w8 w9 => ga63_0 n [] n (S63_0 w0 w1 w2 w3 w4 w5 w6 w7 w8 w9)) = lp63_0 n n := by
    funext w0 w1 w2 w3 w4 w5 w6 w7 w8 w9; exact el63_0 n n w0 w1 w2 w3 w4 w5 w6 w7 w8 w9
  rw [e0]
  rfl
theorem g63 (W : World) (n : Nat) : Good Try.prog W 63 (c63 n) := body_good follows tabOk (GamOk.cons (g42 W n) (GamOk.cons (g45 W n) (GamOk.cons (g59 W n) (GamOk.cons (g79 W n) (GamOk.cons (g81 W n) (GamOk.cons (g82 W n) GamOk.nil)))))) (f := 63) (fn := Try.f63) (c := bodyOf Try.f63) (by kernel_rfl) (by kernel_rfl) (by kernel_rfl) (by kernel_rfl) (by kernel_rfl) (by kernel_rfl) (by kernel_rfl) (fun x r h => ⟨n, (e63 n x).trans h⟩)
/-! spec.DrawPush -/
noncomputable def F27 (n : Nat) (a0 : List Int) : Option (Int × Int × List (List (ByteArray × (Int × (Int × (Bool × (Int × (Int × (Int × (Int × (Int × Int)))))))))) × List (ByteArray × (Int × (Int × (Bool × (Int × (Int × (Int × (Int × (Int × Int))))))))) × Unit) :=
  (F41 n a0).bind fun r1 =>
  (F63 n r1.2.1 r1.2.2.1 r1.2.2.2.1).bind fun r2 =>
  (F42 n r2.2.2.2.1 r2.2.2.2.2.1 r2.2.2.2.2.2.1).bind fun r3 =>
  some (r2.1, r2.2.1, r2.2.2.1, r3.1, ())
noncomputable def c27 (n : Nat) : Con := ⟨[.one (.sl (.imm false) 5 (.int .u8))], [], [.agg [(.int .i64), (.int .i64), (.sl (.imm false) 24 (.sl 30 (.pair .str (.pair (.int .i64) (.pair (.int .i64) (.pair .bool (.pair (.int .i64) (.pair (.int .i64) (.pair (.int .i64) (.pair (.int .i64) (.pair (.int .i64) (.int .i64))))))))))))], .one (.sl (.imm false) 30 (.pair .str (.pair (.int .i64) (.pair (.int .i64) (.pair .bool (.pair (.int .i64) (.pair (.int .i64) (.pair (.int .i64) (.pair (.int .i64) (.pair (.int .i64) (.int .i64)))))))))))], [], fun (x : List Int × Unit) => F27 n x.1⟩
noncomputable def G27 (n : Nat) : Gam := [((41, []), c41 n), ((42, []), c42 n), ((63, []), c63 n)]
theorem e27 (n : Nat) (x : List Int × Unit) : evBody tab (G27 n) n (c27 n) Try.f27 x = F27 n x.1 := by kernel_rfl
theorem g27 (W : World) (n : Nat) : Good Try.prog W 27 (c27 n) := body_good follows tabOk (GamOk.cons (g41 W n) (GamOk.cons (g42 W n) (GamOk.cons (g63 W n) GamOk.nil))) (f := 27) (fn := Try.f27) (c := bodyOf Try.f27) (by kernel_rfl) (by kernel_rfl) (by kernel_rfl) (by kernel_rfl) (by kernel_rfl) (by kernel_rfl) (by kernel_rfl) (fun x r h => ⟨n, (e27 n x).trans h⟩)
end Go.Eva
end
