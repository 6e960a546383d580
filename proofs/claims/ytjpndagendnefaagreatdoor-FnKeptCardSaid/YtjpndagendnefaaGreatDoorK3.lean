/- A verified evaluator of the translated code, part 3: EvaG_1, EvaG_2, EvaG_3, EvaG_4 -/
import Derived.Test.YtjpndagendnefaaGreatDoorK2
section
/- The functions, as their texts evaluate. -/
set_option linter.unusedVariables false
set_option maxRecDepth 100000
namespace Go.Eva
open Go.Proofs
open Go.RowKit (wrap64)
/-! spec.l1New -/
noncomputable def st22_0 (n : Nat) (g0 : (List Int) → Int → Int → Option (Unit × List Int × Int × Int × Unit)) (l0 : List Int) (i1 : Int) (i2 : Int) : Option (Unit × List Int × Int × Int × Unit) :=
  if (decide (i2 < (l0.length : Int))) = true then
    if (decide (i2 < 4000)) = true then
      if (decide (0 ≤ i2)) = true then
      if (decide (i2 < (l0.length : Int))) = true then
      g0 l0 (andI .i64 (wrap64 ((wrap64 ((wrap64 (i1 * 131)) + (wrap64 ((rdOf (0 : Int) l0 i2))))) + 7)) (1073741823 : Int)) (wrap64 (i2 + 1))
      else none
      else none
    else
      some ((), l0, 0, i1, ())
  else
    some ((), l0, 0, i1, ())
noncomputable def lp22_0 (n : Nat) : Nat → (List Int) → Int → Int → Option (Unit × List Int × Int × Int × Unit)
  | 0 => fun _ _ _ => none
  | k + 1 => st22_0 n (lp22_0 n k)
noncomputable def st22 (n : Nat) (h0 : (List Int) → Int → Int → Option (Unit × List Int × Int × Int × Unit)) (a0 : List Int) : Option (Unit × List Int × Int × Int × Unit) :=
  h0 a0 (wrap64 (10101 + (a0.length : Int))) (0 : Int)
noncomputable def F22 (n : Nat) (a0 : List Int) : Option (Unit × List Int × Int × Int × Unit) := st22 n (lp22_0 n n) a0
noncomputable def c22 (n : Nat) : Con := ⟨[.one (.sl (.imm false) 5 (.int .u8))], [], [.one (.ptr 0 0)], [[(.sl (.imm false) 5 (.int .u8)), (.int .i64), (.int .i64)]], fun (x : List Int × Unit) => F22 n x.1⟩
noncomputable def G22 (n : Nat) : Gam := []
noncomputable def S22_0 (l0 : List Int) (i1 : Int) (i2 : Int) : St := ⟨[.sl (.imm false) 5 (.int .u8) l0, .dead, .dead, .int .i64 i1, .int .i64 i2] ++ List.replicate 27 .dead, List.replicate 32 Ob.none⟩
noncomputable def ga22_0 (n : Nat) (ks : List Nat) (k : Nat) (st : St) : Option (Unit × List Int × Int × Int × Unit) := goAt tab (G22 n) n (bodyOf Tryz.f22) (lvOf Tryz.f22) (lvOf Tryz.f22).ret [1, 1, 0, 1, 0] ks k st (evBody.endK tab (c22 n) Tryz.f22)
theorem el22_0 (n : Nat) : ∀ (k : Nat), ∀ (l0 : List Int) (i1 : Int) (i2 : Int), ga22_0 n [] k (S22_0 l0 i1 i2) = lp22_0 n k l0 i1 i2 := by
  intro k
  induction k with
  | zero => intros; rfl
  | succ k ih =>
    intro l0 i1 i2
    have h : ga22_0 n [] (k + 1) (S22_0 l0 i1 i2) = st22_0 n (fun w0 w1 w2 => ga22_0 n [] k (S22_0 w0 w1 w2)) l0 i1 i2 := by kernel_rfl
    rw [h]
    have e : (fun w0 w1 w2 => ga22_0 n [] k (S22_0 w0 w1 w2)) = lp22_0 n k := by
      funext w0 w1 w2; exact ih w0 w1 w2
    rw [e]
    rfl
theorem e22 (n : Nat) (x : List Int × Unit) : evBody tab (G22 n) n (c22 n) Tryz.f22 x = F22 n x.1 := by
  have h : evBody tab (G22 n) n (c22 n) Tryz.f22 x = st22 n (fun w0 w1 w2 => ga22_0 n [] n (S22_0 w0 w1 w2)) x.1 := by kernel_rfl
  rw [h]
  have e0 : (fun w0 w1 w2 => ga22_0 n [] n (S22_0 w0 w1 w2)) = lp22_0 n n := by
    funext w0 w1 w2; exact el22_0 n n w0 w1 w2
  rw [e0]
  rfl
theorem g22 (W : World) (n : Nat) : Good Tryz.prog W 22 (c22 n) := body_good follows tabOk GamOk.nil (f := 22) (fn := Tryz.f22) (c := bodyOf Tryz.f22) (by kernel_rfl) (by kernel_rfl) (by kernel_rfl) (by kernel_rfl) (by kernel_rfl) (by kernel_rfl) (by kernel_rfl) (fun x r h => ⟨n, (e22 n x).trans h⟩)
/-! spec.l1Byte -/
noncomputable def F66 (n : Nat) (a1 : List Int) (a2 : Int) (a3 : Int) : Option (Int × List Int × Int × Int × Unit) :=
  if (decide (0 ≤ 33)) = true then
  if (decide (0 ≤ 45)) = true then
  if (decide (a2 < (a1.length : Int))) = true then
    if (decide (0 ≤ a2)) = true then
    if (decide (a2 < (a1.length : Int))) = true then
    some ((andI .i64 (wrap64 ((andI .i64 (xorI .i64 (shrI (wrap64 ((wrap64 (a3 * 6364136223846793005)) + 1442695040888963407)) (min (33 : Int).toNat 64)) (shrI (wrap64 ((wrap64 (a3 * 6364136223846793005)) + 1442695040888963407)) (min (45 : Int).toNat 64))) (255 : Int)) + (wrap64 ((rdOf (0 : Int) a1 a2))))) (255 : Int)), a1, (wrap64 (a2 + 1)), (wrap64 ((wrap64 (a3 * 6364136223846793005)) + 1442695040888963407)), ())
    else none
    else none
  else
    some ((andI .i64 (xorI .i64 (shrI (wrap64 ((wrap64 (a3 * 6364136223846793005)) + 1442695040888963407)) (min (33 : Int).toNat 64)) (shrI (wrap64 ((wrap64 (a3 * 6364136223846793005)) + 1442695040888963407)) (min (45 : Int).toNat 64))) (255 : Int)), a1, a2, (wrap64 ((wrap64 (a3 * 6364136223846793005)) + 1442695040888963407)), ())
  else none
  else none
noncomputable def c66 (n : Nat) : Con := ⟨[.one (.ptr 0 0)], [[(.sl (.imm false) 5 (.int .u8)), (.int .i64), (.int .i64)]], [.one (.int .i64)], [[(.sl (.imm false) 5 (.int .u8)), (.int .i64), (.int .i64)]], fun (x : Unit × List Int × Int × Int × Unit) => F66 n x.2.1 x.2.2.1 x.2.2.2.1⟩
noncomputable def G66 (n : Nat) : Gam := []
theorem e66 (n : Nat) (x : Unit × List Int × Int × Int × Unit) : evBody tab (G66 n) n (c66 n) Tryz.f66 x = F66 n x.2.1 x.2.2.1 x.2.2.2.1 := by kernel_rfl
theorem g66 (W : World) (n : Nat) : Good Tryz.prog W 66 (c66 n) := body_good follows tabOk GamOk.nil (f := 66) (fn := Tryz.f66) (c := bodyOf Tryz.f66) (by kernel_rfl) (by kernel_rfl) (by kernel_rfl) (by kernel_rfl) (by kernel_rfl) (by kernel_rfl) (by kernel_rfl) (fun x r h => ⟨n, (e66 n x).trans h⟩)
/-! spec.l1Below -/
noncomputable def F43 (n : Nat) (a1 : Int) (a2 : List Int) (a3 : Int) (a4 : Int) : Option (Int × List Int × Int × Int × Unit) :=
  if (decide (a1 ≤ 0)) = true then
    some (0, a2, a3, a4, ())
  else
    if (decide (a1 ≤ 256)) = true then
      (F66 n a2 a3 a4).bind fun r1 =>
      if (decide (a1 ≠ 0)) = true then
      some ((r1.1.tmod a1), r1.2.1, r1.2.2.1, r1.2.2.2.1, ())
      else none
    else
      (F66 n a2 a3 a4).bind fun r2 =>
      (F66 n r2.2.1 r2.2.2.1 r2.2.2.2.1).bind fun r3 =>
      (F66 n r3.2.1 r3.2.2.1 r3.2.2.2.1).bind fun r4 =>
      (F66 n r4.2.1 r4.2.2.1 r4.2.2.2.1).bind fun r5 =>
      if (decide (a1 ≠ 0)) = true then
      some (((wrap64 ((wrap64 ((wrap64 ((wrap64 (r2.1 * 16777216)) + (wrap64 (r3.1 * 65536)))) + (wrap64 (r4.1 * 256)))) + r5.1)).tmod a1), r5.2.1, r5.2.2.1, r5.2.2.2.1, ())
      else none
noncomputable def c43 (n : Nat) : Con := ⟨[.one (.ptr 0 0), .one (.int .i64)], [[(.sl (.imm false) 5 (.int .u8)), (.int .i64), (.int .i64)]], [.one (.int .i64)], [[(.sl (.imm false) 5 (.int .u8)), (.int .i64), (.int .i64)]], fun (x : Unit × Int × List Int × Int × Int × Unit) => F43 n x.2.1 x.2.2.1 x.2.2.2.1 x.2.2.2.2.1⟩
noncomputable def G43 (n : Nat) : Gam := [((66, []), c66 n)]
theorem e43 (n : Nat) (x : Unit × Int × List Int × Int × Int × Unit) : evBody tab (G43 n) n (c43 n) Tryz.f43 x = F43 n x.2.1 x.2.2.1 x.2.2.2.1 x.2.2.2.2.1 := by kernel_rfl
theorem g43 (W : World) (n : Nat) : Good Tryz.prog W 43 (c43 n) := body_good follows tabOk (GamOk.cons (g66 W n) GamOk.nil) (f := 43) (fn := Tryz.f43) (c := bodyOf Tryz.f43) (by kernel_rfl) (by kernel_rfl) (by kernel_rfl) (by kernel_rfl) (by kernel_rfl) (by kernel_rfl) (by kernel_rfl) (fun x r h => ⟨n, (e43 n x).trans h⟩)
/-! spec.l1PickInt -/
noncomputable def F50 (n : Nat) (a1 : List Int) (a2 : List Int) (a3 : Int) (a4 : Int) : Option (Int × List Int × Int × Int × Unit) :=
  (F43 n (a1.length : Int) a2 a3 a4).bind fun r1 =>
  if (decide (0 ≤ r1.1)) = true then
  if (decide (r1.1 < (a1.length : Int))) = true then
  some ((rdOf (0 : Int) a1 r1.1), r1.2.1, r1.2.2.1, r1.2.2.2.1, ())
  else none
  else none
noncomputable def c50 (n : Nat) : Con := ⟨[.one (.ptr 0 0), .one (.sl (.imm true) 3 (.int .i64))], [[(.sl (.imm false) 5 (.int .u8)), (.int .i64), (.int .i64)]], [.one (.int .i64)], [[(.sl (.imm false) 5 (.int .u8)), (.int .i64), (.int .i64)]], fun (x : Unit × List Int × List Int × Int × Int × Unit) => F50 n x.2.1 x.2.2.1 x.2.2.2.1 x.2.2.2.2.1⟩
noncomputable def G50 (n : Nat) : Gam := [((43, []), c43 n)]
theorem e50 (n : Nat) (x : Unit × List Int × List Int × Int × Int × Unit) : evBody tab (G50 n) n (c50 n) Tryz.f50 x = F50 n x.2.1 x.2.2.1 x.2.2.2.1 x.2.2.2.2.1 := by kernel_rfl
theorem g50 (W : World) (n : Nat) : Good Tryz.prog W 50 (c50 n) := body_good follows tabOk (GamOk.cons (g43 W n) GamOk.nil) (f := 50) (fn := Tryz.f50) (c := bodyOf Tryz.f50) (by kernel_rfl) (by kernel_rfl) (by kernel_rfl) (by kernel_rfl) (by kernel_rfl) (by kernel_rfl) (by kernel_rfl) (fun x r h => ⟨n, (e50 n x).trans h⟩)
/-! spec.l1Pick -/
noncomputable def F45 (n : Nat) (a1 : List ByteArray) (a2 : List Int) (a3 : Int) (a4 : Int) : Option (ByteArray × List Int × Int × Int × Unit) :=
  (F43 n (a1.length : Int) a2 a3 a4).bind fun r1 =>
  if (decide (0 ≤ r1.1)) = true then
  if (decide (r1.1 < (a1.length : Int))) = true then
  some ((rdOf (⟨#[]⟩ : ByteArray) a1 r1.1), r1.2.1, r1.2.2.1, r1.2.2.2.1, ())
  else none
  else none
noncomputable def c45 (n : Nat) : Con := ⟨[.one (.ptr 0 0), .one (.sl (.imm true) 9 .str)], [[(.sl (.imm false) 5 (.int .u8)), (.int .i64), (.int .i64)]], [.one (.str)], [[(.sl (.imm false) 5 (.int .u8)), (.int .i64), (.int .i64)]], fun (x : Unit × List ByteArray × List Int × Int × Int × Unit) => F45 n x.2.1 x.2.2.1 x.2.2.2.1 x.2.2.2.2.1⟩
noncomputable def G45 (n : Nat) : Gam := [((43, []), c43 n)]
theorem e45 (n : Nat) (x : Unit × List ByteArray × List Int × Int × Int × Unit) : evBody tab (G45 n) n (c45 n) Tryz.f45 x = F45 n x.2.1 x.2.2.1 x.2.2.2.1 x.2.2.2.2.1 := by kernel_rfl
theorem g45 (W : World) (n : Nat) : Good Tryz.prog W 45 (c45 n) := body_good follows tabOk (GamOk.cons (g43 W n) GamOk.nil) (f := 45) (fn := Tryz.f45) (c := bodyOf Tryz.f45) (by kernel_rfl) (by kernel_rfl) (by kernel_rfl) (by kernel_rfl) (by kernel_rfl) (by kernel_rfl) (by kernel_rfl) (fun x r h => ⟨n, (e45 n x).trans h⟩)
/-! spec.l1Once -/
noncomputable def F65 (n : Nat) (a1 : Int) (a2 : List Int) (a3 : Int) (a4 : Int) : Option (Bool × List Int × Int × Int × Unit) :=
  (F43 n a1 a2 a3 a4).bind fun r1 =>
  some (decide (r1.1 = 0), r1.2.1, r1.2.2.1, r1.2.2.2.1, ())
noncomputable def c65 (n : Nat) : Con := ⟨[.one (.ptr 0 0), .one (.int .i64)], [[(.sl (.imm false) 5 (.int .u8)), (.int .i64), (.int .i64)]], [.one (.bool)], [[(.sl (.imm false) 5 (.int .u8)), (.int .i64), (.int .i64)]], fun (x : Unit × Int × List Int × Int × Int × Unit) => F65 n x.2.1 x.2.2.1 x.2.2.2.1 x.2.2.2.2.1⟩
noncomputable def G65 (n : Nat) : Gam := [((43, []), c43 n)]
theorem e65 (n : Nat) (x : Unit × Int × List Int × Int × Int × Unit) : evBody tab (G65 n) n (c65 n) Tryz.f65 x = F65 n x.2.1 x.2.2.1 x.2.2.2.1 x.2.2.2.2.1 := by kernel_rfl
theorem g65 (W : World) (n : Nat) : Good Tryz.prog W 65 (c65 n) := body_good follows tabOk (GamOk.cons (g43 W n) GamOk.nil) (f := 65) (fn := Tryz.f65) (c := bodyOf Tryz.f65) (by kernel_rfl) (by kernel_rfl) (by kernel_rfl) (by kernel_rfl) (by kernel_rfl) (by kernel_rfl) (by kernel_rfl) (fun x r h => ⟨n, (e65 n x).trans h⟩)
/-! spec.l5Val -/
noncomputable def F75 (n : Nat) (a1 : List Int) (a2 : Int) (a3 : Int) : Option (Int × List Int × Int × Int × Unit) :=
  (F43 n (60000 : Int) a1 a2 a3).bind fun r1 =>
  (F43 n (100 : Int) r1.2.1 r1.2.2.1 r1.2.2.2.1).bind fun r2 =>
  (F50 n ([0, 1, 5, 65535, r1.1, r2.1] : List Int) r2.2.1 r2.2.2.1 r2.2.2.2.1).bind fun r3 =>
  some (r3.1, r3.2.1, r3.2.2.1, r3.2.2.2.1, ())
noncomputable def c75 (n : Nat) : Con := ⟨[.one (.ptr 0 0)], [[(.sl (.imm false) 5 (.int .u8)), (.int .i64), (.int .i64)]], [.one (.int .i64)], [[(.sl (.imm false) 5 (.int .u8)), (.int .i64), (.int .i64)]], fun (x : Unit × List Int × Int × Int × Unit) => F75 n x.2.1 x.2.2.1 x.2.2.2.1⟩
noncomputable def G75 (n : Nat) : Gam := [((43, []), c43 n), ((50, []), c50 n)]
theorem e75 (n : Nat) (x : Unit × List Int × Int × Int × Unit) : evBody tab (G75 n) n (c75 n) Tryz.f75 x = F75 n x.2.1 x.2.2.1 x.2.2.2.1 := by kernel_rfl
theorem g75 (W : World) (n : Nat) : Good Tryz.prog W 75 (c75 n) := body_good follows tabOk (GamOk.cons (g43 W n) (GamOk.cons (g50 W n) GamOk.nil)) (f := 75) (fn := Tryz.f75) (c := bodyOf Tryz.f75) (by kernel_rfl) (by kernel_rfl) (by kernel_rfl) (by kernel_rfl) (by kernel_rfl) (by kernel_rfl) (by kernel_rfl) (fun x r h => ⟨n, (e75 n x).trans h⟩)
/-! spec.l10Op -/
noncomputable def F55 (n : Nat) (a1 : List Int) (a2 : Int) (a3 : Int) : Option (Int × ByteArray × Int × Int × List Int × Int × Int × Unit) :=
  (F45 n ([(⟨#[97]⟩ : ByteArray), (⟨#[98]⟩ : ByteArray), (⟨#[99, 112, 117]⟩ : ByteArray), (⟨#[97]⟩ : ByteArray), (⟨#[98]⟩ : ByteArray), (⟨#[114, 101, 113]⟩ : ByteArray), (⟨#[113]⟩ : ByteArray), (⟨#[109, 101, 109]⟩ : ByteArray)] : List ByteArray) a1 a2 a3).bind fun r1 =>
  (F65 n (3 : Int) r1.2.1 r1.2.2.1 r1.2.2.2.1).bind fun r2 =>
  if r2.1 = true then
    (F50 n ([1, 2, 3] : List Int) r2.2.1 r2.2.2.1 r2.2.2.2.1).bind fun r3 =>
    some (1, r1.1, r3.1, 0, r3.2.1, r3.2.2.1, r3.2.2.2.1, ())
  else
    (F75 n r2.2.1 r2.2.2.1 r2.2.2.2.1).bind fun r4 =>
    some (2, r1.1, 0, r4.1, r4.2.1, r4.2.2.1, r4.2.2.2.1, ())
noncomputable def c55 (n : Nat) : Con := ⟨[.one (.ptr 0 0)], [[(.sl (.imm false) 5 (.int .u8)), (.int .i64), (.int .i64)]], [.agg [(.int .i64), (.str), (.int .i64), (.int .i64)]], [[(.sl (.imm false) 5 (.int .u8)), (.int .i64), (.int .i64)]], fun (x : Unit × List Int × Int × Int × Unit) => F55 n x.2.1 x.2.2.1 x.2.2.2.1⟩
noncomputable def G55 (n : Nat) : Gam := [((45, []), c45 n), ((50, []), c50 n), ((65, []), c65 n), ((75, []), c75 n)]
theorem e55 (n : Nat) (x : Unit × List Int × Int × Int × Unit) : evBody tab (G55 n) n (c55 n) Tryz.f55 x = F55 n x.2.1 x.2.2.1 x.2.2.2.1 := by kernel_rfl
theorem g55 (W : World) (n : Nat) : Good Tryz.prog W 55 (c55 n) := body_good follows tabOk (GamOk.cons (g45 W n) (GamOk.cons (g50 W n) (GamOk.cons (g65 W n) (GamOk.cons (g75 W n) GamOk.nil)))) (f := 55) (fn := Tryz.f55) (c := bodyOf Tryz.f55) (by kernel_rfl) (by kernel_rfl) (by kernel_rfl) (by kernel_rfl) (by kernel_rfl) (by kernel_rfl) (by kernel_rfl) (fun x r h => ⟨n, (e55 n x).trans h⟩)
/-! spec.l4Key -/
noncomputable def F77 (n : Nat) (a1 : List Int) (a2 : Int) (a3 : Int) : Option (ByteArray × List Int × Int × Int × Unit) :=
  (F45 n ([(⟨#[97]⟩ : ByteArray), (⟨#[98]⟩ : ByteArray), (⟨#[99, 112, 117]⟩ : ByteArray), (⟨#[114, 101, 113]⟩ : ByteArray), (⟨#[120, 95, 49]⟩ : ByteArray), (⟨#[90, 57]⟩ : ByteArray), (⟨#[109, 101, 109]⟩ : ByteArray), (⟨#[113]⟩ : ByteArray)] : List ByteArray) a1 a2 a3).bind fun r1 =>
  some (r1.1, r1.2.1, r1.2.2.1, r1.2.2.2.1, ())
noncomputable def c77 (n : Nat) : Con := ⟨[.one (.ptr 0 0)], [[(.sl (.imm false) 5 (.int .u8)), (.int .i64), (.int .i64)]], [.one (.str)], [[(.sl (.imm false) 5 (.int .u8)), (.int .i64), (.int .i64)]], fun (x : Unit × List Int × Int × Int × Unit) => F77 n x.2.1 x.2.2.1 x.2.2.2.1⟩
noncomputable def G77 (n : Nat) : Gam := [((45, []), c45 n)]
theorem e77 (n : Nat) (x : Unit × List Int × Int × Int × Unit) : evBody tab (G77 n) n (c77 n) Tryz.f77 x = F77 n x.2.1 x.2.2.1 x.2.2.2.1 := by kernel_rfl
theorem g77 (W : World) (n : Nat) : Good Tryz.prog W 77 (c77 n) := body_good follows tabOk (GamOk.cons (g45 W n) GamOk.nil) (f := 77) (fn := Tryz.f77) (c := bodyOf Tryz.f77) (by kernel_rfl) (by kernel_rfl) (by kernel_rfl) (by kernel_rfl) (by kernel_rfl) (by kernel_rfl) (by kernel_rfl) (fun x r h => ⟨n, (e77 n x).trans h⟩)
/-! spec.l4Any -/
noncomputable def F56 (n : Nat) (a1 : List Int) (a2 : Int) (a3 : Int) : Option (ByteArray × List Int × Int × Int × Unit) :=
  (F65 n (5 : Int) a1 a2 a3).bind fun r1 =>
  if r1.1 = true then
    (F45 n ([(⟨#[]⟩ : ByteArray), (⟨#[97, 98, 99, 100, 101]⟩ : ByteArray), (⟨#[97, 32, 98]⟩ : ByteArray), (⟨#[97, 58]⟩ : ByteArray), (⟨#[0]⟩ : ByteArray), (⟨#[97, 98, 99, 100]⟩ : ByteArray), (⟨#[255]⟩ : ByteArray)] : List ByteArray) r1.2.1 r1.2.2.1 r1.2.2.2.1).bind fun r2 =>
    some (r2.1, r2.2.1, r2.2.2.1, r2.2.2.2.1, ())
  else
    (F77 n r1.2.1 r1.2.2.1 r1.2.2.2.1).bind fun r3 =>
    some (r3.1, r3.2.1, r3.2.2.1, r3.2.2.2.1, ())
noncomputable def c56 (n : Nat) : Con := ⟨[.one (.ptr 0 0)], [[(.sl (.imm false) 5 (.int .u8)), (.int .i64), (.int .i64)]], [.one (.str)], [[(.sl (.imm false) 5 (.int .u8)), (.int .i64), (.int .i64)]], fun (x : Unit × List Int × Int × Int × Unit) => F56 n x.2.1 x.2.2.1 x.2.2.2.1⟩
noncomputable def G56 (n : Nat) : Gam := [((45, []), c45 n), ((65, []), c65 n), ((77, []), c77 n)]
theorem e56 (n : Nat) (x : Unit × List Int × Int × Int × Unit) : evBody tab (G56 n) n (c56 n) Tryz.f56 x = F56 n x.2.1 x.2.2.1 x.2.2.2.1 := by kernel_rfl
theorem g56 (W : World) (n : Nat) : Good Tryz.prog W 56 (c56 n) := body_good follows tabOk (GamOk.cons (g45 W n) (GamOk.cons (g65 W n) (GamOk.cons (g77 W n) GamOk.nil))) (f := 56) (fn := Tryz.f56) (c := bodyOf Tryz.f56) (by kernel_rfl) (by kernel_rfl) (by kernel_rfl) (by kernel_rfl) (by kernel_rfl) (by kernel_rfl) (by kernel_rfl) (fun x r h => ⟨n, (e56 n x).trans h⟩)
/-! spec.l5Kind -/
noncomputable def F57 (n : Nat) (a1 : List Int) (a2 : Int) (a3 : Int) : Option (Int × List Int × Int × Int × Unit) :=
  (F50 n ([1, 2, 3, 1, 2, 3, 1, 2, 3, 0, 4] : List Int) a1 a2 a3).bind fun r1 =>
  some (r1.1, r1.2.1, r1.2.2.1, r1.2.2.2.1, ())
noncomputable def c57 (n : Nat) : Con := ⟨[.one (.ptr 0 0)], [[(.sl (.imm false) 5 (.int .u8)), (.int .i64), (.int .i64)]], [.one (.int .i64)], [[(.sl (.imm false) 5 (.int .u8)), (.int .i64), (.int .i64)]], fun (x : Unit × List Int × Int × Int × Unit) => F57 n x.2.1 x.2.2.1 x.2.2.2.1⟩
noncomputable def G57 (n : Nat) : Gam := [((50, []), c50 n)]
theorem e57 (n : Nat) (x : Unit × List Int × Int × Int × Unit) : evBody tab (G57 n) n (c57 n) Tryz.f57 x = F57 n x.2.1 x.2.2.1 x.2.2.2.1 := by kernel_rfl
theorem g57 (W : World) (n : Nat) : Good Tryz.prog W 57 (c57 n) := body_good follows tabOk (GamOk.cons (g50 W n) GamOk.nil) (f := 57) (fn := Tryz.f57) (c := bodyOf Tryz.f57) (by kernel_rfl) (by kernel_rfl) (by kernel_rfl) (by kernel_rfl) (by kernel_rfl) (by kernel_rfl) (by kernel_rfl) (fun x r h => ⟨n, (e57 n x).trans h⟩)
/-! spec.DrawOpOk -/
noncomputable def F27 (n : Nat) (a0 : List Int) : Option (Int × ByteArray × Int × Int × Unit) :=
  (F22 n a0).bind fun r1 =>
  (F55 n r1.2.1 r1.2.2.1 r1.2.2.2.1).bind fun r2 =>
  (F43 n (8 : Int) r2.2.2.2.2.1 r2.2.2.2.2.2.1 r2.2.2.2.2.2.2.1).bind fun r3 =>
  if (decide (r3.1 = 0)) = true then
    (F43 n (5 : Int) r3.2.1 r3.2.2.1 r3.2.2.2.1).bind fun r4 =>
    some (r4.1, r2.2.1, r2.2.2.1, r2.2.2.2.1, ())
  else
    if (decide (r3.1 = 1)) = true then
      (F56 n r3.2.1 r3.2.2.1 r3.2.2.2.1).bind fun r5 =>
      some (r2.1, r5.1, r2.2.2.1, r2.2.2.2.1, ())
    else
      if (decide (r3.1 = 2)) = true then
        (F57 n r3.2.1 r3.2.2.1 r3.2.2.2.1).bind fun r6 =>
        some (r2.1, r2.2.1, r6.1, r2.2.2.2.1, ())
      else
        if (decide (r3.1 = 3)) = true then
          (F50 n ([(-1), 65535, 65536, 0] : List Int) r3.2.1 r3.2.2.1 r3.2.2.2.1).bind fun r7 =>
          some (r2.1, r2.2.1, r2.2.2.1, r7.1, ())
        else
          if (decide (r3.1 = 4)) = true then
            some (3, (⟨#[]⟩ : ByteArray), 0, 0, ())
          else
            some (r2.1, r2.2.1, r2.2.2.1, r2.2.2.2.1, ())
noncomputable def c27 (n : Nat) : Con := ⟨[.one (.sl (.imm false) 5 (.int .u8))], [], [.agg [(.int .i64), (.str), (.int .i64), (.int .i64)]], [], fun (x : List Int × Unit) => F27 n x.1⟩
noncomputable def G27 (n : Nat) : Gam := [((22, []), c22 n), ((43, []), c43 n), ((50, []), c50 n), ((55, []), c55 n), ((56, []), c56 n), ((57, []), c57 n)]
theorem e27 (n : Nat) (x : List Int × Unit) : evBody tab (G27 n) n (c27 n) Tryz.f27 x = F27 n x.1 := by kernel_rfl
theorem g27 (W : World) (n : Nat) : Good Tryz.prog W 27 (c27 n) := body_good follows tabOk (GamOk.cons (g22 W n) (GamOk.cons (g43 W n) (GamOk.cons (g50 W n) (GamOk.cons (g55 W n) (GamOk.cons (g56 W n) (GamOk.cons (g57 W n) GamOk.nil)))))) (f := 27) (fn := Tryz.f27) (c := bodyOf Tryz.f27) (by kernel_rfl) (by kernel_rfl) (by kernel_rfl) (by kernel_rfl) (by kernel_rfl) (by kernel_rfl) (by kernel_rfl) (fun x r h => ⟨n, (e27 n x).trans h⟩)
/-! spec.DrawShowOp -/
noncomputable def F10 (n : Nat) (a0 : List Int) : Option (Int × ByteArray × Int × Int × Unit) :=
  (F27 n a0).bind fun r1 =>
  some (r1.1, r1.2.1, r1.2.2.1, r1.2.2.2.1, ())
noncomputable def c10 (n : Nat) : Con := ⟨[.one (.sl (.imm false) 5 (.int .u8))], [], [.agg [(.int .i64), (.str), (.int .i64), (.int .i64)]], [], fun (x : List Int × Unit) => F10 n x.1⟩
noncomputable def G10 (n : Nat) : Gam := [((27, []), c27 n)]
theorem e10 (n : Nat) (x : List Int × Unit) : evBody tab (G10 n) n (c10 n) Tryz.f10 x = F10 n x.1 := by kernel_rfl
theorem g10 (W : World) (n : Nat) : Good Tryz.prog W 10 (c10 n) := body_good follows tabOk (GamOk.cons (g27 W n) GamOk.nil) (f := 10) (fn := Tryz.f10) (c := bodyOf Tryz.f10) (by kernel_rfl) (by kernel_rfl) (by kernel_rfl) (by kernel_rfl) (by kernel_rfl) (by kernel_rfl) (by kernel_rfl) (fun x r h => ⟨n, (e10 n x).trans h⟩)
/-! impl.KindWord -/
noncomputable def F32 (n : Nat) (a0 : Int) : Option (ByteArray × Unit) :=
  if (decide (a0 = 1)) = true then
    some ((⟨#[99]⟩ : ByteArray), ())
  else
    if (decide (a0 = 2)) = true then
      some ((⟨#[103]⟩ : ByteArray), ())
    else
      if (decide (a0 = 3)) = true then
        some ((⟨#[109, 115]⟩ : ByteArray), ())
      else
        some ((⟨#[]⟩ : ByteArray), ())
noncomputable def c32 (n : Nat) : Con := ⟨[.one (.int .i64)], [], [.one (.str)], [], fun (x : Int × Unit) => F32 n x.1⟩
noncomputable def G32 (n : Nat) : Gam := []
theorem e32 (n : Nat) (x : Int × Unit) : evBody tab (G32 n) n (c32 n) Tryz.f32 x = F32 n x.1 := by kernel_rfl
theorem g32 (W : World) (n : Nat) : Good Tryz.prog W 32 (c32 n) := body_good follows tabOk GamOk.nil (f := 32) (fn := Tryz.f32) (c := bodyOf Tryz.f32) (by kernel_rfl) (by kernel_rfl) (by kernel_rfl) (by kernel_rfl) (by kernel_rfl) (by kernel_rfl) (by kernel_rfl) (fun x r h => ⟨n, (e32 n x).trans h⟩)
/-! impl.within -/
noncomputable def F39 (n : Nat) (a0 : Int) (a1 : Int) (a2 : Int) : Option (Bool × Unit) :=
  if (decide (a1 ≤ a0)) = true then
    some (decide (a0 ≤ a2), ())
  else
    some (false, ())
noncomputable def c39 (n : Nat) : Con := ⟨[.one (.int .i64), .one (.int .i64), .one (.int .i64)], [], [.one (.bool)], [], fun (x : Int × Int × Int × Unit) => F39 n x.1 x.2.1 x.2.2.1⟩
noncomputable def G39 (n : Nat) : Gam := []
theorem e39 (n : Nat) (x : Int × Int × Int × Unit) : evBody tab (G39 n) n (c39 n) Tryz.f39 x = F39 n x.1 x.2.1 x.2.2.1 := by kernel_rfl
theorem g39 (W : World) (n : Nat) : Good Tryz.prog W 39 (c39 n) := body_good follows tabOk GamOk.nil (f := 39) (fn := Tryz.f39) (c := bodyOf Tryz.f39) (by kernel_rfl) (by kernel_rfl) (by kernel_rfl) (by kernel_rfl) (by kernel_rfl) (by kernel_rfl) (by kernel_rfl) (fun x r h => ⟨n, (e39 n x).trans h⟩)
/-! impl.KeyOk -/
noncomputable def j59_0 (n : Nat) (g0 : ByteArray → Int → Int → Option (Bool × Unit)) (s0 : ByteArray) (i1 : Int) (i2 : Int) (b3 : Bool) : Option (Bool × Unit) :=
  if b3 = true then
    some (false, ())
  else
    g0 s0 i1 (wrap64 (i2 + 1))
noncomputable def st59_0 (n : Nat) (g0 : ByteArray → Int → Int → Option (Bool × Unit)) (s0 : ByteArray) (i1 : Int) (i2 : Int) : Option (Bool × Unit) :=
  if (decide (i2 < i1)) = true then
    if (decide (0 ≤ i2)) = true then
    if (decide (i2 < (s0.size : Int))) = true then
    if (decide ((bt s0 i2) ≥ 97)) = true then
      if (decide ((bt s0 i2) ≤ 122)) = true then
        g0 s0 i1 (wrap64 (i2 + 1))
      else
        if (decide ((bt s0 i2) ≥ 65)) = true then
          if (decide ((bt s0 i2) ≤ 90)) = true then
            g0 s0 i1 (wrap64 (i2 + 1))
          else
            if (decide ((bt s0 i2) ≥ 48)) = true then
              if (decide ((bt s0 i2) ≤ 57)) = true then
                g0 s0 i1 (wrap64 (i2 + 1))
              else
                j59_0 n g0 s0 i1 i2 (!(decide ((bt s0 i2) = 95)))
            else
              j59_0 n g0 s0 i1 i2 (!(decide ((bt s0 i2) = 95)))
        else
          if (decide ((bt s0 i2) ≥ 48)) = true then
            if (decide ((bt s0 i2) ≤ 57)) = true then
              g0 s0 i1 (wrap64 (i2 + 1))
            else
              j59_0 n g0 s0 i1 i2 (!(decide ((bt s0 i2) = 95)))
          else
            j59_0 n g0 s0 i1 i2 (!(decide ((bt s0 i2) = 95)))
    else
      if (decide ((bt s0 i2) ≥ 65)) = true then
        if (decide ((bt s0 i2) ≤ 90)) = true then
          g0 s0 i1 (wrap64 (i2 + 1))
        else
          if (decide ((bt s0 i2) ≥ 48)) = true then
            if (decide ((bt s0 i2) ≤ 57)) = true then
              g0 s0 i1 (wrap64 (i2 + 1))
            else
              j59_0 n g0 s0 i1 i2 (!(decide ((bt s0 i2) = 95)))
          else
            j59_0 n g0 s0 i1 i2 (!(decide ((bt s0 i2) = 95)))
      else
        if (decide ((bt s0 i2) ≥ 48)) = true then
          if (decide ((bt s0 i2) ≤ 57)) = true then
            g0 s0 i1 (wrap64 (i2 + 1))
          else
            j59_0 n g0 s0 i1 i2 (!(decide ((bt s0 i2) = 95)))
        else
          j59_0 n g0 s0 i1 i2 (!(decide ((bt s0 i2) = 95)))
    else none
    else none
  else
    (F39 n (s0.size : Int) (1 : Int) (4 : Int)).bind fun r1 =>
    some (r1.1, ())
noncomputable def lp59_0 (n : Nat) : Nat → ByteArray → Int → Int → Option (Bool × Unit)
  | 0 => fun _ _ _ => none
  | k + 1 => st59_0 n (lp59_0 n k)
noncomputable def st59 (n : Nat) (h0 : ByteArray → Int → Int → Option (Bool × Unit)) (a0 : ByteArray) : Option (Bool × Unit) :=
  h0 a0 (a0.size : Int) (0 : Int)
noncomputable def F59 (n : Nat) (a0 : ByteArray) : Option (Bool × Unit) := st59 n (lp59_0 n n) a0
noncomputable def c59 (n : Nat) : Con := ⟨[.one (.str)], [], [.one (.bool)], [], fun (x : ByteArray × Unit) => F59 n x.1⟩
noncomputable def G59 (n : Nat) : Gam := [((39, []), c39 n)]
noncomputable def S59_0 (s0 : ByteArray) (i1 : Int) (i2 : Int) : St := ⟨[.str s0] ++ List.replicate 5 .dead ++ [.int .i64 i1, .int .i64 i2] ++ List.replicate 36 .dead, List.replicate 44 Ob.none⟩
noncomputable def ga59_0 (n : Nat) (ks : List Nat) (k : Nat) (st : St) : Option (Bool × Unit) := goAt tab (G59 n) n (bodyOf Tryz.f59) (lvOf Tryz.f59) (lvOf Tryz.f59).ret [1, 0, 1, 0] ks k st (evBody.endK tab (c59 n) Tryz.f59)
theorem el59_0 (n : Nat) : ∀ (k : Nat), ∀ (s0 : ByteArray) (i1 : Int) (i2 : Int), ga59_0 n [] k (S59_0 s0 i1 i2) = lp59_0 n k s0 i1 i2 := by
  intro k
  induction k with
  | zero => intros; rfl
  | succ k ih =>
    intro s0 i1 i2
    have h : ga59_0 n [] (k + 1) (S59_0 s0 i1 i2) = st59_0 n (fun w0 w1 w2 => ga59_0 n [] k (S59_0 w0 w1 w2)) s0 i1 i2 := by kernel_rfl
    rw [h]
    have e : (fun w0 w1 w2 => ga59_0 n [] k (S59_0 w0 w1 w2)) = lp59_0 n k := by
      funext w0 w1 w2; exact ih w0 w1 w2
    rw [e]
    rfl
theorem e59 (n : Nat) (x : ByteArray × Unit) : evBody tab (G59 n) n (c59 n) Tryz.f59 x = F59 n x.1 := by
  have h : evBody tab (G59 n) n (c59 n) Tryz.f59 x = st59 n (fun w0 w1 w2 => ga59_0 n [] n (S59_0 w0 w1 w2)) x.1 := by kernel_rfl
  rw [h]
  have e0 : (fun w0 w1 w2 => ga59_0 n [] n (S59_0 w0 w1 w2)) = lp59_0 n n := by
    funext w0 w1 w2; exact el59_0 n n w0 w1 w2
  rw [e0]
  rfl
theorem g59 (W : World) (n : Nat) : Good Tryz.prog W 59 (c59 n) := body_good follows tabOk (GamOk.cons (g39 W n) GamOk.nil) (f := 59) (fn := Tryz.f59) (c := bodyOf Tryz.f59) (by kernel_rfl) (by kernel_rfl) (by kernel_rfl) (by kernel_rfl) (by kernel_rfl) (by kernel_rfl) (by kernel_rfl) (fun x r h => ⟨n, (e59 n x).trans h⟩)
/-! impl.OpOk -/
noncomputable def F31 (n : Nat) (a0 : Int) (a1 : ByteArray) (a2 : Int) (a3 : Int) : Option (Bool × Unit) :=
  if (decide (a0 = 1)) = true then
    (F59 n a1).bind fun r1 =>
    if r1.1 = true then
      (F32 n a2).bind fun r2 =>
      if (!decide (r2.1.toList = (⟨#[]⟩ : ByteArray).toList)) = true then
        some (decide (a3 = 0), ())
      else
        some (false, ())
    else
      some (false, ())
  else
    if (decide (a0 = 2)) = true then
      (F59 n a1).bind fun r3 =>
      if r3.1 = true then
        if (decide (a2 = 0)) = true then
          (F39 n a3 (0 : Int) (65535 : Int)).bind fun r4 =>
          some (r4.1, ())
        else
          some (false, ())
      else
        some (false, ())
    else
      if (decide (a0 = 3)) = true then
        some ((decide (a0 = 3) && (decide (a1.toList = (⟨#[]⟩ : ByteArray).toList) && (decide (a2 = 0) && (decide (a3 = 0) && true)))), ())
      else
        some (false, ())
noncomputable def c31 (n : Nat) : Con := ⟨[.agg [(.int .i64), (.str), (.int .i64), (.int .i64)]], [], [.one (.bool)], [], fun (x : Int × ByteArray × Int × Int × Unit) => F31 n x.1 x.2.1 x.2.2.1 x.2.2.2.1⟩
noncomputable def G31 (n : Nat) : Gam := [((32, []), c32 n), ((39, []), c39 n), ((59, []), c59 n)]
theorem e31 (n : Nat) (x : Int × ByteArray × Int × Int × Unit) : evBody tab (G31 n) n (c31 n) Tryz.f31 x = F31 n x.1 x.2.1 x.2.2.1 x.2.2.2.1 := by kernel_rfl
theorem g31 (W : World) (n : Nat) : Good Tryz.prog W 31 (c31 n) := body_good follows tabOk (GamOk.cons (g32 W n) (GamOk.cons (g39 W n) (GamOk.cons (g59 W n) GamOk.nil))) (f := 31) (fn := Tryz.f31) (c := bodyOf Tryz.f31) (by kernel_rfl) (by kernel_rfl) (by kernel_rfl) (by kernel_rfl) (by kernel_rfl) (by kernel_rfl) (by kernel_rfl) (fun x r h => ⟨n, (e31 n x).trans h⟩)
/-! impl.Dec -/
noncomputable def F33 (n : Nat) (a0 : Int) : Option (ByteArray × Unit) :=
  (F60 n a0).bind fun r1 =>
  some (r1.1, ())
noncomputable def c33 (n : Nat) : Con := ⟨[.one (.int .i64)], [], [.one (.str)], [], fun (x : Int × Unit) => F33 n x.1⟩
noncomputable def G33 (n : Nat) : Gam := [((60, []), c60 n)]
theorem e33 (n : Nat) (x : Int × Unit) : evBody tab (G33 n) n (c33 n) Tryz.f33 x = F33 n x.1 := by kernel_rfl
theorem g33 (W : World) (n : Nat) (h60 : ∀ n, Good Tryz.prog W 60 (c60 n)) : Good Tryz.prog W 33 (c33 n) := body_good follows tabOk (GamOk.cons ((fun (_ : World) => h60) W n) GamOk.nil) (f := 33) (fn := Tryz.f33) (c := bodyOf Tryz.f33) (by kernel_rfl) (by kernel_rfl) (by kernel_rfl) (by kernel_rfl) (by kernel_rfl) (by kernel_rfl) (by kernel_rfl) (fun x r h => ⟨n, (e33 n x).trans h⟩)
/-! impl.ShowOp -/
noncomputable def F12 (n : Nat) (a0 : Int) (a1 : ByteArray) (a2 : Int) (a3 : Int) : Option (ByteArray × Unit) :=
  (F31 n a0 a1 a2 a3).bind fun r1 =>
  if (!r1.1) = true then
    some ((⟨#[]⟩ : ByteArray), ())
  else
    if (decide (a0 = 1)) = true then
      if (decide (((⟨#[114, 101, 103, 32]⟩ : ByteArray).size + a1.size : Nat) ≤ 9223372036854775807)) = true then
      if (decide ((((⟨#[114, 101, 103, 32]⟩ : ByteArray) ++ a1).size + (⟨#[32]⟩ : ByteArray).size : Nat) ≤ 9223372036854775807)) = true then
      (F32 n a2).bind fun r2 =>
      if (decide (((((⟨#[114, 101, 103, 32]⟩ : ByteArray) ++ a1) ++ (⟨#[32]⟩ : ByteArray)).size + r2.1.size : Nat) ≤ 9223372036854775807)) = true then
      some (((((⟨#[114, 101, 103, 32]⟩ : ByteArray) ++ a1) ++ (⟨#[32]⟩ : ByteArray)) ++ r2.1), ())
      else none
      else none
      else none
    else
      if (decide (a0 = 2)) = true then
        if (decide (((⟨#[114, 101, 99, 32]⟩ : ByteArray).size + a1.size : Nat) ≤ 9223372036854775807)) = true then
        if (decide ((((⟨#[114, 101, 99, 32]⟩ : ByteArray) ++ a1).size + (⟨#[32]⟩ : ByteArray).size : Nat) ≤ 9223372036854775807)) = true then
        (F33 n a3).bind fun r3 =>
        if (decide (((((⟨#[114, 101, 99, 32]⟩ : ByteArray) ++ a1) ++ (⟨#[32]⟩ : ByteArray)).size + r3.1.size : Nat) ≤ 9223372036854775807)) = true then
        some (((((⟨#[114, 101, 99, 32]⟩ : ByteArray) ++ a1) ++ (⟨#[32]⟩ : ByteArray)) ++ r3.1), ())
        else none
        else none
        else none
      else
        some ((⟨#[102, 108, 117, 115, 104]⟩ : ByteArray), ())
noncomputable def c12 (n : Nat) : Con := ⟨[.agg [(.int .i64), (.str), (.int .i64), (.int .i64)]], [], [.one (.str)], [], fun (x : Int × ByteArray × Int × Int × Unit) => F12 n x.1 x.2.1 x.2.2.1 x.2.2.2.1⟩
noncomputable def G12 (n : Nat) : Gam := [((31, []), c31 n), ((32, []), c32 n), ((33, []), c33 n)]
theorem e12 (n : Nat) (x : Int × ByteArray × Int × Int × Unit) : evBody tab (G12 n) n (c12 n) Tryz.f12 x = F12 n x.1 x.2.1 x.2.2.1 x.2.2.2.1 := by kernel_rfl
theorem g12 (W : World) (n : Nat) (h60 : ∀ n, Good Tryz.prog W 60 (c60 n)) : Good Tryz.prog W 12 (c12 n) := body_good follows tabOk (GamOk.cons (g31 W n) (GamOk.cons (g32 W n) (GamOk.cons (g33 W n h60) GamOk.nil))) (f := 12) (fn := Tryz.f12) (c := bodyOf Tryz.f12) (by kernel_rfl) (by kernel_rfl) (by kernel_rfl) (by kernel_rfl) (by kernel_rfl) (by kernel_rfl) (by kernel_rfl) (fun x r h => ⟨n, (e12 n x).trans h⟩)
/-! impl.KindOf -/
noncomputable def st29_0 (n : Nat) (g0 : ByteArray → Int → Option (Int × Unit)) (s0 : ByteArray) (i1 : Int) : Option (Int × Unit) :=
  if (decide (i1 ≤ 3)) = true then
    (F32 n i1).bind fun r1 =>
    if (decide (r1.1.toList = s0.toList)) = true then
      some (i1, ())
    else
      g0 s0 (wrap64 (i1 + 1))
  else
    some (0, ())
noncomputable def lp29_0 (n : Nat) : Nat → ByteArray → Int → Option (Int × Unit)
  | 0 => fun _ _ => none
  | k + 1 => st29_0 n (lp29_0 n k)
noncomputable def st29 (n : Nat) (h0 : ByteArray → Int → Option (Int × Unit)) (a0 : ByteArray) : Option (Int × Unit) :=
  h0 a0 (1 : Int)
noncomputable def F29 (n : Nat) (a0 : ByteArray) : Option (Int × Unit) := st29 n (lp29_0 n n) a0
noncomputable def c29 (n : Nat) : Con := ⟨[.one (.str)], [], [.one (.int .i64)], [], fun (x : ByteArray × Unit) => F29 n x.1⟩
noncomputable def G29 (n : Nat) : Gam := [((32, []), c32 n)]
noncomputable def S29_0 (s0 : ByteArray) (i1 : Int) : St := ⟨[.str s0, .dead, .dead, .int .i64 i1] ++ List.replicate 9 .dead, List.replicate 13 Ob.none⟩
noncomputable def ga29_0 (n : Nat) (ks : List Nat) (k : Nat) (st : St) : Option (Int × Unit) := goAt tab (G29 n) n (bodyOf Tryz.f29) (lvOf Tryz.f29) (lvOf Tryz.f29).ret [1, 0, 1, 0] ks k st (evBody.endK tab (c29 n) Tryz.f29)
theorem el29_0 (n : Nat) : ∀ (k : Nat), ∀ (s0 : ByteArray) (i1 : Int), ga29_0 n [] k (S29_0 s0 i1) = lp29_0 n k s0 i1 := by
  intro k
  induction k with
  | zero => intros; rfl
  | succ k ih =>
    intro s0 i1
    have h : ga29_0 n [] (k + 1) (S29_0 s0 i1) = st29_0 n (fun w0 w1 => ga29_0 n [] k (S29_0 w0 w1)) s0 i1 := by kernel_rfl
    rw [h]
    have e : (fun w0 w1 => ga29_0 n [] k (S29_0 w0 w1)) = lp29_0 n k := by
      funext w0 w1; exact ih w0 w1
    rw [e]
    rfl
theorem e29 (n : Nat) (x : ByteArray × Unit) : evBody tab (G29 n) n (c29 n) Tryz.f29 x = F29 n x.1 := by
  have h : evBody tab (G29 n) n (c29 n) Tryz.f29 x = st29 n (fun w0 w1 => ga29_0 n [] n (S29_0 w0 w1)) x.1 := by kernel_rfl
  rw [h]
  have e0 : (fun w0 w1 => ga29_0 n [] n (S29_0 w0 w1)) = lp29_0 n n := by
    funext w0 w1; exact el29_0 n n w0 w1
  rw [e0]
  rfl
theorem g29 (W : World) (n : Nat) : Good Tryz.prog W 29 (c29 n) := body_good follows tabOk (GamOk.cons (g32 W n) GamOk.nil) (f := 29) (fn := Tryz.f29) (c := bodyOf Tryz.f29) (by kernel_rfl) (by kernel_rfl) (by kernel_rfl) (by kernel_rfl) (by kernel_rfl) (by kernel_rfl) (by kernel_rfl) (fun x r h => ⟨n, (e29 n x).trans h⟩)
/-! impl.ReadDec -/
noncomputable def st30_0 (n : Nat) (g0 : ByteArray → ByteArray → Int → Int → Int → Int → Option (Int × Bool × Unit)) (s0 : ByteArray) (s1 : ByteArray) (i2 : Int) (i3 : Int) (i4 : Int) (i5 : Int) : Option (Int × Bool × Unit) :=
  if (decide (i5 < i4)) = true then
    if (decide (0 ≤ i5)) = true then
    if (decide (i5 < (s1.size : Int))) = true then
    if (decide ((bt s1 i5) < 48)) = true then
      some (0, false, ())
    else
      if (decide (0 ≤ i5)) = true then
      if (decide (i5 < (s1.size : Int))) = true then
      if (decide ((bt s1 i5) > 57)) = true then
        some (0, false, ())
      else
        if (decide (0 ≤ i5)) = true then
        if (decide (i5 < (s1.size : Int))) = true then
        g0 s0 s1 i2 (wrap64 ((wrap64 (10 * i3)) + (wrap64 ((wrapI .u8 ((bt s1 i5) - 48)))))) i4 (wrap64 (i5 + 1))
        else none
        else none
      else none
      else none
    else none
    else none
  else
    (F33 n (wrap64 (i2 * i3))).bind fun r2 =>
    if (!decide (r2.1.toList = s0.toList)) = true then
      some (0, false, ())
    else
      some ((wrap64 (i2 * i3)), true, ())
noncomputable def lp30_0 (n : Nat) : Nat → ByteArray → ByteArray → Int → Int → Int → Int → Option (Int × Bool × Unit)
  | 0 => fun _ _ _ _ _ _ => none
  | k + 1 => st30_0 n (lp30_0 n k)
noncomputable def st30 (n : Nat) (h0 : ByteArray → ByteArray → Int → Int → Int → Int → Option (Int × Bool × Unit)) (a0 : ByteArray) : Option (Int × Bool × Unit) :=
  if (decide ((a0.size : Int) > 0)) = true then
    if (decide (0 ≤ 0)) = true then
    if (decide (0 < (a0.size : Int))) = true then
    if (decide ((bt a0 (0 : Int)) = 45)) = true then
      if (decide (0 ≤ 1)) = true then
      if (decide (1 ≤ (a0.size : Int))) = true then
      if (decide ((a0.size : Int) ≤ (a0.size : Int))) = true then
      (F39 n ((a0.extract (1 : Int).toNat (a0.size : Int).toNat).size : Int) (1 : Int) (9 : Int)).bind fun r1 =>
      if (!r1.1) = true then
        some (0, false, ())
      else
        h0 a0 (a0.extract (1 : Int).toNat (a0.size : Int).toNat) (-1) (0 : Int) ((a0.extract (1 : Int).toNat (a0.size : Int).toNat).size : Int) (0 : Int)
      else none
      else none
      else none
    else
      (F39 n (a0.size : Int) (1 : Int) (9 : Int)).bind fun r3 =>
      if (!r3.1) = true then
        some (0, false, ())
      else
        h0 a0 a0 (1 : Int) (0 : Int) (a0.size : Int) (0 : Int)
    else none
    else none
  else
    (F39 n (a0.size : Int) (1 : Int) (9 : Int)).bind fun r4 =>
    if (!r4.1) = true then
      some (0, false, ())
    else
      h0 a0 a0 (1 : Int) (0 : Int) (a0.size : Int) (0 : Int)
noncomputable def F30 (n : Nat) (a0 : ByteArray) : Option (Int × Bool × Unit) := st30 n (lp30_0 n n) a0
noncomputable def c30 (n : Nat) : Con := ⟨[.one (.str)], [], [.one (.int .i64), .one (.bool)], [], fun (x : ByteArray × Unit) => F30 n x.1⟩
noncomputable def G30 (n : Nat) : Gam := [((33, []), c33 n), ((39, []), c39 n)]
noncomputable def S30_0 (s0 : ByteArray) (s1 : ByteArray) (i2 : Int) (i3 : Int) (i4 : Int) (i5 : Int) : St := ⟨[.str s0, .dead, .dead, .dead, .str s1, .int .i64 i2, .int .i64 i3] ++ List.replicate 17 .dead ++ [.int .i64 i4, .int .i64 i5] ++ List.replicate 30 .dead, List.replicate 56 Ob.none⟩
noncomputable def ga30_0 (n : Nat) (ks : List Nat) (k : Nat) (st : St) : Option (Int × Bool × Unit) := goAt tab (G30 n) n (bodyOf Tryz.f30) (lvOf Tryz.f30) (lvOf Tryz.f30).ret [1, 1, 1, 1, 1, 0, 1, 0] ks k st (evBody.endK tab (c30 n) Tryz.f30)
theorem el30_0 (n : Nat) : ∀ (k : Nat), ∀ (s0 : ByteArray) (s1 : ByteArray) (i2 : Int) (i3 : Int) (i4 : Int) (i5 : Int), ga30_0 n [] k (S30_0 s0 s1 i2 i3 i4 i5) = lp30_0 n k s0 s1 i2 i3 i4 i5 := by
  intro k
  induction k with
  | zero => intros; rfl
  | succ k ih =>
    intro s0 s1 i2 i3 i4 i5
    have h : ga30_0 n [] (k + 1) (S30_0 s0 s1 i2 i3 i4 i5) = st30_0 n (fun w0 w1 w2 w3 w4 w5 => ga30_0 n [] k (S30_0 w0 w1 w2 w3 w4 w5)) s0 s1 i2 i3 i4 i5 := by kernel_rfl
    rw [h]
    have e : (fun w0 w1 w2 w3 w4 w5 => ga30_0 n [] k (S30_0 w0 w1 w2 w3 w4 w5)) = lp30_0 n k := by
      funext w0 w1 w2 w3 w4 w5; exact ih w0 w1 w2 w3 w4 w5
    rw [e]
    rfl
theorem e30 (n : Nat) (x : ByteArray × Unit) : evBody tab (G30 n) n (c30 n) Tryz.f30 x = F30 n x.1 := by
  have h : evBody tab (G30 n) n (c30 n) Tryz.f30 x = st30 n (fun w0 w1 w2 w3 w4 w5 => ga30_0 n [] n (S30_0 w0 w1 w2 w3 w4 w5)) x.1 := by kernel_rfl
  rw [h]
  have e0 : (fun w0 w1 w2 w3 w4 w5 => ga30_0 n [] n (S30_0 w0 w1 w2 w3 w4 w5)) = lp30_0 n n := by
    funext w0 w1 w2 w3 w4 w5; exact el30_0 n n w0 w1 w2 w3 w4 w5
  rw [e0]
  rfl
theorem g30 (W : World) (n : Nat) (h60 : ∀ n, Good Tryz.prog W 60 (c60 n)) : Good Tryz.prog W 30 (c30 n) := body_good follows tabOk (GamOk.cons (g33 W n h60) (GamOk.cons (g39 W n) GamOk.nil)) (f := 30) (fn := Tryz.f30) (c := bodyOf Tryz.f30) (by kernel_rfl) (by kernel_rfl) (by kernel_rfl) (by kernel_rfl) (by kernel_rfl) (by kernel_rfl) (by kernel_rfl) (fun x r h => ⟨n, (e30 n x).trans h⟩)
/-! impl.ReadOp -/
noncomputable def F11 (n : Nat) (a0 : ByteArray) : Option (Int × ByteArray × Int × Int × Bool × Unit) :=
  (F28 n a0 (⟨#[32]⟩ : ByteArray)).bind fun r1 =>
  if (decide (a0.toList = (⟨#[102, 108, 117, 115, 104]⟩ : ByteArray).toList)) = true then
    (F12 n (3 : Int) (⟨#[]⟩ : ByteArray) (0 : Int) (0 : Int)).bind fun r2 =>
    if (!decide (r2.1.toList = a0.toList)) = true then
      some (0, (⟨#[]⟩ : ByteArray), 0, 0, false, ())
    else
      some (3, (⟨#[]⟩ : ByteArray), 0, 0, true, ())
  else
    if (decide ((r1.1.length : Int) ≠ 3)) = true then
      some (0, (⟨#[]⟩ : ByteArray), 0, 0, false, ())
    else
      if (decide (0 ≤ 0)) = true then
      if (decide (0 < (r1.1.length : Int))) = true then
      if (decide ((rdOf (⟨#[]⟩ : ByteArray) r1.1 (0 : Int)).toList = (⟨#[114, 101, 103]⟩ : ByteArray).toList)) = true then
        if (decide (0 ≤ 1)) = true then
        if (decide (1 < (r1.1.length : Int))) = true then
        if (decide (0 ≤ 2)) = true then
        if (decide (2 < (r1.1.length : Int))) = true then
        (F29 n (rdOf (⟨#[]⟩ : ByteArray) r1.1 (2 : Int))).bind fun r3 =>
        (F12 n (1 : Int) (rdOf (⟨#[]⟩ : ByteArray) r1.1 (1 : Int)) r3.1 (0 : Int)).bind fun r4 =>
        if (!decide (r4.1.toList = a0.toList)) = true then
          some (0, (⟨#[]⟩ : ByteArray), 0, 0, false, ())
        else
          some (1, (rdOf (⟨#[]⟩ : ByteArray) r1.1 (1 : Int)), r3.1, 0, true, ())
        else none
        else none
        else none
        else none
      else
        if (decide (0 ≤ 2)) = true then
        if (decide (2 < (r1.1.length : Int))) = true then
        (F30 n (rdOf (⟨#[]⟩ : ByteArray) r1.1 (2 : Int))).bind fun r5 =>
        if (decide (0 ≤ 1)) = true then
        if (decide (1 < (r1.1.length : Int))) = true then
        (F12 n (2 : Int) (rdOf (⟨#[]⟩ : ByteArray) r1.1 (1 : Int)) (0 : Int) r5.1).bind fun r6 =>
        if (!decide (r6.1.toList = a0.toList)) = true then
          some (0, (⟨#[]⟩ : ByteArray), 0, 0, false, ())
        else
          some (2, (rdOf (⟨#[]⟩ : ByteArray) r1.1 (1 : Int)), 0, r5.1, true, ())
        else none
        else none
        else none
        else none
      else none
      else none
noncomputable def c11 (n : Nat) : Con := ⟨[.one (.str)], [], [.agg [(.int .i64), (.str), (.int .i64), (.int .i64)], .one (.bool)], [], fun (x : ByteArray × Unit) => F11 n x.1⟩
noncomputable def G11 (n : Nat) : Gam := [((12, []), c12 n), ((28, []), c28 n), ((29, []), c29 n), ((30, []), c30 n)]
theorem e11 (n : Nat) (x : ByteArray × Unit) : evBody tab (G11 n) n (c11 n) Tryz.f11 x = F11 n x.1 := by kernel_rfl
theorem g11 (W : World) (n : Nat) (h28 : ∀ n, Good Tryz.prog W 28 (c28 n)) (h60 : ∀ n, Good Tryz.prog W 60 (c60 n)) : Good Tryz.prog W 11 (c11 n) := body_good follows tabOk (GamOk.cons (g12 W n h60) (GamOk.cons ((fun (_ : World) => h28) W n) (GamOk.cons (g29 W n) (GamOk.cons (g30 W n h60) GamOk.nil)))) (f := 11) (fn := Tryz.f11) (c := bodyOf Tryz.f11) (by kernel_rfl) (by kernel_rfl) (by kernel_rfl) (by kernel_rfl) (by kernel_rfl) (by kernel_rfl) (by kernel_rfl) (fun x r h => ⟨n, (e11 n x).trans h⟩)
/-! spec.l1In -/
noncomputable def F26 (n : Nat) (a0 : Int) (a1 : Int) (a2 : Int) : Option (Bool × Unit) :=
  if (decide (a0 ≥ a1)) = true then
    some (decide (a0 ≤ a2), ())
  else
    some (false, ())
noncomputable def c26 (n : Nat) : Con := ⟨[.one (.int .i64), .one (.int .i64), .one (.int .i64)], [], [.one (.bool)], [], fun (x : Int × Int × Int × Unit) => F26 n x.1 x.2.1 x.2.2.1⟩
noncomputable def G26 (n : Nat) : Gam := []
theorem e26 (n : Nat) (x : Int × Int × Int × Unit) : evBody tab (G26 n) n (c26 n) Tryz.f26 x = F26 n x.1 x.2.1 x.2.2.1 := by kernel_rfl
theorem g26 (W : World) (n : Nat) : Good Tryz.prog W 26 (c26 n) := body_good follows tabOk GamOk.nil (f := 26) (fn := Tryz.f26) (c := bodyOf Tryz.f26) (by kernel_rfl) (by kernel_rfl) (by kernel_rfl) (by kernel_rfl) (by kernel_rfl) (by kernel_rfl) (by kernel_rfl) (fun x r h => ⟨n, (e26 n x).trans h⟩)
/-! spec.l4Byte -/
noncomputable def F61 (n : Nat) (a0 : Int) : Option (Bool × Unit) :=
  (F26 n a0 (97 : Int) (122 : Int)).bind fun r1 =>
  if r1.1 = true then
    some (true, ())
  else
    (F26 n a0 (65 : Int) (90 : Int)).bind fun r2 =>
    if r2.1 = true then
      some (true, ())
    else
      (F26 n a0 (48 : Int) (57 : Int)).bind fun r3 =>
      if r3.1 = true then
        some (true, ())
      else
        some (decide (a0 = 95), ())
noncomputable def c61 (n : Nat) : Con := ⟨[.one (.int .i64)], [], [.one (.bool)], [], fun (x : Int × Unit) => F61 n x.1⟩
noncomputable def G61 (n : Nat) : Gam := [((26, []), c26 n)]
theorem e61 (n : Nat) (x : Int × Unit) : evBody tab (G61 n) n (c61 n) Tryz.f61 x = F61 n x.1 := by kernel_rfl
theorem g61 (W : World) (n : Nat) : Good Tryz.prog W 61 (c61 n) := body_good follows tabOk (GamOk.cons (g26 W n) GamOk.nil) (f := 61) (fn := Tryz.f61) (c := bodyOf Tryz.f61) (by kernel_rfl) (by kernel_rfl) (by kernel_rfl) (by kernel_rfl) (by kernel_rfl) (by kernel_rfl) (by kernel_rfl) (fun x r h => ⟨n, (e61 n x).trans h⟩)
/-! spec.KeyOk -/
noncomputable def st34_0 (n : Nat) (g0 : ByteArray → Int → Option (Bool × Unit)) (s0 : ByteArray) (i1 : Int) : Option (Bool × Unit) :=
  if (decide (i1 < (s0.size : Int))) = true then
    if (decide (0 ≤ i1)) = true then
    if (decide (i1 < (s0.size : Int))) = true then
    (F61 n (wrap64 ((bt s0 i1)))).bind fun r1 =>
    if (!r1.1) = true then
      some (false, ())
    else
      g0 s0 (wrap64 (i1 + 1))
    else none
    else none
  else
    (F26 n (s0.size : Int) (1 : Int) (4 : Int)).bind fun r2 =>
    some (r2.1, ())
noncomputable def lp34_0 (n : Nat) : Nat → ByteArray → Int → Option (Bool × Unit)
  | 0 => fun _ _ => none
  | k + 1 => st34_0 n (lp34_0 n k)
noncomputable def st34 (n : Nat) (h0 : ByteArray → Int → Option (Bool × Unit)) (a0 : ByteArray) : Option (Bool × Unit) :=
  h0 a0 (0 : Int)
noncomputable def F34 (n : Nat) (a0 : ByteArray) : Option (Bool × Unit) := st34 n (lp34_0 n n) a0
noncomputable def c34 (n : Nat) : Con := ⟨[.one (.str)], [], [.one (.bool)], [], fun (x : ByteArray × Unit) => F34 n x.1⟩
noncomputable def G34 (n : Nat) : Gam := [((26, []), c26 n), ((61, []), c61 n)]
noncomputable def S34_0 (s0 : ByteArray) (i1 : Int) : St := ⟨[.str s0, .dead, .dead, .int .i64 i1] ++ List.replicate 15 .dead, List.replicate 19 Ob.none⟩
noncomputable def ga34_0 (n : Nat) (ks : List Nat) (k : Nat) (st : St) : Option (Bool × Unit) := goAt tab (G34 n) n (bodyOf Tryz.f34) (lvOf Tryz.f34) (lvOf Tryz.f34).ret [1, 0, 1, 0] ks k st (evBody.endK tab (c34 n) Tryz.f34)
theorem el34_0 (n : Nat) : ∀ (k : Nat), ∀ (s0 : ByteArray) (i1 : Int), ga34_0 n [] k (S34_0 s0 i1) = lp34_0 n k s0 i1 := by
  intro k
  induction k with
  | zero => intros; rfl
  | succ k ih =>
    intro s0 i1
    have h : ga34_0 n [] (k + 1) (S34_0 s0 i1) = st34_0 n (fun w0 w1 => ga34_0 n [] k (S34_0 w0 w1)) s0 i1 := by kernel_rfl
    rw [h]
    have e : (fun w0 w1 => ga34_0 n [] k (S34_0 w0 w1)) = lp34_0 n k := by
      funext w0 w1; exact ih w0 w1
    rw [e]
    rfl
theorem e34 (n : Nat) (x : ByteArray × Unit) : evBody tab (G34 n) n (c34 n) Tryz.f34 x = F34 n x.1 := by
  have h : evBody tab (G34 n) n (c34 n) Tryz.f34 x = st34 n (fun w0 w1 => ga34_0 n [] n (S34_0 w0 w1)) x.1 := by kernel_rfl
  rw [h]
  have e0 : (fun w0 w1 => ga34_0 n [] n (S34_0 w0 w1)) = lp34_0 n n := by
    funext w0 w1; exact el34_0 n n w0 w1
  rw [e0]
  rfl
theorem g34 (W : World) (n : Nat) : Good Tryz.prog W 34 (c34 n) := body_good follows tabOk (GamOk.cons (g26 W n) (GamOk.cons (g61 W n) GamOk.nil)) (f := 34) (fn := Tryz.f34) (c := bodyOf Tryz.f34) (by kernel_rfl) (by kernel_rfl) (by kernel_rfl) (by kernel_rfl) (by kernel_rfl) (by kernel_rfl) (by kernel_rfl) (fun x r h => ⟨n, (e34 n x).trans h⟩)
/-! spec.KindWord -/
noncomputable def F35 (n : Nat) (a0 : Int) : Option (ByteArray × Unit) :=
  (F26 n a0 (1 : Int) (3 : Int)).bind fun r1 =>
  if (!r1.1) = true then
    some ((⟨#[]⟩ : ByteArray), ())
  else
    if (decide (0 ≤ (wrap64 (a0 - 1)))) = true then
    if (decide ((wrap64 (a0 - 1)) < (([(⟨#[99]⟩ : ByteArray), (⟨#[103]⟩ : ByteArray), (⟨#[109, 115]⟩ : ByteArray)] : List ByteArray).length : Int))) = true then
    some ((rdOf (⟨#[]⟩ : ByteArray) ([(⟨#[99]⟩ : ByteArray), (⟨#[103]⟩ : ByteArray), (⟨#[109, 115]⟩ : ByteArray)] : List ByteArray) (wrap64 (a0 - 1))), ())
    else none
    else none
noncomputable def c35 (n : Nat) : Con := ⟨[.one (.int .i64)], [], [.one (.str)], [], fun (x : Int × Unit) => F35 n x.1⟩
noncomputable def G35 (n : Nat) : Gam := [((26, []), c26 n)]
theorem e35 (n : Nat) (x : Int × Unit) : evBody tab (G35 n) n (c35 n) Tryz.f35 x = F35 n x.1 := by kernel_rfl
theorem g35 (W : World) (n : Nat) : Good Tryz.prog W 35 (c35 n) := body_good follows tabOk (GamOk.cons (g26 W n) GamOk.nil) (f := 35) (fn := Tryz.f35) (c := bodyOf Tryz.f35) (by kernel_rfl) (by kernel_rfl) (by kernel_rfl) (by kernel_rfl) (by kernel_rfl) (by kernel_rfl) (by kernel_rfl) (fun x r h => ⟨n, (e35 n x).trans h⟩)
/-! spec.OpOk -/
noncomputable def F13 (n : Nat) (a0 : Int) (a1 : ByteArray) (a2 : Int) (a3 : Int) : Option (Bool × Unit) :=
  if (decide (a0 = 1)) = true then
    (F34 n a1).bind fun r1 =>
    if r1.1 = true then
      (F35 n a2).bind fun r2 =>
      if (!decide (r2.1.toList = (⟨#[]⟩ : ByteArray).toList)) = true then
        some (decide (a3 = 0), ())
      else
        some (false, ())
    else
      some (false, ())
  else
    if (decide (a0 = 2)) = true then
      (F34 n a1).bind fun r3 =>
      if r3.1 = true then
        if (decide (a2 = 0)) = true then
          (F26 n a3 (0 : Int) (65535 : Int)).bind fun r4 =>
          some (r4.1, ())
        else
          some (false, ())
      else
        some (false, ())
    else
      if (decide (a0 = 3)) = true then
        some ((decide (a0 = 3) && (decide (a1.toList = (⟨#[]⟩ : ByteArray).toList) && (decide (a2 = 0) && (decide (a3 = 0) && true)))), ())
      else
        some (false, ())
noncomputable def c13 (n : Nat) : Con := ⟨[.agg [(.int .i64), (.str), (.int .i64), (.int .i64)]], [], [.one (.bool)], [], fun (x : Int × ByteArray × Int × Int × Unit) => F13 n x.1 x.2.1 x.2.2.1 x.2.2.2.1⟩
noncomputable def G13 (n : Nat) : Gam := [((26, []), c26 n), ((34, []), c34 n), ((35, []), c35 n)]
theorem e13 (n : Nat) (x : Int × ByteArray × Int × Int × Unit) : evBody tab (G13 n) n (c13 n) Tryz.f13 x = F13 n x.1 x.2.1 x.2.2.1 x.2.2.2.1 := by kernel_rfl
theorem g13 (W : World) (n : Nat) : Good Tryz.prog W 13 (c13 n) := body_good follows tabOk (GamOk.cons (g26 W n) (GamOk.cons (g34 W n) (GamOk.cons (g35 W n) GamOk.nil))) (f := 13) (fn := Tryz.f13) (c := bodyOf Tryz.f13) (by kernel_rfl) (by kernel_rfl) (by kernel_rfl) (by kernel_rfl) (by kernel_rfl) (by kernel_rfl) (by kernel_rfl) (fun x r h => ⟨n, (e13 n x).trans h⟩)
/-! spec.l10Todo -/
noncomputable def j42_0 (n : Nat) (g0 : Int → Int → (List (List (Int × (ByteArray × (Int × Int))))) → (List Int) → (List Int) → Int → Int → Option (List (List (Int × (ByteArray × (Int × Int)))) × List Int × Int × Int × Unit)) (i0 : Int) (i1 : Int) (l2 : List (List (Int × (ByteArray × (Int × Int))))) (l3 : List Int) (l4 : List (Int × (ByteArray × (Int × Int)))) (l5 : List Int) (i6 : Int) (i7 : Int) : Option (List (List (Int × (ByteArray × (Int × Int)))) × List Int × Int × Int × Unit) :=
  if (decide ((l2.length + ([l4] : List (List (Int × (ByteArray × (Int × Int))))).length) * 24 ≤ 140737488355328)) = true then
  g0 i0 (wrap64 (i1 + 1)) (l2 ++ ([l4] : List (List (Int × (ByteArray × (Int × Int)))))) l3 l5 i6 i7
  else none
noncomputable def st42_1 (n : Nat) (g0 : Int → Int → (List (List (Int × (ByteArray × (Int × Int))))) → (List Int) → (List Int) → Int → Int → Option (List (List (Int × (ByteArray × (Int × Int)))) × List Int × Int × Int × Unit)) (g1 : Int → Int → Int → (List (List (Int × (ByteArray × (Int × Int))))) → (List Int) → (List (Int × (ByteArray × (Int × Int)))) → (List Int) → Int → Int → Option (List (List (Int × (ByteArray × (Int × Int)))) × List Int × Int × Int × Unit)) (i0 : Int) (i1 : Int) (i2 : Int) (l3 : List (List (Int × (ByteArray × (Int × Int))))) (l4 : List Int) (l5 : List (Int × (ByteArray × (Int × Int)))) (l6 : List Int) (i7 : Int) (i8 : Int) : Option (List (List (Int × (ByteArray × (Int × Int)))) × List Int × Int × Int × Unit) :=
  if (decide (i2 > 0)) = true then
    if (decide ((l5.length : Int) < 10)) = true then
      (F55 n l6 i7 i8).bind fun r5 =>
      if (decide ((l5.length + ([(r5.1, (r5.2.1, (r5.2.2.1, r5.2.2.2.1)))] : List (Int × (ByteArray × (Int × Int)))).length) * 40 ≤ 140737488355328)) = true then
      g1 i0 i1 (wrap64 (i2 - 1)) l3 l4 (l5 ++ ([(r5.1, (r5.2.1, (r5.2.2.1, r5.2.2.2.1)))] : List (Int × (ByteArray × (Int × Int))))) r5.2.2.2.2.1 r5.2.2.2.2.2.1 r5.2.2.2.2.2.2.1
      else none
    else
      j42_0 n g0 i0 i1 l3 l4 l5 l6 i7 i8
  else
    j42_0 n g0 i0 i1 l3 l4 l5 l6 i7 i8
noncomputable def lp42_1 (n : Nat) (g0 : Int → Int → (List (List (Int × (ByteArray × (Int × Int))))) → (List Int) → (List Int) → Int → Int → Option (List (List (Int × (ByteArray × (Int × Int)))) × List Int × Int × Int × Unit)) : Nat → Int → Int → Int → (List (List (Int × (ByteArray × (Int × Int))))) → (List Int) → (List (Int × (ByteArray × (Int × Int)))) → (List Int) → Int → Int → Option (List (List (Int × (ByteArray × (Int × Int)))) × List Int × Int × Int × Unit)
  | 0 => fun _ _ _ _ _ _ _ _ _ => none
  | k + 1 => st42_1 n g0 (lp42_1 n g0 k)
noncomputable def st42_2 (n : Nat) (g2 : Int → (List (List (Int × (ByteArray × (Int × Int))))) → (List (Int × (ByteArray × (Int × Int)))) → (List Int) → Int → Int → Option (List (List (Int × (ByteArray × (Int × Int)))) × List Int × Int × Int × Unit)) (i0 : Int) (l1 : List (List (Int × (ByteArray × (Int × Int))))) (l2 : List (Int × (ByteArray × (Int × Int)))) (l3 : List Int) (i4 : Int) (i5 : Int) : Option (List (List (Int × (ByteArray × (Int × Int)))) × List Int × Int × Int × Unit) :=
  if (decide (i0 > 0)) = true then
    if (decide ((l2.length + ([(3, ((⟨#[]⟩ : ByteArray), (0, 0)))] : List (Int × (ByteArray × (Int × Int)))).length) * 40 ≤ 140737488355328)) = true then
    g2 (wrap64 (i0 - 1)) l1 (l2 ++ ([(3, ((⟨#[]⟩ : ByteArray), (0, 0)))] : List (Int × (ByteArray × (Int × Int))))) l3 i4 i5
    else none
  else
    if (decide ((l1.length + ([l2] : List (List (Int × (ByteArray × (Int × Int))))).length) * 24 ≤ 140737488355328)) = true then
    some ((l1 ++ ([l2] : List (List (Int × (ByteArray × (Int × Int)))))), l3, i4, i5, ())
    else none
noncomputable def lp42_2 (n : Nat) : Nat → Int → (List (List (Int × (ByteArray × (Int × Int))))) → (List (Int × (ByteArray × (Int × Int)))) → (List Int) → Int → Int → Option (List (List (Int × (ByteArray × (Int × Int)))) × List Int × Int × Int × Unit)
  | 0 => fun _ _ _ _ _ _ => none
  | k + 1 => st42_2 n (lp42_2 n k)
noncomputable def st42_0 (n : Nat) (h1 : Int → Int → Int → (List (List (Int × (ByteArray × (Int × Int))))) → (List Int) → (List (Int × (ByteArray × (Int × Int)))) → (List Int) → Int → Int → Option (List (List (Int × (ByteArray × (Int × Int)))) × List Int × Int × Int × Unit)) (h2 : Int → (List (List (Int × (ByteArray × (Int × Int))))) → (List (Int × (ByteArray × (Int × Int)))) → (List Int) → Int → Int → Option (List (List (Int × (ByteArray × (Int × Int)))) × List Int × Int × Int × Unit)) (g0 : Int → Int → (List (List (Int × (ByteArray × (Int × Int))))) → (List Int) → (List Int) → Int → Int → Option (List (List (Int × (ByteArray × (Int × Int)))) × List Int × Int × Int × Unit)) (i0 : Int) (i1 : Int) (l2 : List (List (Int × (ByteArray × (Int × Int))))) (l3 : List Int) (l4 : List Int) (i5 : Int) (i6 : Int) : Option (List (List (Int × (ByteArray × (Int × Int)))) × List Int × Int × Int × Unit) :=
  if (decide (i1 < 3)) = true then
    (F65 n (3 : Int) l4 i5 i6).bind fun r3 =>
    if (!r3.1) = true then
      if (decide (0 ≤ 0)) = true then
      if (decide (0 < (l3.length : Int))) = true then
      if (decide (0 ≤ 1)) = true then
      if (decide (1 < (l3.length : Int))) = true then
      if (decide ((([] : List (Int × (ByteArray × (Int × Int)))).length + ([(1, ((⟨#[97]⟩ : ByteArray), ((rdOf (0 : Int) l3 (0 : Int)), 0))), (1, ((⟨#[98]⟩ : ByteArray), ((rdOf (0 : Int) l3 (1 : Int)), 0)))] : List (Int × (ByteArray × (Int × Int)))).length) * 40 ≤ 140737488355328)) = true then
      (F43 n i0 r3.2.1 r3.2.2.1 r3.2.2.2.1).bind fun r4 =>
      h1 i0 i1 r4.1 l2 l3 (([] : List (Int × (ByteArray × (Int × Int)))) ++ ([(1, ((⟨#[97]⟩ : ByteArray), ((rdOf (0 : Int) l3 (0 : Int)), 0))), (1, ((⟨#[98]⟩ : ByteArray), ((rdOf (0 : Int) l3 (1 : Int)), 0)))] : List (Int × (ByteArray × (Int × Int))))) r4.2.1 r4.2.2.1 r4.2.2.2.1
      else none
      else none
      else none
      else none
      else none
    else
      (F43 n i0 r3.2.1 r3.2.2.1 r3.2.2.2.1).bind fun r6 =>
      h1 i0 i1 r6.1 l2 l3 ([] : List (Int × (ByteArray × (Int × Int)))) r6.2.1 r6.2.2.1 r6.2.2.2.1
  else
    (F43 n (5 : Int) l4 i5 i6).bind fun r7 =>
    h2 r7.1 l2 ([] : List (Int × (ByteArray × (Int × Int)))) r7.2.1 r7.2.2.1 r7.2.2.2.1
noncomputable def lp42_0 (n : Nat) : Nat → Int → Int → (List (List (Int × (ByteArray × (Int × Int))))) → (List Int) → (List Int) → Int → Int → Option (List (List (Int × (ByteArray × (Int × Int)))) × List Int × Int × Int × Unit)
  | 0 => fun _ _ _ _ _ _ _ => none
  | k + 1 => st42_0 n (lp42_1 n (lp42_0 n k) n) (lp42_2 n n) (lp42_0 n k)
noncomputable def st42 (n : Nat) (h0 : Int → Int → (List (List (Int × (ByteArray × (Int × Int))))) → (List Int) → (List Int) → Int → Int → Option (List (List (Int × (ByteArray × (Int × Int)))) × List Int × Int × Int × Unit)) (a1 : Int) (a2 : List Int) (a3 : Int) (a4 : Int) : Option (List (List (Int × (ByteArray × (Int × Int)))) × List Int × Int × Int × Unit) :=
  (F43 n (3 : Int) a2 a3 a4).bind fun r1 =>
  (F43 n (3 : Int) r1.2.1 r1.2.2.1 r1.2.2.2.1).bind fun r2 =>
  h0 a1 (0 : Int) ([] : List (List (Int × (ByteArray × (Int × Int))))) ([(wrap64 (1 + r1.1)), (wrap64 (1 + r2.1))] : List Int) r2.2.1 r2.2.2.1 r2.2.2.2.1
noncomputable def F42 (n : Nat) (a1 : Int) (a2 : List Int) (a3 : Int) (a4 : Int) : Option (List (List (Int × (ByteArray × (Int × Int)))) × List Int × Int × Int × Unit) := st42 n (lp42_0 n n) a1 a2 a3 a4
noncomputable def c42 (n : Nat) : Con := ⟨[.one (.ptr 0 0), .one (.int .i64)], [[(.sl (.imm false) 5 (.int .u8)), (.int .i64), (.int .i64)]], [.one (.sl .own 64 (.sl 32 (.pair (.int .i64) (.pair .str (.pair (.int .i64) (.int .i64))))))], [[(.sl (.imm false) 5 (.int .u8)), (.int .i64), (.int .i64)]], fun (x : Unit × Int × List Int × Int × Int × Unit) => F42 n x.2.1 x.2.2.1 x.2.2.2.1 x.2.2.2.2.1⟩
noncomputable def G42 (n : Nat) : Gam := [((43, []), c43 n), ((55, []), c55 n), ((65, []), c65 n)]
noncomputable def S42_1 (i0 : Int) (i1 : Int) (i2 : Int) (l3 : List (List (Int × (ByteArray × (Int × Int))))) (l4 : List Int) (l5 : List (Int × (ByteArray × (Int × Int)))) (l6 : List Int) (i7 : Int) (i8 : Int) : St := ⟨[.ptr 82 0, .int .i64 i0, .dead, .dead, .dead, .sr 5 0 none 0 0 none, .sr 6 0 none 0 0 none, .int .i64 i1, .ptr 8 0, .int .i64 i2] ++ List.replicate 72 .dead, List.replicate 5 Ob.none ++ [⟨false, [.sl .own 64 (.sl 32 (.pair (.int .i64) (.pair .str (.pair (.int .i64) (.int .i64))))) l3], 0, 0⟩, ⟨false, [.sl .own 3 (.int .i64) l4], 0, 0⟩, Ob.none, ⟨true, [.sl .own 32 (.pair (.int .i64) (.pair .str (.pair (.int .i64) (.int .i64)))) l5], 0, 0⟩] ++ List.replicate 73 Ob.none ++ [⟨true, [.sl (.imm false) 5 (.int .u8) l6, .int .i64 i7, .int .i64 i8], 0, 0⟩]⟩
noncomputable def ga42_1 (n : Nat) (ks : List Nat) (k : Nat) (st : St) : Option (List (List (Int × (ByteArray × (Int × Int)))) × List Int × Int × Int × Unit) := goAt tab (G42 n) n (bodyOf Tryz.f42) (lvOf Tryz.f42) (lvOf Tryz.f42).ret [1, 1, 1, 0, 1, 0, 0, 1, 0, 0, 1, 1, 0, 1, 0] ks k st (evBody.endK tab (c42 n) Tryz.f42)
noncomputable def S42_2 (i0 : Int) (l1 : List (List (Int × (ByteArray × (Int × Int))))) (l2 : List (Int × (ByteArray × (Int × Int)))) (l3 : List Int) (i4 : Int) (i5 : Int) : St := ⟨List.replicate 5 .dead ++ [.sr 5 0 none 0 0 none] ++ List.replicate 4 .dead ++ [.ptr 10 0, .int .i64 i0] ++ List.replicate 70 .dead, List.replicate 5 Ob.none ++ [⟨false, [.sl .own 64 (.sl 32 (.pair (.int .i64) (.pair .str (.pair (.int .i64) (.int .i64))))) l1], 0, 0⟩] ++ List.replicate 4 Ob.none ++ [⟨true, [.sl .own 32 (.pair (.int .i64) (.pair .str (.pair (.int .i64) (.int .i64)))) l2], 0, 0⟩] ++ List.replicate 71 Ob.none ++ [⟨true, [.sl (.imm false) 5 (.int .u8) l3, .int .i64 i4, .int .i64 i5], 0, 0⟩]⟩
noncomputable def ga42_2 (n : Nat) (ks : List Nat) (k : Nat) (st : St) : Option (List (List (Int × (ByteArray × (Int × Int)))) × List Int × Int × Int × Unit) := goAt tab (G42 n) n (bodyOf Tryz.f42) (lvOf Tryz.f42) (lvOf Tryz.f42).ret [1, 1, 1, 1, 1, 0, 1, 0] ks k st (evBody.endK tab (c42 n) Tryz.f42)
noncomputable def S42_0 (i0 : Int) (i1 : Int) (l2 : List (List (Int × (ByteArray × (Int × Int))))) (l3 : List Int) (l4 : List Int) (i5 : Int) (i6 : Int) : St := ⟨[.ptr 82 0, .int .i64 i0, .dead, .dead, .dead, .sr 5 0 none 0 0 none, .sr 6 0 none 0 0 none, .int .i64 i1] ++ List.replicate 74 .dead, List.replicate 5 Ob.none ++ [⟨false, [.sl .own 64 (.sl 32 (.pair (.int .i64) (.pair .str (.pair (.int .i64) (.int .i64))))) l2], 0, 0⟩, ⟨false, [.sl .own 3 (.int .i64) l3], 0, 0⟩] ++ List.replicate 75 Ob.none ++ [⟨true, [.sl (.imm false) 5 (.int .u8) l4, .int .i64 i5, .int .i64 i6], 0, 0⟩]⟩
noncomputable def ga42_0 (n : Nat) (ks : List Nat) (k : Nat) (st : St) : Option (List (List (Int × (ByteArray × (Int × Int)))) × List Int × Int × Int × Unit) := goAt tab (G42 n) n (bodyOf Tryz.f42) (lvOf Tryz.f42) (lvOf Tryz.f42).ret [1, 1, 1, 0, 1, 0] ks k st (evBody.endK tab (c42 n) Tryz.f42)
theorem el42_1 (n : Nat) (k0 : Nat) : ∀ (k : Nat), ∀ (i0 : Int) (i1 : Int) (i2 : Int) (l3 : List (List (Int × (ByteArray × (Int × Int))))) (l4 : List Int) (l5 : List (Int × (ByteArray × (Int × Int)))) (l6 : List Int) (i7 : Int) (i8 : Int), ga42_1 n [k0] k (S42_1 i0 i1 i2 l3 l4 l5 l6 i7 i8) = lp42_1 n (fun w0 w1 w2 w3 w4 w5 w6 => ga42_0 n [] k0 (S42_0 w0 w1 w2 w3 w4 w5 w6)) k i0 i1 i2 l3 l4 l5 l6 i7 i8 := by
  intro k
  induction k with
  | zero => intros; rfl
  | succ k ih =>
    intro i0 i1 i2 l3 l4 l5 l6 i7 i8
    have h : ga42_1 n [k0] (k + 1) (S42_1 i0 i1 i2 l3 l4 l5 l6 i7 i8) = st42_1 n (fun w0 w1 w2 w3 w4 w5 w6 => ga42_0 n [] k0 (S42_0 w0 w1 w2 w3 w4 w5 w6)) (fun w0 w1 w2 w3 w4 w5 w6 w7 w8 => ga42_1 n [k0] k (S42_1 w0 w1 w2 w3 w4 w5 w6 w7 w8)) i0 i1 i2 l3 l4 l5 l6 i7 i8 := by kernel_rfl
    rw [h]
    have e : (fun w0 w1 w2 w3 w4 w5 w6 w7 w8 => ga42_1 n [k0] k (S42_1 w0 w1 w2 w3 w4 w5 w6 w7 w8)) = lp42_1 n (fun w0 w1 w2 w3 w4 w5 w6 => ga42_0 n [] k0 (S42_0 w0 w1 w2 w3 w4 w5 w6)) k := by
      funext w0 w1 w2 w3 w4 w5 w6 w7 w8; exact ih w0 w1 w2 w3 w4 w5 w6 w7 w8
    rw [e]
    rfl
theorem el42_2 (n : Nat) : ∀ (k : Nat), ∀ (i0 : Int) (l1 : List (List (Int × (ByteArray × (Int × Int))))) (l2 : List (Int × (ByteArray × (Int × Int)))) (l3 : List Int) (i4 : Int) (i5 : Int), ga42_2 n [] k (S42_2 i0 l1 l2 l3 i4 i5) = lp42_2 n k i0 l1 l2 l3 i4 i5 := by
  intro k
  induction k with
  | zero => intros; rfl
  | succ k ih =>
    intro i0 l1 l2 l3 i4 i5
    have h : ga42_2 n [] (k + 1) (S42_2 i0 l1 l2 l3 i4 i5) = st42_2 n (fun w0 w1 w2 w3 w4 w5 => ga42_2 n [] k (S42_2 w0 w1 w2 w3 w4 w5)) i0 l1 l2 l3 i4 i5 := by kernel_rfl
    rw [h]
    have e : (fun w0 w1 w2 w3 w4 w5 => ga42_2 n [] k (S42_2 w0 w1 w2 w3 w4 w5)) = lp42_2 n k := by
      funext w0 w1 w2 w3 w4 w5; exact ih w0 w1 w2 w3 w4 w5
    rw [e]
    rfl
theorem el42_0 (n : Nat) : ∀ (k : Nat), ∀ (i0 : Int) (i1 : Int) (l2 : List (List (Int × (ByteArray × (Int × Int))))) (l3 : List Int) (l4 : List Int) (i5 : Int) (i6 : Int), ga42_0 n [] k (S42_0 i0 i1 l2 l3 l4 i5 i6) = lp42_0 n k i0 i1 l2 l3 l4 i5 i6 := by
  intro k
  induction k with
  | zero => intros; rfl
  | succ k ih =>
    intro i0 i1 l2 l3 l4 i5 i6
    have h : ga42_0 n [] (k + 1) (S42_0 i0 i1 l2 l3 l4 i5 i6) = st42_0 n (fun w0 w1 w2 w3 w4 w5 w6 w7 w8 => ga42_1 n [k] n (S42_1 w0 w1 w2 w3 w4 w5 w6 w7 w8)) (fun w0 w1 w2 w3 w4 w5 => ga42_2 n [] n (S42_2 w0 w1 w2 w3 w4 w5)) (fun w0 w1 w2 w3 w4 w5 w6 => ga42_0 n [] k (S42_0 w0 w1 w2 w3 w4 w5 w6)) i0 i1 l2 l3 l4 i5 i6 := by kernel_rfl
    rw [h]
    have e1 : (fun w0 w1 w2 w3 w4 w5 w6 w7 w8 => ga42_1 n [k] n (S42_1 w0 w1 w2 w3 w4 w5 w6 w7 w8)) = lp42_1 n (fun w0 w1 w2 w3 w4 w5 w6 => ga42_0 n [] k (S42_0 w0 w1 w2 w3 w4 w5 w6)) n := by
      funext w0 w1 w2 w3 w4 w5 w6 w7 w8; exact el42_1 n k n w0 w1 w2 w3 w4 w5 w6 w7 w8
    have e2 : (fun w0 w1 w2 w3 w4 w5 => ga42_2 n [] n (S42_2 w0 w1 w2 w3 w4 w5)) = lp42_2 n n := by
      funext w0 w1 w2 w3 w4 w5; exact el42_2 n n w0 w1 w2 w3 w4 w5
    have e : (fun w0 w1 w2 w3 w4 w5 w6 => ga42_0 n [] k (S42_0 w0 w1 w2 w3 w4 w5 w6)) = lp42_0 n k := by
      funext w0 w1 w2 w3 w4 w5 w6; exact ih w0 w1 w2 w3 w4 w5 w6
    rw [e1, e2, e]
    rfl
theorem e42 (n : Nat) (x : Unit × Int × List Int × Int × Int × Unit) : evBody tab (G42 n) n (c42 n) Tryz.f42 x = F42 n x.2.1 x.2.2.1 x.2.2.2.1 x.2.2.2.2.1 := by
  have h : evBody tab (G42 n) n (c42 n) Tryz.f42 x = st42 n (fun w0 w1 w2 w3 w4 w5 w6 => ga42_0 n [] n (S42_0 w0 w1 w2 w3 w4 w5 w6)) x.2.1 x.2.2.1 x.2.2.2.1 x.2.2.2.2.1 := by kernel_rfl
  rw [h]
  have e0 : (fun w0 w1 w2 w3 w4 w5 w6 => ga42_0 n [] n (S42_0 w0 w1 w2 w3 w4 w5 w6)) = lp42_0 n n := by
    funext w0 w1 w2 w3 w4 w5 w6; exact el42_0 n n w0 w1 w2 w3 w4 w5 w6
  rw [e0]
  rfl
theorem g42 (W : World) (n : Nat) : Good Tryz.prog W 42 (c42 n) := body_good follows tabOk (GamOk.cons (g43 W n) (GamOk.cons (g55 W n) (GamOk.cons (g65 W n) GamOk.nil))) (f := 42) (fn := Tryz.f42) (c := bodyOf Tryz.f42) (by kernel_rfl) (by kernel_rfl) (by kernel_rfl) (by kernel_rfl) (by kernel_rfl) (by kernel_rfl) (by kernel_rfl) (fun x r h => ⟨n, (e42 n x).trans h⟩)
end Go.Eva
end
section
/- The functions, as their texts evaluate. -/
set_option linter.unusedVariables false
set_option maxRecDepth 100000
namespace Go.Eva
open Go.Proofs
open Go.RowKit (wrap64)
/-! spec.l10AnyTodo -/
noncomputable def st36_0 (n : Nat) (g0 : (List (List (Int × (ByteArray × (Int × Int))))) → (List Int) → Int → Int → Option (List (List (Int × (ByteArray × (Int × Int)))) × List Int × Int × Int × Unit)) (l0 : List (List (Int × (ByteArray × (Int × Int))))) (l1 : List Int) (i2 : Int) (i3 : Int) : Option (List (List (Int × (ByteArray × (Int × Int)))) × List Int × Int × Int × Unit) :=
  if (decide (0 ≤ 0)) = true then
  if (decide (0 < (l0.length : Int))) = true then
  (F43 n (2 : Int) l1 i2 i3).bind fun r3 =>
  if (decide (((rdOf ([] : List (Int × (ByteArray × (Int × Int)))) l0 (0 : Int)).length : Int) < (wrap64 (10 + r3.1)))) = true then
    if (decide (0 ≤ 0)) = true then
    if (decide (0 < (l0.length : Int))) = true then
    (F55 n r3.2.1 r3.2.2.1 r3.2.2.2.1).bind fun r4 =>
    if (decide (((rdOf ([] : List (Int × (ByteArray × (Int × Int)))) l0 (0 : Int)).length + ([(r4.1, (r4.2.1, (r4.2.2.1, r4.2.2.2.1)))] : List (Int × (ByteArray × (Int × Int)))).length) * 40 ≤ 140737488355328)) = true then
    if (decide (0 ≤ 0)) = true then
    if (decide (0 < (l0.length : Int))) = true then
    if (decide (0 = 0)) = true then
    g0 (l0.set (0 : Int).toNat ((rdOf ([] : List (Int × (ByteArray × (Int × Int)))) l0 (0 : Int)) ++ ([(r4.1, (r4.2.1, (r4.2.2.1, r4.2.2.2.1)))] : List (Int × (ByteArray × (Int × Int)))))) r4.2.2.2.2.1 r4.2.2.2.2.2.1 r4.2.2.2.2.2.2.1
    else none
    else none
    else none
    else none
    else none
    else none
  else
    some (l0, r3.2.1, r3.2.2.1, r3.2.2.2.1, ())
  else none
  else none
noncomputable def lp36_0 (n : Nat) : Nat → (List (List (Int × (ByteArray × (Int × Int))))) → (List Int) → Int → Int → Option (List (List (Int × (ByteArray × (Int × Int)))) × List Int × Int × Int × Unit)
  | 0 => fun _ _ _ _ => none
  | k + 1 => st36_0 n (lp36_0 n k)
noncomputable def st36 (n : Nat) (h0 : (List (List (Int × (ByteArray × (Int × Int))))) → (List Int) → Int → Int → Option (List (List (Int × (ByteArray × (Int × Int)))) × List Int × Int × Int × Unit)) (a1 : List Int) (a2 : Int) (a3 : Int) : Option (List (List (Int × (ByteArray × (Int × Int)))) × List Int × Int × Int × Unit) :=
  (F42 n (7 : Int) a1 a2 a3).bind fun r1 =>
  (F43 n (18 : Int) r1.2.1 r1.2.2.1 r1.2.2.2.1).bind fun r2 =>
  if (decide (r2.1 = 0)) = true then
    if (decide (0 ≤ 0)) = true then
    if (decide (0 ≤ 3)) = true then
    if (decide (3 ≤ (r1.1.length : Int))) = true then
    some ((cutL r1.1 (0 : Int) (3 : Int)), r2.2.1, r2.2.2.1, r2.2.2.2.1, ())
    else none
    else none
    else none
  else
    if (decide (r2.1 = 1)) = true then
      if (decide (0 ≤ 1)) = true then
      if (decide (1 < (r1.1.length : Int))) = true then
      if (decide (((rdOf ([] : List (Int × (ByteArray × (Int × Int)))) r1.1 (1 : Int)).length + ([(3, ((⟨#[]⟩ : ByteArray), (0, 0)))] : List (Int × (ByteArray × (Int × Int)))).length) * 40 ≤ 140737488355328)) = true then
      if (decide (0 ≤ 1)) = true then
      if (decide (1 < (r1.1.length : Int))) = true then
      if (decide (1 = 1)) = true then
      some ((r1.1.set (1 : Int).toNat ((rdOf ([] : List (Int × (ByteArray × (Int × Int)))) r1.1 (1 : Int)) ++ ([(3, ((⟨#[]⟩ : ByteArray), (0, 0)))] : List (Int × (ByteArray × (Int × Int)))))), r2.2.1, r2.2.2.1, r2.2.2.2.1, ())
      else none
      else none
      else none
      else none
      else none
      else none
    else
      if (decide (r2.1 = 2)) = true then
        h0 r1.1 r2.2.1 r2.2.2.1 r2.2.2.2.1
      else
        if (decide (r2.1 = 3)) = true then
          if (decide (0 ≤ 2)) = true then
          if (decide (2 < (r1.1.length : Int))) = true then
          (F56 n r2.2.1 r2.2.2.1 r2.2.2.2.1).bind fun r5 =>
          (F50 n ([(-1), 65536, 3] : List Int) r5.2.1 r5.2.2.1 r5.2.2.2.1).bind fun r6 =>
          if (decide (((rdOf ([] : List (Int × (ByteArray × (Int × Int)))) r1.1 (2 : Int)).length + ([(2, (r5.1, (0, r6.1)))] : List (Int × (ByteArray × (Int × Int)))).length) * 40 ≤ 140737488355328)) = true then
          if (decide (0 ≤ 2)) = true then
          if (decide (2 < (r1.1.length : Int))) = true then
          if (decide (2 = 2)) = true then
          some ((r1.1.set (2 : Int).toNat ((rdOf ([] : List (Int × (ByteArray × (Int × Int)))) r1.1 (2 : Int)) ++ ([(2, (r5.1, (0, r6.1)))] : List (Int × (ByteArray × (Int × Int)))))), r6.2.1, r6.2.2.1, r6.2.2.2.1, ())
          else none
          else none
          else none
          else none
          else none
          else none
        else
          some (r1.1, r2.2.1, r2.2.2.1, r2.2.2.2.1, ())
noncomputable def F36 (n : Nat) (a1 : List Int) (a2 : Int) (a3 : Int) : Option (List (List (Int × (ByteArray × (Int × Int)))) × List Int × Int × Int × Unit) := st36 n (lp36_0 n n) a1 a2 a3
noncomputable def c36 (n : Nat) : Con := ⟨[.one (.ptr 0 0)], [[(.sl (.imm false) 5 (.int .u8)), (.int .i64), (.int .i64)]], [.one (.sl .own 64 (.sl 32 (.pair (.int .i64) (.pair .str (.pair (.int .i64) (.int .i64))))))], [[(.sl (.imm false) 5 (.int .u8)), (.int .i64), (.int .i64)]], fun (x : Unit × List Int × Int × Int × Unit) => F36 n x.2.1 x.2.2.1 x.2.2.2.1⟩
noncomputable def G36 (n : Nat) : Gam := [((42, []), c42 n), ((43, []), c43 n), ((50, []), c50 n), ((55, []), c55 n), ((56, []), c56 n)]
noncomputable def S36_0 (l0 : List (List (Int × (ByteArray × (Int × Int))))) (l1 : List Int) (i2 : Int) (i3 : Int) : St := ⟨[.ptr 64 0, .dead, .dead, .sr 3 0 none 0 0 none] ++ List.replicate 60 .dead, [Ob.none, Ob.none, Ob.none, ⟨false, [.sl .own 64 (.sl 32 (.pair (.int .i64) (.pair .str (.pair (.int .i64) (.int .i64))))) l0], 0, 0⟩] ++ List.replicate 60 Ob.none ++ [⟨true, [.sl (.imm false) 5 (.int .u8) l1, .int .i64 i2, .int .i64 i3], 0, 0⟩]⟩
noncomputable def ga36_0 (n : Nat) (ks : List Nat) (k : Nat) (st : St) : Option (List (List (Int × (ByteArray × (Int × Int)))) × List Int × Int × Int × Unit) := goAt tab (G36 n) n (bodyOf Tryz.f36) (lvOf Tryz.f36) (lvOf Tryz.f36).ret [1, 1, 0, 1, 0, 1, 1, 1, 1, 1, 0, 0] ks k st (evBody.endK tab (c36 n) Tryz.f36)
theorem el36_0 (n : Nat) : ∀ (k : Nat), ∀ (l0 : List (List (Int × (ByteArray × (Int × Int))))) (l1 : List Int) (i2 : Int) (i3 : Int), ga36_0 n [] k (S36_0 l0 l1 i2 i3) = lp36_0 n k l0 l1 i2 i3 := by
  intro k
  induction k with
  | zero => intros; rfl
  | succ k ih =>
    intro l0 l1 i2 i3
    have h : ga36_0 n [] (k + 1) (S36_0 l0 l1 i2 i3) = st36_0 n (fun w0 w1 w2 w3 => ga36_0 n [] k (S36_0 w0 w1 w2 w3)) l0 l1 i2 i3 := by kernel_rfl
    rw [h]
    have e : (fun w0 w1 w2 w3 => ga36_0 n [] k (S36_0 w0 w1 w2 w3)) = lp36_0 n k := by
      funext w0 w1 w2 w3; exact ih w0 w1 w2 w3
    rw [e]
    rfl
theorem e36 (n : Nat) (x : Unit × List Int × Int × Int × Unit) : evBody tab (G36 n) n (c36 n) Tryz.f36 x = F36 n x.2.1 x.2.2.1 x.2.2.2.1 := by
  have h : evBody tab (G36 n) n (c36 n) Tryz.f36 x = st36 n (fun w0 w1 w2 w3 => ga36_0 n [] n (S36_0 w0 w1 w2 w3)) x.2.1 x.2.2.1 x.2.2.2.1 := by kernel_rfl
  rw [h]
  have e0 : (fun w0 w1 w2 w3 => ga36_0 n [] n (S36_0 w0 w1 w2 w3)) = lp36_0 n n := by
    funext w0 w1 w2 w3; exact el36_0 n n w0 w1 w2 w3
  rw [e0]
  rfl
theorem g36 (W : World) (n : Nat) : Good Tryz.prog W 36 (c36 n) := body_good follows tabOk (GamOk.cons (g42 W n) (GamOk.cons (g43 W n) (GamOk.cons (g50 W n) (GamOk.cons (g55 W n) (GamOk.cons (g56 W n) GamOk.nil))))) (f := 36) (fn := Tryz.f36) (c := bodyOf Tryz.f36) (by kernel_rfl) (by kernel_rfl) (by kernel_rfl) (by kernel_rfl) (by kernel_rfl) (by kernel_rfl) (by kernel_rfl) (fun x r h => ⟨n, (e36 n x).trans h⟩)
/-! spec.DrawShowTodo -/
noncomputable def F14 (n : Nat) (a0 : List Int) : Option (List (List (Int × (ByteArray × (Int × Int)))) × Unit) :=
  (F22 n a0).bind fun r1 =>
  (F36 n r1.2.1 r1.2.2.1 r1.2.2.2.1).bind fun r2 =>
  some (r2.1, ())
noncomputable def c14 (n : Nat) : Con := ⟨[.one (.sl (.imm false) 5 (.int .u8))], [], [.one (.sl .own 64 (.sl 32 (.pair (.int .i64) (.pair .str (.pair (.int .i64) (.int .i64))))))], [], fun (x : List Int × Unit) => F14 n x.1⟩
noncomputable def G14 (n : Nat) : Gam := [((22, []), c22 n), ((36, []), c36 n)]
theorem e14 (n : Nat) (x : List Int × Unit) : evBody tab (G14 n) n (c14 n) Tryz.f14 x = F14 n x.1 := by kernel_rfl
theorem g14 (W : World) (n : Nat) : Good Tryz.prog W 14 (c14 n) := body_good follows tabOk (GamOk.cons (g22 W n) (GamOk.cons (g36 W n) GamOk.nil)) (f := 14) (fn := Tryz.f14) (c := bodyOf Tryz.f14) (by kernel_rfl) (by kernel_rfl) (by kernel_rfl) (by kernel_rfl) (by kernel_rfl) (by kernel_rfl) (by kernel_rfl) (fun x r h => ⟨n, (e14 n x).trans h⟩)
/-! impl.TodoOk -/
noncomputable def st40_1 (n : Nat) (g0 : (List (List (Int × (ByteArray × (Int × Int))))) → Int → Int → Option (Bool × Unit)) (g1 : Int → (List (List (Int × (ByteArray × (Int × Int))))) → Int → Int → (List (Int × (ByteArray × (Int × Int)))) → Int → Int → Option (Bool × Unit)) (i0 : Int) (l1 : List (List (Int × (ByteArray × (Int × Int))))) (i2 : Int) (i3 : Int) (l4 : List (Int × (ByteArray × (Int × Int)))) (i5 : Int) (i6 : Int) : Option (Bool × Unit) :=
  if (decide (i6 < i5)) = true then
    if (decide (0 ≤ i6)) = true then
    if (decide (i6 < (l4.length : Int))) = true then
    (F31 n ((rdOf ((0 : Int), ((⟨#[]⟩ : ByteArray), ((0 : Int), (0 : Int)))) l4 i6).1) (((rdOf ((0 : Int), ((⟨#[]⟩ : ByteArray), ((0 : Int), (0 : Int)))) l4 i6).2).1) ((((rdOf ((0 : Int), ((⟨#[]⟩ : ByteArray), ((0 : Int), (0 : Int)))) l4 i6).2).2).1) ((((rdOf ((0 : Int), ((⟨#[]⟩ : ByteArray), ((0 : Int), (0 : Int)))) l4 i6).2).2).2)).bind fun r1 =>
    if (!r1.1) = true then
      some (false, ())
    else
      if (!((decide ((rdOf ((0 : Int), ((⟨#[]⟩ : ByteArray), ((0 : Int), (0 : Int)))) l4 i6).1 = 3)) == (decide (i0 = 3)))) = true then
        some (false, ())
      else
        g1 i0 l1 i2 i3 l4 i5 (wrap64 (i6 + 1))
    else none
    else none
  else
    g0 l1 i2 (wrap64 (i3 + 1))
noncomputable def lp40_1 (n : Nat) (g0 : (List (List (Int × (ByteArray × (Int × Int))))) → Int → Int → Option (Bool × Unit)) : Nat → Int → (List (List (Int × (ByteArray × (Int × Int))))) → Int → Int → (List (Int × (ByteArray × (Int × Int)))) → Int → Int → Option (Bool × Unit)
  | 0 => fun _ _ _ _ _ _ _ => none
  | k + 1 => st40_1 n g0 (lp40_1 n g0 k)
noncomputable def st40_0 (n : Nat) (h1 : Int → (List (List (Int × (ByteArray × (Int × Int))))) → Int → Int → (List (Int × (ByteArray × (Int × Int)))) → Int → Int → Option (Bool × Unit)) (g0 : (List (List (Int × (ByteArray × (Int × Int))))) → Int → Int → Option (Bool × Unit)) (l0 : List (List (Int × (ByteArray × (Int × Int))))) (i1 : Int) (i2 : Int) : Option (Bool × Unit) :=
  if (decide (i2 < i1)) = true then
    if (decide (0 ≤ i2)) = true then
    if (decide (i2 < (l0.length : Int))) = true then
    if (decide (((rdOf ([] : List (Int × (ByteArray × (Int × Int)))) l0 i2).length : Int) > 10)) = true then
      some (false, ())
    else
      h1 i2 l0 i1 i2 (rdOf ([] : List (Int × (ByteArray × (Int × Int)))) l0 i2) ((rdOf ([] : List (Int × (ByteArray × (Int × Int)))) l0 i2).length : Int) (0 : Int)
    else none
    else none
  else
    some (true, ())
noncomputable def lp40_0 (n : Nat) : Nat → (List (List (Int × (ByteArray × (Int × Int))))) → Int → Int → Option (Bool × Unit)
  | 0 => fun _ _ _ => none
  | k + 1 => st40_0 n (lp40_1 n (lp40_0 n k) n) (lp40_0 n k)
noncomputable def st40 (n : Nat) (h0 : (List (List (Int × (ByteArray × (Int × Int))))) → Int → Int → Option (Bool × Unit)) (a0 : List (List (Int × (ByteArray × (Int × Int))))) : Option (Bool × Unit) :=
  if (decide ((a0.length : Int) ≠ 4)) = true then
    some (false, ())
  else
    h0 a0 (a0.length : Int) (0 : Int)
noncomputable def F40 (n : Nat) (a0 : List (List (Int × (ByteArray × (Int × Int))))) : Option (Bool × Unit) := st40 n (lp40_0 n n) a0
noncomputable def c40 (n : Nat) : Con := ⟨[.one (.sl (.imm true) 64 (.sl 32 (.pair (.int .i64) (.pair .str (.pair (.int .i64) (.int .i64))))))], [], [.one (.bool)], [], fun (x : List (List (Int × (ByteArray × (Int × Int)))) × Unit) => F40 n x.1⟩
noncomputable def G40 (n : Nat) : Gam := [((31, []), c31 n)]
noncomputable def S40_1 (i0 : Int) (l1 : List (List (Int × (ByteArray × (Int × Int))))) (i2 : Int) (i3 : Int) (l4 : List (Int × (ByteArray × (Int × Int)))) (i5 : Int) (i6 : Int) : St := ⟨[.dead, .dead, .dead, .int .i64 i0] ++ List.replicate 6 .dead ++ [.sl (.imm true) 64 (.sl 32 (.pair (.int .i64) (.pair .str (.pair (.int .i64) (.int .i64))))) l1, .int .i64 i2, .int .i64 i3] ++ List.replicate 9 .dead ++ [.sl (.imm true) 32 (.pair (.int .i64) (.pair .str (.pair (.int .i64) (.int .i64)))) l4, .int .i64 i5, .int .i64 i6] ++ List.replicate 16 .dead, List.replicate 41 Ob.none⟩
noncomputable def ga40_1 (n : Nat) (ks : List Nat) (k : Nat) (st : St) : Option (Bool × Unit) := goAt tab (G40 n) n (bodyOf Tryz.f40) (lvOf Tryz.f40) (lvOf Tryz.f40).ret [1, 1, 0, 1, 0, 0, 1, 1, 0, 0, 1, 1, 1, 0] ks k st (evBody.endK tab (c40 n) Tryz.f40)
noncomputable def S40_0 (l0 : List (List (Int × (ByteArray × (Int × Int))))) (i1 : Int) (i2 : Int) : St := ⟨List.replicate 10 .dead ++ [.sl (.imm true) 64 (.sl 32 (.pair (.int .i64) (.pair .str (.pair (.int .i64) (.int .i64))))) l0, .int .i64 i1, .int .i64 i2] ++ List.replicate 28 .dead, List.replicate 41 Ob.none⟩
noncomputable def ga40_0 (n : Nat) (ks : List Nat) (k : Nat) (st : St) : Option (Bool × Unit) := goAt tab (G40 n) n (bodyOf Tryz.f40) (lvOf Tryz.f40) (lvOf Tryz.f40).ret [1, 1, 0, 1, 0] ks k st (evBody.endK tab (c40 n) Tryz.f40)
theorem el40_1 (n : Nat) (k0 : Nat) : ∀ (k : Nat), ∀ (i0 : Int) (l1 : List (List (Int × (ByteArray × (Int × Int))))) (i2 : Int) (i3 : Int) (l4 : List (Int × (ByteArray × (Int × Int)))) (i5 : Int) (i6 : Int), ga40_1 n [k0] k (S40_1 i0 l1 i2 i3 l4 i5 i6) = lp40_1 n (fun w0 w1 w2 => ga40_0 n [] k0 (S40_0 w0 w1 w2)) k i0 l1 i2 i3 l4 i5 i6 := by
  intro k
  induction k with
  | zero => intros; rfl
  | succ k ih =>
    intro i0 l1 i2 i3 l4 i5 i6
    have h : ga40_1 n [k0] (k + 1) (S40_1 i0 l1 i2 i3 l4 i5 i6) = st40_1 n (fun w0 w1 w2 => ga40_0 n [] k0 (S40_0 w0 w1 w2)) (fun w0 w1 w2 w3 w4 w5 w6 => ga40_1 n [k0] k (S40_1 w0 w1 w2 w3 w4 w5 w6)) i0 l1 i2 i3 l4 i5 i6 := by kernel_rfl
    rw [h]
    have e : (fun w0 w1 w2 w3 w4 w5 w6 => ga40_1 n [k0] k (S40_1 w0 w1 w2 w3 w4 w5 w6)) = lp40_1 n (fun w0 w1 w2 => ga40_0 n [] k0 (S40_0 w0 w1 w2)) k := by
      funext w0 w1 w2 w3 w4 w5 w6; exact ih w0 w1 w2 w3 w4 w5 w6
    rw [e]
    rfl
theorem el40_0 (n : Nat) : ∀ (k : Nat), ∀ (l0 : List (List (Int × (ByteArray × (Int × Int))))) (i1 : Int) (i2 : Int), ga40_0 n [] k (S40_0 l0 i1 i2) = lp40_0 n k l0 i1 i2 := by
  intro k
  induction k with
  | zero => intros; rfl
  | succ k ih =>
    intro l0 i1 i2
    have h : ga40_0 n [] (k + 1) (S40_0 l0 i1 i2) = st40_0 n (fun w0 w1 w2 w3 w4 w5 w6 => ga40_1 n [k] n (S40_1 w0 w1 w2 w3 w4 w5 w6)) (fun w0 w1 w2 => ga40_0 n [] k (S40_0 w0 w1 w2)) l0 i1 i2 := by kernel_rfl
    rw [h]
    have e1 : (fun w0 w1 w2 w3 w4 w5 w6 => ga40_1 n [k] n (S40_1 w0 w1 w2 w3 w4 w5 w6)) = lp40_1 n (fun w0 w1 w2 => ga40_0 n [] k (S40_0 w0 w1 w2)) n := by
      funext w0 w1 w2 w3 w4 w5 w6; exact el40_1 n k n w0 w1 w2 w3 w4 w5 w6
    have e : (fun w0 w1 w2 => ga40_0 n [] k (S40_0 w0 w1 w2)) = lp40_0 n k := by
      funext w0 w1 w2; exact ih w0 w1 w2
    rw [e1, e]
    rfl
theorem e40 (n : Nat) (x : List (List (Int × (ByteArray × (Int × Int)))) × Unit) : evBody tab (G40 n) n (c40 n) Tryz.f40 x = F40 n x.1 := by
  have h : evBody tab (G40 n) n (c40 n) Tryz.f40 x = st40 n (fun w0 w1 w2 => ga40_0 n [] n (S40_0 w0 w1 w2)) x.1 := by kernel_rfl
  rw [h]
  have e0 : (fun w0 w1 w2 => ga40_0 n [] n (S40_0 w0 w1 w2)) = lp40_0 n n := by
    funext w0 w1 w2; exact el40_0 n n w0 w1 w2
  rw [e0]
  rfl
theorem g40 (W : World) (n : Nat) : Good Tryz.prog W 40 (c40 n) := body_good follows tabOk (GamOk.cons (g31 W n) GamOk.nil) (f := 40) (fn := Tryz.f40) (c := bodyOf Tryz.f40) (by kernel_rfl) (by kernel_rfl) (by kernel_rfl) (by kernel_rfl) (by kernel_rfl) (by kernel_rfl) (by kernel_rfl) (fun x r h => ⟨n, (e40 n x).trans h⟩)
/-! impl.ShowTodo -/
noncomputable def st16_1 (n : Nat) (g0 : ByteArray → (List (List (Int × (ByteArray × (Int × Int))))) → Int → Int → Option (ByteArray × Unit)) (g1 : ByteArray → Int → (List (List (Int × (ByteArray × (Int × Int))))) → Int → Int → (List (Int × (ByteArray × (Int × Int)))) → Int → Int → Option (ByteArray × Unit)) (s0 : ByteArray) (i1 : Int) (l2 : List (List (Int × (ByteArray × (Int × Int))))) (i3 : Int) (i4 : Int) (l5 : List (Int × (ByteArray × (Int × Int)))) (i6 : Int) (i7 : Int) : Option (ByteArray × Unit) :=
  if (decide (i7 < i6)) = true then
    if (decide (0 ≤ i7)) = true then
    if (decide (i7 < (l5.length : Int))) = true then
    (F33 n i1).bind fun r2 =>
    if (decide ((r2.1.size + (⟨#[32]⟩ : ByteArray).size : Nat) ≤ 9223372036854775807)) = true then
    (F12 n ((rdOf ((0 : Int), ((⟨#[]⟩ : ByteArray), ((0 : Int), (0 : Int)))) l5 i7).1) (((rdOf ((0 : Int), ((⟨#[]⟩ : ByteArray), ((0 : Int), (0 : Int)))) l5 i7).2).1) ((((rdOf ((0 : Int), ((⟨#[]⟩ : ByteArray), ((0 : Int), (0 : Int)))) l5 i7).2).2).1) ((((rdOf ((0 : Int), ((⟨#[]⟩ : ByteArray), ((0 : Int), (0 : Int)))) l5 i7).2).2).2)).bind fun r3 =>
    if (decide (((r2.1 ++ (⟨#[32]⟩ : ByteArray)).size + r3.1.size : Nat) ≤ 9223372036854775807)) = true then
    if (decide ((((r2.1 ++ (⟨#[32]⟩ : ByteArray)) ++ r3.1).size + (⟨#[10]⟩ : ByteArray).size : Nat) ≤ 9223372036854775807)) = true then
    if (decide ((s0.size + (((r2.1 ++ (⟨#[32]⟩ : ByteArray)) ++ r3.1) ++ (⟨#[10]⟩ : ByteArray)).size : Nat) ≤ 9223372036854775807)) = true then
    g1 (s0 ++ (((r2.1 ++ (⟨#[32]⟩ : ByteArray)) ++ r3.1) ++ (⟨#[10]⟩ : ByteArray))) i1 l2 i3 i4 l5 i6 (wrap64 (i7 + 1))
    else none
    else none
    else none
    else none
    else none
    else none
  else
    g0 s0 l2 i3 (wrap64 (i4 + 1))
noncomputable def lp16_1 (n : Nat) (g0 : ByteArray → (List (List (Int × (ByteArray × (Int × Int))))) → Int → Int → Option (ByteArray × Unit)) : Nat → ByteArray → Int → (List (List (Int × (ByteArray × (Int × Int))))) → Int → Int → (List (Int × (ByteArray × (Int × Int)))) → Int → Int → Option (ByteArray × Unit)
  | 0 => fun _ _ _ _ _ _ _ _ => none
  | k + 1 => st16_1 n g0 (lp16_1 n g0 k)
noncomputable def st16_0 (n : Nat) (h1 : ByteArray → Int → (List (List (Int × (ByteArray × (Int × Int))))) → Int → Int → (List (Int × (ByteArray × (Int × Int)))) → Int → Int → Option (ByteArray × Unit)) (g0 : ByteArray → (List (List (Int × (ByteArray × (Int × Int))))) → Int → Int → Option (ByteArray × Unit)) (s0 : ByteArray) (l1 : List (List (Int × (ByteArray × (Int × Int))))) (i2 : Int) (i3 : Int) : Option (ByteArray × Unit) :=
  if (decide (i3 < i2)) = true then
    if (decide (0 ≤ i3)) = true then
    if (decide (i3 < (l1.length : Int))) = true then
    h1 s0 i3 l1 i2 i3 (rdOf ([] : List (Int × (ByteArray × (Int × Int)))) l1 i3) ((rdOf ([] : List (Int × (ByteArray × (Int × Int)))) l1 i3).length : Int) (0 : Int)
    else none
    else none
  else
    some (s0, ())
noncomputable def lp16_0 (n : Nat) : Nat → ByteArray → (List (List (Int × (ByteArray × (Int × Int))))) → Int → Int → Option (ByteArray × Unit)
  | 0 => fun _ _ _ _ => none
  | k + 1 => st16_0 n (lp16_1 n (lp16_0 n k) n) (lp16_0 n k)
noncomputable def st16 (n : Nat) (h0 : ByteArray → (List (List (Int × (ByteArray × (Int × Int))))) → Int → Int → Option (ByteArray × Unit)) (a0 : List (List (Int × (ByteArray × (Int × Int))))) : Option (ByteArray × Unit) :=
  (F40 n a0).bind fun r1 =>
  if (!r1.1) = true then
    some ((⟨#[]⟩ : ByteArray), ())
  else
    h0 (⟨#[]⟩ : ByteArray) a0 (a0.length : Int) (0 : Int)
noncomputable def F16 (n : Nat) (a0 : List (List (Int × (ByteArray × (Int × Int))))) : Option (ByteArray × Unit) := st16 n (lp16_0 n n) a0
noncomputable def c16 (n : Nat) : Con := ⟨[.one (.sl (.imm true) 64 (.sl 32 (.pair (.int .i64) (.pair .str (.pair (.int .i64) (.int .i64))))))], [], [.one (.str)], [], fun (x : List (List (Int × (ByteArray × (Int × Int)))) × Unit) => F16 n x.1⟩
noncomputable def G16 (n : Nat) : Gam := [((12, []), c12 n), ((33, []), c33 n), ((40, []), c40 n)]
noncomputable def S16_1 (s0 : ByteArray) (i1 : Int) (l2 : List (List (Int × (ByteArray × (Int × Int))))) (i3 : Int) (i4 : Int) (l5 : List (Int × (ByteArray × (Int × Int)))) (i6 : Int) (i7 : Int) : St := ⟨[.dead, .dead, .dead, .str s0, .int .i64 i1] ++ List.replicate 7 .dead ++ [.sl (.imm true) 64 (.sl 32 (.pair (.int .i64) (.pair .str (.pair (.int .i64) (.int .i64))))) l2, .int .i64 i3, .int .i64 i4] ++ List.replicate 5 .dead ++ [.sl (.imm true) 32 (.pair (.int .i64) (.pair .str (.pair (.int .i64) (.int .i64)))) l5, .int .i64 i6, .int .i64 i7] ++ List.replicate 15 .dead, List.replicate 38 Ob.none⟩
noncomputable def ga16_1 (n : Nat) (ks : List Nat) (k : Nat) (st : St) : Option (ByteArray × Unit) := goAt tab (G16 n) n (bodyOf Tryz.f16) (lvOf Tryz.f16) (lvOf Tryz.f16).ret [1, 1, 1, 0, 1, 0, 0, 1, 1, 0, 0, 1, 1, 0] ks k st (evBody.endK tab (c16 n) Tryz.f16)
noncomputable def S16_0 (s0 : ByteArray) (l1 : List (List (Int × (ByteArray × (Int × Int))))) (i2 : Int) (i3 : Int) : St := ⟨[.dead, .dead, .dead, .str s0] ++ List.replicate 8 .dead ++ [.sl (.imm true) 64 (.sl 32 (.pair (.int .i64) (.pair .str (.pair (.int .i64) (.int .i64))))) l1, .int .i64 i2, .int .i64 i3] ++ List.replicate 23 .dead, List.replicate 38 Ob.none⟩
noncomputable def ga16_0 (n : Nat) (ks : List Nat) (k : Nat) (st : St) : Option (ByteArray × Unit) := goAt tab (G16 n) n (bodyOf Tryz.f16) (lvOf Tryz.f16) (lvOf Tryz.f16).ret [1, 1, 1, 0, 1, 0] ks k st (evBody.endK tab (c16 n) Tryz.f16)
theorem el16_1 (n : Nat) (k0 : Nat) : ∀ (k : Nat), ∀ (s0 : ByteArray) (i1 : Int) (l2 : List (List (Int × (ByteArray × (Int × Int))))) (i3 : Int) (i4 : Int) (l5 : List (Int × (ByteArray × (Int × Int)))) (i6 : Int) (i7 : Int), ga16_1 n [k0] k (S16_1 s0 i1 l2 i3 i4 l5 i6 i7) = lp16_1 n (fun w0 w1 w2 w3 => ga16_0 n [] k0 (S16_0 w0 w1 w2 w3)) k s0 i1 l2 i3 i4 l5 i6 i7 := by
  intro k
  induction k with
  | zero => intros; rfl
  | succ k ih =>
    intro s0 i1 l2 i3 i4 l5 i6 i7
    have h : ga16_1 n [k0] (k + 1) (S16_1 s0 i1 l2 i3 i4 l5 i6 i7) = st16_1 n (fun w0 w1 w2 w3 => ga16_0 n [] k0 (S16_0 w0 w1 w2 w3)) (fun w0 w1 w2 w3 w4 w5 w6 w7 => ga16_1 n [k0] k (S16_1 w0 w1 w2 w3 w4 w5 w6 w7)) s0 i1 l2 i3 i4 l5 i6 i7 := by kernel_rfl
    rw [h]
    have e : (fun w0 w1 w2 w3 w4 w5 w6 w7 => ga16_1 n [k0] k (S16_1 w0 w1 w2 w3 w4 w5 w6 w7)) = lp16_1 n (fun w0 w1 w2 w3 => ga16_0 n [] k0 (S16_0 w0 w1 w2 w3)) k := by
      funext w0 w1 w2 w3 w4 w5 w6 w7; exact ih w0 w1 w2 w3 w4 w5 w6 w7
    rw [e]
    rfl
theorem el16_0 (n : Nat) : ∀ (k : Nat), ∀ (s0 : ByteArray) (l1 : List (List (Int × (ByteArray × (Int × Int))))) (i2 : Int) (i3 : Int), ga16_0 n [] k (S16_0 s0 l1 i2 i3) = lp16_0 n k s0 l1 i2 i3 := by
  intro k
  induction k with
  | zero => intros; rfl
  | succ k ih =>
    intro s0 l1 i2 i3
    have h : ga16_0 n [] (k + 1) (S16_0 s0 l1 i2 i3) = st16_0 n (fun w0 w1 w2 w3 w4 w5 w6 w7 => ga16_1 n [k] n (S16_1 w0 w1 w2 w3 w4 w5 w6 w7)) (fun w0 w1 w2 w3 => ga16_0 n [] k (S16_0 w0 w1 w2 w3)) s0 l1 i2 i3 := by kernel_rfl
    rw [h]
    have e1 : (fun w0 w1 w2 w3 w4 w5 w6 w7 => ga16_1 n [k] n (S16_1 w0 w1 w2 w3 w4 w5 w6 w7)) = lp16_1 n (fun w0 w1 w2 w3 => ga16_0 n [] k (S16_0 w0 w1 w2 w3)) n := by
      funext w0 w1 w2 w3 w4 w5 w6 w7; exact el16_1 n k n w0 w1 w2 w3 w4 w5 w6 w7
    have e : (fun w0 w1 w2 w3 => ga16_0 n [] k (S16_0 w0 w1 w2 w3)) = lp16_0 n k := by
      funext w0 w1 w2 w3; exact ih w0 w1 w2 w3
    rw [e1, e]
    rfl
theorem e16 (n : Nat) (x : List (List (Int × (ByteArray × (Int × Int)))) × Unit) : evBody tab (G16 n) n (c16 n) Tryz.f16 x = F16 n x.1 := by
  have h : evBody tab (G16 n) n (c16 n) Tryz.f16 x = st16 n (fun w0 w1 w2 w3 => ga16_0 n [] n (S16_0 w0 w1 w2 w3)) x.1 := by kernel_rfl
  rw [h]
  have e0 : (fun w0 w1 w2 w3 => ga16_0 n [] n (S16_0 w0 w1 w2 w3)) = lp16_0 n n := by
    funext w0 w1 w2 w3; exact el16_0 n n w0 w1 w2 w3
  rw [e0]
  rfl
theorem g16 (W : World) (n : Nat) (h60 : ∀ n, Good Tryz.prog W 60 (c60 n)) : Good Tryz.prog W 16 (c16 n) := body_good follows tabOk (GamOk.cons (g12 W n h60) (GamOk.cons (g33 W n h60) (GamOk.cons (g40 W n) GamOk.nil))) (f := 16) (fn := Tryz.f16) (c := bodyOf Tryz.f16) (by kernel_rfl) (by kernel_rfl) (by kernel_rfl) (by kernel_rfl) (by kernel_rfl) (by kernel_rfl) (by kernel_rfl) (fun x r h => ⟨n, (e16 n x).trans h⟩)
/-! impl.LinesIn -/
noncomputable def st37_0 (n : Nat) (g0 : Int → Int → (List ByteArray) → (List ByteArray) → Option (List ByteArray × Unit)) (i0 : Int) (i1 : Int) (l2 : List ByteArray) (l3 : List ByteArray) : Option (List ByteArray × Unit) :=
  if (decide (i1 < i0)) = true then
    if (decide (0 ≤ i1)) = true then
    if (decide (i1 < (l3.length : Int))) = true then
    if (!decide ((rdOf (⟨#[]⟩ : ByteArray) l3 i1).toList = (⟨#[]⟩ : ByteArray).toList)) = true then
      if (decide ((l2.length + ([(rdOf (⟨#[]⟩ : ByteArray) l3 i1)] : List ByteArray).length) * 16 ≤ 140737488355328)) = true then
      g0 i0 (wrap64 (i1 + 1)) (l2 ++ ([(rdOf (⟨#[]⟩ : ByteArray) l3 i1)] : List ByteArray)) l3
      else none
    else
      g0 i0 (wrap64 (i1 + 1)) l2 l3
    else none
    else none
  else
    some (l2, ())
noncomputable def lp37_0 (n : Nat) : Nat → Int → Int → (List ByteArray) → (List ByteArray) → Option (List ByteArray × Unit)
  | 0 => fun _ _ _ _ => none
  | k + 1 => st37_0 n (lp37_0 n k)
noncomputable def st37 (n : Nat) (h0 : Int → Int → (List ByteArray) → (List ByteArray) → Option (List ByteArray × Unit)) (a0 : ByteArray) : Option (List ByteArray × Unit) :=
  (F28 n a0 (⟨#[10]⟩ : ByteArray)).bind fun r1 =>
  h0 (r1.1.length : Int) (0 : Int) ([] : List ByteArray) r1.1
noncomputable def F37 (n : Nat) (a0 : ByteArray) : Option (List ByteArray × Unit) := st37 n (lp37_0 n n) a0
noncomputable def c37 (n : Nat) : Con := ⟨[.one (.str)], [], [.one (.sl .own 9 .str)], [], fun (x : ByteArray × Unit) => F37 n x.1⟩
noncomputable def G37 (n : Nat) : Gam := [((28, []), c28 n)]
noncomputable def S37_0 (i0 : Int) (i1 : Int) (l2 : List ByteArray) (l3 : List ByteArray) : St := ⟨[.dead, .dead, .dead, .sr 3 0 none 0 0 none] ++ List.replicate 4 .dead ++ [.sr 8 0 none 0 0 none, .int .i64 i0, .int .i64 i1] ++ List.replicate 11 .dead, [Ob.none, Ob.none, Ob.none, ⟨false, [.sl .own 9 .str l2], 0, 0⟩] ++ List.replicate 4 Ob.none ++ [⟨false, [.sl .own 9 .str l3], 0, 0⟩] ++ List.replicate 13 Ob.none⟩
noncomputable def ga37_0 (n : Nat) (ks : List Nat) (k : Nat) (st : St) : Option (List ByteArray × Unit) := goAt tab (G37 n) n (bodyOf Tryz.f37) (lvOf Tryz.f37) (lvOf Tryz.f37).ret [1, 1, 0, 1, 0] ks k st (evBody.endK tab (c37 n) Tryz.f37)
theorem el37_0 (n : Nat) : ∀ (k : Nat), ∀ (i0 : Int) (i1 : Int) (l2 : List ByteArray) (l3 : List ByteArray), ga37_0 n [] k (S37_0 i0 i1 l2 l3) = lp37_0 n k i0 i1 l2 l3 := by
  intro k
  induction k with
  | zero => intros; rfl
  | succ k ih =>
    intro i0 i1 l2 l3
    have h : ga37_0 n [] (k + 1) (S37_0 i0 i1 l2 l3) = st37_0 n (fun w0 w1 w2 w3 => ga37_0 n [] k (S37_0 w0 w1 w2 w3)) i0 i1 l2 l3 := by kernel_rfl
    rw [h]
    have e : (fun w0 w1 w2 w3 => ga37_0 n [] k (S37_0 w0 w1 w2 w3)) = lp37_0 n k := by
      funext w0 w1 w2 w3; exact ih w0 w1 w2 w3
    rw [e]
    rfl
theorem e37 (n : Nat) (x : ByteArray × Unit) : evBody tab (G37 n) n (c37 n) Tryz.f37 x = F37 n x.1 := by
  have h : evBody tab (G37 n) n (c37 n) Tryz.f37 x = st37 n (fun w0 w1 w2 w3 => ga37_0 n [] n (S37_0 w0 w1 w2 w3)) x.1 := by kernel_rfl
  rw [h]
  have e0 : (fun w0 w1 w2 w3 => ga37_0 n [] n (S37_0 w0 w1 w2 w3)) = lp37_0 n n := by
    funext w0 w1 w2 w3; exact el37_0 n n w0 w1 w2 w3
  rw [e0]
  rfl
theorem g37 (W : World) (n : Nat) (h28 : ∀ n, Good Tryz.prog W 28 (c28 n)) : Good Tryz.prog W 37 (c37 n) := body_good follows tabOk (GamOk.cons ((fun (_ : World) => h28) W n) GamOk.nil) (f := 37) (fn := Tryz.f37) (c := bodyOf Tryz.f37) (by kernel_rfl) (by kernel_rfl) (by kernel_rfl) (by kernel_rfl) (by kernel_rfl) (by kernel_rfl) (by kernel_rfl) (fun x r h => ⟨n, (e37 n x).trans h⟩)
/-! impl.ReadTodo -/
noncomputable def st15_0 (n : Nat) (g0 : ByteArray → Int → Int → (List (List (Int × (ByteArray × (Int × Int))))) → (List ByteArray) → Option (List (List (Int × (ByteArray × (Int × Int)))) × Bool × Unit)) (s0 : ByteArray) (i1 : Int) (i2 : Int) (l3 : List (List (Int × (ByteArray × (Int × Int))))) (l4 : List ByteArray) : Option (List (List (Int × (ByteArray × (Int × Int)))) × Bool × Unit) :=
  if (decide (i2 < i1)) = true then
    if (decide (0 ≤ i2)) = true then
    if (decide (i2 < (l4.length : Int))) = true then
    (F38 n (rdOf (⟨#[]⟩ : ByteArray) l4 i2) (⟨#[32]⟩ : ByteArray)).bind fun r2 =>
    (F30 n r2.1).bind fun r3 =>
    (F11 n r2.2.1).bind fun r4 =>
    if (!r3.2.1) = true then
      some (([] : List (List (Int × (ByteArray × (Int × Int))))), false, ())
    else
      if (!r4.2.2.2.2.1) = true then
        some (([] : List (List (Int × (ByteArray × (Int × Int))))), false, ())
      else
        (F39 n r3.1 (0 : Int) (3 : Int)).bind fun r5 =>
        if (!r5.1) = true then
          some (([] : List (List (Int × (ByteArray × (Int × Int))))), false, ())
        else
          if (decide (0 ≤ r3.1)) = true then
          if (decide (r3.1 < (l3.length : Int))) = true then
          if (decide (((rdOf ([] : List (Int × (ByteArray × (Int × Int)))) l3 r3.1).length + ([(r4.1, (r4.2.1, (r4.2.2.1, r4.2.2.2.1)))] : List (Int × (ByteArray × (Int × Int)))).length) * 40 ≤ 140737488355328)) = true then
          if (decide (0 ≤ r3.1)) = true then
          if (decide (r3.1 < (l3.length : Int))) = true then
          if (decide (r3.1 = r3.1)) = true then
          g0 s0 i1 (wrap64 (i2 + 1)) (l3.set r3.1.toNat ((rdOf ([] : List (Int × (ByteArray × (Int × Int)))) l3 r3.1) ++ ([(r4.1, (r4.2.1, (r4.2.2.1, r4.2.2.2.1)))] : List (Int × (ByteArray × (Int × Int)))))) l4
          else none
          else none
          else none
          else none
          else none
          else none
    else none
    else none
  else
    (F40 n l3).bind fun r6 =>
    if (!r6.1) = true then
      some (([] : List (List (Int × (ByteArray × (Int × Int))))), false, ())
    else
      (F16 n l3).bind fun r7 =>
      if (!decide (r7.1.toList = s0.toList)) = true then
        some (([] : List (List (Int × (ByteArray × (Int × Int))))), false, ())
      else
        some (l3, true, ())
noncomputable def lp15_0 (n : Nat) : Nat → ByteArray → Int → Int → (List (List (Int × (ByteArray × (Int × Int))))) → (List ByteArray) → Option (List (List (Int × (ByteArray × (Int × Int)))) × Bool × Unit)
  | 0 => fun _ _ _ _ _ => none
  | k + 1 => st15_0 n (lp15_0 n k)
noncomputable def st15 (n : Nat) (h0 : ByteArray → Int → Int → (List (List (Int × (ByteArray × (Int × Int))))) → (List ByteArray) → Option (List (List (Int × (ByteArray × (Int × Int)))) × Bool × Unit)) (a0 : ByteArray) : Option (List (List (Int × (ByteArray × (Int × Int)))) × Bool × Unit) :=
  if (decide (0 ≤ 4)) = true then
  if (decide (4 = 4)) = true then
  if (decide (4 * 24 ≤ 140737488355328)) = true then
  (F37 n a0).bind fun r1 =>
  h0 a0 (r1.1.length : Int) (0 : Int) (List.replicate (4 : Int).toNat ([] : List (Int × (ByteArray × (Int × Int))))) r1.1
  else none
  else none
  else none
noncomputable def F15 (n : Nat) (a0 : ByteArray) : Option (List (List (Int × (ByteArray × (Int × Int)))) × Bool × Unit) := st15 n (lp15_0 n n) a0
noncomputable def c15 (n : Nat) : Con := ⟨[.one (.str)], [], [.one (.sl .own 64 (.sl 32 (.pair (.int .i64) (.pair .str (.pair (.int .i64) (.int .i64)))))), .one (.bool)], [], fun (x : ByteArray × Unit) => F15 n x.1⟩
noncomputable def G15 (n : Nat) : Gam := [((11, []), c11 n), ((16, []), c16 n), ((30, []), c30 n), ((37, []), c37 n), ((38, []), c38 n), ((39, []), c39 n), ((40, []), c40 n)]
noncomputable def S15_0 (s0 : ByteArray) (i1 : Int) (i2 : Int) (l3 : List (List (Int × (ByteArray × (Int × Int))))) (l4 : List ByteArray) : St := ⟨[.str s0, .dead, .dead, .dead, .sr 4 0 none 0 0 none] ++ List.replicate 11 .dead ++ [.sr 16 0 none 0 0 none, .int .i64 i1, .int .i64 i2] ++ List.replicate 53 .dead, List.replicate 4 Ob.none ++ [⟨false, [.sl .own 64 (.sl 32 (.pair (.int .i64) (.pair .str (.pair (.int .i64) (.int .i64))))) l3], 0, 0⟩] ++ List.replicate 11 Ob.none ++ [⟨false, [.sl .own 9 .str l4], 0, 0⟩] ++ List.replicate 55 Ob.none⟩
noncomputable def ga15_0 (n : Nat) (ks : List Nat) (k : Nat) (st : St) : Option (List (List (Int × (ByteArray × (Int × Int)))) × Bool × Unit) := goAt tab (G15 n) n (bodyOf Tryz.f15) (lvOf Tryz.f15) (lvOf Tryz.f15).ret [1, 1, 0, 1, 0] ks k st (evBody.endK tab (c15 n) Tryz.f15)
theorem el15_0 (n : Nat) : ∀ (k : Nat), ∀ (s0 : ByteArray) (i1 : Int) (i2 : Int) (l3 : List (List (Int × (ByteArray × (Int × Int))))) (l4 : List ByteArray), ga15_0 n [] k (S15_0 s0 i1 i2 l3 l4) = lp15_0 n k s0 i1 i2 l3 l4 := by
  intro k
  induction k with
  | zero => intros; rfl
  | succ k ih =>
    intro s0 i1 i2 l3 l4
    have h : ga15_0 n [] (k + 1) (S15_0 s0 i1 i2 l3 l4) = st15_0 n (fun w0 w1 w2 w3 w4 => ga15_0 n [] k (S15_0 w0 w1 w2 w3 w4)) s0 i1 i2 l3 l4 := by kernel_rfl
    rw [h]
    have e : (fun w0 w1 w2 w3 w4 => ga15_0 n [] k (S15_0 w0 w1 w2 w3 w4)) = lp15_0 n k := by
      funext w0 w1 w2 w3 w4; exact ih w0 w1 w2 w3 w4
    rw [e]
    rfl
theorem e15 (n : Nat) (x : ByteArray × Unit) : evBody tab (G15 n) n (c15 n) Tryz.f15 x = F15 n x.1 := by
  have h : evBody tab (G15 n) n (c15 n) Tryz.f15 x = st15 n (fun w0 w1 w2 w3 w4 => ga15_0 n [] n (S15_0 w0 w1 w2 w3 w4)) x.1 := by kernel_rfl
  rw [h]
  have e0 : (fun w0 w1 w2 w3 w4 => ga15_0 n [] n (S15_0 w0 w1 w2 w3 w4)) = lp15_0 n n := by
    funext w0 w1 w2 w3 w4; exact el15_0 n n w0 w1 w2 w3 w4
  rw [e0]
  rfl
theorem g15 (W : World) (n : Nat) (h28 : ∀ n, Good Tryz.prog W 28 (c28 n)) (h38 : ∀ n, Good Tryz.prog W 38 (c38 n)) (h60 : ∀ n, Good Tryz.prog W 60 (c60 n)) : Good Tryz.prog W 15 (c15 n) := body_good follows tabOk (GamOk.cons (g11 W n h28 h60) (GamOk.cons (g16 W n h60) (GamOk.cons (g30 W n h60) (GamOk.cons (g37 W n h28) (GamOk.cons ((fun (_ : World) => h38) W n) (GamOk.cons (g39 W n) (GamOk.cons (g40 W n) GamOk.nil))))))) (f := 15) (fn := Tryz.f15) (c := bodyOf Tryz.f15) (by kernel_rfl) (by kernel_rfl) (by kernel_rfl) (by kernel_rfl) (by kernel_rfl) (by kernel_rfl) (by kernel_rfl) (fun x r h => ⟨n, (e15 n x).trans h⟩)
/-! spec.TodoOk -/
noncomputable def st17_1 (n : Nat) (g0 : (List (List (Int × (ByteArray × (Int × Int))))) → Int → Option (Bool × Unit)) (g1 : (List (List (Int × (ByteArray × (Int × Int))))) → Int → Int → Option (Bool × Unit)) (l0 : List (List (Int × (ByteArray × (Int × Int))))) (i1 : Int) (i2 : Int) : Option (Bool × Unit) :=
  if (decide (0 ≤ i1)) = true then
  if (decide (i1 < (l0.length : Int))) = true then
  if (decide (i2 < ((rdOf ([] : List (Int × (ByteArray × (Int × Int)))) l0 i1).length : Int))) = true then
    if (decide (0 ≤ i1)) = true then
    if (decide (i1 < (l0.length : Int))) = true then
    if (decide (0 ≤ i2)) = true then
    if (decide (i2 < ((rdOf ([] : List (Int × (ByteArray × (Int × Int)))) l0 i1).length : Int))) = true then
    (F13 n ((rdOf ((0 : Int), ((⟨#[]⟩ : ByteArray), ((0 : Int), (0 : Int)))) (rdOf ([] : List (Int × (ByteArray × (Int × Int)))) l0 i1) i2).1) (((rdOf ((0 : Int), ((⟨#[]⟩ : ByteArray), ((0 : Int), (0 : Int)))) (rdOf ([] : List (Int × (ByteArray × (Int × Int)))) l0 i1) i2).2).1) ((((rdOf ((0 : Int), ((⟨#[]⟩ : ByteArray), ((0 : Int), (0 : Int)))) (rdOf ([] : List (Int × (ByteArray × (Int × Int)))) l0 i1) i2).2).2).1) ((((rdOf ((0 : Int), ((⟨#[]⟩ : ByteArray), ((0 : Int), (0 : Int)))) (rdOf ([] : List (Int × (ByteArray × (Int × Int)))) l0 i1) i2).2).2).2)).bind fun r1 =>
    if (!r1.1) = true then
      some (false, ())
    else
      if (!((decide ((rdOf ((0 : Int), ((⟨#[]⟩ : ByteArray), ((0 : Int), (0 : Int)))) (rdOf ([] : List (Int × (ByteArray × (Int × Int)))) l0 i1) i2).1 = 3)) == (decide (i1 = 3)))) = true then
        some (false, ())
      else
        g1 l0 i1 (wrap64 (i2 + 1))
    else none
    else none
    else none
    else none
  else
    g0 l0 (wrap64 (i1 + 1))
  else none
  else none
noncomputable def lp17_1 (n : Nat) (g0 : (List (List (Int × (ByteArray × (Int × Int))))) → Int → Option (Bool × Unit)) : Nat → (List (List (Int × (ByteArray × (Int × Int))))) → Int → Int → Option (Bool × Unit)
  | 0 => fun _ _ _ => none
  | k + 1 => st17_1 n g0 (lp17_1 n g0 k)
noncomputable def st17_0 (n : Nat) (h1 : (List (List (Int × (ByteArray × (Int × Int))))) → Int → Int → Option (Bool × Unit)) (g0 : (List (List (Int × (ByteArray × (Int × Int))))) → Int → Option (Bool × Unit)) (l0 : List (List (Int × (ByteArray × (Int × Int))))) (i1 : Int) : Option (Bool × Unit) :=
  if (decide (i1 < (l0.length : Int))) = true then
    if (decide (0 ≤ i1)) = true then
    if (decide (i1 < (l0.length : Int))) = true then
    if (decide (((rdOf ([] : List (Int × (ByteArray × (Int × Int)))) l0 i1).length : Int) > 10)) = true then
      some (false, ())
    else
      h1 l0 i1 (0 : Int)
    else none
    else none
  else
    some (decide ((l0.length : Int) = 4), ())
noncomputable def lp17_0 (n : Nat) : Nat → (List (List (Int × (ByteArray × (Int × Int))))) → Int → Option (Bool × Unit)
  | 0 => fun _ _ => none
  | k + 1 => st17_0 n (lp17_1 n (lp17_0 n k) n) (lp17_0 n k)
noncomputable def st17 (n : Nat) (h0 : (List (List (Int × (ByteArray × (Int × Int))))) → Int → Option (Bool × Unit)) (a0 : List (List (Int × (ByteArray × (Int × Int))))) : Option (Bool × Unit) :=
  h0 a0 (0 : Int)
noncomputable def F17 (n : Nat) (a0 : List (List (Int × (ByteArray × (Int × Int))))) : Option (Bool × Unit) := st17 n (lp17_0 n n) a0
noncomputable def c17 (n : Nat) : Con := ⟨[.one (.sl (.imm true) 64 (.sl 32 (.pair (.int .i64) (.pair .str (.pair (.int .i64) (.int .i64))))))], [], [.one (.bool)], [], fun (x : List (List (Int × (ByteArray × (Int × Int)))) × Unit) => F17 n x.1⟩
noncomputable def G17 (n : Nat) : Gam := [((13, []), c13 n)]
noncomputable def S17_1 (l0 : List (List (Int × (ByteArray × (Int × Int))))) (i1 : Int) (i2 : Int) : St := ⟨[.sl (.imm true) 64 (.sl 32 (.pair (.int .i64) (.pair .str (.pair (.int .i64) (.int .i64))))) l0, .dead, .dead, .int .i64 i1, .int .i64 i2] ++ List.replicate 46 .dead, List.replicate 51 Ob.none⟩
noncomputable def ga17_1 (n : Nat) (ks : List Nat) (k : Nat) (st : St) : Option (Bool × Unit) := goAt tab (G17 n) n (bodyOf Tryz.f17) (lvOf Tryz.f17) (lvOf Tryz.f17).ret [1, 0, 1, 0, 0, 1, 0, 0, 1, 1, 0] ks k st (evBody.endK tab (c17 n) Tryz.f17)
noncomputable def S17_0 (l0 : List (List (Int × (ByteArray × (Int × Int))))) (i1 : Int) : St := ⟨[.sl (.imm true) 64 (.sl 32 (.pair (.int .i64) (.pair .str (.pair (.int .i64) (.int .i64))))) l0, .dead, .dead, .int .i64 i1] ++ List.replicate 47 .dead, List.replicate 51 Ob.none⟩
noncomputable def ga17_0 (n : Nat) (ks : List Nat) (k : Nat) (st : St) : Option (Bool × Unit) := goAt tab (G17 n) n (bodyOf Tryz.f17) (lvOf Tryz.f17) (lvOf Tryz.f17).ret [1, 0, 1, 0] ks k st (evBody.endK tab (c17 n) Tryz.f17)
theorem el17_1 (n : Nat) (k0 : Nat) : ∀ (k : Nat), ∀ (l0 : List (List (Int × (ByteArray × (Int × Int))))) (i1 : Int) (i2 : Int), ga17_1 n [k0] k (S17_1 l0 i1 i2) = lp17_1 n (fun w0 w1 => ga17_0 n [] k0 (S17_0 w0 w1)) k l0 i1 i2 := by
  intro k
  induction k with
  | zero => intros; rfl
  | succ k ih =>
    intro l0 i1 i2
    have h : ga17_1 n [k0] (k + 1) (S17_1 l0 i1 i2) = st17_1 n (fun w0 w1 => ga17_0 n [] k0 (S17_0 w0 w1)) (fun w0 w1 w2 => ga17_1 n [k0] k (S17_1 w0 w1 w2)) l0 i1 i2 := by kernel_rfl
    rw [h]
    have e : (fun w0 w1 w2 => ga17_1 n [k0] k (S17_1 w0 w1 w2)) = lp17_1 n (fun w0 w1 => ga17_0 n [] k0 (S17_0 w0 w1)) k := by
      funext w0 w1 w2; exact ih w0 w1 w2
    rw [e]
    rfl
theorem el17_0 (n : Nat) : ∀ (k : Nat), ∀ (l0 : List (List (Int × (ByteArray × (Int × Int))))) (i1 : Int), ga17_0 n [] k (S17_0 l0 i1) = lp17_0 n k l0 i1 := by
  intro k
  induction k with
  | zero => intros; rfl
  | succ k ih =>
    intro l0 i1
    have h : ga17_0 n [] (k + 1) (S17_0 l0 i1) = st17_0 n (fun w0 w1 w2 => ga17_1 n [k] n (S17_1 w0 w1 w2)) (fun w0 w1 => ga17_0 n [] k (S17_0 w0 w1)) l0 i1 := by kernel_rfl
    rw [h]
    have e1 : (fun w0 w1 w2 => ga17_1 n [k] n (S17_1 w0 w1 w2)) = lp17_1 n (fun w0 w1 => ga17_0 n [] k (S17_0 w0 w1)) n := by
      funext w0 w1 w2; exact el17_1 n k n w0 w1 w2
    have e : (fun w0 w1 => ga17_0 n [] k (S17_0 w0 w1)) = lp17_0 n k := by
      funext w0 w1; exact ih w0 w1
    rw [e1, e]
    rfl
theorem e17 (n : Nat) (x : List (List (Int × (ByteArray × (Int × Int)))) × Unit) : evBody tab (G17 n) n (c17 n) Tryz.f17 x = F17 n x.1 := by
  have h : evBody tab (G17 n) n (c17 n) Tryz.f17 x = st17 n (fun w0 w1 => ga17_0 n [] n (S17_0 w0 w1)) x.1 := by kernel_rfl
  rw [h]
  have e0 : (fun w0 w1 => ga17_0 n [] n (S17_0 w0 w1)) = lp17_0 n n := by
    funext w0 w1; exact el17_0 n n w0 w1
  rw [e0]
  rfl
theorem g17 (W : World) (n : Nat) : Good Tryz.prog W 17 (c17 n) := body_good follows tabOk (GamOk.cons (g13 W n) GamOk.nil) (f := 17) (fn := Tryz.f17) (c := bodyOf Tryz.f17) (by kernel_rfl) (by kernel_rfl) (by kernel_rfl) (by kernel_rfl) (by kernel_rfl) (by kernel_rfl) (by kernel_rfl) (fun x r h => ⟨n, (e17 n x).trans h⟩)
/-! spec.Dec -/
noncomputable def j63_0 (n : Nat) (g0 : Int → ByteArray → Bool → Option (ByteArray × Unit)) (i0 : Int) (s1 : ByteArray) (b2 : Bool) (i3 : Int) : Option (ByteArray × Unit) :=
  if (decide (((strOf ([(wrapI .u8 ((wrap64 (48 + i3))))] : List Int)).size + s1.size : Nat) ≤ 9223372036854775807)) = true then
  if (decide (10 ≠ 0)) = true then
  g0 (wrap64 (i0.tdiv (10 : Int))) ((strOf ([(wrapI .u8 ((wrap64 (48 + i3))))] : List Int)) ++ s1) b2
  else none
  else none
noncomputable def st63_0 (n : Nat) (g0 : Int → ByteArray → Bool → Option (ByteArray × Unit)) (i0 : Int) (s1 : ByteArray) (b2 : Bool) : Option (ByteArray × Unit) :=
  if (decide (i0 ≠ 0)) = true then
    if (decide (10 ≠ 0)) = true then
    if (decide ((i0.tmod (10 : Int)) < 0)) = true then
      j63_0 n g0 i0 s1 b2 (wrap64 (0 - (i0.tmod (10 : Int))))
    else
      j63_0 n g0 i0 s1 b2 (i0.tmod (10 : Int))
    else none
  else
    if b2 = true then
      if (decide (((⟨#[45]⟩ : ByteArray).size + s1.size : Nat) ≤ 9223372036854775807)) = true then
      some (((⟨#[45]⟩ : ByteArray) ++ s1), ())
      else none
    else
      some (s1, ())
noncomputable def lp63_0 (n : Nat) : Nat → Int → ByteArray → Bool → Option (ByteArray × Unit)
  | 0 => fun _ _ _ => none
  | k + 1 => st63_0 n (lp63_0 n k)
noncomputable def st63 (n : Nat) (h0 : Int → ByteArray → Bool → Option (ByteArray × Unit)) (a0 : Int) : Option (ByteArray × Unit) :=
  if (decide (a0 = 0)) = true then
    some ((⟨#[48]⟩ : ByteArray), ())
  else
    h0 a0 (⟨#[]⟩ : ByteArray) (decide (a0 < 0))
noncomputable def F63 (n : Nat) (a0 : Int) : Option (ByteArray × Unit) := st63 n (lp63_0 n n) a0
noncomputable def c63 (n : Nat) : Con := ⟨[.one (.int .i64)], [], [.one (.str)], [], fun (x : Int × Unit) => F63 n x.1⟩
noncomputable def G63 (n : Nat) : Gam := []
noncomputable def S63_0 (i0 : Int) (s1 : ByteArray) (b2 : Bool) : St := ⟨[.int .i64 i0, .dead, .dead, .str s1, .bool b2] ++ List.replicate 26 .dead, List.replicate 31 Ob.none⟩
noncomputable def ga63_0 (n : Nat) (ks : List Nat) (k : Nat) (st : St) : Option (ByteArray × Unit) := goAt tab (G63 n) n (bodyOf Tryz.f63) (lvOf Tryz.f63) (lvOf Tryz.f63).ret [1, 1, 1, 1, 0, 0] ks k st (evBody.endK tab (c63 n) Tryz.f63)
theorem el63_0 (n : Nat) : ∀ (k : Nat), ∀ (i0 : Int) (s1 : ByteArray) (b2 : Bool), ga63_0 n [] k (S63_0 i0 s1 b2) = lp63_0 n k i0 s1 b2 := by
  intro k
  induction k with
  | zero => intros; rfl
  | succ k ih =>
    intro i0 s1 b2
    have h : ga63_0 n [] (k + 1) (S63_0 i0 s1 b2) = st63_0 n (fun w0 w1 w2 => ga63_0 n [] k (S63_0 w0 w1 w2)) i0 s1 b2 := by kernel_rfl
    rw [h]
    have e : (fun w0 w1 w2 => ga63_0 n [] k (S63_0 w0 w1 w2)) = lp63_0 n k := by
      funext w0 w1 w2; exact ih w0 w1 w2
    rw [e]
    rfl
theorem e63 (n : Nat) (x : Int × Unit) : evBody tab (G63 n) n (c63 n) Tryz.f63 x = F63 n x.1 := by
  have h : evBody tab (G63 n) n (c63 n) Tryz.f63 x = st63 n (fun w0 w1 w2 => ga63_0 n [] n (S63_0 w0 w1 w2)) x.1 := by kernel_rfl
  rw [h]
  have e0 : (fun w0 w1 w2 => ga63_0 n [] n (S63_0 w0 w1 w2)) = lp63_0 n n := by
    funext w0 w1 w2; exact el63_0 n n w0 w1 w2
  rw [e0]
  rfl
theorem g63 (W : World) (n : Nat) : Good Tryz.prog W 63 (c63 n) := body_good follows tabOk GamOk.nil (f := 63) (fn := Tryz.f63) (c := bodyOf Tryz.f63) (by kernel_rfl) (by kernel_rfl) (by kernel_rfl) (by kernel_rfl) (by kernel_rfl) (by kernel_rfl) (by kernel_rfl) (fun x r h => ⟨n, (e63 n x).trans h⟩)
/-! spec.ShowOp -/
noncomputable def F64 (n : Nat) (a0 : Int) (a1 : ByteArray) (a2 : Int) (a3 : Int) : Option (ByteArray × Unit) :=
  (F13 n a0 a1 a2 a3).bind fun r1 =>
  if (!r1.1) = true then
    some ((⟨#[]⟩ : ByteArray), ())
  else
    if (decide (a0 = 1)) = true then
      if (decide (((⟨#[114, 101, 103, 32]⟩ : ByteArray).size + a1.size : Nat) ≤ 9223372036854775807)) = true then
      if (decide ((((⟨#[114, 101, 103, 32]⟩ : ByteArray) ++ a1).size + (⟨#[32]⟩ : ByteArray).size : Nat) ≤ 9223372036854775807)) = true then
      (F35 n a2).bind fun r2 =>
      if (decide (((((⟨#[114, 101, 103, 32]⟩ : ByteArray) ++ a1) ++ (⟨#[32]⟩ : ByteArray)).size + r2.1.size : Nat) ≤ 9223372036854775807)) = true then
      some (((((⟨#[114, 101, 103, 32]⟩ : ByteArray) ++ a1) ++ (⟨#[32]⟩ : ByteArray)) ++ r2.1), ())
      else none
      else none
      else none
    else
      if (decide (a0 = 2)) = true then
        if (decide (((⟨#[114, 101, 99, 32]⟩ : ByteArray).size + a1.size : Nat) ≤ 9223372036854775807)) = true then
        if (decide ((((⟨#[114, 101, 99, 32]⟩ : ByteArray) ++ a1).size + (⟨#[32]⟩ : ByteArray).size : Nat) ≤ 9223372036854775807)) = true then
        (F63 n a3).bind fun r3 =>
        if (decide (((((⟨#[114, 101, 99, 32]⟩ : ByteArray) ++ a1) ++ (⟨#[32]⟩ : ByteArray)).size + r3.1.size : Nat) ≤ 9223372036854775807)) = true then
        some (((((⟨#[114, 101, 99, 32]⟩ : ByteArray) ++ a1) ++ (⟨#[32]⟩ : ByteArray)) ++ r3.1), ())
        else none
        else none
        else none
      else
        some ((⟨#[102, 108, 117, 115, 104]⟩ : ByteArray), ())
noncomputable def c64 (n : Nat) : Con := ⟨[.agg [(.int .i64), (.str), (.int .i64), (.int .i64)]], [], [.one (.str)], [], fun (x : Int × ByteArray × Int × Int × Unit) => F64 n x.1 x.2.1 x.2.2.1 x.2.2.2.1⟩
noncomputable def G64 (n : Nat) : Gam := [((13, []), c13 n), ((35, []), c35 n), ((63, []), c63 n)]
theorem e64 (n : Nat) (x : Int × ByteArray × Int × Int × Unit) : evBody tab (G64 n) n (c64 n) Tryz.f64 x = F64 n x.1 x.2.1 x.2.2.1 x.2.2.2.1 := by kernel_rfl
theorem g64 (W : World) (n : Nat) : Good Tryz.prog W 64 (c64 n) := body_good follows tabOk (GamOk.cons (g13 W n) (GamOk.cons (g35 W n) (GamOk.cons (g63 W n) GamOk.nil))) (f := 64) (fn := Tryz.f64) (c := bodyOf Tryz.f64) (by kernel_rfl) (by kernel_rfl) (by kernel_rfl) (by kernel_rfl) (by kernel_rfl) (by kernel_rfl) (by kernel_rfl) (fun x r h => ⟨n, (e64 n x).trans h⟩)
/-! spec.ShowTodo -/
noncomputable def st41_1 (n : Nat) (g0 : (List (List (Int × (ByteArray × (Int × Int))))) → ByteArray → Int → Option (ByteArray × Unit)) (g1 : (List (List (Int × (ByteArray × (Int × Int))))) → ByteArray → Int → Int → Option (ByteArray × Unit)) (l0 : List (List (Int × (ByteArray × (Int × Int))))) (s1 : ByteArray) (i2 : Int) (i3 : Int) : Option (ByteArray × Unit) :=
  if (decide (0 ≤ i2)) = true then
  if (decide (i2 < (l0.length : Int))) = true then
  if (decide (i3 < ((rdOf ([] : List (Int × (ByteArray × (Int × Int)))) l0 i2).length : Int))) = true then
    (F63 n i2).bind fun r2 =>
    if (decide ((s1.size + r2.1.size : Nat) ≤ 9223372036854775807)) = true then
    if (decide (((s1 ++ r2.1).size + (⟨#[32]⟩ : ByteArray).size : Nat) ≤ 9223372036854775807)) = true then
    if (decide (0 ≤ i2)) = true then
    if (decide (i2 < (l0.length : Int))) = true then
    if (decide (0 ≤ i3)) = true then
    if (decide (i3 < ((rdOf ([] : List (Int × (ByteArray × (Int × Int)))) l0 i2).length : Int))) = true then
    (F64 n ((rdOf ((0 : Int), ((⟨#[]⟩ : ByteArray), ((0 : Int), (0 : Int)))) (rdOf ([] : List (Int × (ByteArray × (Int × Int)))) l0 i2) i3).1) (((rdOf ((0 : Int), ((⟨#[]⟩ : ByteArray), ((0 : Int), (0 : Int)))) (rdOf ([] : List (Int × (ByteArray × (Int × Int)))) l0 i2) i3).2).1) ((((rdOf ((0 : Int), ((⟨#[]⟩ : ByteArray), ((0 : Int), (0 : Int)))) (rdOf ([] : List (Int × (ByteArray × (Int × Int)))) l0 i2) i3).2).2).1) ((((rdOf ((0 : Int), ((⟨#[]⟩ : ByteArray), ((0 : Int), (0 : Int)))) (rdOf ([] : List (Int × (ByteArray × (Int × Int)))) l0 i2) i3).2).2).2)).bind fun r3 =>
    if (decide ((((s1 ++ r2.1) ++ (⟨#[32]⟩ : ByteArray)).size + r3.1.size : Nat) ≤ 9223372036854775807)) = true then
    if (decide (((((s1 ++ r2.1) ++ (⟨#[32]⟩ : ByteArray)) ++ r3.1).size + (⟨#[10]⟩ : ByteArray).size : Nat) ≤ 9223372036854775807)) = true then
    g1 l0 ((((s1 ++ r2.1) ++ (⟨#[32]⟩ : ByteArray)) ++ r3.1) ++ (⟨#[10]⟩ : ByteArray)) i2 (wrap64 (i3 + 1))
    else none
    else none
    else none
    else none
    else none
    else none
    else none
    else none
  else
    g0 l0 s1 (wrap64 (i2 + 1))
  else none
  else none
noncomputable def lp41_1 (n : Nat) (g0 : (List (List (Int × (ByteArray × (Int × Int))))) → ByteArray → Int → Option (ByteArray × Unit)) : Nat → (List (List (Int × (ByteArray × (Int × Int))))) → ByteArray → Int → Int → Option (ByteArray × Unit)
  | 0 => fun _ _ _ _ => none
  | k + 1 => st41_1 n g0 (lp41_1 n g0 k)
noncomputable def st41_0 (n : Nat) (h1 : (List (List (Int × (ByteArray × (Int × Int))))) → ByteArray → Int → Int → Option (ByteArray × Unit)) (g0 : (List (List (Int × (ByteArray × (Int × Int))))) → ByteArray → Int → Option (ByteArray × Unit)) (l0 : List (List (Int × (ByteArray × (Int × Int))))) (s1 : ByteArray) (i2 : Int) : Option (ByteArray × Unit) :=
  if (decide (i2 < (l0.length : Int))) = true then
    (F17 n l0).bind fun r1 =>
    if r1.1 = true then
      h1 l0 s1 i2 (0 : Int)
    else
      some (s1, ())
  else
    some (s1, ())
noncomputable def lp41_0 (n : Nat) : Nat → (List (List (Int × (ByteArray × (Int × Int))))) → ByteArray → Int → Option (ByteArray × Unit)
  | 0 => fun _ _ _ => none
  | k + 1 => st41_0 n (lp41_1 n (lp41_0 n k) n) (lp41_0 n k)
noncomputable def st41 (n : Nat) (h0 : (List (List (Int × (ByteArray × (Int × Int))))) → ByteArray → Int → Option (ByteArray × Unit)) (a0 : List (List (Int × (ByteArray × (Int × Int))))) : Option (ByteArray × Unit) :=
  h0 a0 (⟨#[]⟩ : ByteArray) (0 : Int)
noncomputable def F41 (n : Nat) (a0 : List (List (Int × (ByteArray × (Int × Int))))) : Option (ByteArray × Unit) := st41 n (lp41_0 n n) a0
noncomputable def c41 (n : Nat) : Con := ⟨[.one (.sl (.imm true) 64 (.sl 32 (.pair (.int .i64) (.pair .str (.pair (.int .i64) (.int .i64))))))], [], [.one (.str)], [], fun (x : List (List (Int × (ByteArray × (Int × Int)))) × Unit) => F41 n x.1⟩
noncomputable def G41 (n : Nat) : Gam := [((17, []), c17 n), ((63, []), c63 n), ((64, []), c64 n)]
noncomputable def S41_1 (l0 : List (List (Int × (ByteArray × (Int × Int))))) (s1 : ByteArray) (i2 : Int) (i3 : Int) : St := ⟨[.sl (.imm true) 64 (.sl 32 (.pair (.int .i64) (.pair .str (.pair (.int .i64) (.int .i64))))) l0, .dead, .dead, .str s1, .int .i64 i2, .int .i64 i3] ++ List.replicate 37 .dead, List.replicate 43 Ob.none⟩
noncomputable def ga41_1 (n : Nat) (ks : List Nat) (k : Nat) (st : St) : Option (ByteArray × Unit) := goAt tab (G41 n) n (bodyOf Tryz.f41) (lvOf Tryz.f41) (lvOf Tryz.f41).ret [1, 1, 0, 1, 0, 0, 1, 0, 0, 1, 0] ks k st (evBody.endK tab (c41 n) Tryz.f41)
noncomputable def S41_0 (l0 : List (List (Int × (ByteArray × (Int × Int))))) (s1 : ByteArray) (i2 : Int) : St := ⟨[.sl (.imm true) 64 (.sl 32 (.pair (.int .i64) (.pair .str (.pair (.int .i64) (.int .i64))))) l0, .dead, .dead, .str s1, .int .i64 i2] ++ List.replicate 38 .dead, List.replicate 43 Ob.none⟩
noncomputable def ga41_0 (n : Nat) (ks : List Nat) (k : Nat) (st : St) : Option (ByteArray × Unit) := goAt tab (G41 n) n (bodyOf Tryz.f41) (lvOf Tryz.f41) (lvOf Tryz.f41).ret [1, 1, 0, 1, 0] ks k st (evBody.endK tab (c41 n) Tryz.f41)
theorem el41_1 (n : Nat) (k0 : Nat) : ∀ (k : Nat), ∀ (l0 : List (List (Int × (ByteArray × (Int × Int))))) (s1 : ByteArray) (i2 : Int) (i3 : Int), ga41_1 n [k0] k (S41_1 l0 s1 i2 i3) = lp41_1 n (fun w0 w1 w2 => ga41_0 n [] k0 (S41_0 w0 w1 w2)) k l0 s1 i2 i3 := by
  intro k
  induction k with
  | zero => intros; rfl
  | succ k ih =>
    intro l0 s1 i2 i3
    have h : ga41_1 n [k0] (k + 1) (S41_1 l0 s1 i2 i3) = st41_1 n (fun w0 w1 w2 => ga41_0 n [] k0 (S41_0 w0 w1 w2)) (fun w0 w1 w2 w3 => ga41_1 n [k0] k (S41_1 w0 w1 w2 w3)) l0 s1 i2 i3 := by kernel_rfl
    rw [h]
    have e : (fun w0 w1 w2 w3 => ga41_1 n [k0] k (S41_1 w0 w1 w2 w3)) = lp41_1 n (fun w0 w1 w2 => ga41_0 n [] k0 (S41_0 w0 w1 w2)) k := by
      funext w0 w1 w2 w3; exact ih w0 w1 w2 w3
    rw [e]
    rfl
theorem el41_0 (n : Nat) : ∀ (k : Nat), ∀ (l0 : List (List (Int × (ByteArray × (Int × Int))))) (s1 : ByteArray) (i2 : Int), ga41_0 n [] k (S41_0 l0 s1 i2) = lp41_0 n k l0 s1 i2 := by
  intro k
  induction k with
  | zero => intros; rfl
  | succ k ih =>
    intro l0 s1 i2
    have h : ga41_0 n [] (k + 1) (S41_0 l0 s1 i2) = st41_0 n (fun w0 w1 w2 w3 => ga41_1 n [k] n (S41_1 w0 w1 w2 w3)) (fun w0 w1 w2 => ga41_0 n [] k (S41_0 w0 w1 w2)) l0 s1 i2 := by kernel_rfl
    rw [h]
    have e1 : (fun w0 w1 w2 w3 => ga41_1 n [k] n (S41_1 w0 w1 w2 w3)) = lp41_1 n (fun w0 w1 w2 => ga41_0 n [] k (S41_0 w0 w1 w2)) n := by
      funext w0 w1 w2 w3; exact el41_1 n k n w0 w1 w2 w3
    have e : (fun w0 w1 w2 => ga41_0 n [] k (S41_0 w0 w1 w2)) = lp41_0 n k := by
      funext w0 w1 w2; exact ih w0 w1 w2
    rw [e1, e]
    rfl
theorem e41 (n : Nat) (x : List (List (Int × (ByteArray × (Int × Int)))) × Unit) : evBody tab (G41 n) n (c41 n) Tryz.f41 x = F41 n x.1 := by
  have h : evBody tab (G41 n) n (c41 n) Tryz.f41 x = st41 n (fun w0 w1 w2 => ga41_0 n [] n (S41_0 w0 w1 w2)) x.1 := by kernel_rfl
  rw [h]
  have e0 : (fun w0 w1 w2 => ga41_0 n [] n (S41_0 w0 w1 w2)) = lp41_0 n n := by
    funext w0 w1 w2; exact el41_0 n n w0 w1 w2
  rw [e0]
  rfl
theorem g41 (W : World) (n : Nat) : Good Tryz.prog W 41 (c41 n) := body_good follows tabOk (GamOk.cons (g17 W n) (GamOk.cons (g63 W n) (GamOk.cons (g64 W n) GamOk.nil))) (f := 41) (fn := Tryz.f41) (c := bodyOf Tryz.f41) (by kernel_rfl) (by kernel_rfl) (by kernel_rfl) (by kernel_rfl) (by kernel_rfl) (by kernel_rfl) (by kernel_rfl) (fun x r h => ⟨n, (e41 n x).trans h⟩)
/-! spec.l1Text -/
noncomputable def j67_0 (n : Nat) (g0 : Int → Int → (List Int) → (List Int) → Int → Int → Option (ByteArray × List Int × Int × Int × Unit)) (i0 : Int) (i1 : Int) (i2 : Int) (l3 : List Int) (l4 : List Int) (i5 : Int) (i6 : Int) : Option (ByteArray × List Int × Int × Int × Unit) :=
  if (decide ((l3.length + ([(wrapI .u8 (i2))] : List Int).length) * 1 ≤ 140737488355328)) = true then
  g0 i0 (wrap64 (i1 - 1)) (l3 ++ ([(wrapI .u8 (i2))] : List Int)) l4 i5 i6
  else none
noncomputable def st67_0 (n : Nat) (g0 : Int → Int → (List Int) → (List Int) → Int → Int → Option (ByteArray × List Int × Int × Int × Unit)) (i0 : Int) (i1 : Int) (l2 : List Int) (l3 : List Int) (i4 : Int) (i5 : Int) : Option (ByteArray × List Int × Int × Int × Unit) :=
  if (decide (i1 > 0)) = true then
    (F66 n l3 i4 i5).bind fun r3 =>
    if (decide (i0 = 1)) = true then
      if (decide (2 ≠ 0)) = true then
      if (decide (i0 = 2)) = true then
        if (decide (4 ≠ 0)) = true then
        j67_0 n g0 i0 i1 (wrap64 (97 + ((r3.1.tmod (2 : Int)).tmod (4 : Int)))) l2 r3.2.1 r3.2.2.1 r3.2.2.2.1
        else none
      else
        j67_0 n g0 i0 i1 (r3.1.tmod (2 : Int)) l2 r3.2.1 r3.2.2.1 r3.2.2.2.1
      else none
    else
      if (decide (i0 = 2)) = true then
        if (decide (4 ≠ 0)) = true then
        j67_0 n g0 i0 i1 (wrap64 (97 + (r3.1.tmod (4 : Int)))) l2 r3.2.1 r3.2.2.1 r3.2.2.2.1
        else none
      else
        j67_0 n g0 i0 i1 r3.1 l2 r3.2.1 r3.2.2.1 r3.2.2.2.1
  else
    some ((strOf l2), l3, i4, i5, ())
noncomputable def lp67_0 (n : Nat) : Nat → Int → Int → (List Int) → (List Int) → Int → Int → Option (ByteArray × List Int × Int × Int × Unit)
  | 0 => fun _ _ _ _ _ _ => none
  | k + 1 => st67_0 n (lp67_0 n k)
noncomputable def st67 (n : Nat) (h0 : Int → Int → (List Int) → (List Int) → Int → Int → Option (ByteArray × List Int × Int × Int × Unit)) (a1 : Int) (a2 : List Int) (a3 : Int) (a4 : Int) : Option (ByteArray × List Int × Int × Int × Unit) :=
  (F43 n (4 : Int) a2 a3 a4).bind fun r1 =>
  (F43 n (wrap64 (a1 + 1)) r1.2.1 r1.2.2.1 r1.2.2.2.1).bind fun r2 =>
  h0 r1.1 r2.1 ([] : List Int) r2.2.1 r2.2.2.1 r2.2.2.2.1
noncomputable def F67 (n : Nat) (a1 : Int) (a2 : List Int) (a3 : Int) (a4 : Int) : Option (ByteArray × List Int × Int × Int × Unit) := st67 n (lp67_0 n n) a1 a2 a3 a4
noncomputable def c67 (n : Nat) : Con := ⟨[.one (.ptr 0 0), .one (.int .i64)], [[(.sl (.imm false) 5 (.int .u8)), (.int .i64), (.int .i64)]], [.one (.str)], [[(.sl (.imm false) 5 (.int .u8)), (.int .i64), (.int .i64)]], fun (x : Unit × Int × List Int × Int × Int × Unit) => F67 n x.2.1 x.2.2.1 x.2.2.2.1 x.2.2.2.2.1⟩
noncomputable def G67 (n : Nat) : Gam := [((43, []), c43 n), ((66, []), c66 n)]
noncomputable def S67_0 (i0 : Int) (i1 : Int) (l2 : List Int) (l3 : List Int) (i4 : Int) (i5 : Int) : St := ⟨[.ptr 38 0] ++ List.replicate 4 .dead ++ [.sr 5 0 none 0 0 none, .int .i64 i0, .int .i64 i1] ++ List.replicate 30 .dead, List.replicate 5 Ob.none ++ [⟨false, [.sl .own 5 (.int .u8) l2], 0, 0⟩] ++ List.replicate 32 Ob.none ++ [⟨true, [.sl (.imm false) 5 (.int .u8) l3, .int .i64 i4, .int .i64 i5], 0, 0⟩]⟩
noncomputable def ga67_0 (n : Nat) (ks : List Nat) (k : Nat) (st : St) : Option (ByteArray × List Int × Int × Int × Unit) := goAt tab (G67 n) n (bodyOf Tryz.f67) (lvOf Tryz.f67) (lvOf Tryz.f67).ret [1, 1, 1, 0, 1, 0] ks k st (evBody.endK tab (c67 n) Tryz.f67)
theorem el67_0 (n : Nat) : ∀ (k : Nat), ∀ (i0 : Int) (i1 : Int) (l2 : List Int) (l3 : List Int) (i4 : Int) (i5 : Int), ga67_0 n [] k (S67_0 i0 i1 l2 l3 i4 i5) = lp67_0 n k i0 i1 l2 l3 i4 i5 := by
  intro k
  induction k with
  | zero => intros; rfl
  | succ k ih =>
    intro i0 i1 l2 l3 i4 i5
    have h : ga67_0 n [] (k + 1) (S67_0 i0 i1 l2 l3 i4 i5) = st67_0 n (fun w0 w1 w2 w3 w4 w5 => ga67_0 n [] k (S67_0 w0 w1 w2 w3 w4 w5)) i0 i1 l2 l3 i4 i5 := by kernel_rfl
    rw [h]
    have e : (fun w0 w1 w2 w3 w4 w5 => ga67_0 n [] k (S67_0 w0 w1 w2 w3 w4 w5)) = lp67_0 n k := by
      funext w0 w1 w2 w3 w4 w5; exact ih w0 w1 w2 w3 w4 w5
    rw [e]
    rfl
theorem e67 (n : Nat) (x : Unit × Int × List Int × Int × Int × Unit) : evBody tab (G67 n) n (c67 n) Tryz.f67 x = F67 n x.2.1 x.2.2.1 x.2.2.2.1 x.2.2.2.2.1 := by
  have h : evBody tab (G67 n) n (c67 n) Tryz.f67 x = st67 n (fun w0 w1 w2 w3 w4 w5 => ga67_0 n [] n (S67_0 w0 w1 w2 w3 w4 w5)) x.2.1 x.2.2.1 x.2.2.2.1 x.2.2.2.2.1 := by kernel_rfl
  rw [h]
  have e0 : (fun w0 w1 w2 w3 w4 w5 => ga67_0 n [] n (S67_0 w0 w1 w2 w3 w4 w5)) = lp67_0 n n := by
    funext w0 w1 w2 w3 w4 w5; exact el67_0 n n w0 w1 w2 w3 w4 w5
  rw [e0]
  rfl
theorem g67 (W : World) (n : Nat) : Good Tryz.prog W 67 (c67 n) := body_good follows tabOk (GamOk.cons (g43 W n) (GamOk.cons (g66 W n) GamOk.nil)) (f := 67) (fn := Tryz.f67) (c := bodyOf Tryz.f67) (by kernel_rfl) (by kernel_rfl) (by kernel_rfl) (by kernel_rfl) (by kernel_rfl) (by kernel_rfl) (by kernel_rfl) (fun x r h => ⟨n, (e67 n x).trans h⟩)
/-! spec.l1Spoil -/
noncomputable def F44 (n : Nat) (a1 : ByteArray) (a2 : List Int) (a3 : Int) (a4 : Int) : Option (ByteArray × List Int × Int × Int × Unit) :=
  if (decide ((a1.size : Int) = 0)) = true then
    (F67 n (3 : Int) a2 a3 a4).bind fun r1 =>
    some (r1.1, r1.2.1, r1.2.2.1, r1.2.2.2.1, ())
  else
    (F43 n (a1.size : Int) a2 a3 a4).bind fun r2 =>
    (F43 n (4 : Int) r2.2.1 r2.2.2.1 r2.2.2.2.1).bind fun r3 =>
    if (decide (r3.1 = 0)) = true then
      if (decide (0 ≤ 0)) = true then
      if (decide (0 ≤ r2.1)) = true then
      if (decide (r2.1 ≤ (a1.size : Int))) = true then
      if (decide (0 ≤ (wrap64 (r2.1 + 1)))) = true then
      if (decide ((wrap64 (r2.1 + 1)) ≤ (a1.size : Int))) = true then
      if (decide ((a1.size : Int) ≤ (a1.size : Int))) = true then
      if (decide (((a1.extract (0 : Int).toNat r2.1.toNat).size + (a1.extract (wrap64 (r2.1 + 1)).toNat (a1.size : Int).toNat).size : Nat) ≤ 9223372036854775807)) = true then
      some (((a1.extract (0 : Int).toNat r2.1.toNat) ++ (a1.extract (wrap64 (r2.1 + 1)).toNat (a1.size : Int).toNat)), r3.2.1, r3.2.2.1, r3.2.2.2.1, ())
      else none
      else none
      else none
      else none
      else none
      else none
      else none
    else
      if (decide (r3.1 = 1)) = true then
        if (decide (0 ≤ 0)) = true then
        if (decide (0 ≤ r2.1)) = true then
        if (decide (r2.1 ≤ (a1.size : Int))) = true then
        (F66 n r3.2.1 r3.2.2.1 r3.2.2.2.1).bind fun r4 =>
        if (decide (((a1.extract (0 : Int).toNat r2.1.toNat).size + (strOf ([(wrapI .u8 (r4.1))] : List Int)).size : Nat) ≤ 9223372036854775807)) = true then
        if (decide (0 ≤ r2.1)) = true then
        if (decide (r2.1 ≤ (a1.size : Int))) = true then
        if (decide ((a1.size : Int) ≤ (a1.size : Int))) = true then
        if (decide ((((a1.extract (0 : Int).toNat r2.1.toNat) ++ (strOf ([(wrapI .u8 (r4.1))] : List Int))).size + (a1.extract r2.1.toNat (a1.size : Int).toNat).size : Nat) ≤ 9223372036854775807)) = true then
        some ((((a1.extract (0 : Int).toNat r2.1.toNat) ++ (strOf ([(wrapI .u8 (r4.1))] : List Int))) ++ (a1.extract r2.1.toNat (a1.size : Int).toNat)), r4.2.1, r4.2.2.1, r4.2.2.2.1, ())
        else none
        else none
        else none
        else none
        else none
        else none
        else none
        else none
      else
        if (decide (r3.1 = 2)) = true then
          if (decide (0 ≤ 0)) = true then
          if (decide (0 ≤ r2.1)) = true then
          if (decide (r2.1 ≤ (a1.size : Int))) = true then
          some ((a1.extract (0 : Int).toNat r2.1.toNat), r3.2.1, r3.2.2.1, r3.2.2.2.1, ())
          else none
          else none
          else none
        else
          if (decide (0 ≤ 0)) = true then
          if (decide (0 ≤ r2.1)) = true then
          if (decide (r2.1 ≤ (a1.size : Int))) = true then
          if (decide (0 ≤ r2.1)) = true then
          if (decide (r2.1 < (a1.size : Int))) = true then
          (F43 n (255 : Int) r3.2.1 r3.2.2.1 r3.2.2.2.1).bind fun r5 =>
          if (decide (((a1.extract (0 : Int).toNat r2.1.toNat).size + (strOf ([(wrapI .u8 ((xorI .i64 (wrap64 ((bt a1 r2.1))) (wrap64 (1 + r5.1)))))] : List Int)).size : Nat) ≤ 9223372036854775807)) = true then
          if (decide (0 ≤ (wrap64 (r2.1 + 1)))) = true then
          if (decide ((wrap64 (r2.1 + 1)) ≤ (a1.size : Int))) = true then
          if (decide ((a1.size : Int) ≤ (a1.size : Int))) = true then
          if (decide ((((a1.extract (0 : Int).toNat r2.1.toNat) ++ (strOf ([(wrapI .u8 ((xorI .i64 (wrap64 ((bt a1 r2.1))) (wrap64 (1 + r5.1)))))] : List Int))).size + (a1.extract (wrap64 (r2.1 + 1)).toNat (a1.size : Int).toNat).size : Nat) ≤ 9223372036854775807)) = true then
          some ((((a1.extract (0 : Int).toNat r2.1.toNat) ++ (strOf ([(wrapI .u8 ((xorI .i64 (wrap64 ((bt a1 r2.1))) (wrap64 (1 + r5.1)))))] : List Int))) ++ (a1.extract (wrap64 (r2.1 + 1)).toNat (a1.size : Int).toNat)), r5.2.1, r5.2.2.1, r5.2.2.2.1, ())
          else none
          else none
          else none
          else none
          else none
          else none
          else none
          else none
          else none
          else none
noncomputable def c44 (n : Nat) : Con := ⟨[.one (.ptr 0 0), .one (.str)], [[(.sl (.imm false) 5 (.int .u8)), (.int .i64), (.int .i64)]], [.one (.str)], [[(.sl (.imm false) 5 (.int .u8)), (.int .i64), (.int .i64)]], fun (x : Unit × ByteArray × List Int × Int × Int × Unit) => F44 n x.2.1 x.2.2.1 x.2.2.2.1 x.2.2.2.2.1⟩
noncomputable def G44 (n : Nat) : Gam := [((43, []), c43 n), ((66, []), c66 n), ((67, []), c67 n)]
theorem e44 (n : Nat) (x : Unit × ByteArray × List Int × Int × Int × Unit) : evBody tab (G44 n) n (c44 n) Tryz.f44 x = F44 n x.2.1 x.2.2.1 x.2.2.2.1 x.2.2.2.2.1 := by kernel_rfl
theorem g44 (W : World) (n : Nat) : Good Tryz.prog W 44 (c44 n) := body_good follows tabOk (GamOk.cons (g43 W n) (GamOk.cons (g66 W n) (GamOk.cons (g67 W n) GamOk.nil))) (f := 44) (fn := Tryz.f44) (c := bodyOf Tryz.f44) (by kernel_rfl) (by kernel_rfl) (by kernel_rfl) (by kernel_rfl) (by kernel_rfl) (by kernel_rfl) (by kernel_rfl) (fun x r h => ⟨n, (e44 n x).trans h⟩)
end Go.Eva
end
section
/- The functions, as their texts evaluate. -/
set_option linter.unusedVariables false
set_option maxRecDepth 100000
namespace Go.Eva
open Go.Proofs
open Go.RowKit (wrap64)
/-! spec.DrawReadTodo -/
noncomputable def F18 (n : Nat) (a0 : List Int) : Option (ByteArray × Unit) :=
  (F22 n a0).bind fun r1 =>
  (F42 n (4 : Int) r1.2.1 r1.2.2.1 r1.2.2.2.1).bind fun r2 =>
  (F41 n r2.1).bind fun r3 =>
  (F43 n (4 : Int) r2.2.1 r2.2.2.1 r2.2.2.2.1).bind fun r4 =>
  if (decide (r4.1 = 0)) = true then
    (F44 n r3.1 r4.2.1 r4.2.2.1 r4.2.2.2.1).bind fun r5 =>
    some (r5.1, ())
  else
    if (decide (r4.1 = 1)) = true then
      (F45 n ([(⟨#[48, 32, 102, 108, 117, 115, 104, 10]⟩ : ByteArray), (⟨#[51, 32, 102, 108, 117, 115, 104, 10]⟩ : ByteArray), (⟨#[51, 32, 102, 108, 117, 115, 104]⟩ : ByteArray), (⟨#[10]⟩ : ByteArray)] : List ByteArray) r4.2.1 r4.2.2.1 r4.2.2.2.1).bind fun r6 =>
      if (decide ((r3.1.size + r6.1.size : Nat) ≤ 9223372036854775807)) = true then
      some ((r3.1 ++ r6.1), ())
      else none
    else
      some (r3.1, ())
noncomputable def c18 (n : Nat) : Con := ⟨[.one (.sl (.imm false) 5 (.int .u8))], [], [.one (.str)], [], fun (x : List Int × Unit) => F18 n x.1⟩
noncomputable def G18 (n : Nat) : Gam := [((22, []), c22 n), ((41, []), c41 n), ((42, []), c42 n), ((43, []), c43 n), ((44, []), c44 n), ((45, []), c45 n)]
theorem e18 (n : Nat) (x : List Int × Unit) : evBody tab (G18 n) n (c18 n) Tryz.f18 x = F18 n x.1 := by kernel_rfl
theorem g18 (W : World) (n : Nat) : Good Tryz.prog W 18 (c18 n) := body_good follows tabOk (GamOk.cons (g22 W n) (GamOk.cons (g41 W n) (GamOk.cons (g42 W n) (GamOk.cons (g43 W n) (GamOk.cons (g44 W n) (GamOk.cons (g45 W n) GamOk.nil)))))) (f := 18) (fn := Tryz.f18) (c := bodyOf Tryz.f18) (by kernel_rfl) (by kernel_rfl) (by kernel_rfl) (by kernel_rfl) (by kernel_rfl) (by kernel_rfl) (by kernel_rfl) (fun x r h => ⟨n, (e18 n x).trans h⟩)
/-! spec.l21Cut -/
noncomputable def st46_0 (n : Nat) (g0 : ByteArray → Int → Int → Int → (List ByteArray) → Option (List ByteArray × Unit)) (s0 : ByteArray) (i1 : Int) (i2 : Int) (i3 : Int) (l4 : List ByteArray) : Option (List ByteArray × Unit) :=
  if (decide (i3 < (s0.size : Int))) = true then
    if (decide (0 ≤ i3)) = true then
    if (decide (i3 < (s0.size : Int))) = true then
    if (decide ((bt s0 i3) = i1)) = true then
      if (decide (0 ≤ i2)) = true then
      if (decide (i2 ≤ i3)) = true then
      if (decide (i3 ≤ (s0.size : Int))) = true then
      if (decide ((l4.length + ([(s0.extract i2.toNat i3.toNat)] : List ByteArray).length) * 16 ≤ 140737488355328)) = true then
      g0 s0 i1 (wrap64 (i3 + 1)) (wrap64 (i3 + 1)) (l4 ++ ([(s0.extract i2.toNat i3.toNat)] : List ByteArray))
      else none
      else none
      else none
      else none
    else
      g0 s0 i1 i2 (wrap64 (i3 + 1)) l4
    else none
    else none
  else
    if (decide (0 ≤ i2)) = true then
    if (decide (i2 ≤ (s0.size : Int))) = true then
    if (decide ((s0.size : Int) ≤ (s0.size : Int))) = true then
    if (decide ((l4.length + ([(s0.extract i2.toNat (s0.size : Int).toNat)] : List ByteArray).length) * 16 ≤ 140737488355328)) = true then
    some ((l4 ++ ([(s0.extract i2.toNat (s0.size : Int).toNat)] : List ByteArray)), ())
    else none
    else none
    else none
    else none
noncomputable def lp46_0 (n : Nat) : Nat → ByteArray → Int → Int → Int → (List ByteArray) → Option (List ByteArray × Unit)
  | 0 => fun _ _ _ _ _ => none
  | k + 1 => st46_0 n (lp46_0 n k)
noncomputable def st46 (n : Nat) (h0 : ByteArray → Int → Int → Int → (List ByteArray) → Option (List ByteArray × Unit)) (a0 : ByteArray) (a1 : Int) : Option (List ByteArray × Unit) :=
  h0 a0 a1 (0 : Int) (0 : Int) ([] : List ByteArray)
noncomputable def F46 (n : Nat) (a0 : ByteArray) (a1 : Int) : Option (List ByteArray × Unit) := st46 n (lp46_0 n n) a0 a1
noncomputable def c46 (n : Nat) : Con := ⟨[.one (.str), .one (.int .u8)], [], [.one (.sl .own 9 .str)], [], fun (x : ByteArray × Int × Unit) => F46 n x.1 x.2.1⟩
noncomputable def G46 (n : Nat) : Gam := []
noncomputable def S46_0 (s0 : ByteArray) (i1 : Int) (i2 : Int) (i3 : Int) (l4 : List ByteArray) : St := ⟨[.str s0, .int .u8 i1, .dead, .dead, .dead, .sr 5 0 none 0 0 none, .int .i64 i2, .int .i64 i3] ++ List.replicate 27 .dead, List.replicate 5 Ob.none ++ [⟨false, [.sl .own 9 .str l4], 0, 0⟩] ++ List.replicate 29 Ob.none⟩
noncomputable def ga46_0 (n : Nat) (ks : List Nat) (k : Nat) (st : St) : Option (List ByteArray × Unit) := goAt tab (G46 n) n (bodyOf Tryz.f46) (lvOf Tryz.f46) (lvOf Tryz.f46).ret [1, 1, 1, 0, 1, 0] ks k st (evBody.endK tab (c46 n) Tryz.f46)
theorem el46_0 (n : Nat) : ∀ (k : Nat), ∀ (s0 : ByteArray) (i1 : Int) (i2 : Int) (i3 : Int) (l4 : List ByteArray), ga46_0 n [] k (S46_0 s0 i1 i2 i3 l4) = lp46_0 n k s0 i1 i2 i3 l4 := by
  intro k
  induction k with
  | zero => intros; rfl
  | succ k ih =>
    intro s0 i1 i2 i3 l4
    have h : ga46_0 n [] (k + 1) (S46_0 s0 i1 i2 i3 l4) = st46_0 n (fun w0 w1 w2 w3 w4 => ga46_0 n [] k (S46_0 w0 w1 w2 w3 w4)) s0 i1 i2 i3 l4 := by kernel_rfl
    rw [h]
    have e : (fun w0 w1 w2 w3 w4 => ga46_0 n [] k (S46_0 w0 w1 w2 w3 w4)) = lp46_0 n k := by
      funext w0 w1 w2 w3 w4; exact ih w0 w1 w2 w3 w4
    rw [e]
    rfl
theorem e46 (n : Nat) (x : ByteArray × Int × Unit) : evBody tab (G46 n) n (c46 n) Tryz.f46 x = F46 n x.1 x.2.1 := by
  have h : evBody tab (G46 n) n (c46 n) Tryz.f46 x = st46 n (fun w0 w1 w2 w3 w4 => ga46_0 n [] n (S46_0 w0 w1 w2 w3 w4)) x.1 x.2.1 := by kernel_rfl
  rw [h]
  have e0 : (fun w0 w1 w2 w3 w4 => ga46_0 n [] n (S46_0 w0 w1 w2 w3 w4)) = lp46_0 n n := by
    funext w0 w1 w2 w3 w4; exact el46_0 n n w0 w1 w2 w3 w4
  rw [e0]
  rfl
theorem g46 (W : World) (n : Nat) : Good Tryz.prog W 46 (c46 n) := body_good follows tabOk GamOk.nil (f := 46) (fn := Tryz.f46) (c := bodyOf Tryz.f46) (by kernel_rfl) (by kernel_rfl) (by kernel_rfl) (by kernel_rfl) (by kernel_rfl) (by kernel_rfl) (by kernel_rfl) (fun x r h => ⟨n, (e46 n x).trans h⟩)
/-! spec.KindOf -/
noncomputable def st68_0 (n : Nat) (g0 : ByteArray → Int → Option (Int × Unit)) (s0 : ByteArray) (i1 : Int) : Option (Int × Unit) :=
  if (decide (i1 ≤ 3)) = true then
    (F35 n i1).bind fun r1 =>
    if (decide (r1.1.toList = s0.toList)) = true then
      some (i1, ())
    else
      g0 s0 (wrap64 (i1 + 1))
  else
    some (0, ())
noncomputable def lp68_0 (n : Nat) : Nat → ByteArray → Int → Option (Int × Unit)
  | 0 => fun _ _ => none
  | k + 1 => st68_0 n (lp68_0 n k)
noncomputable def st68 (n : Nat) (h0 : ByteArray → Int → Option (Int × Unit)) (a0 : ByteArray) : Option (Int × Unit) :=
  h0 a0 (1 : Int)
noncomputable def F68 (n : Nat) (a0 : ByteArray) : Option (Int × Unit) := st68 n (lp68_0 n n) a0
noncomputable def c68 (n : Nat) : Con := ⟨[.one (.str)], [], [.one (.int .i64)], [], fun (x : ByteArray × Unit) => F68 n x.1⟩
noncomputable def G68 (n : Nat) : Gam := [((35, []), c35 n)]
noncomputable def S68_0 (s0 : ByteArray) (i1 : Int) : St := ⟨[.str s0, .dead, .dead, .int .i64 i1] ++ List.replicate 9 .dead, List.replicate 13 Ob.none⟩
noncomputable def ga68_0 (n : Nat) (ks : List Nat) (k : Nat) (st : St) : Option (Int × Unit) := goAt tab (G68 n) n (bodyOf Tryz.f68) (lvOf Tryz.f68) (lvOf Tryz.f68).ret [1, 0, 1, 0] ks k st (evBody.endK tab (c68 n) Tryz.f68)
theorem el68_0 (n : Nat) : ∀ (k : Nat), ∀ (s0 : ByteArray) (i1 : Int), ga68_0 n [] k (S68_0 s0 i1) = lp68_0 n k s0 i1 := by
  intro k
  induction k with
  | zero => intros; rfl
  | succ k ih =>
    intro s0 i1
    have h : ga68_0 n [] (k + 1) (S68_0 s0 i1) = st68_0 n (fun w0 w1 => ga68_0 n [] k (S68_0 w0 w1)) s0 i1 := by kernel_rfl
    rw [h]
    have e : (fun w0 w1 => ga68_0 n [] k (S68_0 w0 w1)) = lp68_0 n k := by
      funext w0 w1; exact ih w0 w1
    rw [e]
    rfl
theorem e68 (n : Nat) (x : ByteArray × Unit) : evBody tab (G68 n) n (c68 n) Tryz.f68 x = F68 n x.1 := by
  have h : evBody tab (G68 n) n (c68 n) Tryz.f68 x = st68 n (fun w0 w1 => ga68_0 n [] n (S68_0 w0 w1)) x.1 := by kernel_rfl
  rw [h]
  have e0 : (fun w0 w1 => ga68_0 n [] n (S68_0 w0 w1)) = lp68_0 n n := by
    funext w0 w1; exact el68_0 n n w0 w1
  rw [e0]
  rfl
theorem g68 (W : World) (n : Nat) : Good Tryz.prog W 68 (c68 n) := body_good follows tabOk (GamOk.cons (g35 W n) GamOk.nil) (f := 68) (fn := Tryz.f68) (c := bodyOf Tryz.f68) (by kernel_rfl) (by kernel_rfl) (by kernel_rfl) (by kernel_rfl) (by kernel_rfl) (by kernel_rfl) (by kernel_rfl) (fun x r h => ⟨n, (e68 n x).trans h⟩)
/-! spec.ReadDec -/
noncomputable def j69_1 (n : Nat) (s0 : ByteArray) (i1 : Int) (i2 : Int) : Option (Int × Bool × Unit) :=
  if (decide (i2 > 9)) = true then
    some (0, false, ())
  else
    if (decide ((s0.size : Int) > 10)) = true then
      some (0, false, ())
    else
      (F63 n i1).bind fun r1 =>
      if (!decide (r1.1.toList = s0.toList)) = true then
        some (0, false, ())
      else
        some (i1, true, ())
noncomputable def j69_0 (n : Nat) (s0 : ByteArray) (i1 : Int) (i2 : Int) : Option (Int × Bool × Unit) :=
  if (decide ((s0.size : Int) > 0)) = true then
    if (decide (0 ≤ 0)) = true then
    if (decide (0 < (s0.size : Int))) = true then
    if (decide ((bt s0 (0 : Int)) = 45)) = true then
      j69_1 n s0 (wrap64 (0 - i1)) i2
    else
      j69_1 n s0 i1 i2
    else none
    else none
  else
    j69_1 n s0 i1 i2
noncomputable def st69_0 (n : Nat) (g0 : ByteArray → Int → Int → Int → Option (Int × Bool × Unit)) (s0 : ByteArray) (i1 : Int) (i2 : Int) (i3 : Int) : Option (Int × Bool × Unit) :=
  if (decide (i3 < (s0.size : Int))) = true then
    if (decide (i3 < 11)) = true then
      if (decide (0 ≤ i3)) = true then
      if (decide (i3 < (s0.size : Int))) = true then
      if (decide ((bt s0 i3) ≥ 48)) = true then
        if (decide (0 ≤ i3)) = true then
        if (decide (i3 < (s0.size : Int))) = true then
        if (decide ((bt s0 i3) ≤ 57)) = true then
          if (decide (0 ≤ i3)) = true then
          if (decide (i3 < (s0.size : Int))) = true then
          g0 s0 (wrap64 ((wrap64 (i1 * 10)) + (wrap64 ((wrapI .u8 ((bt s0 i3) - 48)))))) (wrap64 (i2 + 1)) (wrap64 (i3 + 1))
          else none
          else none
        else
          g0 s0 i1 i2 (wrap64 (i3 + 1))
        else none
        else none
      else
        g0 s0 i1 i2 (wrap64 (i3 + 1))
      else none
      else none
    else
      j69_0 n s0 i1 i2
  else
    j69_0 n s0 i1 i2
noncomputable def lp69_0 (n : Nat) : Nat → ByteArray → Int → Int → Int → Option (Int × Bool × Unit)
  | 0 => fun _ _ _ _ => none
  | k + 1 => st69_0 n (lp69_0 n k)
noncomputable def st69 (n : Nat) (h0 : ByteArray → Int → Int → Int → Option (Int × Bool × Unit)) (a0 : ByteArray) : Option (Int × Bool × Unit) :=
  h0 a0 (0 : Int) (0 : Int) (0 : Int)
noncomputable def F69 (n : Nat) (a0 : ByteArray) : Option (Int × Bool × Unit) := st69 n (lp69_0 n n) a0
noncomputable def c69 (n : Nat) : Con := ⟨[.one (.str)], [], [.one (.int .i64), .one (.bool)], [], fun (x : ByteArray × Unit) => F69 n x.1⟩
noncomputable def G69 (n : Nat) : Gam := [((63, []), c63 n)]
noncomputable def S69_0 (s0 : ByteArray) (i1 : Int) (i2 : Int) (i3 : Int) : St := ⟨[.str s0, .dead, .dead, .dead, .int .i64 i1, .int .i64 i2, .int .i64 i3] ++ List.replicate 54 .dead, List.replicate 61 Ob.none⟩
noncomputable def ga69_0 (n : Nat) (ks : List Nat) (k : Nat) (st : St) : Option (Int × Bool × Unit) := goAt tab (G69 n) n (bodyOf Tryz.f69) (lvOf Tryz.f69) (lvOf Tryz.f69).ret [1, 1, 1, 0, 1, 0] ks k st (evBody.endK tab (c69 n) Tryz.f69)
theorem el69_0 (n : Nat) : ∀ (k : Nat), ∀ (s0 : ByteArray) (i1 : Int) (i2 : Int) (i3 : Int), ga69_0 n [] k (S69_0 s0 i1 i2 i3) = lp69_0 n k s0 i1 i2 i3 := by
  intro k
  induction k with
  | zero => intros; rfl
  | succ k ih =>
    intro s0 i1 i2 i3
    have h : ga69_0 n [] (k + 1) (S69_0 s0 i1 i2 i3) = st69_0 n (fun w0 w1 w2 w3 => ga69_0 n [] k (S69_0 w0 w1 w2 w3)) s0 i1 i2 i3 := by kernel_rfl
    rw [h]
    have e : (fun w0 w1 w2 w3 => ga69_0 n [] k (S69_0 w0 w1 w2 w3)) = lp69_0 n k := by
      funext w0 w1 w2 w3; exact ih w0 w1 w2 w3
    rw [e]
    rfl
theorem e69 (n : Nat) (x : ByteArray × Unit) : evBody tab (G69 n) n (c69 n) Tryz.f69 x = F69 n x.1 := by
  have h : evBody tab (G69 n) n (c69 n) Tryz.f69 x = st69 n (fun w0 w1 w2 w3 => ga69_0 n [] n (S69_0 w0 w1 w2 w3)) x.1 := by kernel_rfl
  rw [h]
  have e0 : (fun w0 w1 w2 w3 => ga69_0 n [] n (S69_0 w0 w1 w2 w3)) = lp69_0 n n := by
    funext w0 w1 w2 w3; exact el69_0 n n w0 w1 w2 w3
  rw [e0]
  rfl
theorem g69 (W : World) (n : Nat) : Good Tryz.prog W 69 (c69 n) := body_good follows tabOk (GamOk.cons (g63 W n) GamOk.nil) (f := 69) (fn := Tryz.f69) (c := bodyOf Tryz.f69) (by kernel_rfl) (by kernel_rfl) (by kernel_rfl) (by kernel_rfl) (by kernel_rfl) (by kernel_rfl) (by kernel_rfl) (fun x r h => ⟨n, (e69 n x).trans h⟩)
/-! spec.ReadOp -/
noncomputable def j47_1 (n : Nat) (s0 : ByteArray) (i1 : Int) (s2 : ByteArray) (i3 : Int) (i4 : Int) (i5 : Int) (s6 : ByteArray) (i7 : Int) (i8 : Int) : Option (Int × ByteArray × Int × Int × Bool × Unit) :=
  if (decide (s0.toList = (⟨#[]⟩ : ByteArray).toList)) = true then
    some (0, (⟨#[]⟩ : ByteArray), 0, 0, false, ())
  else
    (F64 n i5 s6 i7 i8).bind fun r4 =>
    if (!decide (r4.1.toList = s0.toList)) = true then
      some (0, (⟨#[]⟩ : ByteArray), 0, 0, false, ())
    else
      some (i5, s6, i7, i8, true, ())
noncomputable def j47_0 (n : Nat) (s0 : ByteArray) (i1 : Int) (s2 : ByteArray) (i3 : Int) (i4 : Int) (l5 : List ByteArray) (i6 : Int) (s7 : ByteArray) (i8 : Int) (i9 : Int) : Option (Int × ByteArray × Int × Int × Bool × Unit) :=
  if (decide ((l5.length : Int) = 3)) = true then
    if (decide (0 ≤ 0)) = true then
    if (decide (0 < (l5.length : Int))) = true then
    if (decide ((rdOf (⟨#[]⟩ : ByteArray) l5 (0 : Int)).toList = (⟨#[114, 101, 99]⟩ : ByteArray).toList)) = true then
      if (decide (0 ≤ 2)) = true then
      if (decide (2 < (l5.length : Int))) = true then
      (F69 n (rdOf (⟨#[]⟩ : ByteArray) l5 (2 : Int))).bind fun r3 =>
      if (decide (0 ≤ 1)) = true then
      if (decide (1 < (l5.length : Int))) = true then
      j47_1 n s0 i1 s2 i3 i4 (2 : Int) (rdOf (⟨#[]⟩ : ByteArray) l5 (1 : Int)) (0 : Int) r3.1
      else none
      else none
      else none
      else none
    else
      j47_1 n s0 i1 s2 i3 i4 i6 s7 i8 i9
    else none
    else none
  else
    j47_1 n s0 i1 s2 i3 i4 i6 s7 i8 i9
noncomputable def F47 (n : Nat) (a0 : ByteArray) : Option (Int × ByteArray × Int × Int × Bool × Unit) :=
  (F46 n a0 (32 : Int)).bind fun r1 =>
  if (decide ((r1.1.length : Int) = 3)) = true then
    if (decide (0 ≤ 0)) = true then
    if (decide (0 < (r1.1.length : Int))) = true then
    if (decide ((rdOf (⟨#[]⟩ : ByteArray) r1.1 (0 : Int)).toList = (⟨#[114, 101, 103]⟩ : ByteArray).toList)) = true then
      if (decide (0 ≤ 1)) = true then
      if (decide (1 < (r1.1.length : Int))) = true then
      if (decide (0 ≤ 2)) = true then
      if (decide (2 < (r1.1.length : Int))) = true then
      (F68 n (rdOf (⟨#[]⟩ : ByteArray) r1.1 (2 : Int))).bind fun r2 =>
      j47_0 n a0 (0 : Int) (⟨#[]⟩ : ByteArray) (0 : Int) (0 : Int) r1.1 (1 : Int) (rdOf (⟨#[]⟩ : ByteArray) r1.1 (1 : Int)) r2.1 (0 : Int)
      else none
      else none
      else none
      else none
    else
      j47_0 n a0 (0 : Int) (⟨#[]⟩ : ByteArray) (0 : Int) (0 : Int) r1.1 (3 : Int) (⟨#[]⟩ : ByteArray) (0 : Int) (0 : Int)
    else none
    else none
  else
    j47_0 n a0 (0 : Int) (⟨#[]⟩ : ByteArray) (0 : Int) (0 : Int) r1.1 (3 : Int) (⟨#[]⟩ : ByteArray) (0 : Int) (0 : Int)
noncomputable def c47 (n : Nat) : Con := ⟨[.one (.str)], [], [.agg [(.int .i64), (.str), (.int .i64), (.int .i64)], .one (.bool)], [], fun (x : ByteArray × Unit) => F47 n x.1⟩
noncomputable def G47 (n : Nat) : Gam := [((46, []), c46 n), ((64, []), c64 n), ((68, []), c68 n), ((69, []), c69 n)]
theorem e47 (n : Nat) (x : ByteArray × Unit) : evBody tab (G47 n) n (c47 n) Tryz.f47 x = F47 n x.1 := by kernel_rfl
theorem g47 (W : World) (n : Nat) : Good Tryz.prog W 47 (c47 n) := body_good follows tabOk (GamOk.cons (g46 W n) (GamOk.cons (g64 W n) (GamOk.cons (g68 W n) (GamOk.cons (g69 W n) GamOk.nil)))) (f := 47) (fn := Tryz.f47) (c := bodyOf Tryz.f47) (by kernel_rfl) (by kernel_rfl) (by kernel_rfl) (by kernel_rfl) (by kernel_rfl) (by kernel_rfl) (by kernel_rfl) (fun x r h => ⟨n, (e47 n x).trans h⟩)
/-! spec.ReadTodo -/
noncomputable def st19_0 (n : Nat) (g0 : ByteArray → Int → (List (List (Int × (ByteArray × (Int × Int))))) → (List ByteArray) → Option (List (List (Int × (ByteArray × (Int × Int)))) × Bool × Unit)) (s0 : ByteArray) (i1 : Int) (l2 : List (List (Int × (ByteArray × (Int × Int))))) (l3 : List ByteArray) : Option (List (List (Int × (ByteArray × (Int × Int)))) × Bool × Unit) :=
  if (decide ((wrap64 (i1 + 1)) < (l3.length : Int))) = true then
    if (decide (0 ≤ i1)) = true then
    if (decide (i1 < (l3.length : Int))) = true then
    if (decide (((rdOf (⟨#[]⟩ : ByteArray) l3 i1).size : Int) < 3)) = true then
      some (([] : List (List (Int × (ByteArray × (Int × Int))))), false, ())
    else
      if (decide (0 ≤ i1)) = true then
      if (decide (i1 < (l3.length : Int))) = true then
      if (decide (0 ≤ 0)) = true then
      if (decide (0 < ((rdOf (⟨#[]⟩ : ByteArray) l3 i1).size : Int))) = true then
      if (decide (0 ≤ i1)) = true then
      if (decide (i1 < (l3.length : Int))) = true then
      if (decide (0 ≤ 2)) = true then
      if (decide (2 ≤ ((rdOf (⟨#[]⟩ : ByteArray) l3 i1).size : Int))) = true then
      if (decide (((rdOf (⟨#[]⟩ : ByteArray) l3 i1).size : Int) ≤ ((rdOf (⟨#[]⟩ : ByteArray) l3 i1).size : Int))) = true then
      (F47 n ((rdOf (⟨#[]⟩ : ByteArray) l3 i1).extract (2 : Int).toNat ((rdOf (⟨#[]⟩ : ByteArray) l3 i1).size : Int).toNat)).bind fun r2 =>
      if (!r2.2.2.2.2.1) = true then
        some (([] : List (List (Int × (ByteArray × (Int × Int))))), false, ())
      else
        (F26 n (wrap64 ((wrap64 ((bt (rdOf (⟨#[]⟩ : ByteArray) l3 i1) (0 : Int)))) - 48)) (0 : Int) (3 : Int)).bind fun r3 =>
        if (!r3.1) = true then
          some (([] : List (List (Int × (ByteArray × (Int × Int))))), false, ())
        else
          if (decide (0 ≤ (wrap64 ((wrap64 ((bt (rdOf (⟨#[]⟩ : ByteArray) l3 i1) (0 : Int)))) - 48)))) = true then
          if (decide ((wrap64 ((wrap64 ((bt (rdOf (⟨#[]⟩ : ByteArray) l3 i1) (0 : Int)))) - 48)) < (l2.length : Int))) = true then
          if (decide (((rdOf ([] : List (Int × (ByteArray × (Int × Int)))) l2 (wrap64 ((wrap64 ((bt (rdOf (⟨#[]⟩ : ByteArray) l3 i1) (0 : Int)))) - 48))).length + ([(r2.1, (r2.2.1, (r2.2.2.1, r2.2.2.2.1)))] : List (Int × (ByteArray × (Int × Int)))).length) * 40 ≤ 140737488355328)) = true then
          if (decide (0 ≤ (wrap64 ((wrap64 ((bt (rdOf (⟨#[]⟩ : ByteArray) l3 i1) (0 : Int)))) - 48)))) = true then
          if (decide ((wrap64 ((wrap64 ((bt (rdOf (⟨#[]⟩ : ByteArray) l3 i1) (0 : Int)))) - 48)) < (l2.length : Int))) = true then
          if (decide ((wrap64 ((wrap64 ((bt (rdOf (⟨#[]⟩ : ByteArray) l3 i1) (0 : Int)))) - 48)) = (wrap64 ((wrap64 ((bt (rdOf (⟨#[]⟩ : ByteArray) l3 i1) (0 : Int)))) - 48)))) = true then
          g0 s0 (wrap64 (i1 + 1)) (l2.set (wrap64 ((wrap64 ((bt (rdOf (⟨#[]⟩ : ByteArray) l3 i1) (0 : Int)))) - 48)).toNat ((rdOf ([] : List (Int × (ByteArray × (Int × Int)))) l2 (wrap64 ((wrap64 ((bt (rdOf (⟨#[]⟩ : ByteArray) l3 i1) (0 : Int)))) - 48))) ++ ([(r2.1, (r2.2.1, (r2.2.2.1, r2.2.2.2.1)))] : List (Int × (ByteArray × (Int × Int)))))) l3
          else none
          else none
          else none
          else none
          else none
          else none
      else none
      else none
      else none
      else none
      else none
      else none
      else none
      else none
      else none
    else none
    else none
  else
    (F17 n l2).bind fun r4 =>
    if (!r4.1) = true then
      some (([] : List (List (Int × (ByteArray × (Int × Int))))), false, ())
    else
      (F41 n l2).bind fun r5 =>
      if (!decide (r5.1.toList = s0.toList)) = true then
        some (([] : List (List (Int × (ByteArray × (Int × Int))))), false, ())
      else
        some (l2, true, ())
noncomputable def lp19_0 (n : Nat) : Nat → ByteArray → Int → (List (List (Int × (ByteArray × (Int × Int))))) → (List ByteArray) → Option (List (List (Int × (ByteArray × (Int × Int)))) × Bool × Unit)
  | 0 => fun _ _ _ _ => none
  | k + 1 => st19_0 n (lp19_0 n k)
noncomputable def st19 (n : Nat) (h0 : ByteArray → Int → (List (List (Int × (ByteArray × (Int × Int))))) → (List ByteArray) → Option (List (List (Int × (ByteArray × (Int × Int)))) × Bool × Unit)) (a0 : ByteArray) : Option (List (List (Int × (ByteArray × (Int × Int)))) × Bool × Unit) :=
  if (decide (0 ≤ 4)) = true then
  if (decide (4 = 4)) = true then
  if (decide (4 * 24 ≤ 140737488355328)) = true then
  (F46 n a0 (10 : Int)).bind fun r1 =>
  h0 a0 (0 : Int) (List.replicate (4 : Int).toNat ([] : List (Int × (ByteArray × (Int × Int))))) r1.1
  else none
  else none
  else none
noncomputable def F19 (n : Nat) (a0 : ByteArray) : Option (List (List (Int × (ByteArray × (Int × Int)))) × Bool × Unit) := st19 n (lp19_0 n n) a0
noncomputable def c19 (n : Nat) : Con := ⟨[.one (.str)], [], [.one (.sl .own 64 (.sl 32 (.pair (.int .i64) (.pair .str (.pair (.int .i64) (.int .i64)))))), .one (.bool)], [], fun (x : ByteArray × Unit) => F19 n x.1⟩
noncomputable def G19 (n : Nat) : Gam := [((17, []), c17 n), ((26, []), c26 n), ((41, []), c41 n), ((46, []), c46 n), ((47, []), c47 n)]
noncomputable def S19_0 (s0 : ByteArray) (i1 : Int) (l2 : List (List (Int × (ByteArray × (Int × Int))))) (l3 : List ByteArray) : St := ⟨[.str s0, .dead, .dead, .dead, .sr 4 0 none 0 0 none, .sr 5 0 none 0 0 none, .int .i64 i1] ++ List.replicate 67 .dead, List.replicate 4 Ob.none ++ [⟨false, [.sl .own 64 (.sl 32 (.pair (.int .i64) (.pair .str (.pair (.int .i64) (.int .i64))))) l2], 0, 0⟩, ⟨false, [.sl .own 9 .str l3], 0, 0⟩] ++ List.replicate 68 Ob.none⟩
noncomputable def ga19_0 (n : Nat) (ks : List Nat) (k : Nat) (st : St) : Option (List (List (Int × (ByteArray × (Int × Int)))) × Bool × Unit) := goAt tab (G19 n) n (bodyOf Tryz.f19) (lvOf Tryz.f19) (lvOf Tryz.f19).ret [1, 1, 1, 0, 1, 0] ks k st (evBody.endK tab (c19 n) Tryz.f19)
theorem el19_0 (n : Nat) : ∀ (k : Nat), ∀ (s0 : ByteArray) (i1 : Int) (l2 : List (List (Int × (ByteArray × (Int × Int))))) (l3 : List ByteArray), ga19_0 n [] k (S19_0 s0 i1 l2 l3) = lp19_0 n k s0 i1 l2 l3 := by
  intro k
  induction k with
  | zero => intros; rfl
  | succ k ih =>
    intro s0 i1 l2 l3
    have h : ga19_0 n [] (k + 1) (S19_0 s0 i1 l2 l3) = st19_0 n (fun w0 w1 w2 w3 => ga19_0 n [] k (S19_0 w0 w1 w2 w3)) s0 i1 l2 l3 := by kernel_rfl
    rw [h]
    have e : (fun w0 w1 w2 w3 => ga19_0 n [] k (S19_0 w0 w1 w2 w3)) = lp19_0 n k := by
      funext w0 w1 w2 w3; exact ih w0 w1 w2 w3
    rw [e]
    rfl
theorem e19 (n : Nat) (x : ByteArray × Unit) : evBody tab (G19 n) n (c19 n) Tryz.f19 x = F19 n x.1 := by
  have h : evBody tab (G19 n) n (c19 n) Tryz.f19 x = st19 n (fun w0 w1 w2 w3 => ga19_0 n [] n (S19_0 w0 w1 w2 w3)) x.1 := by kernel_rfl
  rw [h]
  have e0 : (fun w0 w1 w2 w3 => ga19_0 n [] n (S19_0 w0 w1 w2 w3)) = lp19_0 n n := by
    funext w0 w1 w2 w3; exact el19_0 n n w0 w1 w2 w3
  rw [e0]
  rfl
theorem g19 (W : World) (n : Nat) : Good Tryz.prog W 19 (c19 n) := body_good follows tabOk (GamOk.cons (g17 W n) (GamOk.cons (g26 W n) (GamOk.cons (g41 W n) (GamOk.cons (g46 W n) (GamOk.cons (g47 W n) GamOk.nil))))) (f := 19) (fn := Tryz.f19) (c := bodyOf Tryz.f19) (by kernel_rfl) (by kernel_rfl) (by kernel_rfl) (by kernel_rfl) (by kernel_rfl) (by kernel_rfl) (by kernel_rfl) (fun x r h => ⟨n, (e19 n x).trans h⟩)
/-! spec.Fixed -/
noncomputable def st70_0 (n : Nat) (g0 : Int → Int → ByteArray → Int → Option (ByteArray × Unit)) (i0 : Int) (i1 : Int) (s2 : ByteArray) (i3 : Int) : Option (ByteArray × Unit) :=
  if (decide (i3 < i1)) = true then
    if (decide (256 ≠ 0)) = true then
    if (decide (((strOf ([(wrapI .u8 ((i0.tmod (256 : Int))))] : List Int)).size + s2.size : Nat) ≤ 9223372036854775807)) = true then
    if (decide (256 ≠ 0)) = true then
    g0 (wrap64 (i0.tdiv (256 : Int))) i1 ((strOf ([(wrapI .u8 ((i0.tmod (256 : Int))))] : List Int)) ++ s2) (wrap64 (i3 + 1))
    else none
    else none
    else none
  else
    if (decide (i0 > 0)) = true then
      some ((⟨#[]⟩ : ByteArray), ())
    else
      some (s2, ())
noncomputable def lp70_0 (n : Nat) : Nat → Int → Int → ByteArray → Int → Option (ByteArray × Unit)
  | 0 => fun _ _ _ _ => none
  | k + 1 => st70_0 n (lp70_0 n k)
noncomputable def st70 (n : Nat) (h0 : Int → Int → ByteArray → Int → Option (ByteArray × Unit)) (a0 : Int) (a1 : Int) : Option (ByteArray × Unit) :=
  (F26 n a1 (1 : Int) (7 : Int)).bind fun r1 =>
  if (!r1.1) = true then
    some ((⟨#[]⟩ : ByteArray), ())
  else
    if (decide (a0 < 0)) = true then
      some ((⟨#[]⟩ : ByteArray), ())
    else
      h0 a0 a1 (⟨#[]⟩ : ByteArray) (0 : Int)
noncomputable def F70 (n : Nat) (a0 : Int) (a1 : Int) : Option (ByteArray × Unit) := st70 n (lp70_0 n n) a0 a1
noncomputable def c70 (n : Nat) : Con := ⟨[.one (.int .i64), .one (.int .i64)], [], [.one (.str)], [], fun (x : Int × Int × Unit) => F70 n x.1 x.2.1⟩
noncomputable def G70 (n : Nat) : Gam := [((26, []), c26 n)]
noncomputable def S70_0 (i0 : Int) (i1 : Int) (s2 : ByteArray) (i3 : Int) : St := ⟨[.int .i64 i0, .int .i64 i1, .dead, .dead, .dead, .str s2, .int .i64 i3] ++ List.replicate 24 .dead, List.replicate 31 Ob.none⟩
noncomputable def ga70_0 (n : Nat) (ks : List Nat) (k : Nat) (st : St) : Option (ByteArray × Unit) := goAt tab (G70 n) n (bodyOf Tryz.f70) (lvOf Tryz.f70) (lvOf Tryz.f70).ret [1, 1, 1, 0, 1, 0] ks k st (evBody.endK tab (c70 n) Tryz.f70)
theorem el70_0 (n : Nat) : ∀ (k : Nat), ∀ (i0 : Int) (i1 : Int) (s2 : ByteArray) (i3 : Int), ga70_0 n [] k (S70_0 i0 i1 s2 i3) = lp70_0 n k i0 i1 s2 i3 := by
  intro k
  induction k with
  | zero => intros; rfl
  | succ k ih =>
    intro i0 i1 s2 i3
    have h : ga70_0 n [] (k + 1) (S70_0 i0 i1 s2 i3) = st70_0 n (fun w0 w1 w2 w3 => ga70_0 n [] k (S70_0 w0 w1 w2 w3)) i0 i1 s2 i3 := by kernel_rfl
    rw [h]
    have e : (fun w0 w1 w2 w3 => ga70_0 n [] k (S70_0 w0 w1 w2 w3)) = lp70_0 n k := by
      funext w0 w1 w2 w3; exact ih w0 w1 w2 w3
    rw [e]
    rfl
theorem e70 (n : Nat) (x : Int × Int × Unit) : evBody tab (G70 n) n (c70 n) Tryz.f70 x = F70 n x.1 x.2.1 := by
  have h : evBody tab (G70 n) n (c70 n) Tryz.f70 x = st70 n (fun w0 w1 w2 w3 => ga70_0 n [] n (S70_0 w0 w1 w2 w3)) x.1 x.2.1 := by kernel_rfl
  rw [h]
  have e0 : (fun w0 w1 w2 w3 => ga70_0 n [] n (S70_0 w0 w1 w2 w3)) = lp70_0 n n := by
    funext w0 w1 w2 w3; exact el70_0 n n w0 w1 w2 w3
  rw [e0]
  rfl
theorem g70 (W : World) (n : Nat) : Good Tryz.prog W 70 (c70 n) := body_good follows tabOk (GamOk.cons (g26 W n) GamOk.nil) (f := 70) (fn := Tryz.f70) (c := bodyOf Tryz.f70) (by kernel_rfl) (by kernel_rfl) (by kernel_rfl) (by kernel_rfl) (by kernel_rfl) (by kernel_rfl) (by kernel_rfl) (fun x r h => ⟨n, (e70 n x).trans h⟩)
/-! spec.CellsOk -/
noncomputable def st8_0 (n : Nat) (g0 : (List Int) → Int → Option (Bool × Unit)) (l0 : List Int) (i1 : Int) : Option (Bool × Unit) :=
  if (decide (i1 < (l0.length : Int))) = true then
    if (decide (0 ≤ i1)) = true then
    if (decide (i1 < (l0.length : Int))) = true then
    (F26 n (rdOf (0 : Int) l0 i1) (0 : Int) (281474976710655 : Int)).bind fun r1 =>
    if (!r1.1) = true then
      some (false, ())
    else
      g0 l0 (wrap64 (i1 + 1))
    else none
    else none
  else
    some (decide ((l0.length : Int) = 71), ())
noncomputable def lp8_0 (n : Nat) : Nat → (List Int) → Int → Option (Bool × Unit)
  | 0 => fun _ _ => none
  | k + 1 => st8_0 n (lp8_0 n k)
noncomputable def st8 (n : Nat) (h0 : (List Int) → Int → Option (Bool × Unit)) (a0 : List Int) : Option (Bool × Unit) :=
  h0 a0 (0 : Int)
noncomputable def F8 (n : Nat) (a0 : List Int) : Option (Bool × Unit) := st8 n (lp8_0 n n) a0
noncomputable def c8 (n : Nat) : Con := ⟨[.one (.sl (.imm true) 3 (.int .i64))], [], [.one (.bool)], [], fun (x : List Int × Unit) => F8 n x.1⟩
noncomputable def G8 (n : Nat) : Gam := [((26, []), c26 n)]
noncomputable def S8_0 (l0 : List Int) (i1 : Int) : St := ⟨[.sl (.imm true) 3 (.int .i64) l0, .dead, .dead, .int .i64 i1] ++ List.replicate 15 .dead, List.replicate 19 Ob.none⟩
noncomputable def ga8_0 (n : Nat) (ks : List Nat) (k : Nat) (st : St) : Option (Bool × Unit) := goAt tab (G8 n) n (bodyOf Tryz.f8) (lvOf Tryz.f8) (lvOf Tryz.f8).ret [1, 0, 1, 0] ks k st (evBody.endK tab (c8 n) Tryz.f8)
theorem el8_0 (n : Nat) : ∀ (k : Nat), ∀ (l0 : List Int) (i1 : Int), ga8_0 n [] k (S8_0 l0 i1) = lp8_0 n k l0 i1 := by
  intro k
  induction k with
  | zero => intros; rfl
  | succ k ih =>
    intro l0 i1
    have h : ga8_0 n [] (k + 1) (S8_0 l0 i1) = st8_0 n (fun w0 w1 => ga8_0 n [] k (S8_0 w0 w1)) l0 i1 := by kernel_rfl
    rw [h]
    have e : (fun w0 w1 => ga8_0 n [] k (S8_0 w0 w1)) = lp8_0 n k := by
      funext w0 w1; exact ih w0 w1
    rw [e]
    rfl
theorem e8 (n : Nat) (x : List Int × Unit) : evBody tab (G8 n) n (c8 n) Tryz.f8 x = F8 n x.1 := by
  have h : evBody tab (G8 n) n (c8 n) Tryz.f8 x = st8 n (fun w0 w1 => ga8_0 n [] n (S8_0 w0 w1)) x.1 := by kernel_rfl
  rw [h]
  have e0 : (fun w0 w1 => ga8_0 n [] n (S8_0 w0 w1)) = lp8_0 n n := by
    funext w0 w1; exact el8_0 n n w0 w1
  rw [e0]
  rfl
theorem g8 (W : World) (n : Nat) : Good Tryz.prog W 8 (c8 n) := body_good follows tabOk (GamOk.cons (g26 W n) GamOk.nil) (f := 8) (fn := Tryz.f8) (c := bodyOf Tryz.f8) (by kernel_rfl) (by kernel_rfl) (by kernel_rfl) (by kernel_rfl) (by kernel_rfl) (by kernel_rfl) (by kernel_rfl) (fun x r h => ⟨n, (e8 n x).trans h⟩)
/-! spec.ShowCells -/
noncomputable def st48_0 (n : Nat) (g0 : (List Int) → ByteArray → Int → Option (ByteArray × Unit)) (l0 : List Int) (s1 : ByteArray) (i2 : Int) : Option (ByteArray × Unit) :=
  if (decide (i2 < (l0.length : Int))) = true then
    (F8 n l0).bind fun r1 =>
    if r1.1 = true then
      if (decide (0 ≤ i2)) = true then
      if (decide (i2 < (l0.length : Int))) = true then
      (F70 n (rdOf (0 : Int) l0 i2) (6 : Int)).bind fun r2 =>
      if (decide ((s1.size + r2.1.size : Nat) ≤ 9223372036854775807)) = true then
      g0 l0 (s1 ++ r2.1) (wrap64 (i2 + 1))
      else none
      else none
      else none
    else
      some (s1, ())
  else
    some (s1, ())
noncomputable def lp48_0 (n : Nat) : Nat → (List Int) → ByteArray → Int → Option (ByteArray × Unit)
  | 0 => fun _ _ _ => none
  | k + 1 => st48_0 n (lp48_0 n k)
noncomputable def st48 (n : Nat) (h0 : (List Int) → ByteArray → Int → Option (ByteArray × Unit)) (a0 : List Int) : Option (ByteArray × Unit) :=
  h0 a0 (⟨#[]⟩ : ByteArray) (0 : Int)
noncomputable def F48 (n : Nat) (a0 : List Int) : Option (ByteArray × Unit) := st48 n (lp48_0 n n) a0
noncomputable def c48 (n : Nat) : Con := ⟨[.one (.sl (.imm true) 3 (.int .i64))], [], [.one (.str)], [], fun (x : List Int × Unit) => F48 n x.1⟩
noncomputable def G48 (n : Nat) : Gam := [((8, []), c8 n), ((70, []), c70 n)]
noncomputable def S48_0 (l0 : List Int) (s1 : ByteArray) (i2 : Int) : St := ⟨[.sl (.imm true) 3 (.int .i64) l0, .dead, .dead, .str s1, .int .i64 i2] ++ List.replicate 18 .dead, List.replicate 23 Ob.none⟩
noncomputable def ga48_0 (n : Nat) (ks : List Nat) (k : Nat) (st : St) : Option (ByteArray × Unit) := goAt tab (G48 n) n (bodyOf Tryz.f48) (lvOf Tryz.f48) (lvOf Tryz.f48).ret [1, 1, 0, 1, 0] ks k st (evBody.endK tab (c48 n) Tryz.f48)
theorem el48_0 (n : Nat) : ∀ (k : Nat), ∀ (l0 : List Int) (s1 : ByteArray) (i2 : Int), ga48_0 n [] k (S48_0 l0 s1 i2) = lp48_0 n k l0 s1 i2 := by
  intro k
  induction k with
  | zero => intros; rfl
  | succ k ih =>
    intro l0 s1 i2
    have h : ga48_0 n [] (k + 1) (S48_0 l0 s1 i2) = st48_0 n (fun w0 w1 w2 => ga48_0 n [] k (S48_0 w0 w1 w2)) l0 s1 i2 := by kernel_rfl
    rw [h]
    have e : (fun w0 w1 w2 => ga48_0 n [] k (S48_0 w0 w1 w2)) = lp48_0 n k := by
      funext w0 w1 w2; exact ih w0 w1 w2
    rw [e]
    rfl
theorem e48 (n : Nat) (x : List Int × Unit) : evBody tab (G48 n) n (c48 n) Tryz.f48 x = F48 n x.1 := by
  have h : evBody tab (G48 n) n (c48 n) Tryz.f48 x = st48 n (fun w0 w1 w2 => ga48_0 n [] n (S48_0 w0 w1 w2)) x.1 := by kernel_rfl
  rw [h]
  have e0 : (fun w0 w1 w2 => ga48_0 n [] n (S48_0 w0 w1 w2)) = lp48_0 n n := by
    funext w0 w1 w2; exact el48_0 n n w0 w1 w2
  rw [e0]
  rfl
theorem g48 (W : World) (n : Nat) : Good Tryz.prog W 48 (c48 n) := body_good follows tabOk (GamOk.cons (g8 W n) (GamOk.cons (g70 W n) GamOk.nil)) (f := 48) (fn := Tryz.f48) (c := bodyOf Tryz.f48) (by kernel_rfl) (by kernel_rfl) (by kernel_rfl) (by kernel_rfl) (by kernel_rfl) (by kernel_rfl) (by kernel_rfl) (fun x r h => ⟨n, (e48 n x).trans h⟩)
/-! spec.PackKey -/
noncomputable def st121_0 (n : Nat) (g0 : ByteArray → Int → Int → Option (Int × Unit)) (s0 : ByteArray) (i1 : Int) (i2 : Int) : Option (Int × Unit) :=
  if (decide (i2 < (s0.size : Int))) = true then
    if (decide (0 ≤ i2)) = true then
    if (decide (i2 < (s0.size : Int))) = true then
    g0 s0 (wrap64 ((wrap64 (i1 * 256)) + (wrap64 ((bt s0 i2))))) (wrap64 (i2 + 1))
    else none
    else none
  else
    some (i1, ())
noncomputable def lp121_0 (n : Nat) : Nat → ByteArray → Int → Int → Option (Int × Unit)
  | 0 => fun _ _ _ => none
  | k + 1 => st121_0 n (lp121_0 n k)
noncomputable def st121 (n : Nat) (h0 : ByteArray → Int → Int → Option (Int × Unit)) (a0 : ByteArray) : Option (Int × Unit) :=
  (F34 n a0).bind fun r1 =>
  if (!r1.1) = true then
    some (0, ())
  else
    h0 a0 (0 : Int) (0 : Int)
noncomputable def F121 (n : Nat) (a0 : ByteArray) : Option (Int × Unit) := st121 n (lp121_0 n n) a0
noncomputable def c121 (n : Nat) : Con := ⟨[.one (.str)], [], [.one (.int .i64)], [], fun (x : ByteArray × Unit) => F121 n x.1⟩
noncomputable def G121 (n : Nat) : Gam := [((34, []), c34 n)]
noncomputable def S121_0 (s0 : ByteArray) (i1 : Int) (i2 : Int) : St := ⟨[.str s0, .dead, .dead, .int .i64 i1, .int .i64 i2] ++ List.replicate 17 .dead, List.replicate 22 Ob.none⟩
noncomputable def ga121_0 (n : Nat) (ks : List Nat) (k : Nat) (st : St) : Option (Int × Unit) := goAt tab (G121 n) n (bodyOf Tryz.f121) (lvOf Tryz.f121) (lvOf Tryz.f121).ret [1, 1, 1, 0, 1, 0] ks k st (evBody.endK tab (c121 n) Tryz.f121)
theorem el121_0 (n : Nat) : ∀ (k : Nat), ∀ (s0 : ByteArray) (i1 : Int) (i2 : Int), ga121_0 n [] k (S121_0 s0 i1 i2) = lp121_0 n k s0 i1 i2 := by
  intro k
  induction k with
  | zero => intros; rfl
  | succ k ih =>
    intro s0 i1 i2
    have h : ga121_0 n [] (k + 1) (S121_0 s0 i1 i2) = st121_0 n (fun w0 w1 w2 => ga121_0 n [] k (S121_0 w0 w1 w2)) s0 i1 i2 := by kernel_rfl
    rw [h]
    have e : (fun w0 w1 w2 => ga121_0 n [] k (S121_0 w0 w1 w2)) = lp121_0 n k := by
      funext w0 w1 w2; exact ih w0 w1 w2
    rw [e]
    rfl
theorem e121 (n : Nat) (x : ByteArray × Unit) : evBody tab (G121 n) n (c121 n) Tryz.f121 x = F121 n x.1 := by
  have h : evBody tab (G121 n) n (c121 n) Tryz.f121 x = st121 n (fun w0 w1 w2 => ga121_0 n [] n (S121_0 w0 w1 w2)) x.1 := by kernel_rfl
  rw [h]
  have e0 : (fun w0 w1 w2 => ga121_0 n [] n (S121_0 w0 w1 w2)) = lp121_0 n n := by
    funext w0 w1 w2; exact el121_0 n n w0 w1 w2
  rw [e0]
  rfl
theorem g121 (W : World) (n : Nat) : Good Tryz.prog W 121 (c121 n) := body_good follows tabOk (GamOk.cons (g34 W n) GamOk.nil) (f := 121) (fn := Tryz.f121) (c := bodyOf Tryz.f121) (by kernel_rfl) (by kernel_rfl) (by kernel_rfl) (by kernel_rfl) (by kernel_rfl) (by kernel_rfl) (by kernel_rfl) (fun x r h => ⟨n, (e121 n x).trans h⟩)
/-! spec.Tagged -/
noncomputable def F100 (n : Nat) (a0 : ByteArray) (a1 : Int) : Option (Int × Unit) :=
  (F34 n a0).bind fun r1 =>
  if (!r1.1) = true then
    some (0, ())
  else
    (F35 n a1).bind fun r2 =>
    if (decide (r2.1.toList = (⟨#[]⟩ : ByteArray).toList)) = true then
      some (0, ())
    else
      (F121 n a0).bind fun r3 =>
      some ((wrap64 ((wrap64 (r3.1 * 4)) + a1)), ())
noncomputable def c100 (n : Nat) : Con := ⟨[.one (.str), .one (.int .i64)], [], [.one (.int .i64)], [], fun (x : ByteArray × Int × Unit) => F100 n x.1 x.2.1⟩
noncomputable def G100 (n : Nat) : Gam := [((34, []), c34 n), ((35, []), c35 n), ((121, []), c121 n)]
theorem e100 (n : Nat) (x : ByteArray × Int × Unit) : evBody tab (G100 n) n (c100 n) Tryz.f100 x = F100 n x.1 x.2.1 := by kernel_rfl
theorem g100 (W : World) (n : Nat) : Good Tryz.prog W 100 (c100 n) := body_good follows tabOk (GamOk.cons (g34 W n) (GamOk.cons (g35 W n) (GamOk.cons (g121 W n) GamOk.nil))) (f := 100) (fn := Tryz.f100) (c := bodyOf Tryz.f100) (by kernel_rfl) (by kernel_rfl) (by kernel_rfl) (by kernel_rfl) (by kernel_rfl) (by kernel_rfl) (by kernel_rfl) (fun x r h => ⟨n, (e100 n x).trans h⟩)
/-! spec.HashKey -/
noncomputable def st132_0 (n : Nat) (g0 : ByteArray → Int → Int → Option (Int × Unit)) (s0 : ByteArray) (i1 : Int) (i2 : Int) : Option (Int × Unit) :=
  if (decide (i2 < (s0.size : Int))) = true then
    if (decide (0 ≤ i2)) = true then
    if (decide (i2 < (s0.size : Int))) = true then
    if (decide (4294967296 ≠ 0)) = true then
    g0 s0 ((wrap64 ((xorI .i64 i1 (wrap64 ((bt s0 i2)))) * 16777619)).tmod (4294967296 : Int)) (wrap64 (i2 + 1))
    else none
    else none
    else none
  else
    some (i1, ())
noncomputable def lp132_0 (n : Nat) : Nat → ByteArray → Int → Int → Option (Int × Unit)
  | 0 => fun _ _ _ => none
  | k + 1 => st132_0 n (lp132_0 n k)
noncomputable def st132 (n : Nat) (h0 : ByteArray → Int → Int → Option (Int × Unit)) (a0 : ByteArray) : Option (Int × Unit) :=
  h0 a0 (2166136261 : Int) (0 : Int)
noncomputable def F132 (n : Nat) (a0 : ByteArray) : Option (Int × Unit) := st132 n (lp132_0 n n) a0
noncomputable def c132 (n : Nat) : Con := ⟨[.one (.str)], [], [.one (.int .i64)], [], fun (x : ByteArray × Unit) => F132 n x.1⟩
noncomputable def G132 (n : Nat) : Gam := []
noncomputable def S132_0 (s0 : ByteArray) (i1 : Int) (i2 : Int) : St := ⟨[.str s0, .dead, .dead, .int .i64 i1, .int .i64 i2] ++ List.replicate 15 .dead, List.replicate 20 Ob.none⟩
noncomputable def ga132_0 (n : Nat) (ks : List Nat) (k : Nat) (st : St) : Option (Int × Unit) := goAt tab (G132 n) n (bodyOf Tryz.f132) (lvOf Tryz.f132) (lvOf Tryz.f132).ret [1, 1, 0, 1, 0] ks k st (evBody.endK tab (c132 n) Tryz.f132)
theorem el132_0 (n : Nat) : ∀ (k : Nat), ∀ (s0 : ByteArray) (i1 : Int) (i2 : Int), ga132_0 n [] k (S132_0 s0 i1 i2) = lp132_0 n k s0 i1 i2 := by
  intro k
  induction k with
  | zero => intros; rfl
  | succ k ih =>
    intro s0 i1 i2
    have h : ga132_0 n [] (k + 1) (S132_0 s0 i1 i2) = st132_0 n (fun w0 w1 w2 => ga132_0 n [] k (S132_0 w0 w1 w2)) s0 i1 i2 := by kernel_rfl
    rw [h]
    have e : (fun w0 w1 w2 => ga132_0 n [] k (S132_0 w0 w1 w2)) = lp132_0 n k := by
      funext w0 w1 w2; exact ih w0 w1 w2
    rw [e]
    rfl
theorem e132 (n : Nat) (x : ByteArray × Unit) : evBody tab (G132 n) n (c132 n) Tryz.f132 x = F132 n x.1 := by
  have h : evBody tab (G132 n) n (c132 n) Tryz.f132 x = st132 n (fun w0 w1 w2 => ga132_0 n [] n (S132_0 w0 w1 w2)) x.1 := by kernel_rfl
  rw [h]
  have e0 : (fun w0 w1 w2 => ga132_0 n [] n (S132_0 w0 w1 w2)) = lp132_0 n n := by
    funext w0 w1 w2; exact el132_0 n n w0 w1 w2
  rw [e0]
  rfl
theorem g132 (W : World) (n : Nat) : Good Tryz.prog W 132 (c132 n) := body_good follows tabOk GamOk.nil (f := 132) (fn := Tryz.f132) (c := bodyOf Tryz.f132) (by kernel_rfl) (by kernel_rfl) (by kernel_rfl) (by kernel_rfl) (by kernel_rfl) (by kernel_rfl) (by kernel_rfl) (fun x r h => ⟨n, (e132 n x).trans h⟩)
/-! spec.Probe -/
noncomputable def F122 (n : Nat) (a0 : ByteArray) (a1 : Int) : Option (Int × Unit) :=
  (F34 n a0).bind fun r1 =>
  if (!r1.1) = true then
    some ((-1), ())
  else
    (F26 n a1 (0 : Int) (3 : Int)).bind fun r2 =>
    if (!r2.1) = true then
      some ((-1), ())
    else
      (F132 n a0).bind fun r3 =>
      if (decide (4 ≠ 0)) = true then
      some (((wrap64 (r3.1 + a1)).tmod (4 : Int)), ())
      else none
noncomputable def c122 (n : Nat) : Con := ⟨[.one (.str), .one (.int .i64)], [], [.one (.int .i64)], [], fun (x : ByteArray × Int × Unit) => F122 n x.1 x.2.1⟩
noncomputable def G122 (n : Nat) : Gam := [((26, []), c26 n), ((34, []), c34 n), ((132, []), c132 n)]
theorem e122 (n : Nat) (x : ByteArray × Int × Unit) : evBody tab (G122 n) n (c122 n) Tryz.f122 x = F122 n x.1 x.2.1 := by kernel_rfl
theorem g122 (W : World) (n : Nat) : Good Tryz.prog W 122 (c122 n) := body_good follows tabOk (GamOk.cons (g26 W n) (GamOk.cons (g34 W n) (GamOk.cons (g132 W n) GamOk.nil))) (f := 122) (fn := Tryz.f122) (c := bodyOf Tryz.f122) (by kernel_rfl) (by kernel_rfl) (by kernel_rfl) (by kernel_rfl) (by kernel_rfl) (by kernel_rfl) (by kernel_rfl) (fun x r h => ⟨n, (e122 n x).trans h⟩)
/-! spec.UnpackKey -/
noncomputable def st106_0 (n : Nat) (g0 : Int → (List Int) → Option (ByteArray × Bool × Unit)) (i0 : Int) (l1 : List Int) : Option (ByteArray × Bool × Unit) :=
  if (decide (i0 > 0)) = true then
    if (decide (256 ≠ 0)) = true then
    if (decide ((([(wrapI .u8 ((i0.tmod (256 : Int))))] : List Int).length + l1.length) * 1 ≤ 140737488355328)) = true then
    if (decide (256 ≠ 0)) = true then
    g0 (wrap64 (i0.tdiv (256 : Int))) (([(wrapI .u8 ((i0.tmod (256 : Int))))] : List Int) ++ l1)
    else none
    else none
    else none
  else
    (F34 n (strOf l1)).bind fun r2 =>
    if (!r2.1) = true then
      some ((⟨#[]⟩ : ByteArray), false, ())
    else
      some ((strOf l1), true, ())
noncomputable def lp106_0 (n : Nat) : Nat → Int → (List Int) → Option (ByteArray × Bool × Unit)
  | 0 => fun _ _ => none
  | k + 1 => st106_0 n (lp106_0 n k)
noncomputable def st106 (n : Nat) (h0 : Int → (List Int) → Option (ByteArray × Bool × Unit)) (a0 : Int) : Option (ByteArray × Bool × Unit) :=
  (F26 n a0 (1 : Int) (4294967295 : Int)).bind fun r1 =>
  if (!r1.1) = true then
    some ((⟨#[]⟩ : ByteArray), false, ())
  else
    h0 a0 ([] : List Int)
noncomputable def F106 (n : Nat) (a0 : Int) : Option (ByteArray × Bool × Unit) := st106 n (lp106_0 n n) a0
noncomputable def c106 (n : Nat) : Con := ⟨[.one (.int .i64)], [], [.one (.str), .one (.bool)], [], fun (x : Int × Unit) => F106 n x.1⟩
noncomputable def G106 (n : Nat) : Gam := [((26, []), c26 n), ((34, []), c34 n)]
noncomputable def S106_0 (i0 : Int) (l1 : List Int) : St := ⟨[.int .i64 i0, .dead, .dead, .dead, .sr 4 0 none 0 0 none] ++ List.replicate 20 .dead, List.replicate 4 Ob.none ++ [⟨false, [.sl .own 5 (.int .u8) l1], 0, 0⟩] ++ List.replicate 20 Ob.none⟩
noncomputable def ga106_0 (n : Nat) (ks : List Nat) (k : Nat) (st : St) : Option (ByteArray × Bool × Unit) := goAt tab (G106 n) n (bodyOf Tryz.f106) (lvOf Tryz.f106) (lvOf Tryz.f106).ret [1, 1, 1, 0, 0] ks k st (evBody.endK tab (c106 n) Tryz.f106)
theorem el106_0 (n : Nat) : ∀ (k : Nat), ∀ (i0 : Int) (l1 : List Int), ga106_0 n [] k (S106_0 i0 l1) = lp106_0 n k i0 l1 := by
  intro k
  induction k with
  | zero => intros; rfl
  | succ k ih =>
    intro i0 l1
    have h : ga106_0 n [] (k + 1) (S106_0 i0 l1) = st106_0 n (fun w0 w1 => ga106_0 n [] k (S106_0 w0 w1)) i0 l1 := by kernel_rfl
    rw [h]
    have e : (fun w0 w1 => ga106_0 n [] k (S106_0 w0 w1)) = lp106_0 n k := by
      funext w0 w1; exact ih w0 w1
    rw [e]
    rfl
theorem e106 (n : Nat) (x : Int × Unit) : evBody tab (G106 n) n (c106 n) Tryz.f106 x = F106 n x.1 := by
  have h : evBody tab (G106 n) n (c106 n) Tryz.f106 x = st106 n (fun w0 w1 => ga106_0 n [] n (S106_0 w0 w1)) x.1 := by kernel_rfl
  rw [h]
  have e0 : (fun w0 w1 => ga106_0 n [] n (S106_0 w0 w1)) = lp106_0 n n := by
    funext w0 w1; exact el106_0 n n w0 w1
  rw [e0]
  rfl
theorem g106 (W : World) (n : Nat) : Good Tryz.prog W 106 (c106 n) := body_good follows tabOk (GamOk.cons (g26 W n) (GamOk.cons (g34 W n) GamOk.nil)) (f := 106) (fn := Tryz.f106) (c := bodyOf Tryz.f106) (by kernel_rfl) (by kernel_rfl) (by kernel_rfl) (by kernel_rfl) (by kernel_rfl) (by kernel_rfl) (by kernel_rfl) (fun x r h => ⟨n, (e106 n x).trans h⟩)
/-! spec.Untag -/
noncomputable def F88 (n : Nat) (a0 : Int) : Option (ByteArray × Int × Unit) :=
  (F26 n a0 (1 : Int) (17179869183 : Int)).bind fun r1 =>
  if (!r1.1) = true then
    some ((⟨#[]⟩ : ByteArray), 0, ())
  else
    if (decide (4 ≠ 0)) = true then
    (F106 n (wrap64 (a0.tdiv (4 : Int)))).bind fun r2 =>
    if (!r2.2.1) = true then
      some ((⟨#[]⟩ : ByteArray), 0, ())
    else
      if (decide (4 ≠ 0)) = true then
      (F35 n (a0.tmod (4 : Int))).bind fun r3 =>
      if (decide (r3.1.toList = (⟨#[]⟩ : ByteArray).toList)) = true then
        some ((⟨#[]⟩ : ByteArray), 0, ())
      else
        if (decide (4 ≠ 0)) = true then
        some (r2.1, (a0.tmod (4 : Int)), ())
        else none
      else none
    else none
noncomputable def c88 (n : Nat) : Con := ⟨[.one (.int .i64)], [], [.one (.str), .one (.int .i64)], [], fun (x : Int × Unit) => F88 n x.1⟩
noncomputable def G88 (n : Nat) : Gam := [((26, []), c26 n), ((35, []), c35 n), ((106, []), c106 n)]
theorem e88 (n : Nat) (x : Int × Unit) : evBody tab (G88 n) n (c88 n) Tryz.f88 x = F88 n x.1 := by kernel_rfl
theorem g88 (W : World) (n : Nat) : Good Tryz.prog W 88 (c88 n) := body_good follows tabOk (GamOk.cons (g26 W n) (GamOk.cons (g35 W n) (GamOk.cons (g106 W n) GamOk.nil))) (f := 88) (fn := Tryz.f88) (c := bodyOf Tryz.f88) (by kernel_rfl) (by kernel_rfl) (by kernel_rfl) (by kernel_rfl) (by kernel_rfl) (by kernel_rfl) (by kernel_rfl) (fun x r h => ⟨n, (e88 n x).trans h⟩)
/-! spec.KeyCell -/
noncomputable def F89 (n : Nat) (a0 : Int) : Option (Int × Unit) :=
  (F26 n a0 (0 : Int) (3 : Int)).bind fun r1 =>
  if (!r1.1) = true then
    some ((-1), ())
  else
    some ((wrap64 (3 + a0)), ())
noncomputable def c89 (n : Nat) : Con := ⟨[.one (.int .i64)], [], [.one (.int .i64)], [], fun (x : Int × Unit) => F89 n x.1⟩
noncomputable def G89 (n : Nat) : Gam := [((26, []), c26 n)]
theorem e89 (n : Nat) (x : Int × Unit) : evBody tab (G89 n) n (c89 n) Tryz.f89 x = F89 n x.1 := by kernel_rfl
theorem g89 (W : World) (n : Nat) : Good Tryz.prog W 89 (c89 n) := body_good follows tabOk (GamOk.cons (g26 W n) GamOk.nil) (f := 89) (fn := Tryz.f89) (c := bodyOf Tryz.f89) (by kernel_rfl) (by kernel_rfl) (by kernel_rfl) (by kernel_rfl) (by kernel_rfl) (by kernel_rfl) (by kernel_rfl) (fun x r h => ⟨n, (e89 n x).trans h⟩)
/-! spec.l6Find -/
noncomputable def st101_0 (n : Nat) (g0 : (List Int) → ByteArray → Int → Option (Int × Int × Int × Unit)) (l0 : List Int) (s1 : ByteArray) (i2 : Int) : Option (Int × Int × Int × Unit) :=
  if (decide (i2 < 4)) = true then
    (F122 n s1 i2).bind fun r1 =>
    (F89 n r1.1).bind fun r2 =>
    if (decide (0 ≤ r2.1)) = true then
    if (decide (r2.1 < (l0.length : Int))) = true then
    if (decide ((rdOf (0 : Int) l0 r2.1) = 0)) = true then
      some ((-1), 0, r1.1, ())
    else
      (F88 n (rdOf (0 : Int) l0 r2.1)).bind fun r3 =>
      if (decide (r3.1.toList = s1.toList)) = true then
        some (r1.1, r3.2.1, (-1), ())
      else
        g0 l0 s1 (wrap64 (i2 + 1))
    else none
    else none
  else
    some ((-1), 0, (-1), ())
noncomputable def lp101_0 (n : Nat) : Nat → (List Int) → ByteArray → Int → Option (Int × Int × Int × Unit)
  | 0 => fun _ _ _ => none
  | k + 1 => st101_0 n (lp101_0 n k)
noncomputable def st101 (n : Nat) (h0 : (List Int) → ByteArray → Int → Option (Int × Int × Int × Unit)) (a0 : List Int) (a1 : ByteArray) : Option (Int × Int × Int × Unit) :=
  h0 a0 a1 (0 : Int)
noncomputable def F101 (n : Nat) (a0 : List Int) (a1 : ByteArray) : Option (Int × Int × Int × Unit) := st101 n (lp101_0 n n) a0 a1
noncomputable def c101 (n : Nat) : Con := ⟨[.one (.sl (.imm true) 3 (.int .i64)), .one (.str)], [], [.one (.int .i64), .one (.int .i64), .one (.int .i64)], [], fun (x : List Int × ByteArray × Unit) => F101 n x.1 x.2.1⟩
noncomputable def G101 (n : Nat) : Gam := [((88, []), c88 n), ((89, []), c89 n), ((122, []), c122 n)]
noncomputable def S101_0 (l0 : List Int) (s1 : ByteArray) (i2 : Int) : St := ⟨[.sl (.imm true) 3 (.int .i64) l0, .str s1] ++ List.replicate 5 .dead ++ [.int .i64 i2] ++ List.replicate 29 .dead, List.replicate 37 Ob.none⟩
noncomputable def ga101_0 (n : Nat) (ks : List Nat) (k : Nat) (st : St) : Option (Int × Int × Int × Unit) := goAt tab (G101 n) n (bodyOf Tryz.f101) (lvOf Tryz.f101) (lvOf Tryz.f101).ret [1, 0, 1, 0] ks k st (evBody.endK tab (c101 n) Tryz.f101)
theorem el101_0 (n : Nat) : ∀ (k : Nat), ∀ (l0 : List Int) (s1 : ByteArray) (i2 : Int), ga101_0 n [] k (S101_0 l0 s1 i2) = lp101_0 n k l0 s1 i2 := by
  intro k
  induction k with
  | zero => intros; rfl
  | succ k ih =>
    intro l0 s1 i2
    have h : ga101_0 n [] (k + 1) (S101_0 l0 s1 i2) = st101_0 n (fun w0 w1 w2 => ga101_0 n [] k (S101_0 w0 w1 w2)) l0 s1 i2 := by kernel_rfl
    rw [h]
    have e : (fun w0 w1 w2 => ga101_0 n [] k (S101_0 w0 w1 w2)) = lp101_0 n k := by
      funext w0 w1 w2; exact ih w0 w1 w2
    rw [e]
    rfl
theorem e101 (n : Nat) (x : List Int × ByteArray × Unit) : evBody tab (G101 n) n (c101 n) Tryz.f101 x = F101 n x.1 x.2.1 := by
  have h : evBody tab (G101 n) n (c101 n) Tryz.f101 x = st101 n (fun w0 w1 w2 => ga101_0 n [] n (S101_0 w0 w1 w2)) x.1 x.2.1 := by kernel_rfl
  rw [h]
  have e0 : (fun w0 w1 w2 => ga101_0 n [] n (S101_0 w0 w1 w2)) = lp101_0 n n := by
    funext w0 w1 w2; exact el101_0 n n w0 w1 w2
  rw [e0]
  rfl
theorem g101 (W : World) (n : Nat) : Good Tryz.prog W 101 (c101 n) := body_good follows tabOk (GamOk.cons (g88 W n) (GamOk.cons (g89 W n) (GamOk.cons (g122 W n) GamOk.nil))) (f := 101) (fn := Tryz.f101) (c := bodyOf Tryz.f101) (by kernel_rfl) (by kernel_rfl) (by kernel_rfl) (by kernel_rfl) (by kernel_rfl) (by kernel_rfl) (by kernel_rfl) (fun x r h => ⟨n, (e101 n x).trans h⟩)
/-! spec.l2Copy -/
noncomputable def F84 (n : Nat) (a0 : List Int) : Option (List Int × Unit) :=
  if (decide ((([] : List Int).length + a0.length) * 8 ≤ 140737488355328)) = true then
  some ((([] : List Int) ++ a0), ())
  else none
noncomputable def c84 (n : Nat) : Con := ⟨[.one (.sl (.imm true) 3 (.int .i64))], [], [.one (.sl .own 3 (.int .i64))], [], fun (x : List Int × Unit) => F84 n x.1⟩
noncomputable def G84 (n : Nat) : Gam := []
theorem e84 (n : Nat) (x : List Int × Unit) : evBody tab (G84 n) n (c84 n) Tryz.f84 x = F84 n x.1 := by kernel_rfl
theorem g84 (W : World) (n : Nat) : Good Tryz.prog W 84 (c84 n) := body_good follows tabOk GamOk.nil (f := 84) (fn := Tryz.f84) (c := bodyOf Tryz.f84) (by kernel_rfl) (by kernel_rfl) (by kernel_rfl) (by kernel_rfl) (by kernel_rfl) (by kernel_rfl) (by kernel_rfl) (fun x r h => ⟨n, (e84 n x).trans h⟩)
/-! spec.Register -/
noncomputable def j83_0 (n : Nat) (s0 : ByteArray) (i1 : Int) (i2 : Int) (i3 : Int) (b4 : Bool) (l5 : List Int) : Option (List Int × Int × Int × Unit) :=
  if b4 = true then
    some (l5, i2, 0, ())
  else
    if (decide (i3 < 0)) = true then
      some (l5, (-1), 3, ())
    else
      (F89 n i3).bind fun r5 =>
      (F100 n s0 i1).bind fun r6 =>
      if (decide (0 ≤ r5.1)) = true then
      if (decide (r5.1 < (l5.length : Int))) = true then
      some ((l5.set r5.1.toNat r6.1), i3, 0, ())
      else none
      else none
noncomputable def F83 (n : Nat) (a0 : List Int) (a1 : ByteArray) (a2 : Int) : Option (List Int × Int × Int × Unit) :=
  (F84 n a0).bind fun r1 =>
  (F8 n a0).bind fun r2 =>
  if (!r2.1) = true then
    some (r1.1, (-1), 1, ())
  else
    (F100 n a1 a2).bind fun r3 =>
    if (decide (r3.1 = 0)) = true then
      some (r1.1, (-1), 1, ())
    else
      (F101 n a0 a1).bind fun r4 =>
      if (decide (r4.1 ≥ 0)) = true then
        if (decide (r4.2.1 ≠ a2)) = true then
          some (r1.1, r4.1, 4, ())
        else
          j83_0 n a1 a2 r4.1 r4.2.2.1 (decide (r4.1 ≥ 0)) r1.1
      else
        j83_0 n a1 a2 r4.1 r4.2.2.1 (decide (r4.1 ≥ 0)) r1.1
noncomputable def c83 (n : Nat) : Con := ⟨[.one (.sl (.imm true) 3 (.int .i64)), .one (.str), .one (.int .i64)], [], [.one (.sl .own 3 (.int .i64)), .one (.int .i64), .one (.int .i64)], [], fun (x : List Int × ByteArray × Int × Unit) => F83 n x.1 x.2.1 x.2.2.1⟩
noncomputable def G83 (n : Nat) : Gam := [((8, []), c8 n), ((84, []), c84 n), ((89, []), c89 n), ((100, []), c100 n), ((101, []), c101 n)]
theorem e83 (n : Nat) (x : List Int × ByteArray × Int × Unit) : evBody tab (G83 n) n (c83 n) Tryz.f83 x = F83 n x.1 x.2.1 x.2.2.1 := by kernel_rfl
theorem g83 (W : World) (n : Nat) : Good Tryz.prog W 83 (c83 n) := body_good follows tabOk (GamOk.cons (g8 W n) (GamOk.cons (g84 W n) (GamOk.cons (g89 W n) (GamOk.cons (g100 W n) (GamOk.cons (g101 W n) GamOk.nil))))) (f := 83) (fn := Tryz.f83) (c := bodyOf Tryz.f83) (by kernel_rfl) (by kernel_rfl) (by kernel_rfl) (by kernel_rfl) (by kernel_rfl) (by kernel_rfl) (by kernel_rfl) (fun x r h => ⟨n, (e83 n x).trans h⟩)
/-! spec.l6Arena -/
noncomputable def st71_0 (n : Nat) (g0 : Int → (List Int) → (List Int) → Int → Int → Option (List Int × List Int × Int × Int × Unit)) (i0 : Int) (l1 : List Int) (l2 : List Int) (i3 : Int) (i4 : Int) : Option (List Int × List Int × Int × Int × Unit) :=
  if (decide (i0 > 0)) = true then
    (F77 n l2 i3 i4).bind fun r2 =>
    (F43 n (3 : Int) r2.2.1 r2.2.2.1 r2.2.2.2.1).bind fun r3 =>
    (F83 n l1 r2.1 (wrap64 (1 + r3.1))).bind fun r4 =>
    g0 (wrap64 (i0 - 1)) r4.1 r3.2.1 r3.2.2.1 r3.2.2.2.1
  else
    some (l1, l2, i3, i4, ())
noncomputable def lp71_0 (n : Nat) : Nat → Int → (List Int) → (List Int) → Int → Int → Option (List Int × List Int × Int × Int × Unit)
  | 0 => fun _ _ _ _ _ => none
  | k + 1 => st71_0 n (lp71_0 n k)
noncomputable def st71 (n : Nat) (h0 : Int → (List Int) → (List Int) → Int → Int → Option (List Int × List Int × Int × Int × Unit)) (a1 : Int) (a2 : List Int) (a3 : Int) (a4 : Int) : Option (List Int × List Int × Int × Int × Unit) :=
  if (decide (0 ≤ 71)) = true then
  if (decide (71 = 71)) = true then
  if (decide (71 * 8 ≤ 140737488355328)) = true then
  (F43 n (wrap64 (a1 + 1)) a2 a3 a4).bind fun r1 =>
  h0 r1.1 (List.replicate (71 : Int).toNat (0 : Int)) r1.2.1 r1.2.2.1 r1.2.2.2.1
  else none
  else none
  else none
noncomputable def F71 (n : Nat) (a1 : Int) (a2 : List Int) (a3 : Int) (a4 : Int) : Option (List Int × List Int × Int × Int × Unit) := st71 n (lp71_0 n n) a1 a2 a3 a4
noncomputable def c71 (n : Nat) : Con := ⟨[.one (.ptr 0 0), .one (.int .i64)], [[(.sl (.imm false) 5 (.int .u8)), (.int .i64), (.int .i64)]], [.one (.sl .own 3 (.int .i64))], [[(.sl (.imm false) 5 (.int .u8)), (.int .i64), (.int .i64)]], fun (x : Unit × Int × List Int × Int × Int × Unit) => F71 n x.2.1 x.2.2.1 x.2.2.2.1 x.2.2.2.2.1⟩
noncomputable def G71 (n : Nat) : Gam := [((43, []), c43 n), ((77, []), c77 n), ((83, []), c83 n)]
noncomputable def S71_0 (i0 : Int) (l1 : List Int) (l2 : List Int) (i3 : Int) (i4 : Int) : St := ⟨[.ptr 28 0] ++ List.replicate 4 .dead ++ [.sr 5 0 none 0 0 none, .int .i64 i0] ++ List.replicate 21 .dead, List.replicate 5 Ob.none ++ [⟨false, [.sl .own 3 (.int .i64) l1], 0, 0⟩] ++ List.replicate 22 Ob.none ++ [⟨true, [.sl (.imm false) 5 (.int .u8) l2, .int .i64 i3, .int .i64 i4], 0, 0⟩]⟩
noncomputable def ga71_0 (n : Nat) (ks : List Nat) (k : Nat) (st : St) : Option (List Int × List Int × Int × Int × Unit) := goAt tab (G71 n) n (bodyOf Tryz.f71) (lvOf Tryz.f71) (lvOf Tryz.f71).ret [1, 1, 0, 1, 0] ks k st (evBody.endK tab (c71 n) Tryz.f71)
theorem el71_0 (n : Nat) : ∀ (k : Nat), ∀ (i0 : Int) (l1 : List Int) (l2 : List Int) (i3 : Int) (i4 : Int), ga71_0 n [] k (S71_0 i0 l1 l2 i3 i4) = lp71_0 n k i0 l1 l2 i3 i4 := by
  intro k
  induction k with
  | zero => intros; rfl
  | succ k ih =>
    intro i0 l1 l2 i3 i4
    have h : ga71_0 n [] (k + 1) (S71_0 i0 l1 l2 i3 i4) = st71_0 n (fun w0 w1 w2 w3 w4 => ga71_0 n [] k (S71_0 w0 w1 w2 w3 w4)) i0 l1 l2 i3 i4 := by kernel_rfl
    rw [h]
    have e : (fun w0 w1 w2 w3 w4 => ga71_0 n [] k (S71_0 w0 w1 w2 w3 w4)) = lp71_0 n k := by
      funext w0 w1 w2 w3 w4; exact ih w0 w1 w2 w3 w4
    rw [e]
    rfl
theorem e71 (n : Nat) (x : Unit × Int × List Int × Int × Int × Unit) : evBody tab (G71 n) n (c71 n) Tryz.f71 x = F71 n x.2.1 x.2.2.1 x.2.2.2.1 x.2.2.2.2.1 := by
  have h : evBody tab (G71 n) n (c71 n) Tryz.f71 x = st71 n (fun w0 w1 w2 w3 w4 => ga71_0 n [] n (S71_0 w0 w1 w2 w3 w4)) x.2.1 x.2.2.1 x.2.2.2.1 x.2.2.2.2.1 := by kernel_rfl
  rw [h]
  have e0 : (fun w0 w1 w2 w3 w4 => ga71_0 n [] n (S71_0 w0 w1 w2 w3 w4)) = lp71_0 n n := by
    funext w0 w1 w2 w3 w4; exact el71_0 n n w0 w1 w2 w3 w4
  rw [e0]
  rfl
theorem g71 (W : World) (n : Nat) : Good Tryz.prog W 71 (c71 n) := body_good follows tabOk (GamOk.cons (g43 W n) (GamOk.cons (g77 W n) (GamOk.cons (g83 W n) GamOk.nil))) (f := 71) (fn := Tryz.f71) (c := bodyOf Tryz.f71) (by kernel_rfl) (by kernel_rfl) (by kernel_rfl) (by kernel_rfl) (by kernel_rfl) (by kernel_rfl) (by kernel_rfl) (fun x r h => ⟨n, (e71 n x).trans h⟩)
/-! spec.InCell -/
noncomputable def F102 (n : Nat) (a0 : Int) : Option (Int × Unit) :=
  (F26 n a0 (0 : Int) (1 : Int)).bind fun r1 =>
  if (!r1.1) = true then
    some ((-1), ())
  else
    some ((wrap64 (1 + a0)), ())
noncomputable def c102 (n : Nat) : Con := ⟨[.one (.int .i64)], [], [.one (.int .i64)], [], fun (x : Int × Unit) => F102 n x.1⟩
noncomputable def G102 (n : Nat) : Gam := [((26, []), c26 n)]
theorem e102 (n : Nat) (x : Int × Unit) : evBody tab (G102 n) n (c102 n) Tryz.f102 x = F102 n x.1 := by kernel_rfl
theorem g102 (W : World) (n : Nat) : Good Tryz.prog W 102 (c102 n) := body_good follows tabOk (GamOk.cons (g26 W n) GamOk.nil) (f := 102) (fn := Tryz.f102) (c := bodyOf Tryz.f102) (by kernel_rfl) (by kernel_rfl) (by kernel_rfl) (by kernel_rfl) (by kernel_rfl) (by kernel_rfl) (by kernel_rfl) (fun x r h => ⟨n, (e102 n x).trans h⟩)
/-! spec.SlotBase -/
noncomputable def F123 (n : Nat) (a0 : Int) (a1 : Int) : Option (Int × Unit) :=
  (F26 n a0 (0 : Int) (1 : Int)).bind fun r1 =>
  if (!r1.1) = true then
    some ((-1), ())
  else
    (F26 n a1 (0 : Int) (3 : Int)).bind fun r2 =>
    if (!r2.1) = true then
      some ((-1), ())
    else
      some ((wrap64 ((wrap64 (7 + (wrap64 (a0 * 32)))) + (wrap64 (a1 * 8)))), ())
noncomputable def c123 (n : Nat) : Con := ⟨[.one (.int .i64), .one (.int .i64)], [], [.one (.int .i64)], [], fun (x : Int × Int × Unit) => F123 n x.1 x.2.1⟩
noncomputable def G123 (n : Nat) : Gam := [((26, []), c26 n)]
theorem e123 (n : Nat) (x : Int × Int × Unit) : evBody tab (G123 n) n (c123 n) Tryz.f123 x = F123 n x.1 x.2.1 := by kernel_rfl
theorem g123 (W : World) (n : Nat) : Good Tryz.prog W 123 (c123 n) := body_good follows tabOk (GamOk.cons (g26 W n) GamOk.nil) (f := 123) (fn := Tryz.f123) (c := bodyOf Tryz.f123) (by kernel_rfl) (by kernel_rfl) (by kernel_rfl) (by kernel_rfl) (by kernel_rfl) (by kernel_rfl) (by kernel_rfl) (fun x r h => ⟨n, (e123 n x).trans h⟩)
/-! spec.UnpackGauge -/
noncomputable def F109 (n : Nat) (a0 : Int) : Option (Int × Int × Unit) :=
  (F26 n a0 (65536 : Int) (4294967295 : Int)).bind fun r1 =>
  if (!r1.1) = true then
    some (0, 0, ())
  else
    if (decide (65536 ≠ 0)) = true then
    if (decide (65536 ≠ 0)) = true then
    some ((wrap64 (a0.tdiv (65536 : Int))), (a0.tmod (65536 : Int)), ())
    else none
    else none
noncomputable def c109 (n : Nat) : Con := ⟨[.one (.int .i64)], [], [.one (.int .i64), .one (.int .i64)], [], fun (x : Int × Unit) => F109 n x.1⟩
noncomputable def G109 (n : Nat) : Gam := [((26, []), c26 n)]
theorem e109 (n : Nat) (x : Int × Unit) : evBody tab (G109 n) n (c109 n) Tryz.f109 x = F109 n x.1 := by kernel_rfl
theorem g109 (W : World) (n : Nat) : Good Tryz.prog W 109 (c109 n) := body_good follows tabOk (GamOk.cons (g26 W n) GamOk.nil) (f := 109) (fn := Tryz.f109) (c := bodyOf Tryz.f109) (by kernel_rfl) (by kernel_rfl) (by kernel_rfl) (by kernel_rfl) (by kernel_rfl) (by kernel_rfl) (by kernel_rfl) (fun x r h => ⟨n, (e109 n x).trans h⟩)
/-! spec.l7Timer -/
noncomputable def F137 (n : Nat) (a0 : ByteArray) (a1 : Int) (a2 : Int) (a3 : Bool) (a4 : Int) (a5 : Int) (a6 : Int) (a7 : Int) (a8 : Int) (a9 : Int) : Option (Bool × Unit) :=
  if (decide (a5 = 0)) = true then
    if (decide (a6 = 0)) = true then
      if (decide (a7 = 0)) = true then
        if (decide (a8 = 0)) = true then
          some (decide (a9 = 0), ())
        else
          some (false, ())
      else
        some (false, ())
    else
      some (false, ())
  else
    (F26 n a5 (1 : Int) (3 : Int)).bind fun r1 =>
    if r1.1 = true then
      (F26 n a6 (0 : Int) a7).bind fun r2 =>
      if r2.1 = true then
        if (decide (a7 ≤ 65535)) = true then
          (F26 n a8 (wrap64 (a6 * a5)) (wrap64 (a7 * a5))).bind fun r3 =>
          if r3.1 = true then
            (F26 n a9 (0 : Int) (65535 : Int)).bind fun r4 =>
            if r4.1 = true then
              if (decide (a9 = 0)) = true then
                some (true, ())
              else
                some (decide (a5 = 3), ())
            else
              some (false, ())
          else
            some (false, ())
        else
          some (false, ())
      else
        some (false, ())
    else
      some (false, ())
noncomputable def c137 (n : Nat) : Con := ⟨[.agg [(.str), (.int .i64), (.int .i64), (.bool), (.int .i64), (.int .i64), (.int .i64), (.int .i64), (.int .i64), (.int .i64)]], [], [.one (.bool)], [], fun (x : ByteArray × Int × Int × Bool × Int × Int × Int × Int × Int × Int × Unit) => F137 n x.1 x.2.1 x.2.2.1 x.2.2.2.1 x.2.2.2.2.1 x.2.2.2.2.2.1 x.2.2.2.2.2.2.1 x.2.2.2.2.2.2.2.1 x.2.2.2.2.2.2.2.2.1 x.2.2.2.2.2.2.2.2.2.1⟩
noncomputable def G137 (n : Nat) : Gam := [((26, []), c26 n)]
theorem e137 (n : Nat) (x : ByteArray × Int × Int × Bool × Int × Int × Int × Int × Int × Int × Unit) : evBody tab (G137 n) n (c137 n) Tryz.f137 x = F137 n x.1 x.2.1 x.2.2.1 x.2.2.2.1 x.2.2.2.2.1 x.2.2.2.2.2.1 x.2.2.2.2.2.2.1 x.2.2.2.2.2.2.2.1 x.2.2.2.2.2.2.2.2.1 x.2.2.2.2.2.2.2.2.2.1 := by kernel_rfl
theorem g137 (W : World) (n : Nat) : Good Tryz.prog W 137 (c137 n) := body_good follows tabOk (GamOk.cons (g26 W n) GamOk.nil) (f := 137) (fn := Tryz.f137) (c := bodyOf Tryz.f137) (by kernel_rfl) (by kernel_rfl) (by kernel_rfl) (by kernel_rfl) (by kernel_rfl) (by kernel_rfl) (by kernel_rfl) (fun x r h => ⟨n, (e137 n x).trans h⟩)
end Go.Eva
end
section
/- The functions, as their texts evaluate. -/
set_option linter.unusedVariables false
set_option maxRecDepth 100000
namespace Go.Eva
open Go.Proofs
open Go.RowKit (wrap64)
/-! spec.RowOk -/
noncomputable def F136 (n : Nat) (a0 : ByteArray) (a1 : Int) (a2 : Int) (a3 : Bool) (a4 : Int) (a5 : Int) (a6 : Int) (a7 : Int) (a8 : Int) (a9 : Int) : Option (Bool × Unit) :=
  (F34 n a0).bind fun r1 =>
  if (!r1.1) = true then
    some (false, ())
  else
    if (decide (a1 = 1)) = true then
      if (decide (a0.toList = a0.toList) && (decide (a1 = a1) && (decide (a2 = a2) && ((a3 == false) && (decide (a4 = 0) && (decide (a5 = 0) && (decide (a6 = 0) && (decide (a7 = 0) && (decide (a8 = 0) && (decide (a9 = 0) && true)))))))))) = true then
        (F26 n a2 (0 : Int) (281474976710655 : Int)).bind fun r2 =>
        some (r2.1, ())
      else
        some (false, ())
    else
      if (decide (a1 = 2)) = true then
        if (decide (a0.toList = a0.toList) && (decide (a1 = a1) && (decide (a2 = 0) && ((a3 == a3) && (decide (a4 = a4) && (decide (a5 = 0) && (decide (a6 = 0) && (decide (a7 = 0) && (decide (a8 = 0) && (decide (a9 = 0) && true)))))))))) = true then
          (F26 n a4 (0 : Int) (65535 : Int)).bind fun r3 =>
          if r3.1 = true then
            if a3 = true then
              some (true, ())
            else
              some (decide (a4 = 0), ())
          else
            some (false, ())
        else
          some (false, ())
      else
        if (decide (a1 = 3)) = true then
          if (decide (a2 = 0)) = true then
            if (!a3) = true then
              if (decide (a4 = 0)) = true then
                (F137 n a0 a1 a2 a3 a4 a5 a6 a7 a8 a9).bind fun r4 =>
                some (r4.1, ())
              else
                some (false, ())
            else
              some (false, ())
          else
            some (false, ())
        else
          some (false, ())
noncomputable def c136 (n : Nat) : Con := ⟨[.agg [(.str), (.int .i64), (.int .i64), (.bool), (.int .i64), (.int .i64), (.int .i64), (.int .i64), (.int .i64), (.int .i64)]], [], [.one (.bool)], [], fun (x : ByteArray × Int × Int × Bool × Int × Int × Int × Int × Int × Int × Unit) => F136 n x.1 x.2.1 x.2.2.1 x.2.2.2.1 x.2.2.2.2.1 x.2.2.2.2.2.1 x.2.2.2.2.2.2.1 x.2.2.2.2.2.2.2.1 x.2.2.2.2.2.2.2.2.1 x.2.2.2.2.2.2.2.2.2.1⟩
noncomputable def G136 (n : Nat) : Gam := [((26, []), c26 n), ((34, []), c34 n), ((137, []), c137 n)]
theorem e136 (n : Nat) (x : ByteArray × Int × Int × Bool × Int × Int × Int × Int × Int × Int × Unit) : evBody tab (G136 n) n (c136 n) Tryz.f136 x = F136 n x.1 x.2.1 x.2.2.1 x.2.2.2.1 x.2.2.2.2.1 x.2.2.2.2.2.1 x.2.2.2.2.2.2.1 x.2.2.2.2.2.2.2.1 x.2.2.2.2.2.2.2.2.1 x.2.2.2.2.2.2.2.2.2.1 := by kernel_rfl
theorem g136 (W : World) (n : Nat) : Good Tryz.prog W 136 (c136 n) := body_good follows tabOk (GamOk.cons (g26 W n) (GamOk.cons (g34 W n) (GamOk.cons (g137 W n) GamOk.nil))) (f := 136) (fn := Tryz.f136) (c := bodyOf Tryz.f136) (by kernel_rfl) (by kernel_rfl) (by kernel_rfl) (by kernel_rfl) (by kernel_rfl) (by kernel_rfl) (by kernel_rfl) (fun x r h => ⟨n, (e136 n x).trans h⟩)
/-! spec.Sampled -/
noncomputable def F133 (n : Nat) (a0 : ByteArray) (a1 : Int) (a2 : Int) (a3 : Bool) (a4 : Int) (a5 : Int) (a6 : Int) (a7 : Int) (a8 : Int) (a9 : Int) (a10 : Int) : Option (ByteArray × Int × Int × Bool × Int × Int × Int × Int × Int × Int × Unit) :=
  (F136 n a0 a1 a2 a3 a4 a5 a6 a7 a8 a9).bind fun r1 =>
  if (!r1.1) = true then
    some (a0, a1, a2, a3, a4, a5, a6, a7, a8, a9, ())
  else
    if (decide (a1 ≠ 3)) = true then
      some (a0, a1, a2, a3, a4, a5, a6, a7, a8, a9, ())
    else
      (F26 n a10 (0 : Int) (65535 : Int)).bind fun r2 =>
      if (!r2.1) = true then
        some (a0, a1, a2, a3, a4, a5, a6, a7, a8, a9, ())
      else
        if (decide (a5 = 3)) = true then
          some (a0, a1, a2, a3, a4, a5, a6, a7, a8, (mn (wrap64 (a9 + 1)) (65535 : Int)), ())
        else
          if (decide (a5 = 0)) = true then
            some (a0, a1, a2, a3, a4, (wrap64 (a5 + 1)), (mn a10 a10), (mx a10 a10), (wrap64 (a8 + a10)), a9, ())
          else
            some (a0, a1, a2, a3, a4, (wrap64 (a5 + 1)), (mn a6 a10), (mx a7 a10), (wrap64 (a8 + a10)), a9, ())
noncomputable def c133 (n : Nat) : Con := ⟨[.agg [(.str), (.int .i64), (.int .i64), (.bool), (.int .i64), (.int .i64), (.int .i64), (.int .i64), (.int .i64), (.int .i64)], .one (.int .i64)], [], [.agg [(.str), (.int .i64), (.int .i64), (.bool), (.int .i64), (.int .i64), (.int .i64), (.int .i64), (.int .i64), (.int .i64)]], [], fun (x : ByteArray × Int × Int × Bool × Int × Int × Int × Int × Int × Int × Int × Unit) => F133 n x.1 x.2.1 x.2.2.1 x.2.2.2.1 x.2.2.2.2.1 x.2.2.2.2.2.1 x.2.2.2.2.2.2.1 x.2.2.2.2.2.2.2.1 x.2.2.2.2.2.2.2.2.1 x.2.2.2.2.2.2.2.2.2.1 x.2.2.2.2.2.2.2.2.2.2.1⟩
noncomputable def G133 (n : Nat) : Gam := [((26, []), c26 n), ((136, []), c136 n)]
theorem e133 (n : Nat) (x : ByteArray × Int × Int × Bool × Int × Int × Int × Int × Int × Int × Int × Unit) : evBody tab (G133 n) n (c133 n) Tryz.f133 x = F133 n x.1 x.2.1 x.2.2.1 x.2.2.2.1 x.2.2.2.2.1 x.2.2.2.2.2.1 x.2.2.2.2.2.2.1 x.2.2.2.2.2.2.2.1 x.2.2.2.2.2.2.2.2.1 x.2.2.2.2.2.2.2.2.2.1 x.2.2.2.2.2.2.2.2.2.2.1 := by kernel_rfl
theorem g133 (W : World) (n : Nat) : Good Tryz.prog W 133 (c133 n) := body_good follows tabOk (GamOk.cons (g26 W n) (GamOk.cons (g136 W n) GamOk.nil)) (f := 133) (fn := Tryz.f133) (c := bodyOf Tryz.f133) (by kernel_rfl) (by kernel_rfl) (by kernel_rfl) (by kernel_rfl) (by kernel_rfl) (by kernel_rfl) (by kernel_rfl) (fun x r h => ⟨n, (e133 n x).trans h⟩)
/-! spec.l2Mod -/
noncomputable def F87 (n : Nat) (a0 : Int) : Option (Int × Unit) :=
  if (decide (281474976710656 ≠ 0)) = true then
  if (decide (281474976710656 ≠ 0)) = true then
  some (((wrap64 ((a0.tmod (281474976710656 : Int)) + 281474976710656)).tmod (281474976710656 : Int)), ())
  else none
  else none
noncomputable def c87 (n : Nat) : Con := ⟨[.one (.int .i64)], [], [.one (.int .i64)], [], fun (x : Int × Unit) => F87 n x.1⟩
noncomputable def G87 (n : Nat) : Gam := []
theorem e87 (n : Nat) (x : Int × Unit) : evBody tab (G87 n) n (c87 n) Tryz.f87 x = F87 n x.1 := by kernel_rfl
theorem g87 (W : World) (n : Nat) : Good Tryz.prog W 87 (c87 n) := body_good follows tabOk GamOk.nil (f := 87) (fn := Tryz.f87) (c := bodyOf Tryz.f87) (by kernel_rfl) (by kernel_rfl) (by kernel_rfl) (by kernel_rfl) (by kernel_rfl) (by kernel_rfl) (by kernel_rfl) (fun x r h => ⟨n, (e87 n x).trans h⟩)
/-! spec.RowFrom -/
noncomputable def j124_0 (n : Nat) (l0 : List Int) (s1 : ByteArray) (i2 : Int) (i3 : Int) (b4 : Bool) (i5 : Int) (i6 : Int) (i7 : Int) (i8 : Int) (i9 : Int) (i10 : Int) (s11 : ByteArray) (i12 : Int) (i13 : Int) (b14 : Bool) (i15 : Int) (i16 : Int) (i17 : Int) (i18 : Int) (i19 : Int) (i20 : Int) : Option (ByteArray × Int × Int × Bool × Int × Int × Int × Int × Int × Int × Unit) :=
  if (decide (i16 = 3)) = true then
    if (decide (0 ≤ 4)) = true then
    if (decide (4 < (l0.length : Int))) = true then
    if (decide ((rdOf (0 : Int) l0 (4 : Int)) > 3)) = true then
      if (decide (0 ≤ 4)) = true then
      if (decide (4 < (l0.length : Int))) = true then
      some (s11, i12, i13, b14, i15, i16, i17, i18, i19, (mn (wrap64 ((rdOf (0 : Int) l0 (4 : Int)) - 3)) (65535 : Int)), ())
      else none
      else none
    else
      some (s11, i12, i13, b14, i15, i16, i17, i18, i19, i20, ())
    else none
    else none
  else
    some (s11, i12, i13, b14, i15, i16, i17, i18, i19, i20, ())
noncomputable def st124_0 (n : Nat) (g0 : (List Int) → Int → ByteArray → Int → Int → Bool → Int → Int → Int → Int → Int → Int → ByteArray → Int → Int → Bool → Int → Int → Int → Int → Int → Int → Option (ByteArray × Int × Int × Bool × Int × Int × Int × Int × Int × Int × Unit)) (l0 : List Int) (i1 : Int) (s2 : ByteArray) (i3 : Int) (i4 : Int) (b5 : Bool) (i6 : Int) (i7 : Int) (i8 : Int) (i9 : Int) (i10 : Int) (i11 : Int) (s12 : ByteArray) (i13 : Int) (i14 : Int) (b15 : Bool) (i16 : Int) (i17 : Int) (i18 : Int) (i19 : Int) (i20 : Int) (i21 : Int) : Option (ByteArray × Int × Int × Bool × Int × Int × Int × Int × Int × Int × Unit) :=
  if (decide (i1 < 2)) = true then
    if (decide (0 ≤ i1)) = true then
    if (decide (i1 < (l0.length : Int))) = true then
    (F87 n (rdOf (0 : Int) l0 i1)).bind fun r2 =>
    (F87 n (wrap64 (i14 + r2.1))).bind fun r3 =>
    g0 l0 (wrap64 (i1 + 1)) s2 i3 i4 b5 i6 i7 i8 i9 i10 i11 s12 i13 r3.1 b15 i16 i17 i18 i19 i20 i21
    else none
    else none
  else
    some (s12, i13, i14, b15, i16, i17, i18, i19, i20, i21, ())
noncomputable def lp124_0 (n : Nat) : Nat → (List Int) → Int → ByteArray → Int → Int → Bool → Int → Int → Int → Int → Int → Int → ByteArray → Int → Int → Bool → Int → Int → Int → Int → Int → Int → Option (ByteArray × Int × Int × Bool × Int × Int × Int × Int × Int × Int × Unit)
  | 0 => fun _ _ _ _ _ _ _ _ _ _ _ _ _ _ _ _ _ _ _ _ _ _ => none
  | k + 1 => st124_0 n (lp124_0 n k)
noncomputable def st124_1 (n : Nat) (g1 : (List Int) → Int → ByteArray → Int → Int → Bool → Int → Int → Int → Int → Int → Int → ByteArray → Int → Int → Bool → Int → Int → Int → Int → Int → Int → Option (ByteArray × Int × Int × Bool × Int × Int × Int × Int × Int × Int × Unit)) (l0 : List Int) (i1 : Int) (s2 : ByteArray) (i3 : Int) (i4 : Int) (b5 : Bool) (i6 : Int) (i7 : Int) (i8 : Int) (i9 : Int) (i10 : Int) (i11 : Int) (s12 : ByteArray) (i13 : Int) (i14 : Int) (b15 : Bool) (i16 : Int) (i17 : Int) (i18 : Int) (i19 : Int) (i20 : Int) (i21 : Int) : Option (ByteArray × Int × Int × Bool × Int × Int × Int × Int × Int × Int × Unit) :=
  if (decide (i1 < 3)) = true then
    if (decide (0 ≤ 4)) = true then
    if (decide (4 < (l0.length : Int))) = true then
    if (decide (i1 < (rdOf (0 : Int) l0 (4 : Int)))) = true then
      if (decide (0 ≤ (wrap64 (5 + i1)))) = true then
      if (decide ((wrap64 (5 + i1)) < (l0.length : Int))) = true then
      (F133 n s12 i13 i14 b15 i16 i17 i18 i19 i20 i21 (wrap64 ((rdOf (0 : Int) l0 (wrap64 (5 + i1))) - 1))).bind fun r5 =>
      g1 l0 (wrap64 (i1 + 1)) s2 i3 i4 b5 i6 i7 i8 i9 i10 i11 r5.1 r5.2.1 r5.2.2.1 r5.2.2.2.1 r5.2.2.2.2.1 r5.2.2.2.2.2.1 r5.2.2.2.2.2.2.1 r5.2.2.2.2.2.2.2.1 r5.2.2.2.2.2.2.2.2.1 r5.2.2.2.2.2.2.2.2.2.1
      else none
      else none
    else
      j124_0 n l0 s2 i3 i4 b5 i6 i7 i8 i9 i10 i11 s12 i13 i14 b15 i16 i17 i18 i19 i20 i21
    else none
    else none
  else
    j124_0 n l0 s2 i3 i4 b5 i6 i7 i8 i9 i10 i11 s12 i13 i14 b15 i16 i17 i18 i19 i20 i21
noncomputable def lp124_1 (n : Nat) : Nat → (List Int) → Int → ByteArray → Int → Int → Bool → Int → Int → Int → Int → Int → Int → ByteArray → Int → Int → Bool → Int → Int → Int → Int → Int → Int → Option (ByteArray × Int × Int × Bool × Int × Int × Int × Int × Int × Int × Unit)
  | 0 => fun _ _ _ _ _ _ _ _ _ _ _ _ _ _ _ _ _ _ _ _ _ _ => none
  | k + 1 => st124_1 n (lp124_1 n k)
noncomputable def st124 (n : Nat) (h0 : (List Int) → Int → ByteArray → Int → Int → Bool → Int → Int → Int → Int → Int → Int → ByteArray → Int → Int → Bool → Int → Int → Int → Int → Int → Int → Option (ByteArray × Int × Int × Bool × Int × Int × Int × Int × Int × Int × Unit)) (h1 : (List Int) → Int → ByteArray → Int → Int → Bool → Int → Int → Int → Int → Int → Int → ByteArray → Int → Int → Bool → Int → Int → Int → Int → Int → Int → Option (ByteArray × Int × Int × Bool × Int × Int × Int × Int × Int × Int × Unit)) (a0 : Int) (a1 : List Int) : Option (ByteArray × Int × Int × Bool × Int × Int × Int × Int × Int × Int × Unit) :=
  (F88 n a0).bind fun r1 =>
  if (decide (r1.2.1 = 0)) = true then
    some ((⟨#[]⟩ : ByteArray), 0, 0, false, 0, 0, 0, 0, 0, 0, ())
  else
    if (decide ((a1.length : Int) ≠ 8)) = true then
      some ((⟨#[]⟩ : ByteArray), 0, 0, false, 0, 0, 0, 0, 0, 0, ())
    else
      if (decide (r1.2.1 = 1)) = true then
        h0 a1 (0 : Int) (⟨#[]⟩ : ByteArray) (0 : Int) (0 : Int) false (0 : Int) (0 : Int) (0 : Int) (0 : Int) (0 : Int) (0 : Int) r1.1 r1.2.1 (0 : Int) false (0 : Int) (0 : Int) (0 : Int) (0 : Int) (0 : Int) (0 : Int)
      else
        if (decide (r1.2.1 = 2)) = true then
          if (decide (0 ≤ 3)) = true then
          if (decide (3 < (a1.length : Int))) = true then
          (F109 n (rdOf (0 : Int) a1 (3 : Int))).bind fun r4 =>
          some (r1.1, r1.2.1, 0, decide (r4.1 > 0), r4.2.1, 0, 0, 0, 0, 0, ())
          else none
          else none
        else
          h1 a1 (0 : Int) (⟨#[]⟩ : ByteArray) (0 : Int) (0 : Int) false (0 : Int) (0 : Int) (0 : Int) (0 : Int) (0 : Int) (0 : Int) r1.1 r1.2.1 (0 : Int) false (0 : Int) (0 : Int) (0 : Int) (0 : Int) (0 : Int) (0 : Int)
noncomputable def F124 (n : Nat) (a0 : Int) (a1 : List Int) : Option (ByteArray × Int × Int × Bool × Int × Int × Int × Int × Int × Int × Unit) := st124 n (lp124_0 n n) (lp124_1 n n) a0 a1
noncomputable def c124 (n : Nat) : Con := ⟨[.one (.int .i64), .one (.sl (.imm true) 3 (.int .i64))], [], [.agg [(.str), (.int .i64), (.int .i64), (.bool), (.int .i64), (.int .i64), (.int .i64), (.int .i64), (.int .i64), (.int .i64)]], [], fun (x : Int × List Int × Unit) => F124 n x.1 x.2.1⟩
noncomputable def G124 (n : Nat) : Gam := [((87, []), c87 n), ((88, []), c88 n), ((109, []), c109 n), ((133, []), c133 n)]
noncomputable def S124_0 (l0 : List Int) (i1 : Int) (s2 : ByteArray) (i3 : Int) (i4 : Int) (b5 : Bool) (i6 : Int) (i7 : Int) (i8 : Int) (i9 : Int) (i10 : Int) (i11 : Int) (s12 : ByteArray) (i13 : Int) (i14 : Int) (b15 : Bool) (i16 : Int) (i17 : Int) (i18 : Int) (i19 : Int) (i20 : Int) (i21 : Int) : St := ⟨[.dead, .sl (.imm true) 3 (.int .i64) l0, .dead, .dead, .ptr 4 0, .dead, .dead, .ptr 7 0, .int .i64 i1] ++ List.replicate 85 .dead, List.replicate 4 Ob.none ++ [⟨true, [.str s2, .int .i64 i3, .int .i64 i4, .bool b5, .int .i64 i6, .int .i64 i7, .int .i64 i8, .int .i64 i9, .int .i64 i10, .int .i64 i11], 0, 0⟩, Ob.none, Ob.none, ⟨true, [.str s12, .int .i64 i13, .int .i64 i14, .bool b15, .int .i64 i16, .int .i64 i17, .int .i64 i18, .int .i64 i19, .int .i64 i20, .int .i64 i21], 0, 0⟩] ++ List.replicate 86 Ob.none⟩
noncomputable def ga124_0 (n : Nat) (ks : List Nat) (k : Nat) (st : St) : Option (ByteArray × Int × Int × Bool × Int × Int × Int × Int × Int × Int × Unit) := goAt tab (G124 n) n (bodyOf Tryz.f124) (lvOf Tryz.f124) (lvOf Tryz.f124).ret [1, 1, 1, 1, 0, 1, 0, 1, 0, 1, 0] ks k st (evBody.endK tab (c124 n) Tryz.f124)
noncomputable def S124_1 (l0 : List Int) (i1 : Int) (s2 : ByteArray) (i3 : Int) (i4 : Int) (b5 : Bool) (i6 : Int) (i7 : Int) (i8 : Int) (i9 : Int) (i10 : Int) (i11 : Int) (s12 : ByteArray) (i13 : Int) (i14 : Int) (b15 : Bool) (i16 : Int) (i17 : Int) (i18 : Int) (i19 : Int) (i20 : Int) (i21 : Int) : St := ⟨[.dead, .sl (.imm true) 3 (.int .i64) l0, .dead, .dead, .ptr 4 0, .dead, .dead, .ptr 7 0, .dead, .dead, .dead, .int .i64 i1] ++ List.replicate 82 .dead, List.replicate 4 Ob.none ++ [⟨true, [.str s2, .int .i64 i3, .int .i64 i4, .bool b5, .int .i64 i6, .int .i64 i7, .int .i64 i8, .int .i64 i9, .int .i64 i10, .int .i64 i11], 0, 0⟩, Ob.none, Ob.none, ⟨true, [.str s12, .int .i64 i13, .int .i64 i14, .bool b15, .int .i64 i16, .int .i64 i17, .int .i64 i18, .int .i64 i19, .int .i64 i20, .int .i64 i21], 0, 0⟩] ++ List.replicate 86 Ob.none⟩
noncomputable def ga124_1 (n : Nat) (ks : List Nat) (k : Nat) (st : St) : Option (ByteArray × Int × Int × Bool × Int × Int × Int × Int × Int × Int × Unit) := goAt tab (G124 n) n (bodyOf Tryz.f124) (lvOf Tryz.f124) (lvOf Tryz.f124).ret [1, 1, 1, 1, 0, 1, 0, 1, 1, 1, 1, 0, 1, 0] ks k st (evBody.endK tab (c124 n) Tryz.f124)
theorem el124_0 (n : Nat) : ∀ (k : Nat), ∀ (l0 : List Int) (i1 : Int) (s2 : ByteArray) (i3 : Int) (i4 : Int) (b5 : Bool) (i6 : Int) (i7 : Int) (i8 : Int) (i9 : Int) (i10 : Int) (i11 : Int) (s12 : ByteArray) (i13 : Int) (i14 : Int) (b15 : Bool) (i16 : Int) (i17 : Int) (i18 : Int) (i19 : Int) (i20 : Int) (i21 : Int), ga124_0 n [] k (S124_0 l0 i1 s2 i3 i4 b5 i6 i7 i8 i9 i10 i11 s12 i13 i14 b15 i16 i17 i18 i19 i20 i21) = lp124_0 n k l0 i1 s2 i3 i4 b5 i6 i7 i8 i9 i10 i11 s12 i13 i14 b15 i16 i17 i18 i19 i20 i21 := by
  intro k
  induction k with
  | zero => intros; rfl
  | succ k ih =>
    intro l0 i1 s2 i3 i4 b5 i6 i7 i8 i9 i10 i11 s12 i13 i14 b15 i16 i17 i18 i19 i20 i21
    have h : ga124_0 n [] (k + 1) (S124_0 l0 i1 s2 i3 i4 b5 i6 i7 i8 i9 i10 i11 s12 i13 i14 b15 i16 i17 i18 i19 i20 i21) = st124_0 n (fun w0 w1 w2 w3 w4 w5 w6 w7 w8 w9 w10 w11 w12 w13 w14 w15 w16 w17 w18 w19 w20 w21 => ga124_0 n [] k (S124_0 w0 w1 w2 w3 w4 w5 w6 w7 w8 w9 w10 w11 w12 w13 w14 w15 w16 w17 w18 w19 w20 w21)) l0 i1 s2 i3 i4 b5 i6 i7 i8 i9 i10 i11 s12 i13 i14 b15 i16 i17 i18 i19 i20 i21 := by kernel_rfl
    rw [h]
    have e : (fun w0 w1 w2 w3 w4 w5 w6 w7 w8 w9 w10 w11 w12 w13 w14 w15 w16 w17 w18 w19 w20 w21 => ga124_0 n [] k (S124_0 w0 w1 w2 w3 w4 w5 w6 w7 w8 w9 w10 w11 w12 w13 w14 w15 w16 w17 w18 w19 w20 w21)) = lp124_0 n k := by
      funext w0 w1 w2 w3 w4 w5 w6 w7 w8 w9 w10 w11 w12 w13 w14 w15 w16 w17 w18 w19 w20 w21; exact ih w0 w1 w2 w3 w4 w5 w6 w7 w8 w9 w10 w11 w12 w13 w14 w15 w16 w17 w18 w19 w20 w21
    rw [e]
    rfl
theorem el124_1 (n : Nat) : ∀ (k : Nat), ∀ (l0 : List Int) (i1 : Int) (s2 : ByteArray) (i3 : Int) (i4 : Int) (b5 : Bool) (i6 : Int) (i7 : Int) (i8 : Int) (i9 : Int) (i10 : Int) (i11 : Int) (s12 : ByteArray) (i13 : Int) (i14 : Int) (b15 : Bool) (i16 : Int) (i17 : Int) (i18 : Int) (i19 : Int) (i20 : Int) (i21 : Int), ga124_1 n [] k (S124_1 l0 i1 s2 i3 i4 b5 i6 i7 i8 i9 i10 i11 s12 i13 i14 b15 i16 i17 i18 i19 i20 i21) = lp124_1 n k l0 i1 s2 i3 i4 b5 i6 i7 i8 i9 i10 i11 s12 i13 i14 b15 i16 i17 i18 i19 i20 i21 := by
  intro k
  induction k with
  | zero => intros; rfl
  | succ k ih =>
    intro l0 i1 s2 i3 i4 b5 i6 i7 i8 i9 i10 i11 s12 i13 i14 b15 i16 i17 i18 i19 i20 i21
    have h : ga124_1 n [] (k + 1) (S124_1 l0 i1 s2 i3 i4 b5 i6 i7 i8 i9 i10 i11 s12 i13 i14 b15 i16 i17 i18 i19 i20 i21) = st124_1 n (fun w0 w1 w2 w3 w4 w5 w6 w7 w8 w9 w10 w11 w12 w13 w14 w15 w16 w17 w18 w19 w20 w21 => ga124_1 n [] k (S124_1 w0 w1 w2 w3 w4 w5 w6 w7 w8 w9 w10 w11 w12 w13 w14 w15 w16 w17 w18 w19 w20 w21)) l0 i1 s2 i3 i4 b5 i6 i7 i8 i9 i10 i11 s12 i13 i14 b15 i16 i17 i18 i19 i20 i21 := by kernel_rfl
    rw [h]
    have e : (fun w0 w1 w2 w3 w4 w5 w6 w7 w8 w9 w10 w11 w12 w13 w14 w15 w16 w17 w18 w19 w20 w21 => ga124_1 n [] k (S124_1 w0 w1 w2 w3 w4 w5 w6 w7 w8 w9 w10 w11 w12 w13 w14 w15 w16 w17 w18 w19 w20 w21)) = lp124_1 n k := by
      funext w0 w1 w2 w3 w4 w5 w6 w7 w8 w9 w10 w11 w12 w13 w14 w15 w16 w17 w18 w19 w20 w21; exact ih w0 w1 w2 w3 w4 w5 w6 w7 w8 w9 w10 w11 w12 w13 w14 w15 w16 w17 w18 w19 w20 w21
    rw [e]
    rfl
theorem e124 (n : Nat) (x : Int × List Int × Unit) : evBody tab (G124 n) n (c124 n) Tryz.f124 x = F124 n x.1 x.2.1 := by
  have h : evBody tab (G124 n) n (c124 n) Tryz.f124 x = st124 n (fun w0 w1 w2 w3 w4 w5 w6 w7 w8 w9 w10 w11 w12 w13 w14 w15 w16 w17 w18 w19 w20 w21 => ga124_0 n [] n (S124_0 w0 w1 w2 w3 w4 w5 w6 w7 w8 w9 w10 w11 w12 w13 w14 w15 w16 w17 w18 w19 w20 w21)) (fun w0 w1 w2 w3 w4 w5 w6 w7 w8 w9 w10 w11 w12 w13 w14 w15 w16 w17 w18 w19 w20 w21 => ga124_1 n [] n (S124_1 w0 w1 w2 w3 w4 w5 w6 w7 w8 w9 w10 w11 w12 w13 w14 w15 w16 w17 w18 w19 w20 w21)) x.1 x.2.1 := by kernel_rfl
  rw [h]
  have e0 : (fun w0 w1 w2 w3 w4 w5 w6 w7 w8 w9 w10 w11 w12 w13 w14 w15 w16 w17 w18 w19 w20 w21 => ga124_0 n [] n (S124_0 w0 w1 w2 w3 w4 w5 w6 w7 w8 w9 w10 w11 w12 w13 w14 w15 w16 w17 w18 w19 w20 w21)) = lp124_0 n n := by
    funext w0 w1 w2 w3 w4 w5 w6 w7 w8 w9 w10 w11 w12 w13 w14 w15 w16 w17 w18 w19 w20 w21; exact el124_0 n n w0 w1 w2 w3 w4 w5 w6 w7 w8 w9 w10 w11 w12 w13 w14 w15 w16 w17 w18 w19 w20 w21
  have e1 : (fun w0 w1 w2 w3 w4 w5 w6 w7 w8 w9 w10 w11 w12 w13 w14 w15 w16 w17 w18 w19 w20 w21 => ga124_1 n [] n (S124_1 w0 w1 w2 w3 w4 w5 w6 w7 w8 w9 w10 w11 w12 w13 w14 w15 w16 w17 w18 w19 w20 w21)) = lp124_1 n n := by
    funext w0 w1 w2 w3 w4 w5 w6 w7 w8 w9 w10 w11 w12 w13 w14 w15 w16 w17 w18 w19 w20 w21; exact el124_1 n n w0 w1 w2 w3 w4 w5 w6 w7 w8 w9 w10 w11 w12 w13 w14 w15 w16 w17 w18 w19 w20 w21
  rw [e0, e1]
  rfl
theorem g124 (W : World) (n : Nat) : Good Tryz.prog W 124 (c124 n) := body_good follows tabOk (GamOk.cons (g87 W n) (GamOk.cons (g88 W n) (GamOk.cons (g109 W n) (GamOk.cons (g133 W n) GamOk.nil)))) (f := 124) (fn := Tryz.f124) (c := bodyOf Tryz.f124) (by kernel_rfl) (by kernel_rfl) (by kernel_rfl) (by kernel_rfl) (by kernel_rfl) (by kernel_rfl) (by kernel_rfl) (fun x r h => ⟨n, (e124 n x).trans h⟩)
/-! spec.l8Raw -/
noncomputable def F125 (n : Nat) (a0 : List Int) (a1 : Int) (a2 : Int) : Option (List Int × Unit) :=
  (F123 n a1 a2).bind fun r1 =>
  if (decide (0 ≤ r1.1)) = true then
  if (decide (r1.1 ≤ (wrap64 (r1.1 + 8)))) = true then
  if (decide ((wrap64 (r1.1 + 8)) ≤ (a0.length : Int))) = true then
  some ((cutL a0 r1.1 (wrap64 (r1.1 + 8))), ())
  else none
  else none
  else none
noncomputable def c125 (n : Nat) : Con := ⟨[.one (.sl (.imm false) 3 (.int .i64)), .one (.int .i64), .one (.int .i64)], [], [.one (.sl (.imm false) 3 (.int .i64))], [], fun (x : List Int × Int × Int × Unit) => F125 n x.1 x.2.1 x.2.2.1⟩
noncomputable def G125 (n : Nat) : Gam := [((123, []), c123 n)]
theorem e125 (n : Nat) (x : List Int × Int × Int × Unit) : evBody tab (G125 n) n (c125 n) Tryz.f125 x = F125 n x.1 x.2.1 x.2.2.1 := by kernel_rfl
theorem g125 (W : World) (n : Nat) : Good Tryz.prog W 125 (c125 n) := body_good follows tabOk (GamOk.cons (g123 W n) GamOk.nil) (f := 125) (fn := Tryz.f125) (c := bodyOf Tryz.f125) (by kernel_rfl) (by kernel_rfl) (by kernel_rfl) (by kernel_rfl) (by kernel_rfl) (by kernel_rfl) (by kernel_rfl) (fun x r h => ⟨n, (e125 n x).trans h⟩)
/-! spec.RowIn -/
noncomputable def F103 (n : Nat) (a0 : List Int) (a1 : Int) (a2 : Int) : Option (ByteArray × Int × Int × Bool × Int × Int × Int × Int × Int × Int × Unit) :=
  (F8 n a0).bind fun r1 =>
  if (!r1.1) = true then
    some ((⟨#[]⟩ : ByteArray), 0, 0, false, 0, 0, 0, 0, 0, 0, ())
  else
    (F123 n a1 a2).bind fun r2 =>
    if (decide (r2.1 < 0)) = true then
      some ((⟨#[]⟩ : ByteArray), 0, 0, false, 0, 0, 0, 0, 0, 0, ())
    else
      (F89 n a2).bind fun r3 =>
      if (decide (0 ≤ r3.1)) = true then
      if (decide (r3.1 < (a0.length : Int))) = true then
      (F125 n a0 a1 a2).bind fun r4 =>
      (F124 n (rdOf (0 : Int) a0 r3.1) r4.1).bind fun r5 =>
      some (r5.1, r5.2.1, r5.2.2.1, r5.2.2.2.1, r5.2.2.2.2.1, r5.2.2.2.2.2.1, r5.2.2.2.2.2.2.1, r5.2.2.2.2.2.2.2.1, r5.2.2.2.2.2.2.2.2.1, r5.2.2.2.2.2.2.2.2.2.1, ())
      else none
      else none
noncomputable def c103 (n : Nat) : Con := ⟨[.one (.sl (.imm false) 3 (.int .i64)), .one (.int .i64), .one (.int .i64)], [], [.agg [(.str), (.int .i64), (.int .i64), (.bool), (.int .i64), (.int .i64), (.int .i64), (.int .i64), (.int .i64), (.int .i64)]], [], fun (x : List Int × Int × Int × Unit) => F103 n x.1 x.2.1 x.2.2.1⟩
noncomputable def G103 (n : Nat) : Gam := [((8, []), c8 n), ((89, []), c89 n), ((123, []), c123 n), ((124, []), c124 n), ((125, []), c125 n)]
theorem e103 (n : Nat) (x : List Int × Int × Int × Unit) : evBody tab (G103 n) n (c103 n) Tryz.f103 x = F103 n x.1 x.2.1 x.2.2.1 := by kernel_rfl
theorem g103 (W : World) (n : Nat) : Good Tryz.prog W 103 (c103 n) := body_good follows tabOk (GamOk.cons (g8 W n) (GamOk.cons (g89 W n) (GamOk.cons (g123 W n) (GamOk.cons (g124 W n) (GamOk.cons (g125 W n) GamOk.nil))))) (f := 103) (fn := Tryz.f103) (c := bodyOf Tryz.f103) (by kernel_rfl) (by kernel_rfl) (by kernel_rfl) (by kernel_rfl) (by kernel_rfl) (by kernel_rfl) (by kernel_rfl) (fun x r h => ⟨n, (e103 n x).trans h⟩)
/-! spec.Quiet -/
noncomputable def F104 (n : Nat) (a0 : ByteArray) (a1 : Int) (a2 : Int) (a3 : Bool) (a4 : Int) (a5 : Int) (a6 : Int) (a7 : Int) (a8 : Int) (a9 : Int) : Option (Bool × Unit) :=
  if (decide (a2 = 0)) = true then
    if (!a3) = true then
      some (decide (a5 = 0), ())
    else
      some (false, ())
  else
    some (false, ())
noncomputable def c104 (n : Nat) : Con := ⟨[.agg [(.str), (.int .i64), (.int .i64), (.bool), (.int .i64), (.int .i64), (.int .i64), (.int .i64), (.int .i64), (.int .i64)]], [], [.one (.bool)], [], fun (x : ByteArray × Int × Int × Bool × Int × Int × Int × Int × Int × Int × Unit) => F104 n x.1 x.2.1 x.2.2.1 x.2.2.2.1 x.2.2.2.2.1 x.2.2.2.2.2.1 x.2.2.2.2.2.2.1 x.2.2.2.2.2.2.2.1 x.2.2.2.2.2.2.2.2.1 x.2.2.2.2.2.2.2.2.2.1⟩
noncomputable def G104 (n : Nat) : Gam := []
theorem e104 (n : Nat) (x : ByteArray × Int × Int × Bool × Int × Int × Int × Int × Int × Int × Unit) : evBody tab (G104 n) n (c104 n) Tryz.f104 x = F104 n x.1 x.2.1 x.2.2.1 x.2.2.2.1 x.2.2.2.2.1 x.2.2.2.2.2.1 x.2.2.2.2.2.2.1 x.2.2.2.2.2.2.2.1 x.2.2.2.2.2.2.2.2.1 x.2.2.2.2.2.2.2.2.2.1 := by kernel_rfl
theorem g104 (W : World) (n : Nat) : Good Tryz.prog W 104 (c104 n) := body_good follows tabOk GamOk.nil (f := 104) (fn := Tryz.f104) (c := bodyOf Tryz.f104) (by kernel_rfl) (by kernel_rfl) (by kernel_rfl) (by kernel_rfl) (by kernel_rfl) (by kernel_rfl) (by kernel_rfl) (fun x r h => ⟨n, (e104 n x).trans h⟩)
/-! spec.l8Put -/
noncomputable def j105_0 (n : Nat) (g0 : Bool → Int → (List (ByteArray × (Int × (Int × (Bool × (Int × (Int × (Int × (Int × (Int × Int)))))))))) → ByteArray → Int → Int → Bool → Int → Int → Int → Int → Int → Int → (List (ByteArray × (Int × (Int × (Bool × (Int × (Int × (Int × (Int × (Int × Int)))))))))) → Option (List (ByteArray × (Int × (Int × (Bool × (Int × (Int × (Int × (Int × (Int × Int))))))))) × Unit)) (b0 : Bool) (i1 : Int) (l2 : List (ByteArray × (Int × (Int × (Bool × (Int × (Int × (Int × (Int × (Int × Int)))))))))) (s3 : ByteArray) (i4 : Int) (i5 : Int) (b6 : Bool) (i7 : Int) (i8 : Int) (i9 : Int) (i10 : Int) (i11 : Int) (i12 : Int) (l13 : List (ByteArray × (Int × (Int × (Bool × (Int × (Int × (Int × (Int × (Int × Int)))))))))) : Option (List (ByteArray × (Int × (Int × (Bool × (Int × (Int × (Int × (Int × (Int × Int))))))))) × Unit) :=
  if (decide (0 ≤ i1)) = true then
  if (decide (i1 < (l2.length : Int))) = true then
  if (decide ((l13.length + ([((rdOf ((⟨#[]⟩ : ByteArray), ((0 : Int), ((0 : Int), (false, ((0 : Int), ((0 : Int), ((0 : Int), ((0 : Int), ((0 : Int), (0 : Int)))))))))) l2 i1).1, (((rdOf ((⟨#[]⟩ : ByteArray), ((0 : Int), ((0 : Int), (false, ((0 : Int), ((0 : Int), ((0 : Int), ((0 : Int), ((0 : Int), (0 : Int)))))))))) l2 i1).2).1, ((((rdOf ((⟨#[]⟩ : ByteArray), ((0 : Int), ((0 : Int), (false, ((0 : Int), ((0 : Int), ((0 : Int), ((0 : Int), ((0 : Int), (0 : Int)))))))))) l2 i1).2).2).1, (((((rdOf ((⟨#[]⟩ : ByteArray), ((0 : Int), ((0 : Int), (false, ((0 : Int), ((0 : Int), ((0 : Int), ((0 : Int), ((0 : Int), (0 : Int)))))))))) l2 i1).2).2).2).1, ((((((rdOf ((⟨#[]⟩ : ByteArray), ((0 : Int), ((0 : Int), (false, ((0 : Int), ((0 : Int), ((0 : Int), ((0 : Int), ((0 : Int), (0 : Int)))))))))) l2 i1).2).2).2).2).1, (((((((rdOf ((⟨#[]⟩ : ByteArray), ((0 : Int), ((0 : Int), (false, ((0 : Int), ((0 : Int), ((0 : Int), ((0 : Int), ((0 : Int), (0 : Int)))))))))) l2 i1).2).2).2).2).2).1, ((((((((rdOf ((⟨#[]⟩ : ByteArray), ((0 : Int), ((0 : Int), (false, ((0 : Int), ((0 : Int), ((0 : Int), ((0 : Int), ((0 : Int), (0 : Int)))))))))) l2 i1).2).2).2).2).2).2).1, (((((((((rdOf ((⟨#[]⟩ : ByteArray), ((0 : Int), ((0 : Int), (false, ((0 : Int), ((0 : Int), ((0 : Int), ((0 : Int), ((0 : Int), (0 : Int)))))))))) l2 i1).2).2).2).2).2).2).2).1, ((((((((((rdOf ((⟨#[]⟩ : ByteArray), ((0 : Int), ((0 : Int), (false, ((0 : Int), ((0 : Int), ((0 : Int), ((0 : Int), ((0 : Int), (0 : Int)))))))))) l2 i1).2).2).2).2).2).2).2).2).1, (((((((((rdOf ((⟨#[]⟩ : ByteArray), ((0 : Int), ((0 : Int), (false, ((0 : Int), ((0 : Int), ((0 : Int), ((0 : Int), ((0 : Int), (0 : Int)))))))))) l2 i1).2).2).2).2).2).2).2).2).2)))))))))] : List (ByteArray × (Int × (Int × (Bool × (Int × (Int × (Int × (Int × (Int × Int)))))))))).length) * 88 ≤ 140737488355328)) = true then
  g0 b0 (wrap64 (i1 + 1)) l2 s3 i4 i5 b6 i7 i8 i9 i10 i11 i12 (l13 ++ ([((rdOf ((⟨#[]⟩ : ByteArray), ((0 : Int), ((0 : Int), (false, ((0 : Int), ((0 : Int), ((0 : Int), ((0 : Int), ((0 : Int), (0 : Int)))))))))) l2 i1).1, (((rdOf ((⟨#[]⟩ : ByteArray), ((0 : Int), ((0 : Int), (false, ((0 : Int), ((0 : Int), ((0 : Int), ((0 : Int), ((0 : Int), (0 : Int)))))))))) l2 i1).2).1, ((((rdOf ((⟨#[]⟩ : ByteArray), ((0 : Int), ((0 : Int), (false, ((0 : Int), ((0 : Int), ((0 : Int), ((0 : Int), ((0 : Int), (0 : Int)))))))))) l2 i1).2).2).1, (((((rdOf ((⟨#[]⟩ : ByteArray), ((0 : Int), ((0 : Int), (false, ((0 : Int), ((0 : Int), ((0 : Int), ((0 : Int), ((0 : Int), (0 : Int)))))))))) l2 i1).2).2).2).1, ((((((rdOf ((⟨#[]⟩ : ByteArray), ((0 : Int), ((0 : Int), (false, ((0 : Int), ((0 : Int), ((0 : Int), ((0 : Int), ((0 : Int), (0 : Int)))))))))) l2 i1).2).2).2).2).1, (((((((rdOf ((⟨#[]⟩ : ByteArray), ((0 : Int), ((0 : Int), (false, ((0 : Int), ((0 : Int), ((0 : Int), ((0 : Int), ((0 : Int), (0 : Int)))))))))) l2 i1).2).2).2).2).2).1, ((((((((rdOf ((⟨#[]⟩ : ByteArray), ((0 : Int), ((0 : Int), (false, ((0 : Int), ((0 : Int), ((0 : Int), ((0 : Int), ((0 : Int), (0 : Int)))))))))) l2 i1).2).2).2).2).2).2).1, (((((((((rdOf ((⟨#[]⟩ : ByteArray), ((0 : Int), ((0 : Int), (false, ((0 : Int), ((0 : Int), ((0 : Int), ((0 : Int), ((0 : Int), (0 : Int)))))))))) l2 i1).2).2).2).2).2).2).2).1, ((((((((((rdOf ((⟨#[]⟩ : ByteArray), ((0 : Int), ((0 : Int), (false, ((0 : Int), ((0 : Int), ((0 : Int), ((0 : Int), ((0 : Int), (0 : Int)))))))))) l2 i1).2).2).2).2).2).2).2).2).1, (((((((((rdOf ((⟨#[]⟩ : ByteArray), ((0 : Int), ((0 : Int), (false, ((0 : Int), ((0 : Int), ((0 : Int), ((0 : Int), ((0 : Int), (0 : Int)))))))))) l2 i1).2).2).2).2).2).2).2).2).2)))))))))] : List (ByteArray × (Int × (Int × (Bool × (Int × (Int × (Int × (Int × (Int × Int)))))))))))
  else none
  else none
  else none
noncomputable def st105_0 (n : Nat) (g0 : Bool → Int → (List (ByteArray × (Int × (Int × (Bool × (Int × (Int × (Int × (Int × (Int × Int)))))))))) → ByteArray → Int → Int → Bool → Int → Int → Int → Int → Int → Int → (List (ByteArray × (Int × (Int × (Bool × (Int × (Int × (Int × (Int × (Int × Int)))))))))) → Option (List (ByteArray × (Int × (Int × (Bool × (Int × (Int × (Int × (Int × (Int × Int))))))))) × Unit)) (b0 : Bool) (i1 : Int) (l2 : List (ByteArray × (Int × (Int × (Bool × (Int × (Int × (Int × (Int × (Int × Int)))))))))) (s3 : ByteArray) (i4 : Int) (i5 : Int) (b6 : Bool) (i7 : Int) (i8 : Int) (i9 : Int) (i10 : Int) (i11 : Int) (i12 : Int) (l13 : List (ByteArray × (Int × (Int × (Bool × (Int × (Int × (Int × (Int × (Int × Int)))))))))) : Option (List (ByteArray × (Int × (Int × (Bool × (Int × (Int × (Int × (Int × (Int × Int))))))))) × Unit) :=
  if (decide (i1 < (l2.length : Int))) = true then
    if (decide (0 ≤ i1)) = true then
    if (decide (i1 < (l2.length : Int))) = true then
    if (decide (((rdOf ((⟨#[]⟩ : ByteArray), ((0 : Int), ((0 : Int), (false, ((0 : Int), ((0 : Int), ((0 : Int), ((0 : Int), ((0 : Int), (0 : Int)))))))))) l2 i1).1).toList = s3.toList)) = true then
      some (l2, ())
    else
      if (!b0) = true then
        if (decide (0 ≤ i1)) = true then
        if (decide (i1 < (l2.length : Int))) = true then
        if (!(Op.bytesLess ((rdOf ((⟨#[]⟩ : ByteArray), ((0 : Int), ((0 : Int), (false, ((0 : Int), ((0 : Int), ((0 : Int), ((0 : Int), ((0 : Int), (0 : Int)))))))))) l2 i1).1).toList s3.toList || decide (((rdOf ((⟨#[]⟩ : ByteArray), ((0 : Int), ((0 : Int), (false, ((0 : Int), ((0 : Int), ((0 : Int), ((0 : Int), ((0 : Int), (0 : Int)))))))))) l2 i1).1).toList = s3.toList))) = true then
          if (decide ((l13.length + ([(s3, (i4, (i5, (b6, (i7, (i8, (i9, (i10, (i11, i12)))))))))] : List (ByteArray × (Int × (Int × (Bool × (Int × (Int × (Int × (Int × (Int × Int)))))))))).length) * 88 ≤ 140737488355328)) = true then
          if (decide (0 ≤ i1)) = true then
          if (decide (i1 < (l2.length : Int))) = true then
          if (decide (((l13 ++ ([(s3, (i4, (i5, (b6, (i7, (i8, (i9, (i10, (i11, i12)))))))))] : List (ByteArray × (Int × (Int × (Bool × (Int × (Int × (Int × (Int × (Int × Int))))))))))).length + ([((rdOf ((⟨#[]⟩ : ByteArray), ((0 : Int), ((0 : Int), (false, ((0 : Int), ((0 : Int), ((0 : Int), ((0 : Int), ((0 : Int), (0 : Int)))))))))) l2 i1).1, (((rdOf ((⟨#[]⟩ : ByteArray), ((0 : Int), ((0 : Int), (false, ((0 : Int), ((0 : Int), ((0 : Int), ((0 : Int), ((0 : Int), (0 : Int)))))))))) l2 i1).2).1, ((((rdOf ((⟨#[]⟩ : ByteArray), ((0 : Int), ((0 : Int), (false, ((0 : Int), ((0 : Int), ((0 : Int), ((0 : Int), ((0 : Int), (0 : Int)))))))))) l2 i1).2).2).1, (((((rdOf ((⟨#[]⟩ : ByteArray), ((0 : Int), ((0 : Int), (false, ((0 : Int), ((0 : Int), ((0 : Int), ((0 : Int), ((0 : Int), (0 : Int)))))))))) l2 i1).2).2).2).1, ((((((rdOf ((⟨#[]⟩ : ByteArray), ((0 : Int), ((0 : Int), (false, ((0 : Int), ((0 : Int), ((0 : Int), ((0 : Int), ((0 : Int), (0 : Int)))))))))) l2 i1).2).2).2).2).1, (((((((rdOf ((⟨#[]⟩ : ByteArray), ((0 : Int), ((0 : Int), (false, ((0 : Int), ((0 : Int), ((0 : Int), ((0 : Int), ((0 : Int), (0 : Int)))))))))) l2 i1).2).2).2).2).2).1, ((((((((rdOf ((⟨#[]⟩ : ByteArray), ((0 : Int), ((0 : Int), (false, ((0 : Int), ((0 : Int), ((0 : Int), ((0 : Int), ((0 : Int), (0 : Int)))))))))) l2 i1).2).2).2).2).2).2).1, (((((((((rdOf ((⟨#[]⟩ : ByteArray), ((0 : Int), ((0 : Int), (false, ((0 : Int), ((0 : Int), ((0 : Int), ((0 : Int), ((0 : Int), (0 : Int)))))))))) l2 i1).2).2).2).2).2).2).2).1, ((((((((((rdOf ((⟨#[]⟩ : ByteArray), ((0 : Int), ((0 : Int), (false, ((0 : Int), ((0 : Int), ((0 : Int), ((0 : Int), ((0 : Int), (0 : Int)))))))))) l2 i1).2).2).2).2).2).2).2).2).1, (((((((((rdOf ((⟨#[]⟩ : ByteArray), ((0 : Int), ((0 : Int), (false, ((0 : Int), ((0 : Int), ((0 : Int), ((0 : Int), ((0 : Int), (0 : Int)))))))))) l2 i1).2).2).2).2).2).2).2).2).2)))))))))] : List (ByteArray × (Int × (Int × (Bool × (Int × (Int × (Int × (Int × (Int × Int)))))))))).length) * 88 ≤ 140737488355328)) = true then
          g0 true (wrap64 (i1 + 1)) l2 s3 i4 i5 b6 i7 i8 i9 i10 i11 i12 ((l13 ++ ([(s3, (i4, (i5, (b6, (i7, (i8, (i9, (i10, (i11, i12)))))))))] : List (ByteArray × (Int × (Int × (Bool × (Int × (Int × (Int × (Int × (Int × Int))))))))))) ++ ([((rdOf ((⟨#[]⟩ : ByteArray), ((0 : Int), ((0 : Int), (false, ((0 : Int), ((0 : Int), ((0 : Int), ((0 : Int), ((0 : Int), (0 : Int)))))))))) l2 i1).1, (((rdOf ((⟨#[]⟩ : ByteArray), ((0 : Int), ((0 : Int), (false, ((0 : Int), ((0 : Int), ((0 : Int), ((0 : Int), ((0 : Int), (0 : Int)))))))))) l2 i1).2).1, ((((rdOf ((⟨#[]⟩ : ByteArray), ((0 : Int), ((0 : Int), (false, ((0 : Int), ((0 : Int), ((0 : Int), ((0 : Int), ((0 : Int), (0 : Int)))))))))) l2 i1).2).2).1, (((((rdOf ((⟨#[]⟩ : ByteArray), ((0 : Int), ((0 : Int), (false, ((0 : Int), ((0 : Int), ((0 : Int), ((0 : Int), ((0 : Int), (0 : Int)))))))))) l2 i1).2).2).2).1, ((((((rdOf ((⟨#[]⟩ : ByteArray), ((0 : Int), ((0 : Int), (false, ((0 : Int), ((0 : Int), ((0 : Int), ((0 : Int), ((0 : Int), (0 : Int)))))))))) l2 i1).2).2).2).2).1, (((((((rdOf ((⟨#[]⟩ : ByteArray), ((0 : Int), ((0 : Int), (false, ((0 : Int), ((0 : Int), ((0 : Int), ((0 : Int), ((0 : Int), (0 : Int)))))))))) l2 i1).2).2).2).2).2).1, ((((((((rdOf ((⟨#[]⟩ : ByteArray), ((0 : Int), ((0 : Int), (false, ((0 : Int), ((0 : Int), ((0 : Int), ((0 : Int), ((0 : Int), (0 : Int)))))))))) l2 i1).2).2).2).2).2).2).1, (((((((((rdOf ((⟨#[]⟩ : ByteArray), ((0 : Int), ((0 : Int), (false, ((0 : Int), ((0 : Int), ((0 : Int), ((0 : Int), ((0 : Int), (0 : Int)))))))))) l2 i1).2).2).2).2).2).2).2).1, ((((((((((rdOf ((⟨#[]⟩ : ByteArray), ((0 : Int), ((0 : Int), (false, ((0 : Int), ((0 : Int), ((0 : Int), ((0 : Int), ((0 : Int), (0 : Int)))))))))) l2 i1).2).2).2).2).2).2).2).2).1, (((((((((rdOf ((⟨#[]⟩ : ByteArray), ((0 : Int), ((0 : Int), (false, ((0 : Int), ((0 : Int), ((0 : Int), ((0 : Int), ((0 : Int), (0 : Int)))))))))) l2 i1).2).2).2).2).2).2).2).2).2)))))))))] : List (ByteArray × (Int × (Int × (Bool × (Int × (Int × (Int × (Int × (Int × Int)))))))))))
          else none
          else none
          else none
          else none
        else
          j105_0 n g0 b0 i1 l2 s3 i4 i5 b6 i7 i8 i9 i10 i11 i12 l13
        else none
        else none
      else
        j105_0 n g0 b0 i1 l2 s3 i4 i5 b6 i7 i8 i9 i10 i11 i12 l13
    else none
    else none
  else
    if (!b0) = true then
      if (decide ((l13.length + ([(s3, (i4, (i5, (b6, (i7, (i8, (i9, (i10, (i11, i12)))))))))] : List (ByteArray × (Int × (Int × (Bool × (Int × (Int × (Int × (Int × (Int × Int)))))))))).length) * 88 ≤ 140737488355328)) = true then
      some ((l13 ++ ([(s3, (i4, (i5, (b6, (i7, (i8, (i9, (i10, (i11, i12)))))))))] : List (ByteArray × (Int × (Int × (Bool × (Int × (Int × (Int × (Int × (Int × Int))))))))))), ())
      else none
    else
      some (l13, ())
noncomputable def lp105_0 (n : Nat) : Nat → Bool → Int → (List (ByteArray × (Int × (Int × (Bool × (Int × (Int × (Int × (Int × (Int × Int)))))))))) → ByteArray → Int → Int → Bool → Int → Int → Int → Int → Int → Int → (List (ByteArray × (Int × (Int × (Bool × (Int × (Int × (Int × (Int × (Int × Int)))))))))) → Option (List (ByteArray × (Int × (Int × (Bool × (Int × (Int × (Int × (Int × (Int × Int))))))))) × Unit)
  | 0 => fun _ _ _ _ _ _ _ _ _ _ _ _ _ _ => none
  | k + 1 => st105_0 n (lp105_0 n k)
noncomputable def st105 (n : Nat) (h0 : Bool → Int → (List (ByteArray × (Int × (Int × (Bool × (Int × (Int × (Int × (Int × (Int × Int)))))))))) → ByteArray → Int → Int → Bool → Int → Int → Int → Int → Int → Int → (List (ByteArray × (Int × (Int × (Bool × (Int × (Int × (Int × (Int × (Int × Int)))))))))) → Option (List (ByteArray × (Int × (Int × (Bool × (Int × (Int × (Int × (Int × (Int × Int))))))))) × Unit)) (a0 : List (ByteArray × (Int × (Int × (Bool × (Int × (Int × (Int × (Int × (Int × Int)))))))))) (a1 : ByteArray) (a2 : Int) (a3 : Int) (a4 : Bool) (a5 : Int) (a6 : Int) (a7 : Int) (a8 : Int) (a9 : Int) (a10 : Int) : Option (List (ByteArray × (Int × (Int × (Bool × (Int × (Int × (Int × (Int × (Int × Int))))))))) × Unit) :=
  h0 false (0 : Int) a0 a1 a2 a3 a4 a5 a6 a7 a8 a9 a10 ([] : List (ByteArray × (Int × (Int × (Bool × (Int × (Int × (Int × (Int × (Int × Int))))))))))
noncomputable def F105 (n : Nat) (a0 : List (ByteArray × (Int × (Int × (Bool × (Int × (Int × (Int × (Int × (Int × Int)))))))))) (a1 : ByteArray) (a2 : Int) (a3 : Int) (a4 : Bool) (a5 : Int) (a6 : Int) (a7 : Int) (a8 : Int) (a9 : Int) (a10 : Int) : Option (List (ByteArray × (Int × (Int × (Bool × (Int × (Int × (Int × (Int × (Int × Int))))))))) × Unit) := st105 n (lp105_0 n n) a0 a1 a2 a3 a4 a5 a6 a7 a8 a9 a10
noncomputable def c105 (n : Nat) : Con := ⟨[.one (.sl .own 111 (.pair .str (.pair (.int .i64) (.pair (.int .i64) (.pair .bool (.pair (.int .i64) (.pair (.int .i64) (.pair (.int .i64) (.pair (.int .i64) (.pair (.int .i64) (.int .i64))))))))))), .agg [(.str), (.int .i64), (.int .i64), (.bool), (.int .i64), (.int .i64), (.int .i64), (.int .i64), (.int .i64), (.int .i64)]], [], [.one (.sl .own 111 (.pair .str (.pair (.int .i64) (.pair (.int .i64) (.pair .bool (.pair (.int .i64) (.pair (.int .i64) (.pair (.int .i64) (.pair (.int .i64) (.pair (.int .i64) (.int .i64)))))))))))], [], fun (x : List (ByteArray × (Int × (Int × (Bool × (Int × (Int × (Int × (Int × (Int × Int))))))))) × ByteArray × Int × Int × Bool × Int × Int × Int × Int × Int × Int × Unit) => F105 n x.1 x.2.1 x.2.2.1 x.2.2.2.1 x.2.2.2.2.1 x.2.2.2.2.2.1 x.2.2.2.2.2.2.1 x.2.2.2.2.2.2.2.1 x.2.2.2.2.2.2.2.2.1 x.2.2.2.2.2.2.2.2.2.1 x.2.2.2.2.2.2.2.2.2.2.1⟩
noncomputable def G105 (n : Nat) : Gam := []
noncomputable def S105_0 (b0 : Bool) (i1 : Int) (l2 : List (ByteArray × (Int × (Int × (Bool × (Int × (Int × (Int × (Int × (Int × Int)))))))))) (s3 : ByteArray) (i4 : Int) (i5 : Int) (b6 : Bool) (i7 : Int) (i8 : Int) (i9 : Int) (i10 : Int) (i11 : Int) (i12 : Int) (l13 : List (ByteArray × (Int × (Int × (Bool × (Int × (Int × (Int × (Int × (Int × Int)))))))))) : St := ⟨[.sr 0 0 none 0 0 none, .dead, .dead, .ptr 3 0, .dead, .sr 5 0 none 0 0 none, .bool b0, .int .i64 i1] ++ List.replicate 46 .dead, [⟨false, [.sl .own 111 (.pair .str (.pair (.int .i64) (.pair (.int .i64) (.pair .bool (.pair (.int .i64) (.pair (.int .i64) (.pair (.int .i64) (.pair (.int .i64) (.pair (.int .i64) (.int .i64)))))))))) l2], 0, 0⟩, Ob.none, Ob.none, ⟨true, [.str s3, .int .i64 i4, .int .i64 i5, .bool b6, .int .i64 i7, .int .i64 i8, .int .i64 i9, .int .i64 i10, .int .i64 i11, .int .i64 i12], 0, 0⟩, Ob.none, ⟨false, [.sl .own 111 (.pair .str (.pair (.int .i64) (.pair (.int .i64) (.pair .bool (.pair (.int .i64) (.pair (.int .i64) (.pair (.int .i64) (.pair (.int .i64) (.pair (.int .i64) (.int .i64)))))))))) l13], 0, 0⟩] ++ List.replicate 48 Ob.none⟩
noncomputable def ga105_0 (n : Nat) (ks : List Nat) (k : Nat) (st : St) : Option (List (ByteArray × (Int × (Int × (Bool × (Int × (Int × (Int × (Int × (Int × Int))))))))) × Unit) := goAt tab (G105 n) n (bodyOf Tryz.f105) (lvOf Tryz.f105) (lvOf Tryz.f105).ret [1, 1, 1, 0, 1, 0] ks k st (evBody.endK tab (c105 n) Tryz.f105)
theorem el105_0 (n : Nat) : ∀ (k : Nat), ∀ (b0 : Bool) (i1 : Int) (l2 : List (ByteArray × (Int × (Int × (Bool × (Int × (Int × (Int × (Int × (Int × Int)))))))))) (s3 : ByteArray) (i4 : Int) (i5 : Int) (b6 : Bool) (i7 : Int) (i8 : Int) (i9 : Int) (i10 : Int) (i11 : Int) (i12 : Int) (l13 : List (ByteArray × (Int × (Int × (Bool × (Int × (Int × (Int × (Int × (Int × Int)))))))))), ga105_0 n [] k (S105_0 b0 i1 l2 s3 i4 i5 b6 i7 i8 i9 i10 i11 i12 l13) = lp105_0 n k b0 i1 l2 s3 i4 i5 b6 i7 i8 i9 i10 i11 i12 l13 := by
  intro k
  induction k with
  | zero => intros; rfl
  | succ k ih =>
    intro b0 i1 l2 s3 i4 i5 b6 i7 i8 i9 i10 i11 i12 l13
    have h : ga105_0 n [] (k + 1) (S105_0 b0 i1 l2 s3 i4 i5 b6 i7 i8 i9 i10 i11 i12 l13) = st105_0 n (fun w0 w1 w2 w3 w4 w5 w6 w7 w8 w9 w10 w11 w12 w13 => ga105_0 n [] k (S105_0 w0 w1 w2 w3 w4 w5 w6 w7 w8 w9 w10 w11 w12 w13)) b0 i1 l2 s3 i4 i5 b6 i7 i8 i9 i10 i11 i12 l13 := by kernel_rfl
    rw [h]
    have e : (fun w0 w1 w2 w3 w4 w5 w6 w7 w8 w9 w10 w11 w12 w13 => ga105_0 n [] k (S105_0 w0 w1 w2 w3 w4 w5 w6 w7 w8 w9 w10 w11 w12 w13)) = lp105_0 n k := by
      funext w0 w1 w2 w3 w4 w5 w6 w7 w8 w9 w10 w11 w12 w13; exact ih w0 w1 w2 w3 w4 w5 w6 w7 w8 w9 w10 w11 w12 w13
    rw [e]
    rfl
theorem e105 (n : Nat) (x : List (ByteArray × (Int × (Int × (Bool × (Int × (Int × (Int × (Int × (Int × Int))))))))) × ByteArray × Int × Int × Bool × Int × Int × Int × Int × Int × Int × Unit) : evBody tab (G105 n) n (c105 n) Tryz.f105 x = F105 n x.1 x.2.1 x.2.2.1 x.2.2.2.1 x.2.2.2.2.1 x.2.2.2.2.2.1 x.2.2.2.2.2.2.1 x.2.2.2.2.2.2.2.1 x.2.2.2.2.2.2.2.2.1 x.2.2.2.2.2.2.2.2.2.1 x.2.2.2.2.2.2.2.2.2.2.1 := by
  have h : evBody tab (G105 n) n (c105 n) Tryz.f105 x = st105 n (fun w0 w1 w2 w3 w4 w5 w6 w7 w8 w9 w10 w11 w12 w13 => ga105_0 n [] n (S105_0 w0 w1 w2 w3 w4 w5 w6 w7 w8 w9 w10 w11 w12 w13)) x.1 x.2.1 x.2.2.1 x.2.2.2.1 x.2.2.2.2.1 x.2.2.2.2.2.1 x.2.2.2.2.2.2.1 x.2.2.2.2.2.2.2.1 x.2.2.2.2.2.2.2.2.1 x.2.2.2.2.2.2.2.2.2.1 x.2.2.2.2.2.2.2.2.2.2.1 := by kernel_rfl
  rw [h]
  have e0 : (fun w0 w1 w2 w3 w4 w5 w6 w7 w8 w9 w10 w11 w12 w13 => ga105_0 n [] n (S105_0 w0 w1 w2 w3 w4 w5 w6 w7 w8 w9 w10 w11 w12 w13)) = lp105_0 n n := by
    funext w0 w1 w2 w3 w4 w5 w6 w7 w8 w9 w10 w11 w12 w13; exact el105_0 n n w0 w1 w2 w3 w4 w5 w6 w7 w8 w9 w10 w11 w12 w13
  rw [e0]
  rfl
theorem g105 (W : World) (n : Nat) : Good Tryz.prog W 105 (c105 n) := body_good follows tabOk GamOk.nil (f := 105) (fn := Tryz.f105) (c := bodyOf Tryz.f105) (by kernel_rfl) (by kernel_rfl) (by kernel_rfl) (by kernel_rfl) (by kernel_rfl) (by kernel_rfl) (by kernel_rfl) (fun x r h => ⟨n, (e105 n x).trans h⟩)
/-! spec.ReportIn -/
noncomputable def st85_0 (n : Nat) (g0 : (List Int) → Int → Int → (List (ByteArray × (Int × (Int × (Bool × (Int × (Int × (Int × (Int × (Int × Int)))))))))) → Option (List (ByteArray × (Int × (Int × (Bool × (Int × (Int × (Int × (Int × (Int × Int))))))))) × Unit)) (l0 : List Int) (i1 : Int) (i2 : Int) (l3 : List (ByteArray × (Int × (Int × (Bool × (Int × (Int × (Int × (Int × (Int × Int)))))))))) : Option (List (ByteArray × (Int × (Int × (Bool × (Int × (Int × (Int × (Int × (Int × Int))))))))) × Unit) :=
  if (decide (i2 < 4)) = true then
    (F103 n l0 i1 i2).bind fun r3 =>
    if (decide (r3.2.1 ≠ 0)) = true then
      (F104 n r3.1 r3.2.1 r3.2.2.1 r3.2.2.2.1 r3.2.2.2.2.1 r3.2.2.2.2.2.1 r3.2.2.2.2.2.2.1 r3.2.2.2.2.2.2.2.1 r3.2.2.2.2.2.2.2.2.1 r3.2.2.2.2.2.2.2.2.2.1).bind fun r4 =>
      if (!r4.1) = true then
        (F105 n l3 r3.1 r3.2.1 r3.2.2.1 r3.2.2.2.1 r3.2.2.2.2.1 r3.2.2.2.2.2.1 r3.2.2.2.2.2.2.1 r3.2.2.2.2.2.2.2.1 r3.2.2.2.2.2.2.2.2.1 r3.2.2.2.2.2.2.2.2.2.1).bind fun r5 =>
        g0 l0 i1 (wrap64 (i2 + 1)) r5.1
      else
        g0 l0 i1 (wrap64 (i2 + 1)) l3
    else
      g0 l0 i1 (wrap64 (i2 + 1)) l3
  else
    some (l3, ())
noncomputable def lp85_0 (n : Nat) : Nat → (List Int) → Int → Int → (List (ByteArray × (Int × (Int × (Bool × (Int × (Int × (Int × (Int × (Int × Int)))))))))) → Option (List (ByteArray × (Int × (Int × (Bool × (Int × (Int × (Int × (Int × (Int × Int))))))))) × Unit)
  | 0 => fun _ _ _ _ => none
  | k + 1 => st85_0 n (lp85_0 n k)
noncomputable def st85 (n : Nat) (h0 : (List Int) → Int → Int → (List (ByteArray × (Int × (Int × (Bool × (Int × (Int × (Int × (Int × (Int × Int)))))))))) → Option (List (ByteArray × (Int × (Int × (Bool × (Int × (Int × (Int × (Int × (Int × Int))))))))) × Unit)) (a0 : List Int) (a1 : Int) : Option (List (ByteArray × (Int × (Int × (Bool × (Int × (Int × (Int × (Int × (Int × Int))))))))) × Unit) :=
  (F8 n a0).bind fun r1 =>
  if (!r1.1) = true then
    some (([] : List (ByteArray × (Int × (Int × (Bool × (Int × (Int × (Int × (Int × (Int × Int)))))))))), ())
  else
    (F102 n a1).bind fun r2 =>
    if (decide (r2.1 < 0)) = true then
      some (([] : List (ByteArray × (Int × (Int × (Bool × (Int × (Int × (Int × (Int × (Int × Int)))))))))), ())
    else
      h0 a0 a1 (0 : Int) ([] : List (ByteArray × (Int × (Int × (Bool × (Int × (Int × (Int × (Int × (Int × Int))))))))))
noncomputable def F85 (n : Nat) (a0 : List Int) (a1 : Int) : Option (List (ByteArray × (Int × (Int × (Bool × (Int × (Int × (Int × (Int × (Int × Int))))))))) × Unit) := st85 n (lp85_0 n n) a0 a1
noncomputable def c85 (n : Nat) : Con := ⟨[.one (.sl (.imm false) 3 (.int .i64)), .one (.int .i64)], [], [.one (.sl .own 111 (.pair .str (.pair (.int .i64) (.pair (.int .i64) (.pair .bool (.pair (.int .i64) (.pair (.int .i64) (.pair (.int .i64) (.pair (.int .i64) (.pair (.int .i64) (.int .i64)))))))))))], [], fun (x : List Int × Int × Unit) => F85 n x.1 x.2.1⟩
noncomputable def G85 (n : Nat) : Gam := [((8, []), c8 n), ((102, []), c102 n), ((103, []), c103 n), ((104, []), c104 n), ((105, []), c105 n)]
noncomputable def S85_0 (l0 : List Int) (i1 : Int) (i2 : Int) (l3 : List (ByteArray × (Int × (Int × (Bool × (Int × (Int × (Int × (Int × (Int × Int)))))))))) : St := ⟨[.sl (.imm false) 3 (.int .i64) l0, .int .i64 i1, .dead, .dead, .dead, .sr 5 0 none 0 0 none, .int .i64 i2] ++ List.replicate 31 .dead, List.replicate 5 Ob.none ++ [⟨false, [.sl .own 111 (.pair .str (.pair (.int .i64) (.pair (.int .i64) (.pair .bool (.pair (.int .i64) (.pair (.int .i64) (.pair (.int .i64) (.pair (.int .i64) (.pair (.int .i64) (.int .i64)))))))))) l3], 0, 0⟩] ++ List.replicate 32 Ob.none⟩
noncomputable def ga85_0 (n : Nat) (ks : List Nat) (k : Nat) (st : St) : Option (List (ByteArray × (Int × (Int × (Bool × (Int × (Int × (Int × (Int × (Int × Int))))))))) × Unit) := goAt tab (G85 n) n (bodyOf Tryz.f85) (lvOf Tryz.f85) (lvOf Tryz.f85).ret [1, 1, 1, 0, 1, 0] ks k st (evBody.endK tab (c85 n) Tryz.f85)
theorem el85_0 (n : Nat) : ∀ (k : Nat), ∀ (l0 : List Int) (i1 : Int) (i2 : Int) (l3 : List (ByteArray × (Int × (Int × (Bool × (Int × (Int × (Int × (Int × (Int × Int)))))))))), ga85_0 n [] k (S85_0 l0 i1 i2 l3) = lp85_0 n k l0 i1 i2 l3 := by
  intro k
  induction k with
  | zero => intros; rfl
  | succ k ih =>
    intro l0 i1 i2 l3
    have h : ga85_0 n [] (k + 1) (S85_0 l0 i1 i2 l3) = st85_0 n (fun w0 w1 w2 w3 => ga85_0 n [] k (S85_0 w0 w1 w2 w3)) l0 i1 i2 l3 := by kernel_rfl
    rw [h]
    have e : (fun w0 w1 w2 w3 => ga85_0 n [] k (S85_0 w0 w1 w2 w3)) = lp85_0 n k := by
      funext w0 w1 w2 w3; exact ih w0 w1 w2 w3
    rw [e]
    rfl
theorem e85 (n : Nat) (x : List Int × Int × Unit) : evBody tab (G85 n) n (c85 n) Tryz.f85 x = F85 n x.1 x.2.1 := by
  have h : evBody tab (G85 n) n (c85 n) Tryz.f85 x = st85 n (fun w0 w1 w2 w3 => ga85_0 n [] n (S85_0 w0 w1 w2 w3)) x.1 x.2.1 := by kernel_rfl
  rw [h]
  have e0 : (fun w0 w1 w2 w3 => ga85_0 n [] n (S85_0 w0 w1 w2 w3)) = lp85_0 n n := by
    funext w0 w1 w2 w3; exact el85_0 n n w0 w1 w2 w3
  rw [e0]
  rfl
theorem g85 (W : World) (n : Nat) : Good Tryz.prog W 85 (c85 n) := body_good follows tabOk (GamOk.cons (g8 W n) (GamOk.cons (g102 W n) (GamOk.cons (g103 W n) (GamOk.cons (g104 W n) (GamOk.cons (g105 W n) GamOk.nil))))) (f := 85) (fn := Tryz.f85) (c := bodyOf Tryz.f85) (by kernel_rfl) (by kernel_rfl) (by kernel_rfl) (by kernel_rfl) (by kernel_rfl) (by kernel_rfl) (by kernel_rfl) (fun x r h => ⟨n, (e85 n x).trans h⟩)
/-! spec.ClearBuf -/
noncomputable def st86_0 (n : Nat) (g0 : Int → Int → (List Int) → Option (List Int × Unit)) (i0 : Int) (i1 : Int) (l2 : List Int) : Option (List Int × Unit) :=
  if (decide (i1 < 32)) = true then
    if (decide (0 ≤ (wrap64 ((wrap64 (7 + (wrap64 (i0 * 32)))) + i1)))) = true then
    if (decide ((wrap64 ((wrap64 (7 + (wrap64 (i0 * 32)))) + i1)) < (l2.length : Int))) = true then
    g0 i0 (wrap64 (i1 + 1)) (l2.set (wrap64 ((wrap64 (7 + (wrap64 (i0 * 32)))) + i1)).toNat (0 : Int))
    else none
    else none
  else
    some (l2, ())
noncomputable def lp86_0 (n : Nat) : Nat → Int → Int → (List Int) → Option (List Int × Unit)
  | 0 => fun _ _ _ => none
  | k + 1 => st86_0 n (lp86_0 n k)
noncomputable def st86 (n : Nat) (h0 : Int → Int → (List Int) → Option (List Int × Unit)) (a0 : List Int) (a1 : Int) : Option (List Int × Unit) :=
  (F84 n a0).bind fun r1 =>
  (F8 n a0).bind fun r2 =>
  if (!r2.1) = true then
    some (r1.1, ())
  else
    (F102 n a1).bind fun r3 =>
    if (decide (r3.1 < 0)) = true then
      some (r1.1, ())
    else
      h0 a1 (0 : Int) r1.1
noncomputable def F86 (n : Nat) (a0 : List Int) (a1 : Int) : Option (List Int × Unit) := st86 n (lp86_0 n n) a0 a1
noncomputable def c86 (n : Nat) : Con := ⟨[.one (.sl (.imm true) 3 (.int .i64)), .one (.int .i64)], [], [.one (.sl .own 3 (.int .i64))], [], fun (x : List Int × Int × Unit) => F86 n x.1 x.2.1⟩
noncomputable def G86 (n : Nat) : Gam := [((8, []), c8 n), ((84, []), c84 n), ((102, []), c102 n)]
noncomputable def S86_0 (i0 : Int) (i1 : Int) (l2 : List Int) : St := ⟨[.dead, .int .i64 i0, .dead, .dead, .dead, .sr 5 0 none 0 0 none, .int .i64 i1] ++ List.replicate 23 .dead, List.replicate 5 Ob.none ++ [⟨false, [.sl .own 3 (.int .i64) l2], 0, 0⟩] ++ List.replicate 24 Ob.none⟩
noncomputable def ga86_0 (n : Nat) (ks : List Nat) (k : Nat) (st : St) : Option (List Int × Unit) := goAt tab (G86 n) n (bodyOf Tryz.f86) (lvOf Tryz.f86) (lvOf Tryz.f86).ret [1, 1, 1, 0, 1, 0] ks k st (evBody.endK tab (c86 n) Tryz.f86)
theorem el86_0 (n : Nat) : ∀ (k : Nat), ∀ (i0 : Int) (i1 : Int) (l2 : List Int), ga86_0 n [] k (S86_0 i0 i1 l2) = lp86_0 n k i0 i1 l2 := by
  intro k
  induction k with
  | zero => intros; rfl
  | succ k ih =>
    intro i0 i1 l2
    have h : ga86_0 n [] (k + 1) (S86_0 i0 i1 l2) = st86_0 n (fun w0 w1 w2 => ga86_0 n [] k (S86_0 w0 w1 w2)) i0 i1 l2 := by kernel_rfl
    rw [h]
    have e : (fun w0 w1 w2 => ga86_0 n [] k (S86_0 w0 w1 w2)) = lp86_0 n k := by
      funext w0 w1 w2; exact ih w0 w1 w2
    rw [e]
    rfl
theorem e86 (n : Nat) (x : List Int × Int × Unit) : evBody tab (G86 n) n (c86 n) Tryz.f86 x = F86 n x.1 x.2.1 := by
  have h : evBody tab (G86 n) n (c86 n) Tryz.f86 x = st86 n (fun w0 w1 w2 => ga86_0 n [] n (S86_0 w0 w1 w2)) x.1 x.2.1 := by kernel_rfl
  rw [h]
  have e0 : (fun w0 w1 w2 => ga86_0 n [] n (S86_0 w0 w1 w2)) = lp86_0 n n := by
    funext w0 w1 w2; exact el86_0 n n w0 w1 w2
  rw [e0]
  rfl
theorem g86 (W : World) (n : Nat) : Good Tryz.prog W 86 (c86 n) := body_good follows tabOk (GamOk.cons (g8 W n) (GamOk.cons (g84 W n) (GamOk.cons (g102 W n) GamOk.nil))) (f := 86) (fn := Tryz.f86) (c := bodyOf Tryz.f86) (by kernel_rfl) (by kernel_rfl) (by kernel_rfl) (by kernel_rfl) (by kernel_rfl) (by kernel_rfl) (by kernel_rfl) (fun x r h => ⟨n, (e86 n x).trans h⟩)
/-! spec.FlushNow -/
noncomputable def F72 (n : Nat) (a0 : List Int) : Option (List Int × List (ByteArray × (Int × (Int × (Bool × (Int × (Int × (Int × (Int × (Int × Int))))))))) × Unit) :=
  (F84 n a0).bind fun r1 =>
  (F8 n a0).bind fun r2 =>
  if (!r2.1) = true then
    some (r1.1, ([] : List (ByteArray × (Int × (Int × (Bool × (Int × (Int × (Int × (Int × (Int × Int)))))))))), ())
  else
    if (decide (0 ≤ 0)) = true then
    if (decide (0 < (a0.length : Int))) = true then
    if (decide (2 ≠ 0)) = true then
    (F85 n a0 ((rdOf (0 : Int) a0 (0 : Int)).tmod (2 : Int))).bind fun r3 =>
    (F86 n r1.1 ((rdOf (0 : Int) a0 (0 : Int)).tmod (2 : Int))).bind fun r4 =>
    if (decide (0 ≤ 0)) = true then
    if (decide (0 < (a0.length : Int))) = true then
    (F87 n (wrap64 ((rdOf (0 : Int) a0 (0 : Int)) + 1))).bind fun r5 =>
    if (decide (0 ≤ 0)) = true then
    if (decide (0 < (r4.1.length : Int))) = true then
    some ((r4.1.set (0 : Int).toNat r5.1), r3.1, ())
    else none
    else none
    else none
    else none
    else none
    else none
    else none
noncomputable def c72 (n : Nat) : Con := ⟨[.one (.sl (.imm false) 3 (.int .i64))], [], [.one (.sl .own 3 (.int .i64)), .one (.sl .own 111 (.pair .str (.pair (.int .i64) (.pair (.int .i64) (.pair .bool (.pair (.int .i64) (.pair (.int .i64) (.pair (.int .i64) (.pair (.int .i64) (.pair (.int .i64) (.int .i64)))))))))))], [], fun (x : List Int × Unit) => F72 n x.1⟩
noncomputable def G72 (n : Nat) : Gam := [((8, []), c8 n), ((84, []), c84 n), ((85, []), c85 n), ((86, []), c86 n), ((87, []), c87 n)]
theorem e72 (n : Nat) (x : List Int × Unit) : evBody tab (G72 n) n (c72 n) Tryz.f72 x = F72 n x.1 := by kernel_rfl
theorem g72 (W : World) (n : Nat) : Good Tryz.prog W 72 (c72 n) := body_good follows tabOk (GamOk.cons (g8 W n) (GamOk.cons (g84 W n) (GamOk.cons (g85 W n) (GamOk.cons (g86 W n) (GamOk.cons (g87 W n) GamOk.nil))))) (f := 72) (fn := Tryz.f72) (c := bodyOf Tryz.f72) (by kernel_rfl) (by kernel_rfl) (by kernel_rfl) (by kernel_rfl) (by kernel_rfl) (by kernel_rfl) (by kernel_rfl) (fun x r h => ⟨n, (e72 n x).trans h⟩)
/-! spec.KeysIn -/
noncomputable def st73_0 (n : Nat) (g0 : (List Int) → Int → (List ByteArray) → Option (List ByteArray × Unit)) (l0 : List Int) (i1 : Int) (l2 : List ByteArray) : Option (List ByteArray × Unit) :=
  if (decide (i1 < 4)) = true then
    (F8 n l0).bind fun r1 =>
    if r1.1 = true then
      (F89 n i1).bind fun r2 =>
      if (decide (0 ≤ r2.1)) = true then
      if (decide (r2.1 < (l0.length : Int))) = true then
      (F88 n (rdOf (0 : Int) l0 r2.1)).bind fun r3 =>
      if (decide (r3.2.1 ≠ 0)) = true then
        if (decide ((l2.length + ([r3.1] : List ByteArray).length) * 16 ≤ 140737488355328)) = true then
        g0 l0 (wrap64 (i1 + 1)) (l2 ++ ([r3.1] : List ByteArray))
        else none
      else
        g0 l0 (wrap64 (i1 + 1)) l2
      else none
      else none
    else
      some (l2, ())
  else
    some (l2, ())
noncomputable def lp73_0 (n : Nat) : Nat → (List Int) → Int → (List ByteArray) → Option (List ByteArray × Unit)
  | 0 => fun _ _ _ => none
  | k + 1 => st73_0 n (lp73_0 n k)
noncomputable def st73 (n : Nat) (h0 : (List Int) → Int → (List ByteArray) → Option (List ByteArray × Unit)) (a0 : List Int) : Option (List ByteArray × Unit) :=
  h0 a0 (0 : Int) ([] : List ByteArray)
noncomputable def F73 (n : Nat) (a0 : List Int) : Option (List ByteArray × Unit) := st73 n (lp73_0 n n) a0
noncomputable def c73 (n : Nat) : Con := ⟨[.one (.sl (.imm true) 3 (.int .i64))], [], [.one (.sl .own 9 .str)], [], fun (x : List Int × Unit) => F73 n x.1⟩
noncomputable def G73 (n : Nat) : Gam := [((8, []), c8 n), ((88, []), c88 n), ((89, []), c89 n)]
noncomputable def S73_0 (l0 : List Int) (i1 : Int) (l2 : List ByteArray) : St := ⟨[.sl (.imm true) 3 (.int .i64) l0, .dead, .dead, .sr 3 0 none 0 0 none, .int .i64 i1] ++ List.replicate 27 .dead, [Ob.none, Ob.none, Ob.none, ⟨false, [.sl .own 9 .str l2], 0, 0⟩] ++ List.replicate 28 Ob.none⟩
noncomputable def ga73_0 (n : Nat) (ks : List Nat) (k : Nat) (st : St) : Option (List ByteArray × Unit) := goAt tab (G73 n) n (bodyOf Tryz.f73) (lvOf Tryz.f73) (lvOf Tryz.f73).ret [1, 1, 0, 1, 0] ks k st (evBody.endK tab (c73 n) Tryz.f73)
theorem el73_0 (n : Nat) : ∀ (k : Nat), ∀ (l0 : List Int) (i1 : Int) (l2 : List ByteArray), ga73_0 n [] k (S73_0 l0 i1 l2) = lp73_0 n k l0 i1 l2 := by
  intro k
  induction k with
  | zero => intros; rfl
  | succ k ih =>
    intro l0 i1 l2
    have h : ga73_0 n [] (k + 1) (S73_0 l0 i1 l2) = st73_0 n (fun w0 w1 w2 => ga73_0 n [] k (S73_0 w0 w1 w2)) l0 i1 l2 := by kernel_rfl
    rw [h]
    have e : (fun w0 w1 w2 => ga73_0 n [] k (S73_0 w0 w1 w2)) = lp73_0 n k := by
      funext w0 w1 w2; exact ih w0 w1 w2
    rw [e]
    rfl
theorem e73 (n : Nat) (x : List Int × Unit) : evBody tab (G73 n) n (c73 n) Tryz.f73 x = F73 n x.1 := by
  have h : evBody tab (G73 n) n (c73 n) Tryz.f73 x = st73 n (fun w0 w1 w2 => ga73_0 n [] n (S73_0 w0 w1 w2)) x.1 := by kernel_rfl
  rw [h]
  have e0 : (fun w0 w1 w2 => ga73_0 n [] n (S73_0 w0 w1 w2)) = lp73_0 n n := by
    funext w0 w1 w2; exact el73_0 n n w0 w1 w2
  rw [e0]
  rfl
theorem g73 (W : World) (n : Nat) : Good Tryz.prog W 73 (c73 n) := body_good follows tabOk (GamOk.cons (g8 W n) (GamOk.cons (g88 W n) (GamOk.cons (g89 W n) GamOk.nil))) (f := 73) (fn := Tryz.f73) (c := bodyOf Tryz.f73) (by kernel_rfl) (by kernel_rfl) (by kernel_rfl) (by kernel_rfl) (by kernel_rfl) (by kernel_rfl) (by kernel_rfl) (fun x r h => ⟨n, (e73 n x).trans h⟩)
/-! spec.FindKey -/
noncomputable def F90 (n : Nat) (a0 : List Int) (a1 : ByteArray) : Option (Int × Int × Unit) :=
  (F8 n a0).bind fun r1 =>
  if (!r1.1) = true then
    some ((-1), 0, ())
  else
    (F34 n a1).bind fun r2 =>
    if (!r2.1) = true then
      some ((-1), 0, ())
    else
      (F101 n a0 a1).bind fun r3 =>
      some (r3.1, r3.2.1, ())
noncomputable def c90 (n : Nat) : Con := ⟨[.one (.sl (.imm true) 3 (.int .i64)), .one (.str)], [], [.one (.int .i64), .one (.int .i64)], [], fun (x : List Int × ByteArray × Unit) => F90 n x.1 x.2.1⟩
noncomputable def G90 (n : Nat) : Gam := [((8, []), c8 n), ((34, []), c34 n), ((101, []), c101 n)]
theorem e90 (n : Nat) (x : List Int × ByteArray × Unit) : evBody tab (G90 n) n (c90 n) Tryz.f90 x = F90 n x.1 x.2.1 := by kernel_rfl
theorem g90 (W : World) (n : Nat) : Good Tryz.prog W 90 (c90 n) := body_good follows tabOk (GamOk.cons (g8 W n) (GamOk.cons (g34 W n) (GamOk.cons (g101 W n) GamOk.nil))) (f := 90) (fn := Tryz.f90) (c := bodyOf Tryz.f90) (by kernel_rfl) (by kernel_rfl) (by kernel_rfl) (by kernel_rfl) (by kernel_rfl) (by kernel_rfl) (by kernel_rfl) (fun x r h => ⟨n, (e90 n x).trans h⟩)
/-! spec.l3Cell -/
noncomputable def F126 (n : Nat) (a0 : Int) (a1 : Int) (a2 : Int) : Option (Int × Unit) :=
  (F123 n a0 a1).bind fun r1 =>
  if (decide (r1.1 < 0)) = true then
    some ((-1), ())
  else
    some ((wrap64 (r1.1 + a2)), ())
noncomputable def c126 (n : Nat) : Con := ⟨[.one (.int .i64), .one (.int .i64), .one (.int .i64)], [], [.one (.int .i64)], [], fun (x : Int × Int × Int × Unit) => F126 n x.1 x.2.1 x.2.2.1⟩
noncomputable def G126 (n : Nat) : Gam := [((123, []), c123 n)]
theorem e126 (n : Nat) (x : Int × Int × Int × Unit) : evBody tab (G126 n) n (c126 n) Tryz.f126 x = F126 n x.1 x.2.1 x.2.2.1 := by kernel_rfl
theorem g126 (W : World) (n : Nat) : Good Tryz.prog W 126 (c126 n) := body_good follows tabOk (GamOk.cons (g123 W n) GamOk.nil) (f := 126) (fn := Tryz.f126) (c := bodyOf Tryz.f126) (by kernel_rfl) (by kernel_rfl) (by kernel_rfl) (by kernel_rfl) (by kernel_rfl) (by kernel_rfl) (by kernel_rfl) (fun x r h => ⟨n, (e126 n x).trans h⟩)
/-! spec.StripeCell -/
noncomputable def F107 (n : Nat) (a0 : Int) (a1 : Int) (a2 : Int) : Option (Int × Unit) :=
  (F26 n a2 (0 : Int) (1 : Int)).bind fun r1 =>
  if (!r1.1) = true then
    some ((-1), ())
  else
    (F126 n a0 a1 a2).bind fun r2 =>
    some (r2.1, ())
noncomputable def c107 (n : Nat) : Con := ⟨[.one (.int .i64), .one (.int .i64), .one (.int .i64)], [], [.one (.int .i64)], [], fun (x : Int × Int × Int × Unit) => F107 n x.1 x.2.1 x.2.2.1⟩
noncomputable def G107 (n : Nat) : Gam := [((26, []), c26 n), ((126, []), c126 n)]
theorem e107 (n : Nat) (x : Int × Int × Int × Unit) : evBody tab (G107 n) n (c107 n) Tryz.f107 x = F107 n x.1 x.2.1 x.2.2.1 := by kernel_rfl
theorem g107 (W : World) (n : Nat) : Good Tryz.prog W 107 (c107 n) := body_good follows tabOk (GamOk.cons (g26 W n) (GamOk.cons (g126 W n) GamOk.nil)) (f := 107) (fn := Tryz.f107) (c := bodyOf Tryz.f107) (by kernel_rfl) (by kernel_rfl) (by kernel_rfl) (by kernel_rfl) (by kernel_rfl) (by kernel_rfl) (by kernel_rfl) (fun x r h => ⟨n, (e107 n x).trans h⟩)
end Go.Eva
end
