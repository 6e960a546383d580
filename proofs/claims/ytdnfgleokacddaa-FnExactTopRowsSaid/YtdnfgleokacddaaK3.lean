/- A verified evaluator of the translated code, part 3: EvaK_1, EvaK_2, EvaKa, EvaOk, EvaSp, EvaSq, EvaSs, EvaKb -/
import Derived.Test.YtdnfgleokacddaaK2
import Derived.Shelf.SlSortCmp.InsertionK
import Derived.Sort.WalkA
import Derived.Shelf.SlSortCmp.KitK
section
/- The functions, as their texts evaluate. -/
set_option linter.unusedVariables false
set_option maxRecDepth 100000
namespace Go.Eva
open Go.Proofs
open Go.RowKit (wrap64)
/-! spec.Rank -/
noncomputable def F12 (n : Nat) (a0 : ByteArray) (a1 : Int) (a2 : Int) (a3 : Bool) (a4 : Int) (a5 : Int) (a6 : Int) (a7 : Int) (a8 : Int) (a9 : Int) : Option (Int × Unit) :=
  if (decide (a1 = 1)) = true then
    some (a2, ())
  else
    if (decide (a1 = 2)) = true then
      some (a4, ())
    else
      if (decide (a1 = 3)) = true then
        some (a8, ())
      else
        some (0, ())
noncomputable def c12 (n : Nat) : Con := ⟨[.agg [(.str), (.int .i64), (.int .i64), (.bool), (.int .i64), (.int .i64), (.int .i64), (.int .i64), (.int .i64), (.int .i64)]], [], [.one (.int .i64)], [], fun (x : ByteArray × Int × Int × Bool × Int × Int × Int × Int × Int × Int × Unit) => F12 n x.1 x.2.1 x.2.2.1 x.2.2.2.1 x.2.2.2.2.1 x.2.2.2.2.2.1 x.2.2.2.2.2.2.1 x.2.2.2.2.2.2.2.1 x.2.2.2.2.2.2.2.2.1 x.2.2.2.2.2.2.2.2.2.1⟩
noncomputable def G12 (n : Nat) : Gam := []
theorem e12 (n : Nat) (x : ByteArray × Int × Int × Bool × Int × Int × Int × Int × Int × Int × Unit) : evBody tab (G12 n) n (c12 n) Try.f12 x = F12 n x.1 x.2.1 x.2.2.1 x.2.2.2.1 x.2.2.2.2.1 x.2.2.2.2.2.1 x.2.2.2.2.2.2.1 x.2.2.2.2.2.2.2.1 x.2.2.2.2.2.2.2.2.1 x.2.2.2.2.2.2.2.2.2.1 := by kernel_rfl
theorem g12 (W : World) (n : Nat) : Good Try.prog W 12 (c12 n) := body_good follows tabOk GamOk.nil (f := 12) (fn := Try.f12) (c := bodyOf Try.f12) (by kernel_rfl) (by kernel_rfl) (by kernel_rfl) (by kernel_rfl) (by kernel_rfl) (by kernel_rfl) (by kernel_rfl) (fun x r h => ⟨n, (e12 n x).trans h⟩)
/-! spec.l1In -/
noncomputable def F13 (n : Nat) (a0 : Int) (a1 : Int) (a2 : Int) : Option (Bool × Unit) :=
  if (decide (a0 ≥ a1)) = true then
    some (decide (a0 ≤ a2), ())
  else
    some (false, ())
noncomputable def c13 (n : Nat) : Con := ⟨[.one (.int .i64), .one (.int .i64), .one (.int .i64)], [], [.one (.bool)], [], fun (x : Int × Int × Int × Unit) => F13 n x.1 x.2.1 x.2.2.1⟩
noncomputable def G13 (n : Nat) : Gam := []
theorem e13 (n : Nat) (x : Int × Int × Int × Unit) : evBody tab (G13 n) n (c13 n) Try.f13 x = F13 n x.1 x.2.1 x.2.2.1 := by kernel_rfl
theorem g13 (W : World) (n : Nat) : Good Try.prog W 13 (c13 n) := body_good follows tabOk GamOk.nil (f := 13) (fn := Try.f13) (c := bodyOf Try.f13) (by kernel_rfl) (by kernel_rfl) (by kernel_rfl) (by kernel_rfl) (by kernel_rfl) (by kernel_rfl) (by kernel_rfl) (fun x r h => ⟨n, (e13 n x).trans h⟩)
/-! spec.TopRows -/
noncomputable def j5_0 (n : Nat) (g0 : (List (ByteArray × (Int × (Int × (Bool × (Int × (Int × (Int × (Int × (Int × Int)))))))))) → Int → Int → (List (ByteArray × (Int × (Int × (Bool × (Int × (Int × (Int × (Int × (Int × Int)))))))))) → Option (List (ByteArray × (Int × (Int × (Bool × (Int × (Int × (Int × (Int × (Int × Int))))))))) × Unit)) (l0 : List (ByteArray × (Int × (Int × (Bool × (Int × (Int × (Int × (Int × (Int × Int)))))))))) (i1 : Int) (i2 : Int) (i3 : Int) (l4 : List (ByteArray × (Int × (Int × (Bool × (Int × (Int × (Int × (Int × (Int × Int)))))))))) : Option (List (ByteArray × (Int × (Int × (Bool × (Int × (Int × (Int × (Int × (Int × Int))))))))) × Unit) :=
  if (decide (0 ≤ 0)) = true then
  if (decide (0 ≤ i3)) = true then
  if (decide (i3 ≤ (l4.length : Int))) = true then
  if (decide (0 ≤ i2)) = true then
  if (decide (i2 < (l0.length : Int))) = true then
  if (decide (0 ≤ i3)) = true then
  if (decide (i3 ≤ (l4.length : Int))) = true then
  if (decide ((l4.length : Int) ≤ (l4.length : Int))) = true then
  if (decide ((([((rdOf ((⟨#[]⟩ : ByteArray), ((0 : Int), ((0 : Int), (false, ((0 : Int), ((0 : Int), ((0 : Int), ((0 : Int), ((0 : Int), (0 : Int)))))))))) l0 i2).1, (((rdOf ((⟨#[]⟩ : ByteArray), ((0 : Int), ((0 : Int), (false, ((0 : Int), ((0 : Int), ((0 : Int), ((0 : Int), ((0 : Int), (0 : Int)))))))))) l0 i2).2).1, ((((rdOf ((⟨#[]⟩ : ByteArray), ((0 : Int), ((0 : Int), (false, ((0 : Int), ((0 : Int), ((0 : Int), ((0 : Int), ((0 : Int), (0 : Int)))))))))) l0 i2).2).2).1, (((((rdOf ((⟨#[]⟩ : ByteArray), ((0 : Int), ((0 : Int), (false, ((0 : Int), ((0 : Int), ((0 : Int), ((0 : Int), ((0 : Int), (0 : Int)))))))))) l0 i2).2).2).2).1, ((((((rdOf ((⟨#[]⟩ : ByteArray), ((0 : Int), ((0 : Int), (false, ((0 : Int), ((0 : Int), ((0 : Int), ((0 : Int), ((0 : Int), (0 : Int)))))))))) l0 i2).2).2).2).2).1, (((((((rdOf ((⟨#[]⟩ : ByteArray), ((0 : Int), ((0 : Int), (false, ((0 : Int), ((0 : Int), ((0 : Int), ((0 : Int), ((0 : Int), (0 : Int)))))))))) l0 i2).2).2).2).2).2).1, ((((((((rdOf ((⟨#[]⟩ : ByteArray), ((0 : Int), ((0 : Int), (false, ((0 : Int), ((0 : Int), ((0 : Int), ((0 : Int), ((0 : Int), (0 : Int)))))))))) l0 i2).2).2).2).2).2).2).1, (((((((((rdOf ((⟨#[]⟩ : ByteArray), ((0 : Int), ((0 : Int), (false, ((0 : Int), ((0 : Int), ((0 : Int), ((0 : Int), ((0 : Int), (0 : Int)))))))))) l0 i2).2).2).2).2).2).2).2).1, ((((((((((rdOf ((⟨#[]⟩ : ByteArray), ((0 : Int), ((0 : Int), (false, ((0 : Int), ((0 : Int), ((0 : Int), ((0 : Int), ((0 : Int), (0 : Int)))))))))) l0 i2).2).2).2).2).2).2).2).2).1, (((((((((rdOf ((⟨#[]⟩ : ByteArray), ((0 : Int), ((0 : Int), (false, ((0 : Int), ((0 : Int), ((0 : Int), ((0 : Int), ((0 : Int), (0 : Int)))))))))) l0 i2).2).2).2).2).2).2).2).2).2)))))))))] : List (ByteArray × (Int × (Int × (Bool × (Int × (Int × (Int × (Int × (Int × Int)))))))))).length + (cutL l4 i3 (l4.length : Int)).length) * 88 ≤ 140737488355328)) = true then
  if (decide (((cutL l4 (0 : Int) i3).length + (([((rdOf ((⟨#[]⟩ : ByteArray), ((0 : Int), ((0 : Int), (false, ((0 : Int), ((0 : Int), ((0 : Int), ((0 : Int), ((0 : Int), (0 : Int)))))))))) l0 i2).1, (((rdOf ((⟨#[]⟩ : ByteArray), ((0 : Int), ((0 : Int), (false, ((0 : Int), ((0 : Int), ((0 : Int), ((0 : Int), ((0 : Int), (0 : Int)))))))))) l0 i2).2).1, ((((rdOf ((⟨#[]⟩ : ByteArray), ((0 : Int), ((0 : Int), (false, ((0 : Int), ((0 : Int), ((0 : Int), ((0 : Int), ((0 : Int), (0 : Int)))))))))) l0 i2).2).2).1, (((((rdOf ((⟨#[]⟩ : ByteArray), ((0 : Int), ((0 : Int), (false, ((0 : Int), ((0 : Int), ((0 : Int), ((0 : Int), ((0 : Int), (0 : Int)))))))))) l0 i2).2).2).2).1, ((((((rdOf ((⟨#[]⟩ : ByteArray), ((0 : Int), ((0 : Int), (false, ((0 : Int), ((0 : Int), ((0 : Int), ((0 : Int), ((0 : Int), (0 : Int)))))))))) l0 i2).2).2).2).2).1, (((((((rdOf ((⟨#[]⟩ : ByteArray), ((0 : Int), ((0 : Int), (false, ((0 : Int), ((0 : Int), ((0 : Int), ((0 : Int), ((0 : Int), (0 : Int)))))))))) l0 i2).2).2).2).2).2).1, ((((((((rdOf ((⟨#[]⟩ : ByteArray), ((0 : Int), ((0 : Int), (false, ((0 : Int), ((0 : Int), ((0 : Int), ((0 : Int), ((0 : Int), (0 : Int)))))))))) l0 i2).2).2).2).2).2).2).1, (((((((((rdOf ((⟨#[]⟩ : ByteArray), ((0 : Int), ((0 : Int), (false, ((0 : Int), ((0 : Int), ((0 : Int), ((0 : Int), ((0 : Int), (0 : Int)))))))))) l0 i2).2).2).2).2).2).2).2).1, ((((((((((rdOf ((⟨#[]⟩ : ByteArray), ((0 : Int), ((0 : Int), (false, ((0 : Int), ((0 : Int), ((0 : Int), ((0 : Int), ((0 : Int), (0 : Int)))))))))) l0 i2).2).2).2).2).2).2).2).2).1, (((((((((rdOf ((⟨#[]⟩ : ByteArray), ((0 : Int), ((0 : Int), (false, ((0 : Int), ((0 : Int), ((0 : Int), ((0 : Int), ((0 : Int), (0 : Int)))))))))) l0 i2).2).2).2).2).2).2).2).2).2)))))))))] : List (ByteArray × (Int × (Int × (Bool × (Int × (Int × (Int × (Int × (Int × Int)))))))))) ++ (cutL l4 i3 (l4.length : Int))).length) * 88 ≤ 140737488355328)) = true then
  g0 l0 i1 (wrap64 (i2 + 1)) ((cutL l4 (0 : Int) i3) ++ (([((rdOf ((⟨#[]⟩ : ByteArray), ((0 : Int), ((0 : Int), (false, ((0 : Int), ((0 : Int), ((0 : Int), ((0 : Int), ((0 : Int), (0 : Int)))))))))) l0 i2).1, (((rdOf ((⟨#[]⟩ : ByteArray), ((0 : Int), ((0 : Int), (false, ((0 : Int), ((0 : Int), ((0 : Int), ((0 : Int), ((0 : Int), (0 : Int)))))))))) l0 i2).2).1, ((((rdOf ((⟨#[]⟩ : ByteArray), ((0 : Int), ((0 : Int), (false, ((0 : Int), ((0 : Int), ((0 : Int), ((0 : Int), ((0 : Int), (0 : Int)))))))))) l0 i2).2).2).1, (((((rdOf ((⟨#[]⟩ : ByteArray), ((0 : Int), ((0 : Int), (false, ((0 : Int), ((0 : Int), ((0 : Int), ((0 : Int), ((0 : Int), (0 : Int)))))))))) l0 i2).2).2).2).1, ((((((rdOf ((⟨#[]⟩ : ByteArray), ((0 : Int), ((0 : Int), (false, ((0 : Int), ((0 : Int), ((0 : Int), ((0 : Int), ((0 : Int), (0 : Int)))))))))) l0 i2).2).2).2).2).1, (((((((rdOf ((⟨#[]⟩ : ByteArray), ((0 : Int), ((0 : Int), (false, ((0 : Int), ((0 : Int), ((0 : Int), ((0 : Int), ((0 : Int), (0 : Int)))))))))) l0 i2).2).2).2).2).2).1, ((((((((rdOf ((⟨#[]⟩ : ByteArray), ((0 : Int), ((0 : Int), (false, ((0 : Int), ((0 : Int), ((0 : Int), ((0 : Int), ((0 : Int), (0 : Int)))))))))) l0 i2).2).2).2).2).2).2).1, (((((((((rdOf ((⟨#[]⟩ : ByteArray), ((0 : Int), ((0 : Int), (false, ((0 : Int), ((0 : Int), ((0 : Int), ((0 : Int), ((0 : Int), (0 : Int)))))))))) l0 i2).2).2).2).2).2).2).2).1, ((((((((((rdOf ((⟨#[]⟩ : ByteArray), ((0 : Int), ((0 : Int), (false, ((0 : Int), ((0 : Int), ((0 : Int), ((0 : Int), ((0 : Int), (0 : Int)))))))))) l0 i2).2).2).2).2).2).2).2).2).1, (((((((((rdOf ((⟨#[]⟩ : ByteArray), ((0 : Int), ((0 : Int), (false, ((0 : Int), ((0 : Int), ((0 : Int), ((0 : Int), ((0 : Int), (0 : Int)))))))))) l0 i2).2).2).2).2).2).2).2).2).2)))))))))] : List (ByteArray × (Int × (Int × (Bool × (Int × (Int × (Int × (Int × (Int × Int)))))))))) ++ (cutL l4 i3 (l4.length : Int))))
  else none
  else none
  else none
  else none
  else none
  else none
  else none
  else none
  else none
  else none
noncomputable def st5_1 (n : Nat) (g0 : (List (ByteArray × (Int × (Int × (Bool × (Int × (Int × (Int × (Int × (Int × Int)))))))))) → Int → Int → (List (ByteArray × (Int × (Int × (Bool × (Int × (Int × (Int × (Int × (Int × Int)))))))))) → Option (List (ByteArray × (Int × (Int × (Bool × (Int × (Int × (Int × (Int × (Int × Int))))))))) × Unit)) (g1 : (List (ByteArray × (Int × (Int × (Bool × (Int × (Int × (Int × (Int × (Int × Int)))))))))) → Int → Int → Int → (List (ByteArray × (Int × (Int × (Bool × (Int × (Int × (Int × (Int × (Int × Int)))))))))) → Option (List (ByteArray × (Int × (Int × (Bool × (Int × (Int × (Int × (Int × (Int × Int))))))))) × Unit)) (l0 : List (ByteArray × (Int × (Int × (Bool × (Int × (Int × (Int × (Int × (Int × Int)))))))))) (i1 : Int) (i2 : Int) (i3 : Int) (l4 : List (ByteArray × (Int × (Int × (Bool × (Int × (Int × (Int × (Int × (Int × Int)))))))))) : Option (List (ByteArray × (Int × (Int × (Bool × (Int × (Int × (Int × (Int × (Int × Int))))))))) × Unit) :=
  if (decide (i3 > 0)) = true then
    if (decide (0 ≤ (wrap64 (i3 - 1)))) = true then
    if (decide ((wrap64 (i3 - 1)) < (l4.length : Int))) = true then
    (F12 n ((rdOf ((⟨#[]⟩ : ByteArray), ((0 : Int), ((0 : Int), (false, ((0 : Int), ((0 : Int), ((0 : Int), ((0 : Int), ((0 : Int), (0 : Int)))))))))) l4 (wrap64 (i3 - 1))).1) (((rdOf ((⟨#[]⟩ : ByteArray), ((0 : Int), ((0 : Int), (false, ((0 : Int), ((0 : Int), ((0 : Int), ((0 : Int), ((0 : Int), (0 : Int)))))))))) l4 (wrap64 (i3 - 1))).2).1) ((((rdOf ((⟨#[]⟩ : ByteArray), ((0 : Int), ((0 : Int), (false, ((0 : Int), ((0 : Int), ((0 : Int), ((0 : Int), ((0 : Int), (0 : Int)))))))))) l4 (wrap64 (i3 - 1))).2).2).1) (((((rdOf ((⟨#[]⟩ : ByteArray), ((0 : Int), ((0 : Int), (false, ((0 : Int), ((0 : Int), ((0 : Int), ((0 : Int), ((0 : Int), (0 : Int)))))))))) l4 (wrap64 (i3 - 1))).2).2).2).1) ((((((rdOf ((⟨#[]⟩ : ByteArray), ((0 : Int), ((0 : Int), (false, ((0 : Int), ((0 : Int), ((0 : Int), ((0 : Int), ((0 : Int), (0 : Int)))))))))) l4 (wrap64 (i3 - 1))).2).2).2).2).1) (((((((rdOf ((⟨#[]⟩ : ByteArray), ((0 : Int), ((0 : Int), (false, ((0 : Int), ((0 : Int), ((0 : Int), ((0 : Int), ((0 : Int), (0 : Int)))))))))) l4 (wrap64 (i3 - 1))).2).2).2).2).2).1) ((((((((rdOf ((⟨#[]⟩ : ByteArray), ((0 : Int), ((0 : Int), (false, ((0 : Int), ((0 : Int), ((0 : Int), ((0 : Int), ((0 : Int), (0 : Int)))))))))) l4 (wrap64 (i3 - 1))).2).2).2).2).2).2).1) (((((((((rdOf ((⟨#[]⟩ : ByteArray), ((0 : Int), ((0 : Int), (false, ((0 : Int), ((0 : Int), ((0 : Int), ((0 : Int), ((0 : Int), (0 : Int)))))))))) l4 (wrap64 (i3 - 1))).2).2).2).2).2).2).2).1) ((((((((((rdOf ((⟨#[]⟩ : ByteArray), ((0 : Int), ((0 : Int), (false, ((0 : Int), ((0 : Int), ((0 : Int), ((0 : Int), ((0 : Int), (0 : Int)))))))))) l4 (wrap64 (i3 - 1))).2).2).2).2).2).2).2).2).1) ((((((((((rdOf ((⟨#[]⟩ : ByteArray), ((0 : Int), ((0 : Int), (false, ((0 : Int), ((0 : Int), ((0 : Int), ((0 : Int), ((0 : Int), (0 : Int)))))))))) l4 (wrap64 (i3 - 1))).2).2).2).2).2).2).2).2).2)).bind fun r1 =>
    if (decide (0 ≤ i2)) = true then
    if (decide (i2 < (l0.length : Int))) = true then
    (F12 n ((rdOf ((⟨#[]⟩ : ByteArray), ((0 : Int), ((0 : Int), (false, ((0 : Int), ((0 : Int), ((0 : Int), ((0 : Int), ((0 : Int), (0 : Int)))))))))) l0 i2).1) (((rdOf ((⟨#[]⟩ : ByteArray), ((0 : Int), ((0 : Int), (false, ((0 : Int), ((0 : Int), ((0 : Int), ((0 : Int), ((0 : Int), (0 : Int)))))))))) l0 i2).2).1) ((((rdOf ((⟨#[]⟩ : ByteArray), ((0 : Int), ((0 : Int), (false, ((0 : Int), ((0 : Int), ((0 : Int), ((0 : Int), ((0 : Int), (0 : Int)))))))))) l0 i2).2).2).1) (((((rdOf ((⟨#[]⟩ : ByteArray), ((0 : Int), ((0 : Int), (false, ((0 : Int), ((0 : Int), ((0 : Int), ((0 : Int), ((0 : Int), (0 : Int)))))))))) l0 i2).2).2).2).1) ((((((rdOf ((⟨#[]⟩ : ByteArray), ((0 : Int), ((0 : Int), (false, ((0 : Int), ((0 : Int), ((0 : Int), ((0 : Int), ((0 : Int), (0 : Int)))))))))) l0 i2).2).2).2).2).1) (((((((rdOf ((⟨#[]⟩ : ByteArray), ((0 : Int), ((0 : Int), (false, ((0 : Int), ((0 : Int), ((0 : Int), ((0 : Int), ((0 : Int), (0 : Int)))))))))) l0 i2).2).2).2).2).2).1) ((((((((rdOf ((⟨#[]⟩ : ByteArray), ((0 : Int), ((0 : Int), (false, ((0 : Int), ((0 : Int), ((0 : Int), ((0 : Int), ((0 : Int), (0 : Int)))))))))) l0 i2).2).2).2).2).2).2).1) (((((((((rdOf ((⟨#[]⟩ : ByteArray), ((0 : Int), ((0 : Int), (false, ((0 : Int), ((0 : Int), ((0 : Int), ((0 : Int), ((0 : Int), (0 : Int)))))))))) l0 i2).2).2).2).2).2).2).2).1) ((((((((((rdOf ((⟨#[]⟩ : ByteArray), ((0 : Int), ((0 : Int), (false, ((0 : Int), ((0 : Int), ((0 : Int), ((0 : Int), ((0 : Int), (0 : Int)))))))))) l0 i2).2).2).2).2).2).2).2).2).1) ((((((((((rdOf ((⟨#[]⟩ : ByteArray), ((0 : Int), ((0 : Int), (false, ((0 : Int), ((0 : Int), ((0 : Int), ((0 : Int), ((0 : Int), (0 : Int)))))))))) l0 i2).2).2).2).2).2).2).2).2).2)).bind fun r2 =>
    if (decide (r1.1 < r2.1)) = true then
      g1 l0 i1 i2 (wrap64 (i3 - 1)) l4
    else
      j5_0 n g0 l0 i1 i2 i3 l4
    else none
    else none
    else none
    else none
  else
    j5_0 n g0 l0 i1 i2 i3 l4
noncomputable def lp5_1 (n : Nat) (g0 : (List (ByteArray × (Int × (Int × (Bool × (Int × (Int × (Int × (Int × (Int × Int)))))))))) → Int → Int → (List (ByteArray × (Int × (Int × (Bool × (Int × (Int × (Int × (Int × (Int × Int)))))))))) → Option (List (ByteArray × (Int × (Int × (Bool × (Int × (Int × (Int × (Int × (Int × Int))))))))) × Unit)) : Nat → (List (ByteArray × (Int × (Int × (Bool × (Int × (Int × (Int × (Int × (Int × Int)))))))))) → Int → Int → Int → (List (ByteArray × (Int × (Int × (Bool × (Int × (Int × (Int × (Int × (Int × Int)))))))))) → Option (List (ByteArray × (Int × (Int × (Bool × (Int × (Int × (Int × (Int × (Int × Int))))))))) × Unit)
  | 0 => fun _ _ _ _ _ => none
  | k + 1 => st5_1 n g0 (lp5_1 n g0 k)
noncomputable def st5_0 (n : Nat) (h1 : (List (ByteArray × (Int × (Int × (Bool × (Int × (Int × (Int × (Int × (Int × Int)))))))))) → Int → Int → Int → (List (ByteArray × (Int × (Int × (Bool × (Int × (Int × (Int × (Int × (Int × Int)))))))))) → Option (List (ByteArray × (Int × (Int × (Bool × (Int × (Int × (Int × (Int × (Int × Int))))))))) × Unit)) (g0 : (List (ByteArray × (Int × (Int × (Bool × (Int × (Int × (Int × (Int × (Int × Int)))))))))) → Int → Int → (List (ByteArray × (Int × (Int × (Bool × (Int × (Int × (Int × (Int × (Int × Int)))))))))) → Option (List (ByteArray × (Int × (Int × (Bool × (Int × (Int × (Int × (Int × (Int × Int))))))))) × Unit)) (l0 : List (ByteArray × (Int × (Int × (Bool × (Int × (Int × (Int × (Int × (Int × Int)))))))))) (i1 : Int) (i2 : Int) (l3 : List (ByteArray × (Int × (Int × (Bool × (Int × (Int × (Int × (Int × (Int × Int)))))))))) : Option (List (ByteArray × (Int × (Int × (Bool × (Int × (Int × (Int × (Int × (Int × Int))))))))) × Unit) :=
  if (decide (i2 < (l0.length : Int))) = true then
    h1 l0 i1 i2 (l3.length : Int) l3
  else
    (F13 n i1 (0 : Int) (l3.length : Int)).bind fun r3 =>
    if (!r3.1) = true then
      some (l3, ())
    else
      if (decide (0 ≤ 0)) = true then
      if (decide (0 ≤ i1)) = true then
      if (decide (i1 ≤ (l3.length : Int))) = true then
      if (decide ((([] : List (ByteArray × (Int × (Int × (Bool × (Int × (Int × (Int × (Int × (Int × Int)))))))))).length + (cutL l3 (0 : Int) i1).length) * 88 ≤ 140737488355328)) = true then
      some ((([] : List (ByteArray × (Int × (Int × (Bool × (Int × (Int × (Int × (Int × (Int × Int)))))))))) ++ (cutL l3 (0 : Int) i1)), ())
      else none
      else none
      else none
      else none
noncomputable def lp5_0 (n : Nat) : Nat → (List (ByteArray × (Int × (Int × (Bool × (Int × (Int × (Int × (Int × (Int × Int)))))))))) → Int → Int → (List (ByteArray × (Int × (Int × (Bool × (Int × (Int × (Int × (Int × (Int × Int)))))))))) → Option (List (ByteArray × (Int × (Int × (Bool × (Int × (Int × (Int × (Int × (Int × Int))))))))) × Unit)
  | 0 => fun _ _ _ _ => none
  | k + 1 => st5_0 n (lp5_1 n (lp5_0 n k) n) (lp5_0 n k)
noncomputable def st5 (n : Nat) (h0 : (List (ByteArray × (Int × (Int × (Bool × (Int × (Int × (Int × (Int × (Int × Int)))))))))) → Int → Int → (List (ByteArray × (Int × (Int × (Bool × (Int × (Int × (Int × (Int × (Int × Int)))))))))) → Option (List (ByteArray × (Int × (Int × (Bool × (Int × (Int × (Int × (Int × (Int × Int))))))))) × Unit)) (a0 : List (ByteArray × (Int × (Int × (Bool × (Int × (Int × (Int × (Int × (Int × Int)))))))))) (a1 : Int) : Option (List (ByteArray × (Int × (Int × (Bool × (Int × (Int × (Int × (Int × (Int × Int))))))))) × Unit) :=
  h0 a0 a1 (0 : Int) ([] : List (ByteArray × (Int × (Int × (Bool × (Int × (Int × (Int × (Int × (Int × Int))))))))))
noncomputable def F5 (n : Nat) (a0 : List (ByteArray × (Int × (Int × (Bool × (Int × (Int × (Int × (Int × (Int × Int)))))))))) (a1 : Int) : Option (List (ByteArray × (Int × (Int × (Bool × (Int × (Int × (Int × (Int × (Int × Int))))))))) × Unit) := st5 n (lp5_0 n n) a0 a1
noncomputable def c5 (n : Nat) : Con := ⟨[.one (.sl (.imm true) 34 (.pair .str (.pair (.int .i64) (.pair (.int .i64) (.pair .bool (.pair (.int .i64) (.pair (.int .i64) (.pair (.int .i64) (.pair (.int .i64) (.pair (.int .i64) (.int .i64))))))))))), .one (.int .i64)], [], [.one (.sl .own 34 (.pair .str (.pair (.int .i64) (.pair (.int .i64) (.pair .bool (.pair (.int .i64) (.pair (.int .i64) (.pair (.int .i64) (.pair (.int .i64) (.pair (.int .i64) (.int .i64)))))))))))], [], fun (x : List (ByteArray × (Int × (Int × (Bool × (Int × (Int × (Int × (Int × (Int × Int))))))))) × Int × Unit) => F5 n x.1 x.2.1⟩
noncomputable def G5 (n : Nat) : Gam := [((12, []), c12 n), ((13, []), c13 n)]
noncomputable def S5_1 (l0 : List (ByteArray × (Int × (Int × (Bool × (Int × (Int × (Int × (Int × (Int × Int)))))))))) (i1 : Int) (i2 : Int) (i3 : Int) (l4 : List (ByteArray × (Int × (Int × (Bool × (Int × (Int × (Int × (Int × (Int × Int)))))))))) : St := ⟨[.sl (.imm true) 34 (.pair .str (.pair (.int .i64) (.pair (.int .i64) (.pair .bool (.pair (.int .i64) (.pair (.int .i64) (.pair (.int .i64) (.pair (.int .i64) (.pair (.int .i64) (.int .i64)))))))))) l0, .int .i64 i1, .dead, .dead, .dead, .sr 5 0 none 0 0 none, .int .i64 i2, .int .i64 i3] ++ List.replicate 51 .dead, List.replicate 5 Ob.none ++ [⟨false, [.sl .own 34 (.pair .str (.pair (.int .i64) (.pair (.int .i64) (.pair .bool (.pair (.int .i64) (.pair (.int .i64) (.pair (.int .i64) (.pair (.int .i64) (.pair (.int .i64) (.int .i64)))))))))) l4], 0, 0⟩] ++ List.replicate 53 Ob.none⟩
noncomputable def ga5_1 (n : Nat) (ks : List Nat) (k : Nat) (st : St) : Option (List (ByteArray × (Int × (Int × (Bool × (Int × (Int × (Int × (Int × (Int × Int))))))))) × Unit) := goAt tab (G5 n) n (bodyOf Try.f5) (lvOf Try.f5) (lvOf Try.f5).ret [1, 1, 0, 1, 0, 0, 1, 0, 0, 1, 0, 0] ks k st (evBody.endK tab (c5 n) Try.f5)
noncomputable def S5_0 (l0 : List (ByteArray × (Int × (Int × (Bool × (Int × (Int × (Int × (Int × (Int × Int)))))))))) (i1 : Int) (i2 : Int) (l3 : List (ByteArray × (Int × (Int × (Bool × (Int × (Int × (Int × (Int × (Int × Int)))))))))) : St := ⟨[.sl (.imm true) 34 (.pair .str (.pair (.int .i64) (.pair (.int .i64) (.pair .bool (.pair (.int .i64) (.pair (.int .i64) (.pair (.int .i64) (.pair (.int .i64) (.pair (.int .i64) (.int .i64)))))))))) l0, .int .i64 i1, .dead, .dead, .dead, .sr 5 0 none 0 0 none, .int .i64 i2] ++ List.replicate 52 .dead, List.replicate 5 Ob.none ++ [⟨false, [.sl .own 34 (.pair .str (.pair (.int .i64) (.pair (.int .i64) (.pair .bool (.pair (.int .i64) (.pair (.int .i64) (.pair (.int .i64) (.pair (.int .i64) (.pair (.int .i64) (.int .i64)))))))))) l3], 0, 0⟩] ++ List.replicate 53 Ob.none⟩
noncomputable def ga5_0 (n : Nat) (ks : List Nat) (k : Nat) (st : St) : Option (List (ByteArray × (Int × (Int × (Bool × (Int × (Int × (Int × (Int × (Int × Int))))))))) × Unit) := goAt tab (G5 n) n (bodyOf Try.f5) (lvOf Try.f5) (lvOf Try.f5).ret [1, 1, 0, 1, 0] ks k st (evBody.endK tab (c5 n) Try.f5)
theorem el5_1 (n : Nat) (k0 : Nat) : ∀ (k : Nat), ∀ (l0 : List (ByteArray × (Int × (Int × (Bool × (Int × (Int × (Int × (Int × (Int × Int)))))))))) (i1 : Int) (i2 : Int) (i3 : Int) (l4 : List (ByteArray × (Int × (Int × (Bool × (Int × (Int × (Int × (Int × (Int × Int)))))))))), ga5_1 n [k0] k (S5_1 l0 i1 i2 i3 l4) = lp5_1 n (fun w0 w1 w2 w3 => ga5_0 n [] k0 (S5_0 w0 w1 w2 w3)) k l0 i1 i2 i3 l4 := by
  intro k
  induction k with
  | zero => intros; rfl
  | succ k ih =>
    intro l0 i1 i2 i3 l4
    have h : ga5_1 n [k0] (k + 1) (S5_1 l0 i1 i2 i3 l4) = st5_1 n (fun w0 w1 w2 w3 => ga5_0 n [] k0 (S5_0 w0 w1 w2 w3)) (fun w0 w1 w2 w3 w4 => ga5_1 n [k0] k (S5_1 w0 w1 w2 w3 w4)) l0 i1 i2 i3 l4 := by kernel_rfl
    rw [h]
    have e : (fun w0 w1 w2 w3 w4 => ga5_1 n [k0] k (S5_1 w0 w1 w2 w3 w4)) = lp5_1 n (fun w0 w1 w2 w3 => ga5_0 n [] k0 (S5_0 w0 w1 w2 w3)) k := by
      funext w0 w1 w2 w3 w4; exact ih w0 w1 w2 w3 w4
    rw [e]
    rfl
theorem el5_0 (n : Nat) : ∀ (k : Nat), ∀ (l0 : List (ByteArray × (Int × (Int × (Bool × (Int × (Int × (Int × (Int × (Int × Int)))))))))) (i1 : Int) (i2 : Int) (l3 : List (ByteArray × (Int × (Int × (Bool × (Int × (Int × (Int × (Int × (Int × Int)))))))))), ga5_0 n [] k (S5_0 l0 i1 i2 l3) = lp5_0 n k l0 i1 i2 l3 := by
  intro k
  induction k with
  | zero => intros; rfl
  | succ k ih =>
    intro l0 i1 i2 l3
    have h : ga5_0 n [] (k + 1) (S5_0 l0 i1 i2 l3) = st5_0 n (fun w0 w1 w2 w3 w4 => ga5_1 n [k] n (S5_1 w0 w1 w2 w3 w4)) (fun w0 w1 w2 w3 => ga5_0 n [] k (S5_0 w0 w1 w2 w3)) l0 i1 i2 l3 := by kernel_rfl
    rw [h]
    have e1 : (fun w0 w1 w2 w3 w4 => ga5_1 n [k] n (S5_1 w0 w1 w2 w3 w4)) = lp5_1 n (fun w0 w1 w2 w3 => ga5_0 n [] k (S5_0 w0 w1 w2 w3)) n := by
      funext w0 w1 w2 w3 w4; exact el5_1 n k n w0 w1 w2 w3 w4
    have e : (fun w0 w1 w2 w3 => ga5_0 n [] k (S5_0 w0 w1 w2 w3)) = lp5_0 n k := by
      funext w0 w1 w2 w3; exact ih w0 w1 w2 w3
    rw [e1, e]
    rfl
theorem e5 (n : Nat) (x : List (ByteArray × (Int × (Int × (Bool × (Int × (Int × (Int × (Int × (Int × Int))))))))) × Int × Unit) : evBody tab (G5 n) n (c5 n) Try.f5 x = F5 n x.1 x.2.1 := by
  have h : evBody tab (G5 n) n (c5 n) Try.f5 x = st5 n (fun w0 w1 w2 w3 => ga5_0 n [] n (S5_0 w0 w1 w2 w3)) x.1 x.2.1 := by kernel_rfl
  rw [h]
  have e0 : (fun w0 w1 w2 w3 => ga5_0 n [] n (S5_0 w0 w1 w2 w3)) = lp5_0 n n := by
    funext w0 w1 w2 w3; exact el5_0 n n w0 w1 w2 w3
  rw [e0]
  rfl
theorem g5 (W : World) (n : Nat) : Good Try.prog W 5 (c5 n) := body_good follows tabOk (GamOk.cons (g12 W n) (GamOk.cons (g13 W n) GamOk.nil)) (f := 5) (fn := Try.f5) (c := bodyOf Try.f5) (by kernel_rfl) (by kernel_rfl) (by kernel_rfl) (by kernel_rfl) (by kernel_rfl) (by kernel_rfl) (by kernel_rfl) (fun x r h => ⟨n, (e5 n x).trans h⟩)
/-! cmp.isNaN[int] -/
noncomputable def F24 (n : Nat) (a0 : Int) : Option (Bool × Unit) :=
  some (decide (a0 ≠ a0), ())
noncomputable def c24 (n : Nat) : Con := ⟨[.one (.int .i64)], [], [.one (.bool)], [], fun (x : Int × Unit) => F24 n x.1⟩
noncomputable def G24 (n : Nat) : Gam := []
theorem e24 (n : Nat) (x : Int × Unit) : evBody tab (G24 n) n (c24 n) Try.f24 x = F24 n x.1 := by kernel_rfl
theorem g24 (W : World) (n : Nat) : Good Try.prog W 24 (c24 n) := body_good follows tabOk GamOk.nil (f := 24) (fn := Try.f24) (c := bodyOf Try.f24) (by kernel_rfl) (by kernel_rfl) (by kernel_rfl) (by kernel_rfl) (by kernel_rfl) (by kernel_rfl) (by kernel_rfl) (fun x r h => ⟨n, (e24 n x).trans h⟩)
/-! cmp.Compare[int] -/
noncomputable def F18 (n : Nat) (a0 : Int) (a1 : Int) : Option (Int × Unit) :=
  (F24 n a0).bind fun r1 =>
  (F24 n a1).bind fun r2 =>
  if r1.1 = true then
    if r2.1 = true then
      some (0, ())
    else
      some ((-1), ())
  else
    if r2.1 = true then
      some (1, ())
    else
      if (decide (a0 < a1)) = true then
        some ((-1), ())
      else
        if (decide (a0 > a1)) = true then
          some (1, ())
        else
          some (0, ())
noncomputable def c18 (n : Nat) : Con := ⟨[.one (.int .i64), .one (.int .i64)], [], [.one (.int .i64)], [], fun (x : Int × Int × Unit) => F18 n x.1 x.2.1⟩
noncomputable def G18 (n : Nat) : Gam := [((24, []), c24 n)]
theorem e18 (n : Nat) (x : Int × Int × Unit) : evBody tab (G18 n) n (c18 n) Try.f18 x = F18 n x.1 x.2.1 := by kernel_rfl
theorem g18 (W : World) (n : Nat) : Good Try.prog W 18 (c18 n) := body_good follows tabOk (GamOk.cons (g24 W n) GamOk.nil) (f := 18) (fn := Try.f18) (c := bodyOf Try.f18) (by kernel_rfl) (by kernel_rfl) (by kernel_rfl) (by kernel_rfl) (by kernel_rfl) (by kernel_rfl) (by kernel_rfl) (fun x r h => ⟨n, (e18 n x).trans h⟩)
/-! impl.Rank -/
noncomputable def F19 (n : Nat) (a0 : ByteArray) (a1 : Int) (a2 : Int) (a3 : Bool) (a4 : Int) (a5 : Int) (a6 : Int) (a7 : Int) (a8 : Int) (a9 : Int) : Option (Int × Unit) :=
  if (decide (a1 = 1)) = true then
    some (a2, ())
  else
    if (decide (a1 = 2)) = true then
      some (a4, ())
    else
      if (decide (a1 = 3)) = true then
        some (a8, ())
      else
        some (0, ())
noncomputable def c19 (n : Nat) : Con := ⟨[.agg [(.str), (.int .i64), (.int .i64), (.bool), (.int .i64), (.int .i64), (.int .i64), (.int .i64), (.int .i64), (.int .i64)]], [], [.one (.int .i64)], [], fun (x : ByteArray × Int × Int × Bool × Int × Int × Int × Int × Int × Int × Unit) => F19 n x.1 x.2.1 x.2.2.1 x.2.2.2.1 x.2.2.2.2.1 x.2.2.2.2.2.1 x.2.2.2.2.2.2.1 x.2.2.2.2.2.2.2.1 x.2.2.2.2.2.2.2.2.1 x.2.2.2.2.2.2.2.2.2.1⟩
noncomputable def G19 (n : Nat) : Gam := []
theorem e19 (n : Nat) (x : ByteArray × Int × Int × Bool × Int × Int × Int × Int × Int × Int × Unit) : evBody tab (G19 n) n (c19 n) Try.f19 x = F19 n x.1 x.2.1 x.2.2.1 x.2.2.2.1 x.2.2.2.2.1 x.2.2.2.2.2.1 x.2.2.2.2.2.2.1 x.2.2.2.2.2.2.2.1 x.2.2.2.2.2.2.2.2.1 x.2.2.2.2.2.2.2.2.2.1 := by kernel_rfl
theorem g19 (W : World) (n : Nat) : Good Try.prog W 19 (c19 n) := body_good follows tabOk GamOk.nil (f := 19) (fn := Try.f19) (c := bodyOf Try.f19) (by kernel_rfl) (by kernel_rfl) (by kernel_rfl) (by kernel_rfl) (by kernel_rfl) (by kernel_rfl) (by kernel_rfl) (fun x r h => ⟨n, (e19 n x).trans h⟩)
/-! impl.TopRows$1 -/
noncomputable def F17 (n : Nat) (a0 : ByteArray) (a1 : Int) (a2 : Int) (a3 : Bool) (a4 : Int) (a5 : Int) (a6 : Int) (a7 : Int) (a8 : Int) (a9 : Int) (a10 : ByteArray) (a11 : Int) (a12 : Int) (a13 : Bool) (a14 : Int) (a15 : Int) (a16 : Int) (a17 : Int) (a18 : Int) (a19 : Int) : Option (Int × Unit) :=
  (F19 n a10 a11 a12 a13 a14 a15 a16 a17 a18 a19).bind fun r1 =>
  (F19 n a0 a1 a2 a3 a4 a5 a6 a7 a8 a9).bind fun r2 =>
  (F18 n r1.1 r2.1).bind fun r3 =>
  some (r3.1, ())
noncomputable def c17 (n : Nat) : Con := ⟨[.agg [(.str), (.int .i64), (.int .i64), (.bool), (.int .i64), (.int .i64), (.int .i64), (.int .i64), (.int .i64), (.int .i64)], .agg [(.str), (.int .i64), (.int .i64), (.bool), (.int .i64), (.int .i64), (.int .i64), (.int .i64), (.int .i64), (.int .i64)]], [], [.one (.int .i64)], [], fun (x : ByteArray × Int × Int × Bool × Int × Int × Int × Int × Int × Int × ByteArray × Int × Int × Bool × Int × Int × Int × Int × Int × Int × Unit) => F17 n x.1 x.2.1 x.2.2.1 x.2.2.2.1 x.2.2.2.2.1 x.2.2.2.2.2.1 x.2.2.2.2.2.2.1 x.2.2.2.2.2.2.2.1 x.2.2.2.2.2.2.2.2.1 x.2.2.2.2.2.2.2.2.2.1 x.2.2.2.2.2.2.2.2.2.2.1 x.2.2.2.2.2.2.2.2.2.2.2.1 x.2.2.2.2.2.2.2.2.2.2.2.2.1 x.2.2.2.2.2.2.2.2.2.2.2.2.2.1 x.2.2.2.2.2.2.2.2.2.2.2.2.2.2.1 x.2.2.2.2.2.2.2.2.2.2.2.2.2.2.2.1 x.2.2.2.2.2.2.2.2.2.2.2.2.2.2.2.2.1 x.2.2.2.2.2.2.2.2.2.2.2.2.2.2.2.2.2.1 x.2.2.2.2.2.2.2.2.2.2.2.2.2.2.2.2.2.2.1 x.2.2.2.2.2.2.2.2.2.2.2.2.2.2.2.2.2.2.2.1⟩
noncomputable def G17 (n : Nat) : Gam := [((18, []), c18 n), ((19, []), c19 n)]
theorem e17 (n : Nat) (x : ByteArray × Int × Int × Bool × Int × Int × Int × Int × Int × Int × ByteArray × Int × Int × Bool × Int × Int × Int × Int × Int × Int × Unit) : evBody tab (G17 n) n (c17 n) Try.f17 x = F17 n x.1 x.2.1 x.2.2.1 x.2.2.2.1 x.2.2.2.2.1 x.2.2.2.2.2.1 x.2.2.2.2.2.2.1 x.2.2.2.2.2.2.2.1 x.2.2.2.2.2.2.2.2.1 x.2.2.2.2.2.2.2.2.2.1 x.2.2.2.2.2.2.2.2.2.2.1 x.2.2.2.2.2.2.2.2.2.2.2.1 x.2.2.2.2.2.2.2.2.2.2.2.2.1 x.2.2.2.2.2.2.2.2.2.2.2.2.2.1 x.2.2.2.2.2.2.2.2.2.2.2.2.2.2.1 x.2.2.2.2.2.2.2.2.2.2.2.2.2.2.2.1 x.2.2.2.2.2.2.2.2.2.2.2.2.2.2.2.2.1 x.2.2.2.2.2.2.2.2.2.2.2.2.2.2.2.2.2.1 x.2.2.2.2.2.2.2.2.2.2.2.2.2.2.2.2.2.2.1 x.2.2.2.2.2.2.2.2.2.2.2.2.2.2.2.2.2.2.2.1 := by kernel_rfl
theorem g17 (W : World) (n : Nat) : Good Try.prog W 17 (c17 n) := body_good follows tabOk (GamOk.cons (g18 W n) (GamOk.cons (g19 W n) GamOk.nil)) (f := 17) (fn := Try.f17) (c := bodyOf Try.f17) (by kernel_rfl) (by kernel_rfl) (by kernel_rfl) (by kernel_rfl) (by kernel_rfl) (by kernel_rfl) (by kernel_rfl) (fun x r h => ⟨n, (e17 n x).trans h⟩)
/-! impl.within -/
noncomputable def F20 (n : Nat) (a0 : Int) (a1 : Int) (a2 : Int) : Option (Bool × Unit) :=
  if (decide (a1 ≤ a0)) = true then
    some (decide (a0 ≤ a2), ())
  else
    some (false, ())
noncomputable def c20 (n : Nat) : Con := ⟨[.one (.int .i64), .one (.int .i64), .one (.int .i64)], [], [.one (.bool)], [], fun (x : Int × Int × Int × Unit) => F20 n x.1 x.2.1 x.2.2.1⟩
noncomputable def G20 (n : Nat) : Gam := []
theorem e20 (n : Nat) (x : Int × Int × Int × Unit) : evBody tab (G20 n) n (c20 n) Try.f20 x = F20 n x.1 x.2.1 x.2.2.1 := by kernel_rfl
theorem g20 (W : World) (n : Nat) : Good Try.prog W 20 (c20 n) := body_good follows tabOk GamOk.nil (f := 20) (fn := Try.f20) (c := bodyOf Try.f20) (by kernel_rfl) (by kernel_rfl) (by kernel_rfl) (by kernel_rfl) (by kernel_rfl) (by kernel_rfl) (by kernel_rfl) (fun x r h => ⟨n, (e20 n x).trans h⟩)
/-! laws.eqRow -/
noncomputable def F21 (n : Nat) (a0 : ByteArray) (a1 : Int) (a2 : Int) (a3 : Bool) (a4 : Int) (a5 : Int) (a6 : Int) (a7 : Int) (a8 : Int) (a9 : Int) (a10 : ByteArray) (a11 : Int) (a12 : Int) (a13 : Bool) (a14 : Int) (a15 : Int) (a16 : Int) (a17 : Int) (a18 : Int) (a19 : Int) : Option (Bool × Unit) :=
  if (!decide (a0.toList = a10.toList)) = true then
    some (false, ())
  else
    if (decide (a1 ≠ a11)) = true then
      some (false, ())
    else
      if (decide (a2 ≠ a12)) = true then
        some (false, ())
      else
        if (!(a3 == a13)) = true then
          some (false, ())
        else
          if (decide (a4 ≠ a14)) = true then
            some (false, ())
          else
            if (decide (a5 ≠ a15)) = true then
              some (false, ())
            else
              if (decide (a6 ≠ a16)) = true then
                some (false, ())
              else
                if (decide (a7 ≠ a17)) = true then
                  some (false, ())
                else
                  if (decide (a8 ≠ a18)) = true then
                    some (false, ())
                  else
                    if (decide (a9 ≠ a19)) = true then
                      some (false, ())
                    else
                      some (true, ())
noncomputable def c21 (n : Nat) : Con := ⟨[.agg [(.str), (.int .i64), (.int .i64), (.bool), (.int .i64), (.int .i64), (.int .i64), (.int .i64), (.int .i64), (.int .i64)], .agg [(.str), (.int .i64), (.int .i64), (.bool), (.int .i64), (.int .i64), (.int .i64), (.int .i64), (.int .i64), (.int .i64)]], [], [.one (.bool)], [], fun (x : ByteArray × Int × Int × Bool × Int × Int × Int × Int × Int × Int × ByteArray × Int × Int × Bool × Int × Int × Int × Int × Int × Int × Unit) => F21 n x.1 x.2.1 x.2.2.1 x.2.2.2.1 x.2.2.2.2.1 x.2.2.2.2.2.1 x.2.2.2.2.2.2.1 x.2.2.2.2.2.2.2.1 x.2.2.2.2.2.2.2.2.1 x.2.2.2.2.2.2.2.2.2.1 x.2.2.2.2.2.2.2.2.2.2.1 x.2.2.2.2.2.2.2.2.2.2.2.1 x.2.2.2.2.2.2.2.2.2.2.2.2.1 x.2.2.2.2.2.2.2.2.2.2.2.2.2.1 x.2.2.2.2.2.2.2.2.2.2.2.2.2.2.1 x.2.2.2.2.2.2.2.2.2.2.2.2.2.2.2.1 x.2.2.2.2.2.2.2.2.2.2.2.2.2.2.2.2.1 x.2.2.2.2.2.2.2.2.2.2.2.2.2.2.2.2.2.1 x.2.2.2.2.2.2.2.2.2.2.2.2.2.2.2.2.2.2.1 x.2.2.2.2.2.2.2.2.2.2.2.2.2.2.2.2.2.2.2.1⟩
noncomputable def G21 (n : Nat) : Gam := []
theorem e21 (n : Nat) (x : ByteArray × Int × Int × Bool × Int × Int × Int × Int × Int × Int × ByteArray × Int × Int × Bool × Int × Int × Int × Int × Int × Int × Unit) : evBody tab (G21 n) n (c21 n) Try.f21 x = F21 n x.1 x.2.1 x.2.2.1 x.2.2.2.1 x.2.2.2.2.1 x.2.2.2.2.2.1 x.2.2.2.2.2.2.1 x.2.2.2.2.2.2.2.1 x.2.2.2.2.2.2.2.2.1 x.2.2.2.2.2.2.2.2.2.1 x.2.2.2.2.2.2.2.2.2.2.1 x.2.2.2.2.2.2.2.2.2.2.2.1 x.2.2.2.2.2.2.2.2.2.2.2.2.1 x.2.2.2.2.2.2.2.2.2.2.2.2.2.1 x.2.2.2.2.2.2.2.2.2.2.2.2.2.2.1 x.2.2.2.2.2.2.2.2.2.2.2.2.2.2.2.1 x.2.2.2.2.2.2.2.2.2.2.2.2.2.2.2.2.1 x.2.2.2.2.2.2.2.2.2.2.2.2.2.2.2.2.2.1 x.2.2.2.2.2.2.2.2.2.2.2.2.2.2.2.2.2.2.1 x.2.2.2.2.2.2.2.2.2.2.2.2.2.2.2.2.2.2.2.1 := by kernel_rfl
theorem g21 (W : World) (n : Nat) : Good Try.prog W 21 (c21 n) := body_good follows tabOk GamOk.nil (f := 21) (fn := Try.f21) (c := bodyOf Try.f21) (by kernel_rfl) (by kernel_rfl) (by kernel_rfl) (by kernel_rfl) (by kernel_rfl) (by kernel_rfl) (by kernel_rfl) (fun x r h => ⟨n, (e21 n x).trans h⟩)
/-! laws.eqRowS -/
noncomputable def st8_0 (n : Nat) (g0 : (List (ByteArray × (Int × (Int × (Bool × (Int × (Int × (Int × (Int × (Int × Int)))))))))) → (List (ByteArray × (Int × (Int × (Bool × (Int × (Int × (Int × (Int × (Int × Int)))))))))) → Int → Option (Bool × Unit)) (l0 : List (ByteArray × (Int × (Int × (Bool × (Int × (Int × (Int × (Int × (Int × Int)))))))))) (l1 : List (ByteArray × (Int × (Int × (Bool × (Int × (Int × (Int × (Int × (Int × Int)))))))))) (i2 : Int) : Option (Bool × Unit) :=
  if (decide (i2 < (l0.length : Int))) = true then
    if (decide (0 ≤ i2)) = true then
    if (decide (i2 < (l0.length : Int))) = true then
    if (decide (0 ≤ i2)) = true then
    if (decide (i2 < (l1.length : Int))) = true then
    (F21 n ((rdOf ((⟨#[]⟩ : ByteArray), ((0 : Int), ((0 : Int), (false, ((0 : Int), ((0 : Int), ((0 : Int), ((0 : Int), ((0 : Int), (0 : Int)))))))))) l0 i2).1) (((rdOf ((⟨#[]⟩ : ByteArray), ((0 : Int), ((0 : Int), (false, ((0 : Int), ((0 : Int), ((0 : Int), ((0 : Int), ((0 : Int), (0 : Int)))))))))) l0 i2).2).1) ((((rdOf ((⟨#[]⟩ : ByteArray), ((0 : Int), ((0 : Int), (false, ((0 : Int), ((0 : Int), ((0 : Int), ((0 : Int), ((0 : Int), (0 : Int)))))))))) l0 i2).2).2).1) (((((rdOf ((⟨#[]⟩ : ByteArray), ((0 : Int), ((0 : Int), (false, ((0 : Int), ((0 : Int), ((0 : Int), ((0 : Int), ((0 : Int), (0 : Int)))))))))) l0 i2).2).2).2).1) ((((((rdOf ((⟨#[]⟩ : ByteArray), ((0 : Int), ((0 : Int), (false, ((0 : Int), ((0 : Int), ((0 : Int), ((0 : Int), ((0 : Int), (0 : Int)))))))))) l0 i2).2).2).2).2).1) (((((((rdOf ((⟨#[]⟩ : ByteArray), ((0 : Int), ((0 : Int), (false, ((0 : Int), ((0 : Int), ((0 : Int), ((0 : Int), ((0 : Int), (0 : Int)))))))))) l0 i2).2).2).2).2).2).1) ((((((((rdOf ((⟨#[]⟩ : ByteArray), ((0 : Int), ((0 : Int), (false, ((0 : Int), ((0 : Int), ((0 : Int), ((0 : Int), ((0 : Int), (0 : Int)))))))))) l0 i2).2).2).2).2).2).2).1) (((((((((rdOf ((⟨#[]⟩ : ByteArray), ((0 : Int), ((0 : Int), (false, ((0 : Int), ((0 : Int), ((0 : Int), ((0 : Int), ((0 : Int), (0 : Int)))))))))) l0 i2).2).2).2).2).2).2).2).1) ((((((((((rdOf ((⟨#[]⟩ : ByteArray), ((0 : Int), ((0 : Int), (false, ((0 : Int), ((0 : Int), ((0 : Int), ((0 : Int), ((0 : Int), (0 : Int)))))))))) l0 i2).2).2).2).2).2).2).2).2).1) ((((((((((rdOf ((⟨#[]⟩ : ByteArray), ((0 : Int), ((0 : Int), (false, ((0 : Int), ((0 : Int), ((0 : Int), ((0 : Int), ((0 : Int), (0 : Int)))))))))) l0 i2).2).2).2).2).2).2).2).2).2) ((rdOf ((⟨#[]⟩ : ByteArray), ((0 : Int), ((0 : Int), (false, ((0 : Int), ((0 : Int), ((0 : Int), ((0 : Int), ((0 : Int), (0 : Int)))))))))) l1 i2).1) (((rdOf ((⟨#[]⟩ : ByteArray), ((0 : Int), ((0 : Int), (false, ((0 : Int), ((0 : Int), ((0 : Int), ((0 : Int), ((0 : Int), (0 : Int)))))))))) l1 i2).2).1) ((((rdOf ((⟨#[]⟩ : ByteArray), ((0 : Int), ((0 : Int), (false, ((0 : Int), ((0 : Int), ((0 : Int), ((0 : Int), ((0 : Int), (0 : Int)))))))))) l1 i2).2).2).1) (((((rdOf ((⟨#[]⟩ : ByteArray), ((0 : Int), ((0 : Int), (false, ((0 : Int), ((0 : Int), ((0 : Int), ((0 : Int), ((0 : Int), (0 : Int)))))))))) l1 i2).2).2).2).1) ((((((rdOf ((⟨#[]⟩ : ByteArray), ((0 : Int), ((0 : Int), (false, ((0 : Int), ((0 : Int), ((0 : Int), ((0 : Int), ((0 : Int), (0 : Int)))))))))) l1 i2).2).2).2).2).1) (((((((rdOf ((⟨#[]⟩ : ByteArray), ((0 : Int), ((0 : Int), (false, ((0 : Int), ((0 : Int), ((0 : Int), ((0 : Int), ((0 : Int), (0 : Int)))))))))) l1 i2).2).2).2).2).2).1) ((((((((rdOf ((⟨#[]⟩ : ByteArray), ((0 : Int), ((0 : Int), (false, ((0 : Int), ((0 : Int), ((0 : Int), ((0 : Int), ((0 : Int), (0 : Int)))))))))) l1 i2).2).2).2).2).2).2).1) (((((((((rdOf ((⟨#[]⟩ : ByteArray), ((0 : Int), ((0 : Int), (false, ((0 : Int), ((0 : Int), ((0 : Int), ((0 : Int), ((0 : Int), (0 : Int)))))))))) l1 i2).2).2).2).2).2).2).2).1) ((((((((((rdOf ((⟨#[]⟩ : ByteArray), ((0 : Int), ((0 : Int), (false, ((0 : Int), ((0 : Int), ((0 : Int), ((0 : Int), ((0 : Int), (0 : Int)))))))))) l1 i2).2).2).2).2).2).2).2).2).1) ((((((((((rdOf ((⟨#[]⟩ : ByteArray), ((0 : Int), ((0 : Int), (false, ((0 : Int), ((0 : Int), ((0 : Int), ((0 : Int), ((0 : Int), (0 : Int)))))))))) l1 i2).2).2).2).2).2).2).2).2).2)).bind fun r1 =>
    if (!r1.1) = true then
      some (false, ())
    else
      g0 l0 l1 (wrap64 (i2 + 1))
    else none
    else none
    else none
    else none
  else
    some (true, ())
noncomputable def lp8_0 (n : Nat) : Nat → (List (ByteArray × (Int × (Int × (Bool × (Int × (Int × (Int × (Int × (Int × Int)))))))))) → (List (ByteArray × (Int × (Int × (Bool × (Int × (Int × (Int × (Int × (Int × Int)))))))))) → Int → Option (Bool × Unit)
  | 0 => fun _ _ _ => none
  | k + 1 => st8_0 n (lp8_0 n k)
noncomputable def st8 (n : Nat) (h0 : (List (ByteArray × (Int × (Int × (Bool × (Int × (Int × (Int × (Int × (Int × Int)))))))))) → (List (ByteArray × (Int × (Int × (Bool × (Int × (Int × (Int × (Int × (Int × Int)))))))))) → Int → Option (Bool × Unit)) (a0 : List (ByteArray × (Int × (Int × (Bool × (Int × (Int × (Int × (Int × (Int × Int)))))))))) (a1 : List (ByteArray × (Int × (Int × (Bool × (Int × (Int × (Int × (Int × (Int × Int)))))))))) : Option (Bool × Unit) :=
  if (decide ((a0.length : Int) ≠ (a1.length : Int))) = true then
    some (false, ())
  else
    h0 a0 a1 (0 : Int)
noncomputable def F8 (n : Nat) (a0 : List (ByteArray × (Int × (Int × (Bool × (Int × (Int × (Int × (Int × (Int × Int)))))))))) (a1 : List (ByteArray × (Int × (Int × (Bool × (Int × (Int × (Int × (Int × (Int × Int)))))))))) : Option (Bool × Unit) := st8 n (lp8_0 n n) a0 a1
noncomputable def c8 (n : Nat) : Con := ⟨[.one (.sl (.imm true) 34 (.pair .str (.pair (.int .i64) (.pair (.int .i64) (.pair .bool (.pair (.int .i64) (.pair (.int .i64) (.pair (.int .i64) (.pair (.int .i64) (.pair (.int .i64) (.int .i64))))))))))), .one (.sl (.imm true) 34 (.pair .str (.pair (.int .i64) (.pair (.int .i64) (.pair .bool (.pair (.int .i64) (.pair (.int .i64) (.pair (.int .i64) (.pair (.int .i64) (.pair (.int .i64) (.int .i64)))))))))))], [], [.one (.bool)], [], fun (x : List (ByteArray × (Int × (Int × (Bool × (Int × (Int × (Int × (Int × (Int × Int))))))))) × List (ByteArray × (Int × (Int × (Bool × (Int × (Int × (Int × (Int × (Int × Int))))))))) × Unit) => F8 n x.1 x.2.1⟩
noncomputable def G8 (n : Nat) : Gam := [((21, []), c21 n)]
noncomputable def S8_0 (l0 : List (ByteArray × (Int × (Int × (Bool × (Int × (Int × (Int × (Int × (Int × Int)))))))))) (l1 : List (ByteArray × (Int × (Int × (Bool × (Int × (Int × (Int × (Int × (Int × Int)))))))))) (i2 : Int) : St := ⟨[.sl (.imm true) 34 (.pair .str (.pair (.int .i64) (.pair (.int .i64) (.pair .bool (.pair (.int .i64) (.pair (.int .i64) (.pair (.int .i64) (.pair (.int .i64) (.pair (.int .i64) (.int .i64)))))))))) l0, .sl (.imm true) 34 (.pair .str (.pair (.int .i64) (.pair (.int .i64) (.pair .bool (.pair (.int .i64) (.pair (.int .i64) (.pair (.int .i64) (.pair (.int .i64) (.pair (.int .i64) (.int .i64)))))))))) l1, .dead, .dead, .dead, .int .i64 i2] ++ List.replicate 21 .dead, List.replicate 27 Ob.none⟩
noncomputable def ga8_0 (n : Nat) (ks : List Nat) (k : Nat) (st : St) : Option (Bool × Unit) := goAt tab (G8 n) n (bodyOf Try.f8) (lvOf Try.f8) (lvOf Try.f8).ret [1, 1, 0, 1, 0] ks k st (evBody.endK tab (c8 n) Try.f8)
theorem el8_0 (n : Nat) : ∀ (k : Nat), ∀ (l0 : List (ByteArray × (Int × (Int × (Bool × (Int × (Int × (Int × (Int × (Int × Int)))))))))) (l1 : List (ByteArray × (Int × (Int × (Bool × (Int × (Int × (Int × (Int × (Int × Int)))))))))) (i2 : Int), ga8_0 n [] k (S8_0 l0 l1 i2) = lp8_0 n k l0 l1 i2 := by
  intro k
  induction k with
  | zero => intros; rfl
  | succ k ih =>
    intro l0 l1 i2
    have h : ga8_0 n [] (k + 1) (S8_0 l0 l1 i2) = st8_0 n (fun w0 w1 w2 => ga8_0 n [] k (S8_0 w0 w1 w2)) l0 l1 i2 := by kernel_rfl
    rw [h]
    have e : (fun w0 w1 w2 => ga8_0 n [] k (S8_0 w0 w1 w2)) = lp8_0 n k := by
      funext w0 w1 w2; exact ih w0 w1 w2
    rw [e]
    rfl
theorem e8 (n : Nat) (x : List (ByteArray × (Int × (Int × (Bool × (Int × (Int × (Int × (Int × (Int × Int))))))))) × List (ByteArray × (Int × (Int × (Bool × (Int × (Int × (Int × (Int × (Int × Int))))))))) × Unit) : evBody tab (G8 n) n (c8 n) Try.f8 x = F8 n x.1 x.2.1 := by
  have h : evBody tab (G8 n) n (c8 n) Try.f8 x = st8 n (fun w0 w1 w2 => ga8_0 n [] n (S8_0 w0 w1 w2)) x.1 x.2.1 := by kernel_rfl
  rw [h]
  have e0 : (fun w0 w1 w2 => ga8_0 n [] n (S8_0 w0 w1 w2)) = lp8_0 n n := by
    funext w0 w1 w2; exact el8_0 n n w0 w1 w2
  rw [e0]
  rfl
theorem g8 (W : World) (n : Nat) : Good Try.prog W 8 (c8 n) := body_good follows tabOk (GamOk.cons (g21 W n) GamOk.nil) (f := 8) (fn := Try.f8) (c := bodyOf Try.f8) (by kernel_rfl) (by kernel_rfl) (by kernel_rfl) (by kernel_rfl) (by kernel_rfl) (by kernel_rfl) (by kernel_rfl) (fun x r h => ⟨n, (e8 n x).trans h⟩)
/-! laws.markText -/
noncomputable def st22_0 (n : Nat) (g0 : Int → ByteArray → Option (ByteArray × Unit)) (i0 : Int) (s1 : ByteArray) : Option (ByteArray × Unit) :=
  if (decide (i0 > 0)) = true then
    if (decide (10 ≠ 0)) = true then
    if (decide (((strOf ([(wrapI .u8 ((wrap64 (48 + (i0.tmod (10 : Int))))))] : List Int)).size + s1.size : Nat) ≤ 9223372036854775807)) = true then
    if (decide (10 ≠ 0)) = true then
    g0 (wrap64 (i0.tdiv (10 : Int))) ((strOf ([(wrapI .u8 ((wrap64 (48 + (i0.tmod (10 : Int))))))] : List Int)) ++ s1)
    else none
    else none
    else none
  else
    if (decide (((⟨#[109]⟩ : ByteArray).size + s1.size : Nat) ≤ 9223372036854775807)) = true then
    some (((⟨#[109]⟩ : ByteArray) ++ s1), ())
    else none
noncomputable def lp22_0 (n : Nat) : Nat → Int → ByteArray → Option (ByteArray × Unit)
  | 0 => fun _ _ => none
  | k + 1 => st22_0 n (lp22_0 n k)
noncomputable def st22 (n : Nat) (h0 : Int → ByteArray → Option (ByteArray × Unit)) (a0 : Int) : Option (ByteArray × Unit) :=
  if (decide (a0 ≤ 0)) = true then
    some ((⟨#[109, 48]⟩ : ByteArray), ())
  else
    h0 a0 (⟨#[]⟩ : ByteArray)
noncomputable def F22 (n : Nat) (a0 : Int) : Option (ByteArray × Unit) := st22 n (lp22_0 n n) a0
noncomputable def c22 (n : Nat) : Con := ⟨[.one (.int .i64)], [], [.one (.str)], [], fun (x : Int × Unit) => F22 n x.1⟩
noncomputable def G22 (n : Nat) : Gam := []
noncomputable def S22_0 (i0 : Int) (s1 : ByteArray) : St := ⟨[.int .i64 i0, .dead, .dead, .str s1] ++ List.replicate 16 .dead, List.replicate 20 Ob.none⟩
noncomputable def ga22_0 (n : Nat) (ks : List Nat) (k : Nat) (st : St) : Option (ByteArray × Unit) := goAt tab (G22 n) n (bodyOf Try.f22) (lvOf Try.f22) (lvOf Try.f22).ret [1, 1, 1, 0, 0] ks k st (evBody.endK tab (c22 n) Try.f22)
theorem el22_0 (n : Nat) : ∀ (k : Nat), ∀ (i0 : Int) (s1 : ByteArray), ga22_0 n [] k (S22_0 i0 s1) = lp22_0 n k i0 s1 := by
  intro k
  induction k with
  | zero => intros; rfl
  | succ k ih =>
    intro i0 s1
    have h : ga22_0 n [] (k + 1) (S22_0 i0 s1) = st22_0 n (fun w0 w1 => ga22_0 n [] k (S22_0 w0 w1)) i0 s1 := by kernel_rfl
    rw [h]
    have e : (fun w0 w1 => ga22_0 n [] k (S22_0 w0 w1)) = lp22_0 n k := by
      funext w0 w1; exact ih w0 w1
    rw [e]
    rfl
theorem e22 (n : Nat) (x : Int × Unit) : evBody tab (G22 n) n (c22 n) Try.f22 x = F22 n x.1 := by
  have h : evBody tab (G22 n) n (c22 n) Try.f22 x = st22 n (fun w0 w1 => ga22_0 n [] n (S22_0 w0 w1)) x.1 := by kernel_rfl
  rw [h]
  have e0 : (fun w0 w1 => ga22_0 n [] n (S22_0 w0 w1)) = lp22_0 n n := by
    funext w0 w1; exact el22_0 n n w0 w1
  rw [e0]
  rfl
theorem g22 (W : World) (n : Nat) : Good Try.prog W 22 (c22 n) := body_good follows tabOk GamOk.nil (f := 22) (fn := Try.f22) (c := bodyOf Try.f22) (by kernel_rfl) (by kernel_rfl) (by kernel_rfl) (by kernel_rfl) (by kernel_rfl) (by kernel_rfl) (by kernel_rfl) (fun x r h => ⟨n, (e22 n x).trans h⟩)
/-! laws.heldRowS -/
noncomputable def st10_0 (n : Nat) (g0 : (List (ByteArray × (Int × (Int × (Bool × (Int × (Int × (Int × (Int × (Int × Int)))))))))) → Int → Int → Option (Int × Unit)) (l0 : List (ByteArray × (Int × (Int × (Bool × (Int × (Int × (Int × (Int × (Int × Int)))))))))) (i1 : Int) (i2 : Int) : Option (Int × Unit) :=
  if (decide (i2 < (l0.length : Int))) = true then
    if (decide (0 ≤ i2)) = true then
    if (decide (i2 < (l0.length : Int))) = true then
    (F22 n i1).bind fun r1 =>
    if (!decide (((rdOf ((⟨#[]⟩ : ByteArray), ((0 : Int), ((0 : Int), (false, ((0 : Int), ((0 : Int), ((0 : Int), ((0 : Int), ((0 : Int), (0 : Int)))))))))) l0 i2).1).toList = r1.1.toList)) = true then
      some ((-1), ())
    else
      if (decide (0 ≤ i2)) = true then
      if (decide (i2 < (l0.length : Int))) = true then
      if (decide (((rdOf ((⟨#[]⟩ : ByteArray), ((0 : Int), ((0 : Int), (false, ((0 : Int), ((0 : Int), ((0 : Int), ((0 : Int), ((0 : Int), (0 : Int)))))))))) l0 i2).2).1 ≠ (wrap64 (i1 + 1)))) = true then
        some ((-1), ())
      else
        if (decide (0 ≤ i2)) = true then
        if (decide (i2 < (l0.length : Int))) = true then
        if (decide ((((rdOf ((⟨#[]⟩ : ByteArray), ((0 : Int), ((0 : Int), (false, ((0 : Int), ((0 : Int), ((0 : Int), ((0 : Int), ((0 : Int), (0 : Int)))))))))) l0 i2).2).2).1 ≠ (wrap64 ((wrap64 (i1 + 1)) + 1)))) = true then
          some ((-1), ())
        else
          if (decide (0 ≤ i2)) = true then
          if (decide (i2 < (l0.length : Int))) = true then
          if (decide (3 ≠ 0)) = true then
          if (!((((((rdOf ((⟨#[]⟩ : ByteArray), ((0 : Int), ((0 : Int), (false, ((0 : Int), ((0 : Int), ((0 : Int), ((0 : Int), ((0 : Int), (0 : Int)))))))))) l0 i2).2).2).2).1) == (decide (((wrap64 ((wrap64 ((wrap64 (i1 + 1)) + 1)) + 1)).tmod (3 : Int)) = 0)))) = true then
            some ((-1), ())
          else
            if (decide (0 ≤ i2)) = true then
            if (decide (i2 < (l0.length : Int))) = true then
            if (decide ((((((rdOf ((⟨#[]⟩ : ByteArray), ((0 : Int), ((0 : Int), (false, ((0 : Int), ((0 : Int), ((0 : Int), ((0 : Int), ((0 : Int), (0 : Int)))))))))) l0 i2).2).2).2).2).1 ≠ (wrap64 ((wrap64 ((wrap64 ((wrap64 (i1 + 1)) + 1)) + 1)) + 1)))) = true then
              some ((-1), ())
            else
              if (decide (0 ≤ i2)) = true then
              if (decide (i2 < (l0.length : Int))) = true then
              if (decide (((((((rdOf ((⟨#[]⟩ : ByteArray), ((0 : Int), ((0 : Int), (false, ((0 : Int), ((0 : Int), ((0 : Int), ((0 : Int), ((0 : Int), (0 : Int)))))))))) l0 i2).2).2).2).2).2).1 ≠ (wrap64 ((wrap64 ((wrap64 ((wrap64 ((wrap64 (i1 + 1)) + 1)) + 1)) + 1)) + 1)))) = true then
                some ((-1), ())
              else
                if (decide (0 ≤ i2)) = true then
                if (decide (i2 < (l0.length : Int))) = true then
                if (decide ((((((((rdOf ((⟨#[]⟩ : ByteArray), ((0 : Int), ((0 : Int), (false, ((0 : Int), ((0 : Int), ((0 : Int), ((0 : Int), ((0 : Int), (0 : Int)))))))))) l0 i2).2).2).2).2).2).2).1 ≠ (wrap64 ((wrap64 ((wrap64 ((wrap64 ((wrap64 ((wrap64 (i1 + 1)) + 1)) + 1)) + 1)) + 1)) + 1)))) = true then
                  some ((-1), ())
                else
                  if (decide (0 ≤ i2)) = true then
                  if (decide (i2 < (l0.length : Int))) = true then
                  if (decide (((((((((rdOf ((⟨#[]⟩ : ByteArray), ((0 : Int), ((0 : Int), (false, ((0 : Int), ((0 : Int), ((0 : Int), ((0 : Int), ((0 : Int), (0 : Int)))))))))) l0 i2).2).2).2).2).2).2).2).1 ≠ (wrap64 ((wrap64 ((wrap64 ((wrap64 ((wrap64 ((wrap64 ((wrap64 (i1 + 1)) + 1)) + 1)) + 1)) + 1)) + 1)) + 1)))) = true then
                    some ((-1), ())
                  else
                    if (decide (0 ≤ i2)) = true then
                    if (decide (i2 < (l0.length : Int))) = true then
                    if (decide ((((((((((rdOf ((⟨#[]⟩ : ByteArray), ((0 : Int), ((0 : Int), (false, ((0 : Int), ((0 : Int), ((0 : Int), ((0 : Int), ((0 : Int), (0 : Int)))))))))) l0 i2).2).2).2).2).2).2).2).2).1 ≠ (wrap64 ((wrap64 ((wrap64 ((wrap64 ((wrap64 ((wrap64 ((wrap64 ((wrap64 (i1 + 1)) + 1)) + 1)) + 1)) + 1)) + 1)) + 1)) + 1)))) = true then
                      some ((-1), ())
                    else
                      if (decide (0 ≤ i2)) = true then
                      if (decide (i2 < (l0.length : Int))) = true then
                      if (decide ((((((((((rdOf ((⟨#[]⟩ : ByteArray), ((0 : Int), ((0 : Int), (false, ((0 : Int), ((0 : Int), ((0 : Int), ((0 : Int), ((0 : Int), (0 : Int)))))))))) l0 i2).2).2).2).2).2).2).2).2).2 ≠ (wrap64 ((wrap64 ((wrap64 ((wrap64 ((wrap64 ((wrap64 ((wrap64 ((wrap64 ((wrap64 (i1 + 1)) + 1)) + 1)) + 1)) + 1)) + 1)) + 1)) + 1)) + 1)))) = true then
                        some ((-1), ())
                      else
                        g0 l0 (wrap64 ((wrap64 ((wrap64 ((wrap64 ((wrap64 ((wrap64 ((wrap64 ((wrap64 ((wrap64 ((wrap64 (i1 + 1)) + 1)) + 1)) + 1)) + 1)) + 1)) + 1)) + 1)) + 1)) + 1)) (wrap64 (i2 + 1))
                      else none
                      else none
                    else none
                    else none
                  else none
                  else none
                else none
                else none
              else none
              else none
            else none
            else none
          else none
          else none
          else none
        else none
        else none
      else none
      else none
    else none
    else none
  else
    some (i1, ())
noncomputable def lp10_0 (n : Nat) : Nat → (List (ByteArray × (Int × (Int × (Bool × (Int × (Int × (Int × (Int × (Int × Int)))))))))) → Int → Int → Option (Int × Unit)
  | 0 => fun _ _ _ => none
  | k + 1 => st10_0 n (lp10_0 n k)
noncomputable def st10 (n : Nat) (h0 : (List (ByteArray × (Int × (Int × (Bool × (Int × (Int × (Int × (Int × (Int × Int)))))))))) → Int → Int → Option (Int × Unit)) (a0 : List (ByteArray × (Int × (Int × (Bool × (Int × (Int × (Int × (Int × (Int × Int)))))))))) (a1 : Int) : Option (Int × Unit) :=
  h0 a0 a1 (0 : Int)
noncomputable def F10 (n : Nat) (a0 : List (ByteArray × (Int × (Int × (Bool × (Int × (Int × (Int × (Int × (Int × Int)))))))))) (a1 : Int) : Option (Int × Unit) := st10 n (lp10_0 n n) a0 a1
noncomputable def c10 (n : Nat) : Con := ⟨[.one (.sl (.imm true) 34 (.pair .str (.pair (.int .i64) (.pair (.int .i64) (.pair .bool (.pair (.int .i64) (.pair (.int .i64) (.pair (.int .i64) (.pair (.int .i64) (.pair (.int .i64) (.int .i64))))))))))), .one (.int .i64)], [], [.one (.int .i64)], [], fun (x : List (ByteArray × (Int × (Int × (Bool × (Int × (Int × (Int × (Int × (Int × Int))))))))) × Int × Unit) => F10 n x.1 x.2.1⟩
noncomputable def G10 (n : Nat) : Gam := [((22, []), c22 n)]
noncomputable def S10_0 (l0 : List (ByteArray × (Int × (Int × (Bool × (Int × (Int × (Int × (Int × (Int × Int)))))))))) (i1 : Int) (i2 : Int) : St := ⟨[.sl (.imm true) 34 (.pair .str (.pair (.int .i64) (.pair (.int .i64) (.pair .bool (.pair (.int .i64) (.pair (.int .i64) (.pair (.int .i64) (.pair (.int .i64) (.pair (.int .i64) (.int .i64)))))))))) l0, .int .i64 i1, .dead, .dead, .dead, .int .i64 i2] ++ List.replicate 100 .dead, List.replicate 106 Ob.none⟩
noncomputable def ga10_0 (n : Nat) (ks : List Nat) (k : Nat) (st : St) : Option (Int × Unit) := goAt tab (G10 n) n (bodyOf Try.f10) (lvOf Try.f10) (lvOf Try.f10).ret [1, 0, 1, 0] ks k st (evBody.endK tab (c10 n) Try.f10)
theorem el10_0 (n : Nat) : ∀ (k : Nat), ∀ (l0 : List (ByteArray × (Int × (Int × (Bool × (Int × (Int × (Int × (Int × (Int × Int)))))))))) (i1 : Int) (i2 : Int), ga10_0 n [] k (S10_0 l0 i1 i2) = lp10_0 n k l0 i1 i2 := by
  intro k
  induction k with
  | zero => intros; rfl
  | succ k ih =>
    intro l0 i1 i2
    have h : ga10_0 n [] (k + 1) (S10_0 l0 i1 i2) = st10_0 n (fun w0 w1 w2 => ga10_0 n [] k (S10_0 w0 w1 w2)) l0 i1 i2 := by kernel_rfl
    rw [h]
    have e : (fun w0 w1 w2 => ga10_0 n [] k (S10_0 w0 w1 w2)) = lp10_0 n k := by
      funext w0 w1 w2; exact ih w0 w1 w2
    rw [e]
    rfl
theorem e10 (n : Nat) (x : List (ByteArray × (Int × (Int × (Bool × (Int × (Int × (Int × (Int × (Int × Int))))))))) × Int × Unit) : evBody tab (G10 n) n (c10 n) Try.f10 x = F10 n x.1 x.2.1 := by
  have h : evBody tab (G10 n) n (c10 n) Try.f10 x = st10 n (fun w0 w1 w2 => ga10_0 n [] n (S10_0 w0 w1 w2)) x.1 x.2.1 := by kernel_rfl
  rw [h]
  have e0 : (fun w0 w1 w2 => ga10_0 n [] n (S10_0 w0 w1 w2)) = lp10_0 n n := by
    funext w0 w1 w2; exact el10_0 n n w0 w1 w2
  rw [e0]
  rfl
theorem g10 (W : World) (n : Nat) : Good Try.prog W 10 (c10 n) := body_good follows tabOk (GamOk.cons (g22 W n) GamOk.nil) (f := 10) (fn := Try.f10) (c := bodyOf Try.f10) (by kernel_rfl) (by kernel_rfl) (by kernel_rfl) (by kernel_rfl) (by kernel_rfl) (by kernel_rfl) (by kernel_rfl) (fun x r h => ⟨n, (e10 n x).trans h⟩)
/-! laws.szRow -/
noncomputable def F11 (n : Nat) (a0 : ByteArray) (a1 : Int) (a2 : Int) (a3 : Bool) (a4 : Int) (a5 : Int) (a6 : Int) (a7 : Int) (a8 : Int) (a9 : Int) (a10 : Int) : Option (Int × Unit) :=
  if (decide ((wrap64 (a10 - (a0.size : Int))) < 0)) = true then
    some ((-1), ())
  else
    some ((wrap64 (a10 - (a0.size : Int))), ())
noncomputable def c11 (n : Nat) : Con := ⟨[.agg [(.str), (.int .i64), (.int .i64), (.bool), (.int .i64), (.int .i64), (.int .i64), (.int .i64), (.int .i64), (.int .i64)], .one (.int .i64)], [], [.one (.int .i64)], [], fun (x : ByteArray × Int × Int × Bool × Int × Int × Int × Int × Int × Int × Int × Unit) => F11 n x.1 x.2.1 x.2.2.1 x.2.2.2.1 x.2.2.2.2.1 x.2.2.2.2.2.1 x.2.2.2.2.2.2.1 x.2.2.2.2.2.2.2.1 x.2.2.2.2.2.2.2.2.1 x.2.2.2.2.2.2.2.2.2.1 x.2.2.2.2.2.2.2.2.2.2.1⟩
noncomputable def G11 (n : Nat) : Gam := []
theorem e11 (n : Nat) (x : ByteArray × Int × Int × Bool × Int × Int × Int × Int × Int × Int × Int × Unit) : evBody tab (G11 n) n (c11 n) Try.f11 x = F11 n x.1 x.2.1 x.2.2.1 x.2.2.2.1 x.2.2.2.2.1 x.2.2.2.2.2.1 x.2.2.2.2.2.2.1 x.2.2.2.2.2.2.2.1 x.2.2.2.2.2.2.2.2.1 x.2.2.2.2.2.2.2.2.2.1 x.2.2.2.2.2.2.2.2.2.2.1 := by kernel_rfl
theorem g11 (W : World) (n : Nat) : Good Try.prog W 11 (c11 n) := body_good follows tabOk GamOk.nil (f := 11) (fn := Try.f11) (c := bodyOf Try.f11) (by kernel_rfl) (by kernel_rfl) (by kernel_rfl) (by kernel_rfl) (by kernel_rfl) (by kernel_rfl) (by kernel_rfl) (fun x r h => ⟨n, (e11 n x).trans h⟩)
/-! laws.szRowS -/
noncomputable def st4_0 (n : Nat) (g0 : (List (ByteArray × (Int × (Int × (Bool × (Int × (Int × (Int × (Int × (Int × Int)))))))))) → Int → Int → Option (Int × Unit)) (l0 : List (ByteArray × (Int × (Int × (Bool × (Int × (Int × (Int × (Int × (Int × Int)))))))))) (i1 : Int) (i2 : Int) : Option (Int × Unit) :=
  if (decide (i2 < (l0.length : Int))) = true then
    if (decide (0 ≤ i2)) = true then
    if (decide (i2 < (l0.length : Int))) = true then
    (F11 n ((rdOf ((⟨#[]⟩ : ByteArray), ((0 : Int), ((0 : Int), (false, ((0 : Int), ((0 : Int), ((0 : Int), ((0 : Int), ((0 : Int), (0 : Int)))))))))) l0 i2).1) (((rdOf ((⟨#[]⟩ : ByteArray), ((0 : Int), ((0 : Int), (false, ((0 : Int), ((0 : Int), ((0 : Int), ((0 : Int), ((0 : Int), (0 : Int)))))))))) l0 i2).2).1) ((((rdOf ((⟨#[]⟩ : ByteArray), ((0 : Int), ((0 : Int), (false, ((0 : Int), ((0 : Int), ((0 : Int), ((0 : Int), ((0 : Int), (0 : Int)))))))))) l0 i2).2).2).1) (((((rdOf ((⟨#[]⟩ : ByteArray), ((0 : Int), ((0 : Int), (false, ((0 : Int), ((0 : Int), ((0 : Int), ((0 : Int), ((0 : Int), (0 : Int)))))))))) l0 i2).2).2).2).1) ((((((rdOf ((⟨#[]⟩ : ByteArray), ((0 : Int), ((0 : Int), (false, ((0 : Int), ((0 : Int), ((0 : Int), ((0 : Int), ((0 : Int), (0 : Int)))))))))) l0 i2).2).2).2).2).1) (((((((rdOf ((⟨#[]⟩ : ByteArray), ((0 : Int), ((0 : Int), (false, ((0 : Int), ((0 : Int), ((0 : Int), ((0 : Int), ((0 : Int), (0 : Int)))))))))) l0 i2).2).2).2).2).2).1) ((((((((rdOf ((⟨#[]⟩ : ByteArray), ((0 : Int), ((0 : Int), (false, ((0 : Int), ((0 : Int), ((0 : Int), ((0 : Int), ((0 : Int), (0 : Int)))))))))) l0 i2).2).2).2).2).2).2).1) (((((((((rdOf ((⟨#[]⟩ : ByteArray), ((0 : Int), ((0 : Int), (false, ((0 : Int), ((0 : Int), ((0 : Int), ((0 : Int), ((0 : Int), (0 : Int)))))))))) l0 i2).2).2).2).2).2).2).2).1) ((((((((((rdOf ((⟨#[]⟩ : ByteArray), ((0 : Int), ((0 : Int), (false, ((0 : Int), ((0 : Int), ((0 : Int), ((0 : Int), ((0 : Int), (0 : Int)))))))))) l0 i2).2).2).2).2).2).2).2).2).1) ((((((((((rdOf ((⟨#[]⟩ : ByteArray), ((0 : Int), ((0 : Int), (false, ((0 : Int), ((0 : Int), ((0 : Int), ((0 : Int), ((0 : Int), (0 : Int)))))))))) l0 i2).2).2).2).2).2).2).2).2).2) i1).bind fun r1 =>
    if (decide (r1.1 < 0)) = true then
      some ((-1), ())
    else
      g0 l0 r1.1 (wrap64 (i2 + 1))
    else none
    else none
  else
    some (i1, ())
noncomputable def lp4_0 (n : Nat) : Nat → (List (ByteArray × (Int × (Int × (Bool × (Int × (Int × (Int × (Int × (Int × Int)))))))))) → Int → Int → Option (Int × Unit)
  | 0 => fun _ _ _ => none
  | k + 1 => st4_0 n (lp4_0 n k)
noncomputable def st4 (n : Nat) (h0 : (List (ByteArray × (Int × (Int × (Bool × (Int × (Int × (Int × (Int × (Int × Int)))))))))) → Int → Int → Option (Int × Unit)) (a0 : List (ByteArray × (Int × (Int × (Bool × (Int × (Int × (Int × (Int × (Int × Int)))))))))) (a1 : Int) : Option (Int × Unit) :=
  if (decide ((wrap64 (a1 - (a0.length : Int))) < 0)) = true then
    some ((-1), ())
  else
    h0 a0 (wrap64 (a1 - (a0.length : Int))) (0 : Int)
noncomputable def F4 (n : Nat) (a0 : List (ByteArray × (Int × (Int × (Bool × (Int × (Int × (Int × (Int × (Int × Int)))))))))) (a1 : Int) : Option (Int × Unit) := st4 n (lp4_0 n n) a0 a1
noncomputable def c4 (n : Nat) : Con := ⟨[.one (.sl (.imm true) 32 (.pair .str (.pair (.int .i64) (.pair (.int .i64) (.pair .bool (.pair (.int .i64) (.pair (.int .i64) (.pair (.int .i64) (.pair (.int .i64) (.pair (.int .i64) (.int .i64))))))))))), .one (.int .i64)], [], [.one (.int .i64)], [], fun (x : List (ByteArray × (Int × (Int × (Bool × (Int × (Int × (Int × (Int × (Int × Int))))))))) × Int × Unit) => F4 n x.1 x.2.1⟩
noncomputable def G4 (n : Nat) : Gam := [((11, []), c11 n)]
noncomputable def S4_0 (l0 : List (ByteArray × (Int × (Int × (Bool × (Int × (Int × (Int × (Int × (Int × Int)))))))))) (i1 : Int) (i2 : Int) : St := ⟨[.sl (.imm true) 32 (.pair .str (.pair (.int .i64) (.pair (.int .i64) (.pair .bool (.pair (.int .i64) (.pair (.int .i64) (.pair (.int .i64) (.pair (.int .i64) (.pair (.int .i64) (.int .i64)))))))))) l0, .int .i64 i1, .dead, .dead, .dead, .int .i64 i2] ++ List.replicate 21 .dead, List.replicate 27 Ob.none⟩
noncomputable def ga4_0 (n : Nat) (ks : List Nat) (k : Nat) (st : St) : Option (Int × Unit) := goAt tab (G4 n) n (bodyOf Try.f4) (lvOf Try.f4) (lvOf Try.f4).ret [1, 1, 1, 0, 1, 0] ks k st (evBody.endK tab (c4 n) Try.f4)
theorem el4_0 (n : Nat) : ∀ (k : Nat), ∀ (l0 : List (ByteArray × (Int × (Int × (Bool × (Int × (Int × (Int × (Int × (Int × Int)))))))))) (i1 : Int) (i2 : Int), ga4_0 n [] k (S4_0 l0 i1 i2) = lp4_0 n k l0 i1 i2 := by
  intro k
  induction k with
  | zero => intros; rfl
  | succ k ih =>
    intro l0 i1 i2
    have h : ga4_0 n [] (k + 1) (S4_0 l0 i1 i2) = st4_0 n (fun w0 w1 w2 => ga4_0 n [] k (S4_0 w0 w1 w2)) l0 i1 i2 := by kernel_rfl
    rw [h]
    have e : (fun w0 w1 w2 => ga4_0 n [] k (S4_0 w0 w1 w2)) = lp4_0 n k := by
      funext w0 w1 w2; exact ih w0 w1 w2
    rw [e]
    rfl
theorem e4 (n : Nat) (x : List (ByteArray × (Int × (Int × (Bool × (Int × (Int × (Int × (Int × (Int × Int))))))))) × Int × Unit) : evBody tab (G4 n) n (c4 n) Try.f4 x = F4 n x.1 x.2.1 := by
  have h : evBody tab (G4 n) n (c4 n) Try.f4 x = st4 n (fun w0 w1 w2 => ga4_0 n [] n (S4_0 w0 w1 w2)) x.1 x.2.1 := by kernel_rfl
  rw [h]
  have e0 : (fun w0 w1 w2 => ga4_0 n [] n (S4_0 w0 w1 w2)) = lp4_0 n n := by
    funext w0 w1 w2; exact el4_0 n n w0 w1 w2
  rw [e0]
  rfl
theorem g4 (W : World) (n : Nat) : Good Try.prog W 4 (c4 n) := body_good follows tabOk (GamOk.cons (g11 W n) GamOk.nil) (f := 4) (fn := Try.f4) (c := bodyOf Try.f4) (by kernel_rfl) (by kernel_rfl) (by kernel_rfl) (by kernel_rfl) (by kernel_rfl) (by kernel_rfl) (by kernel_rfl) (fun x r h => ⟨n, (e4 n x).trans h⟩)
end Go.Eva
end
section
/- The functions, as their texts evaluate. -/
set_option linter.unusedVariables false
set_option maxRecDepth 100000
namespace Go.Eva
open Go.Proofs
open Go.RowKit (wrap64)
/-! laws.toRow -/
noncomputable def F14 (n : Nat) (a0 : ByteArray) (a1 : Int) (a2 : Int) (a3 : Bool) (a4 : Int) (a5 : Int) (a6 : Int) (a7 : Int) (a8 : Int) (a9 : Int) : Option (ByteArray × Int × Int × Bool × Int × Int × Int × Int × Int × Int × Unit) :=
  some (a0, a1, a2, a3, a4, a5, a6, a7, a8, a9, ())
noncomputable def c14 (n : Nat) : Con := ⟨[.agg [(.str), (.int .i64), (.int .i64), (.bool), (.int .i64), (.int .i64), (.int .i64), (.int .i64), (.int .i64), (.int .i64)]], [], [.agg [(.str), (.int .i64), (.int .i64), (.bool), (.int .i64), (.int .i64), (.int .i64), (.int .i64), (.int .i64), (.int .i64)]], [], fun (x : ByteArray × Int × Int × Bool × Int × Int × Int × Int × Int × Int × Unit) => F14 n x.1 x.2.1 x.2.2.1 x.2.2.2.1 x.2.2.2.2.1 x.2.2.2.2.2.1 x.2.2.2.2.2.2.1 x.2.2.2.2.2.2.2.1 x.2.2.2.2.2.2.2.2.1 x.2.2.2.2.2.2.2.2.2.1⟩
noncomputable def G14 (n : Nat) : Gam := []
theorem e14 (n : Nat) (x : ByteArray × Int × Int × Bool × Int × Int × Int × Int × Int × Int × Unit) : evBody tab (G14 n) n (c14 n) Try.f14 x = F14 n x.1 x.2.1 x.2.2.1 x.2.2.2.1 x.2.2.2.2.1 x.2.2.2.2.2.1 x.2.2.2.2.2.2.1 x.2.2.2.2.2.2.2.1 x.2.2.2.2.2.2.2.2.1 x.2.2.2.2.2.2.2.2.2.1 := by kernel_rfl
theorem g14 (W : World) (n : Nat) : Good Try.prog W 14 (c14 n) := body_good follows tabOk GamOk.nil (f := 14) (fn := Try.f14) (c := bodyOf Try.f14) (by kernel_rfl) (by kernel_rfl) (by kernel_rfl) (by kernel_rfl) (by kernel_rfl) (by kernel_rfl) (by kernel_rfl) (fun x r h => ⟨n, (e14 n x).trans h⟩)
/-! laws.toRowS -/
noncomputable def st6_0 (n : Nat) (g0 : (List (ByteArray × (Int × (Int × (Bool × (Int × (Int × (Int × (Int × (Int × Int)))))))))) → Int → (List (ByteArray × (Int × (Int × (Bool × (Int × (Int × (Int × (Int × (Int × Int)))))))))) → Option (List (ByteArray × (Int × (Int × (Bool × (Int × (Int × (Int × (Int × (Int × Int))))))))) × Unit)) (l0 : List (ByteArray × (Int × (Int × (Bool × (Int × (Int × (Int × (Int × (Int × Int)))))))))) (i1 : Int) (l2 : List (ByteArray × (Int × (Int × (Bool × (Int × (Int × (Int × (Int × (Int × Int)))))))))) : Option (List (ByteArray × (Int × (Int × (Bool × (Int × (Int × (Int × (Int × (Int × Int))))))))) × Unit) :=
  if (decide (i1 < (l0.length : Int))) = true then
    if (decide (0 ≤ i1)) = true then
    if (decide (i1 < (l0.length : Int))) = true then
    (F14 n ((rdOf ((⟨#[]⟩ : ByteArray), ((0 : Int), ((0 : Int), (false, ((0 : Int), ((0 : Int), ((0 : Int), ((0 : Int), ((0 : Int), (0 : Int)))))))))) l0 i1).1) (((rdOf ((⟨#[]⟩ : ByteArray), ((0 : Int), ((0 : Int), (false, ((0 : Int), ((0 : Int), ((0 : Int), ((0 : Int), ((0 : Int), (0 : Int)))))))))) l0 i1).2).1) ((((rdOf ((⟨#[]⟩ : ByteArray), ((0 : Int), ((0 : Int), (false, ((0 : Int), ((0 : Int), ((0 : Int), ((0 : Int), ((0 : Int), (0 : Int)))))))))) l0 i1).2).2).1) (((((rdOf ((⟨#[]⟩ : ByteArray), ((0 : Int), ((0 : Int), (false, ((0 : Int), ((0 : Int), ((0 : Int), ((0 : Int), ((0 : Int), (0 : Int)))))))))) l0 i1).2).2).2).1) ((((((rdOf ((⟨#[]⟩ : ByteArray), ((0 : Int), ((0 : Int), (false, ((0 : Int), ((0 : Int), ((0 : Int), ((0 : Int), ((0 : Int), (0 : Int)))))))))) l0 i1).2).2).2).2).1) (((((((rdOf ((⟨#[]⟩ : ByteArray), ((0 : Int), ((0 : Int), (false, ((0 : Int), ((0 : Int), ((0 : Int), ((0 : Int), ((0 : Int), (0 : Int)))))))))) l0 i1).2).2).2).2).2).1) ((((((((rdOf ((⟨#[]⟩ : ByteArray), ((0 : Int), ((0 : Int), (false, ((0 : Int), ((0 : Int), ((0 : Int), ((0 : Int), ((0 : Int), (0 : Int)))))))))) l0 i1).2).2).2).2).2).2).1) (((((((((rdOf ((⟨#[]⟩ : ByteArray), ((0 : Int), ((0 : Int), (false, ((0 : Int), ((0 : Int), ((0 : Int), ((0 : Int), ((0 : Int), (0 : Int)))))))))) l0 i1).2).2).2).2).2).2).2).1) ((((((((((rdOf ((⟨#[]⟩ : ByteArray), ((0 : Int), ((0 : Int), (false, ((0 : Int), ((0 : Int), ((0 : Int), ((0 : Int), ((0 : Int), (0 : Int)))))))))) l0 i1).2).2).2).2).2).2).2).2).1) ((((((((((rdOf ((⟨#[]⟩ : ByteArray), ((0 : Int), ((0 : Int), (false, ((0 : Int), ((0 : Int), ((0 : Int), ((0 : Int), ((0 : Int), (0 : Int)))))))))) l0 i1).2).2).2).2).2).2).2).2).2)).bind fun r1 =>
    if (decide (0 ≤ i1)) = true then
    if (decide (i1 < (l2.length : Int))) = true then
    g0 l0 (wrap64 (i1 + 1)) (l2.set i1.toNat (r1.1, (r1.2.1, (r1.2.2.1, (r1.2.2.2.1, (r1.2.2.2.2.1, (r1.2.2.2.2.2.1, (r1.2.2.2.2.2.2.1, (r1.2.2.2.2.2.2.2.1, (r1.2.2.2.2.2.2.2.2.1, r1.2.2.2.2.2.2.2.2.2.1))))))))))
    else none
    else none
    else none
    else none
  else
    some (l2, ())
noncomputable def lp6_0 (n : Nat) : Nat → (List (ByteArray × (Int × (Int × (Bool × (Int × (Int × (Int × (Int × (Int × Int)))))))))) → Int → (List (ByteArray × (Int × (Int × (Bool × (Int × (Int × (Int × (Int × (Int × Int)))))))))) → Option (List (ByteArray × (Int × (Int × (Bool × (Int × (Int × (Int × (Int × (Int × Int))))))))) × Unit)
  | 0 => fun _ _ _ => none
  | k + 1 => st6_0 n (lp6_0 n k)
noncomputable def st6 (n : Nat) (h0 : (List (ByteArray × (Int × (Int × (Bool × (Int × (Int × (Int × (Int × (Int × Int)))))))))) → Int → (List (ByteArray × (Int × (Int × (Bool × (Int × (Int × (Int × (Int × (Int × Int)))))))))) → Option (List (ByteArray × (Int × (Int × (Bool × (Int × (Int × (Int × (Int × (Int × Int))))))))) × Unit)) (a0 : List (ByteArray × (Int × (Int × (Bool × (Int × (Int × (Int × (Int × (Int × Int)))))))))) : Option (List (ByteArray × (Int × (Int × (Bool × (Int × (Int × (Int × (Int × (Int × Int))))))))) × Unit) :=
  if (decide (0 ≤ (a0.length : Int))) = true then
  if (decide ((a0.length : Int) = (a0.length : Int))) = true then
  if (decide ((a0.length : Int) * 88 ≤ 140737488355328)) = true then
  h0 a0 (0 : Int) (List.replicate (a0.length : Int).toNat ((⟨#[]⟩ : ByteArray), ((0 : Int), ((0 : Int), (false, ((0 : Int), ((0 : Int), ((0 : Int), ((0 : Int), ((0 : Int), (0 : Int)))))))))))
  else none
  else none
  else none
noncomputable def F6 (n : Nat) (a0 : List (ByteArray × (Int × (Int × (Bool × (Int × (Int × (Int × (Int × (Int × Int)))))))))) : Option (List (ByteArray × (Int × (Int × (Bool × (Int × (Int × (Int × (Int × (Int × Int))))))))) × Unit) := st6 n (lp6_0 n n) a0
noncomputable def c6 (n : Nat) : Con := ⟨[.one (.sl (.imm true) 32 (.pair .str (.pair (.int .i64) (.pair (.int .i64) (.pair .bool (.pair (.int .i64) (.pair (.int .i64) (.pair (.int .i64) (.pair (.int .i64) (.pair (.int .i64) (.int .i64)))))))))))], [], [.one (.sl .own 34 (.pair .str (.pair (.int .i64) (.pair (.int .i64) (.pair .bool (.pair (.int .i64) (.pair (.int .i64) (.pair (.int .i64) (.pair (.int .i64) (.pair (.int .i64) (.int .i64)))))))))))], [], fun (x : List (ByteArray × (Int × (Int × (Bool × (Int × (Int × (Int × (Int × (Int × Int))))))))) × Unit) => F6 n x.1⟩
noncomputable def G6 (n : Nat) : Gam := [((14, []), c14 n)]
noncomputable def S6_0 (l0 : List (ByteArray × (Int × (Int × (Bool × (Int × (Int × (Int × (Int × (Int × Int)))))))))) (i1 : Int) (l2 : List (ByteArray × (Int × (Int × (Bool × (Int × (Int × (Int × (Int × (Int × Int)))))))))) : St := ⟨[.sl (.imm true) 32 (.pair .str (.pair (.int .i64) (.pair (.int .i64) (.pair .bool (.pair (.int .i64) (.pair (.int .i64) (.pair (.int .i64) (.pair (.int .i64) (.pair (.int .i64) (.int .i64)))))))))) l0, .dead, .dead, .sr 3 0 none 0 0 none, .int .i64 i1] ++ List.replicate 18 .dead, [Ob.none, Ob.none, Ob.none, ⟨false, [.sl .own 34 (.pair .str (.pair (.int .i64) (.pair (.int .i64) (.pair .bool (.pair (.int .i64) (.pair (.int .i64) (.pair (.int .i64) (.pair (.int .i64) (.pair (.int .i64) (.int .i64)))))))))) l2], 0, 0⟩] ++ List.replicate 19 Ob.none⟩
noncomputable def ga6_0 (n : Nat) (ks : List Nat) (k : Nat) (st : St) : Option (List (ByteArray × (Int × (Int × (Bool × (Int × (Int × (Int × (Int × (Int × Int))))))))) × Unit) := goAt tab (G6 n) n (bodyOf Try.f6) (lvOf Try.f6) (lvOf Try.f6).ret [1, 1, 0, 1, 0] ks k st (evBody.endK tab (c6 n) Try.f6)
theorem el6_0 (n : Nat) : ∀ (k : Nat), ∀ (l0 : List (ByteArray × (Int × (Int × (Bool × (Int × (Int × (Int × (Int × (Int × Int)))))))))) (i1 : Int) (l2 : List (ByteArray × (Int × (Int × (Bool × (Int × (Int × (Int × (Int × (Int × Int)))))))))), ga6_0 n [] k (S6_0 l0 i1 l2) = lp6_0 n k l0 i1 l2 := by
  intro k
  induction k with
  | zero => intros; rfl
  | succ k ih =>
    intro l0 i1 l2
    have h : ga6_0 n [] (k + 1) (S6_0 l0 i1 l2) = st6_0 n (fun w0 w1 w2 => ga6_0 n [] k (S6_0 w0 w1 w2)) l0 i1 l2 := by kernel_rfl
    rw [h]
    have e : (fun w0 w1 w2 => ga6_0 n [] k (S6_0 w0 w1 w2)) = lp6_0 n k := by
      funext w0 w1 w2; exact ih w0 w1 w2
    rw [e]
    rfl
theorem e6 (n : Nat) (x : List (ByteArray × (Int × (Int × (Bool × (Int × (Int × (Int × (Int × (Int × Int))))))))) × Unit) : evBody tab (G6 n) n (c6 n) Try.f6 x = F6 n x.1 := by
  have h : evBody tab (G6 n) n (c6 n) Try.f6 x = st6 n (fun w0 w1 w2 => ga6_0 n [] n (S6_0 w0 w1 w2)) x.1 := by kernel_rfl
  rw [h]
  have e0 : (fun w0 w1 w2 => ga6_0 n [] n (S6_0 w0 w1 w2)) = lp6_0 n n := by
    funext w0 w1 w2; exact el6_0 n n w0 w1 w2
  rw [e0]
  rfl
theorem g6 (W : World) (n : Nat) : Good Try.prog W 6 (c6 n) := body_good follows tabOk (GamOk.cons (g14 W n) GamOk.nil) (f := 6) (fn := Try.f6) (c := bodyOf Try.f6) (by kernel_rfl) (by kernel_rfl) (by kernel_rfl) (by kernel_rfl) (by kernel_rfl) (by kernel_rfl) (by kernel_rfl) (fun x r h => ⟨n, (e6 n x).trans h⟩)
end Go.Eva
end
section
/- A row's number, two rows compared: walked, with what they lay. -/
namespace Go.Eva
open Go.Proofs
open Go.RowKit Go.Lib Go.Sort
set_option linter.unusedVariables false
set_option linter.unusedSimpArgs false
set_option maxRecDepth 100000

theorem info34 : ∃ i z, Try.prog.info? 34 = some i ∧ i.size = 10 ∧ i.bytes = 88 ∧ i.zero = some z ∧ z.cells.size = 10 := by
  have h : ((Try.prog.info? 34).bind fun i => i.zero.map fun z => (i.size, i.bytes, z.cells.size)) = some (10, 88, 10) := by kernel_rfl
  cases hi : Try.prog.info? 34 with
  | none => rw [hi] at h; cases h
  | some i =>
    rw [hi] at h
    cases hz : i.zero with
    | none => simp [hz] at h
    | some z =>
      simp [hz] at h
      exact ⟨i, z, rfl, h.1, h.2.1, hz, h.2.2⟩
/-- Grown: draws, and blocks behind. -/
def Gr (w w' : World) : Prop := ∃ q os, w' = Go.Sort.grow (w.drewN q) os
theorem Gr.refl (w : World) : Gr w w := ⟨0, #[], by rw [grow_empty]; rfl⟩
theorem Gr.drew {w w' : World} (h : Gr w w') : Gr w w'.drew := by
  obtain ⟨q, os, rfl⟩ := h
  refine ⟨q + 1, os, ?_⟩
  rw [drew_grow, ← World.drewN_drewN]
  rfl
theorem Gr.alloc {w w' : World} (h : Gr w w') (o : Obj) : Gr w (w'.alloc o) := by
  obtain ⟨q, os, rfl⟩ := h
  exact ⟨q, os ++ #[o], by rw [alloc_eq_grow, grow_grow]⟩
theorem Gr.trans {a b c : World} (h : Gr a b) (k : Gr b c) : Gr a c := by
  obtain ⟨q, os, rfl⟩ := h
  obtain ⟨q', os', rfl⟩ := k
  exact ⟨q + q', os ++ os', by rw [← World.drewN_drewN]; show Go.Sort.grow (Go.Sort.grow ((World.drewN a q).drewN q') os) os' = _; rw [grow_grow]⟩
def rk4 (a b d u : Int) : Int := if a = 1 then b else if a = 2 then d else if a = 3 then u else 0
theorem agg34 (w : World) : (isAgg 34).run Try.prog w = .ok true w := by
  obtain ⟨fs, hu⟩ : ∃ fs, Try.prog.underlying 34 = some (.struct fs) := ⟨_, Try.underlying34⟩
  simp [isAgg, run_underlying hu]
theorem size34 (w : World) : (Go.sizeOf 34).run Try.prog w = .ok 10 w := by
  obtain ⟨i0, z0, hi0, hs0, _⟩ := info34
  simp [sizeOf, typeInfo, hi0, hs0]
theorem two_first (w : World) (o1 o2 : Obj) : ((w.alloc o1).alloc o2).heap[w.heap.size]? = some o1 := by
  show ((w.heap.push o1).push o2)[w.heap.size]? = some o1
  rw [Array.getElem?_push, if_neg (by rw [Array.size_push]; omega), Array.getElem?_push, if_pos rfl]
theorem two_second (w : World) (o1 o2 : Obj) : ((w.alloc o1).alloc o2).heap[w.heap.size + 1]? = some o2 := by
  show ((w.heap.push o1).push o2)[w.heap.size + 1]? = some o2
  rw [Array.getElem?_push, if_pos (by rw [Array.size_push])]
theorem box_cell {B : World} {blk : Nat} {cs : List Value} {e : TypeId} (hb : B.heap[blk]? = some (.cells cs.toArray e)) (j : Nat) {v : Value} (hj : cs[j]? = some v) (n : Nat) (os : Array Obj) :
    (Go.Sort.grow (B.drewN n) os).cell? ⟨blk, j, none⟩ = some v := by
  refine cell_grown (a := ⟨blk, j, none⟩) (Array.getElem?_eq_some_iff.1 hb).1 ?_ n os
  have hb' : B.heap[blk]? = some (.cells cs.toArray e (0, 0)) := hb
  simp only [World.cell?, hb']
  simpa using hj
theorem rank_calls (s : ByteArray) (a b : Int) (t : Bool) (d e f g u v : Int) (w : World) : Calls Try.prog 19 #[.agg #[.string s, .int .i64 a, .int .i64 b, .bool t, .int .i64 d, .int .i64 e, .int .i64 f, .int .i64 g, .int .i64 u, .int .i64 v]] w fun en w' => en = .returned (.int .i64 (rk4 a b d u)) ∧ Gr w w' := by
  have mixed : Try.prog.follows .mixedOrders = true := by kernel_rfl
  go_enter Try.func19, Try.ntmps19
  have hgr : ∀ o, Gr w (w.alloc o) := fun o => Gr.alloc (Gr.refl w) o
  by_cases h1 : a = 1
  · subst h1
    go_wp2
    go_ret
    exact ⟨rfl, hgr _⟩
  · by_cases h2 : a = 2
    · subst h2
      go_wp2
      go_ret
      exact ⟨rfl, hgr _⟩
    · by_cases h3 : a = 3
      · subst h3
        go_wp2
        go_ret
        exact ⟨rfl, hgr _⟩
      · go_wp2
        go_ret
        refine ⟨?_, hgr _⟩
        have e : rk4 a b d u = 0 := by unfold rk4; rw [if_neg h1, if_neg h2, if_neg h3]
        rw [e]
        rfl
theorem nan_calls (a : Int) (w : World) : Calls Try.prog 24 #[.int .i64 a] w fun en w' => en = .returned (.bool false) ∧ w' = w := by
  have mixed : Try.prog.follows .mixedOrders = true := by kernel_rfl
  go_enter Try.func24, Try.ntmps24
  go_wp2
  go_ret
  exact ⟨rfl, rfl⟩
def cmp3 (a b : Int) : Int := if a < b then -1 else if b < a then 1 else 0
theorem cmp_calls (a b : Int) (w : World) : Calls Try.prog 18 #[.int .i64 a, .int .i64 b] w fun en w' => en = .returned (.int .i64 (cmp3 a b)) ∧ w' = w := by
  have mixed : Try.prog.follows .mixedOrders = true := by kernel_rfl
  unfold cmp3
  go_enter Try.func18, Try.ntmps18
  by_cases h1 : a < b
  · have h2 : ¬ b < a := by omega
    rw [if_pos h1]
    go_wp2_with (refine (nan_calls _ _).mono ?_; rintro e w' ⟨rfl, rfl⟩)
    go_ret
    exact ⟨rfl, rfl⟩
  · by_cases h2 : b < a
    · rw [if_neg h1, if_pos h2]
      go_wp2_with (refine (nan_calls _ _).mono ?_; rintro e w' ⟨rfl, rfl⟩)
      go_ret
      exact ⟨rfl, rfl⟩
    · rw [if_neg h1, if_neg h2]
      go_wp2_with (refine (nan_calls _ _).mono ?_; rintro e w' ⟨rfl, rfl⟩)
      go_ret
      exact ⟨rfl, rfl⟩
theorem cmp_gr (a b : Int) (w : World) : Calls Try.prog 18 #[.int .i64 a, .int .i64 b] w fun en w' => en = .returned (.int .i64 (cmp3 a b)) ∧ Gr w w' := (cmp_calls a b w).mono fun _ _ ⟨h1, h2⟩ => ⟨h1, h2 ▸ Gr.refl _⟩
theorem in_calls (a b c : Int) (w : World) : Calls Try.prog 20 #[.int .i64 a, .int .i64 b, .int .i64 c] w fun en w' => en = .returned (.bool (decide (b ≤ a ∧ a ≤ c))) ∧ w' = w := by
  have mixed : Try.prog.follows .mixedOrders = true := by kernel_rfl
  go_enter Try.func20, Try.ntmps20
  by_cases h1 : b ≤ a
  · have e : decide (b ≤ a ∧ a ≤ c) = decide (a ≤ c) := by simp [h1]
    rw [e]
    go_wp2
    go_ret
    exact ⟨rfl, rfl⟩
  · have e : decide (b ≤ a ∧ a ≤ c) = false := by simp [h1]
    rw [e]
    go_wp2
    go_ret
    exact ⟨rfl, rfl⟩
theorem tcmp_calls (s : ByteArray) (a b : Int) (t : Bool) (d e f g u v : Int) (s' : ByteArray) (a' b' : Int) (t' : Bool) (d' e' f' g' u' v' : Int) (w : World) :
    Calls Try.prog 17 #[.agg #[.string s, .int .i64 a, .int .i64 b, .bool t, .int .i64 d, .int .i64 e, .int .i64 f, .int .i64 g, .int .i64 u, .int .i64 v],
      .agg #[.string s', .int .i64 a', .int .i64 b', .bool t', .int .i64 d', .int .i64 e', .int .i64 f', .int .i64 g', .int .i64 u', .int .i64 v']] w
      fun en w' => en = .returned (.int .i64 (cmp3 (rk4 a' b' d' u') (rk4 a b d u))) ∧ Gr w w' := by
  have mixed : Try.prog.follows .mixedOrders = true := by kernel_rfl
  go_enter Try.func17, Try.ntmps17
  go_wp2_with fail
  obtain ⟨o1, h1⟩ : ∃ o, o = Obj.cells #[.string s, .int .i64 a, .int .i64 b, .bool t, .int .i64 d, .int .i64 e, .int .i64 f, .int .i64 g, .int .i64 u, .int .i64 v] 34 := ⟨_, rfl⟩
  obtain ⟨o2, h2⟩ : ∃ o, o = Obj.cells #[.string s', .int .i64 a', .int .i64 b', .bool t', .int .i64 d', .int .i64 e', .int .i64 f', .int .i64 g', .int .i64 u', .int .i64 v'] 34 := ⟨_, rfl⟩
  rw [← h1, ← h2]
  have hgr : Gr w ((w.alloc o1).alloc o2) := Gr.alloc (Gr.alloc (Gr.refl w) _) _
  have k1 : ((w.alloc o1).alloc o2).heap[w.heap.size]? = some (.cells (List.toArray [.string s, .int .i64 a, .int .i64 b, .bool t, .int .i64 d, .int .i64 e, .int .i64 f, .int .i64 g, .int .i64 u, .int .i64 v]) 34) := by rw [two_first, h1]
  have k2 : ((w.alloc o1).alloc o2).heap[w.heap.size + 1]? = some (.cells (List.toArray [.string s', .int .i64 a', .int .i64 b', .bool t', .int .i64 d', .int .i64 e', .int .i64 f', .int .i64 g', .int .i64 u', .int .i64 v']) 34) := by rw [two_second, h2]
  have x0 := fun n os => box_cell k1 0 rfl n os
  have y0 := fun n os => box_cell k2 0 rfl n os
  have x1 := fun n os => box_cell k1 1 rfl n os
  have y1 := fun n os => box_cell k2 1 rfl n os
  have x2 := fun n os => box_cell k1 2 rfl n os
  have y2 := fun n os => box_cell k2 2 rfl n os
  have x3 := fun n os => box_cell k1 3 rfl n os
  have y3 := fun n os => box_cell k2 3 rfl n os
  have x4 := fun n os => box_cell k1 4 rfl n os
  have y4 := fun n os => box_cell k2 4 rfl n os
  have x5 := fun n os => box_cell k1 5 rfl n os
  have y5 := fun n os => box_cell k2 5 rfl n os
  have x6 := fun n os => box_cell k1 6 rfl n os
  have y6 := fun n os => box_cell k2 6 rfl n os
  have x7 := fun n os => box_cell k1 7 rfl n os
  have y7 := fun n os => box_cell k2 7 rfl n os
  have x8 := fun n os => box_cell k1 8 rfl n os
  have y8 := fun n os => box_cell k2 8 rfl n os
  have x9 := fun n os => box_cell k1 9 rfl n os
  have y9 := fun n os => box_cell k2 9 rfl n os
  clear k1 k2 h1 h2
  have aE := agg34
  have zE := size34
  generalize (w.alloc o1).alloc o2 = wq at hgr x0 y0 x1 y1 x2 y2 x3 y3 x4 y4 x5 y5 x6 y6 x7 y7 x8 y8 x9 y9 ⊢
  go_quiet_grown (first | (refine Calls.grown_of (rank_calls _ _ _ _ _ _ _ _ _ _ _)) | (refine Calls.grown_of (cmp_gr _ _ _)))
  go_wp2
  go_ret
  exact ⟨rfl, hgr.trans ⟨_, _, rfl⟩⟩
end Go.Eva
end
section
/- Total functions: rules for what an Option answers. -/
namespace Go.Eva
open Go.RowKit (wrap64)
set_option linter.unusedVariables false

def ok {α : Type} (x : Option α) (Q : α → Prop) : Prop := ∃ a, x = some a ∧ Q a
theorem ok.some {α : Type} {a : α} {Q : α → Prop} (h : Q a) : ok (some a) Q := ⟨a, rfl, h⟩
theorem ok.bind {α β : Type} {x : Option α} {f : α → Option β} {Q : α → Prop} {R : β → Prop} (h : ok x Q) (k : ∀ a, Q a → ok (f a) R) : ok (x.bind f) R := by
  obtain ⟨a, rfl, q⟩ := h
  exact k a q
theorem ok.guard {α : Type} {c : Prop} [Decidable c] {x : Option α} {Q : α → Prop} (h : c) (k : ok x Q) : ok (if decide c = true then x else none) Q := by rw [if_pos (decide_eq_true h)]; exact k
theorem ok.ite {α : Type} {c : Prop} [Decidable c] {x y : Option α} {Q : α → Prop} (h : c → ok x Q) (k : ¬ c → ok y Q) : ok (if decide c = true then x else y) Q := by
  by_cases hc : c
  · rw [if_pos (decide_eq_true hc)]; exact h hc
  · rw [if_neg (by simpa using hc)]; exact k hc
theorem ok.iteb {α : Type} {c : Bool} {x y : Option α} {Q : α → Prop} (h : c = true → ok x Q) (k : c = false → ok y Q) : ok (if c = true then x else y) Q := by
  cases c
  · exact k rfl
  · exact h rfl
theorem ok.mono {α : Type} {x : Option α} {Q R : α → Prop} (h : ok x Q) (k : ∀ a, Q a → R a) : ok x R := by
  obtain ⟨a, q1, q2⟩ := h
  exact ⟨a, q1, k a q2⟩
theorem w64 {x : Int} (h : -9223372036854775808 ≤ x) (h' : x ≤ 9223372036854775807) : wrap64 x = x := by unfold wrap64; omega
theorem andI_bd (x : Int) (m : Nat) (hm : m < 9223372036854775808) : 0 ≤ andI .i64 x m ∧ andI .i64 x m ≤ m := by
  unfold andI
  have h1 : (BitVec.ofInt IntKind.i64.bits x &&& BitVec.ofInt IntKind.i64.bits (m : Int)).toNat ≤ m := by
    rw [BitVec.toNat_and]
    have : (BitVec.ofInt IntKind.i64.bits (m : Int)).toNat = m := by
      rw [BitVec.toNat_ofInt]
      show ((m : Int) % (2 ^ 64 : Nat)).toNat = m
      omega
    rw [this]
    exact Nat.and_le_right
  have h2 : IntKind.i64.wrap ((BitVec.ofInt IntKind.i64.bits x &&& BitVec.ofInt IntKind.i64.bits (m : Int)).toNat : Int) = ((BitVec.ofInt IntKind.i64.bits x &&& BitVec.ofInt IntKind.i64.bits (m : Int)).toNat : Int) := by
    rw [IntKind.wrap_i64]; omega
  rw [h2]
  omega
theorem and255 (x : Int) : 0 ≤ andI .i64 x 255 ∧ andI .i64 x 255 < 256 := by
  have := andI_bd x 255 (by omega)
  exact ⟨this.1, Int.lt_of_le_of_lt this.2 (by decide)⟩
theorem rdOf_mem {α : Type} {d : α} {l : List α} {i : Int} (h : 0 ≤ i) (h' : i < (l.length : Int)) : rdOf d l i ∈ l := by
  unfold rdOf
  rw [List.getD_eq_getElem?_getD, List.getElem?_eq_getElem (by omega)]
  exact List.getElem_mem _
theorem rdOf_nat {α : Type} {d : α} {l : List α} {i : Nat} (h : i < l.length) : rdOf d l (i : Int) = l[i] := by
  unfold rdOf
  rw [List.getD_eq_getElem?_getD, Int.toNat_natCast, List.getElem?_eq_getElem h]; rfl
/-- A loop's rule: what goes down, and what stays. -/
theorem tmod_bd {x n : Int} (h : 0 ≤ x) (hn : 0 < n) : 0 ≤ x.tmod n ∧ x.tmod n < n := ⟨Int.tmod_nonneg _ h, Int.tmod_lt_of_pos _ hn⟩
end Go.Eva
end
section
/- Stable merging and sorting of lists by a rank, greatest first: plain facts. -/
namespace Go.Eva
set_option linter.unusedVariables false
set_option linter.unusedSimpArgs false
section
variable {α : Type} (rk : α → Int)

/-- x stands ahead of y. -/
def lt (x y : α) : Bool := decide (rk y < rk x)
/-- Two lists merged: of equals those of the first go first. -/
def mrg : List α → List α → List α
  | [], B => B
  | x :: A, B => B.takeWhile (fun y => lt rk y x) ++ x :: mrg A (B.dropWhile (fun y => lt rk y x))
def Srt (A : List α) : Prop := A.Pairwise (fun x y => lt rk y x = false)
def S (l : List α) : List α := l.foldl (fun o x => mrg rk o [x]) []
theorem mrg_nil : ∀ A : List α, mrg rk A [] = A
  | [] => rfl
  | x :: A => by
    show [] ++ x :: mrg rk A [] = _
    rw [mrg_nil A]; rfl
theorem mrg_cons (x y : α) (A B : List α) : mrg rk (x :: A) (y :: B) = if lt rk y x = true then y :: mrg rk (x :: A) B else x :: mrg rk A (y :: B) := by
  by_cases h : lt rk y x = true
  · rw [if_pos h]
    show List.takeWhile _ (y :: B) ++ x :: mrg rk A (List.dropWhile _ (y :: B)) = _
    simp only [List.takeWhile_cons, List.dropWhile_cons, h, if_true]
    rfl
  · rw [if_neg h]
    show List.takeWhile _ (y :: B) ++ x :: mrg rk A (List.dropWhile _ (y :: B)) = _
    simp only [List.takeWhile_cons, List.dropWhile_cons, h, if_false, Bool.false_eq_true]
    rfl
theorem mrg_split (A2 B2 : List α) : ∀ (A1 B1 : List α), (∀ x ∈ A1, ∀ y ∈ B2, lt rk y x = false) → (∀ y ∈ B1, ∀ x ∈ A2, lt rk y x = true) → mrg rk (A1 ++ A2) (B1 ++ B2) = mrg rk A1 B1 ++ mrg rk A2 B2
  | [], [], _, _ => rfl
  | [], y :: B1, h1, h2 => by
    have ih := mrg_split A2 B2 [] B1 (fun x hx => by cases hx) (fun y hy => h2 y (List.mem_cons_of_mem _ hy))
    match A2, h2, ih with
    | [], _, _ => rfl
    | x :: A2, h2, ih =>
      show mrg rk (x :: A2) (y :: (B1 ++ B2)) = _
      rw [mrg_cons, if_pos (h2 y List.mem_cons_self x List.mem_cons_self)]
      have ih : mrg rk (x :: A2) (B1 ++ B2) = B1 ++ mrg rk (x :: A2) B2 := ih
      rw [ih]; rfl
  | x :: A1, [], h1, h2 => by
    have ih := mrg_split A2 B2 A1 [] (fun x hx => h1 x (List.mem_cons_of_mem _ hx)) h2
    match B2, h1, ih with
    | [], _, _ => show mrg rk (x :: (A1 ++ A2)) [] = _; simp only [mrg_nil]; rfl
    | y :: B2, h1, ih =>
      show mrg rk (x :: (A1 ++ A2)) (y :: B2) = _
      rw [mrg_cons, if_neg (by rw [h1 x List.mem_cons_self y List.mem_cons_self]; decide)]
      have ih : mrg rk (A1 ++ A2) (y :: B2) = _ := ih
      rw [ih, mrg_nil, mrg_nil]; rfl
  | x :: A1, y :: B1, h1, h2 => by
    have ih1 := mrg_split A2 B2 (x :: A1) B1 h1 (fun y hy => h2 y (List.mem_cons_of_mem _ hy))
    have ih2 := mrg_split A2 B2 A1 (y :: B1) (fun x hx => h1 x (List.mem_cons_of_mem _ hx)) h2
    show mrg rk (x :: (A1 ++ A2)) (y :: (B1 ++ B2)) = _
    rw [mrg_cons, mrg_cons]
    by_cases h : lt rk y x = true
    · rw [if_pos h, if_pos h]
      have ih1 : mrg rk (x :: (A1 ++ A2)) (B1 ++ B2) = _ := ih1
      rw [ih1]; rfl
    · rw [if_neg h, if_neg h]
      have ih2 : mrg rk (A1 ++ A2) (y :: (B1 ++ B2)) = _ := ih2
      rw [ih2]; rfl
theorem mrg_one (x : α) : ∀ (A B : List α), mrg rk (mrg rk A B) [x] = mrg rk A (mrg rk B [x])
  | [], B => rfl
  | a :: A, [] => by rw [mrg_nil]; rfl
  | a :: A, b :: B => by
    have ihB := mrg_one x (a :: A) B
    have ihA := mrg_one x A (b :: B)
    rw [mrg_cons]
    by_cases h : lt rk b a = true
    · rw [if_pos h, mrg_cons, mrg_cons]
      by_cases h2 : lt rk x b = true
      · have h3 : lt rk x a = true := by
          unfold lt at h h2 ⊢
          have := of_decide_eq_true h
          have := of_decide_eq_true h2
          exact decide_eq_true (by omega)
        rw [if_pos h2, if_pos h2, mrg_nil, mrg_cons, if_pos h3, mrg_nil, mrg_cons, if_pos h]
      · rw [if_neg h2, if_neg h2, mrg_cons, if_pos h, ihB]
    · rw [if_neg h, mrg_cons]
      by_cases h2 : lt rk x a = true
      · have h3 : lt rk x b = true := by
          unfold lt at h h2 ⊢
          have h := of_decide_eq_false (Bool.eq_false_iff.2 h)
          have := of_decide_eq_true h2
          exact decide_eq_true (by omega)
        rw [if_pos h2, mrg_nil, mrg_cons, if_pos h3, mrg_nil, mrg_cons, if_pos h2, mrg_cons, if_neg h]
      · rw [if_neg h2, ihA, mrg_cons]
        by_cases h3 : lt rk x b = true
        · rw [if_pos h3, mrg_cons, if_neg h2]
        · rw [if_neg h3, mrg_cons, if_neg h]
theorem S_snoc (l : List α) (x : α) : S rk (l ++ [x]) = mrg rk (S rk l) [x] := by
  unfold S; rw [List.foldl_append]; rfl
theorem S_append (l1 : List α) (l2 : List α) : S rk (l1 ++ l2) = mrg rk (S rk l1) (S rk l2) := by
  have : ∀ r : List α, S rk (l1 ++ r.reverse) = mrg rk (S rk l1) (S rk r.reverse) := by
    intro r
    induction r with
    | nil => rw [List.reverse_nil, List.append_nil]; exact (mrg_nil rk _).symm
    | cons x r ih => rw [List.reverse_cons, ← List.append_assoc, S_snoc, S_snoc, ih, mrg_one]
  have := this l2.reverse
  rwa [List.reverse_reverse] at this
theorem mrg_len : ∀ A B : List α, (mrg rk A B).length = A.length + B.length
  | [], B => by simp [mrg]
  | x :: A, B => by
    show (B.takeWhile _ ++ x :: mrg rk A (B.dropWhile _)).length = _
    have h := congrArg List.length (List.takeWhile_append_dropWhile (p := fun y => lt rk y x) (l := B))
    rw [List.length_append] at h
    rw [List.length_append, List.length_cons, mrg_len A, List.length_cons]
    omega
theorem S_len (l : List α) : (S rk l).length = l.length := by
  have : ∀ r : List α, (S rk r.reverse).length = r.length := by
    intro r
    induction r with
    | nil => rfl
    | cons x r ih => rw [List.reverse_cons, S_snoc, mrg_len, ih]; rfl
  have := this l.reverse
  rwa [List.reverse_reverse, List.length_reverse] at this
theorem mem_one (x z : α) : ∀ A : List α, z ∈ mrg rk A [x] → z ∈ A ∨ z = x
  | [], h => .inr (List.mem_singleton.1 h)
  | a :: A, h => by
    rw [mrg_cons] at h
    split at h
    · rw [mrg_nil] at h
      rcases List.mem_cons.1 h with h | h
      · exact .inr h
      · exact .inl h
    · rcases List.mem_cons.1 h with h | h
      · exact .inl (by rw [h]; exact List.mem_cons_self)
      · rcases mem_one x z A h with h | h
        · exact .inl (List.mem_cons_of_mem _ h)
        · exact .inr h
theorem srt_one (x : α) : ∀ A : List α, Srt rk A → Srt rk (mrg rk A [x])
  | [], _ => List.pairwise_singleton _ _
  | a :: A, h => by
    have h' := List.pairwise_cons.1 h
    rw [mrg_cons]
    split
    · rename_i hx
      rw [mrg_nil]
      refine List.pairwise_cons.2 ⟨fun z hz => ?_, h⟩
      have hx := of_decide_eq_true hx
      rcases List.mem_cons.1 hz with rfl | hz
      · exact decide_eq_false (by omega)
      · have := of_decide_eq_false (h'.1 z hz)
        exact decide_eq_false (by omega)
    · rename_i hx
      refine List.pairwise_cons.2 ⟨fun z hz => ?_, srt_one x A h'.2⟩
      rcases mem_one rk x z A hz with hz | rfl
      · exact h'.1 z hz
      · exact Bool.eq_false_iff.2 hx
theorem S_srt (l : List α) : Srt rk (S rk l) := by
  have : ∀ r : List α, Srt rk (S rk r.reverse) := by
    intro r
    induction r with
    | nil => exact List.Pairwise.nil
    | cons x r ih => rw [List.reverse_cons, S_snoc]; exact srt_one rk x _ ih
  have := this l.reverse
  rwa [List.reverse_reverse] at this
/-- A place where y goes in. -/
theorem mrg_at {A : List α} {y : α} (hs : Srt rk A) {A1 A2 : List α} (e : A = A1 ++ A2) (h1 : ∀ z, A1.getLast? = some z → lt rk y z = false) (h2 : ∀ z, A2.head? = some z → lt rk y z = true) : mrg rk A [y] = A1 ++ y :: A2 := by
  subst e
  have hs' := List.pairwise_append.1 hs
  have := mrg_split rk A2 [y] A1 [] (fun x hx y' hy => by
    rw [List.mem_singleton.1 hy]
    obtain ⟨i, hi, rfl⟩ := List.getElem_of_mem hx
    have hl : A1.getLast? = some A1[A1.length - 1] := by rw [List.getLast?_eq_getElem?, List.getElem?_eq_getElem (by omega)]
    have h := h1 _ hl
    by_cases q : i = A1.length - 1
    · simp only [q]; exact h
    · have := List.pairwise_iff_getElem.1 hs'.1 i (A1.length - 1) hi (by omega) (by omega)
      have h := of_decide_eq_false h
      have := of_decide_eq_false this
      exact decide_eq_false (by omega)) (fun y hy => by cases hy)
  have this : mrg rk (A1 ++ A2) [y] = mrg rk A1 [] ++ mrg rk A2 [y] := this
  rw [this, mrg_nil]
  match A2, h2 with
  | [], _ => rfl
  | a :: A2, h2 => rw [mrg_cons, if_pos (h2 a rfl), mrg_nil]
/-- A place where x goes into the second list. -/
theorem mrg_at2 {B : List α} {x : α} (hs : Srt rk B) {B1 B2 : List α} (e : B = B1 ++ B2) (h1 : ∀ z, B1.getLast? = some z → lt rk z x = true) (h2 : ∀ z, B2.head? = some z → lt rk z x = false) : mrg rk [x] B = B1 ++ x :: B2 := by
  subst e
  have hs' := List.pairwise_append.1 hs
  have := mrg_split rk [x] B2 [] B1 (fun x hx => by cases hx) (fun y hy x' hx => by
    rw [List.mem_singleton.1 hx]
    obtain ⟨i, hi, rfl⟩ := List.getElem_of_mem hy
    have hl : B1.getLast? = some B1[B1.length - 1] := by rw [List.getLast?_eq_getElem?, List.getElem?_eq_getElem (by omega)]
    have h := h1 _ hl
    by_cases q : i = B1.length - 1
    · simp only [q]; exact h
    · have := List.pairwise_iff_getElem.1 hs'.1 i (B1.length - 1) hi (by omega) (by omega)
      have h := of_decide_eq_true h
      have := of_decide_eq_false this
      exact decide_eq_true (by omega))
  have this : mrg rk [x] (B1 ++ B2) = B1 ++ mrg rk [x] B2 := this
  rw [this]
  match B2, h2 with
  | [], _ => rfl
  | b :: B2, h2 => rw [mrg_cons, if_neg (by rw [h2 b rfl]; decide)]; rfl
/-- Two sorted lists parted at a place that fits. -/
theorem mrg_part {A1 A2 B1 B2 : List α} (hA : Srt rk (A1 ++ A2)) (hB : Srt rk (B1 ++ B2)) (h1 : ∀ x y, A1.getLast? = some x → B2.head? = some y → lt rk y x = false) (h2 : ∀ x y, A2.head? = some x → B1.getLast? = some y → lt rk y x = true) :
    mrg rk (A1 ++ A2) (B1 ++ B2) = mrg rk A1 B1 ++ mrg rk A2 B2 := by
  have a := List.pairwise_append.1 hA
  have b := List.pairwise_append.1 hB
  have last : ∀ {L : List α}, Srt rk L → ∀ x ∈ L, ∃ z, L.getLast? = some z ∧ (lt rk z x = false) := fun {L} hL x hx => by
    obtain ⟨i, hi, rfl⟩ := List.getElem_of_mem hx
    refine ⟨L[L.length - 1], by rw [List.getLast?_eq_getElem?, List.getElem?_eq_getElem (by omega)], ?_⟩
    by_cases q : i = L.length - 1
    · simp only [q]; exact decide_eq_false (by omega)
    · exact List.pairwise_iff_getElem.1 hL i (L.length - 1) hi (by omega) (by omega)
  have head : ∀ {L : List α}, Srt rk L → ∀ x ∈ L, ∃ z, L.head? = some z ∧ (lt rk x z = false) := fun {L} hL x hx => by
    match L, hL, hx with
    | z :: L, hL, hx =>
      refine ⟨z, rfl, ?_⟩
      rcases List.mem_cons.1 hx with rfl | hx
      · exact decide_eq_false (by omega)
      · exact (List.pairwise_cons.1 hL).1 x hx
  refine mrg_split rk A2 B2 A1 B1 (fun x hx y hy => ?_) (fun y hy x hx => ?_)
  · obtain ⟨z, hz, e1⟩ := last a.1 x hx
    obtain ⟨u, hu, e2⟩ := head b.2.1 y hy
    have e3 := of_decide_eq_false (h1 z u hz hu)
    have e1 := of_decide_eq_false e1
    have e2 := of_decide_eq_false e2
    exact decide_eq_false (by omega)
  · obtain ⟨z, hz, e1⟩ := last b.1 y hy
    obtain ⟨u, hu, e2⟩ := head a.2.1 x hx
    have e3 := of_decide_eq_true (h2 u z hu hz)
    have e1 := of_decide_eq_false e1
    have e2 := of_decide_eq_false e2
    exact decide_eq_true (by omega)
end
end Go.Eva
end
section
/- Rows of a list swapped, rotated; blocks sorted: plain facts. -/
namespace Go.Eva
set_option linter.unusedVariables false
set_option linter.unusedSimpArgs false
section
variable {α : Type} (rk : α → Int)
theorem get_at {P Q : List α} {x : α} : ∀ {i : Nat} (h : i < (P ++ x :: Q).length), i = P.length → (P ++ x :: Q)[i] = x := fun {i} h e => by
  subst e
  rw [List.getElem_append_right (Nat.le_refl _)]
  simp
theorem set_at {P Q : List α} {x z : α} : ∀ {i : Nat}, i = P.length → (P ++ x :: Q).set i z = P ++ z :: Q := fun {i} e => by
  subst e
  rw [List.set_append_right _ _ (Nat.le_refl _), Nat.sub_self]
  rfl
theorem swap_at {P M Q : List α} {x z : α} {i j : Nat} (hi : i = P.length) (hj : j = P.length + 1 + M.length) : ((P ++ x :: (M ++ z :: Q)).set i z).set j x = P ++ z :: (M ++ x :: Q) := by
  rw [set_at hi]
  have e : P ++ z :: (M ++ z :: Q) = (P ++ z :: M) ++ z :: Q := by simp
  rw [e, set_at (by simp; omega)]
  simp
theorem get_at2 {P M Q : List α} {x z : α} {j : Nat} (h : j < (P ++ x :: (M ++ z :: Q)).length) (hj : j = P.length + 1 + M.length) : (P ++ x :: (M ++ z :: Q))[j] = z := by
  have e : P ++ x :: (M ++ z :: Q) = (P ++ x :: M) ++ z :: Q := by simp
  have h2 : (P ++ x :: (M ++ z :: Q))[j]? = some z := by
    rw [e, List.getElem?_append_right (by simp; omega)]
    have : j - (P ++ x :: M).length = 0 := by simp; omega
    rw [this]; rfl
  exact (List.getElem?_eq_some_iff.1 h2).2
/-- X and Z, as far as i, have changed places. -/
def sw (P X Y Z Q : List α) (i : Nat) : List α := P ++ (Z.take i ++ (X.drop i ++ (Y ++ (X.take i ++ (Z.drop i ++ Q)))))
theorem sw_zero (P X Y Z Q : List α) : sw P X Y Z Q 0 = P ++ (X ++ (Y ++ (Z ++ Q))) := by simp [sw]
theorem sw_all {P X Y Z Q : List α} {n : Nat} (hX : X.length = n) (hZ : Z.length = n) : sw P X Y Z Q n = P ++ (Z ++ (Y ++ (X ++ Q))) := by
  simp [sw, List.take_of_length_le (Nat.le_of_eq hX), List.take_of_length_le (Nat.le_of_eq hZ), List.drop_eq_nil_of_le (Nat.le_of_eq hX), List.drop_eq_nil_of_le (Nat.le_of_eq hZ)]
theorem sw_open {P X Y Z Q : List α} {n i : Nat} (hX : X.length = n) (hZ : Z.length = n) (hi : i < n) : ∃ P1 x M z Q1, sw P X Y Z Q i = P1 ++ x :: (M ++ z :: Q1) ∧ P1.length = P.length + i ∧ P1.length + 1 + M.length = P.length + n + Y.length + i ∧ sw P X Y Z Q (i + 1) = P1 ++ z :: (M ++ x :: Q1) := by
  refine ⟨P ++ Z.take i, X[i], X.drop (i + 1) ++ (Y ++ X.take i), Z[i], Z.drop (i + 1) ++ Q, ?_, ?_, ?_, ?_⟩
  · unfold sw
    rw [List.drop_eq_getElem_cons (l := X) (by omega), List.drop_eq_getElem_cons (l := Z) (by omega)]
    simp only [List.append_assoc, List.cons_append]
  · rw [List.length_append, List.length_take]; omega
  · simp only [List.length_append, List.length_take, List.length_drop]; omega
  · unfold sw
    rw [List.take_succ_eq_append_getElem (l := X) (by omega), List.take_succ_eq_append_getElem (l := Z) (by omega)]
    simp only [List.append_assoc, List.cons_append, List.nil_append]
/-- The blocks of k rows, each sorted. -/
def Rq (k : Nat) : Nat → List α → List α
  | 0, _ => []
  | q + 1, l => S rk (l.take k) ++ Rq k q (l.drop k)
theorem Rq_nil (k : Nat) : ∀ q, Rq rk k q ([] : List α) = []
  | 0 => rfl
  | q + 1 => by
    show S rk (List.take k []) ++ Rq rk k q (List.drop k []) = []
    rw [List.take_nil, List.drop_nil, Rq_nil k q]; rfl
theorem Rq_any {k : Nat} (hk : 1 ≤ k) : ∀ (q r : Nat) (l : List α), l.length ≤ q → l.length ≤ r → Rq rk k q l = Rq rk k r l
  | 0, r, l, h1, h2 => by
    obtain rfl : l = [] := List.eq_nil_of_length_eq_zero (by omega)
    rw [Rq_nil, Rq_nil]
  | q + 1, 0, l, h1, h2 => by
    obtain rfl : l = [] := List.eq_nil_of_length_eq_zero (by omega)
    rw [Rq_nil, Rq_nil]
  | q + 1, r + 1, l, h1, h2 => by
    show S rk (l.take k) ++ Rq rk k q (l.drop k) = S rk (l.take k) ++ Rq rk k r (l.drop k)
    rw [Rq_any hk q r (l.drop k) (by rw [List.length_drop]; omega) (by rw [List.length_drop]; omega)]
def RR (k : Nat) (l : List α) : List α := Rq rk k l.length l
theorem RR_cut {k : Nat} (hk : 1 ≤ k) (l : List α) : RR rk k l = S rk (l.take k) ++ RR rk k (l.drop k) := by
  unfold RR
  rw [Rq_any rk hk l.length (l.length + 1) l (Nat.le_refl _) (by omega)]
  show S rk (l.take k) ++ Rq rk k l.length (l.drop k) = _
  rw [Rq_any rk hk l.length (l.drop k).length (l.drop k) (by rw [List.length_drop]; omega) (Nat.le_refl _)]
theorem RR_one {k : Nat} (hk : 1 ≤ k) {l : List α} (h : l.length ≤ k) : RR rk k l = S rk l := by
  rw [RR_cut rk hk, List.take_of_length_le h, List.drop_eq_nil_of_le h]
  show S rk l ++ Rq rk k 0 [] = _
  rw [Rq_nil, List.append_nil]
theorem RR_two {k : Nat} (hk : 1 ≤ k) (l : List α) : RR rk k l = S rk (l.take k) ++ (S rk ((l.drop k).take k) ++ RR rk k (l.drop (2 * k))) := by
  rw [RR_cut rk hk, RR_cut rk hk (l.drop k), List.drop_drop]
  have : k + k = 2 * k := by omega
  rw [this]
theorem take_two {k : Nat} (l : List α) : l.take k ++ (l.drop k).take k = l.take (2 * k) := by
  have : 2 * k = k + k := by omega
  rw [this, List.take_add]
theorem S_two {k : Nat} (l : List α) : mrg rk (S rk (l.take k)) (S rk ((l.drop k).take k)) = S rk (l.take (2 * k)) := by
  rw [← S_append, take_two]
end
end Go.Eva
end
section
/- The kit's insertion sort of a part of an array: a list's part sorted; swaps of arrays and of lists. -/
namespace Go.Eva
open Go.Sort Go.Proofs
set_option linter.unusedVariables false
set_option linter.unusedSimpArgs false
section
variable {α : Type} [Inhabited α] (rk : α → Int)
theorem arr_get {l : List α} {i : Nat} (h : i < l.length) : l.toArray[i]! = l[i] := by
  rw [getElem!_pos _ _ (by simpa using h)]
  simp
theorem swp_list {P M Q : List α} {x z : α} {i j : Nat} (hi : i = P.length) (hj : j = P.length + 1 + M.length) :
    swp (P ++ x :: (M ++ z :: Q)).toArray i j = (P ++ z :: (M ++ x :: Q)).toArray := by
  have li : i < (P ++ x :: (M ++ z :: Q)).length := by simp; omega
  have lj : j < (P ++ x :: (M ++ z :: Q)).length := by simp; omega
  unfold swp
  rw [arr_get li, arr_get lj, get_at li hi, get_at2 lj hj]
  simp only [List.setIfInBounds_toArray]
  rw [swap_at hi hj]
theorem swp_listR {P M Q : List α} {x z : α} {i j : Nat} (hi : i = P.length) (hj : j = P.length + 1 + M.length) :
    swp (P ++ x :: (M ++ z :: Q)).toArray j i = (P ++ z :: (M ++ x :: Q)).toArray := by
  have li : i < (P ++ x :: (M ++ z :: Q)).length := by simp; omega
  have lj : j < (P ++ x :: (M ++ z :: Q)).length := by simp; omega
  unfold swp
  rw [arr_get li, arr_get lj, get_at li hi, get_at2 lj hj]
  simp only [List.setIfInBounds_toArray]
  rw [List.set_comm _ _ (by omega), swap_at hi hj]
/-- One row goes left to its place. -/
theorem inner_list (P : List α) {y : α} {Q : List α} : ∀ (m : Nat) (A B : List α), A.length = m → Srt rk (A ++ B) → (∀ z ∈ B, lt rk y z = true) →
    insInner (lt rk) P.length (P.length + m) (P ++ (A ++ y :: (B ++ Q))).toArray = (P ++ (mrg rk (A ++ B) [y] ++ Q)).toArray
  | 0, A, B, hA, hs, hB => by
    obtain rfl := List.eq_nil_of_length_eq_zero hA
    rw [insInner_stop _ _ _ _ (.inl (by omega))]
    have := mrg_at rk (A := B) (y := y) hs (A1 := []) (A2 := B) rfl (fun z h => by cases h) (fun z h => hB z (List.mem_of_mem_head? h))
    simp only [List.nil_append] at this ⊢
    rw [this]; rfl
  | m + 1, A, B, hA, hs, hB => by
    obtain ⟨A', x, rfl⟩ : ∃ A' x, A = A' ++ [x] := ⟨A.dropLast, A.getLast (by intro h; rw [h] at hA; cases hA), (List.dropLast_concat_getLast _).symm⟩
    have hA' : A'.length = m := by simpa using hA
    have e1 : P ++ (A' ++ [x] ++ y :: (B ++ Q)) = (P ++ A') ++ x :: ([] ++ y :: (B ++ Q)) := by simp
    have lj : P.length + (m + 1) < (P ++ (A' ++ [x] ++ y :: (B ++ Q))).length := by simp; omega
    have li : P.length + m < (P ++ (A' ++ [x] ++ y :: (B ++ Q))).length := by simp; omega
    have gj : (P ++ (A' ++ [x] ++ y :: (B ++ Q))).toArray[P.length + (m + 1)]! = y := by
      rw [arr_get lj]
      exact (List.getElem_of_eq e1 lj).trans (get_at2 (P := P ++ A') (M := []) (Q := B ++ Q) (x := x) (z := y) (j := P.length + (m + 1)) (by rw [← e1]; exact lj) (by simp; omega))
    have gi : (P ++ (A' ++ [x] ++ y :: (B ++ Q))).toArray[P.length + (m + 1) - 1]! = x := by
      have : P.length + (m + 1) - 1 = P.length + m := by omega
      rw [this, arr_get li]
      exact (List.getElem_of_eq e1 li).trans (get_at (P := P ++ A') (Q := [] ++ y :: (B ++ Q)) (x := x) (i := P.length + m) (by rw [← e1]; exact li) (by simp; omega))
    by_cases h : lt rk y x = true
    · rw [insInner_go _ _ _ _ (by omega) (by rw [gj, gi]; exact h)]
      have : P.length + (m + 1) - 1 = P.length + m := by omega
      rw [this, e1, swp_listR (P := P ++ A') (M := []) (by simp; omega) (by simp; omega)]
      have e2 : (P ++ A') ++ y :: ([] ++ x :: (B ++ Q)) = P ++ (A' ++ y :: ((x :: B) ++ Q)) := by simp
      rw [e2, inner_list P m A' (x :: B) hA' (by rw [List.append_assoc] at hs; exact hs) (fun z hz => by
        rcases List.mem_cons.1 hz with rfl | hz
        · exact h
        · exact hB z hz)]
      have e3 : A' ++ x :: B = A' ++ [x] ++ B := by simp
      rw [e3]
    · rw [insInner_stop _ _ _ _ (.inr (by rw [gj, gi]; exact Bool.eq_false_iff.2 h))]
      have := mrg_at rk (A := A' ++ [x] ++ B) (y := y) hs (A1 := A' ++ [x]) (A2 := B) rfl (fun z hz => by
        rw [List.getLast?_append] at hz
        simp at hz
        rw [← hz]
        exact Bool.eq_false_iff.2 h) (fun z hz => hB z (List.mem_of_mem_head? hz))
      rw [this]
      simp
theorem outer_list (P : List α) {Q : List α} : ∀ (Y X : List α), insOuter (lt rk) P.length (P.length + X.length + Y.length) (P.length + X.length) (P ++ (S rk X ++ (Y ++ Q))).toArray = (P ++ (S rk (X ++ Y) ++ Q)).toArray
  | [], X => by
    rw [insOuter_stop _ _ _ _ _ (by simp)]
    simp
  | y :: Y, X => by
    rw [insOuter_go _ _ _ _ _ (by simp)]
    have h := inner_list rk P (y := y) (Q := Y ++ Q) X.length (S rk X) [] (S_len rk X) (by rw [List.append_nil]; exact S_srt rk X) (fun z hz => by cases hz)
    rw [List.append_nil, ← S_snoc] at h
    have e : P ++ (S rk X ++ (y :: Y ++ Q)) = P ++ (S rk X ++ y :: ([] ++ (Y ++ Q))) := by simp
    rw [e, h]
    have := outer_list P (Q := Q) Y (X ++ [y])
    have e1 : P.length + X.length + (y :: Y).length = P.length + (X ++ [y]).length + Y.length := by simp; omega
    have e2 : P.length + X.length + 1 = P.length + (X ++ [y]).length := by simp; omega
    rw [e1, e2, this]
    simp
theorem ins_list (P X Q : List α) : Go.Sort.insertionSort (lt rk) (P ++ (X ++ Q)).toArray P.length (P.length + X.length) = (P ++ (S rk X ++ Q)).toArray := by
  unfold Go.Sort.insertionSort
  match X with
  | [] =>
    rw [insOuter_stop _ _ _ _ _ (by simp)]
    rfl
  | x :: X =>
    have := outer_list rk P (Q := Q) X [x]
    have e : S rk [x] = [x] := rfl
    rw [e] at this
    have e1 : P.length + [x].length + X.length = P.length + (x :: X).length := by simp; omega
    rw [e1] at this
    exact this
end
end Go.Eva
end
section
/- Rows sorted: slices.SortStableFunc at any number of rows. -/
namespace Go.Eva
open Go.Proofs Go.Shelf
open Go.RowKit Go.Lib Go.Sort
set_option linter.unusedVariables false
set_option linter.unusedSimpArgs false
set_option maxRecDepth 100000

abbrev Tr := ByteArray × (Int × (Int × (Bool × (Int × (Int × (Int × (Int × (Int × Int))))))))
def encR (x : Tr) : List Value := [.string x.1, .int .i64 x.2.1, .int .i64 x.2.2.1, .bool x.2.2.2.1, .int .i64 x.2.2.2.2.1, .int .i64 x.2.2.2.2.2.1, .int .i64 x.2.2.2.2.2.2.1, .int .i64 x.2.2.2.2.2.2.2.1, .int .i64 x.2.2.2.2.2.2.2.2.1, .int .i64 x.2.2.2.2.2.2.2.2.2]
def rkR (x : Tr) : Int := rk4 x.2.1 x.2.2.1 x.2.2.2.2.1 x.2.2.2.2.2.2.2.2.1
def cfR (x y : Tr) : Int := cmp3 (rkR y) (rkR x)
def rn : Ren := ⟨fun x => if x = 20 then 25 else x, fun x => if x = 22 then 24 else if x = 24 then 34 else if x = 25 then 40 else x, fun x => x⟩
theorem lay25 : SlLaysF0.n20 Try.prog rn where
  mixed := by kernel_rfl
  f20 := ⟨Try.f25.name, by kernel_rfl, Try.func25.trans (by kernel_rfl)⟩
  t0 := Try.underlying0
  a0 := Try.isAgg0
  z0 := Try.sizeOf0
  v0 := Try.zeroValue0
  t3 := Try.underlying3
  a3 := Try.isAgg3
  z3 := Try.sizeOf3
  v3 := Try.zeroValue3
  t4 := Try.underlying4
  a4 := Try.isAgg4
  z4 := Try.sizeOf4
  v4 := Try.zeroValue4
  t22 := Try.underlying24
  a22 := Try.isAgg24
  z22 := Try.sizeOf24
  v22 := Try.zeroValue24
  t25 := Try.underlying40
  a25 := Try.isAgg40
  z25 := Try.sizeOf40
  v25 := Try.zeroValue40
theorem cmpLays (blk off size : Nat) (w : World) : CmpLays Try.prog 17 #[] encR 10 cfR blk off size w := fun m os dk _ x y =>
  tcmp_calls x.1 x.2.1 x.2.2.1 x.2.2.2.1 x.2.2.2.2.1 x.2.2.2.2.2.1 x.2.2.2.2.2.2.1 x.2.2.2.2.2.2.2.1 x.2.2.2.2.2.2.2.2.1 x.2.2.2.2.2.2.2.2.2
    y.1 y.2.1 y.2.2.1 y.2.2.2.1 y.2.2.2.2.1 y.2.2.2.2.2.1 y.2.2.2.2.2.2.1 y.2.2.2.2.2.2.2.1 y.2.2.2.2.2.2.2.2.1 y.2.2.2.2.2.2.2.2.2 _
theorem cmp3_lt (a b : Int) : decide (cmp3 a b < 0) = decide (a < b) := by
  unfold cmp3
  by_cases h1 : a < b
  · simp [h1]
  · by_cases h2 : b < a
    · simp [h1, h2]
    · simp [h1, h2]
theorem ltR : ltOf cfR = lt rkR := by
  funext x y
  exact cmp3_lt (rkR y) (rkR x)
theorem encR_len (x : Tr) : (encR x).length = 10 := rfl
theorem encR_one (x : Tr) (v : Value) (hv : v ∈ encR x) : v.oneCell' = true := by
  simp only [encR, List.mem_cons, List.not_mem_nil, or_false] at hv
  rcases hv with h | h | h | h | h | h | h | h | h | h <;> rw [h] <;> rfl
/-- The rows as a list. -/
abbrev SL (k : Nat) (w0 : World) (blk off : Nat) (l : List Tr) (w : World) : Prop := SWK encR k w0 blk off l.toArray w
abbrev RL (k : Nat) (w0 : World) (blk off : Nat) (l : List Tr) : Prop := RowK encR k w0 blk off l.toArray
abbrev cmpV : Value := .func (.func 17) #[] #[]
abbrev unitR : Ending := .returned (.tuple #[])
theorem ins25 {blk off cap : Nat} {l0 P X Q : List Tr} {w0 w : World} (R : RL 10 w0 blk off l0) (hs : l0.length = (P ++ (X ++ Q)).length) (S0 : SL 10 w0 blk off (P ++ (X ++ Q)) w) (hsz : l0.length < 4611686018427387904) :
    Calls Try.prog 25 #[.slice (some ⟨blk, off, none⟩) l0.length cap, .int .i64 P.length, .int .i64 (P.length + X.length : Nat), cmpV] w fun e w' => e = unitR ∧ SL 10 w0 blk off (P ++ (S rkR X ++ Q)) w' := by
  have hC : CmpLays Try.prog 17 #[] encR 10 cfR blk off (P ++ (X ++ Q)).toArray.size w := cmpLays blk off _ w
  have hl : (P ++ (X ++ Q)).toArray.size = l0.length := by rw [List.size_toArray, hs]
  have h := AnyQ.insertionSortCmpFunc lay25 10 agg34 size34 encR R.hk R.h1 cfR 17 #[] blk off cap P.length (P.length + X.length) (P ++ (X ++ Q)).toArray w Try.call17 hC (S0.holds R.hblk R.hH (by rw [hl, List.size_toArray])) (S0.lt R.hblk) (Nat.le_add_right _ _) (by rw [List.size_toArray]; simp) (by rw [hl]; exact hsz)
  rw [hl] at h
  refine h.mono ?_
  rintro e w' ⟨rfl, n, os, rfl⟩
  have e1 : Go.Sort.insertionSort (ltOf cfR) (P ++ (X ++ Q)).toArray P.length (P.length + X.length) = (P ++ (S rkR X ++ Q)).toArray := by rw [ltR]; exact ins_list rkR P X Q
  rw [e1]
  exact ⟨rfl, S0.on R.hblk n _ os (by simp [S_len])⟩
end Go.Eva
end
