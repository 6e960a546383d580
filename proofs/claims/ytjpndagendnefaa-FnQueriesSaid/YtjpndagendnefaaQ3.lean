/- A verified evaluator of the translated code, part 3: EvaQ_2, EvaTa1, EvaTa2, EvaTa3, EvaTs, EvaTa4, EvaOk, EvaQd, EvaQe -/
import Derived.Test.YtjpndagendnefaaQ2
import Derived.Shelf.SlSortCmp.InsertionK
import Derived.Sort.WalkA
section
/- The functions, as their texts evaluate. -/
set_option linter.unusedVariables false
set_option maxRecDepth 100000
namespace Go.Eva
open Go.Proofs
open Go.RowKit (wrap64)
/-! spec.Rank -/
noncomputable def F51 (n : Nat) (a0 : ByteArray) (a1 : Int) (a2 : Int) (a3 : Bool) (a4 : Int) (a5 : Int) (a6 : Int) (a7 : Int) (a8 : Int) (a9 : Int) : Option (Int × Unit) :=
  if (decide (a1 = 1)) = true then
    some (a2, ())
  else
    if (decide (a1 = 2)) = true then
      some (a4, ())
    else
      if (decide (a1 = 3)) = true then
        some (a8, ())
      else
        some (0, ())
noncomputable def c51 (n : Nat) : Con := ⟨[.agg [(.str), (.int .i64), (.int .i64), (.bool), (.int .i64), (.int .i64), (.int .i64), (.int .i64), (.int .i64), (.int .i64)]], [], [.one (.int .i64)], [], fun (x : ByteArray × Int × Int × Bool × Int × Int × Int × Int × Int × Int × Unit) => F51 n x.1 x.2.1 x.2.2.1 x.2.2.2.1 x.2.2.2.2.1 x.2.2.2.2.2.1 x.2.2.2.2.2.2.1 x.2.2.2.2.2.2.2.1 x.2.2.2.2.2.2.2.2.1 x.2.2.2.2.2.2.2.2.2.1⟩
noncomputable def G51 (n : Nat) : Gam := []
theorem e51 (n : Nat) (x : ByteArray × Int × Int × Bool × Int × Int × Int × Int × Int × Int × Unit) : evBody tab (G51 n) n (c51 n) Try.f51 x = F51 n x.1 x.2.1 x.2.2.1 x.2.2.2.1 x.2.2.2.2.1 x.2.2.2.2.2.1 x.2.2.2.2.2.2.1 x.2.2.2.2.2.2.2.1 x.2.2.2.2.2.2.2.2.1 x.2.2.2.2.2.2.2.2.2.1 := by kernel_rfl
theorem g51 (W : World) (n : Nat) : Good Try.prog W 51 (c51 n) := body_good follows tabOk GamOk.nil (f := 51) (fn := Try.f51) (c := bodyOf Try.f51) (by kernel_rfl) (by kernel_rfl) (by kernel_rfl) (by kernel_rfl) (by kernel_rfl) (by kernel_rfl) (by kernel_rfl) (fun x r h => ⟨n, (e51 n x).trans h⟩)
/-! spec.TopRows -/
noncomputable def j15_0 (n : Nat) (g0 : (List (ByteArray × (Int × (Int × (Bool × (Int × (Int × (Int × (Int × (Int × Int)))))))))) → Int → Int → (List (ByteArray × (Int × (Int × (Bool × (Int × (Int × (Int × (Int × (Int × Int)))))))))) → Option (List (ByteArray × (Int × (Int × (Bool × (Int × (Int × (Int × (Int × (Int × Int))))))))) × Unit)) (l0 : List (ByteArray × (Int × (Int × (Bool × (Int × (Int × (Int × (Int × (Int × Int)))))))))) (i1 : Int) (i2 : Int) (i3 : Int) (l4 : List (ByteArray × (Int × (Int × (Bool × (Int × (Int × (Int × (Int × (Int × Int)))))))))) : Option (List (ByteArray × (Int × (Int × (Bool × (Int × (Int × (Int × (Int × (Int × Int))))))))) × Unit) :=
  if (decide (0 ≤ 0)) = true then
  if (decide (0 ≤ i3)) = true then
  if (decide (i3 ≤ (l4.length : Int))) = true then
  if (decide (0 ≤ i2)) = true then
  if (decide (i2 < (l0.length : Int))) = true then
  if (decide (0 ≤ i3)) = true then
  if (decide (i3 ≤ (l4.length : Int))) = true then
  if (decide ((l4.length : Int) ≤ (l4.length : Int))) = true then
  if (decide ((([((rdOf ((⟨#[]⟩ : ByteArray), ((0 : Int), ((0 : Int), (false, ((0 : Int), ((0 : Int), ((0 : Int), ((0 : Int), ((0 : Int), (0 : Int)))))))))) l0 i2).1, (((rdOf ((⟨#[]⟩ : ByteArray), ((0 : Int), ((0 : Int), (false, ((0 : Int), ((0 : Int), ((0 : Int), ((0 : Int), ((0 : Int), (0 : Int)))))))))) l0 i2).2).1, ((((rdOf ((⟨#[]⟩ : ByteArray), ((0 : Int), ((0 : Int), (false, ((0 : Int), ((0 : Int), ((0 : Int), ((0 : Int), ((0 : Int), (0 : Int)))))))))) l0 i2).2).2).1, (((((rdOf ((⟨#[]⟩ : ByteArray), ((0 : Int), ((0 : Int), (false, ((0 : Int), ((0 : Int), ((0 : Int), ((0 : Int), ((0 : Int), (0 : Int)))))))))) l0 i2).2).2).2).1, ((((((rdOf ((⟨#[]⟩ : ByteArray), ((0 : Int), ((0 : Int), (false, ((0 : Int), ((0 : Int), ((0 : Int), ((0 : Int), ((0 : Int), (0 : Int)))))))))) l0 i2).2).2).2).2).1, (((((((rdOf ((⟨#[]⟩ : ByteArray), ((0 : Int), ((0 : Int), (false, ((0 : Int), ((0 : Int), ((0 : Int), ((0 : Int), ((0 : Int), (0 : Int)))))))))) l0 i2).2).2).2).2).2).1, ((((((((rdOf ((⟨#[]⟩ : ByteArray), ((0 : Int), ((0 : Int), (false, ((0 : Int), ((0 : Int), ((0 : Int), ((0 : Int), ((0 : Int), (0 : Int)))))))))) l0 i2).2).2).2).2).2).2).1, (((((((((rdOf ((⟨#[]⟩ : ByteArray), ((0 : Int), ((0 : Int), (false, ((0 : Int), ((0 : Int), ((0 : Int), ((0 : Int), ((0 : Int), (0 : Int)))))))))) l0 i2).2).2).2).2).2).2).2).1, ((((((((((rdOf ((⟨#[]⟩ : ByteArray), ((0 : Int), ((0 : Int), (false, ((0 : Int), ((0 : Int), ((0 : Int), ((0 : Int), ((0 : Int), (0 : Int)))))))))) l0 i2).2).2).2).2).2).2).2).2).1, (((((((((rdOf ((⟨#[]⟩ : ByteArray), ((0 : Int), ((0 : Int), (false, ((0 : Int), ((0 : Int), ((0 : Int), ((0 : Int), ((0 : Int), (0 : Int)))))))))) l0 i2).2).2).2).2).2).2).2).2).2)))))))))] : List (ByteArray × (Int × (Int × (Bool × (Int × (Int × (Int × (Int × (Int × Int)))))))))).length + (cutL l4 i3 (l4.length : Int)).length) * 88 ≤ 140737488355328)) = true then
  if (decide (((cutL l4 (0 : Int) i3).length + (([((rdOf ((⟨#[]⟩ : ByteArray), ((0 : Int), ((0 : Int), (false, ((0 : Int), ((0 : Int), ((0 : Int), ((0 : Int), ((0 : Int), (0 : Int)))))))))) l0 i2).1, (((rdOf ((⟨#[]⟩ : ByteArray), ((0 : Int), ((0 : Int), (false, ((0 : Int), ((0 : Int), ((0 : Int), ((0 : Int), ((0 : Int), (0 : Int)))))))))) l0 i2).2).1, ((((rdOf ((⟨#[]⟩ : ByteArray), ((0 : Int), ((0 : Int), (false, ((0 : Int), ((0 : Int), ((0 : Int), ((0 : Int), ((0 : Int), (0 : Int)))))))))) l0 i2).2).2).1, (((((rdOf ((⟨#[]⟩ : ByteArray), ((0 : Int), ((0 : Int), (false, ((0 : Int), ((0 : Int), ((0 : Int), ((0 : Int), ((0 : Int), (0 : Int)))))))))) l0 i2).2).2).2).1, ((((((rdOf ((⟨#[]⟩ : ByteArray), ((0 : Int), ((0 : Int), (false, ((0 : Int), ((0 : Int), ((0 : Int), ((0 : Int), ((0 : Int), (0 : Int)))))))))) l0 i2).2).2).2).2).1, (((((((rdOf ((⟨#[]⟩ : ByteArray), ((0 : Int), ((0 : Int), (false, ((0 : Int), ((0 : Int), ((0 : Int), ((0 : Int), ((0 : Int), (0 : Int)))))))))) l0 i2).2).2).2).2).2).1, ((((((((rdOf ((⟨#[]⟩ : ByteArray), ((0 : Int), ((0 : Int), (false, ((0 : Int), ((0 : Int), ((0 : Int), ((0 : Int), ((0 : Int), (0 : Int)))))))))) l0 i2).2).2).2).2).2).2).1, (((((((((rdOf ((⟨#[]⟩ : ByteArray), ((0 : Int), ((0 : Int), (false, ((0 : Int), ((0 : Int), ((0 : Int), ((0 : Int), ((0 : Int), (0 : Int)))))))))) l0 i2).2).2).2).2).2).2).2).1, ((((((((((rdOf ((⟨#[]⟩ : ByteArray), ((0 : Int), ((0 : Int), (false, ((0 : Int), ((0 : Int), ((0 : Int), ((0 : Int), ((0 : Int), (0 : Int)))))))))) l0 i2).2).2).2).2).2).2).2).2).1, (((((((((rdOf ((⟨#[]⟩ : ByteArray), ((0 : Int), ((0 : Int), (false, ((0 : Int), ((0 : Int), ((0 : Int), ((0 : Int), ((0 : Int), (0 : Int)))))))))) l0 i2).2).2).2).2).2).2).2).2).2)))))))))] : List (ByteArray × (Int × (Int × (Bool × (Int × (Int × (Int × (Int × (Int × Int)))))))))) ++ (cutL l4 i3 (l4.length : Int))).length) * 88 ≤ 140737488355328)) = true then
  g0 l0 i1 (wrap64 (i2 + 1)) ((cutL l4 (0 : Int) i3) ++ (([((rdOf ((⟨#[]⟩ : ByteArray), ((0 : Int), ((0 : Int), (false, ((0 : Int), ((0 : Int), ((0 : Int), ((0 : Int), ((0 : Int), (0 : Int)))))))))) l0 i2).1, (((rdOf ((⟨#[]⟩ : ByteArray), ((0 : Int), ((0 : Int), (false, ((0 : Int), ((0 : Int), ((0 : Int), ((0 : Int), ((0 : Int), (0 : Int)))))))))) l0 i2).2).1, ((((rdOf ((⟨#[]⟩ : ByteArray), ((0 : Int), ((0 : Int), (false, ((0 : Int), ((0 : Int), ((0 : Int), ((0 : Int), ((0 : Int), (0 : Int)))))))))) l0 i2).2).2).1, (((((rdOf ((⟨#[]⟩ : ByteArray), ((0 : Int), ((0 : Int), (false, ((0 : Int), ((0 : Int), ((0 : Int), ((0 : Int), ((0 : Int), (0 : Int)))))))))) l0 i2).2).2).2).1, ((((((rdOf ((⟨#[]⟩ : ByteArray), ((0 : Int), ((0 : Int), (false, ((0 : Int), ((0 : Int), ((0 : Int), ((0 : Int), ((0 : Int), (0 : Int)))))))))) l0 i2).2).2).2).2).1, (((((((rdOf ((⟨#[]⟩ : ByteArray), ((0 : Int), ((0 : Int), (false, ((0 : Int), ((0 : Int), ((0 : Int), ((0 : Int), ((0 : Int), (0 : Int)))))))))) l0 i2).2).2).2).2).2).1, ((((((((rdOf ((⟨#[]⟩ : ByteArray), ((0 : Int), ((0 : Int), (false, ((0 : Int), ((0 : Int), ((0 : Int), ((0 : Int), ((0 : Int), (0 : Int)))))))))) l0 i2).2).2).2).2).2).2).1, (((((((((rdOf ((⟨#[]⟩ : ByteArray), ((0 : Int), ((0 : Int), (false, ((0 : Int), ((0 : Int), ((0 : Int), ((0 : Int), ((0 : Int), (0 : Int)))))))))) l0 i2).2).2).2).2).2).2).2).1, ((((((((((rdOf ((⟨#[]⟩ : ByteArray), ((0 : Int), ((0 : Int), (false, ((0 : Int), ((0 : Int), ((0 : Int), ((0 : Int), ((0 : Int), (0 : Int)))))))))) l0 i2).2).2).2).2).2).2).2).2).1, (((((((((rdOf ((⟨#[]⟩ : ByteArray), ((0 : Int), ((0 : Int), (false, ((0 : Int), ((0 : Int), ((0 : Int), ((0 : Int), ((0 : Int), (0 : Int)))))))))) l0 i2).2).2).2).2).2).2).2).2).2)))))))))] : List (ByteArray × (Int × (Int × (Bool × (Int × (Int × (Int × (Int × (Int × Int)))))))))) ++ (cutL l4 i3 (l4.length : Int))))
  else none
  else none
  else none
  else none
  else none
  else none
  else none
  else none
  else none
  else none
noncomputable def st15_1 (n : Nat) (g0 : (List (ByteArray × (Int × (Int × (Bool × (Int × (Int × (Int × (Int × (Int × Int)))))))))) → Int → Int → (List (ByteArray × (Int × (Int × (Bool × (Int × (Int × (Int × (Int × (Int × Int)))))))))) → Option (List (ByteArray × (Int × (Int × (Bool × (Int × (Int × (Int × (Int × (Int × Int))))))))) × Unit)) (g1 : (List (ByteArray × (Int × (Int × (Bool × (Int × (Int × (Int × (Int × (Int × Int)))))))))) → Int → Int → Int → (List (ByteArray × (Int × (Int × (Bool × (Int × (Int × (Int × (Int × (Int × Int)))))))))) → Option (List (ByteArray × (Int × (Int × (Bool × (Int × (Int × (Int × (Int × (Int × Int))))))))) × Unit)) (l0 : List (ByteArray × (Int × (Int × (Bool × (Int × (Int × (Int × (Int × (Int × Int)))))))))) (i1 : Int) (i2 : Int) (i3 : Int) (l4 : List (ByteArray × (Int × (Int × (Bool × (Int × (Int × (Int × (Int × (Int × Int)))))))))) : Option (List (ByteArray × (Int × (Int × (Bool × (Int × (Int × (Int × (Int × (Int × Int))))))))) × Unit) :=
  if (decide (i3 > 0)) = true then
    if (decide (0 ≤ (wrap64 (i3 - 1)))) = true then
    if (decide ((wrap64 (i3 - 1)) < (l4.length : Int))) = true then
    (F51 n ((rdOf ((⟨#[]⟩ : ByteArray), ((0 : Int), ((0 : Int), (false, ((0 : Int), ((0 : Int), ((0 : Int), ((0 : Int), ((0 : Int), (0 : Int)))))))))) l4 (wrap64 (i3 - 1))).1) (((rdOf ((⟨#[]⟩ : ByteArray), ((0 : Int), ((0 : Int), (false, ((0 : Int), ((0 : Int), ((0 : Int), ((0 : Int), ((0 : Int), (0 : Int)))))))))) l4 (wrap64 (i3 - 1))).2).1) ((((rdOf ((⟨#[]⟩ : ByteArray), ((0 : Int), ((0 : Int), (false, ((0 : Int), ((0 : Int), ((0 : Int), ((0 : Int), ((0 : Int), (0 : Int)))))))))) l4 (wrap64 (i3 - 1))).2).2).1) (((((rdOf ((⟨#[]⟩ : ByteArray), ((0 : Int), ((0 : Int), (false, ((0 : Int), ((0 : Int), ((0 : Int), ((0 : Int), ((0 : Int), (0 : Int)))))))))) l4 (wrap64 (i3 - 1))).2).2).2).1) ((((((rdOf ((⟨#[]⟩ : ByteArray), ((0 : Int), ((0 : Int), (false, ((0 : Int), ((0 : Int), ((0 : Int), ((0 : Int), ((0 : Int), (0 : Int)))))))))) l4 (wrap64 (i3 - 1))).2).2).2).2).1) (((((((rdOf ((⟨#[]⟩ : ByteArray), ((0 : Int), ((0 : Int), (false, ((0 : Int), ((0 : Int), ((0 : Int), ((0 : Int), ((0 : Int), (0 : Int)))))))))) l4 (wrap64 (i3 - 1))).2).2).2).2).2).1) ((((((((rdOf ((⟨#[]⟩ : ByteArray), ((0 : Int), ((0 : Int), (false, ((0 : Int), ((0 : Int), ((0 : Int), ((0 : Int), ((0 : Int), (0 : Int)))))))))) l4 (wrap64 (i3 - 1))).2).2).2).2).2).2).1) (((((((((rdOf ((⟨#[]⟩ : ByteArray), ((0 : Int), ((0 : Int), (false, ((0 : Int), ((0 : Int), ((0 : Int), ((0 : Int), ((0 : Int), (0 : Int)))))))))) l4 (wrap64 (i3 - 1))).2).2).2).2).2).2).2).1) ((((((((((rdOf ((⟨#[]⟩ : ByteArray), ((0 : Int), ((0 : Int), (false, ((0 : Int), ((0 : Int), ((0 : Int), ((0 : Int), ((0 : Int), (0 : Int)))))))))) l4 (wrap64 (i3 - 1))).2).2).2).2).2).2).2).2).1) ((((((((((rdOf ((⟨#[]⟩ : ByteArray), ((0 : Int), ((0 : Int), (false, ((0 : Int), ((0 : Int), ((0 : Int), ((0 : Int), ((0 : Int), (0 : Int)))))))))) l4 (wrap64 (i3 - 1))).2).2).2).2).2).2).2).2).2)).bind fun r1 =>
    if (decide (0 ≤ i2)) = true then
    if (decide (i2 < (l0.length : Int))) = true then
    (F51 n ((rdOf ((⟨#[]⟩ : ByteArray), ((0 : Int), ((0 : Int), (false, ((0 : Int), ((0 : Int), ((0 : Int), ((0 : Int), ((0 : Int), (0 : Int)))))))))) l0 i2).1) (((rdOf ((⟨#[]⟩ : ByteArray), ((0 : Int), ((0 : Int), (false, ((0 : Int), ((0 : Int), ((0 : Int), ((0 : Int), ((0 : Int), (0 : Int)))))))))) l0 i2).2).1) ((((rdOf ((⟨#[]⟩ : ByteArray), ((0 : Int), ((0 : Int), (false, ((0 : Int), ((0 : Int), ((0 : Int), ((0 : Int), ((0 : Int), (0 : Int)))))))))) l0 i2).2).2).1) (((((rdOf ((⟨#[]⟩ : ByteArray), ((0 : Int), ((0 : Int), (false, ((0 : Int), ((0 : Int), ((0 : Int), ((0 : Int), ((0 : Int), (0 : Int)))))))))) l0 i2).2).2).2).1) ((((((rdOf ((⟨#[]⟩ : ByteArray), ((0 : Int), ((0 : Int), (false, ((0 : Int), ((0 : Int), ((0 : Int), ((0 : Int), ((0 : Int), (0 : Int)))))))))) l0 i2).2).2).2).2).1) (((((((rdOf ((⟨#[]⟩ : ByteArray), ((0 : Int), ((0 : Int), (false, ((0 : Int), ((0 : Int), ((0 : Int), ((0 : Int), ((0 : Int), (0 : Int)))))))))) l0 i2).2).2).2).2).2).1) ((((((((rdOf ((⟨#[]⟩ : ByteArray), ((0 : Int), ((0 : Int), (false, ((0 : Int), ((0 : Int), ((0 : Int), ((0 : Int), ((0 : Int), (0 : Int)))))))))) l0 i2).2).2).2).2).2).2).1) (((((((((rdOf ((⟨#[]⟩ : ByteArray), ((0 : Int), ((0 : Int), (false, ((0 : Int), ((0 : Int), ((0 : Int), ((0 : Int), ((0 : Int), (0 : Int)))))))))) l0 i2).2).2).2).2).2).2).2).1) ((((((((((rdOf ((⟨#[]⟩ : ByteArray), ((0 : Int), ((0 : Int), (false, ((0 : Int), ((0 : Int), ((0 : Int), ((0 : Int), ((0 : Int), (0 : Int)))))))))) l0 i2).2).2).2).2).2).2).2).2).1) ((((((((((rdOf ((⟨#[]⟩ : ByteArray), ((0 : Int), ((0 : Int), (false, ((0 : Int), ((0 : Int), ((0 : Int), ((0 : Int), ((0 : Int), (0 : Int)))))))))) l0 i2).2).2).2).2).2).2).2).2).2)).bind fun r2 =>
    if (decide (r1.1 < r2.1)) = true then
      g1 l0 i1 i2 (wrap64 (i3 - 1)) l4
    else
      j15_0 n g0 l0 i1 i2 i3 l4
    else none
    else none
    else none
    else none
  else
    j15_0 n g0 l0 i1 i2 i3 l4
noncomputable def lp15_1 (n : Nat) (g0 : (List (ByteArray × (Int × (Int × (Bool × (Int × (Int × (Int × (Int × (Int × Int)))))))))) → Int → Int → (List (ByteArray × (Int × (Int × (Bool × (Int × (Int × (Int × (Int × (Int × Int)))))))))) → Option (List (ByteArray × (Int × (Int × (Bool × (Int × (Int × (Int × (Int × (Int × Int))))))))) × Unit)) : Nat → (List (ByteArray × (Int × (Int × (Bool × (Int × (Int × (Int × (Int × (Int × Int)))))))))) → Int → Int → Int → (List (ByteArray × (Int × (Int × (Bool × (Int × (Int × (Int × (Int × (Int × Int)))))))))) → Option (List (ByteArray × (Int × (Int × (Bool × (Int × (Int × (Int × (Int × (Int × Int))))))))) × Unit)
  | 0 => fun _ _ _ _ _ => none
  | k + 1 => st15_1 n g0 (lp15_1 n g0 k)
noncomputable def st15_0 (n : Nat) (h1 : (List (ByteArray × (Int × (Int × (Bool × (Int × (Int × (Int × (Int × (Int × Int)))))))))) → Int → Int → Int → (List (ByteArray × (Int × (Int × (Bool × (Int × (Int × (Int × (Int × (Int × Int)))))))))) → Option (List (ByteArray × (Int × (Int × (Bool × (Int × (Int × (Int × (Int × (Int × Int))))))))) × Unit)) (g0 : (List (ByteArray × (Int × (Int × (Bool × (Int × (Int × (Int × (Int × (Int × Int)))))))))) → Int → Int → (List (ByteArray × (Int × (Int × (Bool × (Int × (Int × (Int × (Int × (Int × Int)))))))))) → Option (List (ByteArray × (Int × (Int × (Bool × (Int × (Int × (Int × (Int × (Int × Int))))))))) × Unit)) (l0 : List (ByteArray × (Int × (Int × (Bool × (Int × (Int × (Int × (Int × (Int × Int)))))))))) (i1 : Int) (i2 : Int) (l3 : List (ByteArray × (Int × (Int × (Bool × (Int × (Int × (Int × (Int × (Int × Int)))))))))) : Option (List (ByteArray × (Int × (Int × (Bool × (Int × (Int × (Int × (Int × (Int × Int))))))))) × Unit) :=
  if (decide (i2 < (l0.length : Int))) = true then
    h1 l0 i1 i2 (l3.length : Int) l3
  else
    (F52 n i1 (0 : Int) (l3.length : Int)).bind fun r3 =>
    if (!r3.1) = true then
      some (l3, ())
    else
      if (decide (0 ≤ 0)) = true then
      if (decide (0 ≤ i1)) = true then
      if (decide (i1 ≤ (l3.length : Int))) = true then
      if (decide ((([] : List (ByteArray × (Int × (Int × (Bool × (Int × (Int × (Int × (Int × (Int × Int)))))))))).length + (cutL l3 (0 : Int) i1).length) * 88 ≤ 140737488355328)) = true then
      some ((([] : List (ByteArray × (Int × (Int × (Bool × (Int × (Int × (Int × (Int × (Int × Int)))))))))) ++ (cutL l3 (0 : Int) i1)), ())
      else none
      else none
      else none
      else none
noncomputable def lp15_0 (n : Nat) : Nat → (List (ByteArray × (Int × (Int × (Bool × (Int × (Int × (Int × (Int × (Int × Int)))))))))) → Int → Int → (List (ByteArray × (Int × (Int × (Bool × (Int × (Int × (Int × (Int × (Int × Int)))))))))) → Option (List (ByteArray × (Int × (Int × (Bool × (Int × (Int × (Int × (Int × (Int × Int))))))))) × Unit)
  | 0 => fun _ _ _ _ => none
  | k + 1 => st15_0 n (lp15_1 n (lp15_0 n k) n) (lp15_0 n k)
noncomputable def st15 (n : Nat) (h0 : (List (ByteArray × (Int × (Int × (Bool × (Int × (Int × (Int × (Int × (Int × Int)))))))))) → Int → Int → (List (ByteArray × (Int × (Int × (Bool × (Int × (Int × (Int × (Int × (Int × Int)))))))))) → Option (List (ByteArray × (Int × (Int × (Bool × (Int × (Int × (Int × (Int × (Int × Int))))))))) × Unit)) (a0 : List (ByteArray × (Int × (Int × (Bool × (Int × (Int × (Int × (Int × (Int × Int)))))))))) (a1 : Int) : Option (List (ByteArray × (Int × (Int × (Bool × (Int × (Int × (Int × (Int × (Int × Int))))))))) × Unit) :=
  h0 a0 a1 (0 : Int) ([] : List (ByteArray × (Int × (Int × (Bool × (Int × (Int × (Int × (Int × (Int × Int))))))))))
noncomputable def F15 (n : Nat) (a0 : List (ByteArray × (Int × (Int × (Bool × (Int × (Int × (Int × (Int × (Int × Int)))))))))) (a1 : Int) : Option (List (ByteArray × (Int × (Int × (Bool × (Int × (Int × (Int × (Int × (Int × Int))))))))) × Unit) := st15 n (lp15_0 n n) a0 a1
noncomputable def c15 (n : Nat) : Con := ⟨[.one (.sl (.imm true) 30 (.pair .str (.pair (.int .i64) (.pair (.int .i64) (.pair .bool (.pair (.int .i64) (.pair (.int .i64) (.pair (.int .i64) (.pair (.int .i64) (.pair (.int .i64) (.int .i64))))))))))), .one (.int .i64)], [], [.one (.sl .own 30 (.pair .str (.pair (.int .i64) (.pair (.int .i64) (.pair .bool (.pair (.int .i64) (.pair (.int .i64) (.pair (.int .i64) (.pair (.int .i64) (.pair (.int .i64) (.int .i64)))))))))))], [], fun (x : List (ByteArray × (Int × (Int × (Bool × (Int × (Int × (Int × (Int × (Int × Int))))))))) × Int × Unit) => F15 n x.1 x.2.1⟩
noncomputable def G15 (n : Nat) : Gam := [((51, []), c51 n), ((52, []), c52 n)]
noncomputable def S15_1 (l0 : List (ByteArray × (Int × (Int × (Bool × (Int × (Int × (Int × (Int × (Int × Int)))))))))) (i1 : Int) (i2 : Int) (i3 : Int) (l4 : List (ByteArray × (Int × (Int × (Bool × (Int × (Int × (Int × (Int × (Int × Int)))))))))) : St := ⟨[.sl (.imm true) 30 (.pair .str (.pair (.int .i64) (.pair (.int .i64) (.pair .bool (.pair (.int .i64) (.pair (.int .i64) (.pair (.int .i64) (.pair (.int .i64) (.pair (.int .i64) (.int .i64)))))))))) l0, .int .i64 i1, .dead, .dead, .dead, .sr 5 0 none 0 0 none, .int .i64 i2, .int .i64 i3] ++ List.replicate 51 .dead, List.replicate 5 Ob.none ++ [⟨false, [.sl .own 30 (.pair .str (.pair (.int .i64) (.pair (.int .i64) (.pair .bool (.pair (.int .i64) (.pair (.int .i64) (.pair (.int .i64) (.pair (.int .i64) (.pair (.int .i64) (.int .i64)))))))))) l4], 0, 0⟩] ++ List.replicate 53 Ob.none⟩
noncomputable def ga15_1 (n : Nat) (ks : List Nat) (k : Nat) (st : St) : Option (List (ByteArray × (Int × (Int × (Bool × (Int × (Int × (Int × (Int × (Int × Int))))))))) × Unit) := goAt tab (G15 n) n (bodyOf Try.f15) (lvOf Try.f15) (lvOf Try.f15).ret [1, 1, 0, 1, 0, 0, 1, 0, 0, 1, 0, 0] ks k st (evBody.endK tab (c15 n) Try.f15)
noncomputable def S15_0 (l0 : List (ByteArray × (Int × (Int × (Bool × (Int × (Int × (Int × (Int × (Int × Int)))))))))) (i1 : Int) (i2 : Int) (l3 : List (ByteArray × (Int × (Int × (Bool × (Int × (Int × (Int × (Int × (Int × Int)))))))))) : St := ⟨[.sl (.imm true) 30 (.pair .str (.pair (.int .i64) (.pair (.int .i64) (.pair .bool (.pair (.int .i64) (.pair (.int .i64) (.pair (.int .i64) (.pair (.int .i64) (.pair (.int .i64) (.int .i64)))))))))) l0, .int .i64 i1, .dead, .dead, .dead, .sr 5 0 none 0 0 none, .int .i64 i2] ++ List.replicate 52 .dead, List.replicate 5 Ob.none ++ [⟨false, [.sl .own 30 (.pair .str (.pair (.int .i64) (.pair (.int .i64) (.pair .bool (.pair (.int .i64) (.pair (.int .i64) (.pair (.int .i64) (.pair (.int .i64) (.pair (.int .i64) (.int .i64)))))))))) l3], 0, 0⟩] ++ List.replicate 53 Ob.none⟩
noncomputable def ga15_0 (n : Nat) (ks : List Nat) (k : Nat) (st : St) : Option (List (ByteArray × (Int × (Int × (Bool × (Int × (Int × (Int × (Int × (Int × Int))))))))) × Unit) := goAt tab (G15 n) n (bodyOf Try.f15) (lvOf Try.f15) (lvOf Try.f15).ret [1, 1, 0, 1, 0] ks k st (evBody.endK tab (c15 n) Try.f15)
theorem el15_1 (n : Nat) (k0 : Nat) : ∀ (k : Nat), ∀ (l0 : List (ByteArray × (Int × (Int × (Bool × (Int × (Int × (Int × (Int × (Int × Int)))))))))) (i1 : Int) (i2 : Int) (i3 : Int) (l4 : List (ByteArray × (Int × (Int × (Bool × (Int × (Int × (Int × (Int × (Int × Int)))))))))), ga15_1 n [k0] k (S15_1 l0 i1 i2 i3 l4) = lp15_1 n (fun w0 w1 w2 w3 => ga15_0 n [] k0 (S15_0 w0 w1 w2 w3)) k l0 i1 i2 i3 l4 := by
  intro k
  induction k with
  | zero => intros; rfl
  | succ k ih =>
    intro l0 i1 i2 i3 l4
    have h : ga15_1 n [k0] (k + 1) (S15_1 l0 i1 i2 i3 l4) = st15_1 n (fun w0 w1 w2 w3 => ga15_0 n [] k0 (S15_0 w0 w1 w2 w3)) (fun w0 w1 w2 w3 w4 => ga15_1 n [k0] k (S15_1 w0 w1 w2 w3 w4)) l0 i1 i2 i3 l4 := by kernel_rfl
    rw [h]
    have e : (fun w0 w1 w2 w3 w4 => ga15_1 n [k0] k (S15_1 w0 w1 w2 w3 w4)) = lp15_1 n (fun w0 w1 w2 w3 => ga15_0 n [] k0 (S15_0 w0 w1 w2 w3)) k := by
      funext w0 w1 w2 w3 w4; exact ih w0 w1 w2 w3 w4
    rw [e]
    rfl
theorem el15_0 (n : Nat) : ∀ (k : Nat), ∀ (l0 : List (ByteArray × (Int × (Int × (Bool × (Int × (Int × (Int × (Int × (Int × Int)))))))))) (i1 : Int) (i2 : Int) (l3 : List (ByteArray × (Int × (Int × (Bool × (Int × (Int × (Int × (Int × (Int × Int)))))))))), ga15_0 n [] k (S15_0 l0 i1 i2 l3) = lp15_0 n k l0 i1 i2 l3 := by
  intro k
  induction k with
  | zero => intros; rfl
  | succ k ih =>
    intro l0 i1 i2 l3
    have h : ga15_0 n [] (k + 1) (S15_0 l0 i1 i2 l3) = st15_0 n (fun w0 w1 w2 w3 w4 => ga15_1 n [k] n (S15_1 w0 w1 w2 w3 w4)) (fun w0 w1 w2 w3 => ga15_0 n [] k (S15_0 w0 w1 w2 w3)) l0 i1 i2 l3 := by kernel_rfl
    rw [h]
    have e1 : (fun w0 w1 w2 w3 w4 => ga15_1 n [k] n (S15_1 w0 w1 w2 w3 w4)) = lp15_1 n (fun w0 w1 w2 w3 => ga15_0 n [] k (S15_0 w0 w1 w2 w3)) n := by
      funext w0 w1 w2 w3 w4; exact el15_1 n k n w0 w1 w2 w3 w4
    have e : (fun w0 w1 w2 w3 => ga15_0 n [] k (S15_0 w0 w1 w2 w3)) = lp15_0 n k := by
      funext w0 w1 w2 w3; exact ih w0 w1 w2 w3
    rw [e1, e]
    rfl
theorem e15 (n : Nat) (x : List (ByteArray × (Int × (Int × (Bool × (Int × (Int × (Int × (Int × (Int × Int))))))))) × Int × Unit) : evBody tab (G15 n) n (c15 n) Try.f15 x = F15 n x.1 x.2.1 := by
  have h : evBody tab (G15 n) n (c15 n) Try.f15 x = st15 n (fun w0 w1 w2 w3 => ga15_0 n [] n (S15_0 w0 w1 w2 w3)) x.1 x.2.1 := by kernel_rfl
  rw [h]
  have e0 : (fun w0 w1 w2 w3 => ga15_0 n [] n (S15_0 w0 w1 w2 w3)) = lp15_0 n n := by
    funext w0 w1 w2 w3; exact el15_0 n n w0 w1 w2 w3
  rw [e0]
  rfl
theorem g15 (W : World) (n : Nat) : Good Try.prog W 15 (c15 n) := body_good follows tabOk (GamOk.cons (g51 W n) (GamOk.cons (g52 W n) GamOk.nil)) (f := 15) (fn := Try.f15) (c := bodyOf Try.f15) (by kernel_rfl) (by kernel_rfl) (by kernel_rfl) (by kernel_rfl) (by kernel_rfl) (by kernel_rfl) (by kernel_rfl) (fun x r h => ⟨n, (e15 n x).trans h⟩)
/-! laws.big -/
noncomputable def F7 (n : Nat) (a0 : List Int) : Option (Bool × Unit) :=
  some (decide ((a0.length : Int) > 1048576), ())
noncomputable def c7 (n : Nat) : Con := ⟨[.one (.sl (.imm true) 5 (.int .u8))], [], [.one (.bool)], [], fun (x : List Int × Unit) => F7 n x.1⟩
noncomputable def G7 (n : Nat) : Gam := []
theorem e7 (n : Nat) (x : List Int × Unit) : evBody tab (G7 n) n (c7 n) Try.f7 x = F7 n x.1 := by kernel_rfl
theorem g7 (W : World) (n : Nat) : Good Try.prog W 7 (c7 n) := body_good follows tabOk GamOk.nil (f := 7) (fn := Try.f7) (c := bodyOf Try.f7) (by kernel_rfl) (by kernel_rfl) (by kernel_rfl) (by kernel_rfl) (by kernel_rfl) (by kernel_rfl) (by kernel_rfl) (fun x r h => ⟨n, (e7 n x).trans h⟩)
/-! spec.DrawWithPrefix -/
noncomputable def F8 (n : Nat) (a0 : List Int) : Option (List (ByteArray × (Int × (Int × (Bool × (Int × (Int × (Int × (Int × (Int × Int))))))))) × ByteArray × Unit) :=
  (F41 n a0).bind fun r1 =>
  (F42 n r1.2.1 r1.2.2.1 r1.2.2.2.1).bind fun r2 =>
  (F43 n ([(⟨#[]⟩ : ByteArray), (⟨#[97]⟩ : ByteArray), (⟨#[99]⟩ : ByteArray), (⟨#[99, 112]⟩ : ByteArray), (⟨#[109, 101]⟩ : ByteArray), (⟨#[99, 112, 117, 120]⟩ : ByteArray)] : List ByteArray) r2.2.1 r2.2.2.1 r2.2.2.2.1).bind fun r3 =>
  some (r2.1, r3.1, ())
noncomputable def c8 (n : Nat) : Con := ⟨[.one (.sl (.imm false) 5 (.int .u8))], [], [.one (.sl .own 30 (.pair .str (.pair (.int .i64) (.pair (.int .i64) (.pair .bool (.pair (.int .i64) (.pair (.int .i64) (.pair (.int .i64) (.pair (.int .i64) (.pair (.int .i64) (.int .i64))))))))))), .one (.str)], [], fun (x : List Int × Unit) => F8 n x.1⟩
noncomputable def G8 (n : Nat) : Gam := [((41, []), c41 n), ((42, []), c42 n), ((43, []), c43 n)]
theorem e8 (n : Nat) (x : List Int × Unit) : evBody tab (G8 n) n (c8 n) Try.f8 x = F8 n x.1 := by kernel_rfl
theorem g8 (W : World) (n : Nat) : Good Try.prog W 8 (c8 n) := body_good follows tabOk (GamOk.cons (g41 W n) (GamOk.cons (g42 W n) (GamOk.cons (g43 W n) GamOk.nil))) (f := 8) (fn := Try.f8) (c := bodyOf Try.f8) (by kernel_rfl) (by kernel_rfl) (by kernel_rfl) (by kernel_rfl) (by kernel_rfl) (by kernel_rfl) (by kernel_rfl) (fun x r h => ⟨n, (e8 n x).trans h⟩)
/-! stringslite.HasPrefix -/
noncomputable def F70 (n : Nat) (a0 : ByteArray) (a1 : ByteArray) : Option (Bool × Unit) :=
  if (decide ((a0.size : Int) ≥ (a1.size : Int))) = true then
    if (decide (0 ≤ 0)) = true then
    if (decide (0 ≤ (a1.size : Int))) = true then
    if (decide ((a1.size : Int) ≤ (a0.size : Int))) = true then
    some (decide ((a0.extract (0 : Int).toNat (a1.size : Int).toNat).toList = a1.toList), ())
    else none
    else none
    else none
  else
    some (false, ())
noncomputable def c70 (n : Nat) : Con := ⟨[.one (.str), .one (.str)], [], [.one (.bool)], [], fun (x : ByteArray × ByteArray × Unit) => F70 n x.1 x.2.1⟩
noncomputable def G70 (n : Nat) : Gam := []
theorem e70 (n : Nat) (x : ByteArray × ByteArray × Unit) : evBody tab (G70 n) n (c70 n) Try.f70 x = F70 n x.1 x.2.1 := by kernel_rfl
theorem g70 (W : World) (n : Nat) : Good Try.prog W 70 (c70 n) := body_good follows tabOk GamOk.nil (f := 70) (fn := Try.f70) (c := bodyOf Try.f70) (by kernel_rfl) (by kernel_rfl) (by kernel_rfl) (by kernel_rfl) (by kernel_rfl) (by kernel_rfl) (by kernel_rfl) (fun x r h => ⟨n, (e70 n x).trans h⟩)
/-! strings.HasPrefix -/
noncomputable def F44 (n : Nat) (a0 : ByteArray) (a1 : ByteArray) : Option (Bool × Unit) :=
  (F70 n a0 a1).bind fun r1 =>
  some (r1.1, ())
noncomputable def c44 (n : Nat) : Con := ⟨[.one (.str), .one (.str)], [], [.one (.bool)], [], fun (x : ByteArray × ByteArray × Unit) => F44 n x.1 x.2.1⟩
noncomputable def G44 (n : Nat) : Gam := [((70, []), c70 n)]
theorem e44 (n : Nat) (x : ByteArray × ByteArray × Unit) : evBody tab (G44 n) n (c44 n) Try.f44 x = F44 n x.1 x.2.1 := by kernel_rfl
theorem g44 (W : World) (n : Nat) : Good Try.prog W 44 (c44 n) := body_good follows tabOk (GamOk.cons (g70 W n) GamOk.nil) (f := 44) (fn := Try.f44) (c := bodyOf Try.f44) (by kernel_rfl) (by kernel_rfl) (by kernel_rfl) (by kernel_rfl) (by kernel_rfl) (by kernel_rfl) (by kernel_rfl) (fun x r h => ⟨n, (e44 n x).trans h⟩)
/-! impl.WithPrefix -/
noncomputable def st9_0 (n : Nat) (g0 : ByteArray → (List (ByteArray × (Int × (Int × (Bool × (Int × (Int × (Int × (Int × (Int × Int)))))))))) → Int → Int → (List (ByteArray × (Int × (Int × (Bool × (Int × (Int × (Int × (Int × (Int × Int)))))))))) → Option (List (ByteArray × (Int × (Int × (Bool × (Int × (Int × (Int × (Int × (Int × Int))))))))) × Unit)) (s0 : ByteArray) (l1 : List (ByteArray × (Int × (Int × (Bool × (Int × (Int × (Int × (Int × (Int × Int)))))))))) (i2 : Int) (i3 : Int) (l4 : List (ByteArray × (Int × (Int × (Bool × (Int × (Int × (Int × (Int × (Int × Int)))))))))) : Option (List (ByteArray × (Int × (Int × (Bool × (Int × (Int × (Int × (Int × (Int × Int))))))))) × Unit) :=
  if (decide (i3 < i2)) = true then
    if (decide (0 ≤ i3)) = true then
    if (decide (i3 < (l1.length : Int))) = true then
    (F44 n ((rdOf ((⟨#[]⟩ : ByteArray), ((0 : Int), ((0 : Int), (false, ((0 : Int), ((0 : Int), ((0 : Int), ((0 : Int), ((0 : Int), (0 : Int)))))))))) l1 i3).1) s0).bind fun r1 =>
    if r1.1 = true then
      if (decide ((l4.length + ([((rdOf ((⟨#[]⟩ : ByteArray), ((0 : Int), ((0 : Int), (false, ((0 : Int), ((0 : Int), ((0 : Int), ((0 : Int), ((0 : Int), (0 : Int)))))))))) l1 i3).1, (((rdOf ((⟨#[]⟩ : ByteArray), ((0 : Int), ((0 : Int), (false, ((0 : Int), ((0 : Int), ((0 : Int), ((0 : Int), ((0 : Int), (0 : Int)))))))))) l1 i3).2).1, ((((rdOf ((⟨#[]⟩ : ByteArray), ((0 : Int), ((0 : Int), (false, ((0 : Int), ((0 : Int), ((0 : Int), ((0 : Int), ((0 : Int), (0 : Int)))))))))) l1 i3).2).2).1, (((((rdOf ((⟨#[]⟩ : ByteArray), ((0 : Int), ((0 : Int), (false, ((0 : Int), ((0 : Int), ((0 : Int), ((0 : Int), ((0 : Int), (0 : Int)))))))))) l1 i3).2).2).2).1, ((((((rdOf ((⟨#[]⟩ : ByteArray), ((0 : Int), ((0 : Int), (false, ((0 : Int), ((0 : Int), ((0 : Int), ((0 : Int), ((0 : Int), (0 : Int)))))))))) l1 i3).2).2).2).2).1, (((((((rdOf ((⟨#[]⟩ : ByteArray), ((0 : Int), ((0 : Int), (false, ((0 : Int), ((0 : Int), ((0 : Int), ((0 : Int), ((0 : Int), (0 : Int)))))))))) l1 i3).2).2).2).2).2).1, ((((((((rdOf ((⟨#[]⟩ : ByteArray), ((0 : Int), ((0 : Int), (false, ((0 : Int), ((0 : Int), ((0 : Int), ((0 : Int), ((0 : Int), (0 : Int)))))))))) l1 i3).2).2).2).2).2).2).1, (((((((((rdOf ((⟨#[]⟩ : ByteArray), ((0 : Int), ((0 : Int), (false, ((0 : Int), ((0 : Int), ((0 : Int), ((0 : Int), ((0 : Int), (0 : Int)))))))))) l1 i3).2).2).2).2).2).2).2).1, ((((((((((rdOf ((⟨#[]⟩ : ByteArray), ((0 : Int), ((0 : Int), (false, ((0 : Int), ((0 : Int), ((0 : Int), ((0 : Int), ((0 : Int), (0 : Int)))))))))) l1 i3).2).2).2).2).2).2).2).2).1, (((((((((rdOf ((⟨#[]⟩ : ByteArray), ((0 : Int), ((0 : Int), (false, ((0 : Int), ((0 : Int), ((0 : Int), ((0 : Int), ((0 : Int), (0 : Int)))))))))) l1 i3).2).2).2).2).2).2).2).2).2)))))))))] : List (ByteArray × (Int × (Int × (Bool × (Int × (Int × (Int × (Int × (Int × Int)))))))))).length) * 88 ≤ 140737488355328)) = true then
      g0 s0 l1 i2 (wrap64 (i3 + 1)) (l4 ++ ([((rdOf ((⟨#[]⟩ : ByteArray), ((0 : Int), ((0 : Int), (false, ((0 : Int), ((0 : Int), ((0 : Int), ((0 : Int), ((0 : Int), (0 : Int)))))))))) l1 i3).1, (((rdOf ((⟨#[]⟩ : ByteArray), ((0 : Int), ((0 : Int), (false, ((0 : Int), ((0 : Int), ((0 : Int), ((0 : Int), ((0 : Int), (0 : Int)))))))))) l1 i3).2).1, ((((rdOf ((⟨#[]⟩ : ByteArray), ((0 : Int), ((0 : Int), (false, ((0 : Int), ((0 : Int), ((0 : Int), ((0 : Int), ((0 : Int), (0 : Int)))))))))) l1 i3).2).2).1, (((((rdOf ((⟨#[]⟩ : ByteArray), ((0 : Int), ((0 : Int), (false, ((0 : Int), ((0 : Int), ((0 : Int), ((0 : Int), ((0 : Int), (0 : Int)))))))))) l1 i3).2).2).2).1, ((((((rdOf ((⟨#[]⟩ : ByteArray), ((0 : Int), ((0 : Int), (false, ((0 : Int), ((0 : Int), ((0 : Int), ((0 : Int), ((0 : Int), (0 : Int)))))))))) l1 i3).2).2).2).2).1, (((((((rdOf ((⟨#[]⟩ : ByteArray), ((0 : Int), ((0 : Int), (false, ((0 : Int), ((0 : Int), ((0 : Int), ((0 : Int), ((0 : Int), (0 : Int)))))))))) l1 i3).2).2).2).2).2).1, ((((((((rdOf ((⟨#[]⟩ : ByteArray), ((0 : Int), ((0 : Int), (false, ((0 : Int), ((0 : Int), ((0 : Int), ((0 : Int), ((0 : Int), (0 : Int)))))))))) l1 i3).2).2).2).2).2).2).1, (((((((((rdOf ((⟨#[]⟩ : ByteArray), ((0 : Int), ((0 : Int), (false, ((0 : Int), ((0 : Int), ((0 : Int), ((0 : Int), ((0 : Int), (0 : Int)))))))))) l1 i3).2).2).2).2).2).2).2).1, ((((((((((rdOf ((⟨#[]⟩ : ByteArray), ((0 : Int), ((0 : Int), (false, ((0 : Int), ((0 : Int), ((0 : Int), ((0 : Int), ((0 : Int), (0 : Int)))))))))) l1 i3).2).2).2).2).2).2).2).2).1, (((((((((rdOf ((⟨#[]⟩ : ByteArray), ((0 : Int), ((0 : Int), (false, ((0 : Int), ((0 : Int), ((0 : Int), ((0 : Int), ((0 : Int), (0 : Int)))))))))) l1 i3).2).2).2).2).2).2).2).2).2)))))))))] : List (ByteArray × (Int × (Int × (Bool × (Int × (Int × (Int × (Int × (Int × Int)))))))))))
      else none
    else
      g0 s0 l1 i2 (wrap64 (i3 + 1)) l4
    else none
    else none
  else
    some (l4, ())
noncomputable def lp9_0 (n : Nat) : Nat → ByteArray → (List (ByteArray × (Int × (Int × (Bool × (Int × (Int × (Int × (Int × (Int × Int)))))))))) → Int → Int → (List (ByteArray × (Int × (Int × (Bool × (Int × (Int × (Int × (Int × (Int × Int)))))))))) → Option (List (ByteArray × (Int × (Int × (Bool × (Int × (Int × (Int × (Int × (Int × Int))))))))) × Unit)
  | 0 => fun _ _ _ _ _ => none
  | k + 1 => st9_0 n (lp9_0 n k)
noncomputable def st9 (n : Nat) (h0 : ByteArray → (List (ByteArray × (Int × (Int × (Bool × (Int × (Int × (Int × (Int × (Int × Int)))))))))) → Int → Int → (List (ByteArray × (Int × (Int × (Bool × (Int × (Int × (Int × (Int × (Int × Int)))))))))) → Option (List (ByteArray × (Int × (Int × (Bool × (Int × (Int × (Int × (Int × (Int × Int))))))))) × Unit)) (a0 : List (ByteArray × (Int × (Int × (Bool × (Int × (Int × (Int × (Int × (Int × Int)))))))))) (a1 : ByteArray) : Option (List (ByteArray × (Int × (Int × (Bool × (Int × (Int × (Int × (Int × (Int × Int))))))))) × Unit) :=
  h0 a1 a0 (a0.length : Int) (0 : Int) ([] : List (ByteArray × (Int × (Int × (Bool × (Int × (Int × (Int × (Int × (Int × Int))))))))))
noncomputable def F9 (n : Nat) (a0 : List (ByteArray × (Int × (Int × (Bool × (Int × (Int × (Int × (Int × (Int × Int)))))))))) (a1 : ByteArray) : Option (List (ByteArray × (Int × (Int × (Bool × (Int × (Int × (Int × (Int × (Int × Int))))))))) × Unit) := st9 n (lp9_0 n n) a0 a1
noncomputable def c9 (n : Nat) : Con := ⟨[.one (.sl (.imm true) 30 (.pair .str (.pair (.int .i64) (.pair (.int .i64) (.pair .bool (.pair (.int .i64) (.pair (.int .i64) (.pair (.int .i64) (.pair (.int .i64) (.pair (.int .i64) (.int .i64))))))))))), .one (.str)], [], [.one (.sl .own 30 (.pair .str (.pair (.int .i64) (.pair (.int .i64) (.pair .bool (.pair (.int .i64) (.pair (.int .i64) (.pair (.int .i64) (.pair (.int .i64) (.pair (.int .i64) (.int .i64)))))))))))], [], fun (x : List (ByteArray × (Int × (Int × (Bool × (Int × (Int × (Int × (Int × (Int × Int))))))))) × ByteArray × Unit) => F9 n x.1 x.2.1⟩
noncomputable def G9 (n : Nat) : Gam := [((44, []), c44 n)]
noncomputable def S9_0 (s0 : ByteArray) (l1 : List (ByteArray × (Int × (Int × (Bool × (Int × (Int × (Int × (Int × (Int × Int)))))))))) (i2 : Int) (i3 : Int) (l4 : List (ByteArray × (Int × (Int × (Bool × (Int × (Int × (Int × (Int × (Int × Int)))))))))) : St := ⟨[.dead, .str s0, .dead, .dead, .dead, .sr 5 0 none 0 0 none, .dead, .dead, .dead, .sl (.imm true) 30 (.pair .str (.pair (.int .i64) (.pair (.int .i64) (.pair .bool (.pair (.int .i64) (.pair (.int .i64) (.pair (.int .i64) (.pair (.int .i64) (.pair (.int .i64) (.int .i64)))))))))) l1, .int .i64 i2, .int .i64 i3] ++ List.replicate 13 .dead, List.replicate 5 Ob.none ++ [⟨false, [.sl .own 30 (.pair .str (.pair (.int .i64) (.pair (.int .i64) (.pair .bool (.pair (.int .i64) (.pair (.int .i64) (.pair (.int .i64) (.pair (.int .i64) (.pair (.int .i64) (.int .i64)))))))))) l4], 0, 0⟩] ++ List.replicate 19 Ob.none⟩
noncomputable def ga9_0 (n : Nat) (ks : List Nat) (k : Nat) (st : St) : Option (List (ByteArray × (Int × (Int × (Bool × (Int × (Int × (Int × (Int × (Int × Int))))))))) × Unit) := goAt tab (G9 n) n (bodyOf Try.f9) (lvOf Try.f9) (lvOf Try.f9).ret [1, 1, 0, 1, 0] ks k st (evBody.endK tab (c9 n) Try.f9)
theorem el9_0 (n : Nat) : ∀ (k : Nat), ∀ (s0 : ByteArray) (l1 : List (ByteArray × (Int × (Int × (Bool × (Int × (Int × (Int × (Int × (Int × Int)))))))))) (i2 : Int) (i3 : Int) (l4 : List (ByteArray × (Int × (Int × (Bool × (Int × (Int × (Int × (Int × (Int × Int)))))))))), ga9_0 n [] k (S9_0 s0 l1 i2 i3 l4) = lp9_0 n k s0 l1 i2 i3 l4 := by
  intro k
  induction k with
  | zero => intros; rfl
  | succ k ih =>
    intro s0 l1 i2 i3 l4
    have h : ga9_0 n [] (k + 1) (S9_0 s0 l1 i2 i3 l4) = st9_0 n (fun w0 w1 w2 w3 w4 => ga9_0 n [] k (S9_0 w0 w1 w2 w3 w4)) s0 l1 i2 i3 l4 := by kernel_rfl
    rw [h]
    have e : (fun w0 w1 w2 w3 w4 => ga9_0 n [] k (S9_0 w0 w1 w2 w3 w4)) = lp9_0 n k := by
      funext w0 w1 w2 w3 w4; exact ih w0 w1 w2 w3 w4
    rw [e]
    rfl
theorem e9 (n : Nat) (x : List (ByteArray × (Int × (Int × (Bool × (Int × (Int × (Int × (Int × (Int × Int))))))))) × ByteArray × Unit) : evBody tab (G9 n) n (c9 n) Try.f9 x = F9 n x.1 x.2.1 := by
  have h : evBody tab (G9 n) n (c9 n) Try.f9 x = st9 n (fun w0 w1 w2 w3 w4 => ga9_0 n [] n (S9_0 w0 w1 w2 w3 w4)) x.1 x.2.1 := by kernel_rfl
  rw [h]
  have e0 : (fun w0 w1 w2 w3 w4 => ga9_0 n [] n (S9_0 w0 w1 w2 w3 w4)) = lp9_0 n n := by
    funext w0 w1 w2 w3 w4; exact el9_0 n n w0 w1 w2 w3 w4
  rw [e0]
  rfl
theorem g9 (W : World) (n : Nat) : Good Try.prog W 9 (c9 n) := body_good follows tabOk (GamOk.cons (g44 W n) GamOk.nil) (f := 9) (fn := Try.f9) (c := bodyOf Try.f9) (by kernel_rfl) (by kernel_rfl) (by kernel_rfl) (by kernel_rfl) (by kernel_rfl) (by kernel_rfl) (by kernel_rfl) (fun x r h => ⟨n, (e9 n x).trans h⟩)
/-! laws.FnQueries -/
noncomputable def j3_0 (n : Nat) (i0 : Int) (i1 : Int) (i2 : Int) (l3 : List (ByteArray × (Int × (Int × (Bool × (Int × (Int × (Int × (Int × (Int × Int)))))))))) (l4 : List (ByteArray × (Int × (Int × (Bool × (Int × (Int × (Int × (Int × (Int × Int)))))))))) (l5 : List (ByteArray × (Int × (Int × (Bool × (Int × (Int × (Int × (Int × (Int × Int)))))))))) : Option (Bool × Unit) :=
  if (decide (i0 = (l3.length : Int))) = true then
    if (decide ((l5.length : Int) = i2)) = true then
      (F15 n l4 i1).bind fun r9 =>
      (F14 n l5 r9.1).bind fun r10 =>
      some (r10.1, ())
    else
      some (false, ())
  else
    some (false, ())
noncomputable def st3_1 (n : Nat) (g1 : Int → Int → Int → (List (ByteArray × (Int × (Int × (Bool × (Int × (Int × (Int × (Int × (Int × Int)))))))))) → (List (ByteArray × (Int × (Int × (Bool × (Int × (Int × (Int × (Int × (Int × Int)))))))))) → (List (ByteArray × (Int × (Int × (Bool × (Int × (Int × (Int × (Int × (Int × Int)))))))))) → Option (Bool × Unit)) (i0 : Int) (i1 : Int) (i2 : Int) (l3 : List (ByteArray × (Int × (Int × (Bool × (Int × (Int × (Int × (Int × (Int × Int)))))))))) (l4 : List (ByteArray × (Int × (Int × (Bool × (Int × (Int × (Int × (Int × (Int × Int)))))))))) (l5 : List (ByteArray × (Int × (Int × (Bool × (Int × (Int × (Int × (Int × (Int × Int)))))))))) : Option (Bool × Unit) :=
  if (decide (i2 < (l5.length : Int))) = true then
    if (decide (0 ≤ i2)) = true then
    if (decide (i2 < (l5.length : Int))) = true then
    (F13 n ((rdOf ((⟨#[]⟩ : ByteArray), ((0 : Int), ((0 : Int), (false, ((0 : Int), ((0 : Int), ((0 : Int), ((0 : Int), ((0 : Int), (0 : Int)))))))))) l5 i2).1) (((rdOf ((⟨#[]⟩ : ByteArray), ((0 : Int), ((0 : Int), (false, ((0 : Int), ((0 : Int), ((0 : Int), ((0 : Int), ((0 : Int), (0 : Int)))))))))) l5 i2).2).1) ((((rdOf ((⟨#[]⟩ : ByteArray), ((0 : Int), ((0 : Int), (false, ((0 : Int), ((0 : Int), ((0 : Int), ((0 : Int), ((0 : Int), (0 : Int)))))))))) l5 i2).2).2).1) (((((rdOf ((⟨#[]⟩ : ByteArray), ((0 : Int), ((0 : Int), (false, ((0 : Int), ((0 : Int), ((0 : Int), ((0 : Int), ((0 : Int), (0 : Int)))))))))) l5 i2).2).2).2).1) ((((((rdOf ((⟨#[]⟩ : ByteArray), ((0 : Int), ((0 : Int), (false, ((0 : Int), ((0 : Int), ((0 : Int), ((0 : Int), ((0 : Int), (0 : Int)))))))))) l5 i2).2).2).2).2).1) (((((((rdOf ((⟨#[]⟩ : ByteArray), ((0 : Int), ((0 : Int), (false, ((0 : Int), ((0 : Int), ((0 : Int), ((0 : Int), ((0 : Int), (0 : Int)))))))))) l5 i2).2).2).2).2).2).1) ((((((((rdOf ((⟨#[]⟩ : ByteArray), ((0 : Int), ((0 : Int), (false, ((0 : Int), ((0 : Int), ((0 : Int), ((0 : Int), ((0 : Int), (0 : Int)))))))))) l5 i2).2).2).2).2).2).2).1) (((((((((rdOf ((⟨#[]⟩ : ByteArray), ((0 : Int), ((0 : Int), (false, ((0 : Int), ((0 : Int), ((0 : Int), ((0 : Int), ((0 : Int), (0 : Int)))))))))) l5 i2).2).2).2).2).2).2).2).1) ((((((((((rdOf ((⟨#[]⟩ : ByteArray), ((0 : Int), ((0 : Int), (false, ((0 : Int), ((0 : Int), ((0 : Int), ((0 : Int), ((0 : Int), (0 : Int)))))))))) l5 i2).2).2).2).2).2).2).2).2).1) ((((((((((rdOf ((⟨#[]⟩ : ByteArray), ((0 : Int), ((0 : Int), (false, ((0 : Int), ((0 : Int), ((0 : Int), ((0 : Int), ((0 : Int), (0 : Int)))))))))) l5 i2).2).2).2).2).2).2).2).2).2)).bind fun r7 =>
    if (decide (0 ≤ (wrap64 (i2 - 1)))) = true then
    if (decide ((wrap64 (i2 - 1)) < (l5.length : Int))) = true then
    (F13 n ((rdOf ((⟨#[]⟩ : ByteArray), ((0 : Int), ((0 : Int), (false, ((0 : Int), ((0 : Int), ((0 : Int), ((0 : Int), ((0 : Int), (0 : Int)))))))))) l5 (wrap64 (i2 - 1))).1) (((rdOf ((⟨#[]⟩ : ByteArray), ((0 : Int), ((0 : Int), (false, ((0 : Int), ((0 : Int), ((0 : Int), ((0 : Int), ((0 : Int), (0 : Int)))))))))) l5 (wrap64 (i2 - 1))).2).1) ((((rdOf ((⟨#[]⟩ : ByteArray), ((0 : Int), ((0 : Int), (false, ((0 : Int), ((0 : Int), ((0 : Int), ((0 : Int), ((0 : Int), (0 : Int)))))))))) l5 (wrap64 (i2 - 1))).2).2).1) (((((rdOf ((⟨#[]⟩ : ByteArray), ((0 : Int), ((0 : Int), (false, ((0 : Int), ((0 : Int), ((0 : Int), ((0 : Int), ((0 : Int), (0 : Int)))))))))) l5 (wrap64 (i2 - 1))).2).2).2).1) ((((((rdOf ((⟨#[]⟩ : ByteArray), ((0 : Int), ((0 : Int), (false, ((0 : Int), ((0 : Int), ((0 : Int), ((0 : Int), ((0 : Int), (0 : Int)))))))))) l5 (wrap64 (i2 - 1))).2).2).2).2).1) (((((((rdOf ((⟨#[]⟩ : ByteArray), ((0 : Int), ((0 : Int), (false, ((0 : Int), ((0 : Int), ((0 : Int), ((0 : Int), ((0 : Int), (0 : Int)))))))))) l5 (wrap64 (i2 - 1))).2).2).2).2).2).1) ((((((((rdOf ((⟨#[]⟩ : ByteArray), ((0 : Int), ((0 : Int), (false, ((0 : Int), ((0 : Int), ((0 : Int), ((0 : Int), ((0 : Int), (0 : Int)))))))))) l5 (wrap64 (i2 - 1))).2).2).2).2).2).2).1) (((((((((rdOf ((⟨#[]⟩ : ByteArray), ((0 : Int), ((0 : Int), (false, ((0 : Int), ((0 : Int), ((0 : Int), ((0 : Int), ((0 : Int), (0 : Int)))))))))) l5 (wrap64 (i2 - 1))).2).2).2).2).2).2).2).1) ((((((((((rdOf ((⟨#[]⟩ : ByteArray), ((0 : Int), ((0 : Int), (false, ((0 : Int), ((0 : Int), ((0 : Int), ((0 : Int), ((0 : Int), (0 : Int)))))))))) l5 (wrap64 (i2 - 1))).2).2).2).2).2).2).2).2).1) ((((((((((rdOf ((⟨#[]⟩ : ByteArray), ((0 : Int), ((0 : Int), (false, ((0 : Int), ((0 : Int), ((0 : Int), ((0 : Int), ((0 : Int), (0 : Int)))))))))) l5 (wrap64 (i2 - 1))).2).2).2).2).2).2).2).2).2)).bind fun r8 =>
    if (decide (r7.1 > r8.1)) = true then
      some (false, ())
    else
      g1 i0 i1 (wrap64 (i2 + 1)) l3 l4 l5
    else none
    else none
    else none
    else none
  else
    if (decide (i1 ≥ 0)) = true then
      if (decide (i1 ≤ (l4.length : Int))) = true then
        j3_0 n i0 i1 i1 l3 l4 l5
      else
        j3_0 n i0 i1 (l4.length : Int) l3 l4 l5
    else
      j3_0 n i0 i1 (l4.length : Int) l3 l4 l5
noncomputable def lp3_1 (n : Nat) : Nat → Int → Int → Int → (List (ByteArray × (Int × (Int × (Bool × (Int × (Int × (Int × (Int × (Int × Int)))))))))) → (List (ByteArray × (Int × (Int × (Bool × (Int × (Int × (Int × (Int × (Int × Int)))))))))) → (List (ByteArray × (Int × (Int × (Bool × (Int × (Int × (Int × (Int × (Int × Int)))))))))) → Option (Bool × Unit)
  | 0 => fun _ _ _ _ _ _ => none
  | k + 1 => st3_1 n (lp3_1 n k)
noncomputable def st3_0 (n : Nat) (h1 : Int → Int → Int → (List (ByteArray × (Int × (Int × (Bool × (Int × (Int × (Int × (Int × (Int × Int)))))))))) → (List (ByteArray × (Int × (Int × (Bool × (Int × (Int × (Int × (Int × (Int × Int)))))))))) → (List (ByteArray × (Int × (Int × (Bool × (Int × (Int × (Int × (Int × (Int × Int)))))))))) → Option (Bool × Unit)) (g0 : (List Int) → ByteArray → Int → Int → (List (ByteArray × (Int × (Int × (Bool × (Int × (Int × (Int × (Int × (Int × Int)))))))))) → (List (ByteArray × (Int × (Int × (Bool × (Int × (Int × (Int × (Int × (Int × Int)))))))))) → Option (Bool × Unit)) (l0 : List Int) (s1 : ByteArray) (i2 : Int) (i3 : Int) (l4 : List (ByteArray × (Int × (Int × (Bool × (Int × (Int × (Int × (Int × (Int × Int)))))))))) (l5 : List (ByteArray × (Int × (Int × (Bool × (Int × (Int × (Int × (Int × (Int × Int)))))))))) : Option (Bool × Unit) :=
  if (decide (i3 < (l4.length : Int))) = true then
    if (decide (0 ≤ i3)) = true then
    if (decide (i3 < (l4.length : Int))) = true then
    (F10 n s1 ((rdOf ((⟨#[]⟩ : ByteArray), ((0 : Int), ((0 : Int), (false, ((0 : Int), ((0 : Int), ((0 : Int), ((0 : Int), ((0 : Int), (0 : Int)))))))))) l4 i3).1)).bind fun r4 =>
    if r4.1 = true then
      if (decide (i2 ≥ (l5.length : Int))) = true then
        some (false, ())
      else
        if (decide (0 ≤ i2)) = true then
        if (decide (i2 < (l5.length : Int))) = true then
        if (decide (0 ≤ i3)) = true then
        if (decide (i3 < (l4.length : Int))) = true then
        if (!(decide (((rdOf ((⟨#[]⟩ : ByteArray), ((0 : Int), ((0 : Int), (false, ((0 : Int), ((0 : Int), ((0 : Int), ((0 : Int), ((0 : Int), (0 : Int)))))))))) l5 i2).1).toList = ((rdOf ((⟨#[]⟩ : ByteArray), ((0 : Int), ((0 : Int), (false, ((0 : Int), ((0 : Int), ((0 : Int), ((0 : Int), ((0 : Int), (0 : Int)))))))))) l4 i3).1).toList) && (decide (((rdOf ((⟨#[]⟩ : ByteArray), ((0 : Int), ((0 : Int), (false, ((0 : Int), ((0 : Int), ((0 : Int), ((0 : Int), ((0 : Int), (0 : Int)))))))))) l5 i2).2).1 = ((rdOf ((⟨#[]⟩ : ByteArray), ((0 : Int), ((0 : Int), (false, ((0 : Int), ((0 : Int), ((0 : Int), ((0 : Int), ((0 : Int), (0 : Int)))))))))) l4 i3).2).1) && (decide ((((rdOf ((⟨#[]⟩ : ByteArray), ((0 : Int), ((0 : Int), (false, ((0 : Int), ((0 : Int), ((0 : Int), ((0 : Int), ((0 : Int), (0 : Int)))))))))) l5 i2).2).2).1 = (((rdOf ((⟨#[]⟩ : ByteArray), ((0 : Int), ((0 : Int), (false, ((0 : Int), ((0 : Int), ((0 : Int), ((0 : Int), ((0 : Int), (0 : Int)))))))))) l4 i3).2).2).1) && (((((((rdOf ((⟨#[]⟩ : ByteArray), ((0 : Int), ((0 : Int), (false, ((0 : Int), ((0 : Int), ((0 : Int), ((0 : Int), ((0 : Int), (0 : Int)))))))))) l5 i2).2).2).2).1) == (((((rdOf ((⟨#[]⟩ : ByteArray), ((0 : Int), ((0 : Int), (false, ((0 : Int), ((0 : Int), ((0 : Int), ((0 : Int), ((0 : Int), (0 : Int)))))))))) l4 i3).2).2).2).1)) && (decide ((((((rdOf ((⟨#[]⟩ : ByteArray), ((0 : Int), ((0 : Int), (false, ((0 : Int), ((0 : Int), ((0 : Int), ((0 : Int), ((0 : Int), (0 : Int)))))))))) l5 i2).2).2).2).2).1 = (((((rdOf ((⟨#[]⟩ : ByteArray), ((0 : Int), ((0 : Int), (false, ((0 : Int), ((0 : Int), ((0 : Int), ((0 : Int), ((0 : Int), (0 : Int)))))))))) l4 i3).2).2).2).2).1) && (decide (((((((rdOf ((⟨#[]⟩ : ByteArray), ((0 : Int), ((0 : Int), (false, ((0 : Int), ((0 : Int), ((0 : Int), ((0 : Int), ((0 : Int), (0 : Int)))))))))) l5 i2).2).2).2).2).2).1 = ((((((rdOf ((⟨#[]⟩ : ByteArray), ((0 : Int), ((0 : Int), (false, ((0 : Int), ((0 : Int), ((0 : Int), ((0 : Int), ((0 : Int), (0 : Int)))))))))) l4 i3).2).2).2).2).2).1) && (decide ((((((((rdOf ((⟨#[]⟩ : ByteArray), ((0 : Int), ((0 : Int), (false, ((0 : Int), ((0 : Int), ((0 : Int), ((0 : Int), ((0 : Int), (0 : Int)))))))))) l5 i2).2).2).2).2).2).2).1 = (((((((rdOf ((⟨#[]⟩ : ByteArray), ((0 : Int), ((0 : Int), (false, ((0 : Int), ((0 : Int), ((0 : Int), ((0 : Int), ((0 : Int), (0 : Int)))))))))) l4 i3).2).2).2).2).2).2).1) && (decide (((((((((rdOf ((⟨#[]⟩ : ByteArray), ((0 : Int), ((0 : Int), (false, ((0 : Int), ((0 : Int), ((0 : Int), ((0 : Int), ((0 : Int), (0 : Int)))))))))) l5 i2).2).2).2).2).2).2).2).1 = ((((((((rdOf ((⟨#[]⟩ : ByteArray), ((0 : Int), ((0 : Int), (false, ((0 : Int), ((0 : Int), ((0 : Int), ((0 : Int), ((0 : Int), (0 : Int)))))))))) l4 i3).2).2).2).2).2).2).2).1) && (decide ((((((((((rdOf ((⟨#[]⟩ : ByteArray), ((0 : Int), ((0 : Int), (false, ((0 : Int), ((0 : Int), ((0 : Int), ((0 : Int), ((0 : Int), (0 : Int)))))))))) l5 i2).2).2).2).2).2).2).2).2).1 = (((((((((rdOf ((⟨#[]⟩ : ByteArray), ((0 : Int), ((0 : Int), (false, ((0 : Int), ((0 : Int), ((0 : Int), ((0 : Int), ((0 : Int), (0 : Int)))))))))) l4 i3).2).2).2).2).2).2).2).2).1) && (decide ((((((((((rdOf ((⟨#[]⟩ : ByteArray), ((0 : Int), ((0 : Int), (false, ((0 : Int), ((0 : Int), ((0 : Int), ((0 : Int), ((0 : Int), (0 : Int)))))))))) l5 i2).2).2).2).2).2).2).2).2).2 = (((((((((rdOf ((⟨#[]⟩ : ByteArray), ((0 : Int), ((0 : Int), (false, ((0 : Int), ((0 : Int), ((0 : Int), ((0 : Int), ((0 : Int), (0 : Int)))))))))) l4 i3).2).2).2).2).2).2).2).2).2) && true))))))))))) = true then
          some (false, ())
        else
          g0 l0 s1 (wrap64 (i2 + 1)) (wrap64 (i3 + 1)) l4 l5
        else none
        else none
        else none
        else none
    else
      g0 l0 s1 i2 (wrap64 (i3 + 1)) l4 l5
    else none
    else none
  else
    (F11 n l0).bind fun r5 =>
    (F12 n r5.1 r5.2.1).bind fun r6 =>
    h1 i2 r5.2.1 (1 : Int) l5 r5.1 r6.1
noncomputable def lp3_0 (n : Nat) : Nat → (List Int) → ByteArray → Int → Int → (List (ByteArray × (Int × (Int × (Bool × (Int × (Int × (Int × (Int × (Int × Int)))))))))) → (List (ByteArray × (Int × (Int × (Bool × (Int × (Int × (Int × (Int × (Int × Int)))))))))) → Option (Bool × Unit)
  | 0 => fun _ _ _ _ _ _ => none
  | k + 1 => st3_0 n (lp3_1 n n) (lp3_0 n k)
noncomputable def st3 (n : Nat) (h0 : (List Int) → ByteArray → Int → Int → (List (ByteArray × (Int × (Int × (Bool × (Int × (Int × (Int × (Int × (Int × Int)))))))))) → (List (ByteArray × (Int × (Int × (Bool × (Int × (Int × (Int × (Int × (Int × Int)))))))))) → Option (Bool × Unit)) (a0 : List Int) : Option (Bool × Unit) :=
  (F7 n a0).bind fun r1 =>
  if r1.1 = true then
    some (true, ())
  else
    (F8 n a0).bind fun r2 =>
    (F9 n r2.1 r2.2.1).bind fun r3 =>
    h0 a0 r2.2.1 (0 : Int) (0 : Int) r2.1 r3.1
noncomputable def F3 (n : Nat) (a0 : List Int) : Option (Bool × Unit) := st3 n (lp3_0 n n) a0
noncomputable def c3 (n : Nat) : Con := ⟨[.one (.sl (.imm false) 5 (.int .u8))], [], [.one (.bool)], [], fun (x : List Int × Unit) => F3 n x.1⟩
noncomputable def G3 (n : Nat) : Gam := [((7, []), c7 n), ((8, []), c8 n), ((9, []), c9 n), ((10, []), c10 n), ((11, []), c11 n), ((12, []), c12 n), ((13, []), c13 n), ((14, []), c14 n), ((15, []), c15 n)]
noncomputable def S3_1 (i0 : Int) (i1 : Int) (i2 : Int) (l3 : List (ByteArray × (Int × (Int × (Bool × (Int × (Int × (Int × (Int × (Int × Int)))))))))) (l4 : List (ByteArray × (Int × (Int × (Bool × (Int × (Int × (Int × (Int × (Int × Int)))))))))) (l5 : List (ByteArray × (Int × (Int × (Bool × (Int × (Int × (Int × (Int × (Int × Int)))))))))) : St := ⟨List.replicate 5 .dead ++ [.sr 5 0 none 0 0 none, .int .i64 i0, .dead, .sr 8 0 none 0 0 none, .int .i64 i1, .sr 10 0 none 0 0 none, .int .i64 i2] ++ List.replicate 95 .dead, List.replicate 5 Ob.none ++ [⟨false, [.sl .own 30 (.pair .str (.pair (.int .i64) (.pair (.int .i64) (.pair .bool (.pair (.int .i64) (.pair (.int .i64) (.pair (.int .i64) (.pair (.int .i64) (.pair (.int .i64) (.int .i64)))))))))) l3], 0, 0⟩, Ob.none, Ob.none, ⟨false, [.sl .own 30 (.pair .str (.pair (.int .i64) (.pair (.int .i64) (.pair .bool (.pair (.int .i64) (.pair (.int .i64) (.pair (.int .i64) (.pair (.int .i64) (.pair (.int .i64) (.int .i64)))))))))) l4], 0, 0⟩, Ob.none, ⟨false, [.sl .own 30 (.pair .str (.pair (.int .i64) (.pair (.int .i64) (.pair .bool (.pair (.int .i64) (.pair (.int .i64) (.pair (.int .i64) (.pair (.int .i64) (.pair (.int .i64) (.int .i64)))))))))) l5], 0, 0⟩] ++ List.replicate 96 Ob.none⟩
noncomputable def ga3_1 (n : Nat) (ks : List Nat) (k : Nat) (st : St) : Option (Bool × Unit) := goAt tab (G3 n) n (bodyOf Try.f3) (lvOf Try.f3) (lvOf Try.f3).ret [1, 1, 1, 1, 1, 1, 1, 1, 0, 1, 0] ks k st (evBody.endK tab (c3 n) Try.f3)
noncomputable def S3_0 (l0 : List Int) (s1 : ByteArray) (i2 : Int) (i3 : Int) (l4 : List (ByteArray × (Int × (Int × (Bool × (Int × (Int × (Int × (Int × (Int × Int)))))))))) (l5 : List (ByteArray × (Int × (Int × (Bool × (Int × (Int × (Int × (Int × (Int × Int)))))))))) : St := ⟨[.sl (.imm false) 5 (.int .u8) l0, .dead, .dead, .sr 3 0 none 0 0 none, .str s1, .sr 5 0 none 0 0 none, .int .i64 i2, .int .i64 i3] ++ List.replicate 99 .dead, [Ob.none, Ob.none, Ob.none, ⟨false, [.sl .own 30 (.pair .str (.pair (.int .i64) (.pair (.int .i64) (.pair .bool (.pair (.int .i64) (.pair (.int .i64) (.pair (.int .i64) (.pair (.int .i64) (.pair (.int .i64) (.int .i64)))))))))) l4], 0, 0⟩, Ob.none, ⟨false, [.sl .own 30 (.pair .str (.pair (.int .i64) (.pair (.int .i64) (.pair .bool (.pair (.int .i64) (.pair (.int .i64) (.pair (.int .i64) (.pair (.int .i64) (.pair (.int .i64) (.int .i64)))))))))) l5], 0, 0⟩] ++ List.replicate 101 Ob.none⟩
noncomputable def ga3_0 (n : Nat) (ks : List Nat) (k : Nat) (st : St) : Option (Bool × Unit) := goAt tab (G3 n) n (bodyOf Try.f3) (lvOf Try.f3) (lvOf Try.f3).ret [1, 1, 1, 1, 1, 0, 1, 0] ks k st (evBody.endK tab (c3 n) Try.f3)
theorem el3_1 (n : Nat) : ∀ (k : Nat), ∀ (i0 : Int) (i1 : Int) (i2 : Int) (l3 : List (ByteArray × (Int × (Int × (Bool × (Int × (Int × (Int × (Int × (Int × Int)))))))))) (l4 : List (ByteArray × (Int × (Int × (Bool × (Int × (Int × (Int × (Int × (Int × Int)))))))))) (l5 : List (ByteArray × (Int × (Int × (Bool × (Int × (Int × (Int × (Int × (Int × Int)))))))))), ga3_1 n [] k (S3_1 i0 i1 i2 l3 l4 l5) = lp3_1 n k i0 i1 i2 l3 l4 l5 := by
  intro k
  induction k with
  | zero => intros; rfl
  | succ k ih =>
    intro i0 i1 i2 l3 l4 l5
    have h : ga3_1 n [] (k + 1) (S3_1 i0 i1 i2 l3 l4 l5) = st3_1 n (fun w0 w1 w2 w3 w4 w5 => ga3_1 n [] k (S3_1 w0 w1 w2 w3 w4 w5)) i0 i1 i2 l3 l4 l5 := by kernel_rfl
    rw [h]
    have e : (fun w0 w1 w2 w3 w4 w5 => ga3_1 n [] k (S3_1 w0 w1 w2 w3 w4 w5)) = lp3_1 n k := by
      funext w0 w1 w2 w3 w4 w5; exact ih w0 w1 w2 w3 w4 w5
    rw [e]
    rfl
theorem el3_0 (n : Nat) : ∀ (k : Nat), ∀ (l0 : List Int) (s1 : ByteArray) (i2 : Int) (i3 : Int) (l4 : List (ByteArray × (Int × (Int × (Bool × (Int × (Int × (Int × (Int × (Int × Int)))))))))) (l5 : List (ByteArray × (Int × (Int × (Bool × (Int × (Int × (Int × (Int × (Int × Int)))))))))), ga3_0 n [] k (S3_0 l0 s1 i2 i3 l4 l5) = lp3_0 n k l0 s1 i2 i3 l4 l5 := by
  intro k
  induction k with
  | zero => intros; rfl
  | succ k ih =>
    intro l0 s1 i2 i3 l4 l5
    have h : ga3_0 n [] (k + 1) (S3_0 l0 s1 i2 i3 l4 l5) = st3_0 n (fun w0 w1 w2 w3 w4 w5 => ga3_1 n [] n (S3_1 w0 w1 w2 w3 w4 w5)) (fun w0 w1 w2 w3 w4 w5 => ga3_0 n [] k (S3_0 w0 w1 w2 w3 w4 w5)) l0 s1 i2 i3 l4 l5 := by kernel_rfl
    rw [h]
    have e1 : (fun w0 w1 w2 w3 w4 w5 => ga3_1 n [] n (S3_1 w0 w1 w2 w3 w4 w5)) = lp3_1 n n := by
      funext w0 w1 w2 w3 w4 w5; exact el3_1 n n w0 w1 w2 w3 w4 w5
    have e : (fun w0 w1 w2 w3 w4 w5 => ga3_0 n [] k (S3_0 w0 w1 w2 w3 w4 w5)) = lp3_0 n k := by
      funext w0 w1 w2 w3 w4 w5; exact ih w0 w1 w2 w3 w4 w5
    rw [e1, e]
    rfl
theorem e3 (n : Nat) (x : List Int × Unit) : evBody tab (G3 n) n (c3 n) Try.f3 x = F3 n x.1 := by
  have h : evBody tab (G3 n) n (c3 n) Try.f3 x = st3 n (fun w0 w1 w2 w3 w4 w5 => ga3_0 n [] n (S3_0 w0 w1 w2 w3 w4 w5)) x.1 := by kernel_rfl
  rw [h]
  have e0 : (fun w0 w1 w2 w3 w4 w5 => ga3_0 n [] n (S3_0 w0 w1 w2 w3 w4 w5)) = lp3_0 n n := by
    funext w0 w1 w2 w3 w4 w5; exact el3_0 n n w0 w1 w2 w3 w4 w5
  rw [e0]
  rfl
theorem g3 (W : World) (n : Nat) (h12 : ∀ n, Good Try.prog W 12 (c12 n)) : Good Try.prog W 3 (c3 n) := body_good follows tabOk (GamOk.cons (g7 W n) (GamOk.cons (g8 W n) (GamOk.cons (g9 W n) (GamOk.cons (g10 W n) (GamOk.cons (g11 W n) (GamOk.cons ((fun (_ : World) => h12) W n) (GamOk.cons (g13 W n) (GamOk.cons (g14 W n) (GamOk.cons (g15 W n) GamOk.nil))))))))) (f := 3) (fn := Try.f3) (c := bodyOf Try.f3) (by kernel_rfl) (by kernel_rfl) (by kernel_rfl) (by kernel_rfl) (by kernel_rfl) (by kernel_rfl) (by kernel_rfl) (fun x r h => ⟨n, (e3 n x).trans h⟩)
/-! cmp.isNaN[int] -/
noncomputable def F73 (n : Nat) (a0 : Int) : Option (Bool × Unit) :=
  some (decide (a0 ≠ a0), ())
noncomputable def c73 (n : Nat) : Con := ⟨[.one (.int .i64)], [], [.one (.bool)], [], fun (x : Int × Unit) => F73 n x.1⟩
noncomputable def G73 (n : Nat) : Gam := []
theorem e73 (n : Nat) (x : Int × Unit) : evBody tab (G73 n) n (c73 n) Try.f73 x = F73 n x.1 := by kernel_rfl
theorem g73 (W : World) (n : Nat) : Good Try.prog W 73 (c73 n) := body_good follows tabOk GamOk.nil (f := 73) (fn := Try.f73) (c := bodyOf Try.f73) (by kernel_rfl) (by kernel_rfl) (by kernel_rfl) (by kernel_rfl) (by kernel_rfl) (by kernel_rfl) (by kernel_rfl) (fun x r h => ⟨n, (e73 n x).trans h⟩)
/-! cmp.Compare[int] -/
noncomputable def F49 (n : Nat) (a0 : Int) (a1 : Int) : Option (Int × Unit) :=
  (F73 n a0).bind fun r1 =>
  (F73 n a1).bind fun r2 =>
  if r1.1 = true then
    if r2.1 = true then
      some (0, ())
    else
      some ((-1), ())
  else
    if r2.1 = true then
      some (1, ())
    else
      if (decide (a0 < a1)) = true then
        some ((-1), ())
      else
        if (decide (a0 > a1)) = true then
          some (1, ())
        else
          some (0, ())
noncomputable def c49 (n : Nat) : Con := ⟨[.one (.int .i64), .one (.int .i64)], [], [.one (.int .i64)], [], fun (x : Int × Int × Unit) => F49 n x.1 x.2.1⟩
noncomputable def G49 (n : Nat) : Gam := [((73, []), c73 n)]
theorem e49 (n : Nat) (x : Int × Int × Unit) : evBody tab (G49 n) n (c49 n) Try.f49 x = F49 n x.1 x.2.1 := by kernel_rfl
theorem g49 (W : World) (n : Nat) : Good Try.prog W 49 (c49 n) := body_good follows tabOk (GamOk.cons (g73 W n) GamOk.nil) (f := 49) (fn := Try.f49) (c := bodyOf Try.f49) (by kernel_rfl) (by kernel_rfl) (by kernel_rfl) (by kernel_rfl) (by kernel_rfl) (by kernel_rfl) (by kernel_rfl) (fun x r h => ⟨n, (e49 n x).trans h⟩)
/-! impl.TopRows$1 -/
noncomputable def F48 (n : Nat) (a0 : ByteArray) (a1 : Int) (a2 : Int) (a3 : Bool) (a4 : Int) (a5 : Int) (a6 : Int) (a7 : Int) (a8 : Int) (a9 : Int) (a10 : ByteArray) (a11 : Int) (a12 : Int) (a13 : Bool) (a14 : Int) (a15 : Int) (a16 : Int) (a17 : Int) (a18 : Int) (a19 : Int) : Option (Int × Unit) :=
  (F13 n a10 a11 a12 a13 a14 a15 a16 a17 a18 a19).bind fun r1 =>
  (F13 n a0 a1 a2 a3 a4 a5 a6 a7 a8 a9).bind fun r2 =>
  (F49 n r1.1 r2.1).bind fun r3 =>
  some (r3.1, ())
noncomputable def c48 (n : Nat) : Con := ⟨[.agg [(.str), (.int .i64), (.int .i64), (.bool), (.int .i64), (.int .i64), (.int .i64), (.int .i64), (.int .i64), (.int .i64)], .agg [(.str), (.int .i64), (.int .i64), (.bool), (.int .i64), (.int .i64), (.int .i64), (.int .i64), (.int .i64), (.int .i64)]], [], [.one (.int .i64)], [], fun (x : ByteArray × Int × Int × Bool × Int × Int × Int × Int × Int × Int × ByteArray × Int × Int × Bool × Int × Int × Int × Int × Int × Int × Unit) => F48 n x.1 x.2.1 x.2.2.1 x.2.2.2.1 x.2.2.2.2.1 x.2.2.2.2.2.1 x.2.2.2.2.2.2.1 x.2.2.2.2.2.2.2.1 x.2.2.2.2.2.2.2.2.1 x.2.2.2.2.2.2.2.2.2.1 x.2.2.2.2.2.2.2.2.2.2.1 x.2.2.2.2.2.2.2.2.2.2.2.1 x.2.2.2.2.2.2.2.2.2.2.2.2.1 x.2.2.2.2.2.2.2.2.2.2.2.2.2.1 x.2.2.2.2.2.2.2.2.2.2.2.2.2.2.1 x.2.2.2.2.2.2.2.2.2.2.2.2.2.2.2.1 x.2.2.2.2.2.2.2.2.2.2.2.2.2.2.2.2.1 x.2.2.2.2.2.2.2.2.2.2.2.2.2.2.2.2.2.1 x.2.2.2.2.2.2.2.2.2.2.2.2.2.2.2.2.2.2.1 x.2.2.2.2.2.2.2.2.2.2.2.2.2.2.2.2.2.2.2.1⟩
noncomputable def G48 (n : Nat) : Gam := [((13, []), c13 n), ((49, []), c49 n)]
theorem e48 (n : Nat) (x : ByteArray × Int × Int × Bool × Int × Int × Int × Int × Int × Int × ByteArray × Int × Int × Bool × Int × Int × Int × Int × Int × Int × Unit) : evBody tab (G48 n) n (c48 n) Try.f48 x = F48 n x.1 x.2.1 x.2.2.1 x.2.2.2.1 x.2.2.2.2.1 x.2.2.2.2.2.1 x.2.2.2.2.2.2.1 x.2.2.2.2.2.2.2.1 x.2.2.2.2.2.2.2.2.1 x.2.2.2.2.2.2.2.2.2.1 x.2.2.2.2.2.2.2.2.2.2.1 x.2.2.2.2.2.2.2.2.2.2.2.1 x.2.2.2.2.2.2.2.2.2.2.2.2.1 x.2.2.2.2.2.2.2.2.2.2.2.2.2.1 x.2.2.2.2.2.2.2.2.2.2.2.2.2.2.1 x.2.2.2.2.2.2.2.2.2.2.2.2.2.2.2.1 x.2.2.2.2.2.2.2.2.2.2.2.2.2.2.2.2.1 x.2.2.2.2.2.2.2.2.2.2.2.2.2.2.2.2.2.1 x.2.2.2.2.2.2.2.2.2.2.2.2.2.2.2.2.2.2.1 x.2.2.2.2.2.2.2.2.2.2.2.2.2.2.2.2.2.2.2.1 := by kernel_rfl
theorem g48 (W : World) (n : Nat) : Good Try.prog W 48 (c48 n) := body_good follows tabOk (GamOk.cons (g13 W n) (GamOk.cons (g49 W n) GamOk.nil)) (f := 48) (fn := Try.f48) (c := bodyOf Try.f48) (by kernel_rfl) (by kernel_rfl) (by kernel_rfl) (by kernel_rfl) (by kernel_rfl) (by kernel_rfl) (by kernel_rfl) (fun x r h => ⟨n, (e48 n x).trans h⟩)
/-! impl.within -/
noncomputable def F50 (n : Nat) (a0 : Int) (a1 : Int) (a2 : Int) : Option (Bool × Unit) :=
  if (decide (a1 ≤ a0)) = true then
    some (decide (a0 ≤ a2), ())
  else
    some (false, ())
noncomputable def c50 (n : Nat) : Con := ⟨[.one (.int .i64), .one (.int .i64), .one (.int .i64)], [], [.one (.bool)], [], fun (x : Int × Int × Int × Unit) => F50 n x.1 x.2.1 x.2.2.1⟩
noncomputable def G50 (n : Nat) : Gam := []
theorem e50 (n : Nat) (x : Int × Int × Int × Unit) : evBody tab (G50 n) n (c50 n) Try.f50 x = F50 n x.1 x.2.1 x.2.2.1 := by kernel_rfl
theorem g50 (W : World) (n : Nat) : Good Try.prog W 50 (c50 n) := body_good follows tabOk GamOk.nil (f := 50) (fn := Try.f50) (c := bodyOf Try.f50) (by kernel_rfl) (by kernel_rfl) (by kernel_rfl) (by kernel_rfl) (by kernel_rfl) (by kernel_rfl) (by kernel_rfl) (fun x r h => ⟨n, (e50 n x).trans h⟩)
end Go.Eva
end
section
/- A row's number, two rows compared: walked, with what they lay. -/
namespace Go.Eva
open Go.Proofs
open Go.RowKit Go.Lib Go.Sort
set_option linter.unusedVariables false
set_option linter.unusedSimpArgs false
set_option maxRecDepth 100000

theorem info30 : ∃ i z, Try.prog.info? 30 = some i ∧ i.size = 10 ∧ i.bytes = 88 ∧ i.zero = some z ∧ z.cells.size = 10 := by
  have h : ((Try.prog.info? 30).bind fun i => i.zero.map fun z => (i.size, i.bytes, z.cells.size)) = some (10, 88, 10) := by kernel_rfl
  cases hi : Try.prog.info? 30 with
  | none => rw [hi] at h; cases h
  | some i =>
    rw [hi] at h
    cases hz : i.zero with
    | none => simp [hz] at h
    | some z =>
      simp [hz] at h
      exact ⟨i, z, rfl, h.1, h.2.1, hz, h.2.2⟩
/-- Grown: draws, and blocks behind. -/
def Gr (w w' : World) : Prop := ∃ q os, w' = Go.Sort.grow (w.drewN q) os
theorem Gr.refl (w : World) : Gr w w := ⟨0, #[], by rw [grow_empty]; rfl⟩
theorem Gr.drew {w w' : World} (h : Gr w w') : Gr w w'.drew := by
  obtain ⟨q, os, rfl⟩ := h
  refine ⟨q + 1, os, ?_⟩
  rw [drew_grow, ← World.drewN_drewN]
  rfl
theorem Gr.alloc {w w' : World} (h : Gr w w') (o : Obj) : Gr w (w'.alloc o) := by
  obtain ⟨q, os, rfl⟩ := h
  exact ⟨q, os ++ #[o], by rw [alloc_eq_grow, grow_grow]⟩
theorem Gr.trans {a b c : World} (h : Gr a b) (k : Gr b c) : Gr a c := by
  obtain ⟨q, os, rfl⟩ := h
  obtain ⟨q', os', rfl⟩ := k
  exact ⟨q + q', os ++ os', by rw [← World.drewN_drewN]; show Go.Sort.grow (Go.Sort.grow ((World.drewN a q).drewN q') os) os' = _; rw [grow_grow]⟩
def rk4 (a b d u : Int) : Int := if a = 1 then b else if a = 2 then d else if a = 3 then u else 0
theorem agg30 (w : World) : (isAgg 30).run Try.prog w = .ok true w := by
  obtain ⟨fs, hu⟩ : ∃ fs, Try.prog.underlying 30 = some (.struct fs) := ⟨_, Try.underlying30⟩
  simp [isAgg, run_underlying hu]
theorem size30 (w : World) : (Go.sizeOf 30).run Try.prog w = .ok 10 w := by
  obtain ⟨i0, z0, hi0, hs0, _⟩ := info30
  simp [sizeOf, typeInfo, hi0, hs0]
theorem two_first (w : World) (o1 o2 : Obj) : ((w.alloc o1).alloc o2).heap[w.heap.size]? = some o1 := by
  show ((w.heap.push o1).push o2)[w.heap.size]? = some o1
  rw [Array.getElem?_push, if_neg (by rw [Array.size_push]; omega), Array.getElem?_push, if_pos rfl]
theorem two_second (w : World) (o1 o2 : Obj) : ((w.alloc o1).alloc o2).heap[w.heap.size + 1]? = some o2 := by
  show ((w.heap.push o1).push o2)[w.heap.size + 1]? = some o2
  rw [Array.getElem?_push, if_pos (by rw [Array.size_push])]
theorem box_cell {B : World} {blk : Nat} {cs : List Value} {e : TypeId} (hb : B.heap[blk]? = some (.cells cs.toArray e)) (j : Nat) {v : Value} (hj : cs[j]? = some v) (n : Nat) (os : Array Obj) :
    (Go.Sort.grow (B.drewN n) os).cell? ⟨blk, j, none⟩ = some v := by
  refine cell_grown (a := ⟨blk, j, none⟩) (Array.getElem?_eq_some_iff.1 hb).1 ?_ n os
  have hb' : B.heap[blk]? = some (.cells cs.toArray e (0, 0)) := hb
  simp only [World.cell?, hb']
  simpa using hj
theorem rank_calls (s : ByteArray) (a b : Int) (t : Bool) (d e f g u v : Int) (w : World) : Calls Try.prog 13 #[.agg #[.string s, .int .i64 a, .int .i64 b, .bool t, .int .i64 d, .int .i64 e, .int .i64 f, .int .i64 g, .int .i64 u, .int .i64 v]] w fun en w' => en = .returned (.int .i64 (rk4 a b d u)) ∧ Gr w w' := by
  have mixed : Try.prog.follows .mixedOrders = true := by kernel_rfl
  go_enter Try.func13, Try.ntmps13
  have hgr : ∀ o, Gr w (w.alloc o) := fun o => Gr.alloc (Gr.refl w) o
  by_cases h1 : a = 1
  · subst h1
    go_wp2
    go_ret
    exact ⟨rfl, hgr _⟩
  · by_cases h2 : a = 2
    · subst h2
      go_wp2
      go_ret
      exact ⟨rfl, hgr _⟩
    · by_cases h3 : a = 3
      · subst h3
        go_wp2
        go_ret
        exact ⟨rfl, hgr _⟩
      · go_wp2
        go_ret
        refine ⟨?_, hgr _⟩
        have e : rk4 a b d u = 0 := by unfold rk4; rw [if_neg h1, if_neg h2, if_neg h3]
        rw [e]
        rfl
theorem nan_calls (a : Int) (w : World) : Calls Try.prog 73 #[.int .i64 a] w fun en w' => en = .returned (.bool false) ∧ w' = w := by
  have mixed : Try.prog.follows .mixedOrders = true := by kernel_rfl
  go_enter Try.func73, Try.ntmps73
  go_wp2
  go_ret
  exact ⟨rfl, rfl⟩
def cmp3 (a b : Int) : Int := if a < b then -1 else if b < a then 1 else 0
theorem cmp_calls (a b : Int) (w : World) : Calls Try.prog 49 #[.int .i64 a, .int .i64 b] w fun en w' => en = .returned (.int .i64 (cmp3 a b)) ∧ w' = w := by
  have mixed : Try.prog.follows .mixedOrders = true := by kernel_rfl
  unfold cmp3
  go_enter Try.func49, Try.ntmps49
  by_cases h1 : a < b
  · have h2 : ¬ b < a := by omega
    rw [if_pos h1]
    go_wp2_with (refine (nan_calls _ _).mono ?_; rintro e w' ⟨rfl, rfl⟩)
    go_ret
    exact ⟨rfl, rfl⟩
  · by_cases h2 : b < a
    · rw [if_neg h1, if_pos h2]
      go_wp2_with (refine (nan_calls _ _).mono ?_; rintro e w' ⟨rfl, rfl⟩)
      go_ret
      exact ⟨rfl, rfl⟩
    · rw [if_neg h1, if_neg h2]
      go_wp2_with (refine (nan_calls _ _).mono ?_; rintro e w' ⟨rfl, rfl⟩)
      go_ret
      exact ⟨rfl, rfl⟩
theorem cmp_gr (a b : Int) (w : World) : Calls Try.prog 49 #[.int .i64 a, .int .i64 b] w fun en w' => en = .returned (.int .i64 (cmp3 a b)) ∧ Gr w w' := (cmp_calls a b w).mono fun _ _ ⟨h1, h2⟩ => ⟨h1, h2 ▸ Gr.refl _⟩
theorem in_calls (a b c : Int) (w : World) : Calls Try.prog 50 #[.int .i64 a, .int .i64 b, .int .i64 c] w fun en w' => en = .returned (.bool (decide (b ≤ a ∧ a ≤ c))) ∧ w' = w := by
  have mixed : Try.prog.follows .mixedOrders = true := by kernel_rfl
  go_enter Try.func50, Try.ntmps50
  by_cases h1 : b ≤ a
  · have e : decide (b ≤ a ∧ a ≤ c) = decide (a ≤ c) := by simp [h1]
    rw [e]
    go_wp2
    go_ret
    exact ⟨rfl, rfl⟩
  · have e : decide (b ≤ a ∧ a ≤ c) = false := by simp [h1]
    rw [e]
    go_wp2
    go_ret
    exact ⟨rfl, rfl⟩
theorem tcmp_calls (s : ByteArray) (a b : Int) (t : Bool) (d e f g u v : Int) (s' : ByteArray) (a' b' : Int) (t' : Bool) (d' e' f' g' u' v' : Int) (w : World) :
    Calls Try.prog 48 #[.agg #[.string s, .int .i64 a, .int .i64 b, .bool t, .int .i64 d, .int .i64 e, .int .i64 f, .int .i64 g, .int .i64 u, .int .i64 v],
      .agg #[.string s', .int .i64 a', .int .i64 b', .bool t', .int .i64 d', .int .i64 e', .int .i64 f', .int .i64 g', .int .i64 u', .int .i64 v']] w
      fun en w' => en = .returned (.int .i64 (cmp3 (rk4 a' b' d' u') (rk4 a b d u))) ∧ Gr w w' := by
  have mixed : Try.prog.follows .mixedOrders = true := by kernel_rfl
  go_enter Try.func48, Try.ntmps48
  go_wp2_with fail
  obtain ⟨o1, h1⟩ : ∃ o, o = Obj.cells #[.string s, .int .i64 a, .int .i64 b, .bool t, .int .i64 d, .int .i64 e, .int .i64 f, .int .i64 g, .int .i64 u, .int .i64 v] 30 := ⟨_, rfl⟩
  obtain ⟨o2, h2⟩ : ∃ o, o = Obj.cells #[.string s', .int .i64 a', .int .i64 b', .bool t', .int .i64 d', .int .i64 e', .int .i64 f', .int .i64 g', .int .i64 u', .int .i64 v'] 30 := ⟨_, rfl⟩
  rw [← h1, ← h2]
  have hgr : Gr w ((w.alloc o1).alloc o2) := Gr.alloc (Gr.alloc (Gr.refl w) _) _
  have k1 : ((w.alloc o1).alloc o2).heap[w.heap.size]? = some (.cells (List.toArray [.string s, .int .i64 a, .int .i64 b, .bool t, .int .i64 d, .int .i64 e, .int .i64 f, .int .i64 g, .int .i64 u, .int .i64 v]) 30) := by rw [two_first, h1]
  have k2 : ((w.alloc o1).alloc o2).heap[w.heap.size + 1]? = some (.cells (List.toArray [.string s', .int .i64 a', .int .i64 b', .bool t', .int .i64 d', .int .i64 e', .int .i64 f', .int .i64 g', .int .i64 u', .int .i64 v']) 30) := by rw [two_second, h2]
  have x0 := fun n os => box_cell k1 0 rfl n os
  have y0 := fun n os => box_cell k2 0 rfl n os
  have x1 := fun n os => box_cell k1 1 rfl n os
  have y1 := fun n os => box_cell k2 1 rfl n os
  have x2 := fun n os => box_cell k1 2 rfl n os
  have y2 := fun n os => box_cell k2 2 rfl n os
  have x3 := fun n os => box_cell k1 3 rfl n os
  have y3 := fun n os => box_cell k2 3 rfl n os
  have x4 := fun n os => box_cell k1 4 rfl n os
  have y4 := fun n os => box_cell k2 4 rfl n os
  have x5 := fun n os => box_cell k1 5 rfl n os
  have y5 := fun n os => box_cell k2 5 rfl n os
  have x6 := fun n os => box_cell k1 6 rfl n os
  have y6 := fun n os => box_cell k2 6 rfl n os
  have x7 := fun n os => box_cell k1 7 rfl n os
  have y7 := fun n os => box_cell k2 7 rfl n os
  have x8 := fun n os => box_cell k1 8 rfl n os
  have y8 := fun n os => box_cell k2 8 rfl n os
  have x9 := fun n os => box_cell k1 9 rfl n os
  have y9 := fun n os => box_cell k2 9 rfl n os
  clear k1 k2 h1 h2
  have aE := agg30
  have zE := size30
  generalize (w.alloc o1).alloc o2 = wq at hgr x0 y0 x1 y1 x2 y2 x3 y3 x4 y4 x5 y5 x6 y6 x7 y7 x8 y8 x9 y9 ⊢
  go_quiet_grown (first | (refine Calls.grown_of (rank_calls _ _ _ _ _ _ _ _ _ _ _)) | (refine Calls.grown_of (cmp_gr _ _ _)))
  go_wp2
  go_ret
  exact ⟨rfl, hgr.trans ⟨_, _, rfl⟩⟩
end Go.Eva
end
section
/- Rows sorted: slices.SortStableFunc at up to 19 rows. -/
namespace Go.Eva
open Go.Proofs Go.Shelf
open Go.RowKit Go.Lib Go.Sort
set_option linter.unusedVariables false
set_option linter.unusedSimpArgs false
set_option maxRecDepth 100000

abbrev Tr := ByteArray × (Int × (Int × (Bool × (Int × (Int × (Int × (Int × (Int × Int))))))))
def encR (x : Tr) : List Value := [.string x.1, .int .i64 x.2.1, .int .i64 x.2.2.1, .bool x.2.2.2.1, .int .i64 x.2.2.2.2.1, .int .i64 x.2.2.2.2.2.1, .int .i64 x.2.2.2.2.2.2.1, .int .i64 x.2.2.2.2.2.2.2.1, .int .i64 x.2.2.2.2.2.2.2.2.1, .int .i64 x.2.2.2.2.2.2.2.2.2]
def rkR (x : Tr) : Int := rk4 x.2.1 x.2.2.1 x.2.2.2.2.1 x.2.2.2.2.2.2.2.2.1
def cfR (x y : Tr) : Int := cmp3 (rkR y) (rkR x)
def rn : Ren := ⟨fun x => if x = 20 then 91 else x, fun x => if x = 22 then 24 else if x = 24 then 30 else if x = 25 then 72 else x, fun x => x⟩
theorem lay91 : SlLaysF0.n20 Try.prog rn where
  mixed := by kernel_rfl
  f20 := ⟨Try.f91.name, by kernel_rfl, Try.func91.trans (by kernel_rfl)⟩
  t0 := Try.underlying0
  a0 := Try.isAgg0
  z0 := Try.sizeOf0
  v0 := Try.zeroValue0
  t3 := Try.underlying3
  a3 := Try.isAgg3
  z3 := Try.sizeOf3
  v3 := Try.zeroValue3
  t4 := Try.underlying4
  a4 := Try.isAgg4
  z4 := Try.sizeOf4
  v4 := Try.zeroValue4
  t22 := Try.underlying24
  a22 := Try.isAgg24
  z22 := Try.sizeOf24
  v22 := Try.zeroValue24
  t25 := Try.underlying72
  a25 := Try.isAgg72
  z25 := Try.sizeOf72
  v25 := Try.zeroValue72
theorem cmpLays (blk off size : Nat) (w : World) : CmpLays Try.prog 48 #[] encR 10 cfR blk off size w := fun m os dk _ x y =>
  tcmp_calls x.1 x.2.1 x.2.2.1 x.2.2.2.1 x.2.2.2.2.1 x.2.2.2.2.2.1 x.2.2.2.2.2.2.1 x.2.2.2.2.2.2.2.1 x.2.2.2.2.2.2.2.2.1 x.2.2.2.2.2.2.2.2.2
    y.1 y.2.1 y.2.2.1 y.2.2.2.1 y.2.2.2.2.1 y.2.2.2.2.2.1 y.2.2.2.2.2.2.1 y.2.2.2.2.2.2.2.1 y.2.2.2.2.2.2.2.2.1 y.2.2.2.2.2.2.2.2.2 _
theorem ins91 {blk off cap : Nat} {d : Array Tr} {w : World} (hH : HoldsK encR 10 w blk off d) (hblk : blk < w.heap.size) (h19 : d.size ≤ 19) : Calls Try.prog 91 #[.slice (some ⟨blk, off, none⟩) d.size cap, .int .i64 0, .int .i64 d.size, .func (.func 48) #[] #[]] w fun e w' =>
    e = .returned (.tuple #[]) ∧ ∃ n os, w' = sortWorldK encR 10 w blk off n (Go.Sort.insertionSort (ltOf cfR) d 0 d.size) os :=
  AnyQ.insertionSortCmpFunc lay91 10 agg30 size30 encR (fun x => rfl) (fun x v hv => by
    simp only [encR, List.mem_cons, List.not_mem_nil, or_false] at hv
    rcases hv with h | h | h | h | h | h | h | h | h | h <;> rw [h] <;> rfl) cfR 48 #[] blk off cap 0 d.size d w Try.call48 (cmpLays blk off d.size w) hH hblk (Nat.zero_le _) (Nat.le_refl _) (by omega)
theorem ins91n (p : Option Addr) (cap : Nat) (fv : Value) (w : World) : Calls Try.prog 91 #[.slice p 0 cap, .int .i64 0, .int .i64 0, fv] w fun e w' => e = .returned (.tuple #[]) ∧ w' = w := by
  have mixed : Try.prog.follows .mixedOrders = true := by kernel_rfl
  go_enter Try.func91, Try.ntmps91
  go_wp2
  refine wp_loop_rounds 1 ?_
  rw [rounds_succ]
  go_wp2
  go_end0
  exact ⟨rfl, rfl⟩
theorem sort72 {blk off cap : Nat} {d : Array Tr} {w : World} (hH : HoldsK encR 10 w blk off d) (hblk : blk < w.heap.size) (h19 : d.size ≤ 19) : Calls Try.prog 72 #[.slice (some ⟨blk, off, none⟩) d.size cap, .int .i64 d.size, .func (.func 48) #[] #[]] w fun e w' =>
    e = .returned (.tuple #[]) ∧ ∃ n os, w' = sortWorldK encR 10 w blk off n (Go.Sort.insertionSort (ltOf cfR) d 0 d.size) os := by
  have mixed : Try.prog.follows .mixedOrders = true := by kernel_rfl
  have hi := ins91 (cap := cap) hH hblk h19
  have hz1 : ¬ ((20 : Int) ≤ (d.size : Int)) := by omega
  have hz2 : ¬ ((20 : Int) < (d.size : Int)) := by omega
  clear hH
  obtain ⟨D, hD⟩ : ∃ D, D = Go.Sort.insertionSort (ltOf cfR) d 0 d.size := ⟨_, rfl⟩
  rw [← hD] at hi ⊢
  clear hD
  go_enter Try.func72, Try.ntmps72
  go_wp2
  refine wp_loop_rounds 1 ?_
  rw [rounds_succ]
  go_wp2_with (refine hi.mono ?_; rintro e w' ⟨rfl, n, os, rfl⟩)
  refine wp_loop_rounds 1 ?_
  rw [rounds_succ]
  go_wp2
  go_end0
  exact ⟨rfl, n, os, rfl⟩
theorem sort72n (p : Option Addr) (cap : Nat) (fv : Value) (w : World) : Calls Try.prog 72 #[.slice p 0 cap, .int .i64 0, fv] w fun e w' => e = .returned (.tuple #[]) ∧ w' = w := by
  have mixed : Try.prog.follows .mixedOrders = true := by kernel_rfl
  have hi := ins91n p cap fv w
  go_enter Try.func72, Try.ntmps72
  go_wp2
  refine wp_loop_rounds 1 ?_
  rw [rounds_succ]
  go_wp2_with (refine hi.mono ?_; rintro e w' ⟨rfl, rfl⟩)
  refine wp_loop_rounds 1 ?_
  rw [rounds_succ]
  go_wp2
  go_end0
  exact ⟨rfl, rfl⟩
theorem sort47 {blk off cap : Nat} {d : Array Tr} {w : World} (hH : HoldsK encR 10 w blk off d) (hblk : blk < w.heap.size) (h19 : d.size ≤ 19) : Calls Try.prog 47 #[.slice (some ⟨blk, off, none⟩) d.size cap, .func (.func 48) #[] #[]] w fun e w' =>
    e = .returned (.tuple #[]) ∧ ∃ n os, w' = sortWorldK encR 10 w blk off n (Go.Sort.insertionSort (ltOf cfR) d 0 d.size) os := by
  have mixed : Try.prog.follows .mixedOrders = true := by kernel_rfl
  have hi := sort72 (cap := cap) hH hblk h19
  clear hH
  obtain ⟨D, hD⟩ : ∃ D, D = Go.Sort.insertionSort (ltOf cfR) d 0 d.size := ⟨_, rfl⟩
  rw [← hD] at hi ⊢
  clear hD
  go_enter Try.func47, Try.ntmps47
  go_wp2_with (refine hi.mono ?_; rintro e w' ⟨rfl, n, os, rfl⟩)
  go_end0
  exact ⟨rfl, n, os, rfl⟩
theorem sort47n (p : Option Addr) (cap : Nat) (fv : Value) (w : World) : Calls Try.prog 47 #[.slice p 0 cap, fv] w fun e w' => e = .returned (.tuple #[]) ∧ w' = w := by
  have mixed : Try.prog.follows .mixedOrders = true := by kernel_rfl
  have hi := sort72n p cap fv w
  go_enter Try.func47, Try.ntmps47
  go_wp2_with (refine hi.mono ?_; rintro e w' ⟨rfl, rfl⟩)
  go_end0
  exact ⟨rfl, rfl⟩
end Go.Eva
end
section
/- TopRows walked. -/
namespace Go.Eva
open Go.Proofs Go.Shelf
open Go.RowKit Go.Lib Go.Sort
set_option linter.unusedVariables false
set_option linter.unusedSimpArgs false
set_option maxRecDepth 100000

theorem top_walk {w : World} {v0 : Value} {n : Int} {L : Nat} {CL S : Option Addr → Nat → Nat → World → Prop}
    (hclone : Calls Try.prog 46 #[v0] w fun e w1 => ∃ base len cap, e = .returned (.slice base len cap) ∧ CL base len cap w1)
    (hsort : ∀ base len cap w1, CL base len cap w1 → Calls Try.prog 47 #[.slice base len cap, .func (.func 48) #[] #[]] w1 fun e w2 => e = .returned (.tuple #[]) ∧ S base len cap w2)
    (hcl : ∀ base len cap w2, S base len cap w2 → len = L ∧ len ≤ cap ∧ cap ≤ 9223372036854775807 ∧ (base = none → cap = 0)) :
    Calls Try.prog 12 #[v0, .int .i64 n] w fun e w' => ∃ base cap, e = .returned (.slice base (if 0 ≤ n ∧ n ≤ (L : Int) then n.toNat else L) cap) ∧ S base L cap w' := by
  have mixed : Try.prog.follows .mixedOrders = true := by kernel_rfl
  by_cases hn : 0 ≤ n ∧ n ≤ (L : Int)
  · rw [if_pos hn]
    obtain ⟨k, rfl⟩ : ∃ k : Nat, n = k := ⟨n.toNat, by omega⟩
    have hk : k ≤ L := by omega
    go_enter Try.func12, Try.ntmps12
    go_wp2_with (refine hclone.mono ?_; rintro e w1 ⟨base, len, cap, rfl, hc⟩)
    refine (hsort _ _ _ _ hc).mono ?_
    rintro e w2 ⟨rfl, hs⟩
    obtain ⟨rfl, hlc, hcm, hb⟩ := hcl _ _ _ _ hs
    have hd : decide ((0 : Int) ≤ (k : Int) ∧ (k : Int) ≤ (len : Int)) = true := decide_eq_true hn
    go_wp2_with (refine (in_calls _ _ _ _).mono ?_; rintro e w' ⟨rfl, rfl⟩; rw [hd])
    go_ret
    exact ⟨base, cap, rfl, hs⟩
  · rw [if_neg hn]
    go_enter Try.func12, Try.ntmps12
    go_wp2_with (refine hclone.mono ?_; rintro e w1 ⟨base, len, cap, rfl, hc⟩)
    refine (hsort _ _ _ _ hc).mono ?_
    rintro e w2 ⟨rfl, hs⟩
    obtain ⟨rfl, hlc, hcm, hb⟩ := hcl _ _ _ _ hs
    have hd : decide ((0 : Int) ≤ n ∧ n ≤ (len : Int)) = false := decide_eq_false hn
    go_wp2_with (refine (in_calls _ _ _ _).mono ?_; rintro e w' ⟨rfl, rfl⟩; rw [hd])
    go_ret
    exact ⟨base, cap, rfl, hs⟩
end Go.Eva
end
section
/- The library's insertion sort, as insertions into a list. -/
namespace Go.Eva
open Go.Sort Go.Proofs
set_option linter.unusedVariables false
set_option linter.unusedSimpArgs false

theorem posR_app {α : Type} (lt : α → α → Bool) (x : α) (q r : List α) : ∀ k, k ≤ q.length → posR lt x (q ++ r) k = posR lt x q k
  | 0, _ => rfl
  | k + 1, h => by
    unfold posR
    rw [List.getElem?_append_left (by omega), posR_app lt x q r k (by omega)]
theorem insInner_list {α : Type} [Inhabited α] (lt : α → α → Bool) (x : α) : ∀ (j : Nat) (pre post : List α), pre.length = j → insInner lt 0 j (pre ++ x :: post).toArray = (pre.take (posR lt x pre j) ++ x :: (pre.drop (posR lt x pre j) ++ post)).toArray
  | 0, pre, post, h => by
    obtain rfl : pre = [] := List.eq_nil_of_length_eq_zero h
    rfl
  | j + 1, pre, post, h => by
    rcases List.eq_nil_or_concat pre with rfl | ⟨q, y, rfl⟩
    · simp at h
    · rw [List.concat_eq_append] at h ⊢
      have hq : q.length = j := by simp at h; omega
      subst hq
      have g1 : ((q ++ [y]) ++ x :: post).toArray[q.length + 1]! = x := by simp
      have g2 : ((q ++ [y]) ++ x :: post).toArray[q.length]! = y := by simp
      have hy : (q ++ [y])[q.length]? = some y := by simp
      unfold insInner
      rw [g1, g2]
      unfold posR
      rw [hy]
      simp only
      have hg : (q.length + 1 > 0 : Bool) = true := by simp
      by_cases hl : lt x y = true
      · rw [if_pos (by simp [hl]), if_pos hl, posR_app lt x q [y] q.length (Nat.le_refl _)]
        have hs : swp ((q ++ [y]) ++ x :: post).toArray (q.length + 1) q.length = (q ++ x :: (y :: post)).toArray := by
          unfold swp
          rw [g1, g2]
          apply Array.ext'
          simp
        rw [hs, insInner_list lt x q.length q (y :: post) rfl]
        have hp := posR_le lt x q q.length
        rw [List.take_append_of_le_length hp, List.drop_append_of_le_length hp]
        simp
      · rw [if_neg (by simp [hl]), if_neg hl]
        have e1 : (q ++ [y]).take (q.length + 1) = q ++ [y] := List.take_of_length_le (by simp)
        have e2 : (q ++ [y]).drop (q.length + 1) = [] := List.drop_of_length_le (by simp)
        rw [e1, e2, List.nil_append]
theorem insOuter_list {α : Type} [Inhabited α] (lt : α → α → Bool) : ∀ (rest out : List α), insOuter lt 0 (out.length + rest.length) out.length (out ++ rest).toArray = (rest.foldl (insR lt) out).toArray
  | [], out => by
    rw [insOuter_stop _ _ _ _ _ (by simp)]
    simp
  | x :: rest, out => by
    rw [insOuter_go _ _ _ _ _ (by simp), insInner_list lt x out.length out rest rfl]
    have h := insOuter_list lt rest (insR lt out x)
    rw [insR_len] at h
    rw [List.foldl_cons, ← h]
    have e : out.length + (x :: rest).length = out.length + 1 + rest.length := by rw [List.length_cons]; omega
    rw [e]
    unfold insR
    simp
theorem sort_list {α : Type} [Inhabited α] (lt : α → α → Bool) (l : List α) : Go.Sort.insertionSort lt l.toArray 0 l.length = (srtR lt l).toArray := by
  unfold Go.Sort.insertionSort srtR
  cases l with
  | nil => rw [insOuter_stop _ _ _ _ _ (by simp)]; rfl
  | cons x xs =>
    have h := insOuter_list lt xs [x]
    have e : insR lt [] x = [x] := rfl
    rw [List.foldl_cons, e, ← h]
    have e2 : (x :: xs).length = ([x] : List α).length + xs.length := by simp; omega
    rw [e2]
    rfl
end Go.Eva
end
section
/- TopRows: its contract. -/
namespace Go.Eva
open Go.Proofs Go.Shelf
open Go.RowKit Go.Lib Go.Sort
set_option linter.unusedVariables false
set_option linter.unusedSimpArgs false
set_option maxRecDepth 100000

abbrev kR : Kd := (.pair .str (.pair (.int .i64) (.pair (.int .i64) (.pair .bool (.pair (.int .i64) (.pair (.int .i64) (.pair (.int .i64) (.pair (.int .i64) (.pair (.int .i64) (.int .i64))))))))))
theorem rd_enc {w : World} {g : Nat → Option Value} {x : Tr} {fp : List Nat} (h : Rd w true kR g x fp) (j : Nat) (hj : j < 10) : g j = some (encR x)[j]! := by
  obtain ⟨_, _, _, ⟨h0, _⟩, _, _, _, ⟨h1, _⟩, _, _, _, ⟨h2, _⟩, _, _, _, ⟨h3, _⟩, _, _, _, ⟨h4, _⟩, _, _, _, ⟨h5, _⟩, _, _, _, ⟨h6, _⟩, _, _, _, ⟨h7, _⟩, _, _, _, ⟨h8, _⟩, ⟨h9, _⟩⟩ := h
  match j, hj with
  | 0, _ => exact h0
  | 1, _ => exact h1
  | 2, _ => exact h2
  | 3, _ => exact h3
  | 4, _ => exact h4
  | 5, _ => exact h5
  | 6, _ => exact h6
  | 7, _ => exact h7
  | 8, _ => exact h8
  | 9, _ => exact h9
theorem enc_rd {w : World} {g : Nat → Option Value} {x : Tr} (h : ∀ j, j < 10 → g j = some (encR x)[j]!) : Rd w true kR g x [] :=
  ⟨[], [], rfl, ⟨h 0 (by omega), rfl⟩, [], [], rfl, ⟨h 1 (by omega), rfl⟩, [], [], rfl, ⟨h 2 (by omega), rfl⟩, [], [], rfl, ⟨h 3 (by omega), rfl⟩, [], [], rfl, ⟨h 4 (by omega), rfl⟩, [], [], rfl, ⟨h 5 (by omega), rfl⟩,
    [], [], rfl, ⟨h 6 (by omega), rfl⟩, [], [], rfl, ⟨h 7 (by omega), rfl⟩, [], [], rfl, ⟨h 8 (by omega), rfl⟩, ⟨h 9 (by omega), rfl⟩⟩
theorem holds_of {w : World} {g off : Nat} {cur : Array Value} {e : TypeId} {l : List Tr} (hg : w.heap[g]? = some (.cells cur e (0, 0))) (h : FLr kR cur.toList off l) : HoldsK encR 10 w g off l.toArray := by
  intro t ht
  have ht : t < l.length * 10 := by simpa using ht
  have hi : t / 10 < l.length := by omega
  refine ⟨?_, by simp [World.frozen?, hg]⟩
  have h1 := rd_enc (h w (t / 10) hi) (t % 10) (by omega)
  have e1 : off + t / 10 * kR.n + t % 10 = off + t := by
    have : kR.n = 10 := rfl
    rw [this]; omega
  simp only [e1] at h1
  rw [get_flatK _ _ _ _ (by simpa using ht)]
  have e2 : l.toArray[t / 10]! = l[t / 10] := by simp [hi]
  rw [e2]
  simp only [World.cell?, hg]
  simpa using h1
theorem of_holds {w : World} {g off : Nat} {cur : Array Value} {e : TypeId} {d : Array Tr} (hg : w.heap[g]? = some (.cells cur e (0, 0))) (h : HoldsK encR 10 w g off d) : FLr kR cur.toList off d.toList := by
  intro w0 i hi
  have hi' : i < d.size := by simpa using hi
  refine enc_rd fun j hj => ?_
  have h1 := (HoldsK.cell h hi' hj).1
  simp only [World.cell?, hg] at h1
  have e1 : kR.n = 10 := rfl
  have e2 : d[i]! = d.toList[i] := by simp [hi']
  rw [e1, ← e2]
  simpa using h1
theorem putRow_block (w : World) (blk off y : Nat) (d : Array Value) (h : y ≠ blk) : (putRow id w blk off d).heap[y]? = w.heap[y]? := by
  unfold putRow mapBlock
  simp only
  rw [Array.getElem?_modify, if_neg (Ne.symm h)]
theorem putRow_at {w : World} {blk : Nat} (off : Nat) (d : Array Value) {cur : Array Value} {e : TypeId} {fr : Nat × Nat} (h : w.heap[blk]? = some (.cells cur e fr)) : (putRow id w blk off d).heap[blk]? = some (.cells (Go.Sort.putCells id off d cur) e fr) := by
  unfold putRow mapBlock
  simp only
  rw [Array.getElem?_modify, if_pos rfl, h]
  rfl
structure SortW (w w' : World) (g off : Nat) (cur : Array Value) (D : Array Tr) : Prop where
  size : w.heap.size ≤ w'.heap.size
  os : w'.os = w.os
  tape : w'.tape = w.tape
  output : w'.output = w.output
  other : ∀ y, y ≠ g → y < w.heap.size → w'.heap[y]? = w.heap[y]?
  here : ∃ cur' : Array Value, w'.heap[g]? = some (.cells cur' 30 (0, 0)) ∧ cur'.size = cur.size ∧ FLr kR cur'.toList off D.toList
theorem sortW {w : World} {g off : Nat} {cur : Array Value} {d D : Array Tr} (hg : w.heap[g]? = some (.cells cur 30 (0, 0))) (hH : HoldsK encR 10 w g off d) (hD : D.size = d.size) (n : Nat) (os : Array Obj) : SortW w (sortWorldK encR 10 w g off n D os) g off cur D := by
  have hlt : g < w.heap.size := (Array.getElem?_eq_some_iff.1 hg).1
  have hh := holdsK_sortWorldK_c encR 10 w g off d D n os hH hlt hD
  have hold : ∀ y, y < w.heap.size → (sortWorldK encR 10 w g off n D os).heap[y]? = (putRow id (Go.Sort.ahead w n) g off (flatK encR 10 D)).heap[y]? := fun y hy => by
    unfold sortWorldK putRowK Go.Sort.grow
    simp only
    rw [Array.getElem?_append, if_pos (by simpa using hy)]
  have hat := (hold g hlt).trans (putRow_at (w := Go.Sort.ahead w n) off (flatK encR 10 D) hg)
  exact {
    size := by
      unfold sortWorldK putRowK Go.Sort.grow
      simp [Go.Sort.ahead]
    os := rfl
    tape := rfl
    output := rfl
    other := fun y h1 h2 => (hold y h2).trans (putRow_block _ g off y _ h1)
    here := ⟨_, hat, by unfold Go.Sort.putCells; simp, of_holds hat hh⟩ }

theorem own_take {w : World} {κ : Kd} {base : Option Addr} {m len cap : Nat} {e : TypeId} {l : List κ.T} {fp : List Nat} (hf : κ.flat = true) (h : RdS w true (Rd w true κ) κ.n e (.slice base len cap) l fp) (hm : m ≤ len) :
    RdS w true (Rd w true κ) κ.n e (.slice base m cap) (l.take m) fp := by
  rcases own_open hf h with ⟨h1, h2, a, h3⟩ | ⟨g, off, c, cur, h1, h2, h3, h4, h5, h6, h7⟩
  · injection h3 with q1 q2 q3
    subst q1 q2 q3
    obtain rfl : m = 0 := by omega
    rw [h1, h2]
    exact .inl ⟨rfl, rfl, base, 0, rfl, fun _ => rfl⟩
  · injection h1 with q1 q2 q3
    subst q1 q2 q3 h2
    have hl : (l.take m).length = m := by simp; omega
    have := own_close (l := l.take m) (off := off) (cap := cap) h3 h4 (by omega) h6 (fun w0 i hi => by
      have hi' : i < l.length := by rw [List.length_take] at hi; omega
      have := h7 w0 i hi'
      rw [List.getElem_take]
      exact this)
    rw [hl] at this
    exact this

theorem cmp3_lt (a b : Int) : decide (cmp3 a b < 0) = decide (a < b) := by
  unfold cmp3
  by_cases h1 : a < b
  · simp [h1]
  · by_cases h2 : b < a
    · simp [h1, h2]
    · simp [h1, h2]
theorem ltR : ltOf cfR = fun x y => decide (rkT y < rkT x) := by
  funext x y
  exact cmp3_lt (rkR y) (rkR x)
theorem cloF_ok (κ : Kd) (B : Nat) (l : List κ.T) (h : l.length * B ≤ 140737488355328) : cloF κ B l = some (l, ()) := by
  unfold cloF
  rw [if_pos (decide_eq_true (show (([] : List κ.T).length + l.length) * B ≤ 140737488355328 by rw [List.length_nil, Nat.zero_add]; exact h))]
  rfl
theorem gTop (W : World) (n0 : Nat) : Good Try.prog W 12 (c12 n0) where
  ok := rfl
  fn := ⟨Try.f12, Try.func12, by kernel_rfl, by kernel_rfl⟩
  run := fun x r hx w G H frz imm hI hH => by
    obtain ⟨l, i, u⟩ := x
    have hx : topF (fun x y => decide (rkT y < rkT x)) 88 l i = some r := hx
    unfold topF at hx
    split at hx
    case isFalse => cases hx
    rename_i h19
    split at hx
    case isFalse => cases hx
    rename_i hbig
    have h19 := of_decide_eq_true h19
    have hbig := of_decide_eq_true hbig
    have hH : H.map (·.a) = [.sl (.imm true) 30 kR l, .int .i64 i] := hH
    match H, hH, hI with
    | [⟨_, v0, f0⟩, ⟨_, v1, f1⟩], hH, hI =>
    simp only [List.map_cons, List.map_nil, List.cons.injEq, and_true] at hH
    obtain ⟨rfl, rfl⟩ := hH
    have hG : G = [] := List.eq_nil_of_length_eq_zero hI.len
    subst hG
    have r1 : f1 = [] ∧ v1 = .int .i64 i := hI.held ⟨.int .i64 i, v1, f1⟩ (List.mem_cons_of_mem _ List.mem_cons_self)
    obtain ⟨rfl, rfl⟩ := r1
    show Calls Try.prog 12 #[v0, .int .i64 i] w _
    have hI0 : Ifc W [] [] w [] [⟨.sl (.imm true) 30 kR l, v0, f0⟩] frz imm := Rep.drop (h0 := ⟨.int .i64 i, .int .i64 i, []⟩) (hI.perm (List.Perm.swap _ _ _))
    have hcl := (clo46 W).run (l, ()) (l, ()) (cloF_ok kd46 88 l hbig) w [] [⟨.sl (.imm true) 30 kR l, v0, f0⟩] frz imm hI0 rfl
    have hcl : Calls Try.prog 46 #[v0] w (Post W (cloCon 30 kd46 88) (l, ()) w [] frz imm) := hcl
    obtain ⟨lt, hlt⟩ : ∃ lt : Tr → Tr → Bool, lt = fun x y => decide (rkT y < rkT x) := ⟨_, rfl⟩
    rw [← hlt] at hx
    refine (top_walk (n := i) (L := l.length)
      (CL := fun base len cap w1 => ∃ fp frz1 imm1, Rep ⟨W, []⟩ ⟨[], []⟩ w1 #[] [] [⟨.sl .own 30 kR l, .slice base len cap, fp⟩] frz1 imm1 ∧ Ext w frz imm w1 frz1 imm1)
      (S := fun base len cap w1 => ∃ fp frz1 imm1, Rep ⟨W, []⟩ ⟨[], []⟩ w1 #[] [] [⟨.sl .own 30 kR (srtR lt l), .slice base len cap, fp⟩] frz1 imm1 ∧ Ext w frz imm w1 frz1 imm1)
      (hcl.mono ?_) ?_ ?_).mono ?_
    · rintro e w1 ⟨v, rfl, G', H', frz1, imm1, p1, p2, p3, p4, p5⟩
      have p2 : H'.map (·.a) = [.sl .own 30 kR l] := p2
      match H', p2, p1, p3 with
      | [⟨_, v', f'⟩], p2, p1, p3 =>
      simp only [List.map_cons, List.map_nil, List.cons.injEq, and_true] at p2
      subst p2
      obtain rfl : G' = [] := List.eq_nil_of_length_eq_zero p1.len
      have p3 : v = v' := p3
      subst p3
      have r0 : RdS w1 true (Rd w1 true kR) kR.n 30 v l f' := p1.held _ List.mem_cons_self
      rcases own_open rfl r0 with ⟨_, _, a, h3⟩ | ⟨g, off, c, cur, h3, _⟩
      · exact ⟨a, 0, 0, by rw [h3], f', frz1, imm1, by rw [← h3]; exact p1, p5⟩
      · exact ⟨_, _, c, by rw [h3], f', frz1, imm1, by rw [← h3]; exact p1, p5⟩
    · rintro base len cap w1 ⟨fp, frz1, imm1, p1, p2⟩
      have r0 : RdS w1 true (Rd w1 true kR) kR.n 30 (.slice base len cap) l fp := p1.held _ List.mem_cons_self
      rcases own_open rfl r0 with ⟨h1, h2, a, h3⟩ | ⟨g, off, c, cur, h3, h2, hg, hfit, hlc, hcm, hfl⟩
      · injection h3 with q1 q2 q3
        subst q1 q2 q3 h1
        refine (sort47n base 0 _ w1).mono ?_
        rintro e w2 ⟨rfl, rfl⟩
        exact ⟨rfl, fp, frz1, imm1, p1, p2⟩
      · injection h3 with q1 q2 q3
        subst q1 q2 q3 h2
        have hH := holds_of hg hfl
        have hlt' : g < w1.heap.size := (Array.getElem?_eq_some_iff.1 hg).1
        refine (sort47 (cap := cap) hH hlt' (by simpa using h19)).mono ?_
        rintro e w2 ⟨rfl, n, os, rfl⟩
        refine ⟨rfl, ?_⟩
        have hsl : Go.Sort.insertionSort (ltOf cfR) l.toArray 0 l.toArray.size = (srtR lt l).toArray := by
          rw [hlt, ltR, List.size_toArray]
          exact sort_list _ l
        rw [hsl]
        have hsz : (srtR lt l).toArray.size = l.toArray.size := by rw [List.size_toArray, List.size_toArray, srtR_len]
        have S := sortW hg hH hsz n os
        obtain ⟨cur', c1, c2, c3⟩ := S.here
        have hone : ∀ y, imm1 y → y ≠ g := fun y hy q => by
          have := p1.apart y hy
          rw [q] at this
          simp [ownc] at this
        have hbB : W.heap.size ≤ g := Nat.le_of_not_lt fun q => hone g (p1.fi g (p1.lo g q)) rfl
        have hrd := own_close (κ := kR) (e := 30) (l := srtR lt l) (off := off) (cap := cap) c1 (by rw [c2]; exact hfit) (by rw [srtR_len]; exact hlc) hcm c3
        rw [srtR_len] at hrd
        have hturn := Rep.turn (H1 := [⟨AV.sl .own 30 kR l, .slice (some ⟨g, off, none⟩) l.length cap, [g]⟩]) (H := []) p1 (w' := sortWorldK encR 10 w1 g off n (srtR lt l).toArray os)
          (p1.base.trans ⟨S.os, S.tape, S.output, S.size, fun k hk => S.other k (Nat.ne_of_lt (Nat.lt_of_lt_of_le hk hbB)) (Nat.lt_of_lt_of_le hk p1.base.size)⟩) S.size (fun y hy => by
            rcases hy with hy | hy
            · exact S.other y (hone y hy) (p1.ilt y hy)
            · simp [ownc] at hy)
          (a := .sl .own 30 kR (srtR lt l)) (fp := [g]) (fun _ => False) (fun y => .inl (by simp [hfp])) (fun y hy => hy.elim) hrd
        exact ⟨_, _, _, hturn.2.1, p2.trans hturn.2.2⟩
    · rintro base len cap w2 ⟨fp, frz1, imm1, p1, p2⟩
      have r0 : RdS w2 true (Rd w2 true kR) kR.n 30 (.slice base len cap) (srtR lt l) fp := p1.held _ List.mem_cons_self
      have hsl := srtR_len lt l
      rcases own_open rfl r0 with ⟨h1, h2, a, h3⟩ | ⟨g, off, c, cur, h3, h2, hg, hfit, hlc, hcm, hfl⟩
      · injection h3 with q1 q2 q3
        subst q1 q2 q3
        rw [h1] at hsl
        exact ⟨hsl, Nat.le_refl _, by omega, fun _ => rfl⟩
      · injection h3 with q1 q2 q3
        subst q1 q2 q3
        unfold maxLen at hcm
        exact ⟨hsl, hlc, by omega, fun q => by cases q⟩
    · rintro e w' ⟨base, cap, rfl, fp, frz1, imm1, p1, p2⟩
      have r0 : RdS w' true (Rd w' true kR) kR.n 30 (.slice base l.length cap) (srtR lt l) fp := p1.held _ List.mem_cons_self
      have hout : ∀ m, m ≤ l.length → r = ((srtR lt l).take m, ()) → Post W (c12 n0) r w [] frz imm (.returned (.slice base m cap)) w' := fun m hm hr => by
        have hturn := Rep.turn (H1 := [⟨AV.sl .own 30 kR (srtR lt l), .slice base l.length cap, fp⟩]) (H := []) p1 (w' := w') p1.base (Nat.le_refl _) (fun y hy => rfl)
          (a := .sl .own 30 kR ((srtR lt l).take m)) (v := .slice base m cap) (fp := fp) (fun _ => False) (fun y => .inl (by simp [hfp])) (fun y hy => hy.elim) (own_take (κ := kR) rfl r0 hm)
        subst hr
        exact ⟨_, rfl, [], _, _, _, hturn.2.1, rfl, rfl, fun j g hj => by simp [c12] at hj, p2.trans hturn.2.2⟩
      by_cases hin : 0 ≤ i ∧ i ≤ (l.length : Int)
      · rw [if_pos (decide_eq_true hin)] at hx
        injection hx with hx
        rw [if_pos hin]
        exact hout _ (Int.toNat_le.2 hin.2) hx.symm
      · rw [if_neg (by simpa using hin)] at hx
        injection hx with hx
        rw [if_neg hin]
        refine hout _ (Nat.le_refl _) (hx.symm.trans ?_)
        rw [List.take_of_length_le (by rw [srtR_len]; exact Nat.le_refl _)]
end Go.Eva
end
section
/- Total functions: rules for what an Option answers. -/
namespace Go.Eva
open Go.RowKit (wrap64)
set_option linter.unusedVariables false

def ok {α : Type} (x : Option α) (Q : α → Prop) : Prop := ∃ a, x = some a ∧ Q a
theorem ok.some {α : Type} {a : α} {Q : α → Prop} (h : Q a) : ok (some a) Q := ⟨a, rfl, h⟩
theorem ok.bind {α β : Type} {x : Option α} {f : α → Option β} {Q : α → Prop} {R : β → Prop} (h : ok x Q) (k : ∀ a, Q a → ok (f a) R) : ok (x.bind f) R := by
  obtain ⟨a, rfl, q⟩ := h
  exact k a q
theorem ok.guard {α : Type} {c : Prop} [Decidable c] {x : Option α} {Q : α → Prop} (h : c) (k : ok x Q) : ok (if decide c = true then x else none) Q := by rw [if_pos (decide_eq_true h)]; exact k
theorem ok.ite {α : Type} {c : Prop} [Decidable c] {x y : Option α} {Q : α → Prop} (h : c → ok x Q) (k : ¬ c → ok y Q) : ok (if decide c = true then x else y) Q := by
  by_cases hc : c
  · rw [if_pos (decide_eq_true hc)]; exact h hc
  · rw [if_neg (by simpa using hc)]; exact k hc
theorem ok.iteb {α : Type} {c : Bool} {x y : Option α} {Q : α → Prop} (h : c = true → ok x Q) (k : c = false → ok y Q) : ok (if c = true then x else y) Q := by
  cases c
  · exact k rfl
  · exact h rfl
theorem ok.mono {α : Type} {x : Option α} {Q R : α → Prop} (h : ok x Q) (k : ∀ a, Q a → R a) : ok x R := by
  obtain ⟨a, q1, q2⟩ := h
  exact ⟨a, q1, k a q2⟩
theorem w64 {x : Int} (h : -9223372036854775808 ≤ x) (h' : x ≤ 9223372036854775807) : wrap64 x = x := by unfold wrap64; omega
theorem andI_bd (x : Int) (m : Nat) (hm : m < 9223372036854775808) : 0 ≤ andI .i64 x m ∧ andI .i64 x m ≤ m := by
  unfold andI
  have h1 : (BitVec.ofInt IntKind.i64.bits x &&& BitVec.ofInt IntKind.i64.bits (m : Int)).toNat ≤ m := by
    rw [BitVec.toNat_and]
    have : (BitVec.ofInt IntKind.i64.bits (m : Int)).toNat = m := by
      rw [BitVec.toNat_ofInt]
      show ((m : Int) % (2 ^ 64 : Nat)).toNat = m
      omega
    rw [this]
    exact Nat.and_le_right
  have h2 : IntKind.i64.wrap ((BitVec.ofInt IntKind.i64.bits x &&& BitVec.ofInt IntKind.i64.bits (m : Int)).toNat : Int) = ((BitVec.ofInt IntKind.i64.bits x &&& BitVec.ofInt IntKind.i64.bits (m : Int)).toNat : Int) := by
    rw [IntKind.wrap_i64]; omega
  rw [h2]
  omega
theorem and255 (x : Int) : 0 ≤ andI .i64 x 255 ∧ andI .i64 x 255 < 256 := by
  have := andI_bd x 255 (by omega)
  exact ⟨this.1, Int.lt_of_le_of_lt this.2 (by decide)⟩
theorem rdOf_mem {α : Type} {d : α} {l : List α} {i : Int} (h : 0 ≤ i) (h' : i < (l.length : Int)) : rdOf d l i ∈ l := by
  unfold rdOf
  rw [List.getD_eq_getElem?_getD, List.getElem?_eq_getElem (by omega)]
  exact List.getElem_mem _
theorem rdOf_nat {α : Type} {d : α} {l : List α} {i : Nat} (h : i < l.length) : rdOf d l (i : Int) = l[i] := by
  unfold rdOf
  rw [List.getD_eq_getElem?_getD, Int.toNat_natCast, List.getElem?_eq_getElem h]; rfl
/-- A loop's rule: what goes down, and what stays. -/
theorem tmod_bd {x n : Int} (h : 0 ≤ x) (hn : 0 < n) : 0 ≤ x.tmod n ∧ x.tmod n < n := ⟨Int.tmod_nonneg _ h, Int.tmod_lt_of_pos _ hn⟩
end Go.Eva
end
section
/- What the drawing functions answer. -/
namespace Go.Eva
open Go.RowKit (wrap64)
set_option linter.unusedVariables false
set_option linter.unusedSimpArgs false

/-- A cursor: the code and the place in it. -/
structure Cur (b : List Int) (i : Int) : Prop where
  lo : 0 ≤ i
  hi : i ≤ (b.length : Int)
  len : b.length ≤ 1048576
  byt : ∀ x ∈ b, 0 ≤ x ∧ x < 256

theorem t71 {n : Nat} {b : List Int} {i h : Int} (c : Cur b i) : ok (F71 n b i h) fun r => 0 ≤ r.1 ∧ r.1 < 256 ∧ Cur r.2.1 r.2.2.1 := by
  unfold F71
  refine ok.guard (by omega) (ok.guard (by omega) (ok.ite (fun h1 => ok.guard c.lo (ok.guard h1 (ok.some ?_))) (fun h1 => ok.some ?_)))
  · have hl := c.len
    have hlo := c.lo
    refine ⟨(and255 _).1, (and255 _).2, ?_⟩
    show Cur b (wrap64 (i + 1))
    rw [w64 (x := i + 1) (by omega) (by omega)]
    exact ⟨by omega, by omega, c.len, c.byt⟩
  · exact ⟨(and255 _).1, (and255 _).2, c⟩

theorem t45 {n : Nat} {m : Int} {b : List Int} {i h : Int} (c : Cur b i) : ok (F45 n m b i h) fun r => 0 ≤ r.1 ∧ (0 < m → r.1 < m) ∧ (m ≤ 0 → r.1 = 0) ∧ Cur r.2.1 r.2.2.1 := by
  unfold F45
  refine ok.ite (fun h1 => ok.some ⟨Int.le_refl _, fun q => by omega, fun _ => rfl, c⟩) (fun h1 => ok.ite (fun h2 => ?_) (fun h2 => ?_))
  · refine (t71 c).bind fun r1 q => ok.guard (by omega) (ok.some ?_)
    have := tmod_bd (x := r1.1) (n := m) q.1 (by omega)
    exact ⟨this.1, fun _ => this.2, fun q => by omega, q.2.2⟩
  · refine (t71 c).bind fun r2 q2 => (t71 q2.2.2).bind fun r3 q3 => (t71 q3.2.2).bind fun r4 q4 => (t71 q4.2.2).bind fun r5 q5 => ok.guard (by omega) (ok.some ?_)
    have e : wrap64 ((wrap64 ((wrap64 ((wrap64 (r2.1 * 16777216)) + (wrap64 (r3.1 * 65536)))) + (wrap64 (r4.1 * 256)))) + r5.1) = r2.1 * 16777216 + r3.1 * 65536 + r4.1 * 256 + r5.1 := by
      obtain ⟨a1, a2, _⟩ := q2
      obtain ⟨b1, b2, _⟩ := q3
      obtain ⟨c1, c2, _⟩ := q4
      obtain ⟨d1, d2, _⟩ := q5
      rw [w64 (x := r2.1 * 16777216) (by omega) (by omega), w64 (x := r3.1 * 65536) (by omega) (by omega), w64 (x := r4.1 * 256) (by omega) (by omega), w64 (x := r2.1 * 16777216 + r3.1 * 65536) (by omega) (by omega), w64 (x := r2.1 * 16777216 + r3.1 * 65536 + r4.1 * 256) (by omega) (by omega), w64 (by omega) (by omega)]
    simp only [e]
    have := tmod_bd (x := r2.1 * 16777216 + r3.1 * 65536 + r4.1 * 256 + r5.1) (n := m) (by have := q2.1; have := q3.1; have := q4.1; have := q5.1; omega) (by omega)
    exact ⟨this.1, fun _ => this.2, fun q => by omega, q5.2.2⟩

theorem t60 {n : Nat} {m : Int} {b : List Int} {i h : Int} (c : Cur b i) : ok (F60 n m b i h) fun r => Cur r.2.1 r.2.2.1 := by
  unfold F60
  exact (t45 c).bind fun r q => ok.some q.2.2.2

theorem t79 {n : Nat} {l b : List Int} {i h : Int} (c : Cur b i) (hl : 0 < l.length) : ok (F79 n l b i h) fun r => r.1 ∈ l ∧ Cur r.2.1 r.2.2.1 := by
  unfold F79
  refine (t45 c).bind fun r q => ok.guard q.1 (ok.guard (q.2.1 (by omega)) (ok.some ⟨rdOf_mem q.1 (q.2.1 (by omega)), q.2.2.2⟩))

theorem t43 {n : Nat} {l : List ByteArray} {b : List Int} {i h : Int} (c : Cur b i) (hl : 0 < l.length) : ok (F43 n l b i h) fun r => r.1 ∈ l ∧ Cur r.2.1 r.2.2.1 := by
  unfold F43
  refine (t45 c).bind fun r q => ok.guard q.1 (ok.guard (q.2.1 (by omega)) (ok.some ⟨rdOf_mem q.1 (q.2.1 (by omega)), q.2.2.2⟩))

theorem t88 {n : Nat} {b : List Int} {i h : Int} (c : Cur b i) : ok (F88 n b i h) fun r => r.1.size ≤ 5 ∧ Cur r.2.1 r.2.2.1 := by
  unfold F88
  refine (t43 c (by decide)).bind fun r q => ok.some ⟨?_, q.2⟩
  have hall : ∀ x ∈ ([(⟨#[97]⟩ : ByteArray), (⟨#[98]⟩ : ByteArray), (⟨#[99, 112, 117]⟩ : ByteArray), (⟨#[114, 101, 113]⟩ : ByteArray), (⟨#[120, 95, 49]⟩ : ByteArray), (⟨#[90, 57]⟩ : ByteArray), (⟨#[109, 101, 109]⟩ : ByteArray), (⟨#[113]⟩ : ByteArray)] : List ByteArray), x.size ≤ 5 := by
    intro x hx
    simp only [List.mem_cons, List.not_mem_nil, or_false] at hx
    rcases hx with rfl | rfl | rfl | rfl | rfl | rfl | rfl | rfl <;> decide
  exact hall _ q.1

theorem t89 {n : Nat} {b : List Int} {i h : Int} (c : Cur b i) : ok (F89 n b i h) fun r => Cur r.2.1 r.2.2.1 := by
  unfold F89
  exact (t45 c).bind fun r1 q1 => (t45 q1.2.2.2).bind fun r2 q2 => (t79 q2.2.2.2 (by simp)).bind fun r3 q3 => ok.some q3.2

theorem t52 {n : Nat} {x y z : Int} : ok (F52 n x y z) fun _ => True := by
  unfold F52
  exact ok.ite (fun _ => ok.some trivial) (fun _ => ok.some trivial)
theorem t97 {n : Nat} {x : Int} : ok (F97 n x) fun _ => True := by
  unfold F97
  exact t52.bind fun _ _ => ok.iteb (fun _ => ok.some trivial) (fun _ => t52.bind fun _ _ => ok.iteb (fun _ => ok.some trivial) (fun _ => t52.bind fun _ _ => ok.iteb (fun _ => ok.some trivial) (fun _ => ok.some trivial)))
theorem t85_0 {n : Nat} {s : ByteArray} (hs : s.size ≤ 1048576) : ∀ (k : Nat) (i : Int), 0 ≤ i → i ≤ (s.size : Int) → (s.size : Int) - i < k → ok (lp85_0 n k s i) fun _ => True
  | 0, i, h0, h1, hk => by omega
  | k + 1, i, h0, h1, hk => by
    show ok (st85_0 n (lp85_0 n k) s i) _
    unfold st85_0
    refine ok.ite (fun h2 => ok.guard h0 (ok.guard h2 (t97.bind fun _ _ => ok.iteb (fun _ => ok.some trivial) (fun _ => ?_)))) (fun _ => t52.bind fun _ _ => ok.some trivial)
    rw [w64 (by omega) (by omega)]
    exact t85_0 hs k (i + 1) (by omega) (by omega) (by omega)
theorem t85 {n : Nat} {s : ByteArray} (hs : s.size ≤ 5) (hn : 100 ≤ n) : ok (F85 n s) fun _ => True := t85_0 (by omega) n 0 (by omega) (by omega) (by omega)
theorem t86 {n : Nat} {s : ByteArray} {a b : Int} {t : Bool} {d e f g u v : Int} : ok (F86 n s a b t d e f g u v) fun _ => True := by
  unfold F86
  refine ok.ite (fun _ => ok.ite (fun _ => ok.ite (fun _ => ok.ite (fun _ => ok.some trivial) (fun _ => ok.some trivial)) (fun _ => ok.some trivial)) (fun _ => ok.some trivial)) (fun _ => ?_)
  exact t52.bind fun _ _ => ok.iteb (fun _ => t52.bind fun _ _ => ok.iteb (fun _ => ok.ite (fun _ => t52.bind fun _ _ => ok.iteb (fun _ => t52.bind fun _ _ => ok.iteb (fun _ => ok.ite (fun _ => ok.some trivial) (fun _ => ok.some trivial)) (fun _ => ok.some trivial)) (fun _ => ok.some trivial)) (fun _ => ok.some trivial)) (fun _ => ok.some trivial)) (fun _ => ok.some trivial)
theorem t65 {n : Nat} {s : ByteArray} {a b : Int} {t : Bool} {d e f g u v : Int} (hs : s.size ≤ 5) (hn : 100 ≤ n) : ok (F65 n s a b t d e f g u v) fun _ => True := by
  unfold F65
  refine (t85 hs hn).bind fun _ _ => ok.iteb (fun _ => ok.some trivial) (fun _ => ok.ite (fun _ => ok.iteb (fun _ => t52.bind fun _ _ => ok.some trivial) (fun _ => ok.some trivial)) (fun _ => ok.ite (fun _ => ok.iteb (fun _ => t52.bind fun _ _ => ok.iteb (fun _ => ok.iteb (fun _ => ok.some trivial) (fun _ => ok.some trivial)) (fun _ => ok.some trivial)) (fun _ => ok.some trivial)) (fun _ => ok.ite (fun _ => ?_) (fun _ => ok.some trivial))))
  exact ok.ite (fun _ => ok.iteb (fun _ => ok.ite (fun _ => t86.bind fun _ _ => ok.some trivial) (fun _ => ok.some trivial)) (fun _ => ok.some trivial)) (fun _ => ok.some trivial)
theorem t90 {n : Nat} {s : ByteArray} {a b : Int} {t : Bool} {d e f g u v x : Int} (hs : s.size ≤ 5) (hn : 100 ≤ n) : ok (F90 n s a b t d e f g u v x) fun r => r.1 = s := by
  unfold F90
  exact (t65 hs hn).bind fun _ _ => ok.iteb (fun _ => ok.some rfl) (fun _ => ok.ite (fun _ => ok.some rfl) (fun _ => t52.bind fun _ _ => ok.iteb (fun _ => ok.some rfl) (fun _ => ok.ite (fun _ => ok.some rfl) (fun _ => ok.ite (fun _ => ok.some rfl) (fun _ => ok.some rfl)))))
theorem t69_0 {n : Nat} (hn : 100 ≤ n) : ∀ (k : Nat) (i0 : Int) (s1 : ByteArray) (i2 i3 : Int) (b4 : Bool) (i5 i6 i7 i8 i9 i10 : Int) (s11 : ByteArray) (i12 i13 : Int) (b14 : Bool) (i15 i16 i17 i18 i19 i20 : Int) (l21 : List Int) (i22 i23 : Int), 0 ≤ i0 → i0 < k → i0 ≤ 100 → s11.size ≤ 5 → Cur l21 i22 →
    ok (lp69_0 n k i0 s1 i2 i3 b4 i5 i6 i7 i8 i9 i10 s11 i12 i13 b14 i15 i16 i17 i18 i19 i20 l21 i22 i23) fun r => r.1.size ≤ 5 ∧ Cur r.2.2.2.2.2.2.2.2.2.2.1 r.2.2.2.2.2.2.2.2.2.2.2.1
  | 0, i0, s1, i2, i3, b4, i5, i6, i7, i8, i9, i10, s11, i12, i13, b14, i15, i16, i17, i18, i19, i20, l21, i22, i23, h0, hk, h1, hs, hc => by omega
  | k + 1, i0, s1, i2, i3, b4, i5, i6, i7, i8, i9, i10, s11, i12, i13, b14, i15, i16, i17, i18, i19, i20, l21, i22, i23, h0, hk, h1, hs, hc => by
    show ok (st69_0 n (lp69_0 n k) i0 s1 i2 i3 b4 i5 i6 i7 i8 i9 i10 s11 i12 i13 b14 i15 i16 i17 i18 i19 i20 l21 i22 i23) _
    unfold st69_0
    refine ok.ite (fun h2 => (t89 hc).bind fun r8 q8 => (t90 hs hn).bind fun r9 q9 => ?_) (fun _ => ok.some ⟨hs, hc⟩)
    rw [w64 (by omega) (by omega)]
    exact t69_0 hn k _ _ _ _ _ _ _ _ _ _ _ _ _ _ _ _ _ _ _ _ _ _ _ _ (by omega) (by omega) (by omega) (by rw [q9]; exact hs) q8
theorem t69 {n : Nat} (hn : 100 ≤ n) {b : List Int} {i h : Int} (c : Cur b i) : ok (F69 n b i h) fun r => r.1.size ≤ 5 ∧ Cur r.2.2.2.2.2.2.2.2.2.2.1 r.2.2.2.2.2.2.2.2.2.2.2.1 := by
  unfold F69 st69
  refine (t88 c).bind fun r1 q1 => (t45 q1.2).bind fun r2 q2 => ok.ite (fun _ => (t45 q2.2.2.2).bind fun r3 q3 => (t79 q3.2.2.2 (by simp)).bind fun r4 q4 => ok.some ⟨q1.1, q4.2⟩) (fun _ => ok.ite (fun _ => (t60 q2.2.2.2).bind fun r5 q5 => ok.iteb (fun _ => (t89 q5).bind fun r6 q6 => ok.some ⟨q1.1, q6⟩) (fun _ => ok.some ⟨q1.1, q5⟩)) (fun _ => (t45 q2.2.2.2).bind fun r7 q7 => ?_))
  have := q7.2.1 (by omega)
  exact t69_0 hn n _ _ _ _ _ _ _ _ _ _ _ _ _ _ _ _ _ _ _ _ _ _ _ _ q7.1 (by omega) (by omega) q1.1 q7.2.2.2
theorem t77 {n : Nat} {b : List Int} {i h : Int} (c : Cur b i) : ok (F77 n b i h) fun r => r.1.size ≤ 5 ∧ Cur r.2.1 r.2.2.1 := by
  unfold F77
  refine (t60 c).bind fun r1 q1 => ok.iteb (fun _ => (t43 q1 (by decide)).bind fun r2 q2 => ok.some ⟨?_, q2.2⟩) (fun _ => (t88 q1).bind fun r3 q3 => ok.some q3)
  have hall : ∀ x ∈ ([(⟨#[]⟩ : ByteArray), (⟨#[97, 98, 99, 100, 101]⟩ : ByteArray), (⟨#[97, 32, 98]⟩ : ByteArray), (⟨#[97, 58]⟩ : ByteArray), (⟨#[0]⟩ : ByteArray), (⟨#[97, 98, 99, 100]⟩ : ByteArray), (⟨#[255]⟩ : ByteArray)] : List ByteArray), x.size ≤ 5 := by
    intro x hx
    simp only [List.mem_cons, List.not_mem_nil, or_false] at hx
    rcases hx with rfl | rfl | rfl | rfl | rfl | rfl | rfl <;> decide
  exact hall _ q2.1
theorem t78 {n : Nat} {b : List Int} {i h : Int} (c : Cur b i) : ok (F78 n b i h) fun r => Cur r.2.1 r.2.2.1 := by
  unfold F78
  exact (t79 c (by decide)).bind fun r1 q1 => ok.some q1.2
theorem t59 {n : Nat} (hn : 100 ≤ n) {b : List Int} {i h : Int} (c : Cur b i) : ok (F59 n b i h) fun r => r.1.size ≤ 5 ∧ Cur r.2.2.2.2.2.2.2.2.2.2.1 r.2.2.2.2.2.2.2.2.2.2.2.1 := by
  unfold F59
  exact (t69 hn c).bind fun r1 q1 => (t45 q1.2).bind fun r2 q2 => ok.ite (fun _ => (t77 q2.2.2.2).bind fun r3 q3 => ok.some q3) (fun _ => ok.ite (fun _ => (t78 q2.2.2.2).bind fun r4 q4 => ok.some ⟨q1.1, q4⟩) (fun _ => ok.ite (fun _ => ok.some ⟨q1.1, q2.2.2.2⟩)
    (fun _ => ok.ite (fun _ => (t79 q2.2.2.2 (by decide)).bind fun r5 q5 => ok.some ⟨q1.1, q5.2⟩) (fun _ => ok.ite (fun _ => (t79 q2.2.2.2 (by decide)).bind fun r6 q6 => ok.some ⟨q1.1, q6.2⟩) (fun _ => ok.ite (fun _ => ok.some ⟨q1.1, q2.2.2.2⟩) (fun _ => ok.ite (fun _ => (t79 q2.2.2.2 (by decide)).bind fun r7 q7 => ok.some ⟨q1.1, q7.2⟩) (fun _ => ok.some ⟨q1.1, q2.2.2.2⟩)))))))
theorem t66 {n : Nat} {s : ByteArray} {a b : Int} {t : Bool} {d e f g u v : Int} : ok (F66 n s a b t d e f g u v) fun _ => True := by
  unfold F66
  exact ok.ite (fun _ => ok.iteb (fun _ => ok.some trivial) (fun _ => ok.some trivial)) (fun _ => ok.some trivial)
/-- A report: few rows, short keys. -/
def Rp (l : List (ByteArray × (Int × (Int × (Bool × (Int × (Int × (Int × (Int × (Int × Int)))))))))) : Prop := l.length ≤ 4 ∧ ∀ x ∈ l, x.1.size ≤ 5
theorem t42_0 {n : Nat} (hn : 100 ≤ n) {l2 : List ByteArray} (hl2 : l2.length ≤ 50) (hs : ∀ x ∈ l2, x.size ≤ 5) : ∀ (k : Nat) (i0 : Int) (l1 : List _) (l3 : List Int) (i4 i5 : Int), 0 ≤ i0 → i0 ≤ (l2.length : Int) → (l2.length : Int) - i0 < k → Rp l1 → Cur l3 i4 →
    ok (lp42_0 n k i0 l1 l2 l3 i4 i5) fun r => Rp r.1 ∧ Cur r.2.1 r.2.2.1
  | 0, i0, l1, l3, i4, i5, h0, h1, hk, hl, hc => by omega
  | k + 1, i0, l1, l3, i4, i5, h0, h1, hk, hl, hc => by
    show ok (st42_0 n (lp42_0 n k) i0 l1 l2 l3 i4 i5) _
    have hl0 := hl.1
    unfold st42_0
    refine ok.ite (fun h2 => (t69 hn hc).bind fun r1 q1 => ok.guard h0 (ok.guard h2 (t66.bind fun r2 _ => ok.iteb (fun _ => (t60 q1.2).bind fun r3 q3 => ok.iteb (fun _ => ok.ite (fun h3 => ok.guard (by simp only [List.length_cons, List.length_nil]; omega) ?_) (fun _ => ?_)) (fun _ => ?_)) (fun _ => ?_)))) (fun h2 => ok.ite (fun h3 => ?_) (fun _ => ok.some ⟨hl, hc⟩))
    · rw [w64 (by omega) (by omega)]
      refine t42_0 hn hl2 hs k _ _ _ _ _ (by omega) (by omega) (by omega) ⟨by simp only [List.length_append, List.length_cons, List.length_nil]; omega, fun x hx => ?_⟩ q3
      rcases List.mem_append.1 hx with hx | hx
      · exact hl.2 x hx
      · rw [List.mem_singleton.1 hx]
        exact hs _ (rdOf_mem h0 h2)
    · rw [w64 (by omega) (by omega)]
      exact t42_0 hn hl2 hs k _ _ _ _ _ (by omega) (by omega) (by omega) hl q3
    · rw [w64 (by omega) (by omega)]
      exact t42_0 hn hl2 hs k _ _ _ _ _ (by omega) (by omega) (by omega) hl q3
    · rw [w64 (by omega) (by omega)]
      exact t42_0 hn hl2 hs k _ _ _ _ _ (by omega) (by omega) (by omega) hl q1.2
    · refine (t60 hc).bind fun r4 q4 => ok.iteb (fun _ => (t45 q4).bind fun r5 q5 => (t59 hn q5.2.2.2).bind fun r6 q6 => ok.guard q5.1 (ok.guard (q5.2.1 h3) (ok.some ⟨⟨?_, fun x hx => ?_⟩, q6.2⟩))) (fun _ => ok.some ⟨hl, q4⟩)
      · rw [List.length_set]; exact hl0
      · rcases List.mem_or_eq_of_mem_set hx with hx | hx
        · exact hl.2 x hx
        · rw [hx]; exact q6.1
theorem t42 {n : Nat} (hn : 100 ≤ n) {b : List Int} {i h : Int} (c : Cur b i) : ok (F42 n b i h) fun r => Rp r.1 ∧ Cur r.2.1 r.2.2.1 := by
  refine t42_0 hn (by decide) ?_ n _ _ _ _ _ (by omega) (by simp) (by simp; omega) ⟨by simp, fun x hx => (by cases hx)⟩ c
  intro x hx
  simp only [List.mem_cons, List.not_mem_nil, or_false] at hx
  rcases hx with rfl | rfl | rfl | rfl | rfl | rfl <;> decide
theorem t41_0 {n : Nat} {b : List Int} (hb : b.length ≤ 1048576) (hy : ∀ x ∈ b, 0 ≤ x ∧ x < 256) : ∀ (k : Nat) (i1 i2 : Int), 0 ≤ i2 → i2 ≤ 4000 → 4000 - i2 < k → ok (lp41_0 n k b i1 i2) fun r => Cur r.2.1 r.2.2.1
  | 0, i1, i2, h0, h1, hk => by omega
  | k + 1, i1, i2, h0, h1, hk => by
    show ok (st41_0 n (lp41_0 n k) b i1 i2) _
    unfold st41_0
    refine ok.ite (fun h2 => ok.ite (fun h3 => ok.guard h0 (ok.guard h2 ?_)) (fun _ => ok.some ⟨Int.le_refl _, by simp, hb, hy⟩)) (fun _ => ok.some ⟨Int.le_refl _, by simp, hb, hy⟩)
    rw [w64 (x := i2 + 1) (by omega) (by omega)]
    exact t41_0 hb hy k _ _ (by omega) (by omega) (by omega)
theorem t41 {n : Nat} (hn : 5000 ≤ n) {b : List Int} (hb : b.length ≤ 1048576) (hy : ∀ x ∈ b, 0 ≤ x ∧ x < 256) : ok (F41 n b) fun r => Cur r.2.1 r.2.2.1 := t41_0 hb hy n _ _ (by omega) (by omega) (by omega)
end Go.Eva
end
section
/- FnQueries: rows by a prefix, the top rows. -/
namespace Go.Eva
open Go.RowKit (wrap64)
set_option linter.unusedVariables false
set_option linter.unusedSimpArgs false

abbrev Rw := (ByteArray × (Int × (Int × (Bool × (Int × (Int × (Int × (Int × (Int × Int)))))))))
abbrev dR : Rw := ((⟨#[]⟩ : ByteArray), ((0 : Int), ((0 : Int), (false, ((0 : Int), ((0 : Int), ((0 : Int), ((0 : Int), ((0 : Int), (0 : Int))))))))))
theorem w1 {i n : Nat} (h : i < n) (hn : n ≤ 1000000000) : wrap64 ((i : Int) + 1) = ((i + 1 : Nat) : Int) := by rw [w64 (by omega) (by omega)]; rfl
theorem drop_cons {α : Type} {l : List α} {i : Nat} (h : i < l.length) : l.drop i = l[i] :: l.drop (i + 1) := List.drop_eq_getElem_cons h
theorem t14_0 {n : Nat} {l : List Rw} (hl : l.length ≤ 1000) : ∀ (k i : Nat), i ≤ l.length → l.length - i < k → ok (lp14_0 n k l l (i : Int)) fun r => r = (true, ())
  | 0, i, h, hk => by omega
  | k + 1, i, h, hk => by
    show ok (st14_0 n (lp14_0 n k) l l _) _
    unfold st14_0
    refine ok.ite (fun h1 => ok.guard (by omega) (ok.guard h1 (ok.guard (by omega) (ok.guard h1 (ok.iteb (fun h2 => ?_) (fun _ => ?_)))))) (fun _ => ok.some rfl)
    · simp at h2
    · rw [w1 (n := l.length) (by omega) (by omega)]
      exact t14_0 hl k (i + 1) (by omega) (by omega)
theorem t14 {n : Nat} {l : List Rw} (hl : l.length ≤ 1000) (hn : 3000 ≤ n) : ok (F14 n l l) fun r => r = (true, ()) := by
  unfold F14 st14
  refine ok.ite (fun h => absurd rfl h) (fun _ => t14_0 hl n 0 (by omega) (by omega))
/-- A key begins with a word. -/
def bg (p k : ByteArray) : Bool := decide ((p.size : Int) ≤ (k.size : Int)) && decide ((k.extract (0 : Int).toNat (p.size : Int).toNat).toList = p.toList)
theorem t10 {n : Nat} {p k : ByteArray} : ok (F10 n p k) fun r => r = (bg p k, ()) := by
  unfold F10 bg
  refine ok.ite (fun h => ok.guard (by omega) (ok.guard (by omega) (ok.guard h (ok.some ?_)))) (fun h => ok.some ?_)
  · rw [decide_eq_true h, Bool.true_and]
  · rw [decide_eq_false h, Bool.false_and]
theorem t44 {n : Nat} {p k : ByteArray} : ok (F44 n k p) fun r => r = (bg p k, ()) := by
  unfold F44 F70 bg
  refine ok.bind (Q := fun r => r = (decide ((p.size : Int) ≤ (k.size : Int)) && decide ((k.extract (0 : Int).toNat (p.size : Int).toNat).toList = p.toList), ())) ?_ (fun r q => ok.some (by rw [q]))
  refine ok.ite (fun h => ok.guard (by omega) (ok.guard (by omega) (ok.guard h (ok.some ?_)))) (fun h => ok.some ?_)
  · rw [decide_eq_true (show (p.size : Int) ≤ (k.size : Int) from h), Bool.true_and]
  · rw [decide_eq_false (show ¬ (p.size : Int) ≤ (k.size : Int) from h), Bool.false_and]
theorem t9_0 {n : Nat} {s : ByteArray} {l : List Rw} (hl : l.length ≤ 1000) : ∀ (k i : Nat) (out : List Rw), i ≤ l.length → l.length - i < k → out.length ≤ i → ok (lp9_0 n k s l (l.length : Int) (i : Int) out) fun r => r = (out ++ (l.drop i).filter (fun x => bg s x.1), ())
  | 0, i, out, h, hk, ho => by omega
  | k + 1, i, out, h, hk, ho => by
    show ok (st9_0 n (lp9_0 n k) s l _ _ out) _
    unfold st9_0
    refine ok.ite (fun h1 => ok.guard (by omega) (ok.guard h1 ?_)) (fun h1 => ok.some ?_)
    · have hi : i < l.length := by omega
      rw [drop_cons hi, rdOf_nat hi, w1 hi (by omega)]
      refine (t44 (p := s) (k := l[i].1)).bind fun r q => ?_
      subst q
      refine ok.iteb (fun hb => ok.guard (by simp only [List.length_cons, List.length_nil]; omega) ?_) (fun hb => ?_)
      · refine (t9_0 hl k (i + 1) _ (by omega) (by omega) (by simp only [List.length_append, List.length_cons, List.length_nil]; omega)).mono fun r q => ?_
        have hb : bg s l[i].1 = true := hb
        rw [q, List.filter_cons, if_pos hb, List.append_assoc]
        rfl
      · refine (t9_0 hl k (i + 1) _ (by omega) (by omega) (by omega)).mono fun r q => ?_
        have hb : bg s l[i].1 = false := hb
        rw [q, List.filter_cons, if_neg (by rw [hb]; decide)]
    · rw [List.drop_eq_nil_of_le (by omega)]; simp
theorem t9 {n : Nat} {s : ByteArray} {l : List Rw} (hl : l.length ≤ 1000) (hn : 3000 ≤ n) : ok (F9 n l s) fun r => r = (l.filter (fun x => bg s x.1), ()) := by
  unfold F9 st9
  exact (t9_0 hl n 0 [] (by omega) (by omega) (by simp)).mono fun r q => by rw [q]; rfl
theorem t13 {n : Nat} (a : Rw) : ok (F13 n a.1 a.2.1 a.2.2.1 a.2.2.2.1 a.2.2.2.2.1 a.2.2.2.2.2.1 a.2.2.2.2.2.2.1 a.2.2.2.2.2.2.2.1 a.2.2.2.2.2.2.2.2.1 a.2.2.2.2.2.2.2.2.2) fun r => r = (rkT a, ()) := by
  unfold F13 rkT
  refine ok.ite (fun h => ok.some ?_) (fun h => ok.ite (fun h2 => ok.some ?_) (fun h2 => ok.ite (fun h3 => ok.some ?_) (fun h3 => ok.some ?_)))
  · rw [if_pos h]
  · rw [if_neg h, if_pos h2]
  · rw [if_neg h, if_neg h2, if_pos h3]
  · rw [if_neg h, if_neg h2, if_neg h3]
theorem t51 {n : Nat} (a : Rw) : ok (F51 n a.1 a.2.1 a.2.2.1 a.2.2.2.1 a.2.2.2.2.1 a.2.2.2.2.2.1 a.2.2.2.2.2.2.1 a.2.2.2.2.2.2.2.1 a.2.2.2.2.2.2.2.2.1 a.2.2.2.2.2.2.2.2.2) fun r => r = (rkT a, ()) := by
  unfold F51 rkT
  refine ok.ite (fun h => ok.some ?_) (fun h => ok.ite (fun h2 => ok.some ?_) (fun h2 => ok.ite (fun h3 => ok.some ?_) (fun h3 => ok.some ?_)))
  · rw [if_pos h]
  · rw [if_neg h, if_pos h2]
  · rw [if_neg h, if_neg h2, if_pos h3]
  · rw [if_neg h, if_neg h2, if_neg h3]
def ltT (x y : Rw) : Bool := decide (rkT y < rkT x)
/-- The reference's order: each row in front of all that come behind it. -/
theorem t15_1 {n : Nat} {g0 : _} {l : List Rw} {i1 : Int} {i : Nat} (hi : i < l.length) {out : List Rw} (ho : out.length ≤ 1000) {Q : List Rw × Unit → Prop} : ∀ (k j : Nat), j ≤ out.length → j < k → ok (j15_0 n g0 l i1 (i : Int) ((posR ltT l[i] out j : Nat) : Int) out) Q → ok (lp15_1 n g0 k l i1 (i : Int) (j : Int) out) Q
  | 0, j, h, hk, hQ => by omega
  | k + 1, j, h, hk, hQ => by
    show ok (st15_1 n g0 (lp15_1 n g0 k) l i1 _ _ out) Q
    unfold st15_1
    refine ok.ite (fun h1 => ?_) (fun h1 => ?_)
    · obtain ⟨j, rfl⟩ : ∃ m, j = m + 1 := ⟨j - 1, by omega⟩
      have e : wrap64 (((j + 1 : Nat) : Int) - 1) = (j : Int) := by rw [w64 (by omega) (by omega)]; omega
      rw [e]
      have hj : j < out.length := by omega
      refine ok.guard (by omega) (ok.guard (by omega) ?_)
      rw [rdOf_nat hj]
      refine (t51 out[j]).bind fun r1 q1 => ok.guard (by omega) (ok.guard (by omega) ?_)
      rw [rdOf_nat hi]
      refine (t51 l[i]).bind fun r2 q2 => ?_
      subst q1 q2
      unfold posR at hQ
      rw [List.getElem?_eq_getElem hj] at hQ
      simp only at hQ
      refine ok.ite (fun h2 => ?_) (fun h2 => ?_)
      · have h2 : rkT out[j] < rkT l[i] := h2
        rw [if_pos (by unfold ltT; exact decide_eq_true h2)] at hQ
        exact t15_1 hi ho k j (by omega) (by omega) hQ
      · have h2 : ¬ rkT out[j] < rkT l[i] := h2
        rw [if_neg (by unfold ltT; rw [decide_eq_false h2]; decide)] at hQ
        exact hQ
    · obtain rfl : j = 0 := by omega
      exact hQ
theorem cut0 {α : Type} (l : List α) (p : Nat) : cutL l (0 : Int) (p : Int) = l.take p := by simp [cutL]
theorem cutE {α : Type} (l : List α) (p : Nat) : cutL l (p : Int) (l.length : Int) = l.drop p := by simp [cutL]
theorem t15_0 {n : Nat} (hn : 3000 ≤ n) {l : List Rw} (hl : l.length ≤ 500) {i1 : Int} : ∀ (k i : Nat) (out : List Rw), i ≤ l.length → l.length - i < k → out.length = i →
    ok (lp15_0 n k l i1 (i : Int) out) fun r => r = (if 0 ≤ i1 ∧ i1 ≤ (((l.drop i).foldl (insR ltT) out).length : Int) then ((l.drop i).foldl (insR ltT) out).take i1.toNat else (l.drop i).foldl (insR ltT) out, ())
  | 0, i, out, h, hk, ho => by omega
  | k + 1, i, out, h, hk, ho => by
    show ok (st15_0 n (lp15_1 n (lp15_0 n k) n) (lp15_0 n k) l i1 _ out) _
    unfold st15_0
    refine ok.ite (fun h1 => ?_) (fun h1 => ?_)
    · have hi : i < l.length := by omega
      rw [drop_cons hi, List.foldl_cons]
      refine t15_1 hi (by omega) n out.length (Nat.le_refl _) (by omega) ?_
      have hp := posR_le ltT l[i] out out.length
      unfold j15_0
      rw [cut0, cutE, rdOf_nat hi, w1 hi (by omega)]
      refine ok.guard (by omega) (ok.guard (by omega) (ok.guard (by omega) (ok.guard (by omega) (ok.guard (by omega) (ok.guard (by omega) (ok.guard (by omega) (ok.guard (by omega) (ok.guard ?_ (ok.guard ?_ ?_)))))))))
      · simp only [List.length_cons, List.length_nil, List.length_drop]; omega
      · simp only [List.length_append, List.length_take, List.length_cons, List.length_nil, List.length_drop]; omega
      · have := t15_0 hn hl (i1 := i1) k (i + 1) (insR ltT out l[i]) (by omega) (by omega) (by rw [insR_len]; omega)
        unfold insR at this ⊢
        rw [List.append_assoc] at this ⊢
        exact this
    · rw [List.drop_eq_nil_of_le (by omega), List.foldl_nil]
      unfold F52
      refine ok.bind (Q := fun r => r = (decide (0 ≤ i1 ∧ i1 ≤ (out.length : Int)), ())) ?_ fun r q => ?_
      · refine ok.ite (fun h2 => ok.some ?_) (fun h2 => ok.some ?_)
        · have h2 : 0 ≤ i1 := by omega
          simp [h2]
        · have h2 : ¬ 0 ≤ i1 := by omega
          simp [h2]
      · subst q
        refine ok.iteb (fun h2 => ok.some ?_) (fun h2 => ?_)
        · have h2 : ¬ (0 ≤ i1 ∧ i1 ≤ (out.length : Int)) := fun hh => by simp [hh] at h2
          rw [if_neg h2]
        · have h2 : 0 ≤ i1 ∧ i1 ≤ (out.length : Int) := by simpa using h2
          rw [if_pos h2]
          obtain ⟨m, rfl⟩ : ∃ m : Nat, i1 = m := ⟨i1.toNat, by omega⟩
          rw [cut0]
          refine ok.guard (by omega) (ok.guard (by omega) (ok.guard (by omega) (ok.guard ?_ (ok.some ?_))))
          · simp only [List.length_nil, List.length_take]; omega
          · rfl

theorem t15 {n : Nat} (hn : 3000 ≤ n) {l : List Rw} (hl : l.length ≤ 500) {i1 : Int} : ok (F15 n l i1) fun r => r = (if 0 ≤ i1 ∧ i1 ≤ (l.length : Int) then (srtR ltT l).take i1.toNat else srtR ltT l, ()) := by
  unfold F15 st15
  refine (t15_0 hn hl (i1 := i1) n 0 [] (by omega) (by omega) rfl).mono fun r q => ?_
  rw [q, List.drop_zero]
  have : (l.foldl (insR ltT) []).length = l.length := srtR_len ltT l
  rw [this]
  rfl
theorem t12 {n : Nat} {l : List Rw} (hl : l.length ≤ 19) {i1 : Int} : ok (F12 n l i1) fun r => r = (if 0 ≤ i1 ∧ i1 ≤ (l.length : Int) then (srtR ltT l).take i1.toNat else srtR ltT l, ()) := by
  have e : (fun (x y : Rw) => decide (rkT y < rkT x)) = ltT := rfl
  unfold F12 topF
  rw [e]
  refine ok.guard hl (ok.guard (by omega) (ok.ite (fun h => ok.some ?_) (fun h => ok.some ?_)))
  · rw [if_pos h]
  · rw [if_neg h]
/-- The order is one: ranks fall. -/
theorem posR_spec (x : Rw) (out : List Rw) : ∀ k, k ≤ out.length → (∀ j (h : j < out.length), posR ltT x out k ≤ j → j < k → rkT out[j] < rkT x) ∧ (∀ j (h : j < out.length), j + 1 = posR ltT x out k → ¬ rkT out[j] < rkT x)
  | 0, h => ⟨fun j hj h1 h2 => by omega, fun j hj h1 => by simp [posR] at h1⟩
  | k + 1, h => by
    have hk : k < out.length := by omega
    obtain ⟨a1, a2⟩ := posR_spec x out k (by omega)
    unfold posR
    rw [List.getElem?_eq_getElem hk]
    simp only
    by_cases hl : ltT x out[k] = true
    · rw [if_pos hl]
      refine ⟨fun j hj h1 h2 => ?_, a2⟩
      by_cases hjk : j = k
      · subst hjk
        exact of_decide_eq_true hl
      · exact a1 j hj h1 (by omega)
    · rw [if_neg hl]
      refine ⟨fun j hj h1 h2 => by omega, fun j hj h1 => ?_⟩
      obtain rfl : j = k := by omega
      exact fun q => hl (decide_eq_true q)
def Dsc (l : List Rw) : Prop := l.Pairwise fun a b => rkT b ≤ rkT a
theorem Dsc.ins {out : List Rw} (h : Dsc out) (x : Rw) : Dsc (insR ltT out x) := by
  obtain ⟨a1, a2⟩ := posR_spec x out out.length (Nat.le_refl _)
  have hp := posR_le ltT x out out.length
  obtain ⟨p, hpe⟩ : ∃ p, p = posR ltT x out out.length := ⟨_, rfl⟩
  unfold insR
  rw [← hpe] at a1 a2 hp ⊢
  have hg := List.pairwise_iff_getElem.1 h
  have h1 : ∀ y ∈ out.take p, rkT x ≤ rkT y := fun y hy => by
    obtain ⟨i, hi, rfl⟩ := List.getElem_of_mem hy
    rw [List.length_take] at hi
    rw [List.getElem_take]
    have h2 := a2 (p - 1) (by omega) (by omega)
    by_cases e : i = p - 1
    · subst e; omega
    · have := hg i (p - 1) (by omega) (by omega) (by omega)
      omega
  have h2 : ∀ y ∈ out.drop p, rkT y ≤ rkT x := fun y hy => by
    obtain ⟨i, hi, rfl⟩ := List.getElem_of_mem hy
    rw [List.length_drop] at hi
    rw [List.getElem_drop]
    have := a1 (p + i) (by omega) (by omega) (by omega)
    omega
  unfold Dsc
  rw [List.append_assoc, List.pairwise_append]
  refine ⟨List.Pairwise.sublist (List.take_sublist p out) h, ?_, fun a ha b hb => ?_⟩
  · rw [List.singleton_append, List.pairwise_cons]
    exact ⟨fun y hy => h2 y hy, List.Pairwise.sublist (List.drop_sublist p out) h⟩
  · have hA := h1 a ha
    rcases List.mem_append.1 hb with hb | hb
    · rw [List.mem_singleton.1 hb]; exact hA
    · have := h2 b hb; omega
theorem Dsc.fold : ∀ (l out : List Rw), Dsc out → Dsc (l.foldl (insR ltT) out)
  | [], out, h => h
  | x :: xs, out, h => Dsc.fold xs _ (h.ins x)
theorem dsc_srt (l : List Rw) : Dsc (srtR ltT l) := Dsc.fold l [] List.Pairwise.nil
theorem t11 {n : Nat} (hn : 5000 ≤ n) {b : List Int} (hb : b.length ≤ 1048576) (hy : ∀ x ∈ b, 0 ≤ x ∧ x < 256) : ok (F11 n b) fun r => r.1.length ≤ 8 := by
  unfold F11
  refine (t41 hn hb hy).bind fun r1 q1 => (t42 (by omega) q1).bind fun r2 q2 => (t42 (by omega) q2.2).bind fun r3 q3 => ?_
  have h1 := q2.1.1
  have h2 := q3.1.1
  refine ok.guard (by omega) ((t45 q3.2).bind fun r4 q4 => ok.some ?_)
  simp only [List.length_append]
  omega
theorem t8 {n : Nat} (hn : 5000 ≤ n) {b : List Int} (hb : b.length ≤ 1048576) (hy : ∀ x ∈ b, 0 ≤ x ∧ x < 256) : ok (F8 n b) fun r => r.1.length ≤ 4 := by
  unfold F8
  exact (t41 hn hb hy).bind fun r1 q1 => (t42 (by omega) q1).bind fun r2 q2 => (t43 q2.2 (by simp)).bind fun r3 q3 => ok.some q2.1.1
theorem t3_1 {n : Nat} (hn : 5000 ≤ n) {m i1 : Int} {X L Y : List Rw} (hm : m = X.length) (hL : L.length ≤ 8) (hY : Y = if 0 ≤ i1 ∧ i1 ≤ (L.length : Int) then (srtR ltT L).take i1.toNat else srtR ltT L) (hD : Dsc Y) (hYl : Y.length ≤ 8) : ∀ (k i : Nat), 1 ≤ i → 9 - i < k → i ≤ 9 → ok (lp3_1 n k m i1 (i : Int) X L Y) fun r => r = (true, ())
  | 0, i, h, hk, hi9 => by omega
  | k + 1, i, h, hk, hi9 => by
    show ok (st3_1 n (lp3_1 n k) m i1 _ X L Y) _
    unfold st3_1
    refine ok.ite (fun h1 => ok.guard (by omega) (ok.guard h1 ?_)) (fun h1 => ?_)
    · have hi : i < Y.length := by omega
      rw [rdOf_nat hi]
      refine (t13 Y[i]).bind fun r7 q7 => ?_
      have e : wrap64 ((i : Int) - 1) = ((i - 1 : Nat) : Int) := by rw [w64 (by omega) (by omega)]; omega
      rw [e]
      refine ok.guard (by omega) (ok.guard (by omega) ?_)
      rw [rdOf_nat (show i - 1 < Y.length by omega)]
      refine (t13 Y[i - 1]).bind fun r8 q8 => ?_
      subst q7 q8
      have hd := List.pairwise_iff_getElem.1 hD (i - 1) i (by omega) hi (by omega)
      refine ok.ite (fun h2 => ?_) (fun h2 => ?_)
      · have h2 : rkT Y[i] > rkT Y[i - 1] := h2
        omega
      · rw [w1 hi (by omega)]
        exact t3_1 hn hm hL hY hD hYl k (i + 1) (by omega) (by omega) (by omega)
    · have hfin : ∀ w : Int, w = Y.length → ok (j3_0 n m i1 w X L Y) fun r => r = (true, ()) := fun w hw => by
        unfold j3_0
        refine ok.ite (fun _ => ok.ite (fun _ => ?_) (fun h2 => absurd hw.symm h2)) (fun h2 => absurd hm h2)
        refine (t15 (n := n) (by omega) (l := L) (by omega) (i1 := i1)).bind fun r9 q9 => ?_
        subst q9
        simp only
        rw [← hY]
        refine (t14 (n := n) (l := Y) (by omega) (by omega)).bind fun r q => ?_
        subst q
        exact ok.some rfl
      have hsl := srtR_len ltT L
      refine ok.ite (fun h2 => ok.ite (fun h3 => hfin _ ?_) (fun h3 => hfin _ ?_)) (fun h2 => hfin _ ?_)
      · rw [hY, if_pos ⟨by omega, h3⟩, List.length_take, hsl]; omega
      · rw [hY, if_neg (by omega), hsl]
      · rw [hY, if_neg (by omega), hsl]
theorem t3_0 {n : Nat} (hn : 5000 ≤ n) {y : List Int} (hb : y.length ≤ 1048576) (hy : ∀ x ∈ y, 0 ≤ x ∧ x < 256) {s : ByteArray} {l X : List Rw} (hl : l.length ≤ 4) (hX : X.length ≤ 4) : ∀ (k i m : Nat), i ≤ l.length → l.length - i < k → m ≤ X.length → X.drop m = (l.drop i).filter (fun x => bg s x.1) → ok (lp3_0 n k y s (m : Int) (i : Int) l X) fun r => r = (true, ())
  | 0, i, m, h, hk, hm, hd => by omega
  | k + 1, i, m, h, hk, hm, hd => by
    show ok (st3_0 n (lp3_1 n n) (lp3_0 n k) y s _ _ l X) _
    unfold st3_0
    refine ok.ite (fun h1 => ok.guard (by omega) (ok.guard h1 ?_)) (fun h1 => ?_)
    · have hi : i < l.length := by omega
      rw [drop_cons hi, List.filter_cons] at hd
      rw [rdOf_nat hi, w1 hi (by omega)]
      refine (t10 (p := s) (k := l[i].1)).bind fun r q => ?_
      subst q
      refine ok.iteb (fun hb1 => ?_) (fun hb1 => ?_)
      · have hb1 : bg s l[i].1 = true := hb1
        rw [if_pos hb1] at hd
        have hml : m < X.length := by
          have : (X.drop m).length ≠ 0 := by rw [hd]; simp
          rw [List.length_drop] at this; omega
        rw [drop_cons hml] at hd
        injection hd with hd1 hd2
        refine ok.ite (fun h2 => by omega) (fun h2 => ok.guard (by omega) (ok.guard (by omega) (ok.guard (by omega) (ok.guard h1 ?_))))
        rw [rdOf_nat hml, hd1]
        refine ok.iteb (fun h3 => by simp at h3) (fun _ => ?_)
        rw [w1 hml (by omega)]
        exact t3_0 hn hb hy hl hX k (i + 1) (m + 1) (by omega) (by omega) (by omega) hd2
      · have hb1 : bg s l[i].1 = false := hb1
        rw [if_neg (by rw [hb1]; decide)] at hd
        exact t3_0 hn hb hy hl hX k (i + 1) m (by omega) (by omega) hm hd
    · rw [List.drop_eq_nil_of_le (show l.length ≤ i by omega), List.filter_nil] at hd
      have hmX : m = X.length := by
        have : (X.drop m).length = 0 := by rw [hd]; rfl
        rw [List.length_drop] at this; omega
      refine (t11 hn hb hy).bind fun r5 q5 => ?_
      obtain ⟨L, i1, u⟩ := r5
      simp only at q5 ⊢
      refine (t12 (n := n) (l := L) (by omega) (i1 := i1)).bind fun r6 q6 => ?_
      subst q6
      simp only
      have hsl := srtR_len ltT L
      refine t3_1 hn (by omega) q5 rfl ?_ ?_ n 1 (Nat.le_refl _) (by omega) (by omega)
      · split
        · exact List.Pairwise.sublist (List.take_sublist _ _) (dsc_srt L)
        · exact dsc_srt L
      · split
        · rw [List.length_take]; omega
        · omega
theorem pureFnQueries (y : List Int) (h1 : y.length ≤ maxLen) (h2 : ∀ b ∈ y, 0 ≤ b ∧ b < 256) : ∃ k, F3 k y = some (true, ()) := by
  obtain ⟨n, hn⟩ : ∃ n : Nat, 5000 ≤ n := ⟨5000, Nat.le_refl _⟩
  refine ⟨n, ?_⟩
  suffices h : ok (F3 n y) fun r => r = (true, ()) by
    obtain ⟨r, h, rfl⟩ := h
    exact h
  unfold F3 st3 F7
  simp only [Option.bind_some]
  refine ok.ite (fun _ => ok.some rfl) (fun hb => ?_)
  have hb : y.length ≤ 1048576 := by omega
  refine (t8 hn hb h2).bind fun r2 q2 => ?_
  obtain ⟨l, s, u⟩ := r2
  simp only at q2 ⊢
  refine (t9 (n := n) (s := s) (l := l) (by omega) (by omega)).bind fun r3 q3 => ?_
  subst q3
  simp only
  exact t3_0 hn hb h2 q2 (Nat.le_trans (List.length_filter_le _ _) q2) n 0 0 (by omega) (by omega) (by omega) (by rw [List.drop_zero, List.drop_zero])
end Go.Eva
end
