/- A verified evaluator of the translated code, part 3: EvaA_2, EvaA_3, EvaWh, EvaOk, EvaAd, EvaAr, EvaAk, EvaAs, EvaAt, EvaAv, EvaAw, EvaAx, EvaAy -/
import Derived.Test.YtjpndagendnefaaDoorA2
import Derived.Shelf.Lay
import Derived.Shelf.LaySoft
import Derived.Shelf.Lays
import Derived.Shelf.LaysM
import Derived.Shelf.RegionOpenPlain
import Derived.Shelf.Small.Utf8
import Derived.Shelf.Strconv.Itoa3
import Derived.Shelf.Strings.Cut
import Derived.Shelf.Strings.IndexAnyAll
import Derived.Laws.Runes
import Derived.Lib.ItoaMem
import Derived.Lib.AppendIntMem
import Derived.Lib.OthersKept
import Derived.Lib.RuneLoops
import Derived.Laws.RangeAny
import Derived.OwnWalk
import Derived.WalkMore
section
/- The functions, as their texts evaluate. -/
set_option linter.unusedVariables false
set_option maxRecDepth 100000
namespace Go.Eva
open Go.Proofs
open Go.RowKit (wrap64)
/-! impl.RuleOk -/
noncomputable def F42 (n : Nat) (a0 : ByteArray) (a1 : Int) (a2 : Int) (a3 : Int) : Option (Bool × Unit) :=
  (F77 n a0).bind fun r1 =>
  if r1.1 = true then
    (F70 n a1 (1 : Int) (2 : Int)).bind fun r2 =>
    if r2.1 = true then
      (F70 n a2 (0 : Int) (999999999 : Int)).bind fun r3 =>
      if r3.1 = true then
        (F70 n a3 (1 : Int) (9 : Int)).bind fun r4 =>
        some (r4.1, ())
      else
        some (false, ())
    else
      some (false, ())
  else
    some (false, ())
noncomputable def c42 (n : Nat) : Con := ⟨[.agg [(.str), (.int .i64), (.int .i64), (.int .i64)]], [], [.one (.bool)], [], fun (x : ByteArray × Int × Int × Int × Unit) => F42 n x.1 x.2.1 x.2.2.1 x.2.2.2.1⟩
noncomputable def G42 (n : Nat) : Gam := [((70, []), c70 n), ((77, []), c77 n)]
theorem e42 (n : Nat) (x : ByteArray × Int × Int × Int × Unit) : evBody tab (G42 n) n (c42 n) Tryd.f42 x = F42 n x.1 x.2.1 x.2.2.1 x.2.2.2.1 := by kernel_rfl
theorem g42 (W : World) (n : Nat) : Good Tryd.prog W 42 (c42 n) := body_good follows tabOk (GamOk.cons (g70 W n) (GamOk.cons (g77 W n) GamOk.nil)) (f := 42) (fn := Tryd.f42) (c := bodyOf Tryd.f42) (by kernel_rfl) (by kernel_rfl) (by kernel_rfl) (by kernel_rfl) (by kernel_rfl) (by kernel_rfl) (by kernel_rfl) (fun x r h => ⟨n, (e42 n x).trans h⟩)
/-! impl.rowAt$1 -/
noncomputable def F148 (n : Nat) (a0 : ByteArray) (a1 : Int) (a2 : Int) (a3 : Bool) (a4 : Int) (a5 : Int) (a6 : Int) (a7 : Int) (a8 : Int) (a9 : Int) (a11 : ByteArray) : Option (Bool × ByteArray × Unit) :=
  some (decide (a0.toList = a11.toList), a11, ())
noncomputable def c148 (n : Nat) : Con := ⟨[.agg [(.str), (.int .i64), (.int .i64), (.bool), (.int .i64), (.int .i64), (.int .i64), (.int .i64), (.int .i64), (.int .i64)], .one (.ptr 0 0)], [[(.str)]], [.one (.bool)], [[(.str)]], fun (x : ByteArray × Int × Int × Bool × Int × Int × Int × Int × Int × Int × Unit × ByteArray × Unit) => F148 n x.1 x.2.1 x.2.2.1 x.2.2.2.1 x.2.2.2.2.1 x.2.2.2.2.2.1 x.2.2.2.2.2.2.1 x.2.2.2.2.2.2.2.1 x.2.2.2.2.2.2.2.2.1 x.2.2.2.2.2.2.2.2.2.1 x.2.2.2.2.2.2.2.2.2.2.2.1⟩
noncomputable def G148 (n : Nat) : Gam := []
theorem e148 (n : Nat) (x : ByteArray × Int × Int × Bool × Int × Int × Int × Int × Int × Int × Unit × ByteArray × Unit) : evBody tab (G148 n) n (c148 n) Tryd.f148 x = F148 n x.1 x.2.1 x.2.2.1 x.2.2.2.1 x.2.2.2.2.1 x.2.2.2.2.2.1 x.2.2.2.2.2.2.1 x.2.2.2.2.2.2.2.1 x.2.2.2.2.2.2.2.2.1 x.2.2.2.2.2.2.2.2.2.1 x.2.2.2.2.2.2.2.2.2.2.2.1 := by kernel_rfl
theorem g148 (W : World) (n : Nat) : Good Tryd.prog W 148 (c148 n) := body_good follows tabOk GamOk.nil (f := 148) (fn := Tryd.f148) (c := bodyOf Tryd.f148) (by kernel_rfl) (by kernel_rfl) (by kernel_rfl) (by kernel_rfl) (by kernel_rfl) (by kernel_rfl) (by kernel_rfl) (fun x r h => ⟨n, (e148 n x).trans h⟩)
/-! impl.Row] -/
noncomputable def st147_148_0 (n : Nat) (g0 : (List (ByteArray × (Int × (Int × (Bool × (Int × (Int × (Int × (Int × (Int × Int)))))))))) → Int → Int → ByteArray → Option (Int × ByteArray × Unit)) (l0 : List (ByteArray × (Int × (Int × (Bool × (Int × (Int × (Int × (Int × (Int × Int)))))))))) (i1 : Int) (i2 : Int) (s3 : ByteArray) : Option (Int × ByteArray × Unit) :=
  if (decide (i2 < i1)) = true then
    if (decide (0 ≤ i2)) = true then
    if (decide (i2 < (l0.length : Int))) = true then
    (F148 n ((rdOf ((⟨#[]⟩ : ByteArray), ((0 : Int), ((0 : Int), (false, ((0 : Int), ((0 : Int), ((0 : Int), ((0 : Int), ((0 : Int), (0 : Int)))))))))) l0 i2).1) (((rdOf ((⟨#[]⟩ : ByteArray), ((0 : Int), ((0 : Int), (false, ((0 : Int), ((0 : Int), ((0 : Int), ((0 : Int), ((0 : Int), (0 : Int)))))))))) l0 i2).2).1) ((((rdOf ((⟨#[]⟩ : ByteArray), ((0 : Int), ((0 : Int), (false, ((0 : Int), ((0 : Int), ((0 : Int), ((0 : Int), ((0 : Int), (0 : Int)))))))))) l0 i2).2).2).1) (((((rdOf ((⟨#[]⟩ : ByteArray), ((0 : Int), ((0 : Int), (false, ((0 : Int), ((0 : Int), ((0 : Int), ((0 : Int), ((0 : Int), (0 : Int)))))))))) l0 i2).2).2).2).1) ((((((rdOf ((⟨#[]⟩ : ByteArray), ((0 : Int), ((0 : Int), (false, ((0 : Int), ((0 : Int), ((0 : Int), ((0 : Int), ((0 : Int), (0 : Int)))))))))) l0 i2).2).2).2).2).1) (((((((rdOf ((⟨#[]⟩ : ByteArray), ((0 : Int), ((0 : Int), (false, ((0 : Int), ((0 : Int), ((0 : Int), ((0 : Int), ((0 : Int), (0 : Int)))))))))) l0 i2).2).2).2).2).2).1) ((((((((rdOf ((⟨#[]⟩ : ByteArray), ((0 : Int), ((0 : Int), (false, ((0 : Int), ((0 : Int), ((0 : Int), ((0 : Int), ((0 : Int), (0 : Int)))))))))) l0 i2).2).2).2).2).2).2).1) (((((((((rdOf ((⟨#[]⟩ : ByteArray), ((0 : Int), ((0 : Int), (false, ((0 : Int), ((0 : Int), ((0 : Int), ((0 : Int), ((0 : Int), (0 : Int)))))))))) l0 i2).2).2).2).2).2).2).2).1) ((((((((((rdOf ((⟨#[]⟩ : ByteArray), ((0 : Int), ((0 : Int), (false, ((0 : Int), ((0 : Int), ((0 : Int), ((0 : Int), ((0 : Int), (0 : Int)))))))))) l0 i2).2).2).2).2).2).2).2).2).1) ((((((((((rdOf ((⟨#[]⟩ : ByteArray), ((0 : Int), ((0 : Int), (false, ((0 : Int), ((0 : Int), ((0 : Int), ((0 : Int), ((0 : Int), (0 : Int)))))))))) l0 i2).2).2).2).2).2).2).2).2).2) s3).bind fun r1 =>
    if r1.1 = true then
      some (i2, r1.2.1, ())
    else
      g0 l0 i1 (wrap64 (i2 + 1)) r1.2.1
    else none
    else none
  else
    some ((-1), s3, ())
noncomputable def lp147_148_0 (n : Nat) : Nat → (List (ByteArray × (Int × (Int × (Bool × (Int × (Int × (Int × (Int × (Int × Int)))))))))) → Int → Int → ByteArray → Option (Int × ByteArray × Unit)
  | 0 => fun _ _ _ _ => none
  | k + 1 => st147_148_0 n (lp147_148_0 n k)
noncomputable def st147_148 (n : Nat) (h0 : (List (ByteArray × (Int × (Int × (Bool × (Int × (Int × (Int × (Int × (Int × Int)))))))))) → Int → Int → ByteArray → Option (Int × ByteArray × Unit)) (a0 : List (ByteArray × (Int × (Int × (Bool × (Int × (Int × (Int × (Int × (Int × Int)))))))))) (a2 : ByteArray) : Option (Int × ByteArray × Unit) :=
  h0 a0 (a0.length : Int) (0 : Int) a2
noncomputable def F147_148 (n : Nat) (a0 : List (ByteArray × (Int × (Int × (Bool × (Int × (Int × (Int × (Int × (Int × Int)))))))))) (a2 : ByteArray) : Option (Int × ByteArray × Unit) := st147_148 n (lp147_148_0 n n) a0 a2
noncomputable def c147_148 (n : Nat) : Con := ⟨[.one (.sl (.imm true) 72 (.pair .str (.pair (.int .i64) (.pair (.int .i64) (.pair .bool (.pair (.int .i64) (.pair (.int .i64) (.pair (.int .i64) (.pair (.int .i64) (.pair (.int .i64) (.int .i64))))))))))), .one (.fn 148 [(0, 0)])], [[(.str)]], [.one (.int .i64)], [[(.str)]], fun (x : List (ByteArray × (Int × (Int × (Bool × (Int × (Int × (Int × (Int × (Int × Int))))))))) × Unit × ByteArray × Unit) => F147_148 n x.1 x.2.2.1⟩
noncomputable def G147_148 (n : Nat) : Gam := [((148, []), c148 n)]
noncomputable def S147_148_0 (l0 : List (ByteArray × (Int × (Int × (Bool × (Int × (Int × (Int × (Int × (Int × Int)))))))))) (i1 : Int) (i2 : Int) (s3 : ByteArray) : St := ⟨[.sl (.imm true) 72 (.pair .str (.pair (.int .i64) (.pair (.int .i64) (.pair .bool (.pair (.int .i64) (.pair (.int .i64) (.pair (.int .i64) (.pair (.int .i64) (.pair (.int .i64) (.int .i64)))))))))) l0, .fn 148 [(19, 0)]] ++ List.replicate 5 .dead ++ [.int .i64 i1, .int .i64 i2] ++ List.replicate 10 .dead, List.replicate 19 Ob.none ++ [⟨true, [.str s3], 0, 0⟩]⟩
noncomputable def ga147_148_0 (n : Nat) (ks : List Nat) (k : Nat) (st : St) : Option (Int × ByteArray × Unit) := goAt tab (G147_148 n) n (bodyOf Tryd.f147) (lvOf Tryd.f147) (lvOf Tryd.f147).ret [1, 0, 1, 0] ks k st (evBody.endK tab (c147_148 n) Tryd.f147)
theorem el147_148_0 (n : Nat) : ∀ (k : Nat), ∀ (l0 : List (ByteArray × (Int × (Int × (Bool × (Int × (Int × (Int × (Int × (Int × Int)))))))))) (i1 : Int) (i2 : Int) (s3 : ByteArray), ga147_148_0 n [] k (S147_148_0 l0 i1 i2 s3) = lp147_148_0 n k l0 i1 i2 s3 := by
  intro k
  induction k with
  | zero => intros; rfl
  | succ k ih =>
    intro l0 i1 i2 s3
    have h : ga147_148_0 n [] (k + 1) (S147_148_0 l0 i1 i2 s3) = st147_148_0 n (fun w0 w1 w2 w3 => ga147_148_0 n [] k (S147_148_0 w0 w1 w2 w3)) l0 i1 i2 s3 := by kernel_rfl
    rw [h]
    have e : (fun w0 w1 w2 w3 => ga147_148_0 n [] k (S147_148_0 w0 w1 w2 w3)) = lp147_148_0 n k := by
      funext w0 w1 w2 w3; exact ih w0 w1 w2 w3
    rw [e]
    rfl
theorem e147_148 (n : Nat) (x : List (ByteArray × (Int × (Int × (Bool × (Int × (Int × (Int × (Int × (Int × Int))))))))) × Unit × ByteArray × Unit) : evBody tab (G147_148 n) n (c147_148 n) Tryd.f147 x = F147_148 n x.1 x.2.2.1 := by
  have h : evBody tab (G147_148 n) n (c147_148 n) Tryd.f147 x = st147_148 n (fun w0 w1 w2 w3 => ga147_148_0 n [] n (S147_148_0 w0 w1 w2 w3)) x.1 x.2.2.1 := by kernel_rfl
  rw [h]
  have e0 : (fun w0 w1 w2 w3 => ga147_148_0 n [] n (S147_148_0 w0 w1 w2 w3)) = lp147_148_0 n n := by
    funext w0 w1 w2 w3; exact el147_148_0 n n w0 w1 w2 w3
  rw [e0]
  rfl
theorem g147_148 (W : World) (n : Nat) : Good Tryd.prog W 147 (c147_148 n) := body_good follows tabOk (GamOk.cons (g148 W n) GamOk.nil) (f := 147) (fn := Tryd.f147) (c := bodyOf Tryd.f147) (by kernel_rfl) (by kernel_rfl) (by kernel_rfl) (by kernel_rfl) (by kernel_rfl) (by kernel_rfl) (by kernel_rfl) (fun x r h => ⟨n, (e147_148 n x).trans h⟩)
/-! impl.rowAt -/
noncomputable def F115 (n : Nat) (a0 : List (ByteArray × (Int × (Int × (Bool × (Int × (Int × (Int × (Int × (Int × Int)))))))))) (a1 : ByteArray) : Option (Int × Unit) :=
  (F147_148 n a0 a1).bind fun r1 =>
  some (r1.1, ())
noncomputable def c115 (n : Nat) : Con := ⟨[.one (.sl (.imm true) 72 (.pair .str (.pair (.int .i64) (.pair (.int .i64) (.pair .bool (.pair (.int .i64) (.pair (.int .i64) (.pair (.int .i64) (.pair (.int .i64) (.pair (.int .i64) (.int .i64))))))))))), .one (.str)], [], [.one (.int .i64)], [], fun (x : List (ByteArray × (Int × (Int × (Bool × (Int × (Int × (Int × (Int × (Int × Int))))))))) × ByteArray × Unit) => F115 n x.1 x.2.1⟩
noncomputable def G115 (n : Nat) : Gam := [((147, [148]), c147_148 n)]
theorem e115 (n : Nat) (x : List (ByteArray × (Int × (Int × (Bool × (Int × (Int × (Int × (Int × (Int × Int))))))))) × ByteArray × Unit) : evBody tab (G115 n) n (c115 n) Tryd.f115 x = F115 n x.1 x.2.1 := by kernel_rfl
theorem g115 (W : World) (n : Nat) : Good Tryd.prog W 115 (c115 n) := body_good follows tabOk (GamOk.cons (g147_148 W n) GamOk.nil) (f := 115) (fn := Tryd.f115) (c := bodyOf Tryd.f115) (by kernel_rfl) (by kernel_rfl) (by kernel_rfl) (by kernel_rfl) (by kernel_rfl) (by kernel_rfl) (by kernel_rfl) (fun x r h => ⟨n, (e115 n x).trans h⟩)
/-! impl.FindRow -/
noncomputable def F78 (n : Nat) (a0 : List (ByteArray × (Int × (Int × (Bool × (Int × (Int × (Int × (Int × (Int × Int)))))))))) (a1 : ByteArray) : Option (ByteArray × Int × Int × Bool × Int × Int × Int × Int × Int × Int × Bool × Unit) :=
  (F115 n a0 a1).bind fun r1 =>
  if (decide (r1.1 < 0)) = true then
    some ((⟨#[]⟩ : ByteArray), 0, 0, false, 0, 0, 0, 0, 0, 0, false, ())
  else
    if (decide (0 ≤ r1.1)) = true then
    if (decide (r1.1 < (a0.length : Int))) = true then
    some ((rdOf ((⟨#[]⟩ : ByteArray), ((0 : Int), ((0 : Int), (false, ((0 : Int), ((0 : Int), ((0 : Int), ((0 : Int), ((0 : Int), (0 : Int)))))))))) a0 r1.1).1, ((rdOf ((⟨#[]⟩ : ByteArray), ((0 : Int), ((0 : Int), (false, ((0 : Int), ((0 : Int), ((0 : Int), ((0 : Int), ((0 : Int), (0 : Int)))))))))) a0 r1.1).2).1, (((rdOf ((⟨#[]⟩ : ByteArray), ((0 : Int), ((0 : Int), (false, ((0 : Int), ((0 : Int), ((0 : Int), ((0 : Int), ((0 : Int), (0 : Int)))))))))) a0 r1.1).2).2).1, ((((rdOf ((⟨#[]⟩ : ByteArray), ((0 : Int), ((0 : Int), (false, ((0 : Int), ((0 : Int), ((0 : Int), ((0 : Int), ((0 : Int), (0 : Int)))))))))) a0 r1.1).2).2).2).1, (((((rdOf ((⟨#[]⟩ : ByteArray), ((0 : Int), ((0 : Int), (false, ((0 : Int), ((0 : Int), ((0 : Int), ((0 : Int), ((0 : Int), (0 : Int)))))))))) a0 r1.1).2).2).2).2).1, ((((((rdOf ((⟨#[]⟩ : ByteArray), ((0 : Int), ((0 : Int), (false, ((0 : Int), ((0 : Int), ((0 : Int), ((0 : Int), ((0 : Int), (0 : Int)))))))))) a0 r1.1).2).2).2).2).2).1, (((((((rdOf ((⟨#[]⟩ : ByteArray), ((0 : Int), ((0 : Int), (false, ((0 : Int), ((0 : Int), ((0 : Int), ((0 : Int), ((0 : Int), (0 : Int)))))))))) a0 r1.1).2).2).2).2).2).2).1, ((((((((rdOf ((⟨#[]⟩ : ByteArray), ((0 : Int), ((0 : Int), (false, ((0 : Int), ((0 : Int), ((0 : Int), ((0 : Int), ((0 : Int), (0 : Int)))))))))) a0 r1.1).2).2).2).2).2).2).2).1, (((((((((rdOf ((⟨#[]⟩ : ByteArray), ((0 : Int), ((0 : Int), (false, ((0 : Int), ((0 : Int), ((0 : Int), ((0 : Int), ((0 : Int), (0 : Int)))))))))) a0 r1.1).2).2).2).2).2).2).2).2).1, (((((((((rdOf ((⟨#[]⟩ : ByteArray), ((0 : Int), ((0 : Int), (false, ((0 : Int), ((0 : Int), ((0 : Int), ((0 : Int), ((0 : Int), (0 : Int)))))))))) a0 r1.1).2).2).2).2).2).2).2).2).2, true, ())
    else none
    else none
noncomputable def c78 (n : Nat) : Con := ⟨[.one (.sl (.imm true) 72 (.pair .str (.pair (.int .i64) (.pair (.int .i64) (.pair .bool (.pair (.int .i64) (.pair (.int .i64) (.pair (.int .i64) (.pair (.int .i64) (.pair (.int .i64) (.int .i64))))))))))), .one (.str)], [], [.agg [(.str), (.int .i64), (.int .i64), (.bool), (.int .i64), (.int .i64), (.int .i64), (.int .i64), (.int .i64), (.int .i64)], .one (.bool)], [], fun (x : List (ByteArray × (Int × (Int × (Bool × (Int × (Int × (Int × (Int × (Int × Int))))))))) × ByteArray × Unit) => F78 n x.1 x.2.1⟩
noncomputable def G78 (n : Nat) : Gam := [((115, []), c115 n)]
theorem e78 (n : Nat) (x : List (ByteArray × (Int × (Int × (Bool × (Int × (Int × (Int × (Int × (Int × Int))))))))) × ByteArray × Unit) : evBody tab (G78 n) n (c78 n) Tryd.f78 x = F78 n x.1 x.2.1 := by kernel_rfl
theorem g78 (W : World) (n : Nat) : Good Tryd.prog W 78 (c78 n) := body_good follows tabOk (GamOk.cons (g115 W n) GamOk.nil) (f := 78) (fn := Tryd.f78) (c := bodyOf Tryd.f78) (by kernel_rfl) (by kernel_rfl) (by kernel_rfl) (by kernel_rfl) (by kernel_rfl) (by kernel_rfl) (by kernel_rfl) (fun x r h => ⟨n, (e78 n x).trans h⟩)
/-! impl.Rank -/
noncomputable def F79 (n : Nat) (a0 : ByteArray) (a1 : Int) (a2 : Int) (a3 : Bool) (a4 : Int) (a5 : Int) (a6 : Int) (a7 : Int) (a8 : Int) (a9 : Int) : Option (Int × Unit) :=
  if (decide (a1 = 1)) = true then
    some (a2, ())
  else
    if (decide (a1 = 2)) = true then
      some (a4, ())
    else
      if (decide (a1 = 3)) = true then
        some (a8, ())
      else
        some (0, ())
noncomputable def c79 (n : Nat) : Con := ⟨[.agg [(.str), (.int .i64), (.int .i64), (.bool), (.int .i64), (.int .i64), (.int .i64), (.int .i64), (.int .i64), (.int .i64)]], [], [.one (.int .i64)], [], fun (x : ByteArray × Int × Int × Bool × Int × Int × Int × Int × Int × Int × Unit) => F79 n x.1 x.2.1 x.2.2.1 x.2.2.2.1 x.2.2.2.2.1 x.2.2.2.2.2.1 x.2.2.2.2.2.2.1 x.2.2.2.2.2.2.2.1 x.2.2.2.2.2.2.2.2.1 x.2.2.2.2.2.2.2.2.2.1⟩
noncomputable def G79 (n : Nat) : Gam := []
theorem e79 (n : Nat) (x : ByteArray × Int × Int × Bool × Int × Int × Int × Int × Int × Int × Unit) : evBody tab (G79 n) n (c79 n) Tryd.f79 x = F79 n x.1 x.2.1 x.2.2.1 x.2.2.2.1 x.2.2.2.2.1 x.2.2.2.2.2.1 x.2.2.2.2.2.2.1 x.2.2.2.2.2.2.2.1 x.2.2.2.2.2.2.2.2.1 x.2.2.2.2.2.2.2.2.2.1 := by kernel_rfl
theorem g79 (W : World) (n : Nat) : Good Tryd.prog W 79 (c79 n) := body_good follows tabOk GamOk.nil (f := 79) (fn := Tryd.f79) (c := bodyOf Tryd.f79) (by kernel_rfl) (by kernel_rfl) (by kernel_rfl) (by kernel_rfl) (by kernel_rfl) (by kernel_rfl) (by kernel_rfl) (fun x r h => ⟨n, (e79 n x).trans h⟩)
/-! impl.Series -/
noncomputable def st43_0 (n : Nat) (g0 : ByteArray → (List (List (ByteArray × (Int × (Int × (Bool × (Int × (Int × (Int × (Int × (Int × Int))))))))))) → Int → Int → (List Int) → Option (List Int × Unit)) (s0 : ByteArray) (l1 : List (List (ByteArray × (Int × (Int × (Bool × (Int × (Int × (Int × (Int × (Int × Int))))))))))) (i2 : Int) (i3 : Int) (l4 : List Int) : Option (List Int × Unit) :=
  if (decide (i3 < i2)) = true then
    if (decide (0 ≤ i3)) = true then
    if (decide (i3 < (l1.length : Int))) = true then
    (F78 n (rdOf ([] : List (ByteArray × (Int × (Int × (Bool × (Int × (Int × (Int × (Int × (Int × Int)))))))))) l1 i3) s0).bind fun r1 =>
    (F79 n r1.1 r1.2.1 r1.2.2.1 r1.2.2.2.1 r1.2.2.2.2.1 r1.2.2.2.2.2.1 r1.2.2.2.2.2.2.1 r1.2.2.2.2.2.2.2.1 r1.2.2.2.2.2.2.2.2.1 r1.2.2.2.2.2.2.2.2.2.1).bind fun r2 =>
    if (decide ((l4.length + ([r2.1] : List Int).length) * 8 ≤ 140737488355328)) = true then
    g0 s0 l1 i2 (wrap64 (i3 + 1)) (l4 ++ ([r2.1] : List Int))
    else none
    else none
    else none
  else
    some (l4, ())
noncomputable def lp43_0 (n : Nat) : Nat → ByteArray → (List (List (ByteArray × (Int × (Int × (Bool × (Int × (Int × (Int × (Int × (Int × Int))))))))))) → Int → Int → (List Int) → Option (List Int × Unit)
  | 0 => fun _ _ _ _ _ => none
  | k + 1 => st43_0 n (lp43_0 n k)
noncomputable def st43 (n : Nat) (h0 : ByteArray → (List (List (ByteArray × (Int × (Int × (Bool × (Int × (Int × (Int × (Int × (Int × Int))))))))))) → Int → Int → (List Int) → Option (List Int × Unit)) (a0 : List (List (ByteArray × (Int × (Int × (Bool × (Int × (Int × (Int × (Int × (Int × Int))))))))))) (a1 : ByteArray) : Option (List Int × Unit) :=
  h0 a1 a0 (a0.length : Int) (0 : Int) ([] : List Int)
noncomputable def F43 (n : Nat) (a0 : List (List (ByteArray × (Int × (Int × (Bool × (Int × (Int × (Int × (Int × (Int × Int))))))))))) (a1 : ByteArray) : Option (List Int × Unit) := st43 n (lp43_0 n n) a0 a1
noncomputable def c43 (n : Nat) : Con := ⟨[.one (.sl (.imm true) 57 (.sl 72 (.pair .str (.pair (.int .i64) (.pair (.int .i64) (.pair .bool (.pair (.int .i64) (.pair (.int .i64) (.pair (.int .i64) (.pair (.int .i64) (.pair (.int .i64) (.int .i64)))))))))))), .one (.str)], [], [.one (.sl .own 3 (.int .i64))], [], fun (x : List (List (ByteArray × (Int × (Int × (Bool × (Int × (Int × (Int × (Int × (Int × Int)))))))))) × ByteArray × Unit) => F43 n x.1 x.2.1⟩
noncomputable def G43 (n : Nat) : Gam := [((78, []), c78 n), ((79, []), c79 n)]
noncomputable def S43_0 (s0 : ByteArray) (l1 : List (List (ByteArray × (Int × (Int × (Bool × (Int × (Int × (Int × (Int × (Int × Int))))))))))) (i2 : Int) (i3 : Int) (l4 : List Int) : St := ⟨[.dead, .str s0, .dead, .dead, .dead, .sr 5 0 none 0 0 none] ++ List.replicate 5 .dead ++ [.sl (.imm true) 57 (.sl 72 (.pair .str (.pair (.int .i64) (.pair (.int .i64) (.pair .bool (.pair (.int .i64) (.pair (.int .i64) (.pair (.int .i64) (.pair (.int .i64) (.pair (.int .i64) (.int .i64))))))))))) l1, .int .i64 i2, .int .i64 i3] ++ List.replicate 16 .dead, List.replicate 5 Ob.none ++ [⟨false, [.sl .own 3 (.int .i64) l4], 0, 0⟩] ++ List.replicate 24 Ob.none⟩
noncomputable def ga43_0 (n : Nat) (ks : List Nat) (k : Nat) (st : St) : Option (List Int × Unit) := goAt tab (G43 n) n (bodyOf Tryd.f43) (lvOf Tryd.f43) (lvOf Tryd.f43).ret [1, 1, 0, 1, 0] ks k st (evBody.endK tab (c43 n) Tryd.f43)
theorem el43_0 (n : Nat) : ∀ (k : Nat), ∀ (s0 : ByteArray) (l1 : List (List (ByteArray × (Int × (Int × (Bool × (Int × (Int × (Int × (Int × (Int × Int))))))))))) (i2 : Int) (i3 : Int) (l4 : List Int), ga43_0 n [] k (S43_0 s0 l1 i2 i3 l4) = lp43_0 n k s0 l1 i2 i3 l4 := by
  intro k
  induction k with
  | zero => intros; rfl
  | succ k ih =>
    intro s0 l1 i2 i3 l4
    have h : ga43_0 n [] (k + 1) (S43_0 s0 l1 i2 i3 l4) = st43_0 n (fun w0 w1 w2 w3 w4 => ga43_0 n [] k (S43_0 w0 w1 w2 w3 w4)) s0 l1 i2 i3 l4 := by kernel_rfl
    rw [h]
    have e : (fun w0 w1 w2 w3 w4 => ga43_0 n [] k (S43_0 w0 w1 w2 w3 w4)) = lp43_0 n k := by
      funext w0 w1 w2 w3 w4; exact ih w0 w1 w2 w3 w4
    rw [e]
    rfl
theorem e43 (n : Nat) (x : List (List (ByteArray × (Int × (Int × (Bool × (Int × (Int × (Int × (Int × (Int × Int)))))))))) × ByteArray × Unit) : evBody tab (G43 n) n (c43 n) Tryd.f43 x = F43 n x.1 x.2.1 := by
  have h : evBody tab (G43 n) n (c43 n) Tryd.f43 x = st43 n (fun w0 w1 w2 w3 w4 => ga43_0 n [] n (S43_0 w0 w1 w2 w3 w4)) x.1 x.2.1 := by kernel_rfl
  rw [h]
  have e0 : (fun w0 w1 w2 w3 w4 => ga43_0 n [] n (S43_0 w0 w1 w2 w3 w4)) = lp43_0 n n := by
    funext w0 w1 w2 w3 w4; exact el43_0 n n w0 w1 w2 w3 w4
  rw [e0]
  rfl
theorem g43 (W : World) (n : Nat) : Good Tryd.prog W 43 (c43 n) := body_good follows tabOk (GamOk.cons (g78 W n) (GamOk.cons (g79 W n) GamOk.nil)) (f := 43) (fn := Tryd.f43) (c := bodyOf Tryd.f43) (by kernel_rfl) (by kernel_rfl) (by kernel_rfl) (by kernel_rfl) (by kernel_rfl) (by kernel_rfl) (by kernel_rfl) (fun x r h => ⟨n, (e43 n x).trans h⟩)
/-! impl.Fires -/
noncomputable def st15_0 (n : Nat) (g0 : Int → Int → Int → ByteArray → Int → Int → Int → (List Int) → (List Int) → Option (List Int × Unit)) (i0 : Int) (i1 : Int) (i2 : Int) (s3 : ByteArray) (i4 : Int) (i5 : Int) (i6 : Int) (l7 : List Int) (l8 : List Int) : Option (List Int × Unit) :=
  if (decide (i2 < i1)) = true then
    if (decide (0 ≤ i2)) = true then
    if (decide (i2 < (l8.length : Int))) = true then
    (F18 n s3 i4 i5 i6 (rdOf (0 : Int) l8 i2)).bind fun r3 =>
    if (!r3.1) = true then
      if (decide (0 ≥ i6)) = true then
        if (decide ((l7.length + ([i2] : List Int).length) * 8 ≤ 140737488355328)) = true then
        g0 (0 : Int) i1 (wrap64 (i2 + 1)) s3 i4 i5 i6 (l7 ++ ([i2] : List Int)) l8
        else none
      else
        g0 (0 : Int) i1 (wrap64 (i2 + 1)) s3 i4 i5 i6 l7 l8
    else
      if (decide ((wrap64 (i0 + 1)) ≥ i6)) = true then
        if (decide ((l7.length + ([i2] : List Int).length) * 8 ≤ 140737488355328)) = true then
        g0 (wrap64 (i0 + 1)) i1 (wrap64 (i2 + 1)) s3 i4 i5 i6 (l7 ++ ([i2] : List Int)) l8
        else none
      else
        g0 (wrap64 (i0 + 1)) i1 (wrap64 (i2 + 1)) s3 i4 i5 i6 l7 l8
    else none
    else none
  else
    some (l7, ())
noncomputable def lp15_0 (n : Nat) : Nat → Int → Int → Int → ByteArray → Int → Int → Int → (List Int) → (List Int) → Option (List Int × Unit)
  | 0 => fun _ _ _ _ _ _ _ _ _ => none
  | k + 1 => st15_0 n (lp15_0 n k)
noncomputable def st15 (n : Nat) (h0 : Int → Int → Int → ByteArray → Int → Int → Int → (List Int) → (List Int) → Option (List Int × Unit)) (a0 : List (List (ByteArray × (Int × (Int × (Bool × (Int × (Int × (Int × (Int × (Int × Int))))))))))) (a1 : ByteArray) (a2 : Int) (a3 : Int) (a4 : Int) : Option (List Int × Unit) :=
  (F42 n a1 a2 a3 a4).bind fun r1 =>
  if (!r1.1) = true then
    some (([] : List Int), ())
  else
    (F43 n a0 a1).bind fun r2 =>
    h0 (0 : Int) (r2.1.length : Int) (0 : Int) a1 a2 a3 a4 ([] : List Int) r2.1
noncomputable def F15 (n : Nat) (a0 : List (List (ByteArray × (Int × (Int × (Bool × (Int × (Int × (Int × (Int × (Int × Int))))))))))) (a1 : ByteArray) (a2 : Int) (a3 : Int) (a4 : Int) : Option (List Int × Unit) := st15 n (lp15_0 n n) a0 a1 a2 a3 a4
noncomputable def c15 (n : Nat) : Con := ⟨[.one (.sl (.imm true) 57 (.sl 72 (.pair .str (.pair (.int .i64) (.pair (.int .i64) (.pair .bool (.pair (.int .i64) (.pair (.int .i64) (.pair (.int .i64) (.pair (.int .i64) (.pair (.int .i64) (.int .i64)))))))))))), .agg [(.str), (.int .i64), (.int .i64), (.int .i64)]], [], [.one (.sl .own 3 (.int .i64))], [], fun (x : List (List (ByteArray × (Int × (Int × (Bool × (Int × (Int × (Int × (Int × (Int × Int)))))))))) × ByteArray × Int × Int × Int × Unit) => F15 n x.1 x.2.1 x.2.2.1 x.2.2.2.1 x.2.2.2.2.1⟩
noncomputable def G15 (n : Nat) : Gam := [((18, []), c18 n), ((42, []), c42 n), ((43, []), c43 n)]
noncomputable def S15_0 (i0 : Int) (i1 : Int) (i2 : Int) (s3 : ByteArray) (i4 : Int) (i5 : Int) (i6 : Int) (l7 : List Int) (l8 : List Int) : St := ⟨[.dead, .dead, .dead, .ptr 3 0, .dead, .sr 5 0 none 0 0 none, .int .i64 i0] ++ List.replicate 10 .dead ++ [.sr 17 0 none 0 0 none, .int .i64 i1, .int .i64 i2] ++ List.replicate 20 .dead, [Ob.none, Ob.none, Ob.none, ⟨true, [.str s3, .int .i64 i4, .int .i64 i5, .int .i64 i6], 0, 0⟩, Ob.none, ⟨false, [.sl .own 3 (.int .i64) l7], 0, 0⟩] ++ List.replicate 11 Ob.none ++ [⟨false, [.sl .own 3 (.int .i64) l8], 0, 0⟩] ++ List.replicate 22 Ob.none⟩
noncomputable def ga15_0 (n : Nat) (ks : List Nat) (k : Nat) (st : St) : Option (List Int × Unit) := goAt tab (G15 n) n (bodyOf Tryd.f15) (lvOf Tryd.f15) (lvOf Tryd.f15).ret [1, 1, 1, 0, 1, 0] ks k st (evBody.endK tab (c15 n) Tryd.f15)
theorem el15_0 (n : Nat) : ∀ (k : Nat), ∀ (i0 : Int) (i1 : Int) (i2 : Int) (s3 : ByteArray) (i4 : Int) (i5 : Int) (i6 : Int) (l7 : List Int) (l8 : List Int), ga15_0 n [] k (S15_0 i0 i1 i2 s3 i4 i5 i6 l7 l8) = lp15_0 n k i0 i1 i2 s3 i4 i5 i6 l7 l8 := by
  intro k
  induction k with
  | zero => intros; rfl
  | succ k ih =>
    intro i0 i1 i2 s3 i4 i5 i6 l7 l8
    have h : ga15_0 n [] (k + 1) (S15_0 i0 i1 i2 s3 i4 i5 i6 l7 l8) = st15_0 n (fun w0 w1 w2 w3 w4 w5 w6 w7 w8 => ga15_0 n [] k (S15_0 w0 w1 w2 w3 w4 w5 w6 w7 w8)) i0 i1 i2 s3 i4 i5 i6 l7 l8 := by kernel_rfl
    rw [h]
    have e : (fun w0 w1 w2 w3 w4 w5 w6 w7 w8 => ga15_0 n [] k (S15_0 w0 w1 w2 w3 w4 w5 w6 w7 w8)) = lp15_0 n k := by
      funext w0 w1 w2 w3 w4 w5 w6 w7 w8; exact ih w0 w1 w2 w3 w4 w5 w6 w7 w8
    rw [e]
    rfl
theorem e15 (n : Nat) (x : List (List (ByteArray × (Int × (Int × (Bool × (Int × (Int × (Int × (Int × (Int × Int)))))))))) × ByteArray × Int × Int × Int × Unit) : evBody tab (G15 n) n (c15 n) Tryd.f15 x = F15 n x.1 x.2.1 x.2.2.1 x.2.2.2.1 x.2.2.2.2.1 := by
  have h : evBody tab (G15 n) n (c15 n) Tryd.f15 x = st15 n (fun w0 w1 w2 w3 w4 w5 w6 w7 w8 => ga15_0 n [] n (S15_0 w0 w1 w2 w3 w4 w5 w6 w7 w8)) x.1 x.2.1 x.2.2.1 x.2.2.2.1 x.2.2.2.2.1 := by kernel_rfl
  rw [h]
  have e0 : (fun w0 w1 w2 w3 w4 w5 w6 w7 w8 => ga15_0 n [] n (S15_0 w0 w1 w2 w3 w4 w5 w6 w7 w8)) = lp15_0 n n := by
    funext w0 w1 w2 w3 w4 w5 w6 w7 w8; exact el15_0 n n w0 w1 w2 w3 w4 w5 w6 w7 w8
  rw [e0]
  rfl
theorem g15 (W : World) (n : Nat) : Good Tryd.prog W 15 (c15 n) := body_good follows tabOk (GamOk.cons (g18 W n) (GamOk.cons (g42 W n) (GamOk.cons (g43 W n) GamOk.nil))) (f := 15) (fn := Tryd.f15) (c := bodyOf Tryd.f15) (by kernel_rfl) (by kernel_rfl) (by kernel_rfl) (by kernel_rfl) (by kernel_rfl) (by kernel_rfl) (by kernel_rfl) (fun x r h => ⟨n, (e15 n x).trans h⟩)
/-! spec.FindRow -/
noncomputable def st44_0 (n : Nat) (g0 : (List (ByteArray × (Int × (Int × (Bool × (Int × (Int × (Int × (Int × (Int × Int)))))))))) → ByteArray → Int → ByteArray → Int → Int → Bool → Int → Int → Int → Int → Int → Int → Option (ByteArray × Int × Int × Bool × Int × Int × Int × Int × Int × Int × Bool × Unit)) (l0 : List (ByteArray × (Int × (Int × (Bool × (Int × (Int × (Int × (Int × (Int × Int)))))))))) (s1 : ByteArray) (i2 : Int) (s3 : ByteArray) (i4 : Int) (i5 : Int) (b6 : Bool) (i7 : Int) (i8 : Int) (i9 : Int) (i10 : Int) (i11 : Int) (i12 : Int) : Option (ByteArray × Int × Int × Bool × Int × Int × Int × Int × Int × Int × Bool × Unit) :=
  if (decide (i2 < (l0.length : Int))) = true then
    if (decide (0 ≤ i2)) = true then
    if (decide (i2 < (l0.length : Int))) = true then
    if (decide (((rdOf ((⟨#[]⟩ : ByteArray), ((0 : Int), ((0 : Int), (false, ((0 : Int), ((0 : Int), ((0 : Int), ((0 : Int), ((0 : Int), (0 : Int)))))))))) l0 i2).1).toList = s1.toList)) = true then
      if (decide (0 ≤ i2)) = true then
      if (decide (i2 < (l0.length : Int))) = true then
      some ((rdOf ((⟨#[]⟩ : ByteArray), ((0 : Int), ((0 : Int), (false, ((0 : Int), ((0 : Int), ((0 : Int), ((0 : Int), ((0 : Int), (0 : Int)))))))))) l0 i2).1, ((rdOf ((⟨#[]⟩ : ByteArray), ((0 : Int), ((0 : Int), (false, ((0 : Int), ((0 : Int), ((0 : Int), ((0 : Int), ((0 : Int), (0 : Int)))))))))) l0 i2).2).1, (((rdOf ((⟨#[]⟩ : ByteArray), ((0 : Int), ((0 : Int), (false, ((0 : Int), ((0 : Int), ((0 : Int), ((0 : Int), ((0 : Int), (0 : Int)))))))))) l0 i2).2).2).1, ((((rdOf ((⟨#[]⟩ : ByteArray), ((0 : Int), ((0 : Int), (false, ((0 : Int), ((0 : Int), ((0 : Int), ((0 : Int), ((0 : Int), (0 : Int)))))))))) l0 i2).2).2).2).1, (((((rdOf ((⟨#[]⟩ : ByteArray), ((0 : Int), ((0 : Int), (false, ((0 : Int), ((0 : Int), ((0 : Int), ((0 : Int), ((0 : Int), (0 : Int)))))))))) l0 i2).2).2).2).2).1, ((((((rdOf ((⟨#[]⟩ : ByteArray), ((0 : Int), ((0 : Int), (false, ((0 : Int), ((0 : Int), ((0 : Int), ((0 : Int), ((0 : Int), (0 : Int)))))))))) l0 i2).2).2).2).2).2).1, (((((((rdOf ((⟨#[]⟩ : ByteArray), ((0 : Int), ((0 : Int), (false, ((0 : Int), ((0 : Int), ((0 : Int), ((0 : Int), ((0 : Int), (0 : Int)))))))))) l0 i2).2).2).2).2).2).2).1, ((((((((rdOf ((⟨#[]⟩ : ByteArray), ((0 : Int), ((0 : Int), (false, ((0 : Int), ((0 : Int), ((0 : Int), ((0 : Int), ((0 : Int), (0 : Int)))))))))) l0 i2).2).2).2).2).2).2).2).1, (((((((((rdOf ((⟨#[]⟩ : ByteArray), ((0 : Int), ((0 : Int), (false, ((0 : Int), ((0 : Int), ((0 : Int), ((0 : Int), ((0 : Int), (0 : Int)))))))))) l0 i2).2).2).2).2).2).2).2).2).1, (((((((((rdOf ((⟨#[]⟩ : ByteArray), ((0 : Int), ((0 : Int), (false, ((0 : Int), ((0 : Int), ((0 : Int), ((0 : Int), ((0 : Int), (0 : Int)))))))))) l0 i2).2).2).2).2).2).2).2).2).2, true, ())
      else none
      else none
    else
      g0 l0 s1 (wrap64 (i2 + 1)) s3 i4 i5 b6 i7 i8 i9 i10 i11 i12
    else none
    else none
  else
    some ((⟨#[]⟩ : ByteArray), 0, 0, false, 0, 0, 0, 0, 0, 0, false, ())
noncomputable def lp44_0 (n : Nat) : Nat → (List (ByteArray × (Int × (Int × (Bool × (Int × (Int × (Int × (Int × (Int × Int)))))))))) → ByteArray → Int → ByteArray → Int → Int → Bool → Int → Int → Int → Int → Int → Int → Option (ByteArray × Int × Int × Bool × Int × Int × Int × Int × Int × Int × Bool × Unit)
  | 0 => fun _ _ _ _ _ _ _ _ _ _ _ _ _ => none
  | k + 1 => st44_0 n (lp44_0 n k)
noncomputable def st44 (n : Nat) (h0 : (List (ByteArray × (Int × (Int × (Bool × (Int × (Int × (Int × (Int × (Int × Int)))))))))) → ByteArray → Int → ByteArray → Int → Int → Bool → Int → Int → Int → Int → Int → Int → Option (ByteArray × Int × Int × Bool × Int × Int × Int × Int × Int × Int × Bool × Unit)) (a0 : List (ByteArray × (Int × (Int × (Bool × (Int × (Int × (Int × (Int × (Int × Int)))))))))) (a1 : ByteArray) : Option (ByteArray × Int × Int × Bool × Int × Int × Int × Int × Int × Int × Bool × Unit) :=
  h0 a0 a1 (0 : Int) (⟨#[]⟩ : ByteArray) (0 : Int) (0 : Int) false (0 : Int) (0 : Int) (0 : Int) (0 : Int) (0 : Int) (0 : Int)
noncomputable def F44 (n : Nat) (a0 : List (ByteArray × (Int × (Int × (Bool × (Int × (Int × (Int × (Int × (Int × Int)))))))))) (a1 : ByteArray) : Option (ByteArray × Int × Int × Bool × Int × Int × Int × Int × Int × Int × Bool × Unit) := st44 n (lp44_0 n n) a0 a1
noncomputable def c44 (n : Nat) : Con := ⟨[.one (.sl (.imm true) 72 (.pair .str (.pair (.int .i64) (.pair (.int .i64) (.pair .bool (.pair (.int .i64) (.pair (.int .i64) (.pair (.int .i64) (.pair (.int .i64) (.pair (.int .i64) (.int .i64))))))))))), .one (.str)], [], [.agg [(.str), (.int .i64), (.int .i64), (.bool), (.int .i64), (.int .i64), (.int .i64), (.int .i64), (.int .i64), (.int .i64)], .one (.bool)], [], fun (x : List (ByteArray × (Int × (Int × (Bool × (Int × (Int × (Int × (Int × (Int × Int))))))))) × ByteArray × Unit) => F44 n x.1 x.2.1⟩
noncomputable def G44 (n : Nat) : Gam := []
noncomputable def S44_0 (l0 : List (ByteArray × (Int × (Int × (Bool × (Int × (Int × (Int × (Int × (Int × Int)))))))))) (s1 : ByteArray) (i2 : Int) (s3 : ByteArray) (i4 : Int) (i5 : Int) (b6 : Bool) (i7 : Int) (i8 : Int) (i9 : Int) (i10 : Int) (i11 : Int) (i12 : Int) : St := ⟨[.sl (.imm true) 72 (.pair .str (.pair (.int .i64) (.pair (.int .i64) (.pair .bool (.pair (.int .i64) (.pair (.int .i64) (.pair (.int .i64) (.pair (.int .i64) (.pair (.int .i64) (.int .i64)))))))))) l0, .str s1, .dead, .dead, .ptr 4 0, .dead, .int .i64 i2] ++ List.replicate 18 .dead, List.replicate 4 Ob.none ++ [⟨true, [.str s3, .int .i64 i4, .int .i64 i5, .bool b6, .int .i64 i7, .int .i64 i8, .int .i64 i9, .int .i64 i10, .int .i64 i11, .int .i64 i12], 0, 0⟩] ++ List.replicate 20 Ob.none⟩
noncomputable def ga44_0 (n : Nat) (ks : List Nat) (k : Nat) (st : St) : Option (ByteArray × Int × Int × Bool × Int × Int × Int × Int × Int × Int × Bool × Unit) := goAt tab (G44 n) n (bodyOf Tryd.f44) (lvOf Tryd.f44) (lvOf Tryd.f44).ret [1, 0, 1, 0] ks k st (evBody.endK tab (c44 n) Tryd.f44)
theorem el44_0 (n : Nat) : ∀ (k : Nat), ∀ (l0 : List (ByteArray × (Int × (Int × (Bool × (Int × (Int × (Int × (Int × (Int × Int)))))))))) (s1 : ByteArray) (i2 : Int) (s3 : ByteArray) (i4 : Int) (i5 : Int) (b6 : Bool) (i7 : Int) (i8 : Int) (i9 : Int) (i10 : Int) (i11 : Int) (i12 : Int), ga44_0 n [] k (S44_0 l0 s1 i2 s3 i4 i5 b6 i7 i8 i9 i10 i11 i12) = lp44_0 n k l0 s1 i2 s3 i4 i5 b6 i7 i8 i9 i10 i11 i12 := by
  intro k
  induction k with
  | zero => intros; rfl
  | succ k ih =>
    intro l0 s1 i2 s3 i4 i5 b6 i7 i8 i9 i10 i11 i12
    have h : ga44_0 n [] (k + 1) (S44_0 l0 s1 i2 s3 i4 i5 b6 i7 i8 i9 i10 i11 i12) = st44_0 n (fun w0 w1 w2 w3 w4 w5 w6 w7 w8 w9 w10 w11 w12 => ga44_0 n [] k (S44_0 w0 w1 w2 w3 w4 w5 w6 w7 w8 w9 w10 w11 w12)) l0 s1 i2 s3 i4 i5 b6 i7 i8 i9 i10 i11 i12 := by kernel_rfl
    rw [h]
    have e : (fun w0 w1 w2 w3 w4 w5 w6 w7 w8 w9 w10 w11 w12 => ga44_0 n [] k (S44_0 w0 w1 w2 w3 w4 w5 w6 w7 w8 w9 w10 w11 w12)) = lp44_0 n k := by
      funext w0 w1 w2 w3 w4 w5 w6 w7 w8 w9 w10 w11 w12; exact ih w0 w1 w2 w3 w4 w5 w6 w7 w8 w9 w10 w11 w12
    rw [e]
    rfl
theorem e44 (n : Nat) (x : List (ByteArray × (Int × (Int × (Bool × (Int × (Int × (Int × (Int × (Int × Int))))))))) × ByteArray × Unit) : evBody tab (G44 n) n (c44 n) Tryd.f44 x = F44 n x.1 x.2.1 := by
  have h : evBody tab (G44 n) n (c44 n) Tryd.f44 x = st44 n (fun w0 w1 w2 w3 w4 w5 w6 w7 w8 w9 w10 w11 w12 => ga44_0 n [] n (S44_0 w0 w1 w2 w3 w4 w5 w6 w7 w8 w9 w10 w11 w12)) x.1 x.2.1 := by kernel_rfl
  rw [h]
  have e0 : (fun w0 w1 w2 w3 w4 w5 w6 w7 w8 w9 w10 w11 w12 => ga44_0 n [] n (S44_0 w0 w1 w2 w3 w4 w5 w6 w7 w8 w9 w10 w11 w12)) = lp44_0 n n := by
    funext w0 w1 w2 w3 w4 w5 w6 w7 w8 w9 w10 w11 w12; exact el44_0 n n w0 w1 w2 w3 w4 w5 w6 w7 w8 w9 w10 w11 w12
  rw [e0]
  rfl
theorem g44 (W : World) (n : Nat) : Good Tryd.prog W 44 (c44 n) := body_good follows tabOk GamOk.nil (f := 44) (fn := Tryd.f44) (c := bodyOf Tryd.f44) (by kernel_rfl) (by kernel_rfl) (by kernel_rfl) (by kernel_rfl) (by kernel_rfl) (by kernel_rfl) (by kernel_rfl) (fun x r h => ⟨n, (e44 n x).trans h⟩)
/-! spec.Rank -/
noncomputable def F45 (n : Nat) (a0 : ByteArray) (a1 : Int) (a2 : Int) (a3 : Bool) (a4 : Int) (a5 : Int) (a6 : Int) (a7 : Int) (a8 : Int) (a9 : Int) : Option (Int × Unit) :=
  if (decide (a1 = 1)) = true then
    some (a2, ())
  else
    if (decide (a1 = 2)) = true then
      some (a4, ())
    else
      if (decide (a1 = 3)) = true then
        some (a8, ())
      else
        some (0, ())
noncomputable def c45 (n : Nat) : Con := ⟨[.agg [(.str), (.int .i64), (.int .i64), (.bool), (.int .i64), (.int .i64), (.int .i64), (.int .i64), (.int .i64), (.int .i64)]], [], [.one (.int .i64)], [], fun (x : ByteArray × Int × Int × Bool × Int × Int × Int × Int × Int × Int × Unit) => F45 n x.1 x.2.1 x.2.2.1 x.2.2.2.1 x.2.2.2.2.1 x.2.2.2.2.2.1 x.2.2.2.2.2.2.1 x.2.2.2.2.2.2.2.1 x.2.2.2.2.2.2.2.2.1 x.2.2.2.2.2.2.2.2.2.1⟩
noncomputable def G45 (n : Nat) : Gam := []
theorem e45 (n : Nat) (x : ByteArray × Int × Int × Bool × Int × Int × Int × Int × Int × Int × Unit) : evBody tab (G45 n) n (c45 n) Tryd.f45 x = F45 n x.1 x.2.1 x.2.2.1 x.2.2.2.1 x.2.2.2.2.1 x.2.2.2.2.2.1 x.2.2.2.2.2.2.1 x.2.2.2.2.2.2.2.1 x.2.2.2.2.2.2.2.2.1 x.2.2.2.2.2.2.2.2.2.1 := by kernel_rfl
theorem g45 (W : World) (n : Nat) : Good Tryd.prog W 45 (c45 n) := body_good follows tabOk GamOk.nil (f := 45) (fn := Tryd.f45) (c := bodyOf Tryd.f45) (by kernel_rfl) (by kernel_rfl) (by kernel_rfl) (by kernel_rfl) (by kernel_rfl) (by kernel_rfl) (by kernel_rfl) (fun x r h => ⟨n, (e45 n x).trans h⟩)
/-! spec.Series -/
noncomputable def st16_0 (n : Nat) (g0 : (List (List (ByteArray × (Int × (Int × (Bool × (Int × (Int × (Int × (Int × (Int × Int))))))))))) → ByteArray → Int → (List Int) → Option (List Int × Unit)) (l0 : List (List (ByteArray × (Int × (Int × (Bool × (Int × (Int × (Int × (Int × (Int × Int))))))))))) (s1 : ByteArray) (i2 : Int) (l3 : List Int) : Option (List Int × Unit) :=
  if (decide (i2 < (l0.length : Int))) = true then
    if (decide (0 ≤ i2)) = true then
    if (decide (i2 < (l0.length : Int))) = true then
    (F44 n (rdOf ([] : List (ByteArray × (Int × (Int × (Bool × (Int × (Int × (Int × (Int × (Int × Int)))))))))) l0 i2) s1).bind fun r1 =>
    (F45 n r1.1 r1.2.1 r1.2.2.1 r1.2.2.2.1 r1.2.2.2.2.1 r1.2.2.2.2.2.1 r1.2.2.2.2.2.2.1 r1.2.2.2.2.2.2.2.1 r1.2.2.2.2.2.2.2.2.1 r1.2.2.2.2.2.2.2.2.2.1).bind fun r2 =>
    if (decide ((l3.length + ([r2.1] : List Int).length) * 8 ≤ 140737488355328)) = true then
    g0 l0 s1 (wrap64 (i2 + 1)) (l3 ++ ([r2.1] : List Int))
    else none
    else none
    else none
  else
    some (l3, ())
noncomputable def lp16_0 (n : Nat) : Nat → (List (List (ByteArray × (Int × (Int × (Bool × (Int × (Int × (Int × (Int × (Int × Int))))))))))) → ByteArray → Int → (List Int) → Option (List Int × Unit)
  | 0 => fun _ _ _ _ => none
  | k + 1 => st16_0 n (lp16_0 n k)
noncomputable def st16 (n : Nat) (h0 : (List (List (ByteArray × (Int × (Int × (Bool × (Int × (Int × (Int × (Int × (Int × Int))))))))))) → ByteArray → Int → (List Int) → Option (List Int × Unit)) (a0 : List (List (ByteArray × (Int × (Int × (Bool × (Int × (Int × (Int × (Int × (Int × Int))))))))))) (a1 : ByteArray) : Option (List Int × Unit) :=
  h0 a0 a1 (0 : Int) ([] : List Int)
noncomputable def F16 (n : Nat) (a0 : List (List (ByteArray × (Int × (Int × (Bool × (Int × (Int × (Int × (Int × (Int × Int))))))))))) (a1 : ByteArray) : Option (List Int × Unit) := st16 n (lp16_0 n n) a0 a1
noncomputable def c16 (n : Nat) : Con := ⟨[.one (.sl (.imm true) 57 (.sl 72 (.pair .str (.pair (.int .i64) (.pair (.int .i64) (.pair .bool (.pair (.int .i64) (.pair (.int .i64) (.pair (.int .i64) (.pair (.int .i64) (.pair (.int .i64) (.int .i64)))))))))))), .one (.str)], [], [.one (.sl .own 3 (.int .i64))], [], fun (x : List (List (ByteArray × (Int × (Int × (Bool × (Int × (Int × (Int × (Int × (Int × Int)))))))))) × ByteArray × Unit) => F16 n x.1 x.2.1⟩
noncomputable def G16 (n : Nat) : Gam := [((44, []), c44 n), ((45, []), c45 n)]
noncomputable def S16_0 (l0 : List (List (ByteArray × (Int × (Int × (Bool × (Int × (Int × (Int × (Int × (Int × Int))))))))))) (s1 : ByteArray) (i2 : Int) (l3 : List Int) : St := ⟨[.sl (.imm true) 57 (.sl 72 (.pair .str (.pair (.int .i64) (.pair (.int .i64) (.pair .bool (.pair (.int .i64) (.pair (.int .i64) (.pair (.int .i64) (.pair (.int .i64) (.pair (.int .i64) (.int .i64))))))))))) l0, .str s1, .dead, .dead, .dead, .sr 5 0 none 0 0 none, .int .i64 i2] ++ List.replicate 24 .dead, List.replicate 5 Ob.none ++ [⟨false, [.sl .own 3 (.int .i64) l3], 0, 0⟩] ++ List.replicate 25 Ob.none⟩
noncomputable def ga16_0 (n : Nat) (ks : List Nat) (k : Nat) (st : St) : Option (List Int × Unit) := goAt tab (G16 n) n (bodyOf Tryd.f16) (lvOf Tryd.f16) (lvOf Tryd.f16).ret [1, 1, 0, 1, 0] ks k st (evBody.endK tab (c16 n) Tryd.f16)
theorem el16_0 (n : Nat) : ∀ (k : Nat), ∀ (l0 : List (List (ByteArray × (Int × (Int × (Bool × (Int × (Int × (Int × (Int × (Int × Int))))))))))) (s1 : ByteArray) (i2 : Int) (l3 : List Int), ga16_0 n [] k (S16_0 l0 s1 i2 l3) = lp16_0 n k l0 s1 i2 l3 := by
  intro k
  induction k with
  | zero => intros; rfl
  | succ k ih =>
    intro l0 s1 i2 l3
    have h : ga16_0 n [] (k + 1) (S16_0 l0 s1 i2 l3) = st16_0 n (fun w0 w1 w2 w3 => ga16_0 n [] k (S16_0 w0 w1 w2 w3)) l0 s1 i2 l3 := by kernel_rfl
    rw [h]
    have e : (fun w0 w1 w2 w3 => ga16_0 n [] k (S16_0 w0 w1 w2 w3)) = lp16_0 n k := by
      funext w0 w1 w2 w3; exact ih w0 w1 w2 w3
    rw [e]
    rfl
theorem e16 (n : Nat) (x : List (List (ByteArray × (Int × (Int × (Bool × (Int × (Int × (Int × (Int × (Int × Int)))))))))) × ByteArray × Unit) : evBody tab (G16 n) n (c16 n) Tryd.f16 x = F16 n x.1 x.2.1 := by
  have h : evBody tab (G16 n) n (c16 n) Tryd.f16 x = st16 n (fun w0 w1 w2 w3 => ga16_0 n [] n (S16_0 w0 w1 w2 w3)) x.1 x.2.1 := by kernel_rfl
  rw [h]
  have e0 : (fun w0 w1 w2 w3 => ga16_0 n [] n (S16_0 w0 w1 w2 w3)) = lp16_0 n n := by
    funext w0 w1 w2 w3; exact el16_0 n n w0 w1 w2 w3
  rw [e0]
  rfl
theorem g16 (W : World) (n : Nat) : Good Tryd.prog W 16 (c16 n) := body_good follows tabOk (GamOk.cons (g44 W n) (GamOk.cons (g45 W n) GamOk.nil)) (f := 16) (fn := Tryd.f16) (c := bodyOf Tryd.f16) (by kernel_rfl) (by kernel_rfl) (by kernel_rfl) (by kernel_rfl) (by kernel_rfl) (by kernel_rfl) (by kernel_rfl) (fun x r h => ⟨n, (e16 n x).trans h⟩)
/-! spec.RuleOk -/
noncomputable def F17 (n : Nat) (a0 : ByteArray) (a1 : Int) (a2 : Int) (a3 : Int) : Option (Bool × Unit) :=
  (F46 n a0).bind fun r1 =>
  if r1.1 = true then
    (F36 n a1 (1 : Int) (2 : Int)).bind fun r2 =>
    if r2.1 = true then
      (F36 n a2 (0 : Int) (999999999 : Int)).bind fun r3 =>
      if r3.1 = true then
        (F36 n a3 (1 : Int) (9 : Int)).bind fun r4 =>
        some (r4.1, ())
      else
        some (false, ())
    else
      some (false, ())
  else
    some (false, ())
noncomputable def c17 (n : Nat) : Con := ⟨[.agg [(.str), (.int .i64), (.int .i64), (.int .i64)]], [], [.one (.bool)], [], fun (x : ByteArray × Int × Int × Int × Unit) => F17 n x.1 x.2.1 x.2.2.1 x.2.2.2.1⟩
noncomputable def G17 (n : Nat) : Gam := [((36, []), c36 n), ((46, []), c46 n)]
theorem e17 (n : Nat) (x : ByteArray × Int × Int × Int × Unit) : evBody tab (G17 n) n (c17 n) Tryd.f17 x = F17 n x.1 x.2.1 x.2.2.1 x.2.2.2.1 := by kernel_rfl
theorem g17 (W : World) (n : Nat) : Good Tryd.prog W 17 (c17 n) := body_good follows tabOk (GamOk.cons (g36 W n) (GamOk.cons (g46 W n) GamOk.nil)) (f := 17) (fn := Tryd.f17) (c := bodyOf Tryd.f17) (by kernel_rfl) (by kernel_rfl) (by kernel_rfl) (by kernel_rfl) (by kernel_rfl) (by kernel_rfl) (by kernel_rfl) (fun x r h => ⟨n, (e17 n x).trans h⟩)
/-! laws.has -/
noncomputable def st19_0 (n : Nat) (g0 : (List Int) → Int → Int → Option (Bool × Unit)) (l0 : List Int) (i1 : Int) (i2 : Int) : Option (Bool × Unit) :=
  if (decide (i2 < (l0.length : Int))) = true then
    if (decide (0 ≤ i2)) = true then
    if (decide (i2 < (l0.length : Int))) = true then
    if (decide ((rdOf (0 : Int) l0 i2) = i1)) = true then
      some (true, ())
    else
      g0 l0 i1 (wrap64 (i2 + 1))
    else none
    else none
  else
    some (false, ())
noncomputable def lp19_0 (n : Nat) : Nat → (List Int) → Int → Int → Option (Bool × Unit)
  | 0 => fun _ _ _ => none
  | k + 1 => st19_0 n (lp19_0 n k)
noncomputable def st19 (n : Nat) (h0 : (List Int) → Int → Int → Option (Bool × Unit)) (a0 : List Int) (a1 : Int) : Option (Bool × Unit) :=
  h0 a0 a1 (0 : Int)
noncomputable def F19 (n : Nat) (a0 : List Int) (a1 : Int) : Option (Bool × Unit) := st19 n (lp19_0 n n) a0 a1
noncomputable def c19 (n : Nat) : Con := ⟨[.one (.sl (.imm true) 3 (.int .i64)), .one (.int .i64)], [], [.one (.bool)], [], fun (x : List Int × Int × Unit) => F19 n x.1 x.2.1⟩
noncomputable def G19 (n : Nat) : Gam := []
noncomputable def S19_0 (l0 : List Int) (i1 : Int) (i2 : Int) : St := ⟨[.sl (.imm true) 3 (.int .i64) l0, .int .i64 i1, .dead, .dead, .dead, .int .i64 i2] ++ List.replicate 12 .dead, List.replicate 18 Ob.none⟩
noncomputable def ga19_0 (n : Nat) (ks : List Nat) (k : Nat) (st : St) : Option (Bool × Unit) := goAt tab (G19 n) n (bodyOf Tryd.f19) (lvOf Tryd.f19) (lvOf Tryd.f19).ret [1, 0, 1, 0] ks k st (evBody.endK tab (c19 n) Tryd.f19)
theorem el19_0 (n : Nat) : ∀ (k : Nat), ∀ (l0 : List Int) (i1 : Int) (i2 : Int), ga19_0 n [] k (S19_0 l0 i1 i2) = lp19_0 n k l0 i1 i2 := by
  intro k
  induction k with
  | zero => intros; rfl
  | succ k ih =>
    intro l0 i1 i2
    have h : ga19_0 n [] (k + 1) (S19_0 l0 i1 i2) = st19_0 n (fun w0 w1 w2 => ga19_0 n [] k (S19_0 w0 w1 w2)) l0 i1 i2 := by kernel_rfl
    rw [h]
    have e : (fun w0 w1 w2 => ga19_0 n [] k (S19_0 w0 w1 w2)) = lp19_0 n k := by
      funext w0 w1 w2; exact ih w0 w1 w2
    rw [e]
    rfl
theorem e19 (n : Nat) (x : List Int × Int × Unit) : evBody tab (G19 n) n (c19 n) Tryd.f19 x = F19 n x.1 x.2.1 := by
  have h : evBody tab (G19 n) n (c19 n) Tryd.f19 x = st19 n (fun w0 w1 w2 => ga19_0 n [] n (S19_0 w0 w1 w2)) x.1 x.2.1 := by kernel_rfl
  rw [h]
  have e0 : (fun w0 w1 w2 => ga19_0 n [] n (S19_0 w0 w1 w2)) = lp19_0 n n := by
    funext w0 w1 w2; exact el19_0 n n w0 w1 w2
  rw [e0]
  rfl
theorem g19 (W : World) (n : Nat) : Good Tryd.prog W 19 (c19 n) := body_good follows tabOk GamOk.nil (f := 19) (fn := Tryd.f19) (c := bodyOf Tryd.f19) (by kernel_rfl) (by kernel_rfl) (by kernel_rfl) (by kernel_rfl) (by kernel_rfl) (by kernel_rfl) (by kernel_rfl) (fun x r h => ⟨n, (e19 n x).trans h⟩)
/-! impl.Dec -/
noncomputable def F35 (n : Nat) (a0 : Int) : Option (ByteArray × Unit) :=
  (F71 n a0).bind fun r1 =>
  some (r1.1, ())
noncomputable def c35 (n : Nat) : Con := ⟨[.one (.int .i64)], [], [.one (.str)], [], fun (x : Int × Unit) => F35 n x.1⟩
noncomputable def G35 (n : Nat) : Gam := [((71, []), c71 n)]
theorem e35 (n : Nat) (x : Int × Unit) : evBody tab (G35 n) n (c35 n) Tryd.f35 x = F35 n x.1 := by kernel_rfl
theorem g35 (W : World) (n : Nat) (h71 : ∀ n, Good Tryd.prog W 71 (c71 n)) : Good Tryd.prog W 35 (c35 n) := body_good follows tabOk (GamOk.cons ((fun (_ : World) => h71) W n) GamOk.nil) (f := 35) (fn := Tryd.f35) (c := bodyOf Tryd.f35) (by kernel_rfl) (by kernel_rfl) (by kernel_rfl) (by kernel_rfl) (by kernel_rfl) (by kernel_rfl) (by kernel_rfl) (fun x r h => ⟨n, (e35 n x).trans h⟩)
/-! impl.ShowRule -/
noncomputable def j20_0 (n : Nat) (s0 : ByteArray) (s1 : ByteArray) (i2 : Int) (i3 : Int) (i4 : Int) : Option (ByteArray × Unit) :=
  if (decide ((s1.size + s0.size : Nat) ≤ 9223372036854775807)) = true then
  (F35 n i3).bind fun r2 =>
  if (decide (((s1 ++ s0).size + r2.1.size : Nat) ≤ 9223372036854775807)) = true then
  if (decide ((((s1 ++ s0) ++ r2.1).size + (⟨#[32, 102, 111, 114, 32]⟩ : ByteArray).size : Nat) ≤ 9223372036854775807)) = true then
  (F35 n i4).bind fun r3 =>
  if (decide (((((s1 ++ s0) ++ r2.1) ++ (⟨#[32, 102, 111, 114, 32]⟩ : ByteArray)).size + r3.1.size : Nat) ≤ 9223372036854775807)) = true then
  some (((((s1 ++ s0) ++ r2.1) ++ (⟨#[32, 102, 111, 114, 32]⟩ : ByteArray)) ++ r3.1), ())
  else none
  else none
  else none
  else none
noncomputable def F20 (n : Nat) (a0 : ByteArray) (a1 : Int) (a2 : Int) (a3 : Int) : Option (ByteArray × Unit) :=
  (F42 n a0 a1 a2 a3).bind fun r1 =>
  if (!r1.1) = true then
    some ((⟨#[]⟩ : ByteArray), ())
  else
    if (decide (a1 = 2)) = true then
      j20_0 n (⟨#[60]⟩ : ByteArray) a0 a1 a2 a3
    else
      j20_0 n (⟨#[62]⟩ : ByteArray) a0 a1 a2 a3
noncomputable def c20 (n : Nat) : Con := ⟨[.agg [(.str), (.int .i64), (.int .i64), (.int .i64)]], [], [.one (.str)], [], fun (x : ByteArray × Int × Int × Int × Unit) => F20 n x.1 x.2.1 x.2.2.1 x.2.2.2.1⟩
noncomputable def G20 (n : Nat) : Gam := [((35, []), c35 n), ((42, []), c42 n)]
theorem e20 (n : Nat) (x : ByteArray × Int × Int × Int × Unit) : evBody tab (G20 n) n (c20 n) Tryd.f20 x = F20 n x.1 x.2.1 x.2.2.1 x.2.2.2.1 := by kernel_rfl
theorem g20 (W : World) (n : Nat) (h71 : ∀ n, Good Tryd.prog W 71 (c71 n)) : Good Tryd.prog W 20 (c20 n) := body_good follows tabOk (GamOk.cons (g35 W n h71) (GamOk.cons (g42 W n) GamOk.nil)) (f := 20) (fn := Tryd.f20) (c := bodyOf Tryd.f20) (by kernel_rfl) (by kernel_rfl) (by kernel_rfl) (by kernel_rfl) (by kernel_rfl) (by kernel_rfl) (by kernel_rfl) (fun x r h => ⟨n, (e20 n x).trans h⟩)
/-! impl.ReadDec -/
noncomputable def st49_0 (n : Nat) (g0 : ByteArray → ByteArray → Int → Int → Int → Int → Option (Int × Bool × Unit)) (s0 : ByteArray) (s1 : ByteArray) (i2 : Int) (i3 : Int) (i4 : Int) (i5 : Int) : Option (Int × Bool × Unit) :=
  if (decide (i5 < i4)) = true then
    if (decide (0 ≤ i5)) = true then
    if (decide (i5 < (s1.size : Int))) = true then
    if (decide ((bt s1 i5) < 48)) = true then
      some (0, false, ())
    else
      if (decide (0 ≤ i5)) = true then
      if (decide (i5 < (s1.size : Int))) = true then
      if (decide ((bt s1 i5) > 57)) = true then
        some (0, false, ())
      else
        if (decide (0 ≤ i5)) = true then
        if (decide (i5 < (s1.size : Int))) = true then
        g0 s0 s1 i2 (wrap64 ((wrap64 (10 * i3)) + (wrap64 ((wrapI .u8 ((bt s1 i5) - 48)))))) i4 (wrap64 (i5 + 1))
        else none
        else none
      else none
      else none
    else none
    else none
  else
    (F35 n (wrap64 (i2 * i3))).bind fun r2 =>
    if (!decide (r2.1.toList = s0.toList)) = true then
      some (0, false, ())
    else
      some ((wrap64 (i2 * i3)), true, ())
noncomputable def lp49_0 (n : Nat) : Nat → ByteArray → ByteArray → Int → Int → Int → Int → Option (Int × Bool × Unit)
  | 0 => fun _ _ _ _ _ _ => none
  | k + 1 => st49_0 n (lp49_0 n k)
noncomputable def st49 (n : Nat) (h0 : ByteArray → ByteArray → Int → Int → Int → Int → Option (Int × Bool × Unit)) (a0 : ByteArray) : Option (Int × Bool × Unit) :=
  if (decide ((a0.size : Int) > 0)) = true then
    if (decide (0 ≤ 0)) = true then
    if (decide (0 < (a0.size : Int))) = true then
    if (decide ((bt a0 (0 : Int)) = 45)) = true then
      if (decide (0 ≤ 1)) = true then
      if (decide (1 ≤ (a0.size : Int))) = true then
      if (decide ((a0.size : Int) ≤ (a0.size : Int))) = true then
      (F70 n ((a0.extract (1 : Int).toNat (a0.size : Int).toNat).size : Int) (1 : Int) (9 : Int)).bind fun r1 =>
      if (!r1.1) = true then
        some (0, false, ())
      else
        h0 a0 (a0.extract (1 : Int).toNat (a0.size : Int).toNat) (-1) (0 : Int) ((a0.extract (1 : Int).toNat (a0.size : Int).toNat).size : Int) (0 : Int)
      else none
      else none
      else none
    else
      (F70 n (a0.size : Int) (1 : Int) (9 : Int)).bind fun r3 =>
      if (!r3.1) = true then
        some (0, false, ())
      else
        h0 a0 a0 (1 : Int) (0 : Int) (a0.size : Int) (0 : Int)
    else none
    else none
  else
    (F70 n (a0.size : Int) (1 : Int) (9 : Int)).bind fun r4 =>
    if (!r4.1) = true then
      some (0, false, ())
    else
      h0 a0 a0 (1 : Int) (0 : Int) (a0.size : Int) (0 : Int)
noncomputable def F49 (n : Nat) (a0 : ByteArray) : Option (Int × Bool × Unit) := st49 n (lp49_0 n n) a0
noncomputable def c49 (n : Nat) : Con := ⟨[.one (.str)], [], [.one (.int .i64), .one (.bool)], [], fun (x : ByteArray × Unit) => F49 n x.1⟩
noncomputable def G49 (n : Nat) : Gam := [((35, []), c35 n), ((70, []), c70 n)]
noncomputable def S49_0 (s0 : ByteArray) (s1 : ByteArray) (i2 : Int) (i3 : Int) (i4 : Int) (i5 : Int) : St := ⟨[.str s0, .dead, .dead, .dead, .str s1, .int .i64 i2, .int .i64 i3] ++ List.replicate 17 .dead ++ [.int .i64 i4, .int .i64 i5] ++ List.replicate 30 .dead, List.replicate 56 Ob.none⟩
noncomputable def ga49_0 (n : Nat) (ks : List Nat) (k : Nat) (st : St) : Option (Int × Bool × Unit) := goAt tab (G49 n) n (bodyOf Tryd.f49) (lvOf Tryd.f49) (lvOf Tryd.f49).ret [1, 1, 1, 1, 1, 0, 1, 0] ks k st (evBody.endK tab (c49 n) Tryd.f49)
theorem el49_0 (n : Nat) : ∀ (k : Nat), ∀ (s0 : ByteArray) (s1 : ByteArray) (i2 : Int) (i3 : Int) (i4 : Int) (i5 : Int), ga49_0 n [] k (S49_0 s0 s1 i2 i3 i4 i5) = lp49_0 n k s0 s1 i2 i3 i4 i5 := by
  intro k
  induction k with
  | zero => intros; rfl
  | succ k ih =>
    intro s0 s1 i2 i3 i4 i5
    have h : ga49_0 n [] (k + 1) (S49_0 s0 s1 i2 i3 i4 i5) = st49_0 n (fun w0 w1 w2 w3 w4 w5 => ga49_0 n [] k (S49_0 w0 w1 w2 w3 w4 w5)) s0 s1 i2 i3 i4 i5 := by kernel_rfl
    rw [h]
    have e : (fun w0 w1 w2 w3 w4 w5 => ga49_0 n [] k (S49_0 w0 w1 w2 w3 w4 w5)) = lp49_0 n k := by
      funext w0 w1 w2 w3 w4 w5; exact ih w0 w1 w2 w3 w4 w5
    rw [e]
    rfl
theorem e49 (n : Nat) (x : ByteArray × Unit) : evBody tab (G49 n) n (c49 n) Tryd.f49 x = F49 n x.1 := by
  have h : evBody tab (G49 n) n (c49 n) Tryd.f49 x = st49 n (fun w0 w1 w2 w3 w4 w5 => ga49_0 n [] n (S49_0 w0 w1 w2 w3 w4 w5)) x.1 := by kernel_rfl
  rw [h]
  have e0 : (fun w0 w1 w2 w3 w4 w5 => ga49_0 n [] n (S49_0 w0 w1 w2 w3 w4 w5)) = lp49_0 n n := by
    funext w0 w1 w2 w3 w4 w5; exact el49_0 n n w0 w1 w2 w3 w4 w5
  rw [e0]
  rfl
theorem g49 (W : World) (n : Nat) (h71 : ∀ n, Good Tryd.prog W 71 (c71 n)) : Good Tryd.prog W 49 (c49 n) := body_good follows tabOk (GamOk.cons (g35 W n h71) (GamOk.cons (g70 W n) GamOk.nil)) (f := 49) (fn := Tryd.f49) (c := bodyOf Tryd.f49) (by kernel_rfl) (by kernel_rfl) (by kernel_rfl) (by kernel_rfl) (by kernel_rfl) (by kernel_rfl) (by kernel_rfl) (fun x r h => ⟨n, (e49 n x).trans h⟩)
/-! impl.ReadRule -/
noncomputable def F21 (n : Nat) (a0 : ByteArray) : Option (ByteArray × Int × Int × Int × Bool × Unit) :=
  (F47 n a0 (⟨#[60, 62]⟩ : ByteArray)).bind fun r1 =>
  if (decide (r1.1 < 0)) = true then
    some ((⟨#[]⟩ : ByteArray), 0, 0, 0, false, ())
  else
    if (decide (0 ≤ (wrap64 (r1.1 + 1)))) = true then
    if (decide ((wrap64 (r1.1 + 1)) ≤ (a0.size : Int))) = true then
    if (decide ((a0.size : Int) ≤ (a0.size : Int))) = true then
    (F48 n (a0.extract (wrap64 (r1.1 + 1)).toNat (a0.size : Int).toNat) (⟨#[32, 102, 111, 114, 32]⟩ : ByteArray)).bind fun r2 =>
    if (decide (0 ≤ 0)) = true then
    if (decide (0 ≤ r1.1)) = true then
    if (decide (r1.1 ≤ (a0.size : Int))) = true then
    if (decide (0 ≤ r1.1)) = true then
    if (decide (r1.1 < (a0.size : Int))) = true then
    if (decide ((bt a0 r1.1) = 60)) = true then
      (F49 n r2.1).bind fun r3 =>
      (F49 n r2.2.1).bind fun r4 =>
      (F20 n (a0.extract (0 : Int).toNat r1.1.toNat) (2 : Int) r3.1 r4.1).bind fun r5 =>
      if (!decide (r5.1.toList = a0.toList)) = true then
        some ((⟨#[]⟩ : ByteArray), 0, 0, 0, false, ())
      else
        some ((a0.extract (0 : Int).toNat r1.1.toNat), 2, r3.1, r4.1, true, ())
    else
      (F49 n r2.1).bind fun r6 =>
      (F49 n r2.2.1).bind fun r7 =>
      (F20 n (a0.extract (0 : Int).toNat r1.1.toNat) (1 : Int) r6.1 r7.1).bind fun r8 =>
      if (!decide (r8.1.toList = a0.toList)) = true then
        some ((⟨#[]⟩ : ByteArray), 0, 0, 0, false, ())
      else
        some ((a0.extract (0 : Int).toNat r1.1.toNat), 1, r6.1, r7.1, true, ())
    else none
    else none
    else none
    else none
    else none
    else none
    else none
    else none
noncomputable def c21 (n : Nat) : Con := ⟨[.one (.str)], [], [.agg [(.str), (.int .i64), (.int .i64), (.int .i64)], .one (.bool)], [], fun (x : ByteArray × Unit) => F21 n x.1⟩
noncomputable def G21 (n : Nat) : Gam := [((20, []), c20 n), ((47, []), c47 n), ((48, []), c48 n), ((49, []), c49 n)]
theorem e21 (n : Nat) (x : ByteArray × Unit) : evBody tab (G21 n) n (c21 n) Tryd.f21 x = F21 n x.1 := by kernel_rfl
theorem g21 (W : World) (n : Nat) (h47 : ∀ n, Good Tryd.prog W 47 (c47 n)) (h48 : ∀ n, Good Tryd.prog W 48 (c48 n)) (h71 : ∀ n, Good Tryd.prog W 71 (c71 n)) : Good Tryd.prog W 21 (c21 n) := body_good follows tabOk (GamOk.cons (g20 W n h71) (GamOk.cons ((fun (_ : World) => h47) W n) (GamOk.cons ((fun (_ : World) => h48) W n) (GamOk.cons (g49 W n h71) GamOk.nil)))) (f := 21) (fn := Tryd.f21) (c := bodyOf Tryd.f21) (by kernel_rfl) (by kernel_rfl) (by kernel_rfl) (by kernel_rfl) (by kernel_rfl) (by kernel_rfl) (by kernel_rfl) (fun x r h => ⟨n, (e21 n x).trans h⟩)
/-! spec.Dec -/
noncomputable def j11_0 (n : Nat) (g0 : Int → ByteArray → Bool → Option (ByteArray × Unit)) (i0 : Int) (s1 : ByteArray) (b2 : Bool) (i3 : Int) : Option (ByteArray × Unit) :=
  if (decide (((strOf ([(wrapI .u8 ((wrap64 (48 + i3))))] : List Int)).size + s1.size : Nat) ≤ 9223372036854775807)) = true then
  if (decide (10 ≠ 0)) = true then
  g0 (wrap64 (i0.tdiv (10 : Int))) ((strOf ([(wrapI .u8 ((wrap64 (48 + i3))))] : List Int)) ++ s1) b2
  else none
  else none
noncomputable def st11_0 (n : Nat) (g0 : Int → ByteArray → Bool → Option (ByteArray × Unit)) (i0 : Int) (s1 : ByteArray) (b2 : Bool) : Option (ByteArray × Unit) :=
  if (decide (i0 ≠ 0)) = true then
    if (decide (10 ≠ 0)) = true then
    if (decide ((i0.tmod (10 : Int)) < 0)) = true then
      j11_0 n g0 i0 s1 b2 (wrap64 (0 - (i0.tmod (10 : Int))))
    else
      j11_0 n g0 i0 s1 b2 (i0.tmod (10 : Int))
    else none
  else
    if b2 = true then
      if (decide (((⟨#[45]⟩ : ByteArray).size + s1.size : Nat) ≤ 9223372036854775807)) = true then
      some (((⟨#[45]⟩ : ByteArray) ++ s1), ())
      else none
    else
      some (s1, ())
noncomputable def lp11_0 (n : Nat) : Nat → Int → ByteArray → Bool → Option (ByteArray × Unit)
  | 0 => fun _ _ _ => none
  | k + 1 => st11_0 n (lp11_0 n k)
noncomputable def st11 (n : Nat) (h0 : Int → ByteArray → Bool → Option (ByteArray × Unit)) (a0 : Int) : Option (ByteArray × Unit) :=
  if (decide (a0 = 0)) = true then
    some ((⟨#[48]⟩ : ByteArray), ())
  else
    h0 a0 (⟨#[]⟩ : ByteArray) (decide (a0 < 0))
noncomputable def F11 (n : Nat) (a0 : Int) : Option (ByteArray × Unit) := st11 n (lp11_0 n n) a0
noncomputable def c11 (n : Nat) : Con := ⟨[.one (.int .i64)], [], [.one (.str)], [], fun (x : Int × Unit) => F11 n x.1⟩
noncomputable def G11 (n : Nat) : Gam := []
noncomputable def S11_0 (i0 : Int) (s1 : ByteArray) (b2 : Bool) : St := ⟨[.int .i64 i0, .dead, .dead, .str s1, .bool b2] ++ List.replicate 26 .dead, List.replicate 31 Ob.none⟩
noncomputable def ga11_0 (n : Nat) (ks : List Nat) (k : Nat) (st : St) : Option (ByteArray × Unit) := goAt tab (G11 n) n (bodyOf Tryd.f11) (lvOf Tryd.f11) (lvOf Tryd.f11).ret [1, 1, 1, 1, 0, 0] ks k st (evBody.endK tab (c11 n) Tryd.f11)
theorem el11_0 (n : Nat) : ∀ (k : Nat), ∀ (i0 : Int) (s1 : ByteArray) (b2 : Bool), ga11_0 n [] k (S11_0 i0 s1 b2) = lp11_0 n k i0 s1 b2 := by
  intro k
  induction k with
  | zero => intros; rfl
  | succ k ih =>
    intro i0 s1 b2
    have h : ga11_0 n [] (k + 1) (S11_0 i0 s1 b2) = st11_0 n (fun w0 w1 w2 => ga11_0 n [] k (S11_0 w0 w1 w2)) i0 s1 b2 := by kernel_rfl
    rw [h]
    have e : (fun w0 w1 w2 => ga11_0 n [] k (S11_0 w0 w1 w2)) = lp11_0 n k := by
      funext w0 w1 w2; exact ih w0 w1 w2
    rw [e]
    rfl
theorem e11 (n : Nat) (x : Int × Unit) : evBody tab (G11 n) n (c11 n) Tryd.f11 x = F11 n x.1 := by
  have h : evBody tab (G11 n) n (c11 n) Tryd.f11 x = st11 n (fun w0 w1 w2 => ga11_0 n [] n (S11_0 w0 w1 w2)) x.1 := by kernel_rfl
  rw [h]
  have e0 : (fun w0 w1 w2 => ga11_0 n [] n (S11_0 w0 w1 w2)) = lp11_0 n n := by
    funext w0 w1 w2; exact el11_0 n n w0 w1 w2
  rw [e0]
  rfl
theorem g11 (W : World) (n : Nat) : Good Tryd.prog W 11 (c11 n) := body_good follows tabOk GamOk.nil (f := 11) (fn := Tryd.f11) (c := bodyOf Tryd.f11) (by kernel_rfl) (by kernel_rfl) (by kernel_rfl) (by kernel_rfl) (by kernel_rfl) (by kernel_rfl) (by kernel_rfl) (fun x r h => ⟨n, (e11 n x).trans h⟩)
/-! spec.ShowRule -/
noncomputable def F50 (n : Nat) (a0 : ByteArray) (a1 : Int) (a2 : Int) (a3 : Int) : Option (ByteArray × Unit) :=
  (F17 n a0 a1 a2 a3).bind fun r1 =>
  if (!r1.1) = true then
    some ((⟨#[]⟩ : ByteArray), ())
  else
    if (decide (0 ≤ a1)) = true then
    if (decide (a1 < (([(⟨#[]⟩ : ByteArray), (⟨#[62]⟩ : ByteArray), (⟨#[60]⟩ : ByteArray)] : List ByteArray).length : Int))) = true then
    if (decide ((a0.size + (rdOf (⟨#[]⟩ : ByteArray) ([(⟨#[]⟩ : ByteArray), (⟨#[62]⟩ : ByteArray), (⟨#[60]⟩ : ByteArray)] : List ByteArray) a1).size : Nat) ≤ 9223372036854775807)) = true then
    (F11 n a2).bind fun r2 =>
    if (decide (((a0 ++ (rdOf (⟨#[]⟩ : ByteArray) ([(⟨#[]⟩ : ByteArray), (⟨#[62]⟩ : ByteArray), (⟨#[60]⟩ : ByteArray)] : List ByteArray) a1)).size + r2.1.size : Nat) ≤ 9223372036854775807)) = true then
    if (decide ((((a0 ++ (rdOf (⟨#[]⟩ : ByteArray) ([(⟨#[]⟩ : ByteArray), (⟨#[62]⟩ : ByteArray), (⟨#[60]⟩ : ByteArray)] : List ByteArray) a1)) ++ r2.1).size + (⟨#[32, 102, 111, 114, 32]⟩ : ByteArray).size : Nat) ≤ 9223372036854775807)) = true then
    (F11 n a3).bind fun r3 =>
    if (decide (((((a0 ++ (rdOf (⟨#[]⟩ : ByteArray) ([(⟨#[]⟩ : ByteArray), (⟨#[62]⟩ : ByteArray), (⟨#[60]⟩ : ByteArray)] : List ByteArray) a1)) ++ r2.1) ++ (⟨#[32, 102, 111, 114, 32]⟩ : ByteArray)).size + r3.1.size : Nat) ≤ 9223372036854775807)) = true then
    some (((((a0 ++ (rdOf (⟨#[]⟩ : ByteArray) ([(⟨#[]⟩ : ByteArray), (⟨#[62]⟩ : ByteArray), (⟨#[60]⟩ : ByteArray)] : List ByteArray) a1)) ++ r2.1) ++ (⟨#[32, 102, 111, 114, 32]⟩ : ByteArray)) ++ r3.1), ())
    else none
    else none
    else none
    else none
    else none
    else none
noncomputable def c50 (n : Nat) : Con := ⟨[.agg [(.str), (.int .i64), (.int .i64), (.int .i64)]], [], [.one (.str)], [], fun (x : ByteArray × Int × Int × Int × Unit) => F50 n x.1 x.2.1 x.2.2.1 x.2.2.2.1⟩
noncomputable def G50 (n : Nat) : Gam := [((11, []), c11 n), ((17, []), c17 n)]
theorem e50 (n : Nat) (x : ByteArray × Int × Int × Int × Unit) : evBody tab (G50 n) n (c50 n) Tryd.f50 x = F50 n x.1 x.2.1 x.2.2.1 x.2.2.2.1 := by kernel_rfl
theorem g50 (W : World) (n : Nat) : Good Tryd.prog W 50 (c50 n) := body_good follows tabOk (GamOk.cons (g11 W n) (GamOk.cons (g17 W n) GamOk.nil)) (f := 50) (fn := Tryd.f50) (c := bodyOf Tryd.f50) (by kernel_rfl) (by kernel_rfl) (by kernel_rfl) (by kernel_rfl) (by kernel_rfl) (by kernel_rfl) (by kernel_rfl) (fun x r h => ⟨n, (e50 n x).trans h⟩)
end Go.Eva
end
section
/- The functions, as their texts evaluate. -/
set_option linter.unusedVariables false
set_option maxRecDepth 100000
namespace Go.Eva
open Go.Proofs
open Go.RowKit (wrap64)
/-! spec.l1Text -/
noncomputable def j86_0 (n : Nat) (g0 : Int → Int → (List Int) → (List Int) → Int → Int → Option (ByteArray × List Int × Int × Int × Unit)) (i0 : Int) (i1 : Int) (i2 : Int) (l3 : List Int) (l4 : List Int) (i5 : Int) (i6 : Int) : Option (ByteArray × List Int × Int × Int × Unit) :=
  if (decide ((l3.length + ([(wrapI .u8 (i2))] : List Int).length) * 1 ≤ 140737488355328)) = true then
  g0 i0 (wrap64 (i1 - 1)) (l3 ++ ([(wrapI .u8 (i2))] : List Int)) l4 i5 i6
  else none
noncomputable def st86_0 (n : Nat) (g0 : Int → Int → (List Int) → (List Int) → Int → Int → Option (ByteArray × List Int × Int × Int × Unit)) (i0 : Int) (i1 : Int) (l2 : List Int) (l3 : List Int) (i4 : Int) (i5 : Int) : Option (ByteArray × List Int × Int × Int × Unit) :=
  if (decide (i1 > 0)) = true then
    (F72 n l3 i4 i5).bind fun r3 =>
    if (decide (i0 = 1)) = true then
      if (decide (2 ≠ 0)) = true then
      if (decide (i0 = 2)) = true then
        if (decide (4 ≠ 0)) = true then
        j86_0 n g0 i0 i1 (wrap64 (97 + ((r3.1.tmod (2 : Int)).tmod (4 : Int)))) l2 r3.2.1 r3.2.2.1 r3.2.2.2.1
        else none
      else
        j86_0 n g0 i0 i1 (r3.1.tmod (2 : Int)) l2 r3.2.1 r3.2.2.1 r3.2.2.2.1
      else none
    else
      if (decide (i0 = 2)) = true then
        if (decide (4 ≠ 0)) = true then
        j86_0 n g0 i0 i1 (wrap64 (97 + (r3.1.tmod (4 : Int)))) l2 r3.2.1 r3.2.2.1 r3.2.2.2.1
        else none
      else
        j86_0 n g0 i0 i1 r3.1 l2 r3.2.1 r3.2.2.1 r3.2.2.2.1
  else
    some ((strOf l2), l3, i4, i5, ())
noncomputable def lp86_0 (n : Nat) : Nat → Int → Int → (List Int) → (List Int) → Int → Int → Option (ByteArray × List Int × Int × Int × Unit)
  | 0 => fun _ _ _ _ _ _ => none
  | k + 1 => st86_0 n (lp86_0 n k)
noncomputable def st86 (n : Nat) (h0 : Int → Int → (List Int) → (List Int) → Int → Int → Option (ByteArray × List Int × Int × Int × Unit)) (a1 : Int) (a2 : List Int) (a3 : Int) (a4 : Int) : Option (ByteArray × List Int × Int × Int × Unit) :=
  (F39 n (4 : Int) a2 a3 a4).bind fun r1 =>
  (F39 n (wrap64 (a1 + 1)) r1.2.1 r1.2.2.1 r1.2.2.2.1).bind fun r2 =>
  h0 r1.1 r2.1 ([] : List Int) r2.2.1 r2.2.2.1 r2.2.2.2.1
noncomputable def F86 (n : Nat) (a1 : Int) (a2 : List Int) (a3 : Int) (a4 : Int) : Option (ByteArray × List Int × Int × Int × Unit) := st86 n (lp86_0 n n) a1 a2 a3 a4
noncomputable def c86 (n : Nat) : Con := ⟨[.one (.ptr 0 0), .one (.int .i64)], [[(.sl (.imm false) 5 (.int .u8)), (.int .i64), (.int .i64)]], [.one (.str)], [[(.sl (.imm false) 5 (.int .u8)), (.int .i64), (.int .i64)]], fun (x : Unit × Int × List Int × Int × Int × Unit) => F86 n x.2.1 x.2.2.1 x.2.2.2.1 x.2.2.2.2.1⟩
noncomputable def G86 (n : Nat) : Gam := [((39, []), c39 n), ((72, []), c72 n)]
noncomputable def S86_0 (i0 : Int) (i1 : Int) (l2 : List Int) (l3 : List Int) (i4 : Int) (i5 : Int) : St := ⟨[.ptr 38 0] ++ List.replicate 4 .dead ++ [.sr 5 0 none 0 0 none, .int .i64 i0, .int .i64 i1] ++ List.replicate 30 .dead, List.replicate 5 Ob.none ++ [⟨false, [.sl .own 5 (.int .u8) l2], 0, 0⟩] ++ List.replicate 32 Ob.none ++ [⟨true, [.sl (.imm false) 5 (.int .u8) l3, .int .i64 i4, .int .i64 i5], 0, 0⟩]⟩
noncomputable def ga86_0 (n : Nat) (ks : List Nat) (k : Nat) (st : St) : Option (ByteArray × List Int × Int × Int × Unit) := goAt tab (G86 n) n (bodyOf Tryd.f86) (lvOf Tryd.f86) (lvOf Tryd.f86).ret [1, 1, 1, 0, 1, 0] ks k st (evBody.endK tab (c86 n) Tryd.f86)
theorem el86_0 (n : Nat) : ∀ (k : Nat), ∀ (i0 : Int) (i1 : Int) (l2 : List Int) (l3 : List Int) (i4 : Int) (i5 : Int), ga86_0 n [] k (S86_0 i0 i1 l2 l3 i4 i5) = lp86_0 n k i0 i1 l2 l3 i4 i5 := by
  intro k
  induction k with
  | zero => intros; rfl
  | succ k ih =>
    intro i0 i1 l2 l3 i4 i5
    have h : ga86_0 n [] (k + 1) (S86_0 i0 i1 l2 l3 i4 i5) = st86_0 n (fun w0 w1 w2 w3 w4 w5 => ga86_0 n [] k (S86_0 w0 w1 w2 w3 w4 w5)) i0 i1 l2 l3 i4 i5 := by kernel_rfl
    rw [h]
    have e : (fun w0 w1 w2 w3 w4 w5 => ga86_0 n [] k (S86_0 w0 w1 w2 w3 w4 w5)) = lp86_0 n k := by
      funext w0 w1 w2 w3 w4 w5; exact ih w0 w1 w2 w3 w4 w5
    rw [e]
    rfl
theorem e86 (n : Nat) (x : Unit × Int × List Int × Int × Int × Unit) : evBody tab (G86 n) n (c86 n) Tryd.f86 x = F86 n x.2.1 x.2.2.1 x.2.2.2.1 x.2.2.2.2.1 := by
  have h : evBody tab (G86 n) n (c86 n) Tryd.f86 x = st86 n (fun w0 w1 w2 w3 w4 w5 => ga86_0 n [] n (S86_0 w0 w1 w2 w3 w4 w5)) x.2.1 x.2.2.1 x.2.2.2.1 x.2.2.2.2.1 := by kernel_rfl
  rw [h]
  have e0 : (fun w0 w1 w2 w3 w4 w5 => ga86_0 n [] n (S86_0 w0 w1 w2 w3 w4 w5)) = lp86_0 n n := by
    funext w0 w1 w2 w3 w4 w5; exact el86_0 n n w0 w1 w2 w3 w4 w5
  rw [e0]
  rfl
theorem g86 (W : World) (n : Nat) : Good Tryd.prog W 86 (c86 n) := body_good follows tabOk (GamOk.cons (g39 W n) (GamOk.cons (g72 W n) GamOk.nil)) (f := 86) (fn := Tryd.f86) (c := bodyOf Tryd.f86) (by kernel_rfl) (by kernel_rfl) (by kernel_rfl) (by kernel_rfl) (by kernel_rfl) (by kernel_rfl) (by kernel_rfl) (fun x r h => ⟨n, (e86 n x).trans h⟩)
/-! spec.l1Spoil -/
noncomputable def F53 (n : Nat) (a1 : ByteArray) (a2 : List Int) (a3 : Int) (a4 : Int) : Option (ByteArray × List Int × Int × Int × Unit) :=
  if (decide ((a1.size : Int) = 0)) = true then
    (F86 n (3 : Int) a2 a3 a4).bind fun r1 =>
    some (r1.1, r1.2.1, r1.2.2.1, r1.2.2.2.1, ())
  else
    (F39 n (a1.size : Int) a2 a3 a4).bind fun r2 =>
    (F39 n (4 : Int) r2.2.1 r2.2.2.1 r2.2.2.2.1).bind fun r3 =>
    if (decide (r3.1 = 0)) = true then
      if (decide (0 ≤ 0)) = true then
      if (decide (0 ≤ r2.1)) = true then
      if (decide (r2.1 ≤ (a1.size : Int))) = true then
      if (decide (0 ≤ (wrap64 (r2.1 + 1)))) = true then
      if (decide ((wrap64 (r2.1 + 1)) ≤ (a1.size : Int))) = true then
      if (decide ((a1.size : Int) ≤ (a1.size : Int))) = true then
      if (decide (((a1.extract (0 : Int).toNat r2.1.toNat).size + (a1.extract (wrap64 (r2.1 + 1)).toNat (a1.size : Int).toNat).size : Nat) ≤ 9223372036854775807)) = true then
      some (((a1.extract (0 : Int).toNat r2.1.toNat) ++ (a1.extract (wrap64 (r2.1 + 1)).toNat (a1.size : Int).toNat)), r3.2.1, r3.2.2.1, r3.2.2.2.1, ())
      else none
      else none
      else none
      else none
      else none
      else none
      else none
    else
      if (decide (r3.1 = 1)) = true then
        if (decide (0 ≤ 0)) = true then
        if (decide (0 ≤ r2.1)) = true then
        if (decide (r2.1 ≤ (a1.size : Int))) = true then
        (F72 n r3.2.1 r3.2.2.1 r3.2.2.2.1).bind fun r4 =>
        if (decide (((a1.extract (0 : Int).toNat r2.1.toNat).size + (strOf ([(wrapI .u8 (r4.1))] : List Int)).size : Nat) ≤ 9223372036854775807)) = true then
        if (decide (0 ≤ r2.1)) = true then
        if (decide (r2.1 ≤ (a1.size : Int))) = true then
        if (decide ((a1.size : Int) ≤ (a1.size : Int))) = true then
        if (decide ((((a1.extract (0 : Int).toNat r2.1.toNat) ++ (strOf ([(wrapI .u8 (r4.1))] : List Int))).size + (a1.extract r2.1.toNat (a1.size : Int).toNat).size : Nat) ≤ 9223372036854775807)) = true then
        some ((((a1.extract (0 : Int).toNat r2.1.toNat) ++ (strOf ([(wrapI .u8 (r4.1))] : List Int))) ++ (a1.extract r2.1.toNat (a1.size : Int).toNat)), r4.2.1, r4.2.2.1, r4.2.2.2.1, ())
        else none
        else none
        else none
        else none
        else none
        else none
        else none
        else none
      else
        if (decide (r3.1 = 2)) = true then
          if (decide (0 ≤ 0)) = true then
          if (decide (0 ≤ r2.1)) = true then
          if (decide (r2.1 ≤ (a1.size : Int))) = true then
          some ((a1.extract (0 : Int).toNat r2.1.toNat), r3.2.1, r3.2.2.1, r3.2.2.2.1, ())
          else none
          else none
          else none
        else
          if (decide (0 ≤ 0)) = true then
          if (decide (0 ≤ r2.1)) = true then
          if (decide (r2.1 ≤ (a1.size : Int))) = true then
          if (decide (0 ≤ r2.1)) = true then
          if (decide (r2.1 < (a1.size : Int))) = true then
          (F39 n (255 : Int) r3.2.1 r3.2.2.1 r3.2.2.2.1).bind fun r5 =>
          if (decide (((a1.extract (0 : Int).toNat r2.1.toNat).size + (strOf ([(wrapI .u8 ((xorI .i64 (wrap64 ((bt a1 r2.1))) (wrap64 (1 + r5.1)))))] : List Int)).size : Nat) ≤ 9223372036854775807)) = true then
          if (decide (0 ≤ (wrap64 (r2.1 + 1)))) = true then
          if (decide ((wrap64 (r2.1 + 1)) ≤ (a1.size : Int))) = true then
          if (decide ((a1.size : Int) ≤ (a1.size : Int))) = true then
          if (decide ((((a1.extract (0 : Int).toNat r2.1.toNat) ++ (strOf ([(wrapI .u8 ((xorI .i64 (wrap64 ((bt a1 r2.1))) (wrap64 (1 + r5.1)))))] : List Int))).size + (a1.extract (wrap64 (r2.1 + 1)).toNat (a1.size : Int).toNat).size : Nat) ≤ 9223372036854775807)) = true then
          some ((((a1.extract (0 : Int).toNat r2.1.toNat) ++ (strOf ([(wrapI .u8 ((xorI .i64 (wrap64 ((bt a1 r2.1))) (wrap64 (1 + r5.1)))))] : List Int))) ++ (a1.extract (wrap64 (r2.1 + 1)).toNat (a1.size : Int).toNat)), r5.2.1, r5.2.2.1, r5.2.2.2.1, ())
          else none
          else none
          else none
          else none
          else none
          else none
          else none
          else none
          else none
          else none
noncomputable def c53 (n : Nat) : Con := ⟨[.one (.ptr 0 0), .one (.str)], [[(.sl (.imm false) 5 (.int .u8)), (.int .i64), (.int .i64)]], [.one (.str)], [[(.sl (.imm false) 5 (.int .u8)), (.int .i64), (.int .i64)]], fun (x : Unit × ByteArray × List Int × Int × Int × Unit) => F53 n x.2.1 x.2.2.1 x.2.2.2.1 x.2.2.2.2.1⟩
noncomputable def G53 (n : Nat) : Gam := [((39, []), c39 n), ((72, []), c72 n), ((86, []), c86 n)]
theorem e53 (n : Nat) (x : Unit × ByteArray × List Int × Int × Int × Unit) : evBody tab (G53 n) n (c53 n) Tryd.f53 x = F53 n x.2.1 x.2.2.1 x.2.2.2.1 x.2.2.2.2.1 := by kernel_rfl
theorem g53 (W : World) (n : Nat) : Good Tryd.prog W 53 (c53 n) := body_good follows tabOk (GamOk.cons (g39 W n) (GamOk.cons (g72 W n) (GamOk.cons (g86 W n) GamOk.nil))) (f := 53) (fn := Tryd.f53) (c := bodyOf Tryd.f53) (by kernel_rfl) (by kernel_rfl) (by kernel_rfl) (by kernel_rfl) (by kernel_rfl) (by kernel_rfl) (by kernel_rfl) (fun x r h => ⟨n, (e53 n x).trans h⟩)
/-! spec.DrawReadRule -/
noncomputable def F22 (n : Nat) (a0 : List Int) : Option (ByteArray × Unit) :=
  (F32 n a0).bind fun r1 =>
  (F41 n r1.2.1 r1.2.2.1 r1.2.2.2.1).bind fun r2 =>
  (F50 n r2.1 r2.2.1 r2.2.2.1 r2.2.2.2.1).bind fun r3 =>
  (F51 n (3 : Int) r2.2.2.2.2.1 r2.2.2.2.2.2.1 r2.2.2.2.2.2.2.1).bind fun r4 =>
  if r4.1 = true then
    (F53 n r3.1 r4.2.1 r4.2.2.1 r4.2.2.2.1).bind fun r5 =>
    (F52 n ([(⟨#[]⟩ : ByteArray), (⟨#[97, 62, 49, 32, 102, 111, 114, 32, 49, 32]⟩ : ByteArray), (⟨#[97, 62, 49, 32, 102, 111, 114]⟩ : ByteArray), (⟨#[97, 61, 49, 32, 102, 111, 114, 32, 49]⟩ : ByteArray), (⟨#[97, 62, 48, 49, 32, 102, 111, 114, 32, 49]⟩ : ByteArray), (⟨#[97, 62, 49, 32, 111, 114, 32, 49]⟩ : ByteArray), (⟨#[62, 49, 32, 102, 111, 114, 32, 49]⟩ : ByteArray), r5.1] : List ByteArray) r5.2.1 r5.2.2.1 r5.2.2.2.1).bind fun r6 =>
    some (r6.1, ())
  else
    some (r3.1, ())
noncomputable def c22 (n : Nat) : Con := ⟨[.one (.sl (.imm false) 5 (.int .u8))], [], [.one (.str)], [], fun (x : List Int × Unit) => F22 n x.1⟩
noncomputable def G22 (n : Nat) : Gam := [((32, []), c32 n), ((41, []), c41 n), ((50, []), c50 n), ((51, []), c51 n), ((52, []), c52 n), ((53, []), c53 n)]
theorem e22 (n : Nat) (x : List Int × Unit) : evBody tab (G22 n) n (c22 n) Tryd.f22 x = F22 n x.1 := by kernel_rfl
theorem g22 (W : World) (n : Nat) : Good Tryd.prog W 22 (c22 n) := body_good follows tabOk (GamOk.cons (g32 W n) (GamOk.cons (g41 W n) (GamOk.cons (g50 W n) (GamOk.cons (g51 W n) (GamOk.cons (g52 W n) (GamOk.cons (g53 W n) GamOk.nil)))))) (f := 22) (fn := Tryd.f22) (c := bodyOf Tryd.f22) (by kernel_rfl) (by kernel_rfl) (by kernel_rfl) (by kernel_rfl) (by kernel_rfl) (by kernel_rfl) (by kernel_rfl) (fun x r h => ⟨n, (e22 n x).trans h⟩)
/-! spec.l21Cut -/
noncomputable def st54_0 (n : Nat) (g0 : ByteArray → Int → Int → Int → (List ByteArray) → Option (List ByteArray × Unit)) (s0 : ByteArray) (i1 : Int) (i2 : Int) (i3 : Int) (l4 : List ByteArray) : Option (List ByteArray × Unit) :=
  if (decide (i3 < (s0.size : Int))) = true then
    if (decide (0 ≤ i3)) = true then
    if (decide (i3 < (s0.size : Int))) = true then
    if (decide ((bt s0 i3) = i1)) = true then
      if (decide (0 ≤ i2)) = true then
      if (decide (i2 ≤ i3)) = true then
      if (decide (i3 ≤ (s0.size : Int))) = true then
      if (decide ((l4.length + ([(s0.extract i2.toNat i3.toNat)] : List ByteArray).length) * 16 ≤ 140737488355328)) = true then
      g0 s0 i1 (wrap64 (i3 + 1)) (wrap64 (i3 + 1)) (l4 ++ ([(s0.extract i2.toNat i3.toNat)] : List ByteArray))
      else none
      else none
      else none
      else none
    else
      g0 s0 i1 i2 (wrap64 (i3 + 1)) l4
    else none
    else none
  else
    if (decide (0 ≤ i2)) = true then
    if (decide (i2 ≤ (s0.size : Int))) = true then
    if (decide ((s0.size : Int) ≤ (s0.size : Int))) = true then
    if (decide ((l4.length + ([(s0.extract i2.toNat (s0.size : Int).toNat)] : List ByteArray).length) * 16 ≤ 140737488355328)) = true then
    some ((l4 ++ ([(s0.extract i2.toNat (s0.size : Int).toNat)] : List ByteArray)), ())
    else none
    else none
    else none
    else none
noncomputable def lp54_0 (n : Nat) : Nat → ByteArray → Int → Int → Int → (List ByteArray) → Option (List ByteArray × Unit)
  | 0 => fun _ _ _ _ _ => none
  | k + 1 => st54_0 n (lp54_0 n k)
noncomputable def st54 (n : Nat) (h0 : ByteArray → Int → Int → Int → (List ByteArray) → Option (List ByteArray × Unit)) (a0 : ByteArray) (a1 : Int) : Option (List ByteArray × Unit) :=
  h0 a0 a1 (0 : Int) (0 : Int) ([] : List ByteArray)
noncomputable def F54 (n : Nat) (a0 : ByteArray) (a1 : Int) : Option (List ByteArray × Unit) := st54 n (lp54_0 n n) a0 a1
noncomputable def c54 (n : Nat) : Con := ⟨[.one (.str), .one (.int .u8)], [], [.one (.sl .own 9 .str)], [], fun (x : ByteArray × Int × Unit) => F54 n x.1 x.2.1⟩
noncomputable def G54 (n : Nat) : Gam := []
noncomputable def S54_0 (s0 : ByteArray) (i1 : Int) (i2 : Int) (i3 : Int) (l4 : List ByteArray) : St := ⟨[.str s0, .int .u8 i1, .dead, .dead, .dead, .sr 5 0 none 0 0 none, .int .i64 i2, .int .i64 i3] ++ List.replicate 27 .dead, List.replicate 5 Ob.none ++ [⟨false, [.sl .own 9 .str l4], 0, 0⟩] ++ List.replicate 29 Ob.none⟩
noncomputable def ga54_0 (n : Nat) (ks : List Nat) (k : Nat) (st : St) : Option (List ByteArray × Unit) := goAt tab (G54 n) n (bodyOf Tryd.f54) (lvOf Tryd.f54) (lvOf Tryd.f54).ret [1, 1, 1, 0, 1, 0] ks k st (evBody.endK tab (c54 n) Tryd.f54)
theorem el54_0 (n : Nat) : ∀ (k : Nat), ∀ (s0 : ByteArray) (i1 : Int) (i2 : Int) (i3 : Int) (l4 : List ByteArray), ga54_0 n [] k (S54_0 s0 i1 i2 i3 l4) = lp54_0 n k s0 i1 i2 i3 l4 := by
  intro k
  induction k with
  | zero => intros; rfl
  | succ k ih =>
    intro s0 i1 i2 i3 l4
    have h : ga54_0 n [] (k + 1) (S54_0 s0 i1 i2 i3 l4) = st54_0 n (fun w0 w1 w2 w3 w4 => ga54_0 n [] k (S54_0 w0 w1 w2 w3 w4)) s0 i1 i2 i3 l4 := by kernel_rfl
    rw [h]
    have e : (fun w0 w1 w2 w3 w4 => ga54_0 n [] k (S54_0 w0 w1 w2 w3 w4)) = lp54_0 n k := by
      funext w0 w1 w2 w3 w4; exact ih w0 w1 w2 w3 w4
    rw [e]
    rfl
theorem e54 (n : Nat) (x : ByteArray × Int × Unit) : evBody tab (G54 n) n (c54 n) Tryd.f54 x = F54 n x.1 x.2.1 := by
  have h : evBody tab (G54 n) n (c54 n) Tryd.f54 x = st54 n (fun w0 w1 w2 w3 w4 => ga54_0 n [] n (S54_0 w0 w1 w2 w3 w4)) x.1 x.2.1 := by kernel_rfl
  rw [h]
  have e0 : (fun w0 w1 w2 w3 w4 => ga54_0 n [] n (S54_0 w0 w1 w2 w3 w4)) = lp54_0 n n := by
    funext w0 w1 w2 w3 w4; exact el54_0 n n w0 w1 w2 w3 w4
  rw [e0]
  rfl
theorem g54 (W : World) (n : Nat) : Good Tryd.prog W 54 (c54 n) := body_good follows tabOk GamOk.nil (f := 54) (fn := Tryd.f54) (c := bodyOf Tryd.f54) (by kernel_rfl) (by kernel_rfl) (by kernel_rfl) (by kernel_rfl) (by kernel_rfl) (by kernel_rfl) (by kernel_rfl) (fun x r h => ⟨n, (e54 n x).trans h⟩)
/-! spec.l19At -/
noncomputable def st55_0 (n : Nat) (g0 : ByteArray → Int → Int → Option (Int × Unit)) (s0 : ByteArray) (i1 : Int) (i2 : Int) : Option (Int × Unit) :=
  if (decide (i2 < (s0.size : Int))) = true then
    if (decide (0 ≤ i2)) = true then
    if (decide (i2 < (s0.size : Int))) = true then
    if (decide ((bt s0 i2) = i1)) = true then
      some (i2, ())
    else
      g0 s0 i1 (wrap64 (i2 + 1))
    else none
    else none
  else
    some ((-1), ())
noncomputable def lp55_0 (n : Nat) : Nat → ByteArray → Int → Int → Option (Int × Unit)
  | 0 => fun _ _ _ => none
  | k + 1 => st55_0 n (lp55_0 n k)
noncomputable def st55 (n : Nat) (h0 : ByteArray → Int → Int → Option (Int × Unit)) (a0 : ByteArray) (a1 : Int) (a2 : Int) : Option (Int × Unit) :=
  h0 a0 a2 a1
noncomputable def F55 (n : Nat) (a0 : ByteArray) (a1 : Int) (a2 : Int) : Option (Int × Unit) := st55 n (lp55_0 n n) a0 a1 a2
noncomputable def c55 (n : Nat) : Con := ⟨[.one (.str), .one (.int .i64), .one (.int .u8)], [], [.one (.int .i64)], [], fun (x : ByteArray × Int × Int × Unit) => F55 n x.1 x.2.1 x.2.2.1⟩
noncomputable def G55 (n : Nat) : Gam := []
noncomputable def S55_0 (s0 : ByteArray) (i1 : Int) (i2 : Int) : St := ⟨[.str s0, .dead, .int .u8 i1] ++ List.replicate 4 .dead ++ [.int .i64 i2] ++ List.replicate 13 .dead, List.replicate 21 Ob.none⟩
noncomputable def ga55_0 (n : Nat) (ks : List Nat) (k : Nat) (st : St) : Option (Int × Unit) := goAt tab (G55 n) n (bodyOf Tryd.f55) (lvOf Tryd.f55) (lvOf Tryd.f55).ret [1, 0, 1, 0] ks k st (evBody.endK tab (c55 n) Tryd.f55)
theorem el55_0 (n : Nat) : ∀ (k : Nat), ∀ (s0 : ByteArray) (i1 : Int) (i2 : Int), ga55_0 n [] k (S55_0 s0 i1 i2) = lp55_0 n k s0 i1 i2 := by
  intro k
  induction k with
  | zero => intros; rfl
  | succ k ih =>
    intro s0 i1 i2
    have h : ga55_0 n [] (k + 1) (S55_0 s0 i1 i2) = st55_0 n (fun w0 w1 w2 => ga55_0 n [] k (S55_0 w0 w1 w2)) s0 i1 i2 := by kernel_rfl
    rw [h]
    have e : (fun w0 w1 w2 => ga55_0 n [] k (S55_0 w0 w1 w2)) = lp55_0 n k := by
      funext w0 w1 w2; exact ih w0 w1 w2
    rw [e]
    rfl
theorem e55 (n : Nat) (x : ByteArray × Int × Int × Unit) : evBody tab (G55 n) n (c55 n) Tryd.f55 x = F55 n x.1 x.2.1 x.2.2.1 := by
  have h : evBody tab (G55 n) n (c55 n) Tryd.f55 x = st55 n (fun w0 w1 w2 => ga55_0 n [] n (S55_0 w0 w1 w2)) x.1 x.2.1 x.2.2.1 := by kernel_rfl
  rw [h]
  have e0 : (fun w0 w1 w2 => ga55_0 n [] n (S55_0 w0 w1 w2)) = lp55_0 n n := by
    funext w0 w1 w2; exact el55_0 n n w0 w1 w2
  rw [e0]
  rfl
theorem g55 (W : World) (n : Nat) : Good Tryd.prog W 55 (c55 n) := body_good follows tabOk GamOk.nil (f := 55) (fn := Tryd.f55) (c := bodyOf Tryd.f55) (by kernel_rfl) (by kernel_rfl) (by kernel_rfl) (by kernel_rfl) (by kernel_rfl) (by kernel_rfl) (by kernel_rfl) (fun x r h => ⟨n, (e55 n x).trans h⟩)
/-! spec.ReadDec -/
noncomputable def j56_1 (n : Nat) (s0 : ByteArray) (i1 : Int) (i2 : Int) : Option (Int × Bool × Unit) :=
  if (decide (i2 > 9)) = true then
    some (0, false, ())
  else
    if (decide ((s0.size : Int) > 10)) = true then
      some (0, false, ())
    else
      (F11 n i1).bind fun r1 =>
      if (!decide (r1.1.toList = s0.toList)) = true then
        some (0, false, ())
      else
        some (i1, true, ())
noncomputable def j56_0 (n : Nat) (s0 : ByteArray) (i1 : Int) (i2 : Int) : Option (Int × Bool × Unit) :=
  if (decide ((s0.size : Int) > 0)) = true then
    if (decide (0 ≤ 0)) = true then
    if (decide (0 < (s0.size : Int))) = true then
    if (decide ((bt s0 (0 : Int)) = 45)) = true then
      j56_1 n s0 (wrap64 (0 - i1)) i2
    else
      j56_1 n s0 i1 i2
    else none
    else none
  else
    j56_1 n s0 i1 i2
noncomputable def st56_0 (n : Nat) (g0 : ByteArray → Int → Int → Int → Option (Int × Bool × Unit)) (s0 : ByteArray) (i1 : Int) (i2 : Int) (i3 : Int) : Option (Int × Bool × Unit) :=
  if (decide (i3 < (s0.size : Int))) = true then
    if (decide (i3 < 11)) = true then
      if (decide (0 ≤ i3)) = true then
      if (decide (i3 < (s0.size : Int))) = true then
      if (decide ((bt s0 i3) ≥ 48)) = true then
        if (decide (0 ≤ i3)) = true then
        if (decide (i3 < (s0.size : Int))) = true then
        if (decide ((bt s0 i3) ≤ 57)) = true then
          if (decide (0 ≤ i3)) = true then
          if (decide (i3 < (s0.size : Int))) = true then
          g0 s0 (wrap64 ((wrap64 (i1 * 10)) + (wrap64 ((wrapI .u8 ((bt s0 i3) - 48)))))) (wrap64 (i2 + 1)) (wrap64 (i3 + 1))
          else none
          else none
        else
          g0 s0 i1 i2 (wrap64 (i3 + 1))
        else none
        else none
      else
        g0 s0 i1 i2 (wrap64 (i3 + 1))
      else none
      else none
    else
      j56_0 n s0 i1 i2
  else
    j56_0 n s0 i1 i2
noncomputable def lp56_0 (n : Nat) : Nat → ByteArray → Int → Int → Int → Option (Int × Bool × Unit)
  | 0 => fun _ _ _ _ => none
  | k + 1 => st56_0 n (lp56_0 n k)
noncomputable def st56 (n : Nat) (h0 : ByteArray → Int → Int → Int → Option (Int × Bool × Unit)) (a0 : ByteArray) : Option (Int × Bool × Unit) :=
  h0 a0 (0 : Int) (0 : Int) (0 : Int)
noncomputable def F56 (n : Nat) (a0 : ByteArray) : Option (Int × Bool × Unit) := st56 n (lp56_0 n n) a0
noncomputable def c56 (n : Nat) : Con := ⟨[.one (.str)], [], [.one (.int .i64), .one (.bool)], [], fun (x : ByteArray × Unit) => F56 n x.1⟩
noncomputable def G56 (n : Nat) : Gam := [((11, []), c11 n)]
noncomputable def S56_0 (s0 : ByteArray) (i1 : Int) (i2 : Int) (i3 : Int) : St := ⟨[.str s0, .dead, .dead, .dead, .int .i64 i1, .int .i64 i2, .int .i64 i3] ++ List.replicate 54 .dead, List.replicate 61 Ob.none⟩
noncomputable def ga56_0 (n : Nat) (ks : List Nat) (k : Nat) (st : St) : Option (Int × Bool × Unit) := goAt tab (G56 n) n (bodyOf Tryd.f56) (lvOf Tryd.f56) (lvOf Tryd.f56).ret [1, 1, 1, 0, 1, 0] ks k st (evBody.endK tab (c56 n) Tryd.f56)
theorem el56_0 (n : Nat) : ∀ (k : Nat), ∀ (s0 : ByteArray) (i1 : Int) (i2 : Int) (i3 : Int), ga56_0 n [] k (S56_0 s0 i1 i2 i3) = lp56_0 n k s0 i1 i2 i3 := by
  intro k
  induction k with
  | zero => intros; rfl
  | succ k ih =>
    intro s0 i1 i2 i3
    have h : ga56_0 n [] (k + 1) (S56_0 s0 i1 i2 i3) = st56_0 n (fun w0 w1 w2 w3 => ga56_0 n [] k (S56_0 w0 w1 w2 w3)) s0 i1 i2 i3 := by kernel_rfl
    rw [h]
    have e : (fun w0 w1 w2 w3 => ga56_0 n [] k (S56_0 w0 w1 w2 w3)) = lp56_0 n k := by
      funext w0 w1 w2 w3; exact ih w0 w1 w2 w3
    rw [e]
    rfl
theorem e56 (n : Nat) (x : ByteArray × Unit) : evBody tab (G56 n) n (c56 n) Tryd.f56 x = F56 n x.1 := by
  have h : evBody tab (G56 n) n (c56 n) Tryd.f56 x = st56 n (fun w0 w1 w2 w3 => ga56_0 n [] n (S56_0 w0 w1 w2 w3)) x.1 := by kernel_rfl
  rw [h]
  have e0 : (fun w0 w1 w2 w3 => ga56_0 n [] n (S56_0 w0 w1 w2 w3)) = lp56_0 n n := by
    funext w0 w1 w2 w3; exact el56_0 n n w0 w1 w2 w3
  rw [e0]
  rfl
theorem g56 (W : World) (n : Nat) : Good Tryd.prog W 56 (c56 n) := body_good follows tabOk (GamOk.cons (g11 W n) GamOk.nil) (f := 56) (fn := Tryd.f56) (c := bodyOf Tryd.f56) (by kernel_rfl) (by kernel_rfl) (by kernel_rfl) (by kernel_rfl) (by kernel_rfl) (by kernel_rfl) (by kernel_rfl) (fun x r h => ⟨n, (e56 n x).trans h⟩)
/-! spec.ReadRule -/
noncomputable def F23 (n : Nat) (a0 : ByteArray) : Option (ByteArray × Int × Int × Int × Bool × Unit) :=
  (F54 n a0 (32 : Int)).bind fun r1 =>
  if (decide ((r1.1.length : Int) ≠ 3)) = true then
    some ((⟨#[]⟩ : ByteArray), 0, 0, 0, false, ())
  else
    if (decide (0 ≤ 0)) = true then
    if (decide (0 < (r1.1.length : Int))) = true then
    (F55 n (rdOf (⟨#[]⟩ : ByteArray) r1.1 (0 : Int)) (0 : Int) (62 : Int)).bind fun r2 =>
    if (decide (r2.1 < 0)) = true then
      if (decide (0 ≤ 0)) = true then
      if (decide (0 < (r1.1.length : Int))) = true then
      (F55 n (rdOf (⟨#[]⟩ : ByteArray) r1.1 (0 : Int)) (0 : Int) (60 : Int)).bind fun r3 =>
      if (decide (r3.1 < 0)) = true then
        some ((⟨#[]⟩ : ByteArray), 0, 0, 0, false, ())
      else
        if (decide (0 ≤ 0)) = true then
        if (decide (0 < (r1.1.length : Int))) = true then
        if (decide (0 ≤ 0)) = true then
        if (decide (0 ≤ r3.1)) = true then
        if (decide (r3.1 ≤ ((rdOf (⟨#[]⟩ : ByteArray) r1.1 (0 : Int)).size : Int))) = true then
        if (decide (0 ≤ 0)) = true then
        if (decide (0 < (r1.1.length : Int))) = true then
        if (decide (0 ≤ (wrap64 (r3.1 + 1)))) = true then
        if (decide ((wrap64 (r3.1 + 1)) ≤ ((rdOf (⟨#[]⟩ : ByteArray) r1.1 (0 : Int)).size : Int))) = true then
        if (decide (((rdOf (⟨#[]⟩ : ByteArray) r1.1 (0 : Int)).size : Int) ≤ ((rdOf (⟨#[]⟩ : ByteArray) r1.1 (0 : Int)).size : Int))) = true then
        (F56 n ((rdOf (⟨#[]⟩ : ByteArray) r1.1 (0 : Int)).extract (wrap64 (r3.1 + 1)).toNat ((rdOf (⟨#[]⟩ : ByteArray) r1.1 (0 : Int)).size : Int).toNat)).bind fun r4 =>
        if (decide (0 ≤ 2)) = true then
        if (decide (2 < (r1.1.length : Int))) = true then
        (F56 n (rdOf (⟨#[]⟩ : ByteArray) r1.1 (2 : Int))).bind fun r5 =>
        (F50 n ((rdOf (⟨#[]⟩ : ByteArray) r1.1 (0 : Int)).extract (0 : Int).toNat r3.1.toNat) (2 : Int) r4.1 r5.1).bind fun r6 =>
        if (!decide (r6.1.toList = a0.toList)) = true then
          some ((⟨#[]⟩ : ByteArray), 0, 0, 0, false, ())
        else
          some (((rdOf (⟨#[]⟩ : ByteArray) r1.1 (0 : Int)).extract (0 : Int).toNat r3.1.toNat), 2, r4.1, r5.1, true, ())
        else none
        else none
        else none
        else none
        else none
        else none
        else none
        else none
        else none
        else none
        else none
        else none
      else none
      else none
    else
      if (decide (r2.1 < 0)) = true then
        some ((⟨#[]⟩ : ByteArray), 0, 0, 0, false, ())
      else
        if (decide (0 ≤ 0)) = true then
        if (decide (0 < (r1.1.length : Int))) = true then
        if (decide (0 ≤ 0)) = true then
        if (decide (0 ≤ r2.1)) = true then
        if (decide (r2.1 ≤ ((rdOf (⟨#[]⟩ : ByteArray) r1.1 (0 : Int)).size : Int))) = true then
        if (decide (0 ≤ 0)) = true then
        if (decide (0 < (r1.1.length : Int))) = true then
        if (decide (0 ≤ (wrap64 (r2.1 + 1)))) = true then
        if (decide ((wrap64 (r2.1 + 1)) ≤ ((rdOf (⟨#[]⟩ : ByteArray) r1.1 (0 : Int)).size : Int))) = true then
        if (decide (((rdOf (⟨#[]⟩ : ByteArray) r1.1 (0 : Int)).size : Int) ≤ ((rdOf (⟨#[]⟩ : ByteArray) r1.1 (0 : Int)).size : Int))) = true then
        (F56 n ((rdOf (⟨#[]⟩ : ByteArray) r1.1 (0 : Int)).extract (wrap64 (r2.1 + 1)).toNat ((rdOf (⟨#[]⟩ : ByteArray) r1.1 (0 : Int)).size : Int).toNat)).bind fun r7 =>
        if (decide (0 ≤ 2)) = true then
        if (decide (2 < (r1.1.length : Int))) = true then
        (F56 n (rdOf (⟨#[]⟩ : ByteArray) r1.1 (2 : Int))).bind fun r8 =>
        (F50 n ((rdOf (⟨#[]⟩ : ByteArray) r1.1 (0 : Int)).extract (0 : Int).toNat r2.1.toNat) (1 : Int) r7.1 r8.1).bind fun r9 =>
        if (!decide (r9.1.toList = a0.toList)) = true then
          some ((⟨#[]⟩ : ByteArray), 0, 0, 0, false, ())
        else
          some (((rdOf (⟨#[]⟩ : ByteArray) r1.1 (0 : Int)).extract (0 : Int).toNat r2.1.toNat), 1, r7.1, r8.1, true, ())
        else none
        else none
        else none
        else none
        else none
        else none
        else none
        else none
        else none
        else none
        else none
        else none
    else none
    else none
noncomputable def c23 (n : Nat) : Con := ⟨[.one (.str)], [], [.agg [(.str), (.int .i64), (.int .i64), (.int .i64)], .one (.bool)], [], fun (x : ByteArray × Unit) => F23 n x.1⟩
noncomputable def G23 (n : Nat) : Gam := [((50, []), c50 n), ((54, []), c54 n), ((55, []), c55 n), ((56, []), c56 n)]
theorem e23 (n : Nat) (x : ByteArray × Unit) : evBody tab (G23 n) n (c23 n) Tryd.f23 x = F23 n x.1 := by kernel_rfl
theorem g23 (W : World) (n : Nat) : Good Tryd.prog W 23 (c23 n) := body_good follows tabOk (GamOk.cons (g50 W n) (GamOk.cons (g54 W n) (GamOk.cons (g55 W n) (GamOk.cons (g56 W n) GamOk.nil)))) (f := 23) (fn := Tryd.f23) (c := bodyOf Tryd.f23) (by kernel_rfl) (by kernel_rfl) (by kernel_rfl) (by kernel_rfl) (by kernel_rfl) (by kernel_rfl) (by kernel_rfl) (fun x r h => ⟨n, (e23 n x).trans h⟩)
/-! laws.big -/
noncomputable def F6 (n : Nat) (a0 : List Int) : Option (Bool × Unit) :=
  some (decide ((a0.length : Int) > 1048576), ())
noncomputable def c6 (n : Nat) : Con := ⟨[.one (.sl (.imm true) 5 (.int .u8))], [], [.one (.bool)], [], fun (x : List Int × Unit) => F6 n x.1⟩
noncomputable def G6 (n : Nat) : Gam := []
theorem e6 (n : Nat) (x : List Int × Unit) : evBody tab (G6 n) n (c6 n) Tryd.f6 x = F6 n x.1 := by kernel_rfl
theorem g6 (W : World) (n : Nat) : Good Tryd.prog W 6 (c6 n) := body_good follows tabOk GamOk.nil (f := 6) (fn := Tryd.f6) (c := bodyOf Tryd.f6) (by kernel_rfl) (by kernel_rfl) (by kernel_rfl) (by kernel_rfl) (by kernel_rfl) (by kernel_rfl) (by kernel_rfl) (fun x r h => ⟨n, (e6 n x).trans h⟩)
/-! laws.FnAlerts -/
noncomputable def st4_1 (n : Nat) (g0 : (List Int) → Int → ByteArray → Int → Int → Int → (List Int) → (List Int) → Option (Bool × Unit)) (g1 : (List Int) → Int → Bool → Int → ByteArray → Int → Int → Int → (List Int) → (List Int) → Option (Bool × Unit)) (l0 : List Int) (i1 : Int) (b2 : Bool) (i3 : Int) (s4 : ByteArray) (i5 : Int) (i6 : Int) (i7 : Int) (l8 : List Int) (l9 : List Int) : Option (Bool × Unit) :=
  if (decide (i3 ≤ i1)) = true then
    if b2 = true then
      if (decide (0 ≤ i3)) = true then
      if (decide (i3 < (l9.length : Int))) = true then
      (F18 n s4 i5 i6 i7 (rdOf (0 : Int) l9 i3)).bind fun r6 =>
      g1 l0 i1 r6.1 (wrap64 (i3 + 1)) s4 i5 i6 i7 l8 l9
      else none
      else none
    else
      (F19 n l8 i1).bind fun r7 =>
      if (!(b2 == r7.1)) = true then
        some (false, ())
      else
        g0 l0 (wrap64 (i1 + 1)) s4 i5 i6 i7 l8 l9
  else
    (F19 n l8 i1).bind fun r8 =>
    if (!(b2 == r8.1)) = true then
      some (false, ())
    else
      g0 l0 (wrap64 (i1 + 1)) s4 i5 i6 i7 l8 l9
noncomputable def lp4_1 (n : Nat) (g0 : (List Int) → Int → ByteArray → Int → Int → Int → (List Int) → (List Int) → Option (Bool × Unit)) : Nat → (List Int) → Int → Bool → Int → ByteArray → Int → Int → Int → (List Int) → (List Int) → Option (Bool × Unit)
  | 0 => fun _ _ _ _ _ _ _ _ _ _ => none
  | k + 1 => st4_1 n g0 (lp4_1 n g0 k)
noncomputable def st4_0 (n : Nat) (h1 : (List Int) → Int → Bool → Int → ByteArray → Int → Int → Int → (List Int) → (List Int) → Option (Bool × Unit)) (g0 : (List Int) → Int → ByteArray → Int → Int → Int → (List Int) → (List Int) → Option (Bool × Unit)) (l0 : List Int) (i1 : Int) (s2 : ByteArray) (i3 : Int) (i4 : Int) (i5 : Int) (l6 : List Int) (l7 : List Int) : Option (Bool × Unit) :=
  if (decide (i1 < (l7.length : Int))) = true then
    (F17 n s2 i3 i4 i5).bind fun r5 =>
    if r5.1 = true then
      h1 l0 i1 (decide ((wrap64 (i1 + 1)) ≥ i5)) (mx (0 : Int) (wrap64 ((wrap64 (i1 + 1)) - i5))) s2 i3 i4 i5 l6 l7
    else
      h1 l0 i1 false (mx (0 : Int) (wrap64 ((wrap64 (i1 + 1)) - i5))) s2 i3 i4 i5 l6 l7
  else
    (F20 n s2 i3 i4 i5).bind fun r9 =>
    (F21 n r9.1).bind fun r10 =>
    (F22 n l0).bind fun r11 =>
    (F21 n r11.1).bind fun r12 =>
    (F23 n r11.1).bind fun r13 =>
    (F17 n s2 i3 i4 i5).bind fun r14 =>
    if (r10.2.2.2.2.1 == r14.1) = true then
      if (!r10.2.2.2.2.1) = true then
        if (r12.2.2.2.2.1 == r13.2.2.2.2.1) = true then
          if (!r12.2.2.2.2.1) = true then
            some (true, ())
          else
            (F20 n r12.1 r12.2.1 r12.2.2.1 r12.2.2.2.1).bind fun r15 =>
            some (decide (r15.1.toList = r11.1.toList), ())
        else
          some (false, ())
      else
        if (decide (r10.1.toList = s2.toList) && (decide (r10.2.1 = i3) && (decide (r10.2.2.1 = i4) && (decide (r10.2.2.2.1 = i5) && true)))) = true then
          if (r12.2.2.2.2.1 == r13.2.2.2.2.1) = true then
            if (!r12.2.2.2.2.1) = true then
              some (true, ())
            else
              (F20 n r12.1 r12.2.1 r12.2.2.1 r12.2.2.2.1).bind fun r16 =>
              some (decide (r16.1.toList = r11.1.toList), ())
          else
            some (false, ())
        else
          some (false, ())
    else
      some (false, ())
noncomputable def lp4_0 (n : Nat) : Nat → (List Int) → Int → ByteArray → Int → Int → Int → (List Int) → (List Int) → Option (Bool × Unit)
  | 0 => fun _ _ _ _ _ _ _ _ => none
  | k + 1 => st4_0 n (lp4_1 n (lp4_0 n k) n) (lp4_0 n k)
noncomputable def st4 (n : Nat) (h0 : (List Int) → Int → ByteArray → Int → Int → Int → (List Int) → (List Int) → Option (Bool × Unit)) (a0 : List Int) : Option (Bool × Unit) :=
  (F6 n a0).bind fun r1 =>
  if r1.1 = true then
    some (true, ())
  else
    (F14 n a0).bind fun r2 =>
    (F15 n r2.1 r2.2.1 r2.2.2.1 r2.2.2.2.1 r2.2.2.2.2.1).bind fun r3 =>
    (F16 n r2.1 r2.2.1).bind fun r4 =>
    h0 a0 (0 : Int) r2.2.1 r2.2.2.1 r2.2.2.2.1 r2.2.2.2.2.1 r3.1 r4.1
noncomputable def F4 (n : Nat) (a0 : List Int) : Option (Bool × Unit) := st4 n (lp4_0 n n) a0
noncomputable def c4 (n : Nat) : Con := ⟨[.one (.sl (.imm false) 5 (.int .u8))], [], [.one (.bool)], [], fun (x : List Int × Unit) => F4 n x.1⟩
noncomputable def G4 (n : Nat) : Gam := [((6, []), c6 n), ((14, []), c14 n), ((15, []), c15 n), ((16, []), c16 n), ((17, []), c17 n), ((18, []), c18 n), ((19, []), c19 n), ((20, []), c20 n), ((21, []), c21 n), ((22, []), c22 n), ((23, []), c23 n)]
noncomputable def S4_1 (l0 : List Int) (i1 : Int) (b2 : Bool) (i3 : Int) (s4 : ByteArray) (i5 : Int) (i6 : Int) (i7 : Int) (l8 : List Int) (l9 : List Int) : St := ⟨[.sl (.imm false) 5 (.int .u8) l0, .dead, .dead, .dead, .ptr 4 0, .sr 5 0 none 0 0 none, .sr 6 0 none 0 0 none, .int .i64 i1, .bool b2, .int .i64 i3] ++ List.replicate 109 .dead, List.replicate 4 Ob.none ++ [⟨true, [.str s4, .int .i64 i5, .int .i64 i6, .int .i64 i7], 0, 0⟩, ⟨false, [.sl .own 3 (.int .i64) l8], 0, 0⟩, ⟨false, [.sl .own 3 (.int .i64) l9], 0, 0⟩] ++ List.replicate 112 Ob.none⟩
noncomputable def ga4_1 (n : Nat) (ks : List Nat) (k : Nat) (st : St) : Option (Bool × Unit) := goAt tab (G4 n) n (bodyOf Tryd.f4) (lvOf Tryd.f4) (lvOf Tryd.f4).ret [1, 1, 1, 1, 1, 0, 1, 0, 0, 1, 0, 0, 1, 0, 1, 0] ks k st (evBody.endK tab (c4 n) Tryd.f4)
noncomputable def S4_0 (l0 : List Int) (i1 : Int) (s2 : ByteArray) (i3 : Int) (i4 : Int) (i5 : Int) (l6 : List Int) (l7 : List Int) : St := ⟨[.sl (.imm false) 5 (.int .u8) l0, .dead, .dead, .dead, .ptr 4 0, .sr 5 0 none 0 0 none, .sr 6 0 none 0 0 none, .int .i64 i1] ++ List.replicate 111 .dead, List.replicate 4 Ob.none ++ [⟨true, [.str s2, .int .i64 i3, .int .i64 i4, .int .i64 i5], 0, 0⟩, ⟨false, [.sl .own 3 (.int .i64) l6], 0, 0⟩, ⟨false, [.sl .own 3 (.int .i64) l7], 0, 0⟩] ++ List.replicate 112 Ob.none⟩
noncomputable def ga4_0 (n : Nat) (ks : List Nat) (k : Nat) (st : St) : Option (Bool × Unit) := goAt tab (G4 n) n (bodyOf Tryd.f4) (lvOf Tryd.f4) (lvOf Tryd.f4).ret [1, 1, 1, 1, 1, 0, 1, 0] ks k st (evBody.endK tab (c4 n) Tryd.f4)
theorem el4_1 (n : Nat) (k0 : Nat) : ∀ (k : Nat), ∀ (l0 : List Int) (i1 : Int) (b2 : Bool) (i3 : Int) (s4 : ByteArray) (i5 : Int) (i6 : Int) (i7 : Int) (l8 : List Int) (l9 : List Int), ga4_1 n [k0] k (S4_1 l0 i1 b2 i3 s4 i5 i6 i7 l8 l9) = lp4_1 n (fun w0 w1 w2 w3 w4 w5 w6 w7 => ga4_0 n [] k0 (S4_0 w0 w1 w2 w3 w4 w5 w6 w7)) k l0 i1 b2 i3 s4 i5 i6 i7 l8 l9 := by
  intro k
  induction k with
  | zero => intros; rfl
  | succ k ih =>
    intro l0 i1 b2 i3 s4 i5 i6 i7 l8 l9
    have h : ga4_1 n [k0] (k + 1) (S4_1 l0 i1 b2 i3 s4 i5 i6 i7 l8 l9) = st4_1 n (fun w0 w1 w2 w3 w4 w5 w6 w7 => ga4_0 n [] k0 (S4_0 w0 w1 w2 w3 w4 w5 w6 w7)) (fun w0 w1 w2 w3 w4 w5 w6 w7 w8 w9 => ga4_1 n [k0] k (S4_1 w0 w1 w2 w3 w4 w5 w6 w7 w8 w9)) l0 i1 b2 i3 s4 i5 i6 i7 l8 l9 := by kernel_rfl
    rw [h]
    have e : (fun w0 w1 w2 w3 w4 w5 w6 w7 w8 w9 => ga4_1 n [k0] k (S4_1 w0 w1 w2 w3 w4 w5 w6 w7 w8 w9)) = lp4_1 n (fun w0 w1 w2 w3 w4 w5 w6 w7 => ga4_0 n [] k0 (S4_0 w0 w1 w2 w3 w4 w5 w6 w7)) k := by
      funext w0 w1 w2 w3 w4 w5 w6 w7 w8 w9; exact ih w0 w1 w2 w3 w4 w5 w6 w7 w8 w9
    rw [e]
    rfl
theorem el4_0 (n : Nat) : ∀ (k : Nat), ∀ (l0 : List Int) (i1 : Int) (s2 : ByteArray) (i3 : Int) (i4 : Int) (i5 : Int) (l6 : List Int) (l7 : List Int), ga4_0 n [] k (S4_0 l0 i1 s2 i3 i4 i5 l6 l7) = lp4_0 n k l0 i1 s2 i3 i4 i5 l6 l7 := by
  intro k
  induction k with
  | zero => intros; rfl
  | succ k ih =>
    intro l0 i1 s2 i3 i4 i5 l6 l7
    have h : ga4_0 n [] (k + 1) (S4_0 l0 i1 s2 i3 i4 i5 l6 l7) = st4_0 n (fun w0 w1 w2 w3 w4 w5 w6 w7 w8 w9 => ga4_1 n [k] n (S4_1 w0 w1 w2 w3 w4 w5 w6 w7 w8 w9)) (fun w0 w1 w2 w3 w4 w5 w6 w7 => ga4_0 n [] k (S4_0 w0 w1 w2 w3 w4 w5 w6 w7)) l0 i1 s2 i3 i4 i5 l6 l7 := by kernel_rfl
    rw [h]
    have e1 : (fun w0 w1 w2 w3 w4 w5 w6 w7 w8 w9 => ga4_1 n [k] n (S4_1 w0 w1 w2 w3 w4 w5 w6 w7 w8 w9)) = lp4_1 n (fun w0 w1 w2 w3 w4 w5 w6 w7 => ga4_0 n [] k (S4_0 w0 w1 w2 w3 w4 w5 w6 w7)) n := by
      funext w0 w1 w2 w3 w4 w5 w6 w7 w8 w9; exact el4_1 n k n w0 w1 w2 w3 w4 w5 w6 w7 w8 w9
    have e : (fun w0 w1 w2 w3 w4 w5 w6 w7 => ga4_0 n [] k (S4_0 w0 w1 w2 w3 w4 w5 w6 w7)) = lp4_0 n k := by
      funext w0 w1 w2 w3 w4 w5 w6 w7; exact ih w0 w1 w2 w3 w4 w5 w6 w7
    rw [e1, e]
    rfl
theorem e4 (n : Nat) (x : List Int × Unit) : evBody tab (G4 n) n (c4 n) Tryd.f4 x = F4 n x.1 := by
  have h : evBody tab (G4 n) n (c4 n) Tryd.f4 x = st4 n (fun w0 w1 w2 w3 w4 w5 w6 w7 => ga4_0 n [] n (S4_0 w0 w1 w2 w3 w4 w5 w6 w7)) x.1 := by kernel_rfl
  rw [h]
  have e0 : (fun w0 w1 w2 w3 w4 w5 w6 w7 => ga4_0 n [] n (S4_0 w0 w1 w2 w3 w4 w5 w6 w7)) = lp4_0 n n := by
    funext w0 w1 w2 w3 w4 w5 w6 w7; exact el4_0 n n w0 w1 w2 w3 w4 w5 w6 w7
  rw [e0]
  rfl
theorem g4 (W : World) (n : Nat) (h47 : ∀ n, Good Tryd.prog W 47 (c47 n)) (h48 : ∀ n, Good Tryd.prog W 48 (c48 n)) (h71 : ∀ n, Good Tryd.prog W 71 (c71 n)) : Good Tryd.prog W 4 (c4 n) := body_good follows tabOk (GamOk.cons (g6 W n) (GamOk.cons (g14 W n) (GamOk.cons (g15 W n) (GamOk.cons (g16 W n) (GamOk.cons (g17 W n) (GamOk.cons (g18 W n) (GamOk.cons (g19 W n) (GamOk.cons (g20 W n h71) (GamOk.cons (g21 W n h47 h48 h71) (GamOk.cons (g22 W n) (GamOk.cons (g23 W n) GamOk.nil))))))))))) (f := 4) (fn := Tryd.f4) (c := bodyOf Tryd.f4) (by kernel_rfl) (by kernel_rfl) (by kernel_rfl) (by kernel_rfl) (by kernel_rfl) (by kernel_rfl) (by kernel_rfl) (fun x r h => ⟨n, (e4 n x).trans h⟩)
end Go.Eva
end
section
/- The library's functions at this program: Itoa, IndexAny, Cut. -/
namespace Go.Proofs
open Go.RowKit
set_option linter.unusedVariables false
set_option linter.unusedSimpArgs false
shelf_lay LaysM.n171 Nm 171 at Tryd as Tryd.laysM171
shelf_lay Lays.n153 Nm 153 at Tryd as Tryd.laysIndexAny
section
open Go.Shelf Go.RowKit Go.Lib
variable {P : Program} {ρ : Ren}
set_option maxHeartbeats 2000000 in
set_option maxRecDepth 1000000 in
theorem strings_IndexRune_err (L : Lays.n152 P ρ) (s : ByteArray) (w : World) (hs : s.size = 2) (ha0 : (s[0]'(by omega)).toNat < 128) (ha1 : (s[1]'(by omega)).toNat < 128) :
    Calls P (ρ.f 152) #[.string s, .int .i32 65533] w fun e w' => e = .returned (.int .i64 (-1)) ∧ Below w.heap.size w w' := by
  have t3 := L.t3; have a3 := L.a3; have z3 := L.z3; have v3 := L.v3
  have t4 := L.t4; have a4 := L.a4; have z4 := L.z4; have v4 := L.v4
  have t5 := L.t5; have a5 := L.a5; have z5 := L.z5; have v5 := L.v5
  have t9 := L.t9; have a9 := L.a9; have z9 := L.z9; have v9 := L.v9
  have t21 := L.t21; have a21 := L.a21; have z21 := L.z21; have v21 := L.v21
  have hn0 := fun ty => run_next_ascii (P := P) w s 0 ty (by omega) ha0
  have hn1 := fun ty => run_next_ascii (P := P) w s 1 ty (by omega) ha1
  have hn2 := fun ty => run_next_end (P := P) w s 2 ty (by omega)
  have e0 : ((s[0]'(by omega)).toNat : Int) ≠ 65533 := by omega
  have e1 : ((s[1]'(by omega)).toNat : Int) ≠ 65533 := by omega
  have e0' : (((s[0]'(by omega)).toNat : Int) == 65533) = false := beq_eq_false_iff_ne.2 e0
  have e1' : (((s[1]'(by omega)).toNat : Int) == 65533) = false := beq_eq_false_iff_ne.2 e1
  go_enter L.f152, Body.n152_ntmps ρ
  go_wp2
  go_loopg [5, 6] 2 (fun g _ _ wx => ∃ i : Nat, i + g = 2 ∧ wx = w.iter s i)
  case atStart => exact ⟨0, by omega, rfl⟩
  case round =>
    obtain ⟨i, hig, rfl⟩ := hrel
    cases gk with
    | zero =>
      obtain rfl : i = 2 := by omega
      go_wp2
      go_ret
      exact ⟨rfl, (Below.refl _ _).alloc (Nat.le_refl _) _⟩
    | succ g =>
      obtain rfl | rfl : i = 0 ∨ i = 1 := by omega
      · go_wp2
        go_roundg g
        case measure => omega
        case rel => exact ⟨1, by omega, rfl⟩
      · go_wp2
        go_roundg g
        case measure => omega
        case rel => exact ⟨2, by omega, rfl⟩
set_option maxHeartbeats 2000000 in
set_option maxRecDepth 1000000 in
theorem strings_IndexRune_no (L : Lays.n152 P ρ) (s : ByteArray) (r : Int) (w : World) (h0 : 128 ≤ r) (h1 : r ≤ 2147483647) (hr : r ≠ 65533) (hs : s.size = 2) (ha0 : (s[0]'(by omega)).toNat < 128) (ha1 : (s[1]'(by omega)).toNat < 128) :
    Calls P (ρ.f 152) #[.string s, .int .i32 r] w fun e w' => e = .returned (.int .i64 (-1)) ∧ Below w.heap.size w w' := by
  have t3 := L.t3; have a3 := L.a3; have z3 := L.z3; have v3 := L.v3
  have t4 := L.t4; have a4 := L.a4; have z4 := L.z4; have v4 := L.v4
  have t5 := L.t5; have a5 := L.a5; have z5 := L.z5; have v5 := L.v5
  have t9 := L.t9; have a9 := L.a9; have z9 := L.z9; have v9 := L.v9
  have t21 := L.t21; have a21 := L.a21; have z21 := L.z21; have v21 := L.v21
  have e137 : ∀ args w, (callFunc (ρ.f 137) args).run P w = .ok (.enter (ρ.f 137) args) w := enters_of L.f137 (by kernel_rfl) rfl
  have e119 : ∀ args w, (callFunc (ρ.f 119) args).run P w = .ok (.enter (ρ.f 119) args) w := enters_of L.f119 (by kernel_rfl) rfl
  have mixed := L.mixed
  have cv := fun w => run_convert_int_string (P := P) w (ρ.t 21) (ρ.t 9) .i32 r (by rw [t21]; rfl) t9
  have hff := encode_facts r
  generalize Utf8.encode r = E at *
  go_enter L.f152, Body.n152_ntmps ρ
  cases hvr : Lib.validRune r
  · go_wp2_with (go_at_fn (ρ.f 119); refine (Any.utf8_ValidRune { L with } _ _).mono ?_; rintro e w' ⟨rfl, hw⟩; rw [hw, hvr])
    go_ret
    exact ⟨rfl, Below.refl _ _⟩
  have hval : Utf8.valid r = true := by
    simp only [Lib.validRune, decide_eq_true_eq] at hvr
    simp only [Utf8.valid, Bool.and_eq_true, Bool.or_eq_true, decide_eq_true_eq]
    omega
  obtain ⟨f1, f2, f3⟩ := hff hval h0
  clear hff
  have hb := f3 (by omega)
  obtain ⟨x, hx⟩ : ∃ x, E[E.size - 1]'(by omega) = x := ⟨_, rfl⟩
  rw [hx] at hb
  go_wp2_with (go_at_fn (ρ.f 119); refine (Any.utf8_ValidRune { L with } _ _).mono ?_; rintro e w' ⟨rfl, hw⟩; rw [hw, hvr])
  have hsz : (E.size : Int) = 2 ∨ (3 : Int) ≤ E.size := by omega
  go_step3
  go_wp2
  go_loopg [9] 1 (fun g s9 wx => s9 = .int .i64 ((E.size : Int) - 1) ∧ wx = w)
  case atStart => exact ⟨rfl, rfl⟩
  case round =>
    obtain ⟨rfl, rfl⟩ := hrel
    rcases hsz with h2 | h3
    · have hne : ((s[1]'(by omega)).toNat : Int) ≠ (x.toNat : Int) := by omega
      have hd : s.extract 2 2 = ByteArray.empty := by simp
      have hes : E.size = 2 := by omega
      have hx1 : E[1]'(by omega) = x := by simp only [← hx, hes]
      have c1 : (1 : Int) < (s.size : Int) := by omega
      have c2 : (1 : Int) < (E.size : Int) := by omega
      have c3 : ((s[1]'(by omega)).toNat == (E[1]'(by omega)).toNat) = false := by rw [hx1]; exact beq_eq_false_iff_ne.2 (by omega)
      have c4 : (((s[1]'(by omega)).toNat : Int) == ((E[1]'(by omega)).toNat : Int)) = false := by rw [hx1]; exact beq_eq_false_iff_ne.2 hne
      have hne2 : ((s[1]'(by omega)).toNat : Int) ≠ ((E[1]'(by omega)).toNat : Int) := by rw [hx1]; exact hne
      rw [h2]
      simp only [show (2 : Int) - 1 = 1 from rfl]
      go_wp2
      go_step3
      go_wp2
      go_region_o
      go_wp2
      have hix : ∀ c, Lib.indexByte (s.extract 2 s.size).data.toList c = -1 := by
        intro c
        have : (s.extract 2 s.size).data.toList = [] := by
          rw [hs]; simp
        rw [this]; rfl
      go_region_with_o (go_at_fn (ρ.f 137); refine (Any.strings_IndexByte { L with } _ _ _).mono ?_; rintro e w' ⟨rfl, hw⟩; rw [hw])
      all_goals go_wp2
      all_goals (first | ((try simp only [Exit.noGoto, Exit.inBlock, Exit.then]); go_ret; exact ⟨rfl, (Below.refl _ _).drew.drew⟩))
    · go_wp2
      all_goals first | omega | ((try simp only [Exit.noGoto, Exit.inBlock, Exit.then]); go_ret; exact ⟨rfl, Below.refl _ _⟩)
theorem decode_skip (s : ByteArray) (i : Nat) (h : i < s.size) (ha : 128 ≤ (s[i]'h).toNat) :
    i + (Utf8.decode s i).2 ≤ s.size ∧ ∀ j, i < j → j < i + (Utf8.decode s i).2 → 128 ≤ (s.get! j).toNat := by
  have hn : ¬ (s[i]'h).toNat < 128 := by omega
  simp only [Utf8.decode, get_at s i h, hn, if_false]
  split
  · rename_i c
    simp only [Bool.and_eq_true, decide_eq_true_eq, beq_iff_eq] at c
    split
    · refine ⟨by simp only; omega, fun j h1 h2 => ?_⟩
      simp only at h2
      obtain rfl : j = i + 1 := by omega
      omega
    · exact ⟨by simp only; omega, fun j h1 h2 => by simp only at h2; omega⟩
  split
  · rename_i c
    simp only [Bool.and_eq_true, decide_eq_true_eq, beq_iff_eq] at c
    split
    · refine ⟨by simp only; omega, fun j h1 h2 => ?_⟩
      simp only at h2
      obtain rfl | rfl : j = i + 1 ∨ j = i + 2 := by omega
      · omega
      · omega
    · exact ⟨by simp only; omega, fun j h1 h2 => by simp only at h2; omega⟩
  split
  · rename_i c
    simp only [Bool.and_eq_true, decide_eq_true_eq, beq_iff_eq] at c
    split
    · refine ⟨by simp only; omega, fun j h1 h2 => ?_⟩
      simp only at h2
      obtain rfl | rfl | rfl : j = i + 1 ∨ j = i + 2 ∨ j = i + 3 := by omega
      · omega
      · omega
      · omega
    · exact ⟨by simp only; omega, fun j h1 h2 => by simp only at h2; omega⟩
  · exact ⟨by simp only; omega, fun j h1 h2 => by simp only at h2; omega⟩
theorem get_list (s : ByteArray) (j : Nat) (h : j < s.size) : s.data.toList[j]? = some (s.get! j) := by
  have := get_at s j h
  simp only [Nat.add_zero] at this
  rw [this]
  exact Lib.data_getElem? s j h
theorem noAny_skip (s : ByteArray) (chars : List UInt8) (i : Nat) (h : i < s.size) (ha : 128 ≤ (s[i]'h).toNat) (hc : ∀ b ∈ chars, b.toNat < 128) (hN : NoAny s.data.toList chars i) :
    NoAny s.data.toList chars (i + (Utf8.decode s i).2) := by
  obtain ⟨h1, h2⟩ := decode_skip s i h ha
  intro j b hj hb
  by_cases c : j < i
  · exact hN j b c hb
  rw [get_list s j (by omega)] at hb
  obtain rfl := Option.some.inj hb
  have h128 : 128 ≤ (s.get! j).toNat := by
    by_cases e : j = i
    · subst e
      have := get_at s j h
      simp only [Nat.add_zero] at this
      rw [this]; exact ha
    · exact h2 j (by omega) hj
  simp only [List.contains_eq_any_beq, List.any_eq_false, beq_iff_eq]
  intro x hx e
  have := hc x hx
  rw [← e] at this
  omega

theorem asd {p : Prop} (h : p) : Aside p := h
theorem strings_IndexRune_high (L : Lays.n152 P ρ) (s : ByteArray) (r : Int) (w : World) (h0 : 128 ≤ r) (h1 : r ≤ 2147483647) (hs : s.size = 2) (ha0 : (s[0]'(by omega)).toNat < 128) (ha1 : (s[1]'(by omega)).toNat < 128) :
    Calls P (ρ.f 152) #[.string s, .int .i32 r] w fun e w' => e = .returned (.int .i64 (-1)) ∧ Below w.heap.size w w' := by
  by_cases hr : r = 65533
  · subst hr; exact strings_IndexRune_err L s w hs ha0 ha1
  · exact strings_IndexRune_no L s r w h0 h1 hr hs ha0 ha1
theorem below_iterAt {w wx : World} (h : Below w.heap.size w wx) (s : ByteArray) (p : Nat) : Below w.heap.size w (wx.iterAt w.heap.size s p) :=
  ⟨h.os, h.tape, h.output, by simp only [World.iterAt, Array.size_setIfInBounds]; exact h.size, fun k hk => by
    simp only [World.iterAt]
    rw [Array.getElem?_setIfInBounds_ne (by omega)]
    exact h.block k hk⟩
set_option maxHeartbeats 8000000 in
set_option maxRecDepth 1000000 in
theorem strings_IndexAny_short2 (L : Lays.n153 P ρ) (s chars : ByteArray) (w : World) (h2 : chars.size = 2) (h8 : s.size ≤ 8) (hc0 : (chars[0]'(by omega)).toNat < 128) (hc1 : (chars[1]'(by omega)).toNat < 128) (hca : ∀ b ∈ chars.data.toList, b.toNat < 128) :
    Calls P (ρ.f 153) #[.string s, .string chars] w fun e w' => e = .returned (.int .i64 (Lib.indexAny s.data.toList chars.data.toList)) ∧ Below w.heap.size w w' := by
  have HR := asd (show ∀ (r : Int) (w : World), 128 ≤ r → r ≤ 2147483647 → Calls P (ρ.f 152) #[.string chars, .int .i32 r] w fun e w' => e = .returned (.int .i64 (-1)) ∧ Below w.heap.size w w' from fun r w a b => strings_IndexRune_high { L with } chars r w a b h2 hc0 hc1)
  have HA := asd hca
  clear hca hc0 hc1
  have hemp : chars.toList.isEmpty = false := by
    rw [Lib.toList_data]
    cases h : chars.data.toList with
    | nil => have := Lib.size_eq chars; rw [h, List.length_nil] at this; omega
    | cons _ _ => rfl
  have hn1 : ((chars.size : Int) == 1) = false := beq_eq_false_iff_ne.2 (by omega)
  have h8z : decide ((8 : Int) < (s.size : Int)) = false := decide_eq_false (by omega)
  have t3 := L.t3; have a3 := L.a3; have z3 := L.z3; have v3 := L.v3
  have t4 := L.t4; have a4 := L.a4; have z4 := L.z4; have v4 := L.v4
  have t5 := L.t5; have a5 := L.a5; have z5 := L.z5; have v5 := L.v5
  have t9 := L.t9; have a9 := L.a9; have z9 := L.z9; have v9 := L.v9
  have t21 := L.t21; have a21 := L.a21; have z21 := L.z21; have v21 := L.v21
  have e152 : ∀ args w, (callFunc (ρ.f 152) args).run P w = .ok (.enter (ρ.f 152) args) w := enters_of L.f152 (by kernel_rfl) rfl
  have e226 : ∀ args w, (callFunc (ρ.f 226) args).run P w = .ok (.enter (ρ.f 226) args) w := enters_of L.f226 (by kernel_rfl) rfl
  go_enter L.f153, Body.n153_ntmps ρ
  go_wp2_with (go_at_fn (ρ.f 226); refine (Any.strings_shouldUseASCIISet { L with } _ _).mono ?_; rintro e w' ⟨rfl, hw⟩; rw [hw, h8z])
  go_loopg [9, 10] s.size (fun g _ _ wx => ∃ i : Nat, i + g = s.size ∧ wx.heap[w.heap.size]? = some (.stringIter s i) ∧ Below w.heap.size w wx ∧ Lib.NoAny s.data.toList chars.data.toList i)
  case atStart => exact ⟨0, by omega, by simp [World.iter_heap], (Below.refl _ _).alloc (Nat.le_refl _) _, Lib.NoAny.zero _ _⟩
  case round =>
    obtain ⟨i, hig, hk, hbe, hno⟩ := hrel
    have HN := asd hno
    have HB := asd hbe
    have HK := asd hk
    clear hno hbe hk
    cases gk with
    | zero =>
      obtain rfl : i = s.size := by omega
      have hnx := fun ty => run_next_end_at (P := P) wr w.heap.size s s.size ty HK.out (by omega)
      go_wp2
      go_ret
      exact ⟨by rw [Lib.indexAny_none (by rw [← Lib.size_eq]; exact HN.out)]; rfl, HB.out⟩
    | succ g =>
      have hi : i < s.size := by omega
      obtain ⟨x, hx⟩ : ∃ x : UInt8, s[i]'hi = x := ⟨_, rfl⟩
      have hxl : s.data.toList[i]? = some x := by rw [← hx]; exact Lib.data_getElem? s i hi
      have Hx := asd hxl
      by_cases hx128 : x.toNat < 128
      · have hnx := fun ty => run_next_ascii_at (P := P) wr w.heap.size s i ty HK.out hi (by rw [hx]; exact hx128)
        rw [hx] at hnx
        clear hxl hx
        have hcon := Lib.contains_iff_indexByte chars.data.toList x
        have hback : ((x.toNat : Int)).toNat.toUInt8 = x := by simp
        have hK' := iterAt_heap wr w.heap.size s i (i + 1) HK.out
        cases hin : chars.data.toList.contains x
        · rw [hin] at hcon
          have hlt : ¬ ((0 : Int) ≤ Lib.indexByte chars.data.toList x) := of_decide_eq_false hcon.symm
          clear hcon
          go_wp2_with (go_at_fn (ρ.f 152); refine (Any.strings_IndexRune_ascii { L with } _ _ _ (by omega) (by omega)).mono ?_; rintro e w' ⟨rfl, hw⟩; rw [hw, hback])
          go_roundg g
          case measure => omega
          case rel => exact ⟨i + 1, by omega, hK', below_iterAt HB.out _ _, HN.out.succ Hx.out hin⟩
        · rw [hin] at hcon
          have hge : (0 : Int) ≤ Lib.indexByte chars.data.toList x := of_decide_eq_true hcon.symm
          clear hcon
          go_wp2_with (go_at_fn (ρ.f 152); refine (Any.strings_IndexRune_ascii { L with } _ _ _ (by omega) (by omega)).mono ?_; rintro e w' ⟨rfl, hw⟩; rw [hw, hback])
          go_ret
          exact ⟨by rw [Lib.indexAny_hit HN.out Hx.out hin]; rfl, below_iterAt HB.out _ _⟩
      · have hnx := fun ty => run_next_any_at (P := P) wr w.heap.size s i ty HK.out hi
        have hd := decode_high s i hi (by rw [hx]; omega)
        have hle := decode_le s i
        have hsk := noAny_skip s chars.data.toList i hi (by rw [hx]; omega) HA.out HN.out
        have hds := (decode_skip s i hi (by rw [hx]; omega)).1
        clear hxl hx
        have hK' := fun p => iterAt_heap wr w.heap.size s i p HK.out
        generalize Utf8.decode s i = dd at *
        obtain ⟨c, d⟩ := dd
        simp only at hd hle hds hsk hnx
        have HS := asd hsk
        clear hsk
        have hm1 : ¬ ((0 : Int) ≤ -1) := by omega
        go_wp2_with (go_at_fn (ρ.f 152); refine (HR.out _ _ (by omega) (by omega)).mono ?_; rintro e w' ⟨rfl, hw⟩)
        go_roundg (s.size - (i + d))
        case measure => omega
        case rel =>
          refine ⟨i + d, by omega, ?_, (below_iterAt HB.out s (i + d)).trans ?_, HS.out⟩
          · rw [hw.block _ (by simp only [World.iterAt, Array.size_setIfInBounds]; exact (Array.getElem?_eq_some_iff.1 HK.out).1)]; exact hK' _
          · exact hw.mono (by simp only [World.iterAt, Array.size_setIfInBounds]; exact HB.out.size)
end
def strings_IndexAny.f (s chars : ByteArray) : Option Int := if s.size < 4294967281 ∧ chars = ⟨#[60, 62]⟩ then some (Lib.indexAny s.data.toList [60, 62]) else none
theorem strings_IndexAny.calls (a0 a1 : ByteArray) (r : Int) (w : World) (h : strings_IndexAny.f a0 a1 = some r) :
    Calls Tryd.prog 47 #[.string a0, .string a1] w fun e w' => e = .returned (.int .i64 r) ∧ Below w.heap.size w w' := by
  unfold strings_IndexAny.f at h
  by_cases hr : a0.size < 4294967281 ∧ a1 = ⟨#[60, 62]⟩
  · rw [if_pos hr] at h
    obtain rfl := Option.some.inj h
    obtain ⟨hr, rfl⟩ := hr
    by_cases h8 : a0.size ≤ 8
    · exact strings_IndexAny_short2 Tryd.laysIndexAny a0 ⟨#[60, 62]⟩ w rfl h8 (by show (60 : UInt8).toNat < 128; decide) (by show (62 : UInt8).toNat < 128; decide) (by show ∀ b ∈ ([60, 62] : List UInt8), b.toNat < 128; decide)
    · refine (Any.strings_IndexAny_long Tryd.laysIndexAny (zero_of_info (v := .agg (Array.replicate 256 (.bool false))) (n := 256) (by kernel_rfl)).1 (by kernel_rfl) a0 ⟨#[60, 62]⟩ w (by decide) (by omega) hr (by decide) ?_).mono ?_
      · intro j b hb
        have : b ∈ [60, 62] := List.mem_of_getElem? hb
        simp at this
        rcases this with rfl | rfl <;> decide
      · rintro e w' ⟨rfl, rfl⟩
        exact ⟨rfl, ((Below.refl _ _).alloc (Nat.le_refl _) _).alloc (by simp) _⟩
  · rw [if_neg hr] at h
    exact absurd h (by simp)
shelf_lay Lays.n145 Nm 145 at Tryd as Tryd.laysCut
def strings_Cut.f (s sep : ByteArray) : Option (ByteArray × ByteArray × Bool) := if s.size < 4294967281 then some (⟨(Lib.cut s.data.toList sep.data.toList).1.toArray⟩, ⟨(Lib.cut s.data.toList sep.data.toList).2.1.toArray⟩, (Lib.cut s.data.toList sep.data.toList).2.2) else none
theorem strings_Cut.calls (a0 a1 : ByteArray) (r1 : ByteArray) (r2 : ByteArray) (r3 : Bool) (w : World) (h : strings_Cut.f a0 a1 = some (r1, r2, r3)) (hS : ∃ m, w.cell? ⟨0, 0, none⟩ = some (.int .i64 m)) :
    Calls Tryd.prog 48 #[.string a0, .string a1] w fun e w' => e = .returned (.tuple #[.string r1, .string r2, .bool r3]) ∧ Below w.heap.size w w' := by
  unfold strings_Cut.f at h
  by_cases hr : a0.size < 4294967281
  · rw [if_pos hr] at h
    obtain ⟨rfl, rfl, rfl⟩ := by simpa using h
    obtain ⟨m, hm⟩ := hS
    refine (Any.strings_Cut Tryd.laysCut a0 a1 m w hr hm).mono ?_
    rintro e w' ⟨rfl, n, rfl⟩
    exact ⟨rfl, ⟨rfl, rfl, rfl, Nat.le_refl _, fun _ _ => rfl⟩⟩
  · rw [if_neg hr] at h
    exact absurd h (by simp)

theorem gItoa (W : World) (hT : Lib.TabIs Tryd.prog W "internal/strconv.uint64pow10" .u64 Lib.pow10Tab) (n : Nat) : Go.Eva.Good Tryd.prog W 71 (Go.Eva.c71 n) :=
  Go.Eva.good_is Tryd.func71 (by kernel_rfl) (by kernel_rfl) (F := Go.Eva.itoF) fun a r w h hb => by
    unfold Go.Eva.itoF at h
    by_cases hr : -9223372036854775808 ≤ a ∧ a ≤ 9223372036854775807
    · rw [if_pos (decide_eq_true hr)] at h
      obtain rfl : (⟨(Lib.itoa a).toArray⟩ : ByteArray) = r := congrArg Prod.fst (Option.some.inj h)
      refine (Any.strconv_Itoa Tryd.laysM171 a hr.1 hr.2 w (Lib.tabBelow_of_tabIs hT w hb)).mono ?_
      rintro e w' ⟨rfl, k, os, rfl⟩
      exact ⟨rfl, Lib.below_grow _ _ (Nat.le_refl _) k os⟩
    · rw [if_neg (by rw [decide_eq_false hr]; decide)] at h
      cases h
theorem gIndexAny (W : World) (n : Nat) : Go.Eva.Good Tryd.prog W 47 (Go.Eva.c47 n) :=
  Go.Eva.good_ssi Tryd.func47 (by kernel_rfl) (by kernel_rfl) (F := Go.Eva.anyF) fun a b r w h hb => by
    unfold Go.Eva.anyF at h
    split at h
    case isFalse => cases h
    rename_i h1
    split at h
    case isFalse => cases h
    rename_i h2
    have h1 := of_decide_eq_true h1
    have h2 := of_decide_eq_true h2
    have e : b = ⟨#[60, 62]⟩ := by
      cases b
      rw [ByteArray.toList_eq, ByteArray.toList_eq] at h2
      exact congrArg ByteArray.mk (Array.toList_inj.1 h2)
    obtain rfl := congrArg Prod.fst (Option.some.inj h)
    exact strings_IndexAny.calls a b _ w (by unfold strings_IndexAny.f; rw [if_pos ⟨h1, e⟩])
theorem gCut (W : World) (hS : ∃ m, W.cell? ⟨0, 0, none⟩ = some (.int .i64 m)) (n : Nat) : Go.Eva.Good Tryd.prog W 48 (Go.Eva.c48 n) :=
  Go.Eva.good_ssb Tryd.func48 (by kernel_rfl) (by kernel_rfl) (F := Go.Eva.cutF) fun a b r1 r2 r3 w h hb => by
    unfold Go.Eva.cutF at h
    split at h
    case isFalse => cases h
    rename_i h1
    have h1 := of_decide_eq_true h1
    obtain ⟨m, hm⟩ := hS
    have h := Option.some.inj h
    injection h with q1 h
    injection h with q2 h
    injection h with q3 h
    subst q1 q2 q3
    exact strings_Cut.calls a b _ _ _ w (by unfold strings_Cut.f; rw [if_pos h1]) ⟨m, (hb.cell (World.block_lt_of_cell? W _ hm)).trans hm⟩
end Go.Proofs
end
section
/- Total functions: rules for what an Option answers. -/
namespace Go.Eva
open Go.RowKit (wrap64)
set_option linter.unusedVariables false

def ok {α : Type} (x : Option α) (Q : α → Prop) : Prop := ∃ a, x = some a ∧ Q a
theorem ok.some {α : Type} {a : α} {Q : α → Prop} (h : Q a) : ok (some a) Q := ⟨a, rfl, h⟩
theorem ok.bind {α β : Type} {x : Option α} {f : α → Option β} {Q : α → Prop} {R : β → Prop} (h : ok x Q) (k : ∀ a, Q a → ok (f a) R) : ok (x.bind f) R := by
  obtain ⟨a, rfl, q⟩ := h
  exact k a q
theorem ok.guard {α : Type} {c : Prop} [Decidable c] {x : Option α} {Q : α → Prop} (h : c) (k : ok x Q) : ok (if decide c = true then x else none) Q := by rw [if_pos (decide_eq_true h)]; exact k
theorem ok.ite {α : Type} {c : Prop} [Decidable c] {x y : Option α} {Q : α → Prop} (h : c → ok x Q) (k : ¬ c → ok y Q) : ok (if decide c = true then x else y) Q := by
  by_cases hc : c
  · rw [if_pos (decide_eq_true hc)]; exact h hc
  · rw [if_neg (by simpa using hc)]; exact k hc
theorem ok.iteb {α : Type} {c : Bool} {x y : Option α} {Q : α → Prop} (h : c = true → ok x Q) (k : c = false → ok y Q) : ok (if c = true then x else y) Q := by
  cases c
  · exact k rfl
  · exact h rfl
theorem ok.mono {α : Type} {x : Option α} {Q R : α → Prop} (h : ok x Q) (k : ∀ a, Q a → R a) : ok x R := by
  obtain ⟨a, q1, q2⟩ := h
  exact ⟨a, q1, k a q2⟩
theorem w64 {x : Int} (h : -9223372036854775808 ≤ x) (h' : x ≤ 9223372036854775807) : wrap64 x = x := by unfold wrap64; omega
theorem andI_bd (x : Int) (m : Nat) (hm : m < 9223372036854775808) : 0 ≤ andI .i64 x m ∧ andI .i64 x m ≤ m := by
  unfold andI
  have h1 : (BitVec.ofInt IntKind.i64.bits x &&& BitVec.ofInt IntKind.i64.bits (m : Int)).toNat ≤ m := by
    rw [BitVec.toNat_and]
    have : (BitVec.ofInt IntKind.i64.bits (m : Int)).toNat = m := by
      rw [BitVec.toNat_ofInt]
      show ((m : Int) % (2 ^ 64 : Nat)).toNat = m
      omega
    rw [this]
    exact Nat.and_le_right
  have h2 : IntKind.i64.wrap ((BitVec.ofInt IntKind.i64.bits x &&& BitVec.ofInt IntKind.i64.bits (m : Int)).toNat : Int) = ((BitVec.ofInt IntKind.i64.bits x &&& BitVec.ofInt IntKind.i64.bits (m : Int)).toNat : Int) := by
    rw [IntKind.wrap_i64]; omega
  rw [h2]
  omega
theorem and255 (x : Int) : 0 ≤ andI .i64 x 255 ∧ andI .i64 x 255 < 256 := by
  have := andI_bd x 255 (by omega)
  exact ⟨this.1, Int.lt_of_le_of_lt this.2 (by decide)⟩
theorem rdOf_mem {α : Type} {d : α} {l : List α} {i : Int} (h : 0 ≤ i) (h' : i < (l.length : Int)) : rdOf d l i ∈ l := by
  unfold rdOf
  rw [List.getD_eq_getElem?_getD, List.getElem?_eq_getElem (by omega)]
  exact List.getElem_mem _
theorem rdOf_nat {α : Type} {d : α} {l : List α} {i : Nat} (h : i < l.length) : rdOf d l (i : Int) = l[i] := by
  unfold rdOf
  rw [List.getD_eq_getElem?_getD, Int.toNat_natCast, List.getElem?_eq_getElem h]; rfl
/-- A loop's rule: what goes down, and what stays. -/
theorem tmod_bd {x n : Int} (h : 0 ≤ x) (hn : 0 < n) : 0 ≤ x.tmod n ∧ x.tmod n < n := ⟨Int.tmod_nonneg _ h, Int.tmod_lt_of_pos _ hn⟩
end Go.Eva
end
section
/- What the drawing functions answer. -/
namespace Go.Eva
open Go.RowKit (wrap64)
set_option linter.unusedVariables false
set_option linter.unusedSimpArgs false

/-- A cursor: the code and the place in it. -/
structure Cur (b : List Int) (i : Int) : Prop where
  lo : 0 ≤ i
  hi : i ≤ (b.length : Int)
  len : b.length ≤ 1048576
  byt : ∀ x ∈ b, 0 ≤ x ∧ x < 256

theorem t72 {n : Nat} {b : List Int} {i h : Int} (c : Cur b i) : ok (F72 n b i h) fun r => 0 ≤ r.1 ∧ r.1 < 256 ∧ Cur r.2.1 r.2.2.1 := by
  unfold F72
  refine ok.guard (by omega) (ok.guard (by omega) (ok.ite (fun h1 => ok.guard c.lo (ok.guard h1 (ok.some ?_))) (fun h1 => ok.some ?_)))
  · have hl := c.len
    have hlo := c.lo
    refine ⟨(and255 _).1, (and255 _).2, ?_⟩
    show Cur b (wrap64 (i + 1))
    rw [w64 (x := i + 1) (by omega) (by omega)]
    exact ⟨by omega, by omega, c.len, c.byt⟩
  · exact ⟨(and255 _).1, (and255 _).2, c⟩

theorem t39 {n : Nat} {m : Int} {b : List Int} {i h : Int} (c : Cur b i) : ok (F39 n m b i h) fun r => 0 ≤ r.1 ∧ (0 < m → r.1 < m) ∧ (m ≤ 0 → r.1 = 0) ∧ Cur r.2.1 r.2.2.1 := by
  unfold F39
  refine ok.ite (fun h1 => ok.some ⟨Int.le_refl _, fun q => by omega, fun _ => rfl, c⟩) (fun h1 => ok.ite (fun h2 => ?_) (fun h2 => ?_))
  · refine (t72 c).bind fun r1 q => ok.guard (by omega) (ok.some ?_)
    have := tmod_bd (x := r1.1) (n := m) q.1 (by omega)
    exact ⟨this.1, fun _ => this.2, fun q => by omega, q.2.2⟩
  · refine (t72 c).bind fun r2 q2 => (t72 q2.2.2).bind fun r3 q3 => (t72 q3.2.2).bind fun r4 q4 => (t72 q4.2.2).bind fun r5 q5 => ok.guard (by omega) (ok.some ?_)
    have e : wrap64 ((wrap64 ((wrap64 ((wrap64 (r2.1 * 16777216)) + (wrap64 (r3.1 * 65536)))) + (wrap64 (r4.1 * 256)))) + r5.1) = r2.1 * 16777216 + r3.1 * 65536 + r4.1 * 256 + r5.1 := by
      obtain ⟨a1, a2, _⟩ := q2
      obtain ⟨b1, b2, _⟩ := q3
      obtain ⟨c1, c2, _⟩ := q4
      obtain ⟨d1, d2, _⟩ := q5
      rw [w64 (x := r2.1 * 16777216) (by omega) (by omega), w64 (x := r3.1 * 65536) (by omega) (by omega), w64 (x := r4.1 * 256) (by omega) (by omega), w64 (x := r2.1 * 16777216 + r3.1 * 65536) (by omega) (by omega), w64 (x := r2.1 * 16777216 + r3.1 * 65536 + r4.1 * 256) (by omega) (by omega), w64 (by omega) (by omega)]
    simp only [e]
    have := tmod_bd (x := r2.1 * 16777216 + r3.1 * 65536 + r4.1 * 256 + r5.1) (n := m) (by have := q2.1; have := q3.1; have := q4.1; have := q5.1; omega) (by omega)
    exact ⟨this.1, fun _ => this.2, fun q => by omega, q5.2.2⟩

theorem t51 {n : Nat} {m : Int} {b : List Int} {i h : Int} (c : Cur b i) : ok (F51 n m b i h) fun r => Cur r.2.1 r.2.2.1 := by
  unfold F51
  exact (t39 c).bind fun r q => ok.some q.2.2.2

theorem t65 {n : Nat} {l b : List Int} {i h : Int} (c : Cur b i) (hl : 0 < l.length) : ok (F65 n l b i h) fun r => r.1 ∈ l ∧ Cur r.2.1 r.2.2.1 := by
  unfold F65
  refine (t39 c).bind fun r q => ok.guard q.1 (ok.guard (q.2.1 (by omega)) (ok.some ⟨rdOf_mem q.1 (q.2.1 (by omega)), q.2.2.2⟩))

theorem t52 {n : Nat} {l : List ByteArray} {b : List Int} {i h : Int} (c : Cur b i) (hl : 0 < l.length) : ok (F52 n l b i h) fun r => r.1 ∈ l ∧ Cur r.2.1 r.2.2.1 := by
  unfold F52
  refine (t39 c).bind fun r q => ok.guard q.1 (ok.guard (q.2.1 (by omega)) (ok.some ⟨rdOf_mem q.1 (q.2.1 (by omega)), q.2.2.2⟩))

theorem t112 {n : Nat} {b : List Int} {i h : Int} (c : Cur b i) : ok (F112 n b i h) fun r => r.1.size ≤ 5 ∧ Cur r.2.1 r.2.2.1 := by
  unfold F112
  refine (t52 c (by decide)).bind fun r q => ok.some ⟨?_, q.2⟩
  have hall : ∀ x ∈ ([(⟨#[97]⟩ : ByteArray), (⟨#[98]⟩ : ByteArray), (⟨#[99, 112, 117]⟩ : ByteArray), (⟨#[114, 101, 113]⟩ : ByteArray), (⟨#[120, 95, 49]⟩ : ByteArray), (⟨#[90, 57]⟩ : ByteArray), (⟨#[109, 101, 109]⟩ : ByteArray), (⟨#[113]⟩ : ByteArray)] : List ByteArray), x.size ≤ 5 := by
    intro x hx
    simp only [List.mem_cons, List.not_mem_nil, or_false] at hx
    rcases hx with rfl | rfl | rfl | rfl | rfl | rfl | rfl | rfl <;> decide
  exact hall _ q.1

theorem t109 {n : Nat} {b : List Int} {i h : Int} (c : Cur b i) : ok (F109 n b i h) fun r => Cur r.2.1 r.2.2.1 := by
  unfold F109
  exact (t39 c).bind fun r1 q1 => (t39 q1.2.2.2).bind fun r2 q2 => (t65 q2.2.2.2 (by simp)).bind fun r3 q3 => ok.some q3.2

theorem t36 {n : Nat} {x y z : Int} : ok (F36 n x y z) fun _ => True := by
  unfold F36
  exact ok.ite (fun _ => ok.some trivial) (fun _ => ok.some trivial)
theorem t80 {n : Nat} {x : Int} : ok (F80 n x) fun _ => True := by
  unfold F80
  exact t36.bind fun _ _ => ok.iteb (fun _ => ok.some trivial) (fun _ => t36.bind fun _ _ => ok.iteb (fun _ => ok.some trivial) (fun _ => t36.bind fun _ _ => ok.iteb (fun _ => ok.some trivial) (fun _ => ok.some trivial)))
theorem t46_0 {n : Nat} {s : ByteArray} (hs : s.size ≤ 1048576) : ∀ (k : Nat) (i : Int), 0 ≤ i → i ≤ (s.size : Int) → (s.size : Int) - i < k → ok (lp46_0 n k s i) fun _ => True
  | 0, i, h0, h1, hk => by omega
  | k + 1, i, h0, h1, hk => by
    show ok (st46_0 n (lp46_0 n k) s i) _
    unfold st46_0
    refine ok.ite (fun h2 => ok.guard h0 (ok.guard h2 (t80.bind fun _ _ => ok.iteb (fun _ => ok.some trivial) (fun _ => ?_)))) (fun _ => t36.bind fun _ _ => ok.some trivial)
    rw [w64 (by omega) (by omega)]
    exact t46_0 hs k (i + 1) (by omega) (by omega) (by omega)
theorem t46 {n : Nat} {s : ByteArray} (hs : s.size ≤ 5) (hn : 100 ≤ n) : ok (F46 n s) fun _ => True := t46_0 (by omega) n 0 (by omega) (by omega) (by omega)
theorem t164 {n : Nat} {s : ByteArray} {a b : Int} {t : Bool} {d e f g u v : Int} : ok (F164 n s a b t d e f g u v) fun _ => True := by
  unfold F164
  refine ok.ite (fun _ => ok.ite (fun _ => ok.ite (fun _ => ok.ite (fun _ => ok.some trivial) (fun _ => ok.some trivial)) (fun _ => ok.some trivial)) (fun _ => ok.some trivial)) (fun _ => ?_)
  exact t36.bind fun _ _ => ok.iteb (fun _ => t36.bind fun _ _ => ok.iteb (fun _ => ok.ite (fun _ => t36.bind fun _ _ => ok.iteb (fun _ => t36.bind fun _ _ => ok.iteb (fun _ => ok.ite (fun _ => ok.some trivial) (fun _ => ok.some trivial)) (fun _ => ok.some trivial)) (fun _ => ok.some trivial)) (fun _ => ok.some trivial)) (fun _ => ok.some trivial)) (fun _ => ok.some trivial)
theorem t146 {n : Nat} {s : ByteArray} {a b : Int} {t : Bool} {d e f g u v : Int} (hs : s.size ≤ 5) (hn : 100 ≤ n) : ok (F146 n s a b t d e f g u v) fun _ => True := by
  unfold F146
  refine (t46 hs hn).bind fun _ _ => ok.iteb (fun _ => ok.some trivial) (fun _ => ok.ite (fun _ => ok.iteb (fun _ => t36.bind fun _ _ => ok.some trivial) (fun _ => ok.some trivial)) (fun _ => ok.ite (fun _ => ok.iteb (fun _ => t36.bind fun _ _ => ok.iteb (fun _ => ok.iteb (fun _ => ok.some trivial) (fun _ => ok.some trivial)) (fun _ => ok.some trivial)) (fun _ => ok.some trivial)) (fun _ => ok.ite (fun _ => ?_) (fun _ => ok.some trivial))))
  exact ok.ite (fun _ => ok.iteb (fun _ => ok.ite (fun _ => t164.bind fun _ _ => ok.some trivial) (fun _ => ok.some trivial)) (fun _ => ok.some trivial)) (fun _ => ok.some trivial)
theorem t113 {n : Nat} {s : ByteArray} {a b : Int} {t : Bool} {d e f g u v x : Int} (hs : s.size ≤ 5) (hn : 100 ≤ n) : ok (F113 n s a b t d e f g u v x) fun r => r.1 = s := by
  unfold F113
  exact (t146 hs hn).bind fun _ _ => ok.iteb (fun _ => ok.some rfl) (fun _ => ok.ite (fun _ => ok.some rfl) (fun _ => t36.bind fun _ _ => ok.iteb (fun _ => ok.some rfl) (fun _ => ok.ite (fun _ => ok.some rfl) (fun _ => ok.ite (fun _ => ok.some rfl) (fun _ => ok.some rfl)))))
theorem t73_0 {n : Nat} (hn : 100 ≤ n) : ∀ (k : Nat) (i0 : Int) (s1 : ByteArray) (i2 i3 : Int) (b4 : Bool) (i5 i6 i7 i8 i9 i10 : Int) (s11 : ByteArray) (i12 i13 : Int) (b14 : Bool) (i15 i16 i17 i18 i19 i20 : Int) (l21 : List Int) (i22 i23 : Int), 0 ≤ i0 → i0 < k → i0 ≤ 100 → s11.size ≤ 5 → Cur l21 i22 →
    ok (lp73_0 n k i0 s1 i2 i3 b4 i5 i6 i7 i8 i9 i10 s11 i12 i13 b14 i15 i16 i17 i18 i19 i20 l21 i22 i23) fun r => r.1.size ≤ 5 ∧ Cur r.2.2.2.2.2.2.2.2.2.2.1 r.2.2.2.2.2.2.2.2.2.2.2.1
  | 0, i0, s1, i2, i3, b4, i5, i6, i7, i8, i9, i10, s11, i12, i13, b14, i15, i16, i17, i18, i19, i20, l21, i22, i23, h0, hk, h1, hs, hc => by omega
  | k + 1, i0, s1, i2, i3, b4, i5, i6, i7, i8, i9, i10, s11, i12, i13, b14, i15, i16, i17, i18, i19, i20, l21, i22, i23, h0, hk, h1, hs, hc => by
    show ok (st73_0 n (lp73_0 n k) i0 s1 i2 i3 b4 i5 i6 i7 i8 i9 i10 s11 i12 i13 b14 i15 i16 i17 i18 i19 i20 l21 i22 i23) _
    unfold st73_0
    refine ok.ite (fun h2 => (t109 hc).bind fun r8 q8 => (t113 hs hn).bind fun r9 q9 => ?_) (fun _ => ok.some ⟨hs, hc⟩)
    rw [w64 (by omega) (by omega)]
    exact t73_0 hn k _ _ _ _ _ _ _ _ _ _ _ _ _ _ _ _ _ _ _ _ _ _ _ _ (by omega) (by omega) (by omega) (by rw [q9]; exact hs) q8
theorem t73 {n : Nat} (hn : 100 ≤ n) {b : List Int} {i h : Int} (c : Cur b i) : ok (F73 n b i h) fun r => r.1.size ≤ 5 ∧ Cur r.2.2.2.2.2.2.2.2.2.2.1 r.2.2.2.2.2.2.2.2.2.2.2.1 := by
  unfold F73 st73
  refine (t112 c).bind fun r1 q1 => (t39 q1.2).bind fun r2 q2 => ok.ite (fun _ => (t39 q2.2.2.2).bind fun r3 q3 => (t65 q3.2.2.2 (by simp)).bind fun r4 q4 => ok.some ⟨q1.1, q4.2⟩) (fun _ => ok.ite (fun _ => (t51 q2.2.2.2).bind fun r5 q5 => ok.iteb (fun _ => (t109 q5).bind fun r6 q6 => ok.some ⟨q1.1, q6⟩) (fun _ => ok.some ⟨q1.1, q5⟩)) (fun _ => (t39 q2.2.2.2).bind fun r7 q7 => ?_))
  have := q7.2.1 (by omega)
  exact t73_0 hn n _ _ _ _ _ _ _ _ _ _ _ _ _ _ _ _ _ _ _ _ _ _ _ _ q7.1 (by omega) (by omega) q1.1 q7.2.2.2
theorem t76 {n : Nat} {b : List Int} {i h : Int} (c : Cur b i) : ok (F76 n b i h) fun r => r.1.size ≤ 5 ∧ Cur r.2.1 r.2.2.1 := by
  unfold F76
  refine (t51 c).bind fun r1 q1 => ok.iteb (fun _ => (t52 q1 (by decide)).bind fun r2 q2 => ok.some ⟨?_, q2.2⟩) (fun _ => (t112 q1).bind fun r3 q3 => ok.some q3)
  have hall : ∀ x ∈ ([(⟨#[]⟩ : ByteArray), (⟨#[97, 98, 99, 100, 101]⟩ : ByteArray), (⟨#[97, 32, 98]⟩ : ByteArray), (⟨#[97, 58]⟩ : ByteArray), (⟨#[0]⟩ : ByteArray), (⟨#[97, 98, 99, 100]⟩ : ByteArray), (⟨#[255]⟩ : ByteArray)] : List ByteArray), x.size ≤ 5 := by
    intro x hx
    simp only [List.mem_cons, List.not_mem_nil, or_false] at hx
    rcases hx with rfl | rfl | rfl | rfl | rfl | rfl | rfl <;> decide
  exact hall _ q2.1
theorem t114 {n : Nat} {b : List Int} {i h : Int} (c : Cur b i) : ok (F114 n b i h) fun r => Cur r.2.1 r.2.2.1 := by
  unfold F114
  exact (t65 c (by decide)).bind fun r1 q1 => ok.some q1.2
theorem t75 {n : Nat} (hn : 100 ≤ n) {b : List Int} {i h : Int} (c : Cur b i) : ok (F75 n b i h) fun r => r.1.size ≤ 5 ∧ Cur r.2.2.2.2.2.2.2.2.2.2.1 r.2.2.2.2.2.2.2.2.2.2.2.1 := by
  unfold F75
  exact (t73 hn c).bind fun r1 q1 => (t39 q1.2).bind fun r2 q2 => ok.ite (fun _ => (t76 q2.2.2.2).bind fun r3 q3 => ok.some q3) (fun _ => ok.ite (fun _ => (t114 q2.2.2.2).bind fun r4 q4 => ok.some ⟨q1.1, q4⟩) (fun _ => ok.ite (fun _ => ok.some ⟨q1.1, q2.2.2.2⟩)
    (fun _ => ok.ite (fun _ => (t65 q2.2.2.2 (by decide)).bind fun r5 q5 => ok.some ⟨q1.1, q5.2⟩) (fun _ => ok.ite (fun _ => (t65 q2.2.2.2 (by decide)).bind fun r6 q6 => ok.some ⟨q1.1, q6.2⟩) (fun _ => ok.ite (fun _ => ok.some ⟨q1.1, q2.2.2.2⟩) (fun _ => ok.ite (fun _ => (t65 q2.2.2.2 (by decide)).bind fun r7 q7 => ok.some ⟨q1.1, q7.2⟩) (fun _ => ok.some ⟨q1.1, q2.2.2.2⟩)))))))
theorem t74 {n : Nat} {s : ByteArray} {a b : Int} {t : Bool} {d e f g u v : Int} : ok (F74 n s a b t d e f g u v) fun _ => True := by
  unfold F74
  exact ok.ite (fun _ => ok.iteb (fun _ => ok.some trivial) (fun _ => ok.some trivial)) (fun _ => ok.some trivial)
/-- A report: few rows, short keys. -/
def Rp (l : List (ByteArray × (Int × (Int × (Bool × (Int × (Int × (Int × (Int × (Int × Int)))))))))) : Prop := l.length ≤ 4 ∧ ∀ x ∈ l, x.1.size ≤ 5
theorem t40_0 {n : Nat} (hn : 100 ≤ n) {l2 : List ByteArray} (hl2 : l2.length ≤ 50) (hs : ∀ x ∈ l2, x.size ≤ 5) : ∀ (k : Nat) (i0 : Int) (l1 : List _) (l3 : List Int) (i4 i5 : Int), 0 ≤ i0 → i0 ≤ (l2.length : Int) → (l2.length : Int) - i0 < k → Rp l1 → Cur l3 i4 →
    ok (lp40_0 n k i0 l1 l2 l3 i4 i5) fun r => Rp r.1 ∧ Cur r.2.1 r.2.2.1
  | 0, i0, l1, l3, i4, i5, h0, h1, hk, hl, hc => by omega
  | k + 1, i0, l1, l3, i4, i5, h0, h1, hk, hl, hc => by
    show ok (st40_0 n (lp40_0 n k) i0 l1 l2 l3 i4 i5) _
    have hl0 := hl.1
    unfold st40_0
    refine ok.ite (fun h2 => (t73 hn hc).bind fun r1 q1 => ok.guard h0 (ok.guard h2 (t74.bind fun r2 _ => ok.iteb (fun _ => (t51 q1.2).bind fun r3 q3 => ok.iteb (fun _ => ok.ite (fun h3 => ok.guard (by simp only [List.length_cons, List.length_nil]; omega) ?_) (fun _ => ?_)) (fun _ => ?_)) (fun _ => ?_)))) (fun h2 => ok.ite (fun h3 => ?_) (fun _ => ok.some ⟨hl, hc⟩))
    · rw [w64 (by omega) (by omega)]
      refine t40_0 hn hl2 hs k _ _ _ _ _ (by omega) (by omega) (by omega) ⟨by simp only [List.length_append, List.length_cons, List.length_nil]; omega, fun x hx => ?_⟩ q3
      rcases List.mem_append.1 hx with hx | hx
      · exact hl.2 x hx
      · rw [List.mem_singleton.1 hx]
        exact hs _ (rdOf_mem h0 h2)
    · rw [w64 (by omega) (by omega)]
      exact t40_0 hn hl2 hs k _ _ _ _ _ (by omega) (by omega) (by omega) hl q3
    · rw [w64 (by omega) (by omega)]
      exact t40_0 hn hl2 hs k _ _ _ _ _ (by omega) (by omega) (by omega) hl q3
    · rw [w64 (by omega) (by omega)]
      exact t40_0 hn hl2 hs k _ _ _ _ _ (by omega) (by omega) (by omega) hl q1.2
    · refine (t51 hc).bind fun r4 q4 => ok.iteb (fun _ => (t39 q4).bind fun r5 q5 => (t75 hn q5.2.2.2).bind fun r6 q6 => ok.guard q5.1 (ok.guard (q5.2.1 h3) (ok.some ⟨⟨?_, fun x hx => ?_⟩, q6.2⟩))) (fun _ => ok.some ⟨hl, q4⟩)
      · rw [List.length_set]; exact hl0
      · rcases List.mem_or_eq_of_mem_set hx with hx | hx
        · exact hl.2 x hx
        · rw [hx]; exact q6.1
theorem t40 {n : Nat} (hn : 100 ≤ n) {b : List Int} {i h : Int} (c : Cur b i) : ok (F40 n b i h) fun r => Rp r.1 ∧ Cur r.2.1 r.2.2.1 := by
  refine t40_0 hn (by decide) ?_ n _ _ _ _ _ (by omega) (by simp) (by simp; omega) ⟨by simp, fun x hx => (by cases hx)⟩ c
  intro x hx
  simp only [List.mem_cons, List.not_mem_nil, or_false] at hx
  rcases hx with rfl | rfl | rfl | rfl | rfl | rfl <;> decide
theorem t32_0 {n : Nat} {b : List Int} (hb : b.length ≤ 1048576) (hy : ∀ x ∈ b, 0 ≤ x ∧ x < 256) : ∀ (k : Nat) (i1 i2 : Int), 0 ≤ i2 → i2 ≤ 4000 → 4000 - i2 < k → ok (lp32_0 n k b i1 i2) fun r => Cur r.2.1 r.2.2.1
  | 0, i1, i2, h0, h1, hk => by omega
  | k + 1, i1, i2, h0, h1, hk => by
    show ok (st32_0 n (lp32_0 n k) b i1 i2) _
    unfold st32_0
    refine ok.ite (fun h2 => ok.ite (fun h3 => ok.guard h0 (ok.guard h2 ?_)) (fun _ => ok.some ⟨Int.le_refl _, by simp, hb, hy⟩)) (fun _ => ok.some ⟨Int.le_refl _, by simp, hb, hy⟩)
    rw [w64 (x := i2 + 1) (by omega) (by omega)]
    exact t32_0 hb hy k _ _ (by omega) (by omega) (by omega)
theorem t32 {n : Nat} (hn : 5000 ≤ n) {b : List Int} (hb : b.length ≤ 1048576) (hy : ∀ x ∈ b, 0 ≤ x ∧ x < 256) : ok (F32 n b) fun r => Cur r.2.1 r.2.2.1 := t32_0 hb hy n _ _ (by omega) (by omega) (by omega)
end Go.Eva
end
section
/- Rows found, their series. -/
namespace Go.Eva
open Go.RowKit (wrap64)
set_option linter.unusedVariables false
set_option linter.unusedSimpArgs false

abbrev Rw := (ByteArray × (Int × (Int × (Bool × (Int × (Int × (Int × (Int × (Int × Int)))))))))
/-- The place of the first that p is true of, counted from j; or -1. -/
def fi {α : Type} (p : α → Bool) : List α → Int → Int
  | [], _ => -1
  | x :: xs, j => if p x = true then j else fi p xs (j + 1)
def keq (s : ByteArray) (x : Rw) : Bool := decide (x.1.toList = s.toList)
def lk (s : ByteArray) : List Rw → Option Rw
  | [] => none
  | x :: xs => if keq s x = true then some x else lk s xs

theorem fi_look (s : ByteArray) : ∀ (out : List Rw) (j : Int), 0 ≤ j → (fi (keq s) out j = -1 ∧ lk s out = none) ∨ ∃ i, ∃ h : i < out.length, fi (keq s) out j = j + i ∧ lk s out = some out[i]
  | [], j, hj => .inl ⟨rfl, rfl⟩
  | x :: xs, j, hj => by
    by_cases h : keq s x = true
    · exact .inr ⟨0, by simp, by simp [fi, h], by simp [lk, h]⟩
    · rcases fi_look s xs (j + 1) (by omega) with ⟨h1, h2⟩ | ⟨i, h1, h2, h3⟩
      · exact .inl ⟨by simp [fi, h, h1], by simp [lk, h, h2]⟩
      · exact .inr ⟨i + 1, by simp; omega, by simp only [fi, h, if_false, Bool.false_eq_true]; rw [h2]; omega, by simp [lk, h, h3]⟩

theorem drop_cons {α : Type} {l : List α} {i : Nat} (h : i < l.length) : l.drop i = l[i] :: l.drop (i + 1) := List.drop_eq_getElem_cons h
theorem w1 {i n : Nat} (h : i < n) (hn : n ≤ 1000000000) : wrap64 ((i : Int) + 1) = ((i + 1 : Nat) : Int) := by rw [w64 (by omega) (by omega)]; rfl

theorem t147_74_0 {n : Nat} {l : List Rw} (hl : l.length ≤ 1000000000) {s : ByteArray} : ∀ (k i : Nat), i ≤ l.length → l.length - i < k → ok (lp147_148_0 n k l (l.length : Int) (i : Int) s) fun r => r = (fi (keq s) (l.drop i) (i : Int), s, ())
  | 0, i, h, hk => by omega
  | k + 1, i, h, hk => by
    show ok (st147_148_0 n (lp147_148_0 n k) l _ _ s) _
    unfold st147_148_0
    refine ok.ite (fun h1 => ok.guard (by omega) (ok.guard h1 ?_)) (fun h1 => ok.some ?_)
    · have hi : i < l.length := by omega
      rw [rdOf_nat hi, drop_cons hi]
      unfold F148
      simp only [Option.bind_some, fi]
      refine ok.iteb (fun h2 => ok.some ?_) (fun h2 => ?_)
      · rw [if_pos (show keq s l[i] = true from h2)]
      · rw [if_neg (by rw [show keq s l[i] = false from h2]; decide), w1 hi hl]
        exact t147_74_0 hl k (i + 1) (by omega) (by omega)
    · rw [List.drop_eq_nil_of_le (by omega)]; rfl
theorem t115 {n : Nat} {l : List Rw} (hl : l.length ≤ 1000000000) (hn : l.length < n) {s : ByteArray} : ok (F115 n l s) fun r => r = (fi (keq s) l 0, ()) := by
  unfold F115 F147_148 st147_148
  refine (t147_74_0 hl (n := n) (s := s) n 0 (by omega) (by omega)).bind fun r q => ok.some ?_
  rw [q]; rfl
theorem t78 {n : Nat} {l : List Rw} (hl : l.length ≤ 1000000000) (hn : l.length < n) {s : ByteArray} : ok (F78 n l s) fun r => r = match lk s l with
    | none => ((⟨#[]⟩ : ByteArray), 0, 0, false, 0, 0, 0, 0, 0, 0, false, ())
    | some a => (a.1, a.2.1, a.2.2.1, a.2.2.2.1, a.2.2.2.2.1, a.2.2.2.2.2.1, a.2.2.2.2.2.2.1, a.2.2.2.2.2.2.2.1, a.2.2.2.2.2.2.2.2.1, a.2.2.2.2.2.2.2.2.2, true, ()) := by
  unfold F78
  refine (t115 (s := s) hl hn).bind fun r q => ?_
  subst q
  rcases fi_look s l 0 (by omega) with ⟨e1, e2⟩ | ⟨i, hi, e1, e2⟩
  · rw [e2]
    exact ok.ite (fun _ => ok.some rfl) (fun q => by simp only [e1] at q; exact absurd (by decide) q)
  · have e1 : fi (keq s) l 0 = (i : Int) := by rw [e1]; omega
    rw [e2, e1]
    refine ok.ite (fun q => by simp only at q; omega) (fun _ => ok.guard (by omega) (ok.guard (by omega) (ok.some ?_)))
    rw [rdOf_nat hi]
theorem keq_iff {s : ByteArray} {x : Rw} : keq s x = true ↔ x.1.toList = s.toList := by unfold keq; exact decide_eq_true_iff
/-- What FindRow answers. -/
def fr (o : Option Rw) : ByteArray × Int × Int × Bool × Int × Int × Int × Int × Int × Int × Bool × Unit := match o with
  | none => ((⟨#[]⟩ : ByteArray), 0, 0, false, 0, 0, 0, 0, 0, 0, false, ())
  | some a => (a.1, a.2.1, a.2.2.1, a.2.2.2.1, a.2.2.2.2.1, a.2.2.2.2.2.1, a.2.2.2.2.2.2.1, a.2.2.2.2.2.2.2.1, a.2.2.2.2.2.2.2.2.1, a.2.2.2.2.2.2.2.2.2, true, ())
theorem t20f {n : Nat} {l : List Rw} (hl : l.length ≤ 1000000000) (hn : l.length < n) {s : ByteArray} : ok (F78 n l s) fun r => r = fr (lk s l) := (t78 (s := s) hl hn).mono fun r h => by
  rw [h]; cases lk s l <;> rfl
theorem t44_0 {n : Nat} {l : List Rw} (hl : l.length ≤ 1000000000) {s s3 : ByteArray} {i4 i5 : Int} {b6 : Bool} {i7 i8 i9 i10 i11 i12 : Int} : ∀ (k i : Nat), i ≤ l.length → l.length - i < k → ok (lp44_0 n k l s (i : Int) s3 i4 i5 b6 i7 i8 i9 i10 i11 i12) fun r => r = fr (lk s (l.drop i))
  | 0, i, h, hk => by omega
  | k + 1, i, h, hk => by
    show ok (st44_0 n (lp44_0 n k) l s _ s3 i4 i5 b6 i7 i8 i9 i10 i11 i12) _
    unfold st44_0
    refine ok.ite (fun h1 => ok.guard (by omega) (ok.guard h1 ?_)) (fun h1 => ok.some ?_)
    · have hi : i < l.length := by omega
      rw [drop_cons hi, rdOf_nat hi, w1 hi (by omega)]
      unfold lk
      refine ok.ite (fun h2 => ok.guard (by omega) (ok.guard h1 (ok.some ?_))) (fun h2 => ?_)
      · rw [if_pos (keq_iff.2 h2)]; rfl
      · rw [if_neg (fun q => h2 (keq_iff.1 q))]
        exact t44_0 hl k (i + 1) (by omega) (by omega)
    · rw [List.drop_eq_nil_of_le (by omega)]; rfl
theorem t44 {n : Nat} {l : List Rw} (hl : l.length ≤ 1000000000) (hn : l.length < n) {s : ByteArray} : ok (F44 n l s) fun r => r = fr (lk s l) := by
  unfold F44 st44
  exact t44_0 hl n 0 (by omega) (by omega)
def rk (o : Option Rw) : Int := match o with
  | none => 0
  | some a => if a.2.1 = 1 then a.2.2.1 else if a.2.1 = 2 then a.2.2.2.2.1 else if a.2.1 = 3 then a.2.2.2.2.2.2.2.2.1 else 0
theorem t79 {n : Nat} (o : Option Rw) : ok (F79 n (fr o).1 (fr o).2.1 (fr o).2.2.1 (fr o).2.2.2.1 (fr o).2.2.2.2.1 (fr o).2.2.2.2.2.1 (fr o).2.2.2.2.2.2.1 (fr o).2.2.2.2.2.2.2.1 (fr o).2.2.2.2.2.2.2.2.1 (fr o).2.2.2.2.2.2.2.2.2.1) fun r => r = (rk o, ()) := by
  unfold F79
  cases o with
  | none => exact ok.some rfl
  | some a =>
    unfold rk
    refine ok.ite (fun h => ok.some ?_) (fun h => ok.ite (fun h2 => ok.some ?_) (fun h2 => ok.ite (fun h3 => ok.some ?_) (fun h3 => ok.some ?_)))
    · have h : a.2.1 = 1 := h
      simp only [h, if_pos]; rfl
    · have h : ¬ a.2.1 = 1 := h
      have h2 : a.2.1 = 2 := h2
      simp only [h2]; rfl
    · have h : ¬ a.2.1 = 1 := h
      have h2 : ¬ a.2.1 = 2 := h2
      have h3 : a.2.1 = 3 := h3
      simp only [h3]; rfl
    · have h : ¬ a.2.1 = 1 := h
      have h2 : ¬ a.2.1 = 2 := h2
      have h3 : ¬ a.2.1 = 3 := h3
      simp only [if_neg h, if_neg h2, if_neg h3]
theorem t43_0 {n : Nat} (hn : 3000 ≤ n) {s : ByteArray} {K : List (List Rw)} (hK : K.length ≤ 100) (hR : ∀ l ∈ K, Rp l) : ∀ (k i : Nat) (out : List Int), i ≤ K.length → K.length - i < k → out.length + (K.length - i) ≤ 1000 → ok (lp43_0 n k s K (K.length : Int) (i : Int) out) fun r => r = (out ++ (K.drop i).map (fun l => rk (lk s l)), ())
  | 0, i, out, h, hk, ho => by omega
  | k + 1, i, out, h, hk, ho => by
    show ok (st43_0 n (lp43_0 n k) s K _ _ out) _
    unfold st43_0
    refine ok.ite (fun h1 => ok.guard (by omega) (ok.guard h1 ?_)) (fun h1 => ok.some ?_)
    · have hi : i < K.length := by omega
      rw [drop_cons hi, rdOf_nat hi, w1 hi (by omega)]
      have := (hR _ (List.getElem_mem hi)).1
      refine (t20f (n := n) (l := K[i]) (s := s) (by omega) (by omega)).bind fun r1 q1 => ?_
      subst q1
      refine (t79 _).bind fun r2 q2 => ?_
      subst q2
      refine ok.guard (by simp only [List.length_cons, List.length_nil]; omega) ((t43_0 hn hK hR k (i + 1) _ (by omega) (by omega) (by simp only [List.length_append, List.length_cons, List.length_nil]; omega)).mono fun r q => ?_)
      rw [q, List.map_cons, List.append_assoc]
      rfl
    · rw [List.drop_eq_nil_of_le (by omega)]; simp
theorem t43 {n : Nat} (hn : 3000 ≤ n) {s : ByteArray} {K : List (List Rw)} (hK : K.length ≤ 100) (hR : ∀ l ∈ K, Rp l) : ok (F43 n K s) fun r => r = (K.map (fun l => rk (lk s l)), ()) := by
  unfold F43 st43
  refine (t43_0 hn hK hR n 0 [] (by omega) (by omega) (by simp only [List.length_nil]; omega)).mono fun r q => ?_
  rw [q, List.nil_append, List.drop_zero]
end Go.Eva
end
section
/- Keys that are right. -/
namespace Go.Eva
open Go.RowKit (wrap64)
set_option linter.unusedVariables false
set_option linter.unusedSimpArgs false

def inr (x a b : Int) : Bool := decide (a ≤ x ∧ x ≤ b)
theorem f36 {n : Nat} {x a b : Int} : F36 n x a b = some (inr x a b, ()) := by
  unfold F36 inr
  by_cases h1 : a ≤ x <;> by_cases h2 : x ≤ b <;> simp [h1, h2]
theorem f70 {n : Nat} {x a b : Int} : F70 n x a b = some (inr x a b, ()) := by
  unfold F70 inr
  by_cases h1 : a ≤ x <;> by_cases h2 : x ≤ b <;> simp [h1, h2]
def kc (x : Int) : Bool := inr x 97 122 || (inr x 65 90 || (inr x 48 57 || decide (x = 95)))
theorem f80 {n : Nat} {x : Int} : F80 n x = some (kc x, ()) := by
  unfold F80 kc
  simp only [f36, Option.bind_some]
  cases inr x 97 122 <;> cases inr x 65 90 <;> cases inr x 48 57 <;> simp
theorem bt_bd (s : ByteArray) (i : Int) : 0 ≤ bt s i ∧ bt s i < 256 := by
  unfold bt
  split
  · have := (s[i.toNat]).toNat_lt; omega
  · omega
theorem kc_eq (x : Int) (α : Type) (a b : Option α) : (if (!kc x) = true then a else b) = if decide (x ≥ 97) = true then (if decide (x ≤ 122) = true then b else (if decide (x ≥ 65) = true then (if decide (x ≤ 90) = true then b else (if decide (x ≥ 48) = true then (if decide (x ≤ 57) = true then b else (if (!(decide (x = 95))) = true then a else b)) else (if (!(decide (x = 95))) = true then a else b)))
    else (if decide (x ≥ 48) = true then (if decide (x ≤ 57) = true then b else (if (!(decide (x = 95))) = true then a else b)) else (if (!(decide (x = 95))) = true then a else b))))
   else (if decide (x ≥ 65) = true then (if decide (x ≤ 90) = true then b else (if decide (x ≥ 48) = true then (if decide (x ≤ 57) = true then b else (if (!(decide (x = 95))) = true then a else b)) else (if (!(decide (x = 95))) = true then a else b)))
    else (if decide (x ≥ 48) = true then (if decide (x ≤ 57) = true then b else (if (!(decide (x = 95))) = true then a else b)) else (if (!(decide (x = 95))) = true then a else b))) := by
  unfold kc inr
  by_cases h1 : x ≥ 97
  · by_cases h2 : x ≤ 122
    · have : (97 : Int) ≤ x ∧ x ≤ 122 := ⟨h1, h2⟩
      simp [h1, h2]
    · have e1 : ¬ x ≤ 90 := by omega
      have e2 : ¬ x ≤ 57 := by omega
      have e3 : ¬ x = 95 := by omega
      have e4 : x ≥ 65 := by omega
      have e5 : x ≥ 48 := by omega
      simp [h1, h2, e1, e2, e3, e4, e5]
  · by_cases h3 : x ≥ 65
    · by_cases h4 : x ≤ 90
      · simp [h1, h3, h4]
      · have e2 : ¬ x ≤ 57 := by omega
        have e5 : x ≥ 48 := by omega
        by_cases h5 : x = 95 <;> simp [h1, h3, h4, e2, e5, h5]
    · have e3 : ¬ x = 95 := by omega
      by_cases h5 : x ≥ 48 <;> by_cases h6 : x ≤ 57 <;> simp [h1, h3, e3, h5, h6]
theorem f77_0 {n : Nat} {s : ByteArray} : ∀ (k : Nat) (i : Int), lp77_0 n k s (s.size : Int) i = lp46_0 n k s i
  | 0, i => rfl
  | k + 1, i => by
    show st77_0 n (lp77_0 n k) s _ i = st46_0 n (lp46_0 n k) s i
    unfold st77_0 st46_0 j77_0
    have hb := bt_bd s i
    have ih := f77_0 (n := n) (s := s) k (wrap64 (i + 1))
    simp only [f80, f70, f36, Option.bind_some, w64 (x := bt s i) (by omega) (by omega), kc_eq, ih]
theorem f77 {n : Nat} {s : ByteArray} : F77 n s = F46 n s := f77_0 n 0
end Go.Eva
end
section
/- Rules: right ones, broken ones, fired ones. -/
namespace Go.Eva
open Go.RowKit (wrap64)
set_option linter.unusedVariables false
set_option linter.unusedSimpArgs false

theorem t46g {n : Nat} {s : ByteArray} (hs : s.size ≤ 1048576) (hn : 2000000 ≤ n) : ok (F46 n s) fun _ => True := t46_0 hs n 0 (by omega) (by omega) (by omega)
noncomputable def kob (n : Nat) (s : ByteArray) : Bool := ((F46 n s).getD (false, ())).1
noncomputable def rokB (n : Nat) (s : ByteArray) (o l f : Int) : Bool := kob n s && (inr o 1 2 && (inr l 0 999999999 && inr f 1 9))
theorem t17 {n : Nat} {s : ByteArray} {o l f : Int} (hs : s.size ≤ 1048576) (hn : 2000000 ≤ n) : F17 n s o l f = some (rokB n s o l f, ()) := by
  obtain ⟨⟨b, u⟩, h, _⟩ := t46g (n := n) hs hn
  unfold F17 rokB kob
  simp only [f36, h, Option.bind_some, Option.getD_some]
  cases b
  · rfl
  · rw [if_pos rfl, Bool.true_and]
    cases inr o 1 2
    · rfl
    · rw [if_pos rfl, Bool.true_and]
      cases inr l 0 999999999
      · rfl
      · rw [if_pos rfl, Bool.true_and]
theorem f42 {n : Nat} {s : ByteArray} {o l f : Int} : F42 n s o l f = F17 n s o l f := by
  unfold F42 F17
  simp only [f36, f70, f77, Option.bind_some]
theorem bt_list (s : ByteArray) (i : Nat) (h : i < s.data.toList.length) : bt s (i : Int) = ((s.data.toList[i]).toNat : Int) := by
  have hl : s.data.toList.length = s.size := Array.length_toList
  unfold bt
  rw [Int.toNat_natCast, dif_pos (by omega)]
  rfl
theorem t46k {n : Nat} {s : ByteArray} (hs : s.size ≤ 1048576) : ∀ (k i : Nat), i ≤ s.size → s.size - i < k → ok (lp46_0 n k s (i : Int)) fun r => r.1 = true → (∀ j, i ≤ j → j < s.size → kc (bt s (j : Int)) = true) ∧ 1 ≤ s.size ∧ s.size ≤ 4
  | 0, i, h, hk => by omega
  | k + 1, i, h, hk => by
    show ok (st46_0 n (lp46_0 n k) s _) _
    unfold st46_0
    refine ok.ite (fun h1 => ok.guard (by omega) (ok.guard h1 ?_)) (fun h1 => ?_)
    · have hb := bt_bd s (i : Int)
      rw [f80, w64 (x := bt s (i : Int)) (by omega) (by omega)]
      simp only [Option.bind_some]
      refine ok.iteb (fun _ => ok.some fun h => by cases h) (fun hk1 => ?_)
      have hk1 : kc (bt s (i : Int)) = true := by simpa using hk1
      have hi : i < s.size := by omega
      have e : wrap64 ((i : Int) + 1) = ((i + 1 : Nat) : Int) := by rw [w64 (by omega) (by omega)]; rfl
      rw [e]
      refine (t46k hs k (i + 1) (by omega) (by omega)).mono fun r q h => ⟨fun j h2 h3 => ?_, (q h).2⟩
      by_cases e : j = i
      · subst e; exact hk1
      · exact (q h).1 j (by omega) h3
    · rw [f36]
      refine ok.some fun h => ⟨fun j h2 h3 => by omega, ?_⟩
      have h : inr (s.size : Int) 1 4 = true := h
      unfold inr at h
      have := of_decide_eq_true h
      omega
theorem kc_ne {x : Int} (h : kc x = true) : x ≠ 32 ∧ x ≠ 60 ∧ x ≠ 62 := by
  unfold kc inr at h
  simp only [Bool.or_eq_true, decide_eq_true_eq] at h
  omega
structure ROk (s : ByteArray) (o l f : Int) : Prop where
  key : ∀ b ∈ s.data.toList, b ≠ 32 ∧ b ≠ 60 ∧ b ≠ 62
  len : s.size ≤ 4
  o1 : 1 ≤ o
  o2 : o ≤ 2
  l1 : 0 ≤ l
  l2 : l ≤ 999999999
  f1 : 1 ≤ f
  f2 : f ≤ 9
theorem rok_iff {n : Nat} {s : ByteArray} {o l f : Int} (hs : s.size ≤ 1048576) (hn : 2000000 ≤ n) (h : rokB n s o l f = true) : ROk s o l f := by
  obtain ⟨⟨b, u⟩, h1, h2⟩ := t46k (n := n) hs n 0 (by omega) (by omega)
  have h1 : F46 n s = some (b, u) := h1
  unfold rokB kob inr at h
  rw [h1] at h
  simp only [Option.getD_some, Bool.and_eq_true, decide_eq_true_eq] at h
  obtain ⟨h3, ⟨o1, o2⟩, ⟨l1, l2⟩, f1, f2⟩ := h
  obtain ⟨k1, k2, k3⟩ := h2 h3
  refine ⟨fun b hb => ?_, k3, o1, o2, l1, l2, f1, f2⟩
  obtain ⟨j, hj, rfl⟩ := List.getElem_of_mem hb
  have hl : s.data.toList.length = s.size := Array.length_toList
  have := kc_ne (k1 j (Nat.zero_le _) (by omega))
  rw [bt_list s j hj] at this
  refine ⟨fun e => ?_, fun e => ?_, fun e => ?_⟩
  · rw [e] at this; exact this.1 rfl
  · rw [e] at this; exact this.2.1 rfl
  · rw [e] at this; exact this.2.2 rfl
/-- A number beyond the limit. -/
def bkB (o l v : Int) : Bool := if o = 1 then decide (v > l) else if o = 2 then decide (v < l) else false
theorem f18 {n : Nat} {s : ByteArray} {o l f v : Int} : F18 n s o l f v = some (bkB o l v, ()) := by
  unfold F18 bkB
  by_cases h : o = 1
  · rw [if_pos (by simp [h]), if_pos h]
  · rw [if_neg (by simp [h]), if_neg h]
    by_cases h2 : o = 2
    · rw [if_pos (by simp [h2]), if_pos h2]
    · rw [if_neg (by simp [h2]), if_neg h2]
/-- How many that break lie one behind the other up to a place. -/
def Rn (p : Int → Bool) (L : List Int) : Nat → Nat
  | 0 => 0
  | j + 1 => if p (L.getD j 0) = true then Rn p L j + 1 else 0
def fl (p : Int → Bool) (L : List Int) (F : Nat) : Nat → List Int
  | 0 => []
  | j + 1 => if F ≤ Rn p L (j + 1) then fl p L F j ++ [(j : Int)] else fl p L F j
theorem Rn_succ (p : Int → Bool) (L : List Int) (j : Nat) : Rn p L (j + 1) = if p (L.getD j 0) = true then Rn p L j + 1 else 0 := rfl
theorem fl_succ (p : Int → Bool) (L : List Int) (F j : Nat) : fl p L F (j + 1) = if F ≤ Rn p L (j + 1) then fl p L F j ++ [(j : Int)] else fl p L F j := rfl
theorem Rn_le (p : Int → Bool) (L : List Int) : ∀ j, Rn p L j ≤ j
  | 0 => Nat.le_refl _
  | j + 1 => by
    unfold Rn
    split
    · have := Rn_le p L j; omega
    · omega
theorem Rn_iff (p : Int → Bool) (L : List Int) : ∀ (j m : Nat), m ≤ Rn p L j ↔ m ≤ j ∧ ∀ k, j - m ≤ k → k < j → p (L.getD k 0) = true
  | 0, m => by
    unfold Rn
    exact ⟨fun h => ⟨h, fun k h1 h2 => by omega⟩, fun h => h.1⟩
  | j + 1, m => by
    unfold Rn
    split
    · rename_i hp
      cases m with
      | zero => exact ⟨fun _ => ⟨by omega, fun k h1 h2 => by omega⟩, fun _ => by omega⟩
      | succ m =>
        have ih := Rn_iff p L j m
        constructor
        · intro h
          obtain ⟨h1, h2⟩ := ih.1 (by omega)
          refine ⟨by omega, fun k h3 h4 => ?_⟩
          by_cases e : k = j
          · rw [e]; exact hp
          · exact h2 k (by omega) (by omega)
        · rintro ⟨h1, h2⟩
          have := ih.2 ⟨by omega, fun k h3 h4 => h2 k (by omega) (by omega)⟩
          omega
    · rename_i hp
      constructor
      · intro h
        exact ⟨by omega, fun k h1 h2 => by omega⟩
      · rintro ⟨h1, h2⟩
        cases m with
        | zero => omega
        | succ m => exact absurd (h2 j (by omega) (by omega)) hp
theorem fl_mem (p : Int → Bool) (L : List Int) (F : Nat) (i : Nat) : ∀ j, (i : Int) ∈ fl p L F j ↔ i < j ∧ F ≤ Rn p L (i + 1)
  | 0 => by simp [fl]
  | j + 1 => by
    have ih := fl_mem p L F i j
    have key : ((i : Int) ∈ fl p L F (j + 1)) ↔ ((i : Int) ∈ fl p L F j ∨ (i = j ∧ F ≤ Rn p L (j + 1))) := by
      rw [fl_succ]
      split
      · rename_i h
        rw [List.mem_append, List.mem_singleton]
        constructor
        · rintro (h1 | h1)
          · exact .inl h1
          · exact .inr ⟨by omega, h⟩
        · rintro (h1 | ⟨h1, _⟩)
          · exact .inl h1
          · exact .inr (by omega)
      · rename_i h
        exact ⟨fun h1 => .inl h1, fun h1 => h1.elim id fun h2 => absurd h2.2 h⟩
    rw [key, ih]
    constructor
    · rintro (⟨h1, h2⟩ | ⟨h1, h2⟩)
      · exact ⟨by omega, h2⟩
      · exact ⟨by omega, by rw [h1]; exact h2⟩
    · rintro ⟨h1, h2⟩
      by_cases e : i = j
      · exact .inr ⟨e, by rw [← e]; exact h2⟩
      · exact .inl ⟨by omega, h2⟩
theorem fl_len (p : Int → Bool) (L : List Int) (F : Nat) : ∀ j, (fl p L F j).length ≤ j
  | 0 => Nat.le_refl _
  | j + 1 => by
    have := fl_len p L F j
    unfold fl
    split
    · simp; omega
    · omega
theorem t15_0 {n : Nat} {s : ByteArray} {o l : Int} {F : Nat} (hF : 1 ≤ F) {L : List Int} (hL : L.length ≤ 100) : ∀ (k i : Nat), i ≤ L.length → L.length - i < k →
    ok (lp15_0 n k ((Rn (bkB o l) L i : Nat) : Int) (L.length : Int) (i : Int) s o l (F : Int) (fl (bkB o l) L F i) L) fun r => r = (fl (bkB o l) L F L.length, ())
  | 0, i, h, hk => by omega
  | k + 1, i, h, hk => by
    show ok (st15_0 n (lp15_0 n k) _ _ _ s o l _ _ L) _
    unfold st15_0
    have hle := Rn_le (bkB o l) L i
    have hfl := fl_len (bkB o l) L F i
    refine ok.ite (fun h1 => ok.guard (by omega) (ok.guard h1 ?_)) (fun h1 => ok.some ?_)
    · have hi : i < L.length := by omega
      have hg : rdOf (0 : Int) L (i : Int) = L.getD i 0 := rfl
      have ih := t15_0 (n := n) (s := s) (o := o) (l := l) hF hL k (i + 1) (by omega) (by omega)
      rw [f18, hg, w1 hi (by omega)]
      simp only [Option.bind_some]
      rw [fl_succ _ _ _ i, Rn_succ _ _ i] at ih
      refine ok.iteb (fun hb => ?_) (fun hb => ?_)
      · have hb : ¬ bkB o l (L.getD i 0) = true := by simpa using hb
        rw [if_neg hb] at ih
        refine ok.ite (fun h2 => by omega) (fun h2 => ?_)
        rw [if_neg (by omega)] at ih
        exact ih
      · have hb : bkB o l (L.getD i 0) = true := by simpa using hb
        rw [if_pos hb] at ih
        have e : wrap64 (((Rn (bkB o l) L i : Nat) : Int) + 1) = ((Rn (bkB o l) L i + 1 : Nat) : Int) := by rw [w64 (by omega) (by omega)]; rfl
        rw [e]
        refine ok.ite (fun h2 => ok.guard (by simp only [List.length_cons, List.length_nil]; omega) ?_) (fun h2 => ?_)
        · rw [if_pos (by omega)] at ih
          exact ih
        · rw [if_neg (by omega)] at ih
          exact ih
    · have e : i = L.length := by omega
      rw [e]
theorem t15 {n : Nat} (hn : 2000000 ≤ n) {s : ByteArray} {o l f : Int} (hs : s.size ≤ 1048576) {K : List (List Rw)} (hK : K.length ≤ 100) (hR : ∀ l ∈ K, Rp l) :
    ok (F15 n K s o l f) fun r => r = (if rokB n s o l f = true then fl (bkB o l) (K.map (fun l => rk (lk s l))) f.toNat K.length else [], ()) := by
  unfold F15 st15
  rw [f42, t17 hs hn]
  simp only [Option.bind_some]
  refine ok.iteb (fun h => ok.some ?_) (fun h => ?_)
  · have h : ¬ rokB n s o l f = true := by simpa using h
    rw [if_neg h]
  · have h : rokB n s o l f = true := by simpa using h
    have R := rok_iff hs hn h
    obtain ⟨F, rfl⟩ : ∃ F : Nat, f = F := ⟨f.toNat, by have := R.f1; omega⟩
    rw [if_pos h]
    refine (t43 (n := n) (by omega) (s := s) (K := K) hK hR).bind fun r q => ?_
    subst q
    have := t15_0 (n := n) (s := s) (o := o) (l := l) (F := F) (by have := R.f1; omega) (L := K.map fun l => rk (lk s l)) (by rw [List.length_map]; exact hK) n 0 (by omega) (by rw [List.length_map]; omega)
    rw [List.length_map] at this
    rw [Int.toNat_natCast]
    simp only [List.length_map]
    exact this
theorem t19_0 {n : Nat} {L : List Int} (hL : L.length ≤ 1000) {x : Int} : ∀ (k i : Nat), i ≤ L.length → L.length - i < k → ok (lp19_0 n k L x (i : Int)) fun r => r = (decide (x ∈ L.drop i), ())
  | 0, i, h, hk => by omega
  | k + 1, i, h, hk => by
    show ok (st19_0 n (lp19_0 n k) L x _) _
    unfold st19_0
    refine ok.ite (fun h1 => ok.guard (by omega) (ok.guard h1 ?_)) (fun h1 => ok.some ?_)
    · have hi : i < L.length := by omega
      rw [rdOf_nat hi, w1 hi (by omega), drop_cons hi]
      refine ok.ite (fun h2 => ok.some ?_) (fun h2 => (t19_0 hL k (i + 1) (by omega) (by omega)).mono fun r q => ?_)
      · rw [decide_eq_true (by rw [h2]; exact List.mem_cons_self)]
      · rw [q]
        congr 1
        apply decide_eq_decide.2
        rw [List.mem_cons]
        exact ⟨fun h => .inr h, fun h => h.elim (fun h => absurd h.symm h2) id⟩
    · rw [List.drop_eq_nil_of_le (by omega)]; rfl
theorem t19 {n : Nat} {L : List Int} (hL : L.length ≤ 1000) (hn : 2000000 ≤ n) {x : Int} : ok (F19 n L x) fun r => r = (decide (x ∈ L), ()) := t19_0 hL n 0 (by omega) (by omega)
theorem t45 {n : Nat} (o : Option Rw) : ok (F45 n (fr o).1 (fr o).2.1 (fr o).2.2.1 (fr o).2.2.2.1 (fr o).2.2.2.2.1 (fr o).2.2.2.2.2.1 (fr o).2.2.2.2.2.2.1 (fr o).2.2.2.2.2.2.2.1 (fr o).2.2.2.2.2.2.2.2.1 (fr o).2.2.2.2.2.2.2.2.2.1) fun r => r = (rk o, ()) := t79 (n := n) o
theorem t16_0 {n : Nat} (hn : 3000 ≤ n) {s : ByteArray} {K : List (List Rw)} (hK : K.length ≤ 100) (hR : ∀ l ∈ K, Rp l) : ∀ (k i : Nat) (out : List Int), i ≤ K.length → K.length - i < k → out.length + (K.length - i) ≤ 1000 → ok (lp16_0 n k K s (i : Int) out) fun r => r = (out ++ (K.drop i).map (fun l => rk (lk s l)), ())
  | 0, i, out, h, hk, ho => by omega
  | k + 1, i, out, h, hk, ho => by
    show ok (st16_0 n (lp16_0 n k) K s _ out) _
    unfold st16_0
    refine ok.ite (fun h1 => ok.guard (by omega) (ok.guard h1 ?_)) (fun h1 => ok.some ?_)
    · have hi : i < K.length := by omega
      rw [drop_cons hi, rdOf_nat hi, w1 hi (by omega)]
      have := (hR _ (List.getElem_mem hi)).1
      refine (t44 (n := n) (l := K[i]) (s := s) (by omega) (by omega)).bind fun r1 q1 => ?_
      subst q1
      refine (t45 _).bind fun r2 q2 => ?_
      subst q2
      refine ok.guard (by simp only [List.length_cons, List.length_nil]; omega) ((t16_0 hn hK hR k (i + 1) _ (by omega) (by omega) (by simp only [List.length_append, List.length_cons, List.length_nil]; omega)).mono fun r q => ?_)
      rw [q, List.map_cons, List.append_assoc]
      rfl
    · rw [List.drop_eq_nil_of_le (by omega)]; simp
theorem t16 {n : Nat} (hn : 3000 ≤ n) {s : ByteArray} {K : List (List Rw)} (hK : K.length ≤ 100) (hR : ∀ l ∈ K, Rp l) : ok (F16 n K s) fun r => r = (K.map (fun l => rk (lk s l)), ()) := by
  unfold F16 st16
  refine (t16_0 hn hK hR n 0 [] (by omega) (by omega) (by simp only [List.length_nil]; omega)).mono fun r q => ?_
  rw [q, List.nil_append, List.drop_zero]
end Go.Eva
end
section
/- Numbers as texts. -/
namespace Go.Eva
open Go.RowKit (wrap64)
set_option linter.unusedVariables false
set_option linter.unusedSimpArgs false

def isDig (b : UInt8) : Bool := decide (48 ≤ b.toNat) && decide (b.toNat ≤ 57)
def valN (n : Nat) (L : List UInt8) : Nat := L.foldl (fun m b => m * 10 + (b.toNat - 48)) n
theorem valN_nil (n : Nat) : valN n [] = n := by unfold valN; exact List.foldl_nil
theorem valN_cons (n : Nat) (b : UInt8) (bs : List UInt8) : valN n (b :: bs) = valN (n * 10 + (b.toNat - 48)) bs := by unfold valN; exact List.foldl_cons
def p10 : Nat → Nat
  | 0 => 1
  | i + 1 => p10 i * 10
theorem pow_le10 (i : Nat) (h : i ≤ 11) : p10 i ≤ 100000000000 := by
  have : i = 0 ∨ i = 1 ∨ i = 2 ∨ i = 3 ∨ i = 4 ∨ i = 5 ∨ i = 6 ∨ i = 7 ∨ i = 8 ∨ i = 9 ∨ i = 10 ∨ i = 11 := by omega
  rcases this with rfl | rfl | rfl | rfl | rfl | rfl | rfl | rfl | rfl | rfl | rfl | rfl <;> decide
theorem p10_up {n i : Nat} (h : n < p10 i) : n < p10 (i + 1) := by
  show n < p10 i * 10
  omega
theorem p10_dig {n i b : Nat} (h : n < p10 i) (hb : b ≤ 57) : n * 10 + (b - 48) < p10 (i + 1) := by
  show n * 10 + (b - 48) < p10 i * 10
  omega
theorem valN_lt (L : List UInt8) : ∀ (n i : Nat), (∀ b ∈ L, isDig b = true) → n < p10 i → valN n L < p10 (i + L.length) := by
  induction L with
  | nil =>
    intro n i _ h
    have e := valN_nil n
    rw [e, List.length_nil, Nat.add_zero]
    exact h
  | cons b bs ih =>
    intro n i hd h
    have hb := hd b (by simp)
    unfold isDig at hb
    rw [Bool.and_eq_true] at hb
    have hb2 : b.toNat ≤ 57 := of_decide_eq_true hb.2
    have q := ih (n * 10 + (b.toNat - 48)) (i + 1) (fun c hc => hd c (by simp [hc])) (p10_dig h hb2)
    have e := valN_cons n b bs
    rw [e, List.length_cons, show i + (bs.length + 1) = i + 1 + bs.length from by omega]
    exact q
theorem digits_dig (u : Nat) : ∀ b ∈ Go.Lib.decDigits u, isDig b = true := by
  have one : ∀ v : Nat, v < 10 → isDig (UInt8.ofNat (48 + v)) = true := by
    intro v hv
    have : (UInt8.ofNat (48 + v)).toNat = 48 + v := by
      rw [UInt8.toNat_ofNat']
      omega
    unfold isDig
    rw [this]
    simp
    omega
  induction u using Nat.strongRecOn with
  | ind u ih =>
    intro b hb
    rw [Go.Lib.decDigits] at hb
    by_cases h : u < 10
    · rw [dif_pos h] at hb
      rw [List.mem_singleton.1 hb]
      exact one u h
    · rw [dif_neg h] at hb
      rcases List.mem_append.1 hb with hb | hb
      · exact ih (u / 10) (by omega) b hb
      · rw [List.mem_singleton.1 hb]
        exact one (u % 10) (by omega)
theorem digits_ne (u : Nat) : Go.Lib.decDigits u ≠ [] := by
  rw [Go.Lib.decDigits]
  by_cases h : u < 10
  · rw [dif_pos h]; simp
  · rw [dif_neg h]; simp

def dB (n : Int) : ByteArray := ⟨(Go.Lib.itoa n).toArray⟩
theorem dB_nat (m : Nat) : (dB (m : Int)).data.toList = Go.Lib.decDigits m := by
  show (Go.Lib.itoa (m : Int)).toArray.toList = _
  rw [Go.Lib.itoa_nonneg]
theorem ba_ext {a b : ByteArray} (h : a.data.toList = b.data.toList) : a = b := by
  cases a; cases b
  exact congrArg ByteArray.mk (Array.toList_inj.1 h)
theorem sz_list (s : ByteArray) : s.data.toList.length = s.size := Array.length_toList
theorem ba_app (a b : List UInt8) : (⟨a.toArray⟩ : ByteArray) ++ ⟨b.toArray⟩ = ⟨(a ++ b).toArray⟩ := by
  apply ba_ext
  simp
theorem valN_app (n : Nat) (A B : List UInt8) : valN n (A ++ B) = valN (valN n A) B := by unfold valN; exact List.foldl_append
theorem dg_toNat (v : Nat) (h : v < 10) : (UInt8.ofNat (48 + v)).toNat = 48 + v := by
  rw [UInt8.toNat_ofNat']; omega
theorem valN_digits (u : Nat) : valN 0 (Go.Lib.decDigits u) = u := by
  induction u using Nat.strongRecOn with
  | ind u ih =>
    rw [Go.Lib.decDigits]
    by_cases h : u < 10
    · rw [dif_pos h, valN_cons, valN_nil, dg_toNat u h]; omega
    · rw [dif_neg h, valN_app, ih (u / 10) (by omega), valN_cons, valN_nil, dg_toNat (u % 10) (by omega)]; omega
theorem digits_len : ∀ (i u : Nat), u < p10 (i + 1) → (Go.Lib.decDigits u).length ≤ i + 1
  | 0, u, h => by
    have h : u < 10 := h
    rw [Go.Lib.decDigits, dif_pos h]
    exact Nat.le_refl _
  | i + 1, u, h => by
    rw [Go.Lib.decDigits]
    by_cases h10 : u < 10
    · rw [dif_pos h10]; simp
    · rw [dif_neg h10, List.length_append]
      have h : u < p10 (i + 1) * 10 := h
      have := digits_len i (u / 10) (by omega)
      simp only [List.length_cons, List.length_nil]
      omega
theorem w_range (x : Int) : -9223372036854775808 ≤ wrap64 x ∧ wrap64 x ≤ 9223372036854775807 := by unfold wrap64; omega
theorem t35 {n : Nat} {a : Int} (h1 : -9223372036854775808 ≤ a) (h2 : a ≤ 9223372036854775807) : F35 n a = some (dB a, ()) := by
  unfold F35 F71 itoF
  rw [if_pos (decide_eq_true ⟨h1, h2⟩)]
  rfl
theorem dig1 (m : Nat) (h : m < 10) : strOf [wrapI .u8 (wrap64 (48 + (m : Int)))] = ⟨[UInt8.ofNat (48 + m)].toArray⟩ := by
  rw [w64 (by omega) (by omega)]
  have : wrapI .u8 (48 + (m : Int)) = 48 + (m : Int) := by
    show (48 + (m : Int)) % 256 = _
    omega
  unfold strOf
  rw [this]
  have e : (48 + (m : Int)).toNat = 48 + m := by omega
  simp [e]
theorem t11_0 {n : Nat} : ∀ (d m k : Nat) (acc : List UInt8), 0 < m → m < p10 d → d + 1 < k → (m : Int) ≤ 9223372036854775807 → acc.length + d ≤ 100 → lp11_0 n k (m : Int) ⟨acc.toArray⟩ false = some (⟨(Go.Lib.decDigits m ++ acc).toArray⟩, ())
  | 0, m, k, acc, h0, h1, hk, hm, ha => by
    have h1 : m < 1 := h1
    omega
  | d + 1, m, k, acc, h0, h1, hk, hm, ha => by
    obtain ⟨k, rfl⟩ : ∃ q, k = q + 1 := ⟨k - 1, by omega⟩
    have h1 : m < p10 d * 10 := h1
    show st11_0 n (lp11_0 n k) (m : Int) _ false = _
    have hz : ((m : Int).tmod 10) = ((m % 10 : Nat) : Int) := by rw [Int.tmod_eq_emod_of_nonneg (by omega)]; omega
    have hq : wrap64 ((m : Int).tdiv 10) = ((m / 10 : Nat) : Int) := by
      rw [Int.tdiv_eq_ediv_of_nonneg (by omega), w64 (by omega) (by omega)]; omega
    have hs1 : (⟨[UInt8.ofNat (48 + m % 10)].toArray⟩ : ByteArray).size = 1 := rfl
    have hs2 : (⟨acc.toArray⟩ : ByteArray).size = acc.length := by show acc.toArray.size = _; simp
    unfold st11_0
    rw [if_pos (decide_eq_true (show (m : Int) ≠ 0 by omega)), if_pos (by decide), hz, if_neg (by simp; omega)]
    unfold j11_0
    rw [dig1 (m % 10) (by omega), if_pos (decide_eq_true (by rw [hs1, hs2]; omega)), if_pos (by decide), hq, ba_app]
    rw [Go.Lib.decDigits]
    by_cases h10 : m < 10
    · have e0 : m / 10 = 0 := by omega
      have e1 : m % 10 = m := by omega
      rw [dif_pos h10, e0, e1]
      obtain ⟨k, rfl⟩ : ∃ q, k = q + 1 := ⟨k - 1, by omega⟩
      rfl
    · rw [dif_neg h10, t11_0 d (m / 10) k _ (by omega) (by omega) (by omega) (by omega) (by simp only [List.singleton_append, List.length_cons]; omega)]
      simp
theorem p10_19 : p10 19 = 10000000000000000000 := by decide
theorem t11 {n : Nat} (hn : 100 ≤ n) {m : Nat} (hm : (m : Int) ≤ 9223372036854775807) : F11 n (m : Int) = some (dB (m : Int), ()) := by
  unfold F11 st11
  by_cases h : m = 0
  · subst h
    have e : (⟨#[48]⟩ : ByteArray) = dB ((0 : Nat) : Int) := ba_ext (by rw [dB_nat, Go.Lib.decDigits, dif_pos (by omega)]; rfl)
    rw [if_pos (by decide), e]
  · rw [if_neg (by simp; omega)]
    have e : decide ((m : Int) < 0) = false := decide_eq_false (by omega)
    rw [e, show (⟨#[]⟩ : ByteArray) = ⟨([] : List UInt8).toArray⟩ from rfl, t11_0 19 m n [] (by omega) (by rw [p10_19]; omega) (by omega) hm (by simp), List.append_nil]
    congr 2
theorem t11t_0 {n : Nat} : ∀ (d k : Nat) (i : Int) (s : ByteArray) (b : Bool), i.natAbs < p10 d → d < k → -9223372036854775808 ≤ i → i ≤ 9223372036854775807 → s.size + d ≤ 1000000 → ok (lp11_0 n k i s b) fun r => r.1.size ≤ s.size + d + 1
  | d, 0, i, s, b, h1, hk, hl, hh, hs => by omega
  | d, k + 1, i, s, b, h1, hk, hl, hh, hs => by
    show ok (st11_0 n (lp11_0 n k) i s b) _
    unfold st11_0
    refine ok.ite (fun h2 => ?_) (fun h2 => ?_)
    · obtain ⟨d, rfl⟩ : ∃ q, d = q + 1 := ⟨d - 1, by
        rcases d with _ | d
        · have h1 : i.natAbs < 1 := h1
          omega
        · omega⟩
      have h1 : i.natAbs < p10 d * 10 := h1
      have hq : (i.tdiv 10).natAbs = i.natAbs / 10 := Int.natAbs_tdiv i 10
      have hj : ∀ x : Int, ok (j11_0 n (lp11_0 n k) i s b x) fun r => r.1.size ≤ s.size + (d + 1) + 1 := fun x => by
        unfold j11_0
        have hs1 : (strOf [wrapI .u8 (wrap64 (48 + x))]).size = 1 := rfl
        refine ok.guard (by rw [hs1]; omega) (ok.guard (by decide) ?_)
        rw [w64 (x := i.tdiv 10) (by omega) (by omega)]
        refine (t11t_0 d k _ _ b (by omega) (by omega) (by omega) (by omega) (by rw [ByteArray.size_append, hs1]; omega)).mono fun r q => ?_
        rw [ByteArray.size_append, hs1] at q
        omega
      exact ok.guard (by decide) (ok.ite (fun _ => hj _) (fun _ => hj _))
    · refine ok.iteb (fun _ => ok.guard (by show 1 + s.size ≤ _; omega) (ok.some ?_)) (fun _ => ok.some (by show s.size ≤ _; omega))
      show ((⟨#[45]⟩ : ByteArray) ++ s).size ≤ _
      rw [ByteArray.size_append]
      show 1 + s.size ≤ _
      omega
theorem t11t {n : Nat} (hn : 100 ≤ n) {i : Int} (hl : -9223372036854775808 ≤ i) (hh : i ≤ 9223372036854775807) : ok (F11 n i) fun r => r.1.size ≤ 21 := by
  unfold F11 st11
  refine ok.ite (fun _ => ok.some (by show 1 ≤ 21; omega)) (fun _ => ?_)
  exact (t11t_0 19 n i (⟨#[]⟩ : ByteArray) _ (by rw [p10_19]; omega) (by omega) hl hh (by show 0 + 19 ≤ 1000000; omega)).mono fun r q => Nat.le_trans q (show 0 + 19 + 1 ≤ 21 by omega)
theorem dB_size {i : Int} (hl : -9223372036854775808 ≤ i) (hh : i ≤ 9223372036854775807) : (dB i).size ≤ 21 := by
  have := Go.Lib.itoa_length_le i hl hh
  show (Go.Lib.itoa i).toArray.size ≤ 21
  simpa using this
theorem wb (i n : Nat) (h : i ≤ n) (hn : n ≤ 1048576) : wrap64 ((i : Int) + 1) = ((i + 1 : Nat) : Int) := by rw [w64 (by omega) (by omega)]; rfl
/-- The program's reading of a number: total. -/
theorem t49t_0 {n : Nat} {s0 t : ByteArray} (ht : t.size ≤ 1048576) {i2 : Int} : ∀ (k i : Nat) (i3 : Int), i ≤ t.size → t.size - i < k → ok (lp49_0 n k s0 t i2 i3 (t.size : Int) (i : Int)) fun _ => True
  | 0, i, i3, h, hk => by omega
  | k + 1, i, i3, h, hk => by
    show ok (st49_0 n (lp49_0 n k) s0 t i2 i3 _ _) _
    unfold st49_0
    refine ok.ite (fun h1 => ok.guard (by omega) (ok.guard h1 (ok.ite (fun _ => ok.some trivial) (fun _ => ok.guard (by omega) (ok.guard h1 (ok.ite (fun _ => ok.some trivial) (fun _ => ok.guard (by omega) (ok.guard h1 ?_)))))))) (fun _ => ?_)
    · rw [wb i t.size h ht]
      exact t49t_0 ht k (i + 1) _ (by omega) (by omega)
    · have := w_range (i2 * i3)
      rw [t35 this.1 this.2]
      exact ok.iteb (fun _ => ok.some trivial) (fun _ => ok.some trivial)
theorem t49t {n : Nat} {s : ByteArray} (hs : s.size ≤ 1048576) (hn : 2000000 ≤ n) : ok (F49 n s) fun _ => True := by
  have hx : (s.extract (1 : Int).toNat (s.size : Int).toNat).size ≤ 1048576 := by rw [ByteArray.size_extract]; omega
  unfold F49 st49
  simp only [f70, Option.bind_some]
  refine ok.ite (fun h => ok.guard (by decide) (ok.guard (by omega) (ok.ite (fun _ => ok.guard (by decide) (ok.guard (by omega) (ok.guard (by omega) (ok.iteb (fun _ => ok.some trivial) (fun _ => t49t_0 hx n 0 _ (by omega) (by omega)))))) (fun _ => ok.iteb (fun _ => ok.some trivial) (fun _ => t49t_0 hs n 0 _ (by omega) (by omega)))))) (fun _ => ok.iteb (fun _ => ok.some trivial) (fun _ => t49t_0 hs n 0 _ (by omega) (by omega)))
theorem rdstep (v b : Nat) (hv : v ≤ 100000000000) (h1 : 48 ≤ b) (h2 : b ≤ 57) : wrap64 ((wrap64 (10 * (v : Int))) + (wrap64 (wrapI .u8 ((b : Int) - 48)))) = ((v * 10 + (b - 48) : Nat) : Int) := by
  have e : wrapI .u8 ((b : Int) - 48) = (b : Int) - 48 := by
    show ((b : Int) - 48) % 256 = _
    omega
  rw [e, w64 (x := 10 * (v : Int)) (by omega) (by omega), w64 (x := (b : Int) - 48) (by omega) (by omega), w64 (by omega) (by omega)]
  omega
theorem dig_bt {s : ByteArray} (hd : ∀ b ∈ s.data.toList, isDig b = true) {i : Nat} (hi : i < s.data.toList.length) : bt s (i : Int) = ((s.data.toList[i]).toNat : Int) ∧ 48 ≤ (s.data.toList[i]).toNat ∧ (s.data.toList[i]).toNat ≤ 57 := by
  have := hd _ (List.getElem_mem hi)
  unfold isDig at this
  simp only [Bool.and_eq_true, decide_eq_true_eq] at this
  exact ⟨bt_list s i hi, this⟩
/-- .. and what it reads of a number's text. -/
theorem t49_0 {n : Nat} {s : ByteArray} (hd : ∀ b ∈ s.data.toList, isDig b = true) (h9 : s.size ≤ 9) {m : Nat} (hm : valN 0 s.data.toList = m) (hs : s.toList = (dB (m : Int)).toList) : ∀ (k i v : Nat), i ≤ s.size → s.size - i < k → v < p10 i → valN v (s.data.toList.drop i) = m →
    lp49_0 n k s s 1 (v : Int) (s.size : Int) (i : Int) = some ((m : Int), true, ())
  | 0, i, v, h, hk, hv, he => by omega
  | k + 1, i, v, h, hk, hv, he => by
    have hl := sz_list s
    have hp := pow_le10 i (by omega)
    show st49_0 n (lp49_0 n k) s s 1 _ _ _ = _
    unfold st49_0
    by_cases h1 : i < s.size
    · obtain ⟨e1, e2, e3⟩ := dig_bt hd (i := i) (by omega)
      rw [if_pos (decide_eq_true (by omega)), if_pos (decide_eq_true (by omega)), if_pos (decide_eq_true (by omega)), if_neg (by rw [e1, decide_eq_false (by omega)]; decide), if_pos (decide_eq_true (by omega)), if_pos (decide_eq_true (by omega)), if_neg (by rw [e1, decide_eq_false (by omega)]; decide), if_pos (decide_eq_true (by omega)), if_pos (decide_eq_true (by omega)), e1]
      rw [rdstep v _ (by omega) e2 e3, wb i s.size h (by omega)]
      rw [List.drop_eq_getElem_cons (show i < s.data.toList.length by omega), valN_cons] at he
      exact t49_0 hd h9 hm hs k (i + 1) _ (by omega) (by omega) (p10_dig hv e3) he
    · rw [List.drop_eq_nil_of_le (by omega), valN_nil] at he
      subst he
      rw [if_neg (by simp; omega), Int.one_mul, w64 (x := (v : Int)) (by omega) (by omega), t35 (by omega) (by omega)]
      simp only [Option.bind_some]
      rw [if_neg (by rw [decide_eq_true hs.symm]; decide)]
theorem num_text {m : Nat} (hm : m ≤ 999999999) : (∀ b ∈ (dB (m : Int)).data.toList, isDig b = true) ∧ 1 ≤ (dB (m : Int)).size ∧ (dB (m : Int)).size ≤ 9 ∧ valN 0 (dB (m : Int)).data.toList = m := by
  have hl := sz_list (dB (m : Int))
  rw [dB_nat] at hl ⊢
  refine ⟨digits_dig m, ?_, ?_, valN_digits m⟩
  · have := List.length_pos_iff.2 (digits_ne m); omega
  · have := digits_len 8 m (Nat.lt_of_le_of_lt hm (by decide))
    omega
theorem t49 {n : Nat} (hn : 2000000 ≤ n) {m : Nat} (hm : m ≤ 999999999) : F49 n (dB (m : Int)) = some ((m : Int), true, ()) := by
  obtain ⟨h1, h2, h3, h4⟩ := num_text hm
  have hl := sz_list (dB (m : Int))
  obtain ⟨e1, e2, e3⟩ := dig_bt h1 (i := 0) (by omega)
  have e1 : bt (dB (m : Int)) 0 = _ := e1
  unfold F49 st49
  simp only [f70, Option.bind_some]
  have hi : inr ((dB (m : Int)).size : Int) 1 9 = true := by unfold inr; exact decide_eq_true ⟨by omega, by omega⟩
  rw [if_pos (decide_eq_true (by omega)), if_pos (by decide), if_pos (decide_eq_true (by omega)), if_neg (by rw [e1, decide_eq_false (by omega)]; decide), hi, if_neg (by decide)]
  exact t49_0 h1 h3 h4 rfl n 0 0 (by omega) (by omega) (by decide) (by rw [List.drop_zero]; exact h4)
/-- The reference's reading of a number. -/
theorem t56j {n : Nat} (hn : 100 ≤ n) {s : ByteArray} {i1 i2 : Int} (h1 : -9223372036854775808 ≤ i1) (h2 : i1 ≤ 9223372036854775807) : ok (j56_0 n s i1 i2) fun _ => True := by
  have hj : ∀ x : Int, -9223372036854775808 ≤ x → x ≤ 9223372036854775807 → ok (j56_1 n s x i2) fun _ => True := fun x a b => by
    unfold j56_1
    exact ok.ite (fun _ => ok.some trivial) (fun _ => ok.ite (fun _ => ok.some trivial) (fun _ => (t11t hn a b).bind fun r q => ok.iteb (fun _ => ok.some trivial) (fun _ => ok.some trivial)))
  unfold j56_0
  exact ok.ite (fun h => ok.guard (by decide) (ok.guard (by omega) (ok.ite (fun _ => hj _ (w_range _).1 (w_range _).2) (fun _ => hj _ h1 h2)))) (fun _ => hj _ h1 h2)
theorem t56t_0 {n : Nat} (hn : 100 ≤ n) {s : ByteArray} (hs : s.size ≤ 1048576) : ∀ (k i : Nat) (i1 i2 : Int), i ≤ s.size → s.size - i < k → -9223372036854775808 ≤ i1 → i1 ≤ 9223372036854775807 → ok (lp56_0 n k s i1 i2 (i : Int)) fun _ => True
  | 0, i, i1, i2, h, hk, a, b => by omega
  | k + 1, i, i1, i2, h, hk, a, b => by
    show ok (st56_0 n (lp56_0 n k) s i1 i2 _) _
    unfold st56_0
    refine ok.ite (fun h1 => ok.ite (fun h2 => ok.guard (by omega) (ok.guard h1 (ok.ite (fun _ => ok.guard (by omega) (ok.guard h1 (ok.ite (fun _ => ok.guard (by omega) (ok.guard h1 ?_)) (fun _ => ?_)))) (fun _ => ?_)))) (fun _ => t56j hn a b)) (fun _ => t56j hn a b)
    · rw [wb i s.size h hs]
      exact t56t_0 hn hs k (i + 1) _ _ (by omega) (by omega) (w_range _).1 (w_range _).2
    · rw [wb i s.size h hs]
      exact t56t_0 hn hs k (i + 1) _ _ (by omega) (by omega) a b
    · rw [wb i s.size h hs]
      exact t56t_0 hn hs k (i + 1) _ _ (by omega) (by omega) a b
theorem t56t {n : Nat} {s : ByteArray} (hs : s.size ≤ 1048576) (hn : 2000000 ≤ n) : ok (F56 n s) fun _ => True := by
  unfold F56 st56
  exact t56t_0 (by omega) hs n 0 0 0 (by omega) (by omega) (by omega) (by omega)
theorem rdstep2 (v b : Nat) (hv : v ≤ 100000000000) (h1 : 48 ≤ b) (h2 : b ≤ 57) : wrap64 ((wrap64 ((v : Int) * 10)) + (wrap64 (wrapI .u8 ((b : Int) - 48)))) = ((v * 10 + (b - 48) : Nat) : Int) := by
  rw [Int.mul_comm]
  exact rdstep v b hv h1 h2
theorem t56_0 {n : Nat} (hn : 100 ≤ n) {s : ByteArray} (hd : ∀ b ∈ s.data.toList, isDig b = true) (h9 : s.size ≤ 9) (hp : 1 ≤ s.size) {m : Nat} (hs : s.toList = (dB (m : Int)).toList) : ∀ (k i v : Nat), i ≤ s.size → s.size - i < k → v < p10 i → valN v (s.data.toList.drop i) = m →
    lp56_0 n k s (v : Int) (i : Int) (i : Int) = some ((m : Int), true, ())
  | 0, i, v, h, hk, hv, he => by omega
  | k + 1, i, v, h, hk, hv, he => by
    have hl := sz_list s
    have hp10 := pow_le10 i (by omega)
    show st56_0 n (lp56_0 n k) s _ _ _ = _
    unfold st56_0
    by_cases h1 : i < s.size
    · obtain ⟨e1, e2, e3⟩ := dig_bt hd (i := i) (by omega)
      rw [if_pos (decide_eq_true (by omega)), if_pos (decide_eq_true (by omega)), if_pos (decide_eq_true (by omega)), if_pos (decide_eq_true (by omega)), if_pos (by rw [e1]; exact decide_eq_true (by omega)), if_pos (decide_eq_true (by omega)), if_pos (decide_eq_true (by omega)), if_pos (by rw [e1]; exact decide_eq_true (by omega)), if_pos (decide_eq_true (by omega)), if_pos (decide_eq_true (by omega)), e1]
      rw [rdstep2 v _ (by omega) e2 e3, wb i s.size h (by omega)]
      rw [List.drop_eq_getElem_cons (show i < s.data.toList.length by omega), valN_cons] at he
      exact t56_0 hn hd h9 hp hs k (i + 1) _ (by omega) (by omega) (p10_dig hv e3) he
    · rw [List.drop_eq_nil_of_le (by omega), valN_nil] at he
      subst he
      obtain ⟨e1, e2, e3⟩ := dig_bt hd (i := 0) (by omega)
      have e1 : bt s 0 = _ := e1
      rw [if_neg (by simp; omega)]
      unfold j56_0 j56_1
      rw [if_pos (decide_eq_true (by omega)), if_pos (by decide), if_pos (decide_eq_true (by omega)), if_neg (by rw [e1, decide_eq_false (by omega)]; decide), if_neg (by simp; omega), if_neg (by simp; omega), t11 hn (by omega)]
      simp only [Option.bind_some]
      rw [if_neg (by rw [decide_eq_true hs.symm]; decide)]
theorem t56 {n : Nat} (hn : 2000000 ≤ n) {m : Nat} (hm : m ≤ 999999999) : F56 n (dB (m : Int)) = some ((m : Int), true, ()) := by
  obtain ⟨h1, h2, h3, h4⟩ := num_text hm
  unfold F56 st56
  exact t56_0 (by omega) h1 h3 h2 rfl n 0 0 (by omega) (by omega) (by decide) (by rw [List.drop_zero]; exact h4)
end Go.Eva
end
section
/- Rules as texts, read again. -/
namespace Go.Eva
open Go.RowKit (wrap64)
set_option linter.unusedVariables false
set_option linter.unusedSimpArgs false

/-- The words of a list of bytes, parted at spaces. -/
def spB : List UInt8 → List (List UInt8)
  | [] => [[]]
  | b :: bs => if b = 32 then [] :: spB bs else (match spB bs with | [] => [[b]] | w :: ws => (b :: w) :: ws)
theorem spB_ne : ∀ L, spB L ≠ []
  | [] => by simp [spB]
  | b :: bs => by
    simp only [spB]
    split
    · simp
    · split <;> simp
def hdB (cur : List UInt8) : List (List UInt8) → List (List UInt8)
  | [] => [cur]
  | w :: ws => (cur ++ w) :: ws
theorem hdB_nil (L : List UInt8) : hdB [] (spB L) = spB L := by
  have := spB_ne L
  cases h : spB L with
  | nil => exact absurd h this
  | cons w ws => rfl
theorem hdB_snoc (cur : List UInt8) (b : UInt8) (bs : List UInt8) (hb : b ≠ 32) : hdB cur (spB (b :: bs)) = hdB (cur ++ [b]) (spB bs) := by
  simp only [spB, if_neg hb]
  have := spB_ne bs
  cases h : spB bs with
  | nil => exact absurd h this
  | cons w ws => simp [hdB]
theorem hdB_space (cur bs : List UInt8) : hdB cur (spB (32 :: bs)) = cur :: spB bs := by simp [spB, hdB]
theorem extr_list (s : ByteArray) (a b : Nat) (hb : b ≤ s.size) : (s.extract a b).data.toList = (s.data.toList.drop a).take (b - a) := by
  rw [ByteArray.data_extract, Array.toList_extract, List.extract_eq_take_drop]
theorem spB_one : ∀ A : List UInt8, (∀ b ∈ A, b ≠ 32) → spB A = [A]
  | [], _ => rfl
  | b :: bs, h => by
    rw [spB, if_neg (h b (by simp)), spB_one bs (fun x hx => h x (by simp [hx]))]
theorem spB_app (B : List UInt8) : ∀ A : List UInt8, (∀ b ∈ A, b ≠ 32) → spB (A ++ 32 :: B) = A :: spB B
  | [], _ => by simp [spB]
  | b :: bs, h => by
    rw [List.cons_append, spB, if_neg (h b (by simp)), spB_app B bs (fun x hx => h x (by simp [hx]))]
/-- The place of the first byte c, counted from i. -/
def at19 (c : UInt8) : List UInt8 → Nat → Int
  | [], _ => -1
  | b :: bs, i => if b = c then i else at19 c bs (i + 1)
theorem at19_miss (c : UInt8) : ∀ (A : List UInt8) (i : Nat), (∀ b ∈ A, b ≠ c) → at19 c A i = -1
  | [], _, _ => rfl
  | b :: bs, i, h => by rw [at19, if_neg (h b (by simp)), at19_miss c bs (i + 1) (fun x hx => h x (by simp [hx]))]
theorem at19_hit (c : UInt8) (B : List UInt8) : ∀ (A : List UInt8) (i : Nat), (∀ b ∈ A, b ≠ c) → at19 c (A ++ c :: B) i = ((i + A.length : Nat) : Int)
  | [], i, _ => by simp [at19]
  | b :: bs, i, h => by
    rw [List.cons_append, at19, if_neg (h b (by simp)), at19_hit c B bs (i + 1) (fun x hx => h x (by simp [hx])), List.length_cons]
    omega
theorem at19_range (c : UInt8) : ∀ (A : List UInt8) (i : Nat), at19 c A i = -1 ∨ ∃ j : Nat, at19 c A i = j ∧ i ≤ j ∧ j < i + A.length
  | [], _ => .inl rfl
  | b :: bs, i => by
    rw [at19]
    split
    · exact .inr ⟨i, rfl, Nat.le_refl _, by simp⟩
    · rcases at19_range c bs (i + 1) with h | ⟨j, h, h1, h2⟩
      · exact .inl h
      · exact .inr ⟨j, h, by omega, by rw [List.length_cons]; omega⟩
theorem any_range (cs : List UInt8) : ∀ L : List UInt8, Go.Lib.indexAny L cs = -1 ∨ ∃ j : Nat, Go.Lib.indexAny L cs = j ∧ j < L.length
  | [] => .inl rfl
  | b :: bs => by
    rw [Go.Lib.indexAny]
    split
    · exact .inr ⟨0, rfl, by simp⟩
    · rcases any_range cs bs with h | ⟨j, h, h1⟩
      · exact .inl (by rw [h]; rfl)
      · refine .inr ⟨j + 1, ?_, by rw [List.length_cons]; omega⟩
        rw [h, if_neg (by simp)]
        omega
theorem cut_len (L S : List UInt8) : (Go.Lib.cut L S).1.length ≤ L.length ∧ (Go.Lib.cut L S).2.1.length ≤ L.length := by
  unfold Go.Lib.cut
  split
  · simp only [List.length_take, List.length_drop]; omega
  · simp
theorem spB_len : ∀ L : List UInt8, ∀ w ∈ spB L, w.length ≤ L.length
  | [], w, h => by simp [spB] at h; simp [h]
  | b :: bs, w, h => by
    have ih := spB_len bs
    rw [spB] at h
    split at h
    · rcases List.mem_cons.1 h with rfl | h
      · simp
      · have := ih w h; rw [List.length_cons]; omega
    · split at h
      · rw [List.mem_singleton.1 h]; simp
      · rename_i w' ws e
        rcases List.mem_cons.1 h with rfl | h
        · have := ih w' (by rw [e]; simp)
          simp only [List.length_cons]; omega
        · have := ih w (by rw [e]; simp [h])
          rw [List.length_cons]; omega

theorem extr_of (s d : ByteArray) (A D B : List UInt8) (a b : Nat) (hs : s.data.toList = A ++ (D ++ B)) (ha : a = A.length) (hb : b = A.length + D.length) (hd : d.data.toList = D) : s.extract a b = d := by
  have hl := sz_list s
  have hlen : s.data.toList.length = A.length + (D.length + B.length) := by rw [hs]; simp
  apply ba_ext
  rw [extr_list s a b (by omega), hs, hd, ha, hb]
  simp
/-- The reference's cutting at a byte. -/
theorem t54_0 {n : Nat} {s : ByteArray} (hs : s.size ≤ 1048576) : ∀ (k i frm : Nat) (out : List ByteArray), i ≤ s.size → s.size - i < k → frm ≤ i → out.length ≤ i → ok (lp54_0 n k s 32 (frm : Int) (i : Int) out) fun r => r.1.map (fun x => x.data.toList) = out.map (fun x => x.data.toList) ++ hdB ((s.data.toList.drop frm).take (i - frm)) (spB (s.data.toList.drop i))
  | 0, i, frm, out, h, hk, hf, ho => by omega
  | k + 1, i, frm, out, h, hk, hf, ho => by
    have hl := sz_list s
    show ok (st54_0 n (lp54_0 n k) s 32 _ _ out) _
    unfold st54_0
    refine ok.ite (fun h1 => ok.guard (by omega) (ok.guard h1 ?_)) (fun h1 => ok.guard (by omega) (ok.guard (by omega) (ok.guard (by omega) (ok.guard (by simp only [List.length_cons, List.length_nil]; omega) (ok.some ?_)))))
    · have hi : i < s.data.toList.length := by omega
      have hsp : s.data.toList.drop i = s.data.toList[i] :: s.data.toList.drop (i + 1) := List.drop_eq_getElem_cons hi
      rw [bt_list s i hi, wb i s.size h hs]
      refine ok.ite (fun h2 => ok.guard (by omega) (ok.guard (by omega) (ok.guard (by omega) (ok.guard (by simp only [List.length_cons, List.length_nil]; omega) ?_)))) (fun h2 => ?_)
      · have hb : s.data.toList[i] = 32 := UInt8.toNat_inj.1 (by show _ = 32; omega)
        refine (t54_0 hs k (i + 1) (i + 1) _ (by omega) (by omega) (Nat.le_refl _) (by simp only [List.length_append, List.length_cons, List.length_nil]; omega)).mono fun r q => ?_
        rw [q, hsp, hb, hdB_space, List.map_append, List.append_assoc, Nat.sub_self, List.take_zero, hdB_nil]
        congr 1
        simp only [List.map_cons, List.map_nil, Int.toNat_natCast, List.singleton_append]
        rw [extr_list s frm i (by omega)]
      · have hb : s.data.toList[i] ≠ 32 := fun e => h2 (by rw [e]; rfl)
        refine (t54_0 hs k (i + 1) frm out (by omega) (by omega) (by omega) (by omega)).mono fun r q => ?_
        rw [q, hsp, hdB_snoc _ _ _ hb]
        congr 2
        have e : i + 1 - frm = (i - frm) + 1 := by omega
        rw [e, List.take_succ_eq_append_getElem (by rw [List.length_drop]; omega)]
        congr 2
        rw [List.getElem_drop]
        congr 1
        omega
    · rw [List.drop_eq_nil_of_le (show s.data.toList.length ≤ i by omega)]
      have e : i = s.size := by omega
      simp only [List.map_append, List.map_cons, List.map_nil, Int.toNat_natCast, spB, hdB, List.append_nil]
      rw [extr_list s frm s.size (Nat.le_refl _), e]
theorem t54 {n : Nat} {s : ByteArray} (hs : s.size ≤ 1048576) (hn : 2000000 ≤ n) : ok (F54 n s 32) fun r => r.1.map (fun x => x.data.toList) = spB s.data.toList := by
  unfold F54 st54
  refine (t54_0 hs n 0 0 [] (by omega) (by omega) (Nat.le_refl _) (Nat.le_refl _)).mono fun r q => ?_
  rw [q, Nat.sub_self, List.take_zero, List.drop_zero, hdB_nil]
  rfl
theorem t55_0 {n : Nat} {s : ByteArray} {c : UInt8} (hs : s.size ≤ 1048576) : ∀ (k i : Nat), i ≤ s.size → s.size - i < k → ok (lp55_0 n k s (c.toNat : Int) (i : Int)) fun r => r = (at19 c (s.data.toList.drop i) i, ())
  | 0, i, h, hk => by omega
  | k + 1, i, h, hk => by
    have hl := sz_list s
    show ok (st55_0 n (lp55_0 n k) s _ _) _
    unfold st55_0
    refine ok.ite (fun h1 => ok.guard (by omega) (ok.guard h1 ?_)) (fun h1 => ok.some ?_)
    · have hi : i < s.data.toList.length := by omega
      rw [bt_list s i hi, wb i s.size h hs, List.drop_eq_getElem_cons hi, at19]
      refine ok.ite (fun h2 => ok.some ?_) (fun h2 => ?_)
      · rw [if_pos (UInt8.toNat_inj.1 (by omega))]
      · rw [if_neg (fun e => h2 (by rw [e]))]
        exact t55_0 hs k (i + 1) (by omega) (by omega)
    · rw [List.drop_eq_nil_of_le (by omega)]; rfl
theorem t55 {n : Nat} {s : ByteArray} (c : UInt8) (hs : s.size ≤ 1048576) (hn : 2000000 ≤ n) {x : Int} (hx : x = (c.toNat : Int)) : ok (F55 n s 0 x) fun r => r = (at19 c s.data.toList 0, ()) := by
  subst hx
  unfold F55 st55
  exact t55_0 hs n 0 (by omega) (by omega)
/-- A rule's text. -/
def sgB (o : Int) : UInt8 := if o = 2 then 60 else 62
def shw (s : ByteArray) (o l f : Int) : ByteArray := (((s ++ (⟨#[sgB o]⟩ : ByteArray)) ++ dB l) ++ (⟨#[32, 102, 111, 114, 32]⟩ : ByteArray)) ++ dB f
theorem shw_list (s : ByteArray) (o l f : Int) : (shw s o l f).data.toList = s.data.toList ++ sgB o :: ((dB l).data.toList ++ 32 :: ([102, 111, 114] ++ 32 :: (dB f).data.toList)) := by
  unfold shw
  simp [ByteArray.data_append, Array.toList_append]
theorem shw_size (s : ByteArray) {o l f : Int} (R : ROk s o l f) : (shw s o l f).size ≤ 60 ∧ 1 ≤ (shw s o l f).size := by
  have h1 := dB_size (i := l) (by have := R.l1; omega) (by have := R.l2; omega)
  have h2 := dB_size (i := f) (by have := R.f1; omega) (by have := R.f2; omega)
  have h3 := R.len
  have e : (⟨#[sgB o]⟩ : ByteArray).size = 1 := rfl
  have e5 : (⟨#[32, 102, 111, 114, 32]⟩ : ByteArray).size = 5 := rfl
  unfold shw
  simp only [ByteArray.size_append, e, e5]
  omega
theorem f20_ok {n : Nat} {s : ByteArray} {o l f : Int} (hs : s.size ≤ 1048576) (hn : 2000000 ≤ n) (h : rokB n s o l f = true) : F20 n s o l f = some (shw s o l f, ()) := by
  have R := rok_iff hs hn h
  have l1 := R.l1
  have l2 := R.l2
  have f1 := R.f1
  have f2 := R.f2
  have h1 := dB_size (i := l) (by omega) (by omega)
  have h2 := dB_size (i := f) (by omega) (by omega)
  have e5 : (⟨#[32, 102, 111, 114, 32]⟩ : ByteArray).size = 5 := rfl
  have hj : ∀ c : UInt8, j20_0 n (⟨#[c]⟩ : ByteArray) s o l f = some ((((s ++ (⟨#[c]⟩ : ByteArray)) ++ dB l) ++ (⟨#[32, 102, 111, 114, 32]⟩ : ByteArray)) ++ dB f, ()) := fun c => by
    have e : (⟨#[c]⟩ : ByteArray).size = 1 := rfl
    unfold j20_0
    rw [t35 (by omega) (by omega), t35 (by omega) (by omega)]
    simp only [Option.bind_some, ByteArray.size_append, e, e5]
    rw [if_pos (decide_eq_true (by omega)), if_pos (decide_eq_true (by omega)), if_pos (decide_eq_true (by omega)), if_pos (decide_eq_true (by omega))]
  unfold F20
  rw [f42, t17 hs hn, h]
  simp only [Option.bind_some]
  rw [if_neg (by decide)]
  unfold shw sgB
  by_cases ho : o = 2
  · rw [if_pos (decide_eq_true ho), hj, if_pos ho]
  · rw [if_neg (by rw [decide_eq_false ho]; decide), hj, if_neg ho]
theorem f20_no {n : Nat} {s : ByteArray} {o l f : Int} (hs : s.size ≤ 1048576) (hn : 2000000 ≤ n) (h : ¬ rokB n s o l f = true) : F20 n s o l f = some (⟨#[]⟩, ()) := by
  have h : rokB n s o l f = false := by simpa using h
  unfold F20
  rw [f42, t17 hs hn, h]
  rfl
theorem f50_ok {n : Nat} {s : ByteArray} {o l f : Int} (hs : s.size ≤ 1048576) (hn : 2000000 ≤ n) (h : rokB n s o l f = true) : F50 n s o l f = some (shw s o l f, ()) := by
  have R := rok_iff hs hn h
  have l1 := R.l1
  have l2 := R.l2
  have f1 := R.f1
  have f2 := R.f2
  have h1 := dB_size (i := l) (by omega) (by omega)
  have h2 := dB_size (i := f) (by omega) (by omega)
  have e5 : (⟨#[32, 102, 111, 114, 32]⟩ : ByteArray).size = 5 := rfl
  have e1 : ∀ c : UInt8, (⟨#[c]⟩ : ByteArray).size = 1 := fun c => rfl
  obtain ⟨L, rfl⟩ : ∃ L : Nat, l = L := ⟨l.toNat, by omega⟩
  obtain ⟨F, rfl⟩ : ∃ F : Nat, f = F := ⟨f.toNat, by omega⟩
  have hr : rdOf (⟨#[]⟩ : ByteArray) ([(⟨#[]⟩ : ByteArray), (⟨#[62]⟩ : ByteArray), (⟨#[60]⟩ : ByteArray)] : List ByteArray) o = ⟨#[sgB o]⟩ := by
    have ho : o = 1 ∨ o = 2 := by have := R.o1; have := R.o2; omega
    rcases ho with rfl | rfl <;> rfl
  unfold F50
  rw [t17 hs hn, h, hr, t11 (by omega) (by omega), t11 (by omega) (by omega)]
  simp only [Option.bind_some, ByteArray.size_append, e1, e5]
  have o1 := R.o1
  have o2 := R.o2
  rw [if_neg (by decide), if_pos (decide_eq_true (by omega)), if_pos (decide_eq_true (by simp only [List.length_cons, List.length_nil]; omega)), if_pos (decide_eq_true (by omega)), if_pos (decide_eq_true (by omega)), if_pos (decide_eq_true (by omega)), if_pos (decide_eq_true (by omega))]
  rfl
theorem f50_no {n : Nat} {s : ByteArray} {o l f : Int} (hs : s.size ≤ 1048576) (hn : 2000000 ≤ n) (h : ¬ rokB n s o l f = true) : F50 n s o l f = some (⟨#[]⟩, ()) := by
  have h : rokB n s o l f = false := by simpa using h
  unfold F50
  rw [t17 hs hn, h]
  rfl
end Go.Eva
end
section
/- Rules read: only what a right rule shows is read, and it is read as that rule. -/
namespace Go.Eva
open Go.RowKit (wrap64)
set_option linter.unusedVariables false
set_option linter.unusedSimpArgs false

theorem tl_eq {a b : ByteArray} (h : a.toList = b.toList) : a = b := ba_ext (by rw [← ByteArray.toList_eq, ← ByteArray.toList_eq]; exact h)
def Shown (n : Nat) (a0 s : ByteArray) (o l f : Int) : Prop := rokB n s o l f = true ∧ s.size ≤ 1048576 ∧ a0 = shw s o l f
theorem dig_ne {m : Nat} (hm : m ≤ 999999999) : ∀ b ∈ (dB (m : Int)).data.toList, b ≠ 32 ∧ b ≠ 60 ∧ b ≠ 62 := by
  intro b hb
  have := (num_text hm).1 b hb
  refine ⟨?_, ?_, ?_⟩ <;> (intro q; rw [q] at this; exact absurd this (by decide))
theorem f47 {n : Nat} {s : ByteArray} (hs : s.size ≤ 1048576) : F47 n s (⟨#[60, 62]⟩ : ByteArray) = some (Go.Lib.indexAny s.data.toList [60, 62], ()) := by
  unfold F47 anyF
  rw [if_pos (decide_eq_true (by omega)), if_pos (decide_eq_true rfl)]
theorem f48 {n : Nat} {s c : ByteArray} (hs : s.size ≤ 1048576) : F48 n s c = some (⟨(Go.Lib.cut s.data.toList c.data.toList).1.toArray⟩, ⟨(Go.Lib.cut s.data.toList c.data.toList).2.1.toArray⟩, (Go.Lib.cut s.data.toList c.data.toList).2.2, ()) := by
  unfold F48 cutF
  rw [if_pos (decide_eq_true (by omega))]
theorem t21s {n : Nat} (hn : 2000000 ≤ n) {a0 : ByteArray} (hs : a0.size ≤ 1048576) : ok (F21 n a0) fun r => r.2.2.2.2.1 = true → Shown n a0 r.1 r.2.1 r.2.2.1 r.2.2.2.1 := by
  have hl := sz_list a0
  unfold F21
  rw [f47 hs]
  simp only [Option.bind_some]
  refine ok.ite (fun h => ok.some fun h => by cases h) (fun h => ?_)
  rcases any_range [60, 62] a0.data.toList with e | ⟨j, e, hj⟩
  · rw [e] at h; omega
  · rw [e, w64 (x := (j : Int) + 1) (by omega) (by omega)]
    refine ok.guard (by omega) (ok.guard (by omega) (ok.guard (by omega) ?_))
    have hx : (a0.extract ((j : Int) + 1).toNat (a0.size : Int).toNat).size ≤ 1048576 := by rw [ByteArray.size_extract]; omega
    have hk : (a0.extract (0 : Int).toNat (j : Int).toNat).size ≤ 1048576 := by rw [ByteArray.size_extract]; omega
    rw [f48 hx]
    simp only [Option.bind_some]
    have hc := cut_len (a0.extract ((j : Int) + 1).toNat (a0.size : Int).toNat).data.toList (⟨#[32, 102, 111, 114, 32]⟩ : ByteArray).data.toList
    rw [sz_list] at hc
    obtain ⟨C1, hC1⟩ : ∃ C, C = (⟨(Go.Lib.cut (a0.extract ((j : Int) + 1).toNat (a0.size : Int).toNat).data.toList (⟨#[32, 102, 111, 114, 32]⟩ : ByteArray).data.toList).1.toArray⟩ : ByteArray) := ⟨_, rfl⟩
    obtain ⟨C2, hC2⟩ : ∃ C, C = (⟨(Go.Lib.cut (a0.extract ((j : Int) + 1).toNat (a0.size : Int).toNat).data.toList (⟨#[32, 102, 111, 114, 32]⟩ : ByteArray).data.toList).2.1.toArray⟩ : ByteArray) := ⟨_, rfl⟩
    have s1 : C1.size ≤ 1048576 := by
      rw [hC1]
      show Array.size (List.toArray _) ≤ _
      rw [List.size_toArray]
      omega
    have s2 : C2.size ≤ 1048576 := by
      rw [hC2]
      show Array.size (List.toArray _) ≤ _
      rw [List.size_toArray]
      omega
    rw [← hC1, ← hC2]
    refine ok.guard (by decide) (ok.guard (by omega) (ok.guard (by omega) (ok.guard (by omega) (ok.guard (by omega) ?_))))
    have J : ∀ o : Int, ok ((F49 n C1).bind fun r3 => (F49 n C2).bind fun r4 => (F20 n (a0.extract (0 : Int).toNat (j : Int).toNat) o r3.1 r4.1).bind fun r5 =>
        if (!decide (r5.1.toList = a0.toList)) = true then some ((⟨#[]⟩ : ByteArray), (0 : Int), (0 : Int), (0 : Int), false, ()) else some ((a0.extract (0 : Int).toNat (j : Int).toNat), o, r3.1, r4.1, true, ())) fun r => r.2.2.2.2.1 = true → Shown n a0 r.1 r.2.1 r.2.2.1 r.2.2.2.1 := fun o => by
      refine (t49t s1 hn).bind fun r3 _ => (t49t s2 hn).bind fun r4 _ => ?_
      by_cases hr : rokB n (a0.extract (0 : Int).toNat (j : Int).toNat) o r3.1 r4.1 = true
      · rw [f20_ok hk hn hr]
        simp only [Option.bind_some]
        refine ok.iteb (fun _ => ok.some fun h => by cases h) (fun h2 => ok.some fun _ => ⟨hr, hk, ?_⟩)
        have h2 : (shw (a0.extract (0 : Int).toNat (j : Int).toNat) o r3.1 r4.1).toList = a0.toList := by simpa using h2
        exact (tl_eq h2).symm
      · rw [f20_no hk hn hr]
        simp only [Option.bind_some]
        refine ok.iteb (fun _ => ok.some fun h => by cases h) (fun h2 => ?_)
        exfalso
        have h2 : (⟨#[]⟩ : ByteArray).toList = a0.toList := by simpa using h2
        have := tl_eq h2
        rw [← this] at hj
        exact absurd hj (Nat.not_lt_zero _)
    exact ok.ite (fun _ => J 2) (fun _ => J 1)
theorem t21c {n : Nat} (hn : 2000000 ≤ n) {a0 s : ByteArray} {o l f : Int} (h : Shown n a0 s o l f) : ok (F21 n a0) fun r => r = (s, o, l, f, true, ()) := by
  obtain ⟨hr, hss, ha⟩ := h
  have R := rok_iff hss hn hr
  have hz := shw_size s R
  have hs : a0.size ≤ 1048576 := by rw [ha]; omega
  have hl := sz_list a0
  have hL := shw_list s o l f
  rw [← ha] at hL
  obtain ⟨L, rfl⟩ : ∃ L : Nat, l = L := ⟨l.toNat, by have := R.l1; omega⟩
  obtain ⟨F, rfl⟩ : ∃ F : Nat, f = F := ⟨f.toNat, by have := R.f1; omega⟩
  have hA := R.key
  have hD : ∀ b ∈ (dB (L : Int)).data.toList, b ≠ 32 ∧ b ≠ 60 ∧ b ≠ 62 := dig_ne (by have := R.l2; omega)
  generalize hA' : s.data.toList = A at hL hA
  generalize hD1 : (dB (L : Int)).data.toList = D1 at hL hD
  generalize hD2 : (dB (F : Int)).data.toList = D2 at hL
  have hlen : a0.size = A.length + (D1.length + (5 + D2.length) + 1) := by rw [← hl, hL]; simp; omega
  obtain ⟨X, hX⟩ : ∃ X : Int, X = (A.length : Int) := ⟨_, rfl⟩
  have hsg : sgB o = 60 ∨ sgB o = 62 := by unfold sgB; split <;> simp
  have hAt : Go.Lib.indexAny a0.data.toList [60, 62] = X := by
    rw [hX]
    refine Go.Lib.indexAny_hit (x := sgB o) ?_ ?_ ?_
    · intro j b hj hb
      rw [hL, List.getElem?_append_left hj] at hb
      have := hA b (List.mem_of_getElem? hb)
      simp [this.2.1, this.2.2]
    · rw [hL]; simp
    · rcases hsg with e | e <;> rw [e] <;> decide
  have hbt : bt a0 X = ((sgB o).toNat : Int) := by
    rw [hX]
    rw [bt_list a0 A.length (by omega)]
    congr 2
    have : a0.data.toList[A.length]? = some (sgB o) := by rw [hL]; simp
    rw [List.getElem?_eq_getElem (by omega)] at this
    exact Option.some.inj this
  have eK : a0.extract 0 A.length = s := extr_of a0 s [] A (sgB o :: (D1 ++ 32 :: ([102, 111, 114] ++ 32 :: D2))) 0 A.length (by rw [hL]; rfl) rfl (by simp) hA'
  have eR : (a0.extract (A.length + 1) a0.size).data.toList = D1 ++ ([32, 102, 111, 114, 32] ++ D2) := by
    rw [extr_list _ _ _ (Nat.le_refl _), hL]
    have : (A ++ sgB o :: (D1 ++ 32 :: ([102, 111, 114] ++ 32 :: D2))).drop (A.length + 1) = D1 ++ ([32, 102, 111, 114, 32] ++ D2) := by
      rw [List.drop_append, List.drop_eq_nil_of_le (by omega)]
      simp
    rw [this, List.take_of_length_le]
    simp only [List.length_append, List.length_cons, List.length_nil]
    omega
  have eI : Go.Lib.index (D1 ++ ([32, 102, 111, 114, 32] ++ D2)) [32, 102, 111, 114, 32] = (D1.length : Int) := by
    refine Go.Lib.index_first (by simp) (by simp [Go.Lib.occAt]) ?_
    intro j hj
    cases e : Go.Lib.occAt (D1 ++ ([32, 102, 111, 114, 32] ++ D2)) [32, 102, 111, 114, 32] j with
    | false => rfl
    | true =>
      have := Go.Lib.occAt_head rfl e
      rw [List.getElem?_append_left hj] at this
      exact absurd rfl (hD 32 (List.mem_of_getElem? this)).1
  have eC : Go.Lib.cut (D1 ++ ([32, 102, 111, 114, 32] ++ D2)) [32, 102, 111, 114, 32] = (D1, D2, true) := by
    unfold Go.Lib.cut
    rw [eI, if_pos (by omega)]
    simp
  have b1 : (⟨D1.toArray⟩ : ByteArray) = dB (L : Int) := ba_ext (by rw [hD1])
  have b2 : (⟨D2.toArray⟩ : ByteArray) = dB (F : Int) := ba_ext (by rw [hD2])
  have en : (X + 1).toNat = A.length + 1 := by omega
  have es : (⟨#[32, 102, 111, 114, 32]⟩ : ByteArray).data.toList = [32, 102, 111, 114, 32] := rfl
  have l2 := R.l2
  have f2 := R.f2
  have o1 := R.o1
  have o2 := R.o2
  have eX : a0.extract (X + 1).toNat (a0.size : Int).toNat = a0.extract (A.length + 1) a0.size := by rw [en, Int.toNat_natCast]
  have hx : (a0.extract (X + 1).toNat (a0.size : Int).toNat).size ≤ 1048576 := by rw [eX, ByteArray.size_extract]; omega
  have eY : a0.extract (0 : Int).toNat X.toNat = s := by
    have e0 : X.toNat = A.length := by omega
    rw [e0]
    exact eK
  have J : F20 n s o (L : Int) (F : Int) = some (a0, ()) := by rw [f20_ok hss hn hr, ha]
  unfold F21
  rw [f47 hs, hAt]
  simp only [Option.bind_some]
  refine ok.ite (fun h => by omega) (fun _ => ?_)
  rw [w64 (x := X + 1) (by omega) (by omega)]
  refine ok.guard (by omega) (ok.guard (by omega) (ok.guard (by omega) ?_))
  rw [f48 hx, eX, es, eR, eC, b1, b2]
  simp only [Option.bind_some]
  refine ok.guard (by decide) (ok.guard (by omega) (ok.guard (by omega) (ok.guard (by omega) (ok.guard (by omega) ?_))))
  rw [hbt, t49 hn (by omega), t49 hn (by omega), eY]
  simp only [Option.bind_some]
  have ho : o = 1 ∨ o = 2 := by omega
  rcases ho with rfl | rfl
  · refine ok.ite (fun h => absurd h (by decide)) (fun _ => ?_)
    rw [J]
    simp only [Option.bind_some]
    exact ok.iteb (fun h => by simp at h) (fun _ => ok.some rfl)
  · refine ok.ite (fun _ => ?_) (fun h => absurd (by decide) h)
    rw [J]
    simp only [Option.bind_some]
    exact ok.iteb (fun h => by simp at h) (fun _ => ok.some rfl)
end Go.Eva
end
section
/- The reference's reading of rules. -/
namespace Go.Eva
open Go.RowKit (wrap64)
set_option linter.unusedVariables false
set_option linter.unusedSimpArgs false

noncomputable def jRR (n : Nat) (a0 p r : ByteArray) (o X : Int) : Option (ByteArray × Int × Int × Int × Bool × Unit) :=
  (F56 n (p.extract (wrap64 (X + 1)).toNat (p.size : Int).toNat)).bind fun r4 => (F56 n r).bind fun r5 => (F50 n (p.extract (0 : Int).toNat X.toNat) o r4.1 r5.1).bind fun r6 =>
    if (!decide (r6.1.toList = a0.toList)) = true then some ((⟨#[]⟩ : ByteArray), (0 : Int), (0 : Int), (0 : Int), false, ()) else some ((p.extract (0 : Int).toNat X.toNat), o, r4.1, r5.1, true, ())
theorem jRR_s {n : Nat} (hn : 2000000 ≤ n) {a0 p r : ByteArray} (h0 : 1 ≤ a0.size) (hp : p.size ≤ 1048576) (hr : r.size ≤ 1048576) (o X : Int) : ok (jRR n a0 p r o X) fun r => r.2.2.2.2.1 = true → ∃ s o l f, Shown n a0 s o l f := by
  have hx : (p.extract (wrap64 (X + 1)).toNat (p.size : Int).toNat).size ≤ 1048576 := by rw [ByteArray.size_extract]; omega
  have hk : (p.extract (0 : Int).toNat X.toNat).size ≤ 1048576 := by rw [ByteArray.size_extract]; omega
  unfold jRR
  refine (t56t hx hn).bind fun r4 _ => (t56t hr hn).bind fun r5 _ => ?_
  by_cases hok : rokB n (p.extract (0 : Int).toNat X.toNat) o r4.1 r5.1 = true
  · rw [f50_ok hk hn hok]
    simp only [Option.bind_some]
    refine ok.iteb (fun _ => ok.some fun h => by cases h) (fun h2 => ok.some fun _ => ⟨_, _, _, _, hok, hk, ?_⟩)
    have h2 : (shw (p.extract (0 : Int).toNat X.toNat) o r4.1 r5.1).toList = a0.toList := by simpa using h2
    exact (tl_eq h2).symm
  · rw [f50_no hk hn hok]
    simp only [Option.bind_some]
    refine ok.iteb (fun _ => ok.some fun h => by cases h) (fun h2 => ?_)
    exfalso
    have h2 : (⟨#[]⟩ : ByteArray).toList = a0.toList := by simpa using h2
    have := tl_eq h2
    rw [← this] at h0
    exact absurd h0 (Nat.not_succ_le_zero _)
/-- How the three words are looked at. -/
theorem t23j {n : Nat} (hn : 2000000 ≤ n) {a0 p q r : ByteArray} (hp : p.size ≤ 1048576) {o X : Int} (hX : 0 ≤ X) (hXp : X < p.size) {Q : ByteArray × Int × Int × Int × Bool × Unit → Prop} (h : ok (jRR n a0 p r o X) Q) :
    ok (if (decide (0 ≤ 0)) = true then
        if (decide (0 < (([p, q, r] : List ByteArray).length : Int))) = true then
        if (decide (0 ≤ 0)) = true then
        if (decide (0 ≤ X)) = true then
        if (decide (X ≤ ((rdOf (⟨#[]⟩ : ByteArray) [p, q, r] (0 : Int)).size : Int))) = true then
        if (decide (0 ≤ 0)) = true then
        if (decide (0 < (([p, q, r] : List ByteArray).length : Int))) = true then
        if (decide (0 ≤ (wrap64 (X + 1)))) = true then
        if (decide ((wrap64 (X + 1)) ≤ ((rdOf (⟨#[]⟩ : ByteArray) [p, q, r] (0 : Int)).size : Int))) = true then
        if (decide (((rdOf (⟨#[]⟩ : ByteArray) [p, q, r] (0 : Int)).size : Int) ≤ ((rdOf (⟨#[]⟩ : ByteArray) [p, q, r] (0 : Int)).size : Int))) = true then
        (F56 n ((rdOf (⟨#[]⟩ : ByteArray) [p, q, r] (0 : Int)).extract (wrap64 (X + 1)).toNat ((rdOf (⟨#[]⟩ : ByteArray) [p, q, r] (0 : Int)).size : Int).toNat)).bind fun r4 =>
        if (decide (0 ≤ 2)) = true then
        if (decide (2 < (([p, q, r] : List ByteArray).length : Int))) = true then
        (F56 n (rdOf (⟨#[]⟩ : ByteArray) [p, q, r] (2 : Int))).bind fun r5 =>
        (F50 n ((rdOf (⟨#[]⟩ : ByteArray) [p, q, r] (0 : Int)).extract (0 : Int).toNat X.toNat) o r4.1 r5.1).bind fun r6 =>
        if (!decide (r6.1.toList = a0.toList)) = true then
          some ((⟨#[]⟩ : ByteArray), 0, 0, 0, false, ())
        else
          some (((rdOf (⟨#[]⟩ : ByteArray) [p, q, r] (0 : Int)).extract (0 : Int).toNat X.toNat), o, r4.1, r5.1, true, ())
        else none
        else none
        else none
        else none
        else none
        else none
        else none
        else none
        else none
        else none
        else none
        else none) Q := by
  have r0 : rdOf (⟨#[]⟩ : ByteArray) [p, q, r] (0 : Int) = p := rfl
  have r2 : rdOf (⟨#[]⟩ : ByteArray) [p, q, r] (2 : Int) = r := rfl
  have hw : wrap64 (X + 1) = X + 1 := w64 (by omega) (by omega)
  rw [r0, r2]
  refine ok.guard (by decide) (ok.guard (by simp) (ok.guard (by decide) (ok.guard hX (ok.guard (by omega) (ok.guard (by decide) (ok.guard (by simp) (ok.guard (by omega) (ok.guard (by omega) (ok.guard (by omega) ?_)))))))))
  unfold jRR at h
  simp only [if_pos (show decide ((0 : Int) ≤ 2) = true from by decide), if_pos (show decide (0 ≤ 2) = true from by decide), if_pos (show decide (2 < (([p, q, r] : List ByteArray).length : Int)) = true from by simp)]
  exact h
theorem three {W : List ByteArray} (h : ¬ ((W.length : Int) ≠ 3)) : ∃ p q r, W = [p, q, r] := by
  match W, h with
  | [p, q, r], _ => exact ⟨p, q, r, rfl⟩
  | [], h => simp at h
  | [_], h => simp at h
  | [_, _], h => simp at h
  | _ :: _ :: _ :: _ :: _, h => exact absurd (by simp only [List.length_cons]; omega) h
theorem at19_X (c : UInt8) (p : ByteArray) : ∃ X : Int, X = at19 c p.data.toList 0 ∧ (X = -1 ∨ (0 ≤ X ∧ X < p.size)) := by
  refine ⟨_, rfl, ?_⟩
  rcases at19_range c p.data.toList 0 with h | ⟨j, h, _, h2⟩
  · exact .inl h
  · rw [sz_list] at h2
    exact .inr (by rw [h]; omega)
theorem t23s {n : Nat} (hn : 2000000 ≤ n) {a0 : ByteArray} (hs : a0.size ≤ 1048576) : ok (F23 n a0) fun r => r.2.2.2.2.1 = true → ∃ s o l f, Shown n a0 s o l f := by
  unfold F23
  refine (t54 hs hn).bind fun r1 q1 => ok.ite (fun _ => ok.some fun h => by cases h) (fun h3 => ?_)
  obtain ⟨W, u⟩ := r1
  obtain ⟨p, q, r, rfl⟩ := three h3
  have hW : ∀ x ∈ [p, q, r], x.size ≤ 1048576 := by
    intro x hx
    have : x.data.toList ∈ spB a0.data.toList := by rw [← q1]; exact List.mem_map.2 ⟨x, hx, rfl⟩
    have := spB_len _ _ this
    rw [sz_list, sz_list] at this
    omega
  have h0 : 1 ≤ a0.size := by
    by_cases e : a0.data.toList = []
    · rw [e] at q1
      have := congrArg List.length q1
      simp [spB] at this
    · have := List.length_pos_iff.2 e
      rw [sz_list] at this
      omega
  have hp := hW p (by simp)
  have hr := hW r (by simp)
  have r0 : rdOf (⟨#[]⟩ : ByteArray) [p, q, r] (0 : Int) = p := rfl
  refine ok.guard (by decide) (ok.guard (by simp) ?_)
  obtain ⟨X, e1, hX⟩ := at19_X 62 p
  obtain ⟨Y, e2, hY⟩ := at19_X 60 p
  have f62 := t55 (n := n) 62 hp hn (x := 62) rfl
  have f60 := t55 (n := n) 60 hp hn (x := 60) rfl
  rw [← e1] at f62
  rw [← e2] at f60
  refine ok.bind (Q := fun r => r = (X, ())) f62 fun r2 q2 => ?_
  subst q2
  refine ok.ite (fun hx => ok.guard (by decide) (ok.guard (by simp) (ok.bind (Q := fun r => r = (Y, ())) f60 fun r3 q3 => ?_))) (fun hx => ok.ite (fun _ => ok.some fun h => by cases h) (fun _ => ?_))
  · subst q3
    refine ok.ite (fun _ => ok.some fun h => by cases h) (fun hy => ?_)
    have hy : ¬ Y < 0 := hy
    exact t23j hn hp (by omega) (by omega) (jRR_s hn h0 hp hr 2 Y)
  · have hx : ¬ X < 0 := hx
    exact t23j hn hp (by omega) (by omega) (jRR_s hn h0 hp hr 1 X)
theorem t23c {n : Nat} (hn : 2000000 ≤ n) {a0 s : ByteArray} {o l f : Int} (h : Shown n a0 s o l f) : ok (F23 n a0) fun r => r.2.2.2.2.1 = true := by
  obtain ⟨hr, hss, ha⟩ := h
  have R := rok_iff hss hn hr
  have hz := shw_size s R
  have hs : a0.size ≤ 1048576 := by rw [ha]; omega
  have hl := sz_list a0
  have hL := shw_list s o l f
  rw [← ha] at hL
  obtain ⟨L, rfl⟩ : ∃ L : Nat, l = L := ⟨l.toNat, by have := R.l1; omega⟩
  obtain ⟨F, rfl⟩ : ∃ F : Nat, f = F := ⟨f.toNat, by have := R.f1; omega⟩
  have l2 := R.l2
  have f2 := R.f2
  have hA := R.key
  have hD : ∀ b ∈ (dB (L : Int)).data.toList, b ≠ 32 ∧ b ≠ 60 ∧ b ≠ 62 := dig_ne (by omega)
  have hE : ∀ b ∈ (dB (F : Int)).data.toList, b ≠ 32 ∧ b ≠ 60 ∧ b ≠ 62 := dig_ne (by omega)
  generalize hA' : s.data.toList = A at hL hA
  generalize hD1 : (dB (L : Int)).data.toList = D1 at hL hD
  generalize hD2 : (dB (F : Int)).data.toList = D2 at hL hE
  have hsg : sgB o = 60 ∨ sgB o = 62 := by unfold sgB; split <;> simp
  have hsg32 : sgB o ≠ 32 := by rcases hsg with e | e <;> rw [e] <;> decide
  have hcut : spB a0.data.toList = [A ++ sgB o :: D1, [102, 111, 114], D2] := by
    rw [hL, show A ++ sgB o :: (D1 ++ 32 :: ([102, 111, 114] ++ 32 :: D2)) = (A ++ sgB o :: D1) ++ 32 :: ([102, 111, 114] ++ 32 :: D2) from by simp]
    rw [spB_app _ _ (by
      intro b hb
      rcases List.mem_append.1 hb with hb | hb
      · exact (hA b hb).1
      · rcases List.mem_cons.1 hb with rfl | hb
        · exact hsg32
        · exact (hD b hb).1), spB_app _ _ (by decide), spB_one D2 (fun b hb => (hE b hb).1)]
  unfold F23
  refine (t54 hs hn).bind fun r1 q1 => ?_
  obtain ⟨W, u⟩ := r1
  have q1 : W.map (fun x => x.data.toList) = _ := q1
  rw [hcut] at q1
  obtain ⟨p, q, r, rfl, hp1, hr1⟩ : ∃ p q r, W = [p, q, r] ∧ p.data.toList = A ++ sgB o :: D1 ∧ r.data.toList = D2 := by
    match W, q1 with
    | [p, q, r], w2 =>
      simp only [List.map_cons, List.map_nil, List.cons.injEq] at w2
      exact ⟨p, q, r, rfl, w2.1, w2.2.2.1⟩
    | [], h => simp at h
    | [_], h => simp at h
    | [_, _], h => simp at h
    | _ :: _ :: _ :: _ :: _, h => simp at h
  have hps : p.size = A.length + (1 + D1.length) := by rw [← sz_list p, hp1]; simp; omega
  have hAs : A.length = s.size := by rw [← hA', sz_list]
  have hlen : R.len = R.len := rfl
  have hsl := R.len
  have hDl : D1.length ≤ 21 := by
    have := dB_size (i := (L : Int)) (by omega) (by omega)
    rw [← sz_list, hD1] at this
    exact this
  have hp : p.size ≤ 1048576 := by omega
  have er : r = dB (F : Int) := ba_ext (by rw [hr1, hD2])
  obtain ⟨X, hX⟩ : ∃ X : Int, X = (A.length : Int) := ⟨_, rfl⟩
  have eK : p.extract (0 : Int).toNat X.toNat = s := by
    have e0 : X.toNat = A.length := by omega
    rw [e0]
    exact extr_of p s [] A (sgB o :: D1) 0 A.length (by rw [hp1]; rfl) rfl (by simp) hA'
  have hw : wrap64 (X + 1) = X + 1 := w64 (by omega) (by omega)
  have eD : p.extract (wrap64 (X + 1)).toNat (p.size : Int).toNat = dB (L : Int) := by
    have e0 : (X + 1).toNat = A.length + 1 := by omega
    rw [hw, e0, Int.toNat_natCast]
    exact extr_of p (dB (L : Int)) (A ++ [sgB o]) D1 [] (A.length + 1) p.size (by rw [hp1]; simp) (by simp) (by simp; omega) hD1
  have J : ok (jRR n a0 p r o X) fun r => r.2.2.2.2.1 = true := by
    unfold jRR
    rw [eD, er, eK, t56 hn (by omega), t56 hn (by omega)]
    simp only [Option.bind_some]
    rw [f50_ok hss hn hr]
    simp only [Option.bind_some]
    rw [← ha]
    exact ok.iteb (fun h => by simp at h) (fun _ => ok.some rfl)
  refine ok.ite (fun h => absurd (by simp) h) (fun _ => ok.guard (by decide) (ok.guard (by simp) ?_))
  have f62 := t55 (n := n) 62 hp hn (x := 62) rfl
  have f60 := t55 (n := n) 60 hp hn (x := 60) rfl
  have ho : o = 1 ∨ o = 2 := by have := R.o1; have := R.o2; omega
  rcases ho with rfl | rfl
  · have e1 : at19 62 p.data.toList 0 = X := by
      rw [hp1, show sgB 1 = 62 from rfl, at19_hit 62 D1 A 0 (fun b hb => (hA b hb).2.2), hX]; omega
    rw [e1] at f62
    refine ok.bind (Q := fun r => r = (X, ())) f62 fun r2 q2 => ?_
    subst q2
    refine ok.ite (fun h => by have h : X < 0 := h; omega) (fun _ => ok.ite (fun h => by have h : X < 0 := h; omega) (fun _ => ?_))
    exact t23j hn hp (by omega) (by omega) J
  · have e2 : at19 62 p.data.toList 0 = -1 := by
      rw [hp1, show sgB 2 = 60 from rfl, at19_miss 62 (A ++ 60 :: D1) 0 (by
        intro b hb
        rcases List.mem_append.1 hb with hb | hb
        · exact (hA b hb).2.2
        · rcases List.mem_cons.1 hb with rfl | hb
          · decide
          · exact (hD b hb).2.2)]
    have e3 : at19 60 p.data.toList 0 = X := by
      rw [hp1, show sgB 2 = 60 from rfl, at19_hit 60 D1 A 0 (fun b hb => (hA b hb).2.1), hX]; omega
    rw [e2] at f62
    rw [e3] at f60
    refine ok.bind (Q := fun r => r = (-1, ())) f62 fun r2 q2 => ?_
    subst q2
    refine ok.ite (fun _ => ok.guard (by decide) (ok.guard (by simp) (ok.bind (Q := fun r => r = (X, ())) f60 fun r3 q3 => ?_))) (fun h => absurd (by decide) h)
    subst q3
    refine ok.ite (fun h => by have h : X < 0 := h; omega) (fun _ => ?_)
    exact t23j hn hp (by omega) (by omega) J
end Go.Eva
end
section
/- FnAlerts: the draws, the law. -/
namespace Go.Eva
open Go.RowKit (wrap64)
set_option linter.unusedVariables false
set_option linter.unusedSimpArgs false

theorem t41 {n : Nat} {b : List Int} {i h : Int} (c : Cur b i) : ok (F41 n b i h) fun r => r.1.size ≤ 5 ∧ Cur r.2.2.2.2.1 r.2.2.2.2.2.1 := by
  have hall : ∀ x ∈ ([(⟨#[90, 57]⟩ : ByteArray), (⟨#[97]⟩ : ByteArray), (⟨#[98]⟩ : ByteArray), (⟨#[99, 112, 117]⟩ : ByteArray), (⟨#[109, 101, 109]⟩ : ByteArray), (⟨#[113]⟩ : ByteArray)] : List ByteArray), x.size ≤ 5 := by
    intro x hx
    simp only [List.mem_cons, List.not_mem_nil, or_false] at hx
    rcases hx with rfl | rfl | rfl | rfl | rfl | rfl <;> decide
  unfold F41
  refine (t52 c (by decide)).bind fun r1 q1 => (t39 q1.2).bind fun r2 q2 => (t65 q2.2.2.2 (by decide)).bind fun r3 q3 => (t39 q3.2).bind fun r4 q4 => (t39 q4.2.2.2).bind fun r5 q5 => ?_
  exact ok.ite (fun _ => (t76 q5.2.2.2).bind fun r6 q6 => ok.some ⟨q6.1, q6.2⟩) (fun _ => ok.ite (fun _ => (t65 q5.2.2.2 (by decide)).bind fun r7 q7 => ok.some ⟨hall _ q1.1, q7.2⟩) (fun _ => ok.ite (fun _ => (t65 q5.2.2.2 (by decide)).bind fun r8 q8 => ok.some ⟨hall _ q1.1, q8.2⟩) (fun _ =>
    ok.ite (fun _ => (t65 q5.2.2.2 (by decide)).bind fun r9 q9 => ok.some ⟨hall _ q1.1, q9.2⟩) (fun _ => ok.some ⟨hall _ q1.1, q5.2.2.2⟩))))
theorem t14_0 {n : Nat} (hn : 5000 ≤ n) : ∀ (k : Nat) (i0 : Int) (s1 : ByteArray) (i2 i3 i4 : Int) (l5 : List (List Rw)) (l6 : List Int) (i7 i8 : Int), 0 ≤ i0 → i0 < k → i0 + l5.length ≤ 8 → (∀ l ∈ l5, Rp l) → Cur l6 i7 →
    ok (lp14_0 n k i0 s1 i2 i3 i4 l5 l6 i7 i8) fun r => r.1.length ≤ 8 ∧ (∀ l ∈ r.1, Rp l) ∧ r.2.1.size ≤ 5
  | 0, i0, s1, i2, i3, i4, l5, l6, i7, i8, h0, hk, hl, hR, c => by omega
  | k + 1, i0, s1, i2, i3, i4, l5, l6, i7, i8, h0, hk, hl, hR, c => by
    show ok (st14_0 n (lp14_0 n k) i0 s1 i2 i3 i4 l5 l6 i7 i8) _
    unfold st14_0
    refine ok.ite (fun h => (t40 (by omega) c).bind fun r3 q3 => ok.guard (by simp only [List.length_cons, List.length_nil]; omega) ?_) (fun h => (t41 c).bind fun r4 q4 => ok.some ⟨by show l5.length ≤ 8; omega, hR, q4.1⟩)
    rw [w64 (by omega) (by omega)]
    refine t14_0 hn k _ _ _ _ _ _ _ _ _ (by omega) (by omega) (by simp only [List.length_append, List.length_cons, List.length_nil]; omega) (fun l hl => ?_) q3.2
    rcases List.mem_append.1 hl with hl | hl
    · exact hR l hl
    · rw [List.mem_singleton.1 hl]; exact q3.1
theorem t14 {n : Nat} (hn : 5000 ≤ n) {b : List Int} (hb : b.length ≤ 1048576) (hy : ∀ x ∈ b, 0 ≤ x ∧ x < 256) : ok (F14 n b) fun r => r.1.length ≤ 8 ∧ (∀ l ∈ r.1, Rp l) ∧ r.2.1.size ≤ 5 := by
  unfold F14 st14
  refine (t32 hn hb hy).bind fun r1 q1 => (t39 q1).bind fun r2 q2 => ?_
  have := q2.2.1 (by decide)
  exact t14_0 hn n _ _ _ _ _ [] _ _ _ q2.1 (by omega) (by simp only [List.length_nil]; omega) (fun l hl => by cases hl) q2.2.2.2
theorem strOf_size (l : List Int) : (strOf l).size = l.length := by
  show Array.size (List.toArray _) = _
  rw [List.size_toArray, List.length_map]
theorem t86_0 {n : Nat} {i0 : Int} : ∀ (k : Nat) (i1 : Int) (l2 l3 : List Int) (i4 i5 : Int), 0 ≤ i1 → i1 < k → l2.length + i1 ≤ 100 → Cur l3 i4 → ok (lp86_0 n k i0 i1 l2 l3 i4 i5) fun r => r.1.size ≤ 100 ∧ Cur r.2.1 r.2.2.1
  | 0, i1, l2, l3, i4, i5, h0, hk, hl, c => by omega
  | k + 1, i1, l2, l3, i4, i5, h0, hk, hl, c => by
    show ok (st86_0 n (lp86_0 n k) i0 i1 l2 l3 i4 i5) _
    unfold st86_0
    refine ok.ite (fun h => (t72 c).bind fun r3 q3 => ?_) (fun h => ok.some ⟨by show (strOf l2).size ≤ 100; rw [strOf_size]; omega, c⟩)
    have hj : ∀ x : Int, ok (j86_0 n (lp86_0 n k) i0 i1 x l2 r3.2.1 r3.2.2.1 r3.2.2.2.1) fun r => r.1.size ≤ 100 ∧ Cur r.2.1 r.2.2.1 := fun x => by
      unfold j86_0
      refine ok.guard (by simp only [List.length_cons, List.length_nil]; omega) ?_
      rw [w64 (by omega) (by omega)]
      exact t86_0 k _ _ _ _ _ (by omega) (by omega) (by simp only [List.length_append, List.length_cons, List.length_nil]; omega) q3.2.2
    exact ok.ite (fun _ => ok.guard (by decide) (ok.ite (fun _ => ok.guard (by decide) (hj _)) (fun _ => hj _))) (fun _ => ok.ite (fun _ => ok.guard (by decide) (hj _)) (fun _ => hj _))
theorem t86 {n : Nat} (hn : 5000 ≤ n) {b : List Int} {i h : Int} (c : Cur b i) : ok (F86 n 3 b i h) fun r => r.1.size ≤ 100 ∧ Cur r.2.1 r.2.2.1 := by
  unfold F86 st86
  refine (t39 c).bind fun r1 q1 => (t39 q1.2.2.2).bind fun r2 q2 => ?_
  have h4 : wrap64 ((3 : Int) + 1) = 4 := w64 (by decide) (by decide)
  rw [h4] at q2
  have := q2.2.1 (by decide)
  exact t86_0 n _ [] _ _ _ q2.1 (by omega) (by simp only [List.length_nil]; omega) q2.2.2.2
theorem t53 {n : Nat} (hn : 5000 ≤ n) {s : ByteArray} (hs : s.size ≤ 100) {b : List Int} {i h : Int} (c : Cur b i) : ok (F53 n s b i h) fun r => r.1.size ≤ 300 ∧ Cur r.2.1 r.2.2.1 := by
  have ex : ∀ a b : Nat, (s.extract a b).size ≤ 100 := fun a b => by rw [ByteArray.size_extract]; omega
  have e1 : ∀ x : Int, (strOf [x]).size = 1 := fun x => strOf_size [x]
  unfold F53
  refine ok.ite (fun _ => (t86 hn c).bind fun r1 q1 => ok.some ⟨by show r1.1.size ≤ 300; omega, q1.2⟩) (fun h0 => ?_)
  refine (t39 c).bind fun r2 q2 => (t39 q2.2.2.2).bind fun r3 q3 => ?_
  have h1 := q2.1
  have h2 := q2.2.1 (by omega)
  rw [w64 (x := r2.1 + 1) (by omega) (by omega)]
  have x1 := ex (0 : Int).toNat r2.1.toNat
  have x2 := ex (r2.1 + 1).toNat (s.size : Int).toNat
  have x3 := ex r2.1.toNat (s.size : Int).toNat
  refine ok.ite (fun _ => ok.guard (by decide) (ok.guard h1 (ok.guard (by omega) (ok.guard (by omega) (ok.guard (by omega) (ok.guard (by omega) (ok.guard (by omega) (ok.some ⟨?_, q3.2.2.2⟩)))))))) (fun _ => ?_)
  · show (_ ++ _ : ByteArray).size ≤ 300
    rw [ByteArray.size_append]; omega
  · refine ok.ite (fun _ => ok.guard (by decide) (ok.guard h1 (ok.guard (by omega) ((t72 q3.2.2.2).bind fun r4 q4 => ok.guard (by rw [e1]; omega) (ok.guard h1 (ok.guard (by omega) (ok.guard (by omega) (ok.guard (by rw [ByteArray.size_append, e1]; omega) (ok.some ⟨?_, q4.2.2⟩))))))))) (fun _ => ?_)
    · show (_ ++ _ ++ _ : ByteArray).size ≤ 300
      rw [ByteArray.size_append, ByteArray.size_append, e1]; omega
    · refine ok.ite (fun _ => ok.guard (by decide) (ok.guard h1 (ok.guard (by omega) (ok.some ⟨by show (s.extract _ _).size ≤ 300; omega, q3.2.2.2⟩)))) (fun _ => ?_)
      refine ok.guard (by decide) (ok.guard h1 (ok.guard (by omega) (ok.guard h1 (ok.guard (by omega) ((t39 q3.2.2.2).bind fun r5 q5 => ok.guard (by rw [e1]; omega) (ok.guard (by omega) (ok.guard (by omega) (ok.guard (by omega) (ok.guard (by rw [ByteArray.size_append, e1]; omega) (ok.some ⟨?_, q5.2.2.2⟩))))))))))
      show (_ ++ _ ++ _ : ByteArray).size ≤ 300
      rw [ByteArray.size_append, ByteArray.size_append, e1]; omega
theorem t50s {n : Nat} (hn : 2000000 ≤ n) {s : ByteArray} (hs : s.size ≤ 5) {o l f : Int} : ok (F50 n s o l f) fun r => r.1.size ≤ 60 := by
  by_cases h : rokB n s o l f = true
  · rw [f50_ok (by omega) hn h]
    exact ok.some (shw_size s (rok_iff (by omega) hn h)).1
  · rw [f50_no (by omega) hn h]
    exact ok.some (by show 0 ≤ 60; omega)
theorem t22 {n : Nat} (hn : 2000000 ≤ n) {b : List Int} (hb : b.length ≤ 1048576) (hy : ∀ x ∈ b, 0 ≤ x ∧ x < 256) : ok (F22 n b) fun r => r.1.size ≤ 1048576 := by
  unfold F22
  refine (t32 (by omega) hb hy).bind fun r1 q1 => (t41 q1).bind fun r2 q2 => (t50s hn q2.1).bind fun r3 q3 => (t51 q2.2).bind fun r4 q4 => ok.iteb (fun _ => ?_) (fun _ => ok.some (by show r3.1.size ≤ _; omega))
  refine (t53 (by omega) (s := r3.1) (by omega) q4).bind fun r5 q5 => (t52 q5.2 (by simp)).bind fun r6 q6 => ok.some ?_
  have h6 := q6.1
  simp only [List.mem_cons, List.not_mem_nil, or_false] at h6
  show r6.1.size ≤ 1048576
  rcases h6 with h | h | h | h | h | h | h | h
  · rw [h]; decide
  · rw [h]; decide
  · rw [h]; decide
  · rw [h]; decide
  · rw [h]; decide
  · rw [h]; decide
  · rw [h]; decide
  · rw [h]; omega
theorem sh_ne {s : ByteArray} {o l f : Int} (R : ROk s o l f) : shw s o l f ≠ ⟨#[]⟩ := fun e => by
  have := (shw_size s R).2
  rw [e] at this
  exact absurd this (Nat.not_succ_le_zero _)
theorem fin4 {n : Nat} (hn : 2000000 ≤ n) {y : List Int} (hb : y.length ≤ 1048576) (hy : ∀ x ∈ y, 0 ≤ x ∧ x < 256) {s : ByteArray} (hs : s.size ≤ 5) {o l f : Int} :
    ok ((F20 n s o l f).bind fun r9 =>
    (F21 n r9.1).bind fun r10 =>
    (F22 n y).bind fun r11 =>
    (F21 n r11.1).bind fun r12 =>
    (F23 n r11.1).bind fun r13 =>
    (F17 n s o l f).bind fun r14 =>
    if (r10.2.2.2.2.1 == r14.1) = true then
      if (!r10.2.2.2.2.1) = true then
        if (r12.2.2.2.2.1 == r13.2.2.2.2.1) = true then
          if (!r12.2.2.2.2.1) = true then
            some (true, ())
          else
            (F20 n r12.1 r12.2.1 r12.2.2.1 r12.2.2.2.1).bind fun r15 =>
            some (decide (r15.1.toList = r11.1.toList), ())
        else
          some (false, ())
      else
        if (decide (r10.1.toList = s.toList) && (decide (r10.2.1 = o) && (decide (r10.2.2.1 = l) && (decide (r10.2.2.2.1 = f) && true)))) = true then
          if (r12.2.2.2.2.1 == r13.2.2.2.2.1) = true then
            if (!r12.2.2.2.2.1) = true then
              some (true, ())
            else
              (F20 n r12.1 r12.2.1 r12.2.2.1 r12.2.2.2.1).bind fun r16 =>
              some (decide (r16.1.toList = r11.1.toList), ())
          else
            some (false, ())
        else
          some (false, ())
    else
      some (false, ())) fun r => r = (true, ()) := by
  have hs' : s.size ≤ 1048576 := by omega
  -- the first half
  have H1 : ok ((F20 n s o l f).bind fun r9 => F21 n r9.1) fun r => r.2.2.2.2.1 = rokB n s o l f ∧ (rokB n s o l f = true → r = (s, o, l, f, true, ())) := by
    by_cases h : rokB n s o l f = true
    · rw [f20_ok hs' hn h]
      simp only [Option.bind_some]
      refine (t21c hn ⟨h, hs', rfl⟩).mono fun r q => ?_
      rw [q, h]
      exact ⟨rfl, fun _ => rfl⟩
    · rw [f20_no hs' hn h]
      simp only [Option.bind_some]
      refine (t21s hn (a0 := ⟨#[]⟩) (by show 0 ≤ _; omega)).mono fun r q => ⟨?_, fun hh => absurd hh h⟩
      have h0 : rokB n s o l f = false := by simpa using h
      rw [h0]
      cases hr : r.2.2.2.2.1 with
      | false => rfl
      | true =>
        obtain ⟨a1, a2, a3⟩ := q hr
        exact absurd a3.symm (sh_ne (rok_iff a2 hn a1))
  -- the second half
  have H2 : ∀ u : ByteArray, u.size ≤ 1048576 → ok ((F21 n u).bind fun r12 => (F23 n u).bind fun r13 => if (r12.2.2.2.2.1 == r13.2.2.2.2.1) = true then
          if (!r12.2.2.2.2.1) = true then
            some (true, ())
          else
            (F20 n r12.1 r12.2.1 r12.2.2.1 r12.2.2.2.1).bind fun r15 =>
            some (decide (r15.1.toList = u.toList), ())
        else
          some (false, ())) fun r => r = (true, ()) := fun u hu => by
    by_cases h : ∃ s o l f, Shown n u s o l f
    · obtain ⟨s', o', l', f', h⟩ := h
      refine (t21c hn h).bind fun r12 q12 => (t23c hn h).bind fun r13 q13 => ?_
      subst q12
      rw [q13]
      refine ok.iteb (fun _ => ok.iteb (fun h => by cases h) (fun _ => ?_)) (fun h => by cases h)
      simp only
      rw [f20_ok h.2.1 hn h.1, ← h.2.2]
      exact ok.some (by simp)
    · refine (t21s hn hu).bind fun r12 q12 => (t23s hn hu).bind fun r13 q13 => ?_
      have e1 : r12.2.2.2.2.1 = false := by
        cases hr : r12.2.2.2.2.1 with
        | false => rfl
        | true => exact absurd ⟨_, _, _, _, q12 hr⟩ h
      have e2 : r13.2.2.2.2.1 = false := by
        cases hr : r13.2.2.2.2.1 with
        | false => rfl
        | true => exact absurd (q13 hr) h
      rw [e1, e2]
      exact ok.iteb (fun _ => ok.iteb (fun _ => ok.some rfl) (fun h => by cases h)) (fun h => by cases h)
  obtain ⟨r10, hr10, q10, q11⟩ := H1
  cases h9 : F20 n s o l f with
  | none => rw [h9] at hr10; cases hr10
  | some r9 =>
    rw [h9] at hr10
    simp only [Option.bind_some] at hr10 ⊢
    rw [hr10]
    simp only [Option.bind_some]
    refine (t22 hn hb hy).bind fun r11 q => ?_
    have H := H2 r11.1 q
    obtain ⟨r, hr, rfl⟩ := H
    cases h12 : F21 n r11.1 with
    | none => rw [h12] at hr; cases hr
    | some r12 =>
      rw [h12] at hr
      simp only [Option.bind_some] at hr ⊢
      cases h13 : F23 n r11.1 with
      | none => rw [h13] at hr; cases hr
      | some r13 =>
        rw [h13] at hr
        simp only [Option.bind_some] at hr ⊢
        rw [t17 hs' hn]
        simp only [Option.bind_some]
        rw [q10]
        refine ok.iteb (fun _ => ok.iteb (fun _ => ⟨_, hr, rfl⟩) (fun hz => ok.iteb (fun _ => ⟨_, hr, rfl⟩) (fun hw => ?_))) (fun h => by simp at h)
        have hz : rokB n s o l f = true := by simpa using hz
        have := q11 hz
        subst this
        simp at hw

/-- All numbers from one place up to another break. -/
theorem t4_1 {n : Nat} (hn : 2000000 ≤ n) {g0 : _} {y : List Int} {s : ByteArray} {o l f : Int} {FL L : List Int} (hL : L.length ≤ 100) (hFL : FL.length ≤ 1000) {i : Nat} (hi : i < L.length) {T : Bool} (hT : T = decide ((i : Int) ∈ FL)) {Q : Bool × Unit → Prop} (hg : ok (g0 y ((i + 1 : Nat) : Int) s o l f FL L) Q) : ∀ (k j : Nat) (b : Bool), i + 1 - j < k → (T = true ↔ b = true ∧ ∀ q, j ≤ q → q < i + 1 → bkB o l (L.getD q 0) = true) →
    ok (lp4_1 n g0 k y (i : Int) b (j : Int) s o l f FL L) Q
  | 0, j, b, hk, hb => by omega
  | k + 1, j, b, hk, hb => by
    show ok (st4_1 n g0 (lp4_1 n g0 k) y _ b _ s o l f FL L) Q
    unfold st4_1
    rw [w1 hi (by omega)]
    have hend : b = T → ok ((F19 n FL (i : Int)).bind fun r8 => if (!(b == r8.1)) = true then some (false, ()) else g0 y ((i + 1 : Nat) : Int) s o l f FL L) Q := fun e => by
      refine (t19 hFL hn (x := (i : Int))).bind fun r q => ?_
      subst q
      rw [e, hT]
      exact ok.iteb (fun h => by simp at h) (fun _ => hg)
    refine ok.ite (fun h1 => ?_) (fun h1 => hend ?_)
    · cases b with
      | false =>
        refine ok.iteb (fun h => by cases h) (fun _ => hend ?_)
        cases T with
        | false => rfl
        | true => exact (hb.1 rfl).1
      | true =>
        refine ok.iteb (fun _ => ok.guard (by omega) (ok.guard (by omega) ?_)) (fun h => by cases h)
        rw [f18]
        simp only [Option.bind_some]
        have e : wrap64 ((j : Int) + 1) = ((j + 1 : Nat) : Int) := by rw [w64 (by omega) (by omega)]; rfl
        rw [e]
        refine t4_1 hn hL hFL hi hT hg k (j + 1) _ (by omega) ?_
        have hr : rdOf (0 : Int) L (j : Int) = L.getD j 0 := rfl
        rw [hr, hb]
        constructor
        · rintro ⟨_, h⟩
          exact ⟨h j (Nat.le_refl _) (by omega), fun q h2 h3 => h q (by omega) h3⟩
        · rintro ⟨h0, h⟩
          refine ⟨rfl, fun q h2 h3 => ?_⟩
          by_cases e : q = j
          · rw [e]; exact h0
          · exact h q (by omega) h3
    · have : T = true ↔ b = true := by
        rw [hb]
        exact ⟨fun h => h.1, fun h => ⟨h, fun q h2 h3 => by omega⟩⟩
      cases b <;> cases T <;> simp_all
theorem t4_0 {n : Nat} (hn : 2000000 ≤ n) {y : List Int} (hb : y.length ≤ 1048576) (hy : ∀ x ∈ y, 0 ≤ x ∧ x < 256) {s : ByteArray} (hs : s.size ≤ 5) {o l f : Int} {L : List Int} (hL : L.length ≤ 8) {FL : List Int} (hFL : FL = if rokB n s o l f = true then fl (bkB o l) L f.toNat L.length else []) : ∀ (k i : Nat), i ≤ L.length → L.length - i < k →
    ok (lp4_0 n k y (i : Int) s o l f FL L) fun r => r = (true, ())
  | 0, i, h, hk => by omega
  | k + 1, i, h, hk => by
    show ok (st4_0 n (lp4_1 n (lp4_0 n k) n) (lp4_0 n k) y _ s o l f FL L) _
    unfold st4_0
    refine ok.ite (fun h1 => ?_) (fun h1 => fin4 hn hb hy hs)
    have hi : i < L.length := by omega
    have ih := t4_0 hn hb hy hs (o := o) (l := l) (f := f) hL hFL k (i + 1) (by omega) (by omega)
    rw [t17 (n := n) (s := s) (by omega) hn]
    simp only [Option.bind_some]
    have hFl : FL.length ≤ 1000 := by
      rw [hFL]
      split
      · have := fl_len (bkB o l) L f.toNat L.length; omega
      · exact Nat.zero_le _
    by_cases hr : rokB n s o l f = true
    · have R := rok_iff (s := s) (by omega) hn hr
      obtain ⟨F, rfl⟩ : ∃ F : Nat, f = F := ⟨f.toNat, by have := R.f1; omega⟩
      have f1 := R.f1
      have f2 := R.f2
      rw [if_pos hr, Int.toNat_natCast] at hFL
      obtain ⟨a, ha⟩ : ∃ a : Nat, a = i + 1 - F := ⟨_, rfl⟩
      have e1 : wrap64 ((i : Int) + 1) = ((i + 1 : Nat) : Int) := w1 hi (by omega)
      have e2 : mx (0 : Int) (wrap64 (((i + 1 : Nat) : Int) - (F : Int))) = (a : Int) := by
        clear e1
        rw [w64 (x := ((i + 1 : Nat) : Int) - (F : Int)) (by omega) (by omega)]
        unfold mx
        split <;> omega
      rw [e1, e2]
      clear e1 e2
      refine ok.iteb (fun _ => ?_) (fun h => by rw [hr] at h; cases h)
      refine t4_1 hn (by omega) hFl hi rfl ih n a _ (by omega) ?_
      rw [decide_eq_true_iff, decide_eq_true_iff, hFL, fl_mem, Rn_iff]
      constructor
      · rintro ⟨_, h2, h3⟩
        exact ⟨by omega, fun q h4 h5 => h3 q (by omega) h5⟩
      · rintro ⟨h2, h3⟩
        exact ⟨hi, by omega, fun q h4 h5 => h3 q (by omega) h5⟩
    · have hr0 : rokB n s o l f = false := by simpa using hr
      rw [if_neg hr] at hFL
      subst hFL
      refine ok.iteb (fun h => by rw [hr0] at h; cases h) (fun _ => ?_)
      have hx0 : ∀ z : Int, 0 ≤ mx (0 : Int) z := fun z => by unfold mx; split <;> omega
      obtain ⟨a, ha⟩ : ∃ a : Nat, mx (0 : Int) (wrap64 (wrap64 ((i : Int) + 1) - f)) = (a : Int) := ⟨_, (Int.toNat_of_nonneg (hx0 _)).symm⟩
      rw [ha]
      clear ha
      exact t4_1 hn (by omega) (Nat.zero_le _) hi rfl ih n a _ (by omega) ⟨fun h => by simp at h, fun h => by cases h.1⟩
theorem pureFnAlerts (y : List Int) (h1 : y.length ≤ maxLen) (h2 : ∀ b ∈ y, 0 ≤ b ∧ b < 256) : ∃ k, F4 k y = some (true, ()) := by
  obtain ⟨n, hn⟩ : ∃ n : Nat, 2000000 ≤ n := ⟨2000000, Nat.le_refl _⟩
  refine ⟨n, ?_⟩
  suffices h : ok (F4 n y) fun r => r = (true, ()) by
    obtain ⟨r, h, rfl⟩ := h
    exact h
  unfold F4 st4 F6
  simp only [Option.bind_some]
  refine ok.ite (fun _ => ok.some rfl) (fun hb => ?_)
  have hb : y.length ≤ 1048576 := by omega
  refine (t14 (by omega) hb h2).bind fun r2 q2 => ?_
  obtain ⟨K, s, o, l, f, u⟩ := r2
  obtain ⟨hK, hR, hs⟩ := q2
  simp only at hK hR hs ⊢
  refine (t15 hn (s := s) (o := o) (l := l) (f := f) (by omega) (by omega) hR).bind fun r3 q3 => (t16 (n := n) (s := s) (by omega) (by omega) hR).bind fun r4 q4 => ?_
  subst q3 q4
  simp only
  have hl : (K.map fun x => rk (lk s x)).length = K.length := List.length_map _
  exact t4_0 hn hb h2 hs (L := K.map fun x => rk (lk s x)) (by omega) (by rw [hl]) n 0 (by omega) (by omega)
end Go.Eva
end
