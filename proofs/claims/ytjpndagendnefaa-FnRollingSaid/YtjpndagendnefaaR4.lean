/- A verified evaluator of the translated code, part 4: EvaU_5, EvaU_6, EvaOk, EvaPd, EvaPm, EvaPn, EvaPo, EvaPr, EvaPs, EvaPt, EvaPq, EvaPu -/
import Derived.Test.YtjpndagendnefaaR3
section
/- The functions, as their texts evaluate. -/
set_option linter.unusedVariables false
set_option maxRecDepth 100000
namespace Go.Eva
open Go.Proofs
open Go.RowKit (wrap64)
/-! impl.within -/
noncomputable def F50 (n : Nat) (a0 : Int) (a1 : Int) (a2 : Int) : Option (Bool × Unit) :=
  if (decide (a1 ≤ a0)) = true then
    some (decide (a0 ≤ a2), ())
  else
    some (false, ())
noncomputable def c50 (n : Nat) : Con := ⟨[.one (.int .i64), .one (.int .i64), .one (.int .i64)], [], [.one (.bool)], [], fun (x : Int × Int × Int × Unit) => F50 n x.1 x.2.1 x.2.2.1⟩
noncomputable def G50 (n : Nat) : Gam := []
theorem e50 (n : Nat) (x : Int × Int × Int × Unit) : evBody tab (G50 n) n (c50 n) Try.f50 x = F50 n x.1 x.2.1 x.2.2.1 := by kernel_rfl
theorem g50 (W : World) (n : Nat) : Good Try.prog W 50 (c50 n) := body_good follows tabOk GamOk.nil (f := 50) (fn := Try.f50) (c := bodyOf Try.f50) (by kernel_rfl) (by kernel_rfl) (by kernel_rfl) (by kernel_rfl) (by kernel_rfl) (by kernel_rfl) (by kernel_rfl) (fun x r h => ⟨n, (e50 n x).trans h⟩)
/-! impl.KeyOk -/
noncomputable def j95_0 (n : Nat) (g0 : ByteArray → Int → Int → Option (Bool × Unit)) (s0 : ByteArray) (i1 : Int) (i2 : Int) (b3 : Bool) : Option (Bool × Unit) :=
  if b3 = true then
    some (false, ())
  else
    g0 s0 i1 (wrap64 (i2 + 1))
noncomputable def st95_0 (n : Nat) (g0 : ByteArray → Int → Int → Option (Bool × Unit)) (s0 : ByteArray) (i1 : Int) (i2 : Int) : Option (Bool × Unit) :=
  if (decide (i2 < i1)) = true then
    if (decide (0 ≤ i2)) = true then
    if (decide (i2 < (s0.size : Int))) = true then
    if (decide ((bt s0 i2) ≥ 97)) = true then
      if (decide ((bt s0 i2) ≤ 122)) = true then
        g0 s0 i1 (wrap64 (i2 + 1))
      else
        if (decide ((bt s0 i2) ≥ 65)) = true then
          if (decide ((bt s0 i2) ≤ 90)) = true then
            g0 s0 i1 (wrap64 (i2 + 1))
          else
            if (decide ((bt s0 i2) ≥ 48)) = true then
              if (decide ((bt s0 i2) ≤ 57)) = true then
                g0 s0 i1 (wrap64 (i2 + 1))
              else
                j95_0 n g0 s0 i1 i2 (!(decide ((bt s0 i2) = 95)))
            else
              j95_0 n g0 s0 i1 i2 (!(decide ((bt s0 i2) = 95)))
        else
          if (decide ((bt s0 i2) ≥ 48)) = true then
            if (decide ((bt s0 i2) ≤ 57)) = true then
              g0 s0 i1 (wrap64 (i2 + 1))
            else
              j95_0 n g0 s0 i1 i2 (!(decide ((bt s0 i2) = 95)))
          else
            j95_0 n g0 s0 i1 i2 (!(decide ((bt s0 i2) = 95)))
    else
      if (decide ((bt s0 i2) ≥ 65)) = true then
        if (decide ((bt s0 i2) ≤ 90)) = true then
          g0 s0 i1 (wrap64 (i2 + 1))
        else
          if (decide ((bt s0 i2) ≥ 48)) = true then
            if (decide ((bt s0 i2) ≤ 57)) = true then
              g0 s0 i1 (wrap64 (i2 + 1))
            else
              j95_0 n g0 s0 i1 i2 (!(decide ((bt s0 i2) = 95)))
          else
            j95_0 n g0 s0 i1 i2 (!(decide ((bt s0 i2) = 95)))
      else
        if (decide ((bt s0 i2) ≥ 48)) = true then
          if (decide ((bt s0 i2) ≤ 57)) = true then
            g0 s0 i1 (wrap64 (i2 + 1))
          else
            j95_0 n g0 s0 i1 i2 (!(decide ((bt s0 i2) = 95)))
        else
          j95_0 n g0 s0 i1 i2 (!(decide ((bt s0 i2) = 95)))
    else none
    else none
  else
    (F50 n (s0.size : Int) (1 : Int) (4 : Int)).bind fun r1 =>
    some (r1.1, ())
noncomputable def lp95_0 (n : Nat) : Nat → ByteArray → Int → Int → Option (Bool × Unit)
  | 0 => fun _ _ _ => none
  | k + 1 => st95_0 n (lp95_0 n k)
noncomputable def st95 (n : Nat) (h0 : ByteArray → Int → Int → Option (Bool × Unit)) (a0 : ByteArray) : Option (Bool × Unit) :=
  h0 a0 (a0.size : Int) (0 : Int)
noncomputable def F95 (n : Nat) (a0 : ByteArray) : Option (Bool × Unit) := st95 n (lp95_0 n n) a0
noncomputable def c95 (n : Nat) : Con := ⟨[.one (.str)], [], [.one (.bool)], [], fun (x : ByteArray × Unit) => F95 n x.1⟩
noncomputable def G95 (n : Nat) : Gam := [((50, []), c50 n)]
noncomputable def S95_0 (s0 : ByteArray) (i1 : Int) (i2 : Int) : St := ⟨[.str s0] ++ List.replicate 5 .dead ++ [.int .i64 i1, .int .i64 i2] ++ List.replicate 36 .dead, List.replicate 44 Ob.none⟩
noncomputable def ga95_0 (n : Nat) (ks : List Nat) (k : Nat) (st : St) : Option (Bool × Unit) := goAt tab (G95 n) n (bodyOf Try.f95) (lvOf Try.f95) (lvOf Try.f95).ret [1, 0, 1, 0] ks k st (evBody.endK tab (c95 n) Try.f95)
theorem el95_0 (n : Nat) : ∀ (k : Nat), ∀ (s0 : ByteArray) (i1 : Int) (i2 : Int), ga95_0 n [] k (S95_0 s0 i1 i2) = lp95_0 n k s0 i1 i2 := by
  intro k
  induction k with
  | zero => intros; rfl
  | succ k ih =>
    intro s0 i1 i2
    have h : ga95_0 n [] (k + 1) (S95_0 s0 i1 i2) = st95_0 n (fun w0 w1 w2 => ga95_0 n [] k (S95_0 w0 w1 w2)) s0 i1 i2 := by kernel_rfl
    rw [h]
    have e : (fun w0 w1 w2 => ga95_0 n [] k (S95_0 w0 w1 w2)) = lp95_0 n k := by
      funext w0 w1 w2; exact ih w0 w1 w2
    rw [e]
    rfl
theorem e95 (n : Nat) (x : ByteArray × Unit) : evBody tab (G95 n) n (c95 n) Try.f95 x = F95 n x.1 := by
  have h : evBody tab (G95 n) n (c95 n) Try.f95 x = st95 n (fun w0 w1 w2 => ga95_0 n [] n (S95_0 w0 w1 w2)) x.1 := by kernel_rfl
  rw [h]
  have e0 : (fun w0 w1 w2 => ga95_0 n [] n (S95_0 w0 w1 w2)) = lp95_0 n n := by
    funext w0 w1 w2; exact el95_0 n n w0 w1 w2
  rw [e0]
  rfl
theorem g95 (W : World) (n : Nat) : Good Try.prog W 95 (c95 n) := body_good follows tabOk (GamOk.cons (g50 W n) GamOk.nil) (f := 95) (fn := Try.f95) (c := bodyOf Try.f95) (by kernel_rfl) (by kernel_rfl) (by kernel_rfl) (by kernel_rfl) (by kernel_rfl) (by kernel_rfl) (by kernel_rfl) (fun x r h => ⟨n, (e95 n x).trans h⟩)
/-! impl.isWord -/
noncomputable def F96 (n : Nat) (a0 : Int) : Option (Bool × Unit) :=
  (F50 n a0 (0 : Int) (281474976710655 : Int)).bind fun r1 =>
  some (r1.1, ())
noncomputable def c96 (n : Nat) : Con := ⟨[.one (.int .i64)], [], [.one (.bool)], [], fun (x : Int × Unit) => F96 n x.1⟩
noncomputable def G96 (n : Nat) : Gam := [((50, []), c50 n)]
theorem e96 (n : Nat) (x : Int × Unit) : evBody tab (G96 n) n (c96 n) Try.f96 x = F96 n x.1 := by kernel_rfl
theorem g96 (W : World) (n : Nat) : Good Try.prog W 96 (c96 n) := body_good follows tabOk (GamOk.cons (g50 W n) GamOk.nil) (f := 96) (fn := Try.f96) (c := bodyOf Try.f96) (by kernel_rfl) (by kernel_rfl) (by kernel_rfl) (by kernel_rfl) (by kernel_rfl) (by kernel_rfl) (by kernel_rfl) (fun x r h => ⟨n, (e96 n x).trans h⟩)
/-! impl.RowOk -/
noncomputable def F83 (n : Nat) (a0 : ByteArray) (a1 : Int) (a2 : Int) (a3 : Bool) (a4 : Int) (a5 : Int) (a6 : Int) (a7 : Int) (a8 : Int) (a9 : Int) : Option (Bool × Unit) :=
  (F95 n a0).bind fun r1 =>
  if (!r1.1) = true then
    some (false, ())
  else
    if (decide (a1 = 1)) = true then
      if (decide (a0.toList = a0.toList) && (decide (a1 = a1) && (decide (a2 = a2) && ((a3 == false) && (decide (a4 = 0) && (decide (a5 = 0) && (decide (a6 = 0) && (decide (a7 = 0) && (decide (a8 = 0) && (decide (a9 = 0) && true)))))))))) = true then
        (F96 n a2).bind fun r2 =>
        some (r2.1, ())
      else
        some (false, ())
    else
      if (decide (a1 = 2)) = true then
        if (decide (a0.toList = a0.toList) && (decide (a1 = a1) && (decide (a2 = 0) && ((a3 == a3) && (decide (a4 = a4) && (decide (a5 = 0) && (decide (a6 = 0) && (decide (a7 = 0) && (decide (a8 = 0) && (decide (a9 = 0) && true)))))))))) = true then
          (F50 n a4 (0 : Int) (65535 : Int)).bind fun r3 =>
          if r3.1 = true then
            if a3 = true then
              some (true, ())
            else
              some (decide (a4 = 0), ())
          else
            some (false, ())
        else
          some (false, ())
      else
        if (decide (a1 = 3)) = true then
          if (!(decide (a0.toList = a0.toList) && (decide (a1 = a1) && (decide (a2 = 0) && ((a3 == false) && (decide (a4 = 0) && (decide (a5 = a5) && (decide (a6 = a6) && (decide (a7 = a7) && (decide (a8 = a8) && (decide (a9 = a9) && true))))))))))) = true then
            some (false, ())
          else
            if (decide (a5 = 0)) = true then
              some ((decide (a0.toList = a0.toList) && (decide (a1 = a1) && (decide (a2 = 0) && ((a3 == false) && (decide (a4 = 0) && (decide (a5 = 0) && (decide (a6 = 0) && (decide (a7 = 0) && (decide (a8 = 0) && (decide (a9 = 0) && true)))))))))), ())
            else
              (F50 n a5 (1 : Int) (3 : Int)).bind fun r4 =>
              if r4.1 = true then
                (F50 n a6 (0 : Int) a7).bind fun r5 =>
                if r5.1 = true then
                  if (decide (a7 ≤ 65535)) = true then
                    (F50 n a8 (wrap64 (a5 * a6)) (wrap64 (a5 * a7))).bind fun r6 =>
                    if r6.1 = true then
                      (F50 n a9 (0 : Int) (65535 : Int)).bind fun r7 =>
                      if r7.1 = true then
                        if (decide (a5 = 3)) = true then
                          some (true, ())
                        else
                          some (decide (a9 = 0), ())
                      else
                        some (false, ())
                    else
                      some (false, ())
                  else
                    some (false, ())
                else
                  some (false, ())
              else
                some (false, ())
        else
          some (false, ())
noncomputable def c83 (n : Nat) : Con := ⟨[.agg [(.str), (.int .i64), (.int .i64), (.bool), (.int .i64), (.int .i64), (.int .i64), (.int .i64), (.int .i64), (.int .i64)]], [], [.one (.bool)], [], fun (x : ByteArray × Int × Int × Bool × Int × Int × Int × Int × Int × Int × Unit) => F83 n x.1 x.2.1 x.2.2.1 x.2.2.2.1 x.2.2.2.2.1 x.2.2.2.2.2.1 x.2.2.2.2.2.2.1 x.2.2.2.2.2.2.2.1 x.2.2.2.2.2.2.2.2.1 x.2.2.2.2.2.2.2.2.2.1⟩
noncomputable def G83 (n : Nat) : Gam := [((50, []), c50 n), ((95, []), c95 n), ((96, []), c96 n)]
theorem e83 (n : Nat) (x : ByteArray × Int × Int × Bool × Int × Int × Int × Int × Int × Int × Unit) : evBody tab (G83 n) n (c83 n) Try.f83 x = F83 n x.1 x.2.1 x.2.2.1 x.2.2.2.1 x.2.2.2.2.1 x.2.2.2.2.2.1 x.2.2.2.2.2.2.1 x.2.2.2.2.2.2.2.1 x.2.2.2.2.2.2.2.2.1 x.2.2.2.2.2.2.2.2.2.1 := by kernel_rfl
theorem g83 (W : World) (n : Nat) : Good Try.prog W 83 (c83 n) := body_good follows tabOk (GamOk.cons (g50 W n) (GamOk.cons (g95 W n) (GamOk.cons (g96 W n) GamOk.nil))) (f := 83) (fn := Try.f83) (c := bodyOf Try.f83) (by kernel_rfl) (by kernel_rfl) (by kernel_rfl) (by kernel_rfl) (by kernel_rfl) (by kernel_rfl) (by kernel_rfl) (fun x r h => ⟨n, (e83 n x).trans h⟩)
/-! impl.Quiet -/
noncomputable def F84 (n : Nat) (a0 : ByteArray) (a1 : Int) (a2 : Int) (a3 : Bool) (a4 : Int) (a5 : Int) (a6 : Int) (a7 : Int) (a8 : Int) (a9 : Int) : Option (Bool × Unit) :=
  if (decide (a2 = 0)) = true then
    if (decide (a5 = 0)) = true then
      some ((!a3), ())
    else
      some (false, ())
  else
    some (false, ())
noncomputable def c84 (n : Nat) : Con := ⟨[.agg [(.str), (.int .i64), (.int .i64), (.bool), (.int .i64), (.int .i64), (.int .i64), (.int .i64), (.int .i64), (.int .i64)]], [], [.one (.bool)], [], fun (x : ByteArray × Int × Int × Bool × Int × Int × Int × Int × Int × Int × Unit) => F84 n x.1 x.2.1 x.2.2.1 x.2.2.2.1 x.2.2.2.2.1 x.2.2.2.2.2.1 x.2.2.2.2.2.2.1 x.2.2.2.2.2.2.2.1 x.2.2.2.2.2.2.2.2.1 x.2.2.2.2.2.2.2.2.2.1⟩
noncomputable def G84 (n : Nat) : Gam := []
theorem e84 (n : Nat) (x : ByteArray × Int × Int × Bool × Int × Int × Int × Int × Int × Int × Unit) : evBody tab (G84 n) n (c84 n) Try.f84 x = F84 n x.1 x.2.1 x.2.2.1 x.2.2.2.1 x.2.2.2.2.1 x.2.2.2.2.2.1 x.2.2.2.2.2.2.1 x.2.2.2.2.2.2.2.1 x.2.2.2.2.2.2.2.2.1 x.2.2.2.2.2.2.2.2.2.1 := by kernel_rfl
theorem g84 (W : World) (n : Nat) : Good Try.prog W 84 (c84 n) := body_good follows tabOk GamOk.nil (f := 84) (fn := Try.f84) (c := bodyOf Try.f84) (by kernel_rfl) (by kernel_rfl) (by kernel_rfl) (by kernel_rfl) (by kernel_rfl) (by kernel_rfl) (by kernel_rfl) (fun x r h => ⟨n, (e84 n x).trans h⟩)
/-! impl.ReportOk -/
noncomputable def st64_0 (n : Nat) (g0 : (List (ByteArray × (Int × (Int × (Bool × (Int × (Int × (Int × (Int × (Int × Int)))))))))) → (List (ByteArray × (Int × (Int × (Bool × (Int × (Int × (Int × (Int × (Int × Int)))))))))) → Int → Int → Option (Bool × Unit)) (l0 : List (ByteArray × (Int × (Int × (Bool × (Int × (Int × (Int × (Int × (Int × Int)))))))))) (l1 : List (ByteArray × (Int × (Int × (Bool × (Int × (Int × (Int × (Int × (Int × Int)))))))))) (i2 : Int) (i3 : Int) : Option (Bool × Unit) :=
  if (decide (i3 < i2)) = true then
    if (decide (0 ≤ i3)) = true then
    if (decide (i3 < (l1.length : Int))) = true then
    (F83 n ((rdOf ((⟨#[]⟩ : ByteArray), ((0 : Int), ((0 : Int), (false, ((0 : Int), ((0 : Int), ((0 : Int), ((0 : Int), ((0 : Int), (0 : Int)))))))))) l1 i3).1) (((rdOf ((⟨#[]⟩ : ByteArray), ((0 : Int), ((0 : Int), (false, ((0 : Int), ((0 : Int), ((0 : Int), ((0 : Int), ((0 : Int), (0 : Int)))))))))) l1 i3).2).1) ((((rdOf ((⟨#[]⟩ : ByteArray), ((0 : Int), ((0 : Int), (false, ((0 : Int), ((0 : Int), ((0 : Int), ((0 : Int), ((0 : Int), (0 : Int)))))))))) l1 i3).2).2).1) (((((rdOf ((⟨#[]⟩ : ByteArray), ((0 : Int), ((0 : Int), (false, ((0 : Int), ((0 : Int), ((0 : Int), ((0 : Int), ((0 : Int), (0 : Int)))))))))) l1 i3).2).2).2).1) ((((((rdOf ((⟨#[]⟩ : ByteArray), ((0 : Int), ((0 : Int), (false, ((0 : Int), ((0 : Int), ((0 : Int), ((0 : Int), ((0 : Int), (0 : Int)))))))))) l1 i3).2).2).2).2).1) (((((((rdOf ((⟨#[]⟩ : ByteArray), ((0 : Int), ((0 : Int), (false, ((0 : Int), ((0 : Int), ((0 : Int), ((0 : Int), ((0 : Int), (0 : Int)))))))))) l1 i3).2).2).2).2).2).1) ((((((((rdOf ((⟨#[]⟩ : ByteArray), ((0 : Int), ((0 : Int), (false, ((0 : Int), ((0 : Int), ((0 : Int), ((0 : Int), ((0 : Int), (0 : Int)))))))))) l1 i3).2).2).2).2).2).2).1) (((((((((rdOf ((⟨#[]⟩ : ByteArray), ((0 : Int), ((0 : Int), (false, ((0 : Int), ((0 : Int), ((0 : Int), ((0 : Int), ((0 : Int), (0 : Int)))))))))) l1 i3).2).2).2).2).2).2).2).1) ((((((((((rdOf ((⟨#[]⟩ : ByteArray), ((0 : Int), ((0 : Int), (false, ((0 : Int), ((0 : Int), ((0 : Int), ((0 : Int), ((0 : Int), (0 : Int)))))))))) l1 i3).2).2).2).2).2).2).2).2).1) ((((((((((rdOf ((⟨#[]⟩ : ByteArray), ((0 : Int), ((0 : Int), (false, ((0 : Int), ((0 : Int), ((0 : Int), ((0 : Int), ((0 : Int), (0 : Int)))))))))) l1 i3).2).2).2).2).2).2).2).2).2)).bind fun r1 =>
    if (!r1.1) = true then
      some (false, ())
    else
      (F84 n ((rdOf ((⟨#[]⟩ : ByteArray), ((0 : Int), ((0 : Int), (false, ((0 : Int), ((0 : Int), ((0 : Int), ((0 : Int), ((0 : Int), (0 : Int)))))))))) l1 i3).1) (((rdOf ((⟨#[]⟩ : ByteArray), ((0 : Int), ((0 : Int), (false, ((0 : Int), ((0 : Int), ((0 : Int), ((0 : Int), ((0 : Int), (0 : Int)))))))))) l1 i3).2).1) ((((rdOf ((⟨#[]⟩ : ByteArray), ((0 : Int), ((0 : Int), (false, ((0 : Int), ((0 : Int), ((0 : Int), ((0 : Int), ((0 : Int), (0 : Int)))))))))) l1 i3).2).2).1) (((((rdOf ((⟨#[]⟩ : ByteArray), ((0 : Int), ((0 : Int), (false, ((0 : Int), ((0 : Int), ((0 : Int), ((0 : Int), ((0 : Int), (0 : Int)))))))))) l1 i3).2).2).2).1) ((((((rdOf ((⟨#[]⟩ : ByteArray), ((0 : Int), ((0 : Int), (false, ((0 : Int), ((0 : Int), ((0 : Int), ((0 : Int), ((0 : Int), (0 : Int)))))))))) l1 i3).2).2).2).2).1) (((((((rdOf ((⟨#[]⟩ : ByteArray), ((0 : Int), ((0 : Int), (false, ((0 : Int), ((0 : Int), ((0 : Int), ((0 : Int), ((0 : Int), (0 : Int)))))))))) l1 i3).2).2).2).2).2).1) ((((((((rdOf ((⟨#[]⟩ : ByteArray), ((0 : Int), ((0 : Int), (false, ((0 : Int), ((0 : Int), ((0 : Int), ((0 : Int), ((0 : Int), (0 : Int)))))))))) l1 i3).2).2).2).2).2).2).1) (((((((((rdOf ((⟨#[]⟩ : ByteArray), ((0 : Int), ((0 : Int), (false, ((0 : Int), ((0 : Int), ((0 : Int), ((0 : Int), ((0 : Int), (0 : Int)))))))))) l1 i3).2).2).2).2).2).2).2).1) ((((((((((rdOf ((⟨#[]⟩ : ByteArray), ((0 : Int), ((0 : Int), (false, ((0 : Int), ((0 : Int), ((0 : Int), ((0 : Int), ((0 : Int), (0 : Int)))))))))) l1 i3).2).2).2).2).2).2).2).2).1) ((((((((((rdOf ((⟨#[]⟩ : ByteArray), ((0 : Int), ((0 : Int), (false, ((0 : Int), ((0 : Int), ((0 : Int), ((0 : Int), ((0 : Int), (0 : Int)))))))))) l1 i3).2).2).2).2).2).2).2).2).2)).bind fun r2 =>
      if r2.1 = true then
        some (false, ())
      else
        if (decide (i3 > 0)) = true then
          if (decide (0 ≤ (wrap64 (i3 - 1)))) = true then
          if (decide ((wrap64 (i3 - 1)) < (l0.length : Int))) = true then
          if (Op.bytesLess ((rdOf ((⟨#[]⟩ : ByteArray), ((0 : Int), ((0 : Int), (false, ((0 : Int), ((0 : Int), ((0 : Int), ((0 : Int), ((0 : Int), (0 : Int)))))))))) l1 i3).1).toList ((rdOf ((⟨#[]⟩ : ByteArray), ((0 : Int), ((0 : Int), (false, ((0 : Int), ((0 : Int), ((0 : Int), ((0 : Int), ((0 : Int), (0 : Int)))))))))) l0 (wrap64 (i3 - 1))).1).toList || decide (((rdOf ((⟨#[]⟩ : ByteArray), ((0 : Int), ((0 : Int), (false, ((0 : Int), ((0 : Int), ((0 : Int), ((0 : Int), ((0 : Int), (0 : Int)))))))))) l1 i3).1).toList = ((rdOf ((⟨#[]⟩ : ByteArray), ((0 : Int), ((0 : Int), (false, ((0 : Int), ((0 : Int), ((0 : Int), ((0 : Int), ((0 : Int), (0 : Int)))))))))) l0 (wrap64 (i3 - 1))).1).toList)) = true then
            some (false, ())
          else
            g0 l0 l1 i2 (wrap64 (i3 + 1))
          else none
          else none
        else
          g0 l0 l1 i2 (wrap64 (i3 + 1))
    else none
    else none
  else
    some (decide ((l0.length : Int) ≤ 4), ())
noncomputable def lp64_0 (n : Nat) : Nat → (List (ByteArray × (Int × (Int × (Bool × (Int × (Int × (Int × (Int × (Int × Int)))))))))) → (List (ByteArray × (Int × (Int × (Bool × (Int × (Int × (Int × (Int × (Int × Int)))))))))) → Int → Int → Option (Bool × Unit)
  | 0 => fun _ _ _ _ => none
  | k + 1 => st64_0 n (lp64_0 n k)
noncomputable def st64 (n : Nat) (h0 : (List (ByteArray × (Int × (Int × (Bool × (Int × (Int × (Int × (Int × (Int × Int)))))))))) → (List (ByteArray × (Int × (Int × (Bool × (Int × (Int × (Int × (Int × (Int × Int)))))))))) → Int → Int → Option (Bool × Unit)) (a0 : List (ByteArray × (Int × (Int × (Bool × (Int × (Int × (Int × (Int × (Int × Int)))))))))) : Option (Bool × Unit) :=
  h0 a0 a0 (a0.length : Int) (0 : Int)
noncomputable def F64 (n : Nat) (a0 : List (ByteArray × (Int × (Int × (Bool × (Int × (Int × (Int × (Int × (Int × Int)))))))))) : Option (Bool × Unit) := st64 n (lp64_0 n n) a0
noncomputable def c64 (n : Nat) : Con := ⟨[.one (.sl (.imm true) 30 (.pair .str (.pair (.int .i64) (.pair (.int .i64) (.pair .bool (.pair (.int .i64) (.pair (.int .i64) (.pair (.int .i64) (.pair (.int .i64) (.pair (.int .i64) (.int .i64)))))))))))], [], [.one (.bool)], [], fun (x : List (ByteArray × (Int × (Int × (Bool × (Int × (Int × (Int × (Int × (Int × Int))))))))) × Unit) => F64 n x.1⟩
noncomputable def G64 (n : Nat) : Gam := [((83, []), c83 n), ((84, []), c84 n)]
noncomputable def S64_0 (l0 : List (ByteArray × (Int × (Int × (Bool × (Int × (Int × (Int × (Int × (Int × Int)))))))))) (l1 : List (ByteArray × (Int × (Int × (Bool × (Int × (Int × (Int × (Int × (Int × Int)))))))))) (i2 : Int) (i3 : Int) : St := ⟨[.sl (.imm true) 30 (.pair .str (.pair (.int .i64) (.pair (.int .i64) (.pair .bool (.pair (.int .i64) (.pair (.int .i64) (.pair (.int .i64) (.pair (.int .i64) (.pair (.int .i64) (.int .i64)))))))))) l0] ++ List.replicate 4 .dead ++ [.sl (.imm true) 30 (.pair .str (.pair (.int .i64) (.pair (.int .i64) (.pair .bool (.pair (.int .i64) (.pair (.int .i64) (.pair (.int .i64) (.pair (.int .i64) (.pair (.int .i64) (.int .i64)))))))))) l1, .int .i64 i2, .int .i64 i3] ++ List.replicate 30 .dead, List.replicate 38 Ob.none⟩
noncomputable def ga64_0 (n : Nat) (ks : List Nat) (k : Nat) (st : St) : Option (Bool × Unit) := goAt tab (G64 n) n (bodyOf Try.f64) (lvOf Try.f64) (lvOf Try.f64).ret [1, 0, 1, 0] ks k st (evBody.endK tab (c64 n) Try.f64)
theorem el64_0 (n : Nat) : ∀ (k : Nat), ∀ (l0 : List (ByteArray × (Int × (Int × (Bool × (Int × (Int × (Int × (Int × (Int × Int)))))))))) (l1 : List (ByteArray × (Int × (Int × (Bool × (Int × (Int × (Int × (Int × (Int × Int)))))))))) (i2 : Int) (i3 : Int), ga64_0 n [] k (S64_0 l0 l1 i2 i3) = lp64_0 n k l0 l1 i2 i3 := by
  intro k
  induction k with
  | zero => intros; rfl
  | succ k ih =>
    intro l0 l1 i2 i3
    have h : ga64_0 n [] (k + 1) (S64_0 l0 l1 i2 i3) = st64_0 n (fun w0 w1 w2 w3 => ga64_0 n [] k (S64_0 w0 w1 w2 w3)) l0 l1 i2 i3 := by kernel_rfl
    rw [h]
    have e : (fun w0 w1 w2 w3 => ga64_0 n [] k (S64_0 w0 w1 w2 w3)) = lp64_0 n k := by
      funext w0 w1 w2 w3; exact ih w0 w1 w2 w3
    rw [e]
    rfl
theorem e64 (n : Nat) (x : List (ByteArray × (Int × (Int × (Bool × (Int × (Int × (Int × (Int × (Int × Int))))))))) × Unit) : evBody tab (G64 n) n (c64 n) Try.f64 x = F64 n x.1 := by
  have h : evBody tab (G64 n) n (c64 n) Try.f64 x = st64 n (fun w0 w1 w2 w3 => ga64_0 n [] n (S64_0 w0 w1 w2 w3)) x.1 := by kernel_rfl
  rw [h]
  have e0 : (fun w0 w1 w2 w3 => ga64_0 n [] n (S64_0 w0 w1 w2 w3)) = lp64_0 n n := by
    funext w0 w1 w2 w3; exact el64_0 n n w0 w1 w2 w3
  rw [e0]
  rfl
theorem g64 (W : World) (n : Nat) : Good Try.prog W 64 (c64 n) := body_good follows tabOk (GamOk.cons (g83 W n) (GamOk.cons (g84 W n) GamOk.nil)) (f := 64) (fn := Try.f64) (c := bodyOf Try.f64) (by kernel_rfl) (by kernel_rfl) (by kernel_rfl) (by kernel_rfl) (by kernel_rfl) (by kernel_rfl) (by kernel_rfl) (fun x r h => ⟨n, (e64 n x).trans h⟩)
/-! impl.StoreOk$1 -/
noncomputable def F68 (n : Nat) (a0 : List (ByteArray × (Int × (Int × (Bool × (Int × (Int × (Int × (Int × (Int × Int)))))))))) : Option (Bool × Unit) :=
  (F64 n a0).bind fun r1 =>
  some ((!r1.1), ())
noncomputable def c68 (n : Nat) : Con := ⟨[.one (.sl (.imm true) 30 (.pair .str (.pair (.int .i64) (.pair (.int .i64) (.pair .bool (.pair (.int .i64) (.pair (.int .i64) (.pair (.int .i64) (.pair (.int .i64) (.pair (.int .i64) (.int .i64)))))))))))], [], [.one (.bool)], [], fun (x : List (ByteArray × (Int × (Int × (Bool × (Int × (Int × (Int × (Int × (Int × Int))))))))) × Unit) => F68 n x.1⟩
noncomputable def G68 (n : Nat) : Gam := [((64, []), c64 n)]
theorem e68 (n : Nat) (x : List (ByteArray × (Int × (Int × (Bool × (Int × (Int × (Int × (Int × (Int × Int))))))))) × Unit) : evBody tab (G68 n) n (c68 n) Try.f68 x = F68 n x.1 := by kernel_rfl
theorem g68 (W : World) (n : Nat) : Good Try.prog W 68 (c68 n) := body_good follows tabOk (GamOk.cons (g64 W n) GamOk.nil) (f := 68) (fn := Try.f68) (c := bodyOf Try.f68) (by kernel_rfl) (by kernel_rfl) (by kernel_rfl) (by kernel_rfl) (by kernel_rfl) (by kernel_rfl) (by kernel_rfl) (fun x r h => ⟨n, (e68 n x).trans h⟩)
/-! impl.Row] -/
noncomputable def st87_68_0 (n : Nat) (g0 : (List (List (ByteArray × (Int × (Int × (Bool × (Int × (Int × (Int × (Int × (Int × Int))))))))))) → Int → Int → Option (Int × Unit)) (l0 : List (List (ByteArray × (Int × (Int × (Bool × (Int × (Int × (Int × (Int × (Int × Int))))))))))) (i1 : Int) (i2 : Int) : Option (Int × Unit) :=
  if (decide (i2 < i1)) = true then
    if (decide (0 ≤ i2)) = true then
    if (decide (i2 < (l0.length : Int))) = true then
    (F68 n (rdOf ([] : List (ByteArray × (Int × (Int × (Bool × (Int × (Int × (Int × (Int × (Int × Int)))))))))) l0 i2)).bind fun r1 =>
    if r1.1 = true then
      some (i2, ())
    else
      g0 l0 i1 (wrap64 (i2 + 1))
    else none
    else none
  else
    some ((-1), ())
noncomputable def lp87_68_0 (n : Nat) : Nat → (List (List (ByteArray × (Int × (Int × (Bool × (Int × (Int × (Int × (Int × (Int × Int))))))))))) → Int → Int → Option (Int × Unit)
  | 0 => fun _ _ _ => none
  | k + 1 => st87_68_0 n (lp87_68_0 n k)
noncomputable def st87_68 (n : Nat) (h0 : (List (List (ByteArray × (Int × (Int × (Bool × (Int × (Int × (Int × (Int × (Int × Int))))))))))) → Int → Int → Option (Int × Unit)) (a0 : List (List (ByteArray × (Int × (Int × (Bool × (Int × (Int × (Int × (Int × (Int × Int))))))))))) : Option (Int × Unit) :=
  h0 a0 (a0.length : Int) (0 : Int)
noncomputable def F87_68 (n : Nat) (a0 : List (List (ByteArray × (Int × (Int × (Bool × (Int × (Int × (Int × (Int × (Int × Int))))))))))) : Option (Int × Unit) := st87_68 n (lp87_68_0 n n) a0
noncomputable def c87_68 (n : Nat) : Con := ⟨[.one (.sl (.imm true) 24 (.sl 30 (.pair .str (.pair (.int .i64) (.pair (.int .i64) (.pair .bool (.pair (.int .i64) (.pair (.int .i64) (.pair (.int .i64) (.pair (.int .i64) (.pair (.int .i64) (.int .i64)))))))))))), .one (.fn 68 [])], [], [.one (.int .i64)], [], fun (x : List (List (ByteArray × (Int × (Int × (Bool × (Int × (Int × (Int × (Int × (Int × Int)))))))))) × Unit × Unit) => F87_68 n x.1⟩
noncomputable def G87_68 (n : Nat) : Gam := [((68, []), c68 n)]
noncomputable def S87_68_0 (l0 : List (List (ByteArray × (Int × (Int × (Bool × (Int × (Int × (Int × (Int × (Int × Int))))))))))) (i1 : Int) (i2 : Int) : St := ⟨[.sl (.imm true) 24 (.sl 30 (.pair .str (.pair (.int .i64) (.pair (.int .i64) (.pair .bool (.pair (.int .i64) (.pair (.int .i64) (.pair (.int .i64) (.pair (.int .i64) (.pair (.int .i64) (.int .i64))))))))))) l0, .fn 68 []] ++ List.replicate 5 .dead ++ [.int .i64 i1, .int .i64 i2] ++ List.replicate 10 .dead, List.replicate 19 Ob.none⟩
noncomputable def ga87_68_0 (n : Nat) (ks : List Nat) (k : Nat) (st : St) : Option (Int × Unit) := goAt tab (G87_68 n) n (bodyOf Try.f87) (lvOf Try.f87) (lvOf Try.f87).ret [1, 0, 1, 0] ks k st (evBody.endK tab (c87_68 n) Try.f87)
theorem el87_68_0 (n : Nat) : ∀ (k : Nat), ∀ (l0 : List (List (ByteArray × (Int × (Int × (Bool × (Int × (Int × (Int × (Int × (Int × Int))))))))))) (i1 : Int) (i2 : Int), ga87_68_0 n [] k (S87_68_0 l0 i1 i2) = lp87_68_0 n k l0 i1 i2 := by
  intro k
  induction k with
  | zero => intros; rfl
  | succ k ih =>
    intro l0 i1 i2
    have h : ga87_68_0 n [] (k + 1) (S87_68_0 l0 i1 i2) = st87_68_0 n (fun w0 w1 w2 => ga87_68_0 n [] k (S87_68_0 w0 w1 w2)) l0 i1 i2 := by kernel_rfl
    rw [h]
    have e : (fun w0 w1 w2 => ga87_68_0 n [] k (S87_68_0 w0 w1 w2)) = lp87_68_0 n k := by
      funext w0 w1 w2; exact ih w0 w1 w2
    rw [e]
    rfl
theorem e87_68 (n : Nat) (x : List (List (ByteArray × (Int × (Int × (Bool × (Int × (Int × (Int × (Int × (Int × Int)))))))))) × Unit × Unit) : evBody tab (G87_68 n) n (c87_68 n) Try.f87 x = F87_68 n x.1 := by
  have h : evBody tab (G87_68 n) n (c87_68 n) Try.f87 x = st87_68 n (fun w0 w1 w2 => ga87_68_0 n [] n (S87_68_0 w0 w1 w2)) x.1 := by kernel_rfl
  rw [h]
  have e0 : (fun w0 w1 w2 => ga87_68_0 n [] n (S87_68_0 w0 w1 w2)) = lp87_68_0 n n := by
    funext w0 w1 w2; exact el87_68_0 n n w0 w1 w2
  rw [e0]
  rfl
theorem g87_68 (W : World) (n : Nat) : Good Try.prog W 87 (c87_68 n) := body_good follows tabOk (GamOk.cons (g68 W n) GamOk.nil) (f := 87) (fn := Try.f87) (c := bodyOf Try.f87) (by kernel_rfl) (by kernel_rfl) (by kernel_rfl) (by kernel_rfl) (by kernel_rfl) (by kernel_rfl) (by kernel_rfl) (fun x r h => ⟨n, (e87_68 n x).trans h⟩)
/-! impl.Row] -/
noncomputable def F67_68 (n : Nat) (a0 : List (List (ByteArray × (Int × (Int × (Bool × (Int × (Int × (Int × (Int × (Int × Int))))))))))) : Option (Bool × Unit) :=
  (F87_68 n a0).bind fun r1 =>
  some (decide (r1.1 ≥ 0), ())
noncomputable def c67_68 (n : Nat) : Con := ⟨[.one (.sl (.imm true) 24 (.sl 30 (.pair .str (.pair (.int .i64) (.pair (.int .i64) (.pair .bool (.pair (.int .i64) (.pair (.int .i64) (.pair (.int .i64) (.pair (.int .i64) (.pair (.int .i64) (.int .i64)))))))))))), .one (.fn 68 [])], [], [.one (.bool)], [], fun (x : List (List (ByteArray × (Int × (Int × (Bool × (Int × (Int × (Int × (Int × (Int × Int)))))))))) × Unit × Unit) => F67_68 n x.1⟩
noncomputable def G67_68 (n : Nat) : Gam := [((87, [68]), c87_68 n)]
theorem e67_68 (n : Nat) (x : List (List (ByteArray × (Int × (Int × (Bool × (Int × (Int × (Int × (Int × (Int × Int)))))))))) × Unit × Unit) : evBody tab (G67_68 n) n (c67_68 n) Try.f67 x = F67_68 n x.1 := by kernel_rfl
theorem g67_68 (W : World) (n : Nat) : Good Try.prog W 67 (c67_68 n) := body_good follows tabOk (GamOk.cons (g87_68 W n) GamOk.nil) (f := 67) (fn := Try.f67) (c := bodyOf Try.f67) (by kernel_rfl) (by kernel_rfl) (by kernel_rfl) (by kernel_rfl) (by kernel_rfl) (by kernel_rfl) (by kernel_rfl) (fun x r h => ⟨n, (e67_68 n x).trans h⟩)
/-! impl.StoreOk -/
noncomputable def F31 (n : Nat) (a0 : Int) (a1 : Int) (a2 : List (List (ByteArray × (Int × (Int × (Bool × (Int × (Int × (Int × (Int × (Int × Int))))))))))) : Option (Bool × Unit) :=
  (F50 n a0 (1 : Int) (5 : Int)).bind fun r1 =>
  if r1.1 = true then
    if (decide ((a2.length : Int) ≤ a0)) = true then
      (F50 n a1 (0 : Int) (1000000 : Int)).bind fun r2 =>
      if r2.1 = true then
        if (decide (a1 = 0)) = true then
          (F67_68 n a2).bind fun r3 =>
          some ((!r3.1), ())
        else
          if (decide ((a2.length : Int) = a0)) = true then
            (F67_68 n a2).bind fun r4 =>
            some ((!r4.1), ())
          else
            some (false, ())
      else
        some (false, ())
    else
      some (false, ())
  else
    some (false, ())
noncomputable def c31 (n : Nat) : Con := ⟨[.agg [(.int .i64), (.int .i64), (.sl (.imm true) 24 (.sl 30 (.pair .str (.pair (.int .i64) (.pair (.int .i64) (.pair .bool (.pair (.int .i64) (.pair (.int .i64) (.pair (.int .i64) (.pair (.int .i64) (.pair (.int .i64) (.int .i64))))))))))))]], [], [.one (.bool)], [], fun (x : Int × Int × List (List (ByteArray × (Int × (Int × (Bool × (Int × (Int × (Int × (Int × (Int × Int)))))))))) × Unit) => F31 n x.1 x.2.1 x.2.2.1⟩
noncomputable def G31 (n : Nat) : Gam := [((50, []), c50 n), ((67, [68]), c67_68 n)]
theorem e31 (n : Nat) (x : Int × Int × List (List (ByteArray × (Int × (Int × (Bool × (Int × (Int × (Int × (Int × (Int × Int)))))))))) × Unit) : evBody tab (G31 n) n (c31 n) Try.f31 x = F31 n x.1 x.2.1 x.2.2.1 := by kernel_rfl
theorem g31 (W : World) (n : Nat) : Good Try.prog W 31 (c31 n) := body_good follows tabOk (GamOk.cons (g50 W n) (GamOk.cons (g67_68 W n) GamOk.nil)) (f := 31) (fn := Try.f31) (c := bodyOf Try.f31) (by kernel_rfl) (by kernel_rfl) (by kernel_rfl) (by kernel_rfl) (by kernel_rfl) (by kernel_rfl) (by kernel_rfl) (fun x r h => ⟨n, (e31 n x).trans h⟩)
/-! impl.Push -/
noncomputable def st28_0 (n : Nat) (g0 : (List (ByteArray × (Int × (Int × (Bool × (Int × (Int × (Int × (Int × (Int × Int)))))))))) → (List (List (ByteArray × (Int × (Int × (Bool × (Int × (Int × (Int × (Int × (Int × Int))))))))))) → Int → Int → Int → Int → (List (List (ByteArray × (Int × (Int × (Bool × (Int × (Int × (Int × (Int × (Int × Int))))))))))) → Int → Int → (List (List (ByteArray × (Int × (Int × (Bool × (Int × (Int × (Int × (Int × (Int × Int))))))))))) → Int → Int → (List (List (ByteArray × (Int × (Int × (Bool × (Int × (Int × (Int × (Int × (Int × Int))))))))))) → Option (Int × Int × List (List (ByteArray × (Int × (Int × (Bool × (Int × (Int × (Int × (Int × (Int × Int)))))))))) × Unit)) (l0 : List (ByteArray × (Int × (Int × (Bool × (Int × (Int × (Int × (Int × (Int × Int)))))))))) (l1 : List (List (ByteArray × (Int × (Int × (Bool × (Int × (Int × (Int × (Int × (Int × Int))))))))))) (i2 : Int) (i3 : Int) (i4 : Int) (i5 : Int) (l6 : List (List (ByteArray × (Int × (Int × (Bool × (Int × (Int × (Int × (Int × (Int × Int))))))))))) (i7 : Int) (i8 : Int) (l9 : List (List (ByteArray × (Int × (Int × (Bool × (Int × (Int × (Int × (Int × (Int × Int))))))))))) (i10 : Int) (i11 : Int) (l12 : List (List (ByteArray × (Int × (Int × (Bool × (Int × (Int × (Int × (Int × (Int × Int))))))))))) : Option (Int × Int × List (List (ByteArray × (Int × (Int × (Bool × (Int × (Int × (Int × (Int × (Int × Int)))))))))) × Unit) :=
  if (decide (i3 < i2)) = true then
    if (decide (0 ≤ i3)) = true then
    if (decide (i3 < (l1.length : Int))) = true then
    (F46 n (rdOf ([] : List (ByteArray × (Int × (Int × (Bool × (Int × (Int × (Int × (Int × (Int × Int)))))))))) l1 i3)).bind fun r1 =>
    if (decide ((l12.length + ([r1.1] : List (List (ByteArray × (Int × (Int × (Bool × (Int × (Int × (Int × (Int × (Int × Int))))))))))).length) * 24 ≤ 140737488355328)) = true then
    g0 l0 l1 i2 (wrap64 (i3 + 1)) i4 i5 l6 i7 i8 l9 i10 i11 (l12 ++ ([r1.1] : List (List (ByteArray × (Int × (Int × (Bool × (Int × (Int × (Int × (Int × (Int × Int))))))))))))
    else none
    else none
    else none
  else
    (F31 n i4 i5 l6).bind fun r2 =>
    if (!r2.1) = true then
      some (i10, i11, l12, ())
    else
      (F64 n l0).bind fun r3 =>
      if (!r3.1) = true then
        some (i10, i11, l12, ())
      else
        if (decide (i5 = 1000000)) = true then
          some (i10, i11, l12, ())
        else
          (F46 n l0).bind fun r4 =>
          if (decide ((l12.length + ([r4.1] : List (List (ByteArray × (Int × (Int × (Bool × (Int × (Int × (Int × (Int × (Int × Int))))))))))).length) * 24 ≤ 140737488355328)) = true then
          if (decide (((l12 ++ ([r4.1] : List (List (ByteArray × (Int × (Int × (Bool × (Int × (Int × (Int × (Int × (Int × Int)))))))))))).length : Int) > i10)) = true then
            if (decide (0 ≤ 1)) = true then
            if (decide (1 ≤ ((l12 ++ ([r4.1] : List (List (ByteArray × (Int × (Int × (Bool × (Int × (Int × (Int × (Int × (Int × Int)))))))))))).length : Int))) = true then
            if (decide (((l12 ++ ([r4.1] : List (List (ByteArray × (Int × (Int × (Bool × (Int × (Int × (Int × (Int × (Int × Int)))))))))))).length : Int) ≤ ((l12 ++ ([r4.1] : List (List (ByteArray × (Int × (Int × (Bool × (Int × (Int × (Int × (Int × (Int × Int)))))))))))).length : Int))) = true then
            some (i10, (wrap64 (i11 + 1)), (cutL (l12 ++ ([r4.1] : List (List (ByteArray × (Int × (Int × (Bool × (Int × (Int × (Int × (Int × (Int × Int)))))))))))) (1 : Int) ((l12 ++ ([r4.1] : List (List (ByteArray × (Int × (Int × (Bool × (Int × (Int × (Int × (Int × (Int × Int)))))))))))).length : Int)), ())
            else none
            else none
            else none
          else
            some (i10, i11, (l12 ++ ([r4.1] : List (List (ByteArray × (Int × (Int × (Bool × (Int × (Int × (Int × (Int × (Int × Int)))))))))))), ())
          else none
noncomputable def lp28_0 (n : Nat) : Nat → (List (ByteArray × (Int × (Int × (Bool × (Int × (Int × (Int × (Int × (Int × Int)))))))))) → (List (List (ByteArray × (Int × (Int × (Bool × (Int × (Int × (Int × (Int × (Int × Int))))))))))) → Int → Int → Int → Int → (List (List (ByteArray × (Int × (Int × (Bool × (Int × (Int × (Int × (Int × (Int × Int))))))))))) → Int → Int → (List (List (ByteArray × (Int × (Int × (Bool × (Int × (Int × (Int × (Int × (Int × Int))))))))))) → Int → Int → (List (List (ByteArray × (Int × (Int × (Bool × (Int × (Int × (Int × (Int × (Int × Int))))))))))) → Option (Int × Int × List (List (ByteArray × (Int × (Int × (Bool × (Int × (Int × (Int × (Int × (Int × Int)))))))))) × Unit)
  | 0 => fun _ _ _ _ _ _ _ _ _ _ _ _ _ => none
  | k + 1 => st28_0 n (lp28_0 n k)
noncomputable def st28 (n : Nat) (h0 : (List (ByteArray × (Int × (Int × (Bool × (Int × (Int × (Int × (Int × (Int × Int)))))))))) → (List (List (ByteArray × (Int × (Int × (Bool × (Int × (Int × (Int × (Int × (Int × Int))))))))))) → Int → Int → Int → Int → (List (List (ByteArray × (Int × (Int × (Bool × (Int × (Int × (Int × (Int × (Int × Int))))))))))) → Int → Int → (List (List (ByteArray × (Int × (Int × (Bool × (Int × (Int × (Int × (Int × (Int × Int))))))))))) → Int → Int → (List (List (ByteArray × (Int × (Int × (Bool × (Int × (Int × (Int × (Int × (Int × Int))))))))))) → Option (Int × Int × List (List (ByteArray × (Int × (Int × (Bool × (Int × (Int × (Int × (Int × (Int × Int)))))))))) × Unit)) (a0 : Int) (a1 : Int) (a2 : List (List (ByteArray × (Int × (Int × (Bool × (Int × (Int × (Int × (Int × (Int × Int))))))))))) (a3 : List (ByteArray × (Int × (Int × (Bool × (Int × (Int × (Int × (Int × (Int × Int)))))))))) : Option (Int × Int × List (List (ByteArray × (Int × (Int × (Bool × (Int × (Int × (Int × (Int × (Int × Int)))))))))) × Unit) :=
  h0 a3 a2 (a2.length : Int) (0 : Int) a0 a1 a2 (0 : Int) (0 : Int) ([] : List (List (ByteArray × (Int × (Int × (Bool × (Int × (Int × (Int × (Int × (Int × Int))))))))))) a0 a1 ([] : List (List (ByteArray × (Int × (Int × (Bool × (Int × (Int × (Int × (Int × (Int × Int)))))))))))
noncomputable def F28 (n : Nat) (a0 : Int) (a1 : Int) (a2 : List (List (ByteArray × (Int × (Int × (Bool × (Int × (Int × (Int × (Int × (Int × Int))))))))))) (a3 : List (ByteArray × (Int × (Int × (Bool × (Int × (Int × (Int × (Int × (Int × Int)))))))))) : Option (Int × Int × List (List (ByteArray × (Int × (Int × (Bool × (Int × (Int × (Int × (Int × (Int × Int)))))))))) × Unit) := st28 n (lp28_0 n n) a0 a1 a2 a3
noncomputable def c28 (n : Nat) : Con := ⟨[.agg [(.int .i64), (.int .i64), (.sl (.imm true) 24 (.sl 30 (.pair .str (.pair (.int .i64) (.pair (.int .i64) (.pair .bool (.pair (.int .i64) (.pair (.int .i64) (.pair (.int .i64) (.pair (.int .i64) (.pair (.int .i64) (.int .i64))))))))))))], .one (.sl (.imm true) 30 (.pair .str (.pair (.int .i64) (.pair (.int .i64) (.pair .bool (.pair (.int .i64) (.pair (.int .i64) (.pair (.int .i64) (.pair (.int .i64) (.pair (.int .i64) (.int .i64)))))))))))], [], [.agg [(.int .i64), (.int .i64), (.sl .own 24 (.sl 30 (.pair .str (.pair (.int .i64) (.pair (.int .i64) (.pair .bool (.pair (.int .i64) (.pair (.int .i64) (.pair (.int .i64) (.pair (.int .i64) (.pair (.int .i64) (.int .i64))))))))))))]], [], fun (x : Int × Int × List (List (ByteArray × (Int × (Int × (Bool × (Int × (Int × (Int × (Int × (Int × Int)))))))))) × List (ByteArray × (Int × (Int × (Bool × (Int × (Int × (Int × (Int × (Int × Int))))))))) × Unit) => F28 n x.1 x.2.1 x.2.2.1 x.2.2.2.1⟩
noncomputable def G28 (n : Nat) : Gam := [((31, []), c31 n), ((46, []), c46 n), ((64, []), c64 n)]
noncomputable def S28_0 (l0 : List (ByteArray × (Int × (Int × (Bool × (Int × (Int × (Int × (Int × (Int × Int)))))))))) (l1 : List (List (ByteArray × (Int × (Int × (Bool × (Int × (Int × (Int × (Int × (Int × Int))))))))))) (i2 : Int) (i3 : Int) (i4 : Int) (i5 : Int) (l6 : List (List (ByteArray × (Int × (Int × (Bool × (Int × (Int × (Int × (Int × (Int × Int))))))))))) (i7 : Int) (i8 : Int) (l9 : List (List (ByteArray × (Int × (Int × (Bool × (Int × (Int × (Int × (Int × (Int × Int))))))))))) (i10 : Int) (i11 : Int) (l12 : List (List (ByteArray × (Int × (Int × (Bool × (Int × (Int × (Int × (Int × (Int × Int))))))))))) : St := ⟨[.dead, .sl (.imm true) 30 (.pair .str (.pair (.int .i64) (.pair (.int .i64) (.pair .bool (.pair (.int .i64) (.pair (.int .i64) (.pair (.int .i64) (.pair (.int .i64) (.pair (.int .i64) (.int .i64)))))))))) l0, .ptr 2 0, .dead, .ptr 4 0, .ptr 5 0] ++ List.replicate 8 .dead ++ [.sl (.imm true) 24 (.sl 30 (.pair .str (.pair (.int .i64) (.pair (.int .i64) (.pair .bool (.pair (.int .i64) (.pair (.int .i64) (.pair (.int .i64) (.pair (.int .i64) (.pair (.int .i64) (.int .i64))))))))))) l1, .int .i64 i2, .int .i64 i3] ++ List.replicate 47 .dead, [Ob.none, Ob.none, ⟨true, [.int .i64 i4, .int .i64 i5, .sl (.imm true) 24 (.sl 30 (.pair .str (.pair (.int .i64) (.pair (.int .i64) (.pair .bool (.pair (.int .i64) (.pair (.int .i64) (.pair (.int .i64) (.pair (.int .i64) (.pair (.int .i64) (.int .i64))))))))))) l6], 0, 0⟩, Ob.none, ⟨true, [.int .i64 i7, .int .i64 i8, .sl .own 24 (.sl 30 (.pair .str (.pair (.int .i64) (.pair (.int .i64) (.pair .bool (.pair (.int .i64) (.pair (.int .i64) (.pair (.int .i64) (.pair (.int .i64) (.pair (.int .i64) (.int .i64))))))))))) l9], 0, 0⟩, ⟨true, [.int .i64 i10, .int .i64 i11, .sl .own 24 (.sl 30 (.pair .str (.pair (.int .i64) (.pair (.int .i64) (.pair .bool (.pair (.int .i64) (.pair (.int .i64) (.pair (.int .i64) (.pair (.int .i64) (.pair (.int .i64) (.int .i64))))))))))) l12], 0, 0⟩] ++ List.replicate 58 Ob.none⟩
noncomputable def ga28_0 (n : Nat) (ks : List Nat) (k : Nat) (st : St) : Option (Int × Int × List (List (ByteArray × (Int × (Int × (Bool × (Int × (Int × (Int × (Int × (Int × Int)))))))))) × Unit) := goAt tab (G28 n) n (bodyOf Try.f28) (lvOf Try.f28) (lvOf Try.f28).ret [1, 1, 0, 1, 0] ks k st (evBody.endK tab (c28 n) Try.f28)
theorem el28_0 (n : Nat) : ∀ (k : Nat), ∀ (l0 : List (ByteArray × (Int × (Int × (Bool × (Int × (Int × (Int × (Int × (Int × Int)))))))))) (l1 : List (List (ByteArray × (Int × (Int × (Bool × (Int × (Int × (Int × (Int × (Int × Int))))))))))) (i2 : Int) (i3 : Int) (i4 : Int) (i5 : Int) (l6 : List (List (ByteArray × (Int × (Int × (Bool × (Int × (Int × (Int × (Int × (Int × Int))))))))))) (i7 : Int) (i8 : Int) (l9 : List (List (ByteArray × (Int × (Int × (Bool × (Int × (Int × (Int × (Int × (Int × Int))))))))))) (i10 : Int) (i11 : Int) (l12 : List (List (ByteArray × (Int × (Int × (Bool × (Int × (Int × (Int × (Int × (Int × Int))))))))))), ga28_0 n [] k (S28_0 l0 l1 i2 i3 i4 i5 l6 i7 i8 l9 i10 i11 l12) = lp28_0 n k l0 l1 i2 i3 i4 i5 l6 i7 i8 l9 i10 i11 l12 := by
  intro k
  induction k with
  | zero => intros; rfl
  | succ k ih =>
    intro l0 l1 i2 i3 i4 i5 l6 i7 i8 l9 i10 i11 l12
    have h : ga28_0 n [] (k + 1) (S28_0 l0 l1 i2 i3 i4 i5 l6 i7 i8 l9 i10 i11 l12) = st28_0 n (fun w0 w1 w2 w3 w4 w5 w6 w7 w8 w9 w10 w11 w12 => ga28_0 n [] k (S28_0 w0 w1 w2 w3 w4 w5 w6 w7 w8 w9 w10 w11 w12)) l0 l1 i2 i3 i4 i5 l6 i7 i8 l9 i10 i11 l12 := by kernel_rfl
    rw [h]
    have e : (fun w0 w1 w2 w3 w4 w5 w6 w7 w8 w9 w10 w11 w12 => ga28_0 n [] k (S28_0 w0 w1 w2 w3 w4 w5 w6 w7 w8 w9 w10 w11 w12)) = lp28_0 n k := by
      funext w0 w1 w2 w3 w4 w5 w6 w7 w8 w9 w10 w11 w12; exact ih w0 w1 w2 w3 w4 w5 w6 w7 w8 w9 w10 w11 w12
    rw [e]
    rfl
theorem e28 (n : Nat) (x : Int × Int × List (List (ByteArray × (Int × (Int × (Bool × (Int × (Int × (Int × (Int × (Int × Int)))))))))) × List (ByteArray × (Int × (Int × (Bool × (Int × (Int × (Int × (Int × (Int × Int))))))))) × Unit) : evBody tab (G28 n) n (c28 n) Try.f28 x = F28 n x.1 x.2.1 x.2.2.1 x.2.2.2.1 := by
  have h : evBody tab (G28 n) n (c28 n) Try.f28 x = st28 n (fun w0 w1 w2 w3 w4 w5 w6 w7 w8 w9 w10 w11 w12 => ga28_0 n [] n (S28_0 w0 w1 w2 w3 w4 w5 w6 w7 w8 w9 w10 w11 w12)) x.1 x.2.1 x.2.2.1 x.2.2.2.1 := by kernel_rfl
  rw [h]
  have e0 : (fun w0 w1 w2 w3 w4 w5 w6 w7 w8 w9 w10 w11 w12 => ga28_0 n [] n (S28_0 w0 w1 w2 w3 w4 w5 w6 w7 w8 w9 w10 w11 w12)) = lp28_0 n n := by
    funext w0 w1 w2 w3 w4 w5 w6 w7 w8 w9 w10 w11 w12; exact el28_0 n n w0 w1 w2 w3 w4 w5 w6 w7 w8 w9 w10 w11 w12
  rw [e0]
  rfl
theorem g28 (W : World) (n : Nat) : Good Try.prog W 28 (c28 n) := body_good follows tabOk (GamOk.cons (g31 W n) (GamOk.cons (g46 W n) (GamOk.cons (g64 W n) GamOk.nil))) (f := 28) (fn := Try.f28) (c := bodyOf Try.f28) (by kernel_rfl) (by kernel_rfl) (by kernel_rfl) (by kernel_rfl) (by kernel_rfl) (by kernel_rfl) (by kernel_rfl) (fun x r h => ⟨n, (e28 n x).trans h⟩)
/-! impl.Window -/
noncomputable def F32 (n : Nat) (a0 : Int) (a1 : Int) (a2 : List (List (ByteArray × (Int × (Int × (Bool × (Int × (Int × (Int × (Int × (Int × Int))))))))))) (a3 : Int) : Option (List (ByteArray × (Int × (Int × (Bool × (Int × (Int × (Int × (Int × (Int × Int))))))))) × Bool × Unit) :=
  (F31 n a0 a1 a2).bind fun r1 =>
  if (!r1.1) = true then
    some (([] : List (ByteArray × (Int × (Int × (Bool × (Int × (Int × (Int × (Int × (Int × Int)))))))))), false, ())
  else
    (F50 n a3 a1 (wrap64 ((wrap64 (a1 + (a2.length : Int))) - 1))).bind fun r2 =>
    if (!r2.1) = true then
      some (([] : List (ByteArray × (Int × (Int × (Bool × (Int × (Int × (Int × (Int × (Int × Int)))))))))), false, ())
    else
      if (decide (0 ≤ (wrap64 (a3 - a1)))) = true then
      if (decide ((wrap64 (a3 - a1)) < (a2.length : Int))) = true then
      (F46 n (rdOf ([] : List (ByteArray × (Int × (Int × (Bool × (Int × (Int × (Int × (Int × (Int × Int)))))))))) a2 (wrap64 (a3 - a1)))).bind fun r3 =>
      some (r3.1, true, ())
      else none
      else none
noncomputable def c32 (n : Nat) : Con := ⟨[.agg [(.int .i64), (.int .i64), (.sl (.imm true) 24 (.sl 30 (.pair .str (.pair (.int .i64) (.pair (.int .i64) (.pair .bool (.pair (.int .i64) (.pair (.int .i64) (.pair (.int .i64) (.pair (.int .i64) (.pair (.int .i64) (.int .i64))))))))))))], .one (.int .i64)], [], [.one (.sl .own 30 (.pair .str (.pair (.int .i64) (.pair (.int .i64) (.pair .bool (.pair (.int .i64) (.pair (.int .i64) (.pair (.int .i64) (.pair (.int .i64) (.pair (.int .i64) (.int .i64))))))))))), .one (.bool)], [], fun (x : Int × Int × List (List (ByteArray × (Int × (Int × (Bool × (Int × (Int × (Int × (Int × (Int × Int)))))))))) × Int × Unit) => F32 n x.1 x.2.1 x.2.2.1 x.2.2.2.1⟩
noncomputable def G32 (n : Nat) : Gam := [((31, []), c31 n), ((46, []), c46 n), ((50, []), c50 n)]
theorem e32 (n : Nat) (x : Int × Int × List (List (ByteArray × (Int × (Int × (Bool × (Int × (Int × (Int × (Int × (Int × Int)))))))))) × Int × Unit) : evBody tab (G32 n) n (c32 n) Try.f32 x = F32 n x.1 x.2.1 x.2.2.1 x.2.2.2.1 := by kernel_rfl
theorem g32 (W : World) (n : Nat) : Good Try.prog W 32 (c32 n) := body_good follows tabOk (GamOk.cons (g31 W n) (GamOk.cons (g46 W n) (GamOk.cons (g50 W n) GamOk.nil))) (f := 32) (fn := Try.f32) (c := bodyOf Try.f32) (by kernel_rfl) (by kernel_rfl) (by kernel_rfl) (by kernel_rfl) (by kernel_rfl) (by kernel_rfl) (by kernel_rfl) (fun x r h => ⟨n, (e32 n x).trans h⟩)
/-! spec.Window -/
noncomputable def F33 (n : Nat) (a0 : Int) (a1 : Int) (a2 : List (List (ByteArray × (Int × (Int × (Bool × (Int × (Int × (Int × (Int × (Int × Int))))))))))) (a3 : Int) : Option (List (ByteArray × (Int × (Int × (Bool × (Int × (Int × (Int × (Int × (Int × Int))))))))) × Bool × Unit) :=
  (F29 n a0 a1 a2).bind fun r1 =>
  if (!r1.1) = true then
    some (([] : List (ByteArray × (Int × (Int × (Bool × (Int × (Int × (Int × (Int × (Int × Int)))))))))), false, ())
  else
    (F52 n a3 a1 (wrap64 ((wrap64 (a1 + (a2.length : Int))) - 1))).bind fun r2 =>
    if (!r2.1) = true then
      some (([] : List (ByteArray × (Int × (Int × (Bool × (Int × (Int × (Int × (Int × (Int × Int)))))))))), false, ())
    else
      if (decide (0 ≤ (wrap64 (a3 - a1)))) = true then
      if (decide ((wrap64 (a3 - a1)) < (a2.length : Int))) = true then
      if (decide ((([] : List (ByteArray × (Int × (Int × (Bool × (Int × (Int × (Int × (Int × (Int × Int)))))))))).length + (rdOf ([] : List (ByteArray × (Int × (Int × (Bool × (Int × (Int × (Int × (Int × (Int × Int)))))))))) a2 (wrap64 (a3 - a1))).length) * 88 ≤ 140737488355328)) = true then
      some ((([] : List (ByteArray × (Int × (Int × (Bool × (Int × (Int × (Int × (Int × (Int × Int)))))))))) ++ (rdOf ([] : List (ByteArray × (Int × (Int × (Bool × (Int × (Int × (Int × (Int × (Int × Int)))))))))) a2 (wrap64 (a3 - a1)))), true, ())
      else none
      else none
      else none
noncomputable def c33 (n : Nat) : Con := ⟨[.agg [(.int .i64), (.int .i64), (.sl (.imm true) 24 (.sl 30 (.pair .str (.pair (.int .i64) (.pair (.int .i64) (.pair .bool (.pair (.int .i64) (.pair (.int .i64) (.pair (.int .i64) (.pair (.int .i64) (.pair (.int .i64) (.int .i64))))))))))))], .one (.int .i64)], [], [.one (.sl .own 30 (.pair .str (.pair (.int .i64) (.pair (.int .i64) (.pair .bool (.pair (.int .i64) (.pair (.int .i64) (.pair (.int .i64) (.pair (.int .i64) (.pair (.int .i64) (.int .i64))))))))))), .one (.bool)], [], fun (x : Int × Int × List (List (ByteArray × (Int × (Int × (Bool × (Int × (Int × (Int × (Int × (Int × Int)))))))))) × Int × Unit) => F33 n x.1 x.2.1 x.2.2.1 x.2.2.2.1⟩
noncomputable def G33 (n : Nat) : Gam := [((29, []), c29 n), ((52, []), c52 n)]
theorem e33 (n : Nat) (x : Int × Int × List (List (ByteArray × (Int × (Int × (Bool × (Int × (Int × (Int × (Int × (Int × Int)))))))))) × Int × Unit) : evBody tab (G33 n) n (c33 n) Try.f33 x = F33 n x.1 x.2.1 x.2.2.1 x.2.2.2.1 := by kernel_rfl
theorem g33 (W : World) (n : Nat) : Good Try.prog W 33 (c33 n) := body_good follows tabOk (GamOk.cons (g29 W n) (GamOk.cons (g52 W n) GamOk.nil)) (f := 33) (fn := Try.f33) (c := bodyOf Try.f33) (by kernel_rfl) (by kernel_rfl) (by kernel_rfl) (by kernel_rfl) (by kernel_rfl) (by kernel_rfl) (by kernel_rfl) (fun x r h => ⟨n, (e33 n x).trans h⟩)
/-! impl.Last -/
noncomputable def F34 (n : Nat) (a0 : Int) (a1 : Int) (a2 : List (List (ByteArray × (Int × (Int × (Bool × (Int × (Int × (Int × (Int × (Int × Int))))))))))) (a3 : Int) : Option (List (ByteArray × (Int × (Int × (Bool × (Int × (Int × (Int × (Int × (Int × Int))))))))) × Unit) :=
  (F31 n a0 a1 a2).bind fun r1 =>
  if (!r1.1) = true then
    some (([] : List (ByteArray × (Int × (Int × (Bool × (Int × (Int × (Int × (Int × (Int × Int)))))))))), ())
  else
    (F50 n a3 (0 : Int) (a2.length : Int)).bind fun r2 =>
    if (!r2.1) = true then
      some (([] : List (ByteArray × (Int × (Int × (Bool × (Int × (Int × (Int × (Int × (Int × Int)))))))))), ())
    else
      if (decide (0 ≤ (wrap64 ((a2.length : Int) - a3)))) = true then
      if (decide ((wrap64 ((a2.length : Int) - a3)) ≤ (a2.length : Int))) = true then
      if (decide ((a2.length : Int) ≤ (a2.length : Int))) = true then
      (F17 n (cutL a2 (wrap64 ((a2.length : Int) - a3)) (a2.length : Int))).bind fun r3 =>
      some (r3.1, ())
      else none
      else none
      else none
noncomputable def c34 (n : Nat) : Con := ⟨[.agg [(.int .i64), (.int .i64), (.sl (.imm true) 24 (.sl 30 (.pair .str (.pair (.int .i64) (.pair (.int .i64) (.pair .bool (.pair (.int .i64) (.pair (.int .i64) (.pair (.int .i64) (.pair (.int .i64) (.pair (.int .i64) (.int .i64))))))))))))], .one (.int .i64)], [], [.one (.sl .own 30 (.pair .str (.pair (.int .i64) (.pair (.int .i64) (.pair .bool (.pair (.int .i64) (.pair (.int .i64) (.pair (.int .i64) (.pair (.int .i64) (.pair (.int .i64) (.int .i64)))))))))))], [], fun (x : Int × Int × List (List (ByteArray × (Int × (Int × (Bool × (Int × (Int × (Int × (Int × (Int × Int)))))))))) × Int × Unit) => F34 n x.1 x.2.1 x.2.2.1 x.2.2.2.1⟩
noncomputable def G34 (n : Nat) : Gam := [((17, []), c17 n), ((31, []), c31 n), ((50, []), c50 n)]
theorem e34 (n : Nat) (x : Int × Int × List (List (ByteArray × (Int × (Int × (Bool × (Int × (Int × (Int × (Int × (Int × Int)))))))))) × Int × Unit) : evBody tab (G34 n) n (c34 n) Try.f34 x = F34 n x.1 x.2.1 x.2.2.1 x.2.2.2.1 := by kernel_rfl
theorem g34 (W : World) (n : Nat) : Good Try.prog W 34 (c34 n) := body_good follows tabOk (GamOk.cons (g17 W n) (GamOk.cons (g31 W n) (GamOk.cons (g50 W n) GamOk.nil))) (f := 34) (fn := Try.f34) (c := bodyOf Try.f34) (by kernel_rfl) (by kernel_rfl) (by kernel_rfl) (by kernel_rfl) (by kernel_rfl) (by kernel_rfl) (by kernel_rfl) (fun x r h => ⟨n, (e34 n x).trans h⟩)
/-! impl.StoreNew -/
noncomputable def F35 (n : Nat) (a0 : Int) : Option (Int × Int × List (List (ByteArray × (Int × (Int × (Bool × (Int × (Int × (Int × (Int × (Int × Int)))))))))) × Unit) :=
  (F50 n a0 (1 : Int) (5 : Int)).bind fun r1 =>
  if (!r1.1) = true then
    some (0, 0, ([] : List (List (ByteArray × (Int × (Int × (Bool × (Int × (Int × (Int × (Int × (Int × Int))))))))))), ())
  else
    some (a0, 0, ([] : List (List (ByteArray × (Int × (Int × (Bool × (Int × (Int × (Int × (Int × (Int × Int))))))))))), ())
noncomputable def c35 (n : Nat) : Con := ⟨[.one (.int .i64)], [], [.agg [(.int .i64), (.int .i64), (.sl .own 24 (.sl 30 (.pair .str (.pair (.int .i64) (.pair (.int .i64) (.pair .bool (.pair (.int .i64) (.pair (.int .i64) (.pair (.int .i64) (.pair (.int .i64) (.pair (.int .i64) (.int .i64))))))))))))]], [], fun (x : Int × Unit) => F35 n x.1⟩
noncomputable def G35 (n : Nat) : Gam := [((50, []), c50 n)]
theorem e35 (n : Nat) (x : Int × Unit) : evBody tab (G35 n) n (c35 n) Try.f35 x = F35 n x.1 := by kernel_rfl
theorem g35 (W : World) (n : Nat) : Good Try.prog W 35 (c35 n) := body_good follows tabOk (GamOk.cons (g50 W n) GamOk.nil) (f := 35) (fn := Try.f35) (c := bodyOf Try.f35) (by kernel_rfl) (by kernel_rfl) (by kernel_rfl) (by kernel_rfl) (by kernel_rfl) (by kernel_rfl) (by kernel_rfl) (fun x r h => ⟨n, (e35 n x).trans h⟩)
/-! laws.FnStores -/
noncomputable def j5_0 (n : Nat) (l0 : List (ByteArray × (Int × (Int × (Bool × (Int × (Int × (Int × (Int × (Int × Int)))))))))) (i1 : Int) (i2 : Int) (l3 : List (List (ByteArray × (Int × (Int × (Bool × (Int × (Int × (Int × (Int × (Int × Int))))))))))) (i4 : Int) (i5 : Int) (l6 : List (List (ByteArray × (Int × (Int × (Bool × (Int × (Int × (Int × (Int × (Int × Int))))))))))) : Option (Bool × Unit) :=
  (F31 n i4 i5 l6).bind fun r5 =>
  (F29 n i1 i2 l3).bind fun r6 =>
  if (r5.1 == r6.1) = true then
    some (decide ((l6.length : Int) = (l3.length : Int)), ())
  else
    some (false, ())
noncomputable def st5_0 (n : Nat) (g0 : (List (ByteArray × (Int × (Int × (Bool × (Int × (Int × (Int × (Int × (Int × Int)))))))))) → Int → Int → Int → Int → (List (List (ByteArray × (Int × (Int × (Bool × (Int × (Int × (Int × (Int × (Int × Int))))))))))) → Int → Int → (List (List (ByteArray × (Int × (Int × (Bool × (Int × (Int × (Int × (Int × (Int × Int))))))))))) → Option (Bool × Unit)) (l0 : List (ByteArray × (Int × (Int × (Bool × (Int × (Int × (Int × (Int × (Int × Int)))))))))) (i1 : Int) (i2 : Int) (i3 : Int) (i4 : Int) (l5 : List (List (ByteArray × (Int × (Int × (Bool × (Int × (Int × (Int × (Int × (Int × Int))))))))))) (i6 : Int) (i7 : Int) (l8 : List (List (ByteArray × (Int × (Int × (Bool × (Int × (Int × (Int × (Int × (Int × Int))))))))))) : Option (Bool × Unit) :=
  if (decide (i2 < i1)) = true then
    (F32 n i6 i7 l8 i2).bind fun r15 =>
    (F33 n i3 i4 l5 i2).bind fun r16 =>
    if (!r15.2.1) = true then
      some (false, ())
    else
      if (!r16.2.1) = true then
        some (false, ())
      else
        (F14 n r15.1 r16.1).bind fun r17 =>
        if (!r17.1) = true then
          some (false, ())
        else
          g0 l0 i1 (wrap64 (i2 + 1)) i3 i4 l5 i6 i7 l8
  else
    (F34 n i6 i7 l8 (1 : Int)).bind fun r18 =>
    (F14 n r18.1 l0).bind fun r19 =>
    if r19.1 = true then
      (F34 n i6 i7 l8 (l8.length : Int)).bind fun r20 =>
      (F25 n l8).bind fun r21 =>
      (F14 n r20.1 r21.1).bind fun r22 =>
      if r22.1 = true then
        (F35 n (3 : Int)).bind fun r23 =>
        some (decide (r23.1 = 3), ())
      else
        some (false, ())
    else
      some (false, ())
noncomputable def lp5_0 (n : Nat) : Nat → (List (ByteArray × (Int × (Int × (Bool × (Int × (Int × (Int × (Int × (Int × Int)))))))))) → Int → Int → Int → Int → (List (List (ByteArray × (Int × (Int × (Bool × (Int × (Int × (Int × (Int × (Int × Int))))))))))) → Int → Int → (List (List (ByteArray × (Int × (Int × (Bool × (Int × (Int × (Int × (Int × (Int × Int))))))))))) → Option (Bool × Unit)
  | 0 => fun _ _ _ _ _ _ _ _ _ => none
  | k + 1 => st5_0 n (lp5_0 n k)
noncomputable def st5 (n : Nat) (h0 : (List (ByteArray × (Int × (Int × (Bool × (Int × (Int × (Int × (Int × (Int × Int)))))))))) → Int → Int → Int → Int → (List (List (ByteArray × (Int × (Int × (Bool × (Int × (Int × (Int × (Int × (Int × Int))))))))))) → Int → Int → (List (List (ByteArray × (Int × (Int × (Bool × (Int × (Int × (Int × (Int × (Int × Int))))))))))) → Option (Bool × Unit)) (a0 : List Int) : Option (Bool × Unit) :=
  (F7 n a0).bind fun r1 =>
  if r1.1 = true then
    some (true, ())
  else
    (F27 n a0).bind fun r2 =>
    (F28 n r2.1 r2.2.1 r2.2.2.1 r2.2.2.2.1).bind fun r3 =>
    (F29 n r2.1 r2.2.1 r2.2.2.1).bind fun r4 =>
    if (!r4.1) = true then
      j5_0 n r2.2.2.2.1 r2.1 r2.2.1 r2.2.2.1 r3.1 r3.2.1 r3.2.2.1
    else
      (F30 n r2.2.2.2.1).bind fun r7 =>
      if (!r7.1) = true then
        j5_0 n r2.2.2.2.1 r2.1 r2.2.1 r2.2.2.1 r3.1 r3.2.1 r3.2.2.1
      else
        if (decide (r2.2.1 = 1000000)) = true then
          (F31 n r3.1 r3.2.1 r3.2.2.1).bind fun r8 =>
          (F29 n r2.1 r2.2.1 r2.2.2.1).bind fun r9 =>
          if (r8.1 == r9.1) = true then
            some (decide ((r3.2.2.1.length : Int) = (r2.2.2.1.length : Int)), ())
          else
            some (false, ())
        else
          (F32 n r3.1 r3.2.1 r3.2.2.1 (wrap64 (r2.2.1 + (r2.2.2.1.length : Int)))).bind fun r10 =>
          (F32 n r3.1 r3.2.1 r3.2.2.1 (wrap64 (r3.2.1 - 1))).bind fun r11 =>
          (F32 n r3.1 r3.2.1 r3.2.2.1 (wrap64 ((wrap64 (r2.2.1 + (r2.2.2.1.length : Int))) + 1))).bind fun r12 =>
          if (!r10.2.1) = true then
            some (false, ())
          else
            (F14 n r10.1 r2.2.2.2.1).bind fun r13 =>
            if (!r13.1) = true then
              some (false, ())
            else
              if r11.2.1 = true then
                some (false, ())
              else
                if r12.2.1 = true then
                  some (false, ())
                else
                  if (decide ((r3.2.2.1.length : Int) > r2.1)) = true then
                    some (false, ())
                  else
                    (F31 n r3.1 r3.2.1 r3.2.2.1).bind fun r14 =>
                    if (!r14.1) = true then
                      some (false, ())
                    else
                      if (decide ((wrap64 (r3.2.1 + (r3.2.2.1.length : Int))) ≠ (wrap64 ((wrap64 (r2.2.1 + (r2.2.2.1.length : Int))) + 1)))) = true then
                        some (false, ())
                      else
                        h0 r2.2.2.2.1 (wrap64 (r2.2.1 + (r2.2.2.1.length : Int))) r3.2.1 r2.1 r2.2.1 r2.2.2.1 r3.1 r3.2.1 r3.2.2.1
noncomputable def F5 (n : Nat) (a0 : List Int) : Option (Bool × Unit) := st5 n (lp5_0 n n) a0
noncomputable def c5 (n : Nat) : Con := ⟨[.one (.sl (.imm false) 5 (.int .u8))], [], [.one (.bool)], [], fun (x : List Int × Unit) => F5 n x.1⟩
noncomputable def G5 (n : Nat) : Gam := [((7, []), c7 n), ((14, []), c14 n), ((25, []), c25 n), ((27, []), c27 n), ((28, []), c28 n), ((29, []), c29 n), ((30, []), c30 n), ((31, []), c31 n), ((32, []), c32 n), ((33, []), c33 n), ((34, []), c34 n), ((35, []), c35 n)]
noncomputable def S5_0 (l0 : List (ByteArray × (Int × (Int × (Bool × (Int × (Int × (Int × (Int × (Int × Int)))))))))) (i1 : Int) (i2 : Int) (i3 : Int) (i4 : Int) (l5 : List (List (ByteArray × (Int × (Int × (Bool × (Int × (Int × (Int × (Int × (Int × Int))))))))))) (i6 : Int) (i7 : Int) (l8 : List (List (ByteArray × (Int × (Int × (Bool × (Int × (Int × (Int × (Int × (Int × Int))))))))))) : St := ⟨[.dead, .dead, .dead, .ptr 3 0, .sl (.imm false) 30 (.pair .str (.pair (.int .i64) (.pair (.int .i64) (.pair .bool (.pair (.int .i64) (.pair (.int .i64) (.pair (.int .i64) (.pair (.int .i64) (.pair (.int .i64) (.int .i64)))))))))) l0, .ptr 5 0, .int .i64 i1] ++ List.replicate 6 .dead ++ [.int .i64 i2] ++ List.replicate 157 .dead, [Ob.none, Ob.none, Ob.none, ⟨true, [.int .i64 i3, .int .i64 i4, .sl (.imm false) 24 (.sl 30 (.pair .str (.pair (.int .i64) (.pair (.int .i64) (.pair .bool (.pair (.int .i64) (.pair (.int .i64) (.pair (.int .i64) (.pair (.int .i64) (.pair (.int .i64) (.int .i64))))))))))) l5], 0, 0⟩, Ob.none, ⟨true, [.int .i64 i6, .int .i64 i7, .sl .own 24 (.sl 30 (.pair .str (.pair (.int .i64) (.pair (.int .i64) (.pair .bool (.pair (.int .i64) (.pair (.int .i64) (.pair (.int .i64) (.pair (.int .i64) (.pair (.int .i64) (.int .i64))))))))))) l8], 0, 0⟩] ++ List.replicate 165 Ob.none⟩
noncomputable def ga5_0 (n : Nat) (ks : List Nat) (k : Nat) (st : St) : Option (Bool × Unit) := goAt tab (G5 n) n (bodyOf Try.f5) (lvOf Try.f5) (lvOf Try.f5).ret [1, 1, 1, 1, 1, 1, 1, 1, 1, 1, 0, 1, 0] ks k st (evBody.endK tab (c5 n) Try.f5)
theorem el5_0 (n : Nat) : ∀ (k : Nat), ∀ (l0 : List (ByteArray × (Int × (Int × (Bool × (Int × (Int × (Int × (Int × (Int × Int)))))))))) (i1 : Int) (i2 : Int) (i3 : Int) (i4 : Int) (l5 : List (List (ByteArray × (Int × (Int × (Bool × (Int × (Int × (Int × (Int × (Int × Int))))))))))) (i6 : Int) (i7 : Int) (l8 : List (List (ByteArray × (Int × (Int × (Bool × (Int × (Int × (Int × (Int × (Int × Int))))))))))), ga5_0 n [] k (S5_0 l0 i1 i2 i3 i4 l5 i6 i7 l8) = lp5_0 n k l0 i1 i2 i3 i4 l5 i6 i7 l8 := by
  intro k
  induction k with
  | zero => intros; rfl
  | succ k ih =>
    intro l0 i1 i2 i3 i4 l5 i6 i7 l8
    have h : ga5_0 n [] (k + 1) (S5_0 l0 i1 i2 i3 i4 l5 i6 i7 l8) = st5_0 n (fun w0 w1 w2 w3 w4 w5 w6 w7 w8 => ga5_0 n [] k (S5_0 w0 w1 w2 w3 w4 w5 w6 w7 w8)) l0 i1 i2 i3 i4 l5 i6 i7 l8 := by kernel_rfl
    rw [h]
    have e : (fun w0 w1 w2 w3 w4 w5 w6 w7 w8 => ga5_0 n [] k (S5_0 w0 w1 w2 w3 w4 w5 w6 w7 w8)) = lp5_0 n k := by
      funext w0 w1 w2 w3 w4 w5 w6 w7 w8; exact ih w0 w1 w2 w3 w4 w5 w6 w7 w8
    rw [e]
    rfl
theorem e5 (n : Nat) (x : List Int × Unit) : evBody tab (G5 n) n (c5 n) Try.f5 x = F5 n x.1 := by
  have h : evBody tab (G5 n) n (c5 n) Try.f5 x = st5 n (fun w0 w1 w2 w3 w4 w5 w6 w7 w8 => ga5_0 n [] n (S5_0 w0 w1 w2 w3 w4 w5 w6 w7 w8)) x.1 := by kernel_rfl
  rw [h]
  have e0 : (fun w0 w1 w2 w3 w4 w5 w6 w7 w8 => ga5_0 n [] n (S5_0 w0 w1 w2 w3 w4 w5 w6 w7 w8)) = lp5_0 n n := by
    funext w0 w1 w2 w3 w4 w5 w6 w7 w8; exact el5_0 n n w0 w1 w2 w3 w4 w5 w6 w7 w8
  rw [e0]
  rfl
theorem g5 (W : World) (n : Nat) : Good Try.prog W 5 (c5 n) := body_good follows tabOk (GamOk.cons (g7 W n) (GamOk.cons (g14 W n) (GamOk.cons (g25 W n) (GamOk.cons (g27 W n) (GamOk.cons (g28 W n) (GamOk.cons (g29 W n) (GamOk.cons (g30 W n) (GamOk.cons (g31 W n) (GamOk.cons (g32 W n) (GamOk.cons (g33 W n) (GamOk.cons (g34 W n) (GamOk.cons (g35 W n) GamOk.nil)))))))))))) (f := 5) (fn := Try.f5) (c := bodyOf Try.f5) (by kernel_rfl) (by kernel_rfl) (by kernel_rfl) (by kernel_rfl) (by kernel_rfl) (by kernel_rfl) (by kernel_rfl) (fun x r h => ⟨n, (e5 n x).trans h⟩)
end Go.Eva
end
section
/- The functions, as their texts evaluate. -/
set_option linter.unusedVariables false
set_option maxRecDepth 100000
namespace Go.Eva
open Go.Proofs
open Go.RowKit (wrap64)
/-! spec.DrawLast -/
noncomputable def F36 (n : Nat) (a0 : List Int) : Option (Int × Int × List (List (ByteArray × (Int × (Int × (Bool × (Int × (Int × (Int × (Int × (Int × Int)))))))))) × Int × Unit) :=
  (F41 n a0).bind fun r1 =>
  (F63 n r1.2.1 r1.2.2.1 r1.2.2.2.1).bind fun r2 =>
  (F45 n (wrap64 ((r2.2.2.1.length : Int) + 2)) r2.2.2.2.1 r2.2.2.2.2.1 r2.2.2.2.2.2.1).bind fun r3 =>
  some (r2.1, r2.2.1, r2.2.2.1, (wrap64 (r3.1 - 1)), ())
noncomputable def c36 (n : Nat) : Con := ⟨[.one (.sl (.imm false) 5 (.int .u8))], [], [.agg [(.int .i64), (.int .i64), (.sl .own 24 (.sl 30 (.pair .str (.pair (.int .i64) (.pair (.int .i64) (.pair .bool (.pair (.int .i64) (.pair (.int .i64) (.pair (.int .i64) (.pair (.int .i64) (.pair (.int .i64) (.int .i64))))))))))))], .one (.int .i64)], [], fun (x : List Int × Unit) => F36 n x.1⟩
noncomputable def G36 (n : Nat) : Gam := [((41, []), c41 n), ((45, []), c45 n), ((63, []), c63 n)]
theorem e36a (n : Nat) (f41 : (List Int) → Option (Unit × List Int × Int × Int × Unit)) (f45 : Int → (List Int) → Int → Int → Option (Int × List Int × Int × Int × Unit)) (f63 : (List Int) → Int → Int → Option (Int × Int × List (List (ByteArray × (Int × (Int × (Bool × (Int × (Int × (Int × (Int × (Int × Int)))))))))) × List Int × Int × Int × Unit)) (x : List Int × Unit) : evBody tab [((41, []), {c41 n with f := fun (x : List Int × Unit) => f41 x.1}), ((45, []), {c45 n with f := fun (x : Unit × Int × List Int × Int × Int × Unit) => f45 x.2.1 x.2.2.1 x.2.2.2.1 x.2.2.2.2.1}), ((63, []), {c63 n with f := fun (x : Unit × List Int × Int × Int × Unit) => f63 x.2.1 x.2.2.1 x.2.2.2.1})] n (c36 n) Try.f36 x = (fun (a0 : List Int) =>
  (f41 a0).bind fun r1 =>
  (f63 r1.2.1 r1.2.2.1 r1.2.2.2.1).bind fun r2 =>
  (f45 (wrap64 ((r2.2.2.1.length : Int) + 2)) r2.2.2.2.1 r2.2.2.2.2.1 r2.2.2.2.2.2.1).bind fun r3 =>
  some (r2.1, r2.2.1, r2.2.2.1, (wrap64 (r3.1 - 1)), ())) x.1 := by kernel_rfl
theorem e36 (n : Nat) (x : List Int × Unit) : evBody tab (G36 n) n (c36 n) Try.f36 x = F36 n x.1 := e36a n (F41 n) (F45 n) (F63 n) x
theorem g36 (W : World) (n : Nat) : Good Try.prog W 36 (c36 n) := body_good follows tabOk (GamOk.cons (g41 W n) (GamOk.cons (g45 W n) (GamOk.cons (g63 W n) GamOk.nil))) (f := 36) (fn := Try.f36) (c := bodyOf Try.f36) (by kernel_rfl) (by kernel_rfl) (by kernel_rfl) (by kernel_rfl) (by kernel_rfl) (by kernel_rfl) (by kernel_rfl) (fun x r h => ⟨n, (e36 n x).trans h⟩)
/-! spec.FindRow -/
noncomputable def st37_0 (n : Nat) (g0 : (List (ByteArray × (Int × (Int × (Bool × (Int × (Int × (Int × (Int × (Int × Int)))))))))) → ByteArray → Int → ByteArray → Int → Int → Bool → Int → Int → Int → Int → Int → Int → Option (ByteArray × Int × Int × Bool × Int × Int × Int × Int × Int × Int × Bool × Unit)) (l0 : List (ByteArray × (Int × (Int × (Bool × (Int × (Int × (Int × (Int × (Int × Int)))))))))) (s1 : ByteArray) (i2 : Int) (s3 : ByteArray) (i4 : Int) (i5 : Int) (b6 : Bool) (i7 : Int) (i8 : Int) (i9 : Int) (i10 : Int) (i11 : Int) (i12 : Int) : Option (ByteArray × Int × Int × Bool × Int × Int × Int × Int × Int × Int × Bool × Unit) :=
  if (decide (i2 < (l0.length : Int))) = true then
    if (decide (0 ≤ i2)) = true then
    if (decide (i2 < (l0.length : Int))) = true then
    if (decide (((rdOf ((⟨#[]⟩ : ByteArray), ((0 : Int), ((0 : Int), (false, ((0 : Int), ((0 : Int), ((0 : Int), ((0 : Int), ((0 : Int), (0 : Int)))))))))) l0 i2).1).toList = s1.toList)) = true then
      if (decide (0 ≤ i2)) = true then
      if (decide (i2 < (l0.length : Int))) = true then
      some ((rdOf ((⟨#[]⟩ : ByteArray), ((0 : Int), ((0 : Int), (false, ((0 : Int), ((0 : Int), ((0 : Int), ((0 : Int), ((0 : Int), (0 : Int)))))))))) l0 i2).1, ((rdOf ((⟨#[]⟩ : ByteArray), ((0 : Int), ((0 : Int), (false, ((0 : Int), ((0 : Int), ((0 : Int), ((0 : Int), ((0 : Int), (0 : Int)))))))))) l0 i2).2).1, (((rdOf ((⟨#[]⟩ : ByteArray), ((0 : Int), ((0 : Int), (false, ((0 : Int), ((0 : Int), ((0 : Int), ((0 : Int), ((0 : Int), (0 : Int)))))))))) l0 i2).2).2).1, ((((rdOf ((⟨#[]⟩ : ByteArray), ((0 : Int), ((0 : Int), (false, ((0 : Int), ((0 : Int), ((0 : Int), ((0 : Int), ((0 : Int), (0 : Int)))))))))) l0 i2).2).2).2).1, (((((rdOf ((⟨#[]⟩ : ByteArray), ((0 : Int), ((0 : Int), (false, ((0 : Int), ((0 : Int), ((0 : Int), ((0 : Int), ((0 : Int), (0 : Int)))))))))) l0 i2).2).2).2).2).1, ((((((rdOf ((⟨#[]⟩ : ByteArray), ((0 : Int), ((0 : Int), (false, ((0 : Int), ((0 : Int), ((0 : Int), ((0 : Int), ((0 : Int), (0 : Int)))))))))) l0 i2).2).2).2).2).2).1, (((((((rdOf ((⟨#[]⟩ : ByteArray), ((0 : Int), ((0 : Int), (false, ((0 : Int), ((0 : Int), ((0 : Int), ((0 : Int), ((0 : Int), (0 : Int)))))))))) l0 i2).2).2).2).2).2).2).1, ((((((((rdOf ((⟨#[]⟩ : ByteArray), ((0 : Int), ((0 : Int), (false, ((0 : Int), ((0 : Int), ((0 : Int), ((0 : Int), ((0 : Int), (0 : Int)))))))))) l0 i2).2).2).2).2).2).2).2).1, (((((((((rdOf ((⟨#[]⟩ : ByteArray), ((0 : Int), ((0 : Int), (false, ((0 : Int), ((0 : Int), ((0 : Int), ((0 : Int), ((0 : Int), (0 : Int)))))))))) l0 i2).2).2).2).2).2).2).2).2).1, (((((((((rdOf ((⟨#[]⟩ : ByteArray), ((0 : Int), ((0 : Int), (false, ((0 : Int), ((0 : Int), ((0 : Int), ((0 : Int), ((0 : Int), (0 : Int)))))))))) l0 i2).2).2).2).2).2).2).2).2).2, true, ())
      else none
      else none
    else
      g0 l0 s1 (wrap64 (i2 + 1)) s3 i4 i5 b6 i7 i8 i9 i10 i11 i12
    else none
    else none
  else
    some ((⟨#[]⟩ : ByteArray), 0, 0, false, 0, 0, 0, 0, 0, 0, false, ())
noncomputable def lp37_0 (n : Nat) : Nat → (List (ByteArray × (Int × (Int × (Bool × (Int × (Int × (Int × (Int × (Int × Int)))))))))) → ByteArray → Int → ByteArray → Int → Int → Bool → Int → Int → Int → Int → Int → Int → Option (ByteArray × Int × Int × Bool × Int × Int × Int × Int × Int × Int × Bool × Unit)
  | 0 => fun _ _ _ _ _ _ _ _ _ _ _ _ _ => none
  | k + 1 => st37_0 n (lp37_0 n k)
noncomputable def st37 (n : Nat) (h0 : (List (ByteArray × (Int × (Int × (Bool × (Int × (Int × (Int × (Int × (Int × Int)))))))))) → ByteArray → Int → ByteArray → Int → Int → Bool → Int → Int → Int → Int → Int → Int → Option (ByteArray × Int × Int × Bool × Int × Int × Int × Int × Int × Int × Bool × Unit)) (a0 : List (ByteArray × (Int × (Int × (Bool × (Int × (Int × (Int × (Int × (Int × Int)))))))))) (a1 : ByteArray) : Option (ByteArray × Int × Int × Bool × Int × Int × Int × Int × Int × Int × Bool × Unit) :=
  h0 a0 a1 (0 : Int) (⟨#[]⟩ : ByteArray) (0 : Int) (0 : Int) false (0 : Int) (0 : Int) (0 : Int) (0 : Int) (0 : Int) (0 : Int)
noncomputable def F37 (n : Nat) (a0 : List (ByteArray × (Int × (Int × (Bool × (Int × (Int × (Int × (Int × (Int × Int)))))))))) (a1 : ByteArray) : Option (ByteArray × Int × Int × Bool × Int × Int × Int × Int × Int × Int × Bool × Unit) := st37 n (lp37_0 n n) a0 a1
noncomputable def c37 (n : Nat) : Con := ⟨[.one (.sl (.imm true) 30 (.pair .str (.pair (.int .i64) (.pair (.int .i64) (.pair .bool (.pair (.int .i64) (.pair (.int .i64) (.pair (.int .i64) (.pair (.int .i64) (.pair (.int .i64) (.int .i64))))))))))), .one (.str)], [], [.agg [(.str), (.int .i64), (.int .i64), (.bool), (.int .i64), (.int .i64), (.int .i64), (.int .i64), (.int .i64), (.int .i64)], .one (.bool)], [], fun (x : List (ByteArray × (Int × (Int × (Bool × (Int × (Int × (Int × (Int × (Int × Int))))))))) × ByteArray × Unit) => F37 n x.1 x.2.1⟩
noncomputable def G37 (n : Nat) : Gam := []
noncomputable def S37_0 (l0 : List (ByteArray × (Int × (Int × (Bool × (Int × (Int × (Int × (Int × (Int × Int)))))))))) (s1 : ByteArray) (i2 : Int) (s3 : ByteArray) (i4 : Int) (i5 : Int) (b6 : Bool) (i7 : Int) (i8 : Int) (i9 : Int) (i10 : Int) (i11 : Int) (i12 : Int) : St := ⟨[.sl (.imm true) 30 (.pair .str (.pair (.int .i64) (.pair (.int .i64) (.pair .bool (.pair (.int .i64) (.pair (.int .i64) (.pair (.int .i64) (.pair (.int .i64) (.pair (.int .i64) (.int .i64)))))))))) l0, .str s1, .dead, .dead, .ptr 4 0, .dead, .int .i64 i2] ++ List.replicate 18 .dead, List.replicate 4 Ob.none ++ [⟨true, [.str s3, .int .i64 i4, .int .i64 i5, .bool b6, .int .i64 i7, .int .i64 i8, .int .i64 i9, .int .i64 i10, .int .i64 i11, .int .i64 i12], 0, 0⟩] ++ List.replicate 20 Ob.none⟩
noncomputable def ga37_0 (n : Nat) (ks : List Nat) (k : Nat) (st : St) : Option (ByteArray × Int × Int × Bool × Int × Int × Int × Int × Int × Int × Bool × Unit) := goAt tab (G37 n) n (bodyOf Try.f37) (lvOf Try.f37) (lvOf Try.f37).ret [1, 0, 1, 0] ks k st (evBody.endK tab (c37 n) Try.f37)
theorem el37_0 (n : Nat) : ∀ (k : Nat), ∀ (l0 : List (ByteArray × (Int × (Int × (Bool × (Int × (Int × (Int × (Int × (Int × Int)))))))))) (s1 : ByteArray) (i2 : Int) (s3 : ByteArray) (i4 : Int) (i5 : Int) (b6 : Bool) (i7 : Int) (i8 : Int) (i9 : Int) (i10 : Int) (i11 : Int) (i12 : Int), ga37_0 n [] k (S37_0 l0 s1 i2 s3 i4 i5 b6 i7 i8 i9 i10 i11 i12) = lp37_0 n k l0 s1 i2 s3 i4 i5 b6 i7 i8 i9 i10 i11 i12 := by
  intro k
  induction k with
  | zero => intros; rfl
  | succ k ih =>
    intro l0 s1 i2 s3 i4 i5 b6 i7 i8 i9 i10 i11 i12
    have h : ga37_0 n [] (k + 1) (S37_0 l0 s1 i2 s3 i4 i5 b6 i7 i8 i9 i10 i11 i12) = st37_0 n (fun w0 w1 w2 w3 w4 w5 w6 w7 w8 w9 w10 w11 w12 => ga37_0 n [] k (S37_0 w0 w1 w2 w3 w4 w5 w6 w7 w8 w9 w10 w11 w12)) l0 s1 i2 s3 i4 i5 b6 i7 i8 i9 i10 i11 i12 := by kernel_rfl
    rw [h]
    have e : (fun w0 w1 w2 w3 w4 w5 w6 w7 w8 w9 w10 w11 w12 => ga37_0 n [] k (S37_0 w0 w1 w2 w3 w4 w5 w6 w7 w8 w9 w10 w11 w12)) = lp37_0 n k := by
      funext w0 w1 w2 w3 w4 w5 w6 w7 w8 w9 w10 w11 w12; exact ih w0 w1 w2 w3 w4 w5 w6 w7 w8 w9 w10 w11 w12
    rw [e]
    rfl
theorem e37 (n : Nat) (x : List (ByteArray × (Int × (Int × (Bool × (Int × (Int × (Int × (Int × (Int × Int))))))))) × ByteArray × Unit) : evBody tab (G37 n) n (c37 n) Try.f37 x = F37 n x.1 x.2.1 := by
  have h : evBody tab (G37 n) n (c37 n) Try.f37 x = st37 n (fun w0 w1 w2 w3 w4 w5 w6 w7 w8 w9 w10 w11 w12 => ga37_0 n [] n (S37_0 w0 w1 w2 w3 w4 w5 w6 w7 w8 w9 w10 w11 w12)) x.1 x.2.1 := by kernel_rfl
  rw [h]
  have e0 : (fun w0 w1 w2 w3 w4 w5 w6 w7 w8 w9 w10 w11 w12 => ga37_0 n [] n (S37_0 w0 w1 w2 w3 w4 w5 w6 w7 w8 w9 w10 w11 w12)) = lp37_0 n n := by
    funext w0 w1 w2 w3 w4 w5 w6 w7 w8 w9 w10 w11 w12; exact el37_0 n n w0 w1 w2 w3 w4 w5 w6 w7 w8 w9 w10 w11 w12
  rw [e0]
  rfl
theorem g37 (W : World) (n : Nat) : Good Try.prog W 37 (c37 n) := body_good follows tabOk GamOk.nil (f := 37) (fn := Try.f37) (c := bodyOf Try.f37) (by kernel_rfl) (by kernel_rfl) (by kernel_rfl) (by kernel_rfl) (by kernel_rfl) (by kernel_rfl) (by kernel_rfl) (fun x r h => ⟨n, (e37 n x).trans h⟩)
/-! impl.Moving -/
noncomputable def j38_0 (n : Nat) (g0 : (List Int) → Int → Int → (List Int) → Int → Int → (List Int) → Option (List Int × Unit)) (l0 : List Int) (i1 : Int) (i2 : Int) (l3 : List Int) (i4 : Int) (i5 : Int) (l6 : List Int) : Option (List Int × Unit) :=
  if (decide ((l6.length + ([i2] : List Int).length) * 8 ≤ 140737488355328)) = true then
  g0 l0 i1 i2 l3 i4 (wrap64 (i5 + 1)) (l6 ++ ([i2] : List Int))
  else none
noncomputable def st38_0 (n : Nat) (g0 : (List Int) → Int → Int → (List Int) → Int → Int → (List Int) → Option (List Int × Unit)) (l0 : List Int) (i1 : Int) (i2 : Int) (l3 : List Int) (i4 : Int) (i5 : Int) (l6 : List Int) : Option (List Int × Unit) :=
  if (decide (i5 < i4)) = true then
    if (decide (0 ≤ i5)) = true then
    if (decide (i5 < (l3.length : Int))) = true then
    if (decide (i1 < 1)) = true then
      if (decide ((l6.length + ([0] : List Int).length) * 8 ≤ 140737488355328)) = true then
      g0 l0 i1 i2 l3 i4 (wrap64 (i5 + 1)) (l6 ++ ([0] : List Int))
      else none
    else
      if (decide (i5 ≥ i1)) = true then
        if (decide (0 ≤ (wrap64 (i5 - i1)))) = true then
        if (decide ((wrap64 (i5 - i1)) < (l0.length : Int))) = true then
        j38_0 n g0 l0 i1 (wrap64 ((wrap64 (i2 + (rdOf (0 : Int) l3 i5))) - (rdOf (0 : Int) l0 (wrap64 (i5 - i1))))) l3 i4 i5 l6
        else none
        else none
      else
        j38_0 n g0 l0 i1 (wrap64 (i2 + (rdOf (0 : Int) l3 i5))) l3 i4 i5 l6
    else none
    else none
  else
    some (l6, ())
noncomputable def lp38_0 (n : Nat) : Nat → (List Int) → Int → Int → (List Int) → Int → Int → (List Int) → Option (List Int × Unit)
  | 0 => fun _ _ _ _ _ _ _ => none
  | k + 1 => st38_0 n (lp38_0 n k)
noncomputable def st38 (n : Nat) (h0 : (List Int) → Int → Int → (List Int) → Int → Int → (List Int) → Option (List Int × Unit)) (a0 : List Int) (a1 : Int) : Option (List Int × Unit) :=
  h0 a0 a1 (0 : Int) a0 (a0.length : Int) (0 : Int) ([] : List Int)
noncomputable def F38 (n : Nat) (a0 : List Int) (a1 : Int) : Option (List Int × Unit) := st38 n (lp38_0 n n) a0 a1
noncomputable def c38 (n : Nat) : Con := ⟨[.one (.sl (.imm true) 3 (.int .i64)), .one (.int .i64)], [], [.one (.sl .own 3 (.int .i64))], [], fun (x : List Int × Int × Unit) => F38 n x.1 x.2.1⟩
noncomputable def G38 (n : Nat) : Gam := []
noncomputable def S38_0 (l0 : List Int) (i1 : Int) (i2 : Int) (l3 : List Int) (i4 : Int) (i5 : Int) (l6 : List Int) : St := ⟨[.sl (.imm true) 3 (.int .i64) l0, .int .i64 i1, .dead, .dead, .dead, .sr 5 0 none 0 0 none, .int .i64 i2, .dead, .dead, .dead, .sl (.imm true) 3 (.int .i64) l3, .int .i64 i4, .int .i64 i5] ++ List.replicate 29 .dead, List.replicate 5 Ob.none ++ [⟨false, [.sl .own 3 (.int .i64) l6], 0, 0⟩] ++ List.replicate 36 Ob.none⟩
noncomputable def ga38_0 (n : Nat) (ks : List Nat) (k : Nat) (st : St) : Option (List Int × Unit) := goAt tab (G38 n) n (bodyOf Try.f38) (lvOf Try.f38) (lvOf Try.f38).ret [1, 1, 0, 1, 0] ks k st (evBody.endK tab (c38 n) Try.f38)
theorem el38_0 (n : Nat) : ∀ (k : Nat), ∀ (l0 : List Int) (i1 : Int) (i2 : Int) (l3 : List Int) (i4 : Int) (i5 : Int) (l6 : List Int), ga38_0 n [] k (S38_0 l0 i1 i2 l3 i4 i5 l6) = lp38_0 n k l0 i1 i2 l3 i4 i5 l6 := by
  intro k
  induction k with
  | zero => intros; rfl
  | succ k ih =>
    intro l0 i1 i2 l3 i4 i5 l6
    have h : ga38_0 n [] (k + 1) (S38_0 l0 i1 i2 l3 i4 i5 l6) = st38_0 n (fun w0 w1 w2 w3 w4 w5 w6 => ga38_0 n [] k (S38_0 w0 w1 w2 w3 w4 w5 w6)) l0 i1 i2 l3 i4 i5 l6 := by kernel_rfl
    rw [h]
    have e : (fun w0 w1 w2 w3 w4 w5 w6 => ga38_0 n [] k (S38_0 w0 w1 w2 w3 w4 w5 w6)) = lp38_0 n k := by
      funext w0 w1 w2 w3 w4 w5 w6; exact ih w0 w1 w2 w3 w4 w5 w6
    rw [e]
    rfl
theorem e38 (n : Nat) (x : List Int × Int × Unit) : evBody tab (G38 n) n (c38 n) Try.f38 x = F38 n x.1 x.2.1 := by
  have h : evBody tab (G38 n) n (c38 n) Try.f38 x = st38 n (fun w0 w1 w2 w3 w4 w5 w6 => ga38_0 n [] n (S38_0 w0 w1 w2 w3 w4 w5 w6)) x.1 x.2.1 := by kernel_rfl
  rw [h]
  have e0 : (fun w0 w1 w2 w3 w4 w5 w6 => ga38_0 n [] n (S38_0 w0 w1 w2 w3 w4 w5 w6)) = lp38_0 n n := by
    funext w0 w1 w2 w3 w4 w5 w6; exact el38_0 n n w0 w1 w2 w3 w4 w5 w6
  rw [e0]
  rfl
theorem g38 (W : World) (n : Nat) : Good Try.prog W 38 (c38 n) := body_good follows tabOk GamOk.nil (f := 38) (fn := Try.f38) (c := bodyOf Try.f38) (by kernel_rfl) (by kernel_rfl) (by kernel_rfl) (by kernel_rfl) (by kernel_rfl) (by kernel_rfl) (by kernel_rfl) (fun x r h => ⟨n, (e38 n x).trans h⟩)
/-! impl.Rank -/
noncomputable def F13 (n : Nat) (a0 : ByteArray) (a1 : Int) (a2 : Int) (a3 : Bool) (a4 : Int) (a5 : Int) (a6 : Int) (a7 : Int) (a8 : Int) (a9 : Int) : Option (Int × Unit) :=
  if (decide (a1 = 1)) = true then
    some (a2, ())
  else
    if (decide (a1 = 2)) = true then
      some (a4, ())
    else
      if (decide (a1 = 3)) = true then
        some (a8, ())
      else
        some (0, ())
noncomputable def c13 (n : Nat) : Con := ⟨[.agg [(.str), (.int .i64), (.int .i64), (.bool), (.int .i64), (.int .i64), (.int .i64), (.int .i64), (.int .i64), (.int .i64)]], [], [.one (.int .i64)], [], fun (x : ByteArray × Int × Int × Bool × Int × Int × Int × Int × Int × Int × Unit) => F13 n x.1 x.2.1 x.2.2.1 x.2.2.2.1 x.2.2.2.2.1 x.2.2.2.2.2.1 x.2.2.2.2.2.2.1 x.2.2.2.2.2.2.2.1 x.2.2.2.2.2.2.2.2.1 x.2.2.2.2.2.2.2.2.2.1⟩
noncomputable def G13 (n : Nat) : Gam := []
theorem e13 (n : Nat) (x : ByteArray × Int × Int × Bool × Int × Int × Int × Int × Int × Int × Unit) : evBody tab (G13 n) n (c13 n) Try.f13 x = F13 n x.1 x.2.1 x.2.2.1 x.2.2.2.1 x.2.2.2.2.1 x.2.2.2.2.2.1 x.2.2.2.2.2.2.1 x.2.2.2.2.2.2.2.1 x.2.2.2.2.2.2.2.2.1 x.2.2.2.2.2.2.2.2.2.1 := by kernel_rfl
theorem g13 (W : World) (n : Nat) : Good Try.prog W 13 (c13 n) := body_good follows tabOk GamOk.nil (f := 13) (fn := Try.f13) (c := bodyOf Try.f13) (by kernel_rfl) (by kernel_rfl) (by kernel_rfl) (by kernel_rfl) (by kernel_rfl) (by kernel_rfl) (by kernel_rfl) (fun x r h => ⟨n, (e13 n x).trans h⟩)
/-! impl.Series -/
noncomputable def st39_0 (n : Nat) (g0 : ByteArray → (List (List (ByteArray × (Int × (Int × (Bool × (Int × (Int × (Int × (Int × (Int × Int))))))))))) → Int → Int → (List Int) → Option (List Int × Unit)) (s0 : ByteArray) (l1 : List (List (ByteArray × (Int × (Int × (Bool × (Int × (Int × (Int × (Int × (Int × Int))))))))))) (i2 : Int) (i3 : Int) (l4 : List Int) : Option (List Int × Unit) :=
  if (decide (i3 < i2)) = true then
    if (decide (0 ≤ i3)) = true then
    if (decide (i3 < (l1.length : Int))) = true then
    (F20 n (rdOf ([] : List (ByteArray × (Int × (Int × (Bool × (Int × (Int × (Int × (Int × (Int × Int)))))))))) l1 i3) s0).bind fun r1 =>
    (F13 n r1.1 r1.2.1 r1.2.2.1 r1.2.2.2.1 r1.2.2.2.2.1 r1.2.2.2.2.2.1 r1.2.2.2.2.2.2.1 r1.2.2.2.2.2.2.2.1 r1.2.2.2.2.2.2.2.2.1 r1.2.2.2.2.2.2.2.2.2.1).bind fun r2 =>
    if (decide ((l4.length + ([r2.1] : List Int).length) * 8 ≤ 140737488355328)) = true then
    g0 s0 l1 i2 (wrap64 (i3 + 1)) (l4 ++ ([r2.1] : List Int))
    else none
    else none
    else none
  else
    some (l4, ())
noncomputable def lp39_0 (n : Nat) : Nat → ByteArray → (List (List (ByteArray × (Int × (Int × (Bool × (Int × (Int × (Int × (Int × (Int × Int))))))))))) → Int → Int → (List Int) → Option (List Int × Unit)
  | 0 => fun _ _ _ _ _ => none
  | k + 1 => st39_0 n (lp39_0 n k)
noncomputable def st39 (n : Nat) (h0 : ByteArray → (List (List (ByteArray × (Int × (Int × (Bool × (Int × (Int × (Int × (Int × (Int × Int))))))))))) → Int → Int → (List Int) → Option (List Int × Unit)) (a0 : List (List (ByteArray × (Int × (Int × (Bool × (Int × (Int × (Int × (Int × (Int × Int))))))))))) (a1 : ByteArray) : Option (List Int × Unit) :=
  h0 a1 a0 (a0.length : Int) (0 : Int) ([] : List Int)
noncomputable def F39 (n : Nat) (a0 : List (List (ByteArray × (Int × (Int × (Bool × (Int × (Int × (Int × (Int × (Int × Int))))))))))) (a1 : ByteArray) : Option (List Int × Unit) := st39 n (lp39_0 n n) a0 a1
noncomputable def c39 (n : Nat) : Con := ⟨[.one (.sl (.imm true) 24 (.sl 30 (.pair .str (.pair (.int .i64) (.pair (.int .i64) (.pair .bool (.pair (.int .i64) (.pair (.int .i64) (.pair (.int .i64) (.pair (.int .i64) (.pair (.int .i64) (.int .i64)))))))))))), .one (.str)], [], [.one (.sl .own 3 (.int .i64))], [], fun (x : List (List (ByteArray × (Int × (Int × (Bool × (Int × (Int × (Int × (Int × (Int × Int)))))))))) × ByteArray × Unit) => F39 n x.1 x.2.1⟩
noncomputable def G39 (n : Nat) : Gam := [((13, []), c13 n), ((20, []), c20 n)]
noncomputable def S39_0 (s0 : ByteArray) (l1 : List (List (ByteArray × (Int × (Int × (Bool × (Int × (Int × (Int × (Int × (Int × Int))))))))))) (i2 : Int) (i3 : Int) (l4 : List Int) : St := ⟨[.dead, .str s0, .dead, .dead, .dead, .sr 5 0 none 0 0 none] ++ List.replicate 5 .dead ++ [.sl (.imm true) 24 (.sl 30 (.pair .str (.pair (.int .i64) (.pair (.int .i64) (.pair .bool (.pair (.int .i64) (.pair (.int .i64) (.pair (.int .i64) (.pair (.int .i64) (.pair (.int .i64) (.int .i64))))))))))) l1, .int .i64 i2, .int .i64 i3] ++ List.replicate 16 .dead, List.replicate 5 Ob.none ++ [⟨false, [.sl .own 3 (.int .i64) l4], 0, 0⟩] ++ List.replicate 24 Ob.none⟩
noncomputable def ga39_0 (n : Nat) (ks : List Nat) (k : Nat) (st : St) : Option (List Int × Unit) := goAt tab (G39 n) n (bodyOf Try.f39) (lvOf Try.f39) (lvOf Try.f39).ret [1, 1, 0, 1, 0] ks k st (evBody.endK tab (c39 n) Try.f39)
theorem el39_0 (n : Nat) : ∀ (k : Nat), ∀ (s0 : ByteArray) (l1 : List (List (ByteArray × (Int × (Int × (Bool × (Int × (Int × (Int × (Int × (Int × Int))))))))))) (i2 : Int) (i3 : Int) (l4 : List Int), ga39_0 n [] k (S39_0 s0 l1 i2 i3 l4) = lp39_0 n k s0 l1 i2 i3 l4 := by
  intro k
  induction k with
  | zero => intros; rfl
  | succ k ih =>
    intro s0 l1 i2 i3 l4
    have h : ga39_0 n [] (k + 1) (S39_0 s0 l1 i2 i3 l4) = st39_0 n (fun w0 w1 w2 w3 w4 => ga39_0 n [] k (S39_0 w0 w1 w2 w3 w4)) s0 l1 i2 i3 l4 := by kernel_rfl
    rw [h]
    have e : (fun w0 w1 w2 w3 w4 => ga39_0 n [] k (S39_0 w0 w1 w2 w3 w4)) = lp39_0 n k := by
      funext w0 w1 w2 w3 w4; exact ih w0 w1 w2 w3 w4
    rw [e]
    rfl
theorem e39 (n : Nat) (x : List (List (ByteArray × (Int × (Int × (Bool × (Int × (Int × (Int × (Int × (Int × Int)))))))))) × ByteArray × Unit) : evBody tab (G39 n) n (c39 n) Try.f39 x = F39 n x.1 x.2.1 := by
  have h : evBody tab (G39 n) n (c39 n) Try.f39 x = st39 n (fun w0 w1 w2 w3 w4 => ga39_0 n [] n (S39_0 w0 w1 w2 w3 w4)) x.1 x.2.1 := by kernel_rfl
  rw [h]
  have e0 : (fun w0 w1 w2 w3 w4 => ga39_0 n [] n (S39_0 w0 w1 w2 w3 w4)) = lp39_0 n n := by
    funext w0 w1 w2 w3 w4; exact el39_0 n n w0 w1 w2 w3 w4
  rw [e0]
  rfl
theorem g39 (W : World) (n : Nat) : Good Try.prog W 39 (c39 n) := body_good follows tabOk (GamOk.cons (g13 W n) (GamOk.cons (g20 W n) GamOk.nil)) (f := 39) (fn := Try.f39) (c := bodyOf Try.f39) (by kernel_rfl) (by kernel_rfl) (by kernel_rfl) (by kernel_rfl) (by kernel_rfl) (by kernel_rfl) (by kernel_rfl) (fun x r h => ⟨n, (e39 n x).trans h⟩)
/-! spec.Last -/
noncomputable def F40 (n : Nat) (a0 : Int) (a1 : Int) (a2 : List (List (ByteArray × (Int × (Int × (Bool × (Int × (Int × (Int × (Int × (Int × Int))))))))))) (a3 : Int) : Option (List (ByteArray × (Int × (Int × (Bool × (Int × (Int × (Int × (Int × (Int × Int))))))))) × Unit) :=
  (F29 n a0 a1 a2).bind fun r1 =>
  if (!r1.1) = true then
    some (([] : List (ByteArray × (Int × (Int × (Bool × (Int × (Int × (Int × (Int × (Int × Int)))))))))), ())
  else
    (F52 n a3 (0 : Int) (a2.length : Int)).bind fun r2 =>
    if (!r2.1) = true then
      some (([] : List (ByteArray × (Int × (Int × (Bool × (Int × (Int × (Int × (Int × (Int × Int)))))))))), ())
    else
      if (decide (0 ≤ (wrap64 ((a2.length : Int) - a3)))) = true then
      if (decide ((wrap64 ((a2.length : Int) - a3)) ≤ (a2.length : Int))) = true then
      if (decide ((a2.length : Int) ≤ (a2.length : Int))) = true then
      (F25 n (cutL a2 (wrap64 ((a2.length : Int) - a3)) (a2.length : Int))).bind fun r3 =>
      some (r3.1, ())
      else none
      else none
      else none
noncomputable def c40 (n : Nat) : Con := ⟨[.agg [(.int .i64), (.int .i64), (.sl (.imm true) 24 (.sl 30 (.pair .str (.pair (.int .i64) (.pair (.int .i64) (.pair .bool (.pair (.int .i64) (.pair (.int .i64) (.pair (.int .i64) (.pair (.int .i64) (.pair (.int .i64) (.int .i64))))))))))))], .one (.int .i64)], [], [.one (.sl .own 30 (.pair .str (.pair (.int .i64) (.pair (.int .i64) (.pair .bool (.pair (.int .i64) (.pair (.int .i64) (.pair (.int .i64) (.pair (.int .i64) (.pair (.int .i64) (.int .i64)))))))))))], [], fun (x : Int × Int × List (List (ByteArray × (Int × (Int × (Bool × (Int × (Int × (Int × (Int × (Int × Int)))))))))) × Int × Unit) => F40 n x.1 x.2.1 x.2.2.1 x.2.2.2.1⟩
noncomputable def G40 (n : Nat) : Gam := [((25, []), c25 n), ((29, []), c29 n), ((52, []), c52 n)]
theorem e40 (n : Nat) (x : Int × Int × List (List (ByteArray × (Int × (Int × (Bool × (Int × (Int × (Int × (Int × (Int × Int)))))))))) × Int × Unit) : evBody tab (G40 n) n (c40 n) Try.f40 x = F40 n x.1 x.2.1 x.2.2.1 x.2.2.2.1 := by kernel_rfl
theorem g40 (W : World) (n : Nat) : Good Try.prog W 40 (c40 n) := body_good follows tabOk (GamOk.cons (g25 W n) (GamOk.cons (g29 W n) (GamOk.cons (g52 W n) GamOk.nil))) (f := 40) (fn := Try.f40) (c := bodyOf Try.f40) (by kernel_rfl) (by kernel_rfl) (by kernel_rfl) (by kernel_rfl) (by kernel_rfl) (by kernel_rfl) (by kernel_rfl) (fun x r h => ⟨n, (e40 n x).trans h⟩)
/-! laws.FnRolling -/
noncomputable def st6_1 (n : Nat) (g0 : Int → Int → Int → Int → (List (List (ByteArray × (Int × (Int × (Bool × (Int × (Int × (Int × (Int × (Int × Int))))))))))) → (List (ByteArray × (Int × (Int × (Bool × (Int × (Int × (Int × (Int × (Int × Int)))))))))) → Option (Bool × Unit)) (g1 : Int → Int → Bool → Int → Int → Int → (List (List (ByteArray × (Int × (Int × (Bool × (Int × (Int × (Int × (Int × (Int × Int))))))))))) → (List (ByteArray × (Int × (Int × (Bool × (Int × (Int × (Int × (Int × (Int × Int)))))))))) → Option (Bool × Unit)) (i0 : Int) (i1 : Int) (b2 : Bool) (i3 : Int) (i4 : Int) (i5 : Int) (l6 : List (List (ByteArray × (Int × (Int × (Bool × (Int × (Int × (Int × (Int × (Int × Int))))))))))) (l7 : List (ByteArray × (Int × (Int × (Bool × (Int × (Int × (Int × (Int × (Int × Int)))))))))) : Option (Bool × Unit) :=
  if (decide (i3 < (l6.length : Int))) = true then
    if (decide (0 ≤ i3)) = true then
    if (decide (i3 < (l6.length : Int))) = true then
    if (decide (0 ≤ i1)) = true then
    if (decide (i1 < (l7.length : Int))) = true then
    (F37 n (rdOf ([] : List (ByteArray × (Int × (Int × (Bool × (Int × (Int × (Int × (Int × (Int × Int)))))))))) l6 i3) ((rdOf ((⟨#[]⟩ : ByteArray), ((0 : Int), ((0 : Int), (false, ((0 : Int), ((0 : Int), ((0 : Int), ((0 : Int), ((0 : Int), (0 : Int)))))))))) l7 i1).1)).bind fun r8 =>
    if b2 = true then
      if (!r8.2.2.2.2.2.2.2.2.2.2.1) = true then
        g1 i0 i1 true (wrap64 (i3 + 1)) i4 i5 l6 l7
      else
        g1 i0 i1 (decide (r8.2.1 = 1)) (wrap64 (i3 + 1)) i4 i5 l6 l7
    else
      g1 i0 i1 false (wrap64 (i3 + 1)) i4 i5 l6 l7
    else none
    else none
    else none
    else none
  else
    if (decide (0 ≤ i1)) = true then
    if (decide (i1 < (l7.length : Int))) = true then
    (F39 n l6 ((rdOf ((⟨#[]⟩ : ByteArray), ((0 : Int), ((0 : Int), (false, ((0 : Int), ((0 : Int), ((0 : Int), ((0 : Int), ((0 : Int), (0 : Int)))))))))) l7 i1).1)).bind fun r9 =>
    (F38 n r9.1 i0).bind fun r10 =>
    if b2 = true then
      if (decide ((r10.1.length : Int) ≠ (l6.length : Int))) = true then
        some (false, ())
      else
        if (decide (0 ≤ (wrap64 ((r10.1.length : Int) - 1)))) = true then
        if (decide ((wrap64 ((r10.1.length : Int) - 1)) < (r10.1.length : Int))) = true then
        if (decide (281474976710656 ≠ 0)) = true then
        if (decide (0 ≤ i1)) = true then
        if (decide (i1 < (l7.length : Int))) = true then
        if (decide (((rdOf (0 : Int) r10.1 (wrap64 ((r10.1.length : Int) - 1))).tmod (281474976710656 : Int)) ≠ (((rdOf ((⟨#[]⟩ : ByteArray), ((0 : Int), ((0 : Int), (false, ((0 : Int), ((0 : Int), ((0 : Int), ((0 : Int), ((0 : Int), (0 : Int)))))))))) l7 i1).2).2).1)) = true then
          some (false, ())
        else
          g0 i0 (wrap64 (i1 + 1)) i4 i5 l6 l7
        else none
        else none
        else none
        else none
        else none
    else
      g0 i0 (wrap64 (i1 + 1)) i4 i5 l6 l7
    else none
    else none
noncomputable def lp6_1 (n : Nat) (g0 : Int → Int → Int → Int → (List (List (ByteArray × (Int × (Int × (Bool × (Int × (Int × (Int × (Int × (Int × Int))))))))))) → (List (ByteArray × (Int × (Int × (Bool × (Int × (Int × (Int × (Int × (Int × Int)))))))))) → Option (Bool × Unit)) : Nat → Int → Int → Bool → Int → Int → Int → (List (List (ByteArray × (Int × (Int × (Bool × (Int × (Int × (Int × (Int × (Int × Int))))))))))) → (List (ByteArray × (Int × (Int × (Bool × (Int × (Int × (Int × (Int × (Int × Int)))))))))) → Option (Bool × Unit)
  | 0 => fun _ _ _ _ _ _ _ _ => none
  | k + 1 => st6_1 n g0 (lp6_1 n g0 k)
noncomputable def st6_0 (n : Nat) (h1 : Int → Int → Bool → Int → Int → Int → (List (List (ByteArray × (Int × (Int × (Bool × (Int × (Int × (Int × (Int × (Int × Int))))))))))) → (List (ByteArray × (Int × (Int × (Bool × (Int × (Int × (Int × (Int × (Int × Int)))))))))) → Option (Bool × Unit)) (g0 : Int → Int → Int → Int → (List (List (ByteArray × (Int × (Int × (Bool × (Int × (Int × (Int × (Int × (Int × Int))))))))))) → (List (ByteArray × (Int × (Int × (Bool × (Int × (Int × (Int × (Int × (Int × Int)))))))))) → Option (Bool × Unit)) (i0 : Int) (i1 : Int) (i2 : Int) (i3 : Int) (l4 : List (List (ByteArray × (Int × (Int × (Bool × (Int × (Int × (Int × (Int × (Int × Int))))))))))) (l5 : List (ByteArray × (Int × (Int × (Bool × (Int × (Int × (Int × (Int × (Int × Int)))))))))) : Option (Bool × Unit) :=
  if (decide (i1 < (l5.length : Int))) = true then
    if (decide (0 ≤ i1)) = true then
    if (decide (i1 < (l5.length : Int))) = true then
    if (decide (((rdOf ((⟨#[]⟩ : ByteArray), ((0 : Int), ((0 : Int), (false, ((0 : Int), ((0 : Int), ((0 : Int), ((0 : Int), ((0 : Int), (0 : Int)))))))))) l5 i1).2).1 ≠ 1)) = true then
      g0 i0 (wrap64 (i1 + 1)) i2 i3 l4 l5
    else
      h1 i0 i1 true (0 : Int) i2 i3 l4 l5
    else none
    else none
  else
    (F40 n i2 i3 l4 i0).bind fun r11 =>
    (F14 n l5 r11.1).bind fun r12 =>
    some (r12.1, ())
noncomputable def lp6_0 (n : Nat) : Nat → Int → Int → Int → Int → (List (List (ByteArray × (Int × (Int × (Bool × (Int × (Int × (Int × (Int × (Int × Int))))))))))) → (List (ByteArray × (Int × (Int × (Bool × (Int × (Int × (Int × (Int × (Int × Int)))))))))) → Option (Bool × Unit)
  | 0 => fun _ _ _ _ _ _ => none
  | k + 1 => st6_0 n (lp6_1 n (lp6_0 n k) n) (lp6_0 n k)
noncomputable def st6 (n : Nat) (h0 : Int → Int → Int → Int → (List (List (ByteArray × (Int × (Int × (Bool × (Int × (Int × (Int × (Int × (Int × Int))))))))))) → (List (ByteArray × (Int × (Int × (Bool × (Int × (Int × (Int × (Int × (Int × Int)))))))))) → Option (Bool × Unit)) (a0 : List Int) : Option (Bool × Unit) :=
  (F7 n a0).bind fun r1 =>
  if r1.1 = true then
    some (true, ())
  else
    (F36 n a0).bind fun r2 =>
    (F29 n r2.1 r2.2.1 r2.2.2.1).bind fun r3 =>
    if (!r3.1) = true then
      (F34 n r2.1 r2.2.1 r2.2.2.1 r2.2.2.2.1).bind fun r4 =>
      some (decide ((r4.1.length : Int) = 0), ())
    else
      if (decide (r2.2.2.2.1 < 1)) = true then
        (F34 n r2.1 r2.2.1 r2.2.2.1 r2.2.2.2.1).bind fun r5 =>
        some (decide ((r5.1.length : Int) = 0), ())
      else
        if (decide (r2.2.2.2.1 > (r2.2.2.1.length : Int))) = true then
          (F34 n r2.1 r2.2.1 r2.2.2.1 r2.2.2.2.1).bind fun r6 =>
          some (decide ((r6.1.length : Int) = 0), ())
        else
          (F34 n r2.1 r2.2.1 r2.2.2.1 r2.2.2.2.1).bind fun r7 =>
          h0 r2.2.2.2.1 (0 : Int) r2.1 r2.2.1 r2.2.2.1 r7.1
noncomputable def F6 (n : Nat) (a0 : List Int) : Option (Bool × Unit) := st6 n (lp6_0 n n) a0
noncomputable def c6 (n : Nat) : Con := ⟨[.one (.sl (.imm false) 5 (.int .u8))], [], [.one (.bool)], [], fun (x : List Int × Unit) => F6 n x.1⟩
noncomputable def G6 (n : Nat) : Gam := [((7, []), c7 n), ((14, []), c14 n), ((29, []), c29 n), ((34, []), c34 n), ((36, []), c36 n), ((37, []), c37 n), ((38, []), c38 n), ((39, []), c39 n), ((40, []), c40 n)]
noncomputable def S6_1 (i0 : Int) (i1 : Int) (b2 : Bool) (i3 : Int) (i4 : Int) (i5 : Int) (l6 : List (List (ByteArray × (Int × (Int × (Bool × (Int × (Int × (Int × (Int × (Int × Int))))))))))) (l7 : List (ByteArray × (Int × (Int × (Bool × (Int × (Int × (Int × (Int × (Int × Int)))))))))) : St := ⟨[.dead, .dead, .dead, .ptr 3 0, .int .i64 i0, .sr 5 0 none 0 0 none, .int .i64 i1, .bool b2, .int .i64 i3] ++ List.replicate 114 .dead, [Ob.none, Ob.none, Ob.none, ⟨true, [.int .i64 i4, .int .i64 i5, .sl .own 24 (.sl 30 (.pair .str (.pair (.int .i64) (.pair (.int .i64) (.pair .bool (.pair (.int .i64) (.pair (.int .i64) (.pair (.int .i64) (.pair (.int .i64) (.pair (.int .i64) (.int .i64))))))))))) l6], 0, 0⟩, Ob.none, ⟨false, [.sl .own 30 (.pair .str (.pair (.int .i64) (.pair (.int .i64) (.pair .bool (.pair (.int .i64) (.pair (.int .i64) (.pair (.int .i64) (.pair (.int .i64) (.pair (.int .i64) (.int .i64)))))))))) l7], 0, 0⟩] ++ List.replicate 117 Ob.none⟩
noncomputable def ga6_1 (n : Nat) (ks : List Nat) (k : Nat) (st : St) : Option (Bool × Unit) := goAt tab (G6 n) n (bodyOf Try.f6) (lvOf Try.f6) (lvOf Try.f6).ret [1, 1, 1, 1, 1, 0, 1, 0, 0, 1, 0, 0, 1, 1, 0, 1, 0] ks k st (evBody.endK tab (c6 n) Try.f6)
noncomputable def S6_0 (i0 : Int) (i1 : Int) (i2 : Int) (i3 : Int) (l4 : List (List (ByteArray × (Int × (Int × (Bool × (Int × (Int × (Int × (Int × (Int × Int))))))))))) (l5 : List (ByteArray × (Int × (Int × (Bool × (Int × (Int × (Int × (Int × (Int × Int)))))))))) : St := ⟨[.dead, .dead, .dead, .ptr 3 0, .int .i64 i0, .sr 5 0 none 0 0 none, .int .i64 i1] ++ List.replicate 116 .dead, [Ob.none, Ob.none, Ob.none, ⟨true, [.int .i64 i2, .int .i64 i3, .sl .own 24 (.sl 30 (.pair .str (.pair (.int .i64) (.pair (.int .i64) (.pair .bool (.pair (.int .i64) (.pair (.int .i64) (.pair (.int .i64) (.pair (.int .i64) (.pair (.int .i64) (.int .i64))))))))))) l4], 0, 0⟩, Ob.none, ⟨false, [.sl .own 30 (.pair .str (.pair (.int .i64) (.pair (.int .i64) (.pair .bool (.pair (.int .i64) (.pair (.int .i64) (.pair (.int .i64) (.pair (.int .i64) (.pair (.int .i64) (.int .i64)))))))))) l5], 0, 0⟩] ++ List.replicate 117 Ob.none⟩
noncomputable def ga6_0 (n : Nat) (ks : List Nat) (k : Nat) (st : St) : Option (Bool × Unit) := goAt tab (G6 n) n (bodyOf Try.f6) (lvOf Try.f6) (lvOf Try.f6).ret [1, 1, 1, 1, 1, 0, 1, 0] ks k st (evBody.endK tab (c6 n) Try.f6)
theorem el6_1 (n : Nat) (k0 : Nat) : ∀ (k : Nat), ∀ (i0 : Int) (i1 : Int) (b2 : Bool) (i3 : Int) (i4 : Int) (i5 : Int) (l6 : List (List (ByteArray × (Int × (Int × (Bool × (Int × (Int × (Int × (Int × (Int × Int))))))))))) (l7 : List (ByteArray × (Int × (Int × (Bool × (Int × (Int × (Int × (Int × (Int × Int)))))))))), ga6_1 n [k0] k (S6_1 i0 i1 b2 i3 i4 i5 l6 l7) = lp6_1 n (fun w0 w1 w2 w3 w4 w5 => ga6_0 n [] k0 (S6_0 w0 w1 w2 w3 w4 w5)) k i0 i1 b2 i3 i4 i5 l6 l7 := by
  intro k
  induction k with
  | zero => intros; rfl
  | succ k ih =>
    intro i0 i1 b2 i3 i4 i5 l6 l7
    have h : ga6_1 n [k0] (k + 1) (S6_1 i0 i1 b2 i3 i4 i5 l6 l7) = st6_1 n (fun w0 w1 w2 w3 w4 w5 => ga6_0 n [] k0 (S6_0 w0 w1 w2 w3 w4 w5)) (fun w0 w1 w2 w3 w4 w5 w6 w7 => ga6_1 n [k0] k (S6_1 w0 w1 w2 w3 w4 w5 w6 w7)) i0 i1 b2 i3 i4 i5 l6 l7 := by kernel_rfl
    rw [h]
    have e : (fun w0 w1 w2 w3 w4 w5 w6 w7 => ga6_1 n [k0] k (S6_1 w0 w1 w2 w3 w4 w5 w6 w7)) = lp6_1 n (fun w0 w1 w2 w3 w4 w5 => ga6_0 n [] k0 (S6_0 w0 w1 w2 w3 w4 w5)) k := by
      funext w0 w1 w2 w3 w4 w5 w6 w7; exact ih w0 w1 w2 w3 w4 w5 w6 w7
    rw [e]
    rfl
theorem el6_0 (n : Nat) : ∀ (k : Nat), ∀ (i0 : Int) (i1 : Int) (i2 : Int) (i3 : Int) (l4 : List (List (ByteArray × (Int × (Int × (Bool × (Int × (Int × (Int × (Int × (Int × Int))))))))))) (l5 : List (ByteArray × (Int × (Int × (Bool × (Int × (Int × (Int × (Int × (Int × Int)))))))))), ga6_0 n [] k (S6_0 i0 i1 i2 i3 l4 l5) = lp6_0 n k i0 i1 i2 i3 l4 l5 := by
  intro k
  induction k with
  | zero => intros; rfl
  | succ k ih =>
    intro i0 i1 i2 i3 l4 l5
    have h : ga6_0 n [] (k + 1) (S6_0 i0 i1 i2 i3 l4 l5) = st6_0 n (fun w0 w1 w2 w3 w4 w5 w6 w7 => ga6_1 n [k] n (S6_1 w0 w1 w2 w3 w4 w5 w6 w7)) (fun w0 w1 w2 w3 w4 w5 => ga6_0 n [] k (S6_0 w0 w1 w2 w3 w4 w5)) i0 i1 i2 i3 l4 l5 := by kernel_rfl
    rw [h]
    have e1 : (fun w0 w1 w2 w3 w4 w5 w6 w7 => ga6_1 n [k] n (S6_1 w0 w1 w2 w3 w4 w5 w6 w7)) = lp6_1 n (fun w0 w1 w2 w3 w4 w5 => ga6_0 n [] k (S6_0 w0 w1 w2 w3 w4 w5)) n := by
      funext w0 w1 w2 w3 w4 w5 w6 w7; exact el6_1 n k n w0 w1 w2 w3 w4 w5 w6 w7
    have e : (fun w0 w1 w2 w3 w4 w5 => ga6_0 n [] k (S6_0 w0 w1 w2 w3 w4 w5)) = lp6_0 n k := by
      funext w0 w1 w2 w3 w4 w5; exact ih w0 w1 w2 w3 w4 w5
    rw [e1, e]
    rfl
theorem e6 (n : Nat) (x : List Int × Unit) : evBody tab (G6 n) n (c6 n) Try.f6 x = F6 n x.1 := by
  have h : evBody tab (G6 n) n (c6 n) Try.f6 x = st6 n (fun w0 w1 w2 w3 w4 w5 => ga6_0 n [] n (S6_0 w0 w1 w2 w3 w4 w5)) x.1 := by kernel_rfl
  rw [h]
  have e0 : (fun w0 w1 w2 w3 w4 w5 => ga6_0 n [] n (S6_0 w0 w1 w2 w3 w4 w5)) = lp6_0 n n := by
    funext w0 w1 w2 w3 w4 w5; exact el6_0 n n w0 w1 w2 w3 w4 w5
  rw [e0]
  rfl
theorem g6 (W : World) (n : Nat) : Good Try.prog W 6 (c6 n) := body_good follows tabOk (GamOk.cons (g7 W n) (GamOk.cons (g14 W n) (GamOk.cons (g29 W n) (GamOk.cons (g34 W n) (GamOk.cons (g36 W n) (GamOk.cons (g37 W n) (GamOk.cons (g38 W n) (GamOk.cons (g39 W n) (GamOk.cons (g40 W n) GamOk.nil))))))))) (f := 6) (fn := Try.f6) (c := bodyOf Try.f6) (by kernel_rfl) (by kernel_rfl) (by kernel_rfl) (by kernel_rfl) (by kernel_rfl) (by kernel_rfl) (by kernel_rfl) (fun x r h => ⟨n, (e6 n x).trans h⟩)
end Go.Eva
end
section
/- Total functions: rules for what an Option answers. -/
namespace Go.Eva
open Go.RowKit (wrap64)
set_option linter.unusedVariables false

def ok {α : Type} (x : Option α) (Q : α → Prop) : Prop := ∃ a, x = some a ∧ Q a
theorem ok.some {α : Type} {a : α} {Q : α → Prop} (h : Q a) : ok (some a) Q := ⟨a, rfl, h⟩
theorem ok.bind {α β : Type} {x : Option α} {f : α → Option β} {Q : α → Prop} {R : β → Prop} (h : ok x Q) (k : ∀ a, Q a → ok (f a) R) : ok (x.bind f) R := by
  obtain ⟨a, rfl, q⟩ := h
  exact k a q
theorem ok.guard {α : Type} {c : Prop} [Decidable c] {x : Option α} {Q : α → Prop} (h : c) (k : ok x Q) : ok (if decide c = true then x else none) Q := by rw [if_pos (decide_eq_true h)]; exact k
theorem ok.ite {α : Type} {c : Prop} [Decidable c] {x y : Option α} {Q : α → Prop} (h : c → ok x Q) (k : ¬ c → ok y Q) : ok (if decide c = true then x else y) Q := by
  by_cases hc : c
  · rw [if_pos (decide_eq_true hc)]; exact h hc
  · rw [if_neg (by simpa using hc)]; exact k hc
theorem ok.iteb {α : Type} {c : Bool} {x y : Option α} {Q : α → Prop} (h : c = true → ok x Q) (k : c = false → ok y Q) : ok (if c = true then x else y) Q := by
  cases c
  · exact k rfl
  · exact h rfl
theorem ok.mono {α : Type} {x : Option α} {Q R : α → Prop} (h : ok x Q) (k : ∀ a, Q a → R a) : ok x R := by
  obtain ⟨a, q1, q2⟩ := h
  exact ⟨a, q1, k a q2⟩
theorem w64 {x : Int} (h : -9223372036854775808 ≤ x) (h' : x ≤ 9223372036854775807) : wrap64 x = x := by unfold wrap64; omega
theorem andI_bd (x : Int) (m : Nat) (hm : m < 9223372036854775808) : 0 ≤ andI .i64 x m ∧ andI .i64 x m ≤ m := by
  unfold andI
  have h1 : (BitVec.ofInt IntKind.i64.bits x &&& BitVec.ofInt IntKind.i64.bits (m : Int)).toNat ≤ m := by
    rw [BitVec.toNat_and]
    have : (BitVec.ofInt IntKind.i64.bits (m : Int)).toNat = m := by
      rw [BitVec.toNat_ofInt]
      show ((m : Int) % (2 ^ 64 : Nat)).toNat = m
      omega
    rw [this]
    exact Nat.and_le_right
  have h2 : IntKind.i64.wrap ((BitVec.ofInt IntKind.i64.bits x &&& BitVec.ofInt IntKind.i64.bits (m : Int)).toNat : Int) = ((BitVec.ofInt IntKind.i64.bits x &&& BitVec.ofInt IntKind.i64.bits (m : Int)).toNat : Int) := by
    rw [IntKind.wrap_i64]; omega
  rw [h2]
  omega
theorem and255 (x : Int) : 0 ≤ andI .i64 x 255 ∧ andI .i64 x 255 < 256 := by
  have := andI_bd x 255 (by omega)
  exact ⟨this.1, Int.lt_of_le_of_lt this.2 (by decide)⟩
theorem rdOf_mem {α : Type} {d : α} {l : List α} {i : Int} (h : 0 ≤ i) (h' : i < (l.length : Int)) : rdOf d l i ∈ l := by
  unfold rdOf
  rw [List.getD_eq_getElem?_getD, List.getElem?_eq_getElem (by omega)]
  exact List.getElem_mem _
theorem rdOf_nat {α : Type} {d : α} {l : List α} {i : Nat} (h : i < l.length) : rdOf d l (i : Int) = l[i] := by
  unfold rdOf
  rw [List.getD_eq_getElem?_getD, Int.toNat_natCast, List.getElem?_eq_getElem h]; rfl
/-- A loop's rule: what goes down, and what stays. -/
theorem tmod_bd {x n : Int} (h : 0 ≤ x) (hn : 0 < n) : 0 ≤ x.tmod n ∧ x.tmod n < n := ⟨Int.tmod_nonneg _ h, Int.tmod_lt_of_pos _ hn⟩
end Go.Eva
end
section
/- What the drawing functions answer. -/
namespace Go.Eva
open Go.RowKit (wrap64)
set_option linter.unusedVariables false
set_option linter.unusedSimpArgs false

/-- A cursor: the code and the place in it. -/
structure Cur (b : List Int) (i : Int) : Prop where
  lo : 0 ≤ i
  hi : i ≤ (b.length : Int)
  len : b.length ≤ 1048576
  byt : ∀ x ∈ b, 0 ≤ x ∧ x < 256

theorem t71 {n : Nat} {b : List Int} {i h : Int} (c : Cur b i) : ok (F71 n b i h) fun r => 0 ≤ r.1 ∧ r.1 < 256 ∧ Cur r.2.1 r.2.2.1 := by
  unfold F71
  refine ok.guard (by omega) (ok.guard (by omega) (ok.ite (fun h1 => ok.guard c.lo (ok.guard h1 (ok.some ?_))) (fun h1 => ok.some ?_)))
  · have hl := c.len
    have hlo := c.lo
    refine ⟨(and255 _).1, (and255 _).2, ?_⟩
    show Cur b (wrap64 (i + 1))
    rw [w64 (x := i + 1) (by omega) (by omega)]
    exact ⟨by omega, by omega, c.len, c.byt⟩
  · exact ⟨(and255 _).1, (and255 _).2, c⟩

theorem t45 {n : Nat} {m : Int} {b : List Int} {i h : Int} (c : Cur b i) : ok (F45 n m b i h) fun r => 0 ≤ r.1 ∧ (0 < m → r.1 < m) ∧ (m ≤ 0 → r.1 = 0) ∧ Cur r.2.1 r.2.2.1 := by
  unfold F45
  refine ok.ite (fun h1 => ok.some ⟨Int.le_refl _, fun q => by omega, fun _ => rfl, c⟩) (fun h1 => ok.ite (fun h2 => ?_) (fun h2 => ?_))
  · refine (t71 c).bind fun r1 q => ok.guard (by omega) (ok.some ?_)
    have := tmod_bd (x := r1.1) (n := m) q.1 (by omega)
    exact ⟨this.1, fun _ => this.2, fun q => by omega, q.2.2⟩
  · refine (t71 c).bind fun r2 q2 => (t71 q2.2.2).bind fun r3 q3 => (t71 q3.2.2).bind fun r4 q4 => (t71 q4.2.2).bind fun r5 q5 => ok.guard (by omega) (ok.some ?_)
    have e : wrap64 ((wrap64 ((wrap64 ((wrap64 (r2.1 * 16777216)) + (wrap64 (r3.1 * 65536)))) + (wrap64 (r4.1 * 256)))) + r5.1) = r2.1 * 16777216 + r3.1 * 65536 + r4.1 * 256 + r5.1 := by
      obtain ⟨a1, a2, _⟩ := q2
      obtain ⟨b1, b2, _⟩ := q3
      obtain ⟨c1, c2, _⟩ := q4
      obtain ⟨d1, d2, _⟩ := q5
      rw [w64 (x := r2.1 * 16777216) (by omega) (by omega), w64 (x := r3.1 * 65536) (by omega) (by omega), w64 (x := r4.1 * 256) (by omega) (by omega), w64 (x := r2.1 * 16777216 + r3.1 * 65536) (by omega) (by omega), w64 (x := r2.1 * 16777216 + r3.1 * 65536 + r4.1 * 256) (by omega) (by omega), w64 (by omega) (by omega)]
    simp only [e]
    have := tmod_bd (x := r2.1 * 16777216 + r3.1 * 65536 + r4.1 * 256 + r5.1) (n := m) (by have := q2.1; have := q3.1; have := q4.1; have := q5.1; omega) (by omega)
    exact ⟨this.1, fun _ => this.2, fun q => by omega, q5.2.2⟩

theorem t60 {n : Nat} {m : Int} {b : List Int} {i h : Int} (c : Cur b i) : ok (F60 n m b i h) fun r => Cur r.2.1 r.2.2.1 := by
  unfold F60
  exact (t45 c).bind fun r q => ok.some q.2.2.2

theorem t79 {n : Nat} {l b : List Int} {i h : Int} (c : Cur b i) (hl : 0 < l.length) : ok (F79 n l b i h) fun r => r.1 ∈ l ∧ Cur r.2.1 r.2.2.1 := by
  unfold F79
  refine (t45 c).bind fun r q => ok.guard q.1 (ok.guard (q.2.1 (by omega)) (ok.some ⟨rdOf_mem q.1 (q.2.1 (by omega)), q.2.2.2⟩))

theorem t43 {n : Nat} {l : List ByteArray} {b : List Int} {i h : Int} (c : Cur b i) (hl : 0 < l.length) : ok (F43 n l b i h) fun r => r.1 ∈ l ∧ Cur r.2.1 r.2.2.1 := by
  unfold F43
  refine (t45 c).bind fun r q => ok.guard q.1 (ok.guard (q.2.1 (by omega)) (ok.some ⟨rdOf_mem q.1 (q.2.1 (by omega)), q.2.2.2⟩))

theorem t88 {n : Nat} {b : List Int} {i h : Int} (c : Cur b i) : ok (F88 n b i h) fun r => r.1.size ≤ 5 ∧ Cur r.2.1 r.2.2.1 := by
  unfold F88
  refine (t43 c (by decide)).bind fun r q => ok.some ⟨?_, q.2⟩
  have hall : ∀ x ∈ ([(⟨#[97]⟩ : ByteArray), (⟨#[98]⟩ : ByteArray), (⟨#[99, 112, 117]⟩ : ByteArray), (⟨#[114, 101, 113]⟩ : ByteArray), (⟨#[120, 95, 49]⟩ : ByteArray), (⟨#[90, 57]⟩ : ByteArray), (⟨#[109, 101, 109]⟩ : ByteArray), (⟨#[113]⟩ : ByteArray)] : List ByteArray), x.size ≤ 5 := by
    intro x hx
    simp only [List.mem_cons, List.not_mem_nil, or_false] at hx
    rcases hx with rfl | rfl | rfl | rfl | rfl | rfl | rfl | rfl <;> decide
  exact hall _ q.1

theorem t89 {n : Nat} {b : List Int} {i h : Int} (c : Cur b i) : ok (F89 n b i h) fun r => Cur r.2.1 r.2.2.1 := by
  unfold F89
  exact (t45 c).bind fun r1 q1 => (t45 q1.2.2.2).bind fun r2 q2 => (t79 q2.2.2.2 (by simp)).bind fun r3 q3 => ok.some q3.2

theorem t52 {n : Nat} {x y z : Int} : ok (F52 n x y z) fun _ => True := by
  unfold F52
  exact ok.ite (fun _ => ok.some trivial) (fun _ => ok.some trivial)
theorem t97 {n : Nat} {x : Int} : ok (F97 n x) fun _ => True := by
  unfold F97
  exact t52.bind fun _ _ => ok.iteb (fun _ => ok.some trivial) (fun _ => t52.bind fun _ _ => ok.iteb (fun _ => ok.some trivial) (fun _ => t52.bind fun _ _ => ok.iteb (fun _ => ok.some trivial) (fun _ => ok.some trivial)))
theorem t85_0 {n : Nat} {s : ByteArray} (hs : s.size ≤ 1048576) : ∀ (k : Nat) (i : Int), 0 ≤ i → i ≤ (s.size : Int) → (s.size : Int) - i < k → ok (lp85_0 n k s i) fun _ => True
  | 0, i, h0, h1, hk => by omega
  | k + 1, i, h0, h1, hk => by
    show ok (st85_0 n (lp85_0 n k) s i) _
    unfold st85_0
    refine ok.ite (fun h2 => ok.guard h0 (ok.guard h2 (t97.bind fun _ _ => ok.iteb (fun _ => ok.some trivial) (fun _ => ?_)))) (fun _ => t52.bind fun _ _ => ok.some trivial)
    rw [w64 (by omega) (by omega)]
    exact t85_0 hs k (i + 1) (by omega) (by omega) (by omega)
theorem t85 {n : Nat} {s : ByteArray} (hs : s.size ≤ 5) (hn : 100 ≤ n) : ok (F85 n s) fun _ => True := t85_0 (by omega) n 0 (by omega) (by omega) (by omega)
theorem t86 {n : Nat} {s : ByteArray} {a b : Int} {t : Bool} {d e f g u v : Int} : ok (F86 n s a b t d e f g u v) fun _ => True := by
  unfold F86
  refine ok.ite (fun _ => ok.ite (fun _ => ok.ite (fun _ => ok.ite (fun _ => ok.some trivial) (fun _ => ok.some trivial)) (fun _ => ok.some trivial)) (fun _ => ok.some trivial)) (fun _ => ?_)
  exact t52.bind fun _ _ => ok.iteb (fun _ => t52.bind fun _ _ => ok.iteb (fun _ => ok.ite (fun _ => t52.bind fun _ _ => ok.iteb (fun _ => t52.bind fun _ _ => ok.iteb (fun _ => ok.ite (fun _ => ok.some trivial) (fun _ => ok.some trivial)) (fun _ => ok.some trivial)) (fun _ => ok.some trivial)) (fun _ => ok.some trivial)) (fun _ => ok.some trivial)) (fun _ => ok.some trivial)
theorem t65 {n : Nat} {s : ByteArray} {a b : Int} {t : Bool} {d e f g u v : Int} (hs : s.size ≤ 5) (hn : 100 ≤ n) : ok (F65 n s a b t d e f g u v) fun _ => True := by
  unfold F65
  refine (t85 hs hn).bind fun _ _ => ok.iteb (fun _ => ok.some trivial) (fun _ => ok.ite (fun _ => ok.iteb (fun _ => t52.bind fun _ _ => ok.some trivial) (fun _ => ok.some trivial)) (fun _ => ok.ite (fun _ => ok.iteb (fun _ => t52.bind fun _ _ => ok.iteb (fun _ => ok.iteb (fun _ => ok.some trivial) (fun _ => ok.some trivial)) (fun _ => ok.some trivial)) (fun _ => ok.some trivial)) (fun _ => ok.ite (fun _ => ?_) (fun _ => ok.some trivial))))
  exact ok.ite (fun _ => ok.iteb (fun _ => ok.ite (fun _ => t86.bind fun _ _ => ok.some trivial) (fun _ => ok.some trivial)) (fun _ => ok.some trivial)) (fun _ => ok.some trivial)
theorem t90 {n : Nat} {s : ByteArray} {a b : Int} {t : Bool} {d e f g u v x : Int} (hs : s.size ≤ 5) (hn : 100 ≤ n) : ok (F90 n s a b t d e f g u v x) fun r => r.1 = s := by
  unfold F90
  exact (t65 hs hn).bind fun _ _ => ok.iteb (fun _ => ok.some rfl) (fun _ => ok.ite (fun _ => ok.some rfl) (fun _ => t52.bind fun _ _ => ok.iteb (fun _ => ok.some rfl) (fun _ => ok.ite (fun _ => ok.some rfl) (fun _ => ok.ite (fun _ => ok.some rfl) (fun _ => ok.some rfl)))))
theorem t69_0 {n : Nat} (hn : 100 ≤ n) : ∀ (k : Nat) (i0 : Int) (s1 : ByteArray) (i2 i3 : Int) (b4 : Bool) (i5 i6 i7 i8 i9 i10 : Int) (s11 : ByteArray) (i12 i13 : Int) (b14 : Bool) (i15 i16 i17 i18 i19 i20 : Int) (l21 : List Int) (i22 i23 : Int), 0 ≤ i0 → i0 < k → i0 ≤ 100 → s11.size ≤ 5 → Cur l21 i22 →
    ok (lp69_0 n k i0 s1 i2 i3 b4 i5 i6 i7 i8 i9 i10 s11 i12 i13 b14 i15 i16 i17 i18 i19 i20 l21 i22 i23) fun r => r.1.size ≤ 5 ∧ Cur r.2.2.2.2.2.2.2.2.2.2.1 r.2.2.2.2.2.2.2.2.2.2.2.1
  | 0, i0, s1, i2, i3, b4, i5, i6, i7, i8, i9, i10, s11, i12, i13, b14, i15, i16, i17, i18, i19, i20, l21, i22, i23, h0, hk, h1, hs, hc => by omega
  | k + 1, i0, s1, i2, i3, b4, i5, i6, i7, i8, i9, i10, s11, i12, i13, b14, i15, i16, i17, i18, i19, i20, l21, i22, i23, h0, hk, h1, hs, hc => by
    show ok (st69_0 n (lp69_0 n k) i0 s1 i2 i3 b4 i5 i6 i7 i8 i9 i10 s11 i12 i13 b14 i15 i16 i17 i18 i19 i20 l21 i22 i23) _
    unfold st69_0
    refine ok.ite (fun h2 => (t89 hc).bind fun r8 q8 => (t90 hs hn).bind fun r9 q9 => ?_) (fun _ => ok.some ⟨hs, hc⟩)
    rw [w64 (by omega) (by omega)]
    exact t69_0 hn k _ _ _ _ _ _ _ _ _ _ _ _ _ _ _ _ _ _ _ _ _ _ _ _ (by omega) (by omega) (by omega) (by rw [q9]; exact hs) q8
theorem t69 {n : Nat} (hn : 100 ≤ n) {b : List Int} {i h : Int} (c : Cur b i) : ok (F69 n b i h) fun r => r.1.size ≤ 5 ∧ Cur r.2.2.2.2.2.2.2.2.2.2.1 r.2.2.2.2.2.2.2.2.2.2.2.1 := by
  unfold F69 st69
  refine (t88 c).bind fun r1 q1 => (t45 q1.2).bind fun r2 q2 => ok.ite (fun _ => (t45 q2.2.2.2).bind fun r3 q3 => (t79 q3.2.2.2 (by simp)).bind fun r4 q4 => ok.some ⟨q1.1, q4.2⟩) (fun _ => ok.ite (fun _ => (t60 q2.2.2.2).bind fun r5 q5 => ok.iteb (fun _ => (t89 q5).bind fun r6 q6 => ok.some ⟨q1.1, q6⟩) (fun _ => ok.some ⟨q1.1, q5⟩)) (fun _ => (t45 q2.2.2.2).bind fun r7 q7 => ?_))
  have := q7.2.1 (by omega)
  exact t69_0 hn n _ _ _ _ _ _ _ _ _ _ _ _ _ _ _ _ _ _ _ _ _ _ _ _ q7.1 (by omega) (by omega) q1.1 q7.2.2.2
theorem t77 {n : Nat} {b : List Int} {i h : Int} (c : Cur b i) : ok (F77 n b i h) fun r => r.1.size ≤ 5 ∧ Cur r.2.1 r.2.2.1 := by
  unfold F77
  refine (t60 c).bind fun r1 q1 => ok.iteb (fun _ => (t43 q1 (by decide)).bind fun r2 q2 => ok.some ⟨?_, q2.2⟩) (fun _ => (t88 q1).bind fun r3 q3 => ok.some q3)
  have hall : ∀ x ∈ ([(⟨#[]⟩ : ByteArray), (⟨#[97, 98, 99, 100, 101]⟩ : ByteArray), (⟨#[97, 32, 98]⟩ : ByteArray), (⟨#[97, 58]⟩ : ByteArray), (⟨#[0]⟩ : ByteArray), (⟨#[97, 98, 99, 100]⟩ : ByteArray), (⟨#[255]⟩ : ByteArray)] : List ByteArray), x.size ≤ 5 := by
    intro x hx
    simp only [List.mem_cons, List.not_mem_nil, or_false] at hx
    rcases hx with rfl | rfl | rfl | rfl | rfl | rfl | rfl <;> decide
  exact hall _ q2.1
theorem t78 {n : Nat} {b : List Int} {i h : Int} (c : Cur b i) : ok (F78 n b i h) fun r => Cur r.2.1 r.2.2.1 := by
  unfold F78
  exact (t79 c (by decide)).bind fun r1 q1 => ok.some q1.2
theorem t59 {n : Nat} (hn : 100 ≤ n) {b : List Int} {i h : Int} (c : Cur b i) : ok (F59 n b i h) fun r => r.1.size ≤ 5 ∧ Cur r.2.2.2.2.2.2.2.2.2.2.1 r.2.2.2.2.2.2.2.2.2.2.2.1 := by
  unfold F59
  exact (t69 hn c).bind fun r1 q1 => (t45 q1.2).bind fun r2 q2 => ok.ite (fun _ => (t77 q2.2.2.2).bind fun r3 q3 => ok.some q3) (fun _ => ok.ite (fun _ => (t78 q2.2.2.2).bind fun r4 q4 => ok.some ⟨q1.1, q4⟩) (fun _ => ok.ite (fun _ => ok.some ⟨q1.1, q2.2.2.2⟩)
    (fun _ => ok.ite (fun _ => (t79 q2.2.2.2 (by decide)).bind fun r5 q5 => ok.some ⟨q1.1, q5.2⟩) (fun _ => ok.ite (fun _ => (t79 q2.2.2.2 (by decide)).bind fun r6 q6 => ok.some ⟨q1.1, q6.2⟩) (fun _ => ok.ite (fun _ => ok.some ⟨q1.1, q2.2.2.2⟩) (fun _ => ok.ite (fun _ => (t79 q2.2.2.2 (by decide)).bind fun r7 q7 => ok.some ⟨q1.1, q7.2⟩) (fun _ => ok.some ⟨q1.1, q2.2.2.2⟩)))))))
theorem t66 {n : Nat} {s : ByteArray} {a b : Int} {t : Bool} {d e f g u v : Int} : ok (F66 n s a b t d e f g u v) fun _ => True := by
  unfold F66
  exact ok.ite (fun _ => ok.iteb (fun _ => ok.some trivial) (fun _ => ok.some trivial)) (fun _ => ok.some trivial)
/-- A report: few rows, short keys. -/
def Rp (l : List (ByteArray × (Int × (Int × (Bool × (Int × (Int × (Int × (Int × (Int × Int)))))))))) : Prop := l.length ≤ 4 ∧ ∀ x ∈ l, x.1.size ≤ 5
theorem t42_0 {n : Nat} (hn : 100 ≤ n) {l2 : List ByteArray} (hl2 : l2.length ≤ 50) (hs : ∀ x ∈ l2, x.size ≤ 5) : ∀ (k : Nat) (i0 : Int) (l1 : List _) (l3 : List Int) (i4 i5 : Int), 0 ≤ i0 → i0 ≤ (l2.length : Int) → (l2.length : Int) - i0 < k → Rp l1 → Cur l3 i4 →
    ok (lp42_0 n k i0 l1 l2 l3 i4 i5) fun r => Rp r.1 ∧ Cur r.2.1 r.2.2.1
  | 0, i0, l1, l3, i4, i5, h0, h1, hk, hl, hc => by omega
  | k + 1, i0, l1, l3, i4, i5, h0, h1, hk, hl, hc => by
    show ok (st42_0 n (lp42_0 n k) i0 l1 l2 l3 i4 i5) _
    have hl0 := hl.1
    unfold st42_0
    refine ok.ite (fun h2 => (t69 hn hc).bind fun r1 q1 => ok.guard h0 (ok.guard h2 (t66.bind fun r2 _ => ok.iteb (fun _ => (t60 q1.2).bind fun r3 q3 => ok.iteb (fun _ => ok.ite (fun h3 => ok.guard (by simp only [List.length_cons, List.length_nil]; omega) ?_) (fun _ => ?_)) (fun _ => ?_)) (fun _ => ?_)))) (fun h2 => ok.ite (fun h3 => ?_) (fun _ => ok.some ⟨hl, hc⟩))
    · rw [w64 (by omega) (by omega)]
      refine t42_0 hn hl2 hs k _ _ _ _ _ (by omega) (by omega) (by omega) ⟨by simp only [List.length_append, List.length_cons, List.length_nil]; omega, fun x hx => ?_⟩ q3
      rcases List.mem_append.1 hx with hx | hx
      · exact hl.2 x hx
      · rw [List.mem_singleton.1 hx]
        exact hs _ (rdOf_mem h0 h2)
    · rw [w64 (by omega) (by omega)]
      exact t42_0 hn hl2 hs k _ _ _ _ _ (by omega) (by omega) (by omega) hl q3
    · rw [w64 (by omega) (by omega)]
      exact t42_0 hn hl2 hs k _ _ _ _ _ (by omega) (by omega) (by omega) hl q3
    · rw [w64 (by omega) (by omega)]
      exact t42_0 hn hl2 hs k _ _ _ _ _ (by omega) (by omega) (by omega) hl q1.2
    · refine (t60 hc).bind fun r4 q4 => ok.iteb (fun _ => (t45 q4).bind fun r5 q5 => (t59 hn q5.2.2.2).bind fun r6 q6 => ok.guard q5.1 (ok.guard (q5.2.1 h3) (ok.some ⟨⟨?_, fun x hx => ?_⟩, q6.2⟩))) (fun _ => ok.some ⟨hl, q4⟩)
      · rw [List.length_set]; exact hl0
      · rcases List.mem_or_eq_of_mem_set hx with hx | hx
        · exact hl.2 x hx
        · rw [hx]; exact q6.1
theorem t42 {n : Nat} (hn : 100 ≤ n) {b : List Int} {i h : Int} (c : Cur b i) : ok (F42 n b i h) fun r => Rp r.1 ∧ Cur r.2.1 r.2.2.1 := by
  refine t42_0 hn (by decide) ?_ n _ _ _ _ _ (by omega) (by simp) (by simp; omega) ⟨by simp, fun x hx => (by cases hx)⟩ c
  intro x hx
  simp only [List.mem_cons, List.not_mem_nil, or_false] at hx
  rcases hx with rfl | rfl | rfl | rfl | rfl | rfl <;> decide
theorem t53_0 {n : Nat} (hn : 100 ≤ n) : ∀ (k : Nat) (i0 : Int) (l1 : List (List _)) (l2 : List Int) (i3 i4 : Int), 0 ≤ i0 → i0 < k → i0 + l1.length ≤ 4 → (∀ x ∈ l1, x.length ≤ 4) → Cur l2 i3 →
    ok (lp53_0 n k i0 l1 l2 i3 i4) fun r => r.1.length ≤ 4 ∧ ∀ x ∈ r.1, x.length ≤ 4
  | 0, i0, l1, l2, i3, i4, h0, hk, h1, hl, hc => by omega
  | k + 1, i0, l1, l2, i3, i4, h0, hk, h1, hl, hc => by
    show ok (st53_0 n (lp53_0 n k) i0 l1 l2 i3 i4) _
    unfold st53_0
    refine ok.ite (fun h2 => (t42 hn hc).bind fun r3 q3 => ok.guard (by simp only [List.length_cons, List.length_nil]; omega) ?_) (fun h2 => (t43 hc (by decide)).bind fun r4 q4 => ok.some ⟨by show l1.length ≤ 4; omega, hl⟩)
    rw [w64 (by omega) (by omega)]
    refine t53_0 hn k _ _ _ _ _ (by omega) (by omega) (by simp only [List.length_append, List.length_cons, List.length_nil]; omega) (fun x hx => ?_) q3.2
    rcases List.mem_append.1 hx with hx | hx
    · exact hl x hx
    · rw [List.mem_singleton.1 hx]; exact q3.1.1
theorem t41_0 {n : Nat} {b : List Int} (hb : b.length ≤ 1048576) (hy : ∀ x ∈ b, 0 ≤ x ∧ x < 256) : ∀ (k : Nat) (i1 i2 : Int), 0 ≤ i2 → i2 ≤ 4000 → 4000 - i2 < k → ok (lp41_0 n k b i1 i2) fun r => Cur r.2.1 r.2.2.1
  | 0, i1, i2, h0, h1, hk => by omega
  | k + 1, i1, i2, h0, h1, hk => by
    show ok (st41_0 n (lp41_0 n k) b i1 i2) _
    unfold st41_0
    refine ok.ite (fun h2 => ok.ite (fun h3 => ok.guard h0 (ok.guard h2 ?_)) (fun _ => ok.some ⟨Int.le_refl _, by simp, hb, hy⟩)) (fun _ => ok.some ⟨Int.le_refl _, by simp, hb, hy⟩)
    rw [w64 (x := i2 + 1) (by omega) (by omega)]
    exact t41_0 hb hy k _ _ (by omega) (by omega) (by omega)
theorem t41 {n : Nat} (hn : 5000 ≤ n) {b : List Int} (hb : b.length ≤ 1048576) (hy : ∀ x ∈ b, 0 ≤ x ∧ x < 256) : ok (F41 n b) fun r => Cur r.2.1 r.2.2.1 := t41_0 hb hy n _ _ (by omega) (by omega) (by omega)
theorem t53 {n : Nat} (hn : 5000 ≤ n) {b : List Int} (hb : b.length ≤ 1048576) (hy : ∀ x ∈ b, 0 ≤ x ∧ x < 256) : ok (F53 n b) fun r => r.1.length ≤ 4 ∧ ∀ x ∈ r.1, x.length ≤ 4 := by
  unfold F53 st53
  refine (t41 hn hb hy).bind fun r1 q1 => (t45 q1).bind fun r2 q2 => ?_
  have := q2.2.1 (by omega)
  exact t53_0 (by omega) n _ _ _ _ _ q2.1 (by omega) (by simp only [List.length_nil]; omega) (fun x hx => by cases hx) q2.2.2.2
theorem t16 {n : Nat} (hn : 5000 ≤ n) {b : List Int} (hb : b.length ≤ 1048576) (hy : ∀ x ∈ b, 0 ≤ x ∧ x < 256) : ok (F16 n b) fun r => r.1.length ≤ 4 ∧ ∀ x ∈ r.1, x.length ≤ 4 := by
  unfold F16
  exact (t53 hn hb hy).bind fun r q => ok.some q
theorem t23 {n : Nat} (hn : 5000 ≤ n) {b : List Int} (hb : b.length ≤ 1048576) (hy : ∀ x ∈ b, 0 ≤ x ∧ x < 256) : ok (F23 n b) fun r => True := by
  unfold F23
  exact (t41 hn hb hy).bind fun r1 q1 => (t59 (by omega) q1).bind fun r2 q2 => (t59 (by omega) q2.2).bind fun r3 q3 => (t60 q3.2).bind fun r4 q4 => ok.iteb (fun _ => (t60 q4).bind fun r5 q5 => ok.iteb (fun _ => ok.some trivial) (fun _ => ok.some trivial)) (fun _ => (t60 q4).bind fun r5 q5 => ok.iteb (fun _ => ok.some trivial) (fun _ => ok.some trivial))
end Go.Eva
end
section
/- What the merging functions answer. -/
namespace Go.Eva
open Go.RowKit (wrap64)
set_option linter.unusedVariables false
set_option linter.unusedSimpArgs false

abbrev Rw := (ByteArray × (Int × (Int × (Bool × (Int × (Int × (Int × (Int × (Int × Int)))))))))
abbrev Rf := ByteArray × Int × Int × Bool × Int × Int × Int × Int × Int × Int × Unit
def rw0 : Rw := ((⟨#[]⟩ : ByteArray), ((0 : Int), ((0 : Int), (false, ((0 : Int), ((0 : Int), ((0 : Int), ((0 : Int), ((0 : Int), (0 : Int))))))))))
def toR (r : Rf) : Rw := (r.1, r.2.1, r.2.2.1, r.2.2.2.1, r.2.2.2.2.1, r.2.2.2.2.2.1, r.2.2.2.2.2.2.1, r.2.2.2.2.2.2.2.1, r.2.2.2.2.2.2.2.2.1, r.2.2.2.2.2.2.2.2.2.1)
def toF (a : Rw) : Rf := (a.1, a.2.1, a.2.2.1, a.2.2.2.1, a.2.2.2.2.1, a.2.2.2.2.2.1, a.2.2.2.2.2.2.1, a.2.2.2.2.2.2.2.1, a.2.2.2.2.2.2.2.2.1, a.2.2.2.2.2.2.2.2.2, ())
/-- Two rows merged. -/
noncomputable def mr (a b : Rw) : Rw := match F24 0 a.1 a.2.1 a.2.2.1 a.2.2.2.1 a.2.2.2.2.1 a.2.2.2.2.2.1 a.2.2.2.2.2.2.1 a.2.2.2.2.2.2.2.1 a.2.2.2.2.2.2.2.2.1 a.2.2.2.2.2.2.2.2.2 b.1 b.2.1 b.2.2.1 b.2.2.2.1 b.2.2.2.2.1 b.2.2.2.2.2.1 b.2.2.2.2.2.2.1 b.2.2.2.2.2.2.2.1 b.2.2.2.2.2.2.2.2.1 b.2.2.2.2.2.2.2.2.2 with
  | some r => toR r
  | none => rw0
theorem p24 {n : Nat} {s : ByteArray} {a b : Int} {t : Bool} {d e f g u v : Int} {s' : ByteArray} {a' b' : Int} {t' : Bool} {d' e' f' g' u' v' : Int} : ok (F24 n s a b t d e f g u v s' a' b' t' d' e' f' g' u' v') fun r => s.toList = s'.toList → r.1.toList = s.toList := by
  unfold F24
  refine ok.iteb (fun _ => ok.some fun h => h.symm) (fun _ => ok.iteb (fun _ => ok.some fun _ => rfl) (fun _ => ok.ite (fun _ => ok.some fun _ => rfl) (fun _ => ok.guard (by decide) (ok.guard (by decide) (ok.iteb (fun _ => ?_) (fun _ => ?_))))))
  · exact ok.ite (fun _ => ok.some fun _ => rfl) (fun _ => ok.ite (fun _ => ok.some fun _ => rfl) (fun _ => ok.some fun _ => rfl))
  · exact ok.ite (fun _ => ok.some fun _ => rfl) (fun _ => ok.ite (fun _ => ok.some fun _ => rfl) (fun _ => ok.some fun _ => rfl))
theorem t24 {n : Nat} (a b : Rw) : ok (F24 n a.1 a.2.1 a.2.2.1 a.2.2.2.1 a.2.2.2.2.1 a.2.2.2.2.2.1 a.2.2.2.2.2.2.1 a.2.2.2.2.2.2.2.1 a.2.2.2.2.2.2.2.2.1 a.2.2.2.2.2.2.2.2.2 b.1 b.2.1 b.2.2.1 b.2.2.2.1 b.2.2.2.2.1 b.2.2.2.2.2.1 b.2.2.2.2.2.2.1 b.2.2.2.2.2.2.2.1 b.2.2.2.2.2.2.2.2.1 b.2.2.2.2.2.2.2.2.2) fun r => r = toF (mr a b) := by
  obtain ⟨r, h, _⟩ := p24 (n := 0) (s := a.1) (a := a.2.1) (b := a.2.2.1) (t := a.2.2.2.1) (d := a.2.2.2.2.1) (e := a.2.2.2.2.2.1) (f := a.2.2.2.2.2.2.1) (g := a.2.2.2.2.2.2.2.1) (u := a.2.2.2.2.2.2.2.2.1) (v := a.2.2.2.2.2.2.2.2.2) (s' := b.1) (a' := b.2.1) (b' := b.2.2.1) (t' := b.2.2.2.1) (d' := b.2.2.2.2.1) (e' := b.2.2.2.2.2.1) (f' := b.2.2.2.2.2.2.1) (g' := b.2.2.2.2.2.2.2.1) (u' := b.2.2.2.2.2.2.2.2.1) (v' := b.2.2.2.2.2.2.2.2.2)
  have hm : mr a b = toR r := by unfold mr; rw [h]
  refine ⟨r, h, ?_⟩
  rw [hm]
  rfl
theorem mr_key {a b : Rw} (h : a.1.toList = b.1.toList) : (mr a b).1.toList = a.1.toList := by
  obtain ⟨r, h1, h2⟩ := p24 (n := 0) (s := a.1) (a := a.2.1) (b := a.2.2.1) (t := a.2.2.2.1) (d := a.2.2.2.2.1) (e := a.2.2.2.2.2.1) (f := a.2.2.2.2.2.2.1) (g := a.2.2.2.2.2.2.2.1) (u := a.2.2.2.2.2.2.2.2.1) (v := a.2.2.2.2.2.2.2.2.2) (s' := b.1) (a' := b.2.1) (b' := b.2.2.1) (t' := b.2.2.2.1) (d' := b.2.2.2.2.1) (e' := b.2.2.2.2.2.1) (f' := b.2.2.2.2.2.2.1) (g' := b.2.2.2.2.2.2.2.1) (u' := b.2.2.2.2.2.2.2.2.1) (v' := b.2.2.2.2.2.2.2.2.2)
  have hm : mr a b = toR r := by unfold mr; rw [h1]
  rw [hm]
  exact h2 h
theorem mr_zero (b : Rw) : mr rw0 b = b := by
  have : F24 0 rw0.1 rw0.2.1 rw0.2.2.1 rw0.2.2.2.1 rw0.2.2.2.2.1 rw0.2.2.2.2.2.1 rw0.2.2.2.2.2.2.1 rw0.2.2.2.2.2.2.2.1 rw0.2.2.2.2.2.2.2.2.1 rw0.2.2.2.2.2.2.2.2.2 b.1 b.2.1 b.2.2.1 b.2.2.2.1 b.2.2.2.2.1 b.2.2.2.2.2.1 b.2.2.2.2.2.2.1 b.2.2.2.2.2.2.2.1 b.2.2.2.2.2.2.2.2.1 b.2.2.2.2.2.2.2.2.2 = some (toF b) := by
    unfold F24
    rw [if_pos (by simp [rw0])]
    rfl
  unfold mr
  rw [this]
  rfl
theorem mod48 (x : Int) : (wrap64 (x.tmod 281474976710656 + 281474976710656)).tmod 281474976710656 = x % 281474976710656 := by
  have h1 := Int.tmod_lt_of_pos x (show (0 : Int) < 281474976710656 by decide)
  have h2 : -281474976710656 < x.tmod 281474976710656 := by
    have := Int.lt_tmod_of_pos x (show (0 : Int) < 281474976710656 by decide)
    exact this
  rw [w64 (by omega) (by omega), Int.tmod_eq_emod_of_nonneg (by omega)]
  have h3 := Int.tmod_eq_emod (a := x) (b := 281474976710656)
  rw [h3]
  split <;> omega
theorem t62 {n : Nat} {x : Int} : F62 n x = some (x % 281474976710656, ()) := by
  unfold F62
  rw [if_pos (by decide), if_pos (by decide), mod48]
theorem f26 {n : Nat} {s : ByteArray} {a b : Int} {t : Bool} {d e f g u v : Int} {s' : ByteArray} {a' b' : Int} {t' : Bool} {d' e' f' g' u' v' : Int} : F26 n s a b t d e f g u v s' a' b' t' d' e' f' g' u' v' = F24 n s a b t d e f g u v s' a' b' t' d' e' f' g' u' v' := by
  have hs : (wrap64 (b % 281474976710656 + b' % 281474976710656)) % 281474976710656 = (wrap64 (b + b')) % 281474976710656 := by unfold wrap64; omega
  have hd : decide ((281474976710656 : Nat) ≠ 0) = true := by decide
  have m1 : mn f' f' = f' := by unfold mn; split <;> rfl
  have m2 : mx g' g' = g' := by unfold mx; split <;> rfl
  unfold F26 F24
  simp only [t62, Option.bind_some, mod48, hs, if_pos hd, m1, m2, ite_self]
theorem t26 {n : Nat} (a b : Rw) : ok (F26 n a.1 a.2.1 a.2.2.1 a.2.2.2.1 a.2.2.2.2.1 a.2.2.2.2.2.1 a.2.2.2.2.2.2.1 a.2.2.2.2.2.2.2.1 a.2.2.2.2.2.2.2.2.1 a.2.2.2.2.2.2.2.2.2 b.1 b.2.1 b.2.2.1 b.2.2.2.1 b.2.2.2.2.1 b.2.2.2.2.2.1 b.2.2.2.2.2.2.1 b.2.2.2.2.2.2.2.1 b.2.2.2.2.2.2.2.2.1 b.2.2.2.2.2.2.2.2.2) fun r => r = toF (mr a b) := by
  rw [f26]
  exact t24 a b
end Go.Eva
end
section
/- Reports merged. -/
namespace Go.Eva
open Go.RowKit (wrap64)
set_option linter.unusedVariables false
set_option linter.unusedSimpArgs false

/-- The place of the first that p is true of, counted from j; or -1. -/
def fi {α : Type} (p : α → Bool) : List α → Int → Int
  | [], _ => -1
  | x :: xs, j => if p x = true then j else fi p xs (j + 1)
def keq (s : ByteArray) (x : Rw) : Bool := decide (x.1.toList = s.toList)
def kgt (s : ByteArray) (x : Rw) : Bool := !(Op.bytesLess x.1.toList s.toList || decide (x.1.toList = s.toList))
noncomputable def rep (r : Rw) : List Rw → Option (List Rw)
  | [] => none
  | x :: xs => if keq r.1 x = true then some (mr x r :: xs) else (rep r xs).map (x :: ·)
def ins (r : Rw) : List Rw → List Rw
  | [] => [r]
  | x :: xs => if kgt r.1 x = true then r :: x :: xs else x :: ins r xs
noncomputable def upd (out : List Rw) (r : Rw) : List Rw := (rep r out).getD (ins r out)
def lk (s : ByteArray) : List Rw → Option Rw
  | [] => none
  | x :: xs => if keq s x = true then some x else lk s xs

theorem fi_rep (r : Rw) : ∀ (out : List Rw) (j : Int), 0 ≤ j → (fi (keq r.1) out j = -1 ∧ rep r out = none) ∨ ∃ i, ∃ h : i < out.length, fi (keq r.1) out j = j + i ∧ rep r out = some (out.set i (mr out[i] r))
  | [], j, hj => .inl ⟨rfl, rfl⟩
  | x :: xs, j, hj => by
    by_cases h : keq r.1 x = true
    · exact .inr ⟨0, by simp, by simp [fi, h], by simp [rep, h]⟩
    · rcases fi_rep r xs (j + 1) (by omega) with ⟨h1, h2⟩ | ⟨i, h1, h2, h3⟩
      · exact .inl ⟨by simp [fi, h, h1], by simp [rep, h, h2]⟩
      · exact .inr ⟨i + 1, by simp; omega, by simp only [fi, h, if_false, Bool.false_eq_true]; rw [h2]; omega, by simp [rep, h, h3]⟩
theorem fi_ins (r : Rw) : ∀ (out : List Rw) (j : Int), 0 ≤ j → (fi (kgt r.1) out j = -1 ∧ ins r out = out ++ [r]) ∨ ∃ i, i < out.length ∧ fi (kgt r.1) out j = j + i ∧ ins r out = out.take i ++ [r] ++ out.drop i
  | [], j, hj => .inl ⟨rfl, rfl⟩
  | x :: xs, j, hj => by
    by_cases h : kgt r.1 x = true
    · exact .inr ⟨0, by simp, by simp [fi, h], by simp [ins, h]⟩
    · rcases fi_ins r xs (j + 1) (by omega) with ⟨h1, h2⟩ | ⟨i, h1, h2, h3⟩
      · exact .inl ⟨by simp [fi, h, h1], by simp [ins, h, h2]⟩
      · exact .inr ⟨i + 1, by simp; omega, by simp only [fi, h, if_false, Bool.false_eq_true]; rw [h2]; omega, by simp [ins, h, h3]⟩
theorem fi_look (s : ByteArray) : ∀ (out : List Rw) (j : Int), 0 ≤ j → (fi (keq s) out j = -1 ∧ lk s out = none) ∨ ∃ i, ∃ h : i < out.length, fi (keq s) out j = j + i ∧ lk s out = some out[i]
  | [], j, hj => .inl ⟨rfl, rfl⟩
  | x :: xs, j, hj => by
    by_cases h : keq s x = true
    · exact .inr ⟨0, by simp, by simp [fi, h], by simp [lk, h]⟩
    · rcases fi_look s xs (j + 1) (by omega) with ⟨h1, h2⟩ | ⟨i, h1, h2, h3⟩
      · exact .inl ⟨by simp [fi, h, h1], by simp [lk, h, h2]⟩
      · exact .inr ⟨i + 1, by simp; omega, by simp only [fi, h, if_false, Bool.false_eq_true]; rw [h2]; omega, by simp [lk, h, h3]⟩

theorem drop_cons {α : Type} {l : List α} {i : Nat} (h : i < l.length) : l.drop i = l[i] :: l.drop (i + 1) := List.drop_eq_getElem_cons h
theorem w1 {i n : Nat} (h : i < n) (hn : n ≤ 1000000000) : wrap64 ((i : Int) + 1) = ((i + 1 : Nat) : Int) := by rw [w64 (by omega) (by omega)]; rfl

theorem t56_74_0 {n : Nat} {l : List Rw} (hl : l.length ≤ 1000000000) {s : ByteArray} : ∀ (k i : Nat), i ≤ l.length → l.length - i < k → ok (lp56_74_0 n k l (l.length : Int) (i : Int) s) fun r => r = (fi (keq s) (l.drop i) (i : Int), s, ())
  | 0, i, h, hk => by omega
  | k + 1, i, h, hk => by
    show ok (st56_74_0 n (lp56_74_0 n k) l _ _ s) _
    unfold st56_74_0
    refine ok.ite (fun h1 => ok.guard (by omega) (ok.guard h1 ?_)) (fun h1 => ok.some ?_)
    · have hi : i < l.length := by omega
      rw [rdOf_nat hi, drop_cons hi]
      unfold F74
      simp only [Option.bind_some, fi]
      refine ok.iteb (fun h2 => ok.some ?_) (fun h2 => ?_)
      · rw [if_pos (show keq s l[i] = true from h2)]
      · rw [if_neg (by rw [show keq s l[i] = false from h2]; decide), w1 hi hl]
        exact t56_74_0 hl k (i + 1) (by omega) (by omega)
    · rw [List.drop_eq_nil_of_le (by omega)]; rfl
theorem t55 {n : Nat} {l : List Rw} (hl : l.length ≤ 1000000000) (hn : l.length < n) {s : ByteArray} : ok (F55 n l s) fun r => r = (fi (keq s) l 0, ()) := by
  unfold F55 F56_74 st56_74
  refine (t56_74_0 hl (n := n) (s := s) n 0 (by omega) (by omega)).bind fun r q => ok.some ?_
  rw [q]; rfl
theorem t56_57_0 {n : Nat} {l : List Rw} (hl : l.length ≤ 1000000000) {s : ByteArray} {i4 i5 : Int} {b6 : Bool} {i7 i8 i9 i10 i11 i12 : Int} : ∀ (k i : Nat), i ≤ l.length → l.length - i < k → ok (lp56_57_0 n k l (l.length : Int) (i : Int) s i4 i5 b6 i7 i8 i9 i10 i11 i12) fun r => r = (fi (kgt s) (l.drop i) (i : Int), s, i4, i5, b6, i7, i8, i9, i10, i11, i12, ())
  | 0, i, h, hk => by omega
  | k + 1, i, h, hk => by
    show ok (st56_57_0 n (lp56_57_0 n k) l _ _ s i4 i5 b6 i7 i8 i9 i10 i11 i12) _
    unfold st56_57_0
    refine ok.ite (fun h1 => ok.guard (by omega) (ok.guard h1 ?_)) (fun h1 => ok.some ?_)
    · have hi : i < l.length := by omega
      rw [rdOf_nat hi, drop_cons hi]
      unfold F57
      simp only [Option.bind_some, fi]
      refine ok.iteb (fun h2 => ok.some ?_) (fun h2 => ?_)
      · rw [if_pos (show kgt s l[i] = true from h2)]
      · rw [if_neg (by rw [show kgt s l[i] = false from h2]; decide), w1 hi hl]
        exact t56_57_0 hl k (i + 1) (by omega) (by omega)
    · rw [List.drop_eq_nil_of_le (by omega)]; rfl
theorem ins_len (r : Rw) : ∀ out : List Rw, (ins r out).length = out.length + 1
  | [] => rfl
  | x :: xs => by
    unfold ins
    split
    · rfl
    · rw [List.length_cons, ins_len r xs, List.length_cons]
theorem upd_len (out : List Rw) (r : Rw) : (upd out r).length ≤ out.length + 1 := by
  unfold upd
  rcases fi_rep r out 0 (by omega) with ⟨_, h⟩ | ⟨i, h1, _, h⟩
  · rw [h]; simp [ins_len]
  · rw [h]; simp
theorem t19_0 {n : Nat} {b : List Rw} (hb : b.length ≤ 1000) (hn : 3000 ≤ n) : ∀ (k i : Nat) (out : List Rw), i ≤ b.length → b.length - i < k → out.length + (b.length - i) ≤ 2000 → ok (lp19_0 n k b (b.length : Int) (i : Int) out) fun r => r = ((b.drop i).foldl upd out, ())
  | 0, i, out, h, hk, ho => by omega
  | k + 1, i, out, h, hk, ho => by
    show ok (st19_0 n (lp19_0 n k) b _ _ out) _
    unfold st19_0
    refine ok.ite (fun h1 => ok.guard (by omega) (ok.guard h1 ?_)) (fun h1 => ok.some ?_)
    · have hi : i < b.length := by omega
      rw [rdOf_nat hi, drop_cons hi]
      simp only [List.foldl_cons]
      have hlen := upd_len out b[i]
      refine (t55 (n := n) (l := out) (s := b[i].1) (by omega) (by omega)).bind fun r2 q2 => ?_
      subst q2
      have hstep : ∀ out', out' = upd out b[i] → ok (lp19_0 n k b (b.length : Int) (wrap64 ((i : Int) + 1)) out') fun r => r = ((b.drop (i + 1)).foldl upd (upd out b[i]), ()) := fun out' ho' => by
        subst ho'
        rw [w1 hi (by omega)]
        exact t19_0 hb hn k (i + 1) _ (by omega) (by omega) (by omega)
      rcases fi_rep b[i] out 0 (by omega) with ⟨e1, e2⟩ | ⟨j, hj, e1, e2⟩
      · have hu : upd out b[i] = ins b[i] out := by unfold upd; rw [e2]; rfl
        refine ok.ite (fun q => by simp only [e1] at q; omega) (fun _ => ?_)
        refine (t56_57_0 (n := n) (l := out) (by omega) n 0 (by omega) (by omega)).bind fun r4 q4 => ?_
        subst q4
        rcases fi_ins b[i] out 0 (by omega) with ⟨e3, e4⟩ | ⟨j, hj, e3, e4⟩
        · refine ok.ite (fun _ => ?_) (fun q => by simp only [List.drop_zero, Int.ofNat_zero, e3] at q; exact absurd (by decide) q)
          unfold F58 insF
          refine (ok.guard (by omega) (ok.guard (by omega) (ok.guard rfl (ok.guard (by omega) (ok.some rfl)))) : ok _ fun r => r = _).bind fun r5 q5 => ?_
          subst q5
          refine hstep _ ?_
          rw [hu, e4]
          simp
        · have e3 : fi (kgt b[i].1) out 0 = (j : Int) := by rw [e3]; omega
          refine ok.ite (fun q => by simp only [List.drop_zero, Int.ofNat_zero, e3] at q; omega) (fun q => ?_)
          simp only [List.drop_zero, Int.ofNat_zero]
          rw [e3]
          unfold F58 insF
          refine (ok.guard (by omega) (ok.guard (by omega) (ok.guard rfl (ok.guard (by omega) (ok.some rfl)))) : ok _ fun r => r = _).bind fun r5 q5 => ?_
          subst q5
          refine hstep _ ?_
          rw [hu, e4]
          simp
      · have hu : upd out b[i] = out.set j (mr out[j] b[i]) := by unfold upd; rw [e2]; rfl
        have e1 : fi (keq b[i].1) out 0 = (j : Int) := by rw [e1]; omega
        rw [e1]
        refine ok.ite (fun _ => ok.guard (by omega) (ok.guard (by omega) ?_)) (fun q => by simp only at q; omega)
        rw [rdOf_nat hj]
        refine (t24 out[j] b[i]).bind fun r3 q3 => ok.guard (by omega) (ok.guard (by omega) ?_)
        subst q3
        refine hstep _ ?_
        rw [hu, Int.toNat_natCast]
        rfl
    · rw [List.drop_eq_nil_of_le (by omega)]; rfl
theorem t19 {n : Nat} {a b : List Rw} (ha : a.length ≤ 1000) (hb : b.length ≤ 1000) (hn : 3000 ≤ n) : ok (F19 n a b) fun r => r = (b.foldl upd a, ()) := by
  unfold F19 st19 F46 cloF
  refine (ok.guard (by simp only [List.length_nil]; omega) (ok.some rfl) : ok _ fun r => r = _).bind fun r1 q1 => ?_
  subst q1
  exact t19_0 hb hn n 0 _ (by omega) (by omega) (by simp only [List.nil_append]; omega)
/-- All reports merged. -/
noncomputable def ov (rs : List (List Rw)) (out : List Rw) : List Rw := rs.foldl (fun o l => l.foldl upd o) out
theorem foldl_upd_len (b : List Rw) : ∀ out : List Rw, (b.foldl upd out).length ≤ out.length + b.length := by
  induction b with
  | nil => intro out; exact Nat.le_refl _
  | cons x b ih => intro out; have := ih (upd out x); have := upd_len out x; simp only [List.foldl_cons, List.length_cons]; omega
theorem ov_len (rs : List (List Rw)) (m : Nat) : ∀ out : List Rw, (∀ l ∈ rs, l.length ≤ m) → (ov rs out).length ≤ out.length + m * rs.length := by
  induction rs with
  | nil => intro out _; exact Nat.le_refl _
  | cons x b ih =>
    intro out h
    have h1 := ih (x.foldl upd out) (fun l hl => h l (List.mem_cons_of_mem _ hl))
    have h2 := foldl_upd_len x out
    have h3 := h x List.mem_cons_self
    show (ov b (x.foldl upd out)).length ≤ _
    rw [List.length_cons, Nat.mul_add]
    omega
theorem t17_0 {n : Nat} {rs : List (List Rw)} (hr : rs.length ≤ 100) (hl : ∀ l ∈ rs, l.length ≤ 8) (hn : 3000 ≤ n) : ∀ (k i : Nat) (out : List Rw), i ≤ rs.length → rs.length - i < k → out.length + 8 * (rs.length - i) ≤ 900 → ok (lp17_0 n k rs (rs.length : Int) (i : Int) out) fun r => r = (ov (rs.drop i) out, ())
  | 0, i, out, h, hk, ho => by omega
  | k + 1, i, out, h, hk, ho => by
    show ok (st17_0 n (lp17_0 n k) rs _ _ out) _
    unfold st17_0
    refine ok.ite (fun h1 => ok.guard (by omega) (ok.guard h1 ?_)) (fun h1 => ok.some ?_)
    · have hi : i < rs.length := by omega
      have hm := hl rs[i] (List.getElem_mem hi)
      rw [rdOf_nat hi, drop_cons hi]
      refine (t19 (n := n) (a := out) (b := rs[i]) (by omega) (by omega) hn).bind fun r1 q1 => ?_
      subst q1
      rw [w1 hi (by omega)]
      have := foldl_upd_len rs[i] out
      exact t17_0 hr hl hn k (i + 1) _ (by omega) (by omega) (by show (List.foldl upd out rs[i]).length + _ ≤ _; omega)
    · rw [List.drop_eq_nil_of_le (by omega)]; rfl
theorem t17 {n : Nat} {rs : List (List Rw)} (hr : rs.length ≤ 100) (hl : ∀ l ∈ rs, l.length ≤ 8) (hn : 3000 ≤ n) : ok (F17 n rs) fun r => r = (ov rs [], ()) := by
  unfold F17 st17
  exact t17_0 hr hl hn n 0 _ (by omega) (by omega) (by simp only [List.length_nil]; omega)
/-- A row found. -/
theorem t20 {n : Nat} {l : List Rw} (hl : l.length ≤ 1000000000) (hn : l.length < n) {s : ByteArray} : ok (F20 n l s) fun r => r = match lk s l with
    | none => ((⟨#[]⟩ : ByteArray), 0, 0, false, 0, 0, 0, 0, 0, 0, false, ())
    | some a => (a.1, a.2.1, a.2.2.1, a.2.2.2.1, a.2.2.2.2.1, a.2.2.2.2.2.1, a.2.2.2.2.2.2.1, a.2.2.2.2.2.2.2.1, a.2.2.2.2.2.2.2.2.1, a.2.2.2.2.2.2.2.2.2, true, ()) := by
  unfold F20
  refine (t55 (s := s) hl hn).bind fun r q => ?_
  subst q
  rcases fi_look s l 0 (by omega) with ⟨e1, e2⟩ | ⟨i, hi, e1, e2⟩
  · rw [e2]
    exact ok.ite (fun _ => ok.some rfl) (fun q => by simp only [e1] at q; exact absurd (by decide) q)
  · have e1 : fi (keq s) l 0 = (i : Int) := by rw [e1]; omega
    rw [e2, e1]
    refine ok.ite (fun q => by simp only at q; omega) (fun _ => ok.guard (by omega) (ok.guard (by omega) (ok.some ?_)))
    rw [rdOf_nat hi]
end Go.Eva
end
section
/- Totals, the reference's merging, comparisons. -/
namespace Go.Eva
open Go.RowKit (wrap64)
set_option linter.unusedVariables false
set_option linter.unusedSimpArgs false

noncomputable def tst (s : ByteArray) (t r : Rw) : Rw := if keq s r = true then mr t r else t
noncomputable def tot (s : ByteArray) (rs : List (List Rw)) (t : Rw) : Rw := rs.foldl (fun t l => l.foldl (tst s) t) t

theorem t21_1 {n : Nat} {g0 : _} {s : ByteArray} {rs : List (List Rw)} {i2 i3 : Int} {l : List Rw} (hl : l.length ≤ 1000) {z7 : ByteArray} {z8 z9 : Int} {z10 : Bool} {z11 z12 z13 z14 z15 z16 : Int} {Q : Rf → Prop} : ∀ (k i : Nat) (t : Rw), i ≤ l.length → l.length - i < k →
    (∀ t' : Rw, t' = (l.drop i).foldl (tst s) t → ok (g0 s rs i2 (wrap64 (i3 + 1)) z7 z8 z9 z10 z11 z12 z13 z14 z15 z16 t'.1 t'.2.1 t'.2.2.1 t'.2.2.2.1 t'.2.2.2.2.1 t'.2.2.2.2.2.1 t'.2.2.2.2.2.2.1 t'.2.2.2.2.2.2.2.1 t'.2.2.2.2.2.2.2.2.1 t'.2.2.2.2.2.2.2.2.2) Q) →
    ok (lp21_1 n g0 k s rs i2 i3 l (l.length : Int) (i : Int) z7 z8 z9 z10 z11 z12 z13 z14 z15 z16 t.1 t.2.1 t.2.2.1 t.2.2.2.1 t.2.2.2.2.1 t.2.2.2.2.2.1 t.2.2.2.2.2.2.1 t.2.2.2.2.2.2.2.1 t.2.2.2.2.2.2.2.2.1 t.2.2.2.2.2.2.2.2.2) Q
  | 0, i, t, h, hk, hQ => by omega
  | k + 1, i, t, h, hk, hQ => by
    show ok (st21_1 n g0 (lp21_1 n g0 k) s rs i2 i3 l _ _ z7 z8 z9 z10 z11 z12 z13 z14 z15 z16 _ _ _ _ _ _ _ _ _ _) _
    unfold st21_1
    refine ok.ite (fun h1 => ok.guard (by omega) (ok.guard h1 ?_)) (fun h1 => ?_)
    · have hi : i < l.length := by omega
      rw [drop_cons hi] at hQ
      rw [rdOf_nat hi, w1 hi (by omega)]
      refine ok.iteb (fun h2 => ?_) (fun h2 => ?_)
      · refine (t24 t l[i]).bind fun r q => ?_
        subst q
        refine t21_1 hl k (i + 1) (mr t l[i]) (by omega) (by omega) (fun t' ht => hQ t' ?_)
        rw [ht, List.foldl_cons]
        unfold tst
        rw [if_pos (show keq s l[i] = true from h2)]
      · refine t21_1 hl k (i + 1) t (by omega) (by omega) (fun t' ht => hQ t' ?_)
        rw [ht, List.foldl_cons]
        conv => rhs; arg 2; unfold tst
        rw [if_neg (by rw [show keq s l[i] = false from h2]; decide)]
    · rw [List.drop_eq_nil_of_le (by omega)] at hQ
      exact hQ t rfl
theorem t21_0 {n : Nat} {s : ByteArray} {rs : List (List Rw)} (hr : rs.length ≤ 100) (hl : ∀ l ∈ rs, l.length ≤ 8) (hn : 3000 ≤ n) {z7 : ByteArray} {z8 z9 : Int} {z10 : Bool} {z11 z12 z13 z14 z15 z16 : Int} : ∀ (k i : Nat) (t : Rw), i ≤ rs.length → rs.length - i < k →
    ok (lp21_0 n k s rs (rs.length : Int) (i : Int) z7 z8 z9 z10 z11 z12 z13 z14 z15 z16 t.1 t.2.1 t.2.2.1 t.2.2.2.1 t.2.2.2.2.1 t.2.2.2.2.2.1 t.2.2.2.2.2.2.1 t.2.2.2.2.2.2.2.1 t.2.2.2.2.2.2.2.2.1 t.2.2.2.2.2.2.2.2.2) fun r => r = toF (tot s (rs.drop i) t)
  | 0, i, t, h, hk => by omega
  | k + 1, i, t, h, hk => by
    show ok (st21_0 n (lp21_1 n (lp21_0 n k) n) (lp21_0 n k) s rs _ _ z7 z8 z9 z10 z11 z12 z13 z14 z15 z16 _ _ _ _ _ _ _ _ _ _) _
    unfold st21_0
    refine ok.ite (fun h1 => ok.guard (by omega) (ok.guard h1 ?_)) (fun h1 => ok.some ?_)
    · have hi : i < rs.length := by omega
      have hm := hl rs[i] (List.getElem_mem hi)
      rw [drop_cons hi]
      rw [rdOf_nat hi]
      refine t21_1 (by omega) n 0 t (by omega) (by omega) (fun t' ht => ?_)
      rw [w1 hi (by omega)]
      have := t21_0 (z7 := z7) (z8 := z8) (z9 := z9) (z10 := z10) (z11 := z11) (z12 := z12) (z13 := z13) (z14 := z14) (z15 := z15) (z16 := z16) (s := s) hr hl hn k (i + 1) t' (by omega) (by omega)
      rw [ht] at this
      rw [ht]
      exact this
    · rw [List.drop_eq_nil_of_le (by omega)]; rfl
theorem t21 {n : Nat} {s : ByteArray} {rs : List (List Rw)} (hr : rs.length ≤ 100) (hl : ∀ l ∈ rs, l.length ≤ 8) (hn : 3000 ≤ n) : ok (F21 n rs s) fun r => r = toF (tot s rs rw0) := by
  unfold F21 st21
  exact t21_0 hr hl hn n 0 rw0 (by omega) (by omega)
theorem t22_1 {n : Nat} {g0 : _} {s : ByteArray} {rs : List (List Rw)} {i2 : Nat} (hi2 : i2 < rs.length) (hl : rs[i2].length ≤ 1000) {z7 : ByteArray} {z8 z9 : Int} {z10 : Bool} {z11 z12 z13 z14 z15 z16 : Int} {Q : Rf → Prop} : ∀ (k i : Nat) (t : Rw), i ≤ rs[i2].length → rs[i2].length - i < k →
    (∀ t' : Rw, t' = (rs[i2].drop i).foldl (tst s) t → ok (g0 rs s (wrap64 ((i2 : Int) + 1)) z7 z8 z9 z10 z11 z12 z13 z14 z15 z16 t'.1 t'.2.1 t'.2.2.1 t'.2.2.2.1 t'.2.2.2.2.1 t'.2.2.2.2.2.1 t'.2.2.2.2.2.2.1 t'.2.2.2.2.2.2.2.1 t'.2.2.2.2.2.2.2.2.1 t'.2.2.2.2.2.2.2.2.2) Q) →
    ok (lp22_1 n g0 k rs s (i2 : Int) (i : Int) z7 z8 z9 z10 z11 z12 z13 z14 z15 z16 t.1 t.2.1 t.2.2.1 t.2.2.2.1 t.2.2.2.2.1 t.2.2.2.2.2.1 t.2.2.2.2.2.2.1 t.2.2.2.2.2.2.2.1 t.2.2.2.2.2.2.2.2.1 t.2.2.2.2.2.2.2.2.2) Q
  | 0, i, t, h, hk, hQ => by omega
  | k + 1, i, t, h, hk, hQ => by
    show ok (st22_1 n g0 (lp22_1 n g0 k) rs s _ _ z7 z8 z9 z10 z11 z12 z13 z14 z15 z16 _ _ _ _ _ _ _ _ _ _) _
    unfold st22_1
    rw [rdOf_nat hi2]
    refine ok.guard (by omega) (ok.guard (by omega) (ok.ite (fun h1 => ok.guard (by omega) (ok.guard (by omega) (ok.guard (by omega) (ok.guard h1 ?_)))) (fun h1 => ?_)))
    · have hi : i < rs[i2].length := by omega
      rw [drop_cons hi] at hQ
      rw [rdOf_nat hi, w1 hi (by omega)]
      refine ok.iteb (fun h2 => ok.guard (by omega) (ok.guard (by omega) (ok.guard (by omega) (ok.guard h1 ?_)))) (fun h2 => ?_)
      · refine (t26 t rs[i2][i]).bind fun r q => ?_
        subst q
        refine t22_1 hi2 hl k (i + 1) (mr t rs[i2][i]) (by omega) (by omega) (fun t' ht => hQ t' ?_)
        rw [ht, List.foldl_cons]
        unfold tst
        rw [if_pos (show keq s rs[i2][i] = true from h2)]
      · refine t22_1 hi2 hl k (i + 1) t (by omega) (by omega) (fun t' ht => hQ t' ?_)
        rw [ht, List.foldl_cons]
        conv => rhs; arg 2; unfold tst
        rw [if_neg (by rw [show keq s rs[i2][i] = false from h2]; decide)]
    · rw [List.drop_eq_nil_of_le (by omega)] at hQ
      exact hQ t rfl
theorem t22_0 {n : Nat} {s : ByteArray} {rs : List (List Rw)} (hr : rs.length ≤ 100) (hl : ∀ l ∈ rs, l.length ≤ 8) (hn : 3000 ≤ n) {z7 : ByteArray} {z8 z9 : Int} {z10 : Bool} {z11 z12 z13 z14 z15 z16 : Int} : ∀ (k i : Nat) (t : Rw), i ≤ rs.length → rs.length - i < k →
    ok (lp22_0 n k rs s (i : Int) z7 z8 z9 z10 z11 z12 z13 z14 z15 z16 t.1 t.2.1 t.2.2.1 t.2.2.2.1 t.2.2.2.2.1 t.2.2.2.2.2.1 t.2.2.2.2.2.2.1 t.2.2.2.2.2.2.2.1 t.2.2.2.2.2.2.2.2.1 t.2.2.2.2.2.2.2.2.2) fun r => r = toF (tot s (rs.drop i) t)
  | 0, i, t, h, hk => by omega
  | k + 1, i, t, h, hk => by
    show ok (st22_0 n (lp22_1 n (lp22_0 n k) n) (lp22_0 n k) rs s _ z7 z8 z9 z10 z11 z12 z13 z14 z15 z16 _ _ _ _ _ _ _ _ _ _) _
    unfold st22_0
    refine ok.ite (fun h1 => ?_) (fun h1 => ok.some ?_)
    · have hi : i < rs.length := by omega
      have hm := hl rs[i] (List.getElem_mem hi)
      rw [drop_cons hi]
      refine t22_1 hi (by omega) n 0 t (by omega) (by omega) (fun t' ht => ?_)
      rw [w1 hi (by omega)]
      have := t22_0 (z7 := z7) (z8 := z8) (z9 := z9) (z10 := z10) (z11 := z11) (z12 := z12) (z13 := z13) (z14 := z14) (z15 := z15) (z16 := z16) (s := s) hr hl hn k (i + 1) t' (by omega) (by omega)
      rw [ht] at this
      rw [ht]
      exact this
    · rw [List.drop_eq_nil_of_le (by omega)]; rfl
theorem t22 {n : Nat} {s : ByteArray} {rs : List (List Rw)} (hr : rs.length ≤ 100) (hl : ∀ l ∈ rs, l.length ≤ 8) (hn : 3000 ≤ n) : ok (F22 n rs s) fun r => r = toF (tot s rs rw0) := by
  unfold F22 st22
  exact t22_0 hr hl hn n 0 rw0 (by omega) (by omega)

theorem rep_none (r : Rw) : ∀ l : List Rw, (∀ j (h : j < l.length), keq r.1 l[j] = false) → rep r l = none
  | [], _ => rfl
  | x :: xs, h => by
    unfold rep
    rw [if_neg (by rw [show keq r.1 x = false from h 0 (by simp)]; decide), rep_none r xs (fun j hj => h (j + 1) (by simpa using hj))]; rfl
theorem rep_some (r : Rw) : ∀ (l : List Rw) (i : Nat) (hi : i < l.length), (∀ j (h : j < i), keq r.1 l[j] = false) → keq r.1 l[i] = true → rep r l = some (l.set i (mr l[i] r))
  | x :: xs, 0, _, _, h2 => by
    unfold rep
    rw [if_pos (show keq r.1 x = true from h2)]; rfl
  | x :: xs, i + 1, hi, h1, h2 => by
    unfold rep
    rw [if_neg (by rw [show keq r.1 x = false from h1 0 (by omega)]; decide), rep_some r xs i (by simpa using hi) (fun j hj => h1 (j + 1) (by omega)) h2]; rfl

theorem t80_0 {n : Nat} {l : List Rw} (hl : l.length ≤ 1000) {r : Rw} (hno : ∀ j (h : j < l.length), keq r.1 l[j] = false) : ∀ (k i : Nat) (b : Bool) (out : List Rw), i ≤ l.length → l.length - i < k → out.length + (l.length - i) ≤ 1999 + b.toNat →
    ok (lp80_0 n k b (i : Int) l r.1 r.2.1 r.2.2.1 r.2.2.2.1 r.2.2.2.2.1 r.2.2.2.2.2.1 r.2.2.2.2.2.2.1 r.2.2.2.2.2.2.2.1 r.2.2.2.2.2.2.2.2.1 r.2.2.2.2.2.2.2.2.2 out) fun x => x = (out ++ (if b = true then l.drop i else ins r (l.drop i)), ())
  | 0, i, b, out, h, hk, ho => by omega
  | k + 1, i, b, out, h, hk, ho => by
    have hbn : b.toNat ≤ 1 := by cases b <;> decide
    show ok (st80_0 n (lp80_0 n k) b _ l _ _ _ _ _ _ _ _ _ _ out) _
    unfold st80_0
    refine ok.ite (fun h1 => ok.guard (by omega) (ok.guard h1 ?_)) (fun h1 => ?_)
    · have hi : i < l.length := by omega
      have hk1 := hno i hi
      rw [rdOf_nat hi, drop_cons hi, w1 hi (by omega)]
      have hj : (b = true ∨ kgt r.1 l[i] = false) → ok (j80_0 n (lp80_0 n k) b (i : Int) l r.1 r.2.1 r.2.2.1 r.2.2.2.1 r.2.2.2.2.1 r.2.2.2.2.2.1 r.2.2.2.2.2.2.1 r.2.2.2.2.2.2.2.1 r.2.2.2.2.2.2.2.2.1 r.2.2.2.2.2.2.2.2.2 out) fun x => x = (out ++ (if b = true then l[i] :: l.drop (i + 1) else ins r (l[i] :: l.drop (i + 1))), ()) := fun hb => by
        unfold j80_0
        refine ok.guard (by omega) (ok.guard h1 (ok.guard (by simp only [List.length_cons, List.length_nil]; omega) ?_))
        rw [rdOf_nat hi, w1 hi (by omega)]
        refine (t80_0 hl hno k (i + 1) b (out ++ [l[i]]) (by omega) (by omega) (by simp only [List.length_append, List.length_cons, List.length_nil]; omega)).mono fun x hx => ?_
        rw [hx]
        cases b with
        | true => simp
        | false =>
          rcases hb with hb | hb
          · cases hb
          · simp [ins, hb]
      refine ok.iteb (fun h2 => by rw [show keq r.1 l[i] = true from h2] at hk1; cases hk1) (fun h2 => ok.iteb (fun h3 => ok.guard (by omega) (ok.guard h1 (ok.iteb (fun h4 => ?_) (fun h4 => hj (.inr h4))))) (fun h3 => hj (.inl (by simpa using h3))))
      refine ok.guard (by simp only [List.length_cons, List.length_nil]; omega) (ok.guard (by omega) (ok.guard h1 (ok.guard (by simp only [List.length_append, List.length_cons, List.length_nil]; omega) ?_)))
      have hb : b = false := by simpa using h3
      have hb0 : b.toNat = 0 := by rw [hb]; rfl
      refine (t80_0 hl hno k (i + 1) true (out ++ [r] ++ [l[i]]) (by omega) (by omega) (by simp only [List.length_append, List.length_cons, List.length_nil, Bool.toNat_true]; omega)).mono fun x hx => ?_
      rw [hx]
      have hg : kgt r.1 l[i] = true := h4
      subst hb
      simp [ins, hg]
    · rw [List.drop_eq_nil_of_le (by omega)]
      refine ok.iteb (fun h3 => ok.guard (by simp only [List.length_cons, List.length_nil]; omega) (ok.some ?_)) (fun h3 => ok.some ?_)
      · have hb : b = false := by simpa using h3
        subst hb
        rfl
      · have hb : b = true := by simpa using h3
        subst hb
        simp
theorem t80 {n : Nat} {l : List Rw} (hl : l.length ≤ 1000) {r : Rw} (hno : ∀ j (h : j < l.length), keq r.1 l[j] = false) (hn : 3000 ≤ n) : ok (F80 n l r.1 r.2.1 r.2.2.1 r.2.2.2.1 r.2.2.2.2.1 r.2.2.2.2.2.1 r.2.2.2.2.2.2.1 r.2.2.2.2.2.2.2.1 r.2.2.2.2.2.2.2.2.1 r.2.2.2.2.2.2.2.2.2) fun x => x = (ins r l, ()) := by
  unfold F80 st80
  refine (t80_0 hl hno n 0 false [] (by omega) (by omega) (by simp only [List.length_nil]; omega)).mono fun x hx => ?_
  rw [hx]; rfl
theorem t61_1 {n : Nat} (hn : 3000 ≤ n) {g0 : _} {b : List Rw} {i1 : Nat} (hi1 : i1 < b.length) {l : List Rw} (hl : l.length ≤ 1000) {Q : List Rw × Unit → Prop} (hQ : ok (g0 b (wrap64 ((i1 : Int) + 1)) (upd l b[i1])) Q) : ∀ (k i : Nat), i ≤ l.length → l.length - i + 1 < k → (∀ j (h : j < i) (h' : j < l.length), keq b[i1].1 l[j] = false) →
    ok (lp61_1 n g0 k b (i1 : Int) false (i : Int) l) Q
  | 0, i, h, hk, hno => by omega
  | k + 1, i, h, hk, hno => by
    show ok (st61_1 n g0 (lp61_1 n g0 k) b _ false _ l) _
    unfold st61_1
    refine ok.ite (fun h1 => ok.iteb (fun _ => ok.guard (by omega) (ok.guard h1 (ok.guard (by omega) (ok.guard (by omega) ?_)))) (fun h2 => by cases h2)) (fun h1 => ok.iteb (fun _ => ok.guard (by omega) (ok.guard (by omega) ?_)) (fun h2 => by cases h2))
    · have hi : i < l.length := by omega
      rw [rdOf_nat hi, rdOf_nat hi1, w1 hi (by omega)]
      refine ok.iteb (fun h2 => ok.guard (by omega) (ok.guard h1 (ok.guard (by omega) (ok.guard (by omega) ?_)))) (fun h2 => ?_)
      · refine (t26 l[i] b[i1]).bind fun r q => ok.guard (by omega) (ok.guard h1 ?_)
        subst q
        have hu : upd l b[i1] = l.set i (mr l[i] b[i1]) := by
          unfold upd
          rw [rep_some b[i1] l i hi (fun j hj => hno j hj (by omega)) h2]; rfl
        rw [hu] at hQ
        obtain ⟨k', rfl⟩ : ∃ k', k = k' + 1 := ⟨k - 1, by omega⟩
        show ok (st61_1 n g0 (lp61_1 n g0 k') b _ true _ _) _
        unfold st61_1
        rw [Int.toNat_natCast]
        refine ok.ite (fun h3 => ok.iteb (fun h4 => by cases h4) (fun _ => ok.iteb (fun h4 => by cases h4) (fun _ => hQ))) (fun h3 => ok.iteb (fun h4 => by cases h4) (fun _ => hQ))
      · refine t61_1 hn hi1 hl hQ k (i + 1) (by omega) (by omega) (fun j hj hj' => ?_)
        by_cases hji : j = i
        · subst hji; exact h2
        · exact hno j (by omega) hj'
    · rw [rdOf_nat hi1]
      refine (t80 (r := b[i1]) hl (fun j hj => hno j (by omega) hj) hn).bind fun r q => ?_
      subst q
      have hu : upd l b[i1] = ins b[i1] l := by
        unfold upd
        rw [rep_none b[i1] l (fun j hj => hno j (by omega) hj)]; rfl
      rw [hu] at hQ
      exact hQ
theorem t61_0 {n : Nat} {b : List Rw} (hb : b.length ≤ 500) (hn : 3000 ≤ n) : ∀ (k i : Nat) (out : List Rw), i ≤ b.length → b.length - i < k → out.length + (b.length - i) ≤ 1000 → ok (lp61_0 n k b (i : Int) out) fun r => r = ((b.drop i).foldl upd out, ())
  | 0, i, out, h, hk, ho => by omega
  | k + 1, i, out, h, hk, ho => by
    show ok (st61_0 n (lp61_1 n (lp61_0 n k) n) (lp61_0 n k) b _ out) _
    unfold st61_0
    refine ok.ite (fun h1 => ?_) (fun h1 => ok.some ?_)
    · have hi : i < b.length := by omega
      have hlen := upd_len out b[i]
      rw [drop_cons hi]
      refine t61_1 hn hi (by omega) ?_ n 0 (by omega) (by omega) (fun j hj => by omega)
      rw [w1 hi (by omega)]
      exact t61_0 hb hn k (i + 1) _ (by omega) (by omega) (by omega)
    · rw [List.drop_eq_nil_of_le (by omega)]; rfl
theorem t61 {n : Nat} {a b : List Rw} (ha : a.length ≤ 500) (hb : b.length ≤ 500) (hn : 3000 ≤ n) : ok (F61 n a b) fun r => r = (b.foldl upd a, ()) := by
  unfold F61 st61
  refine ok.guard (by simp only [List.length_nil]; omega) ?_
  exact t61_0 hb hn n 0 _ (by omega) (by omega) (by simp only [List.nil_append]; omega)
theorem t25_0 {n : Nat} {rs : List (List Rw)} (hr : rs.length ≤ 100) (hl : ∀ l ∈ rs, l.length ≤ 4) (hn : 3000 ≤ n) : ∀ (k i : Nat) (out : List Rw), i ≤ rs.length → rs.length - i < k → out.length + 4 * (rs.length - i) ≤ 450 → ok (lp25_0 n k rs (i : Int) out) fun r => r = (ov (rs.drop i) out, ())
  | 0, i, out, h, hk, ho => by omega
  | k + 1, i, out, h, hk, ho => by
    show ok (st25_0 n (lp25_0 n k) rs _ out) _
    unfold st25_0
    refine ok.ite (fun h1 => ok.guard (by omega) (ok.guard h1 ?_)) (fun h1 => ok.some ?_)
    · have hi : i < rs.length := by omega
      have hm := hl rs[i] (List.getElem_mem hi)
      rw [rdOf_nat hi, drop_cons hi]
      refine (t61 (n := n) (a := out) (b := rs[i]) (by omega) (by omega) hn).bind fun r1 q1 => ?_
      subst q1
      rw [w1 hi (by omega)]
      have := foldl_upd_len rs[i] out
      exact t25_0 hr hl hn k (i + 1) _ (by omega) (by omega) (by show (List.foldl upd out rs[i]).length + _ ≤ _; omega)
    · rw [List.drop_eq_nil_of_le (by omega)]; rfl
theorem t25 {n : Nat} {rs : List (List Rw)} (hr : rs.length ≤ 100) (hl : ∀ l ∈ rs, l.length ≤ 4) (hn : 3000 ≤ n) : ok (F25 n rs) fun r => r = (ov rs [], ()) := by
  unfold F25 st25
  exact t25_0 hr hl hn n 0 _ (by omega) (by omega) (by simp only [List.length_nil]; omega)
theorem t14_0 {n : Nat} {l : List Rw} (hl : l.length ≤ 1000) : ∀ (k i : Nat), i ≤ l.length → l.length - i < k → ok (lp14_0 n k l l (i : Int)) fun r => r = (true, ())
  | 0, i, h, hk => by omega
  | k + 1, i, h, hk => by
    show ok (st14_0 n (lp14_0 n k) l l _) _
    unfold st14_0
    refine ok.ite (fun h1 => ok.guard (by omega) (ok.guard h1 (ok.guard (by omega) (ok.guard h1 (ok.iteb (fun h2 => ?_) (fun _ => ?_)))))) (fun _ => ok.some rfl)
    · simp at h2
    · rw [w1 (n := l.length) (by omega) (by omega)]
      exact t14_0 hl k (i + 1) (by omega) (by omega)
theorem t14 {n : Nat} {l : List Rw} (hl : l.length ≤ 1000) (hn : 3000 ≤ n) : ok (F14 n l l) fun r => r = (true, ()) := by
  unfold F14 st14
  refine ok.ite (fun h => absurd rfl h) (fun _ => t14_0 hl n 0 (by omega) (by omega))
end Go.Eva
end
section
/- Stores: the program's tests are the reference's. -/
namespace Go.Eva
open Go.RowKit (wrap64)
set_option linter.unusedVariables false
set_option linter.unusedSimpArgs false

def inr (x a b : Int) : Bool := decide (a ≤ x ∧ x ≤ b)
theorem f52 {n : Nat} {x a b : Int} : F52 n x a b = some (inr x a b, ()) := by
  unfold F52 inr
  by_cases h1 : a ≤ x <;> by_cases h2 : x ≤ b <;> simp [h1, h2]
theorem f50 {n : Nat} {x a b : Int} : F50 n x a b = some (inr x a b, ()) := by
  unfold F50 inr
  by_cases h1 : a ≤ x <;> by_cases h2 : x ≤ b <;> simp [h1, h2]
def kc (x : Int) : Bool := inr x 97 122 || (inr x 65 90 || (inr x 48 57 || decide (x = 95)))
theorem f97 {n : Nat} {x : Int} : F97 n x = some (kc x, ()) := by
  unfold F97 kc
  simp only [f52, Option.bind_some]
  cases inr x 97 122 <;> cases inr x 65 90 <;> cases inr x 48 57 <;> simp
theorem bt_bd (s : ByteArray) (i : Int) : 0 ≤ bt s i ∧ bt s i < 256 := by
  unfold bt
  split
  · have := (s[i.toNat]).toNat_lt; omega
  · omega
theorem kc_eq (x : Int) (α : Type) (a b : Option α) : (if (!kc x) = true then a else b) = if decide (x ≥ 97) = true then (if decide (x ≤ 122) = true then b else (if decide (x ≥ 65) = true then (if decide (x ≤ 90) = true then b else (if decide (x ≥ 48) = true then (if decide (x ≤ 57) = true then b else (if (!(decide (x = 95))) = true then a else b)) else (if (!(decide (x = 95))) = true then a else b)))
    else (if decide (x ≥ 48) = true then (if decide (x ≤ 57) = true then b else (if (!(decide (x = 95))) = true then a else b)) else (if (!(decide (x = 95))) = true then a else b))))
   else (if decide (x ≥ 65) = true then (if decide (x ≤ 90) = true then b else (if decide (x ≥ 48) = true then (if decide (x ≤ 57) = true then b else (if (!(decide (x = 95))) = true then a else b)) else (if (!(decide (x = 95))) = true then a else b)))
    else (if decide (x ≥ 48) = true then (if decide (x ≤ 57) = true then b else (if (!(decide (x = 95))) = true then a else b)) else (if (!(decide (x = 95))) = true then a else b))) := by
  unfold kc inr
  by_cases h1 : x ≥ 97
  · by_cases h2 : x ≤ 122
    · have : (97 : Int) ≤ x ∧ x ≤ 122 := ⟨h1, h2⟩
      simp [h1, h2]
    · have e1 : ¬ x ≤ 90 := by omega
      have e2 : ¬ x ≤ 57 := by omega
      have e3 : ¬ x = 95 := by omega
      have e4 : x ≥ 65 := by omega
      have e5 : x ≥ 48 := by omega
      simp [h1, h2, e1, e2, e3, e4, e5]
  · by_cases h3 : x ≥ 65
    · by_cases h4 : x ≤ 90
      · simp [h1, h3, h4]
      · have e2 : ¬ x ≤ 57 := by omega
        have e5 : x ≥ 48 := by omega
        by_cases h5 : x = 95 <;> simp [h1, h3, h4, e2, e5, h5]
    · have e3 : ¬ x = 95 := by omega
      by_cases h5 : x ≥ 48 <;> by_cases h6 : x ≤ 57 <;> simp [h1, h3, e3, h5, h6]
theorem f95_0 {n : Nat} {s : ByteArray} : ∀ (k : Nat) (i : Int), lp95_0 n k s (s.size : Int) i = lp85_0 n k s i
  | 0, i => rfl
  | k + 1, i => by
    show st95_0 n (lp95_0 n k) s _ i = st85_0 n (lp85_0 n k) s i
    unfold st95_0 st85_0 j95_0
    have hb := bt_bd s i
    have ih := f95_0 (n := n) (s := s) k (wrap64 (i + 1))
    simp only [f97, f50, f52, Option.bind_some, w64 (x := bt s i) (by omega) (by omega), kc_eq, ih]
theorem f95 {n : Nat} {s : ByteArray} : F95 n s = F85 n s := f95_0 n 0
theorem bind_id (x : Option (Bool × Unit)) : (x.bind fun r1 => some (r1.1, ())) = x := by cases x <;> rfl
theorem f83 {n : Nat} {s : ByteArray} {a b : Int} {t : Bool} {d e f g u v : Int} : F83 n s a b t d e f g u v = F65 n s a b t d e f g u v := by
  unfold F83 F65 F96 F86
  rw [f95]
  cases F85 n s with
  | none => rfl
  | some r =>
    simp only [Option.bind_some, f50, f52, Int.mul_comm e f, Int.mul_comm e g, bind_id]
    by_cases h0 : r.1 = true
    · by_cases h1 : a = 1
      · subst h1; simp [h0]
      · by_cases h2 : a = 2
        · subst h2; simp [h0]
        · by_cases h3 : a = 3
          · subst h3
            by_cases hb : b = 0
            · cases t
              · by_cases hd : d = 0
                · by_cases he : e = 0
                  · by_cases hf : f = 0 <;> by_cases hg : g = 0 <;> by_cases hu : u = 0 <;> simp [h0, hb, hd, he, hf, hg, hu]
                  · by_cases hv : v = 0 <;> by_cases h5 : e = 3 <;> simp [h0, hb, hd, he, hv, h5]
                · simp [h0, hb, hd]
              · simp [h0, hb]
            · simp [h0, hb]
          · simp [h0, h1, h2, h3]
    · simp [h0]
theorem f84 {n : Nat} {s : ByteArray} {a b : Int} {t : Bool} {d e f g u v : Int} : F84 n s a b t d e f g u v = F66 n s a b t d e f g u v := by
  unfold F84 F66
  by_cases hb : b = 0 <;> cases t <;> by_cases he : e = 0 <;> simp [hb, he]
theorem f64_0 {n : Nat} {l : List Rw} : ∀ (k : Nat) (i : Int), lp64_0 n k l l (l.length : Int) i = lp30_0 n k l i
  | 0, i => rfl
  | k + 1, i => by
    show st64_0 n (lp64_0 n k) l l _ i = st30_0 n (lp30_0 n k) l i
    unfold st64_0 st30_0
    have ih := f64_0 (n := n) (l := l) k (wrap64 (i + 1))
    simp only [f83, f84, ih]
    by_cases h1 : i < (l.length : Int) <;> by_cases h2 : 0 ≤ i <;> simp [h1, h2]
theorem f64 {n : Nat} {l : List Rw} : F64 n l = F30 n l := f64_0 n 0
theorem ok.val {α : Type} {x : Option α} {Q : α → Prop} (d : α) (h : ok x Q) : ok x fun r => r = x.getD d := by
  obtain ⟨a, rfl, _⟩ := h
  exact ⟨a, rfl, rfl⟩
noncomputable def rpo (n : Nat) (l : List Rw) : Bool := ((F30 n l).getD (false, ())).1
/-- What a right report has. -/
def Rising (l : List Rw) : Prop := ∀ i (h : i + 1 < l.length), kgt l[i].1 l[i + 1] = true
def Cnt (x : Rw) : Prop := 1 ≤ x.1.size ∧ (x.2.1 = 1 → 0 ≤ x.2.2.1 ∧ x.2.2.1 ≤ 281474976710655)
theorem t85c {n : Nat} {s : ByteArray} (hs : s.size ≤ 5) (hn : 100 ≤ n) : ok (F85 n s) fun r => r.1 = true → 1 ≤ s.size := by
  have key : ∀ (k : Nat) (i : Int), 0 ≤ i → i ≤ (s.size : Int) → (s.size : Int) - i < k → ok (lp85_0 n k s i) fun r => r.1 = true → 1 ≤ s.size := by
    intro k
    induction k with
    | zero => intro i h0 h1 hk; omega
    | succ k ih =>
      intro i h0 h1 hk
      show ok (st85_0 n (lp85_0 n k) s i) _
      unfold st85_0
      simp only [f97, f52, Option.bind_some]
      refine ok.ite (fun h2 => ok.guard h0 (ok.guard h2 (ok.iteb (fun _ => ok.some (fun h => by cases h)) (fun _ => ?_)))) (fun _ => ok.some fun h => ?_)
      · rw [w64 (by omega) (by omega)]
        exact ih (i + 1) (by omega) (by omega) (by omega)
      · simp [inr] at h; omega
  exact key n 0 (by omega) (by omega) (by omega)
theorem t65c {n : Nat} {x : Rw} (hs : x.1.size ≤ 5) (hn : 100 ≤ n) : ok (F65 n x.1 x.2.1 x.2.2.1 x.2.2.2.1 x.2.2.2.2.1 x.2.2.2.2.2.1 x.2.2.2.2.2.2.1 x.2.2.2.2.2.2.2.1 x.2.2.2.2.2.2.2.2.1 x.2.2.2.2.2.2.2.2.2) fun r => r.1 = true → Cnt x := by
  unfold F65
  refine (t85c hs hn).bind fun r q => ok.iteb (fun _ => ok.some fun h => by cases h) (fun h0 => ?_)
  have h0 := q (by simpa using h0)
  refine ok.ite (fun h1 => ok.iteb (fun _ => ?_) (fun _ => ok.some fun h => by cases h)) (fun h1 => ?_)
  · rw [f52]
    refine ok.some fun h => ⟨h0, fun _ => ?_⟩
    simp only [Option.getD_some, inr, decide_eq_true_eq] at h
    exact h
  · have hne : ∀ r : Bool × Unit, r.1 = true → Cnt x := fun r _ => ⟨h0, fun h => absurd h h1⟩
    exact (ok.ite (fun _ => ok.iteb (fun _ => t52.bind fun _ _ => ok.iteb (fun _ => ok.iteb (fun _ => ok.some trivial) (fun _ => ok.some trivial)) (fun _ => ok.some trivial)) (fun _ => ok.some trivial)) (fun _ => ok.ite (fun _ => ok.ite (fun _ => ok.iteb (fun _ => ok.ite (fun _ => t86.bind fun _ _ => ok.some trivial) (fun _ => ok.some trivial)) (fun _ => ok.some trivial)) (fun _ => ok.some trivial)) (fun _ => ok.some trivial)) : ok _ fun _ => True).mono fun r _ => hne r
theorem t30_0 {n : Nat} (hn : 3000 ≤ n) {l : List Rw} (hl : l.length ≤ 1000) (hs : ∀ x ∈ l, x.1.size ≤ 5) : ∀ (k i : Nat), i ≤ l.length → l.length - i < k → ok (lp30_0 n k l (i : Int)) fun r => r.1 = true → (∀ j (h : j + 1 < l.length), i ≤ j + 1 → kgt l[j].1 l[j + 1] = true) ∧ l.length ≤ 4 ∧ ∀ j (h : j < l.length), i ≤ j → Cnt l[j]
  | 0, i, h, hk => by omega
  | k + 1, i, h, hk => by
    show ok (st30_0 n (lp30_0 n k) l _) _
    unfold st30_0
    refine ok.ite (fun h1 => ok.guard (by omega) (ok.guard h1 ?_)) (fun h1 => ok.some fun h => ⟨fun j hj hij => by omega, by have := of_decide_eq_true h; omega, fun j hj hij => by omega⟩)
    have hi : i < l.length := by omega
    rw [rdOf_nat hi]
    refine (t65c (x := l[i]) (hs _ (List.getElem_mem hi)) (by omega)).bind fun r q => ok.iteb (fun _ => ok.some fun h => by cases h) (fun h0 => ok.guard (by omega) (ok.guard h1 (t66.bind fun r2 _ => ok.iteb (fun _ => ok.some fun h => by cases h) (fun _ => ok.ite (fun h2 => ok.guard (by omega) (ok.guard h1 ?_)) (fun h2 => ?_)))))
    · have hc := q (by simpa using h0)
      have e : wrap64 ((i : Int) - 1) = ((i - 1 : Nat) : Int) := by rw [w64 (by omega) (by omega)]; omega
      rw [e]
      refine ok.guard (by omega) (ok.guard (by omega) ?_)
      rw [rdOf_nat (show i - 1 < l.length by omega), w1 hi (by omega)]
      refine ok.iteb (fun _ => ok.some fun h => by cases h) (fun h3 => (t30_0 hn hl hs k (i + 1) (by omega) (by omega)).mono fun r hr h => ?_)
      obtain ⟨a1, a2, a3⟩ := hr h
      refine ⟨fun j hj hij => ?_, a2, fun j hj hij => ?_⟩
      · by_cases hji : j + 1 = i
        · have e2 : j = i - 1 := by omega
          subst e2
          have e3 : i - 1 + 1 = i := by omega
          unfold kgt
          simp only [e3]
          rw [h3]; rfl
        · exact a1 j hj (by omega)
      · by_cases hji : j = i
        · subst hji; exact hc
        · exact a3 j hj (by omega)
    · have hc := q (by simpa using h0)
      rw [w1 hi (by omega)]
      refine (t30_0 hn hl hs k (i + 1) (by omega) (by omega)).mono fun r hr h => ?_
      obtain ⟨a1, a2, a3⟩ := hr h
      refine ⟨fun j hj hij => a1 j hj (by omega), a2, fun j hj hij => ?_⟩
      by_cases hji : j = i
      · subst hji; exact hc
      · exact a3 j hj (by omega)
theorem t30 {n : Nat} (hn : 3000 ≤ n) {l : List Rw} (hl : Rp l) : ok (F30 n l) (fun r => r = (rpo n l, ())) ∧ (rpo n l = true → Rising l ∧ l.length ≤ 4 ∧ ∀ x ∈ l, Cnt x) := by
  have hl1 := hl.1
  have h := t30_0 hn (by omega) hl.2 n 0 (by omega) (by omega)
  have h' : ok (F30 n l) _ := h
  obtain ⟨a, e, q⟩ := h'
  have e1 : rpo n l = a.1 := by unfold rpo; rw [e]; rfl
  refine ⟨⟨a, e, by rw [e1]⟩, fun hr => ?_⟩
  obtain ⟨q1, q2, q3⟩ := q (by rw [← e1]; exact hr)
  refine ⟨fun i hi => q1 i hi (by omega), q2, fun x hx => ?_⟩
  obtain ⟨j, hj, rfl⟩ := List.getElem_of_mem hx
  exact q3 j hj (by omega)
/-! ### stores -/
def chk (c f : Int) (K : List (List Rw)) : Bool := inr c 1 5 && (decide ((K.length : Int) ≤ c) && (inr f 0 1000000 && (decide (f = 0) || decide ((K.length : Int) = c))))
noncomputable def sto (n : Nat) (c f : Int) (K : List (List Rw)) : Bool := K.all (rpo n) && chk c f K
theorem t29_0 {n : Nat} (hn : 3000 ≤ n) {c f : Int} {K : List (List Rw)} (hK : K.length ≤ 100) (hR : ∀ l ∈ K, Rp l) : ∀ (k i : Nat), i ≤ K.length → K.length - i < k → ok (lp29_0 n k (i : Int) c f K) fun r => r = ((K.drop i).all (rpo n) && chk c f K, ())
  | 0, i, h, hk => by omega
  | k + 1, i, h, hk => by
    show ok (st29_0 n (lp29_0 n k) _ c f K) _
    unfold st29_0
    refine ok.ite (fun h1 => ok.guard (by omega) (ok.guard h1 ?_)) (fun h1 => ?_)
    · have hi : i < K.length := by omega
      rw [rdOf_nat hi, drop_cons hi]
      refine (t30 hn (hR _ (List.getElem_mem hi))).1.bind fun r q => ?_
      subst q
      refine ok.iteb (fun h2 => ok.some ?_) (fun h2 => ?_)
      · have h2 : rpo n K[i] = false := by simpa using h2
        rw [List.all_cons, h2]; rfl
      · have h2 : rpo n K[i] = true := by simpa using h2
        rw [w1 hi (by omega)]
        refine (t29_0 hn hK hR k (i + 1) (by omega) (by omega)).mono fun r hr => ?_
        rw [hr, List.all_cons, h2]; rfl
    · rw [List.drop_eq_nil_of_le (by omega)]
      simp only [f52, Option.bind_some, List.all_nil, Bool.true_and]
      unfold chk
      cases inr c 1 5
      · exact ok.some rfl
      · refine ok.iteb (fun _ => ok.ite (fun h2 => ?_) (fun h2 => ok.some (by simp [h2]))) (fun h => by cases h)
        cases inr f 0 1000000
        · exact ok.some (by simp)
        · refine ok.iteb (fun _ => ok.ite (fun h3 => ok.some (by simp [h2, h3])) (fun h3 => ok.some (by simp [h2, h3]))) (fun h => by cases h)
theorem t29 {n : Nat} (hn : 3000 ≤ n) {c f : Int} {K : List (List Rw)} (hK : K.length ≤ 100) (hR : ∀ l ∈ K, Rp l) : ok (F29 n c f K) fun r => r = (sto n c f K, ()) := t29_0 hn hK hR n 0 (by omega) (by omega)
theorem t87 {n : Nat} (hn : 3000 ≤ n) {K : List (List Rw)} (hK : K.length ≤ 100) (hR : ∀ l ∈ K, Rp l) : ∀ (k i : Nat), i ≤ K.length → K.length - i < k → ok (lp87_68_0 n k K (K.length : Int) (i : Int)) fun r => decide (r.1 ≥ 0) = !(K.drop i).all (rpo n)
  | 0, i, h, hk => by omega
  | k + 1, i, h, hk => by
    show ok (st87_68_0 n (lp87_68_0 n k) K _ _) _
    unfold st87_68_0
    refine ok.ite (fun h1 => ok.guard (by omega) (ok.guard h1 ?_)) (fun h1 => ok.some ?_)
    · have hi : i < K.length := by omega
      rw [rdOf_nat hi, drop_cons hi]
      unfold F68
      rw [f64]
      refine ((t30 hn (hR _ (List.getElem_mem hi))).1.bind (R := fun r => r = (!rpo n K[i], ())) fun r q => ok.some (by rw [q])).bind fun r q => ?_
      subst q
      refine ok.iteb (fun h2 => ok.some ?_) (fun h2 => ?_)
      · have h2 : rpo n K[i] = false := by simpa using h2
        rw [List.all_cons, h2, decide_eq_true (by omega)]; rfl
      · have h2 : rpo n K[i] = true := by simpa using h2
        rw [w1 hi (by omega)]
        refine (t87 hn hK hR k (i + 1) (by omega) (by omega)).mono fun r hr => ?_
        rw [hr, List.all_cons, h2]; rfl
    · rw [List.drop_eq_nil_of_le (by omega)]; rfl
theorem t67 {n : Nat} (hn : 3000 ≤ n) {K : List (List Rw)} (hK : K.length ≤ 100) (hR : ∀ l ∈ K, Rp l) : ok (F67_68 n K) fun r => r = (!K.all (rpo n), ()) := by
  unfold F67_68 F87_68 st87_68
  refine (t87 hn hK hR n 0 (by omega) (by omega)).bind fun r q => ok.some ?_
  rw [q]; rfl
theorem t31 {n : Nat} (hn : 3000 ≤ n) {c f : Int} {K : List (List Rw)} (hK : K.length ≤ 100) (hR : ∀ l ∈ K, Rp l) : ok (F31 n c f K) fun r => r = (sto n c f K, ()) := by
  unfold F31 sto chk
  simp only [f50, Option.bind_some]
  cases inr c 1 5
  · exact ok.some (by simp)
  · refine ok.iteb (fun _ => ok.ite (fun h2 => ?_) (fun h2 => ok.some (by simp [h2]))) (fun h => by cases h)
    cases inr f 0 1000000
    · exact ok.some (by simp)
    · refine ok.iteb (fun _ => ok.ite (fun h3 => ?_) (fun h3 => ok.ite (fun h4 => ?_) (fun h4 => ok.some (by simp [h2, h3, h4])))) (fun h => by cases h)
      · refine (t67 hn hK hR).bind fun r q => ok.some ?_
        subst q
        simp [h2, h3]
      · refine (t67 hn hK hR).bind fun r q => ok.some ?_
        subst q
        simp [h2, h3, h4]
end Go.Eva
end
section
/- Stores: pushing, windows, the last; the draws. -/
namespace Go.Eva
open Go.RowKit (wrap64)
set_option linter.unusedVariables false
set_option linter.unusedSimpArgs false

theorem u8_tri (x y : UInt8) : (x < y) ∨ (x = y) ∨ (y < x) := by
  rcases Nat.lt_trichotomy x.toNat y.toNat with h | h | h
  · exact .inl (UInt8.lt_iff_toNat_lt.2 h)
  · exact .inr (.inl (UInt8.toNat_inj.1 h))
  · exact .inr (.inr (UInt8.lt_iff_toNat_lt.2 h))
theorem less_irr : ∀ a : List UInt8, Op.bytesLess a a = false
  | [] => rfl
  | x :: xs => by
    have h1 : ¬ x < x := fun k => by rw [UInt8.lt_iff_toNat_lt] at k; omega
    simp [Op.bytesLess, h1, less_irr xs]
theorem less_asym : ∀ a b : List UInt8, Op.bytesLess a b = true → Op.bytesLess b a = false
  | [], [], h => by cases h
  | [], _ :: _, _ => rfl
  | _ :: _, [], h => by cases h
  | x :: xs, y :: ys, h => by
    simp only [Op.bytesLess, Bool.or_eq_true, decide_eq_true_eq, Bool.and_eq_true, beq_iff_eq] at h
    rcases h with h | ⟨rfl, h⟩
    · have h1 : ¬ y < x := fun k => by rw [UInt8.lt_iff_toNat_lt] at h k; omega
      have h2 : ¬ y = x := fun k => by subst k; rw [UInt8.lt_iff_toNat_lt] at h; omega
      simp [Op.bytesLess, h1, h2]
    · have h1 : ¬ x < x := fun k => by rw [UInt8.lt_iff_toNat_lt] at k; omega
      simp [Op.bytesLess, h1, less_asym xs ys h]
theorem less_total : ∀ a b : List UInt8, Op.bytesLess a b = true ∨ a = b ∨ Op.bytesLess b a = true
  | [], [] => .inr (.inl rfl)
  | [], _ :: _ => .inl rfl
  | _ :: _, [] => .inr (.inr rfl)
  | x :: xs, y :: ys => by
    rcases u8_tri x y with h | h | h
    · exact .inl (by simp [Op.bytesLess, h])
    · subst h
      rcases less_total xs ys with h | h | h
      · exact .inl (by simp [Op.bytesLess, h])
      · exact .inr (.inl (by rw [h]))
      · exact .inr (.inr (by simp [Op.bytesLess, h]))
    · exact .inr (.inr (by simp [Op.bytesLess, h]))
theorem less_trans : ∀ a b c : List UInt8, Op.bytesLess a b = true → Op.bytesLess b c = true → Op.bytesLess a c = true
  | _, [], _, h, _ => by simp [Op.bytesLess] at h
  | _, _ :: _, [], _, h => by simp [Op.bytesLess] at h
  | [], _ :: _, _ :: _, _, _ => rfl
  | x :: xs, y :: ys, z :: zs, h, k => by
    simp only [Op.bytesLess, Bool.or_eq_true, decide_eq_true_eq, Bool.and_eq_true, beq_iff_eq] at h k ⊢
    rcases h with h | ⟨rfl, h⟩
    · rcases k with k | ⟨rfl, k⟩
      · exact .inl (by rw [UInt8.lt_iff_toNat_lt] at h k ⊢; omega)
      · exact .inl h
    · rcases k with k | ⟨rfl, k⟩
      · exact .inl k
      · exact .inr ⟨rfl, less_trans xs ys zs h k⟩
theorem kgt_eq (s : ByteArray) (x : Rw) : kgt s x = Op.bytesLess s.toList x.1.toList := by
  unfold kgt
  rcases less_total x.1.toList s.toList with h | h | h
  · rw [h, less_asym _ _ h]; rfl
  · rw [h, less_irr]; simp
  · have h2 : ¬ x.1.toList = s.toList := fun q => by rw [q, less_irr] at h; cases h
    rw [h, less_asym _ _ h, decide_eq_false h2]; rfl
theorem rise_lt {l : List Rw} (h : Rising l) : ∀ (d i : Nat) (hi : i + (d + 1) < l.length), Op.bytesLess l[i].1.toList l[i + (d + 1)].1.toList = true
  | 0, i, hi => by have := h i hi; rw [kgt_eq] at this; exact this
  | d + 1, i, hi => by
    have h1 := rise_lt h d i (by omega)
    have h2 := h (i + (d + 1)) (by omega)
    rw [kgt_eq] at h2
    exact less_trans _ _ _ h1 h2
theorem ins_end (r : Rw) : ∀ l : List Rw, (∀ x ∈ l, kgt r.1 x = false) → ins r l = l ++ [r]
  | [], _ => rfl
  | x :: xs, h => by
    unfold ins
    rw [if_neg (by rw [h x List.mem_cons_self]; decide), ins_end r xs (fun y hy => h y (List.mem_cons_of_mem _ hy))]; rfl
theorem rise_upd (l2 : List Rw) : ∀ l1 : List Rw, Rising (l1 ++ l2) → l2.foldl upd l1 = l1 ++ l2 := by
  induction l2 with
  | nil => intro l1 _; simp
  | cons r l2 ih =>
    intro l1 h
    have hlt : ∀ i (hi : i < l1.length), Op.bytesLess l1[i].1.toList r.1.toList = true := fun i hi => by
      have := rise_lt h (l1.length - i - 1) i (by simp; omega)
      have e1 : (l1 ++ r :: l2)[i]'(by simp; omega) = l1[i] := List.getElem_append_left hi
      have e2 : (l1 ++ r :: l2)[i + (l1.length - i - 1 + 1)]'(by simp; omega) = r := by
        rw [List.getElem_append_right (by omega)]
        have : i + (l1.length - i - 1 + 1) - l1.length = 0 := by omega
        simp [this]
      rw [e1, e2] at this
      exact this
    have hu : upd l1 r = l1 ++ [r] := by
      unfold upd
      rw [rep_none r l1 (fun j hj => ?_)]
      · show ins r l1 = _
        refine ins_end r l1 fun x hx => ?_
        obtain ⟨j, hj, rfl⟩ := List.getElem_of_mem hx
        rw [kgt_eq]
        exact less_asym _ _ (hlt j hj)
      · unfold keq
        refine decide_eq_false fun q => ?_
        have := hlt j hj
        rw [q, less_irr] at this
        cases this
    rw [List.foldl_cons, hu, ih (l1 ++ [r]) (by simpa using h)]
    simp
theorem ov_one {l : List Rw} (h : Rising l) : ov [l] [] = l := by
  show l.foldl upd [] = l
  rw [rise_upd l [] (by simpa using h)]; rfl

/-! ### pushing -/
noncomputable def pu (n : Nat) (c f : Int) (K : List (List Rw)) (l : List Rw) : Int × Int × List (List Rw) :=
  if (sto n c f K && (rpo n l && !(decide (f = 1000000)))) = true then (if decide (((K ++ [l]).length : Int) > c) = true then (c, wrap64 (f + 1), (K ++ [l]).drop 1) else (c, f, K ++ [l])) else (c, f, K)
theorem pu_len (n : Nat) (c f : Int) (K : List (List Rw)) (l : List Rw) : (pu n c f K l).2.2.length ≤ K.length + 1 := by
  unfold pu
  split
  · split
    · show ((K ++ [l]).drop 1).length ≤ _; simp
    · show (K ++ [l]).length ≤ _; simp
  · exact Nat.le_succ _
theorem pu_rp (n : Nat) (c f : Int) {K : List (List Rw)} {l : List Rw} (hK : ∀ x ∈ K, Rp x) (hl : Rp l) : ∀ x ∈ (pu n c f K l).2.2, Rp x := by
  have h : ∀ x ∈ K ++ [l], Rp x := fun x hx => by
    rcases List.mem_append.1 hx with hx | hx
    · exact hK x hx
    · rw [List.mem_singleton.1 hx]; exact hl
  unfold pu
  split
  · split
    · exact fun x hx => h x (List.mem_of_mem_drop hx)
    · exact h
  · exact hK
theorem t94_0 {n : Nat} {c f i4 i5 : Int} {K l6 : List (List Rw)} {i7 i8 : Int} (hK : K.length ≤ 100) (hR : ∀ l ∈ K, Rp l) : ∀ (k i : Nat) (out : List (List Rw)), i ≤ K.length → K.length - i < k → out.length + (K.length - i) ≤ 1000 → ok (lp94_0 n k (i : Int) c f K i4 i5 l6 i7 i8 out) fun r => r = (i7, i8, out ++ K.drop i, ())
  | 0, i, out, h, hk, ho => by omega
  | k + 1, i, out, h, hk, ho => by
    show ok (st94_0 n (lp94_0 n k) _ c f K i4 i5 l6 i7 i8 out) _
    unfold st94_0
    refine ok.ite (fun h1 => ok.guard (by omega) (ok.guard h1 ?_)) (fun h1 => ok.some ?_)
    · have hi : i < K.length := by omega
      have hr := (hR _ (List.getElem_mem hi)).1
      rw [rdOf_nat hi]
      refine ok.guard (by simp only [List.length_nil]; omega) (ok.guard (by simp only [List.length_cons, List.length_nil]; omega) ?_)
      rw [w1 hi (by omega)]
      refine (t94_0 hK hR k (i + 1) _ (by omega) (by omega) (by simp only [List.length_append, List.length_cons, List.length_nil]; omega)).mono fun r hr => ?_
      rw [hr, drop_cons hi]
      simp
    · rw [List.drop_eq_nil_of_le (by omega)]; simp
theorem t94 {n : Nat} (hn : 3000 ≤ n) {c f : Int} {K : List (List Rw)} (hK : K.length ≤ 100) (hR : ∀ l ∈ K, Rp l) : ok (F94 n c f K) fun r => r = (c, f, K, ()) :=
  (t94_0 hK hR n 0 [] (by omega) (by omega) (by simp only [List.length_nil]; omega)).mono fun r hr => by rw [hr]; simp
theorem cut1 {α : Type} (l : List α) : cutL l (1 : Int) (l.length : Int) = l.drop 1 := by simp [cutL]
theorem t82 {n : Nat} (hn : 3000 ≤ n) {c f : Int} {K : List (List Rw)} {l : List Rw} (hK : K.length ≤ 100) (hR : ∀ l ∈ K, Rp l) (hl : Rp l) : ok (F82 n c f K l) fun r => r = ((pu n c f K l).1, (pu n c f K l).2.1, (pu n c f K l).2.2, ()) := by
  have hl1 := hl.1
  unfold F82
  refine (t94 hn hK hR).bind fun r1 q1 => (t29 hn hK hR).bind fun r2 q2 => ?_
  subst q1 q2
  unfold pu
  refine ok.iteb (fun h => ok.some ?_) (fun h => (t30 hn hl).1.bind fun r3 q3 => ?_)
  · have h : sto n c f K = false := by simpa using h
    rw [h]; rfl
  · have h : sto n c f K = true := by simpa using h
    subst q3
    refine ok.iteb (fun h2 => ok.some ?_) (fun h2 => ok.ite (fun h3 => ok.some ?_) (fun h3 => ?_))
    · have h2 : rpo n l = false := by simpa using h2
      rw [h, h2]; rfl
    · rw [h, decide_eq_true h3]; simp
    · have h2 : rpo n l = true := by simpa using h2
      have e : ([] : List Rw) ++ l = l := rfl
      rw [h, h2, decide_eq_false h3, e]
      refine ok.guard (by simp only [List.length_nil]; omega) (ok.guard (by simp only [List.length_cons, List.length_nil]; omega) (ok.ite (fun h4 => ok.guard (by omega) (ok.guard (by simp only [List.length_append, List.length_cons, List.length_nil]; omega) (ok.guard (Int.le_refl _) (ok.some ?_)))) (fun h4 => ok.some ?_)))
      · simp only [cut1]
        rw [decide_eq_true h4]; rfl
      · rw [decide_eq_false h4]; rfl
theorem t46 {n : Nat} {l : List Rw} (hl : l.length ≤ 1000) : ok (F46 n l) fun r => r = (l, ()) := by
  unfold F46 cloF
  exact ok.guard (by simp only [List.length_nil]; omega) (ok.some rfl)
theorem t28_0 {n : Nat} (hn : 3000 ≤ n) {l : List Rw} {K : List (List Rw)} {c f : Int} {i7 i8 : Int} {l9 : List (List Rw)} (hK : K.length ≤ 100) (hR : ∀ l ∈ K, Rp l) (hl : Rp l) : ∀ (k i : Nat) (out : List (List Rw)), i ≤ K.length → K.length - i < k → out = K.take i →
    ok (lp28_0 n k l K (K.length : Int) (i : Int) c f K i7 i8 l9 c f out) fun r => r = ((pu n c f K l).1, (pu n c f K l).2.1, (pu n c f K l).2.2, ())
  | 0, i, out, h, hk, ho => by omega
  | k + 1, i, out, h, hk, ho => by
    have hl1 := hl.1
    show ok (st28_0 n (lp28_0 n k) l K _ _ c f K i7 i8 l9 c f out) _
    unfold st28_0
    have hol : out.length ≤ 100 := by rw [ho, List.length_take]; omega
    refine ok.ite (fun h1 => ok.guard (by omega) (ok.guard h1 ?_)) (fun h1 => ?_)
    · have hi : i < K.length := by omega
      have hr := (hR _ (List.getElem_mem hi)).1
      rw [rdOf_nat hi]
      refine (t46 (by omega)).bind fun r q => ?_
      subst q
      refine ok.guard (by simp only [List.length_cons, List.length_nil]; omega) ?_
      rw [w1 hi (by omega)]
      refine t28_0 hn hK hR hl k (i + 1) _ (by omega) (by omega) ?_
      rw [ho]; simp
    · have hK' : out = K := by rw [ho, List.take_of_length_le (by omega)]
      subst hK'
      unfold pu
      refine (t31 hn hK hR).bind fun r2 q2 => ?_
      subst q2
      refine ok.iteb (fun h => ok.some ?_) (fun h => ?_)
      · have h : sto n c f out = false := by simpa using h
        rw [h]; rfl
      · have h : sto n c f out = true := by simpa using h
        rw [f64]
        refine (t30 hn hl).1.bind fun r3 q3 => ?_
        subst q3
        refine ok.iteb (fun h2 => ok.some ?_) (fun h2 => ok.ite (fun h3 => ok.some ?_) (fun h3 => ?_))
        · have h2 : rpo n l = false := by simpa using h2
          rw [h, h2]; rfl
        · rw [h, decide_eq_true h3]; simp
        · have h2 : rpo n l = true := by simpa using h2
          rw [h, h2, decide_eq_false h3]
          refine (t46 (by omega)).bind fun r q => ?_
          subst q
          refine ok.guard (by simp only [List.length_cons, List.length_nil]; omega) (ok.ite (fun h4 => ok.guard (by omega) (ok.guard (by simp only [List.length_append, List.length_cons, List.length_nil]; omega) (ok.guard (Int.le_refl _) (ok.some ?_)))) (fun h4 => ok.some ?_))
          · simp only [cut1]
            rw [decide_eq_true h4]; rfl
          · rw [decide_eq_false h4]; rfl
theorem t28 {n : Nat} (hn : 3000 ≤ n) {c f : Int} {K : List (List Rw)} {l : List Rw} (hK : K.length ≤ 100) (hR : ∀ l ∈ K, Rp l) (hl : Rp l) : ok (F28 n c f K l) fun r => r = ((pu n c f K l).1, (pu n c f K l).2.1, (pu n c f K l).2.2, ()) :=
  t28_0 hn hK hR hl n 0 [] (by omega) (by omega) rfl

/-! ### draws -/
theorem t63_0 {n : Nat} (hn : 3000 ≤ n) : ∀ (k : Nat) (i0 i1 i2 : Int) (l3 : List (List Rw)) (c f : Int) (K : List (List Rw)) (b : List Int) (i h : Int), 0 ≤ i0 → i0 < k → i0 + K.length ≤ 7 → (∀ l ∈ K, Rp l) → Cur b i →
    ok (lp63_0 n k i0 i1 i2 l3 c f K b i h) fun r => r.2.2.1.length ≤ 8 ∧ (∀ l ∈ r.2.2.1, Rp l) ∧ Cur r.2.2.2.1 r.2.2.2.2.1
  | 0, i0, i1, i2, l3, c, f, K, b, i, h, h0, hk, hl, hR, hc => by omega
  | k + 1, i0, i1, i2, l3, c, f, K, b, i, h, h0, hk, hl, hR, hc => by
    show ok (st63_0 n (lp63_0 n k) i0 i1 i2 l3 c f K b i h) _
    unfold st63_0
    refine ok.ite (fun h1 => ?_) (fun h1 => ?_)
    · refine (t42 (by omega) hc).bind fun r4 q4 => (t82 hn (l := r4.1) (by omega) hR q4.1).bind fun r5 q5 => ?_
      subst q5
      rw [w64 (by omega) (by omega)]
      have := pu_len n c f K r4.1
      exact t63_0 hn k _ _ _ _ _ _ _ _ _ _ (by omega) (by omega) (by show i0 - 1 + ((pu n c f K r4.1).2.2.length : Int) ≤ 7; omega) (pu_rp n c f hR q4.1) q4.2
    · have hK8 : K.length ≤ 8 := by omega
      refine (t45 hc).bind fun r6 q6 => ok.ite (fun _ => (t79 q6.2.2.2 (by decide)).bind fun r7 q7 => ok.some ⟨hK8, hR, q7.2⟩) (fun _ => ok.ite (fun _ => (t79 q6.2.2.2 (by decide)).bind fun r8 q8 => ok.some ⟨hK8, hR, q8.2⟩) (fun _ => ok.ite (fun _ => ?_) (fun _ => ok.some ⟨hK8, hR, q6.2.2.2⟩)))
      refine (t59 (by omega) q6.2.2.2).bind fun r9 q9 => ok.guard (by simp only [List.length_cons, List.length_nil]; omega) (ok.some ⟨?_, fun l hl' => ?_, q9.2⟩)
      · show (K ++ [_]).length ≤ 8
        rw [List.length_append]
        simp only [List.length_cons, List.length_nil]; omega
      · rcases List.mem_append.1 hl' with hx | hx
        · exact hR l hx
        · rw [List.mem_singleton.1 hx]
          exact ⟨by simp, fun x hx => by rw [List.mem_singleton.1 hx]; exact q9.1⟩
theorem t81 {n : Nat} {x : Int} : ok (F81 n x) fun r => r.2.2.1 = [] := by
  unfold F81
  exact t52.bind fun _ _ => ok.iteb (fun _ => ok.some rfl) (fun _ => ok.some rfl)
theorem t63 {n : Nat} (hn : 3000 ≤ n) {b : List Int} {i h : Int} (c : Cur b i) : ok (F63 n b i h) fun r => r.2.2.1.length ≤ 8 ∧ (∀ l ∈ r.2.2.1, Rp l) ∧ Cur r.2.2.2.1 r.2.2.2.2.1 := by
  unfold F63 st63
  refine (t45 c).bind fun r1 q1 => t81.bind fun r2 q2 => (t45 q1.2.2.2).bind fun r3 q3 => ?_
  have := q3.2.1 (by omega)
  rw [q2]
  exact t63_0 hn n _ _ _ _ _ _ _ _ _ _ q3.1 (by omega) (by simp only [List.length_nil]; omega) (fun l hl => by cases hl) q3.2.2.2
theorem t27 {n : Nat} (hn : 5000 ≤ n) {b : List Int} (hb : b.length ≤ 1048576) (hy : ∀ x ∈ b, 0 ≤ x ∧ x < 256) : ok (F27 n b) fun r => r.2.2.1.length ≤ 8 ∧ (∀ l ∈ r.2.2.1, Rp l) ∧ Rp r.2.2.2.1 := by
  unfold F27
  exact (t41 hn hb hy).bind fun r1 q1 => (t63 (by omega) q1).bind fun r2 q2 => (t42 (by omega) q2.2.2).bind fun r3 q3 => ok.some ⟨q2.1, q2.2.1, q3.1⟩
theorem t36 {n : Nat} (hn : 5000 ≤ n) {b : List Int} (hb : b.length ≤ 1048576) (hy : ∀ x ∈ b, 0 ≤ x ∧ x < 256) : ok (F36 n b) fun r => r.2.2.1.length ≤ 8 ∧ (∀ l ∈ r.2.2.1, Rp l) ∧ -1 ≤ r.2.2.2.1 ∧ r.2.2.2.1 ≤ r.2.2.1.length := by
  unfold F36
  refine (t41 hn hb hy).bind fun r1 q1 => (t63 (by omega) q1).bind fun r2 q2 => (t45 q2.2.2).bind fun r3 q3 => ok.some ⟨q2.1, q2.2.1, ?_⟩
  have h1 := q2.1
  have e : wrap64 ((r2.2.2.1.length : Int) + 2) = (r2.2.2.1.length : Int) + 2 := w64 (by omega) (by omega)
  rw [e] at q3
  have h2 := q3.1
  have h3 := q3.2.1 (by omega)
  show -1 ≤ wrap64 (r3.1 - 1) ∧ wrap64 (r3.1 - 1) ≤ (r2.2.2.1.length : Int)
  rw [w64 (by omega) (by omega)]
  omega
end Go.Eva
end
section
/- FnStores: the law. -/
namespace Go.Eva
open Go.RowKit (wrap64)
set_option linter.unusedVariables false
set_option linter.unusedSimpArgs false

structure StoF (n : Nat) (c f : Int) (K : List (List Rw)) : Prop where
  all : ∀ l ∈ K, rpo n l = true
  c1 : 1 ≤ c
  c2 : c ≤ 5
  len : (K.length : Int) ≤ c
  f1 : 0 ≤ f
  f2 : f ≤ 1000000
  fc : f = 0 ∨ (K.length : Int) = c
theorem sto_iff {n : Nat} {c f : Int} {K : List (List Rw)} : sto n c f K = true ↔ StoF n c f K := by
  unfold sto chk inr
  simp only [Bool.and_eq_true, Bool.or_eq_true, decide_eq_true_eq, List.all_eq_true]
  exact ⟨fun ⟨h1, ⟨h2, h3⟩, h4, ⟨h5, h6⟩, h7⟩ => ⟨h1, h2, h3, h4, h5, h6, h7⟩, fun ⟨h1, h2, h3, h4, h5, h6, h7⟩ => ⟨h1, ⟨h2, h3⟩, h4, ⟨h5, h6⟩, h7⟩⟩
theorem t32_in {n : Nat} (hn : 3000 ≤ n) {c f : Int} {K : List (List Rw)} (hK : K.length ≤ 100) (hR : ∀ l ∈ K, Rp l) (hs : sto n c f K = true) {j : Nat} (hj : j < K.length) {i : Int} (hi : i = f + j) : ok (F32 n c f K i) fun r => r = (K[j], true, ()) := by
  have S := sto_iff.1 hs
  have f1 := S.f1
  have f2 := S.f2
  unfold F32
  refine (t31 hn hK hR).bind fun r q => ?_
  subst q
  refine ok.iteb (fun h => by simp [hs] at h) (fun _ => ?_)
  rw [f50, w64 (x := f + (K.length : Int)) (by omega) (by omega), w64 (by omega) (by omega)]
  refine ok.iteb (fun h => ?_) (fun _ => ?_)
  · have : inr i f (f + (K.length : Int) - 1) = true := by unfold inr; exact decide_eq_true ⟨by omega, by omega⟩
    simp [this] at h
  · have e : wrap64 (i - f) = (j : Int) := by rw [hi, w64 (by omega) (by omega)]; omega
    rw [e]
    refine ok.guard (by omega) (ok.guard (by omega) ?_)
    rw [rdOf_nat hj]
    have := (hR _ (List.getElem_mem hj)).1
    refine (t46 (by omega)).bind fun r q => ok.some ?_
    rw [q]
theorem t32_out {n : Nat} (hn : 3000 ≤ n) {c f : Int} {K : List (List Rw)} (hK : K.length ≤ 100) (hR : ∀ l ∈ K, Rp l) (hs : sto n c f K = true) {i : Int} (hi : i < f ∨ f + K.length ≤ i) : ok (F32 n c f K i) fun r => r = ([], false, ()) := by
  have S := sto_iff.1 hs
  have f1 := S.f1
  have f2 := S.f2
  unfold F32
  refine (t31 hn hK hR).bind fun r q => ?_
  subst q
  refine ok.iteb (fun h => by simp [hs] at h) (fun _ => ?_)
  rw [f50, w64 (x := f + (K.length : Int)) (by omega) (by omega), w64 (by omega) (by omega)]
  refine ok.iteb (fun h => ok.some rfl) (fun h => ?_)
  have : inr i f (f + (K.length : Int) - 1) = false := by unfold inr; exact decide_eq_false fun q => by omega
  simp [this] at h
theorem t33_in {n : Nat} (hn : 3000 ≤ n) {c f : Int} {K : List (List Rw)} (hK : K.length ≤ 100) (hR : ∀ l ∈ K, Rp l) (hs : sto n c f K = true) {j : Nat} (hj : j < K.length) {i : Int} (hi : i = f + j) : ok (F33 n c f K i) fun r => r = (K[j], true, ()) := by
  have S := sto_iff.1 hs
  have f1 := S.f1
  have f2 := S.f2
  unfold F33
  refine (t29 hn hK hR).bind fun r q => ?_
  subst q
  refine ok.iteb (fun h => by simp [hs] at h) (fun _ => ?_)
  rw [f52, w64 (x := f + (K.length : Int)) (by omega) (by omega), w64 (by omega) (by omega)]
  refine ok.iteb (fun h => ?_) (fun _ => ?_)
  · have : inr i f (f + (K.length : Int) - 1) = true := by unfold inr; exact decide_eq_true ⟨by omega, by omega⟩
    simp [this] at h
  · have e : wrap64 (i - f) = (j : Int) := by rw [hi, w64 (by omega) (by omega)]; omega
    rw [e]
    refine ok.guard (by omega) (ok.guard (by omega) ?_)
    rw [rdOf_nat hj]
    have := (hR _ (List.getElem_mem hj)).1
    exact ok.guard (by simp only [List.length_nil]; omega) (ok.some rfl)
theorem t34 {n : Nat} (hn : 3000 ≤ n) {c f : Int} {K : List (List Rw)} (hK : K.length ≤ 100) (hR : ∀ l ∈ K, Rp l) (hs : sto n c f K = true) {m : Nat} (hm : m ≤ K.length) : ok (F34 n c f K (m : Int)) fun r => r = (ov (K.drop (K.length - m)) [], ()) := by
  unfold F34
  refine (t31 hn hK hR).bind fun r q => ?_
  subst q
  refine ok.iteb (fun h => by simp [hs] at h) (fun _ => ?_)
  rw [f50]
  refine ok.iteb (fun h => ?_) (fun _ => ?_)
  · have : inr (m : Int) 0 (K.length : Int) = true := by unfold inr; exact decide_eq_true ⟨by omega, by omega⟩
    simp [this] at h
  · have e : wrap64 ((K.length : Int) - m) = ((K.length - m : Nat) : Int) := by rw [w64 (by omega) (by omega)]; omega
    rw [e]
    have ec : cutL K ((K.length - m : Nat) : Int) (K.length : Int) = K.drop (K.length - m) := by simp [cutL]
    refine ok.guard (by omega) (ok.guard (by omega) (ok.guard (Int.le_refl _) ?_))
    rw [ec]
    refine (t17 (n := n) (rs := K.drop (K.length - m)) (by rw [List.length_drop]; omega) (fun l hl => by have := (hR l (List.mem_of_mem_drop hl)).1; omega) hn).bind fun r q => ok.some ?_
    rw [q]
theorem t14r {n : Nat} {l : List Rw} (hl : Rp l) (hn : 3000 ≤ n) : ok (F14 n l l) fun r => r = (true, ()) := t14 (by have := hl.1; omega) hn
theorem t5_0 {n : Nat} (hn : 5000 ≤ n) {l : List Rw} (hl : Rp l) (hls : Rising l) {c f f' : Int} {K K' : List (List Rw)} (hK : K.length ≤ 8) (hR : ∀ l ∈ K, Rp l) (hK' : K'.length ≤ 9) (hR' : ∀ l ∈ K', Rp l) (hs : sto n c f K = true) (hs' : sto n c f' K' = true) (hend : f' + K'.length = f + K.length + 1) (hlast : ∃ h : 0 < K'.length, K'[K'.length - 1] = l) (hff : f ≤ f')
    (hsame : ∀ (j j' : Nat) (h : j < K.length) (h' : j' < K'.length), f + j = f' + j' → K'[j'] = K[j]) : ∀ (k j : Nat) (i : Int), i = f' + j → j ≤ K'.length - 1 → K'.length - 1 - j < k →
    ok (lp5_0 n k l (f + K.length) i c f K c f' K') fun r => r = (true, ())
  | 0, j, i, hi, h, hk => by omega
  | k + 1, j, i, hi, h, hk => by
    have S := sto_iff.1 hs
    have f1 := S.f1
    have f2 := S.f2
    obtain ⟨hpos, hlst⟩ := hlast
    show ok (st5_0 n (lp5_0 n k) l _ i c f K c f' K') _
    unfold st5_0
    refine ok.ite (fun h1 => ?_) (fun h1 => ?_)
    · have hj : j < K'.length - 1 := by omega
      obtain ⟨j0, hj0⟩ : ∃ j0 : Nat, f + j0 = f' + j := ⟨(f' + j - f).toNat, by omega⟩
      have hj0l : j0 < K.length := by omega
      refine (t32_in (by omega) (by omega) hR' hs' (j := j) (by omega) hi).bind fun r15 q15 => (t33_in (by omega) (by omega) hR hs (j := j0) hj0l (by omega)).bind fun r16 q16 => ?_
      subst q15 q16
      refine ok.iteb (fun h => by cases h) (fun _ => ok.iteb (fun h => by cases h) (fun _ => ?_))
      simp only
      rw [hsame j0 j hj0l (by omega) hj0]
      refine (t14r (hR _ (List.getElem_mem hj0l)) (by omega)).bind fun r q => ?_
      subst q
      refine ok.iteb (fun h => by cases h) (fun _ => ?_)
      rw [w64 (by omega) (by omega)]
      exact t5_0 hn hl hls hK hR hK' hR' hs hs' hend ⟨hpos, hlst⟩ hff hsame k (j + 1) (i + 1) (by omega) (by omega) (by omega)
    · have h34 := t34 (n := n) (by omega) (by omega) hR' hs' (m := 1) (by omega)
      have ed : K'.drop (K'.length - 1) = [l] := by
        rw [drop_cons (show K'.length - 1 < K'.length by omega), hlst, List.drop_eq_nil_of_le (by omega)]
      rw [ed, ov_one hls] at h34
      refine h34.bind fun r18 q18 => ?_
      subst q18
      refine (t14r hl (by omega)).bind fun r q => ?_
      subst q
      refine ok.iteb (fun _ => ?_) (fun h => by cases h)
      refine (t34 (n := n) (by omega) (by omega) hR' hs' (m := K'.length) (Nat.le_refl _)).bind fun r20 q20 => ?_
      subst q20
      rw [Nat.sub_self, List.drop_zero]
      refine (t25 (n := n) (by omega) (fun l hl => (hR' l hl).1) (by omega)).bind fun r21 q21 => ?_
      subst q21
      have hol := ov_len K' 4 [] (fun l hl => (hR' l hl).1)
      simp only [List.length_nil] at hol
      refine (t14 (n := n) (l := ov K' []) (by omega) (by omega)).bind fun r q => ?_
      subst q
      refine ok.iteb (fun _ => ?_) (fun h => by cases h)
      unfold F35
      rw [f50]
      exact ok.some rfl
theorem t5j {n : Nat} (hn : 5000 ≤ n) {l : List Rw} {c f : Int} {K : List (List Rw)} (hK : K.length ≤ 8) (hR : ∀ l ∈ K, Rp l) : ok (j5_0 n l c f K c f K) fun r => r = (true, ()) := by
  unfold j5_0
  refine (t31 (by omega) (by omega) hR).bind fun r5 q5 => (t29 (by omega) (by omega) hR).bind fun r6 q6 => ?_
  subst q5 q6
  refine ok.iteb (fun _ => ok.some (by simp)) (fun h => by simp at h)
theorem pureFnStores (y : List Int) (h1 : y.length ≤ maxLen) (h2 : ∀ b ∈ y, 0 ≤ b ∧ b < 256) : ∃ k, F5 k y = some (true, ()) := by
  obtain ⟨n, hn⟩ : ∃ n : Nat, 5000 ≤ n := ⟨5000, Nat.le_refl _⟩
  refine ⟨n, ?_⟩
  suffices h : ok (F5 n y) fun r => r = (true, ()) by
    obtain ⟨r, h, rfl⟩ := h
    exact h
  unfold F5 st5 F7
  simp only [Option.bind_some]
  refine ok.ite (fun _ => ok.some rfl) (fun hb => ?_)
  have hb : y.length ≤ 1048576 := by omega
  refine (t27 hn hb h2).bind fun r2 q2 => ?_
  obtain ⟨c, f, K, l, u⟩ := r2
  obtain ⟨hK, hR, hl⟩ := q2
  simp only at hK hR hl ⊢
  have h28 := t28 (n := n) (c := c) (f := f) (by omega) (by omega) hR hl
  refine h28.bind fun r3 q3 => (t29 (n := n) (c := c) (f := f) (by omega) (by omega) hR).bind fun r4 q4 => ?_
  subst q3 q4
  have hno : (sto n c f K && (rpo n l && !(decide (f = 1000000)))) = false → pu n c f K l = (c, f, K) := fun h => by unfold pu; rw [h]; rfl
  refine ok.iteb (fun h => ?_) (fun hs => (t30 (by omega) hl).1.bind fun r7 q7 => ?_)
  · have h : sto n c f K = false := by simpa using h
    rw [hno (by rw [h]; rfl)]
    exact t5j hn hK hR
  · have hs : sto n c f K = true := by simpa using hs
    subst q7
    refine ok.iteb (fun h => ?_) (fun hr => ok.ite (fun h => ?_) (fun hf => ?_))
    · have h : rpo n l = false := by simpa using h
      rw [hno (by rw [h, hs]; rfl)]
      exact t5j hn hK hR
    · rw [hno (by rw [hs, decide_eq_true h]; simp)]
      refine (t31 (by omega) (by omega) hR).bind fun r5 q5 => (t29 (by omega) (by omega) hR).bind fun r6 q6 => ?_
      subst q5 q6
      refine ok.iteb (fun _ => ok.some (by simp)) (fun h => by simp at h)
    · have hr : rpo n l = true := by simpa using hr
      have S := sto_iff.1 hs
      have c1 := S.c1
      have c2 := S.c2
      have f1 := S.f1
      have f2 := S.f2
      have hlen := S.len
      have hfc := S.fc
      have hris := ((t30 (n := n) (by omega) hl).2 hr).1
      -- what was pushed
      obtain ⟨f', K', hpu, hs', hend, hlast, hff, hK', hR', hsame⟩ : ∃ f' K', pu n c f K l = (c, f', K') ∧ StoF n c f' K' ∧ f' + K'.length = f + K.length + 1 ∧ (∃ h : 0 < K'.length, K'[K'.length - 1] = l) ∧ f ≤ f' ∧ K'.length ≤ 9 ∧ (∀ l ∈ K', Rp l) ∧
          (∀ (j j' : Nat) (h : j < K.length) (h' : j' < K'.length), f + j = f' + j' → K'[j'] = K[j]) := by
        have hp : pu n c f K l = if decide (((K ++ [l]).length : Int) > c) = true then (c, wrap64 (f + 1), (K ++ [l]).drop 1) else (c, f, K ++ [l]) := by
          unfold pu
          rw [hs, hr, decide_eq_false hf]; rfl
        have hall : ∀ x ∈ K ++ [l], Rp x ∧ rpo n x = true := fun x hx => by
          rcases List.mem_append.1 hx with hx | hx
          · exact ⟨hR x hx, S.all x hx⟩
          · rw [List.mem_singleton.1 hx]; exact ⟨hl, hr⟩
        by_cases ho : ((K ++ [l]).length : Int) > c
        · rw [if_pos (decide_eq_true ho), w64 (by omega) (by omega)] at hp
          have hl2 : (K ++ [l]).length = K.length + 1 := by simp
          have hl3 : ((K ++ [l]).drop 1).length = K.length := by rw [List.length_drop, hl2]; omega
          refine ⟨f + 1, (K ++ [l]).drop 1, hp, ⟨fun x hx => (hall x (List.mem_of_mem_drop hx)).2, c1, c2, by omega, by omega, by omega, .inr (by omega)⟩, by omega, ⟨by omega, ?_⟩, by omega, by omega, fun x hx => (hall x (List.mem_of_mem_drop hx)).1, fun j j' h h' e => ?_⟩
          · rw [List.getElem_drop, List.getElem_append_right (by omega)]
            simp
          · rw [List.getElem_drop, List.getElem_append_left (by omega)]
            congr 1
            omega
        · rw [if_neg (by rw [decide_eq_false ho]; decide)] at hp
          have hl2 : (K ++ [l]).length = K.length + 1 := by simp
          refine ⟨f, K ++ [l], hp, ⟨fun x hx => (hall x hx).2, c1, c2, by omega, f1, f2, by omega⟩, by omega, ⟨by omega, ?_⟩, by omega, by omega, fun x hx => (hall x hx).1, fun j j' h h' e => ?_⟩
          · rw [List.getElem_append_right (by omega)]
            simp
          · have : j = j' := by omega
            subst this
            rw [List.getElem_append_left h]
      rw [hpu]
      simp only
      have hst' := sto_iff.2 hs'
      obtain ⟨hpos, hlst⟩ := hlast
      have g1 := hs'.f1
      have g2 := hs'.f2
      have g3 := hs'.len
      rw [w64 (x := f + (K.length : Int)) (by omega) (by omega), w64 (x := f' - 1) (by omega) (by omega), w64 (x := f + (K.length : Int) + 1) (by omega) (by omega), w64 (x := f' + (K'.length : Int)) (by omega) (by omega)]
      refine (t32_in (by omega) (by omega) hR' hst' (j := K'.length - 1) (by omega) (by omega)).bind fun r10 q10 => (t32_out (by omega) (by omega) hR' hst' (.inl (by omega))).bind fun r11 q11 => (t32_out (by omega) (by omega) hR' hst' (.inr (by omega))).bind fun r12 q12 => ?_
      subst q10 q11 q12
      refine ok.iteb (fun h => by cases h) (fun _ => ?_)
      simp only
      rw [hlst]
      refine (t14r hl (by omega)).bind fun r q => ?_
      subst q
      refine ok.iteb (fun h => by cases h) (fun _ => ok.iteb (fun h => by cases h) (fun _ => ok.iteb (fun h => by cases h) (fun _ => ok.ite (fun h => by omega) (fun _ => ?_))))
      refine (t31 (by omega) (by omega) hR').bind fun r q => ?_
      subst q
      refine ok.iteb (fun h => by simp [hst'] at h) (fun _ => ok.ite (fun h => absurd (by omega) h) (fun _ => ?_))
      exact t5_0 hn hl hris hK hR hK' hR' hs hst' hend ⟨hpos, hlst⟩ hff hsame n 0 f' (by omega) (by omega) (by omega)
end Go.Eva
end
section
/- FnMerged: the law. -/
namespace Go.Eva
open Go.RowKit (wrap64)
set_option linter.unusedVariables false
set_option linter.unusedSimpArgs false

theorem lk_none {s : ByteArray} {r : Rw} (hs : keq s r = true) : ∀ {out : List Rw}, rep r out = none → lk s out = none
  | [], _ => rfl
  | x :: xs, h => by
    unfold rep at h
    split at h
    · cases h
    · rename_i hx
      have h' : rep r xs = none := by cases hh : rep r xs with
        | none => rfl
        | some o => rw [hh] at h; cases h
      unfold lk
      have : ¬ keq s x = true := fun q => hx (by unfold keq at q hs ⊢; rw [decide_eq_true_eq] at q hs ⊢; rw [q, hs])
      rw [if_neg this]
      exact lk_none hs h'
theorem lk_rep {s : ByteArray} {r : Rw} : ∀ {out o : List Rw}, rep r out = some o → lk s o = if keq s r = true then some (match lk s out with | some a => mr a r | none => r) else lk s out
  | [], o, h => by cases h
  | x :: xs, o, h => by
    unfold rep at h
    split at h
    · rename_i hx
      injection h with h
      subst h
      have hk : x.1.toList = r.1.toList := by simpa [keq] using hx
      have hm := mr_key hk
      by_cases hs : keq s r = true
      · have hsx : keq s x = true := by unfold keq at hs ⊢; rw [decide_eq_true_eq] at hs ⊢; rw [hk, hs]
        have hsm : keq s (mr x r) = true := by unfold keq at hs ⊢; rw [decide_eq_true_eq] at hs ⊢; rw [hm, hk, hs]
        simp [lk, hs, hsx, hsm]
      · have hsx : ¬ keq s x = true := by unfold keq at hs ⊢; rw [decide_eq_true_eq] at hs ⊢; rw [hk]; exact hs
        have hsm : ¬ keq s (mr x r) = true := by unfold keq at hs ⊢; rw [decide_eq_true_eq] at hs ⊢; rw [hm, hk]; exact hs
        simp [lk, hs, hsx, hsm]
    · rename_i hx
      cases hh : rep r xs with
      | none => rw [hh] at h; cases h
      | some o' =>
        rw [hh] at h
        injection h with h
        subst h
        have ih := lk_rep (s := s) hh
        by_cases hsx : keq s x = true
        · have hs : ¬ keq s r = true := fun q => hx (by unfold keq at q hsx ⊢; rw [decide_eq_true_eq] at q hsx ⊢; rw [hsx, q])
          simp [lk, hs, hsx]
        · simp only [lk, if_neg hsx]
          exact ih
theorem lk_ins {s : ByteArray} {r : Rw} : ∀ {out : List Rw}, lk s (ins r out) = if keq s r = true then (if lk s out = none then some r else lk s (ins r out)) else lk s out
  | [] => by by_cases hs : keq s r = true <;> simp [ins, lk, hs]
  | x :: xs => by
    have ih := lk_ins (s := s) (r := r) (out := xs)
    by_cases hs : keq s r = true
    · rw [if_pos hs] at ih ⊢
      split
      · rename_i hn
        unfold lk at hn
        split at hn
        · cases hn
        · rename_i hx
          rw [if_pos hn] at ih
          unfold ins
          split
          · simp [lk, hs]
          · simp only [lk, if_neg hx]; exact ih
      · rfl
    · rw [if_neg hs] at ih ⊢
      unfold ins
      split
      · simp [lk, hs]
      · simp only [lk]; rw [ih]
theorem lk_upd {s : ByteArray} {r : Rw} {out : List Rw} : lk s (upd out r) = if keq s r = true then some (match lk s out with | some a => mr a r | none => r) else lk s out := by
  unfold upd
  cases h : rep r out with
  | some o => exact lk_rep h
  | none =>
    show lk s (ins r out) = _
    rw [lk_ins]
    by_cases hs : keq s r = true
    · rw [if_pos hs, if_pos hs, lk_none hs h]; rfl
    · rw [if_neg hs, if_neg hs]
def Lt (s : ByteArray) (out : List Rw) (t : Rw) : Prop := (lk s out = none ∧ t = rw0) ∨ lk s out = some t
theorem Lt.step {s : ByteArray} {out : List Rw} {t r : Rw} (h : Lt s out t) : Lt s (upd out r) (tst s t r) := by
  unfold Lt tst
  rw [lk_upd]
  by_cases hs : keq s r = true
  · rw [if_pos hs, if_pos hs]
    rcases h with ⟨h1, h2⟩ | h1
    · rw [h1, h2, mr_zero]; exact .inr rfl
    · rw [h1]; exact .inr rfl
  · rw [if_neg hs, if_neg hs]; exact h
theorem Lt.list {s : ByteArray} (l : List Rw) : ∀ {out : List Rw} {t : Rw}, Lt s out t → Lt s (l.foldl upd out) (l.foldl (tst s) t) := by
  induction l with
  | nil => intro out t h; exact h
  | cons x l ih => intro out t h; exact ih h.step
theorem Lt.all {s : ByteArray} (rs : List (List Rw)) : ∀ {out : List Rw} {t : Rw}, Lt s out t → Lt s (ov rs out) (tot s rs t) := by
  induction rs with
  | nil => intro out t h; exact h
  | cons x l ih => intro out t h; exact ih (Lt.list x h)

/-! ### keys -/
def ky (l : List Rw) : List (List UInt8) := l.map fun x => x.1.toList
theorem ky_rep {r : Rw} : ∀ {out o : List Rw}, rep r out = some o → ky o = ky out ∧ r.1.toList ∈ ky out
  | [], o, h => by cases h
  | x :: xs, o, h => by
    unfold rep at h
    split at h
    · rename_i hx
      injection h with h
      subst h
      have hk : x.1.toList = r.1.toList := by simpa [keq] using hx
      simp [ky, mr_key hk, hk]
    · cases hh : rep r xs with
      | none => rw [hh] at h; cases h
      | some o' =>
        rw [hh] at h
        injection h with h
        subst h
        obtain ⟨h1, h2⟩ := ky_rep hh
        exact ⟨by show x.1.toList :: ky o' = x.1.toList :: ky xs; rw [h1], List.mem_cons_of_mem _ h2⟩
theorem ky_not {r : Rw} : ∀ {out : List Rw}, rep r out = none → r.1.toList ∉ ky out
  | [], _ => by simp [ky]
  | x :: xs, h => by
    unfold rep at h
    split at h
    · cases h
    · rename_i hx
      have h' : rep r xs = none := by cases hh : rep r xs with
        | none => rfl
        | some o => rw [hh] at h; cases h
      intro hm
      rcases List.mem_cons.1 hm with q | q
      · exact hx (by unfold keq; rw [decide_eq_true_eq]; exact q.symm)
      · exact ky_not h' q
theorem ins_perm (r : Rw) : ∀ out : List Rw, (ins r out).Perm (r :: out)
  | [] => List.Perm.refl _
  | x :: xs => by
    unfold ins
    split
    · exact List.Perm.refl _
    · exact ((ins_perm r xs).cons x).trans (List.Perm.swap _ _ _)
theorem ky_upd {out : List Rw} (h : (ky out).Nodup) (r : Rw) : (ky (upd out r)).Nodup ∧ ∀ k, k ∈ ky (upd out r) ↔ k ∈ ky out ∨ k = r.1.toList := by
  unfold upd
  cases hh : rep r out with
  | some o =>
    obtain ⟨h1, h2⟩ := ky_rep hh
    show (ky o).Nodup ∧ _
    refine ⟨by rw [h1]; exact h, fun k => ?_⟩
    show k ∈ ky o ↔ _
    rw [h1]
    exact ⟨.inl, fun q => q.elim id fun q => by rw [q]; exact h2⟩
  | none =>
    have hp : (ky (ins r out)).Perm (r.1.toList :: ky out) := (ins_perm r out).map _
    refine ⟨hp.nodup_iff.2 (List.nodup_cons.2 ⟨ky_not hh, h⟩), fun k => ?_⟩
    show k ∈ ky (ins r out) ↔ _
    rw [hp.mem_iff, List.mem_cons, or_comm]
theorem ky_list (l : List Rw) : ∀ {out : List Rw}, (ky out).Nodup → (ky (l.foldl upd out)).Nodup ∧ ∀ k, k ∈ ky (l.foldl upd out) ↔ k ∈ ky out ∨ k ∈ ky l := by
  induction l with
  | nil => intro out h; exact ⟨h, fun k => by simp [ky]⟩
  | cons x l ih =>
    intro out h
    obtain ⟨h1, h2⟩ := ky_upd h x
    obtain ⟨h3, h4⟩ := ih h1
    refine ⟨h3, fun k => ?_⟩
    rw [List.foldl_cons, h4, h2]
    show _ ↔ k ∈ ky out ∨ k ∈ x.1.toList :: ky l
    rw [List.mem_cons, or_assoc]
theorem ky_ov (rs : List (List Rw)) : ∀ {out : List Rw}, (ky out).Nodup → (ky (ov rs out)).Nodup ∧ ∀ k, k ∈ ky (ov rs out) ↔ k ∈ ky out ∨ ∃ l ∈ rs, k ∈ ky l := by
  induction rs with
  | nil => intro out h; exact ⟨h, fun k => by simp [ov]⟩
  | cons x l ih =>
    intro out h
    obtain ⟨h1, h2⟩ := ky_list x h
    obtain ⟨h3, h4⟩ := ih h1
    refine ⟨h3, fun k => ?_⟩
    show k ∈ ky (ov l (x.foldl upd out)) ↔ _
    rw [h4, h2]
    simp only [List.mem_cons, or_assoc, exists_eq_or_imp]
theorem parts_len (r1 r2 : List (List Rw)) : ((ov r2 []).foldl upd (ov r1 [])).length = (ov (r1 ++ r2) []).length := by
  have n0 : (ky ([] : List Rw)).Nodup := List.nodup_nil
  obtain ⟨a1, a2⟩ := ky_ov r1 n0
  obtain ⟨b1, b2⟩ := ky_ov r2 n0
  obtain ⟨c1, c2⟩ := ky_list (ov r2 []) a1
  obtain ⟨d1, d2⟩ := ky_ov (r1 ++ r2) n0
  have hp := (List.perm_ext_iff_of_nodup c1 d1).2 fun k => by
    rw [c2, a2, b2, d2]
    simp only [show ky ([] : List Rw) = [] from rfl, List.not_mem_nil, false_or, List.mem_append, or_and_right, exists_or]
  have := hp.length_eq
  simpa [ky] using this

/-! ### the law -/
theorem t54 {n : Nat} {y : List Int} (hy : ∀ x ∈ y, 0 ≤ x ∧ x < 256) : ok (F54 n y 0) fun r => 0 ≤ r.1 ∧ r.1 < 256 := by
  unfold F54
  refine ok.ite (fun h => ok.guard (by omega) (ok.guard h (ok.some ?_))) (fun h => ok.guard (by omega) (ok.some ?_))
  · have := hy _ (rdOf_mem (d := (0 : Int)) (i := 0) (Int.le_refl _) h)
    rw [w64 (by omega) (by omega)]
    exact this
  · have h0 : (y.length : Int) = 0 := by omega
    have e : wrap64 (wrap64 ((0 : Int) * 37) + wrap64 ((y.length : Int) * 11)) = 0 := by rw [h0]; unfold wrap64; omega
    rw [e]
    exact ⟨by decide, by decide⟩
theorem t18 {n : Nat} {y : List Int} (hy : ∀ x ∈ y, 0 ≤ x ∧ x < 256) {m : Nat} (hm : m ≤ 4) : ok (F18 n y 0 (m : Int)) fun r => 0 ≤ r.1 ∧ r.1 ≤ m := by
  unfold F18
  refine (t54 hy).bind fun r q => ok.guard (by omega) (ok.some ?_)
  obtain ⟨x, u⟩ := r
  obtain ⟨q1, q2⟩ := q
  simp only at q1 q2 ⊢
  have e : wrap64 ((m : Int) + 1) = (m : Int) + 1 := w64 (by omega) (by omega)
  have h3 : 0 ≤ x * ((m : Int) + 1) := Int.mul_nonneg q1 (by omega)
  have h4 : x * ((m : Int) + 1) ≤ 255 * ((m : Int) + 1) := Int.mul_le_mul_of_nonneg_right (by omega) (by omega)
  rw [e, w64 (x := x * ((m : Int) + 1)) (by omega) (by omega), Int.tdiv_eq_ediv_of_nonneg h3, w64 (by omega) (by omega)]
  omega
theorem eqR (a : Rf) : (decide (a.1.toList = a.1.toList) && (decide (a.2.1 = a.2.1) && (decide (a.2.2.1 = a.2.2.1) && ((a.2.2.2.1 == a.2.2.2.1) && (decide (a.2.2.2.2.1 = a.2.2.2.2.1) && (decide (a.2.2.2.2.2.1 = a.2.2.2.2.2.1) && (decide (a.2.2.2.2.2.2.1 = a.2.2.2.2.2.2.1) && (decide (a.2.2.2.2.2.2.2.1 = a.2.2.2.2.2.2.2.1) && (decide (a.2.2.2.2.2.2.2.2.1 = a.2.2.2.2.2.2.2.2.1) && (decide (a.2.2.2.2.2.2.2.2.2.1 = a.2.2.2.2.2.2.2.2.2.1) && true)))))))))) = true := by simp
theorem t4_0 {n : Nat} (hn : 5000 ≤ n) {y : List Int} (hb : y.length ≤ 1048576) (hy : ∀ x ∈ y, 0 ≤ x ∧ x < 256) {rs : List (List Rw)} (hr : rs.length ≤ 4) (hl : ∀ l ∈ rs, l.length ≤ 4) {m : List Rw} (hm : m.length = (ov rs []).length) {ks : List ByteArray} (hks : ks.length ≤ 10) : ∀ (k i : Nat), i ≤ ks.length → ks.length - i < k →
    ok (lp4_0 n k y (i : Int) rs (ov rs []) m ks) fun r => r = (true, ())
  | 0, i, h, hk => by omega
  | k + 1, i, h, hk => by
    have hol := ov_len rs 4 [] hl
    simp only [List.length_nil] at hol
    have hl8 : ∀ l ∈ rs, l.length ≤ 8 := fun l h => by have := hl l h; omega
    show ok (st4_0 n (lp4_0 n k) y _ rs (ov rs []) m ks) _
    unfold st4_0
    refine ok.ite (fun h1 => ok.guard (by omega) (ok.guard h1 ?_)) (fun h1 => ?_)
    · have hi : i < ks.length := by omega
      rw [rdOf_nat hi]
      have hL : Lt ks[i] (ov rs []) (tot ks[i] rs rw0) := Lt.all rs (.inl ⟨rfl, rfl⟩)
      refine (t20 (n := n) (l := ov rs []) (s := ks[i]) (by omega) (by omega)).bind fun r8 q8 => ok.guard (by omega) (ok.guard h1 ?_)
      refine (t21 (n := n) (s := ks[i]) (by omega) hl8 (by omega)).bind fun r9 q9 => ?_
      have fin : ∀ b : Bool, b = false → ok (j4_0 n (lp4_0 n k) y (i : Int) b rs (ov rs []) m ks) fun r => r = (true, ()) := fun b hb2 => by
        subst hb2
        unfold j4_0
        refine ok.iteb (fun h => by cases h) (fun _ => ?_)
        rw [w1 hi (by omega)]
        exact t4_0 hn hb hy hr hl hm hks k (i + 1) (by omega) (by omega)
      have h22 := t22 (n := n) (s := ks[i]) (rs := rs) (by omega) hl8 (by omega)
      rcases hL with ⟨e1, e2⟩ | e1
      · rw [e1] at q8
        subst q8
        rw [e2] at q9 h22
        subst q9
        refine ok.iteb (fun _ => ok.iteb (fun h => by simp [toF, rw0] at h) (fun _ => ok.iteb (fun h => by cases h) (fun _ => ok.guard (by omega) (ok.guard h1 (h22.bind fun r q => ?_))))) (fun h => by cases h)
        subst q
        exact fin _ (by rw [eqR]; rfl)
      · rw [e1] at q8
        subst q8
        subst q9
        refine ok.iteb (fun h => by cases h) (fun _ => ok.iteb (fun _ => ok.iteb (fun h => ?_) (fun _ => ok.guard (by omega) (ok.guard h1 (h22.bind fun r q => ?_)))) (fun h => by cases h))
        · have := eqR (toF (tot ks[i] rs rw0))
          simp [toF] at h
        · subst q
          exact fin _ (by rw [eqR]; rfl)
    · refine (t23 hn hb hy).bind fun r14 _ => ?_
      let a : Rw := (r14.1, r14.2.1, r14.2.2.1, r14.2.2.2.1, r14.2.2.2.2.1, r14.2.2.2.2.2.1, r14.2.2.2.2.2.2.1, r14.2.2.2.2.2.2.2.1, r14.2.2.2.2.2.2.2.2.1, r14.2.2.2.2.2.2.2.2.2.1)
      let b : Rw := (r14.2.2.2.2.2.2.2.2.2.2.1, r14.2.2.2.2.2.2.2.2.2.2.2.1, r14.2.2.2.2.2.2.2.2.2.2.2.2.1, r14.2.2.2.2.2.2.2.2.2.2.2.2.2.1, r14.2.2.2.2.2.2.2.2.2.2.2.2.2.2.1, r14.2.2.2.2.2.2.2.2.2.2.2.2.2.2.2.1, r14.2.2.2.2.2.2.2.2.2.2.2.2.2.2.2.2.1, r14.2.2.2.2.2.2.2.2.2.2.2.2.2.2.2.2.2.1, r14.2.2.2.2.2.2.2.2.2.2.2.2.2.2.2.2.2.2.1, r14.2.2.2.2.2.2.2.2.2.2.2.2.2.2.2.2.2.2.2.1)
      refine (t24 (n := n) a b).bind fun r15 q15 => (t25 (n := n) (by omega) hl (by omega)).bind fun r16 q16 => ?_
      subst q16
      refine (t14 (n := n) (l := ov rs []) (by omega) (by omega)).bind fun r17 q17 => ?_
      subst q17
      refine ok.iteb (fun _ => ok.ite (fun _ => ?_) (fun h => absurd (by rw [hm]) h)) (fun h => by cases h)
      refine (t26 (n := n) a b).bind fun r18 q18 => ?_
      subst q15 q18
      refine ok.iteb (fun _ => ?_) (fun h => by rw [eqR] at h; cases h)
      refine (t24 (n := n) rw0 b).bind fun r19 q19 => ok.some ?_
      rw [mr_zero] at q19
      subst q19
      rw [Prod.mk.injEq]
      exact ⟨eqR (toF b), rfl⟩
theorem pureFnMerged (y : List Int) (h1 : y.length ≤ maxLen) (h2 : ∀ b ∈ y, 0 ≤ b ∧ b < 256) : ∃ k, F4 k y = some (true, ()) := by
  obtain ⟨n, hn⟩ : ∃ n : Nat, 5000 ≤ n := ⟨5000, Nat.le_refl _⟩
  refine ⟨n, ?_⟩
  suffices h : ok (F4 n y) fun r => r = (true, ()) by
    obtain ⟨r, h, rfl⟩ := h
    exact h
  unfold F4 st4 F7
  simp only [Option.bind_some]
  refine ok.ite (fun _ => ok.some rfl) (fun hb => ?_)
  have hb : y.length ≤ 1048576 := by omega
  refine (t16 hn hb h2).bind fun r2 q2 => ?_
  have hl8 : ∀ l ∈ r2.1, l.length ≤ 8 := fun l h => by have := q2.2 l h; omega
  refine (t17 (n := n) (by omega) hl8 (by omega)).bind fun r3 q3 => ?_
  subst q3
  refine (t18 (n := n) h2 q2.1).bind fun r4 q4 => ok.guard (by omega) (ok.guard q4.1 (ok.guard q4.2 ?_))
  obtain ⟨k, hk⟩ := Int.eq_ofNat_of_zero_le q4.1
  rw [hk] at q4 ⊢
  have c1 : cutL r2.1 0 (k : Int) = r2.1.take k := by simp [cutL]
  have c2 : cutL r2.1 (k : Int) (r2.1.length : Int) = r2.1.drop k := by simp [cutL]
  rw [c1, c2]
  refine (t17 (n := n) (rs := r2.1.take k) (by simp; omega) (fun l h => hl8 l (List.mem_of_mem_take h)) (by omega)).bind fun r5 q5 => ok.guard q4.1 (ok.guard q4.2 (ok.guard (Int.le_refl _) ?_))
  refine (t17 (n := n) (rs := r2.1.drop k) (by simp; omega) (fun l h => hl8 l (List.mem_of_mem_drop h)) (by omega)).bind fun r6 q6 => ?_
  subst q5 q6
  have o1 := ov_len (r2.1.take k) 8 [] (fun l h => hl8 l (List.mem_of_mem_take h))
  have o2 := ov_len (r2.1.drop k) 8 [] (fun l h => hl8 l (List.mem_of_mem_drop h))
  simp only [List.length_nil, List.length_take, List.length_drop] at o1 o2
  refine (t19 (n := n) (a := ov (r2.1.take k) []) (b := ov (r2.1.drop k) []) (by omega) (by omega) (by omega)).bind fun r7 q7 => ?_
  subst q7
  refine t4_0 hn hb h2 q2.1 q2.2 ?_ (by decide) n 0 (by omega) (by simp; omega)
  rw [parts_len, List.take_append_drop]
end Go.Eva
end
section
/- FnRolling: the sums of a counter, in plain terms. -/
namespace Go.Eva
open Go.RowKit (wrap64)
set_option linter.unusedVariables false
set_option linter.unusedSimpArgs false

/-- Two rows of a counter merged. -/
theorem p24c {n : Nat} {s : ByteArray} {a b : Int} {t : Bool} {d e f g u v : Int} {s' : ByteArray} {a' b' : Int} {t' : Bool} {d' e' f' g' u' v' : Int} (hs : s.toList = s'.toList) (h0 : 1 ≤ s.size) (ha : a = 1) (ha' : a' = 1) (hb : 0 ≤ b) (hb2 : b ≤ 281474976710655) (hb' : 0 ≤ b') (hb2' : b' ≤ 281474976710655) :
    ok (F24 n s a b t d e f g u v s' a' b' t' d' e' f' g' u' v') fun r => r.2.1 = 1 ∧ r.2.2.1 = (b + b') % 281474976710656 ∧ 1 ≤ r.1.size := by
  have hm : (wrap64 ((wrap64 (b + b')).tmod 281474976710656 + 281474976710656)).tmod 281474976710656 = (b + b') % 281474976710656 := by
    rw [mod48, w64 (by omega) (by omega)]
  unfold F24
  refine ok.iteb (fun h => ?_) (fun _ => ok.iteb (fun h => ?_) (fun _ => ok.ite (fun h => absurd (ha.trans ha'.symm) h) (fun _ => ok.guard (by decide) (ok.guard (by decide) ?_))))
  · exfalso
    have h := of_decide_eq_true (Bool.and_eq_true_iff.1 h).1
    have h : s.data.toList.length = 0 := by rw [← ByteArray.toList_eq, h, ByteArray.toList_eq]; rfl
    have : s.data.toList.length = s.size := Array.length_toList
    omega
  · exfalso
    simp [hs] at h
  · exact ok.iteb (fun _ => ok.ite (fun _ => ok.some ⟨ha, hm, h0⟩) (fun _ => ok.ite (fun _ => ok.some ⟨ha, hm, h0⟩) (fun _ => ok.some ⟨ha, hm, h0⟩))) (fun _ => ok.ite (fun _ => ok.some ⟨ha, hm, h0⟩) (fun _ => ok.ite (fun _ => ok.some ⟨ha, hm, h0⟩) (fun _ => ok.some ⟨ha, hm, h0⟩)))
theorem mr_one {a b : Rw} (hk : a.1.toList = b.1.toList) (h1 : 1 ≤ a.1.size) (h2 : 1 ≤ b.1.size) (ha : a.2.1 = 1) (hb : b.2.1 = 1) (b1 : 0 ≤ a.2.2.1) (b2 : 0 ≤ b.2.2.1) (b3 : a.2.2.1 ≤ 281474976710655) (b4 : b.2.2.1 ≤ 281474976710655) :
    (mr a b).2.1 = 1 ∧ (mr a b).2.2.1 = (a.2.2.1 + b.2.2.1) % 281474976710656 ∧ 1 ≤ (mr a b).1.size := by
  obtain ⟨r, h, q⟩ := p24c (n := 0) (s := a.1) (a := a.2.1) (b := a.2.2.1) (t := a.2.2.2.1) (d := a.2.2.2.2.1) (e := a.2.2.2.2.2.1) (f := a.2.2.2.2.2.2.1) (g := a.2.2.2.2.2.2.2.1) (u := a.2.2.2.2.2.2.2.2.1) (v := a.2.2.2.2.2.2.2.2.2) (s' := b.1) (a' := b.2.1) (b' := b.2.2.1) (t' := b.2.2.2.1) (d' := b.2.2.2.2.1) (e' := b.2.2.2.2.2.1) (f' := b.2.2.2.2.2.2.1) (g' := b.2.2.2.2.2.2.2.1) (u' := b.2.2.2.2.2.2.2.2.1) (v' := b.2.2.2.2.2.2.2.2.2) hk h1 ha hb b1 b3 b2 b4
  have hm : mr a b = toR r := by unfold mr; rw [h]
  rw [hm]
  exact q
theorem keq_iff {s : ByteArray} {x : Rw} : keq s x = true ↔ x.1.toList = s.toList := by unfold keq; exact decide_eq_true_iff
theorem lk_mem {s : ByteArray} : ∀ {l : List Rw} {r : Rw}, lk s l = some r → r ∈ l ∧ keq s r = true
  | [], r, h => by cases h
  | x :: xs, r, h => by
    unfold lk at h
    split at h
    · rename_i hk
      injection h with h
      subst h
      exact ⟨List.mem_cons_self, hk⟩
    · have := lk_mem h
      exact ⟨List.mem_cons_of_mem _ this.1, this.2⟩
theorem lk_nodup {l : List Rw} (h : (ky l).Nodup) : ∀ {r : Rw}, r ∈ l → lk r.1 l = some r := by
  induction l with
  | nil => intro r hr; cases hr
  | cons x xs ih =>
    intro r hr
    have hd : x.1.toList ∉ ky xs ∧ (ky xs).Nodup := List.nodup_cons.1 h
    unfold lk
    by_cases hk : keq r.1 x = true
    · rw [if_pos hk]
      rcases List.mem_cons.1 hr with h1 | h1
      · rw [h1]
      · exact absurd (List.mem_map.2 ⟨r, h1, (keq_iff.1 hk).symm⟩) hd.1
    · rw [if_neg hk]
      rcases List.mem_cons.1 hr with h1 | h1
      · rw [h1] at hk; exact absurd (keq_iff.2 rfl) hk
      · exact ih hd.2 h1
theorem ky_rising {l : List Rw} (h : Rising l) : (ky l).Nodup := by
  unfold ky List.Nodup
  rw [List.pairwise_map, List.pairwise_iff_getElem]
  intro i j hi hj hij e
  obtain ⟨d, rfl⟩ : ∃ d, j = i + (d + 1) := ⟨j - i - 1, by omega⟩
  have := rise_lt h d i hj
  rw [e, less_irr] at this
  cases this
theorem fold_no {s : ByteArray} : ∀ {l : List Rw}, (∀ x ∈ l, keq s x = false) → ∀ t, l.foldl (tst s) t = t
  | [], h, t => rfl
  | x :: xs, h, t => by
    rw [List.foldl_cons]
    have : tst s t x = t := by unfold tst; rw [h x List.mem_cons_self]; rfl
    rw [this]
    exact fold_no (fun y hy => h y (List.mem_cons_of_mem _ hy)) t
theorem fold_lk {s : ByteArray} : ∀ {l : List Rw}, (ky l).Nodup → ∀ t, l.foldl (tst s) t = match lk s l with | some r => mr t r | none => t
  | [], h, t => rfl
  | x :: xs, h, t => by
    have hd : x.1.toList ∉ ky xs ∧ (ky xs).Nodup := List.nodup_cons.1 h
    rw [List.foldl_cons]
    unfold lk
    by_cases hk : keq s x = true
    · rw [if_pos hk]
      have : tst s t x = mr t x := by unfold tst; rw [if_pos hk]
      rw [this]
      refine fold_no (fun y hy => ?_) _
      cases hy' : keq s y with
      | false => rfl
      | true => exact absurd (List.mem_map.2 ⟨y, hy, (keq_iff.1 hy').trans (keq_iff.1 hk).symm⟩) hd.1
    · rw [if_neg hk]
      have : tst s t x = t := by unfold tst; rw [if_neg hk]
      rw [this]
      exact fold_lk hd.2 t
/-- What a counter of the name adds up to so far. -/
def Ct (s : ByteArray) (t : Rw) (S : Int) : Prop := (t = rw0 ∧ S = 0) ∨ (t.1.toList = s.toList ∧ 1 ≤ t.1.size ∧ t.2.1 = 1 ∧ t.2.2.1 = S % 281474976710656)
def vl (s : ByteArray) (l : List Rw) : Int := match lk s l with | some r => r.2.2.1 | none => 0
structure Cl (s : ByteArray) (l : List Rw) : Prop where
  rise : Rising l
  cnt : ∀ x ∈ l, Cnt x
  one : ∀ r, lk s l = some r → r.2.1 = 1
theorem Cl.bd {s : ByteArray} {l : List Rw} (h : Cl s l) : 0 ≤ vl s l ∧ vl s l ≤ 281474976710655 := by
  unfold vl
  split
  · rename_i r hr
    exact (h.cnt r (lk_mem hr).1).2 (h.one r hr)
  · omega
theorem Ct.list {s : ByteArray} {t : Rw} {S : Int} {l : List Rw} (h : Ct s t S) (hl : Cl s l) : Ct s (l.foldl (tst s) t) (S + vl s l) := by
  rw [fold_lk (ky_rising hl.rise)]
  unfold vl
  split
  · rename_i r hr
    obtain ⟨h1, h2⟩ := lk_mem hr
    have hc := hl.cnt r h1
    have ho := hl.one r hr
    have hb := hc.2 ho
    have hk := keq_iff.1 h2
    rcases h with ⟨rfl, rfl⟩ | ⟨a1, a2, a3, a4⟩
    · rw [mr_zero]
      exact .inr ⟨hk, hc.1, ho, by omega⟩
    · have hm := mr_one (a := t) (b := r) (a1.trans hk.symm) a2 hc.1 a3 ho (by omega) hb.1 (by omega) hb.2
      refine .inr ⟨?_, ?_, hm.1, ?_⟩
      · rw [mr_key (a1.trans hk.symm)]; exact a1
      · exact hm.2.2
      · rw [hm.2.1, a4]; omega
  · rw [Int.add_zero]; exact h
theorem Ct.all {s : ByteArray} : ∀ (K : List (List Rw)) {t : Rw} {S : Int}, (∀ l ∈ K, Cl s l) → Ct s t S → Ct s (tot s K t) (S + (K.map (vl s)).sum)
  | [], t, S, hK, h => by simpa [tot] using h
  | l :: K, t, S, hK, h => by
    have := Ct.all K (fun l' hl' => hK l' (List.mem_cons_of_mem _ hl')) (h.list (hK l List.mem_cons_self))
    rw [List.map_cons, List.sum_cons, ← Int.add_assoc]
    exact this
theorem vl_sum {s : ByteArray} : ∀ (K : List (List Rw)), (∀ l ∈ K, Cl s l) → 0 ≤ (K.map (vl s)).sum
  | [], _ => by simp
  | l :: K, h => by
    have := vl_sum K fun l' hl' => h l' (List.mem_cons_of_mem _ hl')
    have := (h l List.mem_cons_self).bd
    simp only [List.map_cons, List.sum_cons]
    omega
/-- A counter's row in reports merged: the sum over them. -/
theorem roll {K : List (List Rw)} {x : Rw} (hK : ∀ l ∈ K, Cl x.1 l) (hx : x ∈ ov K []) (h1 : x.2.1 = 1) : ((K.map (vl x.1)).sum).tmod 281474976710656 = x.2.2.1 := by
  have hn := (ky_ov K (out := []) (by simp [ky])).1
  have hl := lk_nodup hn hx
  have ht := Lt.all (s := x.1) K (out := []) (t := rw0) (.inl ⟨rfl, rfl⟩)
  have hc := Ct.all (s := x.1) K (t := rw0) (S := 0) hK (.inl ⟨rfl, rfl⟩)
  rcases ht with ⟨h2, _⟩ | h2
  · rw [hl] at h2; cases h2
  · rw [hl] at h2
    injection h2 with h2
    rw [← h2, Int.zero_add] at hc
    rcases hc with ⟨h3, _⟩ | ⟨_, _, _, h3⟩
    · rw [h3] at h1; cases h1
    · rw [h3, Int.tmod_eq_emod_of_nonneg (vl_sum K hK)]

/-- What FindRow answers. -/
def fr (o : Option Rw) : ByteArray × Int × Int × Bool × Int × Int × Int × Int × Int × Int × Bool × Unit := match o with
  | none => ((⟨#[]⟩ : ByteArray), 0, 0, false, 0, 0, 0, 0, 0, 0, false, ())
  | some a => (a.1, a.2.1, a.2.2.1, a.2.2.2.1, a.2.2.2.2.1, a.2.2.2.2.2.1, a.2.2.2.2.2.2.1, a.2.2.2.2.2.2.2.1, a.2.2.2.2.2.2.2.2.1, a.2.2.2.2.2.2.2.2.2, true, ())
theorem t20f {n : Nat} {l : List Rw} (hl : l.length ≤ 1000000000) (hn : l.length < n) {s : ByteArray} : ok (F20 n l s) fun r => r = fr (lk s l) := (t20 (s := s) hl hn).mono fun r h => by
  rw [h]; cases lk s l <;> rfl
theorem t37_0 {n : Nat} {l : List Rw} (hl : l.length ≤ 1000000000) {s s3 : ByteArray} {i4 i5 : Int} {b6 : Bool} {i7 i8 i9 i10 i11 i12 : Int} : ∀ (k i : Nat), i ≤ l.length → l.length - i < k → ok (lp37_0 n k l s (i : Int) s3 i4 i5 b6 i7 i8 i9 i10 i11 i12) fun r => r = fr (lk s (l.drop i))
  | 0, i, h, hk => by omega
  | k + 1, i, h, hk => by
    show ok (st37_0 n (lp37_0 n k) l s _ s3 i4 i5 b6 i7 i8 i9 i10 i11 i12) _
    unfold st37_0
    refine ok.ite (fun h1 => ok.guard (by omega) (ok.guard h1 ?_)) (fun h1 => ok.some ?_)
    · have hi : i < l.length := by omega
      rw [drop_cons hi, rdOf_nat hi, w1 hi (by omega)]
      unfold lk
      refine ok.ite (fun h2 => ok.guard (by omega) (ok.guard h1 (ok.some ?_))) (fun h2 => ?_)
      · rw [if_pos (keq_iff.2 h2)]; rfl
      · rw [if_neg (fun q => h2 (keq_iff.1 q))]
        exact t37_0 hl k (i + 1) (by omega) (by omega)
    · rw [List.drop_eq_nil_of_le (by omega)]; rfl
theorem t37 {n : Nat} {l : List Rw} (hl : l.length ≤ 1000000000) (hn : l.length < n) {s : ByteArray} : ok (F37 n l s) fun r => r = fr (lk s l) := by
  unfold F37 st37
  exact t37_0 hl n 0 (by omega) (by omega)
def rk (o : Option Rw) : Int := match o with
  | none => 0
  | some a => if a.2.1 = 1 then a.2.2.1 else if a.2.1 = 2 then a.2.2.2.2.1 else if a.2.1 = 3 then a.2.2.2.2.2.2.2.2.1 else 0
theorem t13 {n : Nat} (o : Option Rw) : ok (F13 n (fr o).1 (fr o).2.1 (fr o).2.2.1 (fr o).2.2.2.1 (fr o).2.2.2.2.1 (fr o).2.2.2.2.2.1 (fr o).2.2.2.2.2.2.1 (fr o).2.2.2.2.2.2.2.1 (fr o).2.2.2.2.2.2.2.2.1 (fr o).2.2.2.2.2.2.2.2.2.1) fun r => r = (rk o, ()) := by
  unfold F13
  cases o with
  | none => exact ok.some rfl
  | some a =>
    unfold rk
    refine ok.ite (fun h => ok.some ?_) (fun h => ok.ite (fun h2 => ok.some ?_) (fun h2 => ok.ite (fun h3 => ok.some ?_) (fun h3 => ok.some ?_)))
    · have h : a.2.1 = 1 := h
      simp only [h, if_pos]; rfl
    · have h : ¬ a.2.1 = 1 := h
      have h2 : a.2.1 = 2 := h2
      simp only [h2]; rfl
    · have h : ¬ a.2.1 = 1 := h
      have h2 : ¬ a.2.1 = 2 := h2
      have h3 : a.2.1 = 3 := h3
      simp only [h3]; rfl
    · have h : ¬ a.2.1 = 1 := h
      have h2 : ¬ a.2.1 = 2 := h2
      have h3 : ¬ a.2.1 = 3 := h3
      simp only [if_neg h, if_neg h2, if_neg h3]
theorem t39_0 {n : Nat} (hn : 3000 ≤ n) {s : ByteArray} {K : List (List Rw)} (hK : K.length ≤ 100) (hR : ∀ l ∈ K, Rp l) : ∀ (k i : Nat) (out : List Int), i ≤ K.length → K.length - i < k → out.length + (K.length - i) ≤ 1000 → ok (lp39_0 n k s K (K.length : Int) (i : Int) out) fun r => r = (out ++ (K.drop i).map (fun l => rk (lk s l)), ())
  | 0, i, out, h, hk, ho => by omega
  | k + 1, i, out, h, hk, ho => by
    show ok (st39_0 n (lp39_0 n k) s K _ _ out) _
    unfold st39_0
    refine ok.ite (fun h1 => ok.guard (by omega) (ok.guard h1 ?_)) (fun h1 => ok.some ?_)
    · have hi : i < K.length := by omega
      rw [drop_cons hi, rdOf_nat hi, w1 hi (by omega)]
      have := (hR _ (List.getElem_mem hi)).1
      refine (t20f (n := n) (l := K[i]) (s := s) (by omega) (by omega)).bind fun r1 q1 => ?_
      subst q1
      refine (t13 _).bind fun r2 q2 => ?_
      subst q2
      refine ok.guard (by simp only [List.length_cons, List.length_nil]; omega) ((t39_0 hn hK hR k (i + 1) _ (by omega) (by omega) (by simp only [List.length_append, List.length_cons, List.length_nil]; omega)).mono fun r q => ?_)
      rw [q, List.map_cons, List.append_assoc]
      rfl
    · rw [List.drop_eq_nil_of_le (by omega)]; simp
theorem t39 {n : Nat} (hn : 3000 ≤ n) {s : ByteArray} {K : List (List Rw)} (hK : K.length ≤ 100) (hR : ∀ l ∈ K, Rp l) : ok (F39 n K s) fun r => r = (K.map (fun l => rk (lk s l)), ()) := by
  unfold F39 st39
  refine (t39_0 hn hK hR n 0 [] (by omega) (by omega) (by simp only [List.length_nil]; omega)).mono fun r q => ?_
  rw [q, List.nil_append, List.drop_zero]
theorem sum_bd0 : ∀ (l : List Int), (∀ x ∈ l, 0 ≤ x ∧ x ≤ 281474976710655) → 0 ≤ l.sum ∧ l.sum ≤ 281474976710655 * l.length
  | [], _ => by simp
  | x :: xs, h => by
    have h1 := sum_bd0 xs fun y hy => h y (List.mem_cons_of_mem _ hy)
    have h2 := h x List.mem_cons_self
    simp only [List.sum_cons, List.length_cons]
    omega
theorem sum_bd (l : List Int) (h : ∀ x ∈ l, 0 ≤ x ∧ x ≤ 281474976710655) (hl : l.length ≤ 100) : 0 ≤ l.sum ∧ l.sum ≤ 28147497671065500 := by
  have := sum_bd0 l h
  omega
/-- The moving sums: how many, and the last of them. -/
theorem t38_0 {n : Nat} {l : List Int} (hl : l.length ≤ 100) {m : Nat} (hm : 1 ≤ m) (B : Prop) (hB : B → ∀ x ∈ l, 0 ≤ x ∧ x ≤ 281474976710655) : ∀ (k i : Nat) (sm : Int) (out : List Int), i ≤ l.length → l.length - i < k → out.length = i →
    (B → sm = (l.take i).sum - (l.take (i - m)).sum) → (B → 0 < i → ∃ h : 0 < out.length, out[out.length - 1] = sm) →
    ok (lp38_0 n k l (m : Int) sm l (l.length : Int) (i : Int) out) fun r => r.1.length = l.length ∧ (B → 0 < l.length → ∃ h : 0 < r.1.length, r.1[r.1.length - 1] = (l.take l.length).sum - (l.take (l.length - m)).sum)
  | 0, i, sm, out, h, hk, ho, hs, hlast => by omega
  | k + 1, i, sm, out, h, hk, ho, hs, hlast => by
    show ok (st38_0 n (lp38_0 n k) l _ sm l _ _ out) _
    unfold st38_0
    refine ok.ite (fun h1 => ok.guard (by omega) (ok.guard h1 ?_)) (fun h1 => ok.some ⟨?_, fun b hb => ?_⟩)
    · have hi : i < l.length := by omega
      rw [rdOf_nat hi]
      have hts : (l.take (i + 1)).sum = (l.take i).sum + l[i] := by rw [List.take_succ_eq_append_getElem hi, List.sum_append]; simp
      have hgo : ∀ sm' : Int, (B → sm' = (l.take (i + 1)).sum - (l.take (i + 1 - m)).sum) → ok (j38_0 n (lp38_0 n k) l m sm' l l.length i out) _ := fun sm' hs' => by
        unfold j38_0
        rw [w1 hi (by omega)]
        refine ok.guard (by simp only [List.length_cons, List.length_nil]; omega) (t38_0 hl hm B hB k (i + 1) sm' (out ++ [sm']) (by omega) (by omega) (by simp [ho]) hs' fun b _ => ⟨by simp, by simp⟩)
      refine ok.ite (fun h2 => by omega) (fun h2 => ok.ite (fun h3 => ?_) (fun h3 => hgo _ fun b => ?_))
      · have e : wrap64 ((i : Int) - m) = ((i - m : Nat) : Int) := by rw [w64 (by omega) (by omega)]; omega
        rw [e]
        refine ok.guard (by omega) (ok.guard (by omega) (hgo _ fun b => ?_))
        have him : i - m < l.length := by omega
        rw [rdOf_nat him]
        have h4 := hs b
        have h5 := hB b _ (List.getElem_mem hi)
        have h6 := hB b _ (List.getElem_mem him)
        have h7 := sum_bd (l.take i) (fun x hx => hB b x (List.mem_of_mem_take hx)) (by simp; omega)
        have h8 := sum_bd (l.take (i - m)) (fun x hx => hB b x (List.mem_of_mem_take hx)) (by simp; omega)
        have e2 : i + 1 - m = i - m + 1 := by omega
        rw [e2, hts, List.take_succ_eq_append_getElem him, List.sum_append, h4]
        rw [w64 (x := (l.take i).sum - (l.take (i - m)).sum + l[i]) (by omega) (by omega), w64 (by omega) (by omega)]
        simp only [List.sum_cons, List.sum_nil]
        omega
      · have h4 := hs b
        have h5 := hB b _ (List.getElem_mem hi)
        have h7 := sum_bd (l.take i) (fun x hx => hB b x (List.mem_of_mem_take hx)) (by simp; omega)
        have e1 : i - m = 0 := by omega
        have e2 : i + 1 - m = 0 := by omega
        rw [e2, hts, h4, e1]
        simp only [List.take_zero, List.sum_nil]
        rw [w64 (by omega) (by omega)]
        omega
    · show out.length = l.length
      omega
    · have e : i = l.length := by omega
      subst e
      obtain ⟨p, q⟩ := hlast b hb
      exact ⟨p, by rw [q, hs b]⟩
theorem t38 {n : Nat} {l : List Int} (hl : l.length ≤ 100) (hn : l.length < n) {m : Nat} (hm : 1 ≤ m) (B : Prop) (hB : B → ∀ x ∈ l, 0 ≤ x ∧ x ≤ 281474976710655) : ok (F38 n l (m : Int)) fun r => r.1.length = l.length ∧ (B → 0 < l.length → ∃ h : 0 < r.1.length, r.1[r.1.length - 1] = (l.drop (l.length - m)).sum) := by
  unfold F38 st38
  refine (t38_0 hl hm B hB n 0 0 [] (by omega) (by omega) rfl (fun _ => by simp) (fun _ h => by omega)).mono fun r q => ⟨q.1, fun b h => ?_⟩
  obtain ⟨p, q⟩ := q.2 b h
  refine ⟨p, ?_⟩
  rw [q, List.take_length]
  conv => lhs; arg 1; rw [← List.take_append_drop (l.length - m) l]
  rw [List.sum_append]
  omega
theorem t34b {n : Nat} (hn : 3000 ≤ n) {c f : Int} {K : List (List Rw)} (hK : K.length ≤ 100) (hR : ∀ l ∈ K, Rp l) {i : Int} (h : sto n c f K = false ∨ i < 1 ∨ i > K.length) : ok (F34 n c f K i) fun r => r = ([], ()) := by
  by_cases hz : sto n c f K = true ∧ i = 0
  · obtain ⟨hs, rfl⟩ := hz
    refine (t34 (n := n) hn hK hR hs (m := 0) (Nat.zero_le _)).mono fun r q => ?_
    rw [q, Nat.sub_zero, List.drop_length]
    rfl
  · unfold F34
    refine (t31 hn hK hR).bind fun r q => ?_
    subst q
    refine ok.iteb (fun _ => ok.some rfl) (fun hs => ?_)
    have hs : sto n c f K = true := by simpa using hs
    rw [f50]
    refine ok.iteb (fun _ => ok.some rfl) (fun h2 => ?_)
    have h2 : inr i 0 K.length = true := by simpa using h2
    unfold inr at h2
    have h2 := of_decide_eq_true h2
    have : ¬ i = 0 := fun q => hz ⟨hs, q⟩
    rw [hs] at h
    rcases h with h | h | h
    · cases h
    · omega
    · omega
theorem t40 {n : Nat} (hn : 3000 ≤ n) {c f : Int} {K : List (List Rw)} (hK : K.length ≤ 100) (hR : ∀ l ∈ K, Rp l) (hs : sto n c f K = true) {m : Nat} (hm : m ≤ K.length) : ok (F40 n c f K (m : Int)) fun r => r = (ov (K.drop (K.length - m)) [], ()) := by
  unfold F40
  refine (t29 hn hK hR).bind fun r q => ?_
  subst q
  refine ok.iteb (fun h => by simp [hs] at h) (fun _ => ?_)
  rw [f52]
  refine ok.iteb (fun h => ?_) (fun _ => ?_)
  · have : inr (m : Int) 0 (K.length : Int) = true := by unfold inr; exact decide_eq_true ⟨by omega, by omega⟩
    simp [this] at h
  · have e : wrap64 ((K.length : Int) - m) = ((K.length - m : Nat) : Int) := by rw [w64 (by omega) (by omega)]; omega
    rw [e]
    have ec : cutL K ((K.length - m : Nat) : Int) (K.length : Int) = K.drop (K.length - m) := by simp [cutL]
    refine ok.guard (by omega) (ok.guard (by omega) (ok.guard (Int.le_refl _) ?_))
    rw [ec]
    refine (t25 (n := n) (rs := K.drop (K.length - m)) (by rw [List.length_drop]; omega) (fun l hl => by have := (hR l (List.mem_of_mem_drop hl)).1; omega) hn).bind fun r q => ok.some ?_
    rw [q]
/-- All rows of the name so far are counters'. -/
def sm (s : ByteArray) (K : List (List Rw)) : Bool := K.all fun l => match lk s l with | none => true | some r => decide (r.2.1 = 1)
theorem t6_1 {n : Nat} (hn : 5000 ≤ n) {m : Nat} (hm : 1 ≤ m) {c f : Int} {K : List (List Rw)} (hK : K.length ≤ 8) (hmK : m ≤ K.length) (hR : ∀ l ∈ K, Rp l) (hs : sto n c f K = true) {i : Nat} (hi : i < (ov (K.drop (K.length - m)) []).length) (hol : (ov (K.drop (K.length - m)) []).length ≤ 1000) (h1 : ((ov (K.drop (K.length - m)) [])[i]).2.1 = 1)
    {g0 : Int → Int → Int → Int → List (List Rw) → List Rw → Option (Bool × Unit)} {Q : Bool × Unit → Prop} (hg : ok (g0 (m : Int) ((i + 1 : Nat) : Int) c f K (ov (K.drop (K.length - m)) [])) Q) : ∀ (k j : Nat) (b : Bool), j ≤ K.length → K.length - j < k → (b = true → sm ((ov (K.drop (K.length - m)) [])[i]).1 (K.take j) = true) →
    ok (lp6_1 n g0 k (m : Int) (i : Int) b (j : Int) c f K (ov (K.drop (K.length - m)) [])) Q
  | 0, j, b, h, hk, hb => by omega
  | k + 1, j, b, h, hk, hb => by
    show ok (st6_1 n g0 (lp6_1 n g0 k) _ _ b _ c f K _) _
    unfold st6_1
    have ih := t6_1 hn hm hK hmK hR hs hi hol h1 hg k (j + 1)
    rw [rdOf_nat hi]
    obtain ⟨x, hx⟩ : ∃ x, x = (ov (K.drop (K.length - m)) [])[i] := ⟨_, rfl⟩
    have hxm : x ∈ ov (K.drop (K.length - m)) [] := hx ▸ List.getElem_mem hi
    rw [← hx] at ih hb h1 ⊢
    refine ok.ite (fun hj => ok.guard (by omega) (ok.guard hj (ok.guard (by omega) (ok.guard (by omega) ?_)))) (fun hj => ok.guard (by omega) (ok.guard (by omega) ?_))
    · have hj : j < K.length := by omega
      rw [rdOf_nat hj]
      have := (hR _ (List.getElem_mem hj)).1
      refine (t37 (n := n) (l := K[j]) (s := x.1) (by omega) (by omega)).bind fun r8 q8 => ?_
      subst q8
      rw [w1 hj (by omega)]
      have htk : ∀ q : Bool, (b = true → q = true → (match lk x.1 K[j] with | none => true | some r => decide (r.2.1 = 1)) = true) → b = true → q = true → sm x.1 (K.take (j + 1)) = true := fun q hq hb1 hq1 => by
        unfold sm
        rw [List.take_succ_eq_append_getElem hj, List.all_append, Bool.and_eq_true]
        exact ⟨hb hb1, by simp only [List.all_cons, List.all_nil, Bool.and_true]; exact hq hb1 hq1⟩
      refine ok.iteb (fun hbt => ?_) (fun hbf => ih false (by omega) (by omega) (fun q => by cases q))
      cases hl : lk x.1 K[j] with
      | none =>
        refine ok.iteb (fun _ => ih true (by omega) (by omega) fun _ => htk true (fun _ _ => by rw [hl]) hbt rfl) (fun q => by simp [fr] at q)
      | some r =>
        refine ok.iteb (fun q => by simp [fr] at q) (fun _ => ih _ (by omega) (by omega) fun q => htk _ (fun _ q => by rw [hl]; exact q) hbt q)
    · have e : j = K.length := by omega
      subst e
      rw [List.take_length] at hb
      refine (t39 (n := n) (by omega) (s := x.1) (K := K) (by omega) hR).bind fun r9 q9 => ?_
      subst q9
      have hall := (sto_iff.1 hs).all
      -- each report's row of the name
      have hcl : b = true → ∀ l ∈ K, Cl x.1 l := fun hbt l hl => by
        have h2 := (t30 (n := n) (by omega) (hR l hl)).2 (hall l hl)
        refine ⟨h2.1, h2.2.2, fun r hr => ?_⟩
        have h3 := List.all_eq_true.1 (hb hbt) l hl
        simp only [hr] at h3
        exact of_decide_eq_true h3
      have hrv : b = true → ∀ l ∈ K, rk (lk x.1 l) = vl x.1 l := fun hbt l hl => by
        have := (hcl hbt l hl).one
        unfold vl
        cases hlk : lk x.1 l with
        | none => rfl
        | some r => simp only [rk, this r hlk, if_pos]
      refine (t38 (n := n) (l := K.map fun l => rk (lk x.1 l)) (m := m) (by rw [List.length_map]; omega) (by rw [List.length_map]; omega) hm (b = true) (fun hbt y hy => ?_)).bind fun r10 q10 => ?_
      · obtain ⟨l, hl, rfl⟩ := List.mem_map.1 hy
        rw [hrv hbt l hl]
        exact (hcl hbt l hl).bd
      · rw [List.length_map] at q10
        obtain ⟨p1, p2⟩ := q10
        refine ok.iteb (fun hbt => ?_) (fun _ => by rw [w1 hi (by omega)]; exact hg)
        obtain ⟨p3, p4⟩ := p2 hbt (by omega)
        refine ok.ite (fun q => by omega) (fun _ => ?_)
        have e1 : wrap64 ((r10.1.length : Int) - 1) = ((r10.1.length - 1 : Nat) : Int) := by rw [w64 (by omega) (by omega)]; omega
        rw [e1]
        refine ok.guard (by omega) (ok.guard (by omega) (ok.guard (by decide) (ok.guard (by omega) (ok.guard (by omega) ?_))))
        rw [rdOf_nat (show r10.1.length - 1 < r10.1.length by omega), w1 hi (by omega), p4]
        refine ok.ite (fun q => absurd ?_ q) (fun _ => hg)
        have hmap : (K.map fun l => rk (lk x.1 l)).drop (K.length - m) = (K.drop (K.length - m)).map (vl x.1) := by
          rw [← List.map_drop]
          exact List.map_congr_left fun l hl => hrv hbt l (List.mem_of_mem_drop hl)
        rw [hmap]
        exact roll (fun l hl => hcl hbt l (List.mem_of_mem_drop hl)) hxm h1
theorem t6_0 {n : Nat} (hn : 5000 ≤ n) {m : Nat} (hm : 1 ≤ m) {c f : Int} {K : List (List Rw)} (hK : K.length ≤ 8) (hmK : m ≤ K.length) (hR : ∀ l ∈ K, Rp l) (hs : sto n c f K = true) (hol : (ov (K.drop (K.length - m)) []).length ≤ 1000) : ∀ (k i : Nat), i ≤ (ov (K.drop (K.length - m)) []).length → (ov (K.drop (K.length - m)) []).length - i < k →
    ok (lp6_0 n k (m : Int) (i : Int) c f K (ov (K.drop (K.length - m)) [])) fun r => r = (true, ())
  | 0, i, h, hk => by omega
  | k + 1, i, h, hk => by
    show ok (st6_0 n (lp6_1 n (lp6_0 n k) n) (lp6_0 n k) _ _ c f K _) _
    unfold st6_0
    refine ok.ite (fun h1 => ok.guard (by omega) (ok.guard h1 ?_)) (fun h1 => ?_)
    · have hi : i < (ov (K.drop (K.length - m)) []).length := by omega
      have ih := t6_0 hn hm hK hmK hR hs hol k (i + 1) (by omega) (by omega)
      rw [rdOf_nat hi]
      refine ok.ite (fun h2 => by rw [w1 hi (by omega)]; exact ih) (fun h2 => ?_)
      exact t6_1 hn hm hK hmK hR hs hi hol (Decidable.not_not.1 h2) ih n 0 true (by omega) (by omega) (fun _ => rfl)
    · refine (t40 (n := n) (by omega) (by omega) hR hs hmK).bind fun r11 q11 => ?_
      subst q11
      refine (t14 (n := n) hol (by omega)).bind fun r q => ?_
      subst q
      exact ok.some rfl
theorem pureFnRolling (y : List Int) (h1 : y.length ≤ maxLen) (h2 : ∀ b ∈ y, 0 ≤ b ∧ b < 256) : ∃ k, F6 k y = some (true, ()) := by
  obtain ⟨n, hn⟩ : ∃ n : Nat, 5000 ≤ n := ⟨5000, Nat.le_refl _⟩
  refine ⟨n, ?_⟩
  suffices h : ok (F6 n y) fun r => r = (true, ()) by
    obtain ⟨r, h, rfl⟩ := h
    exact h
  unfold F6 st6 F7
  simp only [Option.bind_some]
  refine ok.ite (fun _ => ok.some rfl) (fun hb => ?_)
  have hb : y.length ≤ 1048576 := by omega
  refine (t36 hn hb h2).bind fun r2 q2 => ?_
  obtain ⟨c, f, K, i, u⟩ := r2
  obtain ⟨hK, hR, hi1, hi2⟩ := q2
  simp only at hK hR hi1 hi2 ⊢
  refine (t29 (n := n) (c := c) (f := f) (by omega) (by omega) hR).bind fun r4 q4 => ?_
  subst q4
  have hno := fun h => (t34b (n := n) (c := c) (f := f) (K := K) (i := i) (by omega) (by omega) hR h)
  refine ok.iteb (fun h => (hno (.inl (by simpa using h))).bind fun r q => ?_) (fun hs => ok.ite (fun h => (hno (.inr (.inl h))).bind fun r q => ?_) (fun hn1 => ok.ite (fun h => (hno (.inr (.inr h))).bind fun r q => ?_) (fun hn2 => ?_)))
  · subst q; exact ok.some rfl
  · subst q; exact ok.some rfl
  · subst q; exact ok.some rfl
  · have hs : sto n c f K = true := by simpa using hs
    obtain ⟨m, rfl⟩ : ∃ m : Nat, i = m := ⟨i.toNat, by omega⟩
    refine (t34 (n := n) (by omega) (by omega) hR hs (m := m) (by omega)).bind fun r7 q7 => ?_
    subst q7
    have hol := ov_len (K.drop (K.length - m)) 4 [] (fun l hl => (hR l (List.mem_of_mem_drop hl)).1)
    simp only [List.length_nil, List.length_drop] at hol
    exact t6_0 hn (by omega) hK (by omega) hR hs (by omega) n 0 (by omega) (by omega)
end Go.Eva
end
