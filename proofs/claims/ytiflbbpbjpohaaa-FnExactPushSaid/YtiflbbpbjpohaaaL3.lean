/- A verified evaluator of the translated code, part 3: EvaL_1, EvaL_2, EvaL_3, EvaL_4, EvaOk -/
import Derived.Test.YtiflbbpbjpohaaaL2
section
/- The functions, as their texts evaluate. -/
set_option linter.unusedVariables false
set_option maxRecDepth 100000
namespace Go.Eva
open Go.Proofs
open Go.RowKit (wrap64)
/-! impl.within -/
noncomputable def F25 (n : Nat) (a0 : Int) (a1 : Int) (a2 : Int) : Option (Bool × Unit) :=
  if (decide (a1 ≤ a0)) = true then
    some (decide (a0 ≤ a2), ())
  else
    some (false, ())
noncomputable def c25 (n : Nat) : Con := ⟨[.one (.int .i64), .one (.int .i64), .one (.int .i64)], [], [.one (.bool)], [], fun (x : Int × Int × Int × Unit) => F25 n x.1 x.2.1 x.2.2.1⟩
noncomputable def G25 (n : Nat) : Gam := []
theorem e25 (n : Nat) (x : Int × Int × Int × Unit) : evBody tab (G25 n) n (c25 n) Try.f25 x = F25 n x.1 x.2.1 x.2.2.1 := by kernel_rfl
theorem g25 (W : World) (n : Nat) : Good Try.prog W 25 (c25 n) := body_good follows tabOk GamOk.nil (f := 25) (fn := Try.f25) (c := bodyOf Try.f25) (by kernel_rfl) (by kernel_rfl) (by kernel_rfl) (by kernel_rfl) (by kernel_rfl) (by kernel_rfl) (by kernel_rfl) (fun x r h => ⟨n, (e25 n x).trans h⟩)
/-! impl.KeyOk -/
noncomputable def j56_0 (n : Nat) (g0 : ByteArray → Int → Int → Option (Bool × Unit)) (s0 : ByteArray) (i1 : Int) (i2 : Int) (b3 : Bool) : Option (Bool × Unit) :=
  if b3 = true then
    some (false, ())
  else
    g0 s0 i1 (wrap64 (i2 + 1))
noncomputable def st56_0 (n : Nat) (g0 : ByteArray → Int → Int → Option (Bool × Unit)) (s0 : ByteArray) (i1 : Int) (i2 : Int) : Option (Bool × Unit) :=
  if (decide (i2 < i1)) = true then
    if (decide (0 ≤ i2)) = true then
    if (decide (i2 < (s0.size : Int))) = true then
    if (decide ((bt s0 i2) ≥ 97)) = true then
      if (decide ((bt s0 i2) ≤ 122)) = true then
        g0 s0 i1 (wrap64 (i2 + 1))
      else
        if (decide ((bt s0 i2) ≥ 65)) = true then
          if (decide ((bt s0 i2) ≤ 90)) = true then
            g0 s0 i1 (wrap64 (i2 + 1))
          else
            if (decide ((bt s0 i2) ≥ 48)) = true then
              if (decide ((bt s0 i2) ≤ 57)) = true then
                g0 s0 i1 (wrap64 (i2 + 1))
              else
                j56_0 n g0 s0 i1 i2 (!(decide ((bt s0 i2) = 95)))
            else
              j56_0 n g0 s0 i1 i2 (!(decide ((bt s0 i2) = 95)))
        else
          if (decide ((bt s0 i2) ≥ 48)) = true then
            if (decide ((bt s0 i2) ≤ 57)) = true then
              g0 s0 i1 (wrap64 (i2 + 1))
            else
              j56_0 n g0 s0 i1 i2 (!(decide ((bt s0 i2) = 95)))
          else
            j56_0 n g0 s0 i1 i2 (!(decide ((bt s0 i2) = 95)))
    else
      if (decide ((bt s0 i2) ≥ 65)) = true then
        if (decide ((bt s0 i2) ≤ 90)) = true then
          g0 s0 i1 (wrap64 (i2 + 1))
        else
          if (decide ((bt s0 i2) ≥ 48)) = true then
            if (decide ((bt s0 i2) ≤ 57)) = true then
              g0 s0 i1 (wrap64 (i2 + 1))
            else
              j56_0 n g0 s0 i1 i2 (!(decide ((bt s0 i2) = 95)))
          else
            j56_0 n g0 s0 i1 i2 (!(decide ((bt s0 i2) = 95)))
      else
        if (decide ((bt s0 i2) ≥ 48)) = true then
          if (decide ((bt s0 i2) ≤ 57)) = true then
            g0 s0 i1 (wrap64 (i2 + 1))
          else
            j56_0 n g0 s0 i1 i2 (!(decide ((bt s0 i2) = 95)))
        else
          j56_0 n g0 s0 i1 i2 (!(decide ((bt s0 i2) = 95)))
    else none
    else none
  else
    (F25 n (s0.size : Int) (1 : Int) (4 : Int)).bind fun r1 =>
    some (r1.1, ())
noncomputable def lp56_0 (n : Nat) : Nat → ByteArray → Int → Int → Option (Bool × Unit)
  | 0 => fun _ _ _ => none
  | k + 1 => st56_0 n (lp56_0 n k)
noncomputable def st56 (n : Nat) (h0 : ByteArray → Int → Int → Option (Bool × Unit)) (a0 : ByteArray) : Option (Bool × Unit) :=
  h0 a0 (a0.size : Int) (0 : Int)
noncomputable def F56 (n : Nat) (a0 : ByteArray) : Option (Bool × Unit) := st56 n (lp56_0 n n) a0
noncomputable def c56 (n : Nat) : Con := ⟨[.one (.str)], [], [.one (.bool)], [], fun (x : ByteArray × Unit) => F56 n x.1⟩
noncomputable def G56 (n : Nat) : Gam := [((25, []), c25 n)]
noncomputable def S56_0 (s0 : ByteArray) (i1 : Int) (i2 : Int) : St := ⟨[.str s0] ++ List.replicate 5 .dead ++ [.int .i64 i1, .int .i64 i2] ++ List.replicate 36 .dead, List.replicate 44 Ob.none⟩
noncomputable def ga56_0 (n : Nat) (ks : List Nat) (k : Nat) (st : St) : Option (Bool × Unit) := goAt tab (G56 n) n (bodyOf Try.f56) (lvOf Try.f56) (lvOf Try.f56).ret [1, 0, 1, 0] ks k st (evBody.endK tab (c56 n) Try.f56)
theorem el56_0 (n : Nat) : ∀ (k : Nat), ∀ (s0 : ByteArray) (i1 : Int) (i2 : Int), ga56_0 n [] k (S56_0 s0 i1 i2) = lp56_0 n k s0 i1 i2 := by
  intro k
  induction k with
  | zero => intros; rfl
  | succ k ih =>
    intro s0 i1 i2
    have h : ga56_0 n [] (k + 1) (S56_0 s0 i1 i2) = st56_0 n (fun w0 w1 w2 => ga56_0 n [] k (S56_0 w0 w1 w2)) s0 i1 i2 := by kernel_rfl
    rw [h]
    have e : (fun w0 w1 w2 => ga56_0 n [] k (S56_0 w0 w1 w2)) = lp56_0 n k := by
      funext w0 w1 w2; exact ih w0 w1 w2
    rw [e]
    rfl
theorem e56 (n : Nat) (x : ByteArray × Unit) : evBody tab (G56 n) n (c56 n) Try.f56 x = F56 n x.1 := by
  have h : evBody tab (G56 n) n (c56 n) Try.f56 x = st56 n (fun w0 w1 w2 => ga56_0 n [] n (S56_0 w0 w1 w2)) x.1 := by kernel_rfl
  rw [h]
  have e0 : (fun w0 w1 w2 => ga56_0 n [] n (S56_0 w0 w1 w2)) = lp56_0 n n := by
    funext w0 w1 w2; exact el56_0 n n w0 w1 w2
  rw [e0]
  rfl
theorem g56 (W : World) (n : Nat) : Good Try.prog W 56 (c56 n) := body_good follows tabOk (GamOk.cons (g25 W n) GamOk.nil) (f := 56) (fn := Try.f56) (c := bodyOf Try.f56) (by kernel_rfl) (by kernel_rfl) (by kernel_rfl) (by kernel_rfl) (by kernel_rfl) (by kernel_rfl) (by kernel_rfl) (fun x r h => ⟨n, (e56 n x).trans h⟩)
/-! impl.isWord -/
noncomputable def F57 (n : Nat) (a0 : Int) : Option (Bool × Unit) :=
  (F25 n a0 (0 : Int) (281474976710655 : Int)).bind fun r1 =>
  some (r1.1, ())
noncomputable def c57 (n : Nat) : Con := ⟨[.one (.int .i64)], [], [.one (.bool)], [], fun (x : Int × Unit) => F57 n x.1⟩
noncomputable def G57 (n : Nat) : Gam := [((25, []), c25 n)]
theorem e57 (n : Nat) (x : Int × Unit) : evBody tab (G57 n) n (c57 n) Try.f57 x = F57 n x.1 := by kernel_rfl
theorem g57 (W : World) (n : Nat) : Good Try.prog W 57 (c57 n) := body_good follows tabOk (GamOk.cons (g25 W n) GamOk.nil) (f := 57) (fn := Try.f57) (c := bodyOf Try.f57) (by kernel_rfl) (by kernel_rfl) (by kernel_rfl) (by kernel_rfl) (by kernel_rfl) (by kernel_rfl) (by kernel_rfl) (fun x r h => ⟨n, (e57 n x).trans h⟩)
/-! impl.RowOk -/
noncomputable def F44 (n : Nat) (a0 : ByteArray) (a1 : Int) (a2 : Int) (a3 : Bool) (a4 : Int) (a5 : Int) (a6 : Int) (a7 : Int) (a8 : Int) (a9 : Int) : Option (Bool × Unit) :=
  (F56 n a0).bind fun r1 =>
  if (!r1.1) = true then
    some (false, ())
  else
    if (decide (a1 = 1)) = true then
      if (decide (a0.toList = a0.toList) && (decide (a1 = a1) && (decide (a2 = a2) && ((a3 == false) && (decide (a4 = 0) && (decide (a5 = 0) && (decide (a6 = 0) && (decide (a7 = 0) && (decide (a8 = 0) && (decide (a9 = 0) && true)))))))))) = true then
        (F57 n a2).bind fun r2 =>
        some (r2.1, ())
      else
        some (false, ())
    else
      if (decide (a1 = 2)) = true then
        if (decide (a0.toList = a0.toList) && (decide (a1 = a1) && (decide (a2 = 0) && ((a3 == a3) && (decide (a4 = a4) && (decide (a5 = 0) && (decide (a6 = 0) && (decide (a7 = 0) && (decide (a8 = 0) && (decide (a9 = 0) && true)))))))))) = true then
          (F25 n a4 (0 : Int) (65535 : Int)).bind fun r3 =>
          if r3.1 = true then
            if a3 = true then
              some (true, ())
            else
              some (decide (a4 = 0), ())
          else
            some (false, ())
        else
          some (false, ())
      else
        if (decide (a1 = 3)) = true then
          if (!(decide (a0.toList = a0.toList) && (decide (a1 = a1) && (decide (a2 = 0) && ((a3 == false) && (decide (a4 = 0) && (decide (a5 = a5) && (decide (a6 = a6) && (decide (a7 = a7) && (decide (a8 = a8) && (decide (a9 = a9) && true))))))))))) = true then
            some (false, ())
          else
            if (decide (a5 = 0)) = true then
              some ((decide (a0.toList = a0.toList) && (decide (a1 = a1) && (decide (a2 = 0) && ((a3 == false) && (decide (a4 = 0) && (decide (a5 = 0) && (decide (a6 = 0) && (decide (a7 = 0) && (decide (a8 = 0) && (decide (a9 = 0) && true)))))))))), ())
            else
              (F25 n a5 (1 : Int) (3 : Int)).bind fun r4 =>
              if r4.1 = true then
                (F25 n a6 (0 : Int) a7).bind fun r5 =>
                if r5.1 = true then
                  if (decide (a7 ≤ 65535)) = true then
                    (F25 n a8 (wrap64 (a5 * a6)) (wrap64 (a5 * a7))).bind fun r6 =>
                    if r6.1 = true then
                      (F25 n a9 (0 : Int) (65535 : Int)).bind fun r7 =>
                      if r7.1 = true then
                        if (decide (a5 = 3)) = true then
                          some (true, ())
                        else
                          some (decide (a9 = 0), ())
                      else
                        some (false, ())
                    else
                      some (false, ())
                  else
                    some (false, ())
                else
                  some (false, ())
              else
                some (false, ())
        else
          some (false, ())
noncomputable def c44 (n : Nat) : Con := ⟨[.agg [(.str), (.int .i64), (.int .i64), (.bool), (.int .i64), (.int .i64), (.int .i64), (.int .i64), (.int .i64), (.int .i64)]], [], [.one (.bool)], [], fun (x : ByteArray × Int × Int × Bool × Int × Int × Int × Int × Int × Int × Unit) => F44 n x.1 x.2.1 x.2.2.1 x.2.2.2.1 x.2.2.2.2.1 x.2.2.2.2.2.1 x.2.2.2.2.2.2.1 x.2.2.2.2.2.2.2.1 x.2.2.2.2.2.2.2.2.1 x.2.2.2.2.2.2.2.2.2.1⟩
noncomputable def G44 (n : Nat) : Gam := [((25, []), c25 n), ((56, []), c56 n), ((57, []), c57 n)]
theorem e44 (n : Nat) (x : ByteArray × Int × Int × Bool × Int × Int × Int × Int × Int × Int × Unit) : evBody tab (G44 n) n (c44 n) Try.f44 x = F44 n x.1 x.2.1 x.2.2.1 x.2.2.2.1 x.2.2.2.2.1 x.2.2.2.2.2.1 x.2.2.2.2.2.2.1 x.2.2.2.2.2.2.2.1 x.2.2.2.2.2.2.2.2.1 x.2.2.2.2.2.2.2.2.2.1 := by kernel_rfl
theorem g44 (W : World) (n : Nat) : Good Try.prog W 44 (c44 n) := body_good follows tabOk (GamOk.cons (g25 W n) (GamOk.cons (g56 W n) (GamOk.cons (g57 W n) GamOk.nil))) (f := 44) (fn := Try.f44) (c := bodyOf Try.f44) (by kernel_rfl) (by kernel_rfl) (by kernel_rfl) (by kernel_rfl) (by kernel_rfl) (by kernel_rfl) (by kernel_rfl) (fun x r h => ⟨n, (e44 n x).trans h⟩)
/-! impl.Quiet -/
noncomputable def F45 (n : Nat) (a0 : ByteArray) (a1 : Int) (a2 : Int) (a3 : Bool) (a4 : Int) (a5 : Int) (a6 : Int) (a7 : Int) (a8 : Int) (a9 : Int) : Option (Bool × Unit) :=
  if (decide (a2 = 0)) = true then
    if (decide (a5 = 0)) = true then
      some ((!a3), ())
    else
      some (false, ())
  else
    some (false, ())
noncomputable def c45 (n : Nat) : Con := ⟨[.agg [(.str), (.int .i64), (.int .i64), (.bool), (.int .i64), (.int .i64), (.int .i64), (.int .i64), (.int .i64), (.int .i64)]], [], [.one (.bool)], [], fun (x : ByteArray × Int × Int × Bool × Int × Int × Int × Int × Int × Int × Unit) => F45 n x.1 x.2.1 x.2.2.1 x.2.2.2.1 x.2.2.2.2.1 x.2.2.2.2.2.1 x.2.2.2.2.2.2.1 x.2.2.2.2.2.2.2.1 x.2.2.2.2.2.2.2.2.1 x.2.2.2.2.2.2.2.2.2.1⟩
noncomputable def G45 (n : Nat) : Gam := []
theorem e45 (n : Nat) (x : ByteArray × Int × Int × Bool × Int × Int × Int × Int × Int × Int × Unit) : evBody tab (G45 n) n (c45 n) Try.f45 x = F45 n x.1 x.2.1 x.2.2.1 x.2.2.2.1 x.2.2.2.2.1 x.2.2.2.2.2.1 x.2.2.2.2.2.2.1 x.2.2.2.2.2.2.2.1 x.2.2.2.2.2.2.2.2.1 x.2.2.2.2.2.2.2.2.2.1 := by kernel_rfl
theorem g45 (W : World) (n : Nat) : Good Try.prog W 45 (c45 n) := body_good follows tabOk GamOk.nil (f := 45) (fn := Try.f45) (c := bodyOf Try.f45) (by kernel_rfl) (by kernel_rfl) (by kernel_rfl) (by kernel_rfl) (by kernel_rfl) (by kernel_rfl) (by kernel_rfl) (fun x r h => ⟨n, (e45 n x).trans h⟩)
/-! impl.ReportOk -/
noncomputable def st36_0 (n : Nat) (g0 : (List (ByteArray × (Int × (Int × (Bool × (Int × (Int × (Int × (Int × (Int × Int)))))))))) → (List (ByteArray × (Int × (Int × (Bool × (Int × (Int × (Int × (Int × (Int × Int)))))))))) → Int → Int → Option (Bool × Unit)) (l0 : List (ByteArray × (Int × (Int × (Bool × (Int × (Int × (Int × (Int × (Int × Int)))))))))) (l1 : List (ByteArray × (Int × (Int × (Bool × (Int × (Int × (Int × (Int × (Int × Int)))))))))) (i2 : Int) (i3 : Int) : Option (Bool × Unit) :=
  if (decide (i3 < i2)) = true then
    if (decide (0 ≤ i3)) = true then
    if (decide (i3 < (l1.length : Int))) = true then
    (F44 n ((rdOf ((⟨#[]⟩ : ByteArray), ((0 : Int), ((0 : Int), (false, ((0 : Int), ((0 : Int), ((0 : Int), ((0 : Int), ((0 : Int), (0 : Int)))))))))) l1 i3).1) (((rdOf ((⟨#[]⟩ : ByteArray), ((0 : Int), ((0 : Int), (false, ((0 : Int), ((0 : Int), ((0 : Int), ((0 : Int), ((0 : Int), (0 : Int)))))))))) l1 i3).2).1) ((((rdOf ((⟨#[]⟩ : ByteArray), ((0 : Int), ((0 : Int), (false, ((0 : Int), ((0 : Int), ((0 : Int), ((0 : Int), ((0 : Int), (0 : Int)))))))))) l1 i3).2).2).1) (((((rdOf ((⟨#[]⟩ : ByteArray), ((0 : Int), ((0 : Int), (false, ((0 : Int), ((0 : Int), ((0 : Int), ((0 : Int), ((0 : Int), (0 : Int)))))))))) l1 i3).2).2).2).1) ((((((rdOf ((⟨#[]⟩ : ByteArray), ((0 : Int), ((0 : Int), (false, ((0 : Int), ((0 : Int), ((0 : Int), ((0 : Int), ((0 : Int), (0 : Int)))))))))) l1 i3).2).2).2).2).1) (((((((rdOf ((⟨#[]⟩ : ByteArray), ((0 : Int), ((0 : Int), (false, ((0 : Int), ((0 : Int), ((0 : Int), ((0 : Int), ((0 : Int), (0 : Int)))))))))) l1 i3).2).2).2).2).2).1) ((((((((rdOf ((⟨#[]⟩ : ByteArray), ((0 : Int), ((0 : Int), (false, ((0 : Int), ((0 : Int), ((0 : Int), ((0 : Int), ((0 : Int), (0 : Int)))))))))) l1 i3).2).2).2).2).2).2).1) (((((((((rdOf ((⟨#[]⟩ : ByteArray), ((0 : Int), ((0 : Int), (false, ((0 : Int), ((0 : Int), ((0 : Int), ((0 : Int), ((0 : Int), (0 : Int)))))))))) l1 i3).2).2).2).2).2).2).2).1) ((((((((((rdOf ((⟨#[]⟩ : ByteArray), ((0 : Int), ((0 : Int), (false, ((0 : Int), ((0 : Int), ((0 : Int), ((0 : Int), ((0 : Int), (0 : Int)))))))))) l1 i3).2).2).2).2).2).2).2).2).1) ((((((((((rdOf ((⟨#[]⟩ : ByteArray), ((0 : Int), ((0 : Int), (false, ((0 : Int), ((0 : Int), ((0 : Int), ((0 : Int), ((0 : Int), (0 : Int)))))))))) l1 i3).2).2).2).2).2).2).2).2).2)).bind fun r1 =>
    if (!r1.1) = true then
      some (false, ())
    else
      (F45 n ((rdOf ((⟨#[]⟩ : ByteArray), ((0 : Int), ((0 : Int), (false, ((0 : Int), ((0 : Int), ((0 : Int), ((0 : Int), ((0 : Int), (0 : Int)))))))))) l1 i3).1) (((rdOf ((⟨#[]⟩ : ByteArray), ((0 : Int), ((0 : Int), (false, ((0 : Int), ((0 : Int), ((0 : Int), ((0 : Int), ((0 : Int), (0 : Int)))))))))) l1 i3).2).1) ((((rdOf ((⟨#[]⟩ : ByteArray), ((0 : Int), ((0 : Int), (false, ((0 : Int), ((0 : Int), ((0 : Int), ((0 : Int), ((0 : Int), (0 : Int)))))))))) l1 i3).2).2).1) (((((rdOf ((⟨#[]⟩ : ByteArray), ((0 : Int), ((0 : Int), (false, ((0 : Int), ((0 : Int), ((0 : Int), ((0 : Int), ((0 : Int), (0 : Int)))))))))) l1 i3).2).2).2).1) ((((((rdOf ((⟨#[]⟩ : ByteArray), ((0 : Int), ((0 : Int), (false, ((0 : Int), ((0 : Int), ((0 : Int), ((0 : Int), ((0 : Int), (0 : Int)))))))))) l1 i3).2).2).2).2).1) (((((((rdOf ((⟨#[]⟩ : ByteArray), ((0 : Int), ((0 : Int), (false, ((0 : Int), ((0 : Int), ((0 : Int), ((0 : Int), ((0 : Int), (0 : Int)))))))))) l1 i3).2).2).2).2).2).1) ((((((((rdOf ((⟨#[]⟩ : ByteArray), ((0 : Int), ((0 : Int), (false, ((0 : Int), ((0 : Int), ((0 : Int), ((0 : Int), ((0 : Int), (0 : Int)))))))))) l1 i3).2).2).2).2).2).2).1) (((((((((rdOf ((⟨#[]⟩ : ByteArray), ((0 : Int), ((0 : Int), (false, ((0 : Int), ((0 : Int), ((0 : Int), ((0 : Int), ((0 : Int), (0 : Int)))))))))) l1 i3).2).2).2).2).2).2).2).1) ((((((((((rdOf ((⟨#[]⟩ : ByteArray), ((0 : Int), ((0 : Int), (false, ((0 : Int), ((0 : Int), ((0 : Int), ((0 : Int), ((0 : Int), (0 : Int)))))))))) l1 i3).2).2).2).2).2).2).2).2).1) ((((((((((rdOf ((⟨#[]⟩ : ByteArray), ((0 : Int), ((0 : Int), (false, ((0 : Int), ((0 : Int), ((0 : Int), ((0 : Int), ((0 : Int), (0 : Int)))))))))) l1 i3).2).2).2).2).2).2).2).2).2)).bind fun r2 =>
      if r2.1 = true then
        some (false, ())
      else
        if (decide (i3 > 0)) = true then
          if (decide (0 ≤ (wrap64 (i3 - 1)))) = true then
          if (decide ((wrap64 (i3 - 1)) < (l0.length : Int))) = true then
          if (Op.bytesLess ((rdOf ((⟨#[]⟩ : ByteArray), ((0 : Int), ((0 : Int), (false, ((0 : Int), ((0 : Int), ((0 : Int), ((0 : Int), ((0 : Int), (0 : Int)))))))))) l1 i3).1).toList ((rdOf ((⟨#[]⟩ : ByteArray), ((0 : Int), ((0 : Int), (false, ((0 : Int), ((0 : Int), ((0 : Int), ((0 : Int), ((0 : Int), (0 : Int)))))))))) l0 (wrap64 (i3 - 1))).1).toList || decide (((rdOf ((⟨#[]⟩ : ByteArray), ((0 : Int), ((0 : Int), (false, ((0 : Int), ((0 : Int), ((0 : Int), ((0 : Int), ((0 : Int), (0 : Int)))))))))) l1 i3).1).toList = ((rdOf ((⟨#[]⟩ : ByteArray), ((0 : Int), ((0 : Int), (false, ((0 : Int), ((0 : Int), ((0 : Int), ((0 : Int), ((0 : Int), (0 : Int)))))))))) l0 (wrap64 (i3 - 1))).1).toList)) = true then
            some (false, ())
          else
            g0 l0 l1 i2 (wrap64 (i3 + 1))
          else none
          else none
        else
          g0 l0 l1 i2 (wrap64 (i3 + 1))
    else none
    else none
  else
    some (decide ((l0.length : Int) ≤ 4), ())
noncomputable def lp36_0 (n : Nat) : Nat → (List (ByteArray × (Int × (Int × (Bool × (Int × (Int × (Int × (Int × (Int × Int)))))))))) → (List (ByteArray × (Int × (Int × (Bool × (Int × (Int × (Int × (Int × (Int × Int)))))))))) → Int → Int → Option (Bool × Unit)
  | 0 => fun _ _ _ _ => none
  | k + 1 => st36_0 n (lp36_0 n k)
noncomputable def st36 (n : Nat) (h0 : (List (ByteArray × (Int × (Int × (Bool × (Int × (Int × (Int × (Int × (Int × Int)))))))))) → (List (ByteArray × (Int × (Int × (Bool × (Int × (Int × (Int × (Int × (Int × Int)))))))))) → Int → Int → Option (Bool × Unit)) (a0 : List (ByteArray × (Int × (Int × (Bool × (Int × (Int × (Int × (Int × (Int × Int)))))))))) : Option (Bool × Unit) :=
  h0 a0 a0 (a0.length : Int) (0 : Int)
noncomputable def F36 (n : Nat) (a0 : List (ByteArray × (Int × (Int × (Bool × (Int × (Int × (Int × (Int × (Int × Int)))))))))) : Option (Bool × Unit) := st36 n (lp36_0 n n) a0
noncomputable def c36 (n : Nat) : Con := ⟨[.one (.sl (.imm true) 49 (.pair .str (.pair (.int .i64) (.pair (.int .i64) (.pair .bool (.pair (.int .i64) (.pair (.int .i64) (.pair (.int .i64) (.pair (.int .i64) (.pair (.int .i64) (.int .i64)))))))))))], [], [.one (.bool)], [], fun (x : List (ByteArray × (Int × (Int × (Bool × (Int × (Int × (Int × (Int × (Int × Int))))))))) × Unit) => F36 n x.1⟩
noncomputable def G36 (n : Nat) : Gam := [((44, []), c44 n), ((45, []), c45 n)]
noncomputable def S36_0 (l0 : List (ByteArray × (Int × (Int × (Bool × (Int × (Int × (Int × (Int × (Int × Int)))))))))) (l1 : List (ByteArray × (Int × (Int × (Bool × (Int × (Int × (Int × (Int × (Int × Int)))))))))) (i2 : Int) (i3 : Int) : St := ⟨[.sl (.imm true) 49 (.pair .str (.pair (.int .i64) (.pair (.int .i64) (.pair .bool (.pair (.int .i64) (.pair (.int .i64) (.pair (.int .i64) (.pair (.int .i64) (.pair (.int .i64) (.int .i64)))))))))) l0] ++ List.replicate 4 .dead ++ [.sl (.imm true) 49 (.pair .str (.pair (.int .i64) (.pair (.int .i64) (.pair .bool (.pair (.int .i64) (.pair (.int .i64) (.pair (.int .i64) (.pair (.int .i64) (.pair (.int .i64) (.int .i64)))))))))) l1, .int .i64 i2, .int .i64 i3] ++ List.replicate 30 .dead, List.replicate 38 Ob.none⟩
noncomputable def ga36_0 (n : Nat) (ks : List Nat) (k : Nat) (st : St) : Option (Bool × Unit) := goAt tab (G36 n) n (bodyOf Try.f36) (lvOf Try.f36) (lvOf Try.f36).ret [1, 0, 1, 0] ks k st (evBody.endK tab (c36 n) Try.f36)
theorem el36_0 (n : Nat) : ∀ (k : Nat), ∀ (l0 : List (ByteArray × (Int × (Int × (Bool × (Int × (Int × (Int × (Int × (Int × Int)))))))))) (l1 : List (ByteArray × (Int × (Int × (Bool × (Int × (Int × (Int × (Int × (Int × Int)))))))))) (i2 : Int) (i3 : Int), ga36_0 n [] k (S36_0 l0 l1 i2 i3) = lp36_0 n k l0 l1 i2 i3 := by
  intro k
  induction k with
  | zero => intros; rfl
  | succ k ih =>
    intro l0 l1 i2 i3
    have h : ga36_0 n [] (k + 1) (S36_0 l0 l1 i2 i3) = st36_0 n (fun w0 w1 w2 w3 => ga36_0 n [] k (S36_0 w0 w1 w2 w3)) l0 l1 i2 i3 := by kernel_rfl
    rw [h]
    have e : (fun w0 w1 w2 w3 => ga36_0 n [] k (S36_0 w0 w1 w2 w3)) = lp36_0 n k := by
      funext w0 w1 w2 w3; exact ih w0 w1 w2 w3
    rw [e]
    rfl
theorem e36 (n : Nat) (x : List (ByteArray × (Int × (Int × (Bool × (Int × (Int × (Int × (Int × (Int × Int))))))))) × Unit) : evBody tab (G36 n) n (c36 n) Try.f36 x = F36 n x.1 := by
  have h : evBody tab (G36 n) n (c36 n) Try.f36 x = st36 n (fun w0 w1 w2 w3 => ga36_0 n [] n (S36_0 w0 w1 w2 w3)) x.1 := by kernel_rfl
  rw [h]
  have e0 : (fun w0 w1 w2 w3 => ga36_0 n [] n (S36_0 w0 w1 w2 w3)) = lp36_0 n n := by
    funext w0 w1 w2 w3; exact el36_0 n n w0 w1 w2 w3
  rw [e0]
  rfl
theorem g36 (W : World) (n : Nat) : Good Try.prog W 36 (c36 n) := body_good follows tabOk (GamOk.cons (g44 W n) (GamOk.cons (g45 W n) GamOk.nil)) (f := 36) (fn := Try.f36) (c := bodyOf Try.f36) (by kernel_rfl) (by kernel_rfl) (by kernel_rfl) (by kernel_rfl) (by kernel_rfl) (by kernel_rfl) (by kernel_rfl) (fun x r h => ⟨n, (e36 n x).trans h⟩)
/-! impl.StoreOk$1 -/
noncomputable def F40 (n : Nat) (a0 : List (ByteArray × (Int × (Int × (Bool × (Int × (Int × (Int × (Int × (Int × Int)))))))))) : Option (Bool × Unit) :=
  (F36 n a0).bind fun r1 =>
  some ((!r1.1), ())
noncomputable def c40 (n : Nat) : Con := ⟨[.one (.sl (.imm true) 49 (.pair .str (.pair (.int .i64) (.pair (.int .i64) (.pair .bool (.pair (.int .i64) (.pair (.int .i64) (.pair (.int .i64) (.pair (.int .i64) (.pair (.int .i64) (.int .i64)))))))))))], [], [.one (.bool)], [], fun (x : List (ByteArray × (Int × (Int × (Bool × (Int × (Int × (Int × (Int × (Int × Int))))))))) × Unit) => F40 n x.1⟩
noncomputable def G40 (n : Nat) : Gam := [((36, []), c36 n)]
theorem e40 (n : Nat) (x : List (ByteArray × (Int × (Int × (Bool × (Int × (Int × (Int × (Int × (Int × Int))))))))) × Unit) : evBody tab (G40 n) n (c40 n) Try.f40 x = F40 n x.1 := by kernel_rfl
theorem g40 (W : World) (n : Nat) : Good Try.prog W 40 (c40 n) := body_good follows tabOk (GamOk.cons (g36 W n) GamOk.nil) (f := 40) (fn := Try.f40) (c := bodyOf Try.f40) (by kernel_rfl) (by kernel_rfl) (by kernel_rfl) (by kernel_rfl) (by kernel_rfl) (by kernel_rfl) (by kernel_rfl) (fun x r h => ⟨n, (e40 n x).trans h⟩)
/-! impl.Row] -/
noncomputable def st48_40_0 (n : Nat) (g0 : (List (List (ByteArray × (Int × (Int × (Bool × (Int × (Int × (Int × (Int × (Int × Int))))))))))) → Int → Int → Option (Int × Unit)) (l0 : List (List (ByteArray × (Int × (Int × (Bool × (Int × (Int × (Int × (Int × (Int × Int))))))))))) (i1 : Int) (i2 : Int) : Option (Int × Unit) :=
  if (decide (i2 < i1)) = true then
    if (decide (0 ≤ i2)) = true then
    if (decide (i2 < (l0.length : Int))) = true then
    (F40 n (rdOf ([] : List (ByteArray × (Int × (Int × (Bool × (Int × (Int × (Int × (Int × (Int × Int)))))))))) l0 i2)).bind fun r1 =>
    if r1.1 = true then
      some (i2, ())
    else
      g0 l0 i1 (wrap64 (i2 + 1))
    else none
    else none
  else
    some ((-1), ())
noncomputable def lp48_40_0 (n : Nat) : Nat → (List (List (ByteArray × (Int × (Int × (Bool × (Int × (Int × (Int × (Int × (Int × Int))))))))))) → Int → Int → Option (Int × Unit)
  | 0 => fun _ _ _ => none
  | k + 1 => st48_40_0 n (lp48_40_0 n k)
noncomputable def st48_40 (n : Nat) (h0 : (List (List (ByteArray × (Int × (Int × (Bool × (Int × (Int × (Int × (Int × (Int × Int))))))))))) → Int → Int → Option (Int × Unit)) (a0 : List (List (ByteArray × (Int × (Int × (Bool × (Int × (Int × (Int × (Int × (Int × Int))))))))))) : Option (Int × Unit) :=
  h0 a0 (a0.length : Int) (0 : Int)
noncomputable def F48_40 (n : Nat) (a0 : List (List (ByteArray × (Int × (Int × (Bool × (Int × (Int × (Int × (Int × (Int × Int))))))))))) : Option (Int × Unit) := st48_40 n (lp48_40_0 n n) a0
noncomputable def c48_40 (n : Nat) : Con := ⟨[.one (.sl (.imm true) 26 (.sl 49 (.pair .str (.pair (.int .i64) (.pair (.int .i64) (.pair .bool (.pair (.int .i64) (.pair (.int .i64) (.pair (.int .i64) (.pair (.int .i64) (.pair (.int .i64) (.int .i64)))))))))))), .one (.fn 40 [])], [], [.one (.int .i64)], [], fun (x : List (List (ByteArray × (Int × (Int × (Bool × (Int × (Int × (Int × (Int × (Int × Int)))))))))) × Unit × Unit) => F48_40 n x.1⟩
noncomputable def G48_40 (n : Nat) : Gam := [((40, []), c40 n)]
noncomputable def S48_40_0 (l0 : List (List (ByteArray × (Int × (Int × (Bool × (Int × (Int × (Int × (Int × (Int × Int))))))))))) (i1 : Int) (i2 : Int) : St := ⟨[.sl (.imm true) 26 (.sl 49 (.pair .str (.pair (.int .i64) (.pair (.int .i64) (.pair .bool (.pair (.int .i64) (.pair (.int .i64) (.pair (.int .i64) (.pair (.int .i64) (.pair (.int .i64) (.int .i64))))))))))) l0, .fn 40 []] ++ List.replicate 5 .dead ++ [.int .i64 i1, .int .i64 i2] ++ List.replicate 10 .dead, List.replicate 19 Ob.none⟩
noncomputable def ga48_40_0 (n : Nat) (ks : List Nat) (k : Nat) (st : St) : Option (Int × Unit) := goAt tab (G48_40 n) n (bodyOf Try.f48) (lvOf Try.f48) (lvOf Try.f48).ret [1, 0, 1, 0] ks k st (evBody.endK tab (c48_40 n) Try.f48)
theorem el48_40_0 (n : Nat) : ∀ (k : Nat), ∀ (l0 : List (List (ByteArray × (Int × (Int × (Bool × (Int × (Int × (Int × (Int × (Int × Int))))))))))) (i1 : Int) (i2 : Int), ga48_40_0 n [] k (S48_40_0 l0 i1 i2) = lp48_40_0 n k l0 i1 i2 := by
  intro k
  induction k with
  | zero => intros; rfl
  | succ k ih =>
    intro l0 i1 i2
    have h : ga48_40_0 n [] (k + 1) (S48_40_0 l0 i1 i2) = st48_40_0 n (fun w0 w1 w2 => ga48_40_0 n [] k (S48_40_0 w0 w1 w2)) l0 i1 i2 := by kernel_rfl
    rw [h]
    have e : (fun w0 w1 w2 => ga48_40_0 n [] k (S48_40_0 w0 w1 w2)) = lp48_40_0 n k := by
      funext w0 w1 w2; exact ih w0 w1 w2
    rw [e]
    rfl
theorem e48_40 (n : Nat) (x : List (List (ByteArray × (Int × (Int × (Bool × (Int × (Int × (Int × (Int × (Int × Int)))))))))) × Unit × Unit) : evBody tab (G48_40 n) n (c48_40 n) Try.f48 x = F48_40 n x.1 := by
  have h : evBody tab (G48_40 n) n (c48_40 n) Try.f48 x = st48_40 n (fun w0 w1 w2 => ga48_40_0 n [] n (S48_40_0 w0 w1 w2)) x.1 := by kernel_rfl
  rw [h]
  have e0 : (fun w0 w1 w2 => ga48_40_0 n [] n (S48_40_0 w0 w1 w2)) = lp48_40_0 n n := by
    funext w0 w1 w2; exact el48_40_0 n n w0 w1 w2
  rw [e0]
  rfl
theorem g48_40 (W : World) (n : Nat) : Good Try.prog W 48 (c48_40 n) := body_good follows tabOk (GamOk.cons (g40 W n) GamOk.nil) (f := 48) (fn := Try.f48) (c := bodyOf Try.f48) (by kernel_rfl) (by kernel_rfl) (by kernel_rfl) (by kernel_rfl) (by kernel_rfl) (by kernel_rfl) (by kernel_rfl) (fun x r h => ⟨n, (e48_40 n x).trans h⟩)
/-! impl.Row] -/
noncomputable def F39_40 (n : Nat) (a0 : List (List (ByteArray × (Int × (Int × (Bool × (Int × (Int × (Int × (Int × (Int × Int))))))))))) : Option (Bool × Unit) :=
  (F48_40 n a0).bind fun r1 =>
  some (decide (r1.1 ≥ 0), ())
noncomputable def c39_40 (n : Nat) : Con := ⟨[.one (.sl (.imm true) 26 (.sl 49 (.pair .str (.pair (.int .i64) (.pair (.int .i64) (.pair .bool (.pair (.int .i64) (.pair (.int .i64) (.pair (.int .i64) (.pair (.int .i64) (.pair (.int .i64) (.int .i64)))))))))))), .one (.fn 40 [])], [], [.one (.bool)], [], fun (x : List (List (ByteArray × (Int × (Int × (Bool × (Int × (Int × (Int × (Int × (Int × Int)))))))))) × Unit × Unit) => F39_40 n x.1⟩
noncomputable def G39_40 (n : Nat) : Gam := [((48, [40]), c48_40 n)]
theorem e39_40 (n : Nat) (x : List (List (ByteArray × (Int × (Int × (Bool × (Int × (Int × (Int × (Int × (Int × Int)))))))))) × Unit × Unit) : evBody tab (G39_40 n) n (c39_40 n) Try.f39 x = F39_40 n x.1 := by kernel_rfl
theorem g39_40 (W : World) (n : Nat) : Good Try.prog W 39 (c39_40 n) := body_good follows tabOk (GamOk.cons (g48_40 W n) GamOk.nil) (f := 39) (fn := Try.f39) (c := bodyOf Try.f39) (by kernel_rfl) (by kernel_rfl) (by kernel_rfl) (by kernel_rfl) (by kernel_rfl) (by kernel_rfl) (by kernel_rfl) (fun x r h => ⟨n, (e39_40 n x).trans h⟩)
/-! impl.StoreOk -/
noncomputable def F24 (n : Nat) (a0 : Int) (a1 : Int) (a2 : List (List (ByteArray × (Int × (Int × (Bool × (Int × (Int × (Int × (Int × (Int × Int))))))))))) : Option (Bool × Unit) :=
  (F25 n a0 (1 : Int) (5 : Int)).bind fun r1 =>
  if r1.1 = true then
    if (decide ((a2.length : Int) ≤ a0)) = true then
      (F25 n a1 (0 : Int) (1000000 : Int)).bind fun r2 =>
      if r2.1 = true then
        if (decide (a1 = 0)) = true then
          (F39_40 n a2).bind fun r3 =>
          some ((!r3.1), ())
        else
          if (decide ((a2.length : Int) = a0)) = true then
            (F39_40 n a2).bind fun r4 =>
            some ((!r4.1), ())
          else
            some (false, ())
      else
        some (false, ())
    else
      some (false, ())
  else
    some (false, ())
noncomputable def c24 (n : Nat) : Con := ⟨[.agg [(.int .i64), (.int .i64), (.sl (.imm true) 26 (.sl 49 (.pair .str (.pair (.int .i64) (.pair (.int .i64) (.pair .bool (.pair (.int .i64) (.pair (.int .i64) (.pair (.int .i64) (.pair (.int .i64) (.pair (.int .i64) (.int .i64))))))))))))]], [], [.one (.bool)], [], fun (x : Int × Int × List (List (ByteArray × (Int × (Int × (Bool × (Int × (Int × (Int × (Int × (Int × Int)))))))))) × Unit) => F24 n x.1 x.2.1 x.2.2.1⟩
noncomputable def G24 (n : Nat) : Gam := [((25, []), c25 n), ((39, [40]), c39_40 n)]
theorem e24 (n : Nat) (x : Int × Int × List (List (ByteArray × (Int × (Int × (Bool × (Int × (Int × (Int × (Int × (Int × Int)))))))))) × Unit) : evBody tab (G24 n) n (c24 n) Try.f24 x = F24 n x.1 x.2.1 x.2.2.1 := by kernel_rfl
theorem g24 (W : World) (n : Nat) : Good Try.prog W 24 (c24 n) := body_good follows tabOk (GamOk.cons (g25 W n) (GamOk.cons (g39_40 W n) GamOk.nil)) (f := 24) (fn := Try.f24) (c := bodyOf Try.f24) (by kernel_rfl) (by kernel_rfl) (by kernel_rfl) (by kernel_rfl) (by kernel_rfl) (by kernel_rfl) (by kernel_rfl) (fun x r h => ⟨n, (e24 n x).trans h⟩)
/-! impl.rowAt$1 -/
noncomputable def F59 (n : Nat) (a0 : ByteArray) (a1 : Int) (a2 : Int) (a3 : Bool) (a4 : Int) (a5 : Int) (a6 : Int) (a7 : Int) (a8 : Int) (a9 : Int) (a11 : ByteArray) : Option (Bool × ByteArray × Unit) :=
  some (decide (a0.toList = a11.toList), a11, ())
noncomputable def c59 (n : Nat) : Con := ⟨[.agg [(.str), (.int .i64), (.int .i64), (.bool), (.int .i64), (.int .i64), (.int .i64), (.int .i64), (.int .i64), (.int .i64)], .one (.ptr 0 0)], [[(.str)]], [.one (.bool)], [[(.str)]], fun (x : ByteArray × Int × Int × Bool × Int × Int × Int × Int × Int × Int × Unit × ByteArray × Unit) => F59 n x.1 x.2.1 x.2.2.1 x.2.2.2.1 x.2.2.2.2.1 x.2.2.2.2.2.1 x.2.2.2.2.2.2.1 x.2.2.2.2.2.2.2.1 x.2.2.2.2.2.2.2.2.1 x.2.2.2.2.2.2.2.2.2.1 x.2.2.2.2.2.2.2.2.2.2.2.1⟩
noncomputable def G59 (n : Nat) : Gam := []
theorem e59 (n : Nat) (x : ByteArray × Int × Int × Bool × Int × Int × Int × Int × Int × Int × Unit × ByteArray × Unit) : evBody tab (G59 n) n (c59 n) Try.f59 x = F59 n x.1 x.2.1 x.2.2.1 x.2.2.2.1 x.2.2.2.2.1 x.2.2.2.2.2.1 x.2.2.2.2.2.2.1 x.2.2.2.2.2.2.2.1 x.2.2.2.2.2.2.2.2.1 x.2.2.2.2.2.2.2.2.2.1 x.2.2.2.2.2.2.2.2.2.2.2.1 := by kernel_rfl
theorem g59 (W : World) (n : Nat) : Good Try.prog W 59 (c59 n) := body_good follows tabOk GamOk.nil (f := 59) (fn := Try.f59) (c := bodyOf Try.f59) (by kernel_rfl) (by kernel_rfl) (by kernel_rfl) (by kernel_rfl) (by kernel_rfl) (by kernel_rfl) (by kernel_rfl) (fun x r h => ⟨n, (e59 n x).trans h⟩)
/-! impl.Row] -/
noncomputable def st51_59_0 (n : Nat) (g0 : (List (ByteArray × (Int × (Int × (Bool × (Int × (Int × (Int × (Int × (Int × Int)))))))))) → Int → Int → ByteArray → Option (Int × ByteArray × Unit)) (l0 : List (ByteArray × (Int × (Int × (Bool × (Int × (Int × (Int × (Int × (Int × Int)))))))))) (i1 : Int) (i2 : Int) (s3 : ByteArray) : Option (Int × ByteArray × Unit) :=
  if (decide (i2 < i1)) = true then
    if (decide (0 ≤ i2)) = true then
    if (decide (i2 < (l0.length : Int))) = true then
    (F59 n ((rdOf ((⟨#[]⟩ : ByteArray), ((0 : Int), ((0 : Int), (false, ((0 : Int), ((0 : Int), ((0 : Int), ((0 : Int), ((0 : Int), (0 : Int)))))))))) l0 i2).1) (((rdOf ((⟨#[]⟩ : ByteArray), ((0 : Int), ((0 : Int), (false, ((0 : Int), ((0 : Int), ((0 : Int), ((0 : Int), ((0 : Int), (0 : Int)))))))))) l0 i2).2).1) ((((rdOf ((⟨#[]⟩ : ByteArray), ((0 : Int), ((0 : Int), (false, ((0 : Int), ((0 : Int), ((0 : Int), ((0 : Int), ((0 : Int), (0 : Int)))))))))) l0 i2).2).2).1) (((((rdOf ((⟨#[]⟩ : ByteArray), ((0 : Int), ((0 : Int), (false, ((0 : Int), ((0 : Int), ((0 : Int), ((0 : Int), ((0 : Int), (0 : Int)))))))))) l0 i2).2).2).2).1) ((((((rdOf ((⟨#[]⟩ : ByteArray), ((0 : Int), ((0 : Int), (false, ((0 : Int), ((0 : Int), ((0 : Int), ((0 : Int), ((0 : Int), (0 : Int)))))))))) l0 i2).2).2).2).2).1) (((((((rdOf ((⟨#[]⟩ : ByteArray), ((0 : Int), ((0 : Int), (false, ((0 : Int), ((0 : Int), ((0 : Int), ((0 : Int), ((0 : Int), (0 : Int)))))))))) l0 i2).2).2).2).2).2).1) ((((((((rdOf ((⟨#[]⟩ : ByteArray), ((0 : Int), ((0 : Int), (false, ((0 : Int), ((0 : Int), ((0 : Int), ((0 : Int), ((0 : Int), (0 : Int)))))))))) l0 i2).2).2).2).2).2).2).1) (((((((((rdOf ((⟨#[]⟩ : ByteArray), ((0 : Int), ((0 : Int), (false, ((0 : Int), ((0 : Int), ((0 : Int), ((0 : Int), ((0 : Int), (0 : Int)))))))))) l0 i2).2).2).2).2).2).2).2).1) ((((((((((rdOf ((⟨#[]⟩ : ByteArray), ((0 : Int), ((0 : Int), (false, ((0 : Int), ((0 : Int), ((0 : Int), ((0 : Int), ((0 : Int), (0 : Int)))))))))) l0 i2).2).2).2).2).2).2).2).2).1) ((((((((((rdOf ((⟨#[]⟩ : ByteArray), ((0 : Int), ((0 : Int), (false, ((0 : Int), ((0 : Int), ((0 : Int), ((0 : Int), ((0 : Int), (0 : Int)))))))))) l0 i2).2).2).2).2).2).2).2).2).2) s3).bind fun r1 =>
    if r1.1 = true then
      some (i2, r1.2.1, ())
    else
      g0 l0 i1 (wrap64 (i2 + 1)) r1.2.1
    else none
    else none
  else
    some ((-1), s3, ())
noncomputable def lp51_59_0 (n : Nat) : Nat → (List (ByteArray × (Int × (Int × (Bool × (Int × (Int × (Int × (Int × (Int × Int)))))))))) → Int → Int → ByteArray → Option (Int × ByteArray × Unit)
  | 0 => fun _ _ _ _ => none
  | k + 1 => st51_59_0 n (lp51_59_0 n k)
noncomputable def st51_59 (n : Nat) (h0 : (List (ByteArray × (Int × (Int × (Bool × (Int × (Int × (Int × (Int × (Int × Int)))))))))) → Int → Int → ByteArray → Option (Int × ByteArray × Unit)) (a0 : List (ByteArray × (Int × (Int × (Bool × (Int × (Int × (Int × (Int × (Int × Int)))))))))) (a2 : ByteArray) : Option (Int × ByteArray × Unit) :=
  h0 a0 (a0.length : Int) (0 : Int) a2
noncomputable def F51_59 (n : Nat) (a0 : List (ByteArray × (Int × (Int × (Bool × (Int × (Int × (Int × (Int × (Int × Int)))))))))) (a2 : ByteArray) : Option (Int × ByteArray × Unit) := st51_59 n (lp51_59_0 n n) a0 a2
noncomputable def c51_59 (n : Nat) : Con := ⟨[.one (.sl (.imm true) 49 (.pair .str (.pair (.int .i64) (.pair (.int .i64) (.pair .bool (.pair (.int .i64) (.pair (.int .i64) (.pair (.int .i64) (.pair (.int .i64) (.pair (.int .i64) (.int .i64))))))))))), .one (.fn 59 [(0, 0)])], [[(.str)]], [.one (.int .i64)], [[(.str)]], fun (x : List (ByteArray × (Int × (Int × (Bool × (Int × (Int × (Int × (Int × (Int × Int))))))))) × Unit × ByteArray × Unit) => F51_59 n x.1 x.2.2.1⟩
noncomputable def G51_59 (n : Nat) : Gam := [((59, []), c59 n)]
noncomputable def S51_59_0 (l0 : List (ByteArray × (Int × (Int × (Bool × (Int × (Int × (Int × (Int × (Int × Int)))))))))) (i1 : Int) (i2 : Int) (s3 : ByteArray) : St := ⟨[.sl (.imm true) 49 (.pair .str (.pair (.int .i64) (.pair (.int .i64) (.pair .bool (.pair (.int .i64) (.pair (.int .i64) (.pair (.int .i64) (.pair (.int .i64) (.pair (.int .i64) (.int .i64)))))))))) l0, .fn 59 [(19, 0)]] ++ List.replicate 5 .dead ++ [.int .i64 i1, .int .i64 i2] ++ List.replicate 10 .dead, List.replicate 19 Ob.none ++ [⟨true, [.str s3], 0, 0⟩]⟩
noncomputable def ga51_59_0 (n : Nat) (ks : List Nat) (k : Nat) (st : St) : Option (Int × ByteArray × Unit) := goAt tab (G51_59 n) n (bodyOf Try.f51) (lvOf Try.f51) (lvOf Try.f51).ret [1, 0, 1, 0] ks k st (evBody.endK tab (c51_59 n) Try.f51)
theorem el51_59_0 (n : Nat) : ∀ (k : Nat), ∀ (l0 : List (ByteArray × (Int × (Int × (Bool × (Int × (Int × (Int × (Int × (Int × Int)))))))))) (i1 : Int) (i2 : Int) (s3 : ByteArray), ga51_59_0 n [] k (S51_59_0 l0 i1 i2 s3) = lp51_59_0 n k l0 i1 i2 s3 := by
  intro k
  induction k with
  | zero => intros; rfl
  | succ k ih =>
    intro l0 i1 i2 s3
    have h : ga51_59_0 n [] (k + 1) (S51_59_0 l0 i1 i2 s3) = st51_59_0 n (fun w0 w1 w2 w3 => ga51_59_0 n [] k (S51_59_0 w0 w1 w2 w3)) l0 i1 i2 s3 := by kernel_rfl
    rw [h]
    have e : (fun w0 w1 w2 w3 => ga51_59_0 n [] k (S51_59_0 w0 w1 w2 w3)) = lp51_59_0 n k := by
      funext w0 w1 w2 w3; exact ih w0 w1 w2 w3
    rw [e]
    rfl
theorem e51_59 (n : Nat) (x : List (ByteArray × (Int × (Int × (Bool × (Int × (Int × (Int × (Int × (Int × Int))))))))) × Unit × ByteArray × Unit) : evBody tab (G51_59 n) n (c51_59 n) Try.f51 x = F51_59 n x.1 x.2.2.1 := by
  have h : evBody tab (G51_59 n) n (c51_59 n) Try.f51 x = st51_59 n (fun w0 w1 w2 w3 => ga51_59_0 n [] n (S51_59_0 w0 w1 w2 w3)) x.1 x.2.2.1 := by kernel_rfl
  rw [h]
  have e0 : (fun w0 w1 w2 w3 => ga51_59_0 n [] n (S51_59_0 w0 w1 w2 w3)) = lp51_59_0 n n := by
    funext w0 w1 w2 w3; exact el51_59_0 n n w0 w1 w2 w3
  rw [e0]
  rfl
theorem g51_59 (W : World) (n : Nat) : Good Try.prog W 51 (c51_59 n) := body_good follows tabOk (GamOk.cons (g59 W n) GamOk.nil) (f := 51) (fn := Try.f51) (c := bodyOf Try.f51) (by kernel_rfl) (by kernel_rfl) (by kernel_rfl) (by kernel_rfl) (by kernel_rfl) (by kernel_rfl) (by kernel_rfl) (fun x r h => ⟨n, (e51_59 n x).trans h⟩)
/-! impl.rowAt -/
noncomputable def F49 (n : Nat) (a0 : List (ByteArray × (Int × (Int × (Bool × (Int × (Int × (Int × (Int × (Int × Int)))))))))) (a1 : ByteArray) : Option (Int × Unit) :=
  (F51_59 n a0 a1).bind fun r1 =>
  some (r1.1, ())
noncomputable def c49 (n : Nat) : Con := ⟨[.one (.sl (.imm true) 49 (.pair .str (.pair (.int .i64) (.pair (.int .i64) (.pair .bool (.pair (.int .i64) (.pair (.int .i64) (.pair (.int .i64) (.pair (.int .i64) (.pair (.int .i64) (.int .i64))))))))))), .one (.str)], [], [.one (.int .i64)], [], fun (x : List (ByteArray × (Int × (Int × (Bool × (Int × (Int × (Int × (Int × (Int × Int))))))))) × ByteArray × Unit) => F49 n x.1 x.2.1⟩
noncomputable def G49 (n : Nat) : Gam := [((51, [59]), c51_59 n)]
theorem e49 (n : Nat) (x : List (ByteArray × (Int × (Int × (Bool × (Int × (Int × (Int × (Int × (Int × Int))))))))) × ByteArray × Unit) : evBody tab (G49 n) n (c49 n) Try.f49 x = F49 n x.1 x.2.1 := by kernel_rfl
theorem g49 (W : World) (n : Nat) : Good Try.prog W 49 (c49 n) := body_good follows tabOk (GamOk.cons (g51_59 W n) GamOk.nil) (f := 49) (fn := Try.f49) (c := bodyOf Try.f49) (by kernel_rfl) (by kernel_rfl) (by kernel_rfl) (by kernel_rfl) (by kernel_rfl) (by kernel_rfl) (by kernel_rfl) (fun x r h => ⟨n, (e49 n x).trans h⟩)
/-! impl.MergeRow -/
noncomputable def F50 (n : Nat) (a0 : ByteArray) (a1 : Int) (a2 : Int) (a3 : Bool) (a4 : Int) (a5 : Int) (a6 : Int) (a7 : Int) (a8 : Int) (a9 : Int) (a10 : ByteArray) (a11 : Int) (a12 : Int) (a13 : Bool) (a14 : Int) (a15 : Int) (a16 : Int) (a17 : Int) (a18 : Int) (a19 : Int) : Option (ByteArray × Int × Int × Bool × Int × Int × Int × Int × Int × Int × Unit) :=
  if (decide (a0.toList = (⟨#[]⟩ : ByteArray).toList) && (decide (a1 = 0) && (decide (a2 = 0) && ((a3 == false) && (decide (a4 = 0) && (decide (a5 = 0) && (decide (a6 = 0) && (decide (a7 = 0) && (decide (a8 = 0) && (decide (a9 = 0) && true)))))))))) = true then
    some (a10, a11, a12, a13, a14, a15, a16, a17, a18, a19, ())
  else
    if (!decide (a0.toList = a10.toList)) = true then
      some (a0, a1, a2, a3, a4, a5, a6, a7, a8, a9, ())
    else
      if (decide (a1 ≠ a11)) = true then
        some (a0, a1, a2, a3, a4, a5, a6, a7, a8, a9, ())
      else
        if (decide (281474976710656 ≠ 0)) = true then
        if (decide (281474976710656 ≠ 0)) = true then
        if a13 = true then
          if (decide (a5 = 0)) = true then
            some (a0, a1, ((wrap64 (((wrap64 (a2 + a12)).tmod (281474976710656 : Int)) + 281474976710656)).tmod (281474976710656 : Int)), true, a14, (wrap64 (a5 + a15)), a16, a17, (wrap64 (a8 + a18)), (wrap64 (a9 + a19)), ())
          else
            if (decide (a15 > 0)) = true then
              some (a0, a1, ((wrap64 (((wrap64 (a2 + a12)).tmod (281474976710656 : Int)) + 281474976710656)).tmod (281474976710656 : Int)), true, a14, (wrap64 (a5 + a15)), (mn a6 a16), (mx a7 a17), (wrap64 (a8 + a18)), (wrap64 (a9 + a19)), ())
            else
              some (a0, a1, ((wrap64 (((wrap64 (a2 + a12)).tmod (281474976710656 : Int)) + 281474976710656)).tmod (281474976710656 : Int)), true, a14, (wrap64 (a5 + a15)), a6, a7, (wrap64 (a8 + a18)), (wrap64 (a9 + a19)), ())
        else
          if (decide (a5 = 0)) = true then
            some (a0, a1, ((wrap64 (((wrap64 (a2 + a12)).tmod (281474976710656 : Int)) + 281474976710656)).tmod (281474976710656 : Int)), a3, a4, (wrap64 (a5 + a15)), a16, a17, (wrap64 (a8 + a18)), (wrap64 (a9 + a19)), ())
          else
            if (decide (a15 > 0)) = true then
              some (a0, a1, ((wrap64 (((wrap64 (a2 + a12)).tmod (281474976710656 : Int)) + 281474976710656)).tmod (281474976710656 : Int)), a3, a4, (wrap64 (a5 + a15)), (mn a6 a16), (mx a7 a17), (wrap64 (a8 + a18)), (wrap64 (a9 + a19)), ())
            else
              some (a0, a1, ((wrap64 (((wrap64 (a2 + a12)).tmod (281474976710656 : Int)) + 281474976710656)).tmod (281474976710656 : Int)), a3, a4, (wrap64 (a5 + a15)), a6, a7, (wrap64 (a8 + a18)), (wrap64 (a9 + a19)), ())
        else none
        else none
noncomputable def c50 (n : Nat) : Con := ⟨[.agg [(.str), (.int .i64), (.int .i64), (.bool), (.int .i64), (.int .i64), (.int .i64), (.int .i64), (.int .i64), (.int .i64)], .agg [(.str), (.int .i64), (.int .i64), (.bool), (.int .i64), (.int .i64), (.int .i64), (.int .i64), (.int .i64), (.int .i64)]], [], [.agg [(.str), (.int .i64), (.int .i64), (.bool), (.int .i64), (.int .i64), (.int .i64), (.int .i64), (.int .i64), (.int .i64)]], [], fun (x : ByteArray × Int × Int × Bool × Int × Int × Int × Int × Int × Int × ByteArray × Int × Int × Bool × Int × Int × Int × Int × Int × Int × Unit) => F50 n x.1 x.2.1 x.2.2.1 x.2.2.2.1 x.2.2.2.2.1 x.2.2.2.2.2.1 x.2.2.2.2.2.2.1 x.2.2.2.2.2.2.2.1 x.2.2.2.2.2.2.2.2.1 x.2.2.2.2.2.2.2.2.2.1 x.2.2.2.2.2.2.2.2.2.2.1 x.2.2.2.2.2.2.2.2.2.2.2.1 x.2.2.2.2.2.2.2.2.2.2.2.2.1 x.2.2.2.2.2.2.2.2.2.2.2.2.2.1 x.2.2.2.2.2.2.2.2.2.2.2.2.2.2.1 x.2.2.2.2.2.2.2.2.2.2.2.2.2.2.2.1 x.2.2.2.2.2.2.2.2.2.2.2.2.2.2.2.2.1 x.2.2.2.2.2.2.2.2.2.2.2.2.2.2.2.2.2.1 x.2.2.2.2.2.2.2.2.2.2.2.2.2.2.2.2.2.2.1 x.2.2.2.2.2.2.2.2.2.2.2.2.2.2.2.2.2.2.2.1⟩
noncomputable def G50 (n : Nat) : Gam := []
theorem e50 (n : Nat) (x : ByteArray × Int × Int × Bool × Int × Int × Int × Int × Int × Int × ByteArray × Int × Int × Bool × Int × Int × Int × Int × Int × Int × Unit) : evBody tab (G50 n) n (c50 n) Try.f50 x = F50 n x.1 x.2.1 x.2.2.1 x.2.2.2.1 x.2.2.2.2.1 x.2.2.2.2.2.1 x.2.2.2.2.2.2.1 x.2.2.2.2.2.2.2.1 x.2.2.2.2.2.2.2.2.1 x.2.2.2.2.2.2.2.2.2.1 x.2.2.2.2.2.2.2.2.2.2.1 x.2.2.2.2.2.2.2.2.2.2.2.1 x.2.2.2.2.2.2.2.2.2.2.2.2.1 x.2.2.2.2.2.2.2.2.2.2.2.2.2.1 x.2.2.2.2.2.2.2.2.2.2.2.2.2.2.1 x.2.2.2.2.2.2.2.2.2.2.2.2.2.2.2.1 x.2.2.2.2.2.2.2.2.2.2.2.2.2.2.2.2.1 x.2.2.2.2.2.2.2.2.2.2.2.2.2.2.2.2.2.1 x.2.2.2.2.2.2.2.2.2.2.2.2.2.2.2.2.2.2.1 x.2.2.2.2.2.2.2.2.2.2.2.2.2.2.2.2.2.2.2.1 := by kernel_rfl
theorem g50 (W : World) (n : Nat) : Good Try.prog W 50 (c50 n) := body_good follows tabOk GamOk.nil (f := 50) (fn := Try.f50) (c := bodyOf Try.f50) (by kernel_rfl) (by kernel_rfl) (by kernel_rfl) (by kernel_rfl) (by kernel_rfl) (by kernel_rfl) (by kernel_rfl) (fun x r h => ⟨n, (e50 n x).trans h⟩)
/-! impl.MergeReport$1 -/
noncomputable def F52 (n : Nat) (a0 : ByteArray) (a1 : Int) (a2 : Int) (a3 : Bool) (a4 : Int) (a5 : Int) (a6 : Int) (a7 : Int) (a8 : Int) (a9 : Int) (a11 : ByteArray) (a12 : Int) (a13 : Int) (a14 : Bool) (a15 : Int) (a16 : Int) (a17 : Int) (a18 : Int) (a19 : Int) (a20 : Int) : Option (Bool × ByteArray × Int × Int × Bool × Int × Int × Int × Int × Int × Int × Unit) :=
  some ((!(Op.bytesLess a0.toList a11.toList || decide (a0.toList = a11.toList))), a11, a12, a13, a14, a15, a16, a17, a18, a19, a20, ())
noncomputable def c52 (n : Nat) : Con := ⟨[.agg [(.str), (.int .i64), (.int .i64), (.bool), (.int .i64), (.int .i64), (.int .i64), (.int .i64), (.int .i64), (.int .i64)], .one (.ptr 0 0)], [[(.str), (.int .i64), (.int .i64), (.bool), (.int .i64), (.int .i64), (.int .i64), (.int .i64), (.int .i64), (.int .i64)]], [.one (.bool)], [[(.str), (.int .i64), (.int .i64), (.bool), (.int .i64), (.int .i64), (.int .i64), (.int .i64), (.int .i64), (.int .i64)]], fun (x : ByteArray × Int × Int × Bool × Int × Int × Int × Int × Int × Int × Unit × ByteArray × Int × Int × Bool × Int × Int × Int × Int × Int × Int × Unit) => F52 n x.1 x.2.1 x.2.2.1 x.2.2.2.1 x.2.2.2.2.1 x.2.2.2.2.2.1 x.2.2.2.2.2.2.1 x.2.2.2.2.2.2.2.1 x.2.2.2.2.2.2.2.2.1 x.2.2.2.2.2.2.2.2.2.1 x.2.2.2.2.2.2.2.2.2.2.2.1 x.2.2.2.2.2.2.2.2.2.2.2.2.1 x.2.2.2.2.2.2.2.2.2.2.2.2.2.1 x.2.2.2.2.2.2.2.2.2.2.2.2.2.2.1 x.2.2.2.2.2.2.2.2.2.2.2.2.2.2.2.1 x.2.2.2.2.2.2.2.2.2.2.2.2.2.2.2.2.1 x.2.2.2.2.2.2.2.2.2.2.2.2.2.2.2.2.2.1 x.2.2.2.2.2.2.2.2.2.2.2.2.2.2.2.2.2.2.1 x.2.2.2.2.2.2.2.2.2.2.2.2.2.2.2.2.2.2.2.1 x.2.2.2.2.2.2.2.2.2.2.2.2.2.2.2.2.2.2.2.2.1⟩
noncomputable def G52 (n : Nat) : Gam := []
theorem e52 (n : Nat) (x : ByteArray × Int × Int × Bool × Int × Int × Int × Int × Int × Int × Unit × ByteArray × Int × Int × Bool × Int × Int × Int × Int × Int × Int × Unit) : evBody tab (G52 n) n (c52 n) Try.f52 x = F52 n x.1 x.2.1 x.2.2.1 x.2.2.2.1 x.2.2.2.2.1 x.2.2.2.2.2.1 x.2.2.2.2.2.2.1 x.2.2.2.2.2.2.2.1 x.2.2.2.2.2.2.2.2.1 x.2.2.2.2.2.2.2.2.2.1 x.2.2.2.2.2.2.2.2.2.2.2.1 x.2.2.2.2.2.2.2.2.2.2.2.2.1 x.2.2.2.2.2.2.2.2.2.2.2.2.2.1 x.2.2.2.2.2.2.2.2.2.2.2.2.2.2.1 x.2.2.2.2.2.2.2.2.2.2.2.2.2.2.2.1 x.2.2.2.2.2.2.2.2.2.2.2.2.2.2.2.2.1 x.2.2.2.2.2.2.2.2.2.2.2.2.2.2.2.2.2.1 x.2.2.2.2.2.2.2.2.2.2.2.2.2.2.2.2.2.2.1 x.2.2.2.2.2.2.2.2.2.2.2.2.2.2.2.2.2.2.2.1 x.2.2.2.2.2.2.2.2.2.2.2.2.2.2.2.2.2.2.2.2.1 := by kernel_rfl
theorem g52 (W : World) (n : Nat) : Good Try.prog W 52 (c52 n) := body_good follows tabOk GamOk.nil (f := 52) (fn := Try.f52) (c := bodyOf Try.f52) (by kernel_rfl) (by kernel_rfl) (by kernel_rfl) (by kernel_rfl) (by kernel_rfl) (by kernel_rfl) (by kernel_rfl) (fun x r h => ⟨n, (e52 n x).trans h⟩)
/-! impl.Row] -/
noncomputable def st51_52_0 (n : Nat) (g0 : (List (ByteArray × (Int × (Int × (Bool × (Int × (Int × (Int × (Int × (Int × Int)))))))))) → Int → Int → ByteArray → Int → Int → Bool → Int → Int → Int → Int → Int → Int → Option (Int × ByteArray × Int × Int × Bool × Int × Int × Int × Int × Int × Int × Unit)) (l0 : List (ByteArray × (Int × (Int × (Bool × (Int × (Int × (Int × (Int × (Int × Int)))))))))) (i1 : Int) (i2 : Int) (s3 : ByteArray) (i4 : Int) (i5 : Int) (b6 : Bool) (i7 : Int) (i8 : Int) (i9 : Int) (i10 : Int) (i11 : Int) (i12 : Int) : Option (Int × ByteArray × Int × Int × Bool × Int × Int × Int × Int × Int × Int × Unit) :=
  if (decide (i2 < i1)) = true then
    if (decide (0 ≤ i2)) = true then
    if (decide (i2 < (l0.length : Int))) = true then
    (F52 n ((rdOf ((⟨#[]⟩ : ByteArray), ((0 : Int), ((0 : Int), (false, ((0 : Int), ((0 : Int), ((0 : Int), ((0 : Int), ((0 : Int), (0 : Int)))))))))) l0 i2).1) (((rdOf ((⟨#[]⟩ : ByteArray), ((0 : Int), ((0 : Int), (false, ((0 : Int), ((0 : Int), ((0 : Int), ((0 : Int), ((0 : Int), (0 : Int)))))))))) l0 i2).2).1) ((((rdOf ((⟨#[]⟩ : ByteArray), ((0 : Int), ((0 : Int), (false, ((0 : Int), ((0 : Int), ((0 : Int), ((0 : Int), ((0 : Int), (0 : Int)))))))))) l0 i2).2).2).1) (((((rdOf ((⟨#[]⟩ : ByteArray), ((0 : Int), ((0 : Int), (false, ((0 : Int), ((0 : Int), ((0 : Int), ((0 : Int), ((0 : Int), (0 : Int)))))))))) l0 i2).2).2).2).1) ((((((rdOf ((⟨#[]⟩ : ByteArray), ((0 : Int), ((0 : Int), (false, ((0 : Int), ((0 : Int), ((0 : Int), ((0 : Int), ((0 : Int), (0 : Int)))))))))) l0 i2).2).2).2).2).1) (((((((rdOf ((⟨#[]⟩ : ByteArray), ((0 : Int), ((0 : Int), (false, ((0 : Int), ((0 : Int), ((0 : Int), ((0 : Int), ((0 : Int), (0 : Int)))))))))) l0 i2).2).2).2).2).2).1) ((((((((rdOf ((⟨#[]⟩ : ByteArray), ((0 : Int), ((0 : Int), (false, ((0 : Int), ((0 : Int), ((0 : Int), ((0 : Int), ((0 : Int), (0 : Int)))))))))) l0 i2).2).2).2).2).2).2).1) (((((((((rdOf ((⟨#[]⟩ : ByteArray), ((0 : Int), ((0 : Int), (false, ((0 : Int), ((0 : Int), ((0 : Int), ((0 : Int), ((0 : Int), (0 : Int)))))))))) l0 i2).2).2).2).2).2).2).2).1) ((((((((((rdOf ((⟨#[]⟩ : ByteArray), ((0 : Int), ((0 : Int), (false, ((0 : Int), ((0 : Int), ((0 : Int), ((0 : Int), ((0 : Int), (0 : Int)))))))))) l0 i2).2).2).2).2).2).2).2).2).1) ((((((((((rdOf ((⟨#[]⟩ : ByteArray), ((0 : Int), ((0 : Int), (false, ((0 : Int), ((0 : Int), ((0 : Int), ((0 : Int), ((0 : Int), (0 : Int)))))))))) l0 i2).2).2).2).2).2).2).2).2).2) s3 i4 i5 b6 i7 i8 i9 i10 i11 i12).bind fun r1 =>
    if r1.1 = true then
      some (i2, r1.2.1, r1.2.2.1, r1.2.2.2.1, r1.2.2.2.2.1, r1.2.2.2.2.2.1, r1.2.2.2.2.2.2.1, r1.2.2.2.2.2.2.2.1, r1.2.2.2.2.2.2.2.2.1, r1.2.2.2.2.2.2.2.2.2.1, r1.2.2.2.2.2.2.2.2.2.2.1, ())
    else
      g0 l0 i1 (wrap64 (i2 + 1)) r1.2.1 r1.2.2.1 r1.2.2.2.1 r1.2.2.2.2.1 r1.2.2.2.2.2.1 r1.2.2.2.2.2.2.1 r1.2.2.2.2.2.2.2.1 r1.2.2.2.2.2.2.2.2.1 r1.2.2.2.2.2.2.2.2.2.1 r1.2.2.2.2.2.2.2.2.2.2.1
    else none
    else none
  else
    some ((-1), s3, i4, i5, b6, i7, i8, i9, i10, i11, i12, ())
noncomputable def lp51_52_0 (n : Nat) : Nat → (List (ByteArray × (Int × (Int × (Bool × (Int × (Int × (Int × (Int × (Int × Int)))))))))) → Int → Int → ByteArray → Int → Int → Bool → Int → Int → Int → Int → Int → Int → Option (Int × ByteArray × Int × Int × Bool × Int × Int × Int × Int × Int × Int × Unit)
  | 0 => fun _ _ _ _ _ _ _ _ _ _ _ _ _ => none
  | k + 1 => st51_52_0 n (lp51_52_0 n k)
noncomputable def st51_52 (n : Nat) (h0 : (List (ByteArray × (Int × (Int × (Bool × (Int × (Int × (Int × (Int × (Int × Int)))))))))) → Int → Int → ByteArray → Int → Int → Bool → Int → Int → Int → Int → Int → Int → Option (Int × ByteArray × Int × Int × Bool × Int × Int × Int × Int × Int × Int × Unit)) (a0 : List (ByteArray × (Int × (Int × (Bool × (Int × (Int × (Int × (Int × (Int × Int)))))))))) (a2 : ByteArray) (a3 : Int) (a4 : Int) (a5 : Bool) (a6 : Int) (a7 : Int) (a8 : Int) (a9 : Int) (a10 : Int) (a11 : Int) : Option (Int × ByteArray × Int × Int × Bool × Int × Int × Int × Int × Int × Int × Unit) :=
  h0 a0 (a0.length : Int) (0 : Int) a2 a3 a4 a5 a6 a7 a8 a9 a10 a11
noncomputable def F51_52 (n : Nat) (a0 : List (ByteArray × (Int × (Int × (Bool × (Int × (Int × (Int × (Int × (Int × Int)))))))))) (a2 : ByteArray) (a3 : Int) (a4 : Int) (a5 : Bool) (a6 : Int) (a7 : Int) (a8 : Int) (a9 : Int) (a10 : Int) (a11 : Int) : Option (Int × ByteArray × Int × Int × Bool × Int × Int × Int × Int × Int × Int × Unit) := st51_52 n (lp51_52_0 n n) a0 a2 a3 a4 a5 a6 a7 a8 a9 a10 a11
noncomputable def c51_52 (n : Nat) : Con := ⟨[.one (.sl (.imm true) 49 (.pair .str (.pair (.int .i64) (.pair (.int .i64) (.pair .bool (.pair (.int .i64) (.pair (.int .i64) (.pair (.int .i64) (.pair (.int .i64) (.pair (.int .i64) (.int .i64))))))))))), .one (.fn 52 [(0, 0)])], [[(.str), (.int .i64), (.int .i64), (.bool), (.int .i64), (.int .i64), (.int .i64), (.int .i64), (.int .i64), (.int .i64)]], [.one (.int .i64)], [[(.str), (.int .i64), (.int .i64), (.bool), (.int .i64), (.int .i64), (.int .i64), (.int .i64), (.int .i64), (.int .i64)]], fun (x : List (ByteArray × (Int × (Int × (Bool × (Int × (Int × (Int × (Int × (Int × Int))))))))) × Unit × ByteArray × Int × Int × Bool × Int × Int × Int × Int × Int × Int × Unit) => F51_52 n x.1 x.2.2.1 x.2.2.2.1 x.2.2.2.2.1 x.2.2.2.2.2.1 x.2.2.2.2.2.2.1 x.2.2.2.2.2.2.2.1 x.2.2.2.2.2.2.2.2.1 x.2.2.2.2.2.2.2.2.2.1 x.2.2.2.2.2.2.2.2.2.2.1 x.2.2.2.2.2.2.2.2.2.2.2.1⟩
noncomputable def G51_52 (n : Nat) : Gam := [((52, []), c52 n)]
noncomputable def S51_52_0 (l0 : List (ByteArray × (Int × (Int × (Bool × (Int × (Int × (Int × (Int × (Int × Int)))))))))) (i1 : Int) (i2 : Int) (s3 : ByteArray) (i4 : Int) (i5 : Int) (b6 : Bool) (i7 : Int) (i8 : Int) (i9 : Int) (i10 : Int) (i11 : Int) (i12 : Int) : St := ⟨[.sl (.imm true) 49 (.pair .str (.pair (.int .i64) (.pair (.int .i64) (.pair .bool (.pair (.int .i64) (.pair (.int .i64) (.pair (.int .i64) (.pair (.int .i64) (.pair (.int .i64) (.int .i64)))))))))) l0, .fn 52 [(19, 0)]] ++ List.replicate 5 .dead ++ [.int .i64 i1, .int .i64 i2] ++ List.replicate 10 .dead, List.replicate 19 Ob.none ++ [⟨true, [.str s3, .int .i64 i4, .int .i64 i5, .bool b6, .int .i64 i7, .int .i64 i8, .int .i64 i9, .int .i64 i10, .int .i64 i11, .int .i64 i12], 0, 0⟩]⟩
noncomputable def ga51_52_0 (n : Nat) (ks : List Nat) (k : Nat) (st : St) : Option (Int × ByteArray × Int × Int × Bool × Int × Int × Int × Int × Int × Int × Unit) := goAt tab (G51_52 n) n (bodyOf Try.f51) (lvOf Try.f51) (lvOf Try.f51).ret [1, 0, 1, 0] ks k st (evBody.endK tab (c51_52 n) Try.f51)
theorem el51_52_0 (n : Nat) : ∀ (k : Nat), ∀ (l0 : List (ByteArray × (Int × (Int × (Bool × (Int × (Int × (Int × (Int × (Int × Int)))))))))) (i1 : Int) (i2 : Int) (s3 : ByteArray) (i4 : Int) (i5 : Int) (b6 : Bool) (i7 : Int) (i8 : Int) (i9 : Int) (i10 : Int) (i11 : Int) (i12 : Int), ga51_52_0 n [] k (S51_52_0 l0 i1 i2 s3 i4 i5 b6 i7 i8 i9 i10 i11 i12) = lp51_52_0 n k l0 i1 i2 s3 i4 i5 b6 i7 i8 i9 i10 i11 i12 := by
  intro k
  induction k with
  | zero => intros; rfl
  | succ k ih =>
    intro l0 i1 i2 s3 i4 i5 b6 i7 i8 i9 i10 i11 i12
    have h : ga51_52_0 n [] (k + 1) (S51_52_0 l0 i1 i2 s3 i4 i5 b6 i7 i8 i9 i10 i11 i12) = st51_52_0 n (fun w0 w1 w2 w3 w4 w5 w6 w7 w8 w9 w10 w11 w12 => ga51_52_0 n [] k (S51_52_0 w0 w1 w2 w3 w4 w5 w6 w7 w8 w9 w10 w11 w12)) l0 i1 i2 s3 i4 i5 b6 i7 i8 i9 i10 i11 i12 := by kernel_rfl
    rw [h]
    have e : (fun w0 w1 w2 w3 w4 w5 w6 w7 w8 w9 w10 w11 w12 => ga51_52_0 n [] k (S51_52_0 w0 w1 w2 w3 w4 w5 w6 w7 w8 w9 w10 w11 w12)) = lp51_52_0 n k := by
      funext w0 w1 w2 w3 w4 w5 w6 w7 w8 w9 w10 w11 w12; exact ih w0 w1 w2 w3 w4 w5 w6 w7 w8 w9 w10 w11 w12
    rw [e]
    rfl
theorem e51_52 (n : Nat) (x : List (ByteArray × (Int × (Int × (Bool × (Int × (Int × (Int × (Int × (Int × Int))))))))) × Unit × ByteArray × Int × Int × Bool × Int × Int × Int × Int × Int × Int × Unit) : evBody tab (G51_52 n) n (c51_52 n) Try.f51 x = F51_52 n x.1 x.2.2.1 x.2.2.2.1 x.2.2.2.2.1 x.2.2.2.2.2.1 x.2.2.2.2.2.2.1 x.2.2.2.2.2.2.2.1 x.2.2.2.2.2.2.2.2.1 x.2.2.2.2.2.2.2.2.2.1 x.2.2.2.2.2.2.2.2.2.2.1 x.2.2.2.2.2.2.2.2.2.2.2.1 := by
  have h : evBody tab (G51_52 n) n (c51_52 n) Try.f51 x = st51_52 n (fun w0 w1 w2 w3 w4 w5 w6 w7 w8 w9 w10 w11 w12 => ga51_52_0 n [] n (S51_52_0 w0 w1 w2 w3 w4 w5 w6 w7 w8 w9 w10 w11 w12)) x.1 x.2.2.1 x.2.2.2.1 x.2.2.2.2.1 x.2.2.2.2.2.1 x.2.2.2.2.2.2.1 x.2.2.2.2.2.2.2.1 x.2.2.2.2.2.2.2.2.1 x.2.2.2.2.2.2.2.2.2.1 x.2.2.2.2.2.2.2.2.2.2.1 x.2.2.2.2.2.2.2.2.2.2.2.1 := by kernel_rfl
  rw [h]
  have e0 : (fun w0 w1 w2 w3 w4 w5 w6 w7 w8 w9 w10 w11 w12 => ga51_52_0 n [] n (S51_52_0 w0 w1 w2 w3 w4 w5 w6 w7 w8 w9 w10 w11 w12)) = lp51_52_0 n n := by
    funext w0 w1 w2 w3 w4 w5 w6 w7 w8 w9 w10 w11 w12; exact el51_52_0 n n w0 w1 w2 w3 w4 w5 w6 w7 w8 w9 w10 w11 w12
  rw [e0]
  rfl
theorem g51_52 (W : World) (n : Nat) : Good Try.prog W 51 (c51_52 n) := body_good follows tabOk (GamOk.cons (g52 W n) GamOk.nil) (f := 51) (fn := Try.f51) (c := bodyOf Try.f51) (by kernel_rfl) (by kernel_rfl) (by kernel_rfl) (by kernel_rfl) (by kernel_rfl) (by kernel_rfl) (by kernel_rfl) (fun x r h => ⟨n, (e51_52 n x).trans h⟩)
/-! impl.MergeReport -/
noncomputable def st41_0 (n : Nat) (g0 : (List (ByteArray × (Int × (Int × (Bool × (Int × (Int × (Int × (Int × (Int × Int)))))))))) → Int → Int → (List (ByteArray × (Int × (Int × (Bool × (Int × (Int × (Int × (Int × (Int × Int)))))))))) → Option (List (ByteArray × (Int × (Int × (Bool × (Int × (Int × (Int × (Int × (Int × Int))))))))) × Unit)) (l0 : List (ByteArray × (Int × (Int × (Bool × (Int × (Int × (Int × (Int × (Int × Int)))))))))) (i1 : Int) (i2 : Int) (l3 : List (ByteArray × (Int × (Int × (Bool × (Int × (Int × (Int × (Int × (Int × Int)))))))))) : Option (List (ByteArray × (Int × (Int × (Bool × (Int × (Int × (Int × (Int × (Int × Int))))))))) × Unit) :=
  if (decide (i2 < i1)) = true then
    if (decide (0 ≤ i2)) = true then
    if (decide (i2 < (l0.length : Int))) = true then
    (F49 n l3 ((rdOf ((⟨#[]⟩ : ByteArray), ((0 : Int), ((0 : Int), (false, ((0 : Int), ((0 : Int), ((0 : Int), ((0 : Int), ((0 : Int), (0 : Int)))))))))) l0 i2).1)).bind fun r2 =>
    if (decide (r2.1 ≥ 0)) = true then
      if (decide (0 ≤ r2.1)) = true then
      if (decide (r2.1 < (l3.length : Int))) = true then
      (F50 n ((rdOf ((⟨#[]⟩ : ByteArray), ((0 : Int), ((0 : Int), (false, ((0 : Int), ((0 : Int), ((0 : Int), ((0 : Int), ((0 : Int), (0 : Int)))))))))) l3 r2.1).1) (((rdOf ((⟨#[]⟩ : ByteArray), ((0 : Int), ((0 : Int), (false, ((0 : Int), ((0 : Int), ((0 : Int), ((0 : Int), ((0 : Int), (0 : Int)))))))))) l3 r2.1).2).1) ((((rdOf ((⟨#[]⟩ : ByteArray), ((0 : Int), ((0 : Int), (false, ((0 : Int), ((0 : Int), ((0 : Int), ((0 : Int), ((0 : Int), (0 : Int)))))))))) l3 r2.1).2).2).1) (((((rdOf ((⟨#[]⟩ : ByteArray), ((0 : Int), ((0 : Int), (false, ((0 : Int), ((0 : Int), ((0 : Int), ((0 : Int), ((0 : Int), (0 : Int)))))))))) l3 r2.1).2).2).2).1) ((((((rdOf ((⟨#[]⟩ : ByteArray), ((0 : Int), ((0 : Int), (false, ((0 : Int), ((0 : Int), ((0 : Int), ((0 : Int), ((0 : Int), (0 : Int)))))))))) l3 r2.1).2).2).2).2).1) (((((((rdOf ((⟨#[]⟩ : ByteArray), ((0 : Int), ((0 : Int), (false, ((0 : Int), ((0 : Int), ((0 : Int), ((0 : Int), ((0 : Int), (0 : Int)))))))))) l3 r2.1).2).2).2).2).2).1) ((((((((rdOf ((⟨#[]⟩ : ByteArray), ((0 : Int), ((0 : Int), (false, ((0 : Int), ((0 : Int), ((0 : Int), ((0 : Int), ((0 : Int), (0 : Int)))))))))) l3 r2.1).2).2).2).2).2).2).1) (((((((((rdOf ((⟨#[]⟩ : ByteArray), ((0 : Int), ((0 : Int), (false, ((0 : Int), ((0 : Int), ((0 : Int), ((0 : Int), ((0 : Int), (0 : Int)))))))))) l3 r2.1).2).2).2).2).2).2).2).1) ((((((((((rdOf ((⟨#[]⟩ : ByteArray), ((0 : Int), ((0 : Int), (false, ((0 : Int), ((0 : Int), ((0 : Int), ((0 : Int), ((0 : Int), (0 : Int)))))))))) l3 r2.1).2).2).2).2).2).2).2).2).1) ((((((((((rdOf ((⟨#[]⟩ : ByteArray), ((0 : Int), ((0 : Int), (false, ((0 : Int), ((0 : Int), ((0 : Int), ((0 : Int), ((0 : Int), (0 : Int)))))))))) l3 r2.1).2).2).2).2).2).2).2).2).2) ((rdOf ((⟨#[]⟩ : ByteArray), ((0 : Int), ((0 : Int), (false, ((0 : Int), ((0 : Int), ((0 : Int), ((0 : Int), ((0 : Int), (0 : Int)))))))))) l0 i2).1) (((rdOf ((⟨#[]⟩ : ByteArray), ((0 : Int), ((0 : Int), (false, ((0 : Int), ((0 : Int), ((0 : Int), ((0 : Int), ((0 : Int), (0 : Int)))))))))) l0 i2).2).1) ((((rdOf ((⟨#[]⟩ : ByteArray), ((0 : Int), ((0 : Int), (false, ((0 : Int), ((0 : Int), ((0 : Int), ((0 : Int), ((0 : Int), (0 : Int)))))))))) l0 i2).2).2).1) (((((rdOf ((⟨#[]⟩ : ByteArray), ((0 : Int), ((0 : Int), (false, ((0 : Int), ((0 : Int), ((0 : Int), ((0 : Int), ((0 : Int), (0 : Int)))))))))) l0 i2).2).2).2).1) ((((((rdOf ((⟨#[]⟩ : ByteArray), ((0 : Int), ((0 : Int), (false, ((0 : Int), ((0 : Int), ((0 : Int), ((0 : Int), ((0 : Int), (0 : Int)))))))))) l0 i2).2).2).2).2).1) (((((((rdOf ((⟨#[]⟩ : ByteArray), ((0 : Int), ((0 : Int), (false, ((0 : Int), ((0 : Int), ((0 : Int), ((0 : Int), ((0 : Int), (0 : Int)))))))))) l0 i2).2).2).2).2).2).1) ((((((((rdOf ((⟨#[]⟩ : ByteArray), ((0 : Int), ((0 : Int), (false, ((0 : Int), ((0 : Int), ((0 : Int), ((0 : Int), ((0 : Int), (0 : Int)))))))))) l0 i2).2).2).2).2).2).2).1) (((((((((rdOf ((⟨#[]⟩ : ByteArray), ((0 : Int), ((0 : Int), (false, ((0 : Int), ((0 : Int), ((0 : Int), ((0 : Int), ((0 : Int), (0 : Int)))))))))) l0 i2).2).2).2).2).2).2).2).1) ((((((((((rdOf ((⟨#[]⟩ : ByteArray), ((0 : Int), ((0 : Int), (false, ((0 : Int), ((0 : Int), ((0 : Int), ((0 : Int), ((0 : Int), (0 : Int)))))))))) l0 i2).2).2).2).2).2).2).2).2).1) ((((((((((rdOf ((⟨#[]⟩ : ByteArray), ((0 : Int), ((0 : Int), (false, ((0 : Int), ((0 : Int), ((0 : Int), ((0 : Int), ((0 : Int), (0 : Int)))))))))) l0 i2).2).2).2).2).2).2).2).2).2)).bind fun r3 =>
      if (decide (0 ≤ r2.1)) = true then
      if (decide (r2.1 < (l3.length : Int))) = true then
      g0 l0 i1 (wrap64 (i2 + 1)) (l3.set r2.1.toNat (r3.1, (r3.2.1, (r3.2.2.1, (r3.2.2.2.1, (r3.2.2.2.2.1, (r3.2.2.2.2.2.1, (r3.2.2.2.2.2.2.1, (r3.2.2.2.2.2.2.2.1, (r3.2.2.2.2.2.2.2.2.1, r3.2.2.2.2.2.2.2.2.2.1))))))))))
      else none
      else none
      else none
      else none
    else
      (F51_52 n l3 ((rdOf ((⟨#[]⟩ : ByteArray), ((0 : Int), ((0 : Int), (false, ((0 : Int), ((0 : Int), ((0 : Int), ((0 : Int), ((0 : Int), (0 : Int)))))))))) l0 i2).1) (((rdOf ((⟨#[]⟩ : ByteArray), ((0 : Int), ((0 : Int), (false, ((0 : Int), ((0 : Int), ((0 : Int), ((0 : Int), ((0 : Int), (0 : Int)))))))))) l0 i2).2).1) ((((rdOf ((⟨#[]⟩ : ByteArray), ((0 : Int), ((0 : Int), (false, ((0 : Int), ((0 : Int), ((0 : Int), ((0 : Int), ((0 : Int), (0 : Int)))))))))) l0 i2).2).2).1) (((((rdOf ((⟨#[]⟩ : ByteArray), ((0 : Int), ((0 : Int), (false, ((0 : Int), ((0 : Int), ((0 : Int), ((0 : Int), ((0 : Int), (0 : Int)))))))))) l0 i2).2).2).2).1) ((((((rdOf ((⟨#[]⟩ : ByteArray), ((0 : Int), ((0 : Int), (false, ((0 : Int), ((0 : Int), ((0 : Int), ((0 : Int), ((0 : Int), (0 : Int)))))))))) l0 i2).2).2).2).2).1) (((((((rdOf ((⟨#[]⟩ : ByteArray), ((0 : Int), ((0 : Int), (false, ((0 : Int), ((0 : Int), ((0 : Int), ((0 : Int), ((0 : Int), (0 : Int)))))))))) l0 i2).2).2).2).2).2).1) ((((((((rdOf ((⟨#[]⟩ : ByteArray), ((0 : Int), ((0 : Int), (false, ((0 : Int), ((0 : Int), ((0 : Int), ((0 : Int), ((0 : Int), (0 : Int)))))))))) l0 i2).2).2).2).2).2).2).1) (((((((((rdOf ((⟨#[]⟩ : ByteArray), ((0 : Int), ((0 : Int), (false, ((0 : Int), ((0 : Int), ((0 : Int), ((0 : Int), ((0 : Int), (0 : Int)))))))))) l0 i2).2).2).2).2).2).2).2).1) ((((((((((rdOf ((⟨#[]⟩ : ByteArray), ((0 : Int), ((0 : Int), (false, ((0 : Int), ((0 : Int), ((0 : Int), ((0 : Int), ((0 : Int), (0 : Int)))))))))) l0 i2).2).2).2).2).2).2).2).2).1) ((((((((((rdOf ((⟨#[]⟩ : ByteArray), ((0 : Int), ((0 : Int), (false, ((0 : Int), ((0 : Int), ((0 : Int), ((0 : Int), ((0 : Int), (0 : Int)))))))))) l0 i2).2).2).2).2).2).2).2).2).2)).bind fun r4 =>
      if (decide (r4.1 < 0)) = true then
        (F53 n l3 (l3.length : Int) ([(r4.2.1, (r4.2.2.1, (r4.2.2.2.1, (r4.2.2.2.2.1, (r4.2.2.2.2.2.1, (r4.2.2.2.2.2.2.1, (r4.2.2.2.2.2.2.2.1, (r4.2.2.2.2.2.2.2.2.1, (r4.2.2.2.2.2.2.2.2.2.1, r4.2.2.2.2.2.2.2.2.2.2.1)))))))))] : List (ByteArray × (Int × (Int × (Bool × (Int × (Int × (Int × (Int × (Int × Int))))))))))).bind fun r5 =>
        g0 l0 i1 (wrap64 (i2 + 1)) r5.1
      else
        (F53 n l3 r4.1 ([(r4.2.1, (r4.2.2.1, (r4.2.2.2.1, (r4.2.2.2.2.1, (r4.2.2.2.2.2.1, (r4.2.2.2.2.2.2.1, (r4.2.2.2.2.2.2.2.1, (r4.2.2.2.2.2.2.2.2.1, (r4.2.2.2.2.2.2.2.2.2.1, r4.2.2.2.2.2.2.2.2.2.2.1)))))))))] : List (ByteArray × (Int × (Int × (Bool × (Int × (Int × (Int × (Int × (Int × Int))))))))))).bind fun r6 =>
        g0 l0 i1 (wrap64 (i2 + 1)) r6.1
    else none
    else none
  else
    some (l3, ())
noncomputable def lp41_0 (n : Nat) : Nat → (List (ByteArray × (Int × (Int × (Bool × (Int × (Int × (Int × (Int × (Int × Int)))))))))) → Int → Int → (List (ByteArray × (Int × (Int × (Bool × (Int × (Int × (Int × (Int × (Int × Int)))))))))) → Option (List (ByteArray × (Int × (Int × (Bool × (Int × (Int × (Int × (Int × (Int × Int))))))))) × Unit)
  | 0 => fun _ _ _ _ => none
  | k + 1 => st41_0 n (lp41_0 n k)
noncomputable def st41 (n : Nat) (h0 : (List (ByteArray × (Int × (Int × (Bool × (Int × (Int × (Int × (Int × (Int × Int)))))))))) → Int → Int → (List (ByteArray × (Int × (Int × (Bool × (Int × (Int × (Int × (Int × (Int × Int)))))))))) → Option (List (ByteArray × (Int × (Int × (Bool × (Int × (Int × (Int × (Int × (Int × Int))))))))) × Unit)) (a0 : List (ByteArray × (Int × (Int × (Bool × (Int × (Int × (Int × (Int × (Int × Int)))))))))) (a1 : List (ByteArray × (Int × (Int × (Bool × (Int × (Int × (Int × (Int × (Int × Int)))))))))) : Option (List (ByteArray × (Int × (Int × (Bool × (Int × (Int × (Int × (Int × (Int × Int))))))))) × Unit) :=
  (F35 n a0).bind fun r1 =>
  h0 a1 (a1.length : Int) (0 : Int) r1.1
noncomputable def F41 (n : Nat) (a0 : List (ByteArray × (Int × (Int × (Bool × (Int × (Int × (Int × (Int × (Int × Int)))))))))) (a1 : List (ByteArray × (Int × (Int × (Bool × (Int × (Int × (Int × (Int × (Int × Int)))))))))) : Option (List (ByteArray × (Int × (Int × (Bool × (Int × (Int × (Int × (Int × (Int × Int))))))))) × Unit) := st41 n (lp41_0 n n) a0 a1
noncomputable def c41 (n : Nat) : Con := ⟨[.one (.sl (.imm true) 49 (.pair .str (.pair (.int .i64) (.pair (.int .i64) (.pair .bool (.pair (.int .i64) (.pair (.int .i64) (.pair (.int .i64) (.pair (.int .i64) (.pair (.int .i64) (.int .i64))))))))))), .one (.sl (.imm true) 49 (.pair .str (.pair (.int .i64) (.pair (.int .i64) (.pair .bool (.pair (.int .i64) (.pair (.int .i64) (.pair (.int .i64) (.pair (.int .i64) (.pair (.int .i64) (.int .i64)))))))))))], [], [.one (.sl .own 49 (.pair .str (.pair (.int .i64) (.pair (.int .i64) (.pair .bool (.pair (.int .i64) (.pair (.int .i64) (.pair (.int .i64) (.pair (.int .i64) (.pair (.int .i64) (.int .i64)))))))))))], [], fun (x : List (ByteArray × (Int × (Int × (Bool × (Int × (Int × (Int × (Int × (Int × Int))))))))) × List (ByteArray × (Int × (Int × (Bool × (Int × (Int × (Int × (Int × (Int × Int))))))))) × Unit) => F41 n x.1 x.2.1⟩
noncomputable def G41 (n : Nat) : Gam := [((35, []), c35 n), ((49, []), c49 n), ((50, []), c50 n), ((51, [52]), c51_52 n), ((53, []), c53 n)]
noncomputable def S41_0 (l0 : List (ByteArray × (Int × (Int × (Bool × (Int × (Int × (Int × (Int × (Int × Int)))))))))) (i1 : Int) (i2 : Int) (l3 : List (ByteArray × (Int × (Int × (Bool × (Int × (Int × (Int × (Int × (Int × Int)))))))))) : St := ⟨List.replicate 5 .dead ++ [.sr 5 0 none 0 0 none] ++ List.replicate 6 .dead ++ [.sl (.imm true) 49 (.pair .str (.pair (.int .i64) (.pair (.int .i64) (.pair .bool (.pair (.int .i64) (.pair (.int .i64) (.pair (.int .i64) (.pair (.int .i64) (.pair (.int .i64) (.int .i64)))))))))) l0, .int .i64 i1, .int .i64 i2] ++ List.replicate 32 .dead, List.replicate 5 Ob.none ++ [⟨false, [.sl .own 49 (.pair .str (.pair (.int .i64) (.pair (.int .i64) (.pair .bool (.pair (.int .i64) (.pair (.int .i64) (.pair (.int .i64) (.pair (.int .i64) (.pair (.int .i64) (.int .i64)))))))))) l3], 0, 0⟩] ++ List.replicate 41 Ob.none⟩
noncomputable def ga41_0 (n : Nat) (ks : List Nat) (k : Nat) (st : St) : Option (List (ByteArray × (Int × (Int × (Bool × (Int × (Int × (Int × (Int × (Int × Int))))))))) × Unit) := goAt tab (G41 n) n (bodyOf Try.f41) (lvOf Try.f41) (lvOf Try.f41).ret [1, 1, 0, 1, 0] ks k st (evBody.endK tab (c41 n) Try.f41)
theorem el41_0 (n : Nat) : ∀ (k : Nat), ∀ (l0 : List (ByteArray × (Int × (Int × (Bool × (Int × (Int × (Int × (Int × (Int × Int)))))))))) (i1 : Int) (i2 : Int) (l3 : List (ByteArray × (Int × (Int × (Bool × (Int × (Int × (Int × (Int × (Int × Int)))))))))), ga41_0 n [] k (S41_0 l0 i1 i2 l3) = lp41_0 n k l0 i1 i2 l3 := by
  intro k
  induction k with
  | zero => intros; rfl
  | succ k ih =>
    intro l0 i1 i2 l3
    have h : ga41_0 n [] (k + 1) (S41_0 l0 i1 i2 l3) = st41_0 n (fun w0 w1 w2 w3 => ga41_0 n [] k (S41_0 w0 w1 w2 w3)) l0 i1 i2 l3 := by kernel_rfl
    rw [h]
    have e : (fun w0 w1 w2 w3 => ga41_0 n [] k (S41_0 w0 w1 w2 w3)) = lp41_0 n k := by
      funext w0 w1 w2 w3; exact ih w0 w1 w2 w3
    rw [e]
    rfl
theorem e41 (n : Nat) (x : List (ByteArray × (Int × (Int × (Bool × (Int × (Int × (Int × (Int × (Int × Int))))))))) × List (ByteArray × (Int × (Int × (Bool × (Int × (Int × (Int × (Int × (Int × Int))))))))) × Unit) : evBody tab (G41 n) n (c41 n) Try.f41 x = F41 n x.1 x.2.1 := by
  have h : evBody tab (G41 n) n (c41 n) Try.f41 x = st41 n (fun w0 w1 w2 w3 => ga41_0 n [] n (S41_0 w0 w1 w2 w3)) x.1 x.2.1 := by kernel_rfl
  rw [h]
  have e0 : (fun w0 w1 w2 w3 => ga41_0 n [] n (S41_0 w0 w1 w2 w3)) = lp41_0 n n := by
    funext w0 w1 w2 w3; exact el41_0 n n w0 w1 w2 w3
  rw [e0]
  rfl
theorem g41 (W : World) (n : Nat) : Good Try.prog W 41 (c41 n) := body_good follows tabOk (GamOk.cons (g35 W n) (GamOk.cons (g49 W n) (GamOk.cons (g50 W n) (GamOk.cons (g51_52 W n) (GamOk.cons (g53 W n) GamOk.nil))))) (f := 41) (fn := Try.f41) (c := bodyOf Try.f41) (by kernel_rfl) (by kernel_rfl) (by kernel_rfl) (by kernel_rfl) (by kernel_rfl) (by kernel_rfl) (by kernel_rfl) (fun x r h => ⟨n, (e41 n x).trans h⟩)
end Go.Eva
end
section
/- The functions, as their texts evaluate. -/
set_option linter.unusedVariables false
set_option maxRecDepth 100000
namespace Go.Eva
open Go.Proofs
open Go.RowKit (wrap64)
/-! impl.Overall -/
noncomputable def st26_0 (n : Nat) (g0 : (List (List (ByteArray × (Int × (Int × (Bool × (Int × (Int × (Int × (Int × (Int × Int))))))))))) → Int → Int → (List (ByteArray × (Int × (Int × (Bool × (Int × (Int × (Int × (Int × (Int × Int)))))))))) → Option (List (ByteArray × (Int × (Int × (Bool × (Int × (Int × (Int × (Int × (Int × Int))))))))) × Unit)) (l0 : List (List (ByteArray × (Int × (Int × (Bool × (Int × (Int × (Int × (Int × (Int × Int))))))))))) (i1 : Int) (i2 : Int) (l3 : List (ByteArray × (Int × (Int × (Bool × (Int × (Int × (Int × (Int × (Int × Int)))))))))) : Option (List (ByteArray × (Int × (Int × (Bool × (Int × (Int × (Int × (Int × (Int × Int))))))))) × Unit) :=
  if (decide (i2 < i1)) = true then
    if (decide (0 ≤ i2)) = true then
    if (decide (i2 < (l0.length : Int))) = true then
    (F41 n l3 (rdOf ([] : List (ByteArray × (Int × (Int × (Bool × (Int × (Int × (Int × (Int × (Int × Int)))))))))) l0 i2)).bind fun r1 =>
    g0 l0 i1 (wrap64 (i2 + 1)) r1.1
    else none
    else none
  else
    some (l3, ())
noncomputable def lp26_0 (n : Nat) : Nat → (List (List (ByteArray × (Int × (Int × (Bool × (Int × (Int × (Int × (Int × (Int × Int))))))))))) → Int → Int → (List (ByteArray × (Int × (Int × (Bool × (Int × (Int × (Int × (Int × (Int × Int)))))))))) → Option (List (ByteArray × (Int × (Int × (Bool × (Int × (Int × (Int × (Int × (Int × Int))))))))) × Unit)
  | 0 => fun _ _ _ _ => none
  | k + 1 => st26_0 n (lp26_0 n k)
noncomputable def st26 (n : Nat) (h0 : (List (List (ByteArray × (Int × (Int × (Bool × (Int × (Int × (Int × (Int × (Int × Int))))))))))) → Int → Int → (List (ByteArray × (Int × (Int × (Bool × (Int × (Int × (Int × (Int × (Int × Int)))))))))) → Option (List (ByteArray × (Int × (Int × (Bool × (Int × (Int × (Int × (Int × (Int × Int))))))))) × Unit)) (a0 : List (List (ByteArray × (Int × (Int × (Bool × (Int × (Int × (Int × (Int × (Int × Int))))))))))) : Option (List (ByteArray × (Int × (Int × (Bool × (Int × (Int × (Int × (Int × (Int × Int))))))))) × Unit) :=
  h0 a0 (a0.length : Int) (0 : Int) ([] : List (ByteArray × (Int × (Int × (Bool × (Int × (Int × (Int × (Int × (Int × Int))))))))))
noncomputable def F26 (n : Nat) (a0 : List (List (ByteArray × (Int × (Int × (Bool × (Int × (Int × (Int × (Int × (Int × Int))))))))))) : Option (List (ByteArray × (Int × (Int × (Bool × (Int × (Int × (Int × (Int × (Int × Int))))))))) × Unit) := st26 n (lp26_0 n n) a0
noncomputable def c26 (n : Nat) : Con := ⟨[.one (.sl (.imm true) 26 (.sl 49 (.pair .str (.pair (.int .i64) (.pair (.int .i64) (.pair .bool (.pair (.int .i64) (.pair (.int .i64) (.pair (.int .i64) (.pair (.int .i64) (.pair (.int .i64) (.int .i64))))))))))))], [], [.one (.sl .own 49 (.pair .str (.pair (.int .i64) (.pair (.int .i64) (.pair .bool (.pair (.int .i64) (.pair (.int .i64) (.pair (.int .i64) (.pair (.int .i64) (.pair (.int .i64) (.int .i64)))))))))))], [], fun (x : List (List (ByteArray × (Int × (Int × (Bool × (Int × (Int × (Int × (Int × (Int × Int)))))))))) × Unit) => F26 n x.1⟩
noncomputable def G26 (n : Nat) : Gam := [((41, []), c41 n)]
noncomputable def S26_0 (l0 : List (List (ByteArray × (Int × (Int × (Bool × (Int × (Int × (Int × (Int × (Int × Int))))))))))) (i1 : Int) (i2 : Int) (l3 : List (ByteArray × (Int × (Int × (Bool × (Int × (Int × (Int × (Int × (Int × Int)))))))))) : St := ⟨[.dead, .dead, .dead, .sr 3 0 none 0 0 none, .dead, .dead, .dead, .sl (.imm true) 26 (.sl 49 (.pair .str (.pair (.int .i64) (.pair (.int .i64) (.pair .bool (.pair (.int .i64) (.pair (.int .i64) (.pair (.int .i64) (.pair (.int .i64) (.pair (.int .i64) (.int .i64))))))))))) l0, .int .i64 i1, .int .i64 i2] ++ List.replicate 8 .dead, [Ob.none, Ob.none, Ob.none, ⟨false, [.sl .own 49 (.pair .str (.pair (.int .i64) (.pair (.int .i64) (.pair .bool (.pair (.int .i64) (.pair (.int .i64) (.pair (.int .i64) (.pair (.int .i64) (.pair (.int .i64) (.int .i64)))))))))) l3], 0, 0⟩] ++ List.replicate 14 Ob.none⟩
noncomputable def ga26_0 (n : Nat) (ks : List Nat) (k : Nat) (st : St) : Option (List (ByteArray × (Int × (Int × (Bool × (Int × (Int × (Int × (Int × (Int × Int))))))))) × Unit) := goAt tab (G26 n) n (bodyOf Try.f26) (lvOf Try.f26) (lvOf Try.f26).ret [1, 1, 0, 1, 0] ks k st (evBody.endK tab (c26 n) Try.f26)
theorem el26_0 (n : Nat) : ∀ (k : Nat), ∀ (l0 : List (List (ByteArray × (Int × (Int × (Bool × (Int × (Int × (Int × (Int × (Int × Int))))))))))) (i1 : Int) (i2 : Int) (l3 : List (ByteArray × (Int × (Int × (Bool × (Int × (Int × (Int × (Int × (Int × Int)))))))))), ga26_0 n [] k (S26_0 l0 i1 i2 l3) = lp26_0 n k l0 i1 i2 l3 := by
  intro k
  induction k with
  | zero => intros; rfl
  | succ k ih =>
    intro l0 i1 i2 l3
    have h : ga26_0 n [] (k + 1) (S26_0 l0 i1 i2 l3) = st26_0 n (fun w0 w1 w2 w3 => ga26_0 n [] k (S26_0 w0 w1 w2 w3)) l0 i1 i2 l3 := by kernel_rfl
    rw [h]
    have e : (fun w0 w1 w2 w3 => ga26_0 n [] k (S26_0 w0 w1 w2 w3)) = lp26_0 n k := by
      funext w0 w1 w2 w3; exact ih w0 w1 w2 w3
    rw [e]
    rfl
theorem e26 (n : Nat) (x : List (List (ByteArray × (Int × (Int × (Bool × (Int × (Int × (Int × (Int × (Int × Int)))))))))) × Unit) : evBody tab (G26 n) n (c26 n) Try.f26 x = F26 n x.1 := by
  have h : evBody tab (G26 n) n (c26 n) Try.f26 x = st26 n (fun w0 w1 w2 w3 => ga26_0 n [] n (S26_0 w0 w1 w2 w3)) x.1 := by kernel_rfl
  rw [h]
  have e0 : (fun w0 w1 w2 w3 => ga26_0 n [] n (S26_0 w0 w1 w2 w3)) = lp26_0 n n := by
    funext w0 w1 w2 w3; exact el26_0 n n w0 w1 w2 w3
  rw [e0]
  rfl
theorem g26 (W : World) (n : Nat) : Good Try.prog W 26 (c26 n) := body_good follows tabOk (GamOk.cons (g41 W n) GamOk.nil) (f := 26) (fn := Try.f26) (c := bodyOf Try.f26) (by kernel_rfl) (by kernel_rfl) (by kernel_rfl) (by kernel_rfl) (by kernel_rfl) (by kernel_rfl) (by kernel_rfl) (fun x r h => ⟨n, (e26 n x).trans h⟩)
/-! impl.Last -/
noncomputable def F8 (n : Nat) (a0 : Int) (a1 : Int) (a2 : List (List (ByteArray × (Int × (Int × (Bool × (Int × (Int × (Int × (Int × (Int × Int))))))))))) (a3 : Int) : Option (List (ByteArray × (Int × (Int × (Bool × (Int × (Int × (Int × (Int × (Int × Int))))))))) × Unit) :=
  (F24 n a0 a1 a2).bind fun r1 =>
  if (!r1.1) = true then
    some (([] : List (ByteArray × (Int × (Int × (Bool × (Int × (Int × (Int × (Int × (Int × Int)))))))))), ())
  else
    (F25 n a3 (0 : Int) (a2.length : Int)).bind fun r2 =>
    if (!r2.1) = true then
      some (([] : List (ByteArray × (Int × (Int × (Bool × (Int × (Int × (Int × (Int × (Int × Int)))))))))), ())
    else
      if (decide (0 ≤ (wrap64 ((a2.length : Int) - a3)))) = true then
      if (decide ((wrap64 ((a2.length : Int) - a3)) ≤ (a2.length : Int))) = true then
      if (decide ((a2.length : Int) ≤ (a2.length : Int))) = true then
      (F26 n (cutL a2 (wrap64 ((a2.length : Int) - a3)) (a2.length : Int))).bind fun r3 =>
      some (r3.1, ())
      else none
      else none
      else none
noncomputable def c8 (n : Nat) : Con := ⟨[.agg [(.int .i64), (.int .i64), (.sl (.imm true) 26 (.sl 49 (.pair .str (.pair (.int .i64) (.pair (.int .i64) (.pair .bool (.pair (.int .i64) (.pair (.int .i64) (.pair (.int .i64) (.pair (.int .i64) (.pair (.int .i64) (.int .i64))))))))))))], .one (.int .i64)], [], [.one (.sl .own 49 (.pair .str (.pair (.int .i64) (.pair (.int .i64) (.pair .bool (.pair (.int .i64) (.pair (.int .i64) (.pair (.int .i64) (.pair (.int .i64) (.pair (.int .i64) (.int .i64)))))))))))], [], fun (x : Int × Int × List (List (ByteArray × (Int × (Int × (Bool × (Int × (Int × (Int × (Int × (Int × Int)))))))))) × Int × Unit) => F8 n x.1 x.2.1 x.2.2.1 x.2.2.2.1⟩
noncomputable def G8 (n : Nat) : Gam := [((24, []), c24 n), ((25, []), c25 n), ((26, []), c26 n)]
theorem e8 (n : Nat) (x : Int × Int × List (List (ByteArray × (Int × (Int × (Bool × (Int × (Int × (Int × (Int × (Int × Int)))))))))) × Int × Unit) : evBody tab (G8 n) n (c8 n) Try.f8 x = F8 n x.1 x.2.1 x.2.2.1 x.2.2.2.1 := by kernel_rfl
theorem g8 (W : World) (n : Nat) : Good Try.prog W 8 (c8 n) := body_good follows tabOk (GamOk.cons (g24 W n) (GamOk.cons (g25 W n) (GamOk.cons (g26 W n) GamOk.nil))) (f := 8) (fn := Try.f8) (c := bodyOf Try.f8) (by kernel_rfl) (by kernel_rfl) (by kernel_rfl) (by kernel_rfl) (by kernel_rfl) (by kernel_rfl) (by kernel_rfl) (fun x r h => ⟨n, (e8 n x).trans h⟩)
/-! spec.l1In -/
noncomputable def F21 (n : Nat) (a0 : Int) (a1 : Int) (a2 : Int) : Option (Bool × Unit) :=
  if (decide (a0 ≥ a1)) = true then
    some (decide (a0 ≤ a2), ())
  else
    some (false, ())
noncomputable def c21 (n : Nat) : Con := ⟨[.one (.int .i64), .one (.int .i64), .one (.int .i64)], [], [.one (.bool)], [], fun (x : Int × Int × Int × Unit) => F21 n x.1 x.2.1 x.2.2.1⟩
noncomputable def G21 (n : Nat) : Gam := []
theorem e21 (n : Nat) (x : Int × Int × Int × Unit) : evBody tab (G21 n) n (c21 n) Try.f21 x = F21 n x.1 x.2.1 x.2.2.1 := by kernel_rfl
theorem g21 (W : World) (n : Nat) : Good Try.prog W 21 (c21 n) := body_good follows tabOk GamOk.nil (f := 21) (fn := Try.f21) (c := bodyOf Try.f21) (by kernel_rfl) (by kernel_rfl) (by kernel_rfl) (by kernel_rfl) (by kernel_rfl) (by kernel_rfl) (by kernel_rfl) (fun x r h => ⟨n, (e21 n x).trans h⟩)
/-! spec.l4Byte -/
noncomputable def F62 (n : Nat) (a0 : Int) : Option (Bool × Unit) :=
  (F21 n a0 (97 : Int) (122 : Int)).bind fun r1 =>
  if r1.1 = true then
    some (true, ())
  else
    (F21 n a0 (65 : Int) (90 : Int)).bind fun r2 =>
    if r2.1 = true then
      some (true, ())
    else
      (F21 n a0 (48 : Int) (57 : Int)).bind fun r3 =>
      if r3.1 = true then
        some (true, ())
      else
        some (decide (a0 = 95), ())
noncomputable def c62 (n : Nat) : Con := ⟨[.one (.int .i64)], [], [.one (.bool)], [], fun (x : Int × Unit) => F62 n x.1⟩
noncomputable def G62 (n : Nat) : Gam := [((21, []), c21 n)]
theorem e62 (n : Nat) (x : Int × Unit) : evBody tab (G62 n) n (c62 n) Try.f62 x = F62 n x.1 := by kernel_rfl
theorem g62 (W : World) (n : Nat) : Good Try.prog W 62 (c62 n) := body_good follows tabOk (GamOk.cons (g21 W n) GamOk.nil) (f := 62) (fn := Try.f62) (c := bodyOf Try.f62) (by kernel_rfl) (by kernel_rfl) (by kernel_rfl) (by kernel_rfl) (by kernel_rfl) (by kernel_rfl) (by kernel_rfl) (fun x r h => ⟨n, (e62 n x).trans h⟩)
/-! spec.KeyOk -/
noncomputable def st54_0 (n : Nat) (g0 : ByteArray → Int → Option (Bool × Unit)) (s0 : ByteArray) (i1 : Int) : Option (Bool × Unit) :=
  if (decide (i1 < (s0.size : Int))) = true then
    if (decide (0 ≤ i1)) = true then
    if (decide (i1 < (s0.size : Int))) = true then
    (F62 n (wrap64 ((bt s0 i1)))).bind fun r1 =>
    if (!r1.1) = true then
      some (false, ())
    else
      g0 s0 (wrap64 (i1 + 1))
    else none
    else none
  else
    (F21 n (s0.size : Int) (1 : Int) (4 : Int)).bind fun r2 =>
    some (r2.1, ())
noncomputable def lp54_0 (n : Nat) : Nat → ByteArray → Int → Option (Bool × Unit)
  | 0 => fun _ _ => none
  | k + 1 => st54_0 n (lp54_0 n k)
noncomputable def st54 (n : Nat) (h0 : ByteArray → Int → Option (Bool × Unit)) (a0 : ByteArray) : Option (Bool × Unit) :=
  h0 a0 (0 : Int)
noncomputable def F54 (n : Nat) (a0 : ByteArray) : Option (Bool × Unit) := st54 n (lp54_0 n n) a0
noncomputable def c54 (n : Nat) : Con := ⟨[.one (.str)], [], [.one (.bool)], [], fun (x : ByteArray × Unit) => F54 n x.1⟩
noncomputable def G54 (n : Nat) : Gam := [((21, []), c21 n), ((62, []), c62 n)]
noncomputable def S54_0 (s0 : ByteArray) (i1 : Int) : St := ⟨[.str s0, .dead, .dead, .int .i64 i1] ++ List.replicate 15 .dead, List.replicate 19 Ob.none⟩
noncomputable def ga54_0 (n : Nat) (ks : List Nat) (k : Nat) (st : St) : Option (Bool × Unit) := goAt tab (G54 n) n (bodyOf Try.f54) (lvOf Try.f54) (lvOf Try.f54).ret [1, 0, 1, 0] ks k st (evBody.endK tab (c54 n) Try.f54)
theorem el54_0 (n : Nat) : ∀ (k : Nat), ∀ (s0 : ByteArray) (i1 : Int), ga54_0 n [] k (S54_0 s0 i1) = lp54_0 n k s0 i1 := by
  intro k
  induction k with
  | zero => intros; rfl
  | succ k ih =>
    intro s0 i1
    have h : ga54_0 n [] (k + 1) (S54_0 s0 i1) = st54_0 n (fun w0 w1 => ga54_0 n [] k (S54_0 w0 w1)) s0 i1 := by kernel_rfl
    rw [h]
    have e : (fun w0 w1 => ga54_0 n [] k (S54_0 w0 w1)) = lp54_0 n k := by
      funext w0 w1; exact ih w0 w1
    rw [e]
    rfl
theorem e54 (n : Nat) (x : ByteArray × Unit) : evBody tab (G54 n) n (c54 n) Try.f54 x = F54 n x.1 := by
  have h : evBody tab (G54 n) n (c54 n) Try.f54 x = st54 n (fun w0 w1 => ga54_0 n [] n (S54_0 w0 w1)) x.1 := by kernel_rfl
  rw [h]
  have e0 : (fun w0 w1 => ga54_0 n [] n (S54_0 w0 w1)) = lp54_0 n n := by
    funext w0 w1; exact el54_0 n n w0 w1
  rw [e0]
  rfl
theorem g54 (W : World) (n : Nat) : Good Try.prog W 54 (c54 n) := body_good follows tabOk (GamOk.cons (g21 W n) (GamOk.cons (g62 W n) GamOk.nil)) (f := 54) (fn := Try.f54) (c := bodyOf Try.f54) (by kernel_rfl) (by kernel_rfl) (by kernel_rfl) (by kernel_rfl) (by kernel_rfl) (by kernel_rfl) (by kernel_rfl) (fun x r h => ⟨n, (e54 n x).trans h⟩)
/-! spec.l7Timer -/
noncomputable def F55 (n : Nat) (a0 : ByteArray) (a1 : Int) (a2 : Int) (a3 : Bool) (a4 : Int) (a5 : Int) (a6 : Int) (a7 : Int) (a8 : Int) (a9 : Int) : Option (Bool × Unit) :=
  if (decide (a5 = 0)) = true then
    if (decide (a6 = 0)) = true then
      if (decide (a7 = 0)) = true then
        if (decide (a8 = 0)) = true then
          some (decide (a9 = 0), ())
        else
          some (false, ())
      else
        some (false, ())
    else
      some (false, ())
  else
    (F21 n a5 (1 : Int) (3 : Int)).bind fun r1 =>
    if r1.1 = true then
      (F21 n a6 (0 : Int) a7).bind fun r2 =>
      if r2.1 = true then
        if (decide (a7 ≤ 65535)) = true then
          (F21 n a8 (wrap64 (a6 * a5)) (wrap64 (a7 * a5))).bind fun r3 =>
          if r3.1 = true then
            (F21 n a9 (0 : Int) (65535 : Int)).bind fun r4 =>
            if r4.1 = true then
              if (decide (a9 = 0)) = true then
                some (true, ())
              else
                some (decide (a5 = 3), ())
            else
              some (false, ())
          else
            some (false, ())
        else
          some (false, ())
      else
        some (false, ())
    else
      some (false, ())
noncomputable def c55 (n : Nat) : Con := ⟨[.agg [(.str), (.int .i64), (.int .i64), (.bool), (.int .i64), (.int .i64), (.int .i64), (.int .i64), (.int .i64), (.int .i64)]], [], [.one (.bool)], [], fun (x : ByteArray × Int × Int × Bool × Int × Int × Int × Int × Int × Int × Unit) => F55 n x.1 x.2.1 x.2.2.1 x.2.2.2.1 x.2.2.2.2.1 x.2.2.2.2.2.1 x.2.2.2.2.2.2.1 x.2.2.2.2.2.2.2.1 x.2.2.2.2.2.2.2.2.1 x.2.2.2.2.2.2.2.2.2.1⟩
noncomputable def G55 (n : Nat) : Gam := [((21, []), c21 n)]
theorem e55 (n : Nat) (x : ByteArray × Int × Int × Bool × Int × Int × Int × Int × Int × Int × Unit) : evBody tab (G55 n) n (c55 n) Try.f55 x = F55 n x.1 x.2.1 x.2.2.1 x.2.2.2.1 x.2.2.2.2.1 x.2.2.2.2.2.1 x.2.2.2.2.2.2.1 x.2.2.2.2.2.2.2.1 x.2.2.2.2.2.2.2.2.1 x.2.2.2.2.2.2.2.2.2.1 := by kernel_rfl
theorem g55 (W : World) (n : Nat) : Good Try.prog W 55 (c55 n) := body_good follows tabOk (GamOk.cons (g21 W n) GamOk.nil) (f := 55) (fn := Try.f55) (c := bodyOf Try.f55) (by kernel_rfl) (by kernel_rfl) (by kernel_rfl) (by kernel_rfl) (by kernel_rfl) (by kernel_rfl) (by kernel_rfl) (fun x r h => ⟨n, (e55 n x).trans h⟩)
/-! spec.RowOk -/
noncomputable def F42 (n : Nat) (a0 : ByteArray) (a1 : Int) (a2 : Int) (a3 : Bool) (a4 : Int) (a5 : Int) (a6 : Int) (a7 : Int) (a8 : Int) (a9 : Int) : Option (Bool × Unit) :=
  (F54 n a0).bind fun r1 =>
  if (!r1.1) = true then
    some (false, ())
  else
    if (decide (a1 = 1)) = true then
      if (decide (a0.toList = a0.toList) && (decide (a1 = a1) && (decide (a2 = a2) && ((a3 == false) && (decide (a4 = 0) && (decide (a5 = 0) && (decide (a6 = 0) && (decide (a7 = 0) && (decide (a8 = 0) && (decide (a9 = 0) && true)))))))))) = true then
        (F21 n a2 (0 : Int) (281474976710655 : Int)).bind fun r2 =>
        some (r2.1, ())
      else
        some (false, ())
    else
      if (decide (a1 = 2)) = true then
        if (decide (a0.toList = a0.toList) && (decide (a1 = a1) && (decide (a2 = 0) && ((a3 == a3) && (decide (a4 = a4) && (decide (a5 = 0) && (decide (a6 = 0) && (decide (a7 = 0) && (decide (a8 = 0) && (decide (a9 = 0) && true)))))))))) = true then
          (F21 n a4 (0 : Int) (65535 : Int)).bind fun r3 =>
          if r3.1 = true then
            if a3 = true then
              some (true, ())
            else
              some (decide (a4 = 0), ())
          else
            some (false, ())
        else
          some (false, ())
      else
        if (decide (a1 = 3)) = true then
          if (decide (a2 = 0)) = true then
            if (!a3) = true then
              if (decide (a4 = 0)) = true then
                (F55 n a0 a1 a2 a3 a4 a5 a6 a7 a8 a9).bind fun r4 =>
                some (r4.1, ())
              else
                some (false, ())
            else
              some (false, ())
          else
            some (false, ())
        else
          some (false, ())
noncomputable def c42 (n : Nat) : Con := ⟨[.agg [(.str), (.int .i64), (.int .i64), (.bool), (.int .i64), (.int .i64), (.int .i64), (.int .i64), (.int .i64), (.int .i64)]], [], [.one (.bool)], [], fun (x : ByteArray × Int × Int × Bool × Int × Int × Int × Int × Int × Int × Unit) => F42 n x.1 x.2.1 x.2.2.1 x.2.2.2.1 x.2.2.2.2.1 x.2.2.2.2.2.1 x.2.2.2.2.2.2.1 x.2.2.2.2.2.2.2.1 x.2.2.2.2.2.2.2.2.1 x.2.2.2.2.2.2.2.2.2.1⟩
noncomputable def G42 (n : Nat) : Gam := [((21, []), c21 n), ((54, []), c54 n), ((55, []), c55 n)]
theorem e42 (n : Nat) (x : ByteArray × Int × Int × Bool × Int × Int × Int × Int × Int × Int × Unit) : evBody tab (G42 n) n (c42 n) Try.f42 x = F42 n x.1 x.2.1 x.2.2.1 x.2.2.2.1 x.2.2.2.2.1 x.2.2.2.2.2.1 x.2.2.2.2.2.2.1 x.2.2.2.2.2.2.2.1 x.2.2.2.2.2.2.2.2.1 x.2.2.2.2.2.2.2.2.2.1 := by kernel_rfl
theorem g42 (W : World) (n : Nat) : Good Try.prog W 42 (c42 n) := body_good follows tabOk (GamOk.cons (g21 W n) (GamOk.cons (g54 W n) (GamOk.cons (g55 W n) GamOk.nil))) (f := 42) (fn := Try.f42) (c := bodyOf Try.f42) (by kernel_rfl) (by kernel_rfl) (by kernel_rfl) (by kernel_rfl) (by kernel_rfl) (by kernel_rfl) (by kernel_rfl) (fun x r h => ⟨n, (e42 n x).trans h⟩)
/-! spec.Quiet -/
noncomputable def F43 (n : Nat) (a0 : ByteArray) (a1 : Int) (a2 : Int) (a3 : Bool) (a4 : Int) (a5 : Int) (a6 : Int) (a7 : Int) (a8 : Int) (a9 : Int) : Option (Bool × Unit) :=
  if (decide (a2 = 0)) = true then
    if (!a3) = true then
      some (decide (a5 = 0), ())
    else
      some (false, ())
  else
    some (false, ())
noncomputable def c43 (n : Nat) : Con := ⟨[.agg [(.str), (.int .i64), (.int .i64), (.bool), (.int .i64), (.int .i64), (.int .i64), (.int .i64), (.int .i64), (.int .i64)]], [], [.one (.bool)], [], fun (x : ByteArray × Int × Int × Bool × Int × Int × Int × Int × Int × Int × Unit) => F43 n x.1 x.2.1 x.2.2.1 x.2.2.2.1 x.2.2.2.2.1 x.2.2.2.2.2.1 x.2.2.2.2.2.2.1 x.2.2.2.2.2.2.2.1 x.2.2.2.2.2.2.2.2.1 x.2.2.2.2.2.2.2.2.2.1⟩
noncomputable def G43 (n : Nat) : Gam := []
theorem e43 (n : Nat) (x : ByteArray × Int × Int × Bool × Int × Int × Int × Int × Int × Int × Unit) : evBody tab (G43 n) n (c43 n) Try.f43 x = F43 n x.1 x.2.1 x.2.2.1 x.2.2.2.1 x.2.2.2.2.1 x.2.2.2.2.2.1 x.2.2.2.2.2.2.1 x.2.2.2.2.2.2.2.1 x.2.2.2.2.2.2.2.2.1 x.2.2.2.2.2.2.2.2.2.1 := by kernel_rfl
theorem g43 (W : World) (n : Nat) : Good Try.prog W 43 (c43 n) := body_good follows tabOk GamOk.nil (f := 43) (fn := Try.f43) (c := bodyOf Try.f43) (by kernel_rfl) (by kernel_rfl) (by kernel_rfl) (by kernel_rfl) (by kernel_rfl) (by kernel_rfl) (by kernel_rfl) (fun x r h => ⟨n, (e43 n x).trans h⟩)
/-! spec.ReportOk -/
noncomputable def st33_0 (n : Nat) (g0 : (List (ByteArray × (Int × (Int × (Bool × (Int × (Int × (Int × (Int × (Int × Int)))))))))) → Int → Option (Bool × Unit)) (l0 : List (ByteArray × (Int × (Int × (Bool × (Int × (Int × (Int × (Int × (Int × Int)))))))))) (i1 : Int) : Option (Bool × Unit) :=
  if (decide (i1 < (l0.length : Int))) = true then
    if (decide (0 ≤ i1)) = true then
    if (decide (i1 < (l0.length : Int))) = true then
    (F42 n ((rdOf ((⟨#[]⟩ : ByteArray), ((0 : Int), ((0 : Int), (false, ((0 : Int), ((0 : Int), ((0 : Int), ((0 : Int), ((0 : Int), (0 : Int)))))))))) l0 i1).1) (((rdOf ((⟨#[]⟩ : ByteArray), ((0 : Int), ((0 : Int), (false, ((0 : Int), ((0 : Int), ((0 : Int), ((0 : Int), ((0 : Int), (0 : Int)))))))))) l0 i1).2).1) ((((rdOf ((⟨#[]⟩ : ByteArray), ((0 : Int), ((0 : Int), (false, ((0 : Int), ((0 : Int), ((0 : Int), ((0 : Int), ((0 : Int), (0 : Int)))))))))) l0 i1).2).2).1) (((((rdOf ((⟨#[]⟩ : ByteArray), ((0 : Int), ((0 : Int), (false, ((0 : Int), ((0 : Int), ((0 : Int), ((0 : Int), ((0 : Int), (0 : Int)))))))))) l0 i1).2).2).2).1) ((((((rdOf ((⟨#[]⟩ : ByteArray), ((0 : Int), ((0 : Int), (false, ((0 : Int), ((0 : Int), ((0 : Int), ((0 : Int), ((0 : Int), (0 : Int)))))))))) l0 i1).2).2).2).2).1) (((((((rdOf ((⟨#[]⟩ : ByteArray), ((0 : Int), ((0 : Int), (false, ((0 : Int), ((0 : Int), ((0 : Int), ((0 : Int), ((0 : Int), (0 : Int)))))))))) l0 i1).2).2).2).2).2).1) ((((((((rdOf ((⟨#[]⟩ : ByteArray), ((0 : Int), ((0 : Int), (false, ((0 : Int), ((0 : Int), ((0 : Int), ((0 : Int), ((0 : Int), (0 : Int)))))))))) l0 i1).2).2).2).2).2).2).1) (((((((((rdOf ((⟨#[]⟩ : ByteArray), ((0 : Int), ((0 : Int), (false, ((0 : Int), ((0 : Int), ((0 : Int), ((0 : Int), ((0 : Int), (0 : Int)))))))))) l0 i1).2).2).2).2).2).2).2).1) ((((((((((rdOf ((⟨#[]⟩ : ByteArray), ((0 : Int), ((0 : Int), (false, ((0 : Int), ((0 : Int), ((0 : Int), ((0 : Int), ((0 : Int), (0 : Int)))))))))) l0 i1).2).2).2).2).2).2).2).2).1) ((((((((((rdOf ((⟨#[]⟩ : ByteArray), ((0 : Int), ((0 : Int), (false, ((0 : Int), ((0 : Int), ((0 : Int), ((0 : Int), ((0 : Int), (0 : Int)))))))))) l0 i1).2).2).2).2).2).2).2).2).2)).bind fun r1 =>
    if (!r1.1) = true then
      some (false, ())
    else
      if (decide (0 ≤ i1)) = true then
      if (decide (i1 < (l0.length : Int))) = true then
      (F43 n ((rdOf ((⟨#[]⟩ : ByteArray), ((0 : Int), ((0 : Int), (false, ((0 : Int), ((0 : Int), ((0 : Int), ((0 : Int), ((0 : Int), (0 : Int)))))))))) l0 i1).1) (((rdOf ((⟨#[]⟩ : ByteArray), ((0 : Int), ((0 : Int), (false, ((0 : Int), ((0 : Int), ((0 : Int), ((0 : Int), ((0 : Int), (0 : Int)))))))))) l0 i1).2).1) ((((rdOf ((⟨#[]⟩ : ByteArray), ((0 : Int), ((0 : Int), (false, ((0 : Int), ((0 : Int), ((0 : Int), ((0 : Int), ((0 : Int), (0 : Int)))))))))) l0 i1).2).2).1) (((((rdOf ((⟨#[]⟩ : ByteArray), ((0 : Int), ((0 : Int), (false, ((0 : Int), ((0 : Int), ((0 : Int), ((0 : Int), ((0 : Int), (0 : Int)))))))))) l0 i1).2).2).2).1) ((((((rdOf ((⟨#[]⟩ : ByteArray), ((0 : Int), ((0 : Int), (false, ((0 : Int), ((0 : Int), ((0 : Int), ((0 : Int), ((0 : Int), (0 : Int)))))))))) l0 i1).2).2).2).2).1) (((((((rdOf ((⟨#[]⟩ : ByteArray), ((0 : Int), ((0 : Int), (false, ((0 : Int), ((0 : Int), ((0 : Int), ((0 : Int), ((0 : Int), (0 : Int)))))))))) l0 i1).2).2).2).2).2).1) ((((((((rdOf ((⟨#[]⟩ : ByteArray), ((0 : Int), ((0 : Int), (false, ((0 : Int), ((0 : Int), ((0 : Int), ((0 : Int), ((0 : Int), (0 : Int)))))))))) l0 i1).2).2).2).2).2).2).1) (((((((((rdOf ((⟨#[]⟩ : ByteArray), ((0 : Int), ((0 : Int), (false, ((0 : Int), ((0 : Int), ((0 : Int), ((0 : Int), ((0 : Int), (0 : Int)))))))))) l0 i1).2).2).2).2).2).2).2).1) ((((((((((rdOf ((⟨#[]⟩ : ByteArray), ((0 : Int), ((0 : Int), (false, ((0 : Int), ((0 : Int), ((0 : Int), ((0 : Int), ((0 : Int), (0 : Int)))))))))) l0 i1).2).2).2).2).2).2).2).2).1) ((((((((((rdOf ((⟨#[]⟩ : ByteArray), ((0 : Int), ((0 : Int), (false, ((0 : Int), ((0 : Int), ((0 : Int), ((0 : Int), ((0 : Int), (0 : Int)))))))))) l0 i1).2).2).2).2).2).2).2).2).2)).bind fun r2 =>
      if r2.1 = true then
        some (false, ())
      else
        if (decide (i1 > 0)) = true then
          if (decide (0 ≤ i1)) = true then
          if (decide (i1 < (l0.length : Int))) = true then
          if (decide (0 ≤ (wrap64 (i1 - 1)))) = true then
          if (decide ((wrap64 (i1 - 1)) < (l0.length : Int))) = true then
          if (Op.bytesLess ((rdOf ((⟨#[]⟩ : ByteArray), ((0 : Int), ((0 : Int), (false, ((0 : Int), ((0 : Int), ((0 : Int), ((0 : Int), ((0 : Int), (0 : Int)))))))))) l0 i1).1).toList ((rdOf ((⟨#[]⟩ : ByteArray), ((0 : Int), ((0 : Int), (false, ((0 : Int), ((0 : Int), ((0 : Int), ((0 : Int), ((0 : Int), (0 : Int)))))))))) l0 (wrap64 (i1 - 1))).1).toList || decide (((rdOf ((⟨#[]⟩ : ByteArray), ((0 : Int), ((0 : Int), (false, ((0 : Int), ((0 : Int), ((0 : Int), ((0 : Int), ((0 : Int), (0 : Int)))))))))) l0 i1).1).toList = ((rdOf ((⟨#[]⟩ : ByteArray), ((0 : Int), ((0 : Int), (false, ((0 : Int), ((0 : Int), ((0 : Int), ((0 : Int), ((0 : Int), (0 : Int)))))))))) l0 (wrap64 (i1 - 1))).1).toList)) = true then
            some (false, ())
          else
            g0 l0 (wrap64 (i1 + 1))
          else none
          else none
          else none
          else none
        else
          g0 l0 (wrap64 (i1 + 1))
      else none
      else none
    else none
    else none
  else
    some (decide ((l0.length : Int) ≤ 4), ())
noncomputable def lp33_0 (n : Nat) : Nat → (List (ByteArray × (Int × (Int × (Bool × (Int × (Int × (Int × (Int × (Int × Int)))))))))) → Int → Option (Bool × Unit)
  | 0 => fun _ _ => none
  | k + 1 => st33_0 n (lp33_0 n k)
noncomputable def st33 (n : Nat) (h0 : (List (ByteArray × (Int × (Int × (Bool × (Int × (Int × (Int × (Int × (Int × Int)))))))))) → Int → Option (Bool × Unit)) (a0 : List (ByteArray × (Int × (Int × (Bool × (Int × (Int × (Int × (Int × (Int × Int)))))))))) : Option (Bool × Unit) :=
  h0 a0 (0 : Int)
noncomputable def F33 (n : Nat) (a0 : List (ByteArray × (Int × (Int × (Bool × (Int × (Int × (Int × (Int × (Int × Int)))))))))) : Option (Bool × Unit) := st33 n (lp33_0 n n) a0
noncomputable def c33 (n : Nat) : Con := ⟨[.one (.sl (.imm true) 49 (.pair .str (.pair (.int .i64) (.pair (.int .i64) (.pair .bool (.pair (.int .i64) (.pair (.int .i64) (.pair (.int .i64) (.pair (.int .i64) (.pair (.int .i64) (.int .i64)))))))))))], [], [.one (.bool)], [], fun (x : List (ByteArray × (Int × (Int × (Bool × (Int × (Int × (Int × (Int × (Int × Int))))))))) × Unit) => F33 n x.1⟩
noncomputable def G33 (n : Nat) : Gam := [((42, []), c42 n), ((43, []), c43 n)]
noncomputable def S33_0 (l0 : List (ByteArray × (Int × (Int × (Bool × (Int × (Int × (Int × (Int × (Int × Int)))))))))) (i1 : Int) : St := ⟨[.sl (.imm true) 49 (.pair .str (.pair (.int .i64) (.pair (.int .i64) (.pair .bool (.pair (.int .i64) (.pair (.int .i64) (.pair (.int .i64) (.pair (.int .i64) (.pair (.int .i64) (.int .i64)))))))))) l0, .dead, .dead, .int .i64 i1] ++ List.replicate 40 .dead, List.replicate 44 Ob.none⟩
noncomputable def ga33_0 (n : Nat) (ks : List Nat) (k : Nat) (st : St) : Option (Bool × Unit) := goAt tab (G33 n) n (bodyOf Try.f33) (lvOf Try.f33) (lvOf Try.f33).ret [1, 0, 1, 0] ks k st (evBody.endK tab (c33 n) Try.f33)
theorem el33_0 (n : Nat) : ∀ (k : Nat), ∀ (l0 : List (ByteArray × (Int × (Int × (Bool × (Int × (Int × (Int × (Int × (Int × Int)))))))))) (i1 : Int), ga33_0 n [] k (S33_0 l0 i1) = lp33_0 n k l0 i1 := by
  intro k
  induction k with
  | zero => intros; rfl
  | succ k ih =>
    intro l0 i1
    have h : ga33_0 n [] (k + 1) (S33_0 l0 i1) = st33_0 n (fun w0 w1 => ga33_0 n [] k (S33_0 w0 w1)) l0 i1 := by kernel_rfl
    rw [h]
    have e : (fun w0 w1 => ga33_0 n [] k (S33_0 w0 w1)) = lp33_0 n k := by
      funext w0 w1; exact ih w0 w1
    rw [e]
    rfl
theorem e33 (n : Nat) (x : List (ByteArray × (Int × (Int × (Bool × (Int × (Int × (Int × (Int × (Int × Int))))))))) × Unit) : evBody tab (G33 n) n (c33 n) Try.f33 x = F33 n x.1 := by
  have h : evBody tab (G33 n) n (c33 n) Try.f33 x = st33 n (fun w0 w1 => ga33_0 n [] n (S33_0 w0 w1)) x.1 := by kernel_rfl
  rw [h]
  have e0 : (fun w0 w1 => ga33_0 n [] n (S33_0 w0 w1)) = lp33_0 n n := by
    funext w0 w1; exact el33_0 n n w0 w1
  rw [e0]
  rfl
theorem g33 (W : World) (n : Nat) : Good Try.prog W 33 (c33 n) := body_good follows tabOk (GamOk.cons (g42 W n) (GamOk.cons (g43 W n) GamOk.nil)) (f := 33) (fn := Try.f33) (c := bodyOf Try.f33) (by kernel_rfl) (by kernel_rfl) (by kernel_rfl) (by kernel_rfl) (by kernel_rfl) (by kernel_rfl) (by kernel_rfl) (fun x r h => ⟨n, (e33 n x).trans h⟩)
/-! spec.StoreOk -/
noncomputable def st20_0 (n : Nat) (g0 : Int → Int → Int → (List (List (ByteArray × (Int × (Int × (Bool × (Int × (Int × (Int × (Int × (Int × Int))))))))))) → Option (Bool × Unit)) (i0 : Int) (i1 : Int) (i2 : Int) (l3 : List (List (ByteArray × (Int × (Int × (Bool × (Int × (Int × (Int × (Int × (Int × Int))))))))))) : Option (Bool × Unit) :=
  if (decide (i0 < (l3.length : Int))) = true then
    if (decide (0 ≤ i0)) = true then
    if (decide (i0 < (l3.length : Int))) = true then
    (F33 n (rdOf ([] : List (ByteArray × (Int × (Int × (Bool × (Int × (Int × (Int × (Int × (Int × Int)))))))))) l3 i0)).bind fun r1 =>
    if (!r1.1) = true then
      some (false, ())
    else
      g0 (wrap64 (i0 + 1)) i1 i2 l3
    else none
    else none
  else
    (F21 n i1 (1 : Int) (5 : Int)).bind fun r2 =>
    if r2.1 = true then
      if (decide ((l3.length : Int) ≤ i1)) = true then
        (F21 n i2 (0 : Int) (1000000 : Int)).bind fun r3 =>
        if r3.1 = true then
          if (decide (i2 = 0)) = true then
            some (true, ())
          else
            some (decide ((l3.length : Int) = i1), ())
        else
          some (false, ())
      else
        some (false, ())
    else
      some (false, ())
noncomputable def lp20_0 (n : Nat) : Nat → Int → Int → Int → (List (List (ByteArray × (Int × (Int × (Bool × (Int × (Int × (Int × (Int × (Int × Int))))))))))) → Option (Bool × Unit)
  | 0 => fun _ _ _ _ => none
  | k + 1 => st20_0 n (lp20_0 n k)
noncomputable def st20 (n : Nat) (h0 : Int → Int → Int → (List (List (ByteArray × (Int × (Int × (Bool × (Int × (Int × (Int × (Int × (Int × Int))))))))))) → Option (Bool × Unit)) (a0 : Int) (a1 : Int) (a2 : List (List (ByteArray × (Int × (Int × (Bool × (Int × (Int × (Int × (Int × (Int × Int))))))))))) : Option (Bool × Unit) :=
  h0 (0 : Int) a0 a1 a2
noncomputable def F20 (n : Nat) (a0 : Int) (a1 : Int) (a2 : List (List (ByteArray × (Int × (Int × (Bool × (Int × (Int × (Int × (Int × (Int × Int))))))))))) : Option (Bool × Unit) := st20 n (lp20_0 n n) a0 a1 a2
noncomputable def c20 (n : Nat) : Con := ⟨[.agg [(.int .i64), (.int .i64), (.sl (.imm true) 26 (.sl 49 (.pair .str (.pair (.int .i64) (.pair (.int .i64) (.pair .bool (.pair (.int .i64) (.pair (.int .i64) (.pair (.int .i64) (.pair (.int .i64) (.pair (.int .i64) (.int .i64))))))))))))]], [], [.one (.bool)], [], fun (x : Int × Int × List (List (ByteArray × (Int × (Int × (Bool × (Int × (Int × (Int × (Int × (Int × Int)))))))))) × Unit) => F20 n x.1 x.2.1 x.2.2.1⟩
noncomputable def G20 (n : Nat) : Gam := [((21, []), c21 n), ((33, []), c33 n)]
noncomputable def S20_0 (i0 : Int) (i1 : Int) (i2 : Int) (l3 : List (List (ByteArray × (Int × (Int × (Bool × (Int × (Int × (Int × (Int × (Int × Int))))))))))) : St := ⟨[.dead, .ptr 1 0, .dead, .int .i64 i0] ++ List.replicate 43 .dead, [Ob.none, ⟨true, [.int .i64 i1, .int .i64 i2, .sl (.imm true) 26 (.sl 49 (.pair .str (.pair (.int .i64) (.pair (.int .i64) (.pair .bool (.pair (.int .i64) (.pair (.int .i64) (.pair (.int .i64) (.pair (.int .i64) (.pair (.int .i64) (.int .i64))))))))))) l3], 0, 0⟩] ++ List.replicate 45 Ob.none⟩
noncomputable def ga20_0 (n : Nat) (ks : List Nat) (k : Nat) (st : St) : Option (Bool × Unit) := goAt tab (G20 n) n (bodyOf Try.f20) (lvOf Try.f20) (lvOf Try.f20).ret [1, 0, 1, 0] ks k st (evBody.endK tab (c20 n) Try.f20)
theorem el20_0 (n : Nat) : ∀ (k : Nat), ∀ (i0 : Int) (i1 : Int) (i2 : Int) (l3 : List (List (ByteArray × (Int × (Int × (Bool × (Int × (Int × (Int × (Int × (Int × Int))))))))))), ga20_0 n [] k (S20_0 i0 i1 i2 l3) = lp20_0 n k i0 i1 i2 l3 := by
  intro k
  induction k with
  | zero => intros; rfl
  | succ k ih =>
    intro i0 i1 i2 l3
    have h : ga20_0 n [] (k + 1) (S20_0 i0 i1 i2 l3) = st20_0 n (fun w0 w1 w2 w3 => ga20_0 n [] k (S20_0 w0 w1 w2 w3)) i0 i1 i2 l3 := by kernel_rfl
    rw [h]
    have e : (fun w0 w1 w2 w3 => ga20_0 n [] k (S20_0 w0 w1 w2 w3)) = lp20_0 n k := by
      funext w0 w1 w2 w3; exact ih w0 w1 w2 w3
    rw [e]
    rfl
theorem e20 (n : Nat) (x : Int × Int × List (List (ByteArray × (Int × (Int × (Bool × (Int × (Int × (Int × (Int × (Int × Int)))))))))) × Unit) : evBody tab (G20 n) n (c20 n) Try.f20 x = F20 n x.1 x.2.1 x.2.2.1 := by
  have h : evBody tab (G20 n) n (c20 n) Try.f20 x = st20 n (fun w0 w1 w2 w3 => ga20_0 n [] n (S20_0 w0 w1 w2 w3)) x.1 x.2.1 x.2.2.1 := by kernel_rfl
  rw [h]
  have e0 : (fun w0 w1 w2 w3 => ga20_0 n [] n (S20_0 w0 w1 w2 w3)) = lp20_0 n n := by
    funext w0 w1 w2 w3; exact el20_0 n n w0 w1 w2 w3
  rw [e0]
  rfl
theorem g20 (W : World) (n : Nat) : Good Try.prog W 20 (c20 n) := body_good follows tabOk (GamOk.cons (g21 W n) (GamOk.cons (g33 W n) GamOk.nil)) (f := 20) (fn := Try.f20) (c := bodyOf Try.f20) (by kernel_rfl) (by kernel_rfl) (by kernel_rfl) (by kernel_rfl) (by kernel_rfl) (by kernel_rfl) (by kernel_rfl) (fun x r h => ⟨n, (e20 n x).trans h⟩)
/-! spec.l2Mod -/
noncomputable def F58 (n : Nat) (a0 : Int) : Option (Int × Unit) :=
  if (decide (281474976710656 ≠ 0)) = true then
  if (decide (281474976710656 ≠ 0)) = true then
  some (((wrap64 ((a0.tmod (281474976710656 : Int)) + 281474976710656)).tmod (281474976710656 : Int)), ())
  else none
  else none
noncomputable def c58 (n : Nat) : Con := ⟨[.one (.int .i64)], [], [.one (.int .i64)], [], fun (x : Int × Unit) => F58 n x.1⟩
noncomputable def G58 (n : Nat) : Gam := []
theorem e58 (n : Nat) (x : Int × Unit) : evBody tab (G58 n) n (c58 n) Try.f58 x = F58 n x.1 := by kernel_rfl
theorem g58 (W : World) (n : Nat) : Good Try.prog W 58 (c58 n) := body_good follows tabOk GamOk.nil (f := 58) (fn := Try.f58) (c := bodyOf Try.f58) (by kernel_rfl) (by kernel_rfl) (by kernel_rfl) (by kernel_rfl) (by kernel_rfl) (by kernel_rfl) (by kernel_rfl) (fun x r h => ⟨n, (e58 n x).trans h⟩)
/-! spec.MergeRow -/
noncomputable def F46 (n : Nat) (a0 : ByteArray) (a1 : Int) (a2 : Int) (a3 : Bool) (a4 : Int) (a5 : Int) (a6 : Int) (a7 : Int) (a8 : Int) (a9 : Int) (a10 : ByteArray) (a11 : Int) (a12 : Int) (a13 : Bool) (a14 : Int) (a15 : Int) (a16 : Int) (a17 : Int) (a18 : Int) (a19 : Int) : Option (ByteArray × Int × Int × Bool × Int × Int × Int × Int × Int × Int × Unit) :=
  if (decide (a0.toList = (⟨#[]⟩ : ByteArray).toList) && (decide (a1 = 0) && (decide (a2 = 0) && ((a3 == false) && (decide (a4 = 0) && (decide (a5 = 0) && (decide (a6 = 0) && (decide (a7 = 0) && (decide (a8 = 0) && (decide (a9 = 0) && true)))))))))) = true then
    some (a10, a11, a12, a13, a14, a15, a16, a17, a18, a19, ())
  else
    if (!decide (a0.toList = a10.toList)) = true then
      some (a0, a1, a2, a3, a4, a5, a6, a7, a8, a9, ())
    else
      if (decide (a1 ≠ a11)) = true then
        some (a0, a1, a2, a3, a4, a5, a6, a7, a8, a9, ())
      else
        (F58 n a2).bind fun r1 =>
        (F58 n a12).bind fun r2 =>
        (F58 n (wrap64 (r1.1 + r2.1))).bind fun r3 =>
        if a13 = true then
          if (decide (a5 = 0)) = true then
            if (decide (a15 > 0)) = true then
              some (a0, a1, r3.1, true, a14, (wrap64 (a5 + a15)), (mn a16 a16), (mx a17 a17), (wrap64 (a8 + a18)), (wrap64 (a9 + a19)), ())
            else
              some (a0, a1, r3.1, true, a14, (wrap64 (a5 + a15)), a16, a17, (wrap64 (a8 + a18)), (wrap64 (a9 + a19)), ())
          else
            if (decide (a15 > 0)) = true then
              some (a0, a1, r3.1, true, a14, (wrap64 (a5 + a15)), (mn a6 a16), (mx a7 a17), (wrap64 (a8 + a18)), (wrap64 (a9 + a19)), ())
            else
              some (a0, a1, r3.1, true, a14, (wrap64 (a5 + a15)), a6, a7, (wrap64 (a8 + a18)), (wrap64 (a9 + a19)), ())
        else
          if (decide (a5 = 0)) = true then
            if (decide (a15 > 0)) = true then
              some (a0, a1, r3.1, a3, a4, (wrap64 (a5 + a15)), (mn a16 a16), (mx a17 a17), (wrap64 (a8 + a18)), (wrap64 (a9 + a19)), ())
            else
              some (a0, a1, r3.1, a3, a4, (wrap64 (a5 + a15)), a16, a17, (wrap64 (a8 + a18)), (wrap64 (a9 + a19)), ())
          else
            if (decide (a15 > 0)) = true then
              some (a0, a1, r3.1, a3, a4, (wrap64 (a5 + a15)), (mn a6 a16), (mx a7 a17), (wrap64 (a8 + a18)), (wrap64 (a9 + a19)), ())
            else
              some (a0, a1, r3.1, a3, a4, (wrap64 (a5 + a15)), a6, a7, (wrap64 (a8 + a18)), (wrap64 (a9 + a19)), ())
noncomputable def c46 (n : Nat) : Con := ⟨[.agg [(.str), (.int .i64), (.int .i64), (.bool), (.int .i64), (.int .i64), (.int .i64), (.int .i64), (.int .i64), (.int .i64)], .agg [(.str), (.int .i64), (.int .i64), (.bool), (.int .i64), (.int .i64), (.int .i64), (.int .i64), (.int .i64), (.int .i64)]], [], [.agg [(.str), (.int .i64), (.int .i64), (.bool), (.int .i64), (.int .i64), (.int .i64), (.int .i64), (.int .i64), (.int .i64)]], [], fun (x : ByteArray × Int × Int × Bool × Int × Int × Int × Int × Int × Int × ByteArray × Int × Int × Bool × Int × Int × Int × Int × Int × Int × Unit) => F46 n x.1 x.2.1 x.2.2.1 x.2.2.2.1 x.2.2.2.2.1 x.2.2.2.2.2.1 x.2.2.2.2.2.2.1 x.2.2.2.2.2.2.2.1 x.2.2.2.2.2.2.2.2.1 x.2.2.2.2.2.2.2.2.2.1 x.2.2.2.2.2.2.2.2.2.2.1 x.2.2.2.2.2.2.2.2.2.2.2.1 x.2.2.2.2.2.2.2.2.2.2.2.2.1 x.2.2.2.2.2.2.2.2.2.2.2.2.2.1 x.2.2.2.2.2.2.2.2.2.2.2.2.2.2.1 x.2.2.2.2.2.2.2.2.2.2.2.2.2.2.2.1 x.2.2.2.2.2.2.2.2.2.2.2.2.2.2.2.2.1 x.2.2.2.2.2.2.2.2.2.2.2.2.2.2.2.2.2.1 x.2.2.2.2.2.2.2.2.2.2.2.2.2.2.2.2.2.2.1 x.2.2.2.2.2.2.2.2.2.2.2.2.2.2.2.2.2.2.2.1⟩
noncomputable def G46 (n : Nat) : Gam := [((58, []), c58 n)]
theorem e46 (n : Nat) (x : ByteArray × Int × Int × Bool × Int × Int × Int × Int × Int × Int × ByteArray × Int × Int × Bool × Int × Int × Int × Int × Int × Int × Unit) : evBody tab (G46 n) n (c46 n) Try.f46 x = F46 n x.1 x.2.1 x.2.2.1 x.2.2.2.1 x.2.2.2.2.1 x.2.2.2.2.2.1 x.2.2.2.2.2.2.1 x.2.2.2.2.2.2.2.1 x.2.2.2.2.2.2.2.2.1 x.2.2.2.2.2.2.2.2.2.1 x.2.2.2.2.2.2.2.2.2.2.1 x.2.2.2.2.2.2.2.2.2.2.2.1 x.2.2.2.2.2.2.2.2.2.2.2.2.1 x.2.2.2.2.2.2.2.2.2.2.2.2.2.1 x.2.2.2.2.2.2.2.2.2.2.2.2.2.2.1 x.2.2.2.2.2.2.2.2.2.2.2.2.2.2.2.1 x.2.2.2.2.2.2.2.2.2.2.2.2.2.2.2.2.1 x.2.2.2.2.2.2.2.2.2.2.2.2.2.2.2.2.2.1 x.2.2.2.2.2.2.2.2.2.2.2.2.2.2.2.2.2.2.1 x.2.2.2.2.2.2.2.2.2.2.2.2.2.2.2.2.2.2.2.1 := by kernel_rfl
theorem g46 (W : World) (n : Nat) : Good Try.prog W 46 (c46 n) := body_good follows tabOk (GamOk.cons (g58 W n) GamOk.nil) (f := 46) (fn := Try.f46) (c := bodyOf Try.f46) (by kernel_rfl) (by kernel_rfl) (by kernel_rfl) (by kernel_rfl) (by kernel_rfl) (by kernel_rfl) (by kernel_rfl) (fun x r h => ⟨n, (e46 n x).trans h⟩)
/-! spec.l8Put -/
noncomputable def j47_0 (n : Nat) (g0 : Bool → Int → (List (ByteArray × (Int × (Int × (Bool × (Int × (Int × (Int × (Int × (Int × Int)))))))))) → ByteArray → Int → Int → Bool → Int → Int → Int → Int → Int → Int → (List (ByteArray × (Int × (Int × (Bool × (Int × (Int × (Int × (Int × (Int × Int)))))))))) → Option (List (ByteArray × (Int × (Int × (Bool × (Int × (Int × (Int × (Int × (Int × Int))))))))) × Unit)) (b0 : Bool) (i1 : Int) (l2 : List (ByteArray × (Int × (Int × (Bool × (Int × (Int × (Int × (Int × (Int × Int)))))))))) (s3 : ByteArray) (i4 : Int) (i5 : Int) (b6 : Bool) (i7 : Int) (i8 : Int) (i9 : Int) (i10 : Int) (i11 : Int) (i12 : Int) (l13 : List (ByteArray × (Int × (Int × (Bool × (Int × (Int × (Int × (Int × (Int × Int)))))))))) : Option (List (ByteArray × (Int × (Int × (Bool × (Int × (Int × (Int × (Int × (Int × Int))))))))) × Unit) :=
  if (decide (0 ≤ i1)) = true then
  if (decide (i1 < (l2.length : Int))) = true then
  if (decide ((l13.length + ([((rdOf ((⟨#[]⟩ : ByteArray), ((0 : Int), ((0 : Int), (false, ((0 : Int), ((0 : Int), ((0 : Int), ((0 : Int), ((0 : Int), (0 : Int)))))))))) l2 i1).1, (((rdOf ((⟨#[]⟩ : ByteArray), ((0 : Int), ((0 : Int), (false, ((0 : Int), ((0 : Int), ((0 : Int), ((0 : Int), ((0 : Int), (0 : Int)))))))))) l2 i1).2).1, ((((rdOf ((⟨#[]⟩ : ByteArray), ((0 : Int), ((0 : Int), (false, ((0 : Int), ((0 : Int), ((0 : Int), ((0 : Int), ((0 : Int), (0 : Int)))))))))) l2 i1).2).2).1, (((((rdOf ((⟨#[]⟩ : ByteArray), ((0 : Int), ((0 : Int), (false, ((0 : Int), ((0 : Int), ((0 : Int), ((0 : Int), ((0 : Int), (0 : Int)))))))))) l2 i1).2).2).2).1, ((((((rdOf ((⟨#[]⟩ : ByteArray), ((0 : Int), ((0 : Int), (false, ((0 : Int), ((0 : Int), ((0 : Int), ((0 : Int), ((0 : Int), (0 : Int)))))))))) l2 i1).2).2).2).2).1, (((((((rdOf ((⟨#[]⟩ : ByteArray), ((0 : Int), ((0 : Int), (false, ((0 : Int), ((0 : Int), ((0 : Int), ((0 : Int), ((0 : Int), (0 : Int)))))))))) l2 i1).2).2).2).2).2).1, ((((((((rdOf ((⟨#[]⟩ : ByteArray), ((0 : Int), ((0 : Int), (false, ((0 : Int), ((0 : Int), ((0 : Int), ((0 : Int), ((0 : Int), (0 : Int)))))))))) l2 i1).2).2).2).2).2).2).1, (((((((((rdOf ((⟨#[]⟩ : ByteArray), ((0 : Int), ((0 : Int), (false, ((0 : Int), ((0 : Int), ((0 : Int), ((0 : Int), ((0 : Int), (0 : Int)))))))))) l2 i1).2).2).2).2).2).2).2).1, ((((((((((rdOf ((⟨#[]⟩ : ByteArray), ((0 : Int), ((0 : Int), (false, ((0 : Int), ((0 : Int), ((0 : Int), ((0 : Int), ((0 : Int), (0 : Int)))))))))) l2 i1).2).2).2).2).2).2).2).2).1, (((((((((rdOf ((⟨#[]⟩ : ByteArray), ((0 : Int), ((0 : Int), (false, ((0 : Int), ((0 : Int), ((0 : Int), ((0 : Int), ((0 : Int), (0 : Int)))))))))) l2 i1).2).2).2).2).2).2).2).2).2)))))))))] : List (ByteArray × (Int × (Int × (Bool × (Int × (Int × (Int × (Int × (Int × Int)))))))))).length) * 88 ≤ 140737488355328)) = true then
  g0 b0 (wrap64 (i1 + 1)) l2 s3 i4 i5 b6 i7 i8 i9 i10 i11 i12 (l13 ++ ([((rdOf ((⟨#[]⟩ : ByteArray), ((0 : Int), ((0 : Int), (false, ((0 : Int), ((0 : Int), ((0 : Int), ((0 : Int), ((0 : Int), (0 : Int)))))))))) l2 i1).1, (((rdOf ((⟨#[]⟩ : ByteArray), ((0 : Int), ((0 : Int), (false, ((0 : Int), ((0 : Int), ((0 : Int), ((0 : Int), ((0 : Int), (0 : Int)))))))))) l2 i1).2).1, ((((rdOf ((⟨#[]⟩ : ByteArray), ((0 : Int), ((0 : Int), (false, ((0 : Int), ((0 : Int), ((0 : Int), ((0 : Int), ((0 : Int), (0 : Int)))))))))) l2 i1).2).2).1, (((((rdOf ((⟨#[]⟩ : ByteArray), ((0 : Int), ((0 : Int), (false, ((0 : Int), ((0 : Int), ((0 : Int), ((0 : Int), ((0 : Int), (0 : Int)))))))))) l2 i1).2).2).2).1, ((((((rdOf ((⟨#[]⟩ : ByteArray), ((0 : Int), ((0 : Int), (false, ((0 : Int), ((0 : Int), ((0 : Int), ((0 : Int), ((0 : Int), (0 : Int)))))))))) l2 i1).2).2).2).2).1, (((((((rdOf ((⟨#[]⟩ : ByteArray), ((0 : Int), ((0 : Int), (false, ((0 : Int), ((0 : Int), ((0 : Int), ((0 : Int), ((0 : Int), (0 : Int)))))))))) l2 i1).2).2).2).2).2).1, ((((((((rdOf ((⟨#[]⟩ : ByteArray), ((0 : Int), ((0 : Int), (false, ((0 : Int), ((0 : Int), ((0 : Int), ((0 : Int), ((0 : Int), (0 : Int)))))))))) l2 i1).2).2).2).2).2).2).1, (((((((((rdOf ((⟨#[]⟩ : ByteArray), ((0 : Int), ((0 : Int), (false, ((0 : Int), ((0 : Int), ((0 : Int), ((0 : Int), ((0 : Int), (0 : Int)))))))))) l2 i1).2).2).2).2).2).2).2).1, ((((((((((rdOf ((⟨#[]⟩ : ByteArray), ((0 : Int), ((0 : Int), (false, ((0 : Int), ((0 : Int), ((0 : Int), ((0 : Int), ((0 : Int), (0 : Int)))))))))) l2 i1).2).2).2).2).2).2).2).2).1, (((((((((rdOf ((⟨#[]⟩ : ByteArray), ((0 : Int), ((0 : Int), (false, ((0 : Int), ((0 : Int), ((0 : Int), ((0 : Int), ((0 : Int), (0 : Int)))))))))) l2 i1).2).2).2).2).2).2).2).2).2)))))))))] : List (ByteArray × (Int × (Int × (Bool × (Int × (Int × (Int × (Int × (Int × Int)))))))))))
  else none
  else none
  else none
noncomputable def st47_0 (n : Nat) (g0 : Bool → Int → (List (ByteArray × (Int × (Int × (Bool × (Int × (Int × (Int × (Int × (Int × Int)))))))))) → ByteArray → Int → Int → Bool → Int → Int → Int → Int → Int → Int → (List (ByteArray × (Int × (Int × (Bool × (Int × (Int × (Int × (Int × (Int × Int)))))))))) → Option (List (ByteArray × (Int × (Int × (Bool × (Int × (Int × (Int × (Int × (Int × Int))))))))) × Unit)) (b0 : Bool) (i1 : Int) (l2 : List (ByteArray × (Int × (Int × (Bool × (Int × (Int × (Int × (Int × (Int × Int)))))))))) (s3 : ByteArray) (i4 : Int) (i5 : Int) (b6 : Bool) (i7 : Int) (i8 : Int) (i9 : Int) (i10 : Int) (i11 : Int) (i12 : Int) (l13 : List (ByteArray × (Int × (Int × (Bool × (Int × (Int × (Int × (Int × (Int × Int)))))))))) : Option (List (ByteArray × (Int × (Int × (Bool × (Int × (Int × (Int × (Int × (Int × Int))))))))) × Unit) :=
  if (decide (i1 < (l2.length : Int))) = true then
    if (decide (0 ≤ i1)) = true then
    if (decide (i1 < (l2.length : Int))) = true then
    if (decide (((rdOf ((⟨#[]⟩ : ByteArray), ((0 : Int), ((0 : Int), (false, ((0 : Int), ((0 : Int), ((0 : Int), ((0 : Int), ((0 : Int), (0 : Int)))))))))) l2 i1).1).toList = s3.toList)) = true then
      some (l2, ())
    else
      if (!b0) = true then
        if (decide (0 ≤ i1)) = true then
        if (decide (i1 < (l2.length : Int))) = true then
        if (!(Op.bytesLess ((rdOf ((⟨#[]⟩ : ByteArray), ((0 : Int), ((0 : Int), (false, ((0 : Int), ((0 : Int), ((0 : Int), ((0 : Int), ((0 : Int), (0 : Int)))))))))) l2 i1).1).toList s3.toList || decide (((rdOf ((⟨#[]⟩ : ByteArray), ((0 : Int), ((0 : Int), (false, ((0 : Int), ((0 : Int), ((0 : Int), ((0 : Int), ((0 : Int), (0 : Int)))))))))) l2 i1).1).toList = s3.toList))) = true then
          if (decide ((l13.length + ([(s3, (i4, (i5, (b6, (i7, (i8, (i9, (i10, (i11, i12)))))))))] : List (ByteArray × (Int × (Int × (Bool × (Int × (Int × (Int × (Int × (Int × Int)))))))))).length) * 88 ≤ 140737488355328)) = true then
          if (decide (0 ≤ i1)) = true then
          if (decide (i1 < (l2.length : Int))) = true then
          if (decide (((l13 ++ ([(s3, (i4, (i5, (b6, (i7, (i8, (i9, (i10, (i11, i12)))))))))] : List (ByteArray × (Int × (Int × (Bool × (Int × (Int × (Int × (Int × (Int × Int))))))))))).length + ([((rdOf ((⟨#[]⟩ : ByteArray), ((0 : Int), ((0 : Int), (false, ((0 : Int), ((0 : Int), ((0 : Int), ((0 : Int), ((0 : Int), (0 : Int)))))))))) l2 i1).1, (((rdOf ((⟨#[]⟩ : ByteArray), ((0 : Int), ((0 : Int), (false, ((0 : Int), ((0 : Int), ((0 : Int), ((0 : Int), ((0 : Int), (0 : Int)))))))))) l2 i1).2).1, ((((rdOf ((⟨#[]⟩ : ByteArray), ((0 : Int), ((0 : Int), (false, ((0 : Int), ((0 : Int), ((0 : Int), ((0 : Int), ((0 : Int), (0 : Int)))))))))) l2 i1).2).2).1, (((((rdOf ((⟨#[]⟩ : ByteArray), ((0 : Int), ((0 : Int), (false, ((0 : Int), ((0 : Int), ((0 : Int), ((0 : Int), ((0 : Int), (0 : Int)))))))))) l2 i1).2).2).2).1, ((((((rdOf ((⟨#[]⟩ : ByteArray), ((0 : Int), ((0 : Int), (false, ((0 : Int), ((0 : Int), ((0 : Int), ((0 : Int), ((0 : Int), (0 : Int)))))))))) l2 i1).2).2).2).2).1, (((((((rdOf ((⟨#[]⟩ : ByteArray), ((0 : Int), ((0 : Int), (false, ((0 : Int), ((0 : Int), ((0 : Int), ((0 : Int), ((0 : Int), (0 : Int)))))))))) l2 i1).2).2).2).2).2).1, ((((((((rdOf ((⟨#[]⟩ : ByteArray), ((0 : Int), ((0 : Int), (false, ((0 : Int), ((0 : Int), ((0 : Int), ((0 : Int), ((0 : Int), (0 : Int)))))))))) l2 i1).2).2).2).2).2).2).1, (((((((((rdOf ((⟨#[]⟩ : ByteArray), ((0 : Int), ((0 : Int), (false, ((0 : Int), ((0 : Int), ((0 : Int), ((0 : Int), ((0 : Int), (0 : Int)))))))))) l2 i1).2).2).2).2).2).2).2).1, ((((((((((rdOf ((⟨#[]⟩ : ByteArray), ((0 : Int), ((0 : Int), (false, ((0 : Int), ((0 : Int), ((0 : Int), ((0 : Int), ((0 : Int), (0 : Int)))))))))) l2 i1).2).2).2).2).2).2).2).2).1, (((((((((rdOf ((⟨#[]⟩ : ByteArray), ((0 : Int), ((0 : Int), (false, ((0 : Int), ((0 : Int), ((0 : Int), ((0 : Int), ((0 : Int), (0 : Int)))))))))) l2 i1).2).2).2).2).2).2).2).2).2)))))))))] : List (ByteArray × (Int × (Int × (Bool × (Int × (Int × (Int × (Int × (Int × Int)))))))))).length) * 88 ≤ 140737488355328)) = true then
          g0 true (wrap64 (i1 + 1)) l2 s3 i4 i5 b6 i7 i8 i9 i10 i11 i12 ((l13 ++ ([(s3, (i4, (i5, (b6, (i7, (i8, (i9, (i10, (i11, i12)))))))))] : List (ByteArray × (Int × (Int × (Bool × (Int × (Int × (Int × (Int × (Int × Int))))))))))) ++ ([((rdOf ((⟨#[]⟩ : ByteArray), ((0 : Int), ((0 : Int), (false, ((0 : Int), ((0 : Int), ((0 : Int), ((0 : Int), ((0 : Int), (0 : Int)))))))))) l2 i1).1, (((rdOf ((⟨#[]⟩ : ByteArray), ((0 : Int), ((0 : Int), (false, ((0 : Int), ((0 : Int), ((0 : Int), ((0 : Int), ((0 : Int), (0 : Int)))))))))) l2 i1).2).1, ((((rdOf ((⟨#[]⟩ : ByteArray), ((0 : Int), ((0 : Int), (false, ((0 : Int), ((0 : Int), ((0 : Int), ((0 : Int), ((0 : Int), (0 : Int)))))))))) l2 i1).2).2).1, (((((rdOf ((⟨#[]⟩ : ByteArray), ((0 : Int), ((0 : Int), (false, ((0 : Int), ((0 : Int), ((0 : Int), ((0 : Int), ((0 : Int), (0 : Int)))))))))) l2 i1).2).2).2).1, ((((((rdOf ((⟨#[]⟩ : ByteArray), ((0 : Int), ((0 : Int), (false, ((0 : Int), ((0 : Int), ((0 : Int), ((0 : Int), ((0 : Int), (0 : Int)))))))))) l2 i1).2).2).2).2).1, (((((((rdOf ((⟨#[]⟩ : ByteArray), ((0 : Int), ((0 : Int), (false, ((0 : Int), ((0 : Int), ((0 : Int), ((0 : Int), ((0 : Int), (0 : Int)))))))))) l2 i1).2).2).2).2).2).1, ((((((((rdOf ((⟨#[]⟩ : ByteArray), ((0 : Int), ((0 : Int), (false, ((0 : Int), ((0 : Int), ((0 : Int), ((0 : Int), ((0 : Int), (0 : Int)))))))))) l2 i1).2).2).2).2).2).2).1, (((((((((rdOf ((⟨#[]⟩ : ByteArray), ((0 : Int), ((0 : Int), (false, ((0 : Int), ((0 : Int), ((0 : Int), ((0 : Int), ((0 : Int), (0 : Int)))))))))) l2 i1).2).2).2).2).2).2).2).1, ((((((((((rdOf ((⟨#[]⟩ : ByteArray), ((0 : Int), ((0 : Int), (false, ((0 : Int), ((0 : Int), ((0 : Int), ((0 : Int), ((0 : Int), (0 : Int)))))))))) l2 i1).2).2).2).2).2).2).2).2).1, (((((((((rdOf ((⟨#[]⟩ : ByteArray), ((0 : Int), ((0 : Int), (false, ((0 : Int), ((0 : Int), ((0 : Int), ((0 : Int), ((0 : Int), (0 : Int)))))))))) l2 i1).2).2).2).2).2).2).2).2).2)))))))))] : List (ByteArray × (Int × (Int × (Bool × (Int × (Int × (Int × (Int × (Int × Int)))))))))))
          else none
          else none
          else none
          else none
        else
          j47_0 n g0 b0 i1 l2 s3 i4 i5 b6 i7 i8 i9 i10 i11 i12 l13
        else none
        else none
      else
        j47_0 n g0 b0 i1 l2 s3 i4 i5 b6 i7 i8 i9 i10 i11 i12 l13
    else none
    else none
  else
    if (!b0) = true then
      if (decide ((l13.length + ([(s3, (i4, (i5, (b6, (i7, (i8, (i9, (i10, (i11, i12)))))))))] : List (ByteArray × (Int × (Int × (Bool × (Int × (Int × (Int × (Int × (Int × Int)))))))))).length) * 88 ≤ 140737488355328)) = true then
      some ((l13 ++ ([(s3, (i4, (i5, (b6, (i7, (i8, (i9, (i10, (i11, i12)))))))))] : List (ByteArray × (Int × (Int × (Bool × (Int × (Int × (Int × (Int × (Int × Int))))))))))), ())
      else none
    else
      some (l13, ())
noncomputable def lp47_0 (n : Nat) : Nat → Bool → Int → (List (ByteArray × (Int × (Int × (Bool × (Int × (Int × (Int × (Int × (Int × Int)))))))))) → ByteArray → Int → Int → Bool → Int → Int → Int → Int → Int → Int → (List (ByteArray × (Int × (Int × (Bool × (Int × (Int × (Int × (Int × (Int × Int)))))))))) → Option (List (ByteArray × (Int × (Int × (Bool × (Int × (Int × (Int × (Int × (Int × Int))))))))) × Unit)
  | 0 => fun _ _ _ _ _ _ _ _ _ _ _ _ _ _ => none
  | k + 1 => st47_0 n (lp47_0 n k)
noncomputable def st47 (n : Nat) (h0 : Bool → Int → (List (ByteArray × (Int × (Int × (Bool × (Int × (Int × (Int × (Int × (Int × Int)))))))))) → ByteArray → Int → Int → Bool → Int → Int → Int → Int → Int → Int → (List (ByteArray × (Int × (Int × (Bool × (Int × (Int × (Int × (Int × (Int × Int)))))))))) → Option (List (ByteArray × (Int × (Int × (Bool × (Int × (Int × (Int × (Int × (Int × Int))))))))) × Unit)) (a0 : List (ByteArray × (Int × (Int × (Bool × (Int × (Int × (Int × (Int × (Int × Int)))))))))) (a1 : ByteArray) (a2 : Int) (a3 : Int) (a4 : Bool) (a5 : Int) (a6 : Int) (a7 : Int) (a8 : Int) (a9 : Int) (a10 : Int) : Option (List (ByteArray × (Int × (Int × (Bool × (Int × (Int × (Int × (Int × (Int × Int))))))))) × Unit) :=
  h0 false (0 : Int) a0 a1 a2 a3 a4 a5 a6 a7 a8 a9 a10 ([] : List (ByteArray × (Int × (Int × (Bool × (Int × (Int × (Int × (Int × (Int × Int))))))))))
noncomputable def F47 (n : Nat) (a0 : List (ByteArray × (Int × (Int × (Bool × (Int × (Int × (Int × (Int × (Int × Int)))))))))) (a1 : ByteArray) (a2 : Int) (a3 : Int) (a4 : Bool) (a5 : Int) (a6 : Int) (a7 : Int) (a8 : Int) (a9 : Int) (a10 : Int) : Option (List (ByteArray × (Int × (Int × (Bool × (Int × (Int × (Int × (Int × (Int × Int))))))))) × Unit) := st47 n (lp47_0 n n) a0 a1 a2 a3 a4 a5 a6 a7 a8 a9 a10
noncomputable def c47 (n : Nat) : Con := ⟨[.one (.sl .own 49 (.pair .str (.pair (.int .i64) (.pair (.int .i64) (.pair .bool (.pair (.int .i64) (.pair (.int .i64) (.pair (.int .i64) (.pair (.int .i64) (.pair (.int .i64) (.int .i64))))))))))), .agg [(.str), (.int .i64), (.int .i64), (.bool), (.int .i64), (.int .i64), (.int .i64), (.int .i64), (.int .i64), (.int .i64)]], [], [.one (.sl .own 49 (.pair .str (.pair (.int .i64) (.pair (.int .i64) (.pair .bool (.pair (.int .i64) (.pair (.int .i64) (.pair (.int .i64) (.pair (.int .i64) (.pair (.int .i64) (.int .i64)))))))))))], [], fun (x : List (ByteArray × (Int × (Int × (Bool × (Int × (Int × (Int × (Int × (Int × Int))))))))) × ByteArray × Int × Int × Bool × Int × Int × Int × Int × Int × Int × Unit) => F47 n x.1 x.2.1 x.2.2.1 x.2.2.2.1 x.2.2.2.2.1 x.2.2.2.2.2.1 x.2.2.2.2.2.2.1 x.2.2.2.2.2.2.2.1 x.2.2.2.2.2.2.2.2.1 x.2.2.2.2.2.2.2.2.2.1 x.2.2.2.2.2.2.2.2.2.2.1⟩
noncomputable def G47 (n : Nat) : Gam := []
noncomputable def S47_0 (b0 : Bool) (i1 : Int) (l2 : List (ByteArray × (Int × (Int × (Bool × (Int × (Int × (Int × (Int × (Int × Int)))))))))) (s3 : ByteArray) (i4 : Int) (i5 : Int) (b6 : Bool) (i7 : Int) (i8 : Int) (i9 : Int) (i10 : Int) (i11 : Int) (i12 : Int) (l13 : List (ByteArray × (Int × (Int × (Bool × (Int × (Int × (Int × (Int × (Int × Int)))))))))) : St := ⟨[.sr 0 0 none 0 0 none, .dead, .dead, .ptr 3 0, .dead, .sr 5 0 none 0 0 none, .bool b0, .int .i64 i1] ++ List.replicate 46 .dead, [⟨false, [.sl .own 49 (.pair .str (.pair (.int .i64) (.pair (.int .i64) (.pair .bool (.pair (.int .i64) (.pair (.int .i64) (.pair (.int .i64) (.pair (.int .i64) (.pair (.int .i64) (.int .i64)))))))))) l2], 0, 0⟩, Ob.none, Ob.none, ⟨true, [.str s3, .int .i64 i4, .int .i64 i5, .bool b6, .int .i64 i7, .int .i64 i8, .int .i64 i9, .int .i64 i10, .int .i64 i11, .int .i64 i12], 0, 0⟩, Ob.none, ⟨false, [.sl .own 49 (.pair .str (.pair (.int .i64) (.pair (.int .i64) (.pair .bool (.pair (.int .i64) (.pair (.int .i64) (.pair (.int .i64) (.pair (.int .i64) (.pair (.int .i64) (.int .i64)))))))))) l13], 0, 0⟩] ++ List.replicate 48 Ob.none⟩
noncomputable def ga47_0 (n : Nat) (ks : List Nat) (k : Nat) (st : St) : Option (List (ByteArray × (Int × (Int × (Bool × (Int × (Int × (Int × (Int × (Int × Int))))))))) × Unit) := goAt tab (G47 n) n (bodyOf Try.f47) (lvOf Try.f47) (lvOf Try.f47).ret [1, 1, 1, 0, 1, 0] ks k st (evBody.endK tab (c47 n) Try.f47)
theorem el47_0 (n : Nat) : ∀ (k : Nat), ∀ (b0 : Bool) (i1 : Int) (l2 : List (ByteArray × (Int × (Int × (Bool × (Int × (Int × (Int × (Int × (Int × Int)))))))))) (s3 : ByteArray) (i4 : Int) (i5 : Int) (b6 : Bool) (i7 : Int) (i8 : Int) (i9 : Int) (i10 : Int) (i11 : Int) (i12 : Int) (l13 : List (ByteArray × (Int × (Int × (Bool × (Int × (Int × (Int × (Int × (Int × Int)))))))))), ga47_0 n [] k (S47_0 b0 i1 l2 s3 i4 i5 b6 i7 i8 i9 i10 i11 i12 l13) = lp47_0 n k b0 i1 l2 s3 i4 i5 b6 i7 i8 i9 i10 i11 i12 l13 := by
  intro k
  induction k with
  | zero => intros; rfl
  | succ k ih =>
    intro b0 i1 l2 s3 i4 i5 b6 i7 i8 i9 i10 i11 i12 l13
    have h : ga47_0 n [] (k + 1) (S47_0 b0 i1 l2 s3 i4 i5 b6 i7 i8 i9 i10 i11 i12 l13) = st47_0 n (fun w0 w1 w2 w3 w4 w5 w6 w7 w8 w9 w10 w11 w12 w13 => ga47_0 n [] k (S47_0 w0 w1 w2 w3 w4 w5 w6 w7 w8 w9 w10 w11 w12 w13)) b0 i1 l2 s3 i4 i5 b6 i7 i8 i9 i10 i11 i12 l13 := by kernel_rfl
    rw [h]
    have e : (fun w0 w1 w2 w3 w4 w5 w6 w7 w8 w9 w10 w11 w12 w13 => ga47_0 n [] k (S47_0 w0 w1 w2 w3 w4 w5 w6 w7 w8 w9 w10 w11 w12 w13)) = lp47_0 n k := by
      funext w0 w1 w2 w3 w4 w5 w6 w7 w8 w9 w10 w11 w12 w13; exact ih w0 w1 w2 w3 w4 w5 w6 w7 w8 w9 w10 w11 w12 w13
    rw [e]
    rfl
theorem e47 (n : Nat) (x : List (ByteArray × (Int × (Int × (Bool × (Int × (Int × (Int × (Int × (Int × Int))))))))) × ByteArray × Int × Int × Bool × Int × Int × Int × Int × Int × Int × Unit) : evBody tab (G47 n) n (c47 n) Try.f47 x = F47 n x.1 x.2.1 x.2.2.1 x.2.2.2.1 x.2.2.2.2.1 x.2.2.2.2.2.1 x.2.2.2.2.2.2.1 x.2.2.2.2.2.2.2.1 x.2.2.2.2.2.2.2.2.1 x.2.2.2.2.2.2.2.2.2.1 x.2.2.2.2.2.2.2.2.2.2.1 := by
  have h : evBody tab (G47 n) n (c47 n) Try.f47 x = st47 n (fun w0 w1 w2 w3 w4 w5 w6 w7 w8 w9 w10 w11 w12 w13 => ga47_0 n [] n (S47_0 w0 w1 w2 w3 w4 w5 w6 w7 w8 w9 w10 w11 w12 w13)) x.1 x.2.1 x.2.2.1 x.2.2.2.1 x.2.2.2.2.1 x.2.2.2.2.2.1 x.2.2.2.2.2.2.1 x.2.2.2.2.2.2.2.1 x.2.2.2.2.2.2.2.2.1 x.2.2.2.2.2.2.2.2.2.1 x.2.2.2.2.2.2.2.2.2.2.1 := by kernel_rfl
  rw [h]
  have e0 : (fun w0 w1 w2 w3 w4 w5 w6 w7 w8 w9 w10 w11 w12 w13 => ga47_0 n [] n (S47_0 w0 w1 w2 w3 w4 w5 w6 w7 w8 w9 w10 w11 w12 w13)) = lp47_0 n n := by
    funext w0 w1 w2 w3 w4 w5 w6 w7 w8 w9 w10 w11 w12 w13; exact el47_0 n n w0 w1 w2 w3 w4 w5 w6 w7 w8 w9 w10 w11 w12 w13
  rw [e0]
  rfl
theorem g47 (W : World) (n : Nat) : Good Try.prog W 47 (c47 n) := body_good follows tabOk GamOk.nil (f := 47) (fn := Try.f47) (c := bodyOf Try.f47) (by kernel_rfl) (by kernel_rfl) (by kernel_rfl) (by kernel_rfl) (by kernel_rfl) (by kernel_rfl) (by kernel_rfl) (fun x r h => ⟨n, (e47 n x).trans h⟩)
/-! spec.MergeReport -/
noncomputable def st38_1 (n : Nat) (g0 : (List (ByteArray × (Int × (Int × (Bool × (Int × (Int × (Int × (Int × (Int × Int)))))))))) → Int → (List (ByteArray × (Int × (Int × (Bool × (Int × (Int × (Int × (Int × (Int × Int)))))))))) → Option (List (ByteArray × (Int × (Int × (Bool × (Int × (Int × (Int × (Int × (Int × Int))))))))) × Unit)) (g1 : (List (ByteArray × (Int × (Int × (Bool × (Int × (Int × (Int × (Int × (Int × Int)))))))))) → Int → Bool → Int → (List (ByteArray × (Int × (Int × (Bool × (Int × (Int × (Int × (Int × (Int × Int)))))))))) → Option (List (ByteArray × (Int × (Int × (Bool × (Int × (Int × (Int × (Int × (Int × Int))))))))) × Unit)) (l0 : List (ByteArray × (Int × (Int × (Bool × (Int × (Int × (Int × (Int × (Int × Int)))))))))) (i1 : Int) (b2 : Bool) (i3 : Int) (l4 : List (ByteArray × (Int × (Int × (Bool × (Int × (Int × (Int × (Int × (Int × Int)))))))))) : Option (List (ByteArray × (Int × (Int × (Bool × (Int × (Int × (Int × (Int × (Int × Int))))))))) × Unit) :=
  if (decide (i3 < (l4.length : Int))) = true then
    if (!b2) = true then
      if (decide (0 ≤ i3)) = true then
      if (decide (i3 < (l4.length : Int))) = true then
      if (decide (0 ≤ i1)) = true then
      if (decide (i1 < (l0.length : Int))) = true then
      if (decide (((rdOf ((⟨#[]⟩ : ByteArray), ((0 : Int), ((0 : Int), (false, ((0 : Int), ((0 : Int), ((0 : Int), ((0 : Int), ((0 : Int), (0 : Int)))))))))) l4 i3).1).toList = ((rdOf ((⟨#[]⟩ : ByteArray), ((0 : Int), ((0 : Int), (false, ((0 : Int), ((0 : Int), ((0 : Int), ((0 : Int), ((0 : Int), (0 : Int)))))))))) l0 i1).1).toList)) = true then
        if (decide (0 ≤ i3)) = true then
        if (decide (i3 < (l4.length : Int))) = true then
        if (decide (0 ≤ i1)) = true then
        if (decide (i1 < (l0.length : Int))) = true then
        (F46 n ((rdOf ((⟨#[]⟩ : ByteArray), ((0 : Int), ((0 : Int), (false, ((0 : Int), ((0 : Int), ((0 : Int), ((0 : Int), ((0 : Int), (0 : Int)))))))))) l4 i3).1) (((rdOf ((⟨#[]⟩ : ByteArray), ((0 : Int), ((0 : Int), (false, ((0 : Int), ((0 : Int), ((0 : Int), ((0 : Int), ((0 : Int), (0 : Int)))))))))) l4 i3).2).1) ((((rdOf ((⟨#[]⟩ : ByteArray), ((0 : Int), ((0 : Int), (false, ((0 : Int), ((0 : Int), ((0 : Int), ((0 : Int), ((0 : Int), (0 : Int)))))))))) l4 i3).2).2).1) (((((rdOf ((⟨#[]⟩ : ByteArray), ((0 : Int), ((0 : Int), (false, ((0 : Int), ((0 : Int), ((0 : Int), ((0 : Int), ((0 : Int), (0 : Int)))))))))) l4 i3).2).2).2).1) ((((((rdOf ((⟨#[]⟩ : ByteArray), ((0 : Int), ((0 : Int), (false, ((0 : Int), ((0 : Int), ((0 : Int), ((0 : Int), ((0 : Int), (0 : Int)))))))))) l4 i3).2).2).2).2).1) (((((((rdOf ((⟨#[]⟩ : ByteArray), ((0 : Int), ((0 : Int), (false, ((0 : Int), ((0 : Int), ((0 : Int), ((0 : Int), ((0 : Int), (0 : Int)))))))))) l4 i3).2).2).2).2).2).1) ((((((((rdOf ((⟨#[]⟩ : ByteArray), ((0 : Int), ((0 : Int), (false, ((0 : Int), ((0 : Int), ((0 : Int), ((0 : Int), ((0 : Int), (0 : Int)))))))))) l4 i3).2).2).2).2).2).2).1) (((((((((rdOf ((⟨#[]⟩ : ByteArray), ((0 : Int), ((0 : Int), (false, ((0 : Int), ((0 : Int), ((0 : Int), ((0 : Int), ((0 : Int), (0 : Int)))))))))) l4 i3).2).2).2).2).2).2).2).1) ((((((((((rdOf ((⟨#[]⟩ : ByteArray), ((0 : Int), ((0 : Int), (false, ((0 : Int), ((0 : Int), ((0 : Int), ((0 : Int), ((0 : Int), (0 : Int)))))))))) l4 i3).2).2).2).2).2).2).2).2).1) ((((((((((rdOf ((⟨#[]⟩ : ByteArray), ((0 : Int), ((0 : Int), (false, ((0 : Int), ((0 : Int), ((0 : Int), ((0 : Int), ((0 : Int), (0 : Int)))))))))) l4 i3).2).2).2).2).2).2).2).2).2) ((rdOf ((⟨#[]⟩ : ByteArray), ((0 : Int), ((0 : Int), (false, ((0 : Int), ((0 : Int), ((0 : Int), ((0 : Int), ((0 : Int), (0 : Int)))))))))) l0 i1).1) (((rdOf ((⟨#[]⟩ : ByteArray), ((0 : Int), ((0 : Int), (false, ((0 : Int), ((0 : Int), ((0 : Int), ((0 : Int), ((0 : Int), (0 : Int)))))))))) l0 i1).2).1) ((((rdOf ((⟨#[]⟩ : ByteArray), ((0 : Int), ((0 : Int), (false, ((0 : Int), ((0 : Int), ((0 : Int), ((0 : Int), ((0 : Int), (0 : Int)))))))))) l0 i1).2).2).1) (((((rdOf ((⟨#[]⟩ : ByteArray), ((0 : Int), ((0 : Int), (false, ((0 : Int), ((0 : Int), ((0 : Int), ((0 : Int), ((0 : Int), (0 : Int)))))))))) l0 i1).2).2).2).1) ((((((rdOf ((⟨#[]⟩ : ByteArray), ((0 : Int), ((0 : Int), (false, ((0 : Int), ((0 : Int), ((0 : Int), ((0 : Int), ((0 : Int), (0 : Int)))))))))) l0 i1).2).2).2).2).1) (((((((rdOf ((⟨#[]⟩ : ByteArray), ((0 : Int), ((0 : Int), (false, ((0 : Int), ((0 : Int), ((0 : Int), ((0 : Int), ((0 : Int), (0 : Int)))))))))) l0 i1).2).2).2).2).2).1) ((((((((rdOf ((⟨#[]⟩ : ByteArray), ((0 : Int), ((0 : Int), (false, ((0 : Int), ((0 : Int), ((0 : Int), ((0 : Int), ((0 : Int), (0 : Int)))))))))) l0 i1).2).2).2).2).2).2).1) (((((((((rdOf ((⟨#[]⟩ : ByteArray), ((0 : Int), ((0 : Int), (false, ((0 : Int), ((0 : Int), ((0 : Int), ((0 : Int), ((0 : Int), (0 : Int)))))))))) l0 i1).2).2).2).2).2).2).2).1) ((((((((((rdOf ((⟨#[]⟩ : ByteArray), ((0 : Int), ((0 : Int), (false, ((0 : Int), ((0 : Int), ((0 : Int), ((0 : Int), ((0 : Int), (0 : Int)))))))))) l0 i1).2).2).2).2).2).2).2).2).1) ((((((((((rdOf ((⟨#[]⟩ : ByteArray), ((0 : Int), ((0 : Int), (false, ((0 : Int), ((0 : Int), ((0 : Int), ((0 : Int), ((0 : Int), (0 : Int)))))))))) l0 i1).2).2).2).2).2).2).2).2).2)).bind fun r1 =>
        if (decide (0 ≤ i3)) = true then
        if (decide (i3 < (l4.length : Int))) = true then
        g1 l0 i1 true (wrap64 (i3 + 1)) (l4.set i3.toNat (r1.1, (r1.2.1, (r1.2.2.1, (r1.2.2.2.1, (r1.2.2.2.2.1, (r1.2.2.2.2.2.1, (r1.2.2.2.2.2.2.1, (r1.2.2.2.2.2.2.2.1, (r1.2.2.2.2.2.2.2.2.1, r1.2.2.2.2.2.2.2.2.2.1))))))))))
        else none
        else none
        else none
        else none
        else none
        else none
      else
        g1 l0 i1 b2 (wrap64 (i3 + 1)) l4
      else none
      else none
      else none
      else none
    else
      if (!b2) = true then
        if (decide (0 ≤ i1)) = true then
        if (decide (i1 < (l0.length : Int))) = true then
        (F47 n l4 ((rdOf ((⟨#[]⟩ : ByteArray), ((0 : Int), ((0 : Int), (false, ((0 : Int), ((0 : Int), ((0 : Int), ((0 : Int), ((0 : Int), (0 : Int)))))))))) l0 i1).1) (((rdOf ((⟨#[]⟩ : ByteArray), ((0 : Int), ((0 : Int), (false, ((0 : Int), ((0 : Int), ((0 : Int), ((0 : Int), ((0 : Int), (0 : Int)))))))))) l0 i1).2).1) ((((rdOf ((⟨#[]⟩ : ByteArray), ((0 : Int), ((0 : Int), (false, ((0 : Int), ((0 : Int), ((0 : Int), ((0 : Int), ((0 : Int), (0 : Int)))))))))) l0 i1).2).2).1) (((((rdOf ((⟨#[]⟩ : ByteArray), ((0 : Int), ((0 : Int), (false, ((0 : Int), ((0 : Int), ((0 : Int), ((0 : Int), ((0 : Int), (0 : Int)))))))))) l0 i1).2).2).2).1) ((((((rdOf ((⟨#[]⟩ : ByteArray), ((0 : Int), ((0 : Int), (false, ((0 : Int), ((0 : Int), ((0 : Int), ((0 : Int), ((0 : Int), (0 : Int)))))))))) l0 i1).2).2).2).2).1) (((((((rdOf ((⟨#[]⟩ : ByteArray), ((0 : Int), ((0 : Int), (false, ((0 : Int), ((0 : Int), ((0 : Int), ((0 : Int), ((0 : Int), (0 : Int)))))))))) l0 i1).2).2).2).2).2).1) ((((((((rdOf ((⟨#[]⟩ : ByteArray), ((0 : Int), ((0 : Int), (false, ((0 : Int), ((0 : Int), ((0 : Int), ((0 : Int), ((0 : Int), (0 : Int)))))))))) l0 i1).2).2).2).2).2).2).1) (((((((((rdOf ((⟨#[]⟩ : ByteArray), ((0 : Int), ((0 : Int), (false, ((0 : Int), ((0 : Int), ((0 : Int), ((0 : Int), ((0 : Int), (0 : Int)))))))))) l0 i1).2).2).2).2).2).2).2).1) ((((((((((rdOf ((⟨#[]⟩ : ByteArray), ((0 : Int), ((0 : Int), (false, ((0 : Int), ((0 : Int), ((0 : Int), ((0 : Int), ((0 : Int), (0 : Int)))))))))) l0 i1).2).2).2).2).2).2).2).2).1) ((((((((((rdOf ((⟨#[]⟩ : ByteArray), ((0 : Int), ((0 : Int), (false, ((0 : Int), ((0 : Int), ((0 : Int), ((0 : Int), ((0 : Int), (0 : Int)))))))))) l0 i1).2).2).2).2).2).2).2).2).2)).bind fun r2 =>
        g0 l0 (wrap64 (i1 + 1)) r2.1
        else none
        else none
      else
        g0 l0 (wrap64 (i1 + 1)) l4
  else
    if (!b2) = true then
      if (decide (0 ≤ i1)) = true then
      if (decide (i1 < (l0.length : Int))) = true then
      (F47 n l4 ((rdOf ((⟨#[]⟩ : ByteArray), ((0 : Int), ((0 : Int), (false, ((0 : Int), ((0 : Int), ((0 : Int), ((0 : Int), ((0 : Int), (0 : Int)))))))))) l0 i1).1) (((rdOf ((⟨#[]⟩ : ByteArray), ((0 : Int), ((0 : Int), (false, ((0 : Int), ((0 : Int), ((0 : Int), ((0 : Int), ((0 : Int), (0 : Int)))))))))) l0 i1).2).1) ((((rdOf ((⟨#[]⟩ : ByteArray), ((0 : Int), ((0 : Int), (false, ((0 : Int), ((0 : Int), ((0 : Int), ((0 : Int), ((0 : Int), (0 : Int)))))))))) l0 i1).2).2).1) (((((rdOf ((⟨#[]⟩ : ByteArray), ((0 : Int), ((0 : Int), (false, ((0 : Int), ((0 : Int), ((0 : Int), ((0 : Int), ((0 : Int), (0 : Int)))))))))) l0 i1).2).2).2).1) ((((((rdOf ((⟨#[]⟩ : ByteArray), ((0 : Int), ((0 : Int), (false, ((0 : Int), ((0 : Int), ((0 : Int), ((0 : Int), ((0 : Int), (0 : Int)))))))))) l0 i1).2).2).2).2).1) (((((((rdOf ((⟨#[]⟩ : ByteArray), ((0 : Int), ((0 : Int), (false, ((0 : Int), ((0 : Int), ((0 : Int), ((0 : Int), ((0 : Int), (0 : Int)))))))))) l0 i1).2).2).2).2).2).1) ((((((((rdOf ((⟨#[]⟩ : ByteArray), ((0 : Int), ((0 : Int), (false, ((0 : Int), ((0 : Int), ((0 : Int), ((0 : Int), ((0 : Int), (0 : Int)))))))))) l0 i1).2).2).2).2).2).2).1) (((((((((rdOf ((⟨#[]⟩ : ByteArray), ((0 : Int), ((0 : Int), (false, ((0 : Int), ((0 : Int), ((0 : Int), ((0 : Int), ((0 : Int), (0 : Int)))))))))) l0 i1).2).2).2).2).2).2).2).1) ((((((((((rdOf ((⟨#[]⟩ : ByteArray), ((0 : Int), ((0 : Int), (false, ((0 : Int), ((0 : Int), ((0 : Int), ((0 : Int), ((0 : Int), (0 : Int)))))))))) l0 i1).2).2).2).2).2).2).2).2).1) ((((((((((rdOf ((⟨#[]⟩ : ByteArray), ((0 : Int), ((0 : Int), (false, ((0 : Int), ((0 : Int), ((0 : Int), ((0 : Int), ((0 : Int), (0 : Int)))))))))) l0 i1).2).2).2).2).2).2).2).2).2)).bind fun r3 =>
      g0 l0 (wrap64 (i1 + 1)) r3.1
      else none
      else none
    else
      g0 l0 (wrap64 (i1 + 1)) l4
noncomputable def lp38_1 (n : Nat) (g0 : (List (ByteArray × (Int × (Int × (Bool × (Int × (Int × (Int × (Int × (Int × Int)))))))))) → Int → (List (ByteArray × (Int × (Int × (Bool × (Int × (Int × (Int × (Int × (Int × Int)))))))))) → Option (List (ByteArray × (Int × (Int × (Bool × (Int × (Int × (Int × (Int × (Int × Int))))))))) × Unit)) : Nat → (List (ByteArray × (Int × (Int × (Bool × (Int × (Int × (Int × (Int × (Int × Int)))))))))) → Int → Bool → Int → (List (ByteArray × (Int × (Int × (Bool × (Int × (Int × (Int × (Int × (Int × Int)))))))))) → Option (List (ByteArray × (Int × (Int × (Bool × (Int × (Int × (Int × (Int × (Int × Int))))))))) × Unit)
  | 0 => fun _ _ _ _ _ => none
  | k + 1 => st38_1 n g0 (lp38_1 n g0 k)
noncomputable def st38_0 (n : Nat) (h1 : (List (ByteArray × (Int × (Int × (Bool × (Int × (Int × (Int × (Int × (Int × Int)))))))))) → Int → Bool → Int → (List (ByteArray × (Int × (Int × (Bool × (Int × (Int × (Int × (Int × (Int × Int)))))))))) → Option (List (ByteArray × (Int × (Int × (Bool × (Int × (Int × (Int × (Int × (Int × Int))))))))) × Unit)) (g0 : (List (ByteArray × (Int × (Int × (Bool × (Int × (Int × (Int × (Int × (Int × Int)))))))))) → Int → (List (ByteArray × (Int × (Int × (Bool × (Int × (Int × (Int × (Int × (Int × Int)))))))))) → Option (List (ByteArray × (Int × (Int × (Bool × (Int × (Int × (Int × (Int × (Int × Int))))))))) × Unit)) (l0 : List (ByteArray × (Int × (Int × (Bool × (Int × (Int × (Int × (Int × (Int × Int)))))))))) (i1 : Int) (l2 : List (ByteArray × (Int × (Int × (Bool × (Int × (Int × (Int × (Int × (Int × Int)))))))))) : Option (List (ByteArray × (Int × (Int × (Bool × (Int × (Int × (Int × (Int × (Int × Int))))))))) × Unit) :=
  if (decide (i1 < (l0.length : Int))) = true then
    h1 l0 i1 false (0 : Int) l2
  else
    some (l2, ())
noncomputable def lp38_0 (n : Nat) : Nat → (List (ByteArray × (Int × (Int × (Bool × (Int × (Int × (Int × (Int × (Int × Int)))))))))) → Int → (List (ByteArray × (Int × (Int × (Bool × (Int × (Int × (Int × (Int × (Int × Int)))))))))) → Option (List (ByteArray × (Int × (Int × (Bool × (Int × (Int × (Int × (Int × (Int × Int))))))))) × Unit)
  | 0 => fun _ _ _ => none
  | k + 1 => st38_0 n (lp38_1 n (lp38_0 n k) n) (lp38_0 n k)
noncomputable def st38 (n : Nat) (h0 : (List (ByteArray × (Int × (Int × (Bool × (Int × (Int × (Int × (Int × (Int × Int)))))))))) → Int → (List (ByteArray × (Int × (Int × (Bool × (Int × (Int × (Int × (Int × (Int × Int)))))))))) → Option (List (ByteArray × (Int × (Int × (Bool × (Int × (Int × (Int × (Int × (Int × Int))))))))) × Unit)) (a0 : List (ByteArray × (Int × (Int × (Bool × (Int × (Int × (Int × (Int × (Int × Int)))))))))) (a1 : List (ByteArray × (Int × (Int × (Bool × (Int × (Int × (Int × (Int × (Int × Int)))))))))) : Option (List (ByteArray × (Int × (Int × (Bool × (Int × (Int × (Int × (Int × (Int × Int))))))))) × Unit) :=
  if (decide ((([] : List (ByteArray × (Int × (Int × (Bool × (Int × (Int × (Int × (Int × (Int × Int)))))))))).length + a0.length) * 88 ≤ 140737488355328)) = true then
  h0 a1 (0 : Int) (([] : List (ByteArray × (Int × (Int × (Bool × (Int × (Int × (Int × (Int × (Int × Int)))))))))) ++ a0)
  else none
noncomputable def F38 (n : Nat) (a0 : List (ByteArray × (Int × (Int × (Bool × (Int × (Int × (Int × (Int × (Int × Int)))))))))) (a1 : List (ByteArray × (Int × (Int × (Bool × (Int × (Int × (Int × (Int × (Int × Int)))))))))) : Option (List (ByteArray × (Int × (Int × (Bool × (Int × (Int × (Int × (Int × (Int × Int))))))))) × Unit) := st38 n (lp38_0 n n) a0 a1
noncomputable def c38 (n : Nat) : Con := ⟨[.one (.sl (.imm true) 49 (.pair .str (.pair (.int .i64) (.pair (.int .i64) (.pair .bool (.pair (.int .i64) (.pair (.int .i64) (.pair (.int .i64) (.pair (.int .i64) (.pair (.int .i64) (.int .i64))))))))))), .one (.sl (.imm true) 49 (.pair .str (.pair (.int .i64) (.pair (.int .i64) (.pair .bool (.pair (.int .i64) (.pair (.int .i64) (.pair (.int .i64) (.pair (.int .i64) (.pair (.int .i64) (.int .i64)))))))))))], [], [.one (.sl .own 49 (.pair .str (.pair (.int .i64) (.pair (.int .i64) (.pair .bool (.pair (.int .i64) (.pair (.int .i64) (.pair (.int .i64) (.pair (.int .i64) (.pair (.int .i64) (.int .i64)))))))))))], [], fun (x : List (ByteArray × (Int × (Int × (Bool × (Int × (Int × (Int × (Int × (Int × Int))))))))) × List (ByteArray × (Int × (Int × (Bool × (Int × (Int × (Int × (Int × (Int × Int))))))))) × Unit) => F38 n x.1 x.2.1⟩
noncomputable def G38 (n : Nat) : Gam := [((46, []), c46 n), ((47, []), c47 n)]
noncomputable def S38_1 (l0 : List (ByteArray × (Int × (Int × (Bool × (Int × (Int × (Int × (Int × (Int × Int)))))))))) (i1 : Int) (b2 : Bool) (i3 : Int) (l4 : List (ByteArray × (Int × (Int × (Bool × (Int × (Int × (Int × (Int × (Int × Int)))))))))) : St := ⟨[.dead, .sl (.imm true) 49 (.pair .str (.pair (.int .i64) (.pair (.int .i64) (.pair .bool (.pair (.int .i64) (.pair (.int .i64) (.pair (.int .i64) (.pair (.int .i64) (.pair (.int .i64) (.int .i64)))))))))) l0, .dead, .dead, .dead, .sr 5 0 none 0 0 none, .int .i64 i1, .bool b2, .int .i64 i3] ++ List.replicate 51 .dead, List.replicate 5 Ob.none ++ [⟨false, [.sl .own 49 (.pair .str (.pair (.int .i64) (.pair (.int .i64) (.pair .bool (.pair (.int .i64) (.pair (.int .i64) (.pair (.int .i64) (.pair (.int .i64) (.pair (.int .i64) (.int .i64)))))))))) l4], 0, 0⟩] ++ List.replicate 54 Ob.none⟩
noncomputable def ga38_1 (n : Nat) (ks : List Nat) (k : Nat) (st : St) : Option (List (ByteArray × (Int × (Int × (Bool × (Int × (Int × (Int × (Int × (Int × Int))))))))) × Unit) := goAt tab (G38 n) n (bodyOf Try.f38) (lvOf Try.f38) (lvOf Try.f38).ret [1, 1, 0, 1, 0, 0, 1, 0, 0, 1, 0, 1, 0] ks k st (evBody.endK tab (c38 n) Try.f38)
noncomputable def S38_0 (l0 : List (ByteArray × (Int × (Int × (Bool × (Int × (Int × (Int × (Int × (Int × Int)))))))))) (i1 : Int) (l2 : List (ByteArray × (Int × (Int × (Bool × (Int × (Int × (Int × (Int × (Int × Int)))))))))) : St := ⟨[.dead, .sl (.imm true) 49 (.pair .str (.pair (.int .i64) (.pair (.int .i64) (.pair .bool (.pair (.int .i64) (.pair (.int .i64) (.pair (.int .i64) (.pair (.int .i64) (.pair (.int .i64) (.int .i64)))))))))) l0, .dead, .dead, .dead, .sr 5 0 none 0 0 none, .int .i64 i1] ++ List.replicate 53 .dead, List.replicate 5 Ob.none ++ [⟨false, [.sl .own 49 (.pair .str (.pair (.int .i64) (.pair (.int .i64) (.pair .bool (.pair (.int .i64) (.pair (.int .i64) (.pair (.int .i64) (.pair (.int .i64) (.pair (.int .i64) (.int .i64)))))))))) l2], 0, 0⟩] ++ List.replicate 54 Ob.none⟩
noncomputable def ga38_0 (n : Nat) (ks : List Nat) (k : Nat) (st : St) : Option (List (ByteArray × (Int × (Int × (Bool × (Int × (Int × (Int × (Int × (Int × Int))))))))) × Unit) := goAt tab (G38 n) n (bodyOf Try.f38) (lvOf Try.f38) (lvOf Try.f38).ret [1, 1, 0, 1, 0] ks k st (evBody.endK tab (c38 n) Try.f38)
theorem el38_1 (n : Nat) (k0 : Nat) : ∀ (k : Nat), ∀ (l0 : List (ByteArray × (Int × (Int × (Bool × (Int × (Int × (Int × (Int × (Int × Int)))))))))) (i1 : Int) (b2 : Bool) (i3 : Int) (l4 : List (ByteArray × (Int × (Int × (Bool × (Int × (Int × (Int × (Int × (Int × Int)))))))))), ga38_1 n [k0] k (S38_1 l0 i1 b2 i3 l4) = lp38_1 n (fun w0 w1 w2 => ga38_0 n [] k0 (S38_0 w0 w1 w2)) k l0 i1 b2 i3 l4 := by
  intro k
  induction k with
  | zero => intros; rfl
  | succ k ih =>
    intro l0 i1 b2 i3 l4
    have h : ga38_1 n [k0] (k + 1) (S38_1 l0 i1 b2 i3 l4) = st38_1 n (fun w0 w1 w2 => ga38_0 n [] k0 (S38_0 w0 w1 w2)) (fun w0 w1 w2 w3 w4 => ga38_1 n [k0] k (S38_1 w0 w1 w2 w3 w4)) l0 i1 b2 i3 l4 := by kernel_rfl
    rw [h]
    have e : (fun w0 w1 w2 w3 w4 => ga38_1 n [k0] k (S38_1 w0 w1 w2 w3 w4)) = lp38_1 n (fun w0 w1 w2 => ga38_0 n [] k0 (S38_0 w0 w1 w2)) k := by
      funext w0 w1 w2 w3 w4; exact ih w0 w1 w2 w3 w4
    rw [e]
    rfl
theorem el38_0 (n : Nat) : ∀ (k : Nat), ∀ (l0 : List (ByteArray × (Int × (Int × (Bool × (Int × (Int × (Int × (Int × (Int × Int)))))))))) (i1 : Int) (l2 : List (ByteArray × (Int × (Int × (Bool × (Int × (Int × (Int × (Int × (Int × Int)))))))))), ga38_0 n [] k (S38_0 l0 i1 l2) = lp38_0 n k l0 i1 l2 := by
  intro k
  induction k with
  | zero => intros; rfl
  | succ k ih =>
    intro l0 i1 l2
    have h : ga38_0 n [] (k + 1) (S38_0 l0 i1 l2) = st38_0 n (fun w0 w1 w2 w3 w4 => ga38_1 n [k] n (S38_1 w0 w1 w2 w3 w4)) (fun w0 w1 w2 => ga38_0 n [] k (S38_0 w0 w1 w2)) l0 i1 l2 := by kernel_rfl
    rw [h]
    have e1 : (fun w0 w1 w2 w3 w4 => ga38_1 n [k] n (S38_1 w0 w1 w2 w3 w4)) = lp38_1 n (fun w0 w1 w2 => ga38_0 n [] k (S38_0 w0 w1 w2)) n := by
      funext w0 w1 w2 w3 w4; exact el38_1 n k n w0 w1 w2 w3 w4
    have e : (fun w0 w1 w2 => ga38_0 n [] k (S38_0 w0 w1 w2)) = lp38_0 n k := by
      funext w0 w1 w2; exact ih w0 w1 w2
    rw [e1, e]
    rfl
theorem e38 (n : Nat) (x : List (ByteArray × (Int × (Int × (Bool × (Int × (Int × (Int × (Int × (Int × Int))))))))) × List (ByteArray × (Int × (Int × (Bool × (Int × (Int × (Int × (Int × (Int × Int))))))))) × Unit) : evBody tab (G38 n) n (c38 n) Try.f38 x = F38 n x.1 x.2.1 := by
  have h : evBody tab (G38 n) n (c38 n) Try.f38 x = st38 n (fun w0 w1 w2 => ga38_0 n [] n (S38_0 w0 w1 w2)) x.1 x.2.1 := by kernel_rfl
  rw [h]
  have e0 : (fun w0 w1 w2 => ga38_0 n [] n (S38_0 w0 w1 w2)) = lp38_0 n n := by
    funext w0 w1 w2; exact el38_0 n n w0 w1 w2
  rw [e0]
  rfl
theorem g38 (W : World) (n : Nat) : Good Try.prog W 38 (c38 n) := body_good follows tabOk (GamOk.cons (g46 W n) (GamOk.cons (g47 W n) GamOk.nil)) (f := 38) (fn := Try.f38) (c := bodyOf Try.f38) (by kernel_rfl) (by kernel_rfl) (by kernel_rfl) (by kernel_rfl) (by kernel_rfl) (by kernel_rfl) (by kernel_rfl) (fun x r h => ⟨n, (e38 n x).trans h⟩)
end Go.Eva
end
section
/- The functions, as their texts evaluate. -/
set_option linter.unusedVariables false
set_option maxRecDepth 100000
namespace Go.Eva
open Go.Proofs
open Go.RowKit (wrap64)
/-! spec.Overall -/
noncomputable def st22_0 (n : Nat) (g0 : (List (List (ByteArray × (Int × (Int × (Bool × (Int × (Int × (Int × (Int × (Int × Int))))))))))) → Int → (List (ByteArray × (Int × (Int × (Bool × (Int × (Int × (Int × (Int × (Int × Int)))))))))) → Option (List (ByteArray × (Int × (Int × (Bool × (Int × (Int × (Int × (Int × (Int × Int))))))))) × Unit)) (l0 : List (List (ByteArray × (Int × (Int × (Bool × (Int × (Int × (Int × (Int × (Int × Int))))))))))) (i1 : Int) (l2 : List (ByteArray × (Int × (Int × (Bool × (Int × (Int × (Int × (Int × (Int × Int)))))))))) : Option (List (ByteArray × (Int × (Int × (Bool × (Int × (Int × (Int × (Int × (Int × Int))))))))) × Unit) :=
  if (decide (i1 < (l0.length : Int))) = true then
    if (decide (0 ≤ i1)) = true then
    if (decide (i1 < (l0.length : Int))) = true then
    (F38 n l2 (rdOf ([] : List (ByteArray × (Int × (Int × (Bool × (Int × (Int × (Int × (Int × (Int × Int)))))))))) l0 i1)).bind fun r1 =>
    g0 l0 (wrap64 (i1 + 1)) r1.1
    else none
    else none
  else
    some (l2, ())
noncomputable def lp22_0 (n : Nat) : Nat → (List (List (ByteArray × (Int × (Int × (Bool × (Int × (Int × (Int × (Int × (Int × Int))))))))))) → Int → (List (ByteArray × (Int × (Int × (Bool × (Int × (Int × (Int × (Int × (Int × Int)))))))))) → Option (List (ByteArray × (Int × (Int × (Bool × (Int × (Int × (Int × (Int × (Int × Int))))))))) × Unit)
  | 0 => fun _ _ _ => none
  | k + 1 => st22_0 n (lp22_0 n k)
noncomputable def st22 (n : Nat) (h0 : (List (List (ByteArray × (Int × (Int × (Bool × (Int × (Int × (Int × (Int × (Int × Int))))))))))) → Int → (List (ByteArray × (Int × (Int × (Bool × (Int × (Int × (Int × (Int × (Int × Int)))))))))) → Option (List (ByteArray × (Int × (Int × (Bool × (Int × (Int × (Int × (Int × (Int × Int))))))))) × Unit)) (a0 : List (List (ByteArray × (Int × (Int × (Bool × (Int × (Int × (Int × (Int × (Int × Int))))))))))) : Option (List (ByteArray × (Int × (Int × (Bool × (Int × (Int × (Int × (Int × (Int × Int))))))))) × Unit) :=
  h0 a0 (0 : Int) ([] : List (ByteArray × (Int × (Int × (Bool × (Int × (Int × (Int × (Int × (Int × Int))))))))))
noncomputable def F22 (n : Nat) (a0 : List (List (ByteArray × (Int × (Int × (Bool × (Int × (Int × (Int × (Int × (Int × Int))))))))))) : Option (List (ByteArray × (Int × (Int × (Bool × (Int × (Int × (Int × (Int × (Int × Int))))))))) × Unit) := st22 n (lp22_0 n n) a0
noncomputable def c22 (n : Nat) : Con := ⟨[.one (.sl (.imm true) 26 (.sl 49 (.pair .str (.pair (.int .i64) (.pair (.int .i64) (.pair .bool (.pair (.int .i64) (.pair (.int .i64) (.pair (.int .i64) (.pair (.int .i64) (.pair (.int .i64) (.int .i64))))))))))))], [], [.one (.sl .own 49 (.pair .str (.pair (.int .i64) (.pair (.int .i64) (.pair .bool (.pair (.int .i64) (.pair (.int .i64) (.pair (.int .i64) (.pair (.int .i64) (.pair (.int .i64) (.int .i64)))))))))))], [], fun (x : List (List (ByteArray × (Int × (Int × (Bool × (Int × (Int × (Int × (Int × (Int × Int)))))))))) × Unit) => F22 n x.1⟩
noncomputable def G22 (n : Nat) : Gam := [((38, []), c38 n)]
noncomputable def S22_0 (l0 : List (List (ByteArray × (Int × (Int × (Bool × (Int × (Int × (Int × (Int × (Int × Int))))))))))) (i1 : Int) (l2 : List (ByteArray × (Int × (Int × (Bool × (Int × (Int × (Int × (Int × (Int × Int)))))))))) : St := ⟨[.sl (.imm true) 26 (.sl 49 (.pair .str (.pair (.int .i64) (.pair (.int .i64) (.pair .bool (.pair (.int .i64) (.pair (.int .i64) (.pair (.int .i64) (.pair (.int .i64) (.pair (.int .i64) (.int .i64))))))))))) l0, .dead, .dead, .sr 3 0 none 0 0 none, .int .i64 i1] ++ List.replicate 14 .dead, [Ob.none, Ob.none, Ob.none, ⟨false, [.sl .own 49 (.pair .str (.pair (.int .i64) (.pair (.int .i64) (.pair .bool (.pair (.int .i64) (.pair (.int .i64) (.pair (.int .i64) (.pair (.int .i64) (.pair (.int .i64) (.int .i64)))))))))) l2], 0, 0⟩] ++ List.replicate 15 Ob.none⟩
noncomputable def ga22_0 (n : Nat) (ks : List Nat) (k : Nat) (st : St) : Option (List (ByteArray × (Int × (Int × (Bool × (Int × (Int × (Int × (Int × (Int × Int))))))))) × Unit) := goAt tab (G22 n) n (bodyOf Try.f22) (lvOf Try.f22) (lvOf Try.f22).ret [1, 1, 0, 1, 0] ks k st (evBody.endK tab (c22 n) Try.f22)
theorem el22_0 (n : Nat) : ∀ (k : Nat), ∀ (l0 : List (List (ByteArray × (Int × (Int × (Bool × (Int × (Int × (Int × (Int × (Int × Int))))))))))) (i1 : Int) (l2 : List (ByteArray × (Int × (Int × (Bool × (Int × (Int × (Int × (Int × (Int × Int)))))))))), ga22_0 n [] k (S22_0 l0 i1 l2) = lp22_0 n k l0 i1 l2 := by
  intro k
  induction k with
  | zero => intros; rfl
  | succ k ih =>
    intro l0 i1 l2
    have h : ga22_0 n [] (k + 1) (S22_0 l0 i1 l2) = st22_0 n (fun w0 w1 w2 => ga22_0 n [] k (S22_0 w0 w1 w2)) l0 i1 l2 := by kernel_rfl
    rw [h]
    have e : (fun w0 w1 w2 => ga22_0 n [] k (S22_0 w0 w1 w2)) = lp22_0 n k := by
      funext w0 w1 w2; exact ih w0 w1 w2
    rw [e]
    rfl
theorem e22 (n : Nat) (x : List (List (ByteArray × (Int × (Int × (Bool × (Int × (Int × (Int × (Int × (Int × Int)))))))))) × Unit) : evBody tab (G22 n) n (c22 n) Try.f22 x = F22 n x.1 := by
  have h : evBody tab (G22 n) n (c22 n) Try.f22 x = st22 n (fun w0 w1 w2 => ga22_0 n [] n (S22_0 w0 w1 w2)) x.1 := by kernel_rfl
  rw [h]
  have e0 : (fun w0 w1 w2 => ga22_0 n [] n (S22_0 w0 w1 w2)) = lp22_0 n n := by
    funext w0 w1 w2; exact el22_0 n n w0 w1 w2
  rw [e0]
  rfl
theorem g22 (W : World) (n : Nat) : Good Try.prog W 22 (c22 n) := body_good follows tabOk (GamOk.cons (g38 W n) GamOk.nil) (f := 22) (fn := Try.f22) (c := bodyOf Try.f22) (by kernel_rfl) (by kernel_rfl) (by kernel_rfl) (by kernel_rfl) (by kernel_rfl) (by kernel_rfl) (by kernel_rfl) (fun x r h => ⟨n, (e22 n x).trans h⟩)
/-! spec.Last -/
noncomputable def F6 (n : Nat) (a0 : Int) (a1 : Int) (a2 : List (List (ByteArray × (Int × (Int × (Bool × (Int × (Int × (Int × (Int × (Int × Int))))))))))) (a3 : Int) : Option (List (ByteArray × (Int × (Int × (Bool × (Int × (Int × (Int × (Int × (Int × Int))))))))) × Unit) :=
  (F20 n a0 a1 a2).bind fun r1 =>
  if (!r1.1) = true then
    some (([] : List (ByteArray × (Int × (Int × (Bool × (Int × (Int × (Int × (Int × (Int × Int)))))))))), ())
  else
    (F21 n a3 (0 : Int) (a2.length : Int)).bind fun r2 =>
    if (!r2.1) = true then
      some (([] : List (ByteArray × (Int × (Int × (Bool × (Int × (Int × (Int × (Int × (Int × Int)))))))))), ())
    else
      if (decide (0 ≤ (wrap64 ((a2.length : Int) - a3)))) = true then
      if (decide ((wrap64 ((a2.length : Int) - a3)) ≤ (a2.length : Int))) = true then
      if (decide ((a2.length : Int) ≤ (a2.length : Int))) = true then
      (F22 n (cutL a2 (wrap64 ((a2.length : Int) - a3)) (a2.length : Int))).bind fun r3 =>
      some (r3.1, ())
      else none
      else none
      else none
noncomputable def c6 (n : Nat) : Con := ⟨[.agg [(.int .i64), (.int .i64), (.sl (.imm true) 26 (.sl 49 (.pair .str (.pair (.int .i64) (.pair (.int .i64) (.pair .bool (.pair (.int .i64) (.pair (.int .i64) (.pair (.int .i64) (.pair (.int .i64) (.pair (.int .i64) (.int .i64))))))))))))], .one (.int .i64)], [], [.one (.sl .own 49 (.pair .str (.pair (.int .i64) (.pair (.int .i64) (.pair .bool (.pair (.int .i64) (.pair (.int .i64) (.pair (.int .i64) (.pair (.int .i64) (.pair (.int .i64) (.int .i64)))))))))))], [], fun (x : Int × Int × List (List (ByteArray × (Int × (Int × (Bool × (Int × (Int × (Int × (Int × (Int × Int)))))))))) × Int × Unit) => F6 n x.1 x.2.1 x.2.2.1 x.2.2.2.1⟩
noncomputable def G6 (n : Nat) : Gam := [((20, []), c20 n), ((21, []), c21 n), ((22, []), c22 n)]
theorem e6 (n : Nat) (x : Int × Int × List (List (ByteArray × (Int × (Int × (Bool × (Int × (Int × (Int × (Int × (Int × Int)))))))))) × Int × Unit) : evBody tab (G6 n) n (c6 n) Try.f6 x = F6 n x.1 x.2.1 x.2.2.1 x.2.2.2.1 := by kernel_rfl
theorem g6 (W : World) (n : Nat) : Good Try.prog W 6 (c6 n) := body_good follows tabOk (GamOk.cons (g20 W n) (GamOk.cons (g21 W n) (GamOk.cons (g22 W n) GamOk.nil))) (f := 6) (fn := Try.f6) (c := bodyOf Try.f6) (by kernel_rfl) (by kernel_rfl) (by kernel_rfl) (by kernel_rfl) (by kernel_rfl) (by kernel_rfl) (by kernel_rfl) (fun x r h => ⟨n, (e6 n x).trans h⟩)
/-! impl.Push -/
noncomputable def st17_0 (n : Nat) (g0 : (List (ByteArray × (Int × (Int × (Bool × (Int × (Int × (Int × (Int × (Int × Int)))))))))) → (List (List (ByteArray × (Int × (Int × (Bool × (Int × (Int × (Int × (Int × (Int × Int))))))))))) → Int → Int → Int → Int → (List (List (ByteArray × (Int × (Int × (Bool × (Int × (Int × (Int × (Int × (Int × Int))))))))))) → Int → Int → (List (List (ByteArray × (Int × (Int × (Bool × (Int × (Int × (Int × (Int × (Int × Int))))))))))) → Int → Int → (List (List (ByteArray × (Int × (Int × (Bool × (Int × (Int × (Int × (Int × (Int × Int))))))))))) → Option (Int × Int × List (List (ByteArray × (Int × (Int × (Bool × (Int × (Int × (Int × (Int × (Int × Int)))))))))) × Unit)) (l0 : List (ByteArray × (Int × (Int × (Bool × (Int × (Int × (Int × (Int × (Int × Int)))))))))) (l1 : List (List (ByteArray × (Int × (Int × (Bool × (Int × (Int × (Int × (Int × (Int × Int))))))))))) (i2 : Int) (i3 : Int) (i4 : Int) (i5 : Int) (l6 : List (List (ByteArray × (Int × (Int × (Bool × (Int × (Int × (Int × (Int × (Int × Int))))))))))) (i7 : Int) (i8 : Int) (l9 : List (List (ByteArray × (Int × (Int × (Bool × (Int × (Int × (Int × (Int × (Int × Int))))))))))) (i10 : Int) (i11 : Int) (l12 : List (List (ByteArray × (Int × (Int × (Bool × (Int × (Int × (Int × (Int × (Int × Int))))))))))) : Option (Int × Int × List (List (ByteArray × (Int × (Int × (Bool × (Int × (Int × (Int × (Int × (Int × Int)))))))))) × Unit) :=
  if (decide (i3 < i2)) = true then
    if (decide (0 ≤ i3)) = true then
    if (decide (i3 < (l1.length : Int))) = true then
    (F35 n (rdOf ([] : List (ByteArray × (Int × (Int × (Bool × (Int × (Int × (Int × (Int × (Int × Int)))))))))) l1 i3)).bind fun r1 =>
    if (decide ((l12.length + ([r1.1] : List (List (ByteArray × (Int × (Int × (Bool × (Int × (Int × (Int × (Int × (Int × Int))))))))))).length) * 24 ≤ 140737488355328)) = true then
    g0 l0 l1 i2 (wrap64 (i3 + 1)) i4 i5 l6 i7 i8 l9 i10 i11 (l12 ++ ([r1.1] : List (List (ByteArray × (Int × (Int × (Bool × (Int × (Int × (Int × (Int × (Int × Int))))))))))))
    else none
    else none
    else none
  else
    (F24 n i4 i5 l6).bind fun r2 =>
    if (!r2.1) = true then
      some (i10, i11, l12, ())
    else
      (F36 n l0).bind fun r3 =>
      if (!r3.1) = true then
        some (i10, i11, l12, ())
      else
        if (decide (i5 = 1000000)) = true then
          some (i10, i11, l12, ())
        else
          (F35 n l0).bind fun r4 =>
          if (decide ((l12.length + ([r4.1] : List (List (ByteArray × (Int × (Int × (Bool × (Int × (Int × (Int × (Int × (Int × Int))))))))))).length) * 24 ≤ 140737488355328)) = true then
          if (decide (((l12 ++ ([r4.1] : List (List (ByteArray × (Int × (Int × (Bool × (Int × (Int × (Int × (Int × (Int × Int)))))))))))).length : Int) > i10)) = true then
            if (decide (0 ≤ 1)) = true then
            if (decide (1 ≤ ((l12 ++ ([r4.1] : List (List (ByteArray × (Int × (Int × (Bool × (Int × (Int × (Int × (Int × (Int × Int)))))))))))).length : Int))) = true then
            if (decide (((l12 ++ ([r4.1] : List (List (ByteArray × (Int × (Int × (Bool × (Int × (Int × (Int × (Int × (Int × Int)))))))))))).length : Int) ≤ ((l12 ++ ([r4.1] : List (List (ByteArray × (Int × (Int × (Bool × (Int × (Int × (Int × (Int × (Int × Int)))))))))))).length : Int))) = true then
            some (i10, (wrap64 (i11 + 1)), (cutL (l12 ++ ([r4.1] : List (List (ByteArray × (Int × (Int × (Bool × (Int × (Int × (Int × (Int × (Int × Int)))))))))))) (1 : Int) ((l12 ++ ([r4.1] : List (List (ByteArray × (Int × (Int × (Bool × (Int × (Int × (Int × (Int × (Int × Int)))))))))))).length : Int)), ())
            else none
            else none
            else none
          else
            some (i10, i11, (l12 ++ ([r4.1] : List (List (ByteArray × (Int × (Int × (Bool × (Int × (Int × (Int × (Int × (Int × Int)))))))))))), ())
          else none
noncomputable def lp17_0 (n : Nat) : Nat → (List (ByteArray × (Int × (Int × (Bool × (Int × (Int × (Int × (Int × (Int × Int)))))))))) → (List (List (ByteArray × (Int × (Int × (Bool × (Int × (Int × (Int × (Int × (Int × Int))))))))))) → Int → Int → Int → Int → (List (List (ByteArray × (Int × (Int × (Bool × (Int × (Int × (Int × (Int × (Int × Int))))))))))) → Int → Int → (List (List (ByteArray × (Int × (Int × (Bool × (Int × (Int × (Int × (Int × (Int × Int))))))))))) → Int → Int → (List (List (ByteArray × (Int × (Int × (Bool × (Int × (Int × (Int × (Int × (Int × Int))))))))))) → Option (Int × Int × List (List (ByteArray × (Int × (Int × (Bool × (Int × (Int × (Int × (Int × (Int × Int)))))))))) × Unit)
  | 0 => fun _ _ _ _ _ _ _ _ _ _ _ _ _ => none
  | k + 1 => st17_0 n (lp17_0 n k)
noncomputable def st17 (n : Nat) (h0 : (List (ByteArray × (Int × (Int × (Bool × (Int × (Int × (Int × (Int × (Int × Int)))))))))) → (List (List (ByteArray × (Int × (Int × (Bool × (Int × (Int × (Int × (Int × (Int × Int))))))))))) → Int → Int → Int → Int → (List (List (ByteArray × (Int × (Int × (Bool × (Int × (Int × (Int × (Int × (Int × Int))))))))))) → Int → Int → (List (List (ByteArray × (Int × (Int × (Bool × (Int × (Int × (Int × (Int × (Int × Int))))))))))) → Int → Int → (List (List (ByteArray × (Int × (Int × (Bool × (Int × (Int × (Int × (Int × (Int × Int))))))))))) → Option (Int × Int × List (List (ByteArray × (Int × (Int × (Bool × (Int × (Int × (Int × (Int × (Int × Int)))))))))) × Unit)) (a0 : Int) (a1 : Int) (a2 : List (List (ByteArray × (Int × (Int × (Bool × (Int × (Int × (Int × (Int × (Int × Int))))))))))) (a3 : List (ByteArray × (Int × (Int × (Bool × (Int × (Int × (Int × (Int × (Int × Int)))))))))) : Option (Int × Int × List (List (ByteArray × (Int × (Int × (Bool × (Int × (Int × (Int × (Int × (Int × Int)))))))))) × Unit) :=
  h0 a3 a2 (a2.length : Int) (0 : Int) a0 a1 a2 (0 : Int) (0 : Int) ([] : List (List (ByteArray × (Int × (Int × (Bool × (Int × (Int × (Int × (Int × (Int × Int))))))))))) a0 a1 ([] : List (List (ByteArray × (Int × (Int × (Bool × (Int × (Int × (Int × (Int × (Int × Int)))))))))))
noncomputable def F17 (n : Nat) (a0 : Int) (a1 : Int) (a2 : List (List (ByteArray × (Int × (Int × (Bool × (Int × (Int × (Int × (Int × (Int × Int))))))))))) (a3 : List (ByteArray × (Int × (Int × (Bool × (Int × (Int × (Int × (Int × (Int × Int)))))))))) : Option (Int × Int × List (List (ByteArray × (Int × (Int × (Bool × (Int × (Int × (Int × (Int × (Int × Int)))))))))) × Unit) := st17 n (lp17_0 n n) a0 a1 a2 a3
noncomputable def c17 (n : Nat) : Con := ⟨[.agg [(.int .i64), (.int .i64), (.sl (.imm true) 26 (.sl 49 (.pair .str (.pair (.int .i64) (.pair (.int .i64) (.pair .bool (.pair (.int .i64) (.pair (.int .i64) (.pair (.int .i64) (.pair (.int .i64) (.pair (.int .i64) (.int .i64))))))))))))], .one (.sl (.imm true) 49 (.pair .str (.pair (.int .i64) (.pair (.int .i64) (.pair .bool (.pair (.int .i64) (.pair (.int .i64) (.pair (.int .i64) (.pair (.int .i64) (.pair (.int .i64) (.int .i64)))))))))))], [], [.agg [(.int .i64), (.int .i64), (.sl .own 26 (.sl 49 (.pair .str (.pair (.int .i64) (.pair (.int .i64) (.pair .bool (.pair (.int .i64) (.pair (.int .i64) (.pair (.int .i64) (.pair (.int .i64) (.pair (.int .i64) (.int .i64))))))))))))]], [], fun (x : Int × Int × List (List (ByteArray × (Int × (Int × (Bool × (Int × (Int × (Int × (Int × (Int × Int)))))))))) × List (ByteArray × (Int × (Int × (Bool × (Int × (Int × (Int × (Int × (Int × Int))))))))) × Unit) => F17 n x.1 x.2.1 x.2.2.1 x.2.2.2.1⟩
noncomputable def G17 (n : Nat) : Gam := [((24, []), c24 n), ((35, []), c35 n), ((36, []), c36 n)]
noncomputable def S17_0 (l0 : List (ByteArray × (Int × (Int × (Bool × (Int × (Int × (Int × (Int × (Int × Int)))))))))) (l1 : List (List (ByteArray × (Int × (Int × (Bool × (Int × (Int × (Int × (Int × (Int × Int))))))))))) (i2 : Int) (i3 : Int) (i4 : Int) (i5 : Int) (l6 : List (List (ByteArray × (Int × (Int × (Bool × (Int × (Int × (Int × (Int × (Int × Int))))))))))) (i7 : Int) (i8 : Int) (l9 : List (List (ByteArray × (Int × (Int × (Bool × (Int × (Int × (Int × (Int × (Int × Int))))))))))) (i10 : Int) (i11 : Int) (l12 : List (List (ByteArray × (Int × (Int × (Bool × (Int × (Int × (Int × (Int × (Int × Int))))))))))) : St := ⟨[.dead, .sl (.imm true) 49 (.pair .str (.pair (.int .i64) (.pair (.int .i64) (.pair .bool (.pair (.int .i64) (.pair (.int .i64) (.pair (.int .i64) (.pair (.int .i64) (.pair (.int .i64) (.int .i64)))))))))) l0, .ptr 2 0, .dead, .ptr 4 0, .ptr 5 0] ++ List.replicate 8 .dead ++ [.sl (.imm true) 26 (.sl 49 (.pair .str (.pair (.int .i64) (.pair (.int .i64) (.pair .bool (.pair (.int .i64) (.pair (.int .i64) (.pair (.int .i64) (.pair (.int .i64) (.pair (.int .i64) (.int .i64))))))))))) l1, .int .i64 i2, .int .i64 i3] ++ List.replicate 47 .dead, [Ob.none, Ob.none, ⟨true, [.int .i64 i4, .int .i64 i5, .sl (.imm true) 26 (.sl 49 (.pair .str (.pair (.int .i64) (.pair (.int .i64) (.pair .bool (.pair (.int .i64) (.pair (.int .i64) (.pair (.int .i64) (.pair (.int .i64) (.pair (.int .i64) (.int .i64))))))))))) l6], 0, 0⟩, Ob.none, ⟨true, [.int .i64 i7, .int .i64 i8, .sl .own 26 (.sl 49 (.pair .str (.pair (.int .i64) (.pair (.int .i64) (.pair .bool (.pair (.int .i64) (.pair (.int .i64) (.pair (.int .i64) (.pair (.int .i64) (.pair (.int .i64) (.int .i64))))))))))) l9], 0, 0⟩, ⟨true, [.int .i64 i10, .int .i64 i11, .sl .own 26 (.sl 49 (.pair .str (.pair (.int .i64) (.pair (.int .i64) (.pair .bool (.pair (.int .i64) (.pair (.int .i64) (.pair (.int .i64) (.pair (.int .i64) (.pair (.int .i64) (.int .i64))))))))))) l12], 0, 0⟩] ++ List.replicate 58 Ob.none⟩
noncomputable def ga17_0 (n : Nat) (ks : List Nat) (k : Nat) (st : St) : Option (Int × Int × List (List (ByteArray × (Int × (Int × (Bool × (Int × (Int × (Int × (Int × (Int × Int)))))))))) × Unit) := goAt tab (G17 n) n (bodyOf Try.f17) (lvOf Try.f17) (lvOf Try.f17).ret [1, 1, 0, 1, 0] ks k st (evBody.endK tab (c17 n) Try.f17)
theorem el17_0 (n : Nat) : ∀ (k : Nat), ∀ (l0 : List (ByteArray × (Int × (Int × (Bool × (Int × (Int × (Int × (Int × (Int × Int)))))))))) (l1 : List (List (ByteArray × (Int × (Int × (Bool × (Int × (Int × (Int × (Int × (Int × Int))))))))))) (i2 : Int) (i3 : Int) (i4 : Int) (i5 : Int) (l6 : List (List (ByteArray × (Int × (Int × (Bool × (Int × (Int × (Int × (Int × (Int × Int))))))))))) (i7 : Int) (i8 : Int) (l9 : List (List (ByteArray × (Int × (Int × (Bool × (Int × (Int × (Int × (Int × (Int × Int))))))))))) (i10 : Int) (i11 : Int) (l12 : List (List (ByteArray × (Int × (Int × (Bool × (Int × (Int × (Int × (Int × (Int × Int))))))))))), ga17_0 n [] k (S17_0 l0 l1 i2 i3 i4 i5 l6 i7 i8 l9 i10 i11 l12) = lp17_0 n k l0 l1 i2 i3 i4 i5 l6 i7 i8 l9 i10 i11 l12 := by
  intro k
  induction k with
  | zero => intros; rfl
  | succ k ih =>
    intro l0 l1 i2 i3 i4 i5 l6 i7 i8 l9 i10 i11 l12
    have h : ga17_0 n [] (k + 1) (S17_0 l0 l1 i2 i3 i4 i5 l6 i7 i8 l9 i10 i11 l12) = st17_0 n (fun w0 w1 w2 w3 w4 w5 w6 w7 w8 w9 w10 w11 w12 => ga17_0 n [] k (S17_0 w0 w1 w2 w3 w4 w5 w6 w7 w8 w9 w10 w11 w12)) l0 l1 i2 i3 i4 i5 l6 i7 i8 l9 i10 i11 l12 := by kernel_rfl
    rw [h]
    have e : (fun w0 w1 w2 w3 w4 w5 w6 w7 w8 w9 w10 w11 w12 => ga17_0 n [] k (S17_0 w0 w1 w2 w3 w4 w5 w6 w7 w8 w9 w10 w11 w12)) = lp17_0 n k := by
      funext w0 w1 w2 w3 w4 w5 w6 w7 w8 w9 w10 w11 w12; exact ih w0 w1 w2 w3 w4 w5 w6 w7 w8 w9 w10 w11 w12
    rw [e]
    rfl
theorem e17 (n : Nat) (x : Int × Int × List (List (ByteArray × (Int × (Int × (Bool × (Int × (Int × (Int × (Int × (Int × Int)))))))))) × List (ByteArray × (Int × (Int × (Bool × (Int × (Int × (Int × (Int × (Int × Int))))))))) × Unit) : evBody tab (G17 n) n (c17 n) Try.f17 x = F17 n x.1 x.2.1 x.2.2.1 x.2.2.2.1 := by
  have h : evBody tab (G17 n) n (c17 n) Try.f17 x = st17 n (fun w0 w1 w2 w3 w4 w5 w6 w7 w8 w9 w10 w11 w12 => ga17_0 n [] n (S17_0 w0 w1 w2 w3 w4 w5 w6 w7 w8 w9 w10 w11 w12)) x.1 x.2.1 x.2.2.1 x.2.2.2.1 := by kernel_rfl
  rw [h]
  have e0 : (fun w0 w1 w2 w3 w4 w5 w6 w7 w8 w9 w10 w11 w12 => ga17_0 n [] n (S17_0 w0 w1 w2 w3 w4 w5 w6 w7 w8 w9 w10 w11 w12)) = lp17_0 n n := by
    funext w0 w1 w2 w3 w4 w5 w6 w7 w8 w9 w10 w11 w12; exact el17_0 n n w0 w1 w2 w3 w4 w5 w6 w7 w8 w9 w10 w11 w12
  rw [e0]
  rfl
theorem g17 (W : World) (n : Nat) : Good Try.prog W 17 (c17 n) := body_good follows tabOk (GamOk.cons (g24 W n) (GamOk.cons (g35 W n) (GamOk.cons (g36 W n) GamOk.nil))) (f := 17) (fn := Try.f17) (c := bodyOf Try.f17) (by kernel_rfl) (by kernel_rfl) (by kernel_rfl) (by kernel_rfl) (by kernel_rfl) (by kernel_rfl) (by kernel_rfl) (fun x r h => ⟨n, (e17 n x).trans h⟩)
/-! spec.l29Copy -/
noncomputable def st32_0 (n : Nat) (g0 : Int → Int → Int → (List (List (ByteArray × (Int × (Int × (Bool × (Int × (Int × (Int × (Int × (Int × Int))))))))))) → Int → Int → (List (List (ByteArray × (Int × (Int × (Bool × (Int × (Int × (Int × (Int × (Int × Int))))))))))) → Int → Int → (List (List (ByteArray × (Int × (Int × (Bool × (Int × (Int × (Int × (Int × (Int × Int))))))))))) → Option (Int × Int × List (List (ByteArray × (Int × (Int × (Bool × (Int × (Int × (Int × (Int × (Int × Int)))))))))) × Unit)) (i0 : Int) (i1 : Int) (i2 : Int) (l3 : List (List (ByteArray × (Int × (Int × (Bool × (Int × (Int × (Int × (Int × (Int × Int))))))))))) (i4 : Int) (i5 : Int) (l6 : List (List (ByteArray × (Int × (Int × (Bool × (Int × (Int × (Int × (Int × (Int × Int))))))))))) (i7 : Int) (i8 : Int) (l9 : List (List (ByteArray × (Int × (Int × (Bool × (Int × (Int × (Int × (Int × (Int × Int))))))))))) : Option (Int × Int × List (List (ByteArray × (Int × (Int × (Bool × (Int × (Int × (Int × (Int × (Int × Int)))))))))) × Unit) :=
  if (decide (i0 < (l3.length : Int))) = true then
    if (decide (0 ≤ i0)) = true then
    if (decide (i0 < (l3.length : Int))) = true then
    if (decide ((([] : List (ByteArray × (Int × (Int × (Bool × (Int × (Int × (Int × (Int × (Int × Int)))))))))).length + (rdOf ([] : List (ByteArray × (Int × (Int × (Bool × (Int × (Int × (Int × (Int × (Int × Int)))))))))) l3 i0).length) * 88 ≤ 140737488355328)) = true then
    if (decide ((l9.length + ([(([] : List (ByteArray × (Int × (Int × (Bool × (Int × (Int × (Int × (Int × (Int × Int)))))))))) ++ (rdOf ([] : List (ByteArray × (Int × (Int × (Bool × (Int × (Int × (Int × (Int × (Int × Int)))))))))) l3 i0))] : List (List (ByteArray × (Int × (Int × (Bool × (Int × (Int × (Int × (Int × (Int × Int))))))))))).length) * 24 ≤ 140737488355328)) = true then
    g0 (wrap64 (i0 + 1)) i1 i2 l3 i4 i5 l6 i7 i8 (l9 ++ ([(([] : List (ByteArray × (Int × (Int × (Bool × (Int × (Int × (Int × (Int × (Int × Int)))))))))) ++ (rdOf ([] : List (ByteArray × (Int × (Int × (Bool × (Int × (Int × (Int × (Int × (Int × Int)))))))))) l3 i0))] : List (List (ByteArray × (Int × (Int × (Bool × (Int × (Int × (Int × (Int × (Int × Int))))))))))))
    else none
    else none
    else none
    else none
  else
    some (i7, i8, l9, ())
noncomputable def lp32_0 (n : Nat) : Nat → Int → Int → Int → (List (List (ByteArray × (Int × (Int × (Bool × (Int × (Int × (Int × (Int × (Int × Int))))))))))) → Int → Int → (List (List (ByteArray × (Int × (Int × (Bool × (Int × (Int × (Int × (Int × (Int × Int))))))))))) → Int → Int → (List (List (ByteArray × (Int × (Int × (Bool × (Int × (Int × (Int × (Int × (Int × Int))))))))))) → Option (Int × Int × List (List (ByteArray × (Int × (Int × (Bool × (Int × (Int × (Int × (Int × (Int × Int)))))))))) × Unit)
  | 0 => fun _ _ _ _ _ _ _ _ _ _ => none
  | k + 1 => st32_0 n (lp32_0 n k)
noncomputable def st32 (n : Nat) (h0 : Int → Int → Int → (List (List (ByteArray × (Int × (Int × (Bool × (Int × (Int × (Int × (Int × (Int × Int))))))))))) → Int → Int → (List (List (ByteArray × (Int × (Int × (Bool × (Int × (Int × (Int × (Int × (Int × Int))))))))))) → Int → Int → (List (List (ByteArray × (Int × (Int × (Bool × (Int × (Int × (Int × (Int × (Int × Int))))))))))) → Option (Int × Int × List (List (ByteArray × (Int × (Int × (Bool × (Int × (Int × (Int × (Int × (Int × Int)))))))))) × Unit)) (a0 : Int) (a1 : Int) (a2 : List (List (ByteArray × (Int × (Int × (Bool × (Int × (Int × (Int × (Int × (Int × Int))))))))))) : Option (Int × Int × List (List (ByteArray × (Int × (Int × (Bool × (Int × (Int × (Int × (Int × (Int × Int)))))))))) × Unit) :=
  h0 (0 : Int) a0 a1 a2 (0 : Int) (0 : Int) ([] : List (List (ByteArray × (Int × (Int × (Bool × (Int × (Int × (Int × (Int × (Int × Int))))))))))) a0 a1 ([] : List (List (ByteArray × (Int × (Int × (Bool × (Int × (Int × (Int × (Int × (Int × Int)))))))))))
noncomputable def F32 (n : Nat) (a0 : Int) (a1 : Int) (a2 : List (List (ByteArray × (Int × (Int × (Bool × (Int × (Int × (Int × (Int × (Int × Int))))))))))) : Option (Int × Int × List (List (ByteArray × (Int × (Int × (Bool × (Int × (Int × (Int × (Int × (Int × Int)))))))))) × Unit) := st32 n (lp32_0 n n) a0 a1 a2
noncomputable def c32 (n : Nat) : Con := ⟨[.agg [(.int .i64), (.int .i64), (.sl (.imm true) 26 (.sl 49 (.pair .str (.pair (.int .i64) (.pair (.int .i64) (.pair .bool (.pair (.int .i64) (.pair (.int .i64) (.pair (.int .i64) (.pair (.int .i64) (.pair (.int .i64) (.int .i64))))))))))))]], [], [.agg [(.int .i64), (.int .i64), (.sl .own 26 (.sl 49 (.pair .str (.pair (.int .i64) (.pair (.int .i64) (.pair .bool (.pair (.int .i64) (.pair (.int .i64) (.pair (.int .i64) (.pair (.int .i64) (.pair (.int .i64) (.int .i64))))))))))))]], [], fun (x : Int × Int × List (List (ByteArray × (Int × (Int × (Bool × (Int × (Int × (Int × (Int × (Int × Int)))))))))) × Unit) => F32 n x.1 x.2.1 x.2.2.1⟩
noncomputable def G32 (n : Nat) : Gam := []
noncomputable def S32_0 (i0 : Int) (i1 : Int) (i2 : Int) (l3 : List (List (ByteArray × (Int × (Int × (Bool × (Int × (Int × (Int × (Int × (Int × Int))))))))))) (i4 : Int) (i5 : Int) (l6 : List (List (ByteArray × (Int × (Int × (Bool × (Int × (Int × (Int × (Int × (Int × Int))))))))))) (i7 : Int) (i8 : Int) (l9 : List (List (ByteArray × (Int × (Int × (Bool × (Int × (Int × (Int × (Int × (Int × Int))))))))))) : St := ⟨[.dead, .ptr 1 0, .ptr 2 0, .ptr 3 0, .int .i64 i0] ++ List.replicate 25 .dead, [Ob.none, ⟨true, [.int .i64 i1, .int .i64 i2, .sl (.imm true) 26 (.sl 49 (.pair .str (.pair (.int .i64) (.pair (.int .i64) (.pair .bool (.pair (.int .i64) (.pair (.int .i64) (.pair (.int .i64) (.pair (.int .i64) (.pair (.int .i64) (.int .i64))))))))))) l3], 0, 0⟩, ⟨true, [.int .i64 i4, .int .i64 i5, .sl .own 26 (.sl 49 (.pair .str (.pair (.int .i64) (.pair (.int .i64) (.pair .bool (.pair (.int .i64) (.pair (.int .i64) (.pair (.int .i64) (.pair (.int .i64) (.pair (.int .i64) (.int .i64))))))))))) l6], 0, 0⟩, ⟨true, [.int .i64 i7, .int .i64 i8, .sl .own 26 (.sl 49 (.pair .str (.pair (.int .i64) (.pair (.int .i64) (.pair .bool (.pair (.int .i64) (.pair (.int .i64) (.pair (.int .i64) (.pair (.int .i64) (.pair (.int .i64) (.int .i64))))))))))) l9], 0, 0⟩] ++ List.replicate 26 Ob.none⟩
noncomputable def ga32_0 (n : Nat) (ks : List Nat) (k : Nat) (st : St) : Option (Int × Int × List (List (ByteArray × (Int × (Int × (Bool × (Int × (Int × (Int × (Int × (Int × Int)))))))))) × Unit) := goAt tab (G32 n) n (bodyOf Try.f32) (lvOf Try.f32) (lvOf Try.f32).ret [1, 1, 0, 1, 0] ks k st (evBody.endK tab (c32 n) Try.f32)
theorem el32_0 (n : Nat) : ∀ (k : Nat), ∀ (i0 : Int) (i1 : Int) (i2 : Int) (l3 : List (List (ByteArray × (Int × (Int × (Bool × (Int × (Int × (Int × (Int × (Int × Int))))))))))) (i4 : Int) (i5 : Int) (l6 : List (List (ByteArray × (Int × (Int × (Bool × (Int × (Int × (Int × (Int × (Int × Int))))))))))) (i7 : Int) (i8 : Int) (l9 : List (List (ByteArray × (Int × (Int × (Bool × (Int × (Int × (Int × (Int × (Int × Int))))))))))), ga32_0 n [] k (S32_0 i0 i1 i2 l3 i4 i5 l6 i7 i8 l9) = lp32_0 n k i0 i1 i2 l3 i4 i5 l6 i7 i8 l9 := by
  intro k
  induction k with
  | zero => intros; rfl
  | succ k ih =>
    intro i0 i1 i2 l3 i4 i5 l6 i7 i8 l9
    have h : ga32_0 n [] (k + 1) (S32_0 i0 i1 i2 l3 i4 i5 l6 i7 i8 l9) = st32_0 n (fun w0 w1 w2 w3 w4 w5 w6 w7 w8 w9 => ga32_0 n [] k (S32_0 w0 w1 w2 w3 w4 w5 w6 w7 w8 w9)) i0 i1 i2 l3 i4 i5 l6 i7 i8 l9 := by kernel_rfl
    rw [h]
    have e : (fun w0 w1 w2 w3 w4 w5 w6 w7 w8 w9 => ga32_0 n [] k (S32_0 w0 w1 w2 w3 w4 w5 w6 w7 w8 w9)) = lp32_0 n k := by
      funext w0 w1 w2 w3 w4 w5 w6 w7 w8 w9; exact ih w0 w1 w2 w3 w4 w5 w6 w7 w8 w9
    rw [e]
    rfl
theorem e32 (n : Nat) (x : Int × Int × List (List (ByteArray × (Int × (Int × (Bool × (Int × (Int × (Int × (Int × (Int × Int)))))))))) × Unit) : evBody tab (G32 n) n (c32 n) Try.f32 x = F32 n x.1 x.2.1 x.2.2.1 := by
  have h : evBody tab (G32 n) n (c32 n) Try.f32 x = st32 n (fun w0 w1 w2 w3 w4 w5 w6 w7 w8 w9 => ga32_0 n [] n (S32_0 w0 w1 w2 w3 w4 w5 w6 w7 w8 w9)) x.1 x.2.1 x.2.2.1 := by kernel_rfl
  rw [h]
  have e0 : (fun w0 w1 w2 w3 w4 w5 w6 w7 w8 w9 => ga32_0 n [] n (S32_0 w0 w1 w2 w3 w4 w5 w6 w7 w8 w9)) = lp32_0 n n := by
    funext w0 w1 w2 w3 w4 w5 w6 w7 w8 w9; exact el32_0 n n w0 w1 w2 w3 w4 w5 w6 w7 w8 w9
  rw [e0]
  rfl
theorem g32 (W : World) (n : Nat) : Good Try.prog W 32 (c32 n) := body_good follows tabOk GamOk.nil (f := 32) (fn := Try.f32) (c := bodyOf Try.f32) (by kernel_rfl) (by kernel_rfl) (by kernel_rfl) (by kernel_rfl) (by kernel_rfl) (by kernel_rfl) (by kernel_rfl) (fun x r h => ⟨n, (e32 n x).trans h⟩)
/-! spec.Push -/
noncomputable def F15 (n : Nat) (a0 : Int) (a1 : Int) (a2 : List (List (ByteArray × (Int × (Int × (Bool × (Int × (Int × (Int × (Int × (Int × Int))))))))))) (a3 : List (ByteArray × (Int × (Int × (Bool × (Int × (Int × (Int × (Int × (Int × Int)))))))))) : Option (Int × Int × List (List (ByteArray × (Int × (Int × (Bool × (Int × (Int × (Int × (Int × (Int × Int)))))))))) × Unit) :=
  (F32 n a0 a1 a2).bind fun r1 =>
  (F20 n a0 a1 a2).bind fun r2 =>
  if (!r2.1) = true then
    some (r1.1, r1.2.1, r1.2.2.1, ())
  else
    (F33 n a3).bind fun r3 =>
    if (!r3.1) = true then
      some (r1.1, r1.2.1, r1.2.2.1, ())
    else
      if (decide (a1 = 1000000)) = true then
        some (r1.1, r1.2.1, r1.2.2.1, ())
      else
        if (decide ((([] : List (ByteArray × (Int × (Int × (Bool × (Int × (Int × (Int × (Int × (Int × Int)))))))))).length + a3.length) * 88 ≤ 140737488355328)) = true then
        if (decide ((r1.2.2.1.length + ([(([] : List (ByteArray × (Int × (Int × (Bool × (Int × (Int × (Int × (Int × (Int × Int)))))))))) ++ a3)] : List (List (ByteArray × (Int × (Int × (Bool × (Int × (Int × (Int × (Int × (Int × Int))))))))))).length) * 24 ≤ 140737488355328)) = true then
        if (decide (((r1.2.2.1 ++ ([(([] : List (ByteArray × (Int × (Int × (Bool × (Int × (Int × (Int × (Int × (Int × Int)))))))))) ++ a3)] : List (List (ByteArray × (Int × (Int × (Bool × (Int × (Int × (Int × (Int × (Int × Int)))))))))))).length : Int) > r1.1)) = true then
          if (decide (0 ≤ 1)) = true then
          if (decide (1 ≤ ((r1.2.2.1 ++ ([(([] : List (ByteArray × (Int × (Int × (Bool × (Int × (Int × (Int × (Int × (Int × Int)))))))))) ++ a3)] : List (List (ByteArray × (Int × (Int × (Bool × (Int × (Int × (Int × (Int × (Int × Int)))))))))))).length : Int))) = true then
          if (decide (((r1.2.2.1 ++ ([(([] : List (ByteArray × (Int × (Int × (Bool × (Int × (Int × (Int × (Int × (Int × Int)))))))))) ++ a3)] : List (List (ByteArray × (Int × (Int × (Bool × (Int × (Int × (Int × (Int × (Int × Int)))))))))))).length : Int) ≤ ((r1.2.2.1 ++ ([(([] : List (ByteArray × (Int × (Int × (Bool × (Int × (Int × (Int × (Int × (Int × Int)))))))))) ++ a3)] : List (List (ByteArray × (Int × (Int × (Bool × (Int × (Int × (Int × (Int × (Int × Int)))))))))))).length : Int))) = true then
          some (r1.1, (wrap64 (r1.2.1 + 1)), (cutL (r1.2.2.1 ++ ([(([] : List (ByteArray × (Int × (Int × (Bool × (Int × (Int × (Int × (Int × (Int × Int)))))))))) ++ a3)] : List (List (ByteArray × (Int × (Int × (Bool × (Int × (Int × (Int × (Int × (Int × Int)))))))))))) (1 : Int) ((r1.2.2.1 ++ ([(([] : List (ByteArray × (Int × (Int × (Bool × (Int × (Int × (Int × (Int × (Int × Int)))))))))) ++ a3)] : List (List (ByteArray × (Int × (Int × (Bool × (Int × (Int × (Int × (Int × (Int × Int)))))))))))).length : Int)), ())
          else none
          else none
          else none
        else
          some (r1.1, r1.2.1, (r1.2.2.1 ++ ([(([] : List (ByteArray × (Int × (Int × (Bool × (Int × (Int × (Int × (Int × (Int × Int)))))))))) ++ a3)] : List (List (ByteArray × (Int × (Int × (Bool × (Int × (Int × (Int × (Int × (Int × Int)))))))))))), ())
        else none
        else none
noncomputable def c15 (n : Nat) : Con := ⟨[.agg [(.int .i64), (.int .i64), (.sl (.imm true) 26 (.sl 49 (.pair .str (.pair (.int .i64) (.pair (.int .i64) (.pair .bool (.pair (.int .i64) (.pair (.int .i64) (.pair (.int .i64) (.pair (.int .i64) (.pair (.int .i64) (.int .i64))))))))))))], .one (.sl (.imm true) 49 (.pair .str (.pair (.int .i64) (.pair (.int .i64) (.pair .bool (.pair (.int .i64) (.pair (.int .i64) (.pair (.int .i64) (.pair (.int .i64) (.pair (.int .i64) (.int .i64)))))))))))], [], [.agg [(.int .i64), (.int .i64), (.sl .own 26 (.sl 49 (.pair .str (.pair (.int .i64) (.pair (.int .i64) (.pair .bool (.pair (.int .i64) (.pair (.int .i64) (.pair (.int .i64) (.pair (.int .i64) (.pair (.int .i64) (.int .i64))))))))))))]], [], fun (x : Int × Int × List (List (ByteArray × (Int × (Int × (Bool × (Int × (Int × (Int × (Int × (Int × Int)))))))))) × List (ByteArray × (Int × (Int × (Bool × (Int × (Int × (Int × (Int × (Int × Int))))))))) × Unit) => F15 n x.1 x.2.1 x.2.2.1 x.2.2.2.1⟩
noncomputable def G15 (n : Nat) : Gam := [((20, []), c20 n), ((32, []), c32 n), ((33, []), c33 n)]
theorem e15 (n : Nat) (x : Int × Int × List (List (ByteArray × (Int × (Int × (Bool × (Int × (Int × (Int × (Int × (Int × Int)))))))))) × List (ByteArray × (Int × (Int × (Bool × (Int × (Int × (Int × (Int × (Int × Int))))))))) × Unit) : evBody tab (G15 n) n (c15 n) Try.f15 x = F15 n x.1 x.2.1 x.2.2.1 x.2.2.2.1 := by kernel_rfl
theorem g15 (W : World) (n : Nat) : Good Try.prog W 15 (c15 n) := body_good follows tabOk (GamOk.cons (g20 W n) (GamOk.cons (g32 W n) (GamOk.cons (g33 W n) GamOk.nil))) (f := 15) (fn := Try.f15) (c := bodyOf Try.f15) (by kernel_rfl) (by kernel_rfl) (by kernel_rfl) (by kernel_rfl) (by kernel_rfl) (by kernel_rfl) (by kernel_rfl) (fun x r h => ⟨n, (e15 n x).trans h⟩)
/-! laws.eqRow -/
noncomputable def F27 (n : Nat) (a0 : ByteArray) (a1 : Int) (a2 : Int) (a3 : Bool) (a4 : Int) (a5 : Int) (a6 : Int) (a7 : Int) (a8 : Int) (a9 : Int) (a10 : ByteArray) (a11 : Int) (a12 : Int) (a13 : Bool) (a14 : Int) (a15 : Int) (a16 : Int) (a17 : Int) (a18 : Int) (a19 : Int) : Option (Bool × Unit) :=
  if (!decide (a0.toList = a10.toList)) = true then
    some (false, ())
  else
    if (decide (a1 ≠ a11)) = true then
      some (false, ())
    else
      if (decide (a2 ≠ a12)) = true then
        some (false, ())
      else
        if (!(a3 == a13)) = true then
          some (false, ())
        else
          if (decide (a4 ≠ a14)) = true then
            some (false, ())
          else
            if (decide (a5 ≠ a15)) = true then
              some (false, ())
            else
              if (decide (a6 ≠ a16)) = true then
                some (false, ())
              else
                if (decide (a7 ≠ a17)) = true then
                  some (false, ())
                else
                  if (decide (a8 ≠ a18)) = true then
                    some (false, ())
                  else
                    if (decide (a9 ≠ a19)) = true then
                      some (false, ())
                    else
                      some (true, ())
noncomputable def c27 (n : Nat) : Con := ⟨[.agg [(.str), (.int .i64), (.int .i64), (.bool), (.int .i64), (.int .i64), (.int .i64), (.int .i64), (.int .i64), (.int .i64)], .agg [(.str), (.int .i64), (.int .i64), (.bool), (.int .i64), (.int .i64), (.int .i64), (.int .i64), (.int .i64), (.int .i64)]], [], [.one (.bool)], [], fun (x : ByteArray × Int × Int × Bool × Int × Int × Int × Int × Int × Int × ByteArray × Int × Int × Bool × Int × Int × Int × Int × Int × Int × Unit) => F27 n x.1 x.2.1 x.2.2.1 x.2.2.2.1 x.2.2.2.2.1 x.2.2.2.2.2.1 x.2.2.2.2.2.2.1 x.2.2.2.2.2.2.2.1 x.2.2.2.2.2.2.2.2.1 x.2.2.2.2.2.2.2.2.2.1 x.2.2.2.2.2.2.2.2.2.2.1 x.2.2.2.2.2.2.2.2.2.2.2.1 x.2.2.2.2.2.2.2.2.2.2.2.2.1 x.2.2.2.2.2.2.2.2.2.2.2.2.2.1 x.2.2.2.2.2.2.2.2.2.2.2.2.2.2.1 x.2.2.2.2.2.2.2.2.2.2.2.2.2.2.2.1 x.2.2.2.2.2.2.2.2.2.2.2.2.2.2.2.2.1 x.2.2.2.2.2.2.2.2.2.2.2.2.2.2.2.2.2.1 x.2.2.2.2.2.2.2.2.2.2.2.2.2.2.2.2.2.2.1 x.2.2.2.2.2.2.2.2.2.2.2.2.2.2.2.2.2.2.2.1⟩
noncomputable def G27 (n : Nat) : Gam := []
theorem e27 (n : Nat) (x : ByteArray × Int × Int × Bool × Int × Int × Int × Int × Int × Int × ByteArray × Int × Int × Bool × Int × Int × Int × Int × Int × Int × Unit) : evBody tab (G27 n) n (c27 n) Try.f27 x = F27 n x.1 x.2.1 x.2.2.1 x.2.2.2.1 x.2.2.2.2.1 x.2.2.2.2.2.1 x.2.2.2.2.2.2.1 x.2.2.2.2.2.2.2.1 x.2.2.2.2.2.2.2.2.1 x.2.2.2.2.2.2.2.2.2.1 x.2.2.2.2.2.2.2.2.2.2.1 x.2.2.2.2.2.2.2.2.2.2.2.1 x.2.2.2.2.2.2.2.2.2.2.2.2.1 x.2.2.2.2.2.2.2.2.2.2.2.2.2.1 x.2.2.2.2.2.2.2.2.2.2.2.2.2.2.1 x.2.2.2.2.2.2.2.2.2.2.2.2.2.2.2.1 x.2.2.2.2.2.2.2.2.2.2.2.2.2.2.2.2.1 x.2.2.2.2.2.2.2.2.2.2.2.2.2.2.2.2.2.1 x.2.2.2.2.2.2.2.2.2.2.2.2.2.2.2.2.2.2.1 x.2.2.2.2.2.2.2.2.2.2.2.2.2.2.2.2.2.2.2.1 := by kernel_rfl
theorem g27 (W : World) (n : Nat) : Good Try.prog W 27 (c27 n) := body_good follows tabOk GamOk.nil (f := 27) (fn := Try.f27) (c := bodyOf Try.f27) (by kernel_rfl) (by kernel_rfl) (by kernel_rfl) (by kernel_rfl) (by kernel_rfl) (by kernel_rfl) (by kernel_rfl) (fun x r h => ⟨n, (e27 n x).trans h⟩)
/-! laws.eqRowS -/
noncomputable def st9_0 (n : Nat) (g0 : (List (ByteArray × (Int × (Int × (Bool × (Int × (Int × (Int × (Int × (Int × Int)))))))))) → (List (ByteArray × (Int × (Int × (Bool × (Int × (Int × (Int × (Int × (Int × Int)))))))))) → Int → Option (Bool × Unit)) (l0 : List (ByteArray × (Int × (Int × (Bool × (Int × (Int × (Int × (Int × (Int × Int)))))))))) (l1 : List (ByteArray × (Int × (Int × (Bool × (Int × (Int × (Int × (Int × (Int × Int)))))))))) (i2 : Int) : Option (Bool × Unit) :=
  if (decide (i2 < (l0.length : Int))) = true then
    if (decide (0 ≤ i2)) = true then
    if (decide (i2 < (l0.length : Int))) = true then
    if (decide (0 ≤ i2)) = true then
    if (decide (i2 < (l1.length : Int))) = true then
    (F27 n ((rdOf ((⟨#[]⟩ : ByteArray), ((0 : Int), ((0 : Int), (false, ((0 : Int), ((0 : Int), ((0 : Int), ((0 : Int), ((0 : Int), (0 : Int)))))))))) l0 i2).1) (((rdOf ((⟨#[]⟩ : ByteArray), ((0 : Int), ((0 : Int), (false, ((0 : Int), ((0 : Int), ((0 : Int), ((0 : Int), ((0 : Int), (0 : Int)))))))))) l0 i2).2).1) ((((rdOf ((⟨#[]⟩ : ByteArray), ((0 : Int), ((0 : Int), (false, ((0 : Int), ((0 : Int), ((0 : Int), ((0 : Int), ((0 : Int), (0 : Int)))))))))) l0 i2).2).2).1) (((((rdOf ((⟨#[]⟩ : ByteArray), ((0 : Int), ((0 : Int), (false, ((0 : Int), ((0 : Int), ((0 : Int), ((0 : Int), ((0 : Int), (0 : Int)))))))))) l0 i2).2).2).2).1) ((((((rdOf ((⟨#[]⟩ : ByteArray), ((0 : Int), ((0 : Int), (false, ((0 : Int), ((0 : Int), ((0 : Int), ((0 : Int), ((0 : Int), (0 : Int)))))))))) l0 i2).2).2).2).2).1) (((((((rdOf ((⟨#[]⟩ : ByteArray), ((0 : Int), ((0 : Int), (false, ((0 : Int), ((0 : Int), ((0 : Int), ((0 : Int), ((0 : Int), (0 : Int)))))))))) l0 i2).2).2).2).2).2).1) ((((((((rdOf ((⟨#[]⟩ : ByteArray), ((0 : Int), ((0 : Int), (false, ((0 : Int), ((0 : Int), ((0 : Int), ((0 : Int), ((0 : Int), (0 : Int)))))))))) l0 i2).2).2).2).2).2).2).1) (((((((((rdOf ((⟨#[]⟩ : ByteArray), ((0 : Int), ((0 : Int), (false, ((0 : Int), ((0 : Int), ((0 : Int), ((0 : Int), ((0 : Int), (0 : Int)))))))))) l0 i2).2).2).2).2).2).2).2).1) ((((((((((rdOf ((⟨#[]⟩ : ByteArray), ((0 : Int), ((0 : Int), (false, ((0 : Int), ((0 : Int), ((0 : Int), ((0 : Int), ((0 : Int), (0 : Int)))))))))) l0 i2).2).2).2).2).2).2).2).2).1) ((((((((((rdOf ((⟨#[]⟩ : ByteArray), ((0 : Int), ((0 : Int), (false, ((0 : Int), ((0 : Int), ((0 : Int), ((0 : Int), ((0 : Int), (0 : Int)))))))))) l0 i2).2).2).2).2).2).2).2).2).2) ((rdOf ((⟨#[]⟩ : ByteArray), ((0 : Int), ((0 : Int), (false, ((0 : Int), ((0 : Int), ((0 : Int), ((0 : Int), ((0 : Int), (0 : Int)))))))))) l1 i2).1) (((rdOf ((⟨#[]⟩ : ByteArray), ((0 : Int), ((0 : Int), (false, ((0 : Int), ((0 : Int), ((0 : Int), ((0 : Int), ((0 : Int), (0 : Int)))))))))) l1 i2).2).1) ((((rdOf ((⟨#[]⟩ : ByteArray), ((0 : Int), ((0 : Int), (false, ((0 : Int), ((0 : Int), ((0 : Int), ((0 : Int), ((0 : Int), (0 : Int)))))))))) l1 i2).2).2).1) (((((rdOf ((⟨#[]⟩ : ByteArray), ((0 : Int), ((0 : Int), (false, ((0 : Int), ((0 : Int), ((0 : Int), ((0 : Int), ((0 : Int), (0 : Int)))))))))) l1 i2).2).2).2).1) ((((((rdOf ((⟨#[]⟩ : ByteArray), ((0 : Int), ((0 : Int), (false, ((0 : Int), ((0 : Int), ((0 : Int), ((0 : Int), ((0 : Int), (0 : Int)))))))))) l1 i2).2).2).2).2).1) (((((((rdOf ((⟨#[]⟩ : ByteArray), ((0 : Int), ((0 : Int), (false, ((0 : Int), ((0 : Int), ((0 : Int), ((0 : Int), ((0 : Int), (0 : Int)))))))))) l1 i2).2).2).2).2).2).1) ((((((((rdOf ((⟨#[]⟩ : ByteArray), ((0 : Int), ((0 : Int), (false, ((0 : Int), ((0 : Int), ((0 : Int), ((0 : Int), ((0 : Int), (0 : Int)))))))))) l1 i2).2).2).2).2).2).2).1) (((((((((rdOf ((⟨#[]⟩ : ByteArray), ((0 : Int), ((0 : Int), (false, ((0 : Int), ((0 : Int), ((0 : Int), ((0 : Int), ((0 : Int), (0 : Int)))))))))) l1 i2).2).2).2).2).2).2).2).1) ((((((((((rdOf ((⟨#[]⟩ : ByteArray), ((0 : Int), ((0 : Int), (false, ((0 : Int), ((0 : Int), ((0 : Int), ((0 : Int), ((0 : Int), (0 : Int)))))))))) l1 i2).2).2).2).2).2).2).2).2).1) ((((((((((rdOf ((⟨#[]⟩ : ByteArray), ((0 : Int), ((0 : Int), (false, ((0 : Int), ((0 : Int), ((0 : Int), ((0 : Int), ((0 : Int), (0 : Int)))))))))) l1 i2).2).2).2).2).2).2).2).2).2)).bind fun r1 =>
    if (!r1.1) = true then
      some (false, ())
    else
      g0 l0 l1 (wrap64 (i2 + 1))
    else none
    else none
    else none
    else none
  else
    some (true, ())
noncomputable def lp9_0 (n : Nat) : Nat → (List (ByteArray × (Int × (Int × (Bool × (Int × (Int × (Int × (Int × (Int × Int)))))))))) → (List (ByteArray × (Int × (Int × (Bool × (Int × (Int × (Int × (Int × (Int × Int)))))))))) → Int → Option (Bool × Unit)
  | 0 => fun _ _ _ => none
  | k + 1 => st9_0 n (lp9_0 n k)
noncomputable def st9 (n : Nat) (h0 : (List (ByteArray × (Int × (Int × (Bool × (Int × (Int × (Int × (Int × (Int × Int)))))))))) → (List (ByteArray × (Int × (Int × (Bool × (Int × (Int × (Int × (Int × (Int × Int)))))))))) → Int → Option (Bool × Unit)) (a0 : List (ByteArray × (Int × (Int × (Bool × (Int × (Int × (Int × (Int × (Int × Int)))))))))) (a1 : List (ByteArray × (Int × (Int × (Bool × (Int × (Int × (Int × (Int × (Int × Int)))))))))) : Option (Bool × Unit) :=
  if (decide ((a0.length : Int) ≠ (a1.length : Int))) = true then
    some (false, ())
  else
    h0 a0 a1 (0 : Int)
noncomputable def F9 (n : Nat) (a0 : List (ByteArray × (Int × (Int × (Bool × (Int × (Int × (Int × (Int × (Int × Int)))))))))) (a1 : List (ByteArray × (Int × (Int × (Bool × (Int × (Int × (Int × (Int × (Int × Int)))))))))) : Option (Bool × Unit) := st9 n (lp9_0 n n) a0 a1
noncomputable def c9 (n : Nat) : Con := ⟨[.one (.sl (.imm true) 49 (.pair .str (.pair (.int .i64) (.pair (.int .i64) (.pair .bool (.pair (.int .i64) (.pair (.int .i64) (.pair (.int .i64) (.pair (.int .i64) (.pair (.int .i64) (.int .i64))))))))))), .one (.sl (.imm true) 49 (.pair .str (.pair (.int .i64) (.pair (.int .i64) (.pair .bool (.pair (.int .i64) (.pair (.int .i64) (.pair (.int .i64) (.pair (.int .i64) (.pair (.int .i64) (.int .i64)))))))))))], [], [.one (.bool)], [], fun (x : List (ByteArray × (Int × (Int × (Bool × (Int × (Int × (Int × (Int × (Int × Int))))))))) × List (ByteArray × (Int × (Int × (Bool × (Int × (Int × (Int × (Int × (Int × Int))))))))) × Unit) => F9 n x.1 x.2.1⟩
noncomputable def G9 (n : Nat) : Gam := [((27, []), c27 n)]
noncomputable def S9_0 (l0 : List (ByteArray × (Int × (Int × (Bool × (Int × (Int × (Int × (Int × (Int × Int)))))))))) (l1 : List (ByteArray × (Int × (Int × (Bool × (Int × (Int × (Int × (Int × (Int × Int)))))))))) (i2 : Int) : St := ⟨[.sl (.imm true) 49 (.pair .str (.pair (.int .i64) (.pair (.int .i64) (.pair .bool (.pair (.int .i64) (.pair (.int .i64) (.pair (.int .i64) (.pair (.int .i64) (.pair (.int .i64) (.int .i64)))))))))) l0, .sl (.imm true) 49 (.pair .str (.pair (.int .i64) (.pair (.int .i64) (.pair .bool (.pair (.int .i64) (.pair (.int .i64) (.pair (.int .i64) (.pair (.int .i64) (.pair (.int .i64) (.int .i64)))))))))) l1, .dead, .dead, .dead, .int .i64 i2] ++ List.replicate 21 .dead, List.replicate 27 Ob.none⟩
noncomputable def ga9_0 (n : Nat) (ks : List Nat) (k : Nat) (st : St) : Option (Bool × Unit) := goAt tab (G9 n) n (bodyOf Try.f9) (lvOf Try.f9) (lvOf Try.f9).ret [1, 1, 0, 1, 0] ks k st (evBody.endK tab (c9 n) Try.f9)
theorem el9_0 (n : Nat) : ∀ (k : Nat), ∀ (l0 : List (ByteArray × (Int × (Int × (Bool × (Int × (Int × (Int × (Int × (Int × Int)))))))))) (l1 : List (ByteArray × (Int × (Int × (Bool × (Int × (Int × (Int × (Int × (Int × Int)))))))))) (i2 : Int), ga9_0 n [] k (S9_0 l0 l1 i2) = lp9_0 n k l0 l1 i2 := by
  intro k
  induction k with
  | zero => intros; rfl
  | succ k ih =>
    intro l0 l1 i2
    have h : ga9_0 n [] (k + 1) (S9_0 l0 l1 i2) = st9_0 n (fun w0 w1 w2 => ga9_0 n [] k (S9_0 w0 w1 w2)) l0 l1 i2 := by kernel_rfl
    rw [h]
    have e : (fun w0 w1 w2 => ga9_0 n [] k (S9_0 w0 w1 w2)) = lp9_0 n k := by
      funext w0 w1 w2; exact ih w0 w1 w2
    rw [e]
    rfl
theorem e9 (n : Nat) (x : List (ByteArray × (Int × (Int × (Bool × (Int × (Int × (Int × (Int × (Int × Int))))))))) × List (ByteArray × (Int × (Int × (Bool × (Int × (Int × (Int × (Int × (Int × Int))))))))) × Unit) : evBody tab (G9 n) n (c9 n) Try.f9 x = F9 n x.1 x.2.1 := by
  have h : evBody tab (G9 n) n (c9 n) Try.f9 x = st9 n (fun w0 w1 w2 => ga9_0 n [] n (S9_0 w0 w1 w2)) x.1 x.2.1 := by kernel_rfl
  rw [h]
  have e0 : (fun w0 w1 w2 => ga9_0 n [] n (S9_0 w0 w1 w2)) = lp9_0 n n := by
    funext w0 w1 w2; exact el9_0 n n w0 w1 w2
  rw [e0]
  rfl
theorem g9 (W : World) (n : Nat) : Good Try.prog W 9 (c9 n) := body_good follows tabOk (GamOk.cons (g27 W n) GamOk.nil) (f := 9) (fn := Try.f9) (c := bodyOf Try.f9) (by kernel_rfl) (by kernel_rfl) (by kernel_rfl) (by kernel_rfl) (by kernel_rfl) (by kernel_rfl) (by kernel_rfl) (fun x r h => ⟨n, (e9 n x).trans h⟩)
/-! laws.eqRowSS -/
noncomputable def st28_0 (n : Nat) (g0 : (List (List (ByteArray × (Int × (Int × (Bool × (Int × (Int × (Int × (Int × (Int × Int))))))))))) → (List (List (ByteArray × (Int × (Int × (Bool × (Int × (Int × (Int × (Int × (Int × Int))))))))))) → Int → Option (Bool × Unit)) (l0 : List (List (ByteArray × (Int × (Int × (Bool × (Int × (Int × (Int × (Int × (Int × Int))))))))))) (l1 : List (List (ByteArray × (Int × (Int × (Bool × (Int × (Int × (Int × (Int × (Int × Int))))))))))) (i2 : Int) : Option (Bool × Unit) :=
  if (decide (i2 < (l0.length : Int))) = true then
    if (decide (0 ≤ i2)) = true then
    if (decide (i2 < (l0.length : Int))) = true then
    if (decide (0 ≤ i2)) = true then
    if (decide (i2 < (l1.length : Int))) = true then
    (F9 n (rdOf ([] : List (ByteArray × (Int × (Int × (Bool × (Int × (Int × (Int × (Int × (Int × Int)))))))))) l0 i2) (rdOf ([] : List (ByteArray × (Int × (Int × (Bool × (Int × (Int × (Int × (Int × (Int × Int)))))))))) l1 i2)).bind fun r1 =>
    if (!r1.1) = true then
      some (false, ())
    else
      g0 l0 l1 (wrap64 (i2 + 1))
    else none
    else none
    else none
    else none
  else
    some (true, ())
noncomputable def lp28_0 (n : Nat) : Nat → (List (List (ByteArray × (Int × (Int × (Bool × (Int × (Int × (Int × (Int × (Int × Int))))))))))) → (List (List (ByteArray × (Int × (Int × (Bool × (Int × (Int × (Int × (Int × (Int × Int))))))))))) → Int → Option (Bool × Unit)
  | 0 => fun _ _ _ => none
  | k + 1 => st28_0 n (lp28_0 n k)
noncomputable def st28 (n : Nat) (h0 : (List (List (ByteArray × (Int × (Int × (Bool × (Int × (Int × (Int × (Int × (Int × Int))))))))))) → (List (List (ByteArray × (Int × (Int × (Bool × (Int × (Int × (Int × (Int × (Int × Int))))))))))) → Int → Option (Bool × Unit)) (a0 : List (List (ByteArray × (Int × (Int × (Bool × (Int × (Int × (Int × (Int × (Int × Int))))))))))) (a1 : List (List (ByteArray × (Int × (Int × (Bool × (Int × (Int × (Int × (Int × (Int × Int))))))))))) : Option (Bool × Unit) :=
  if (decide ((a0.length : Int) ≠ (a1.length : Int))) = true then
    some (false, ())
  else
    h0 a0 a1 (0 : Int)
noncomputable def F28 (n : Nat) (a0 : List (List (ByteArray × (Int × (Int × (Bool × (Int × (Int × (Int × (Int × (Int × Int))))))))))) (a1 : List (List (ByteArray × (Int × (Int × (Bool × (Int × (Int × (Int × (Int × (Int × Int))))))))))) : Option (Bool × Unit) := st28 n (lp28_0 n n) a0 a1
noncomputable def c28 (n : Nat) : Con := ⟨[.one (.sl (.imm true) 26 (.sl 49 (.pair .str (.pair (.int .i64) (.pair (.int .i64) (.pair .bool (.pair (.int .i64) (.pair (.int .i64) (.pair (.int .i64) (.pair (.int .i64) (.pair (.int .i64) (.int .i64)))))))))))), .one (.sl (.imm true) 26 (.sl 49 (.pair .str (.pair (.int .i64) (.pair (.int .i64) (.pair .bool (.pair (.int .i64) (.pair (.int .i64) (.pair (.int .i64) (.pair (.int .i64) (.pair (.int .i64) (.int .i64))))))))))))], [], [.one (.bool)], [], fun (x : List (List (ByteArray × (Int × (Int × (Bool × (Int × (Int × (Int × (Int × (Int × Int)))))))))) × List (List (ByteArray × (Int × (Int × (Bool × (Int × (Int × (Int × (Int × (Int × Int)))))))))) × Unit) => F28 n x.1 x.2.1⟩
noncomputable def G28 (n : Nat) : Gam := [((9, []), c9 n)]
noncomputable def S28_0 (l0 : List (List (ByteArray × (Int × (Int × (Bool × (Int × (Int × (Int × (Int × (Int × Int))))))))))) (l1 : List (List (ByteArray × (Int × (Int × (Bool × (Int × (Int × (Int × (Int × (Int × Int))))))))))) (i2 : Int) : St := ⟨[.sl (.imm true) 26 (.sl 49 (.pair .str (.pair (.int .i64) (.pair (.int .i64) (.pair .bool (.pair (.int .i64) (.pair (.int .i64) (.pair (.int .i64) (.pair (.int .i64) (.pair (.int .i64) (.int .i64))))))))))) l0, .sl (.imm true) 26 (.sl 49 (.pair .str (.pair (.int .i64) (.pair (.int .i64) (.pair .bool (.pair (.int .i64) (.pair (.int .i64) (.pair (.int .i64) (.pair (.int .i64) (.pair (.int .i64) (.int .i64))))))))))) l1, .dead, .dead, .dead, .int .i64 i2] ++ List.replicate 21 .dead, List.replicate 27 Ob.none⟩
noncomputable def ga28_0 (n : Nat) (ks : List Nat) (k : Nat) (st : St) : Option (Bool × Unit) := goAt tab (G28 n) n (bodyOf Try.f28) (lvOf Try.f28) (lvOf Try.f28).ret [1, 1, 0, 1, 0] ks k st (evBody.endK tab (c28 n) Try.f28)
theorem el28_0 (n : Nat) : ∀ (k : Nat), ∀ (l0 : List (List (ByteArray × (Int × (Int × (Bool × (Int × (Int × (Int × (Int × (Int × Int))))))))))) (l1 : List (List (ByteArray × (Int × (Int × (Bool × (Int × (Int × (Int × (Int × (Int × Int))))))))))) (i2 : Int), ga28_0 n [] k (S28_0 l0 l1 i2) = lp28_0 n k l0 l1 i2 := by
  intro k
  induction k with
  | zero => intros; rfl
  | succ k ih =>
    intro l0 l1 i2
    have h : ga28_0 n [] (k + 1) (S28_0 l0 l1 i2) = st28_0 n (fun w0 w1 w2 => ga28_0 n [] k (S28_0 w0 w1 w2)) l0 l1 i2 := by kernel_rfl
    rw [h]
    have e : (fun w0 w1 w2 => ga28_0 n [] k (S28_0 w0 w1 w2)) = lp28_0 n k := by
      funext w0 w1 w2; exact ih w0 w1 w2
    rw [e]
    rfl
theorem e28 (n : Nat) (x : List (List (ByteArray × (Int × (Int × (Bool × (Int × (Int × (Int × (Int × (Int × Int)))))))))) × List (List (ByteArray × (Int × (Int × (Bool × (Int × (Int × (Int × (Int × (Int × Int)))))))))) × Unit) : evBody tab (G28 n) n (c28 n) Try.f28 x = F28 n x.1 x.2.1 := by
  have h : evBody tab (G28 n) n (c28 n) Try.f28 x = st28 n (fun w0 w1 w2 => ga28_0 n [] n (S28_0 w0 w1 w2)) x.1 x.2.1 := by kernel_rfl
  rw [h]
  have e0 : (fun w0 w1 w2 => ga28_0 n [] n (S28_0 w0 w1 w2)) = lp28_0 n n := by
    funext w0 w1 w2; exact el28_0 n n w0 w1 w2
  rw [e0]
  rfl
theorem g28 (W : World) (n : Nat) : Good Try.prog W 28 (c28 n) := body_good follows tabOk (GamOk.cons (g9 W n) GamOk.nil) (f := 28) (fn := Try.f28) (c := bodyOf Try.f28) (by kernel_rfl) (by kernel_rfl) (by kernel_rfl) (by kernel_rfl) (by kernel_rfl) (by kernel_rfl) (by kernel_rfl) (fun x r h => ⟨n, (e28 n x).trans h⟩)
/-! laws.eqStore -/
noncomputable def F10 (n : Nat) (a0 : Int) (a1 : Int) (a2 : List (List (ByteArray × (Int × (Int × (Bool × (Int × (Int × (Int × (Int × (Int × Int))))))))))) (a3 : Int) (a4 : Int) (a5 : List (List (ByteArray × (Int × (Int × (Bool × (Int × (Int × (Int × (Int × (Int × Int))))))))))) : Option (Bool × Unit) :=
  if (decide (a0 ≠ a3)) = true then
    some (false, ())
  else
    if (decide (a1 ≠ a4)) = true then
      some (false, ())
    else
      (F28 n a2 a5).bind fun r1 =>
      if (!r1.1) = true then
        some (false, ())
      else
        some (true, ())
noncomputable def c10 (n : Nat) : Con := ⟨[.agg [(.int .i64), (.int .i64), (.sl (.imm true) 26 (.sl 49 (.pair .str (.pair (.int .i64) (.pair (.int .i64) (.pair .bool (.pair (.int .i64) (.pair (.int .i64) (.pair (.int .i64) (.pair (.int .i64) (.pair (.int .i64) (.int .i64))))))))))))], .agg [(.int .i64), (.int .i64), (.sl (.imm true) 26 (.sl 49 (.pair .str (.pair (.int .i64) (.pair (.int .i64) (.pair .bool (.pair (.int .i64) (.pair (.int .i64) (.pair (.int .i64) (.pair (.int .i64) (.pair (.int .i64) (.int .i64))))))))))))]], [], [.one (.bool)], [], fun (x : Int × Int × List (List (ByteArray × (Int × (Int × (Bool × (Int × (Int × (Int × (Int × (Int × Int)))))))))) × Int × Int × List (List (ByteArray × (Int × (Int × (Bool × (Int × (Int × (Int × (Int × (Int × Int)))))))))) × Unit) => F10 n x.1 x.2.1 x.2.2.1 x.2.2.2.1 x.2.2.2.2.1 x.2.2.2.2.2.1⟩
noncomputable def G10 (n : Nat) : Gam := [((28, []), c28 n)]
theorem e10 (n : Nat) (x : Int × Int × List (List (ByteArray × (Int × (Int × (Bool × (Int × (Int × (Int × (Int × (Int × Int)))))))))) × Int × Int × List (List (ByteArray × (Int × (Int × (Bool × (Int × (Int × (Int × (Int × (Int × Int)))))))))) × Unit) : evBody tab (G10 n) n (c10 n) Try.f10 x = F10 n x.1 x.2.1 x.2.2.1 x.2.2.2.1 x.2.2.2.2.1 x.2.2.2.2.2.1 := by kernel_rfl
theorem g10 (W : World) (n : Nat) : Good Try.prog W 10 (c10 n) := body_good follows tabOk (GamOk.cons (g28 W n) GamOk.nil) (f := 10) (fn := Try.f10) (c := bodyOf Try.f10) (by kernel_rfl) (by kernel_rfl) (by kernel_rfl) (by kernel_rfl) (by kernel_rfl) (by kernel_rfl) (by kernel_rfl) (fun x r h => ⟨n, (e10 n x).trans h⟩)
/-! laws.markText -/
noncomputable def st30_0 (n : Nat) (g0 : Int → ByteArray → Option (ByteArray × Unit)) (i0 : Int) (s1 : ByteArray) : Option (ByteArray × Unit) :=
  if (decide (i0 > 0)) = true then
    if (decide (10 ≠ 0)) = true then
    if (decide (((strOf ([(wrapI .u8 ((wrap64 (48 + (i0.tmod (10 : Int))))))] : List Int)).size + s1.size : Nat) ≤ 9223372036854775807)) = true then
    if (decide (10 ≠ 0)) = true then
    g0 (wrap64 (i0.tdiv (10 : Int))) ((strOf ([(wrapI .u8 ((wrap64 (48 + (i0.tmod (10 : Int))))))] : List Int)) ++ s1)
    else none
    else none
    else none
  else
    if (decide (((⟨#[109]⟩ : ByteArray).size + s1.size : Nat) ≤ 9223372036854775807)) = true then
    some (((⟨#[109]⟩ : ByteArray) ++ s1), ())
    else none
noncomputable def lp30_0 (n : Nat) : Nat → Int → ByteArray → Option (ByteArray × Unit)
  | 0 => fun _ _ => none
  | k + 1 => st30_0 n (lp30_0 n k)
noncomputable def st30 (n : Nat) (h0 : Int → ByteArray → Option (ByteArray × Unit)) (a0 : Int) : Option (ByteArray × Unit) :=
  if (decide (a0 ≤ 0)) = true then
    some ((⟨#[109, 48]⟩ : ByteArray), ())
  else
    h0 a0 (⟨#[]⟩ : ByteArray)
noncomputable def F30 (n : Nat) (a0 : Int) : Option (ByteArray × Unit) := st30 n (lp30_0 n n) a0
noncomputable def c30 (n : Nat) : Con := ⟨[.one (.int .i64)], [], [.one (.str)], [], fun (x : Int × Unit) => F30 n x.1⟩
noncomputable def G30 (n : Nat) : Gam := []
noncomputable def S30_0 (i0 : Int) (s1 : ByteArray) : St := ⟨[.int .i64 i0, .dead, .dead, .str s1] ++ List.replicate 16 .dead, List.replicate 20 Ob.none⟩
noncomputable def ga30_0 (n : Nat) (ks : List Nat) (k : Nat) (st : St) : Option (ByteArray × Unit) := goAt tab (G30 n) n (bodyOf Try.f30) (lvOf Try.f30) (lvOf Try.f30).ret [1, 1, 1, 0, 0] ks k st (evBody.endK tab (c30 n) Try.f30)
theorem el30_0 (n : Nat) : ∀ (k : Nat), ∀ (i0 : Int) (s1 : ByteArray), ga30_0 n [] k (S30_0 i0 s1) = lp30_0 n k i0 s1 := by
  intro k
  induction k with
  | zero => intros; rfl
  | succ k ih =>
    intro i0 s1
    have h : ga30_0 n [] (k + 1) (S30_0 i0 s1) = st30_0 n (fun w0 w1 => ga30_0 n [] k (S30_0 w0 w1)) i0 s1 := by kernel_rfl
    rw [h]
    have e : (fun w0 w1 => ga30_0 n [] k (S30_0 w0 w1)) = lp30_0 n k := by
      funext w0 w1; exact ih w0 w1
    rw [e]
    rfl
theorem e30 (n : Nat) (x : Int × Unit) : evBody tab (G30 n) n (c30 n) Try.f30 x = F30 n x.1 := by
  have h : evBody tab (G30 n) n (c30 n) Try.f30 x = st30 n (fun w0 w1 => ga30_0 n [] n (S30_0 w0 w1)) x.1 := by kernel_rfl
  rw [h]
  have e0 : (fun w0 w1 => ga30_0 n [] n (S30_0 w0 w1)) = lp30_0 n n := by
    funext w0 w1; exact el30_0 n n w0 w1
  rw [e0]
  rfl
theorem g30 (W : World) (n : Nat) : Good Try.prog W 30 (c30 n) := body_good follows tabOk GamOk.nil (f := 30) (fn := Try.f30) (c := bodyOf Try.f30) (by kernel_rfl) (by kernel_rfl) (by kernel_rfl) (by kernel_rfl) (by kernel_rfl) (by kernel_rfl) (by kernel_rfl) (fun x r h => ⟨n, (e30 n x).trans h⟩)
/-! laws.heldRowS -/
noncomputable def st13_0 (n : Nat) (g0 : (List (ByteArray × (Int × (Int × (Bool × (Int × (Int × (Int × (Int × (Int × Int)))))))))) → Int → Int → Option (Int × Unit)) (l0 : List (ByteArray × (Int × (Int × (Bool × (Int × (Int × (Int × (Int × (Int × Int)))))))))) (i1 : Int) (i2 : Int) : Option (Int × Unit) :=
  if (decide (i2 < (l0.length : Int))) = true then
    if (decide (0 ≤ i2)) = true then
    if (decide (i2 < (l0.length : Int))) = true then
    (F30 n i1).bind fun r1 =>
    if (!decide (((rdOf ((⟨#[]⟩ : ByteArray), ((0 : Int), ((0 : Int), (false, ((0 : Int), ((0 : Int), ((0 : Int), ((0 : Int), ((0 : Int), (0 : Int)))))))))) l0 i2).1).toList = r1.1.toList)) = true then
      some ((-1), ())
    else
      if (decide (0 ≤ i2)) = true then
      if (decide (i2 < (l0.length : Int))) = true then
      if (decide (((rdOf ((⟨#[]⟩ : ByteArray), ((0 : Int), ((0 : Int), (false, ((0 : Int), ((0 : Int), ((0 : Int), ((0 : Int), ((0 : Int), (0 : Int)))))))))) l0 i2).2).1 ≠ (wrap64 (i1 + 1)))) = true then
        some ((-1), ())
      else
        if (decide (0 ≤ i2)) = true then
        if (decide (i2 < (l0.length : Int))) = true then
        if (decide ((((rdOf ((⟨#[]⟩ : ByteArray), ((0 : Int), ((0 : Int), (false, ((0 : Int), ((0 : Int), ((0 : Int), ((0 : Int), ((0 : Int), (0 : Int)))))))))) l0 i2).2).2).1 ≠ (wrap64 ((wrap64 (i1 + 1)) + 1)))) = true then
          some ((-1), ())
        else
          if (decide (0 ≤ i2)) = true then
          if (decide (i2 < (l0.length : Int))) = true then
          if (decide (3 ≠ 0)) = true then
          if (!((((((rdOf ((⟨#[]⟩ : ByteArray), ((0 : Int), ((0 : Int), (false, ((0 : Int), ((0 : Int), ((0 : Int), ((0 : Int), ((0 : Int), (0 : Int)))))))))) l0 i2).2).2).2).1) == (decide (((wrap64 ((wrap64 ((wrap64 (i1 + 1)) + 1)) + 1)).tmod (3 : Int)) = 0)))) = true then
            some ((-1), ())
          else
            if (decide (0 ≤ i2)) = true then
            if (decide (i2 < (l0.length : Int))) = true then
            if (decide ((((((rdOf ((⟨#[]⟩ : ByteArray), ((0 : Int), ((0 : Int), (false, ((0 : Int), ((0 : Int), ((0 : Int), ((0 : Int), ((0 : Int), (0 : Int)))))))))) l0 i2).2).2).2).2).1 ≠ (wrap64 ((wrap64 ((wrap64 ((wrap64 (i1 + 1)) + 1)) + 1)) + 1)))) = true then
              some ((-1), ())
            else
              if (decide (0 ≤ i2)) = true then
              if (decide (i2 < (l0.length : Int))) = true then
              if (decide (((((((rdOf ((⟨#[]⟩ : ByteArray), ((0 : Int), ((0 : Int), (false, ((0 : Int), ((0 : Int), ((0 : Int), ((0 : Int), ((0 : Int), (0 : Int)))))))))) l0 i2).2).2).2).2).2).1 ≠ (wrap64 ((wrap64 ((wrap64 ((wrap64 ((wrap64 (i1 + 1)) + 1)) + 1)) + 1)) + 1)))) = true then
                some ((-1), ())
              else
                if (decide (0 ≤ i2)) = true then
                if (decide (i2 < (l0.length : Int))) = true then
                if (decide ((((((((rdOf ((⟨#[]⟩ : ByteArray), ((0 : Int), ((0 : Int), (false, ((0 : Int), ((0 : Int), ((0 : Int), ((0 : Int), ((0 : Int), (0 : Int)))))))))) l0 i2).2).2).2).2).2).2).1 ≠ (wrap64 ((wrap64 ((wrap64 ((wrap64 ((wrap64 ((wrap64 (i1 + 1)) + 1)) + 1)) + 1)) + 1)) + 1)))) = true then
                  some ((-1), ())
                else
                  if (decide (0 ≤ i2)) = true then
                  if (decide (i2 < (l0.length : Int))) = true then
                  if (decide (((((((((rdOf ((⟨#[]⟩ : ByteArray), ((0 : Int), ((0 : Int), (false, ((0 : Int), ((0 : Int), ((0 : Int), ((0 : Int), ((0 : Int), (0 : Int)))))))))) l0 i2).2).2).2).2).2).2).2).1 ≠ (wrap64 ((wrap64 ((wrap64 ((wrap64 ((wrap64 ((wrap64 ((wrap64 (i1 + 1)) + 1)) + 1)) + 1)) + 1)) + 1)) + 1)))) = true then
                    some ((-1), ())
                  else
                    if (decide (0 ≤ i2)) = true then
                    if (decide (i2 < (l0.length : Int))) = true then
                    if (decide ((((((((((rdOf ((⟨#[]⟩ : ByteArray), ((0 : Int), ((0 : Int), (false, ((0 : Int), ((0 : Int), ((0 : Int), ((0 : Int), ((0 : Int), (0 : Int)))))))))) l0 i2).2).2).2).2).2).2).2).2).1 ≠ (wrap64 ((wrap64 ((wrap64 ((wrap64 ((wrap64 ((wrap64 ((wrap64 ((wrap64 (i1 + 1)) + 1)) + 1)) + 1)) + 1)) + 1)) + 1)) + 1)))) = true then
                      some ((-1), ())
                    else
                      if (decide (0 ≤ i2)) = true then
                      if (decide (i2 < (l0.length : Int))) = true then
                      if (decide ((((((((((rdOf ((⟨#[]⟩ : ByteArray), ((0 : Int), ((0 : Int), (false, ((0 : Int), ((0 : Int), ((0 : Int), ((0 : Int), ((0 : Int), (0 : Int)))))))))) l0 i2).2).2).2).2).2).2).2).2).2 ≠ (wrap64 ((wrap64 ((wrap64 ((wrap64 ((wrap64 ((wrap64 ((wrap64 ((wrap64 ((wrap64 (i1 + 1)) + 1)) + 1)) + 1)) + 1)) + 1)) + 1)) + 1)) + 1)))) = true then
                        some ((-1), ())
                      else
                        g0 l0 (wrap64 ((wrap64 ((wrap64 ((wrap64 ((wrap64 ((wrap64 ((wrap64 ((wrap64 ((wrap64 ((wrap64 (i1 + 1)) + 1)) + 1)) + 1)) + 1)) + 1)) + 1)) + 1)) + 1)) + 1)) (wrap64 (i2 + 1))
                      else none
                      else none
                    else none
                    else none
                  else none
                  else none
                else none
                else none
              else none
              else none
            else none
            else none
          else none
          else none
          else none
        else none
        else none
      else none
      else none
    else none
    else none
  else
    some (i1, ())
noncomputable def lp13_0 (n : Nat) : Nat → (List (ByteArray × (Int × (Int × (Bool × (Int × (Int × (Int × (Int × (Int × Int)))))))))) → Int → Int → Option (Int × Unit)
  | 0 => fun _ _ _ => none
  | k + 1 => st13_0 n (lp13_0 n k)
noncomputable def st13 (n : Nat) (h0 : (List (ByteArray × (Int × (Int × (Bool × (Int × (Int × (Int × (Int × (Int × Int)))))))))) → Int → Int → Option (Int × Unit)) (a0 : List (ByteArray × (Int × (Int × (Bool × (Int × (Int × (Int × (Int × (Int × Int)))))))))) (a1 : Int) : Option (Int × Unit) :=
  h0 a0 a1 (0 : Int)
noncomputable def F13 (n : Nat) (a0 : List (ByteArray × (Int × (Int × (Bool × (Int × (Int × (Int × (Int × (Int × Int)))))))))) (a1 : Int) : Option (Int × Unit) := st13 n (lp13_0 n n) a0 a1
noncomputable def c13 (n : Nat) : Con := ⟨[.one (.sl (.imm true) 49 (.pair .str (.pair (.int .i64) (.pair (.int .i64) (.pair .bool (.pair (.int .i64) (.pair (.int .i64) (.pair (.int .i64) (.pair (.int .i64) (.pair (.int .i64) (.int .i64))))))))))), .one (.int .i64)], [], [.one (.int .i64)], [], fun (x : List (ByteArray × (Int × (Int × (Bool × (Int × (Int × (Int × (Int × (Int × Int))))))))) × Int × Unit) => F13 n x.1 x.2.1⟩
noncomputable def G13 (n : Nat) : Gam := [((30, []), c30 n)]
noncomputable def S13_0 (l0 : List (ByteArray × (Int × (Int × (Bool × (Int × (Int × (Int × (Int × (Int × Int)))))))))) (i1 : Int) (i2 : Int) : St := ⟨[.sl (.imm true) 49 (.pair .str (.pair (.int .i64) (.pair (.int .i64) (.pair .bool (.pair (.int .i64) (.pair (.int .i64) (.pair (.int .i64) (.pair (.int .i64) (.pair (.int .i64) (.int .i64)))))))))) l0, .int .i64 i1, .dead, .dead, .dead, .int .i64 i2] ++ List.replicate 100 .dead, List.replicate 106 Ob.none⟩
noncomputable def ga13_0 (n : Nat) (ks : List Nat) (k : Nat) (st : St) : Option (Int × Unit) := goAt tab (G13 n) n (bodyOf Try.f13) (lvOf Try.f13) (lvOf Try.f13).ret [1, 0, 1, 0] ks k st (evBody.endK tab (c13 n) Try.f13)
theorem el13_0 (n : Nat) : ∀ (k : Nat), ∀ (l0 : List (ByteArray × (Int × (Int × (Bool × (Int × (Int × (Int × (Int × (Int × Int)))))))))) (i1 : Int) (i2 : Int), ga13_0 n [] k (S13_0 l0 i1 i2) = lp13_0 n k l0 i1 i2 := by
  intro k
  induction k with
  | zero => intros; rfl
  | succ k ih =>
    intro l0 i1 i2
    have h : ga13_0 n [] (k + 1) (S13_0 l0 i1 i2) = st13_0 n (fun w0 w1 w2 => ga13_0 n [] k (S13_0 w0 w1 w2)) l0 i1 i2 := by kernel_rfl
    rw [h]
    have e : (fun w0 w1 w2 => ga13_0 n [] k (S13_0 w0 w1 w2)) = lp13_0 n k := by
      funext w0 w1 w2; exact ih w0 w1 w2
    rw [e]
    rfl
theorem e13 (n : Nat) (x : List (ByteArray × (Int × (Int × (Bool × (Int × (Int × (Int × (Int × (Int × Int))))))))) × Int × Unit) : evBody tab (G13 n) n (c13 n) Try.f13 x = F13 n x.1 x.2.1 := by
  have h : evBody tab (G13 n) n (c13 n) Try.f13 x = st13 n (fun w0 w1 w2 => ga13_0 n [] n (S13_0 w0 w1 w2)) x.1 x.2.1 := by kernel_rfl
  rw [h]
  have e0 : (fun w0 w1 w2 => ga13_0 n [] n (S13_0 w0 w1 w2)) = lp13_0 n n := by
    funext w0 w1 w2; exact el13_0 n n w0 w1 w2
  rw [e0]
  rfl
theorem g13 (W : World) (n : Nat) : Good Try.prog W 13 (c13 n) := body_good follows tabOk (GamOk.cons (g30 W n) GamOk.nil) (f := 13) (fn := Try.f13) (c := bodyOf Try.f13) (by kernel_rfl) (by kernel_rfl) (by kernel_rfl) (by kernel_rfl) (by kernel_rfl) (by kernel_rfl) (by kernel_rfl) (fun x r h => ⟨n, (e13 n x).trans h⟩)
end Go.Eva
end
section
/- The functions, as their texts evaluate. -/
set_option linter.unusedVariables false
set_option maxRecDepth 100000
namespace Go.Eva
open Go.Proofs
open Go.RowKit (wrap64)
/-! laws.heldRowSS -/
noncomputable def st37_0 (n : Nat) (g0 : (List (List (ByteArray × (Int × (Int × (Bool × (Int × (Int × (Int × (Int × (Int × Int))))))))))) → Int → Int → Option (Int × Unit)) (l0 : List (List (ByteArray × (Int × (Int × (Bool × (Int × (Int × (Int × (Int × (Int × Int))))))))))) (i1 : Int) (i2 : Int) : Option (Int × Unit) :=
  if (decide (i2 < (l0.length : Int))) = true then
    if (decide (0 ≤ i2)) = true then
    if (decide (i2 < (l0.length : Int))) = true then
    (F13 n (rdOf ([] : List (ByteArray × (Int × (Int × (Bool × (Int × (Int × (Int × (Int × (Int × Int)))))))))) l0 i2) i1).bind fun r1 =>
    if (decide (r1.1 < 0)) = true then
      some ((-1), ())
    else
      g0 l0 r1.1 (wrap64 (i2 + 1))
    else none
    else none
  else
    some (i1, ())
noncomputable def lp37_0 (n : Nat) : Nat → (List (List (ByteArray × (Int × (Int × (Bool × (Int × (Int × (Int × (Int × (Int × Int))))))))))) → Int → Int → Option (Int × Unit)
  | 0 => fun _ _ _ => none
  | k + 1 => st37_0 n (lp37_0 n k)
noncomputable def st37 (n : Nat) (h0 : (List (List (ByteArray × (Int × (Int × (Bool × (Int × (Int × (Int × (Int × (Int × Int))))))))))) → Int → Int → Option (Int × Unit)) (a0 : List (List (ByteArray × (Int × (Int × (Bool × (Int × (Int × (Int × (Int × (Int × Int))))))))))) (a1 : Int) : Option (Int × Unit) :=
  h0 a0 a1 (0 : Int)
noncomputable def F37 (n : Nat) (a0 : List (List (ByteArray × (Int × (Int × (Bool × (Int × (Int × (Int × (Int × (Int × Int))))))))))) (a1 : Int) : Option (Int × Unit) := st37 n (lp37_0 n n) a0 a1
noncomputable def c37 (n : Nat) : Con := ⟨[.one (.sl (.imm true) 26 (.sl 49 (.pair .str (.pair (.int .i64) (.pair (.int .i64) (.pair .bool (.pair (.int .i64) (.pair (.int .i64) (.pair (.int .i64) (.pair (.int .i64) (.pair (.int .i64) (.int .i64)))))))))))), .one (.int .i64)], [], [.one (.int .i64)], [], fun (x : List (List (ByteArray × (Int × (Int × (Bool × (Int × (Int × (Int × (Int × (Int × Int)))))))))) × Int × Unit) => F37 n x.1 x.2.1⟩
noncomputable def G37 (n : Nat) : Gam := [((13, []), c13 n)]
noncomputable def S37_0 (l0 : List (List (ByteArray × (Int × (Int × (Bool × (Int × (Int × (Int × (Int × (Int × Int))))))))))) (i1 : Int) (i2 : Int) : St := ⟨[.sl (.imm true) 26 (.sl 49 (.pair .str (.pair (.int .i64) (.pair (.int .i64) (.pair .bool (.pair (.int .i64) (.pair (.int .i64) (.pair (.int .i64) (.pair (.int .i64) (.pair (.int .i64) (.int .i64))))))))))) l0, .int .i64 i1, .dead, .dead, .dead, .int .i64 i2] ++ List.replicate 15 .dead, List.replicate 21 Ob.none⟩
noncomputable def ga37_0 (n : Nat) (ks : List Nat) (k : Nat) (st : St) : Option (Int × Unit) := goAt tab (G37 n) n (bodyOf Try.f37) (lvOf Try.f37) (lvOf Try.f37).ret [1, 0, 1, 0] ks k st (evBody.endK tab (c37 n) Try.f37)
theorem el37_0 (n : Nat) : ∀ (k : Nat), ∀ (l0 : List (List (ByteArray × (Int × (Int × (Bool × (Int × (Int × (Int × (Int × (Int × Int))))))))))) (i1 : Int) (i2 : Int), ga37_0 n [] k (S37_0 l0 i1 i2) = lp37_0 n k l0 i1 i2 := by
  intro k
  induction k with
  | zero => intros; rfl
  | succ k ih =>
    intro l0 i1 i2
    have h : ga37_0 n [] (k + 1) (S37_0 l0 i1 i2) = st37_0 n (fun w0 w1 w2 => ga37_0 n [] k (S37_0 w0 w1 w2)) l0 i1 i2 := by kernel_rfl
    rw [h]
    have e : (fun w0 w1 w2 => ga37_0 n [] k (S37_0 w0 w1 w2)) = lp37_0 n k := by
      funext w0 w1 w2; exact ih w0 w1 w2
    rw [e]
    rfl
theorem e37 (n : Nat) (x : List (List (ByteArray × (Int × (Int × (Bool × (Int × (Int × (Int × (Int × (Int × Int)))))))))) × Int × Unit) : evBody tab (G37 n) n (c37 n) Try.f37 x = F37 n x.1 x.2.1 := by
  have h : evBody tab (G37 n) n (c37 n) Try.f37 x = st37 n (fun w0 w1 w2 => ga37_0 n [] n (S37_0 w0 w1 w2)) x.1 x.2.1 := by kernel_rfl
  rw [h]
  have e0 : (fun w0 w1 w2 => ga37_0 n [] n (S37_0 w0 w1 w2)) = lp37_0 n n := by
    funext w0 w1 w2; exact el37_0 n n w0 w1 w2
  rw [e0]
  rfl
theorem g37 (W : World) (n : Nat) : Good Try.prog W 37 (c37 n) := body_good follows tabOk (GamOk.cons (g13 W n) GamOk.nil) (f := 37) (fn := Try.f37) (c := bodyOf Try.f37) (by kernel_rfl) (by kernel_rfl) (by kernel_rfl) (by kernel_rfl) (by kernel_rfl) (by kernel_rfl) (by kernel_rfl) (fun x r h => ⟨n, (e37 n x).trans h⟩)
/-! laws.heldStore -/
noncomputable def F18 (n : Nat) (a0 : Int) (a1 : Int) (a2 : List (List (ByteArray × (Int × (Int × (Bool × (Int × (Int × (Int × (Int × (Int × Int))))))))))) (a3 : Int) : Option (Int × Unit) :=
  (F37 n a2 a3).bind fun r1 =>
  if (decide (r1.1 < 0)) = true then
    some ((-1), ())
  else
    some (r1.1, ())
noncomputable def c18 (n : Nat) : Con := ⟨[.agg [(.int .i64), (.int .i64), (.sl (.imm true) 26 (.sl 49 (.pair .str (.pair (.int .i64) (.pair (.int .i64) (.pair .bool (.pair (.int .i64) (.pair (.int .i64) (.pair (.int .i64) (.pair (.int .i64) (.pair (.int .i64) (.int .i64))))))))))))], .one (.int .i64)], [], [.one (.int .i64)], [], fun (x : Int × Int × List (List (ByteArray × (Int × (Int × (Bool × (Int × (Int × (Int × (Int × (Int × Int)))))))))) × Int × Unit) => F18 n x.1 x.2.1 x.2.2.1 x.2.2.2.1⟩
noncomputable def G18 (n : Nat) : Gam := [((37, []), c37 n)]
theorem e18 (n : Nat) (x : Int × Int × List (List (ByteArray × (Int × (Int × (Bool × (Int × (Int × (Int × (Int × (Int × Int)))))))))) × Int × Unit) : evBody tab (G18 n) n (c18 n) Try.f18 x = F18 n x.1 x.2.1 x.2.2.1 x.2.2.2.1 := by kernel_rfl
theorem g18 (W : World) (n : Nat) : Good Try.prog W 18 (c18 n) := body_good follows tabOk (GamOk.cons (g37 W n) GamOk.nil) (f := 18) (fn := Try.f18) (c := bodyOf Try.f18) (by kernel_rfl) (by kernel_rfl) (by kernel_rfl) (by kernel_rfl) (by kernel_rfl) (by kernel_rfl) (by kernel_rfl) (fun x r h => ⟨n, (e18 n x).trans h⟩)
/-! laws.szRow -/
noncomputable def F31 (n : Nat) (a0 : ByteArray) (a1 : Int) (a2 : Int) (a3 : Bool) (a4 : Int) (a5 : Int) (a6 : Int) (a7 : Int) (a8 : Int) (a9 : Int) (a10 : Int) : Option (Int × Unit) :=
  if (decide ((wrap64 (a10 - (a0.size : Int))) < 0)) = true then
    some ((-1), ())
  else
    some ((wrap64 (a10 - (a0.size : Int))), ())
noncomputable def c31 (n : Nat) : Con := ⟨[.agg [(.str), (.int .i64), (.int .i64), (.bool), (.int .i64), (.int .i64), (.int .i64), (.int .i64), (.int .i64), (.int .i64)], .one (.int .i64)], [], [.one (.int .i64)], [], fun (x : ByteArray × Int × Int × Bool × Int × Int × Int × Int × Int × Int × Int × Unit) => F31 n x.1 x.2.1 x.2.2.1 x.2.2.2.1 x.2.2.2.2.1 x.2.2.2.2.2.1 x.2.2.2.2.2.2.1 x.2.2.2.2.2.2.2.1 x.2.2.2.2.2.2.2.2.1 x.2.2.2.2.2.2.2.2.2.1 x.2.2.2.2.2.2.2.2.2.2.1⟩
noncomputable def G31 (n : Nat) : Gam := []
theorem e31 (n : Nat) (x : ByteArray × Int × Int × Bool × Int × Int × Int × Int × Int × Int × Int × Unit) : evBody tab (G31 n) n (c31 n) Try.f31 x = F31 n x.1 x.2.1 x.2.2.1 x.2.2.2.1 x.2.2.2.2.1 x.2.2.2.2.2.1 x.2.2.2.2.2.2.1 x.2.2.2.2.2.2.2.1 x.2.2.2.2.2.2.2.2.1 x.2.2.2.2.2.2.2.2.2.1 x.2.2.2.2.2.2.2.2.2.2.1 := by kernel_rfl
theorem g31 (W : World) (n : Nat) : Good Try.prog W 31 (c31 n) := body_good follows tabOk GamOk.nil (f := 31) (fn := Try.f31) (c := bodyOf Try.f31) (by kernel_rfl) (by kernel_rfl) (by kernel_rfl) (by kernel_rfl) (by kernel_rfl) (by kernel_rfl) (by kernel_rfl) (fun x r h => ⟨n, (e31 n x).trans h⟩)
/-! laws.szRowS -/
noncomputable def st14_0 (n : Nat) (g0 : (List (ByteArray × (Int × (Int × (Bool × (Int × (Int × (Int × (Int × (Int × Int)))))))))) → Int → Int → Option (Int × Unit)) (l0 : List (ByteArray × (Int × (Int × (Bool × (Int × (Int × (Int × (Int × (Int × Int)))))))))) (i1 : Int) (i2 : Int) : Option (Int × Unit) :=
  if (decide (i2 < (l0.length : Int))) = true then
    if (decide (0 ≤ i2)) = true then
    if (decide (i2 < (l0.length : Int))) = true then
    (F31 n ((rdOf ((⟨#[]⟩ : ByteArray), ((0 : Int), ((0 : Int), (false, ((0 : Int), ((0 : Int), ((0 : Int), ((0 : Int), ((0 : Int), (0 : Int)))))))))) l0 i2).1) (((rdOf ((⟨#[]⟩ : ByteArray), ((0 : Int), ((0 : Int), (false, ((0 : Int), ((0 : Int), ((0 : Int), ((0 : Int), ((0 : Int), (0 : Int)))))))))) l0 i2).2).1) ((((rdOf ((⟨#[]⟩ : ByteArray), ((0 : Int), ((0 : Int), (false, ((0 : Int), ((0 : Int), ((0 : Int), ((0 : Int), ((0 : Int), (0 : Int)))))))))) l0 i2).2).2).1) (((((rdOf ((⟨#[]⟩ : ByteArray), ((0 : Int), ((0 : Int), (false, ((0 : Int), ((0 : Int), ((0 : Int), ((0 : Int), ((0 : Int), (0 : Int)))))))))) l0 i2).2).2).2).1) ((((((rdOf ((⟨#[]⟩ : ByteArray), ((0 : Int), ((0 : Int), (false, ((0 : Int), ((0 : Int), ((0 : Int), ((0 : Int), ((0 : Int), (0 : Int)))))))))) l0 i2).2).2).2).2).1) (((((((rdOf ((⟨#[]⟩ : ByteArray), ((0 : Int), ((0 : Int), (false, ((0 : Int), ((0 : Int), ((0 : Int), ((0 : Int), ((0 : Int), (0 : Int)))))))))) l0 i2).2).2).2).2).2).1) ((((((((rdOf ((⟨#[]⟩ : ByteArray), ((0 : Int), ((0 : Int), (false, ((0 : Int), ((0 : Int), ((0 : Int), ((0 : Int), ((0 : Int), (0 : Int)))))))))) l0 i2).2).2).2).2).2).2).1) (((((((((rdOf ((⟨#[]⟩ : ByteArray), ((0 : Int), ((0 : Int), (false, ((0 : Int), ((0 : Int), ((0 : Int), ((0 : Int), ((0 : Int), (0 : Int)))))))))) l0 i2).2).2).2).2).2).2).2).1) ((((((((((rdOf ((⟨#[]⟩ : ByteArray), ((0 : Int), ((0 : Int), (false, ((0 : Int), ((0 : Int), ((0 : Int), ((0 : Int), ((0 : Int), (0 : Int)))))))))) l0 i2).2).2).2).2).2).2).2).2).1) ((((((((((rdOf ((⟨#[]⟩ : ByteArray), ((0 : Int), ((0 : Int), (false, ((0 : Int), ((0 : Int), ((0 : Int), ((0 : Int), ((0 : Int), (0 : Int)))))))))) l0 i2).2).2).2).2).2).2).2).2).2) i1).bind fun r1 =>
    if (decide (r1.1 < 0)) = true then
      some ((-1), ())
    else
      g0 l0 r1.1 (wrap64 (i2 + 1))
    else none
    else none
  else
    some (i1, ())
noncomputable def lp14_0 (n : Nat) : Nat → (List (ByteArray × (Int × (Int × (Bool × (Int × (Int × (Int × (Int × (Int × Int)))))))))) → Int → Int → Option (Int × Unit)
  | 0 => fun _ _ _ => none
  | k + 1 => st14_0 n (lp14_0 n k)
noncomputable def st14 (n : Nat) (h0 : (List (ByteArray × (Int × (Int × (Bool × (Int × (Int × (Int × (Int × (Int × Int)))))))))) → Int → Int → Option (Int × Unit)) (a0 : List (ByteArray × (Int × (Int × (Bool × (Int × (Int × (Int × (Int × (Int × Int)))))))))) (a1 : Int) : Option (Int × Unit) :=
  if (decide ((wrap64 (a1 - (a0.length : Int))) < 0)) = true then
    some ((-1), ())
  else
    h0 a0 (wrap64 (a1 - (a0.length : Int))) (0 : Int)
noncomputable def F14 (n : Nat) (a0 : List (ByteArray × (Int × (Int × (Bool × (Int × (Int × (Int × (Int × (Int × Int)))))))))) (a1 : Int) : Option (Int × Unit) := st14 n (lp14_0 n n) a0 a1
noncomputable def c14 (n : Nat) : Con := ⟨[.one (.sl (.imm true) 54 (.pair .str (.pair (.int .i64) (.pair (.int .i64) (.pair .bool (.pair (.int .i64) (.pair (.int .i64) (.pair (.int .i64) (.pair (.int .i64) (.pair (.int .i64) (.int .i64))))))))))), .one (.int .i64)], [], [.one (.int .i64)], [], fun (x : List (ByteArray × (Int × (Int × (Bool × (Int × (Int × (Int × (Int × (Int × Int))))))))) × Int × Unit) => F14 n x.1 x.2.1⟩
noncomputable def G14 (n : Nat) : Gam := [((31, []), c31 n)]
noncomputable def S14_0 (l0 : List (ByteArray × (Int × (Int × (Bool × (Int × (Int × (Int × (Int × (Int × Int)))))))))) (i1 : Int) (i2 : Int) : St := ⟨[.sl (.imm true) 54 (.pair .str (.pair (.int .i64) (.pair (.int .i64) (.pair .bool (.pair (.int .i64) (.pair (.int .i64) (.pair (.int .i64) (.pair (.int .i64) (.pair (.int .i64) (.int .i64)))))))))) l0, .int .i64 i1, .dead, .dead, .dead, .int .i64 i2] ++ List.replicate 21 .dead, List.replicate 27 Ob.none⟩
noncomputable def ga14_0 (n : Nat) (ks : List Nat) (k : Nat) (st : St) : Option (Int × Unit) := goAt tab (G14 n) n (bodyOf Try.f14) (lvOf Try.f14) (lvOf Try.f14).ret [1, 1, 1, 0, 1, 0] ks k st (evBody.endK tab (c14 n) Try.f14)
theorem el14_0 (n : Nat) : ∀ (k : Nat), ∀ (l0 : List (ByteArray × (Int × (Int × (Bool × (Int × (Int × (Int × (Int × (Int × Int)))))))))) (i1 : Int) (i2 : Int), ga14_0 n [] k (S14_0 l0 i1 i2) = lp14_0 n k l0 i1 i2 := by
  intro k
  induction k with
  | zero => intros; rfl
  | succ k ih =>
    intro l0 i1 i2
    have h : ga14_0 n [] (k + 1) (S14_0 l0 i1 i2) = st14_0 n (fun w0 w1 w2 => ga14_0 n [] k (S14_0 w0 w1 w2)) l0 i1 i2 := by kernel_rfl
    rw [h]
    have e : (fun w0 w1 w2 => ga14_0 n [] k (S14_0 w0 w1 w2)) = lp14_0 n k := by
      funext w0 w1 w2; exact ih w0 w1 w2
    rw [e]
    rfl
theorem e14 (n : Nat) (x : List (ByteArray × (Int × (Int × (Bool × (Int × (Int × (Int × (Int × (Int × Int))))))))) × Int × Unit) : evBody tab (G14 n) n (c14 n) Try.f14 x = F14 n x.1 x.2.1 := by
  have h : evBody tab (G14 n) n (c14 n) Try.f14 x = st14 n (fun w0 w1 w2 => ga14_0 n [] n (S14_0 w0 w1 w2)) x.1 x.2.1 := by kernel_rfl
  rw [h]
  have e0 : (fun w0 w1 w2 => ga14_0 n [] n (S14_0 w0 w1 w2)) = lp14_0 n n := by
    funext w0 w1 w2; exact el14_0 n n w0 w1 w2
  rw [e0]
  rfl
theorem g14 (W : World) (n : Nat) : Good Try.prog W 14 (c14 n) := body_good follows tabOk (GamOk.cons (g31 W n) GamOk.nil) (f := 14) (fn := Try.f14) (c := bodyOf Try.f14) (by kernel_rfl) (by kernel_rfl) (by kernel_rfl) (by kernel_rfl) (by kernel_rfl) (by kernel_rfl) (by kernel_rfl) (fun x r h => ⟨n, (e14 n x).trans h⟩)
/-! laws.szRowSS -/
noncomputable def st19_0 (n : Nat) (g0 : (List (List (ByteArray × (Int × (Int × (Bool × (Int × (Int × (Int × (Int × (Int × Int))))))))))) → Int → Int → Option (Int × Unit)) (l0 : List (List (ByteArray × (Int × (Int × (Bool × (Int × (Int × (Int × (Int × (Int × Int))))))))))) (i1 : Int) (i2 : Int) : Option (Int × Unit) :=
  if (decide (i2 < (l0.length : Int))) = true then
    if (decide (0 ≤ i2)) = true then
    if (decide (i2 < (l0.length : Int))) = true then
    (F14 n (rdOf ([] : List (ByteArray × (Int × (Int × (Bool × (Int × (Int × (Int × (Int × (Int × Int)))))))))) l0 i2) i1).bind fun r1 =>
    if (decide (r1.1 < 0)) = true then
      some ((-1), ())
    else
      g0 l0 r1.1 (wrap64 (i2 + 1))
    else none
    else none
  else
    some (i1, ())
noncomputable def lp19_0 (n : Nat) : Nat → (List (List (ByteArray × (Int × (Int × (Bool × (Int × (Int × (Int × (Int × (Int × Int))))))))))) → Int → Int → Option (Int × Unit)
  | 0 => fun _ _ _ => none
  | k + 1 => st19_0 n (lp19_0 n k)
noncomputable def st19 (n : Nat) (h0 : (List (List (ByteArray × (Int × (Int × (Bool × (Int × (Int × (Int × (Int × (Int × Int))))))))))) → Int → Int → Option (Int × Unit)) (a0 : List (List (ByteArray × (Int × (Int × (Bool × (Int × (Int × (Int × (Int × (Int × Int))))))))))) (a1 : Int) : Option (Int × Unit) :=
  if (decide ((wrap64 (a1 - (a0.length : Int))) < 0)) = true then
    some ((-1), ())
  else
    h0 a0 (wrap64 (a1 - (a0.length : Int))) (0 : Int)
noncomputable def F19 (n : Nat) (a0 : List (List (ByteArray × (Int × (Int × (Bool × (Int × (Int × (Int × (Int × (Int × Int))))))))))) (a1 : Int) : Option (Int × Unit) := st19 n (lp19_0 n n) a0 a1
noncomputable def c19 (n : Nat) : Con := ⟨[.one (.sl (.imm true) 37 (.sl 54 (.pair .str (.pair (.int .i64) (.pair (.int .i64) (.pair .bool (.pair (.int .i64) (.pair (.int .i64) (.pair (.int .i64) (.pair (.int .i64) (.pair (.int .i64) (.int .i64)))))))))))), .one (.int .i64)], [], [.one (.int .i64)], [], fun (x : List (List (ByteArray × (Int × (Int × (Bool × (Int × (Int × (Int × (Int × (Int × Int)))))))))) × Int × Unit) => F19 n x.1 x.2.1⟩
noncomputable def G19 (n : Nat) : Gam := [((14, []), c14 n)]
noncomputable def S19_0 (l0 : List (List (ByteArray × (Int × (Int × (Bool × (Int × (Int × (Int × (Int × (Int × Int))))))))))) (i1 : Int) (i2 : Int) : St := ⟨[.sl (.imm true) 37 (.sl 54 (.pair .str (.pair (.int .i64) (.pair (.int .i64) (.pair .bool (.pair (.int .i64) (.pair (.int .i64) (.pair (.int .i64) (.pair (.int .i64) (.pair (.int .i64) (.int .i64))))))))))) l0, .int .i64 i1, .dead, .dead, .dead, .int .i64 i2] ++ List.replicate 21 .dead, List.replicate 27 Ob.none⟩
noncomputable def ga19_0 (n : Nat) (ks : List Nat) (k : Nat) (st : St) : Option (Int × Unit) := goAt tab (G19 n) n (bodyOf Try.f19) (lvOf Try.f19) (lvOf Try.f19).ret [1, 1, 1, 0, 1, 0] ks k st (evBody.endK tab (c19 n) Try.f19)
theorem el19_0 (n : Nat) : ∀ (k : Nat), ∀ (l0 : List (List (ByteArray × (Int × (Int × (Bool × (Int × (Int × (Int × (Int × (Int × Int))))))))))) (i1 : Int) (i2 : Int), ga19_0 n [] k (S19_0 l0 i1 i2) = lp19_0 n k l0 i1 i2 := by
  intro k
  induction k with
  | zero => intros; rfl
  | succ k ih =>
    intro l0 i1 i2
    have h : ga19_0 n [] (k + 1) (S19_0 l0 i1 i2) = st19_0 n (fun w0 w1 w2 => ga19_0 n [] k (S19_0 w0 w1 w2)) l0 i1 i2 := by kernel_rfl
    rw [h]
    have e : (fun w0 w1 w2 => ga19_0 n [] k (S19_0 w0 w1 w2)) = lp19_0 n k := by
      funext w0 w1 w2; exact ih w0 w1 w2
    rw [e]
    rfl
theorem e19 (n : Nat) (x : List (List (ByteArray × (Int × (Int × (Bool × (Int × (Int × (Int × (Int × (Int × Int)))))))))) × Int × Unit) : evBody tab (G19 n) n (c19 n) Try.f19 x = F19 n x.1 x.2.1 := by
  have h : evBody tab (G19 n) n (c19 n) Try.f19 x = st19 n (fun w0 w1 w2 => ga19_0 n [] n (S19_0 w0 w1 w2)) x.1 x.2.1 := by kernel_rfl
  rw [h]
  have e0 : (fun w0 w1 w2 => ga19_0 n [] n (S19_0 w0 w1 w2)) = lp19_0 n n := by
    funext w0 w1 w2; exact el19_0 n n w0 w1 w2
  rw [e0]
  rfl
theorem g19 (W : World) (n : Nat) : Good Try.prog W 19 (c19 n) := body_good follows tabOk (GamOk.cons (g14 W n) GamOk.nil) (f := 19) (fn := Try.f19) (c := bodyOf Try.f19) (by kernel_rfl) (by kernel_rfl) (by kernel_rfl) (by kernel_rfl) (by kernel_rfl) (by kernel_rfl) (by kernel_rfl) (fun x r h => ⟨n, (e19 n x).trans h⟩)
/-! laws.szStore -/
noncomputable def F5 (n : Nat) (a0 : Int) (a1 : Int) (a2 : List (List (ByteArray × (Int × (Int × (Bool × (Int × (Int × (Int × (Int × (Int × Int))))))))))) (a3 : Int) : Option (Int × Unit) :=
  (F19 n a2 a3).bind fun r1 =>
  if (decide (r1.1 < 0)) = true then
    some ((-1), ())
  else
    some (r1.1, ())
noncomputable def c5 (n : Nat) : Con := ⟨[.agg [(.int .i64), (.int .i64), (.sl (.imm true) 37 (.sl 54 (.pair .str (.pair (.int .i64) (.pair (.int .i64) (.pair .bool (.pair (.int .i64) (.pair (.int .i64) (.pair (.int .i64) (.pair (.int .i64) (.pair (.int .i64) (.int .i64))))))))))))], .one (.int .i64)], [], [.one (.int .i64)], [], fun (x : Int × Int × List (List (ByteArray × (Int × (Int × (Bool × (Int × (Int × (Int × (Int × (Int × Int)))))))))) × Int × Unit) => F5 n x.1 x.2.1 x.2.2.1 x.2.2.2.1⟩
noncomputable def G5 (n : Nat) : Gam := [((19, []), c19 n)]
theorem e5 (n : Nat) (x : Int × Int × List (List (ByteArray × (Int × (Int × (Bool × (Int × (Int × (Int × (Int × (Int × Int)))))))))) × Int × Unit) : evBody tab (G5 n) n (c5 n) Try.f5 x = F5 n x.1 x.2.1 x.2.2.1 x.2.2.2.1 := by kernel_rfl
theorem g5 (W : World) (n : Nat) : Good Try.prog W 5 (c5 n) := body_good follows tabOk (GamOk.cons (g19 W n) GamOk.nil) (f := 5) (fn := Try.f5) (c := bodyOf Try.f5) (by kernel_rfl) (by kernel_rfl) (by kernel_rfl) (by kernel_rfl) (by kernel_rfl) (by kernel_rfl) (by kernel_rfl) (fun x r h => ⟨n, (e5 n x).trans h⟩)
/-! laws.toRow -/
noncomputable def F34 (n : Nat) (a0 : ByteArray) (a1 : Int) (a2 : Int) (a3 : Bool) (a4 : Int) (a5 : Int) (a6 : Int) (a7 : Int) (a8 : Int) (a9 : Int) : Option (ByteArray × Int × Int × Bool × Int × Int × Int × Int × Int × Int × Unit) :=
  some (a0, a1, a2, a3, a4, a5, a6, a7, a8, a9, ())
noncomputable def c34 (n : Nat) : Con := ⟨[.agg [(.str), (.int .i64), (.int .i64), (.bool), (.int .i64), (.int .i64), (.int .i64), (.int .i64), (.int .i64), (.int .i64)]], [], [.agg [(.str), (.int .i64), (.int .i64), (.bool), (.int .i64), (.int .i64), (.int .i64), (.int .i64), (.int .i64), (.int .i64)]], [], fun (x : ByteArray × Int × Int × Bool × Int × Int × Int × Int × Int × Int × Unit) => F34 n x.1 x.2.1 x.2.2.1 x.2.2.2.1 x.2.2.2.2.1 x.2.2.2.2.2.1 x.2.2.2.2.2.2.1 x.2.2.2.2.2.2.2.1 x.2.2.2.2.2.2.2.2.1 x.2.2.2.2.2.2.2.2.2.1⟩
noncomputable def G34 (n : Nat) : Gam := []
theorem e34 (n : Nat) (x : ByteArray × Int × Int × Bool × Int × Int × Int × Int × Int × Int × Unit) : evBody tab (G34 n) n (c34 n) Try.f34 x = F34 n x.1 x.2.1 x.2.2.1 x.2.2.2.1 x.2.2.2.2.1 x.2.2.2.2.2.1 x.2.2.2.2.2.2.1 x.2.2.2.2.2.2.2.1 x.2.2.2.2.2.2.2.2.1 x.2.2.2.2.2.2.2.2.2.1 := by kernel_rfl
theorem g34 (W : World) (n : Nat) : Good Try.prog W 34 (c34 n) := body_good follows tabOk GamOk.nil (f := 34) (fn := Try.f34) (c := bodyOf Try.f34) (by kernel_rfl) (by kernel_rfl) (by kernel_rfl) (by kernel_rfl) (by kernel_rfl) (by kernel_rfl) (by kernel_rfl) (fun x r h => ⟨n, (e34 n x).trans h⟩)
/-! laws.toRowS -/
noncomputable def st16_0 (n : Nat) (g0 : (List (ByteArray × (Int × (Int × (Bool × (Int × (Int × (Int × (Int × (Int × Int)))))))))) → Int → (List (ByteArray × (Int × (Int × (Bool × (Int × (Int × (Int × (Int × (Int × Int)))))))))) → Option (List (ByteArray × (Int × (Int × (Bool × (Int × (Int × (Int × (Int × (Int × Int))))))))) × Unit)) (l0 : List (ByteArray × (Int × (Int × (Bool × (Int × (Int × (Int × (Int × (Int × Int)))))))))) (i1 : Int) (l2 : List (ByteArray × (Int × (Int × (Bool × (Int × (Int × (Int × (Int × (Int × Int)))))))))) : Option (List (ByteArray × (Int × (Int × (Bool × (Int × (Int × (Int × (Int × (Int × Int))))))))) × Unit) :=
  if (decide (i1 < (l0.length : Int))) = true then
    if (decide (0 ≤ i1)) = true then
    if (decide (i1 < (l0.length : Int))) = true then
    (F34 n ((rdOf ((⟨#[]⟩ : ByteArray), ((0 : Int), ((0 : Int), (false, ((0 : Int), ((0 : Int), ((0 : Int), ((0 : Int), ((0 : Int), (0 : Int)))))))))) l0 i1).1) (((rdOf ((⟨#[]⟩ : ByteArray), ((0 : Int), ((0 : Int), (false, ((0 : Int), ((0 : Int), ((0 : Int), ((0 : Int), ((0 : Int), (0 : Int)))))))))) l0 i1).2).1) ((((rdOf ((⟨#[]⟩ : ByteArray), ((0 : Int), ((0 : Int), (false, ((0 : Int), ((0 : Int), ((0 : Int), ((0 : Int), ((0 : Int), (0 : Int)))))))))) l0 i1).2).2).1) (((((rdOf ((⟨#[]⟩ : ByteArray), ((0 : Int), ((0 : Int), (false, ((0 : Int), ((0 : Int), ((0 : Int), ((0 : Int), ((0 : Int), (0 : Int)))))))))) l0 i1).2).2).2).1) ((((((rdOf ((⟨#[]⟩ : ByteArray), ((0 : Int), ((0 : Int), (false, ((0 : Int), ((0 : Int), ((0 : Int), ((0 : Int), ((0 : Int), (0 : Int)))))))))) l0 i1).2).2).2).2).1) (((((((rdOf ((⟨#[]⟩ : ByteArray), ((0 : Int), ((0 : Int), (false, ((0 : Int), ((0 : Int), ((0 : Int), ((0 : Int), ((0 : Int), (0 : Int)))))))))) l0 i1).2).2).2).2).2).1) ((((((((rdOf ((⟨#[]⟩ : ByteArray), ((0 : Int), ((0 : Int), (false, ((0 : Int), ((0 : Int), ((0 : Int), ((0 : Int), ((0 : Int), (0 : Int)))))))))) l0 i1).2).2).2).2).2).2).1) (((((((((rdOf ((⟨#[]⟩ : ByteArray), ((0 : Int), ((0 : Int), (false, ((0 : Int), ((0 : Int), ((0 : Int), ((0 : Int), ((0 : Int), (0 : Int)))))))))) l0 i1).2).2).2).2).2).2).2).1) ((((((((((rdOf ((⟨#[]⟩ : ByteArray), ((0 : Int), ((0 : Int), (false, ((0 : Int), ((0 : Int), ((0 : Int), ((0 : Int), ((0 : Int), (0 : Int)))))))))) l0 i1).2).2).2).2).2).2).2).2).1) ((((((((((rdOf ((⟨#[]⟩ : ByteArray), ((0 : Int), ((0 : Int), (false, ((0 : Int), ((0 : Int), ((0 : Int), ((0 : Int), ((0 : Int), (0 : Int)))))))))) l0 i1).2).2).2).2).2).2).2).2).2)).bind fun r1 =>
    if (decide (0 ≤ i1)) = true then
    if (decide (i1 < (l2.length : Int))) = true then
    g0 l0 (wrap64 (i1 + 1)) (l2.set i1.toNat (r1.1, (r1.2.1, (r1.2.2.1, (r1.2.2.2.1, (r1.2.2.2.2.1, (r1.2.2.2.2.2.1, (r1.2.2.2.2.2.2.1, (r1.2.2.2.2.2.2.2.1, (r1.2.2.2.2.2.2.2.2.1, r1.2.2.2.2.2.2.2.2.2.1))))))))))
    else none
    else none
    else none
    else none
  else
    some (l2, ())
noncomputable def lp16_0 (n : Nat) : Nat → (List (ByteArray × (Int × (Int × (Bool × (Int × (Int × (Int × (Int × (Int × Int)))))))))) → Int → (List (ByteArray × (Int × (Int × (Bool × (Int × (Int × (Int × (Int × (Int × Int)))))))))) → Option (List (ByteArray × (Int × (Int × (Bool × (Int × (Int × (Int × (Int × (Int × Int))))))))) × Unit)
  | 0 => fun _ _ _ => none
  | k + 1 => st16_0 n (lp16_0 n k)
noncomputable def st16 (n : Nat) (h0 : (List (ByteArray × (Int × (Int × (Bool × (Int × (Int × (Int × (Int × (Int × Int)))))))))) → Int → (List (ByteArray × (Int × (Int × (Bool × (Int × (Int × (Int × (Int × (Int × Int)))))))))) → Option (List (ByteArray × (Int × (Int × (Bool × (Int × (Int × (Int × (Int × (Int × Int))))))))) × Unit)) (a0 : List (ByteArray × (Int × (Int × (Bool × (Int × (Int × (Int × (Int × (Int × Int)))))))))) : Option (List (ByteArray × (Int × (Int × (Bool × (Int × (Int × (Int × (Int × (Int × Int))))))))) × Unit) :=
  if (decide (0 ≤ (a0.length : Int))) = true then
  if (decide ((a0.length : Int) = (a0.length : Int))) = true then
  if (decide ((a0.length : Int) * 88 ≤ 140737488355328)) = true then
  h0 a0 (0 : Int) (List.replicate (a0.length : Int).toNat ((⟨#[]⟩ : ByteArray), ((0 : Int), ((0 : Int), (false, ((0 : Int), ((0 : Int), ((0 : Int), ((0 : Int), ((0 : Int), (0 : Int)))))))))))
  else none
  else none
  else none
noncomputable def F16 (n : Nat) (a0 : List (ByteArray × (Int × (Int × (Bool × (Int × (Int × (Int × (Int × (Int × Int)))))))))) : Option (List (ByteArray × (Int × (Int × (Bool × (Int × (Int × (Int × (Int × (Int × Int))))))))) × Unit) := st16 n (lp16_0 n n) a0
noncomputable def c16 (n : Nat) : Con := ⟨[.one (.sl (.imm true) 54 (.pair .str (.pair (.int .i64) (.pair (.int .i64) (.pair .bool (.pair (.int .i64) (.pair (.int .i64) (.pair (.int .i64) (.pair (.int .i64) (.pair (.int .i64) (.int .i64)))))))))))], [], [.one (.sl .own 49 (.pair .str (.pair (.int .i64) (.pair (.int .i64) (.pair .bool (.pair (.int .i64) (.pair (.int .i64) (.pair (.int .i64) (.pair (.int .i64) (.pair (.int .i64) (.int .i64)))))))))))], [], fun (x : List (ByteArray × (Int × (Int × (Bool × (Int × (Int × (Int × (Int × (Int × Int))))))))) × Unit) => F16 n x.1⟩
noncomputable def G16 (n : Nat) : Gam := [((34, []), c34 n)]
noncomputable def S16_0 (l0 : List (ByteArray × (Int × (Int × (Bool × (Int × (Int × (Int × (Int × (Int × Int)))))))))) (i1 : Int) (l2 : List (ByteArray × (Int × (Int × (Bool × (Int × (Int × (Int × (Int × (Int × Int)))))))))) : St := ⟨[.sl (.imm true) 54 (.pair .str (.pair (.int .i64) (.pair (.int .i64) (.pair .bool (.pair (.int .i64) (.pair (.int .i64) (.pair (.int .i64) (.pair (.int .i64) (.pair (.int .i64) (.int .i64)))))))))) l0, .dead, .dead, .sr 3 0 none 0 0 none, .int .i64 i1] ++ List.replicate 18 .dead, [Ob.none, Ob.none, Ob.none, ⟨false, [.sl .own 49 (.pair .str (.pair (.int .i64) (.pair (.int .i64) (.pair .bool (.pair (.int .i64) (.pair (.int .i64) (.pair (.int .i64) (.pair (.int .i64) (.pair (.int .i64) (.int .i64)))))))))) l2], 0, 0⟩] ++ List.replicate 19 Ob.none⟩
noncomputable def ga16_0 (n : Nat) (ks : List Nat) (k : Nat) (st : St) : Option (List (ByteArray × (Int × (Int × (Bool × (Int × (Int × (Int × (Int × (Int × Int))))))))) × Unit) := goAt tab (G16 n) n (bodyOf Try.f16) (lvOf Try.f16) (lvOf Try.f16).ret [1, 1, 0, 1, 0] ks k st (evBody.endK tab (c16 n) Try.f16)
theorem el16_0 (n : Nat) : ∀ (k : Nat), ∀ (l0 : List (ByteArray × (Int × (Int × (Bool × (Int × (Int × (Int × (Int × (Int × Int)))))))))) (i1 : Int) (l2 : List (ByteArray × (Int × (Int × (Bool × (Int × (Int × (Int × (Int × (Int × Int)))))))))), ga16_0 n [] k (S16_0 l0 i1 l2) = lp16_0 n k l0 i1 l2 := by
  intro k
  induction k with
  | zero => intros; rfl
  | succ k ih =>
    intro l0 i1 l2
    have h : ga16_0 n [] (k + 1) (S16_0 l0 i1 l2) = st16_0 n (fun w0 w1 w2 => ga16_0 n [] k (S16_0 w0 w1 w2)) l0 i1 l2 := by kernel_rfl
    rw [h]
    have e : (fun w0 w1 w2 => ga16_0 n [] k (S16_0 w0 w1 w2)) = lp16_0 n k := by
      funext w0 w1 w2; exact ih w0 w1 w2
    rw [e]
    rfl
theorem e16 (n : Nat) (x : List (ByteArray × (Int × (Int × (Bool × (Int × (Int × (Int × (Int × (Int × Int))))))))) × Unit) : evBody tab (G16 n) n (c16 n) Try.f16 x = F16 n x.1 := by
  have h : evBody tab (G16 n) n (c16 n) Try.f16 x = st16 n (fun w0 w1 w2 => ga16_0 n [] n (S16_0 w0 w1 w2)) x.1 := by kernel_rfl
  rw [h]
  have e0 : (fun w0 w1 w2 => ga16_0 n [] n (S16_0 w0 w1 w2)) = lp16_0 n n := by
    funext w0 w1 w2; exact el16_0 n n w0 w1 w2
  rw [e0]
  rfl
theorem g16 (W : World) (n : Nat) : Good Try.prog W 16 (c16 n) := body_good follows tabOk (GamOk.cons (g34 W n) GamOk.nil) (f := 16) (fn := Try.f16) (c := bodyOf Try.f16) (by kernel_rfl) (by kernel_rfl) (by kernel_rfl) (by kernel_rfl) (by kernel_rfl) (by kernel_rfl) (by kernel_rfl) (fun x r h => ⟨n, (e16 n x).trans h⟩)
/-! laws.toRowSS -/
noncomputable def st23_0 (n : Nat) (g0 : (List (List (ByteArray × (Int × (Int × (Bool × (Int × (Int × (Int × (Int × (Int × Int))))))))))) → Int → (List (List (ByteArray × (Int × (Int × (Bool × (Int × (Int × (Int × (Int × (Int × Int))))))))))) → Option (List (List (ByteArray × (Int × (Int × (Bool × (Int × (Int × (Int × (Int × (Int × Int)))))))))) × Unit)) (l0 : List (List (ByteArray × (Int × (Int × (Bool × (Int × (Int × (Int × (Int × (Int × Int))))))))))) (i1 : Int) (l2 : List (List (ByteArray × (Int × (Int × (Bool × (Int × (Int × (Int × (Int × (Int × Int))))))))))) : Option (List (List (ByteArray × (Int × (Int × (Bool × (Int × (Int × (Int × (Int × (Int × Int)))))))))) × Unit) :=
  if (decide (i1 < (l0.length : Int))) = true then
    if (decide (0 ≤ i1)) = true then
    if (decide (i1 < (l0.length : Int))) = true then
    (F16 n (rdOf ([] : List (ByteArray × (Int × (Int × (Bool × (Int × (Int × (Int × (Int × (Int × Int)))))))))) l0 i1)).bind fun r1 =>
    if (decide (0 ≤ i1)) = true then
    if (decide (i1 < (l2.length : Int))) = true then
    g0 l0 (wrap64 (i1 + 1)) (l2.set i1.toNat r1.1)
    else none
    else none
    else none
    else none
  else
    some (l2, ())
noncomputable def lp23_0 (n : Nat) : Nat → (List (List (ByteArray × (Int × (Int × (Bool × (Int × (Int × (Int × (Int × (Int × Int))))))))))) → Int → (List (List (ByteArray × (Int × (Int × (Bool × (Int × (Int × (Int × (Int × (Int × Int))))))))))) → Option (List (List (ByteArray × (Int × (Int × (Bool × (Int × (Int × (Int × (Int × (Int × Int)))))))))) × Unit)
  | 0 => fun _ _ _ => none
  | k + 1 => st23_0 n (lp23_0 n k)
noncomputable def st23 (n : Nat) (h0 : (List (List (ByteArray × (Int × (Int × (Bool × (Int × (Int × (Int × (Int × (Int × Int))))))))))) → Int → (List (List (ByteArray × (Int × (Int × (Bool × (Int × (Int × (Int × (Int × (Int × Int))))))))))) → Option (List (List (ByteArray × (Int × (Int × (Bool × (Int × (Int × (Int × (Int × (Int × Int)))))))))) × Unit)) (a0 : List (List (ByteArray × (Int × (Int × (Bool × (Int × (Int × (Int × (Int × (Int × Int))))))))))) : Option (List (List (ByteArray × (Int × (Int × (Bool × (Int × (Int × (Int × (Int × (Int × Int)))))))))) × Unit) :=
  if (decide (0 ≤ (a0.length : Int))) = true then
  if (decide ((a0.length : Int) = (a0.length : Int))) = true then
  if (decide ((a0.length : Int) * 24 ≤ 140737488355328)) = true then
  h0 a0 (0 : Int) (List.replicate (a0.length : Int).toNat ([] : List (ByteArray × (Int × (Int × (Bool × (Int × (Int × (Int × (Int × (Int × Int)))))))))))
  else none
  else none
  else none
noncomputable def F23 (n : Nat) (a0 : List (List (ByteArray × (Int × (Int × (Bool × (Int × (Int × (Int × (Int × (Int × Int))))))))))) : Option (List (List (ByteArray × (Int × (Int × (Bool × (Int × (Int × (Int × (Int × (Int × Int)))))))))) × Unit) := st23 n (lp23_0 n n) a0
noncomputable def c23 (n : Nat) : Con := ⟨[.one (.sl (.imm true) 37 (.sl 54 (.pair .str (.pair (.int .i64) (.pair (.int .i64) (.pair .bool (.pair (.int .i64) (.pair (.int .i64) (.pair (.int .i64) (.pair (.int .i64) (.pair (.int .i64) (.int .i64))))))))))))], [], [.one (.sl .own 26 (.sl 49 (.pair .str (.pair (.int .i64) (.pair (.int .i64) (.pair .bool (.pair (.int .i64) (.pair (.int .i64) (.pair (.int .i64) (.pair (.int .i64) (.pair (.int .i64) (.int .i64))))))))))))], [], fun (x : List (List (ByteArray × (Int × (Int × (Bool × (Int × (Int × (Int × (Int × (Int × Int)))))))))) × Unit) => F23 n x.1⟩
noncomputable def G23 (n : Nat) : Gam := [((16, []), c16 n)]
noncomputable def S23_0 (l0 : List (List (ByteArray × (Int × (Int × (Bool × (Int × (Int × (Int × (Int × (Int × Int))))))))))) (i1 : Int) (l2 : List (List (ByteArray × (Int × (Int × (Bool × (Int × (Int × (Int × (Int × (Int × Int))))))))))) : St := ⟨[.sl (.imm true) 37 (.sl 54 (.pair .str (.pair (.int .i64) (.pair (.int .i64) (.pair .bool (.pair (.int .i64) (.pair (.int .i64) (.pair (.int .i64) (.pair (.int .i64) (.pair (.int .i64) (.int .i64))))))))))) l0, .dead, .dead, .sr 3 0 none 0 0 none, .int .i64 i1] ++ List.replicate 18 .dead, [Ob.none, Ob.none, Ob.none, ⟨false, [.sl .own 26 (.sl 49 (.pair .str (.pair (.int .i64) (.pair (.int .i64) (.pair .bool (.pair (.int .i64) (.pair (.int .i64) (.pair (.int .i64) (.pair (.int .i64) (.pair (.int .i64) (.int .i64))))))))))) l2], 0, 0⟩] ++ List.replicate 19 Ob.none⟩
noncomputable def ga23_0 (n : Nat) (ks : List Nat) (k : Nat) (st : St) : Option (List (List (ByteArray × (Int × (Int × (Bool × (Int × (Int × (Int × (Int × (Int × Int)))))))))) × Unit) := goAt tab (G23 n) n (bodyOf Try.f23) (lvOf Try.f23) (lvOf Try.f23).ret [1, 1, 0, 1, 0] ks k st (evBody.endK tab (c23 n) Try.f23)
theorem el23_0 (n : Nat) : ∀ (k : Nat), ∀ (l0 : List (List (ByteArray × (Int × (Int × (Bool × (Int × (Int × (Int × (Int × (Int × Int))))))))))) (i1 : Int) (l2 : List (List (ByteArray × (Int × (Int × (Bool × (Int × (Int × (Int × (Int × (Int × Int))))))))))), ga23_0 n [] k (S23_0 l0 i1 l2) = lp23_0 n k l0 i1 l2 := by
  intro k
  induction k with
  | zero => intros; rfl
  | succ k ih =>
    intro l0 i1 l2
    have h : ga23_0 n [] (k + 1) (S23_0 l0 i1 l2) = st23_0 n (fun w0 w1 w2 => ga23_0 n [] k (S23_0 w0 w1 w2)) l0 i1 l2 := by kernel_rfl
    rw [h]
    have e : (fun w0 w1 w2 => ga23_0 n [] k (S23_0 w0 w1 w2)) = lp23_0 n k := by
      funext w0 w1 w2; exact ih w0 w1 w2
    rw [e]
    rfl
theorem e23 (n : Nat) (x : List (List (ByteArray × (Int × (Int × (Bool × (Int × (Int × (Int × (Int × (Int × Int)))))))))) × Unit) : evBody tab (G23 n) n (c23 n) Try.f23 x = F23 n x.1 := by
  have h : evBody tab (G23 n) n (c23 n) Try.f23 x = st23 n (fun w0 w1 w2 => ga23_0 n [] n (S23_0 w0 w1 w2)) x.1 := by kernel_rfl
  rw [h]
  have e0 : (fun w0 w1 w2 => ga23_0 n [] n (S23_0 w0 w1 w2)) = lp23_0 n n := by
    funext w0 w1 w2; exact el23_0 n n w0 w1 w2
  rw [e0]
  rfl
theorem g23 (W : World) (n : Nat) : Good Try.prog W 23 (c23 n) := body_good follows tabOk (GamOk.cons (g16 W n) GamOk.nil) (f := 23) (fn := Try.f23) (c := bodyOf Try.f23) (by kernel_rfl) (by kernel_rfl) (by kernel_rfl) (by kernel_rfl) (by kernel_rfl) (by kernel_rfl) (by kernel_rfl) (fun x r h => ⟨n, (e23 n x).trans h⟩)
/-! laws.toStore -/
noncomputable def F7 (n : Nat) (a0 : Int) (a1 : Int) (a2 : List (List (ByteArray × (Int × (Int × (Bool × (Int × (Int × (Int × (Int × (Int × Int))))))))))) : Option (Int × Int × List (List (ByteArray × (Int × (Int × (Bool × (Int × (Int × (Int × (Int × (Int × Int)))))))))) × Unit) :=
  (F23 n a2).bind fun r1 =>
  some (a0, a1, r1.1, ())
noncomputable def c7 (n : Nat) : Con := ⟨[.agg [(.int .i64), (.int .i64), (.sl (.imm true) 37 (.sl 54 (.pair .str (.pair (.int .i64) (.pair (.int .i64) (.pair .bool (.pair (.int .i64) (.pair (.int .i64) (.pair (.int .i64) (.pair (.int .i64) (.pair (.int .i64) (.int .i64))))))))))))]], [], [.agg [(.int .i64), (.int .i64), (.sl .own 26 (.sl 49 (.pair .str (.pair (.int .i64) (.pair (.int .i64) (.pair .bool (.pair (.int .i64) (.pair (.int .i64) (.pair (.int .i64) (.pair (.int .i64) (.pair (.int .i64) (.int .i64))))))))))))]], [], fun (x : Int × Int × List (List (ByteArray × (Int × (Int × (Bool × (Int × (Int × (Int × (Int × (Int × Int)))))))))) × Unit) => F7 n x.1 x.2.1 x.2.2.1⟩
noncomputable def G7 (n : Nat) : Gam := [((23, []), c23 n)]
theorem e7 (n : Nat) (x : Int × Int × List (List (ByteArray × (Int × (Int × (Bool × (Int × (Int × (Int × (Int × (Int × Int)))))))))) × Unit) : evBody tab (G7 n) n (c7 n) Try.f7 x = F7 n x.1 x.2.1 x.2.2.1 := by kernel_rfl
theorem g7 (W : World) (n : Nat) : Good Try.prog W 7 (c7 n) := body_good follows tabOk (GamOk.cons (g23 W n) GamOk.nil) (f := 7) (fn := Try.f7) (c := bodyOf Try.f7) (by kernel_rfl) (by kernel_rfl) (by kernel_rfl) (by kernel_rfl) (by kernel_rfl) (by kernel_rfl) (by kernel_rfl) (fun x r h => ⟨n, (e7 n x).trans h⟩)
end Go.Eva
end
section
/- Total functions: rules for what an Option answers. -/
namespace Go.Eva
open Go.RowKit (wrap64)
set_option linter.unusedVariables false

def ok {α : Type} (x : Option α) (Q : α → Prop) : Prop := ∃ a, x = some a ∧ Q a
theorem ok.some {α : Type} {a : α} {Q : α → Prop} (h : Q a) : ok (some a) Q := ⟨a, rfl, h⟩
theorem ok.bind {α β : Type} {x : Option α} {f : α → Option β} {Q : α → Prop} {R : β → Prop} (h : ok x Q) (k : ∀ a, Q a → ok (f a) R) : ok (x.bind f) R := by
  obtain ⟨a, rfl, q⟩ := h
  exact k a q
theorem ok.guard {α : Type} {c : Prop} [Decidable c] {x : Option α} {Q : α → Prop} (h : c) (k : ok x Q) : ok (if decide c = true then x else none) Q := by rw [if_pos (decide_eq_true h)]; exact k
theorem ok.ite {α : Type} {c : Prop} [Decidable c] {x y : Option α} {Q : α → Prop} (h : c → ok x Q) (k : ¬ c → ok y Q) : ok (if decide c = true then x else y) Q := by
  by_cases hc : c
  · rw [if_pos (decide_eq_true hc)]; exact h hc
  · rw [if_neg (by simpa using hc)]; exact k hc
theorem ok.iteb {α : Type} {c : Bool} {x y : Option α} {Q : α → Prop} (h : c = true → ok x Q) (k : c = false → ok y Q) : ok (if c = true then x else y) Q := by
  cases c
  · exact k rfl
  · exact h rfl
theorem ok.mono {α : Type} {x : Option α} {Q R : α → Prop} (h : ok x Q) (k : ∀ a, Q a → R a) : ok x R := by
  obtain ⟨a, q1, q2⟩ := h
  exact ⟨a, q1, k a q2⟩
theorem w64 {x : Int} (h : -9223372036854775808 ≤ x) (h' : x ≤ 9223372036854775807) : wrap64 x = x := by unfold wrap64; omega
theorem andI_bd (x : Int) (m : Nat) (hm : m < 9223372036854775808) : 0 ≤ andI .i64 x m ∧ andI .i64 x m ≤ m := by
  unfold andI
  have h1 : (BitVec.ofInt IntKind.i64.bits x &&& BitVec.ofInt IntKind.i64.bits (m : Int)).toNat ≤ m := by
    rw [BitVec.toNat_and]
    have : (BitVec.ofInt IntKind.i64.bits (m : Int)).toNat = m := by
      rw [BitVec.toNat_ofInt]
      show ((m : Int) % (2 ^ 64 : Nat)).toNat = m
      omega
    rw [this]
    exact Nat.and_le_right
  have h2 : IntKind.i64.wrap ((BitVec.ofInt IntKind.i64.bits x &&& BitVec.ofInt IntKind.i64.bits (m : Int)).toNat : Int) = ((BitVec.ofInt IntKind.i64.bits x &&& BitVec.ofInt IntKind.i64.bits (m : Int)).toNat : Int) := by
    rw [IntKind.wrap_i64]; omega
  rw [h2]
  omega
theorem and255 (x : Int) : 0 ≤ andI .i64 x 255 ∧ andI .i64 x 255 < 256 := by
  have := andI_bd x 255 (by omega)
  exact ⟨this.1, Int.lt_of_le_of_lt this.2 (by decide)⟩
theorem rdOf_mem {α : Type} {d : α} {l : List α} {i : Int} (h : 0 ≤ i) (h' : i < (l.length : Int)) : rdOf d l i ∈ l := by
  unfold rdOf
  rw [List.getD_eq_getElem?_getD, List.getElem?_eq_getElem (by omega)]
  exact List.getElem_mem _
theorem rdOf_nat {α : Type} {d : α} {l : List α} {i : Nat} (h : i < l.length) : rdOf d l (i : Int) = l[i] := by
  unfold rdOf
  rw [List.getD_eq_getElem?_getD, Int.toNat_natCast, List.getElem?_eq_getElem h]; rfl
/-- A loop's rule: what goes down, and what stays. -/
theorem tmod_bd {x n : Int} (h : 0 ≤ x) (hn : 0 < n) : 0 ≤ x.tmod n ∧ x.tmod n < n := ⟨Int.tmod_nonneg _ h, Int.tmod_lt_of_pos _ hn⟩
end Go.Eva
end
