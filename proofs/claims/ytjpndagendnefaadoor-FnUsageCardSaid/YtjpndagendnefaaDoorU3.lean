/- A verified evaluator of the translated code, part 3: EvaW_1, EvaW_2, EvaW_3, EvaOk, EvaWd, EvaWt, EvaWa, EvaWb -/
import Derived.Test.YtjpndagendnefaaDoorU2
section
/- The functions, as their texts evaluate. -/
set_option linter.unusedVariables false
set_option maxRecDepth 100000
namespace Go.Eva
open Go.Proofs
open Go.RowKit (wrap64)
/-! spec.Dec -/
noncomputable def j11_0 (n : Nat) (g0 : Int → ByteArray → Bool → Option (ByteArray × Unit)) (i0 : Int) (s1 : ByteArray) (b2 : Bool) (i3 : Int) : Option (ByteArray × Unit) :=
  if (decide (((strOf ([(wrapI .u8 ((wrap64 (48 + i3))))] : List Int)).size + s1.size : Nat) ≤ 9223372036854775807)) = true then
  if (decide (10 ≠ 0)) = true then
  g0 (wrap64 (i0.tdiv (10 : Int))) ((strOf ([(wrapI .u8 ((wrap64 (48 + i3))))] : List Int)) ++ s1) b2
  else none
  else none
noncomputable def st11_0 (n : Nat) (g0 : Int → ByteArray → Bool → Option (ByteArray × Unit)) (i0 : Int) (s1 : ByteArray) (b2 : Bool) : Option (ByteArray × Unit) :=
  if (decide (i0 ≠ 0)) = true then
    if (decide (10 ≠ 0)) = true then
    if (decide ((i0.tmod (10 : Int)) < 0)) = true then
      j11_0 n g0 i0 s1 b2 (wrap64 (0 - (i0.tmod (10 : Int))))
    else
      j11_0 n g0 i0 s1 b2 (i0.tmod (10 : Int))
    else none
  else
    if b2 = true then
      if (decide (((⟨#[45]⟩ : ByteArray).size + s1.size : Nat) ≤ 9223372036854775807)) = true then
      some (((⟨#[45]⟩ : ByteArray) ++ s1), ())
      else none
    else
      some (s1, ())
noncomputable def lp11_0 (n : Nat) : Nat → Int → ByteArray → Bool → Option (ByteArray × Unit)
  | 0 => fun _ _ _ => none
  | k + 1 => st11_0 n (lp11_0 n k)
noncomputable def st11 (n : Nat) (h0 : Int → ByteArray → Bool → Option (ByteArray × Unit)) (a0 : Int) : Option (ByteArray × Unit) :=
  if (decide (a0 = 0)) = true then
    some ((⟨#[48]⟩ : ByteArray), ())
  else
    h0 a0 (⟨#[]⟩ : ByteArray) (decide (a0 < 0))
noncomputable def F11 (n : Nat) (a0 : Int) : Option (ByteArray × Unit) := st11 n (lp11_0 n n) a0
noncomputable def c11 (n : Nat) : Con := ⟨[.one (.int .i64)], [], [.one (.str)], [], fun (x : Int × Unit) => F11 n x.1⟩
noncomputable def G11 (n : Nat) : Gam := []
noncomputable def S11_0 (i0 : Int) (s1 : ByteArray) (b2 : Bool) : St := ⟨[.int .i64 i0, .dead, .dead, .str s1, .bool b2] ++ List.replicate 26 .dead, List.replicate 31 Ob.none⟩
noncomputable def ga11_0 (n : Nat) (ks : List Nat) (k : Nat) (st : St) : Option (ByteArray × Unit) := goAt tab (G11 n) n (bodyOf Tryd.f11) (lvOf Tryd.f11) (lvOf Tryd.f11).ret [1, 1, 1, 1, 0, 0] ks k st (evBody.endK tab (c11 n) Tryd.f11)
theorem el11_0 (n : Nat) : ∀ (k : Nat), ∀ (i0 : Int) (s1 : ByteArray) (b2 : Bool), ga11_0 n [] k (S11_0 i0 s1 b2) = lp11_0 n k i0 s1 b2 := by
  intro k
  induction k with
  | zero => intros; rfl
  | succ k ih =>
    intro i0 s1 b2
    have h : ga11_0 n [] (k + 1) (S11_0 i0 s1 b2) = st11_0 n (fun w0 w1 w2 => ga11_0 n [] k (S11_0 w0 w1 w2)) i0 s1 b2 := by kernel_rfl
    rw [h]
    have e : (fun w0 w1 w2 => ga11_0 n [] k (S11_0 w0 w1 w2)) = lp11_0 n k := by
      funext w0 w1 w2; exact ih w0 w1 w2
    rw [e]
    rfl
theorem e11 (n : Nat) (x : Int × Unit) : evBody tab (G11 n) n (c11 n) Tryd.f11 x = F11 n x.1 := by
  have h : evBody tab (G11 n) n (c11 n) Tryd.f11 x = st11 n (fun w0 w1 w2 => ga11_0 n [] n (S11_0 w0 w1 w2)) x.1 := by kernel_rfl
  rw [h]
  have e0 : (fun w0 w1 w2 => ga11_0 n [] n (S11_0 w0 w1 w2)) = lp11_0 n n := by
    funext w0 w1 w2; exact el11_0 n n w0 w1 w2
  rw [e0]
  rfl
theorem g11 (W : World) (n : Nat) : Good Tryd.prog W 11 (c11 n) := body_good follows tabOk GamOk.nil (f := 11) (fn := Tryd.f11) (c := bodyOf Tryd.f11) (by kernel_rfl) (by kernel_rfl) (by kernel_rfl) (by kernel_rfl) (by kernel_rfl) (by kernel_rfl) (by kernel_rfl) (fun x r h => ⟨n, (e11 n x).trans h⟩)
/-! spec.l1In -/
noncomputable def F36 (n : Nat) (a0 : Int) (a1 : Int) (a2 : Int) : Option (Bool × Unit) :=
  if (decide (a0 ≥ a1)) = true then
    some (decide (a0 ≤ a2), ())
  else
    some (false, ())
noncomputable def c36 (n : Nat) : Con := ⟨[.one (.int .i64), .one (.int .i64), .one (.int .i64)], [], [.one (.bool)], [], fun (x : Int × Int × Int × Unit) => F36 n x.1 x.2.1 x.2.2.1⟩
noncomputable def G36 (n : Nat) : Gam := []
theorem e36 (n : Nat) (x : Int × Int × Int × Unit) : evBody tab (G36 n) n (c36 n) Tryd.f36 x = F36 n x.1 x.2.1 x.2.2.1 := by kernel_rfl
theorem g36 (W : World) (n : Nat) : Good Tryd.prog W 36 (c36 n) := body_good follows tabOk GamOk.nil (f := 36) (fn := Tryd.f36) (c := bodyOf Tryd.f36) (by kernel_rfl) (by kernel_rfl) (by kernel_rfl) (by kernel_rfl) (by kernel_rfl) (by kernel_rfl) (by kernel_rfl) (fun x r h => ⟨n, (e36 n x).trans h⟩)
/-! spec.CellName -/
noncomputable def F10 (n : Nat) (a0 : Int) : Option (ByteArray × Unit) :=
  (F36 n a0 (0 : Int) (70 : Int)).bind fun r1 =>
  if (!r1.1) = true then
    some ((⟨#[]⟩ : ByteArray), ())
  else
    if (decide (a0 = 0)) = true then
      some ((⟨#[101, 112, 111, 99, 104]⟩ : ByteArray), ())
    else
      if (decide (a0 < 3)) = true then
        (F11 n (wrap64 (a0 - 1))).bind fun r2 =>
        if (decide (((⟨#[105, 110, 32]⟩ : ByteArray).size + r2.1.size : Nat) ≤ 9223372036854775807)) = true then
        some (((⟨#[105, 110, 32]⟩ : ByteArray) ++ r2.1), ())
        else none
      else
        if (decide (a0 < 7)) = true then
          (F11 n (wrap64 (a0 - 3))).bind fun r3 =>
          if (decide (((⟨#[107, 101, 121, 32]⟩ : ByteArray).size + r3.1.size : Nat) ≤ 9223372036854775807)) = true then
          some (((⟨#[107, 101, 121, 32]⟩ : ByteArray) ++ r3.1), ())
          else none
        else
          if (decide (32 ≠ 0)) = true then
          if (decide (32 ≠ 0)) = true then
          if (decide (8 ≠ 0)) = true then
          if (decide (8 ≠ 0)) = true then
          (F11 n (wrap64 ((wrap64 (a0 - 7)).tdiv (32 : Int)))).bind fun r4 =>
          if (decide (((⟨#[32]⟩ : ByteArray).size + r4.1.size : Nat) ≤ 9223372036854775807)) = true then
          if (decide ((((⟨#[32]⟩ : ByteArray) ++ r4.1).size + (⟨#[32]⟩ : ByteArray).size : Nat) ≤ 9223372036854775807)) = true then
          (F11 n (wrap64 (((wrap64 (a0 - 7)).tmod (32 : Int)).tdiv (8 : Int)))).bind fun r5 =>
          if (decide (((((⟨#[32]⟩ : ByteArray) ++ r4.1) ++ (⟨#[32]⟩ : ByteArray)).size + r5.1.size : Nat) ≤ 9223372036854775807)) = true then
          if (decide (((wrap64 (a0 - 7)).tmod (8 : Int)) < 2)) = true then
            if (decide (((⟨#[115, 116, 114, 105, 112, 101]⟩ : ByteArray).size + ((((⟨#[32]⟩ : ByteArray) ++ r4.1) ++ (⟨#[32]⟩ : ByteArray)) ++ r5.1).size : Nat) ≤ 9223372036854775807)) = true then
            if (decide ((((⟨#[115, 116, 114, 105, 112, 101]⟩ : ByteArray) ++ ((((⟨#[32]⟩ : ByteArray) ++ r4.1) ++ (⟨#[32]⟩ : ByteArray)) ++ r5.1)).size + (⟨#[32]⟩ : ByteArray).size : Nat) ≤ 9223372036854775807)) = true then
            (F11 n ((wrap64 (a0 - 7)).tmod (8 : Int))).bind fun r6 =>
            if (decide (((((⟨#[115, 116, 114, 105, 112, 101]⟩ : ByteArray) ++ ((((⟨#[32]⟩ : ByteArray) ++ r4.1) ++ (⟨#[32]⟩ : ByteArray)) ++ r5.1)) ++ (⟨#[32]⟩ : ByteArray)).size + r6.1.size : Nat) ≤ 9223372036854775807)) = true then
            some (((((⟨#[115, 116, 114, 105, 112, 101]⟩ : ByteArray) ++ ((((⟨#[32]⟩ : ByteArray) ++ r4.1) ++ (⟨#[32]⟩ : ByteArray)) ++ r5.1)) ++ (⟨#[32]⟩ : ByteArray)) ++ r6.1), ())
            else none
            else none
            else none
          else
            if (decide (((wrap64 (a0 - 7)).tmod (8 : Int)) = 2)) = true then
              if (decide (((⟨#[115, 116, 97, 109, 112]⟩ : ByteArray).size + ((((⟨#[32]⟩ : ByteArray) ++ r4.1) ++ (⟨#[32]⟩ : ByteArray)) ++ r5.1).size : Nat) ≤ 9223372036854775807)) = true then
              some (((⟨#[115, 116, 97, 109, 112]⟩ : ByteArray) ++ ((((⟨#[32]⟩ : ByteArray) ++ r4.1) ++ (⟨#[32]⟩ : ByteArray)) ++ r5.1)), ())
              else none
            else
              if (decide (((wrap64 (a0 - 7)).tmod (8 : Int)) = 3)) = true then
                if (decide (((⟨#[103, 97, 117, 103, 101]⟩ : ByteArray).size + ((((⟨#[32]⟩ : ByteArray) ++ r4.1) ++ (⟨#[32]⟩ : ByteArray)) ++ r5.1).size : Nat) ≤ 9223372036854775807)) = true then
                some (((⟨#[103, 97, 117, 103, 101]⟩ : ByteArray) ++ ((((⟨#[32]⟩ : ByteArray) ++ r4.1) ++ (⟨#[32]⟩ : ByteArray)) ++ r5.1)), ())
                else none
              else
                if (decide (((wrap64 (a0 - 7)).tmod (8 : Int)) = 4)) = true then
                  if (decide (((⟨#[116, 105, 99, 107, 101, 116]⟩ : ByteArray).size + ((((⟨#[32]⟩ : ByteArray) ++ r4.1) ++ (⟨#[32]⟩ : ByteArray)) ++ r5.1).size : Nat) ≤ 9223372036854775807)) = true then
                  some (((⟨#[116, 105, 99, 107, 101, 116]⟩ : ByteArray) ++ ((((⟨#[32]⟩ : ByteArray) ++ r4.1) ++ (⟨#[32]⟩ : ByteArray)) ++ r5.1)), ())
                  else none
                else
                  if (decide (((⟨#[114, 105, 110, 103]⟩ : ByteArray).size + ((((⟨#[32]⟩ : ByteArray) ++ r4.1) ++ (⟨#[32]⟩ : ByteArray)) ++ r5.1).size : Nat) ≤ 9223372036854775807)) = true then
                  if (decide ((((⟨#[114, 105, 110, 103]⟩ : ByteArray) ++ ((((⟨#[32]⟩ : ByteArray) ++ r4.1) ++ (⟨#[32]⟩ : ByteArray)) ++ r5.1)).size + (⟨#[32]⟩ : ByteArray).size : Nat) ≤ 9223372036854775807)) = true then
                  (F11 n (wrap64 (((wrap64 (a0 - 7)).tmod (8 : Int)) - 5))).bind fun r7 =>
                  if (decide (((((⟨#[114, 105, 110, 103]⟩ : ByteArray) ++ ((((⟨#[32]⟩ : ByteArray) ++ r4.1) ++ (⟨#[32]⟩ : ByteArray)) ++ r5.1)) ++ (⟨#[32]⟩ : ByteArray)).size + r7.1.size : Nat) ≤ 9223372036854775807)) = true then
                  some (((((⟨#[114, 105, 110, 103]⟩ : ByteArray) ++ ((((⟨#[32]⟩ : ByteArray) ++ r4.1) ++ (⟨#[32]⟩ : ByteArray)) ++ r5.1)) ++ (⟨#[32]⟩ : ByteArray)) ++ r7.1), ())
                  else none
                  else none
                  else none
          else none
          else none
          else none
          else none
          else none
          else none
          else none
noncomputable def c10 (n : Nat) : Con := ⟨[.one (.int .i64)], [], [.one (.str)], [], fun (x : Int × Unit) => F10 n x.1⟩
noncomputable def G10 (n : Nat) : Gam := [((11, []), c11 n), ((36, []), c36 n)]
theorem e10 (n : Nat) (x : Int × Unit) : evBody tab (G10 n) n (c10 n) Tryd.f10 x = F10 n x.1 := by kernel_rfl
theorem g10 (W : World) (n : Nat) : Good Tryd.prog W 10 (c10 n) := body_good follows tabOk (GamOk.cons (g11 W n) (GamOk.cons (g36 W n) GamOk.nil)) (f := 10) (fn := Tryd.f10) (c := bodyOf Tryd.f10) (by kernel_rfl) (by kernel_rfl) (by kernel_rfl) (by kernel_rfl) (by kernel_rfl) (by kernel_rfl) (by kernel_rfl) (fun x r h => ⟨n, (e10 n x).trans h⟩)
/-! impl.within -/
noncomputable def F70 (n : Nat) (a0 : Int) (a1 : Int) (a2 : Int) : Option (Bool × Unit) :=
  if (decide (a1 ≤ a0)) = true then
    some (decide (a0 ≤ a2), ())
  else
    some (false, ())
noncomputable def c70 (n : Nat) : Con := ⟨[.one (.int .i64), .one (.int .i64), .one (.int .i64)], [], [.one (.bool)], [], fun (x : Int × Int × Int × Unit) => F70 n x.1 x.2.1 x.2.2.1⟩
noncomputable def G70 (n : Nat) : Gam := []
theorem e70 (n : Nat) (x : Int × Int × Int × Unit) : evBody tab (G70 n) n (c70 n) Tryd.f70 x = F70 n x.1 x.2.1 x.2.2.1 := by kernel_rfl
theorem g70 (W : World) (n : Nat) : Good Tryd.prog W 70 (c70 n) := body_good follows tabOk GamOk.nil (f := 70) (fn := Tryd.f70) (c := bodyOf Tryd.f70) (by kernel_rfl) (by kernel_rfl) (by kernel_rfl) (by kernel_rfl) (by kernel_rfl) (by kernel_rfl) (by kernel_rfl) (fun x r h => ⟨n, (e70 n x).trans h⟩)
/-! impl.isWord -/
noncomputable def F69 (n : Nat) (a0 : Int) : Option (Bool × Unit) :=
  (F70 n a0 (0 : Int) (281474976710655 : Int)).bind fun r1 =>
  some (r1.1, ())
noncomputable def c69 (n : Nat) : Con := ⟨[.one (.int .i64)], [], [.one (.bool)], [], fun (x : Int × Unit) => F69 n x.1⟩
noncomputable def G69 (n : Nat) : Gam := [((70, []), c70 n)]
theorem e69 (n : Nat) (x : Int × Unit) : evBody tab (G69 n) n (c69 n) Tryd.f69 x = F69 n x.1 := by kernel_rfl
theorem g69 (W : World) (n : Nat) : Good Tryd.prog W 69 (c69 n) := body_good follows tabOk (GamOk.cons (g70 W n) GamOk.nil) (f := 69) (fn := Tryd.f69) (c := bodyOf Tryd.f69) (by kernel_rfl) (by kernel_rfl) (by kernel_rfl) (by kernel_rfl) (by kernel_rfl) (by kernel_rfl) (by kernel_rfl) (fun x r h => ⟨n, (e69 n x).trans h⟩)
/-! impl.CellsOk$1 -/
noncomputable def F68 (n : Nat) (a0 : Int) : Option (Bool × Unit) :=
  (F69 n a0).bind fun r1 =>
  some ((!r1.1), ())
noncomputable def c68 (n : Nat) : Con := ⟨[.one (.int .i64)], [], [.one (.bool)], [], fun (x : Int × Unit) => F68 n x.1⟩
noncomputable def G68 (n : Nat) : Gam := [((69, []), c69 n)]
theorem e68 (n : Nat) (x : Int × Unit) : evBody tab (G68 n) n (c68 n) Tryd.f68 x = F68 n x.1 := by kernel_rfl
theorem g68 (W : World) (n : Nat) : Good Tryd.prog W 68 (c68 n) := body_good follows tabOk (GamOk.cons (g69 W n) GamOk.nil) (f := 68) (fn := Tryd.f68) (c := bodyOf Tryd.f68) (by kernel_rfl) (by kernel_rfl) (by kernel_rfl) (by kernel_rfl) (by kernel_rfl) (by kernel_rfl) (by kernel_rfl) (fun x r h => ⟨n, (e68 n x).trans h⟩)
/-! slices.IndexFunc[[]int,int] -/
noncomputable def st110_68_0 (n : Nat) (g0 : (List Int) → Int → Int → Option (Int × Unit)) (l0 : List Int) (i1 : Int) (i2 : Int) : Option (Int × Unit) :=
  if (decide (i2 < i1)) = true then
    if (decide (0 ≤ i2)) = true then
    if (decide (i2 < (l0.length : Int))) = true then
    (F68 n (rdOf (0 : Int) l0 i2)).bind fun r1 =>
    if r1.1 = true then
      some (i2, ())
    else
      g0 l0 i1 (wrap64 (i2 + 1))
    else none
    else none
  else
    some ((-1), ())
noncomputable def lp110_68_0 (n : Nat) : Nat → (List Int) → Int → Int → Option (Int × Unit)
  | 0 => fun _ _ _ => none
  | k + 1 => st110_68_0 n (lp110_68_0 n k)
noncomputable def st110_68 (n : Nat) (h0 : (List Int) → Int → Int → Option (Int × Unit)) (a0 : List Int) : Option (Int × Unit) :=
  h0 a0 (a0.length : Int) (0 : Int)
noncomputable def F110_68 (n : Nat) (a0 : List Int) : Option (Int × Unit) := st110_68 n (lp110_68_0 n n) a0
noncomputable def c110_68 (n : Nat) : Con := ⟨[.one (.sl (.imm true) 3 (.int .i64)), .one (.fn 68 [])], [], [.one (.int .i64)], [], fun (x : List Int × Unit × Unit) => F110_68 n x.1⟩
noncomputable def G110_68 (n : Nat) : Gam := [((68, []), c68 n)]
noncomputable def S110_68_0 (l0 : List Int) (i1 : Int) (i2 : Int) : St := ⟨[.sl (.imm true) 3 (.int .i64) l0, .fn 68 []] ++ List.replicate 5 .dead ++ [.int .i64 i1, .int .i64 i2] ++ List.replicate 10 .dead, List.replicate 19 Ob.none⟩
noncomputable def ga110_68_0 (n : Nat) (ks : List Nat) (k : Nat) (st : St) : Option (Int × Unit) := goAt tab (G110_68 n) n (bodyOf Tryd.f110) (lvOf Tryd.f110) (lvOf Tryd.f110).ret [1, 0, 1, 0] ks k st (evBody.endK tab (c110_68 n) Tryd.f110)
theorem el110_68_0 (n : Nat) : ∀ (k : Nat), ∀ (l0 : List Int) (i1 : Int) (i2 : Int), ga110_68_0 n [] k (S110_68_0 l0 i1 i2) = lp110_68_0 n k l0 i1 i2 := by
  intro k
  induction k with
  | zero => intros; rfl
  | succ k ih =>
    intro l0 i1 i2
    have h : ga110_68_0 n [] (k + 1) (S110_68_0 l0 i1 i2) = st110_68_0 n (fun w0 w1 w2 => ga110_68_0 n [] k (S110_68_0 w0 w1 w2)) l0 i1 i2 := by kernel_rfl
    rw [h]
    have e : (fun w0 w1 w2 => ga110_68_0 n [] k (S110_68_0 w0 w1 w2)) = lp110_68_0 n k := by
      funext w0 w1 w2; exact ih w0 w1 w2
    rw [e]
    rfl
theorem e110_68 (n : Nat) (x : List Int × Unit × Unit) : evBody tab (G110_68 n) n (c110_68 n) Tryd.f110 x = F110_68 n x.1 := by
  have h : evBody tab (G110_68 n) n (c110_68 n) Tryd.f110 x = st110_68 n (fun w0 w1 w2 => ga110_68_0 n [] n (S110_68_0 w0 w1 w2)) x.1 := by kernel_rfl
  rw [h]
  have e0 : (fun w0 w1 w2 => ga110_68_0 n [] n (S110_68_0 w0 w1 w2)) = lp110_68_0 n n := by
    funext w0 w1 w2; exact el110_68_0 n n w0 w1 w2
  rw [e0]
  rfl
theorem g110_68 (W : World) (n : Nat) : Good Tryd.prog W 110 (c110_68 n) := body_good follows tabOk (GamOk.cons (g68 W n) GamOk.nil) (f := 110) (fn := Tryd.f110) (c := bodyOf Tryd.f110) (by kernel_rfl) (by kernel_rfl) (by kernel_rfl) (by kernel_rfl) (by kernel_rfl) (by kernel_rfl) (by kernel_rfl) (fun x r h => ⟨n, (e110_68 n x).trans h⟩)
/-! slices.ContainsFunc[[]int,int] -/
noncomputable def F67_68 (n : Nat) (a0 : List Int) : Option (Bool × Unit) :=
  (F110_68 n a0).bind fun r1 =>
  some (decide (r1.1 ≥ 0), ())
noncomputable def c67_68 (n : Nat) : Con := ⟨[.one (.sl (.imm true) 3 (.int .i64)), .one (.fn 68 [])], [], [.one (.bool)], [], fun (x : List Int × Unit × Unit) => F67_68 n x.1⟩
noncomputable def G67_68 (n : Nat) : Gam := [((110, [68]), c110_68 n)]
theorem e67_68 (n : Nat) (x : List Int × Unit × Unit) : evBody tab (G67_68 n) n (c67_68 n) Tryd.f67 x = F67_68 n x.1 := by kernel_rfl
theorem g67_68 (W : World) (n : Nat) : Good Tryd.prog W 67 (c67_68 n) := body_good follows tabOk (GamOk.cons (g110_68 W n) GamOk.nil) (f := 67) (fn := Tryd.f67) (c := bodyOf Tryd.f67) (by kernel_rfl) (by kernel_rfl) (by kernel_rfl) (by kernel_rfl) (by kernel_rfl) (by kernel_rfl) (by kernel_rfl) (fun x r h => ⟨n, (e67_68 n x).trans h⟩)
/-! impl.CellsOk -/
noncomputable def F33 (n : Nat) (a0 : List Int) : Option (Bool × Unit) :=
  if (decide ((a0.length : Int) = 71)) = true then
    (F67_68 n a0).bind fun r1 =>
    some ((!r1.1), ())
  else
    some (false, ())
noncomputable def c33 (n : Nat) : Con := ⟨[.one (.sl (.imm true) 3 (.int .i64))], [], [.one (.bool)], [], fun (x : List Int × Unit) => F33 n x.1⟩
noncomputable def G33 (n : Nat) : Gam := [((67, [68]), c67_68 n)]
theorem e33 (n : Nat) (x : List Int × Unit) : evBody tab (G33 n) n (c33 n) Tryd.f33 x = F33 n x.1 := by kernel_rfl
theorem g33 (W : World) (n : Nat) : Good Tryd.prog W 33 (c33 n) := body_good follows tabOk (GamOk.cons (g67_68 W n) GamOk.nil) (f := 33) (fn := Tryd.f33) (c := bodyOf Tryd.f33) (by kernel_rfl) (by kernel_rfl) (by kernel_rfl) (by kernel_rfl) (by kernel_rfl) (by kernel_rfl) (by kernel_rfl) (fun x r h => ⟨n, (e33 n x).trans h⟩)
/-! impl.KeyCell -/
noncomputable def F37 (n : Nat) (a0 : Int) : Option (Int × Unit) :=
  (F70 n a0 (0 : Int) (3 : Int)).bind fun r1 =>
  if (!r1.1) = true then
    some ((-1), ())
  else
    some ((wrap64 (3 + a0)), ())
noncomputable def c37 (n : Nat) : Con := ⟨[.one (.int .i64)], [], [.one (.int .i64)], [], fun (x : Int × Unit) => F37 n x.1⟩
noncomputable def G37 (n : Nat) : Gam := [((70, []), c70 n)]
theorem e37 (n : Nat) (x : Int × Unit) : evBody tab (G37 n) n (c37 n) Tryd.f37 x = F37 n x.1 := by kernel_rfl
theorem g37 (W : World) (n : Nat) : Good Tryd.prog W 37 (c37 n) := body_good follows tabOk (GamOk.cons (g70 W n) GamOk.nil) (f := 37) (fn := Tryd.f37) (c := bodyOf Tryd.f37) (by kernel_rfl) (by kernel_rfl) (by kernel_rfl) (by kernel_rfl) (by kernel_rfl) (by kernel_rfl) (by kernel_rfl) (fun x r h => ⟨n, (e37 n x).trans h⟩)
/-! impl.FreeSlots -/
noncomputable def st12_0 (n : Nat) (g0 : (List Int) → Int → Int → Option (Int × Unit)) (l0 : List Int) (i1 : Int) (i2 : Int) : Option (Int × Unit) :=
  if (decide (i2 < 4)) = true then
    (F37 n i2).bind fun r2 =>
    if (decide (0 ≤ r2.1)) = true then
    if (decide (r2.1 < (l0.length : Int))) = true then
    if (decide ((rdOf (0 : Int) l0 r2.1) = 0)) = true then
      g0 l0 (wrap64 (i1 + 1)) (wrap64 (i2 + 1))
    else
      g0 l0 i1 (wrap64 (i2 + 1))
    else none
    else none
  else
    some (i1, ())
noncomputable def lp12_0 (n : Nat) : Nat → (List Int) → Int → Int → Option (Int × Unit)
  | 0 => fun _ _ _ => none
  | k + 1 => st12_0 n (lp12_0 n k)
noncomputable def st12 (n : Nat) (h0 : (List Int) → Int → Int → Option (Int × Unit)) (a0 : List Int) : Option (Int × Unit) :=
  (F33 n a0).bind fun r1 =>
  if (!r1.1) = true then
    some (0, ())
  else
    h0 a0 (0 : Int) (0 : Int)
noncomputable def F12 (n : Nat) (a0 : List Int) : Option (Int × Unit) := st12 n (lp12_0 n n) a0
noncomputable def c12 (n : Nat) : Con := ⟨[.one (.sl (.imm true) 3 (.int .i64))], [], [.one (.int .i64)], [], fun (x : List Int × Unit) => F12 n x.1⟩
noncomputable def G12 (n : Nat) : Gam := [((33, []), c33 n), ((37, []), c37 n)]
noncomputable def S12_0 (l0 : List Int) (i1 : Int) (i2 : Int) : St := ⟨[.sl (.imm true) 3 (.int .i64) l0, .dead, .dead, .int .i64 i1] ++ List.replicate 5 .dead ++ [.int .i64 i2] ++ List.replicate 12 .dead, List.replicate 22 Ob.none⟩
noncomputable def ga12_0 (n : Nat) (ks : List Nat) (k : Nat) (st : St) : Option (Int × Unit) := goAt tab (G12 n) n (bodyOf Tryd.f12) (lvOf Tryd.f12) (lvOf Tryd.f12).ret [1, 1, 1, 0, 1, 0] ks k st (evBody.endK tab (c12 n) Tryd.f12)
theorem el12_0 (n : Nat) : ∀ (k : Nat), ∀ (l0 : List Int) (i1 : Int) (i2 : Int), ga12_0 n [] k (S12_0 l0 i1 i2) = lp12_0 n k l0 i1 i2 := by
  intro k
  induction k with
  | zero => intros; rfl
  | succ k ih =>
    intro l0 i1 i2
    have h : ga12_0 n [] (k + 1) (S12_0 l0 i1 i2) = st12_0 n (fun w0 w1 w2 => ga12_0 n [] k (S12_0 w0 w1 w2)) l0 i1 i2 := by kernel_rfl
    rw [h]
    have e : (fun w0 w1 w2 => ga12_0 n [] k (S12_0 w0 w1 w2)) = lp12_0 n k := by
      funext w0 w1 w2; exact ih w0 w1 w2
    rw [e]
    rfl
theorem e12 (n : Nat) (x : List Int × Unit) : evBody tab (G12 n) n (c12 n) Tryd.f12 x = F12 n x.1 := by
  have h : evBody tab (G12 n) n (c12 n) Tryd.f12 x = st12 n (fun w0 w1 w2 => ga12_0 n [] n (S12_0 w0 w1 w2)) x.1 := by kernel_rfl
  rw [h]
  have e0 : (fun w0 w1 w2 => ga12_0 n [] n (S12_0 w0 w1 w2)) = lp12_0 n n := by
    funext w0 w1 w2; exact el12_0 n n w0 w1 w2
  rw [e0]
  rfl
theorem g12 (W : World) (n : Nat) : Good Tryd.prog W 12 (c12 n) := body_good follows tabOk (GamOk.cons (g33 W n) (GamOk.cons (g37 W n) GamOk.nil)) (f := 12) (fn := Tryd.f12) (c := bodyOf Tryd.f12) (by kernel_rfl) (by kernel_rfl) (by kernel_rfl) (by kernel_rfl) (by kernel_rfl) (by kernel_rfl) (by kernel_rfl) (fun x r h => ⟨n, (e12 n x).trans h⟩)
/-! spec.KeyCell -/
noncomputable def F38 (n : Nat) (a0 : Int) : Option (Int × Unit) :=
  (F36 n a0 (0 : Int) (3 : Int)).bind fun r1 =>
  if (!r1.1) = true then
    some ((-1), ())
  else
    some ((wrap64 (3 + a0)), ())
noncomputable def c38 (n : Nat) : Con := ⟨[.one (.int .i64)], [], [.one (.int .i64)], [], fun (x : Int × Unit) => F38 n x.1⟩
noncomputable def G38 (n : Nat) : Gam := [((36, []), c36 n)]
theorem e38 (n : Nat) (x : Int × Unit) : evBody tab (G38 n) n (c38 n) Tryd.f38 x = F38 n x.1 := by kernel_rfl
theorem g38 (W : World) (n : Nat) : Good Tryd.prog W 38 (c38 n) := body_good follows tabOk (GamOk.cons (g36 W n) GamOk.nil) (f := 38) (fn := Tryd.f38) (c := bodyOf Tryd.f38) (by kernel_rfl) (by kernel_rfl) (by kernel_rfl) (by kernel_rfl) (by kernel_rfl) (by kernel_rfl) (by kernel_rfl) (fun x r h => ⟨n, (e38 n x).trans h⟩)
/-! spec.CellsOk -/
noncomputable def st9_0 (n : Nat) (g0 : (List Int) → Int → Option (Bool × Unit)) (l0 : List Int) (i1 : Int) : Option (Bool × Unit) :=
  if (decide (i1 < (l0.length : Int))) = true then
    if (decide (0 ≤ i1)) = true then
    if (decide (i1 < (l0.length : Int))) = true then
    (F36 n (rdOf (0 : Int) l0 i1) (0 : Int) (281474976710655 : Int)).bind fun r1 =>
    if (!r1.1) = true then
      some (false, ())
    else
      g0 l0 (wrap64 (i1 + 1))
    else none
    else none
  else
    some (decide ((l0.length : Int) = 71), ())
noncomputable def lp9_0 (n : Nat) : Nat → (List Int) → Int → Option (Bool × Unit)
  | 0 => fun _ _ => none
  | k + 1 => st9_0 n (lp9_0 n k)
noncomputable def st9 (n : Nat) (h0 : (List Int) → Int → Option (Bool × Unit)) (a0 : List Int) : Option (Bool × Unit) :=
  h0 a0 (0 : Int)
noncomputable def F9 (n : Nat) (a0 : List Int) : Option (Bool × Unit) := st9 n (lp9_0 n n) a0
noncomputable def c9 (n : Nat) : Con := ⟨[.one (.sl (.imm true) 3 (.int .i64))], [], [.one (.bool)], [], fun (x : List Int × Unit) => F9 n x.1⟩
noncomputable def G9 (n : Nat) : Gam := [((36, []), c36 n)]
noncomputable def S9_0 (l0 : List Int) (i1 : Int) : St := ⟨[.sl (.imm true) 3 (.int .i64) l0, .dead, .dead, .int .i64 i1] ++ List.replicate 15 .dead, List.replicate 19 Ob.none⟩
noncomputable def ga9_0 (n : Nat) (ks : List Nat) (k : Nat) (st : St) : Option (Bool × Unit) := goAt tab (G9 n) n (bodyOf Tryd.f9) (lvOf Tryd.f9) (lvOf Tryd.f9).ret [1, 0, 1, 0] ks k st (evBody.endK tab (c9 n) Tryd.f9)
theorem el9_0 (n : Nat) : ∀ (k : Nat), ∀ (l0 : List Int) (i1 : Int), ga9_0 n [] k (S9_0 l0 i1) = lp9_0 n k l0 i1 := by
  intro k
  induction k with
  | zero => intros; rfl
  | succ k ih =>
    intro l0 i1
    have h : ga9_0 n [] (k + 1) (S9_0 l0 i1) = st9_0 n (fun w0 w1 => ga9_0 n [] k (S9_0 w0 w1)) l0 i1 := by kernel_rfl
    rw [h]
    have e : (fun w0 w1 => ga9_0 n [] k (S9_0 w0 w1)) = lp9_0 n k := by
      funext w0 w1; exact ih w0 w1
    rw [e]
    rfl
theorem e9 (n : Nat) (x : List Int × Unit) : evBody tab (G9 n) n (c9 n) Tryd.f9 x = F9 n x.1 := by
  have h : evBody tab (G9 n) n (c9 n) Tryd.f9 x = st9 n (fun w0 w1 => ga9_0 n [] n (S9_0 w0 w1)) x.1 := by kernel_rfl
  rw [h]
  have e0 : (fun w0 w1 => ga9_0 n [] n (S9_0 w0 w1)) = lp9_0 n n := by
    funext w0 w1; exact el9_0 n n w0 w1
  rw [e0]
  rfl
theorem g9 (W : World) (n : Nat) : Good Tryd.prog W 9 (c9 n) := body_good follows tabOk (GamOk.cons (g36 W n) GamOk.nil) (f := 9) (fn := Tryd.f9) (c := bodyOf Tryd.f9) (by kernel_rfl) (by kernel_rfl) (by kernel_rfl) (by kernel_rfl) (by kernel_rfl) (by kernel_rfl) (by kernel_rfl) (fun x r h => ⟨n, (e9 n x).trans h⟩)
/-! spec.FreeSlots -/
noncomputable def st13_0 (n : Nat) (g0 : (List Int) → Int → Int → Option (Int × Unit)) (l0 : List Int) (i1 : Int) (i2 : Int) : Option (Int × Unit) :=
  if (decide (i2 < 4)) = true then
    (F9 n l0).bind fun r1 =>
    if r1.1 = true then
      (F38 n i2).bind fun r2 =>
      if (decide (0 ≤ r2.1)) = true then
      if (decide (r2.1 < (l0.length : Int))) = true then
      if (decide ((rdOf (0 : Int) l0 r2.1) = 0)) = true then
        g0 l0 (wrap64 (i1 + 1)) (wrap64 (i2 + 1))
      else
        g0 l0 i1 (wrap64 (i2 + 1))
      else none
      else none
    else
      some (i1, ())
  else
    some (i1, ())
noncomputable def lp13_0 (n : Nat) : Nat → (List Int) → Int → Int → Option (Int × Unit)
  | 0 => fun _ _ _ => none
  | k + 1 => st13_0 n (lp13_0 n k)
noncomputable def st13 (n : Nat) (h0 : (List Int) → Int → Int → Option (Int × Unit)) (a0 : List Int) : Option (Int × Unit) :=
  h0 a0 (0 : Int) (0 : Int)
noncomputable def F13 (n : Nat) (a0 : List Int) : Option (Int × Unit) := st13 n (lp13_0 n n) a0
noncomputable def c13 (n : Nat) : Con := ⟨[.one (.sl (.imm true) 3 (.int .i64))], [], [.one (.int .i64)], [], fun (x : List Int × Unit) => F13 n x.1⟩
noncomputable def G13 (n : Nat) : Gam := [((9, []), c9 n), ((38, []), c38 n)]
noncomputable def S13_0 (l0 : List Int) (i1 : Int) (i2 : Int) : St := ⟨[.sl (.imm true) 3 (.int .i64) l0, .dead, .dead, .int .i64 i1, .int .i64 i2] ++ List.replicate 17 .dead, List.replicate 22 Ob.none⟩
noncomputable def ga13_0 (n : Nat) (ks : List Nat) (k : Nat) (st : St) : Option (Int × Unit) := goAt tab (G13 n) n (bodyOf Tryd.f13) (lvOf Tryd.f13) (lvOf Tryd.f13).ret [1, 1, 0, 1, 0] ks k st (evBody.endK tab (c13 n) Tryd.f13)
theorem el13_0 (n : Nat) : ∀ (k : Nat), ∀ (l0 : List Int) (i1 : Int) (i2 : Int), ga13_0 n [] k (S13_0 l0 i1 i2) = lp13_0 n k l0 i1 i2 := by
  intro k
  induction k with
  | zero => intros; rfl
  | succ k ih =>
    intro l0 i1 i2
    have h : ga13_0 n [] (k + 1) (S13_0 l0 i1 i2) = st13_0 n (fun w0 w1 w2 => ga13_0 n [] k (S13_0 w0 w1 w2)) l0 i1 i2 := by kernel_rfl
    rw [h]
    have e : (fun w0 w1 w2 => ga13_0 n [] k (S13_0 w0 w1 w2)) = lp13_0 n k := by
      funext w0 w1 w2; exact ih w0 w1 w2
    rw [e]
    rfl
theorem e13 (n : Nat) (x : List Int × Unit) : evBody tab (G13 n) n (c13 n) Tryd.f13 x = F13 n x.1 := by
  have h : evBody tab (G13 n) n (c13 n) Tryd.f13 x = st13 n (fun w0 w1 w2 => ga13_0 n [] n (S13_0 w0 w1 w2)) x.1 := by kernel_rfl
  rw [h]
  have e0 : (fun w0 w1 w2 => ga13_0 n [] n (S13_0 w0 w1 w2)) = lp13_0 n n := by
    funext w0 w1 w2; exact el13_0 n n w0 w1 w2
  rw [e0]
  rfl
theorem g13 (W : World) (n : Nat) : Good Tryd.prog W 13 (c13 n) := body_good follows tabOk (GamOk.cons (g9 W n) (GamOk.cons (g38 W n) GamOk.nil)) (f := 13) (fn := Tryd.f13) (c := bodyOf Tryd.f13) (by kernel_rfl) (by kernel_rfl) (by kernel_rfl) (by kernel_rfl) (by kernel_rfl) (by kernel_rfl) (by kernel_rfl) (fun x r h => ⟨n, (e13 n x).trans h⟩)
/-! laws.big -/
noncomputable def F6 (n : Nat) (a0 : List Int) : Option (Bool × Unit) :=
  some (decide ((a0.length : Int) > 1048576), ())
noncomputable def c6 (n : Nat) : Con := ⟨[.one (.sl (.imm true) 5 (.int .u8))], [], [.one (.bool)], [], fun (x : List Int × Unit) => F6 n x.1⟩
noncomputable def G6 (n : Nat) : Gam := []
theorem e6 (n : Nat) (x : List Int × Unit) : evBody tab (G6 n) n (c6 n) Tryd.f6 x = F6 n x.1 := by kernel_rfl
theorem g6 (W : World) (n : Nat) : Good Tryd.prog W 6 (c6 n) := body_good follows tabOk GamOk.nil (f := 6) (fn := Tryd.f6) (c := bodyOf Tryd.f6) (by kernel_rfl) (by kernel_rfl) (by kernel_rfl) (by kernel_rfl) (by kernel_rfl) (by kernel_rfl) (by kernel_rfl) (fun x r h => ⟨n, (e6 n x).trans h⟩)
/-! spec.l1Byte -/
noncomputable def F72 (n : Nat) (a1 : List Int) (a2 : Int) (a3 : Int) : Option (Int × List Int × Int × Int × Unit) :=
  if (decide (0 ≤ 33)) = true then
  if (decide (0 ≤ 45)) = true then
  if (decide (a2 < (a1.length : Int))) = true then
    if (decide (0 ≤ a2)) = true then
    if (decide (a2 < (a1.length : Int))) = true then
    some ((andI .i64 (wrap64 ((andI .i64 (xorI .i64 (shrI (wrap64 ((wrap64 (a3 * 6364136223846793005)) + 1442695040888963407)) (min (33 : Int).toNat 64)) (shrI (wrap64 ((wrap64 (a3 * 6364136223846793005)) + 1442695040888963407)) (min (45 : Int).toNat 64))) (255 : Int)) + (wrap64 ((rdOf (0 : Int) a1 a2))))) (255 : Int)), a1, (wrap64 (a2 + 1)), (wrap64 ((wrap64 (a3 * 6364136223846793005)) + 1442695040888963407)), ())
    else none
    else none
  else
    some ((andI .i64 (xorI .i64 (shrI (wrap64 ((wrap64 (a3 * 6364136223846793005)) + 1442695040888963407)) (min (33 : Int).toNat 64)) (shrI (wrap64 ((wrap64 (a3 * 6364136223846793005)) + 1442695040888963407)) (min (45 : Int).toNat 64))) (255 : Int)), a1, a2, (wrap64 ((wrap64 (a3 * 6364136223846793005)) + 1442695040888963407)), ())
  else none
  else none
noncomputable def c72 (n : Nat) : Con := ⟨[.one (.ptr 0 0)], [[(.sl (.imm false) 5 (.int .u8)), (.int .i64), (.int .i64)]], [.one (.int .i64)], [[(.sl (.imm false) 5 (.int .u8)), (.int .i64), (.int .i64)]], fun (x : Unit × List Int × Int × Int × Unit) => F72 n x.2.1 x.2.2.1 x.2.2.2.1⟩
noncomputable def G72 (n : Nat) : Gam := []
theorem e72 (n : Nat) (x : Unit × List Int × Int × Int × Unit) : evBody tab (G72 n) n (c72 n) Tryd.f72 x = F72 n x.2.1 x.2.2.1 x.2.2.2.1 := by kernel_rfl
theorem g72 (W : World) (n : Nat) : Good Tryd.prog W 72 (c72 n) := body_good follows tabOk GamOk.nil (f := 72) (fn := Tryd.f72) (c := bodyOf Tryd.f72) (by kernel_rfl) (by kernel_rfl) (by kernel_rfl) (by kernel_rfl) (by kernel_rfl) (by kernel_rfl) (by kernel_rfl) (fun x r h => ⟨n, (e72 n x).trans h⟩)
/-! spec.l1Below -/
noncomputable def F39 (n : Nat) (a1 : Int) (a2 : List Int) (a3 : Int) (a4 : Int) : Option (Int × List Int × Int × Int × Unit) :=
  if (decide (a1 ≤ 0)) = true then
    some (0, a2, a3, a4, ())
  else
    if (decide (a1 ≤ 256)) = true then
      (F72 n a2 a3 a4).bind fun r1 =>
      if (decide (a1 ≠ 0)) = true then
      some ((r1.1.tmod a1), r1.2.1, r1.2.2.1, r1.2.2.2.1, ())
      else none
    else
      (F72 n a2 a3 a4).bind fun r2 =>
      (F72 n r2.2.1 r2.2.2.1 r2.2.2.2.1).bind fun r3 =>
      (F72 n r3.2.1 r3.2.2.1 r3.2.2.2.1).bind fun r4 =>
      (F72 n r4.2.1 r4.2.2.1 r4.2.2.2.1).bind fun r5 =>
      if (decide (a1 ≠ 0)) = true then
      some (((wrap64 ((wrap64 ((wrap64 ((wrap64 (r2.1 * 16777216)) + (wrap64 (r3.1 * 65536)))) + (wrap64 (r4.1 * 256)))) + r5.1)).tmod a1), r5.2.1, r5.2.2.1, r5.2.2.2.1, ())
      else none
noncomputable def c39 (n : Nat) : Con := ⟨[.one (.ptr 0 0), .one (.int .i64)], [[(.sl (.imm false) 5 (.int .u8)), (.int .i64), (.int .i64)]], [.one (.int .i64)], [[(.sl (.imm false) 5 (.int .u8)), (.int .i64), (.int .i64)]], fun (x : Unit × Int × List Int × Int × Int × Unit) => F39 n x.2.1 x.2.2.1 x.2.2.2.1 x.2.2.2.2.1⟩
noncomputable def G39 (n : Nat) : Gam := [((72, []), c72 n)]
theorem e39 (n : Nat) (x : Unit × Int × List Int × Int × Int × Unit) : evBody tab (G39 n) n (c39 n) Tryd.f39 x = F39 n x.2.1 x.2.2.1 x.2.2.2.1 x.2.2.2.2.1 := by kernel_rfl
theorem g39 (W : World) (n : Nat) : Good Tryd.prog W 39 (c39 n) := body_good follows tabOk (GamOk.cons (g72 W n) GamOk.nil) (f := 39) (fn := Tryd.f39) (c := bodyOf Tryd.f39) (by kernel_rfl) (by kernel_rfl) (by kernel_rfl) (by kernel_rfl) (by kernel_rfl) (by kernel_rfl) (by kernel_rfl) (fun x r h => ⟨n, (e39 n x).trans h⟩)
/-! spec.l1Pick -/
noncomputable def F52 (n : Nat) (a1 : List ByteArray) (a2 : List Int) (a3 : Int) (a4 : Int) : Option (ByteArray × List Int × Int × Int × Unit) :=
  (F39 n (a1.length : Int) a2 a3 a4).bind fun r1 =>
  if (decide (0 ≤ r1.1)) = true then
  if (decide (r1.1 < (a1.length : Int))) = true then
  some ((rdOf (⟨#[]⟩ : ByteArray) a1 r1.1), r1.2.1, r1.2.2.1, r1.2.2.2.1, ())
  else none
  else none
noncomputable def c52 (n : Nat) : Con := ⟨[.one (.ptr 0 0), .one (.sl (.imm true) 9 .str)], [[(.sl (.imm false) 5 (.int .u8)), (.int .i64), (.int .i64)]], [.one (.str)], [[(.sl (.imm false) 5 (.int .u8)), (.int .i64), (.int .i64)]], fun (x : Unit × List ByteArray × List Int × Int × Int × Unit) => F52 n x.2.1 x.2.2.1 x.2.2.2.1 x.2.2.2.2.1⟩
noncomputable def G52 (n : Nat) : Gam := [((39, []), c39 n)]
theorem e52 (n : Nat) (x : Unit × List ByteArray × List Int × Int × Int × Unit) : evBody tab (G52 n) n (c52 n) Tryd.f52 x = F52 n x.2.1 x.2.2.1 x.2.2.2.1 x.2.2.2.2.1 := by kernel_rfl
theorem g52 (W : World) (n : Nat) : Good Tryd.prog W 52 (c52 n) := body_good follows tabOk (GamOk.cons (g39 W n) GamOk.nil) (f := 52) (fn := Tryd.f52) (c := bodyOf Tryd.f52) (by kernel_rfl) (by kernel_rfl) (by kernel_rfl) (by kernel_rfl) (by kernel_rfl) (by kernel_rfl) (by kernel_rfl) (fun x r h => ⟨n, (e52 n x).trans h⟩)
/-! spec.l4Key -/
noncomputable def F112 (n : Nat) (a1 : List Int) (a2 : Int) (a3 : Int) : Option (ByteArray × List Int × Int × Int × Unit) :=
  (F52 n ([(⟨#[97]⟩ : ByteArray), (⟨#[98]⟩ : ByteArray), (⟨#[99, 112, 117]⟩ : ByteArray), (⟨#[114, 101, 113]⟩ : ByteArray), (⟨#[120, 95, 49]⟩ : ByteArray), (⟨#[90, 57]⟩ : ByteArray), (⟨#[109, 101, 109]⟩ : ByteArray), (⟨#[113]⟩ : ByteArray)] : List ByteArray) a1 a2 a3).bind fun r1 =>
  some (r1.1, r1.2.1, r1.2.2.1, r1.2.2.2.1, ())
noncomputable def c112 (n : Nat) : Con := ⟨[.one (.ptr 0 0)], [[(.sl (.imm false) 5 (.int .u8)), (.int .i64), (.int .i64)]], [.one (.str)], [[(.sl (.imm false) 5 (.int .u8)), (.int .i64), (.int .i64)]], fun (x : Unit × List Int × Int × Int × Unit) => F112 n x.2.1 x.2.2.1 x.2.2.2.1⟩
noncomputable def G112 (n : Nat) : Gam := [((52, []), c52 n)]
theorem e112 (n : Nat) (x : Unit × List Int × Int × Int × Unit) : evBody tab (G112 n) n (c112 n) Tryd.f112 x = F112 n x.2.1 x.2.2.1 x.2.2.2.1 := by kernel_rfl
theorem g112 (W : World) (n : Nat) : Good Tryd.prog W 112 (c112 n) := body_good follows tabOk (GamOk.cons (g52 W n) GamOk.nil) (f := 112) (fn := Tryd.f112) (c := bodyOf Tryd.f112) (by kernel_rfl) (by kernel_rfl) (by kernel_rfl) (by kernel_rfl) (by kernel_rfl) (by kernel_rfl) (by kernel_rfl) (fun x r h => ⟨n, (e112 n x).trans h⟩)
/-! spec.KindWord -/
noncomputable def F122 (n : Nat) (a0 : Int) : Option (ByteArray × Unit) :=
  (F36 n a0 (1 : Int) (3 : Int)).bind fun r1 =>
  if (!r1.1) = true then
    some ((⟨#[]⟩ : ByteArray), ())
  else
    if (decide (0 ≤ (wrap64 (a0 - 1)))) = true then
    if (decide ((wrap64 (a0 - 1)) < (([(⟨#[99]⟩ : ByteArray), (⟨#[103]⟩ : ByteArray), (⟨#[109, 115]⟩ : ByteArray)] : List ByteArray).length : Int))) = true then
    some ((rdOf (⟨#[]⟩ : ByteArray) ([(⟨#[99]⟩ : ByteArray), (⟨#[103]⟩ : ByteArray), (⟨#[109, 115]⟩ : ByteArray)] : List ByteArray) (wrap64 (a0 - 1))), ())
    else none
    else none
noncomputable def c122 (n : Nat) : Con := ⟨[.one (.int .i64)], [], [.one (.str)], [], fun (x : Int × Unit) => F122 n x.1⟩
noncomputable def G122 (n : Nat) : Gam := [((36, []), c36 n)]
theorem e122 (n : Nat) (x : Int × Unit) : evBody tab (G122 n) n (c122 n) Tryd.f122 x = F122 n x.1 := by kernel_rfl
theorem g122 (W : World) (n : Nat) : Good Tryd.prog W 122 (c122 n) := body_good follows tabOk (GamOk.cons (g36 W n) GamOk.nil) (f := 122) (fn := Tryd.f122) (c := bodyOf Tryd.f122) (by kernel_rfl) (by kernel_rfl) (by kernel_rfl) (by kernel_rfl) (by kernel_rfl) (by kernel_rfl) (by kernel_rfl) (fun x r h => ⟨n, (e122 n x).trans h⟩)
/-! spec.l4Byte -/
noncomputable def F80 (n : Nat) (a0 : Int) : Option (Bool × Unit) :=
  (F36 n a0 (97 : Int) (122 : Int)).bind fun r1 =>
  if r1.1 = true then
    some (true, ())
  else
    (F36 n a0 (65 : Int) (90 : Int)).bind fun r2 =>
    if r2.1 = true then
      some (true, ())
    else
      (F36 n a0 (48 : Int) (57 : Int)).bind fun r3 =>
      if r3.1 = true then
        some (true, ())
      else
        some (decide (a0 = 95), ())
noncomputable def c80 (n : Nat) : Con := ⟨[.one (.int .i64)], [], [.one (.bool)], [], fun (x : Int × Unit) => F80 n x.1⟩
noncomputable def G80 (n : Nat) : Gam := [((36, []), c36 n)]
theorem e80 (n : Nat) (x : Int × Unit) : evBody tab (G80 n) n (c80 n) Tryd.f80 x = F80 n x.1 := by kernel_rfl
theorem g80 (W : World) (n : Nat) : Good Tryd.prog W 80 (c80 n) := body_good follows tabOk (GamOk.cons (g36 W n) GamOk.nil) (f := 80) (fn := Tryd.f80) (c := bodyOf Tryd.f80) (by kernel_rfl) (by kernel_rfl) (by kernel_rfl) (by kernel_rfl) (by kernel_rfl) (by kernel_rfl) (by kernel_rfl) (fun x r h => ⟨n, (e80 n x).trans h⟩)
/-! spec.KeyOk -/
noncomputable def st46_0 (n : Nat) (g0 : ByteArray → Int → Option (Bool × Unit)) (s0 : ByteArray) (i1 : Int) : Option (Bool × Unit) :=
  if (decide (i1 < (s0.size : Int))) = true then
    if (decide (0 ≤ i1)) = true then
    if (decide (i1 < (s0.size : Int))) = true then
    (F80 n (wrap64 ((bt s0 i1)))).bind fun r1 =>
    if (!r1.1) = true then
      some (false, ())
    else
      g0 s0 (wrap64 (i1 + 1))
    else none
    else none
  else
    (F36 n (s0.size : Int) (1 : Int) (4 : Int)).bind fun r2 =>
    some (r2.1, ())
noncomputable def lp46_0 (n : Nat) : Nat → ByteArray → Int → Option (Bool × Unit)
  | 0 => fun _ _ => none
  | k + 1 => st46_0 n (lp46_0 n k)
noncomputable def st46 (n : Nat) (h0 : ByteArray → Int → Option (Bool × Unit)) (a0 : ByteArray) : Option (Bool × Unit) :=
  h0 a0 (0 : Int)
noncomputable def F46 (n : Nat) (a0 : ByteArray) : Option (Bool × Unit) := st46 n (lp46_0 n n) a0
noncomputable def c46 (n : Nat) : Con := ⟨[.one (.str)], [], [.one (.bool)], [], fun (x : ByteArray × Unit) => F46 n x.1⟩
noncomputable def G46 (n : Nat) : Gam := [((36, []), c36 n), ((80, []), c80 n)]
noncomputable def S46_0 (s0 : ByteArray) (i1 : Int) : St := ⟨[.str s0, .dead, .dead, .int .i64 i1] ++ List.replicate 15 .dead, List.replicate 19 Ob.none⟩
noncomputable def ga46_0 (n : Nat) (ks : List Nat) (k : Nat) (st : St) : Option (Bool × Unit) := goAt tab (G46 n) n (bodyOf Tryd.f46) (lvOf Tryd.f46) (lvOf Tryd.f46).ret [1, 0, 1, 0] ks k st (evBody.endK tab (c46 n) Tryd.f46)
theorem el46_0 (n : Nat) : ∀ (k : Nat), ∀ (s0 : ByteArray) (i1 : Int), ga46_0 n [] k (S46_0 s0 i1) = lp46_0 n k s0 i1 := by
  intro k
  induction k with
  | zero => intros; rfl
  | succ k ih =>
    intro s0 i1
    have h : ga46_0 n [] (k + 1) (S46_0 s0 i1) = st46_0 n (fun w0 w1 => ga46_0 n [] k (S46_0 w0 w1)) s0 i1 := by kernel_rfl
    rw [h]
    have e : (fun w0 w1 => ga46_0 n [] k (S46_0 w0 w1)) = lp46_0 n k := by
      funext w0 w1; exact ih w0 w1
    rw [e]
    rfl
theorem e46 (n : Nat) (x : ByteArray × Unit) : evBody tab (G46 n) n (c46 n) Tryd.f46 x = F46 n x.1 := by
  have h : evBody tab (G46 n) n (c46 n) Tryd.f46 x = st46 n (fun w0 w1 => ga46_0 n [] n (S46_0 w0 w1)) x.1 := by kernel_rfl
  rw [h]
  have e0 : (fun w0 w1 => ga46_0 n [] n (S46_0 w0 w1)) = lp46_0 n n := by
    funext w0 w1; exact el46_0 n n w0 w1
  rw [e0]
  rfl
theorem g46 (W : World) (n : Nat) : Good Tryd.prog W 46 (c46 n) := body_good follows tabOk (GamOk.cons (g36 W n) (GamOk.cons (g80 W n) GamOk.nil)) (f := 46) (fn := Tryd.f46) (c := bodyOf Tryd.f46) (by kernel_rfl) (by kernel_rfl) (by kernel_rfl) (by kernel_rfl) (by kernel_rfl) (by kernel_rfl) (by kernel_rfl) (fun x r h => ⟨n, (e46 n x).trans h⟩)
/-! spec.PackKey -/
noncomputable def st153_0 (n : Nat) (g0 : ByteArray → Int → Int → Option (Int × Unit)) (s0 : ByteArray) (i1 : Int) (i2 : Int) : Option (Int × Unit) :=
  if (decide (i2 < (s0.size : Int))) = true then
    if (decide (0 ≤ i2)) = true then
    if (decide (i2 < (s0.size : Int))) = true then
    g0 s0 (wrap64 ((wrap64 (i1 * 256)) + (wrap64 ((bt s0 i2))))) (wrap64 (i2 + 1))
    else none
    else none
  else
    some (i1, ())
noncomputable def lp153_0 (n : Nat) : Nat → ByteArray → Int → Int → Option (Int × Unit)
  | 0 => fun _ _ _ => none
  | k + 1 => st153_0 n (lp153_0 n k)
noncomputable def st153 (n : Nat) (h0 : ByteArray → Int → Int → Option (Int × Unit)) (a0 : ByteArray) : Option (Int × Unit) :=
  (F46 n a0).bind fun r1 =>
  if (!r1.1) = true then
    some (0, ())
  else
    h0 a0 (0 : Int) (0 : Int)
noncomputable def F153 (n : Nat) (a0 : ByteArray) : Option (Int × Unit) := st153 n (lp153_0 n n) a0
noncomputable def c153 (n : Nat) : Con := ⟨[.one (.str)], [], [.one (.int .i64)], [], fun (x : ByteArray × Unit) => F153 n x.1⟩
noncomputable def G153 (n : Nat) : Gam := [((46, []), c46 n)]
noncomputable def S153_0 (s0 : ByteArray) (i1 : Int) (i2 : Int) : St := ⟨[.str s0, .dead, .dead, .int .i64 i1, .int .i64 i2] ++ List.replicate 17 .dead, List.replicate 22 Ob.none⟩
noncomputable def ga153_0 (n : Nat) (ks : List Nat) (k : Nat) (st : St) : Option (Int × Unit) := goAt tab (G153 n) n (bodyOf Tryd.f153) (lvOf Tryd.f153) (lvOf Tryd.f153).ret [1, 1, 1, 0, 1, 0] ks k st (evBody.endK tab (c153 n) Tryd.f153)
theorem el153_0 (n : Nat) : ∀ (k : Nat), ∀ (s0 : ByteArray) (i1 : Int) (i2 : Int), ga153_0 n [] k (S153_0 s0 i1 i2) = lp153_0 n k s0 i1 i2 := by
  intro k
  induction k with
  | zero => intros; rfl
  | succ k ih =>
    intro s0 i1 i2
    have h : ga153_0 n [] (k + 1) (S153_0 s0 i1 i2) = st153_0 n (fun w0 w1 w2 => ga153_0 n [] k (S153_0 w0 w1 w2)) s0 i1 i2 := by kernel_rfl
    rw [h]
    have e : (fun w0 w1 w2 => ga153_0 n [] k (S153_0 w0 w1 w2)) = lp153_0 n k := by
      funext w0 w1 w2; exact ih w0 w1 w2
    rw [e]
    rfl
theorem e153 (n : Nat) (x : ByteArray × Unit) : evBody tab (G153 n) n (c153 n) Tryd.f153 x = F153 n x.1 := by
  have h : evBody tab (G153 n) n (c153 n) Tryd.f153 x = st153 n (fun w0 w1 w2 => ga153_0 n [] n (S153_0 w0 w1 w2)) x.1 := by kernel_rfl
  rw [h]
  have e0 : (fun w0 w1 w2 => ga153_0 n [] n (S153_0 w0 w1 w2)) = lp153_0 n n := by
    funext w0 w1 w2; exact el153_0 n n w0 w1 w2
  rw [e0]
  rfl
theorem g153 (W : World) (n : Nat) : Good Tryd.prog W 153 (c153 n) := body_good follows tabOk (GamOk.cons (g46 W n) GamOk.nil) (f := 153) (fn := Tryd.f153) (c := bodyOf Tryd.f153) (by kernel_rfl) (by kernel_rfl) (by kernel_rfl) (by kernel_rfl) (by kernel_rfl) (by kernel_rfl) (by kernel_rfl) (fun x r h => ⟨n, (e153 n x).trans h⟩)
/-! spec.Tagged -/
noncomputable def F128 (n : Nat) (a0 : ByteArray) (a1 : Int) : Option (Int × Unit) :=
  (F46 n a0).bind fun r1 =>
  if (!r1.1) = true then
    some (0, ())
  else
    (F122 n a1).bind fun r2 =>
    if (decide (r2.1.toList = (⟨#[]⟩ : ByteArray).toList)) = true then
      some (0, ())
    else
      (F153 n a0).bind fun r3 =>
      some ((wrap64 ((wrap64 (r3.1 * 4)) + a1)), ())
noncomputable def c128 (n : Nat) : Con := ⟨[.one (.str), .one (.int .i64)], [], [.one (.int .i64)], [], fun (x : ByteArray × Int × Unit) => F128 n x.1 x.2.1⟩
noncomputable def G128 (n : Nat) : Gam := [((46, []), c46 n), ((122, []), c122 n), ((153, []), c153 n)]
theorem e128 (n : Nat) (x : ByteArray × Int × Unit) : evBody tab (G128 n) n (c128 n) Tryd.f128 x = F128 n x.1 x.2.1 := by kernel_rfl
theorem g128 (W : World) (n : Nat) : Good Tryd.prog W 128 (c128 n) := body_good follows tabOk (GamOk.cons (g46 W n) (GamOk.cons (g122 W n) (GamOk.cons (g153 W n) GamOk.nil))) (f := 128) (fn := Tryd.f128) (c := bodyOf Tryd.f128) (by kernel_rfl) (by kernel_rfl) (by kernel_rfl) (by kernel_rfl) (by kernel_rfl) (by kernel_rfl) (by kernel_rfl) (fun x r h => ⟨n, (e128 n x).trans h⟩)
/-! spec.HashKey -/
noncomputable def st151_0 (n : Nat) (g0 : ByteArray → Int → Int → Option (Int × Unit)) (s0 : ByteArray) (i1 : Int) (i2 : Int) : Option (Int × Unit) :=
  if (decide (i2 < (s0.size : Int))) = true then
    if (decide (0 ≤ i2)) = true then
    if (decide (i2 < (s0.size : Int))) = true then
    if (decide (4294967296 ≠ 0)) = true then
    g0 s0 ((wrap64 ((xorI .i64 i1 (wrap64 ((bt s0 i2)))) * 16777619)).tmod (4294967296 : Int)) (wrap64 (i2 + 1))
    else none
    else none
    else none
  else
    some (i1, ())
noncomputable def lp151_0 (n : Nat) : Nat → ByteArray → Int → Int → Option (Int × Unit)
  | 0 => fun _ _ _ => none
  | k + 1 => st151_0 n (lp151_0 n k)
noncomputable def st151 (n : Nat) (h0 : ByteArray → Int → Int → Option (Int × Unit)) (a0 : ByteArray) : Option (Int × Unit) :=
  h0 a0 (2166136261 : Int) (0 : Int)
noncomputable def F151 (n : Nat) (a0 : ByteArray) : Option (Int × Unit) := st151 n (lp151_0 n n) a0
noncomputable def c151 (n : Nat) : Con := ⟨[.one (.str)], [], [.one (.int .i64)], [], fun (x : ByteArray × Unit) => F151 n x.1⟩
noncomputable def G151 (n : Nat) : Gam := []
noncomputable def S151_0 (s0 : ByteArray) (i1 : Int) (i2 : Int) : St := ⟨[.str s0, .dead, .dead, .int .i64 i1, .int .i64 i2] ++ List.replicate 15 .dead, List.replicate 20 Ob.none⟩
noncomputable def ga151_0 (n : Nat) (ks : List Nat) (k : Nat) (st : St) : Option (Int × Unit) := goAt tab (G151 n) n (bodyOf Tryd.f151) (lvOf Tryd.f151) (lvOf Tryd.f151).ret [1, 1, 0, 1, 0] ks k st (evBody.endK tab (c151 n) Tryd.f151)
theorem el151_0 (n : Nat) : ∀ (k : Nat), ∀ (s0 : ByteArray) (i1 : Int) (i2 : Int), ga151_0 n [] k (S151_0 s0 i1 i2) = lp151_0 n k s0 i1 i2 := by
  intro k
  induction k with
  | zero => intros; rfl
  | succ k ih =>
    intro s0 i1 i2
    have h : ga151_0 n [] (k + 1) (S151_0 s0 i1 i2) = st151_0 n (fun w0 w1 w2 => ga151_0 n [] k (S151_0 w0 w1 w2)) s0 i1 i2 := by kernel_rfl
    rw [h]
    have e : (fun w0 w1 w2 => ga151_0 n [] k (S151_0 w0 w1 w2)) = lp151_0 n k := by
      funext w0 w1 w2; exact ih w0 w1 w2
    rw [e]
    rfl
theorem e151 (n : Nat) (x : ByteArray × Unit) : evBody tab (G151 n) n (c151 n) Tryd.f151 x = F151 n x.1 := by
  have h : evBody tab (G151 n) n (c151 n) Tryd.f151 x = st151 n (fun w0 w1 w2 => ga151_0 n [] n (S151_0 w0 w1 w2)) x.1 := by kernel_rfl
  rw [h]
  have e0 : (fun w0 w1 w2 => ga151_0 n [] n (S151_0 w0 w1 w2)) = lp151_0 n n := by
    funext w0 w1 w2; exact el151_0 n n w0 w1 w2
  rw [e0]
  rfl
theorem g151 (W : World) (n : Nat) : Good Tryd.prog W 151 (c151 n) := body_good follows tabOk GamOk.nil (f := 151) (fn := Tryd.f151) (c := bodyOf Tryd.f151) (by kernel_rfl) (by kernel_rfl) (by kernel_rfl) (by kernel_rfl) (by kernel_rfl) (by kernel_rfl) (by kernel_rfl) (fun x r h => ⟨n, (e151 n x).trans h⟩)
/-! spec.Probe -/
noncomputable def F125 (n : Nat) (a0 : ByteArray) (a1 : Int) : Option (Int × Unit) :=
  (F46 n a0).bind fun r1 =>
  if (!r1.1) = true then
    some ((-1), ())
  else
    (F36 n a1 (0 : Int) (3 : Int)).bind fun r2 =>
    if (!r2.1) = true then
      some ((-1), ())
    else
      (F151 n a0).bind fun r3 =>
      if (decide (4 ≠ 0)) = true then
      some (((wrap64 (r3.1 + a1)).tmod (4 : Int)), ())
      else none
noncomputable def c125 (n : Nat) : Con := ⟨[.one (.str), .one (.int .i64)], [], [.one (.int .i64)], [], fun (x : ByteArray × Int × Unit) => F125 n x.1 x.2.1⟩
noncomputable def G125 (n : Nat) : Gam := [((36, []), c36 n), ((46, []), c46 n), ((151, []), c151 n)]
theorem e125 (n : Nat) (x : ByteArray × Int × Unit) : evBody tab (G125 n) n (c125 n) Tryd.f125 x = F125 n x.1 x.2.1 := by kernel_rfl
theorem g125 (W : World) (n : Nat) : Good Tryd.prog W 125 (c125 n) := body_good follows tabOk (GamOk.cons (g36 W n) (GamOk.cons (g46 W n) (GamOk.cons (g151 W n) GamOk.nil))) (f := 125) (fn := Tryd.f125) (c := bodyOf Tryd.f125) (by kernel_rfl) (by kernel_rfl) (by kernel_rfl) (by kernel_rfl) (by kernel_rfl) (by kernel_rfl) (by kernel_rfl) (fun x r h => ⟨n, (e125 n x).trans h⟩)
/-! spec.UnpackKey -/
noncomputable def st152_0 (n : Nat) (g0 : Int → (List Int) → Option (ByteArray × Bool × Unit)) (i0 : Int) (l1 : List Int) : Option (ByteArray × Bool × Unit) :=
  if (decide (i0 > 0)) = true then
    if (decide (256 ≠ 0)) = true then
    if (decide ((([(wrapI .u8 ((i0.tmod (256 : Int))))] : List Int).length + l1.length) * 1 ≤ 140737488355328)) = true then
    if (decide (256 ≠ 0)) = true then
    g0 (wrap64 (i0.tdiv (256 : Int))) (([(wrapI .u8 ((i0.tmod (256 : Int))))] : List Int) ++ l1)
    else none
    else none
    else none
  else
    (F46 n (strOf l1)).bind fun r2 =>
    if (!r2.1) = true then
      some ((⟨#[]⟩ : ByteArray), false, ())
    else
      some ((strOf l1), true, ())
noncomputable def lp152_0 (n : Nat) : Nat → Int → (List Int) → Option (ByteArray × Bool × Unit)
  | 0 => fun _ _ => none
  | k + 1 => st152_0 n (lp152_0 n k)
noncomputable def st152 (n : Nat) (h0 : Int → (List Int) → Option (ByteArray × Bool × Unit)) (a0 : Int) : Option (ByteArray × Bool × Unit) :=
  (F36 n a0 (1 : Int) (4294967295 : Int)).bind fun r1 =>
  if (!r1.1) = true then
    some ((⟨#[]⟩ : ByteArray), false, ())
  else
    h0 a0 ([] : List Int)
noncomputable def F152 (n : Nat) (a0 : Int) : Option (ByteArray × Bool × Unit) := st152 n (lp152_0 n n) a0
noncomputable def c152 (n : Nat) : Con := ⟨[.one (.int .i64)], [], [.one (.str), .one (.bool)], [], fun (x : Int × Unit) => F152 n x.1⟩
noncomputable def G152 (n : Nat) : Gam := [((36, []), c36 n), ((46, []), c46 n)]
noncomputable def S152_0 (i0 : Int) (l1 : List Int) : St := ⟨[.int .i64 i0, .dead, .dead, .dead, .sr 4 0 none 0 0 none] ++ List.replicate 20 .dead, List.replicate 4 Ob.none ++ [⟨false, [.sl .own 5 (.int .u8) l1], 0, 0⟩] ++ List.replicate 20 Ob.none⟩
noncomputable def ga152_0 (n : Nat) (ks : List Nat) (k : Nat) (st : St) : Option (ByteArray × Bool × Unit) := goAt tab (G152 n) n (bodyOf Tryd.f152) (lvOf Tryd.f152) (lvOf Tryd.f152).ret [1, 1, 1, 0, 0] ks k st (evBody.endK tab (c152 n) Tryd.f152)
theorem el152_0 (n : Nat) : ∀ (k : Nat), ∀ (i0 : Int) (l1 : List Int), ga152_0 n [] k (S152_0 i0 l1) = lp152_0 n k i0 l1 := by
  intro k
  induction k with
  | zero => intros; rfl
  | succ k ih =>
    intro i0 l1
    have h : ga152_0 n [] (k + 1) (S152_0 i0 l1) = st152_0 n (fun w0 w1 => ga152_0 n [] k (S152_0 w0 w1)) i0 l1 := by kernel_rfl
    rw [h]
    have e : (fun w0 w1 => ga152_0 n [] k (S152_0 w0 w1)) = lp152_0 n k := by
      funext w0 w1; exact ih w0 w1
    rw [e]
    rfl
theorem e152 (n : Nat) (x : Int × Unit) : evBody tab (G152 n) n (c152 n) Tryd.f152 x = F152 n x.1 := by
  have h : evBody tab (G152 n) n (c152 n) Tryd.f152 x = st152 n (fun w0 w1 => ga152_0 n [] n (S152_0 w0 w1)) x.1 := by kernel_rfl
  rw [h]
  have e0 : (fun w0 w1 => ga152_0 n [] n (S152_0 w0 w1)) = lp152_0 n n := by
    funext w0 w1; exact el152_0 n n w0 w1
  rw [e0]
  rfl
theorem g152 (W : World) (n : Nat) : Good Tryd.prog W 152 (c152 n) := body_good follows tabOk (GamOk.cons (g36 W n) (GamOk.cons (g46 W n) GamOk.nil)) (f := 152) (fn := Tryd.f152) (c := bodyOf Tryd.f152) (by kernel_rfl) (by kernel_rfl) (by kernel_rfl) (by kernel_rfl) (by kernel_rfl) (by kernel_rfl) (by kernel_rfl) (fun x r h => ⟨n, (e152 n x).trans h⟩)
/-! spec.Untag -/
noncomputable def F126 (n : Nat) (a0 : Int) : Option (ByteArray × Int × Unit) :=
  (F36 n a0 (1 : Int) (17179869183 : Int)).bind fun r1 =>
  if (!r1.1) = true then
    some ((⟨#[]⟩ : ByteArray), 0, ())
  else
    if (decide (4 ≠ 0)) = true then
    (F152 n (wrap64 (a0.tdiv (4 : Int)))).bind fun r2 =>
    if (!r2.2.1) = true then
      some ((⟨#[]⟩ : ByteArray), 0, ())
    else
      if (decide (4 ≠ 0)) = true then
      (F122 n (a0.tmod (4 : Int))).bind fun r3 =>
      if (decide (r3.1.toList = (⟨#[]⟩ : ByteArray).toList)) = true then
        some ((⟨#[]⟩ : ByteArray), 0, ())
      else
        if (decide (4 ≠ 0)) = true then
        some (r2.1, (a0.tmod (4 : Int)), ())
        else none
      else none
    else none
noncomputable def c126 (n : Nat) : Con := ⟨[.one (.int .i64)], [], [.one (.str), .one (.int .i64)], [], fun (x : Int × Unit) => F126 n x.1⟩
noncomputable def G126 (n : Nat) : Gam := [((36, []), c36 n), ((122, []), c122 n), ((152, []), c152 n)]
theorem e126 (n : Nat) (x : Int × Unit) : evBody tab (G126 n) n (c126 n) Tryd.f126 x = F126 n x.1 := by kernel_rfl
theorem g126 (W : World) (n : Nat) : Good Tryd.prog W 126 (c126 n) := body_good follows tabOk (GamOk.cons (g36 W n) (GamOk.cons (g122 W n) (GamOk.cons (g152 W n) GamOk.nil))) (f := 126) (fn := Tryd.f126) (c := bodyOf Tryd.f126) (by kernel_rfl) (by kernel_rfl) (by kernel_rfl) (by kernel_rfl) (by kernel_rfl) (by kernel_rfl) (by kernel_rfl) (fun x r h => ⟨n, (e126 n x).trans h⟩)
/-! spec.l6Find -/
noncomputable def st158_0 (n : Nat) (g0 : (List Int) → ByteArray → Int → Option (Int × Int × Int × Unit)) (l0 : List Int) (s1 : ByteArray) (i2 : Int) : Option (Int × Int × Int × Unit) :=
  if (decide (i2 < 4)) = true then
    (F125 n s1 i2).bind fun r1 =>
    (F38 n r1.1).bind fun r2 =>
    if (decide (0 ≤ r2.1)) = true then
    if (decide (r2.1 < (l0.length : Int))) = true then
    if (decide ((rdOf (0 : Int) l0 r2.1) = 0)) = true then
      some ((-1), 0, r1.1, ())
    else
      (F126 n (rdOf (0 : Int) l0 r2.1)).bind fun r3 =>
      if (decide (r3.1.toList = s1.toList)) = true then
        some (r1.1, r3.2.1, (-1), ())
      else
        g0 l0 s1 (wrap64 (i2 + 1))
    else none
    else none
  else
    some ((-1), 0, (-1), ())
noncomputable def lp158_0 (n : Nat) : Nat → (List Int) → ByteArray → Int → Option (Int × Int × Int × Unit)
  | 0 => fun _ _ _ => none
  | k + 1 => st158_0 n (lp158_0 n k)
noncomputable def st158 (n : Nat) (h0 : (List Int) → ByteArray → Int → Option (Int × Int × Int × Unit)) (a0 : List Int) (a1 : ByteArray) : Option (Int × Int × Int × Unit) :=
  h0 a0 a1 (0 : Int)
noncomputable def F158 (n : Nat) (a0 : List Int) (a1 : ByteArray) : Option (Int × Int × Int × Unit) := st158 n (lp158_0 n n) a0 a1
noncomputable def c158 (n : Nat) : Con := ⟨[.one (.sl (.imm true) 3 (.int .i64)), .one (.str)], [], [.one (.int .i64), .one (.int .i64), .one (.int .i64)], [], fun (x : List Int × ByteArray × Unit) => F158 n x.1 x.2.1⟩
noncomputable def G158 (n : Nat) : Gam := [((38, []), c38 n), ((125, []), c125 n), ((126, []), c126 n)]
noncomputable def S158_0 (l0 : List Int) (s1 : ByteArray) (i2 : Int) : St := ⟨[.sl (.imm true) 3 (.int .i64) l0, .str s1] ++ List.replicate 5 .dead ++ [.int .i64 i2] ++ List.replicate 29 .dead, List.replicate 37 Ob.none⟩
noncomputable def ga158_0 (n : Nat) (ks : List Nat) (k : Nat) (st : St) : Option (Int × Int × Int × Unit) := goAt tab (G158 n) n (bodyOf Tryd.f158) (lvOf Tryd.f158) (lvOf Tryd.f158).ret [1, 0, 1, 0] ks k st (evBody.endK tab (c158 n) Tryd.f158)
theorem el158_0 (n : Nat) : ∀ (k : Nat), ∀ (l0 : List Int) (s1 : ByteArray) (i2 : Int), ga158_0 n [] k (S158_0 l0 s1 i2) = lp158_0 n k l0 s1 i2 := by
  intro k
  induction k with
  | zero => intros; rfl
  | succ k ih =>
    intro l0 s1 i2
    have h : ga158_0 n [] (k + 1) (S158_0 l0 s1 i2) = st158_0 n (fun w0 w1 w2 => ga158_0 n [] k (S158_0 w0 w1 w2)) l0 s1 i2 := by kernel_rfl
    rw [h]
    have e : (fun w0 w1 w2 => ga158_0 n [] k (S158_0 w0 w1 w2)) = lp158_0 n k := by
      funext w0 w1 w2; exact ih w0 w1 w2
    rw [e]
    rfl
theorem e158 (n : Nat) (x : List Int × ByteArray × Unit) : evBody tab (G158 n) n (c158 n) Tryd.f158 x = F158 n x.1 x.2.1 := by
  have h : evBody tab (G158 n) n (c158 n) Tryd.f158 x = st158 n (fun w0 w1 w2 => ga158_0 n [] n (S158_0 w0 w1 w2)) x.1 x.2.1 := by kernel_rfl
  rw [h]
  have e0 : (fun w0 w1 w2 => ga158_0 n [] n (S158_0 w0 w1 w2)) = lp158_0 n n := by
    funext w0 w1 w2; exact el158_0 n n w0 w1 w2
  rw [e0]
  rfl
theorem g158 (W : World) (n : Nat) : Good Tryd.prog W 158 (c158 n) := body_good follows tabOk (GamOk.cons (g38 W n) (GamOk.cons (g125 W n) (GamOk.cons (g126 W n) GamOk.nil))) (f := 158) (fn := Tryd.f158) (c := bodyOf Tryd.f158) (by kernel_rfl) (by kernel_rfl) (by kernel_rfl) (by kernel_rfl) (by kernel_rfl) (by kernel_rfl) (by kernel_rfl) (fun x r h => ⟨n, (e158 n x).trans h⟩)
/-! spec.l2Copy -/
noncomputable def F98 (n : Nat) (a0 : List Int) : Option (List Int × Unit) :=
  if (decide ((([] : List Int).length + a0.length) * 8 ≤ 140737488355328)) = true then
  some ((([] : List Int) ++ a0), ())
  else none
noncomputable def c98 (n : Nat) : Con := ⟨[.one (.sl (.imm true) 3 (.int .i64))], [], [.one (.sl .own 3 (.int .i64))], [], fun (x : List Int × Unit) => F98 n x.1⟩
noncomputable def G98 (n : Nat) : Gam := []
theorem e98 (n : Nat) (x : List Int × Unit) : evBody tab (G98 n) n (c98 n) Tryd.f98 x = F98 n x.1 := by kernel_rfl
theorem g98 (W : World) (n : Nat) : Good Tryd.prog W 98 (c98 n) := body_good follows tabOk GamOk.nil (f := 98) (fn := Tryd.f98) (c := bodyOf Tryd.f98) (by kernel_rfl) (by kernel_rfl) (by kernel_rfl) (by kernel_rfl) (by kernel_rfl) (by kernel_rfl) (by kernel_rfl) (fun x r h => ⟨n, (e98 n x).trans h⟩)
/-! spec.Register -/
noncomputable def j139_0 (n : Nat) (s0 : ByteArray) (i1 : Int) (i2 : Int) (i3 : Int) (b4 : Bool) (l5 : List Int) : Option (List Int × Int × Int × Unit) :=
  if b4 = true then
    some (l5, i2, 0, ())
  else
    if (decide (i3 < 0)) = true then
      some (l5, (-1), 3, ())
    else
      (F38 n i3).bind fun r5 =>
      (F128 n s0 i1).bind fun r6 =>
      if (decide (0 ≤ r5.1)) = true then
      if (decide (r5.1 < (l5.length : Int))) = true then
      some ((l5.set r5.1.toNat r6.1), i3, 0, ())
      else none
      else none
noncomputable def F139 (n : Nat) (a0 : List Int) (a1 : ByteArray) (a2 : Int) : Option (List Int × Int × Int × Unit) :=
  (F98 n a0).bind fun r1 =>
  (F9 n a0).bind fun r2 =>
  if (!r2.1) = true then
    some (r1.1, (-1), 1, ())
  else
    (F128 n a1 a2).bind fun r3 =>
    if (decide (r3.1 = 0)) = true then
      some (r1.1, (-1), 1, ())
    else
      (F158 n a0 a1).bind fun r4 =>
      if (decide (r4.1 ≥ 0)) = true then
        if (decide (r4.2.1 ≠ a2)) = true then
          some (r1.1, r4.1, 4, ())
        else
          j139_0 n a1 a2 r4.1 r4.2.2.1 (decide (r4.1 ≥ 0)) r1.1
      else
        j139_0 n a1 a2 r4.1 r4.2.2.1 (decide (r4.1 ≥ 0)) r1.1
noncomputable def c139 (n : Nat) : Con := ⟨[.one (.sl (.imm true) 3 (.int .i64)), .one (.str), .one (.int .i64)], [], [.one (.sl .own 3 (.int .i64)), .one (.int .i64), .one (.int .i64)], [], fun (x : List Int × ByteArray × Int × Unit) => F139 n x.1 x.2.1 x.2.2.1⟩
noncomputable def G139 (n : Nat) : Gam := [((9, []), c9 n), ((38, []), c38 n), ((98, []), c98 n), ((128, []), c128 n), ((158, []), c158 n)]
theorem e139 (n : Nat) (x : List Int × ByteArray × Int × Unit) : evBody tab (G139 n) n (c139 n) Tryd.f139 x = F139 n x.1 x.2.1 x.2.2.1 := by kernel_rfl
theorem g139 (W : World) (n : Nat) : Good Tryd.prog W 139 (c139 n) := body_good follows tabOk (GamOk.cons (g9 W n) (GamOk.cons (g38 W n) (GamOk.cons (g98 W n) (GamOk.cons (g128 W n) (GamOk.cons (g158 W n) GamOk.nil))))) (f := 139) (fn := Tryd.f139) (c := bodyOf Tryd.f139) (by kernel_rfl) (by kernel_rfl) (by kernel_rfl) (by kernel_rfl) (by kernel_rfl) (by kernel_rfl) (by kernel_rfl) (fun x r h => ⟨n, (e139 n x).trans h⟩)
/-! spec.l6Arena -/
noncomputable def st105_0 (n : Nat) (g0 : Int → (List Int) → (List Int) → Int → Int → Option (List Int × List Int × Int × Int × Unit)) (i0 : Int) (l1 : List Int) (l2 : List Int) (i3 : Int) (i4 : Int) : Option (List Int × List Int × Int × Int × Unit) :=
  if (decide (i0 > 0)) = true then
    (F112 n l2 i3 i4).bind fun r2 =>
    (F39 n (3 : Int) r2.2.1 r2.2.2.1 r2.2.2.2.1).bind fun r3 =>
    (F139 n l1 r2.1 (wrap64 (1 + r3.1))).bind fun r4 =>
    g0 (wrap64 (i0 - 1)) r4.1 r3.2.1 r3.2.2.1 r3.2.2.2.1
  else
    some (l1, l2, i3, i4, ())
noncomputable def lp105_0 (n : Nat) : Nat → Int → (List Int) → (List Int) → Int → Int → Option (List Int × List Int × Int × Int × Unit)
  | 0 => fun _ _ _ _ _ => none
  | k + 1 => st105_0 n (lp105_0 n k)
noncomputable def st105 (n : Nat) (h0 : Int → (List Int) → (List Int) → Int → Int → Option (List Int × List Int × Int × Int × Unit)) (a1 : Int) (a2 : List Int) (a3 : Int) (a4 : Int) : Option (List Int × List Int × Int × Int × Unit) :=
  if (decide (0 ≤ 71)) = true then
  if (decide (71 = 71)) = true then
  if (decide (71 * 8 ≤ 140737488355328)) = true then
  (F39 n (wrap64 (a1 + 1)) a2 a3 a4).bind fun r1 =>
  h0 r1.1 (List.replicate (71 : Int).toNat (0 : Int)) r1.2.1 r1.2.2.1 r1.2.2.2.1
  else none
  else none
  else none
noncomputable def F105 (n : Nat) (a1 : Int) (a2 : List Int) (a3 : Int) (a4 : Int) : Option (List Int × List Int × Int × Int × Unit) := st105 n (lp105_0 n n) a1 a2 a3 a4
noncomputable def c105 (n : Nat) : Con := ⟨[.one (.ptr 0 0), .one (.int .i64)], [[(.sl (.imm false) 5 (.int .u8)), (.int .i64), (.int .i64)]], [.one (.sl .own 3 (.int .i64))], [[(.sl (.imm false) 5 (.int .u8)), (.int .i64), (.int .i64)]], fun (x : Unit × Int × List Int × Int × Int × Unit) => F105 n x.2.1 x.2.2.1 x.2.2.2.1 x.2.2.2.2.1⟩
noncomputable def G105 (n : Nat) : Gam := [((39, []), c39 n), ((112, []), c112 n), ((139, []), c139 n)]
noncomputable def S105_0 (i0 : Int) (l1 : List Int) (l2 : List Int) (i3 : Int) (i4 : Int) : St := ⟨[.ptr 28 0] ++ List.replicate 4 .dead ++ [.sr 5 0 none 0 0 none, .int .i64 i0] ++ List.replicate 21 .dead, List.replicate 5 Ob.none ++ [⟨false, [.sl .own 3 (.int .i64) l1], 0, 0⟩] ++ List.replicate 22 Ob.none ++ [⟨true, [.sl (.imm false) 5 (.int .u8) l2, .int .i64 i3, .int .i64 i4], 0, 0⟩]⟩
noncomputable def ga105_0 (n : Nat) (ks : List Nat) (k : Nat) (st : St) : Option (List Int × List Int × Int × Int × Unit) := goAt tab (G105 n) n (bodyOf Tryd.f105) (lvOf Tryd.f105) (lvOf Tryd.f105).ret [1, 1, 0, 1, 0] ks k st (evBody.endK tab (c105 n) Tryd.f105)
theorem el105_0 (n : Nat) : ∀ (k : Nat), ∀ (i0 : Int) (l1 : List Int) (l2 : List Int) (i3 : Int) (i4 : Int), ga105_0 n [] k (S105_0 i0 l1 l2 i3 i4) = lp105_0 n k i0 l1 l2 i3 i4 := by
  intro k
  induction k with
  | zero => intros; rfl
  | succ k ih =>
    intro i0 l1 l2 i3 i4
    have h : ga105_0 n [] (k + 1) (S105_0 i0 l1 l2 i3 i4) = st105_0 n (fun w0 w1 w2 w3 w4 => ga105_0 n [] k (S105_0 w0 w1 w2 w3 w4)) i0 l1 l2 i3 i4 := by kernel_rfl
    rw [h]
    have e : (fun w0 w1 w2 w3 w4 => ga105_0 n [] k (S105_0 w0 w1 w2 w3 w4)) = lp105_0 n k := by
      funext w0 w1 w2 w3 w4; exact ih w0 w1 w2 w3 w4
    rw [e]
    rfl
theorem e105 (n : Nat) (x : Unit × Int × List Int × Int × Int × Unit) : evBody tab (G105 n) n (c105 n) Tryd.f105 x = F105 n x.2.1 x.2.2.1 x.2.2.2.1 x.2.2.2.2.1 := by
  have h : evBody tab (G105 n) n (c105 n) Tryd.f105 x = st105 n (fun w0 w1 w2 w3 w4 => ga105_0 n [] n (S105_0 w0 w1 w2 w3 w4)) x.2.1 x.2.2.1 x.2.2.2.1 x.2.2.2.2.1 := by kernel_rfl
  rw [h]
  have e0 : (fun w0 w1 w2 w3 w4 => ga105_0 n [] n (S105_0 w0 w1 w2 w3 w4)) = lp105_0 n n := by
    funext w0 w1 w2 w3 w4; exact el105_0 n n w0 w1 w2 w3 w4
  rw [e0]
  rfl
theorem g105 (W : World) (n : Nat) : Good Tryd.prog W 105 (c105 n) := body_good follows tabOk (GamOk.cons (g39 W n) (GamOk.cons (g112 W n) (GamOk.cons (g139 W n) GamOk.nil))) (f := 105) (fn := Tryd.f105) (c := bodyOf Tryd.f105) (by kernel_rfl) (by kernel_rfl) (by kernel_rfl) (by kernel_rfl) (by kernel_rfl) (by kernel_rfl) (by kernel_rfl) (fun x r h => ⟨n, (e105 n x).trans h⟩)
end Go.Eva
end
section
/- The functions, as their texts evaluate. -/
set_option linter.unusedVariables false
set_option maxRecDepth 100000
namespace Go.Eva
open Go.Proofs
open Go.RowKit (wrap64)
/-! spec.l8Put -/
noncomputable def j124_0 (n : Nat) (g0 : Bool → Int → (List (ByteArray × (Int × (Int × (Bool × (Int × (Int × (Int × (Int × (Int × Int)))))))))) → ByteArray → Int → Int → Bool → Int → Int → Int → Int → Int → Int → (List (ByteArray × (Int × (Int × (Bool × (Int × (Int × (Int × (Int × (Int × Int)))))))))) → Option (List (ByteArray × (Int × (Int × (Bool × (Int × (Int × (Int × (Int × (Int × Int))))))))) × Unit)) (b0 : Bool) (i1 : Int) (l2 : List (ByteArray × (Int × (Int × (Bool × (Int × (Int × (Int × (Int × (Int × Int)))))))))) (s3 : ByteArray) (i4 : Int) (i5 : Int) (b6 : Bool) (i7 : Int) (i8 : Int) (i9 : Int) (i10 : Int) (i11 : Int) (i12 : Int) (l13 : List (ByteArray × (Int × (Int × (Bool × (Int × (Int × (Int × (Int × (Int × Int)))))))))) : Option (List (ByteArray × (Int × (Int × (Bool × (Int × (Int × (Int × (Int × (Int × Int))))))))) × Unit) :=
  if (decide (0 ≤ i1)) = true then
  if (decide (i1 < (l2.length : Int))) = true then
  if (decide ((l13.length + ([((rdOf ((⟨#[]⟩ : ByteArray), ((0 : Int), ((0 : Int), (false, ((0 : Int), ((0 : Int), ((0 : Int), ((0 : Int), ((0 : Int), (0 : Int)))))))))) l2 i1).1, (((rdOf ((⟨#[]⟩ : ByteArray), ((0 : Int), ((0 : Int), (false, ((0 : Int), ((0 : Int), ((0 : Int), ((0 : Int), ((0 : Int), (0 : Int)))))))))) l2 i1).2).1, ((((rdOf ((⟨#[]⟩ : ByteArray), ((0 : Int), ((0 : Int), (false, ((0 : Int), ((0 : Int), ((0 : Int), ((0 : Int), ((0 : Int), (0 : Int)))))))))) l2 i1).2).2).1, (((((rdOf ((⟨#[]⟩ : ByteArray), ((0 : Int), ((0 : Int), (false, ((0 : Int), ((0 : Int), ((0 : Int), ((0 : Int), ((0 : Int), (0 : Int)))))))))) l2 i1).2).2).2).1, ((((((rdOf ((⟨#[]⟩ : ByteArray), ((0 : Int), ((0 : Int), (false, ((0 : Int), ((0 : Int), ((0 : Int), ((0 : Int), ((0 : Int), (0 : Int)))))))))) l2 i1).2).2).2).2).1, (((((((rdOf ((⟨#[]⟩ : ByteArray), ((0 : Int), ((0 : Int), (false, ((0 : Int), ((0 : Int), ((0 : Int), ((0 : Int), ((0 : Int), (0 : Int)))))))))) l2 i1).2).2).2).2).2).1, ((((((((rdOf ((⟨#[]⟩ : ByteArray), ((0 : Int), ((0 : Int), (false, ((0 : Int), ((0 : Int), ((0 : Int), ((0 : Int), ((0 : Int), (0 : Int)))))))))) l2 i1).2).2).2).2).2).2).1, (((((((((rdOf ((⟨#[]⟩ : ByteArray), ((0 : Int), ((0 : Int), (false, ((0 : Int), ((0 : Int), ((0 : Int), ((0 : Int), ((0 : Int), (0 : Int)))))))))) l2 i1).2).2).2).2).2).2).2).1, ((((((((((rdOf ((⟨#[]⟩ : ByteArray), ((0 : Int), ((0 : Int), (false, ((0 : Int), ((0 : Int), ((0 : Int), ((0 : Int), ((0 : Int), (0 : Int)))))))))) l2 i1).2).2).2).2).2).2).2).2).1, (((((((((rdOf ((⟨#[]⟩ : ByteArray), ((0 : Int), ((0 : Int), (false, ((0 : Int), ((0 : Int), ((0 : Int), ((0 : Int), ((0 : Int), (0 : Int)))))))))) l2 i1).2).2).2).2).2).2).2).2).2)))))))))] : List (ByteArray × (Int × (Int × (Bool × (Int × (Int × (Int × (Int × (Int × Int)))))))))).length) * 88 ≤ 140737488355328)) = true then
  g0 b0 (wrap64 (i1 + 1)) l2 s3 i4 i5 b6 i7 i8 i9 i10 i11 i12 (l13 ++ ([((rdOf ((⟨#[]⟩ : ByteArray), ((0 : Int), ((0 : Int), (false, ((0 : Int), ((0 : Int), ((0 : Int), ((0 : Int), ((0 : Int), (0 : Int)))))))))) l2 i1).1, (((rdOf ((⟨#[]⟩ : ByteArray), ((0 : Int), ((0 : Int), (false, ((0 : Int), ((0 : Int), ((0 : Int), ((0 : Int), ((0 : Int), (0 : Int)))))))))) l2 i1).2).1, ((((rdOf ((⟨#[]⟩ : ByteArray), ((0 : Int), ((0 : Int), (false, ((0 : Int), ((0 : Int), ((0 : Int), ((0 : Int), ((0 : Int), (0 : Int)))))))))) l2 i1).2).2).1, (((((rdOf ((⟨#[]⟩ : ByteArray), ((0 : Int), ((0 : Int), (false, ((0 : Int), ((0 : Int), ((0 : Int), ((0 : Int), ((0 : Int), (0 : Int)))))))))) l2 i1).2).2).2).1, ((((((rdOf ((⟨#[]⟩ : ByteArray), ((0 : Int), ((0 : Int), (false, ((0 : Int), ((0 : Int), ((0 : Int), ((0 : Int), ((0 : Int), (0 : Int)))))))))) l2 i1).2).2).2).2).1, (((((((rdOf ((⟨#[]⟩ : ByteArray), ((0 : Int), ((0 : Int), (false, ((0 : Int), ((0 : Int), ((0 : Int), ((0 : Int), ((0 : Int), (0 : Int)))))))))) l2 i1).2).2).2).2).2).1, ((((((((rdOf ((⟨#[]⟩ : ByteArray), ((0 : Int), ((0 : Int), (false, ((0 : Int), ((0 : Int), ((0 : Int), ((0 : Int), ((0 : Int), (0 : Int)))))))))) l2 i1).2).2).2).2).2).2).1, (((((((((rdOf ((⟨#[]⟩ : ByteArray), ((0 : Int), ((0 : Int), (false, ((0 : Int), ((0 : Int), ((0 : Int), ((0 : Int), ((0 : Int), (0 : Int)))))))))) l2 i1).2).2).2).2).2).2).2).1, ((((((((((rdOf ((⟨#[]⟩ : ByteArray), ((0 : Int), ((0 : Int), (false, ((0 : Int), ((0 : Int), ((0 : Int), ((0 : Int), ((0 : Int), (0 : Int)))))))))) l2 i1).2).2).2).2).2).2).2).2).1, (((((((((rdOf ((⟨#[]⟩ : ByteArray), ((0 : Int), ((0 : Int), (false, ((0 : Int), ((0 : Int), ((0 : Int), ((0 : Int), ((0 : Int), (0 : Int)))))))))) l2 i1).2).2).2).2).2).2).2).2).2)))))))))] : List (ByteArray × (Int × (Int × (Bool × (Int × (Int × (Int × (Int × (Int × Int)))))))))))
  else none
  else none
  else none
noncomputable def st124_0 (n : Nat) (g0 : Bool → Int → (List (ByteArray × (Int × (Int × (Bool × (Int × (Int × (Int × (Int × (Int × Int)))))))))) → ByteArray → Int → Int → Bool → Int → Int → Int → Int → Int → Int → (List (ByteArray × (Int × (Int × (Bool × (Int × (Int × (Int × (Int × (Int × Int)))))))))) → Option (List (ByteArray × (Int × (Int × (Bool × (Int × (Int × (Int × (Int × (Int × Int))))))))) × Unit)) (b0 : Bool) (i1 : Int) (l2 : List (ByteArray × (Int × (Int × (Bool × (Int × (Int × (Int × (Int × (Int × Int)))))))))) (s3 : ByteArray) (i4 : Int) (i5 : Int) (b6 : Bool) (i7 : Int) (i8 : Int) (i9 : Int) (i10 : Int) (i11 : Int) (i12 : Int) (l13 : List (ByteArray × (Int × (Int × (Bool × (Int × (Int × (Int × (Int × (Int × Int)))))))))) : Option (List (ByteArray × (Int × (Int × (Bool × (Int × (Int × (Int × (Int × (Int × Int))))))))) × Unit) :=
  if (decide (i1 < (l2.length : Int))) = true then
    if (decide (0 ≤ i1)) = true then
    if (decide (i1 < (l2.length : Int))) = true then
    if (decide (((rdOf ((⟨#[]⟩ : ByteArray), ((0 : Int), ((0 : Int), (false, ((0 : Int), ((0 : Int), ((0 : Int), ((0 : Int), ((0 : Int), (0 : Int)))))))))) l2 i1).1).toList = s3.toList)) = true then
      some (l2, ())
    else
      if (!b0) = true then
        if (decide (0 ≤ i1)) = true then
        if (decide (i1 < (l2.length : Int))) = true then
        if (!(Op.bytesLess ((rdOf ((⟨#[]⟩ : ByteArray), ((0 : Int), ((0 : Int), (false, ((0 : Int), ((0 : Int), ((0 : Int), ((0 : Int), ((0 : Int), (0 : Int)))))))))) l2 i1).1).toList s3.toList || decide (((rdOf ((⟨#[]⟩ : ByteArray), ((0 : Int), ((0 : Int), (false, ((0 : Int), ((0 : Int), ((0 : Int), ((0 : Int), ((0 : Int), (0 : Int)))))))))) l2 i1).1).toList = s3.toList))) = true then
          if (decide ((l13.length + ([(s3, (i4, (i5, (b6, (i7, (i8, (i9, (i10, (i11, i12)))))))))] : List (ByteArray × (Int × (Int × (Bool × (Int × (Int × (Int × (Int × (Int × Int)))))))))).length) * 88 ≤ 140737488355328)) = true then
          if (decide (0 ≤ i1)) = true then
          if (decide (i1 < (l2.length : Int))) = true then
          if (decide (((l13 ++ ([(s3, (i4, (i5, (b6, (i7, (i8, (i9, (i10, (i11, i12)))))))))] : List (ByteArray × (Int × (Int × (Bool × (Int × (Int × (Int × (Int × (Int × Int))))))))))).length + ([((rdOf ((⟨#[]⟩ : ByteArray), ((0 : Int), ((0 : Int), (false, ((0 : Int), ((0 : Int), ((0 : Int), ((0 : Int), ((0 : Int), (0 : Int)))))))))) l2 i1).1, (((rdOf ((⟨#[]⟩ : ByteArray), ((0 : Int), ((0 : Int), (false, ((0 : Int), ((0 : Int), ((0 : Int), ((0 : Int), ((0 : Int), (0 : Int)))))))))) l2 i1).2).1, ((((rdOf ((⟨#[]⟩ : ByteArray), ((0 : Int), ((0 : Int), (false, ((0 : Int), ((0 : Int), ((0 : Int), ((0 : Int), ((0 : Int), (0 : Int)))))))))) l2 i1).2).2).1, (((((rdOf ((⟨#[]⟩ : ByteArray), ((0 : Int), ((0 : Int), (false, ((0 : Int), ((0 : Int), ((0 : Int), ((0 : Int), ((0 : Int), (0 : Int)))))))))) l2 i1).2).2).2).1, ((((((rdOf ((⟨#[]⟩ : ByteArray), ((0 : Int), ((0 : Int), (false, ((0 : Int), ((0 : Int), ((0 : Int), ((0 : Int), ((0 : Int), (0 : Int)))))))))) l2 i1).2).2).2).2).1, (((((((rdOf ((⟨#[]⟩ : ByteArray), ((0 : Int), ((0 : Int), (false, ((0 : Int), ((0 : Int), ((0 : Int), ((0 : Int), ((0 : Int), (0 : Int)))))))))) l2 i1).2).2).2).2).2).1, ((((((((rdOf ((⟨#[]⟩ : ByteArray), ((0 : Int), ((0 : Int), (false, ((0 : Int), ((0 : Int), ((0 : Int), ((0 : Int), ((0 : Int), (0 : Int)))))))))) l2 i1).2).2).2).2).2).2).1, (((((((((rdOf ((⟨#[]⟩ : ByteArray), ((0 : Int), ((0 : Int), (false, ((0 : Int), ((0 : Int), ((0 : Int), ((0 : Int), ((0 : Int), (0 : Int)))))))))) l2 i1).2).2).2).2).2).2).2).1, ((((((((((rdOf ((⟨#[]⟩ : ByteArray), ((0 : Int), ((0 : Int), (false, ((0 : Int), ((0 : Int), ((0 : Int), ((0 : Int), ((0 : Int), (0 : Int)))))))))) l2 i1).2).2).2).2).2).2).2).2).1, (((((((((rdOf ((⟨#[]⟩ : ByteArray), ((0 : Int), ((0 : Int), (false, ((0 : Int), ((0 : Int), ((0 : Int), ((0 : Int), ((0 : Int), (0 : Int)))))))))) l2 i1).2).2).2).2).2).2).2).2).2)))))))))] : List (ByteArray × (Int × (Int × (Bool × (Int × (Int × (Int × (Int × (Int × Int)))))))))).length) * 88 ≤ 140737488355328)) = true then
          g0 true (wrap64 (i1 + 1)) l2 s3 i4 i5 b6 i7 i8 i9 i10 i11 i12 ((l13 ++ ([(s3, (i4, (i5, (b6, (i7, (i8, (i9, (i10, (i11, i12)))))))))] : List (ByteArray × (Int × (Int × (Bool × (Int × (Int × (Int × (Int × (Int × Int))))))))))) ++ ([((rdOf ((⟨#[]⟩ : ByteArray), ((0 : Int), ((0 : Int), (false, ((0 : Int), ((0 : Int), ((0 : Int), ((0 : Int), ((0 : Int), (0 : Int)))))))))) l2 i1).1, (((rdOf ((⟨#[]⟩ : ByteArray), ((0 : Int), ((0 : Int), (false, ((0 : Int), ((0 : Int), ((0 : Int), ((0 : Int), ((0 : Int), (0 : Int)))))))))) l2 i1).2).1, ((((rdOf ((⟨#[]⟩ : ByteArray), ((0 : Int), ((0 : Int), (false, ((0 : Int), ((0 : Int), ((0 : Int), ((0 : Int), ((0 : Int), (0 : Int)))))))))) l2 i1).2).2).1, (((((rdOf ((⟨#[]⟩ : ByteArray), ((0 : Int), ((0 : Int), (false, ((0 : Int), ((0 : Int), ((0 : Int), ((0 : Int), ((0 : Int), (0 : Int)))))))))) l2 i1).2).2).2).1, ((((((rdOf ((⟨#[]⟩ : ByteArray), ((0 : Int), ((0 : Int), (false, ((0 : Int), ((0 : Int), ((0 : Int), ((0 : Int), ((0 : Int), (0 : Int)))))))))) l2 i1).2).2).2).2).1, (((((((rdOf ((⟨#[]⟩ : ByteArray), ((0 : Int), ((0 : Int), (false, ((0 : Int), ((0 : Int), ((0 : Int), ((0 : Int), ((0 : Int), (0 : Int)))))))))) l2 i1).2).2).2).2).2).1, ((((((((rdOf ((⟨#[]⟩ : ByteArray), ((0 : Int), ((0 : Int), (false, ((0 : Int), ((0 : Int), ((0 : Int), ((0 : Int), ((0 : Int), (0 : Int)))))))))) l2 i1).2).2).2).2).2).2).1, (((((((((rdOf ((⟨#[]⟩ : ByteArray), ((0 : Int), ((0 : Int), (false, ((0 : Int), ((0 : Int), ((0 : Int), ((0 : Int), ((0 : Int), (0 : Int)))))))))) l2 i1).2).2).2).2).2).2).2).1, ((((((((((rdOf ((⟨#[]⟩ : ByteArray), ((0 : Int), ((0 : Int), (false, ((0 : Int), ((0 : Int), ((0 : Int), ((0 : Int), ((0 : Int), (0 : Int)))))))))) l2 i1).2).2).2).2).2).2).2).2).1, (((((((((rdOf ((⟨#[]⟩ : ByteArray), ((0 : Int), ((0 : Int), (false, ((0 : Int), ((0 : Int), ((0 : Int), ((0 : Int), ((0 : Int), (0 : Int)))))))))) l2 i1).2).2).2).2).2).2).2).2).2)))))))))] : List (ByteArray × (Int × (Int × (Bool × (Int × (Int × (Int × (Int × (Int × Int)))))))))))
          else none
          else none
          else none
          else none
        else
          j124_0 n g0 b0 i1 l2 s3 i4 i5 b6 i7 i8 i9 i10 i11 i12 l13
        else none
        else none
      else
        j124_0 n g0 b0 i1 l2 s3 i4 i5 b6 i7 i8 i9 i10 i11 i12 l13
    else none
    else none
  else
    if (!b0) = true then
      if (decide ((l13.length + ([(s3, (i4, (i5, (b6, (i7, (i8, (i9, (i10, (i11, i12)))))))))] : List (ByteArray × (Int × (Int × (Bool × (Int × (Int × (Int × (Int × (Int × Int)))))))))).length) * 88 ≤ 140737488355328)) = true then
      some ((l13 ++ ([(s3, (i4, (i5, (b6, (i7, (i8, (i9, (i10, (i11, i12)))))))))] : List (ByteArray × (Int × (Int × (Bool × (Int × (Int × (Int × (Int × (Int × Int))))))))))), ())
      else none
    else
      some (l13, ())
noncomputable def lp124_0 (n : Nat) : Nat → Bool → Int → (List (ByteArray × (Int × (Int × (Bool × (Int × (Int × (Int × (Int × (Int × Int)))))))))) → ByteArray → Int → Int → Bool → Int → Int → Int → Int → Int → Int → (List (ByteArray × (Int × (Int × (Bool × (Int × (Int × (Int × (Int × (Int × Int)))))))))) → Option (List (ByteArray × (Int × (Int × (Bool × (Int × (Int × (Int × (Int × (Int × Int))))))))) × Unit)
  | 0 => fun _ _ _ _ _ _ _ _ _ _ _ _ _ _ => none
  | k + 1 => st124_0 n (lp124_0 n k)
noncomputable def st124 (n : Nat) (h0 : Bool → Int → (List (ByteArray × (Int × (Int × (Bool × (Int × (Int × (Int × (Int × (Int × Int)))))))))) → ByteArray → Int → Int → Bool → Int → Int → Int → Int → Int → Int → (List (ByteArray × (Int × (Int × (Bool × (Int × (Int × (Int × (Int × (Int × Int)))))))))) → Option (List (ByteArray × (Int × (Int × (Bool × (Int × (Int × (Int × (Int × (Int × Int))))))))) × Unit)) (a0 : List (ByteArray × (Int × (Int × (Bool × (Int × (Int × (Int × (Int × (Int × Int)))))))))) (a1 : ByteArray) (a2 : Int) (a3 : Int) (a4 : Bool) (a5 : Int) (a6 : Int) (a7 : Int) (a8 : Int) (a9 : Int) (a10 : Int) : Option (List (ByteArray × (Int × (Int × (Bool × (Int × (Int × (Int × (Int × (Int × Int))))))))) × Unit) :=
  h0 false (0 : Int) a0 a1 a2 a3 a4 a5 a6 a7 a8 a9 a10 ([] : List (ByteArray × (Int × (Int × (Bool × (Int × (Int × (Int × (Int × (Int × Int))))))))))
noncomputable def F124 (n : Nat) (a0 : List (ByteArray × (Int × (Int × (Bool × (Int × (Int × (Int × (Int × (Int × Int)))))))))) (a1 : ByteArray) (a2 : Int) (a3 : Int) (a4 : Bool) (a5 : Int) (a6 : Int) (a7 : Int) (a8 : Int) (a9 : Int) (a10 : Int) : Option (List (ByteArray × (Int × (Int × (Bool × (Int × (Int × (Int × (Int × (Int × Int))))))))) × Unit) := st124 n (lp124_0 n n) a0 a1 a2 a3 a4 a5 a6 a7 a8 a9 a10
noncomputable def c124 (n : Nat) : Con := ⟨[.one (.sl .own 72 (.pair .str (.pair (.int .i64) (.pair (.int .i64) (.pair .bool (.pair (.int .i64) (.pair (.int .i64) (.pair (.int .i64) (.pair (.int .i64) (.pair (.int .i64) (.int .i64))))))))))), .agg [(.str), (.int .i64), (.int .i64), (.bool), (.int .i64), (.int .i64), (.int .i64), (.int .i64), (.int .i64), (.int .i64)]], [], [.one (.sl .own 72 (.pair .str (.pair (.int .i64) (.pair (.int .i64) (.pair .bool (.pair (.int .i64) (.pair (.int .i64) (.pair (.int .i64) (.pair (.int .i64) (.pair (.int .i64) (.int .i64)))))))))))], [], fun (x : List (ByteArray × (Int × (Int × (Bool × (Int × (Int × (Int × (Int × (Int × Int))))))))) × ByteArray × Int × Int × Bool × Int × Int × Int × Int × Int × Int × Unit) => F124 n x.1 x.2.1 x.2.2.1 x.2.2.2.1 x.2.2.2.2.1 x.2.2.2.2.2.1 x.2.2.2.2.2.2.1 x.2.2.2.2.2.2.2.1 x.2.2.2.2.2.2.2.2.1 x.2.2.2.2.2.2.2.2.2.1 x.2.2.2.2.2.2.2.2.2.2.1⟩
noncomputable def G124 (n : Nat) : Gam := []
noncomputable def S124_0 (b0 : Bool) (i1 : Int) (l2 : List (ByteArray × (Int × (Int × (Bool × (Int × (Int × (Int × (Int × (Int × Int)))))))))) (s3 : ByteArray) (i4 : Int) (i5 : Int) (b6 : Bool) (i7 : Int) (i8 : Int) (i9 : Int) (i10 : Int) (i11 : Int) (i12 : Int) (l13 : List (ByteArray × (Int × (Int × (Bool × (Int × (Int × (Int × (Int × (Int × Int)))))))))) : St := ⟨[.sr 0 0 none 0 0 none, .dead, .dead, .ptr 3 0, .dead, .sr 5 0 none 0 0 none, .bool b0, .int .i64 i1] ++ List.replicate 46 .dead, [⟨false, [.sl .own 72 (.pair .str (.pair (.int .i64) (.pair (.int .i64) (.pair .bool (.pair (.int .i64) (.pair (.int .i64) (.pair (.int .i64) (.pair (.int .i64) (.pair (.int .i64) (.int .i64)))))))))) l2], 0, 0⟩, Ob.none, Ob.none, ⟨true, [.str s3, .int .i64 i4, .int .i64 i5, .bool b6, .int .i64 i7, .int .i64 i8, .int .i64 i9, .int .i64 i10, .int .i64 i11, .int .i64 i12], 0, 0⟩, Ob.none, ⟨false, [.sl .own 72 (.pair .str (.pair (.int .i64) (.pair (.int .i64) (.pair .bool (.pair (.int .i64) (.pair (.int .i64) (.pair (.int .i64) (.pair (.int .i64) (.pair (.int .i64) (.int .i64)))))))))) l13], 0, 0⟩] ++ List.replicate 48 Ob.none⟩
noncomputable def ga124_0 (n : Nat) (ks : List Nat) (k : Nat) (st : St) : Option (List (ByteArray × (Int × (Int × (Bool × (Int × (Int × (Int × (Int × (Int × Int))))))))) × Unit) := goAt tab (G124 n) n (bodyOf Tryd.f124) (lvOf Tryd.f124) (lvOf Tryd.f124).ret [1, 1, 1, 0, 1, 0] ks k st (evBody.endK tab (c124 n) Tryd.f124)
theorem el124_0 (n : Nat) : ∀ (k : Nat), ∀ (b0 : Bool) (i1 : Int) (l2 : List (ByteArray × (Int × (Int × (Bool × (Int × (Int × (Int × (Int × (Int × Int)))))))))) (s3 : ByteArray) (i4 : Int) (i5 : Int) (b6 : Bool) (i7 : Int) (i8 : Int) (i9 : Int) (i10 : Int) (i11 : Int) (i12 : Int) (l13 : List (ByteArray × (Int × (Int × (Bool × (Int × (Int × (Int × (Int × (Int × Int)))))))))), ga124_0 n [] k (S124_0 b0 i1 l2 s3 i4 i5 b6 i7 i8 i9 i10 i11 i12 l13) = lp124_0 n k b0 i1 l2 s3 i4 i5 b6 i7 i8 i9 i10 i11 i12 l13 := by
  intro k
  induction k with
  | zero => intros; rfl
  | succ k ih =>
    intro b0 i1 l2 s3 i4 i5 b6 i7 i8 i9 i10 i11 i12 l13
    have h : ga124_0 n [] (k + 1) (S124_0 b0 i1 l2 s3 i4 i5 b6 i7 i8 i9 i10 i11 i12 l13) = st124_0 n (fun w0 w1 w2 w3 w4 w5 w6 w7 w8 w9 w10 w11 w12 w13 => ga124_0 n [] k (S124_0 w0 w1 w2 w3 w4 w5 w6 w7 w8 w9 w10 w11 w12 w13)) b0 i1 l2 s3 i4 i5 b6 i7 i8 i9 i10 i11 i12 l13 := by kernel_rfl
    rw [h]
    have e : (fun w0 w1 w2 w3 w4 w5 w6 w7 w8 w9 w10 w11 w12 w13 => ga124_0 n [] k (S124_0 w0 w1 w2 w3 w4 w5 w6 w7 w8 w9 w10 w11 w12 w13)) = lp124_0 n k := by
      funext w0 w1 w2 w3 w4 w5 w6 w7 w8 w9 w10 w11 w12 w13; exact ih w0 w1 w2 w3 w4 w5 w6 w7 w8 w9 w10 w11 w12 w13
    rw [e]
    rfl
theorem e124 (n : Nat) (x : List (ByteArray × (Int × (Int × (Bool × (Int × (Int × (Int × (Int × (Int × Int))))))))) × ByteArray × Int × Int × Bool × Int × Int × Int × Int × Int × Int × Unit) : evBody tab (G124 n) n (c124 n) Tryd.f124 x = F124 n x.1 x.2.1 x.2.2.1 x.2.2.2.1 x.2.2.2.2.1 x.2.2.2.2.2.1 x.2.2.2.2.2.2.1 x.2.2.2.2.2.2.2.1 x.2.2.2.2.2.2.2.2.1 x.2.2.2.2.2.2.2.2.2.1 x.2.2.2.2.2.2.2.2.2.2.1 := by
  have h : evBody tab (G124 n) n (c124 n) Tryd.f124 x = st124 n (fun w0 w1 w2 w3 w4 w5 w6 w7 w8 w9 w10 w11 w12 w13 => ga124_0 n [] n (S124_0 w0 w1 w2 w3 w4 w5 w6 w7 w8 w9 w10 w11 w12 w13)) x.1 x.2.1 x.2.2.1 x.2.2.2.1 x.2.2.2.2.1 x.2.2.2.2.2.1 x.2.2.2.2.2.2.1 x.2.2.2.2.2.2.2.1 x.2.2.2.2.2.2.2.2.1 x.2.2.2.2.2.2.2.2.2.1 x.2.2.2.2.2.2.2.2.2.2.1 := by kernel_rfl
  rw [h]
  have e0 : (fun w0 w1 w2 w3 w4 w5 w6 w7 w8 w9 w10 w11 w12 w13 => ga124_0 n [] n (S124_0 w0 w1 w2 w3 w4 w5 w6 w7 w8 w9 w10 w11 w12 w13)) = lp124_0 n n := by
    funext w0 w1 w2 w3 w4 w5 w6 w7 w8 w9 w10 w11 w12 w13; exact el124_0 n n w0 w1 w2 w3 w4 w5 w6 w7 w8 w9 w10 w11 w12 w13
  rw [e0]
  rfl
theorem g124 (W : World) (n : Nat) : Good Tryd.prog W 124 (c124 n) := body_good follows tabOk GamOk.nil (f := 124) (fn := Tryd.f124) (c := bodyOf Tryd.f124) (by kernel_rfl) (by kernel_rfl) (by kernel_rfl) (by kernel_rfl) (by kernel_rfl) (by kernel_rfl) (by kernel_rfl) (fun x r h => ⟨n, (e124 n x).trans h⟩)
/-! spec.InCell -/
noncomputable def F130 (n : Nat) (a0 : Int) : Option (Int × Unit) :=
  (F36 n a0 (0 : Int) (1 : Int)).bind fun r1 =>
  if (!r1.1) = true then
    some ((-1), ())
  else
    some ((wrap64 (1 + a0)), ())
noncomputable def c130 (n : Nat) : Con := ⟨[.one (.int .i64)], [], [.one (.int .i64)], [], fun (x : Int × Unit) => F130 n x.1⟩
noncomputable def G130 (n : Nat) : Gam := [((36, []), c36 n)]
theorem e130 (n : Nat) (x : Int × Unit) : evBody tab (G130 n) n (c130 n) Tryd.f130 x = F130 n x.1 := by kernel_rfl
theorem g130 (W : World) (n : Nat) : Good Tryd.prog W 130 (c130 n) := body_good follows tabOk (GamOk.cons (g36 W n) GamOk.nil) (f := 130) (fn := Tryd.f130) (c := bodyOf Tryd.f130) (by kernel_rfl) (by kernel_rfl) (by kernel_rfl) (by kernel_rfl) (by kernel_rfl) (by kernel_rfl) (by kernel_rfl) (fun x r h => ⟨n, (e130 n x).trans h⟩)
/-! spec.l7Timer -/
noncomputable def F164 (n : Nat) (a0 : ByteArray) (a1 : Int) (a2 : Int) (a3 : Bool) (a4 : Int) (a5 : Int) (a6 : Int) (a7 : Int) (a8 : Int) (a9 : Int) : Option (Bool × Unit) :=
  if (decide (a5 = 0)) = true then
    if (decide (a6 = 0)) = true then
      if (decide (a7 = 0)) = true then
        if (decide (a8 = 0)) = true then
          some (decide (a9 = 0), ())
        else
          some (false, ())
      else
        some (false, ())
    else
      some (false, ())
  else
    (F36 n a5 (1 : Int) (3 : Int)).bind fun r1 =>
    if r1.1 = true then
      (F36 n a6 (0 : Int) a7).bind fun r2 =>
      if r2.1 = true then
        if (decide (a7 ≤ 65535)) = true then
          (F36 n a8 (wrap64 (a6 * a5)) (wrap64 (a7 * a5))).bind fun r3 =>
          if r3.1 = true then
            (F36 n a9 (0 : Int) (65535 : Int)).bind fun r4 =>
            if r4.1 = true then
              if (decide (a9 = 0)) = true then
                some (true, ())
              else
                some (decide (a5 = 3), ())
            else
              some (false, ())
          else
            some (false, ())
        else
          some (false, ())
      else
        some (false, ())
    else
      some (false, ())
noncomputable def c164 (n : Nat) : Con := ⟨[.agg [(.str), (.int .i64), (.int .i64), (.bool), (.int .i64), (.int .i64), (.int .i64), (.int .i64), (.int .i64), (.int .i64)]], [], [.one (.bool)], [], fun (x : ByteArray × Int × Int × Bool × Int × Int × Int × Int × Int × Int × Unit) => F164 n x.1 x.2.1 x.2.2.1 x.2.2.2.1 x.2.2.2.2.1 x.2.2.2.2.2.1 x.2.2.2.2.2.2.1 x.2.2.2.2.2.2.2.1 x.2.2.2.2.2.2.2.2.1 x.2.2.2.2.2.2.2.2.2.1⟩
noncomputable def G164 (n : Nat) : Gam := [((36, []), c36 n)]
theorem e164 (n : Nat) (x : ByteArray × Int × Int × Bool × Int × Int × Int × Int × Int × Int × Unit) : evBody tab (G164 n) n (c164 n) Tryd.f164 x = F164 n x.1 x.2.1 x.2.2.1 x.2.2.2.1 x.2.2.2.2.1 x.2.2.2.2.2.1 x.2.2.2.2.2.2.1 x.2.2.2.2.2.2.2.1 x.2.2.2.2.2.2.2.2.1 x.2.2.2.2.2.2.2.2.2.1 := by kernel_rfl
theorem g164 (W : World) (n : Nat) : Good Tryd.prog W 164 (c164 n) := body_good follows tabOk (GamOk.cons (g36 W n) GamOk.nil) (f := 164) (fn := Tryd.f164) (c := bodyOf Tryd.f164) (by kernel_rfl) (by kernel_rfl) (by kernel_rfl) (by kernel_rfl) (by kernel_rfl) (by kernel_rfl) (by kernel_rfl) (fun x r h => ⟨n, (e164 n x).trans h⟩)
/-! spec.RowOk -/
noncomputable def F146 (n : Nat) (a0 : ByteArray) (a1 : Int) (a2 : Int) (a3 : Bool) (a4 : Int) (a5 : Int) (a6 : Int) (a7 : Int) (a8 : Int) (a9 : Int) : Option (Bool × Unit) :=
  (F46 n a0).bind fun r1 =>
  if (!r1.1) = true then
    some (false, ())
  else
    if (decide (a1 = 1)) = true then
      if (decide (a0.toList = a0.toList) && (decide (a1 = a1) && (decide (a2 = a2) && ((a3 == false) && (decide (a4 = 0) && (decide (a5 = 0) && (decide (a6 = 0) && (decide (a7 = 0) && (decide (a8 = 0) && (decide (a9 = 0) && true)))))))))) = true then
        (F36 n a2 (0 : Int) (281474976710655 : Int)).bind fun r2 =>
        some (r2.1, ())
      else
        some (false, ())
    else
      if (decide (a1 = 2)) = true then
        if (decide (a0.toList = a0.toList) && (decide (a1 = a1) && (decide (a2 = 0) && ((a3 == a3) && (decide (a4 = a4) && (decide (a5 = 0) && (decide (a6 = 0) && (decide (a7 = 0) && (decide (a8 = 0) && (decide (a9 = 0) && true)))))))))) = true then
          (F36 n a4 (0 : Int) (65535 : Int)).bind fun r3 =>
          if r3.1 = true then
            if a3 = true then
              some (true, ())
            else
              some (decide (a4 = 0), ())
          else
            some (false, ())
        else
          some (false, ())
      else
        if (decide (a1 = 3)) = true then
          if (decide (a2 = 0)) = true then
            if (!a3) = true then
              if (decide (a4 = 0)) = true then
                (F164 n a0 a1 a2 a3 a4 a5 a6 a7 a8 a9).bind fun r4 =>
                some (r4.1, ())
              else
                some (false, ())
            else
              some (false, ())
          else
            some (false, ())
        else
          some (false, ())
noncomputable def c146 (n : Nat) : Con := ⟨[.agg [(.str), (.int .i64), (.int .i64), (.bool), (.int .i64), (.int .i64), (.int .i64), (.int .i64), (.int .i64), (.int .i64)]], [], [.one (.bool)], [], fun (x : ByteArray × Int × Int × Bool × Int × Int × Int × Int × Int × Int × Unit) => F146 n x.1 x.2.1 x.2.2.1 x.2.2.2.1 x.2.2.2.2.1 x.2.2.2.2.2.1 x.2.2.2.2.2.2.1 x.2.2.2.2.2.2.2.1 x.2.2.2.2.2.2.2.2.1 x.2.2.2.2.2.2.2.2.2.1⟩
noncomputable def G146 (n : Nat) : Gam := [((36, []), c36 n), ((46, []), c46 n), ((164, []), c164 n)]
theorem e146 (n : Nat) (x : ByteArray × Int × Int × Bool × Int × Int × Int × Int × Int × Int × Unit) : evBody tab (G146 n) n (c146 n) Tryd.f146 x = F146 n x.1 x.2.1 x.2.2.1 x.2.2.2.1 x.2.2.2.2.1 x.2.2.2.2.2.1 x.2.2.2.2.2.2.1 x.2.2.2.2.2.2.2.1 x.2.2.2.2.2.2.2.2.1 x.2.2.2.2.2.2.2.2.2.1 := by kernel_rfl
theorem g146 (W : World) (n : Nat) : Good Tryd.prog W 146 (c146 n) := body_good follows tabOk (GamOk.cons (g36 W n) (GamOk.cons (g46 W n) (GamOk.cons (g164 W n) GamOk.nil))) (f := 146) (fn := Tryd.f146) (c := bodyOf Tryd.f146) (by kernel_rfl) (by kernel_rfl) (by kernel_rfl) (by kernel_rfl) (by kernel_rfl) (by kernel_rfl) (by kernel_rfl) (fun x r h => ⟨n, (e146 n x).trans h⟩)
/-! spec.Sampled -/
noncomputable def F113 (n : Nat) (a0 : ByteArray) (a1 : Int) (a2 : Int) (a3 : Bool) (a4 : Int) (a5 : Int) (a6 : Int) (a7 : Int) (a8 : Int) (a9 : Int) (a10 : Int) : Option (ByteArray × Int × Int × Bool × Int × Int × Int × Int × Int × Int × Unit) :=
  (F146 n a0 a1 a2 a3 a4 a5 a6 a7 a8 a9).bind fun r1 =>
  if (!r1.1) = true then
    some (a0, a1, a2, a3, a4, a5, a6, a7, a8, a9, ())
  else
    if (decide (a1 ≠ 3)) = true then
      some (a0, a1, a2, a3, a4, a5, a6, a7, a8, a9, ())
    else
      (F36 n a10 (0 : Int) (65535 : Int)).bind fun r2 =>
      if (!r2.1) = true then
        some (a0, a1, a2, a3, a4, a5, a6, a7, a8, a9, ())
      else
        if (decide (a5 = 3)) = true then
          some (a0, a1, a2, a3, a4, a5, a6, a7, a8, (mn (wrap64 (a9 + 1)) (65535 : Int)), ())
        else
          if (decide (a5 = 0)) = true then
            some (a0, a1, a2, a3, a4, (wrap64 (a5 + 1)), (mn a10 a10), (mx a10 a10), (wrap64 (a8 + a10)), a9, ())
          else
            some (a0, a1, a2, a3, a4, (wrap64 (a5 + 1)), (mn a6 a10), (mx a7 a10), (wrap64 (a8 + a10)), a9, ())
noncomputable def c113 (n : Nat) : Con := ⟨[.agg [(.str), (.int .i64), (.int .i64), (.bool), (.int .i64), (.int .i64), (.int .i64), (.int .i64), (.int .i64), (.int .i64)], .one (.int .i64)], [], [.agg [(.str), (.int .i64), (.int .i64), (.bool), (.int .i64), (.int .i64), (.int .i64), (.int .i64), (.int .i64), (.int .i64)]], [], fun (x : ByteArray × Int × Int × Bool × Int × Int × Int × Int × Int × Int × Int × Unit) => F113 n x.1 x.2.1 x.2.2.1 x.2.2.2.1 x.2.2.2.2.1 x.2.2.2.2.2.1 x.2.2.2.2.2.2.1 x.2.2.2.2.2.2.2.1 x.2.2.2.2.2.2.2.2.1 x.2.2.2.2.2.2.2.2.2.1 x.2.2.2.2.2.2.2.2.2.2.1⟩
noncomputable def G113 (n : Nat) : Gam := [((36, []), c36 n), ((146, []), c146 n)]
theorem e113 (n : Nat) (x : ByteArray × Int × Int × Bool × Int × Int × Int × Int × Int × Int × Int × Unit) : evBody tab (G113 n) n (c113 n) Tryd.f113 x = F113 n x.1 x.2.1 x.2.2.1 x.2.2.2.1 x.2.2.2.2.1 x.2.2.2.2.2.1 x.2.2.2.2.2.2.1 x.2.2.2.2.2.2.2.1 x.2.2.2.2.2.2.2.2.1 x.2.2.2.2.2.2.2.2.2.1 x.2.2.2.2.2.2.2.2.2.2.1 := by kernel_rfl
theorem g113 (W : World) (n : Nat) : Good Tryd.prog W 113 (c113 n) := body_good follows tabOk (GamOk.cons (g36 W n) (GamOk.cons (g146 W n) GamOk.nil)) (f := 113) (fn := Tryd.f113) (c := bodyOf Tryd.f113) (by kernel_rfl) (by kernel_rfl) (by kernel_rfl) (by kernel_rfl) (by kernel_rfl) (by kernel_rfl) (by kernel_rfl) (fun x r h => ⟨n, (e113 n x).trans h⟩)
/-! spec.UnpackGauge -/
noncomputable def F133 (n : Nat) (a0 : Int) : Option (Int × Int × Unit) :=
  (F36 n a0 (65536 : Int) (4294967295 : Int)).bind fun r1 =>
  if (!r1.1) = true then
    some (0, 0, ())
  else
    if (decide (65536 ≠ 0)) = true then
    if (decide (65536 ≠ 0)) = true then
    some ((wrap64 (a0.tdiv (65536 : Int))), (a0.tmod (65536 : Int)), ())
    else none
    else none
noncomputable def c133 (n : Nat) : Con := ⟨[.one (.int .i64)], [], [.one (.int .i64), .one (.int .i64)], [], fun (x : Int × Unit) => F133 n x.1⟩
noncomputable def G133 (n : Nat) : Gam := [((36, []), c36 n)]
theorem e133 (n : Nat) (x : Int × Unit) : evBody tab (G133 n) n (c133 n) Tryd.f133 x = F133 n x.1 := by kernel_rfl
theorem g133 (W : World) (n : Nat) : Good Tryd.prog W 133 (c133 n) := body_good follows tabOk (GamOk.cons (g36 W n) GamOk.nil) (f := 133) (fn := Tryd.f133) (c := bodyOf Tryd.f133) (by kernel_rfl) (by kernel_rfl) (by kernel_rfl) (by kernel_rfl) (by kernel_rfl) (by kernel_rfl) (by kernel_rfl) (fun x r h => ⟨n, (e133 n x).trans h⟩)
/-! spec.l2Mod -/
noncomputable def F142 (n : Nat) (a0 : Int) : Option (Int × Unit) :=
  if (decide (281474976710656 ≠ 0)) = true then
  if (decide (281474976710656 ≠ 0)) = true then
  some (((wrap64 ((a0.tmod (281474976710656 : Int)) + 281474976710656)).tmod (281474976710656 : Int)), ())
  else none
  else none
noncomputable def c142 (n : Nat) : Con := ⟨[.one (.int .i64)], [], [.one (.int .i64)], [], fun (x : Int × Unit) => F142 n x.1⟩
noncomputable def G142 (n : Nat) : Gam := []
theorem e142 (n : Nat) (x : Int × Unit) : evBody tab (G142 n) n (c142 n) Tryd.f142 x = F142 n x.1 := by kernel_rfl
theorem g142 (W : World) (n : Nat) : Good Tryd.prog W 142 (c142 n) := body_good follows tabOk GamOk.nil (f := 142) (fn := Tryd.f142) (c := bodyOf Tryd.f142) (by kernel_rfl) (by kernel_rfl) (by kernel_rfl) (by kernel_rfl) (by kernel_rfl) (by kernel_rfl) (by kernel_rfl) (fun x r h => ⟨n, (e142 n x).trans h⟩)
/-! spec.RowFrom -/
noncomputable def j123_0 (n : Nat) (l0 : List Int) (s1 : ByteArray) (i2 : Int) (i3 : Int) (b4 : Bool) (i5 : Int) (i6 : Int) (i7 : Int) (i8 : Int) (i9 : Int) (i10 : Int) (s11 : ByteArray) (i12 : Int) (i13 : Int) (b14 : Bool) (i15 : Int) (i16 : Int) (i17 : Int) (i18 : Int) (i19 : Int) (i20 : Int) : Option (ByteArray × Int × Int × Bool × Int × Int × Int × Int × Int × Int × Unit) :=
  if (decide (i16 = 3)) = true then
    if (decide (0 ≤ 4)) = true then
    if (decide (4 < (l0.length : Int))) = true then
    if (decide ((rdOf (0 : Int) l0 (4 : Int)) > 3)) = true then
      if (decide (0 ≤ 4)) = true then
      if (decide (4 < (l0.length : Int))) = true then
      some (s11, i12, i13, b14, i15, i16, i17, i18, i19, (mn (wrap64 ((rdOf (0 : Int) l0 (4 : Int)) - 3)) (65535 : Int)), ())
      else none
      else none
    else
      some (s11, i12, i13, b14, i15, i16, i17, i18, i19, i20, ())
    else none
    else none
  else
    some (s11, i12, i13, b14, i15, i16, i17, i18, i19, i20, ())
noncomputable def st123_0 (n : Nat) (g0 : (List Int) → Int → ByteArray → Int → Int → Bool → Int → Int → Int → Int → Int → Int → ByteArray → Int → Int → Bool → Int → Int → Int → Int → Int → Int → Option (ByteArray × Int × Int × Bool × Int × Int × Int × Int × Int × Int × Unit)) (l0 : List Int) (i1 : Int) (s2 : ByteArray) (i3 : Int) (i4 : Int) (b5 : Bool) (i6 : Int) (i7 : Int) (i8 : Int) (i9 : Int) (i10 : Int) (i11 : Int) (s12 : ByteArray) (i13 : Int) (i14 : Int) (b15 : Bool) (i16 : Int) (i17 : Int) (i18 : Int) (i19 : Int) (i20 : Int) (i21 : Int) : Option (ByteArray × Int × Int × Bool × Int × Int × Int × Int × Int × Int × Unit) :=
  if (decide (i1 < 2)) = true then
    if (decide (0 ≤ i1)) = true then
    if (decide (i1 < (l0.length : Int))) = true then
    (F142 n (rdOf (0 : Int) l0 i1)).bind fun r2 =>
    (F142 n (wrap64 (i14 + r2.1))).bind fun r3 =>
    g0 l0 (wrap64 (i1 + 1)) s2 i3 i4 b5 i6 i7 i8 i9 i10 i11 s12 i13 r3.1 b15 i16 i17 i18 i19 i20 i21
    else none
    else none
  else
    some (s12, i13, i14, b15, i16, i17, i18, i19, i20, i21, ())
noncomputable def lp123_0 (n : Nat) : Nat → (List Int) → Int → ByteArray → Int → Int → Bool → Int → Int → Int → Int → Int → Int → ByteArray → Int → Int → Bool → Int → Int → Int → Int → Int → Int → Option (ByteArray × Int × Int × Bool × Int × Int × Int × Int × Int × Int × Unit)
  | 0 => fun _ _ _ _ _ _ _ _ _ _ _ _ _ _ _ _ _ _ _ _ _ _ => none
  | k + 1 => st123_0 n (lp123_0 n k)
noncomputable def st123_1 (n : Nat) (g1 : (List Int) → Int → ByteArray → Int → Int → Bool → Int → Int → Int → Int → Int → Int → ByteArray → Int → Int → Bool → Int → Int → Int → Int → Int → Int → Option (ByteArray × Int × Int × Bool × Int × Int × Int × Int × Int × Int × Unit)) (l0 : List Int) (i1 : Int) (s2 : ByteArray) (i3 : Int) (i4 : Int) (b5 : Bool) (i6 : Int) (i7 : Int) (i8 : Int) (i9 : Int) (i10 : Int) (i11 : Int) (s12 : ByteArray) (i13 : Int) (i14 : Int) (b15 : Bool) (i16 : Int) (i17 : Int) (i18 : Int) (i19 : Int) (i20 : Int) (i21 : Int) : Option (ByteArray × Int × Int × Bool × Int × Int × Int × Int × Int × Int × Unit) :=
  if (decide (i1 < 3)) = true then
    if (decide (0 ≤ 4)) = true then
    if (decide (4 < (l0.length : Int))) = true then
    if (decide (i1 < (rdOf (0 : Int) l0 (4 : Int)))) = true then
      if (decide (0 ≤ (wrap64 (5 + i1)))) = true then
      if (decide ((wrap64 (5 + i1)) < (l0.length : Int))) = true then
      (F113 n s12 i13 i14 b15 i16 i17 i18 i19 i20 i21 (wrap64 ((rdOf (0 : Int) l0 (wrap64 (5 + i1))) - 1))).bind fun r5 =>
      g1 l0 (wrap64 (i1 + 1)) s2 i3 i4 b5 i6 i7 i8 i9 i10 i11 r5.1 r5.2.1 r5.2.2.1 r5.2.2.2.1 r5.2.2.2.2.1 r5.2.2.2.2.2.1 r5.2.2.2.2.2.2.1 r5.2.2.2.2.2.2.2.1 r5.2.2.2.2.2.2.2.2.1 r5.2.2.2.2.2.2.2.2.2.1
      else none
      else none
    else
      j123_0 n l0 s2 i3 i4 b5 i6 i7 i8 i9 i10 i11 s12 i13 i14 b15 i16 i17 i18 i19 i20 i21
    else none
    else none
  else
    j123_0 n l0 s2 i3 i4 b5 i6 i7 i8 i9 i10 i11 s12 i13 i14 b15 i16 i17 i18 i19 i20 i21
noncomputable def lp123_1 (n : Nat) : Nat → (List Int) → Int → ByteArray → Int → Int → Bool → Int → Int → Int → Int → Int → Int → ByteArray → Int → Int → Bool → Int → Int → Int → Int → Int → Int → Option (ByteArray × Int × Int × Bool × Int × Int × Int × Int × Int × Int × Unit)
  | 0 => fun _ _ _ _ _ _ _ _ _ _ _ _ _ _ _ _ _ _ _ _ _ _ => none
  | k + 1 => st123_1 n (lp123_1 n k)
noncomputable def st123 (n : Nat) (h0 : (List Int) → Int → ByteArray → Int → Int → Bool → Int → Int → Int → Int → Int → Int → ByteArray → Int → Int → Bool → Int → Int → Int → Int → Int → Int → Option (ByteArray × Int × Int × Bool × Int × Int × Int × Int × Int × Int × Unit)) (h1 : (List Int) → Int → ByteArray → Int → Int → Bool → Int → Int → Int → Int → Int → Int → ByteArray → Int → Int → Bool → Int → Int → Int → Int → Int → Int → Option (ByteArray × Int × Int × Bool × Int × Int × Int × Int × Int × Int × Unit)) (a0 : Int) (a1 : List Int) : Option (ByteArray × Int × Int × Bool × Int × Int × Int × Int × Int × Int × Unit) :=
  (F126 n a0).bind fun r1 =>
  if (decide (r1.2.1 = 0)) = true then
    some ((⟨#[]⟩ : ByteArray), 0, 0, false, 0, 0, 0, 0, 0, 0, ())
  else
    if (decide ((a1.length : Int) ≠ 8)) = true then
      some ((⟨#[]⟩ : ByteArray), 0, 0, false, 0, 0, 0, 0, 0, 0, ())
    else
      if (decide (r1.2.1 = 1)) = true then
        h0 a1 (0 : Int) (⟨#[]⟩ : ByteArray) (0 : Int) (0 : Int) false (0 : Int) (0 : Int) (0 : Int) (0 : Int) (0 : Int) (0 : Int) r1.1 r1.2.1 (0 : Int) false (0 : Int) (0 : Int) (0 : Int) (0 : Int) (0 : Int) (0 : Int)
      else
        if (decide (r1.2.1 = 2)) = true then
          if (decide (0 ≤ 3)) = true then
          if (decide (3 < (a1.length : Int))) = true then
          (F133 n (rdOf (0 : Int) a1 (3 : Int))).bind fun r4 =>
          some (r1.1, r1.2.1, 0, decide (r4.1 > 0), r4.2.1, 0, 0, 0, 0, 0, ())
          else none
          else none
        else
          h1 a1 (0 : Int) (⟨#[]⟩ : ByteArray) (0 : Int) (0 : Int) false (0 : Int) (0 : Int) (0 : Int) (0 : Int) (0 : Int) (0 : Int) r1.1 r1.2.1 (0 : Int) false (0 : Int) (0 : Int) (0 : Int) (0 : Int) (0 : Int) (0 : Int)
noncomputable def F123 (n : Nat) (a0 : Int) (a1 : List Int) : Option (ByteArray × Int × Int × Bool × Int × Int × Int × Int × Int × Int × Unit) := st123 n (lp123_0 n n) (lp123_1 n n) a0 a1
noncomputable def c123 (n : Nat) : Con := ⟨[.one (.int .i64), .one (.sl (.imm true) 3 (.int .i64))], [], [.agg [(.str), (.int .i64), (.int .i64), (.bool), (.int .i64), (.int .i64), (.int .i64), (.int .i64), (.int .i64), (.int .i64)]], [], fun (x : Int × List Int × Unit) => F123 n x.1 x.2.1⟩
noncomputable def G123 (n : Nat) : Gam := [((113, []), c113 n), ((126, []), c126 n), ((133, []), c133 n), ((142, []), c142 n)]
noncomputable def S123_0 (l0 : List Int) (i1 : Int) (s2 : ByteArray) (i3 : Int) (i4 : Int) (b5 : Bool) (i6 : Int) (i7 : Int) (i8 : Int) (i9 : Int) (i10 : Int) (i11 : Int) (s12 : ByteArray) (i13 : Int) (i14 : Int) (b15 : Bool) (i16 : Int) (i17 : Int) (i18 : Int) (i19 : Int) (i20 : Int) (i21 : Int) : St := ⟨[.dead, .sl (.imm true) 3 (.int .i64) l0, .dead, .dead, .ptr 4 0, .dead, .dead, .ptr 7 0, .int .i64 i1] ++ List.replicate 85 .dead, List.replicate 4 Ob.none ++ [⟨true, [.str s2, .int .i64 i3, .int .i64 i4, .bool b5, .int .i64 i6, .int .i64 i7, .int .i64 i8, .int .i64 i9, .int .i64 i10, .int .i64 i11], 0, 0⟩, Ob.none, Ob.none, ⟨true, [.str s12, .int .i64 i13, .int .i64 i14, .bool b15, .int .i64 i16, .int .i64 i17, .int .i64 i18, .int .i64 i19, .int .i64 i20, .int .i64 i21], 0, 0⟩] ++ List.replicate 86 Ob.none⟩
noncomputable def ga123_0 (n : Nat) (ks : List Nat) (k : Nat) (st : St) : Option (ByteArray × Int × Int × Bool × Int × Int × Int × Int × Int × Int × Unit) := goAt tab (G123 n) n (bodyOf Tryd.f123) (lvOf Tryd.f123) (lvOf Tryd.f123).ret [1, 1, 1, 1, 0, 1, 0, 1, 0, 1, 0] ks k st (evBody.endK tab (c123 n) Tryd.f123)
noncomputable def S123_1 (l0 : List Int) (i1 : Int) (s2 : ByteArray) (i3 : Int) (i4 : Int) (b5 : Bool) (i6 : Int) (i7 : Int) (i8 : Int) (i9 : Int) (i10 : Int) (i11 : Int) (s12 : ByteArray) (i13 : Int) (i14 : Int) (b15 : Bool) (i16 : Int) (i17 : Int) (i18 : Int) (i19 : Int) (i20 : Int) (i21 : Int) : St := ⟨[.dead, .sl (.imm true) 3 (.int .i64) l0, .dead, .dead, .ptr 4 0, .dead, .dead, .ptr 7 0, .dead, .dead, .dead, .int .i64 i1] ++ List.replicate 82 .dead, List.replicate 4 Ob.none ++ [⟨true, [.str s2, .int .i64 i3, .int .i64 i4, .bool b5, .int .i64 i6, .int .i64 i7, .int .i64 i8, .int .i64 i9, .int .i64 i10, .int .i64 i11], 0, 0⟩, Ob.none, Ob.none, ⟨true, [.str s12, .int .i64 i13, .int .i64 i14, .bool b15, .int .i64 i16, .int .i64 i17, .int .i64 i18, .int .i64 i19, .int .i64 i20, .int .i64 i21], 0, 0⟩] ++ List.replicate 86 Ob.none⟩
noncomputable def ga123_1 (n : Nat) (ks : List Nat) (k : Nat) (st : St) : Option (ByteArray × Int × Int × Bool × Int × Int × Int × Int × Int × Int × Unit) := goAt tab (G123 n) n (bodyOf Tryd.f123) (lvOf Tryd.f123) (lvOf Tryd.f123).ret [1, 1, 1, 1, 0, 1, 0, 1, 1, 1, 1, 0, 1, 0] ks k st (evBody.endK tab (c123 n) Tryd.f123)
theorem el123_0 (n : Nat) : ∀ (k : Nat), ∀ (l0 : List Int) (i1 : Int) (s2 : ByteArray) (i3 : Int) (i4 : Int) (b5 : Bool) (i6 : Int) (i7 : Int) (i8 : Int) (i9 : Int) (i10 : Int) (i11 : Int) (s12 : ByteArray) (i13 : Int) (i14 : Int) (b15 : Bool) (i16 : Int) (i17 : Int) (i18 : Int) (i19 : Int) (i20 : Int) (i21 : Int), ga123_0 n [] k (S123_0 l0 i1 s2 i3 i4 b5 i6 i7 i8 i9 i10 i11 s12 i13 i14 b15 i16 i17 i18 i19 i20 i21) = lp123_0 n k l0 i1 s2 i3 i4 b5 i6 i7 i8 i9 i10 i11 s12 i13 i14 b15 i16 i17 i18 i19 i20 i21 := by
  intro k
  induction k with
  | zero => intros; rfl
  | succ k ih =>
    intro l0 i1 s2 i3 i4 b5 i6 i7 i8 i9 i10 i11 s12 i13 i14 b15 i16 i17 i18 i19 i20 i21
    have h : ga123_0 n [] (k + 1) (S123_0 l0 i1 s2 i3 i4 b5 i6 i7 i8 i9 i10 i11 s12 i13 i14 b15 i16 i17 i18 i19 i20 i21) = st123_0 n (fun w0 w1 w2 w3 w4 w5 w6 w7 w8 w9 w10 w11 w12 w13 w14 w15 w16 w17 w18 w19 w20 w21 => ga123_0 n [] k (S123_0 w0 w1 w2 w3 w4 w5 w6 w7 w8 w9 w10 w11 w12 w13 w14 w15 w16 w17 w18 w19 w20 w21)) l0 i1 s2 i3 i4 b5 i6 i7 i8 i9 i10 i11 s12 i13 i14 b15 i16 i17 i18 i19 i20 i21 := by kernel_rfl
    rw [h]
    have e : (fun w0 w1 w2 w3 w4 w5 w6 w7 w8 w9 w10 w11 w12 w13 w14 w15 w16 w17 w18 w19 w20 w21 => ga123_0 n [] k (S123_0 w0 w1 w2 w3 w4 w5 w6 w7 w8 w9 w10 w11 w12 w13 w14 w15 w16 w17 w18 w19 w20 w21)) = lp123_0 n k := by
      funext w0 w1 w2 w3 w4 w5 w6 w7 w8 w9 w10 w11 w12 w13 w14 w15 w16 w17 w18 w19 w20 w21; exact ih w0 w1 w2 w3 w4 w5 w6 w7 w8 w9 w10 w11 w12 w13 w14 w15 w16 w17 w18 w19 w20 w21
    rw [e]
    rfl
theorem el123_1 (n : Nat) : ∀ (k : Nat), ∀ (l0 : List Int) (i1 : Int) (s2 : ByteArray) (i3 : Int) (i4 : Int) (b5 : Bool) (i6 : Int) (i7 : Int) (i8 : Int) (i9 : Int) (i10 : Int) (i11 : Int) (s12 : ByteArray) (i13 : Int) (i14 : Int) (b15 : Bool) (i16 : Int) (i17 : Int) (i18 : Int) (i19 : Int) (i20 : Int) (i21 : Int), ga123_1 n [] k (S123_1 l0 i1 s2 i3 i4 b5 i6 i7 i8 i9 i10 i11 s12 i13 i14 b15 i16 i17 i18 i19 i20 i21) = lp123_1 n k l0 i1 s2 i3 i4 b5 i6 i7 i8 i9 i10 i11 s12 i13 i14 b15 i16 i17 i18 i19 i20 i21 := by
  intro k
  induction k with
  | zero => intros; rfl
  | succ k ih =>
    intro l0 i1 s2 i3 i4 b5 i6 i7 i8 i9 i10 i11 s12 i13 i14 b15 i16 i17 i18 i19 i20 i21
    have h : ga123_1 n [] (k + 1) (S123_1 l0 i1 s2 i3 i4 b5 i6 i7 i8 i9 i10 i11 s12 i13 i14 b15 i16 i17 i18 i19 i20 i21) = st123_1 n (fun w0 w1 w2 w3 w4 w5 w6 w7 w8 w9 w10 w11 w12 w13 w14 w15 w16 w17 w18 w19 w20 w21 => ga123_1 n [] k (S123_1 w0 w1 w2 w3 w4 w5 w6 w7 w8 w9 w10 w11 w12 w13 w14 w15 w16 w17 w18 w19 w20 w21)) l0 i1 s2 i3 i4 b5 i6 i7 i8 i9 i10 i11 s12 i13 i14 b15 i16 i17 i18 i19 i20 i21 := by kernel_rfl
    rw [h]
    have e : (fun w0 w1 w2 w3 w4 w5 w6 w7 w8 w9 w10 w11 w12 w13 w14 w15 w16 w17 w18 w19 w20 w21 => ga123_1 n [] k (S123_1 w0 w1 w2 w3 w4 w5 w6 w7 w8 w9 w10 w11 w12 w13 w14 w15 w16 w17 w18 w19 w20 w21)) = lp123_1 n k := by
      funext w0 w1 w2 w3 w4 w5 w6 w7 w8 w9 w10 w11 w12 w13 w14 w15 w16 w17 w18 w19 w20 w21; exact ih w0 w1 w2 w3 w4 w5 w6 w7 w8 w9 w10 w11 w12 w13 w14 w15 w16 w17 w18 w19 w20 w21
    rw [e]
    rfl
theorem e123 (n : Nat) (x : Int × List Int × Unit) : evBody tab (G123 n) n (c123 n) Tryd.f123 x = F123 n x.1 x.2.1 := by
  have h : evBody tab (G123 n) n (c123 n) Tryd.f123 x = st123 n (fun w0 w1 w2 w3 w4 w5 w6 w7 w8 w9 w10 w11 w12 w13 w14 w15 w16 w17 w18 w19 w20 w21 => ga123_0 n [] n (S123_0 w0 w1 w2 w3 w4 w5 w6 w7 w8 w9 w10 w11 w12 w13 w14 w15 w16 w17 w18 w19 w20 w21)) (fun w0 w1 w2 w3 w4 w5 w6 w7 w8 w9 w10 w11 w12 w13 w14 w15 w16 w17 w18 w19 w20 w21 => ga123_1 n [] n (S123_1 w0 w1 w2 w3 w4 w5 w6 w7 w8 w9 w10 w11 w12 w13 w14 w15 w16 w17 w18 w19 w20 w21)) x.1 x.2.1 := by kernel_rfl
  rw [h]
  have e0 : (fun w0 w1 w2 w3 w4 w5 w6 w7 w8 w9 w10 w11 w12 w13 w14 w15 w16 w17 w18 w19 w20 w21 => ga123_0 n [] n (S123_0 w0 w1 w2 w3 w4 w5 w6 w7 w8 w9 w10 w11 w12 w13 w14 w15 w16 w17 w18 w19 w20 w21)) = lp123_0 n n := by
    funext w0 w1 w2 w3 w4 w5 w6 w7 w8 w9 w10 w11 w12 w13 w14 w15 w16 w17 w18 w19 w20 w21; exact el123_0 n n w0 w1 w2 w3 w4 w5 w6 w7 w8 w9 w10 w11 w12 w13 w14 w15 w16 w17 w18 w19 w20 w21
  have e1 : (fun w0 w1 w2 w3 w4 w5 w6 w7 w8 w9 w10 w11 w12 w13 w14 w15 w16 w17 w18 w19 w20 w21 => ga123_1 n [] n (S123_1 w0 w1 w2 w3 w4 w5 w6 w7 w8 w9 w10 w11 w12 w13 w14 w15 w16 w17 w18 w19 w20 w21)) = lp123_1 n n := by
    funext w0 w1 w2 w3 w4 w5 w6 w7 w8 w9 w10 w11 w12 w13 w14 w15 w16 w17 w18 w19 w20 w21; exact el123_1 n n w0 w1 w2 w3 w4 w5 w6 w7 w8 w9 w10 w11 w12 w13 w14 w15 w16 w17 w18 w19 w20 w21
  rw [e0, e1]
  rfl
theorem g123 (W : World) (n : Nat) : Good Tryd.prog W 123 (c123 n) := body_good follows tabOk (GamOk.cons (g113 W n) (GamOk.cons (g126 W n) (GamOk.cons (g133 W n) (GamOk.cons (g142 W n) GamOk.nil)))) (f := 123) (fn := Tryd.f123) (c := bodyOf Tryd.f123) (by kernel_rfl) (by kernel_rfl) (by kernel_rfl) (by kernel_rfl) (by kernel_rfl) (by kernel_rfl) (by kernel_rfl) (fun x r h => ⟨n, (e123 n x).trans h⟩)
/-! spec.SlotBase -/
noncomputable def F167 (n : Nat) (a0 : Int) (a1 : Int) : Option (Int × Unit) :=
  (F36 n a0 (0 : Int) (1 : Int)).bind fun r1 =>
  if (!r1.1) = true then
    some ((-1), ())
  else
    (F36 n a1 (0 : Int) (3 : Int)).bind fun r2 =>
    if (!r2.1) = true then
      some ((-1), ())
    else
      some ((wrap64 ((wrap64 (7 + (wrap64 (a0 * 32)))) + (wrap64 (a1 * 8)))), ())
noncomputable def c167 (n : Nat) : Con := ⟨[.one (.int .i64), .one (.int .i64)], [], [.one (.int .i64)], [], fun (x : Int × Int × Unit) => F167 n x.1 x.2.1⟩
noncomputable def G167 (n : Nat) : Gam := [((36, []), c36 n)]
theorem e167 (n : Nat) (x : Int × Int × Unit) : evBody tab (G167 n) n (c167 n) Tryd.f167 x = F167 n x.1 x.2.1 := by kernel_rfl
theorem g167 (W : World) (n : Nat) : Good Tryd.prog W 167 (c167 n) := body_good follows tabOk (GamOk.cons (g36 W n) GamOk.nil) (f := 167) (fn := Tryd.f167) (c := bodyOf Tryd.f167) (by kernel_rfl) (by kernel_rfl) (by kernel_rfl) (by kernel_rfl) (by kernel_rfl) (by kernel_rfl) (by kernel_rfl) (fun x r h => ⟨n, (e167 n x).trans h⟩)
/-! spec.l8Raw -/
noncomputable def F168 (n : Nat) (a0 : List Int) (a1 : Int) (a2 : Int) : Option (List Int × Unit) :=
  (F167 n a1 a2).bind fun r1 =>
  if (decide (0 ≤ r1.1)) = true then
  if (decide (r1.1 ≤ (wrap64 (r1.1 + 8)))) = true then
  if (decide ((wrap64 (r1.1 + 8)) ≤ (a0.length : Int))) = true then
  some ((cutL a0 r1.1 (wrap64 (r1.1 + 8))), ())
  else none
  else none
  else none
noncomputable def c168 (n : Nat) : Con := ⟨[.one (.sl (.imm false) 3 (.int .i64)), .one (.int .i64), .one (.int .i64)], [], [.one (.sl (.imm false) 3 (.int .i64))], [], fun (x : List Int × Int × Int × Unit) => F168 n x.1 x.2.1 x.2.2.1⟩
noncomputable def G168 (n : Nat) : Gam := [((167, []), c167 n)]
theorem e168 (n : Nat) (x : List Int × Int × Int × Unit) : evBody tab (G168 n) n (c168 n) Tryd.f168 x = F168 n x.1 x.2.1 x.2.2.1 := by kernel_rfl
theorem g168 (W : World) (n : Nat) : Good Tryd.prog W 168 (c168 n) := body_good follows tabOk (GamOk.cons (g167 W n) GamOk.nil) (f := 168) (fn := Tryd.f168) (c := bodyOf Tryd.f168) (by kernel_rfl) (by kernel_rfl) (by kernel_rfl) (by kernel_rfl) (by kernel_rfl) (by kernel_rfl) (by kernel_rfl) (fun x r h => ⟨n, (e168 n x).trans h⟩)
/-! spec.RowIn -/
noncomputable def F159 (n : Nat) (a0 : List Int) (a1 : Int) (a2 : Int) : Option (ByteArray × Int × Int × Bool × Int × Int × Int × Int × Int × Int × Unit) :=
  (F9 n a0).bind fun r1 =>
  if (!r1.1) = true then
    some ((⟨#[]⟩ : ByteArray), 0, 0, false, 0, 0, 0, 0, 0, 0, ())
  else
    (F167 n a1 a2).bind fun r2 =>
    if (decide (r2.1 < 0)) = true then
      some ((⟨#[]⟩ : ByteArray), 0, 0, false, 0, 0, 0, 0, 0, 0, ())
    else
      (F38 n a2).bind fun r3 =>
      if (decide (0 ≤ r3.1)) = true then
      if (decide (r3.1 < (a0.length : Int))) = true then
      (F168 n a0 a1 a2).bind fun r4 =>
      (F123 n (rdOf (0 : Int) a0 r3.1) r4.1).bind fun r5 =>
      some (r5.1, r5.2.1, r5.2.2.1, r5.2.2.2.1, r5.2.2.2.2.1, r5.2.2.2.2.2.1, r5.2.2.2.2.2.2.1, r5.2.2.2.2.2.2.2.1, r5.2.2.2.2.2.2.2.2.1, r5.2.2.2.2.2.2.2.2.2.1, ())
      else none
      else none
noncomputable def c159 (n : Nat) : Con := ⟨[.one (.sl (.imm false) 3 (.int .i64)), .one (.int .i64), .one (.int .i64)], [], [.agg [(.str), (.int .i64), (.int .i64), (.bool), (.int .i64), (.int .i64), (.int .i64), (.int .i64), (.int .i64), (.int .i64)]], [], fun (x : List Int × Int × Int × Unit) => F159 n x.1 x.2.1 x.2.2.1⟩
noncomputable def G159 (n : Nat) : Gam := [((9, []), c9 n), ((38, []), c38 n), ((123, []), c123 n), ((167, []), c167 n), ((168, []), c168 n)]
theorem e159 (n : Nat) (x : List Int × Int × Int × Unit) : evBody tab (G159 n) n (c159 n) Tryd.f159 x = F159 n x.1 x.2.1 x.2.2.1 := by kernel_rfl
theorem g159 (W : World) (n : Nat) : Good Tryd.prog W 159 (c159 n) := body_good follows tabOk (GamOk.cons (g9 W n) (GamOk.cons (g38 W n) (GamOk.cons (g123 W n) (GamOk.cons (g167 W n) (GamOk.cons (g168 W n) GamOk.nil))))) (f := 159) (fn := Tryd.f159) (c := bodyOf Tryd.f159) (by kernel_rfl) (by kernel_rfl) (by kernel_rfl) (by kernel_rfl) (by kernel_rfl) (by kernel_rfl) (by kernel_rfl) (fun x r h => ⟨n, (e159 n x).trans h⟩)
/-! spec.Quiet -/
noncomputable def F74 (n : Nat) (a0 : ByteArray) (a1 : Int) (a2 : Int) (a3 : Bool) (a4 : Int) (a5 : Int) (a6 : Int) (a7 : Int) (a8 : Int) (a9 : Int) : Option (Bool × Unit) :=
  if (decide (a2 = 0)) = true then
    if (!a3) = true then
      some (decide (a5 = 0), ())
    else
      some (false, ())
  else
    some (false, ())
noncomputable def c74 (n : Nat) : Con := ⟨[.agg [(.str), (.int .i64), (.int .i64), (.bool), (.int .i64), (.int .i64), (.int .i64), (.int .i64), (.int .i64), (.int .i64)]], [], [.one (.bool)], [], fun (x : ByteArray × Int × Int × Bool × Int × Int × Int × Int × Int × Int × Unit) => F74 n x.1 x.2.1 x.2.2.1 x.2.2.2.1 x.2.2.2.2.1 x.2.2.2.2.2.1 x.2.2.2.2.2.2.1 x.2.2.2.2.2.2.2.1 x.2.2.2.2.2.2.2.2.1 x.2.2.2.2.2.2.2.2.2.1⟩
noncomputable def G74 (n : Nat) : Gam := []
theorem e74 (n : Nat) (x : ByteArray × Int × Int × Bool × Int × Int × Int × Int × Int × Int × Unit) : evBody tab (G74 n) n (c74 n) Tryd.f74 x = F74 n x.1 x.2.1 x.2.2.1 x.2.2.2.1 x.2.2.2.2.1 x.2.2.2.2.2.1 x.2.2.2.2.2.2.1 x.2.2.2.2.2.2.2.1 x.2.2.2.2.2.2.2.2.1 x.2.2.2.2.2.2.2.2.2.1 := by kernel_rfl
theorem g74 (W : World) (n : Nat) : Good Tryd.prog W 74 (c74 n) := body_good follows tabOk GamOk.nil (f := 74) (fn := Tryd.f74) (c := bodyOf Tryd.f74) (by kernel_rfl) (by kernel_rfl) (by kernel_rfl) (by kernel_rfl) (by kernel_rfl) (by kernel_rfl) (by kernel_rfl) (fun x r h => ⟨n, (e74 n x).trans h⟩)
/-! spec.ReportIn -/
noncomputable def st140_0 (n : Nat) (g0 : (List Int) → Int → Int → (List (ByteArray × (Int × (Int × (Bool × (Int × (Int × (Int × (Int × (Int × Int)))))))))) → Option (List (ByteArray × (Int × (Int × (Bool × (Int × (Int × (Int × (Int × (Int × Int))))))))) × Unit)) (l0 : List Int) (i1 : Int) (i2 : Int) (l3 : List (ByteArray × (Int × (Int × (Bool × (Int × (Int × (Int × (Int × (Int × Int)))))))))) : Option (List (ByteArray × (Int × (Int × (Bool × (Int × (Int × (Int × (Int × (Int × Int))))))))) × Unit) :=
  if (decide (i2 < 4)) = true then
    (F159 n l0 i1 i2).bind fun r3 =>
    if (decide (r3.2.1 ≠ 0)) = true then
      (F74 n r3.1 r3.2.1 r3.2.2.1 r3.2.2.2.1 r3.2.2.2.2.1 r3.2.2.2.2.2.1 r3.2.2.2.2.2.2.1 r3.2.2.2.2.2.2.2.1 r3.2.2.2.2.2.2.2.2.1 r3.2.2.2.2.2.2.2.2.2.1).bind fun r4 =>
      if (!r4.1) = true then
        (F124 n l3 r3.1 r3.2.1 r3.2.2.1 r3.2.2.2.1 r3.2.2.2.2.1 r3.2.2.2.2.2.1 r3.2.2.2.2.2.2.1 r3.2.2.2.2.2.2.2.1 r3.2.2.2.2.2.2.2.2.1 r3.2.2.2.2.2.2.2.2.2.1).bind fun r5 =>
        g0 l0 i1 (wrap64 (i2 + 1)) r5.1
      else
        g0 l0 i1 (wrap64 (i2 + 1)) l3
    else
      g0 l0 i1 (wrap64 (i2 + 1)) l3
  else
    some (l3, ())
noncomputable def lp140_0 (n : Nat) : Nat → (List Int) → Int → Int → (List (ByteArray × (Int × (Int × (Bool × (Int × (Int × (Int × (Int × (Int × Int)))))))))) → Option (List (ByteArray × (Int × (Int × (Bool × (Int × (Int × (Int × (Int × (Int × Int))))))))) × Unit)
  | 0 => fun _ _ _ _ => none
  | k + 1 => st140_0 n (lp140_0 n k)
noncomputable def st140 (n : Nat) (h0 : (List Int) → Int → Int → (List (ByteArray × (Int × (Int × (Bool × (Int × (Int × (Int × (Int × (Int × Int)))))))))) → Option (List (ByteArray × (Int × (Int × (Bool × (Int × (Int × (Int × (Int × (Int × Int))))))))) × Unit)) (a0 : List Int) (a1 : Int) : Option (List (ByteArray × (Int × (Int × (Bool × (Int × (Int × (Int × (Int × (Int × Int))))))))) × Unit) :=
  (F9 n a0).bind fun r1 =>
  if (!r1.1) = true then
    some (([] : List (ByteArray × (Int × (Int × (Bool × (Int × (Int × (Int × (Int × (Int × Int)))))))))), ())
  else
    (F130 n a1).bind fun r2 =>
    if (decide (r2.1 < 0)) = true then
      some (([] : List (ByteArray × (Int × (Int × (Bool × (Int × (Int × (Int × (Int × (Int × Int)))))))))), ())
    else
      h0 a0 a1 (0 : Int) ([] : List (ByteArray × (Int × (Int × (Bool × (Int × (Int × (Int × (Int × (Int × Int))))))))))
noncomputable def F140 (n : Nat) (a0 : List Int) (a1 : Int) : Option (List (ByteArray × (Int × (Int × (Bool × (Int × (Int × (Int × (Int × (Int × Int))))))))) × Unit) := st140 n (lp140_0 n n) a0 a1
noncomputable def c140 (n : Nat) : Con := ⟨[.one (.sl (.imm false) 3 (.int .i64)), .one (.int .i64)], [], [.one (.sl .own 72 (.pair .str (.pair (.int .i64) (.pair (.int .i64) (.pair .bool (.pair (.int .i64) (.pair (.int .i64) (.pair (.int .i64) (.pair (.int .i64) (.pair (.int .i64) (.int .i64)))))))))))], [], fun (x : List Int × Int × Unit) => F140 n x.1 x.2.1⟩
noncomputable def G140 (n : Nat) : Gam := [((9, []), c9 n), ((74, []), c74 n), ((124, []), c124 n), ((130, []), c130 n), ((159, []), c159 n)]
noncomputable def S140_0 (l0 : List Int) (i1 : Int) (i2 : Int) (l3 : List (ByteArray × (Int × (Int × (Bool × (Int × (Int × (Int × (Int × (Int × Int)))))))))) : St := ⟨[.sl (.imm false) 3 (.int .i64) l0, .int .i64 i1, .dead, .dead, .dead, .sr 5 0 none 0 0 none, .int .i64 i2] ++ List.replicate 31 .dead, List.replicate 5 Ob.none ++ [⟨false, [.sl .own 72 (.pair .str (.pair (.int .i64) (.pair (.int .i64) (.pair .bool (.pair (.int .i64) (.pair (.int .i64) (.pair (.int .i64) (.pair (.int .i64) (.pair (.int .i64) (.int .i64)))))))))) l3], 0, 0⟩] ++ List.replicate 32 Ob.none⟩
noncomputable def ga140_0 (n : Nat) (ks : List Nat) (k : Nat) (st : St) : Option (List (ByteArray × (Int × (Int × (Bool × (Int × (Int × (Int × (Int × (Int × Int))))))))) × Unit) := goAt tab (G140 n) n (bodyOf Tryd.f140) (lvOf Tryd.f140) (lvOf Tryd.f140).ret [1, 1, 1, 0, 1, 0] ks k st (evBody.endK tab (c140 n) Tryd.f140)
theorem el140_0 (n : Nat) : ∀ (k : Nat), ∀ (l0 : List Int) (i1 : Int) (i2 : Int) (l3 : List (ByteArray × (Int × (Int × (Bool × (Int × (Int × (Int × (Int × (Int × Int)))))))))), ga140_0 n [] k (S140_0 l0 i1 i2 l3) = lp140_0 n k l0 i1 i2 l3 := by
  intro k
  induction k with
  | zero => intros; rfl
  | succ k ih =>
    intro l0 i1 i2 l3
    have h : ga140_0 n [] (k + 1) (S140_0 l0 i1 i2 l3) = st140_0 n (fun w0 w1 w2 w3 => ga140_0 n [] k (S140_0 w0 w1 w2 w3)) l0 i1 i2 l3 := by kernel_rfl
    rw [h]
    have e : (fun w0 w1 w2 w3 => ga140_0 n [] k (S140_0 w0 w1 w2 w3)) = lp140_0 n k := by
      funext w0 w1 w2 w3; exact ih w0 w1 w2 w3
    rw [e]
    rfl
theorem e140 (n : Nat) (x : List Int × Int × Unit) : evBody tab (G140 n) n (c140 n) Tryd.f140 x = F140 n x.1 x.2.1 := by
  have h : evBody tab (G140 n) n (c140 n) Tryd.f140 x = st140 n (fun w0 w1 w2 w3 => ga140_0 n [] n (S140_0 w0 w1 w2 w3)) x.1 x.2.1 := by kernel_rfl
  rw [h]
  have e0 : (fun w0 w1 w2 w3 => ga140_0 n [] n (S140_0 w0 w1 w2 w3)) = lp140_0 n n := by
    funext w0 w1 w2 w3; exact el140_0 n n w0 w1 w2 w3
  rw [e0]
  rfl
theorem g140 (W : World) (n : Nat) : Good Tryd.prog W 140 (c140 n) := body_good follows tabOk (GamOk.cons (g9 W n) (GamOk.cons (g74 W n) (GamOk.cons (g124 W n) (GamOk.cons (g130 W n) (GamOk.cons (g159 W n) GamOk.nil))))) (f := 140) (fn := Tryd.f140) (c := bodyOf Tryd.f140) (by kernel_rfl) (by kernel_rfl) (by kernel_rfl) (by kernel_rfl) (by kernel_rfl) (by kernel_rfl) (by kernel_rfl) (fun x r h => ⟨n, (e140 n x).trans h⟩)
/-! spec.ClearBuf -/
noncomputable def st141_0 (n : Nat) (g0 : Int → Int → (List Int) → Option (List Int × Unit)) (i0 : Int) (i1 : Int) (l2 : List Int) : Option (List Int × Unit) :=
  if (decide (i1 < 32)) = true then
    if (decide (0 ≤ (wrap64 ((wrap64 (7 + (wrap64 (i0 * 32)))) + i1)))) = true then
    if (decide ((wrap64 ((wrap64 (7 + (wrap64 (i0 * 32)))) + i1)) < (l2.length : Int))) = true then
    g0 i0 (wrap64 (i1 + 1)) (l2.set (wrap64 ((wrap64 (7 + (wrap64 (i0 * 32)))) + i1)).toNat (0 : Int))
    else none
    else none
  else
    some (l2, ())
noncomputable def lp141_0 (n : Nat) : Nat → Int → Int → (List Int) → Option (List Int × Unit)
  | 0 => fun _ _ _ => none
  | k + 1 => st141_0 n (lp141_0 n k)
noncomputable def st141 (n : Nat) (h0 : Int → Int → (List Int) → Option (List Int × Unit)) (a0 : List Int) (a1 : Int) : Option (List Int × Unit) :=
  (F98 n a0).bind fun r1 =>
  (F9 n a0).bind fun r2 =>
  if (!r2.1) = true then
    some (r1.1, ())
  else
    (F130 n a1).bind fun r3 =>
    if (decide (r3.1 < 0)) = true then
      some (r1.1, ())
    else
      h0 a1 (0 : Int) r1.1
noncomputable def F141 (n : Nat) (a0 : List Int) (a1 : Int) : Option (List Int × Unit) := st141 n (lp141_0 n n) a0 a1
noncomputable def c141 (n : Nat) : Con := ⟨[.one (.sl (.imm true) 3 (.int .i64)), .one (.int .i64)], [], [.one (.sl .own 3 (.int .i64))], [], fun (x : List Int × Int × Unit) => F141 n x.1 x.2.1⟩
noncomputable def G141 (n : Nat) : Gam := [((9, []), c9 n), ((98, []), c98 n), ((130, []), c130 n)]
noncomputable def S141_0 (i0 : Int) (i1 : Int) (l2 : List Int) : St := ⟨[.dead, .int .i64 i0, .dead, .dead, .dead, .sr 5 0 none 0 0 none, .int .i64 i1] ++ List.replicate 23 .dead, List.replicate 5 Ob.none ++ [⟨false, [.sl .own 3 (.int .i64) l2], 0, 0⟩] ++ List.replicate 24 Ob.none⟩
noncomputable def ga141_0 (n : Nat) (ks : List Nat) (k : Nat) (st : St) : Option (List Int × Unit) := goAt tab (G141 n) n (bodyOf Tryd.f141) (lvOf Tryd.f141) (lvOf Tryd.f141).ret [1, 1, 1, 0, 1, 0] ks k st (evBody.endK tab (c141 n) Tryd.f141)
theorem el141_0 (n : Nat) : ∀ (k : Nat), ∀ (i0 : Int) (i1 : Int) (l2 : List Int), ga141_0 n [] k (S141_0 i0 i1 l2) = lp141_0 n k i0 i1 l2 := by
  intro k
  induction k with
  | zero => intros; rfl
  | succ k ih =>
    intro i0 i1 l2
    have h : ga141_0 n [] (k + 1) (S141_0 i0 i1 l2) = st141_0 n (fun w0 w1 w2 => ga141_0 n [] k (S141_0 w0 w1 w2)) i0 i1 l2 := by kernel_rfl
    rw [h]
    have e : (fun w0 w1 w2 => ga141_0 n [] k (S141_0 w0 w1 w2)) = lp141_0 n k := by
      funext w0 w1 w2; exact ih w0 w1 w2
    rw [e]
    rfl
theorem e141 (n : Nat) (x : List Int × Int × Unit) : evBody tab (G141 n) n (c141 n) Tryd.f141 x = F141 n x.1 x.2.1 := by
  have h : evBody tab (G141 n) n (c141 n) Tryd.f141 x = st141 n (fun w0 w1 w2 => ga141_0 n [] n (S141_0 w0 w1 w2)) x.1 x.2.1 := by kernel_rfl
  rw [h]
  have e0 : (fun w0 w1 w2 => ga141_0 n [] n (S141_0 w0 w1 w2)) = lp141_0 n n := by
    funext w0 w1 w2; exact el141_0 n n w0 w1 w2
  rw [e0]
  rfl
theorem g141 (W : World) (n : Nat) : Good Tryd.prog W 141 (c141 n) := body_good follows tabOk (GamOk.cons (g9 W n) (GamOk.cons (g98 W n) (GamOk.cons (g130 W n) GamOk.nil))) (f := 141) (fn := Tryd.f141) (c := bodyOf Tryd.f141) (by kernel_rfl) (by kernel_rfl) (by kernel_rfl) (by kernel_rfl) (by kernel_rfl) (by kernel_rfl) (by kernel_rfl) (fun x r h => ⟨n, (e141 n x).trans h⟩)
/-! spec.FlushNow -/
noncomputable def F106 (n : Nat) (a0 : List Int) : Option (List Int × List (ByteArray × (Int × (Int × (Bool × (Int × (Int × (Int × (Int × (Int × Int))))))))) × Unit) :=
  (F98 n a0).bind fun r1 =>
  (F9 n a0).bind fun r2 =>
  if (!r2.1) = true then
    some (r1.1, ([] : List (ByteArray × (Int × (Int × (Bool × (Int × (Int × (Int × (Int × (Int × Int)))))))))), ())
  else
    if (decide (0 ≤ 0)) = true then
    if (decide (0 < (a0.length : Int))) = true then
    if (decide (2 ≠ 0)) = true then
    (F140 n a0 ((rdOf (0 : Int) a0 (0 : Int)).tmod (2 : Int))).bind fun r3 =>
    (F141 n r1.1 ((rdOf (0 : Int) a0 (0 : Int)).tmod (2 : Int))).bind fun r4 =>
    if (decide (0 ≤ 0)) = true then
    if (decide (0 < (a0.length : Int))) = true then
    (F142 n (wrap64 ((rdOf (0 : Int) a0 (0 : Int)) + 1))).bind fun r5 =>
    if (decide (0 ≤ 0)) = true then
    if (decide (0 < (r4.1.length : Int))) = true then
    some ((r4.1.set (0 : Int).toNat r5.1), r3.1, ())
    else none
    else none
    else none
    else none
    else none
    else none
    else none
noncomputable def c106 (n : Nat) : Con := ⟨[.one (.sl (.imm false) 3 (.int .i64))], [], [.one (.sl .own 3 (.int .i64)), .one (.sl .own 72 (.pair .str (.pair (.int .i64) (.pair (.int .i64) (.pair .bool (.pair (.int .i64) (.pair (.int .i64) (.pair (.int .i64) (.pair (.int .i64) (.pair (.int .i64) (.int .i64)))))))))))], [], fun (x : List Int × Unit) => F106 n x.1⟩
noncomputable def G106 (n : Nat) : Gam := [((9, []), c9 n), ((98, []), c98 n), ((140, []), c140 n), ((141, []), c141 n), ((142, []), c142 n)]
theorem e106 (n : Nat) (x : List Int × Unit) : evBody tab (G106 n) n (c106 n) Tryd.f106 x = F106 n x.1 := by kernel_rfl
theorem g106 (W : World) (n : Nat) : Good Tryd.prog W 106 (c106 n) := body_good follows tabOk (GamOk.cons (g9 W n) (GamOk.cons (g98 W n) (GamOk.cons (g140 W n) (GamOk.cons (g141 W n) (GamOk.cons (g142 W n) GamOk.nil))))) (f := 106) (fn := Tryd.f106) (c := bodyOf Tryd.f106) (by kernel_rfl) (by kernel_rfl) (by kernel_rfl) (by kernel_rfl) (by kernel_rfl) (by kernel_rfl) (by kernel_rfl) (fun x r h => ⟨n, (e106 n x).trans h⟩)
/-! spec.KeysIn -/
noncomputable def st107_0 (n : Nat) (g0 : (List Int) → Int → (List ByteArray) → Option (List ByteArray × Unit)) (l0 : List Int) (i1 : Int) (l2 : List ByteArray) : Option (List ByteArray × Unit) :=
  if (decide (i1 < 4)) = true then
    (F9 n l0).bind fun r1 =>
    if r1.1 = true then
      (F38 n i1).bind fun r2 =>
      if (decide (0 ≤ r2.1)) = true then
      if (decide (r2.1 < (l0.length : Int))) = true then
      (F126 n (rdOf (0 : Int) l0 r2.1)).bind fun r3 =>
      if (decide (r3.2.1 ≠ 0)) = true then
        if (decide ((l2.length + ([r3.1] : List ByteArray).length) * 16 ≤ 140737488355328)) = true then
        g0 l0 (wrap64 (i1 + 1)) (l2 ++ ([r3.1] : List ByteArray))
        else none
      else
        g0 l0 (wrap64 (i1 + 1)) l2
      else none
      else none
    else
      some (l2, ())
  else
    some (l2, ())
noncomputable def lp107_0 (n : Nat) : Nat → (List Int) → Int → (List ByteArray) → Option (List ByteArray × Unit)
  | 0 => fun _ _ _ => none
  | k + 1 => st107_0 n (lp107_0 n k)
noncomputable def st107 (n : Nat) (h0 : (List Int) → Int → (List ByteArray) → Option (List ByteArray × Unit)) (a0 : List Int) : Option (List ByteArray × Unit) :=
  h0 a0 (0 : Int) ([] : List ByteArray)
noncomputable def F107 (n : Nat) (a0 : List Int) : Option (List ByteArray × Unit) := st107 n (lp107_0 n n) a0
noncomputable def c107 (n : Nat) : Con := ⟨[.one (.sl (.imm true) 3 (.int .i64))], [], [.one (.sl .own 9 .str)], [], fun (x : List Int × Unit) => F107 n x.1⟩
noncomputable def G107 (n : Nat) : Gam := [((9, []), c9 n), ((38, []), c38 n), ((126, []), c126 n)]
noncomputable def S107_0 (l0 : List Int) (i1 : Int) (l2 : List ByteArray) : St := ⟨[.sl (.imm true) 3 (.int .i64) l0, .dead, .dead, .sr 3 0 none 0 0 none, .int .i64 i1] ++ List.replicate 27 .dead, [Ob.none, Ob.none, Ob.none, ⟨false, [.sl .own 9 .str l2], 0, 0⟩] ++ List.replicate 28 Ob.none⟩
noncomputable def ga107_0 (n : Nat) (ks : List Nat) (k : Nat) (st : St) : Option (List ByteArray × Unit) := goAt tab (G107 n) n (bodyOf Tryd.f107) (lvOf Tryd.f107) (lvOf Tryd.f107).ret [1, 1, 0, 1, 0] ks k st (evBody.endK tab (c107 n) Tryd.f107)
theorem el107_0 (n : Nat) : ∀ (k : Nat), ∀ (l0 : List Int) (i1 : Int) (l2 : List ByteArray), ga107_0 n [] k (S107_0 l0 i1 l2) = lp107_0 n k l0 i1 l2 := by
  intro k
  induction k with
  | zero => intros; rfl
  | succ k ih =>
    intro l0 i1 l2
    have h : ga107_0 n [] (k + 1) (S107_0 l0 i1 l2) = st107_0 n (fun w0 w1 w2 => ga107_0 n [] k (S107_0 w0 w1 w2)) l0 i1 l2 := by kernel_rfl
    rw [h]
    have e : (fun w0 w1 w2 => ga107_0 n [] k (S107_0 w0 w1 w2)) = lp107_0 n k := by
      funext w0 w1 w2; exact ih w0 w1 w2
    rw [e]
    rfl
theorem e107 (n : Nat) (x : List Int × Unit) : evBody tab (G107 n) n (c107 n) Tryd.f107 x = F107 n x.1 := by
  have h : evBody tab (G107 n) n (c107 n) Tryd.f107 x = st107 n (fun w0 w1 w2 => ga107_0 n [] n (S107_0 w0 w1 w2)) x.1 := by kernel_rfl
  rw [h]
  have e0 : (fun w0 w1 w2 => ga107_0 n [] n (S107_0 w0 w1 w2)) = lp107_0 n n := by
    funext w0 w1 w2; exact el107_0 n n w0 w1 w2
  rw [e0]
  rfl
theorem g107 (W : World) (n : Nat) : Good Tryd.prog W 107 (c107 n) := body_good follows tabOk (GamOk.cons (g9 W n) (GamOk.cons (g38 W n) (GamOk.cons (g126 W n) GamOk.nil))) (f := 107) (fn := Tryd.f107) (c := bodyOf Tryd.f107) (by kernel_rfl) (by kernel_rfl) (by kernel_rfl) (by kernel_rfl) (by kernel_rfl) (by kernel_rfl) (by kernel_rfl) (fun x r h => ⟨n, (e107 n x).trans h⟩)
end Go.Eva
end
section
/- The functions, as their texts evaluate. -/
set_option linter.unusedVariables false
set_option maxRecDepth 100000
namespace Go.Eva
open Go.Proofs
open Go.RowKit (wrap64)
/-! spec.FindKey -/
noncomputable def F143 (n : Nat) (a0 : List Int) (a1 : ByteArray) : Option (Int × Int × Unit) :=
  (F9 n a0).bind fun r1 =>
  if (!r1.1) = true then
    some ((-1), 0, ())
  else
    (F46 n a1).bind fun r2 =>
    if (!r2.1) = true then
      some ((-1), 0, ())
    else
      (F158 n a0 a1).bind fun r3 =>
      some (r3.1, r3.2.1, ())
noncomputable def c143 (n : Nat) : Con := ⟨[.one (.sl (.imm true) 3 (.int .i64)), .one (.str)], [], [.one (.int .i64), .one (.int .i64)], [], fun (x : List Int × ByteArray × Unit) => F143 n x.1 x.2.1⟩
noncomputable def G143 (n : Nat) : Gam := [((9, []), c9 n), ((46, []), c46 n), ((158, []), c158 n)]
theorem e143 (n : Nat) (x : List Int × ByteArray × Unit) : evBody tab (G143 n) n (c143 n) Tryd.f143 x = F143 n x.1 x.2.1 := by kernel_rfl
theorem g143 (W : World) (n : Nat) : Good Tryd.prog W 143 (c143 n) := body_good follows tabOk (GamOk.cons (g9 W n) (GamOk.cons (g46 W n) (GamOk.cons (g158 W n) GamOk.nil))) (f := 143) (fn := Tryd.f143) (c := bodyOf Tryd.f143) (by kernel_rfl) (by kernel_rfl) (by kernel_rfl) (by kernel_rfl) (by kernel_rfl) (by kernel_rfl) (by kernel_rfl) (fun x r h => ⟨n, (e143 n x).trans h⟩)
/-! spec.l3Cell -/
noncomputable def F157 (n : Nat) (a0 : Int) (a1 : Int) (a2 : Int) : Option (Int × Unit) :=
  (F167 n a0 a1).bind fun r1 =>
  if (decide (r1.1 < 0)) = true then
    some ((-1), ())
  else
    some ((wrap64 (r1.1 + a2)), ())
noncomputable def c157 (n : Nat) : Con := ⟨[.one (.int .i64), .one (.int .i64), .one (.int .i64)], [], [.one (.int .i64)], [], fun (x : Int × Int × Int × Unit) => F157 n x.1 x.2.1 x.2.2.1⟩
noncomputable def G157 (n : Nat) : Gam := [((167, []), c167 n)]
theorem e157 (n : Nat) (x : Int × Int × Int × Unit) : evBody tab (G157 n) n (c157 n) Tryd.f157 x = F157 n x.1 x.2.1 x.2.2.1 := by kernel_rfl
theorem g157 (W : World) (n : Nat) : Good Tryd.prog W 157 (c157 n) := body_good follows tabOk (GamOk.cons (g167 W n) GamOk.nil) (f := 157) (fn := Tryd.f157) (c := bodyOf Tryd.f157) (by kernel_rfl) (by kernel_rfl) (by kernel_rfl) (by kernel_rfl) (by kernel_rfl) (by kernel_rfl) (by kernel_rfl) (fun x r h => ⟨n, (e157 n x).trans h⟩)
/-! spec.GaugeCell -/
noncomputable def F132 (n : Nat) (a0 : Int) (a1 : Int) : Option (Int × Unit) :=
  (F157 n a0 a1 (3 : Int)).bind fun r1 =>
  some (r1.1, ())
noncomputable def c132 (n : Nat) : Con := ⟨[.one (.int .i64), .one (.int .i64)], [], [.one (.int .i64)], [], fun (x : Int × Int × Unit) => F132 n x.1 x.2.1⟩
noncomputable def G132 (n : Nat) : Gam := [((157, []), c157 n)]
theorem e132 (n : Nat) (x : Int × Int × Unit) : evBody tab (G132 n) n (c132 n) Tryd.f132 x = F132 n x.1 x.2.1 := by kernel_rfl
theorem g132 (W : World) (n : Nat) : Good Tryd.prog W 132 (c132 n) := body_good follows tabOk (GamOk.cons (g157 W n) GamOk.nil) (f := 132) (fn := Tryd.f132) (c := bodyOf Tryd.f132) (by kernel_rfl) (by kernel_rfl) (by kernel_rfl) (by kernel_rfl) (by kernel_rfl) (by kernel_rfl) (by kernel_rfl) (fun x r h => ⟨n, (e132 n x).trans h⟩)
/-! spec.PackGauge -/
noncomputable def F134 (n : Nat) (a0 : Int) (a1 : Int) : Option (Int × Unit) :=
  (F36 n a0 (1 : Int) (65535 : Int)).bind fun r1 =>
  if (!r1.1) = true then
    some (0, ())
  else
    (F36 n a1 (0 : Int) (65535 : Int)).bind fun r2 =>
    if (!r2.1) = true then
      some (0, ())
    else
      some ((wrap64 ((wrap64 (a0 * 65536)) + a1)), ())
noncomputable def c134 (n : Nat) : Con := ⟨[.one (.int .i64), .one (.int .i64)], [], [.one (.int .i64)], [], fun (x : Int × Int × Unit) => F134 n x.1 x.2.1⟩
noncomputable def G134 (n : Nat) : Gam := [((36, []), c36 n)]
theorem e134 (n : Nat) (x : Int × Int × Unit) : evBody tab (G134 n) n (c134 n) Tryd.f134 x = F134 n x.1 x.2.1 := by kernel_rfl
theorem g134 (W : World) (n : Nat) : Good Tryd.prog W 134 (c134 n) := body_good follows tabOk (GamOk.cons (g36 W n) GamOk.nil) (f := 134) (fn := Tryd.f134) (c := bodyOf Tryd.f134) (by kernel_rfl) (by kernel_rfl) (by kernel_rfl) (by kernel_rfl) (by kernel_rfl) (by kernel_rfl) (by kernel_rfl) (fun x r h => ⟨n, (e134 n x).trans h⟩)
/-! spec.RingCell -/
noncomputable def F135 (n : Nat) (a0 : Int) (a1 : Int) (a2 : Int) : Option (Int × Unit) :=
  (F36 n a2 (0 : Int) (2 : Int)).bind fun r1 =>
  if (!r1.1) = true then
    some ((-1), ())
  else
    (F157 n a0 a1 (wrap64 (5 + a2))).bind fun r2 =>
    some (r2.1, ())
noncomputable def c135 (n : Nat) : Con := ⟨[.one (.int .i64), .one (.int .i64), .one (.int .i64)], [], [.one (.int .i64)], [], fun (x : Int × Int × Int × Unit) => F135 n x.1 x.2.1 x.2.2.1⟩
noncomputable def G135 (n : Nat) : Gam := [((36, []), c36 n), ((157, []), c157 n)]
theorem e135 (n : Nat) (x : Int × Int × Int × Unit) : evBody tab (G135 n) n (c135 n) Tryd.f135 x = F135 n x.1 x.2.1 x.2.2.1 := by kernel_rfl
theorem g135 (W : World) (n : Nat) : Good Tryd.prog W 135 (c135 n) := body_good follows tabOk (GamOk.cons (g36 W n) (GamOk.cons (g157 W n) GamOk.nil)) (f := 135) (fn := Tryd.f135) (c := bodyOf Tryd.f135) (by kernel_rfl) (by kernel_rfl) (by kernel_rfl) (by kernel_rfl) (by kernel_rfl) (by kernel_rfl) (by kernel_rfl) (fun x r h => ⟨n, (e135 n x).trans h⟩)
/-! spec.StripeCell -/
noncomputable def F154 (n : Nat) (a0 : Int) (a1 : Int) (a2 : Int) : Option (Int × Unit) :=
  (F36 n a2 (0 : Int) (1 : Int)).bind fun r1 =>
  if (!r1.1) = true then
    some ((-1), ())
  else
    (F157 n a0 a1 a2).bind fun r2 =>
    some (r2.1, ())
noncomputable def c154 (n : Nat) : Con := ⟨[.one (.int .i64), .one (.int .i64), .one (.int .i64)], [], [.one (.int .i64)], [], fun (x : Int × Int × Int × Unit) => F154 n x.1 x.2.1 x.2.2.1⟩
noncomputable def G154 (n : Nat) : Gam := [((36, []), c36 n), ((157, []), c157 n)]
theorem e154 (n : Nat) (x : Int × Int × Int × Unit) : evBody tab (G154 n) n (c154 n) Tryd.f154 x = F154 n x.1 x.2.1 x.2.2.1 := by kernel_rfl
theorem g154 (W : World) (n : Nat) : Good Tryd.prog W 154 (c154 n) := body_good follows tabOk (GamOk.cons (g36 W n) (GamOk.cons (g157 W n) GamOk.nil)) (f := 154) (fn := Tryd.f154) (c := bodyOf Tryd.f154) (by kernel_rfl) (by kernel_rfl) (by kernel_rfl) (by kernel_rfl) (by kernel_rfl) (by kernel_rfl) (by kernel_rfl) (fun x r h => ⟨n, (e154 n x).trans h⟩)
/-! spec.StampCell -/
noncomputable def F155 (n : Nat) (a0 : Int) (a1 : Int) : Option (Int × Unit) :=
  (F157 n a0 a1 (2 : Int)).bind fun r1 =>
  some (r1.1, ())
noncomputable def c155 (n : Nat) : Con := ⟨[.one (.int .i64), .one (.int .i64)], [], [.one (.int .i64)], [], fun (x : Int × Int × Unit) => F155 n x.1 x.2.1⟩
noncomputable def G155 (n : Nat) : Gam := [((157, []), c157 n)]
theorem e155 (n : Nat) (x : Int × Int × Unit) : evBody tab (G155 n) n (c155 n) Tryd.f155 x = F155 n x.1 x.2.1 := by kernel_rfl
theorem g155 (W : World) (n : Nat) : Good Tryd.prog W 155 (c155 n) := body_good follows tabOk (GamOk.cons (g157 W n) GamOk.nil) (f := 155) (fn := Tryd.f155) (c := bodyOf Tryd.f155) (by kernel_rfl) (by kernel_rfl) (by kernel_rfl) (by kernel_rfl) (by kernel_rfl) (by kernel_rfl) (by kernel_rfl) (fun x r h => ⟨n, (e155 n x).trans h⟩)
/-! spec.TicketCell -/
noncomputable def F156 (n : Nat) (a0 : Int) (a1 : Int) : Option (Int × Unit) :=
  (F157 n a0 a1 (4 : Int)).bind fun r1 =>
  some (r1.1, ())
noncomputable def c156 (n : Nat) : Con := ⟨[.one (.int .i64), .one (.int .i64)], [], [.one (.int .i64)], [], fun (x : Int × Int × Unit) => F156 n x.1 x.2.1⟩
noncomputable def G156 (n : Nat) : Gam := [((157, []), c157 n)]
theorem e156 (n : Nat) (x : Int × Int × Unit) : evBody tab (G156 n) n (c156 n) Tryd.f156 x = F156 n x.1 x.2.1 := by kernel_rfl
theorem g156 (W : World) (n : Nat) : Good Tryd.prog W 156 (c156 n) := body_good follows tabOk (GamOk.cons (g157 W n) GamOk.nil) (f := 156) (fn := Tryd.f156) (c := bodyOf Tryd.f156) (by kernel_rfl) (by kernel_rfl) (by kernel_rfl) (by kernel_rfl) (by kernel_rfl) (by kernel_rfl) (by kernel_rfl) (fun x r h => ⟨n, (e156 n x).trans h⟩)
/-! spec.l9Put -/
noncomputable def F144 (n : Nat) (a0 : List Int) (a1 : Int) (a2 : Int) (a3 : Int) (a4 : Int) (a5 : Int) : Option (List Int × Bool × Unit) :=
  if (decide (a3 = 1)) = true then
    if (decide (2 ≠ 0)) = true then
    (F154 n a1 a2 (a4.tmod (2 : Int))).bind fun r1 =>
    if (decide (0 ≤ r1.1)) = true then
    if (decide (r1.1 < (a0.length : Int))) = true then
    (F142 n (wrap64 ((rdOf (0 : Int) a0 r1.1) + a5))).bind fun r2 =>
    if (decide (0 ≤ r1.1)) = true then
    if (decide (r1.1 < (a0.length : Int))) = true then
    some ((a0.set r1.1.toNat r2.1), false, ())
    else none
    else none
    else none
    else none
    else none
  else
    if (decide (a3 = 2)) = true then
      (F155 n a1 a2).bind fun r3 =>
      if (decide (0 ≤ r3.1)) = true then
      if (decide (r3.1 < (a0.length : Int))) = true then
      (F142 n (wrap64 ((rdOf (0 : Int) a0 r3.1) + 1))).bind fun r4 =>
      if (decide (0 ≤ r3.1)) = true then
      if (decide (r3.1 < (a0.length : Int))) = true then
      (F132 n a1 a2).bind fun r5 =>
      if (decide (0 ≤ r5.1)) = true then
      if (decide (r5.1 < ((a0.set r3.1.toNat r4.1).length : Int))) = true then
      (F133 n (rdOf (0 : Int) (a0.set r3.1.toNat r4.1) r5.1)).bind fun r6 =>
      if (decide (0 ≤ r3.1)) = true then
      if (decide (r3.1 < ((a0.set r3.1.toNat r4.1).length : Int))) = true then
      if (decide (r6.1 ≤ (rdOf (0 : Int) (a0.set r3.1.toNat r4.1) r3.1))) = true then
        (F132 n a1 a2).bind fun r7 =>
        if (decide (0 ≤ r3.1)) = true then
        if (decide (r3.1 < ((a0.set r3.1.toNat r4.1).length : Int))) = true then
        (F134 n (rdOf (0 : Int) (a0.set r3.1.toNat r4.1) r3.1) a5).bind fun r8 =>
        if (decide (0 ≤ r7.1)) = true then
        if (decide (r7.1 < ((a0.set r3.1.toNat r4.1).length : Int))) = true then
        some (((a0.set r3.1.toNat r4.1).set r7.1.toNat r8.1), false, ())
        else none
        else none
        else none
        else none
      else
        some ((a0.set r3.1.toNat r4.1), false, ())
      else none
      else none
      else none
      else none
      else none
      else none
      else none
      else none
    else
      (F156 n a1 a2).bind fun r9 =>
      if (decide (0 ≤ r9.1)) = true then
      if (decide (r9.1 < (a0.length : Int))) = true then
      if (decide (0 ≤ r9.1)) = true then
      if (decide (r9.1 < (a0.length : Int))) = true then
      (F142 n (wrap64 ((rdOf (0 : Int) a0 r9.1) + 1))).bind fun r10 =>
      if (decide (0 ≤ r9.1)) = true then
      if (decide (r9.1 < (a0.length : Int))) = true then
      if (decide ((rdOf (0 : Int) a0 r9.1) ≥ 3)) = true then
        some ((a0.set r9.1.toNat r10.1), true, ())
      else
        (F135 n a1 a2 (rdOf (0 : Int) a0 r9.1)).bind fun r11 =>
        if (decide (0 ≤ r11.1)) = true then
        if (decide (r11.1 < ((a0.set r9.1.toNat r10.1).length : Int))) = true then
        some (((a0.set r9.1.toNat r10.1).set r11.1.toNat (wrap64 (a5 + 1))), false, ())
        else none
        else none
      else none
      else none
      else none
      else none
      else none
      else none
noncomputable def c144 (n : Nat) : Con := ⟨[.one (.sl .own 3 (.int .i64)), .one (.int .i64), .one (.int .i64), .one (.int .i64), .one (.int .i64), .one (.int .i64)], [], [.one (.sl .own 3 (.int .i64)), .one (.bool)], [], fun (x : List Int × Int × Int × Int × Int × Int × Unit) => F144 n x.1 x.2.1 x.2.2.1 x.2.2.2.1 x.2.2.2.2.1 x.2.2.2.2.2.1⟩
noncomputable def G144 (n : Nat) : Gam := [((132, []), c132 n), ((133, []), c133 n), ((134, []), c134 n), ((135, []), c135 n), ((142, []), c142 n), ((154, []), c154 n), ((155, []), c155 n), ((156, []), c156 n)]
theorem e144 (n : Nat) (x : List Int × Int × Int × Int × Int × Int × Unit) : evBody tab (G144 n) n (c144 n) Tryd.f144 x = F144 n x.1 x.2.1 x.2.2.1 x.2.2.2.1 x.2.2.2.2.1 x.2.2.2.2.2.1 := by kernel_rfl
theorem g144 (W : World) (n : Nat) : Good Tryd.prog W 144 (c144 n) := body_good follows tabOk (GamOk.cons (g132 W n) (GamOk.cons (g133 W n) (GamOk.cons (g134 W n) (GamOk.cons (g135 W n) (GamOk.cons (g142 W n) (GamOk.cons (g154 W n) (GamOk.cons (g155 W n) (GamOk.cons (g156 W n) GamOk.nil)))))))) (f := 144) (fn := Tryd.f144) (c := bodyOf Tryd.f144) (by kernel_rfl) (by kernel_rfl) (by kernel_rfl) (by kernel_rfl) (by kernel_rfl) (by kernel_rfl) (by kernel_rfl) (fun x r h => ⟨n, (e144 n x).trans h⟩)
/-! spec.RecordNow -/
noncomputable def F108 (n : Nat) (a0 : List Int) (a1 : Int) (a2 : ByteArray) (a3 : Int) : Option (List Int × Int × Unit) :=
  (F98 n a0).bind fun r1 =>
  (F9 n a0).bind fun r2 =>
  if (!r2.1) = true then
    some (r1.1, 1, ())
  else
    (F36 n a1 (0 : Int) (2 : Int)).bind fun r3 =>
    if (!r3.1) = true then
      some (r1.1, 1, ())
    else
      (F46 n a2).bind fun r4 =>
      if (!r4.1) = true then
        some (r1.1, 1, ())
      else
        (F36 n a3 (0 : Int) (65535 : Int)).bind fun r5 =>
        if (!r5.1) = true then
          some (r1.1, 1, ())
        else
          (F143 n a0 a2).bind fun r6 =>
          if (decide (r6.1 < 0)) = true then
            some (r1.1, 2, ())
          else
            if (decide (0 ≤ 0)) = true then
            if (decide (0 < (a0.length : Int))) = true then
            if (decide (2 ≠ 0)) = true then
            (F144 n r1.1 ((rdOf (0 : Int) a0 (0 : Int)).tmod (2 : Int)) r6.1 r6.2.1 a1 a3).bind fun r7 =>
            if r7.2.1 = true then
              some (r7.1, 5, ())
            else
              some (r7.1, 0, ())
            else none
            else none
            else none
noncomputable def c108 (n : Nat) : Con := ⟨[.one (.sl (.imm true) 3 (.int .i64)), .one (.int .i64), .one (.str), .one (.int .i64)], [], [.one (.sl .own 3 (.int .i64)), .one (.int .i64)], [], fun (x : List Int × Int × ByteArray × Int × Unit) => F108 n x.1 x.2.1 x.2.2.1 x.2.2.2.1⟩
noncomputable def G108 (n : Nat) : Gam := [((9, []), c9 n), ((36, []), c36 n), ((46, []), c46 n), ((98, []), c98 n), ((143, []), c143 n), ((144, []), c144 n)]
theorem e108 (n : Nat) (x : List Int × Int × ByteArray × Int × Unit) : evBody tab (G108 n) n (c108 n) Tryd.f108 x = F108 n x.1 x.2.1 x.2.2.1 x.2.2.2.1 := by kernel_rfl
theorem g108 (W : World) (n : Nat) : Good Tryd.prog W 108 (c108 n) := body_good follows tabOk (GamOk.cons (g9 W n) (GamOk.cons (g36 W n) (GamOk.cons (g46 W n) (GamOk.cons (g98 W n) (GamOk.cons (g143 W n) (GamOk.cons (g144 W n) GamOk.nil)))))) (f := 108) (fn := Tryd.f108) (c := bodyOf Tryd.f108) (by kernel_rfl) (by kernel_rfl) (by kernel_rfl) (by kernel_rfl) (by kernel_rfl) (by kernel_rfl) (by kernel_rfl) (fun x r h => ⟨n, (e108 n x).trans h⟩)
/-! spec.l1PickInt -/
noncomputable def F65 (n : Nat) (a1 : List Int) (a2 : List Int) (a3 : Int) (a4 : Int) : Option (Int × List Int × Int × Int × Unit) :=
  (F39 n (a1.length : Int) a2 a3 a4).bind fun r1 =>
  if (decide (0 ≤ r1.1)) = true then
  if (decide (r1.1 < (a1.length : Int))) = true then
  some ((rdOf (0 : Int) a1 r1.1), r1.2.1, r1.2.2.1, r1.2.2.2.1, ())
  else none
  else none
noncomputable def c65 (n : Nat) : Con := ⟨[.one (.ptr 0 0), .one (.sl (.imm true) 3 (.int .i64))], [[(.sl (.imm false) 5 (.int .u8)), (.int .i64), (.int .i64)]], [.one (.int .i64)], [[(.sl (.imm false) 5 (.int .u8)), (.int .i64), (.int .i64)]], fun (x : Unit × List Int × List Int × Int × Int × Unit) => F65 n x.2.1 x.2.2.1 x.2.2.2.1 x.2.2.2.2.1⟩
noncomputable def G65 (n : Nat) : Gam := [((39, []), c39 n)]
theorem e65 (n : Nat) (x : Unit × List Int × List Int × Int × Int × Unit) : evBody tab (G65 n) n (c65 n) Tryd.f65 x = F65 n x.2.1 x.2.2.1 x.2.2.2.1 x.2.2.2.2.1 := by kernel_rfl
theorem g65 (W : World) (n : Nat) : Good Tryd.prog W 65 (c65 n) := body_good follows tabOk (GamOk.cons (g39 W n) GamOk.nil) (f := 65) (fn := Tryd.f65) (c := bodyOf Tryd.f65) (by kernel_rfl) (by kernel_rfl) (by kernel_rfl) (by kernel_rfl) (by kernel_rfl) (by kernel_rfl) (by kernel_rfl) (fun x r h => ⟨n, (e65 n x).trans h⟩)
/-! spec.l5Val -/
noncomputable def F109 (n : Nat) (a1 : List Int) (a2 : Int) (a3 : Int) : Option (Int × List Int × Int × Int × Unit) :=
  (F39 n (60000 : Int) a1 a2 a3).bind fun r1 =>
  (F39 n (100 : Int) r1.2.1 r1.2.2.1 r1.2.2.2.1).bind fun r2 =>
  (F65 n ([0, 1, 5, 65535, r1.1, r2.1] : List Int) r2.2.1 r2.2.2.1 r2.2.2.2.1).bind fun r3 =>
  some (r3.1, r3.2.1, r3.2.2.1, r3.2.2.2.1, ())
noncomputable def c109 (n : Nat) : Con := ⟨[.one (.ptr 0 0)], [[(.sl (.imm false) 5 (.int .u8)), (.int .i64), (.int .i64)]], [.one (.int .i64)], [[(.sl (.imm false) 5 (.int .u8)), (.int .i64), (.int .i64)]], fun (x : Unit × List Int × Int × Int × Unit) => F109 n x.2.1 x.2.2.1 x.2.2.2.1⟩
noncomputable def G109 (n : Nat) : Gam := [((39, []), c39 n), ((65, []), c65 n)]
theorem e109 (n : Nat) (x : Unit × List Int × Int × Int × Unit) : evBody tab (G109 n) n (c109 n) Tryd.f109 x = F109 n x.2.1 x.2.2.1 x.2.2.2.1 := by kernel_rfl
theorem g109 (W : World) (n : Nat) : Good Tryd.prog W 109 (c109 n) := body_good follows tabOk (GamOk.cons (g39 W n) (GamOk.cons (g65 W n) GamOk.nil)) (f := 109) (fn := Tryd.f109) (c := bodyOf Tryd.f109) (by kernel_rfl) (by kernel_rfl) (by kernel_rfl) (by kernel_rfl) (by kernel_rfl) (by kernel_rfl) (by kernel_rfl) (fun x r h => ⟨n, (e109 n x).trans h⟩)
/-! spec.l1Once -/
noncomputable def F51 (n : Nat) (a1 : Int) (a2 : List Int) (a3 : Int) (a4 : Int) : Option (Bool × List Int × Int × Int × Unit) :=
  (F39 n a1 a2 a3 a4).bind fun r1 =>
  some (decide (r1.1 = 0), r1.2.1, r1.2.2.1, r1.2.2.2.1, ())
noncomputable def c51 (n : Nat) : Con := ⟨[.one (.ptr 0 0), .one (.int .i64)], [[(.sl (.imm false) 5 (.int .u8)), (.int .i64), (.int .i64)]], [.one (.bool)], [[(.sl (.imm false) 5 (.int .u8)), (.int .i64), (.int .i64)]], fun (x : Unit × Int × List Int × Int × Int × Unit) => F51 n x.2.1 x.2.2.1 x.2.2.2.1 x.2.2.2.2.1⟩
noncomputable def G51 (n : Nat) : Gam := [((39, []), c39 n)]
theorem e51 (n : Nat) (x : Unit × Int × List Int × Int × Int × Unit) : evBody tab (G51 n) n (c51 n) Tryd.f51 x = F51 n x.2.1 x.2.2.1 x.2.2.2.1 x.2.2.2.2.1 := by kernel_rfl
theorem g51 (W : World) (n : Nat) : Good Tryd.prog W 51 (c51 n) := body_good follows tabOk (GamOk.cons (g39 W n) GamOk.nil) (f := 51) (fn := Tryd.f51) (c := bodyOf Tryd.f51) (by kernel_rfl) (by kernel_rfl) (by kernel_rfl) (by kernel_rfl) (by kernel_rfl) (by kernel_rfl) (by kernel_rfl) (fun x r h => ⟨n, (e51 n x).trans h⟩)
/-! spec.l8Arena -/
noncomputable def st64_0 (n : Nat) (g0 : Int → (List Int) → (List Int) → Int → Int → Option (List Int × List Int × Int × Int × Unit)) (i0 : Int) (l1 : List Int) (l2 : List Int) (i3 : Int) (i4 : Int) : Option (List Int × List Int × Int × Int × Unit) :=
  if (decide (i0 > 0)) = true then
    (F51 n (8 : Int) l2 i3 i4).bind fun r3 =>
    if r3.1 = true then
      (F106 n l1).bind fun r4 =>
      (F107 n r4.1).bind fun r5 =>
      if (decide ((r5.1.length : Int) > 0)) = true then
        (F39 n (3 : Int) r3.2.1 r3.2.2.1 r3.2.2.2.1).bind fun r6 =>
        (F39 n (r5.1.length : Int) r6.2.1 r6.2.2.1 r6.2.2.2.1).bind fun r7 =>
        if (decide (0 ≤ r7.1)) = true then
        if (decide (r7.1 < (r5.1.length : Int))) = true then
        (F109 n r7.2.1 r7.2.2.1 r7.2.2.2.1).bind fun r8 =>
        (F108 n r4.1 r6.1 (rdOf (⟨#[]⟩ : ByteArray) r5.1 r7.1) r8.1).bind fun r9 =>
        g0 (wrap64 (i0 - 1)) r9.1 r8.2.1 r8.2.2.1 r8.2.2.2.1
        else none
        else none
      else
        g0 (wrap64 (i0 - 1)) r4.1 r3.2.1 r3.2.2.1 r3.2.2.2.1
    else
      (F107 n l1).bind fun r10 =>
      if (decide ((r10.1.length : Int) > 0)) = true then
        (F39 n (3 : Int) r3.2.1 r3.2.2.1 r3.2.2.2.1).bind fun r11 =>
        (F39 n (r10.1.length : Int) r11.2.1 r11.2.2.1 r11.2.2.2.1).bind fun r12 =>
        if (decide (0 ≤ r12.1)) = true then
        if (decide (r12.1 < (r10.1.length : Int))) = true then
        (F109 n r12.2.1 r12.2.2.1 r12.2.2.2.1).bind fun r13 =>
        (F108 n l1 r11.1 (rdOf (⟨#[]⟩ : ByteArray) r10.1 r12.1) r13.1).bind fun r14 =>
        g0 (wrap64 (i0 - 1)) r14.1 r13.2.1 r13.2.2.1 r13.2.2.2.1
        else none
        else none
      else
        g0 (wrap64 (i0 - 1)) l1 r3.2.1 r3.2.2.1 r3.2.2.2.1
  else
    some (l1, l2, i3, i4, ())
noncomputable def lp64_0 (n : Nat) : Nat → Int → (List Int) → (List Int) → Int → Int → Option (List Int × List Int × Int × Int × Unit)
  | 0 => fun _ _ _ _ _ => none
  | k + 1 => st64_0 n (lp64_0 n k)
noncomputable def st64 (n : Nat) (h0 : Int → (List Int) → (List Int) → Int → Int → Option (List Int × List Int × Int × Int × Unit)) (a1 : List Int) (a2 : Int) (a3 : Int) : Option (List Int × List Int × Int × Int × Unit) :=
  (F105 n (5 : Int) a1 a2 a3).bind fun r1 =>
  (F39 n (14 : Int) r1.2.1 r1.2.2.1 r1.2.2.2.1).bind fun r2 =>
  h0 r2.1 r1.1 r2.2.1 r2.2.2.1 r2.2.2.2.1
noncomputable def F64 (n : Nat) (a1 : List Int) (a2 : Int) (a3 : Int) : Option (List Int × List Int × Int × Int × Unit) := st64 n (lp64_0 n n) a1 a2 a3
noncomputable def c64 (n : Nat) : Con := ⟨[.one (.ptr 0 0)], [[(.sl (.imm false) 5 (.int .u8)), (.int .i64), (.int .i64)]], [.one (.sl .own 3 (.int .i64))], [[(.sl (.imm false) 5 (.int .u8)), (.int .i64), (.int .i64)]], fun (x : Unit × List Int × Int × Int × Unit) => F64 n x.2.1 x.2.2.1 x.2.2.2.1⟩
noncomputable def G64 (n : Nat) : Gam := [((39, []), c39 n), ((51, []), c51 n), ((105, []), c105 n), ((106, []), c106 n), ((107, []), c107 n), ((108, []), c108 n), ((109, []), c109 n)]
noncomputable def S64_0 (i0 : Int) (l1 : List Int) (l2 : List Int) (i3 : Int) (i4 : Int) : St := ⟨[.ptr 43 0, .dead, .dead, .sr 3 0 none 0 0 none, .int .i64 i0] ++ List.replicate 38 .dead, [Ob.none, Ob.none, Ob.none, ⟨false, [.sl .own 3 (.int .i64) l1], 0, 0⟩] ++ List.replicate 39 Ob.none ++ [⟨true, [.sl (.imm false) 5 (.int .u8) l2, .int .i64 i3, .int .i64 i4], 0, 0⟩]⟩
noncomputable def ga64_0 (n : Nat) (ks : List Nat) (k : Nat) (st : St) : Option (List Int × List Int × Int × Int × Unit) := goAt tab (G64 n) n (bodyOf Tryd.f64) (lvOf Tryd.f64) (lvOf Tryd.f64).ret [1, 1, 0, 1, 0] ks k st (evBody.endK tab (c64 n) Tryd.f64)
theorem el64_0 (n : Nat) : ∀ (k : Nat), ∀ (i0 : Int) (l1 : List Int) (l2 : List Int) (i3 : Int) (i4 : Int), ga64_0 n [] k (S64_0 i0 l1 l2 i3 i4) = lp64_0 n k i0 l1 l2 i3 i4 := by
  intro k
  induction k with
  | zero => intros; rfl
  | succ k ih =>
    intro i0 l1 l2 i3 i4
    have h : ga64_0 n [] (k + 1) (S64_0 i0 l1 l2 i3 i4) = st64_0 n (fun w0 w1 w2 w3 w4 => ga64_0 n [] k (S64_0 w0 w1 w2 w3 w4)) i0 l1 l2 i3 i4 := by kernel_rfl
    rw [h]
    have e : (fun w0 w1 w2 w3 w4 => ga64_0 n [] k (S64_0 w0 w1 w2 w3 w4)) = lp64_0 n k := by
      funext w0 w1 w2 w3 w4; exact ih w0 w1 w2 w3 w4
    rw [e]
    rfl
theorem e64 (n : Nat) (x : Unit × List Int × Int × Int × Unit) : evBody tab (G64 n) n (c64 n) Tryd.f64 x = F64 n x.2.1 x.2.2.1 x.2.2.2.1 := by
  have h : evBody tab (G64 n) n (c64 n) Tryd.f64 x = st64 n (fun w0 w1 w2 w3 w4 => ga64_0 n [] n (S64_0 w0 w1 w2 w3 w4)) x.2.1 x.2.2.1 x.2.2.2.1 := by kernel_rfl
  rw [h]
  have e0 : (fun w0 w1 w2 w3 w4 => ga64_0 n [] n (S64_0 w0 w1 w2 w3 w4)) = lp64_0 n n := by
    funext w0 w1 w2 w3 w4; exact el64_0 n n w0 w1 w2 w3 w4
  rw [e0]
  rfl
theorem g64 (W : World) (n : Nat) : Good Tryd.prog W 64 (c64 n) := body_good follows tabOk (GamOk.cons (g39 W n) (GamOk.cons (g51 W n) (GamOk.cons (g105 W n) (GamOk.cons (g106 W n) (GamOk.cons (g107 W n) (GamOk.cons (g108 W n) (GamOk.cons (g109 W n) GamOk.nil))))))) (f := 64) (fn := Tryd.f64) (c := bodyOf Tryd.f64) (by kernel_rfl) (by kernel_rfl) (by kernel_rfl) (by kernel_rfl) (by kernel_rfl) (by kernel_rfl) (by kernel_rfl) (fun x r h => ⟨n, (e64 n x).trans h⟩)
/-! spec.l2Cells -/
noncomputable def st66_0 (n : Nat) (g0 : Int → (List Int) → (List Int) → Int → Int → Option (List Int × List Int × Int × Int × Unit)) (i0 : Int) (l1 : List Int) (l2 : List Int) (i3 : Int) (i4 : Int) : Option (List Int × List Int × Int × Int × Unit) :=
  if (decide (i0 > 0)) = true then
    (F39 n (l1.length : Int) l2 i3 i4).bind fun r2 =>
    (F39 n (999 : Int) r2.2.1 r2.2.2.1 r2.2.2.2.1).bind fun r3 =>
    (F65 n ([1, 2, 281474976710655, r3.1] : List Int) r3.2.1 r3.2.2.1 r3.2.2.2.1).bind fun r4 =>
    if (decide (0 ≤ r2.1)) = true then
    if (decide (r2.1 < (l1.length : Int))) = true then
    g0 (wrap64 (i0 - 1)) (l1.set r2.1.toNat r4.1) r4.2.1 r4.2.2.1 r4.2.2.2.1
    else none
    else none
  else
    (F39 n (20 : Int) l2 i3 i4).bind fun r5 =>
    if (decide (r5.1 = 0)) = true then
      if (decide (0 ≤ 0)) = true then
      if (decide (0 ≤ (wrap64 ((l1.length : Int) - 1)))) = true then
      if (decide ((wrap64 ((l1.length : Int) - 1)) ≤ (l1.length : Int))) = true then
      some ((cutL l1 (0 : Int) (wrap64 ((l1.length : Int) - 1))), r5.2.1, r5.2.2.1, r5.2.2.2.1, ())
      else none
      else none
      else none
    else
      if (decide (r5.1 = 1)) = true then
        (F39 n (l1.length : Int) r5.2.1 r5.2.2.1 r5.2.2.2.1).bind fun r6 =>
        (F65 n ([(-1), 281474976710656] : List Int) r6.2.1 r6.2.2.1 r6.2.2.2.1).bind fun r7 =>
        if (decide (0 ≤ r6.1)) = true then
        if (decide (r6.1 < (l1.length : Int))) = true then
        some ((l1.set r6.1.toNat r7.1), r7.2.1, r7.2.2.1, r7.2.2.2.1, ())
        else none
        else none
      else
        some (l1, r5.2.1, r5.2.2.1, r5.2.2.2.1, ())
noncomputable def lp66_0 (n : Nat) : Nat → Int → (List Int) → (List Int) → Int → Int → Option (List Int × List Int × Int × Int × Unit)
  | 0 => fun _ _ _ _ _ => none
  | k + 1 => st66_0 n (lp66_0 n k)
noncomputable def st66 (n : Nat) (h0 : Int → (List Int) → (List Int) → Int → Int → Option (List Int × List Int × Int × Int × Unit)) (a1 : List Int) (a2 : Int) (a3 : Int) : Option (List Int × List Int × Int × Int × Unit) :=
  if (decide (0 ≤ 71)) = true then
  if (decide (71 = 71)) = true then
  if (decide (71 * 8 ≤ 140737488355328)) = true then
  (F39 n (12 : Int) a1 a2 a3).bind fun r1 =>
  h0 r1.1 (List.replicate (71 : Int).toNat (0 : Int)) r1.2.1 r1.2.2.1 r1.2.2.2.1
  else none
  else none
  else none
noncomputable def F66 (n : Nat) (a1 : List Int) (a2 : Int) (a3 : Int) : Option (List Int × List Int × Int × Int × Unit) := st66 n (lp66_0 n n) a1 a2 a3
noncomputable def c66 (n : Nat) : Con := ⟨[.one (.ptr 0 0)], [[(.sl (.imm false) 5 (.int .u8)), (.int .i64), (.int .i64)]], [.one (.sl .own 3 (.int .i64))], [[(.sl (.imm false) 5 (.int .u8)), (.int .i64), (.int .i64)]], fun (x : Unit × List Int × Int × Int × Unit) => F66 n x.2.1 x.2.2.1 x.2.2.2.1⟩
noncomputable def G66 (n : Nat) : Gam := [((39, []), c39 n), ((65, []), c65 n)]
noncomputable def S66_0 (i0 : Int) (l1 : List Int) (l2 : List Int) (i3 : Int) (i4 : Int) : St := ⟨[.ptr 44 0, .dead, .dead, .sr 3 0 none 0 0 none, .int .i64 i0] ++ List.replicate 39 .dead, [Ob.none, Ob.none, Ob.none, ⟨false, [.sl .own 3 (.int .i64) l1], 0, 0⟩] ++ List.replicate 40 Ob.none ++ [⟨true, [.sl (.imm false) 5 (.int .u8) l2, .int .i64 i3, .int .i64 i4], 0, 0⟩]⟩
noncomputable def ga66_0 (n : Nat) (ks : List Nat) (k : Nat) (st : St) : Option (List Int × List Int × Int × Int × Unit) := goAt tab (G66 n) n (bodyOf Tryd.f66) (lvOf Tryd.f66) (lvOf Tryd.f66).ret [1, 1, 0, 1, 0] ks k st (evBody.endK tab (c66 n) Tryd.f66)
theorem el66_0 (n : Nat) : ∀ (k : Nat), ∀ (i0 : Int) (l1 : List Int) (l2 : List Int) (i3 : Int) (i4 : Int), ga66_0 n [] k (S66_0 i0 l1 l2 i3 i4) = lp66_0 n k i0 l1 l2 i3 i4 := by
  intro k
  induction k with
  | zero => intros; rfl
  | succ k ih =>
    intro i0 l1 l2 i3 i4
    have h : ga66_0 n [] (k + 1) (S66_0 i0 l1 l2 i3 i4) = st66_0 n (fun w0 w1 w2 w3 w4 => ga66_0 n [] k (S66_0 w0 w1 w2 w3 w4)) i0 l1 l2 i3 i4 := by kernel_rfl
    rw [h]
    have e : (fun w0 w1 w2 w3 w4 => ga66_0 n [] k (S66_0 w0 w1 w2 w3 w4)) = lp66_0 n k := by
      funext w0 w1 w2 w3 w4; exact ih w0 w1 w2 w3 w4
    rw [e]
    rfl
theorem e66 (n : Nat) (x : Unit × List Int × Int × Int × Unit) : evBody tab (G66 n) n (c66 n) Tryd.f66 x = F66 n x.2.1 x.2.2.1 x.2.2.2.1 := by
  have h : evBody tab (G66 n) n (c66 n) Tryd.f66 x = st66 n (fun w0 w1 w2 w3 w4 => ga66_0 n [] n (S66_0 w0 w1 w2 w3 w4)) x.2.1 x.2.2.1 x.2.2.2.1 := by kernel_rfl
  rw [h]
  have e0 : (fun w0 w1 w2 w3 w4 => ga66_0 n [] n (S66_0 w0 w1 w2 w3 w4)) = lp66_0 n n := by
    funext w0 w1 w2 w3 w4; exact el66_0 n n w0 w1 w2 w3 w4
  rw [e0]
  rfl
theorem g66 (W : World) (n : Nat) : Good Tryd.prog W 66 (c66 n) := body_good follows tabOk (GamOk.cons (g39 W n) (GamOk.cons (g65 W n) GamOk.nil)) (f := 66) (fn := Tryd.f66) (c := bodyOf Tryd.f66) (by kernel_rfl) (by kernel_rfl) (by kernel_rfl) (by kernel_rfl) (by kernel_rfl) (by kernel_rfl) (by kernel_rfl) (fun x r h => ⟨n, (e66 n x).trans h⟩)
/-! spec.l8Any -/
noncomputable def F31 (n : Nat) (a1 : List Int) (a2 : Int) (a3 : Int) : Option (List Int × List Int × Int × Int × Unit) :=
  (F64 n a1 a2 a3).bind fun r1 =>
  (F39 n (14 : Int) r1.2.1 r1.2.2.1 r1.2.2.2.1).bind fun r2 =>
  if (decide (r2.1 = 0)) = true then
    (F39 n (r1.1.length : Int) r2.2.1 r2.2.2.1 r2.2.2.2.1).bind fun r3 =>
    (F65 n ([1, 9, 281474976710655, 65537] : List Int) r3.2.1 r3.2.2.1 r3.2.2.2.1).bind fun r4 =>
    if (decide (0 ≤ r3.1)) = true then
    if (decide (r3.1 < (r1.1.length : Int))) = true then
    some ((r1.1.set r3.1.toNat r4.1), r4.2.1, r4.2.2.1, r4.2.2.2.1, ())
    else none
    else none
  else
    if (decide (r2.1 = 1)) = true then
      (F66 n r2.2.1 r2.2.2.1 r2.2.2.2.1).bind fun r5 =>
      some (r5.1, r5.2.1, r5.2.2.1, r5.2.2.2.1, ())
    else
      if (decide (r2.1 = 2)) = true then
        (F65 n ([1, 5, 281474976710655] : List Int) r2.2.1 r2.2.2.1 r2.2.2.2.1).bind fun r6 =>
        if (decide (0 ≤ 0)) = true then
        if (decide (0 < (r1.1.length : Int))) = true then
        some ((r1.1.set (0 : Int).toNat r6.1), r6.2.1, r6.2.2.1, r6.2.2.2.1, ())
        else none
        else none
      else
        some (r1.1, r2.2.1, r2.2.2.1, r2.2.2.2.1, ())
noncomputable def c31 (n : Nat) : Con := ⟨[.one (.ptr 0 0)], [[(.sl (.imm false) 5 (.int .u8)), (.int .i64), (.int .i64)]], [.one (.sl .own 3 (.int .i64))], [[(.sl (.imm false) 5 (.int .u8)), (.int .i64), (.int .i64)]], fun (x : Unit × List Int × Int × Int × Unit) => F31 n x.2.1 x.2.2.1 x.2.2.2.1⟩
noncomputable def G31 (n : Nat) : Gam := [((39, []), c39 n), ((64, []), c64 n), ((65, []), c65 n), ((66, []), c66 n)]
theorem e31 (n : Nat) (x : Unit × List Int × Int × Int × Unit) : evBody tab (G31 n) n (c31 n) Tryd.f31 x = F31 n x.2.1 x.2.2.1 x.2.2.2.1 := by kernel_rfl
theorem g31 (W : World) (n : Nat) : Good Tryd.prog W 31 (c31 n) := body_good follows tabOk (GamOk.cons (g39 W n) (GamOk.cons (g64 W n) (GamOk.cons (g65 W n) (GamOk.cons (g66 W n) GamOk.nil)))) (f := 31) (fn := Tryd.f31) (c := bodyOf Tryd.f31) (by kernel_rfl) (by kernel_rfl) (by kernel_rfl) (by kernel_rfl) (by kernel_rfl) (by kernel_rfl) (by kernel_rfl) (fun x r h => ⟨n, (e31 n x).trans h⟩)
/-! spec.l1New -/
noncomputable def st32_0 (n : Nat) (g0 : (List Int) → Int → Int → Option (Unit × List Int × Int × Int × Unit)) (l0 : List Int) (i1 : Int) (i2 : Int) : Option (Unit × List Int × Int × Int × Unit) :=
  if (decide (i2 < (l0.length : Int))) = true then
    if (decide (i2 < 4000)) = true then
      if (decide (0 ≤ i2)) = true then
      if (decide (i2 < (l0.length : Int))) = true then
      g0 l0 (andI .i64 (wrap64 ((wrap64 ((wrap64 (i1 * 131)) + (wrap64 ((rdOf (0 : Int) l0 i2))))) + 7)) (1073741823 : Int)) (wrap64 (i2 + 1))
      else none
      else none
    else
      some ((), l0, 0, i1, ())
  else
    some ((), l0, 0, i1, ())
noncomputable def lp32_0 (n : Nat) : Nat → (List Int) → Int → Int → Option (Unit × List Int × Int × Int × Unit)
  | 0 => fun _ _ _ => none
  | k + 1 => st32_0 n (lp32_0 n k)
noncomputable def st32 (n : Nat) (h0 : (List Int) → Int → Int → Option (Unit × List Int × Int × Int × Unit)) (a0 : List Int) : Option (Unit × List Int × Int × Int × Unit) :=
  h0 a0 (wrap64 (10101 + (a0.length : Int))) (0 : Int)
noncomputable def F32 (n : Nat) (a0 : List Int) : Option (Unit × List Int × Int × Int × Unit) := st32 n (lp32_0 n n) a0
noncomputable def c32 (n : Nat) : Con := ⟨[.one (.sl (.imm false) 5 (.int .u8))], [], [.one (.ptr 0 0)], [[(.sl (.imm false) 5 (.int .u8)), (.int .i64), (.int .i64)]], fun (x : List Int × Unit) => F32 n x.1⟩
noncomputable def G32 (n : Nat) : Gam := []
noncomputable def S32_0 (l0 : List Int) (i1 : Int) (i2 : Int) : St := ⟨[.sl (.imm false) 5 (.int .u8) l0, .dead, .dead, .int .i64 i1, .int .i64 i2] ++ List.replicate 27 .dead, List.replicate 32 Ob.none⟩
noncomputable def ga32_0 (n : Nat) (ks : List Nat) (k : Nat) (st : St) : Option (Unit × List Int × Int × Int × Unit) := goAt tab (G32 n) n (bodyOf Tryd.f32) (lvOf Tryd.f32) (lvOf Tryd.f32).ret [1, 1, 0, 1, 0] ks k st (evBody.endK tab (c32 n) Tryd.f32)
theorem el32_0 (n : Nat) : ∀ (k : Nat), ∀ (l0 : List Int) (i1 : Int) (i2 : Int), ga32_0 n [] k (S32_0 l0 i1 i2) = lp32_0 n k l0 i1 i2 := by
  intro k
  induction k with
  | zero => intros; rfl
  | succ k ih =>
    intro l0 i1 i2
    have h : ga32_0 n [] (k + 1) (S32_0 l0 i1 i2) = st32_0 n (fun w0 w1 w2 => ga32_0 n [] k (S32_0 w0 w1 w2)) l0 i1 i2 := by kernel_rfl
    rw [h]
    have e : (fun w0 w1 w2 => ga32_0 n [] k (S32_0 w0 w1 w2)) = lp32_0 n k := by
      funext w0 w1 w2; exact ih w0 w1 w2
    rw [e]
    rfl
theorem e32 (n : Nat) (x : List Int × Unit) : evBody tab (G32 n) n (c32 n) Tryd.f32 x = F32 n x.1 := by
  have h : evBody tab (G32 n) n (c32 n) Tryd.f32 x = st32 n (fun w0 w1 w2 => ga32_0 n [] n (S32_0 w0 w1 w2)) x.1 := by kernel_rfl
  rw [h]
  have e0 : (fun w0 w1 w2 => ga32_0 n [] n (S32_0 w0 w1 w2)) = lp32_0 n n := by
    funext w0 w1 w2; exact el32_0 n n w0 w1 w2
  rw [e0]
  rfl
theorem g32 (W : World) (n : Nat) : Good Tryd.prog W 32 (c32 n) := body_good follows tabOk GamOk.nil (f := 32) (fn := Tryd.f32) (c := bodyOf Tryd.f32) (by kernel_rfl) (by kernel_rfl) (by kernel_rfl) (by kernel_rfl) (by kernel_rfl) (by kernel_rfl) (by kernel_rfl) (fun x r h => ⟨n, (e32 n x).trans h⟩)
/-! spec.DrawUsedCells -/
noncomputable def F7 (n : Nat) (a0 : List Int) : Option (List Int × Unit) :=
  (F32 n a0).bind fun r1 =>
  (F31 n r1.2.1 r1.2.2.1 r1.2.2.2.1).bind fun r2 =>
  some (r2.1, ())
noncomputable def c7 (n : Nat) : Con := ⟨[.one (.sl (.imm false) 5 (.int .u8))], [], [.one (.sl .own 3 (.int .i64))], [], fun (x : List Int × Unit) => F7 n x.1⟩
noncomputable def G7 (n : Nat) : Gam := [((31, []), c31 n), ((32, []), c32 n)]
theorem e7 (n : Nat) (x : List Int × Unit) : evBody tab (G7 n) n (c7 n) Tryd.f7 x = F7 n x.1 := by kernel_rfl
theorem g7 (W : World) (n : Nat) : Good Tryd.prog W 7 (c7 n) := body_good follows tabOk (GamOk.cons (g31 W n) (GamOk.cons (g32 W n) GamOk.nil)) (f := 7) (fn := Tryd.f7) (c := bodyOf Tryd.f7) (by kernel_rfl) (by kernel_rfl) (by kernel_rfl) (by kernel_rfl) (by kernel_rfl) (by kernel_rfl) (by kernel_rfl) (fun x r h => ⟨n, (e7 n x).trans h⟩)
/-! impl.Dec -/
noncomputable def F35 (n : Nat) (a0 : Int) : Option (ByteArray × Unit) :=
  (F71 n a0).bind fun r1 =>
  some (r1.1, ())
noncomputable def c35 (n : Nat) : Con := ⟨[.one (.int .i64)], [], [.one (.str)], [], fun (x : Int × Unit) => F35 n x.1⟩
noncomputable def G35 (n : Nat) : Gam := [((71, []), c71 n)]
theorem e35 (n : Nat) (x : Int × Unit) : evBody tab (G35 n) n (c35 n) Tryd.f35 x = F35 n x.1 := by kernel_rfl
theorem g35 (W : World) (n : Nat) (h71 : ∀ n, Good Tryd.prog W 71 (c71 n)) : Good Tryd.prog W 35 (c35 n) := body_good follows tabOk (GamOk.cons ((fun (_ : World) => h71) W n) GamOk.nil) (f := 35) (fn := Tryd.f35) (c := bodyOf Tryd.f35) (by kernel_rfl) (by kernel_rfl) (by kernel_rfl) (by kernel_rfl) (by kernel_rfl) (by kernel_rfl) (by kernel_rfl) (fun x r h => ⟨n, (e35 n x).trans h⟩)
/-! impl.UsedCells -/
noncomputable def st8_0 (n : Nat) (g0 : (List Int) → Int → Int → (List ByteArray) → Option (List ByteArray × Unit)) (l0 : List Int) (i1 : Int) (i2 : Int) (l3 : List ByteArray) : Option (List ByteArray × Unit) :=
  if (decide (i2 < i1)) = true then
    if (decide (0 ≤ i2)) = true then
    if (decide (i2 < (l0.length : Int))) = true then
    if (decide ((rdOf (0 : Int) l0 i2) ≠ 0)) = true then
      (F34 n i2).bind fun r2 =>
      if (decide ((r2.1.size + (⟨#[32, 61, 32]⟩ : ByteArray).size : Nat) ≤ 9223372036854775807)) = true then
      (F35 n (rdOf (0 : Int) l0 i2)).bind fun r3 =>
      if (decide (((r2.1 ++ (⟨#[32, 61, 32]⟩ : ByteArray)).size + r3.1.size : Nat) ≤ 9223372036854775807)) = true then
      if (decide ((l3.length + ([((r2.1 ++ (⟨#[32, 61, 32]⟩ : ByteArray)) ++ r3.1)] : List ByteArray).length) * 16 ≤ 140737488355328)) = true then
      g0 l0 i1 (wrap64 (i2 + 1)) (l3 ++ ([((r2.1 ++ (⟨#[32, 61, 32]⟩ : ByteArray)) ++ r3.1)] : List ByteArray))
      else none
      else none
      else none
    else
      g0 l0 i1 (wrap64 (i2 + 1)) l3
    else none
    else none
  else
    some (l3, ())
noncomputable def lp8_0 (n : Nat) : Nat → (List Int) → Int → Int → (List ByteArray) → Option (List ByteArray × Unit)
  | 0 => fun _ _ _ _ => none
  | k + 1 => st8_0 n (lp8_0 n k)
noncomputable def st8 (n : Nat) (h0 : (List Int) → Int → Int → (List ByteArray) → Option (List ByteArray × Unit)) (a0 : List Int) : Option (List ByteArray × Unit) :=
  (F33 n a0).bind fun r1 =>
  if (!r1.1) = true then
    some (([] : List ByteArray), ())
  else
    h0 a0 (a0.length : Int) (0 : Int) ([] : List ByteArray)
noncomputable def F8 (n : Nat) (a0 : List Int) : Option (List ByteArray × Unit) := st8 n (lp8_0 n n) a0
noncomputable def c8 (n : Nat) : Con := ⟨[.one (.sl (.imm true) 3 (.int .i64))], [], [.one (.sl .own 9 .str)], [], fun (x : List Int × Unit) => F8 n x.1⟩
noncomputable def G8 (n : Nat) : Gam := [((33, []), c33 n), ((34, []), c34 n), ((35, []), c35 n)]
noncomputable def S8_0 (l0 : List Int) (i1 : Int) (i2 : Int) (l3 : List ByteArray) : St := ⟨[.dead, .dead, .dead, .sr 3 0 none 0 0 none] ++ List.replicate 7 .dead ++ [.sl (.imm true) 3 (.int .i64) l0, .int .i64 i1, .int .i64 i2] ++ List.replicate 17 .dead, [Ob.none, Ob.none, Ob.none, ⟨false, [.sl .own 9 .str l3], 0, 0⟩] ++ List.replicate 27 Ob.none⟩
noncomputable def ga8_0 (n : Nat) (ks : List Nat) (k : Nat) (st : St) : Option (List ByteArray × Unit) := goAt tab (G8 n) n (bodyOf Tryd.f8) (lvOf Tryd.f8) (lvOf Tryd.f8).ret [1, 1, 1, 0, 1, 0] ks k st (evBody.endK tab (c8 n) Tryd.f8)
theorem el8_0 (n : Nat) : ∀ (k : Nat), ∀ (l0 : List Int) (i1 : Int) (i2 : Int) (l3 : List ByteArray), ga8_0 n [] k (S8_0 l0 i1 i2 l3) = lp8_0 n k l0 i1 i2 l3 := by
  intro k
  induction k with
  | zero => intros; rfl
  | succ k ih =>
    intro l0 i1 i2 l3
    have h : ga8_0 n [] (k + 1) (S8_0 l0 i1 i2 l3) = st8_0 n (fun w0 w1 w2 w3 => ga8_0 n [] k (S8_0 w0 w1 w2 w3)) l0 i1 i2 l3 := by kernel_rfl
    rw [h]
    have e : (fun w0 w1 w2 w3 => ga8_0 n [] k (S8_0 w0 w1 w2 w3)) = lp8_0 n k := by
      funext w0 w1 w2 w3; exact ih w0 w1 w2 w3
    rw [e]
    rfl
theorem e8 (n : Nat) (x : List Int × Unit) : evBody tab (G8 n) n (c8 n) Tryd.f8 x = F8 n x.1 := by
  have h : evBody tab (G8 n) n (c8 n) Tryd.f8 x = st8 n (fun w0 w1 w2 w3 => ga8_0 n [] n (S8_0 w0 w1 w2 w3)) x.1 := by kernel_rfl
  rw [h]
  have e0 : (fun w0 w1 w2 w3 => ga8_0 n [] n (S8_0 w0 w1 w2 w3)) = lp8_0 n n := by
    funext w0 w1 w2 w3; exact el8_0 n n w0 w1 w2 w3
  rw [e0]
  rfl
theorem g8 (W : World) (n : Nat) (h34 : ∀ n, Good Tryd.prog W 34 (c34 n)) (h71 : ∀ n, Good Tryd.prog W 71 (c71 n)) : Good Tryd.prog W 8 (c8 n) := body_good follows tabOk (GamOk.cons (g33 W n) (GamOk.cons ((fun (_ : World) => h34) W n) (GamOk.cons (g35 W n h71) GamOk.nil))) (f := 8) (fn := Tryd.f8) (c := bodyOf Tryd.f8) (by kernel_rfl) (by kernel_rfl) (by kernel_rfl) (by kernel_rfl) (by kernel_rfl) (by kernel_rfl) (by kernel_rfl) (fun x r h => ⟨n, (e8 n x).trans h⟩)
/-! laws.FnUsage -/
noncomputable def j3_0 (n : Nat) (i0 : Int) (l1 : List Int) (l2 : List ByteArray) : Option (Bool × Unit) :=
  if (decide (i0 = (l2.length : Int))) = true then
    (F12 n l1).bind fun r7 =>
    (F13 n l1).bind fun r8 =>
    some (decide (r7.1 = r8.1), ())
  else
    some (false, ())
noncomputable def st3_0 (n : Nat) (g0 : Int → Int → (List Int) → (List ByteArray) → Option (Bool × Unit)) (i0 : Int) (i1 : Int) (l2 : List Int) (l3 : List ByteArray) : Option (Bool × Unit) :=
  if (decide (i1 < (l2.length : Int))) = true then
    (F9 n l2).bind fun r4 =>
    if r4.1 = true then
      if (decide (0 ≤ i1)) = true then
      if (decide (i1 < (l2.length : Int))) = true then
      if (decide ((rdOf (0 : Int) l2 i1) ≠ 0)) = true then
        if (decide (i0 ≥ (l3.length : Int))) = true then
          some (false, ())
        else
          if (decide (0 ≤ i0)) = true then
          if (decide (i0 < (l3.length : Int))) = true then
          (F10 n i1).bind fun r5 =>
          if (decide ((r5.1.size + (⟨#[32, 61, 32]⟩ : ByteArray).size : Nat) ≤ 9223372036854775807)) = true then
          if (decide (0 ≤ i1)) = true then
          if (decide (i1 < (l2.length : Int))) = true then
          (F11 n (rdOf (0 : Int) l2 i1)).bind fun r6 =>
          if (decide (((r5.1 ++ (⟨#[32, 61, 32]⟩ : ByteArray)).size + r6.1.size : Nat) ≤ 9223372036854775807)) = true then
          if (!decide ((rdOf (⟨#[]⟩ : ByteArray) l3 i0).toList = ((r5.1 ++ (⟨#[32, 61, 32]⟩ : ByteArray)) ++ r6.1).toList)) = true then
            some (false, ())
          else
            g0 (wrap64 (i0 + 1)) (wrap64 (i1 + 1)) l2 l3
          else none
          else none
          else none
          else none
          else none
          else none
      else
        g0 i0 (wrap64 (i1 + 1)) l2 l3
      else none
      else none
    else
      j3_0 n i0 l2 l3
  else
    j3_0 n i0 l2 l3
noncomputable def lp3_0 (n : Nat) : Nat → Int → Int → (List Int) → (List ByteArray) → Option (Bool × Unit)
  | 0 => fun _ _ _ _ => none
  | k + 1 => st3_0 n (lp3_0 n k)
noncomputable def st3 (n : Nat) (h0 : Int → Int → (List Int) → (List ByteArray) → Option (Bool × Unit)) (a0 : List Int) : Option (Bool × Unit) :=
  (F6 n a0).bind fun r1 =>
  if r1.1 = true then
    some (true, ())
  else
    (F7 n a0).bind fun r2 =>
    (F8 n r2.1).bind fun r3 =>
    h0 (0 : Int) (0 : Int) r2.1 r3.1
noncomputable def F3 (n : Nat) (a0 : List Int) : Option (Bool × Unit) := st3 n (lp3_0 n n) a0
noncomputable def c3 (n : Nat) : Con := ⟨[.one (.sl (.imm false) 5 (.int .u8))], [], [.one (.bool)], [], fun (x : List Int × Unit) => F3 n x.1⟩
noncomputable def G3 (n : Nat) : Gam := [((6, []), c6 n), ((7, []), c7 n), ((8, []), c8 n), ((9, []), c9 n), ((10, []), c10 n), ((11, []), c11 n), ((12, []), c12 n), ((13, []), c13 n)]
noncomputable def S3_0 (i0 : Int) (i1 : Int) (l2 : List Int) (l3 : List ByteArray) : St := ⟨[.dead, .dead, .dead, .sr 3 0 none 0 0 none, .sr 4 0 none 0 0 none, .int .i64 i0, .int .i64 i1] ++ List.replicate 54 .dead, [Ob.none, Ob.none, Ob.none, ⟨false, [.sl .own 3 (.int .i64) l2], 0, 0⟩, ⟨false, [.sl .own 9 .str l3], 0, 0⟩] ++ List.replicate 56 Ob.none⟩
noncomputable def ga3_0 (n : Nat) (ks : List Nat) (k : Nat) (st : St) : Option (Bool × Unit) := goAt tab (G3 n) n (bodyOf Tryd.f3) (lvOf Tryd.f3) (lvOf Tryd.f3).ret [1, 1, 1, 1, 1, 0, 1, 0] ks k st (evBody.endK tab (c3 n) Tryd.f3)
theorem el3_0 (n : Nat) : ∀ (k : Nat), ∀ (i0 : Int) (i1 : Int) (l2 : List Int) (l3 : List ByteArray), ga3_0 n [] k (S3_0 i0 i1 l2 l3) = lp3_0 n k i0 i1 l2 l3 := by
  intro k
  induction k with
  | zero => intros; rfl
  | succ k ih =>
    intro i0 i1 l2 l3
    have h : ga3_0 n [] (k + 1) (S3_0 i0 i1 l2 l3) = st3_0 n (fun w0 w1 w2 w3 => ga3_0 n [] k (S3_0 w0 w1 w2 w3)) i0 i1 l2 l3 := by kernel_rfl
    rw [h]
    have e : (fun w0 w1 w2 w3 => ga3_0 n [] k (S3_0 w0 w1 w2 w3)) = lp3_0 n k := by
      funext w0 w1 w2 w3; exact ih w0 w1 w2 w3
    rw [e]
    rfl
theorem e3 (n : Nat) (x : List Int × Unit) : evBody tab (G3 n) n (c3 n) Tryd.f3 x = F3 n x.1 := by
  have h : evBody tab (G3 n) n (c3 n) Tryd.f3 x = st3 n (fun w0 w1 w2 w3 => ga3_0 n [] n (S3_0 w0 w1 w2 w3)) x.1 := by kernel_rfl
  rw [h]
  have e0 : (fun w0 w1 w2 w3 => ga3_0 n [] n (S3_0 w0 w1 w2 w3)) = lp3_0 n n := by
    funext w0 w1 w2 w3; exact el3_0 n n w0 w1 w2 w3
  rw [e0]
  rfl
theorem g3 (W : World) (n : Nat) (h34 : ∀ n, Good Tryd.prog W 34 (c34 n)) (h71 : ∀ n, Good Tryd.prog W 71 (c71 n)) : Good Tryd.prog W 3 (c3 n) := body_good follows tabOk (GamOk.cons (g6 W n) (GamOk.cons (g7 W n) (GamOk.cons (g8 W n h34 h71) (GamOk.cons (g9 W n) (GamOk.cons (g10 W n) (GamOk.cons (g11 W n) (GamOk.cons (g12 W n) (GamOk.cons (g13 W n) GamOk.nil)))))))) (f := 3) (fn := Tryd.f3) (c := bodyOf Tryd.f3) (by kernel_rfl) (by kernel_rfl) (by kernel_rfl) (by kernel_rfl) (by kernel_rfl) (by kernel_rfl) (by kernel_rfl) (fun x r h => ⟨n, (e3 n x).trans h⟩)
end Go.Eva
end
section
/- Total functions: rules for what an Option answers. -/
namespace Go.Eva
open Go.RowKit (wrap64)
set_option linter.unusedVariables false

def ok {α : Type} (x : Option α) (Q : α → Prop) : Prop := ∃ a, x = some a ∧ Q a
theorem ok.some {α : Type} {a : α} {Q : α → Prop} (h : Q a) : ok (some a) Q := ⟨a, rfl, h⟩
theorem ok.bind {α β : Type} {x : Option α} {f : α → Option β} {Q : α → Prop} {R : β → Prop} (h : ok x Q) (k : ∀ a, Q a → ok (f a) R) : ok (x.bind f) R := by
  obtain ⟨a, rfl, q⟩ := h
  exact k a q
theorem ok.guard {α : Type} {c : Prop} [Decidable c] {x : Option α} {Q : α → Prop} (h : c) (k : ok x Q) : ok (if decide c = true then x else none) Q := by rw [if_pos (decide_eq_true h)]; exact k
theorem ok.ite {α : Type} {c : Prop} [Decidable c] {x y : Option α} {Q : α → Prop} (h : c → ok x Q) (k : ¬ c → ok y Q) : ok (if decide c = true then x else y) Q := by
  by_cases hc : c
  · rw [if_pos (decide_eq_true hc)]; exact h hc
  · rw [if_neg (by simpa using hc)]; exact k hc
theorem ok.iteb {α : Type} {c : Bool} {x y : Option α} {Q : α → Prop} (h : c = true → ok x Q) (k : c = false → ok y Q) : ok (if c = true then x else y) Q := by
  cases c
  · exact k rfl
  · exact h rfl
theorem ok.mono {α : Type} {x : Option α} {Q R : α → Prop} (h : ok x Q) (k : ∀ a, Q a → R a) : ok x R := by
  obtain ⟨a, q1, q2⟩ := h
  exact ⟨a, q1, k a q2⟩
theorem w64 {x : Int} (h : -9223372036854775808 ≤ x) (h' : x ≤ 9223372036854775807) : wrap64 x = x := by unfold wrap64; omega
theorem andI_bd (x : Int) (m : Nat) (hm : m < 9223372036854775808) : 0 ≤ andI .i64 x m ∧ andI .i64 x m ≤ m := by
  unfold andI
  have h1 : (BitVec.ofInt IntKind.i64.bits x &&& BitVec.ofInt IntKind.i64.bits (m : Int)).toNat ≤ m := by
    rw [BitVec.toNat_and]
    have : (BitVec.ofInt IntKind.i64.bits (m : Int)).toNat = m := by
      rw [BitVec.toNat_ofInt]
      show ((m : Int) % (2 ^ 64 : Nat)).toNat = m
      omega
    rw [this]
    exact Nat.and_le_right
  have h2 : IntKind.i64.wrap ((BitVec.ofInt IntKind.i64.bits x &&& BitVec.ofInt IntKind.i64.bits (m : Int)).toNat : Int) = ((BitVec.ofInt IntKind.i64.bits x &&& BitVec.ofInt IntKind.i64.bits (m : Int)).toNat : Int) := by
    rw [IntKind.wrap_i64]; omega
  rw [h2]
  omega
theorem and255 (x : Int) : 0 ≤ andI .i64 x 255 ∧ andI .i64 x 255 < 256 := by
  have := andI_bd x 255 (by omega)
  exact ⟨this.1, Int.lt_of_le_of_lt this.2 (by decide)⟩
theorem rdOf_mem {α : Type} {d : α} {l : List α} {i : Int} (h : 0 ≤ i) (h' : i < (l.length : Int)) : rdOf d l i ∈ l := by
  unfold rdOf
  rw [List.getD_eq_getElem?_getD, List.getElem?_eq_getElem (by omega)]
  exact List.getElem_mem _
theorem rdOf_nat {α : Type} {d : α} {l : List α} {i : Nat} (h : i < l.length) : rdOf d l (i : Int) = l[i] := by
  unfold rdOf
  rw [List.getD_eq_getElem?_getD, Int.toNat_natCast, List.getElem?_eq_getElem h]; rfl
/-- A loop's rule: what goes down, and what stays. -/
theorem tmod_bd {x n : Int} (h : 0 ≤ x) (hn : 0 < n) : 0 ≤ x.tmod n ∧ x.tmod n < n := ⟨Int.tmod_nonneg _ h, Int.tmod_lt_of_pos _ hn⟩
end Go.Eva
end
section
/- What the drawing functions answer. -/
namespace Go.Eva
open Go.RowKit (wrap64)
set_option linter.unusedVariables false
set_option linter.unusedSimpArgs false

/-- A cursor: the code and the place in it. -/
structure Cur (b : List Int) (i : Int) : Prop where
  lo : 0 ≤ i
  hi : i ≤ (b.length : Int)
  len : b.length ≤ 1048576
  byt : ∀ x ∈ b, 0 ≤ x ∧ x < 256

theorem t72 {n : Nat} {b : List Int} {i h : Int} (c : Cur b i) : ok (F72 n b i h) fun r => 0 ≤ r.1 ∧ r.1 < 256 ∧ Cur r.2.1 r.2.2.1 := by
  unfold F72
  refine ok.guard (by omega) (ok.guard (by omega) (ok.ite (fun h1 => ok.guard c.lo (ok.guard h1 (ok.some ?_))) (fun h1 => ok.some ?_)))
  · have hl := c.len
    have hlo := c.lo
    refine ⟨(and255 _).1, (and255 _).2, ?_⟩
    show Cur b (wrap64 (i + 1))
    rw [w64 (x := i + 1) (by omega) (by omega)]
    exact ⟨by omega, by omega, c.len, c.byt⟩
  · exact ⟨(and255 _).1, (and255 _).2, c⟩

theorem t39 {n : Nat} {m : Int} {b : List Int} {i h : Int} (c : Cur b i) : ok (F39 n m b i h) fun r => 0 ≤ r.1 ∧ (0 < m → r.1 < m) ∧ (m ≤ 0 → r.1 = 0) ∧ Cur r.2.1 r.2.2.1 := by
  unfold F39
  refine ok.ite (fun h1 => ok.some ⟨Int.le_refl _, fun q => by omega, fun _ => rfl, c⟩) (fun h1 => ok.ite (fun h2 => ?_) (fun h2 => ?_))
  · refine (t72 c).bind fun r1 q => ok.guard (by omega) (ok.some ?_)
    have := tmod_bd (x := r1.1) (n := m) q.1 (by omega)
    exact ⟨this.1, fun _ => this.2, fun q => by omega, q.2.2⟩
  · refine (t72 c).bind fun r2 q2 => (t72 q2.2.2).bind fun r3 q3 => (t72 q3.2.2).bind fun r4 q4 => (t72 q4.2.2).bind fun r5 q5 => ok.guard (by omega) (ok.some ?_)
    have e : wrap64 ((wrap64 ((wrap64 ((wrap64 (r2.1 * 16777216)) + (wrap64 (r3.1 * 65536)))) + (wrap64 (r4.1 * 256)))) + r5.1) = r2.1 * 16777216 + r3.1 * 65536 + r4.1 * 256 + r5.1 := by
      obtain ⟨a1, a2, _⟩ := q2
      obtain ⟨b1, b2, _⟩ := q3
      obtain ⟨c1, c2, _⟩ := q4
      obtain ⟨d1, d2, _⟩ := q5
      rw [w64 (x := r2.1 * 16777216) (by omega) (by omega), w64 (x := r3.1 * 65536) (by omega) (by omega), w64 (x := r4.1 * 256) (by omega) (by omega), w64 (x := r2.1 * 16777216 + r3.1 * 65536) (by omega) (by omega), w64 (x := r2.1 * 16777216 + r3.1 * 65536 + r4.1 * 256) (by omega) (by omega), w64 (by omega) (by omega)]
    simp only [e]
    have := tmod_bd (x := r2.1 * 16777216 + r3.1 * 65536 + r4.1 * 256 + r5.1) (n := m) (by have := q2.1; have := q3.1; have := q4.1; have := q5.1; omega) (by omega)
    exact ⟨this.1, fun _ => this.2, fun q => by omega, q5.2.2⟩

theorem t51 {n : Nat} {m : Int} {b : List Int} {i h : Int} (c : Cur b i) : ok (F51 n m b i h) fun r => Cur r.2.1 r.2.2.1 := by
  unfold F51
  exact (t39 c).bind fun r q => ok.some q.2.2.2

theorem t65 {n : Nat} {l b : List Int} {i h : Int} (c : Cur b i) (hl : 0 < l.length) : ok (F65 n l b i h) fun r => r.1 ∈ l ∧ Cur r.2.1 r.2.2.1 := by
  unfold F65
  refine (t39 c).bind fun r q => ok.guard q.1 (ok.guard (q.2.1 (by omega)) (ok.some ⟨rdOf_mem q.1 (q.2.1 (by omega)), q.2.2.2⟩))

theorem t52 {n : Nat} {l : List ByteArray} {b : List Int} {i h : Int} (c : Cur b i) (hl : 0 < l.length) : ok (F52 n l b i h) fun r => r.1 ∈ l ∧ Cur r.2.1 r.2.2.1 := by
  unfold F52
  refine (t39 c).bind fun r q => ok.guard q.1 (ok.guard (q.2.1 (by omega)) (ok.some ⟨rdOf_mem q.1 (q.2.1 (by omega)), q.2.2.2⟩))

theorem t112 {n : Nat} {b : List Int} {i h : Int} (c : Cur b i) : ok (F112 n b i h) fun r => r.1.size ≤ 5 ∧ Cur r.2.1 r.2.2.1 := by
  unfold F112
  refine (t52 c (by decide)).bind fun r q => ok.some ⟨?_, q.2⟩
  have hall : ∀ x ∈ ([(⟨#[97]⟩ : ByteArray), (⟨#[98]⟩ : ByteArray), (⟨#[99, 112, 117]⟩ : ByteArray), (⟨#[114, 101, 113]⟩ : ByteArray), (⟨#[120, 95, 49]⟩ : ByteArray), (⟨#[90, 57]⟩ : ByteArray), (⟨#[109, 101, 109]⟩ : ByteArray), (⟨#[113]⟩ : ByteArray)] : List ByteArray), x.size ≤ 5 := by
    intro x hx
    simp only [List.mem_cons, List.not_mem_nil, or_false] at hx
    rcases hx with rfl | rfl | rfl | rfl | rfl | rfl | rfl | rfl <;> decide
  exact hall _ q.1

theorem t109 {n : Nat} {b : List Int} {i h : Int} (c : Cur b i) : ok (F109 n b i h) fun r => Cur r.2.1 r.2.2.1 := by
  unfold F109
  exact (t39 c).bind fun r1 q1 => (t39 q1.2.2.2).bind fun r2 q2 => (t65 q2.2.2.2 (by simp)).bind fun r3 q3 => ok.some q3.2

theorem t36 {n : Nat} {x y z : Int} : ok (F36 n x y z) fun _ => True := by
  unfold F36
  exact ok.ite (fun _ => ok.some trivial) (fun _ => ok.some trivial)
theorem t80 {n : Nat} {x : Int} : ok (F80 n x) fun _ => True := by
  unfold F80
  exact t36.bind fun _ _ => ok.iteb (fun _ => ok.some trivial) (fun _ => t36.bind fun _ _ => ok.iteb (fun _ => ok.some trivial) (fun _ => t36.bind fun _ _ => ok.iteb (fun _ => ok.some trivial) (fun _ => ok.some trivial)))
theorem t46_0 {n : Nat} {s : ByteArray} (hs : s.size ≤ 1048576) : ∀ (k : Nat) (i : Int), 0 ≤ i → i ≤ (s.size : Int) → (s.size : Int) - i < k → ok (lp46_0 n k s i) fun _ => True
  | 0, i, h0, h1, hk => by omega
  | k + 1, i, h0, h1, hk => by
    show ok (st46_0 n (lp46_0 n k) s i) _
    unfold st46_0
    refine ok.ite (fun h2 => ok.guard h0 (ok.guard h2 (t80.bind fun _ _ => ok.iteb (fun _ => ok.some trivial) (fun _ => ?_)))) (fun _ => t36.bind fun _ _ => ok.some trivial)
    rw [w64 (by omega) (by omega)]
    exact t46_0 hs k (i + 1) (by omega) (by omega) (by omega)
theorem t46 {n : Nat} {s : ByteArray} (hs : s.size ≤ 5) (hn : 100 ≤ n) : ok (F46 n s) fun _ => True := t46_0 (by omega) n 0 (by omega) (by omega) (by omega)
theorem t164 {n : Nat} {s : ByteArray} {a b : Int} {t : Bool} {d e f g u v : Int} : ok (F164 n s a b t d e f g u v) fun _ => True := by
  unfold F164
  refine ok.ite (fun _ => ok.ite (fun _ => ok.ite (fun _ => ok.ite (fun _ => ok.some trivial) (fun _ => ok.some trivial)) (fun _ => ok.some trivial)) (fun _ => ok.some trivial)) (fun _ => ?_)
  exact t36.bind fun _ _ => ok.iteb (fun _ => t36.bind fun _ _ => ok.iteb (fun _ => ok.ite (fun _ => t36.bind fun _ _ => ok.iteb (fun _ => t36.bind fun _ _ => ok.iteb (fun _ => ok.ite (fun _ => ok.some trivial) (fun _ => ok.some trivial)) (fun _ => ok.some trivial)) (fun _ => ok.some trivial)) (fun _ => ok.some trivial)) (fun _ => ok.some trivial)) (fun _ => ok.some trivial)
theorem t146 {n : Nat} {s : ByteArray} {a b : Int} {t : Bool} {d e f g u v : Int} (hs : s.size ≤ 5) (hn : 100 ≤ n) : ok (F146 n s a b t d e f g u v) fun _ => True := by
  unfold F146
  refine (t46 hs hn).bind fun _ _ => ok.iteb (fun _ => ok.some trivial) (fun _ => ok.ite (fun _ => ok.iteb (fun _ => t36.bind fun _ _ => ok.some trivial) (fun _ => ok.some trivial)) (fun _ => ok.ite (fun _ => ok.iteb (fun _ => t36.bind fun _ _ => ok.iteb (fun _ => ok.iteb (fun _ => ok.some trivial) (fun _ => ok.some trivial)) (fun _ => ok.some trivial)) (fun _ => ok.some trivial)) (fun _ => ok.ite (fun _ => ?_) (fun _ => ok.some trivial))))
  exact ok.ite (fun _ => ok.iteb (fun _ => ok.ite (fun _ => t164.bind fun _ _ => ok.some trivial) (fun _ => ok.some trivial)) (fun _ => ok.some trivial)) (fun _ => ok.some trivial)
theorem t113 {n : Nat} {s : ByteArray} {a b : Int} {t : Bool} {d e f g u v x : Int} (hs : s.size ≤ 5) (hn : 100 ≤ n) : ok (F113 n s a b t d e f g u v x) fun r => r.1 = s := by
  unfold F113
  exact (t146 hs hn).bind fun _ _ => ok.iteb (fun _ => ok.some rfl) (fun _ => ok.ite (fun _ => ok.some rfl) (fun _ => t36.bind fun _ _ => ok.iteb (fun _ => ok.some rfl) (fun _ => ok.ite (fun _ => ok.some rfl) (fun _ => ok.ite (fun _ => ok.some rfl) (fun _ => ok.some rfl)))))
theorem t74 {n : Nat} {s : ByteArray} {a b : Int} {t : Bool} {d e f g u v : Int} : ok (F74 n s a b t d e f g u v) fun _ => True := by
  unfold F74
  exact ok.ite (fun _ => ok.iteb (fun _ => ok.some trivial) (fun _ => ok.some trivial)) (fun _ => ok.some trivial)
theorem t32_0 {n : Nat} {b : List Int} (hb : b.length ≤ 1048576) (hy : ∀ x ∈ b, 0 ≤ x ∧ x < 256) : ∀ (k : Nat) (i1 i2 : Int), 0 ≤ i2 → i2 ≤ 4000 → 4000 - i2 < k → ok (lp32_0 n k b i1 i2) fun r => Cur r.2.1 r.2.2.1
  | 0, i1, i2, h0, h1, hk => by omega
  | k + 1, i1, i2, h0, h1, hk => by
    show ok (st32_0 n (lp32_0 n k) b i1 i2) _
    unfold st32_0
    refine ok.ite (fun h2 => ok.ite (fun h3 => ok.guard h0 (ok.guard h2 ?_)) (fun _ => ok.some ⟨Int.le_refl _, by simp, hb, hy⟩)) (fun _ => ok.some ⟨Int.le_refl _, by simp, hb, hy⟩)
    rw [w64 (x := i2 + 1) (by omega) (by omega)]
    exact t32_0 hb hy k _ _ (by omega) (by omega) (by omega)
theorem t32 {n : Nat} (hn : 5000 ≤ n) {b : List Int} (hb : b.length ≤ 1048576) (hy : ∀ x ∈ b, 0 ≤ x ∧ x < 256) : ok (F32 n b) fun r => Cur r.2.1 r.2.2.1 := t32_0 hb hy n _ _ (by omega) (by omega) (by omega)
abbrev Rw := (ByteArray × (Int × (Int × (Bool × (Int × (Int × (Int × (Int × (Int × Int)))))))))
theorem drop_cons {α : Type} {l : List α} {i : Nat} (h : i < l.length) : l.drop i = l[i] :: l.drop (i + 1) := List.drop_eq_getElem_cons h
theorem w1 {i n : Nat} (h : i < n) (hn : n ≤ 1000000000) : wrap64 ((i : Int) + 1) = ((i + 1 : Nat) : Int) := by rw [w64 (by omega) (by omega)]; rfl

def inr (x a b : Int) : Bool := decide (a ≤ x ∧ x ≤ b)
theorem f36 {n : Nat} {x a b : Int} : F36 n x a b = some (inr x a b, ()) := by
  unfold F36 inr
  by_cases h1 : a ≤ x <;> by_cases h2 : x ≤ b <;> simp [h1, h2]
theorem f70 {n : Nat} {x a b : Int} : F70 n x a b = some (inr x a b, ()) := by
  unfold F70 inr
  by_cases h1 : a ≤ x <;> by_cases h2 : x ≤ b <;> simp [h1, h2]
def kc (x : Int) : Bool := inr x 97 122 || (inr x 65 90 || (inr x 48 57 || decide (x = 95)))
theorem f80 {n : Nat} {x : Int} : F80 n x = some (kc x, ()) := by
  unfold F80 kc
  simp only [f36, Option.bind_some]
  cases inr x 97 122 <;> cases inr x 65 90 <;> cases inr x 48 57 <;> simp
theorem bt_bd (s : ByteArray) (i : Int) : 0 ≤ bt s i ∧ bt s i < 256 := by
  unfold bt
  split
  · have := (s[i.toNat]).toNat_lt; omega
  · omega
theorem t46g {n : Nat} {s : ByteArray} (hs : s.size ≤ 1048576) (hn : 2000000 ≤ n) : ok (F46 n s) fun _ => True := t46_0 hs n 0 (by omega) (by omega) (by omega)
noncomputable def kob (n : Nat) (s : ByteArray) : Bool := ((F46 n s).getD (false, ())).1
theorem bt_list (s : ByteArray) (i : Nat) (h : i < s.data.toList.length) : bt s (i : Int) = ((s.data.toList[i]).toNat : Int) := by
  have hl : s.data.toList.length = s.size := Array.length_toList
  unfold bt
  rw [Int.toNat_natCast, dif_pos (by omega)]
  rfl
theorem t46k {n : Nat} {s : ByteArray} (hs : s.size ≤ 1048576) : ∀ (k i : Nat), i ≤ s.size → s.size - i < k → ok (lp46_0 n k s (i : Int)) fun r => r.1 = true → (∀ j, i ≤ j → j < s.size → kc (bt s (j : Int)) = true) ∧ 1 ≤ s.size ∧ s.size ≤ 4
  | 0, i, h, hk => by omega
  | k + 1, i, h, hk => by
    show ok (st46_0 n (lp46_0 n k) s _) _
    unfold st46_0
    refine ok.ite (fun h1 => ok.guard (by omega) (ok.guard h1 ?_)) (fun h1 => ?_)
    · have hb := bt_bd s (i : Int)
      rw [f80, w64 (x := bt s (i : Int)) (by omega) (by omega)]
      simp only [Option.bind_some]
      refine ok.iteb (fun _ => ok.some fun h => by cases h) (fun hk1 => ?_)
      have hk1 : kc (bt s (i : Int)) = true := by simpa using hk1
      have hi : i < s.size := by omega
      have e : wrap64 ((i : Int) + 1) = ((i + 1 : Nat) : Int) := by rw [w64 (by omega) (by omega)]; rfl
      rw [e]
      refine (t46k hs k (i + 1) (by omega) (by omega)).mono fun r q h => ⟨fun j h2 h3 => ?_, (q h).2⟩
      by_cases e : j = i
      · subst e; exact hk1
      · exact (q h).1 j (by omega) h3
    · rw [f36]
      refine ok.some fun h => ⟨fun j h2 h3 => by omega, ?_⟩
      have h : inr (s.size : Int) 1 4 = true := h
      unfold inr at h
      have := of_decide_eq_true h
      omega
end Go.Eva
end
section
/- Numbers as texts. -/
namespace Go.Eva
open Go.RowKit (wrap64)
set_option linter.unusedVariables false
set_option linter.unusedSimpArgs false

def isDig (b : UInt8) : Bool := decide (48 ≤ b.toNat) && decide (b.toNat ≤ 57)
def valN (n : Nat) (L : List UInt8) : Nat := L.foldl (fun m b => m * 10 + (b.toNat - 48)) n
theorem valN_nil (n : Nat) : valN n [] = n := by unfold valN; exact List.foldl_nil
theorem valN_cons (n : Nat) (b : UInt8) (bs : List UInt8) : valN n (b :: bs) = valN (n * 10 + (b.toNat - 48)) bs := by unfold valN; exact List.foldl_cons
def p10 : Nat → Nat
  | 0 => 1
  | i + 1 => p10 i * 10
theorem pow_le10 (i : Nat) (h : i ≤ 11) : p10 i ≤ 100000000000 := by
  have : i = 0 ∨ i = 1 ∨ i = 2 ∨ i = 3 ∨ i = 4 ∨ i = 5 ∨ i = 6 ∨ i = 7 ∨ i = 8 ∨ i = 9 ∨ i = 10 ∨ i = 11 := by omega
  rcases this with rfl | rfl | rfl | rfl | rfl | rfl | rfl | rfl | rfl | rfl | rfl | rfl <;> decide
theorem p10_up {n i : Nat} (h : n < p10 i) : n < p10 (i + 1) := by
  show n < p10 i * 10
  omega
theorem p10_dig {n i b : Nat} (h : n < p10 i) (hb : b ≤ 57) : n * 10 + (b - 48) < p10 (i + 1) := by
  show n * 10 + (b - 48) < p10 i * 10
  omega
theorem valN_lt (L : List UInt8) : ∀ (n i : Nat), (∀ b ∈ L, isDig b = true) → n < p10 i → valN n L < p10 (i + L.length) := by
  induction L with
  | nil =>
    intro n i _ h
    have e := valN_nil n
    rw [e, List.length_nil, Nat.add_zero]
    exact h
  | cons b bs ih =>
    intro n i hd h
    have hb := hd b (by simp)
    unfold isDig at hb
    rw [Bool.and_eq_true] at hb
    have hb2 : b.toNat ≤ 57 := of_decide_eq_true hb.2
    have q := ih (n * 10 + (b.toNat - 48)) (i + 1) (fun c hc => hd c (by simp [hc])) (p10_dig h hb2)
    have e := valN_cons n b bs
    rw [e, List.length_cons, show i + (bs.length + 1) = i + 1 + bs.length from by omega]
    exact q
theorem digits_dig (u : Nat) : ∀ b ∈ Go.Lib.decDigits u, isDig b = true := by
  have one : ∀ v : Nat, v < 10 → isDig (UInt8.ofNat (48 + v)) = true := by
    intro v hv
    have : (UInt8.ofNat (48 + v)).toNat = 48 + v := by
      rw [UInt8.toNat_ofNat']
      omega
    unfold isDig
    rw [this]
    simp
    omega
  induction u using Nat.strongRecOn with
  | ind u ih =>
    intro b hb
    rw [Go.Lib.decDigits] at hb
    by_cases h : u < 10
    · rw [dif_pos h] at hb
      rw [List.mem_singleton.1 hb]
      exact one u h
    · rw [dif_neg h] at hb
      rcases List.mem_append.1 hb with hb | hb
      · exact ih (u / 10) (by omega) b hb
      · rw [List.mem_singleton.1 hb]
        exact one (u % 10) (by omega)
theorem digits_ne (u : Nat) : Go.Lib.decDigits u ≠ [] := by
  rw [Go.Lib.decDigits]
  by_cases h : u < 10
  · rw [dif_pos h]; simp
  · rw [dif_neg h]; simp

def dB (n : Int) : ByteArray := ⟨(Go.Lib.itoa n).toArray⟩
theorem dB_nat (m : Nat) : (dB (m : Int)).data.toList = Go.Lib.decDigits m := by
  show (Go.Lib.itoa (m : Int)).toArray.toList = _
  rw [Go.Lib.itoa_nonneg]
theorem ba_ext {a b : ByteArray} (h : a.data.toList = b.data.toList) : a = b := by
  cases a; cases b
  exact congrArg ByteArray.mk (Array.toList_inj.1 h)
theorem sz_list (s : ByteArray) : s.data.toList.length = s.size := Array.length_toList
theorem ba_app (a b : List UInt8) : (⟨a.toArray⟩ : ByteArray) ++ ⟨b.toArray⟩ = ⟨(a ++ b).toArray⟩ := by
  apply ba_ext
  simp
theorem valN_app (n : Nat) (A B : List UInt8) : valN n (A ++ B) = valN (valN n A) B := by unfold valN; exact List.foldl_append
theorem dg_toNat (v : Nat) (h : v < 10) : (UInt8.ofNat (48 + v)).toNat = 48 + v := by
  rw [UInt8.toNat_ofNat']; omega
theorem valN_digits (u : Nat) : valN 0 (Go.Lib.decDigits u) = u := by
  induction u using Nat.strongRecOn with
  | ind u ih =>
    rw [Go.Lib.decDigits]
    by_cases h : u < 10
    · rw [dif_pos h, valN_cons, valN_nil, dg_toNat u h]; omega
    · rw [dif_neg h, valN_app, ih (u / 10) (by omega), valN_cons, valN_nil, dg_toNat (u % 10) (by omega)]; omega
theorem digits_len : ∀ (i u : Nat), u < p10 (i + 1) → (Go.Lib.decDigits u).length ≤ i + 1
  | 0, u, h => by
    have h : u < 10 := h
    rw [Go.Lib.decDigits, dif_pos h]
    exact Nat.le_refl _
  | i + 1, u, h => by
    rw [Go.Lib.decDigits]
    by_cases h10 : u < 10
    · rw [dif_pos h10]; simp
    · rw [dif_neg h10, List.length_append]
      have h : u < p10 (i + 1) * 10 := h
      have := digits_len i (u / 10) (by omega)
      simp only [List.length_cons, List.length_nil]
      omega
theorem w_range (x : Int) : -9223372036854775808 ≤ wrap64 x ∧ wrap64 x ≤ 9223372036854775807 := by unfold wrap64; omega
theorem t35 {n : Nat} {a : Int} (h1 : -9223372036854775808 ≤ a) (h2 : a ≤ 9223372036854775807) : F35 n a = some (dB a, ()) := by
  unfold F35 F71 itoF
  rw [if_pos (decide_eq_true ⟨h1, h2⟩)]
  rfl
theorem dig1 (m : Nat) (h : m < 10) : strOf [wrapI .u8 (wrap64 (48 + (m : Int)))] = ⟨[UInt8.ofNat (48 + m)].toArray⟩ := by
  rw [w64 (by omega) (by omega)]
  have : wrapI .u8 (48 + (m : Int)) = 48 + (m : Int) := by
    show (48 + (m : Int)) % 256 = _
    omega
  unfold strOf
  rw [this]
  have e : (48 + (m : Int)).toNat = 48 + m := by omega
  simp [e]
theorem t11_0 {n : Nat} : ∀ (d m k : Nat) (acc : List UInt8), 0 < m → m < p10 d → d + 1 < k → (m : Int) ≤ 9223372036854775807 → acc.length + d ≤ 100 → lp11_0 n k (m : Int) ⟨acc.toArray⟩ false = some (⟨(Go.Lib.decDigits m ++ acc).toArray⟩, ())
  | 0, m, k, acc, h0, h1, hk, hm, ha => by
    have h1 : m < 1 := h1
    omega
  | d + 1, m, k, acc, h0, h1, hk, hm, ha => by
    obtain ⟨k, rfl⟩ : ∃ q, k = q + 1 := ⟨k - 1, by omega⟩
    have h1 : m < p10 d * 10 := h1
    show st11_0 n (lp11_0 n k) (m : Int) _ false = _
    have hz : ((m : Int).tmod 10) = ((m % 10 : Nat) : Int) := by rw [Int.tmod_eq_emod_of_nonneg (by omega)]; omega
    have hq : wrap64 ((m : Int).tdiv 10) = ((m / 10 : Nat) : Int) := by
      rw [Int.tdiv_eq_ediv_of_nonneg (by omega), w64 (by omega) (by omega)]; omega
    have hs1 : (⟨[UInt8.ofNat (48 + m % 10)].toArray⟩ : ByteArray).size = 1 := rfl
    have hs2 : (⟨acc.toArray⟩ : ByteArray).size = acc.length := by show acc.toArray.size = _; simp
    unfold st11_0
    rw [if_pos (decide_eq_true (show (m : Int) ≠ 0 by omega)), if_pos (by decide), hz, if_neg (by simp; omega)]
    unfold j11_0
    rw [dig1 (m % 10) (by omega), if_pos (decide_eq_true (by rw [hs1, hs2]; omega)), if_pos (by decide), hq, ba_app]
    rw [Go.Lib.decDigits]
    by_cases h10 : m < 10
    · have e0 : m / 10 = 0 := by omega
      have e1 : m % 10 = m := by omega
      rw [dif_pos h10, e0, e1]
      obtain ⟨k, rfl⟩ : ∃ q, k = q + 1 := ⟨k - 1, by omega⟩
      rfl
    · rw [dif_neg h10, t11_0 d (m / 10) k _ (by omega) (by omega) (by omega) (by omega) (by simp only [List.singleton_append, List.length_cons]; omega)]
      simp
theorem p10_19 : p10 19 = 10000000000000000000 := by decide
theorem t11 {n : Nat} (hn : 100 ≤ n) {m : Nat} (hm : (m : Int) ≤ 9223372036854775807) : F11 n (m : Int) = some (dB (m : Int), ()) := by
  unfold F11 st11
  by_cases h : m = 0
  · subst h
    have e : (⟨#[48]⟩ : ByteArray) = dB ((0 : Nat) : Int) := ba_ext (by rw [dB_nat, Go.Lib.decDigits, dif_pos (by omega)]; rfl)
    rw [if_pos (by decide), e]
  · rw [if_neg (by simp; omega)]
    have e : decide ((m : Int) < 0) = false := decide_eq_false (by omega)
    rw [e, show (⟨#[]⟩ : ByteArray) = ⟨([] : List UInt8).toArray⟩ from rfl, t11_0 19 m n [] (by omega) (by rw [p10_19]; omega) (by omega) hm (by simp), List.append_nil]
    congr 2
theorem t11t_0 {n : Nat} : ∀ (d k : Nat) (i : Int) (s : ByteArray) (b : Bool), i.natAbs < p10 d → d < k → -9223372036854775808 ≤ i → i ≤ 9223372036854775807 → s.size + d ≤ 1000000 → ok (lp11_0 n k i s b) fun r => r.1.size ≤ s.size + d + 1
  | d, 0, i, s, b, h1, hk, hl, hh, hs => by omega
  | d, k + 1, i, s, b, h1, hk, hl, hh, hs => by
    show ok (st11_0 n (lp11_0 n k) i s b) _
    unfold st11_0
    refine ok.ite (fun h2 => ?_) (fun h2 => ?_)
    · obtain ⟨d, rfl⟩ : ∃ q, d = q + 1 := ⟨d - 1, by
        rcases d with _ | d
        · have h1 : i.natAbs < 1 := h1
          omega
        · omega⟩
      have h1 : i.natAbs < p10 d * 10 := h1
      have hq : (i.tdiv 10).natAbs = i.natAbs / 10 := Int.natAbs_tdiv i 10
      have hj : ∀ x : Int, ok (j11_0 n (lp11_0 n k) i s b x) fun r => r.1.size ≤ s.size + (d + 1) + 1 := fun x => by
        unfold j11_0
        have hs1 : (strOf [wrapI .u8 (wrap64 (48 + x))]).size = 1 := rfl
        refine ok.guard (by rw [hs1]; omega) (ok.guard (by decide) ?_)
        rw [w64 (x := i.tdiv 10) (by omega) (by omega)]
        refine (t11t_0 d k _ _ b (by omega) (by omega) (by omega) (by omega) (by rw [ByteArray.size_append, hs1]; omega)).mono fun r q => ?_
        rw [ByteArray.size_append, hs1] at q
        omega
      exact ok.guard (by decide) (ok.ite (fun _ => hj _) (fun _ => hj _))
    · refine ok.iteb (fun _ => ok.guard (by show 1 + s.size ≤ _; omega) (ok.some ?_)) (fun _ => ok.some (by show s.size ≤ _; omega))
      show ((⟨#[45]⟩ : ByteArray) ++ s).size ≤ _
      rw [ByteArray.size_append]
      show 1 + s.size ≤ _
      omega
theorem t11t {n : Nat} (hn : 100 ≤ n) {i : Int} (hl : -9223372036854775808 ≤ i) (hh : i ≤ 9223372036854775807) : ok (F11 n i) fun r => r.1.size ≤ 21 := by
  unfold F11 st11
  refine ok.ite (fun _ => ok.some (by show 1 ≤ 21; omega)) (fun _ => ?_)
  exact (t11t_0 19 n i (⟨#[]⟩ : ByteArray) _ (by rw [p10_19]; omega) (by omega) hl hh (by show 0 + 19 ≤ 1000000; omega)).mono fun r q => Nat.le_trans q (show 0 + 19 + 1 ≤ 21 by omega)
theorem dB_size {i : Int} (hl : -9223372036854775808 ≤ i) (hh : i ≤ 9223372036854775807) : (dB i).size ≤ 21 := by
  have := Go.Lib.itoa_length_le i hl hh
  show (Go.Lib.itoa i).toArray.size ≤ 21
  simpa using this
theorem wb (i n : Nat) (h : i ≤ n) (hn : n ≤ 1048576) : wrap64 ((i : Int) + 1) = ((i + 1 : Nat) : Int) := by rw [w64 (by omega) (by omega)]; rfl
end Go.Eva
end
section
/- The arena's functions: total, and an arena stays 71 cells long. -/
namespace Go.Eva
open Go.RowKit (wrap64)
set_option linter.unusedVariables false
set_option linter.unusedSimpArgs false

def wd (x : Int) : Bool := inr x 0 281474976710655
def cokB (a : List Int) : Bool := a.all wd && decide ((a.length : Int) = 71)
theorem t9_0 {n : Nat} {a : List Int} (ha : a.length ≤ 1000) : ∀ (k i : Nat), i ≤ a.length → a.length - i < k → ok (lp9_0 n k a (i : Int)) fun r => r = ((a.drop i).all wd && decide ((a.length : Int) = 71), ())
  | 0, i, h, hk => by omega
  | k + 1, i, h, hk => by
    show ok (st9_0 n (lp9_0 n k) a _) _
    unfold st9_0
    refine ok.ite (fun h1 => ok.guard (by omega) (ok.guard h1 ?_)) (fun h1 => ok.some ?_)
    · have hi : i < a.length := by omega
      rw [rdOf_nat hi, f36, w1 hi (by omega), drop_cons hi]
      simp only [Option.bind_some]
      refine ok.iteb (fun h2 => ok.some ?_) (fun h2 => (t9_0 ha k (i + 1) (by omega) (by omega)).mono fun r q => ?_)
      · have h2 : wd a[i] = false := by unfold wd; simpa using h2
        rw [List.all_cons, h2]; rfl
      · have h2 : wd a[i] = true := by unfold wd; simpa using h2
        rw [q, List.all_cons, h2]; rfl
    · rw [List.drop_eq_nil_of_le (by omega)]; rfl
theorem t9 {n : Nat} (hn : 2000000 ≤ n) {a : List Int} (ha : a.length ≤ 1000) : ok (F9 n a) fun r => r = (cokB a, ()) := t9_0 ha n 0 (by omega) (by omega)
theorem cok_len {a : List Int} (h : cokB a = true) : a.length = 71 := by
  unfold cokB at h
  have := of_decide_eq_true (Bool.and_eq_true_iff.1 h).2
  omega
theorem cok_rd {a : List Int} (h : cokB a = true) {i : Int} (h0 : 0 ≤ i) (h1 : i < a.length) : 0 ≤ rdOf (0 : Int) a i ∧ rdOf (0 : Int) a i ≤ 281474976710655 := by
  unfold cokB at h
  have := List.all_eq_true.1 (Bool.and_eq_true_iff.1 h).1 _ (rdOf_mem (d := (0 : Int)) h0 h1)
  unfold wd inr at this
  exact of_decide_eq_true this
theorem f98 {n : Nat} {a : List Int} (ha : a.length ≤ 1000) : F98 n a = some (a, ()) := by
  unfold F98
  rw [if_pos (decide_eq_true (by simp only [List.length_nil]; omega))]
  rfl
theorem f38 {n : Nat} {i : Int} (h0 : 0 ≤ i) (h1 : i ≤ 3) : F38 n i = some (3 + i, ()) := by
  unfold F38
  have e : inr i 0 3 = true := by unfold inr; exact decide_eq_true ⟨h0, h1⟩
  rw [f36, e]
  simp only [Option.bind_some]
  rw [w64 (by omega) (by omega)]
  rfl
theorem xor32 {x b : Int} (h0 : 0 ≤ x) (h1 : x < 4294967296) (h2 : 0 ≤ b) (h3 : b < 256) : 0 ≤ xorI .i64 x b ∧ xorI .i64 x b < 4294967296 := by
  obtain ⟨X, rfl⟩ := Int.eq_ofNat_of_zero_le h0
  obtain ⟨B, rfl⟩ := Int.eq_ofNat_of_zero_le h2
  unfold xorI
  have hX : (BitVec.ofInt IntKind.i64.bits (X : Int)).toNat = X := by
    rw [BitVec.toNat_ofInt]
    show ((X : Int) % (2 ^ 64 : Nat)).toNat = X
    omega
  have hB : (BitVec.ofInt IntKind.i64.bits (B : Int)).toNat = B := by
    rw [BitVec.toNat_ofInt]
    show ((B : Int) % (2 ^ 64 : Nat)).toNat = B
    omega
  have hlt : (BitVec.ofInt IntKind.i64.bits (X : Int) ^^^ BitVec.ofInt IntKind.i64.bits (B : Int)).toNat < 2 ^ 32 := by
    rw [BitVec.toNat_xor, hX, hB]
    exact Nat.xor_lt_two_pow (by omega) (by omega)
  generalize (BitVec.ofInt IntKind.i64.bits (X : Int) ^^^ BitVec.ofInt IntKind.i64.bits (B : Int)).toNat = Z at hlt
  rw [IntKind.wrap_i64]
  omega
theorem t151_0 {n : Nat} {s : ByteArray} (hs : s.size ≤ 1048576) : ∀ (k i : Nat) (x : Int), i ≤ s.size → s.size - i < k → 0 ≤ x → x < 4294967296 → ok (lp151_0 n k s x (i : Int)) fun r => 0 ≤ r.1 ∧ r.1 < 4294967296
  | 0, i, x, h, hk, a, b => by omega
  | k + 1, i, x, h, hk, a, b => by
    show ok (st151_0 n (lp151_0 n k) s x _) _
    unfold st151_0
    refine ok.ite (fun h1 => ok.guard (by omega) (ok.guard h1 (ok.guard (by decide) ?_))) (fun h1 => ok.some ⟨a, b⟩)
    have hb := bt_bd s (i : Int)
    rw [w64 (x := bt s (i : Int)) (by omega) (by omega)]
    obtain ⟨z, hz⟩ : ∃ z, z = xorI .i64 x (bt s (i : Int)) := ⟨_, rfl⟩
    have hx := xor32 a b hb.1 hb.2
    rw [← hz] at hx ⊢
    clear hz
    rw [w64 (x := z * 16777619) (by omega) (by omega)]
    have ht := tmod_bd (x := z * 16777619) (n := 4294967296) (by omega) (by decide)
    obtain ⟨y, hy⟩ : ∃ y, y = (z * 16777619).tmod 4294967296 := ⟨_, rfl⟩
    rw [← hy] at ht ⊢
    clear hy
    have e : wrap64 ((i : Int) + 1) = ((i + 1 : Nat) : Int) := by rw [w64 (by omega) (by omega)]; rfl
    rw [e]
    exact t151_0 hs k (i + 1) y (by omega) (by omega) ht.1 ht.2
theorem t125 {n : Nat} (hn : 2000000 ≤ n) {s : ByteArray} (hs : s.size ≤ 1048576) (hk : kob n s = true) {i : Int} (h0 : 0 ≤ i) (h1 : i ≤ 3) : ok (F125 n s i) fun r => 0 ≤ r.1 ∧ r.1 < 4 := by
  obtain ⟨⟨b, u⟩, h, _⟩ := t46g (n := n) hs hn
  have hb : b = true := by unfold kob at hk; rw [h] at hk; exact hk
  subst hb
  have e : inr i 0 3 = true := by unfold inr; exact decide_eq_true ⟨h0, h1⟩
  unfold F125
  rw [h, f36, e]
  simp only [Option.bind_some]
  refine ok.iteb (fun h => by cases h) (fun _ => ok.iteb (fun h => by cases h) (fun _ => ?_))
  have h151 : ok (F151 n s) fun r => 0 ≤ r.1 ∧ r.1 < 4294967296 := t151_0 hs n 0 2166136261 (by omega) (by omega) (by decide) (by decide)
  refine h151.bind fun r3 q3 => ok.guard (by decide) (ok.some ?_)
  rw [w64 (x := r3.1 + i) (by omega) (by omega)]
  exact tmod_bd (by omega) (by decide)
theorem t122 {n : Nat} {x : Int} : ok (F122 n x) fun _ => True := by
  unfold F122
  rw [f36]
  simp only [Option.bind_some]
  refine ok.iteb (fun _ => ok.some trivial) (fun h => ?_)
  have h : inr x 1 3 = true := by simpa using h
  unfold inr at h
  have h := of_decide_eq_true h
  rw [w64 (by omega) (by omega)]
  exact ok.guard (by omega) (ok.guard (by simp only [List.length_cons, List.length_nil]; omega) (ok.some trivial))
def p256 : Nat → Int
  | 0 => 1
  | d + 1 => p256 d * 256
theorem strOf_size (l : List Int) : (strOf l).size = l.length := by
  show Array.size (List.toArray _) = _
  rw [List.size_toArray, List.length_map]
theorem t152_0 {n : Nat} (hn : 2000000 ≤ n) : ∀ (d k : Nat) (i : Int) (l : List Int), i < p256 d → d < k → l.length + d ≤ 1000 → i ≤ 4294967296 → ok (lp152_0 n k i l) fun r => r.1.size ≤ 4
  | d, 0, i, l, h, hk, hl, hi => by omega
  | d, k + 1, i, l, h, hk, hl, hi => by
    show ok (st152_0 n (lp152_0 n k) i l) _
    unfold st152_0
    refine ok.ite (fun h1 => ok.guard (by decide) (ok.guard (by simp only [List.length_cons, List.length_nil]; omega) (ok.guard (by decide) ?_))) (fun h1 => ?_)
    · cases d with
      | zero =>
        have h : i < 1 := h
        omega
      | succ d =>
        have h : i < p256 d * 256 := h
        have e : wrap64 (i.tdiv 256) = i / 256 := by rw [Int.tdiv_eq_ediv_of_nonneg (by omega), w64 (by omega) (by omega)]
        rw [e]
        exact t152_0 hn d k _ _ (by omega) (by omega) (by simp only [List.length_append, List.length_cons, List.length_nil]; omega) (by omega)
    · have hsz : (strOf l).size ≤ 1048576 := by rw [strOf_size]; omega
      have h2 : ok (F46 n (strOf l)) fun r => r.1 = true → (∀ j, 0 ≤ j → j < (strOf l).size → kc (bt (strOf l) (j : Int)) = true) ∧ 1 ≤ (strOf l).size ∧ (strOf l).size ≤ 4 := t46k (n := n) hsz n 0 (by omega) (by omega)
      refine h2.bind fun r2 q2 => ok.iteb (fun _ => ok.some (by show 0 ≤ 4; omega)) (fun h3 => ok.some ?_)
      exact (q2 (by simpa using h3)).2.2
theorem t126 {n : Nat} (hn : 2000000 ≤ n) {x : Int} : ok (F126 n x) fun r => r.1.size ≤ 4 := by
  have h0 : (⟨#[]⟩ : ByteArray).size ≤ 4 := by show 0 ≤ 4; omega
  unfold F126
  rw [f36]
  simp only [Option.bind_some]
  refine ok.iteb (fun _ => ok.some h0) (fun h => ok.guard (by decide) ?_)
  have h152 : ∀ y : Int, ok (F152 n y) fun r => r.1.size ≤ 4 := fun y => by
    unfold F152 st152
    rw [f36]
    simp only [Option.bind_some]
    refine ok.iteb (fun _ => ok.some h0) (fun h => ?_)
    have h : inr y 1 4294967295 = true := by simpa using h
    unfold inr at h
    have h := of_decide_eq_true h
    exact t152_0 hn 4 n y [] (Int.lt_of_le_of_lt h.2 (by decide)) (by omega) (by simp) (by omega)
  exact (h152 _).bind fun r2 q2 => ok.iteb (fun _ => ok.some h0) (fun _ => ok.guard (by decide) (t122.bind fun r3 _ => ok.iteb (fun _ => ok.some h0) (fun _ => ok.guard (by decide) (ok.some q2))))
theorem t153_0 {n : Nat} {s : ByteArray} (hs : s.size ≤ 1048576) : ∀ (k i : Nat) (x : Int), i ≤ s.size → s.size - i < k → ok (lp153_0 n k s x (i : Int)) fun _ => True
  | 0, i, x, h, hk => by omega
  | k + 1, i, x, h, hk => by
    show ok (st153_0 n (lp153_0 n k) s x _) _
    unfold st153_0
    refine ok.ite (fun h1 => ok.guard (by omega) (ok.guard h1 ?_)) (fun h1 => ok.some trivial)
    have e : wrap64 ((i : Int) + 1) = ((i + 1 : Nat) : Int) := by rw [w64 (by omega) (by omega)]; rfl
    rw [e]
    exact t153_0 hs k (i + 1) _ (by omega) (by omega)
theorem t128 {n : Nat} (hn : 2000000 ≤ n) {s : ByteArray} (hs : s.size ≤ 1048576) {x : Int} : ok (F128 n s x) fun r => r.1 ≠ 0 → kob n s = true := by
  obtain ⟨⟨b, u⟩, h, _⟩ := t46g (n := n) hs hn
  have hb : kob n s = b := by unfold kob; rw [h]; rfl
  unfold F128
  rw [h, hb]
  simp only [Option.bind_some]
  refine ok.iteb (fun _ => ok.some fun h => absurd rfl h) (fun h2 => ?_)
  have h2 : b = true := by simpa using h2
  refine t122.bind fun r2 _ => ok.iteb (fun _ => ok.some fun h => absurd rfl h) (fun _ => ?_)
  have h153 : ok (F153 n s) fun _ => True := by
    unfold F153 st153
    rw [h]
    simp only [Option.bind_some]
    exact ok.iteb (fun _ => ok.some trivial) (fun _ => t153_0 hs n 0 _ (by omega) (by omega))
  exact h153.bind fun r3 _ => ok.some fun _ => h2
def slot (x : Int) : Prop := x = -1 ∨ (0 ≤ x ∧ x < 4)
theorem t158_0 {n : Nat} (hn : 2000000 ≤ n) {a : List Int} (ha : a.length = 71) {s : ByteArray} (hs : s.size ≤ 1048576) (hk : kob n s = true) : ∀ (k i : Nat), i ≤ 4 → 4 - i < k → ok (lp158_0 n k a s (i : Int)) fun r => slot r.1 ∧ slot r.2.2.1
  | 0, i, h, hk => by omega
  | k + 1, i, h, hk' => by
    show ok (st158_0 n (lp158_0 n k) a s _) _
    unfold st158_0
    refine ok.ite (fun h1 => ?_) (fun h1 => ok.some ⟨.inl rfl, .inl rfl⟩)
    refine (t125 hn hs hk (i := (i : Int)) (by omega) (by omega)).bind fun r1 q1 => ?_
    rw [f38 q1.1 (by omega)]
    simp only [Option.bind_some]
    refine ok.guard (by omega) (ok.guard (by omega) (ok.ite (fun _ => ok.some ⟨.inl rfl, .inr q1⟩) (fun _ => (t126 hn).bind fun r3 q3 => ok.iteb (fun _ => ok.some ⟨.inr q1, .inl rfl⟩) (fun _ => ?_))))
    have e : wrap64 ((i : Int) + 1) = ((i + 1 : Nat) : Int) := by rw [w64 (by omega) (by omega)]; rfl
    rw [e]
    exact t158_0 hn ha hs hk k (i + 1) (by omega) (by omega)
theorem t158 {n : Nat} (hn : 2000000 ≤ n) {a : List Int} (ha : a.length = 71) {s : ByteArray} (hs : s.size ≤ 1048576) (hk : kob n s = true) : ok (F158 n a s) fun r => slot r.1 ∧ slot r.2.2.1 := t158_0 hn ha hs hk n 0 (by omega) (by omega)
theorem t139 {n : Nat} (hn : 2000000 ≤ n) {a : List Int} (ha : a.length = 71) {s : ByteArray} (hs : s.size ≤ 1048576) {x : Int} : ok (F139 n a s x) fun r => r.1.length = 71 := by
  unfold F139
  rw [f98 (by omega)]
  simp only [Option.bind_some]
  refine (t9 hn (a := a) (by omega)).bind fun r2 _ => ok.iteb (fun _ => ok.some ha) (fun _ => (t128 hn hs).bind fun r3 q3 => ok.ite (fun _ => ok.some ha) (fun h3 => ?_))
  refine (t158 hn ha hs (q3 h3)).bind fun r4 q4 => ?_
  have hj : ∀ b : Bool, ok (j139_0 n s x r4.1 r4.2.2.1 b a) fun r => r.1.length = 71 := fun b => by
    unfold j139_0
    refine ok.iteb (fun _ => ok.some ha) (fun _ => ok.ite (fun _ => ok.some ha) (fun h => ?_))
    have h4 : 0 ≤ r4.2.2.1 ∧ r4.2.2.1 < 4 := q4.2.elim (fun e => by omega) id
    rw [f38 h4.1 (by omega)]
    simp only [Option.bind_some]
    exact (t128 hn hs).bind fun r6 _ => ok.guard (by omega) (ok.guard (by omega) (ok.some (by show (a.set _ _).length = 71; rw [List.length_set]; exact ha)))
  exact ok.ite (fun _ => ok.ite (fun _ => ok.some ha) (fun _ => hj _)) (fun _ => hj _)
theorem t105_0 {n : Nat} (hn : 2000000 ≤ n) : ∀ (k : Nat) (i0 : Int) (a l : List Int) (i h : Int), 0 ≤ i0 → i0 < k → i0 ≤ 1000 → a.length = 71 → Cur l i → ok (lp105_0 n k i0 a l i h) fun r => r.1.length = 71 ∧ Cur r.2.1 r.2.2.1
  | 0, i0, a, l, i, h, h0, hk, hb, ha, c => by omega
  | k + 1, i0, a, l, i, h, h0, hk, hb, ha, c => by
    show ok (st105_0 n (lp105_0 n k) i0 a l i h) _
    unfold st105_0
    refine ok.ite (fun h1 => (t112 c).bind fun r2 q2 => (t39 q2.2).bind fun r3 q3 => (t139 hn ha (by omega)).bind fun r4 q4 => ?_) (fun h1 => ok.some ⟨ha, c⟩)
    rw [w64 (x := i0 - 1) (by omega) (by omega)]
    exact t105_0 hn k _ _ _ _ _ (by omega) (by omega) (by omega) q4 q3.2.2.2
theorem rep71 : (List.replicate (71 : Int).toNat (0 : Int)).length = 71 := by simp
theorem t105 {n : Nat} (hn : 2000000 ≤ n) {m : Int} (hm0 : 0 ≤ m) (hm : m ≤ 100) {l : List Int} {i h : Int} (c : Cur l i) : ok (F105 n m l i h) fun r => r.1.length = 71 ∧ Cur r.2.1 r.2.2.1 := by
  unfold F105 st105
  refine ok.guard (by decide) (ok.guard (by decide) (ok.guard (by decide) ((t39 c).bind fun r1 q1 => ?_)))
  rw [w64 (x := m + 1) (by omega) (by omega)] at q1
  have := q1.2.1 (by omega)
  exact t105_0 hn n _ _ _ _ _ q1.1 (by omega) (by omega) rep71 q1.2.2.2
theorem f130 {n : Nat} {b : Int} (h0 : 0 ≤ b) (h1 : b ≤ 1) : F130 n b = some (1 + b, ()) := by
  unfold F130
  have e : inr b 0 1 = true := by unfold inr; exact decide_eq_true ⟨h0, h1⟩
  rw [f36, e]
  simp only [Option.bind_some]
  rw [w64 (by omega) (by omega)]
  rfl
theorem f167 {n : Nat} {b s : Int} (h0 : 0 ≤ b) (h1 : b ≤ 1) (h2 : 0 ≤ s) (h3 : s ≤ 3) : F167 n b s = some (7 + b * 32 + s * 8, ()) := by
  unfold F167
  have e : inr b 0 1 = true := by unfold inr; exact decide_eq_true ⟨h0, h1⟩
  have e2 : inr s 0 3 = true := by unfold inr; exact decide_eq_true ⟨h2, h3⟩
  rw [f36, f36, e, e2]
  simp only [Option.bind_some]
  rw [w64 (x := b * 32) (by omega) (by omega), w64 (x := s * 8) (by omega) (by omega), w64 (x := 7 + b * 32) (by omega) (by omega), w64 (by omega) (by omega)]
  rfl
theorem t168 {n : Nat} {a : List Int} (ha : a.length = 71) {b s : Int} (h0 : 0 ≤ b) (h1 : b ≤ 1) (h2 : 0 ≤ s) (h3 : s ≤ 3) : ok (F168 n a b s) fun r => r.1.length = 8 := by
  unfold F168
  rw [f167 h0 h1 h2 h3]
  simp only [Option.bind_some]
  rw [w64 (x := 7 + b * 32 + s * 8 + 8) (by omega) (by omega)]
  refine ok.guard (by omega) (ok.guard (by omega) (ok.guard (by omega) (ok.some ?_)))
  show (cutL a _ _).length = 8
  unfold cutL
  rw [List.length_drop, List.length_take]
  omega

theorem t113s {n : Nat} (hn : 100 ≤ n) {s : ByteArray} {a b : Int} {t : Bool} {d e f g u v x : Int} (hs : s.size ≤ 4) : ok (F113 n s a b t d e f g u v x) fun r => r.1.size ≤ 4 := (t113 (by omega) hn).mono fun r q => by rw [q]; exact hs
theorem f142 {n : Nat} {x : Int} : ok (F142 n x) fun _ => True := by
  unfold F142
  exact ok.guard (by decide) (ok.guard (by decide) (ok.some trivial))
theorem f133 {n : Nat} {x : Int} : ok (F133 n x) fun _ => True := by
  unfold F133
  rw [f36]
  simp only [Option.bind_some]
  exact ok.iteb (fun _ => ok.some trivial) (fun _ => ok.guard (by decide) (ok.guard (by decide) (ok.some trivial)))
theorem f134 {n : Nat} {x y : Int} : ok (F134 n x y) fun _ => True := by
  unfold F134
  rw [f36, f36]
  simp only [Option.bind_some]
  exact ok.iteb (fun _ => ok.some trivial) (fun _ => ok.iteb (fun _ => ok.some trivial) (fun _ => ok.some trivial))
theorem t123_0 {n : Nat} {w : List Int} (hw : w.length = 8) {s2 : ByteArray} {i3 i4 : Int} {b5 : Bool} {i6 i7 i8 i9 i10 i11 : Int} {s12 : ByteArray} {i13 : Int} {b15 : Bool} {i16 i17 i18 i19 i20 i21 : Int} : ∀ (k i : Nat) (i14 : Int), i ≤ 2 → 2 - i < k → ok (lp123_0 n k w (i : Int) s2 i3 i4 b5 i6 i7 i8 i9 i10 i11 s12 i13 i14 b15 i16 i17 i18 i19 i20 i21) fun _ => True
  | 0, i, i14, h, hk => by omega
  | k + 1, i, i14, h, hk => by
    show ok (st123_0 n (lp123_0 n k) w _ s2 i3 i4 b5 i6 i7 i8 i9 i10 i11 s12 i13 i14 b15 i16 i17 i18 i19 i20 i21) _
    unfold st123_0
    refine ok.ite (fun h1 => ok.guard (by omega) (ok.guard (by omega) (f142.bind fun r2 _ => f142.bind fun r3 _ => ?_))) (fun _ => ok.some trivial)
    have e : wrap64 ((i : Int) + 1) = ((i + 1 : Nat) : Int) := by rw [w64 (by omega) (by omega)]; rfl
    rw [e]
    exact t123_0 hw k (i + 1) _ (by omega) (by omega)
theorem t123_1 {n : Nat} (hn : 100 ≤ n) {w : List Int} (hw : w.length = 8) {s2 : ByteArray} {i3 i4 : Int} {b5 : Bool} {i6 i7 i8 i9 i10 i11 : Int} : ∀ (k i : Nat) (s12 : ByteArray) (i13 i14 : Int) (b15 : Bool) (i16 i17 i18 i19 i20 i21 : Int), i ≤ 3 → 3 - i < k → s12.size ≤ 4 → ok (lp123_1 n k w (i : Int) s2 i3 i4 b5 i6 i7 i8 i9 i10 i11 s12 i13 i14 b15 i16 i17 i18 i19 i20 i21) fun _ => True
  | 0, i, s12, i13, i14, b15, i16, i17, i18, i19, i20, i21, h, hk, hs => by omega
  | k + 1, i, s12, i13, i14, b15, i16, i17, i18, i19, i20, i21, h, hk, hs => by
    show ok (st123_1 n (lp123_1 n k) w _ s2 i3 i4 b5 i6 i7 i8 i9 i10 i11 s12 i13 i14 b15 i16 i17 i18 i19 i20 i21) _
    unfold st123_1
    have hj : ok (j123_0 n w s2 i3 i4 b5 i6 i7 i8 i9 i10 i11 s12 i13 i14 b15 i16 i17 i18 i19 i20 i21) fun _ => True := by
      unfold j123_0
      exact ok.ite (fun _ => ok.guard (by decide) (ok.guard (by omega) (ok.ite (fun _ => ok.guard (by decide) (ok.guard (by omega) (ok.some trivial))) (fun _ => ok.some trivial)))) (fun _ => ok.some trivial)
    refine ok.ite (fun h1 => ok.guard (by decide) (ok.guard (by omega) (ok.ite (fun _ => ?_) (fun _ => hj)))) (fun _ => hj)
    rw [w64 (x := 5 + (i : Int)) (by omega) (by omega)]
    refine ok.guard (by omega) (ok.guard (by omega) ((t113s hn hs).bind fun r5 q5 => ?_))
    have e : wrap64 ((i : Int) + 1) = ((i + 1 : Nat) : Int) := by rw [w64 (by omega) (by omega)]; rfl
    rw [e]
    exact t123_1 hn hw k (i + 1) _ _ _ _ _ _ _ _ _ _ (by omega) (by omega) q5
theorem t123 {n : Nat} (hn : 2000000 ≤ n) {x : Int} {w : List Int} (hw : w.length = 8) : ok (F123 n x w) fun _ => True := by
  unfold F123 st123
  refine (t126 hn).bind fun r1 q1 => ok.ite (fun _ => ok.some trivial) (fun _ => ok.ite (fun _ => ok.some trivial) (fun _ => ok.ite (fun _ => ?_) (fun _ => ok.ite (fun _ => ok.guard (by decide) (ok.guard (by omega) (f133.bind fun r4 _ => ok.some trivial))) (fun _ => ?_))))
  · exact t123_0 hw n 0 _ (by omega) (by omega)
  · exact t123_1 (by omega) hw n 0 _ _ _ _ _ _ _ _ _ _ (by omega) (by omega) q1
theorem t159 {n : Nat} (hn : 2000000 ≤ n) {a : List Int} (ha : a.length = 71) {b s : Int} (h0 : 0 ≤ b) (h1 : b ≤ 1) (h2 : 0 ≤ s) (h3 : s ≤ 3) : ok (F159 n a b s) fun _ => True := by
  unfold F159
  refine (t9 hn (a := a) (by omega)).bind fun r1 _ => ok.iteb (fun _ => ok.some trivial) (fun _ => ?_)
  rw [f167 h0 h1 h2 h3, f38 h2 h3]
  simp only [Option.bind_some]
  exact ok.ite (fun _ => ok.some trivial) (fun _ => ok.guard (by omega) (ok.guard (by omega) ((t168 ha h0 h1 h2 h3).bind fun r4 q4 => (t123 hn q4).bind fun r5 _ => ok.some trivial)))
theorem t124_0 {n : Nat} {l : List Rw} (hl : l.length ≤ 1000) {s3 : ByteArray} {i4 i5 : Int} {b6 : Bool} {i7 i8 i9 i10 i11 i12 : Int} : ∀ (k i : Nat) (b : Bool) (out : List Rw), i ≤ l.length → l.length - i < k → out.length ≤ i + (if b = true then 1 else 0) → ok (lp124_0 n k b (i : Int) l s3 i4 i5 b6 i7 i8 i9 i10 i11 i12 out) fun r => r.1.length ≤ l.length + 1
  | 0, i, b, out, h, hk, ho => by omega
  | k + 1, i, b, out, h, hk, ho => by
    show ok (st124_0 n (lp124_0 n k) b _ l s3 i4 i5 b6 i7 i8 i9 i10 i11 i12 out) _
    have hb1 : (if b = true then 1 else 0) ≤ 1 := by split <;> omega
    unfold st124_0
    refine ok.ite (fun h1 => ok.guard (by omega) (ok.guard h1 ?_)) (fun h1 => ok.iteb (fun hb => ok.guard (by simp only [List.length_cons, List.length_nil]; omega) (ok.some ?_)) (fun hb => ok.some ?_))
    · have hi : i < l.length := by omega
      have e : wrap64 ((i : Int) + 1) = ((i + 1 : Nat) : Int) := w1 hi (by omega)
      have hj : ok (j124_0 n (lp124_0 n k) b (i : Int) l s3 i4 i5 b6 i7 i8 i9 i10 i11 i12 out) fun r => r.1.length ≤ l.length + 1 := by
        unfold j124_0
        refine ok.guard (by omega) (ok.guard h1 (ok.guard (by simp only [List.length_cons, List.length_nil]; omega) ?_))
        rw [e]
        exact t124_0 hl k (i + 1) b _ (by omega) (by omega) (by simp only [List.length_append, List.length_cons, List.length_nil]; omega)
      refine ok.ite (fun _ => ok.some (by show l.length ≤ _; omega)) (fun _ => ok.iteb (fun hb => ok.guard (by omega) (ok.guard h1 (ok.iteb (fun _ => ?_) (fun _ => hj)))) (fun _ => hj))
      refine ok.guard (by simp only [List.length_cons, List.length_nil]; omega) (ok.guard (by omega) (ok.guard h1 (ok.guard (by simp only [List.length_append, List.length_cons, List.length_nil]; omega) ?_)))
      rw [e]
      have hb : b = false := by simpa using hb
      subst hb
      exact t124_0 hl k (i + 1) true _ (by omega) (by omega) (by simp only [List.length_append, List.length_cons, List.length_nil] at ho ⊢; simp at ho ⊢; omega)
    · have hb : b = false := by simpa using hb
      subst hb
      show (out ++ _ : List Rw).length ≤ _
      simp only [List.length_append, List.length_cons, List.length_nil]
      simp at ho
      omega
    · show out.length ≤ _
      omega
theorem t124 {n : Nat} (hn : 3000 ≤ n) {l : List Rw} (hl : l.length ≤ 1000) {s3 : ByteArray} {i4 i5 : Int} {b6 : Bool} {i7 i8 i9 i10 i11 i12 : Int} : ok (F124 n l s3 i4 i5 b6 i7 i8 i9 i10 i11 i12) fun r => r.1.length ≤ l.length + 1 := by
  unfold F124 st124
  exact t124_0 hl n 0 false [] (by omega) (by omega) (by simp)
theorem t140_0 {n : Nat} (hn : 2000000 ≤ n) {a : List Int} (ha : a.length = 71) {b : Int} (h0 : 0 ≤ b) (h1 : b ≤ 1) : ∀ (k i : Nat) (l : List Rw), i ≤ 4 → 4 - i < k → l.length ≤ i → ok (lp140_0 n k a b (i : Int) l) fun _ => True
  | 0, i, l, h, hk, hl => by omega
  | k + 1, i, l, h, hk, hl => by
    show ok (st140_0 n (lp140_0 n k) a b _ l) _
    unfold st140_0
    refine ok.ite (fun hi => ?_) (fun _ => ok.some trivial)
    have e : wrap64 ((i : Int) + 1) = ((i + 1 : Nat) : Int) := by rw [w64 (by omega) (by omega)]; rfl
    rw [e]
    have ih := fun l' hl' => t140_0 hn ha h0 h1 k (i + 1) l' (by omega) (by omega) hl'
    refine (t159 hn ha h0 h1 (s := (i : Int)) (by omega) (by omega)).bind fun r3 _ => ok.ite (fun _ => t74.bind fun r4 _ => ok.iteb (fun _ => (t124 (by omega) (l := l) (by omega)).bind fun r5 q5 => ih _ (by omega)) (fun _ => ih _ (by omega))) (fun _ => ih _ (by omega))
theorem t140 {n : Nat} (hn : 2000000 ≤ n) {a : List Int} (ha : a.length = 71) {b : Int} (h0 : 0 ≤ b) (h1 : b ≤ 1) : ok (F140 n a b) fun _ => True := by
  unfold F140 st140
  refine (t9 hn (a := a) (by omega)).bind fun r1 _ => ok.iteb (fun _ => ok.some trivial) (fun _ => ?_)
  rw [f130 h0 h1]
  simp only [Option.bind_some]
  exact ok.ite (fun _ => ok.some trivial) (fun _ => t140_0 hn ha h0 h1 n 0 [] (by omega) (by omega) (by simp))
theorem t141_0 {n : Nat} {b : Int} (h0 : 0 ≤ b) (h1 : b ≤ 1) : ∀ (k i : Nat) (a : List Int), i ≤ 32 → 32 - i < k → a.length = 71 → ok (lp141_0 n k b (i : Int) a) fun r => r.1.length = 71
  | 0, i, a, h, hk, ha => by omega
  | k + 1, i, a, h, hk, ha => by
    show ok (st141_0 n (lp141_0 n k) b _ a) _
    unfold st141_0
    refine ok.ite (fun hi => ?_) (fun _ => ok.some ha)
    have e : wrap64 ((i : Int) + 1) = ((i + 1 : Nat) : Int) := by rw [w64 (by omega) (by omega)]; rfl
    rw [e, w64 (x := b * 32) (by omega) (by omega), w64 (x := 7 + b * 32) (by omega) (by omega), w64 (x := 7 + b * 32 + (i : Int)) (by omega) (by omega)]
    exact ok.guard (by omega) (ok.guard (by omega) (t141_0 h0 h1 k (i + 1) _ (by omega) (by omega) (by rw [List.length_set]; exact ha)))
theorem t141 {n : Nat} (hn : 2000000 ≤ n) {a : List Int} (ha : a.length = 71) {b : Int} (h0 : 0 ≤ b) (h1 : b ≤ 1) : ok (F141 n a b) fun r => r.1.length = 71 := by
  unfold F141 st141
  rw [f98 (by omega), f130 h0 h1]
  simp only [Option.bind_some]
  exact (t9 hn (a := a) (by omega)).bind fun r1 _ => ok.iteb (fun _ => ok.some ha) (fun _ => ok.ite (fun _ => ok.some ha) (fun _ => t141_0 h0 h1 n 0 a (by omega) (by omega) ha))
theorem half {x : Int} (h : 0 ≤ x) : 0 ≤ x.tmod 2 ∧ x.tmod 2 ≤ 1 := by
  have := tmod_bd (x := x) (n := 2) h (by decide)
  omega
theorem t106 {n : Nat} (hn : 2000000 ≤ n) {a : List Int} (ha : a.length = 71) : ok (F106 n a) fun r => r.1.length = 71 := by
  unfold F106
  rw [f98 (by omega)]
  simp only [Option.bind_some]
  refine (t9 hn (a := a) (by omega)).bind fun r2 q2 => ?_
  subst q2
  refine ok.iteb (fun _ => ok.some ha) (fun h => ?_)
  have hc : cokB a = true := by simpa using h
  have h2 := half (cok_rd hc (i := 0) (by decide) (by omega)).1
  refine ok.guard (by decide) (ok.guard (by omega) (ok.guard (by decide) ((t140 hn ha h2.1 h2.2).bind fun r3 _ => (t141 hn ha h2.1 h2.2).bind fun r4 q4 => ok.guard (by decide) (ok.guard (by omega) (f142.bind fun r5 _ => ok.guard (by decide) (ok.guard (by omega) (ok.some ?_)))))))
  show (r4.1.set _ _).length = 71
  rw [List.length_set]; exact q4
theorem t107_0 {n : Nat} (hn : 2000000 ≤ n) {a : List Int} (ha : a.length ≤ 1000) : ∀ (k i : Nat) (l : List ByteArray), i ≤ 4 → 4 - i < k → l.length ≤ i → (∀ x ∈ l, x.size ≤ 4) → ok (lp107_0 n k a (i : Int) l) fun r => r.1.length ≤ 4 ∧ ∀ x ∈ r.1, x.size ≤ 4
  | 0, i, l, h, hk, hl, hs => by omega
  | k + 1, i, l, h, hk, hl, hs => by
    show ok (st107_0 n (lp107_0 n k) a _ l) _
    unfold st107_0
    have hend : l.length ≤ 4 ∧ ∀ x ∈ l, x.size ≤ 4 := ⟨by omega, hs⟩
    refine ok.ite (fun hi => (t9 hn ha).bind fun r1 q1 => ok.iteb (fun hc => ?_) (fun _ => ok.some hend)) (fun _ => ok.some hend)
    subst q1
    have hL := cok_len hc
    rw [f38 (i := (i : Int)) (by omega) (by omega)]
    simp only [Option.bind_some]
    have e : wrap64 ((i : Int) + 1) = ((i + 1 : Nat) : Int) := by rw [w64 (by omega) (by omega)]; rfl
    rw [e]
    refine ok.guard (by omega) (ok.guard (by omega) ((t126 hn).bind fun r3 q3 => ok.ite (fun _ => ok.guard (by simp only [List.length_cons, List.length_nil]; omega) ?_) (fun _ => ?_)))
    · refine t107_0 hn ha k (i + 1) _ (by omega) (by omega) (by simp only [List.length_append, List.length_cons, List.length_nil]; omega) fun x hx => ?_
      rcases List.mem_append.1 hx with hx | hx
      · exact hs x hx
      · rw [List.mem_singleton.1 hx]; exact q3
    · exact t107_0 hn ha k (i + 1) _ (by omega) (by omega) (by omega) hs
theorem t107 {n : Nat} (hn : 2000000 ≤ n) {a : List Int} (ha : a.length ≤ 1000) : ok (F107 n a) fun r => r.1.length ≤ 4 ∧ ∀ x ∈ r.1, x.size ≤ 4 := t107_0 hn ha n 0 [] (by omega) (by omega) (by simp) (fun x hx => by cases hx)
theorem t143 {n : Nat} (hn : 2000000 ≤ n) {a : List Int} (ha : a.length = 71) {s : ByteArray} (hs : s.size ≤ 1048576) : ok (F143 n a s) fun r => slot r.1 := by
  obtain ⟨⟨b, u⟩, h, _⟩ := t46g (n := n) hs hn
  have hb : kob n s = b := by unfold kob; rw [h]; rfl
  unfold F143
  rw [h]
  simp only [Option.bind_some]
  refine (t9 hn (a := a) (by omega)).bind fun r1 _ => ok.iteb (fun _ => ok.some (.inl rfl)) (fun _ => ok.iteb (fun _ => ok.some (.inl rfl)) (fun h2 => ?_))
  have h2 : b = true := by simpa using h2
  exact (t158 hn ha hs (hb.trans h2)).bind fun r3 q3 => ok.some q3.1
theorem f157 {n : Nat} {b s x : Int} (h0 : 0 ≤ b) (h1 : b ≤ 1) (h2 : 0 ≤ s) (h3 : s ≤ 3) (h4 : 0 ≤ x) (h5 : x ≤ 7) : F157 n b s x = some (7 + b * 32 + s * 8 + x, ()) := by
  unfold F157
  rw [f167 h0 h1 h2 h3]
  simp only [Option.bind_some]
  rw [if_neg (by rw [decide_eq_false (by omega)]; decide), w64 (by omega) (by omega)]
theorem t144 {n : Nat} {a : List Int} (hc : cokB a = true) {b s k w v : Int} (h0 : 0 ≤ b) (h1 : b ≤ 1) (h2 : 0 ≤ s) (h3 : s ≤ 3) (h4 : 0 ≤ w) : ok (F144 n a b s k w v) fun r => r.1.length = 71 := by
  have ha := cok_len hc
  have hw := half h4
  have e1 : inr (w.tmod 2) 0 1 = true := by unfold inr; exact decide_eq_true ⟨hw.1, hw.2⟩
  unfold F144 F154 F155 F156 F132
  rw [f36, e1, f157 h0 h1 h2 h3 hw.1 (by omega), f157 h0 h1 h2 h3 (x := 2) (by decide) (by decide), f157 h0 h1 h2 h3 (x := 4) (by decide) (by decide), f157 h0 h1 h2 h3 (x := 3) (by decide) (by decide)]
  simp only [Option.bind_some]
  refine ok.ite (fun _ => ok.guard (by decide) ?_) (fun _ => ok.ite (fun _ => ?_) (fun _ => ?_))
  · rw [if_neg (by decide)]
    simp only [Option.bind_some]
    refine ok.guard (by omega) (ok.guard (by omega) (f142.bind fun r2 _ => ok.guard (by omega) (ok.guard (by omega) (ok.some ?_))))
    show (a.set _ _).length = 71
    rw [List.length_set]; exact ha
  · refine ok.guard (by omega) (ok.guard (by omega) (f142.bind fun r4 _ => ok.guard (by omega) (ok.guard (by omega) ?_)))
    refine ok.guard (by omega) (ok.guard (by rw [List.length_set]; omega) (f133.bind fun r6 _ => ok.guard (by omega) (ok.guard (by rw [List.length_set]; omega) (ok.ite (fun _ => ok.guard (by omega) (ok.guard (by rw [List.length_set]; omega) (f134.bind fun r8 _ => ok.guard (by omega) (ok.guard (by rw [List.length_set]; omega) (ok.some ?_))))) (fun _ => ok.some ?_)))))
    · show ((a.set _ _).set _ _).length = 71
      rw [List.length_set, List.length_set]; exact ha
    · show (a.set _ _).length = 71
      rw [List.length_set]; exact ha
  · obtain ⟨T, hT⟩ : ∃ T, T = 7 + b * 32 + s * 8 + 4 := ⟨_, rfl⟩
    rw [← hT]
    have hr := cok_rd hc (i := T) (by omega) (by omega)
    refine ok.guard (by omega) (ok.guard (by omega) (ok.guard (by omega) (ok.guard (by omega) (f142.bind fun r10 _ => ok.guard (by omega) (ok.guard (by omega) (ok.ite (fun _ => ok.some ?_) (fun hlt => ?_)))))))
    · show (a.set _ _).length = 71
      rw [List.length_set]; exact ha
    · obtain ⟨y, hy⟩ : ∃ y, y = rdOf (0 : Int) a T := ⟨_, rfl⟩
      rw [← hy] at hr hlt ⊢
      have e2 : inr y 0 2 = true := by unfold inr; exact decide_eq_true ⟨hr.1, by omega⟩
      unfold F135
      rw [f36, e2, w64 (x := 5 + y) (by omega) (by omega), f157 h0 h1 h2 h3 (x := 5 + y) (by omega) (by omega)]
      simp only [Option.bind_some]
      rw [if_neg (by decide)]
      simp only [Option.bind_some]
      refine ok.guard (by omega) (ok.guard (by rw [List.length_set]; omega) (ok.some ?_))
      show ((a.set _ _).set _ _).length = 71
      rw [List.length_set, List.length_set]; exact ha
theorem t108 {n : Nat} (hn : 2000000 ≤ n) {a : List Int} (ha : a.length = 71) {w v : Int} {s : ByteArray} (hs : s.size ≤ 1048576) : ok (F108 n a w s v) fun r => r.1.length = 71 := by
  obtain ⟨⟨b, u⟩, h, _⟩ := t46g (n := n) hs hn
  unfold F108
  rw [f98 (by omega), f36, h, f36]
  simp only [Option.bind_some]
  refine (t9 hn (a := a) (by omega)).bind fun r2 q2 => ?_
  subst q2
  refine ok.iteb (fun _ => ok.some ha) (fun hc => ok.iteb (fun _ => ok.some ha) (fun hw => ok.iteb (fun _ => ok.some ha) (fun _ => ok.iteb (fun _ => ok.some ha) (fun _ => (t143 hn ha hs).bind fun r6 q6 => ok.ite (fun _ => ok.some ha) (fun h6 => ?_)))))
  have hc : cokB a = true := by simpa using hc
  have hw : inr w 0 2 = true := by simpa using hw
  unfold inr at hw
  have hw := of_decide_eq_true hw
  have h2 := half (cok_rd hc (i := 0) (by decide) (by omega)).1
  have h7 : 0 ≤ r6.1 ∧ r6.1 < 4 := q6.elim (fun e => by omega) id
  exact ok.guard (by decide) (ok.guard (by omega) (ok.guard (by decide) ((t144 hc h2.1 h2.2 h7.1 (by omega) hw.1).bind fun r7 q7 => ok.iteb (fun _ => ok.some q7) (fun _ => ok.some q7))))
theorem t64_0 {n : Nat} (hn : 2000000 ≤ n) : ∀ (k : Nat) (i0 : Int) (a l : List Int) (i h : Int), 0 ≤ i0 → i0 < k → i0 ≤ 1000 → a.length = 71 → Cur l i → ok (lp64_0 n k i0 a l i h) fun r => r.1.length = 71 ∧ Cur r.2.1 r.2.2.1
  | 0, i0, a, l, i, h, h0, hk, hb, ha, c => by omega
  | k + 1, i0, a, l, i, h, h0, hk, hb, ha, c => by
    show ok (st64_0 n (lp64_0 n k) i0 a l i h) _
    unfold st64_0
    refine ok.ite (fun h1 => (t51 c).bind fun r3 q3 => ?_) (fun h1 => ok.some ⟨ha, c⟩)
    rw [w64 (x := i0 - 1) (by omega) (by omega)]
    have ih := fun a' l' i' h' ha' c' => t64_0 hn k (i0 - 1) a' l' i' h' (by omega) (by omega) (by omega) ha' c'
    have recq : ∀ a' : List Int, a'.length = 71 → ok ((F107 n a').bind fun r5 =>
      if (decide ((r5.1.length : Int) > 0)) = true then
        (F39 n (3 : Int) r3.2.1 r3.2.2.1 r3.2.2.2.1).bind fun r6 =>
        (F39 n (r5.1.length : Int) r6.2.1 r6.2.2.1 r6.2.2.2.1).bind fun r7 =>
        if (decide (0 ≤ r7.1)) = true then
        if (decide (r7.1 < (r5.1.length : Int))) = true then
        (F109 n r7.2.1 r7.2.2.1 r7.2.2.2.1).bind fun r8 =>
        (F108 n a' r6.1 (rdOf (⟨#[]⟩ : ByteArray) r5.1 r7.1) r8.1).bind fun r9 =>
        lp64_0 n k (i0 - 1) r9.1 r8.2.1 r8.2.2.1 r8.2.2.2.1
        else none
        else none
      else
        lp64_0 n k (i0 - 1) a' r3.2.1 r3.2.2.1 r3.2.2.2.1) fun r => r.1.length = 71 ∧ Cur r.2.1 r.2.2.1 := fun a' ha' => by
      refine (t107 hn (a := a') (by omega)).bind fun r5 q5 => ok.ite (fun h5 => (t39 q3).bind fun r6 q6 => (t39 q6.2.2.2).bind fun r7 q7 => ?_) (fun _ => ih _ _ _ _ ha' q3)
      have h7 := q7.2.1 (by omega)
      refine ok.guard q7.1 (ok.guard h7 ((t109 q7.2.2.2).bind fun r8 q8 => ?_))
      have hs := q5.2 _ (rdOf_mem (d := (⟨#[]⟩ : ByteArray)) q7.1 h7)
      exact (t108 hn ha' (by omega)).bind fun r9 q9 => ih _ _ _ _ q9 q8
    exact ok.iteb (fun _ => (t106 hn ha).bind fun r4 q4 => recq _ q4) (fun _ => recq _ ha)
theorem t64 {n : Nat} (hn : 2000000 ≤ n) {l : List Int} {i h : Int} (c : Cur l i) : ok (F64 n l i h) fun r => r.1.length = 71 ∧ Cur r.2.1 r.2.2.1 := by
  unfold F64 st64
  refine (t105 hn (m := 5) (by decide) (by decide) c).bind fun r1 q1 => (t39 q1.2).bind fun r2 q2 => ?_
  have := q2.2.1 (by decide)
  exact t64_0 hn n _ _ _ _ _ q2.1 (by omega) (by omega) q1.1 q2.2.2.2
theorem t66_0 {n : Nat} : ∀ (k : Nat) (i0 : Int) (a l : List Int) (i h : Int), 0 ≤ i0 → i0 < k → i0 ≤ 1000 → a.length = 71 → Cur l i → ok (lp66_0 n k i0 a l i h) fun r => r.1.length ≤ 71
  | 0, i0, a, l, i, h, h0, hk, hb, ha, c => by omega
  | k + 1, i0, a, l, i, h, h0, hk, hb, ha, c => by
    show ok (st66_0 n (lp66_0 n k) i0 a l i h) _
    unfold st66_0
    refine ok.ite (fun h1 => (t39 c).bind fun r2 q2 => (t39 q2.2.2.2).bind fun r3 q3 => (t65 q3.2.2.2 (by simp)).bind fun r4 q4 => ?_) (fun h1 => (t39 c).bind fun r5 q5 => ok.ite (fun _ => ?_) (fun _ => ok.ite (fun _ => (t39 q5.2.2.2).bind fun r6 q6 => (t65 q6.2.2.2 (by decide)).bind fun r7 q7 => ?_) (fun _ => ok.some (by show a.length ≤ 71; omega))))
    · have := q2.2.1 (by omega)
      rw [w64 (x := i0 - 1) (by omega) (by omega)]
      exact ok.guard q2.1 (ok.guard this (t66_0 k _ _ _ _ _ (by omega) (by omega) (by omega) (by rw [List.length_set]; exact ha) q4.2))
    · rw [w64 (x := (a.length : Int) - 1) (by omega) (by omega)]
      refine ok.guard (by decide) (ok.guard (by omega) (ok.guard (by omega) (ok.some ?_)))
      show (cutL a _ _).length ≤ 71
      unfold cutL
      rw [List.length_drop, List.length_take]
      omega
    · have := q6.2.1 (by omega)
      refine ok.guard q6.1 (ok.guard this (ok.some ?_))
      show (a.set _ _).length ≤ 71
      rw [List.length_set]; omega
theorem t66 {n : Nat} (hn : 2000000 ≤ n) {l : List Int} {i h : Int} (c : Cur l i) : ok (F66 n l i h) fun r => r.1.length ≤ 71 := by
  unfold F66 st66
  refine ok.guard (by decide) (ok.guard (by decide) (ok.guard (by decide) ((t39 c).bind fun r1 q1 => ?_)))
  have := q1.2.1 (by decide)
  exact t66_0 n _ _ _ _ _ q1.1 (by omega) (by omega) rep71 q1.2.2.2
theorem t31 {n : Nat} (hn : 2000000 ≤ n) {l : List Int} {i h : Int} (c : Cur l i) : ok (F31 n l i h) fun r => r.1.length ≤ 71 := by
  unfold F31
  refine (t64 hn c).bind fun r1 q1 => (t39 q1.2).bind fun r2 q2 => ok.ite (fun _ => (t39 q2.2.2.2).bind fun r3 q3 => (t65 q3.2.2.2 (by decide)).bind fun r4 q4 => ?_) (fun _ => ok.ite (fun _ => (t66 hn q2.2.2.2).bind fun r5 q5 => ok.some q5) (fun _ => ok.ite (fun _ => (t65 q2.2.2.2 (by decide)).bind fun r6 q6 => ?_) (fun _ => ok.some (by show r1.1.length ≤ 71; omega))))
  · have := q3.2.1 (by omega)
    refine ok.guard q3.1 (ok.guard this (ok.some ?_))
    show (r1.1.set _ _).length ≤ 71
    rw [List.length_set]; omega
  · refine ok.guard (by decide) (ok.guard (by omega) (ok.some ?_))
    show (r1.1.set _ _).length ≤ 71
    rw [List.length_set]; omega
end Go.Eva
end
section
/- FnUsage: names of cells, used cells, free slots, the law. -/
namespace Go.Eva
open Go.RowKit (wrap64)
set_option linter.unusedVariables false
set_option linter.unusedSimpArgs false

theorem t110 {n : Nat} {a : List Int} (ha : a.length ≤ 1000) : ∀ (k i : Nat), i ≤ a.length → a.length - i < k → ok (lp110_68_0 n k a (a.length : Int) (i : Int)) fun r => decide (r.1 ≥ 0) = !(a.drop i).all wd
  | 0, i, h, hk => by omega
  | k + 1, i, h, hk => by
    show ok (st110_68_0 n (lp110_68_0 n k) a _ _) _
    unfold st110_68_0
    refine ok.ite (fun h1 => ok.guard (by omega) (ok.guard h1 ?_)) (fun h1 => ok.some ?_)
    · have hi : i < a.length := by omega
      rw [rdOf_nat hi, drop_cons hi]
      unfold F68 F69
      rw [f70]
      simp only [Option.bind_some]
      refine ok.iteb (fun h2 => ok.some ?_) (fun h2 => ?_)
      · have h2 : wd a[i] = false := by unfold wd; simpa using h2
        rw [List.all_cons, h2, decide_eq_true (by show (i : Int) ≥ 0; omega)]; rfl
      · have h2 : wd a[i] = true := by unfold wd; simpa using h2
        rw [w1 hi (by omega)]
        refine (t110 ha k (i + 1) (by omega) (by omega)).mono fun r hr => ?_
        rw [hr, List.all_cons, h2]; rfl
    · rw [List.drop_eq_nil_of_le (by omega)]; rfl
theorem t33 {n : Nat} (hn : 2000000 ≤ n) {a : List Int} (ha : a.length ≤ 1000) : ok (F33 n a) fun r => r = (cokB a, ()) := by
  unfold F33
  refine ok.ite (fun h => ?_) (fun h => ok.some ?_)
  · have h67 : ok (F67_68 n a) fun r => r = (!a.all wd, ()) := by
      unfold F67_68 F110_68 st110_68
      refine (t110 ha n 0 (by omega) (by omega)).bind fun r q => ok.some ?_
      rw [q]; rfl
    refine h67.bind fun r q => ok.some ?_
    rw [q]
    unfold cokB
    rw [decide_eq_true h]
    simp
  · unfold cokB
    rw [decide_eq_false h]
    simp
theorem t11k {n : Nat} (hn : 2000000 ≤ n) {x : Int} (h0 : 0 ≤ x) (h1 : x ≤ 9223372036854775807) : ok (F11 n x) fun r => r = (dB x, ()) := by
  obtain ⟨m, rfl⟩ := Int.eq_ofNat_of_zero_le h0
  exact ⟨_, t11 (by omega) h1, rfl⟩
theorem itoB_dB (x : Int) : itoB x = dB x := rfl
theorem dB_sz {x : Int} (h0 : 0 ≤ x) (h1 : x ≤ 281474976710655) : (dB x).size ≤ 21 := dB_size (by omega) (by omega)
theorem t10 {n : Nat} (hn : 2000000 ≤ n) {x : Int} (h0 : 0 ≤ x) (h1 : x ≤ 70) : ok (F10 n x) fun r => r = (nameB x, ()) ∧ r.1.size ≤ 200 := by
  have q1 : (⟨#[32]⟩ : ByteArray).size = 1 := rfl
  have q2 : (⟨#[115, 116, 114, 105, 112, 101]⟩ : ByteArray).size = 6 := rfl
  have q3 : (⟨#[114, 105, 110, 103]⟩ : ByteArray).size = 4 := rfl
  have q4 : (⟨#[105, 110, 32]⟩ : ByteArray).size = 3 := rfl
  have q5 : (⟨#[107, 101, 121, 32]⟩ : ByteArray).size = 4 := rfl
  have q6 : (⟨#[115, 116, 97, 109, 112]⟩ : ByteArray).size = 5 := rfl
  have q7 : (⟨#[103, 97, 117, 103, 101]⟩ : ByteArray).size = 5 := rfl
  have q8 : (⟨#[116, 105, 99, 107, 101, 116]⟩ : ByteArray).size = 6 := rfl
  have h36 : ok (F36 n x 0 70) fun r => r = (true, ()) := by
    rw [f36]
    exact ok.some (by unfold inr; rw [decide_eq_true ⟨h0, h1⟩])
  unfold F10
  refine h36.bind fun r1 e1 => ?_
  subst e1
  refine ok.iteb (fun h => by cases h) (fun _ => ok.ite (fun c0 => ok.some ⟨?_, by show 5 ≤ 200; omega⟩) (fun c0 => ok.ite (fun c1 => ?_) (fun c1 => ok.ite (fun c2 => ?_) (fun c2 => ?_))))
  · unfold nameB; rw [if_pos c0]
  · rw [w64 (x := x - 1) (by omega) (by omega)]
    have hs := dB_sz (x := x - 1) (by omega) (by omega)
    refine (t11k hn (x := x - 1) (by omega) (by omega)).bind fun r2 e2 => ?_
    subst e2
    try dsimp only
    refine ok.guard (by rw [q4]; omega) (ok.some ⟨?_, by show (_ ++ _ : ByteArray).size ≤ 200; rw [ByteArray.size_append, q4]; omega⟩)
    unfold nameB
    rw [if_neg c0, if_pos (show 1 ≤ x ∧ x ≤ 2 by omega)]
    rfl
  · rw [w64 (x := x - 3) (by omega) (by omega)]
    have hs := dB_sz (x := x - 3) (by omega) (by omega)
    refine (t11k hn (x := x - 3) (by omega) (by omega)).bind fun r2 e2 => ?_
    subst e2
    try dsimp only
    refine ok.guard (by rw [q5]; omega) (ok.some ⟨?_, by show (_ ++ _ : ByteArray).size ≤ 200; rw [ByteArray.size_append, q5]; omega⟩)
    unfold nameB
    rw [if_neg c0, if_neg (show ¬ (1 ≤ x ∧ x ≤ 2) by omega), if_pos (show 3 ≤ x ∧ x ≤ 6 by omega)]
    rfl
  · have hN : nameB x = if (x - 7) % 8 < 2 then (((⟨#[115, 116, 114, 105, 112, 101]⟩ : ByteArray) ++ placeB x) ++ (⟨#[32]⟩ : ByteArray)) ++ itoB ((x - 7) % 8) else if (x - 7) % 8 = 2 then (⟨#[115, 116, 97, 109, 112]⟩ : ByteArray) ++ placeB x else if (x - 7) % 8 = 3 then (⟨#[103, 97, 117, 103, 101]⟩ : ByteArray) ++ placeB x else if (x - 7) % 8 = 4 then (⟨#[116, 105, 99, 107, 101, 116]⟩ : ByteArray) ++ placeB x else (((⟨#[114, 105, 110, 103]⟩ : ByteArray) ++ placeB x) ++ (⟨#[32]⟩ : ByteArray)) ++ itoB ((x - 7) % 8 - 2 - 3) := by
      unfold nameB
      rw [if_neg c0, if_neg (show ¬ (1 ≤ x ∧ x ≤ 2) by omega), if_neg (show ¬ (3 ≤ x ∧ x ≤ 6) by omega), if_pos (show 7 ≤ x ∧ x ≤ 70 by omega)]
    have e1 : (x - 7).tdiv 32 = (x - 7) / 32 := Int.tdiv_eq_ediv_of_nonneg (by omega)
    have e2 : (x - 7).tmod 32 = (x - 7) % 32 := Int.tmod_eq_emod_of_nonneg (by omega)
    have e3 : (x - 7).tmod 8 = (x - 7) % 8 := Int.tmod_eq_emod_of_nonneg (by omega)
    have e4 : ((x - 7) % 32).tdiv 8 = (x - 7) % 32 / 8 := Int.tdiv_eq_ediv_of_nonneg (by omega)
    rw [w64 (x := x - 7) (by omega) (by omega), e1, e2, e3, e4]
    obtain ⟨B, hB⟩ : ∃ B, B = (x - 7) / 32 := ⟨_, rfl⟩
    obtain ⟨S, hS⟩ : ∃ S, S = (x - 7) % 32 / 8 := ⟨_, rfl⟩
    obtain ⟨K, hK⟩ : ∃ K, K = (x - 7) % 8 := ⟨_, rfl⟩
    have hB0 : 0 ≤ B := by omega
    have hB1 : B ≤ 1 := by omega
    have hS0 : 0 ≤ S := by omega
    have hS1 : S ≤ 3 := by omega
    have hK0 : 0 ≤ K := by omega
    have hK1 : K ≤ 7 := by omega
    have hP : placeB x = ((((⟨#[32]⟩ : ByteArray) ++ dB B) ++ (⟨#[32]⟩ : ByteArray)) ++ dB S) := by unfold placeB; rw [← hB, ← hS]; rfl
    rw [← hK] at hN
    rw [hP] at hN
    rw [← hB, ← hS, ← hK]
    clear e1 e2 e3 e4 hB hS hK hP
    have sB := dB_sz hB0 (by omega)
    have sS := dB_sz hS0 (by omega)
    have sK := dB_sz hK0 (by omega)
    rw [w64 (x := B) (by omega) (by omega), w64 (x := S) (by omega) (by omega)]
    refine ok.guard (by decide) (ok.guard (by decide) (ok.guard (by decide) (ok.guard (by decide) ((t11k hn hB0 (by omega)).bind fun r4 z4 => ?_))))
    subst z4
    try dsimp only
    refine ok.guard (by rw [q1]; omega) (ok.guard (by rw [ByteArray.size_append, q1]; omega) ((t11k hn hS0 (by omega)).bind fun r5 z5 => ?_))
    subst z5
    try dsimp only
    have hpz : ((((⟨#[32]⟩ : ByteArray) ++ dB B) ++ (⟨#[32]⟩ : ByteArray)) ++ dB S).size ≤ 60 := by
      rw [ByteArray.size_append, ByteArray.size_append, ByteArray.size_append, q1]; omega
    refine ok.guard (by rw [ByteArray.size_append, ByteArray.size_append, q1]; omega) ?_
    generalize ((((⟨#[32]⟩ : ByteArray) ++ dB B) ++ (⟨#[32]⟩ : ByteArray)) ++ dB S) = PL at hN hpz ⊢
    refine ok.ite (fun k1 => ok.guard (by rw [q2]; omega) (ok.guard (by rw [ByteArray.size_append, q2, q1]; omega) ((t11k hn hK0 (by omega)).bind fun r6 z6 => ?_))) (fun k1 => ok.ite (fun k2 => ok.guard (by rw [q6]; omega) (ok.some ⟨?_, ?_⟩)) (fun k2 => ok.ite (fun k3 => ok.guard (by rw [q7]; omega) (ok.some ⟨?_, ?_⟩)) (fun k3 => ok.ite (fun k4 => ok.guard (by rw [q8]; omega) (ok.some ⟨?_, ?_⟩)) (fun k4 => ok.guard (by rw [q3]; omega) (ok.guard (by rw [ByteArray.size_append, q3, q1]; omega) ?_)))))
    · subst z6
      try dsimp only
      refine ok.guard (by rw [ByteArray.size_append, ByteArray.size_append, q2, q1]; omega) (ok.some ⟨?_, ?_⟩)
      · rw [hN, if_pos k1]; rfl
      · show (_ ++ _ ++ _ ++ _ : ByteArray).size ≤ 200
        rw [ByteArray.size_append, ByteArray.size_append, ByteArray.size_append, q2, q1]; omega
    · rw [hN, if_neg k1, if_pos k2]
    · show (_ ++ _ : ByteArray).size ≤ 200
      rw [ByteArray.size_append, q6]; omega
    · rw [hN, if_neg k1, if_neg k2, if_pos k3]
    · show (_ ++ _ : ByteArray).size ≤ 200
      rw [ByteArray.size_append, q7]; omega
    · rw [hN, if_neg k1, if_neg k2, if_neg k3, if_pos k4]
    · show (_ ++ _ : ByteArray).size ≤ 200
      rw [ByteArray.size_append, q8]; omega
    · rw [w64 (x := K - 5) (by omega) (by omega)]
      have s5 := dB_sz (x := K - 5) (by omega) (by omega)
      refine (t11k hn (x := K - 5) (by omega) (by omega)).bind fun r7 z7 => ?_
      subst z7
      try dsimp only
      refine ok.guard (by rw [ByteArray.size_append, ByteArray.size_append, q3, q1]; omega) (ok.some ⟨?_, ?_⟩)
      · have e : K - 2 - 3 = K - 5 := by omega
        rw [hN, if_neg k1, if_neg k2, if_neg k3, if_neg k4, e]; rfl
      · show (_ ++ _ ++ _ ++ _ : ByteArray).size ≤ 200
        rw [ByteArray.size_append, ByteArray.size_append, ByteArray.size_append, q3, q1]; omega
/-- A used cell's line; the lines of the cells from one on. -/
def ln (a : List Int) (i : Nat) : ByteArray := (nameB (i : Int) ++ (⟨#[32, 61, 32]⟩ : ByteArray)) ++ dB (rdOf (0 : Int) a (i : Int))
def us (a : List Int) : Nat → Nat → List ByteArray
  | 0, _ => []
  | d + 1, i => if rdOf (0 : Int) a (i : Int) = 0 then us a d (i + 1) else ln a i :: us a d (i + 1)
theorem us_len (a : List Int) : ∀ d i, (us a d i).length ≤ d
  | 0, i => Nat.le_refl _
  | d + 1, i => by
    have := us_len a d (i + 1)
    unfold us
    split
    · omega
    · rw [List.length_cons]; omega
theorem t8_0 {n : Nat} (hn : 2000000 ≤ n) {a : List Int} (hc : cokB a = true) : ∀ (d k i : Nat) (out : List ByteArray), i + d = 71 → d < k → out.length ≤ i → ok (lp8_0 n k a 71 (i : Int) out) fun r => r = (out ++ us a d i, ())
  | d, 0, i, out, h, hk, ho => by omega
  | d, k + 1, i, out, h, hk, ho => by
    have ha := cok_len hc
    show ok (st8_0 n (lp8_0 n k) a 71 _ out) _
    unfold st8_0
    refine ok.ite (fun h1 => ok.guard (by omega) (ok.guard (by omega) ?_)) (fun h1 => ok.some ?_)
    · obtain ⟨d, rfl⟩ : ∃ q, d = q + 1 := ⟨d - 1, by omega⟩
      have e : wrap64 ((i : Int) + 1) = ((i + 1 : Nat) : Int) := by rw [w64 (by omega) (by omega)]; rfl
      rw [e]
      have hr := cok_rd hc (i := (i : Int)) (by omega) (by omega)
      have hz := dB_sz hr.1 hr.2
      have hnm : ok (F34 n (i : Int)) fun r => r = (nameB (i : Int), ()) := ok.some rfl
      have hnz := t10 hn (x := (i : Int)) (by omega) (by omega)
      obtain ⟨r0, _, hq1, hq2⟩ := hnz
      rw [hq1] at hq2
      have hq2 : (nameB (i : Int)).size ≤ 200 := hq2
      have h3 : (⟨#[32, 61, 32]⟩ : ByteArray).size = 3 := rfl
      unfold us
      refine ok.ite (fun h2 => ?_) (fun h2 => ?_)
      · rw [if_neg h2]
        refine hnm.bind fun r2 e2 => ?_
        subst e2
        try dsimp only
        refine ok.guard (by rw [h3]; omega) ?_
        rw [t35 (a := rdOf (0 : Int) a (i : Int)) (by omega) (by omega)]
        refine ok.bind (Q := fun r => r = (dB (rdOf (0 : Int) a (i : Int)), ())) (ok.some rfl) fun r3 e3 => ?_
        subst e3
        try dsimp only
        refine ok.guard (by rw [ByteArray.size_append, h3]; omega) (ok.guard (by simp only [List.length_cons, List.length_nil]; omega) ?_)
        refine (t8_0 hn hc d k (i + 1) _ (by omega) (by omega) (by simp only [List.length_append, List.length_cons, List.length_nil]; omega)).mono fun r q => ?_
        rw [q, List.append_assoc]
        rfl
      · rw [if_pos (Decidable.not_not.1 h2)]
        exact t8_0 hn hc d k (i + 1) _ (by omega) (by omega) (by omega)
    · obtain rfl : d = 0 := by omega
      simp [us]
theorem t8 {n : Nat} (hn : 2000000 ≤ n) {a : List Int} (ha : a.length ≤ 71) : ok (F8 n a) fun r => r = (if cokB a = true then us a 71 0 else [], ()) := by
  unfold F8 st8
  refine (t33 hn (a := a) (by omega)).bind fun r q => ?_
  subst q
  refine ok.iteb (fun h => ok.some ?_) (fun h => ?_)
  · rw [if_neg (by simpa using h)]
  · have hc : cokB a = true := by simpa using h
    have hl := cok_len hc
    rw [if_pos hc, hl]
    exact t8_0 hn hc 71 n 0 [] (by omega) (by omega) (Nat.le_refl _)
def fz (a : List Int) : Nat → Nat → Int → Int
  | 0, _, c => c
  | d + 1, i, c => fz a d (i + 1) (if rdOf (0 : Int) a (3 + (i : Int)) = 0 then c + 1 else c)
theorem f37 {n : Nat} {i : Int} (h0 : 0 ≤ i) (h1 : i ≤ 3) : F37 n i = some (3 + i, ()) := by
  unfold F37
  have e : inr i 0 3 = true := by unfold inr; exact decide_eq_true ⟨h0, h1⟩
  rw [f70, e]
  simp only [Option.bind_some]
  rw [w64 (by omega) (by omega)]
  rfl
theorem t12_0 {n : Nat} {a : List Int} (ha : a.length = 71) : ∀ (d k i : Nat) (c : Int), i + d = 4 → d < k → 0 ≤ c → c ≤ i → ok (lp12_0 n k a c (i : Int)) fun r => r = (fz a d i c, ())
  | d, 0, i, c, h, hk, h0, h1 => by omega
  | d, k + 1, i, c, h, hk, h0, h1 => by
    show ok (st12_0 n (lp12_0 n k) a c _) _
    unfold st12_0
    refine ok.ite (fun h2 => ?_) (fun h2 => ok.some ?_)
    · obtain ⟨d, rfl⟩ : ∃ q, d = q + 1 := ⟨d - 1, by omega⟩
      have e : wrap64 ((i : Int) + 1) = ((i + 1 : Nat) : Int) := by rw [w64 (by omega) (by omega)]; rfl
      rw [e, f37 (by omega) (by omega), w64 (x := c + 1) (by omega) (by omega)]
      refine ok.bind (Q := fun r => r = (3 + (i : Int), ())) (ok.some rfl) fun r2 e2 => ?_
      subst e2
      try dsimp only
      refine ok.guard (by show 0 ≤ 3 + (i : Int); omega) (ok.guard (by show 3 + (i : Int) < _; omega) ?_)
      unfold fz
      refine ok.ite (fun h3 => ?_) (fun h3 => ?_)
      · rw [if_pos h3]
        exact t12_0 ha d k (i + 1) _ (by omega) (by omega) (by omega) (by omega)
      · rw [if_neg h3]
        exact t12_0 ha d k (i + 1) _ (by omega) (by omega) (by omega) (by omega)
    · obtain rfl : d = 0 := by omega
      rfl
theorem t12 {n : Nat} (hn : 2000000 ≤ n) {a : List Int} (ha : a.length ≤ 71) : ok (F12 n a) fun r => r = (if cokB a = true then fz a 4 0 0 else 0, ()) := by
  unfold F12 st12
  refine (t33 hn (a := a) (by omega)).bind fun r q => ?_
  subst q
  refine ok.iteb (fun h => ok.some ?_) (fun h => ?_)
  · rw [if_neg (by simpa using h)]
  · have hc : cokB a = true := by simpa using h
    rw [if_pos hc]
    exact t12_0 (cok_len hc) 4 n 0 0 (by omega) (by omega) (by omega) (by omega)
theorem t13_0 {n : Nat} (hn : 2000000 ≤ n) {a : List Int} (hc : cokB a = true) : ∀ (d k i : Nat) (c : Int), i + d = 4 → d < k → 0 ≤ c → c ≤ i → ok (lp13_0 n k a c (i : Int)) fun r => r = (fz a d i c, ())
  | d, 0, i, c, h, hk, h0, h1 => by omega
  | d, k + 1, i, c, h, hk, h0, h1 => by
    have ha := cok_len hc
    show ok (st13_0 n (lp13_0 n k) a c _) _
    unfold st13_0
    refine ok.ite (fun h2 => (t9 hn (a := a) (by omega)).bind fun r1 q1 => ?_) (fun h2 => ok.some ?_)
    · subst q1
      refine ok.iteb (fun _ => ?_) (fun h => by rw [hc] at h; cases h)
      obtain ⟨d, rfl⟩ : ∃ q, d = q + 1 := ⟨d - 1, by omega⟩
      have e : wrap64 ((i : Int) + 1) = ((i + 1 : Nat) : Int) := by rw [w64 (by omega) (by omega)]; rfl
      rw [e, f38 (by omega) (by omega), w64 (x := c + 1) (by omega) (by omega)]
      refine ok.bind (Q := fun r => r = (3 + (i : Int), ())) (ok.some rfl) fun r2 e2 => ?_
      subst e2
      try dsimp only
      refine ok.guard (by show 0 ≤ 3 + (i : Int); omega) (ok.guard (by show 3 + (i : Int) < _; omega) ?_)
      unfold fz
      refine ok.ite (fun h3 => ?_) (fun h3 => ?_)
      · rw [if_pos h3]
        exact t13_0 hn hc d k (i + 1) _ (by omega) (by omega) (by omega) (by omega)
      · rw [if_neg h3]
        exact t13_0 hn hc d k (i + 1) _ (by omega) (by omega) (by omega) (by omega)
    · obtain rfl : d = 0 := by omega
      rfl
theorem t13 {n : Nat} (hn : 2000000 ≤ n) {a : List Int} (ha : a.length ≤ 71) : ok (F13 n a) fun r => r = (if cokB a = true then fz a 4 0 0 else 0, ()) := by
  unfold F13 st13
  by_cases hc : cokB a = true
  · rw [if_pos hc]
    exact t13_0 hn hc 4 n 0 0 (by omega) (by omega) (by omega) (by omega)
  · rw [if_neg hc]
    obtain ⟨k, rfl⟩ : ∃ q, n = q + 1 := ⟨n - 1, by omega⟩
    show ok (st13_0 (k + 1) (lp13_0 (k + 1) k) a 0 0) _
    unfold st13_0
    refine ok.ite (fun h2 => (t9 hn (a := a) (by omega)).bind fun r1 q1 => ?_) (fun h2 => ok.some rfl)
    subst q1
    exact ok.iteb (fun h => absurd h hc) (fun _ => ok.some rfl)
theorem j3 {n : Nat} (hn : 2000000 ≤ n) {a : List Int} (ha : a.length ≤ 71) {m : Int} {U : List ByteArray} (h : m = (U.length : Int)) : ok (j3_0 n m a U) fun r => r = (true, ()) := by
  unfold j3_0
  refine ok.ite (fun _ => (t12 hn ha).bind fun r7 q7 => (t13 hn ha).bind fun r8 q8 => ok.some ?_) (fun h2 => absurd h h2)
  rw [q7, q8, decide_eq_true rfl]
theorem t3_0 {n : Nat} (hn : 2000000 ≤ n) {a : List Int} (hc : cokB a = true) {U : List ByteArray} (hU : U.length ≤ 71) : ∀ (d k i m : Nat), i + d = 71 → d < k → m ≤ U.length → U.drop m = us a d i → ok (lp3_0 n k (m : Int) (i : Int) a U) fun r => r = (true, ())
  | d, 0, i, m, h, hk, hm, hd => by omega
  | d, k + 1, i, m, h, hk, hm, hd => by
    have ha := cok_len hc
    show ok (st3_0 n (lp3_0 n k) _ _ a U) _
    unfold st3_0
    refine ok.ite (fun h1 => (t9 hn (a := a) (by omega)).bind fun r4 q4 => ?_) (fun h1 => ?_)
    · subst q4
      refine ok.iteb (fun _ => ok.guard (by omega) (ok.guard h1 ?_)) (fun h => by rw [hc] at h; cases h)
      obtain ⟨d, rfl⟩ : ∃ q, d = q + 1 := ⟨d - 1, by omega⟩
      have e : wrap64 ((i : Int) + 1) = ((i + 1 : Nat) : Int) := by rw [w64 (by omega) (by omega)]; rfl
      rw [e]
      unfold us at hd
      refine ok.ite (fun h2 => ?_) (fun h2 => ?_)
      · have hr := cok_rd hc (i := (i : Int)) (by omega) (by omega)
        have hz := dB_sz hr.1 hr.2
        rw [if_neg h2] at hd
        have hml : m < U.length := by
          have : (U.drop m).length ≠ 0 := by rw [hd]; simp
          rw [List.length_drop] at this; omega
        rw [List.drop_eq_getElem_cons hml] at hd
        injection hd with hd1 hd2
        have h3 : (⟨#[32, 61, 32]⟩ : ByteArray).size = 3 := rfl
        refine ok.ite (fun h4 => by omega) (fun _ => ok.guard (by omega) (ok.guard (by omega) ((t10 hn (x := (i : Int)) (by omega) (by omega)).bind fun r5 q5 => ?_)))
        obtain ⟨q5, z5⟩ := q5
        subst q5
        try dsimp only
        have z5 : (nameB (i : Int)).size ≤ 200 := z5
        refine ok.guard (by rw [h3]; omega) (ok.guard (by omega) (ok.guard h1 ((t11k hn hr.1 (by omega)).bind fun r6 q6 => ?_)))
        subst q6
        try dsimp only
        refine ok.guard (by rw [ByteArray.size_append, h3]; omega) ?_
        rw [rdOf_nat hml, hd1]
        refine ok.iteb (fun h5 => ?_) (fun _ => ?_)
        · exfalso
          have h5 : ¬ ((ln a i).toList = (ln a i).toList) := by simp [ln] at h5
          exact h5 rfl
        · have e2 : wrap64 ((m : Int) + 1) = ((m + 1 : Nat) : Int) := by rw [w64 (by omega) (by omega)]; rfl
          rw [e2]
          clear e e2 hr hz z5
          exact t3_0 hn hc hU d k (i + 1) (m + 1) (by omega) (by omega) (by omega) hd2
      · rw [if_pos (Decidable.not_not.1 h2)] at hd
        exact t3_0 hn hc hU d k (i + 1) m (by omega) (by omega) hm hd
    · obtain rfl : d = 0 := by omega
      have : (U.drop m).length = 0 := by rw [hd]; rfl
      rw [List.length_drop] at this
      exact j3 hn (by omega) (by omega)
theorem pureFnUsage (y : List Int) (h1 : y.length ≤ maxLen) (h2 : ∀ b ∈ y, 0 ≤ b ∧ b < 256) : ∃ k, F3 k y = some (true, ()) := by
  obtain ⟨n, hn⟩ : ∃ n : Nat, 2000000 ≤ n := ⟨2000000, Nat.le_refl _⟩
  refine ⟨n, ?_⟩
  suffices h : ok (F3 n y) fun r => r = (true, ()) by
    obtain ⟨r, h, rfl⟩ := h
    exact h
  unfold F3 st3 F6
  simp only [Option.bind_some]
  refine ok.ite (fun _ => ok.some rfl) (fun hb => ?_)
  have hb : y.length ≤ 1048576 := by omega
  have h7 : ok (F7 n y) fun r => r.1.length ≤ 71 := by
    unfold F7
    exact (t32 (by omega) hb h2).bind fun r1 q1 => (t31 hn q1).bind fun r2 q2 => ok.some q2
  refine h7.bind fun r2 q2 => (t8 hn q2).bind fun r3 q3 => ?_
  subst q3
  obtain ⟨a, u⟩ := r2
  have q2 : a.length ≤ 71 := q2
  simp only
  by_cases hc : cokB a = true
  · rw [if_pos hc]
    exact t3_0 hn hc (us_len a 71 0) 71 n 0 0 (by omega) (by omega) (by omega) rfl
  · rw [if_neg hc]
    obtain ⟨k, rfl⟩ : ∃ q, n = q + 1 := ⟨n - 1, by omega⟩
    show ok (st3_0 (k + 1) (lp3_0 (k + 1) k) 0 0 a []) _
    unfold st3_0
    refine ok.ite (fun _ => (t9 hn (a := a) (by omega)).bind fun r1 q1 => ?_) (fun _ => j3 hn q2 rfl)
    subst q1
    exact ok.iteb (fun h => absurd h hc) (fun _ => j3 hn q2 rfl)
end Go.Eva
end
