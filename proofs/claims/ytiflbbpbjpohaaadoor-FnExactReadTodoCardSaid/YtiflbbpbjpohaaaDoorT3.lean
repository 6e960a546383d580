/- A verified evaluator of the translated code, part 3: EvaR_1, EvaR_2, EvaOk, EvaRm, EvaRn, EvaRw, EvaRd, EvaRt, EvaRv, EvaRo, EvaRp, EvaRq, EvaRr, EvaRs, EvaRu, EvaRy, EvaRz -/
import Derived.Test.YtiflbbpbjpohaaaDoorT2
import Derived.WalkKit
import Derived.OwnWalk
import Derived.WalkMore
import Derived.Shelf.RegionOpenPlain
import Derived.Sort.LoopGhostIn
import Derived.Lib.ItoaMem
import Derived.Lib.Split
import Derived.Shelf.Lay
import Derived.Shelf.LaySoft
import Derived.Shelf.Lays
import Derived.Shelf.LaysM
import Derived.Shelf.Small.Utf8
import Derived.Shelf.Strconv.Itoa3
import Derived.Shelf.Strings.Cut
import Derived.Shelf.Strings.Split
import Derived.Laws.Runes
import Derived.Lib.AppendIntMem
import Derived.Lib.OthersKept
import Derived.Lib.RuneLoops
import Derived.Laws.RangeAny
section
/- The functions, as their texts evaluate. -/
set_option linter.unusedVariables false
set_option maxRecDepth 100000
namespace Go.Eva
open Go.Proofs
open Go.RowKit (wrap64)
/-! impl.LinesIn -/
noncomputable def st14_0 (n : Nat) (g0 : Int → Int → (List ByteArray) → (List ByteArray) → Option (List ByteArray × Unit)) (i0 : Int) (i1 : Int) (l2 : List ByteArray) (l3 : List ByteArray) : Option (List ByteArray × Unit) :=
  if (decide (i1 < i0)) = true then
    if (decide (0 ≤ i1)) = true then
    if (decide (i1 < (l3.length : Int))) = true then
    if (!decide ((rdOf (⟨#[]⟩ : ByteArray) l3 i1).toList = (⟨#[]⟩ : ByteArray).toList)) = true then
      if (decide ((l2.length + ([(rdOf (⟨#[]⟩ : ByteArray) l3 i1)] : List ByteArray).length) * 16 ≤ 140737488355328)) = true then
      g0 i0 (wrap64 (i1 + 1)) (l2 ++ ([(rdOf (⟨#[]⟩ : ByteArray) l3 i1)] : List ByteArray)) l3
      else none
    else
      g0 i0 (wrap64 (i1 + 1)) l2 l3
    else none
    else none
  else
    some (l2, ())
noncomputable def lp14_0 (n : Nat) : Nat → Int → Int → (List ByteArray) → (List ByteArray) → Option (List ByteArray × Unit)
  | 0 => fun _ _ _ _ => none
  | k + 1 => st14_0 n (lp14_0 n k)
noncomputable def st14 (n : Nat) (h0 : Int → Int → (List ByteArray) → (List ByteArray) → Option (List ByteArray × Unit)) (a0 : ByteArray) : Option (List ByteArray × Unit) :=
  (F29 n a0 (⟨#[10]⟩ : ByteArray)).bind fun r1 =>
  h0 (r1.1.length : Int) (0 : Int) ([] : List ByteArray) r1.1
noncomputable def F14 (n : Nat) (a0 : ByteArray) : Option (List ByteArray × Unit) := st14 n (lp14_0 n n) a0
noncomputable def c14 (n : Nat) : Con := ⟨[.one (.str)], [], [.one (.sl .own 9 .str)], [], fun (x : ByteArray × Unit) => F14 n x.1⟩
noncomputable def G14 (n : Nat) : Gam := [((29, []), c29 n)]
noncomputable def S14_0 (i0 : Int) (i1 : Int) (l2 : List ByteArray) (l3 : List ByteArray) : St := ⟨[.dead, .dead, .dead, .sr 3 0 none 0 0 none] ++ List.replicate 4 .dead ++ [.sr 8 0 none 0 0 none, .int .i64 i0, .int .i64 i1] ++ List.replicate 11 .dead, [Ob.none, Ob.none, Ob.none, ⟨false, [.sl .own 9 .str l2], 0, 0⟩] ++ List.replicate 4 Ob.none ++ [⟨false, [.sl .own 9 .str l3], 0, 0⟩] ++ List.replicate 13 Ob.none⟩
noncomputable def ga14_0 (n : Nat) (ks : List Nat) (k : Nat) (st : St) : Option (List ByteArray × Unit) := goAt tab (G14 n) n (bodyOf Tryd.f14) (lvOf Tryd.f14) (lvOf Tryd.f14).ret [1, 1, 0, 1, 0] ks k st (evBody.endK tab (c14 n) Tryd.f14)
theorem el14_0 (n : Nat) : ∀ (k : Nat), ∀ (i0 : Int) (i1 : Int) (l2 : List ByteArray) (l3 : List ByteArray), ga14_0 n [] k (S14_0 i0 i1 l2 l3) = lp14_0 n k i0 i1 l2 l3 := by
  intro k
  induction k with
  | zero => intros; rfl
  | succ k ih =>
    intro i0 i1 l2 l3
    have h : ga14_0 n [] (k + 1) (S14_0 i0 i1 l2 l3) = st14_0 n (fun w0 w1 w2 w3 => ga14_0 n [] k (S14_0 w0 w1 w2 w3)) i0 i1 l2 l3 := by kernel_rfl
    rw [h]
    have e : (fun w0 w1 w2 w3 => ga14_0 n [] k (S14_0 w0 w1 w2 w3)) = lp14_0 n k := by
      funext w0 w1 w2 w3; exact ih w0 w1 w2 w3
    rw [e]
    rfl
theorem e14 (n : Nat) (x : ByteArray × Unit) : evBody tab (G14 n) n (c14 n) Tryd.f14 x = F14 n x.1 := by
  have h : evBody tab (G14 n) n (c14 n) Tryd.f14 x = st14 n (fun w0 w1 w2 w3 => ga14_0 n [] n (S14_0 w0 w1 w2 w3)) x.1 := by kernel_rfl
  rw [h]
  have e0 : (fun w0 w1 w2 w3 => ga14_0 n [] n (S14_0 w0 w1 w2 w3)) = lp14_0 n n := by
    funext w0 w1 w2 w3; exact el14_0 n n w0 w1 w2 w3
  rw [e0]
  rfl
theorem g14 (W : World) (n : Nat) (h29 : ∀ n, Good Tryd.prog W 29 (c29 n)) : Good Tryd.prog W 14 (c14 n) := body_good follows tabOk (GamOk.cons ((fun (_ : World) => h29) W n) GamOk.nil) (f := 14) (fn := Tryd.f14) (c := bodyOf Tryd.f14) (by kernel_rfl) (by kernel_rfl) (by kernel_rfl) (by kernel_rfl) (by kernel_rfl) (by kernel_rfl) (by kernel_rfl) (fun x r h => ⟨n, (e14 n x).trans h⟩)
/-! impl.within -/
noncomputable def F18 (n : Nat) (a0 : Int) (a1 : Int) (a2 : Int) : Option (Bool × Unit) :=
  if (decide (a1 ≤ a0)) = true then
    some (decide (a0 ≤ a2), ())
  else
    some (false, ())
noncomputable def c18 (n : Nat) : Con := ⟨[.one (.int .i64), .one (.int .i64), .one (.int .i64)], [], [.one (.bool)], [], fun (x : Int × Int × Int × Unit) => F18 n x.1 x.2.1 x.2.2.1⟩
noncomputable def G18 (n : Nat) : Gam := []
theorem e18 (n : Nat) (x : Int × Int × Int × Unit) : evBody tab (G18 n) n (c18 n) Tryd.f18 x = F18 n x.1 x.2.1 x.2.2.1 := by kernel_rfl
theorem g18 (W : World) (n : Nat) : Good Tryd.prog W 18 (c18 n) := body_good follows tabOk GamOk.nil (f := 18) (fn := Tryd.f18) (c := bodyOf Tryd.f18) (by kernel_rfl) (by kernel_rfl) (by kernel_rfl) (by kernel_rfl) (by kernel_rfl) (by kernel_rfl) (by kernel_rfl) (fun x r h => ⟨n, (e18 n x).trans h⟩)
/-! impl.Dec -/
noncomputable def F31 (n : Nat) (a0 : Int) : Option (ByteArray × Unit) :=
  (F41 n a0).bind fun r1 =>
  some (r1.1, ())
noncomputable def c31 (n : Nat) : Con := ⟨[.one (.int .i64)], [], [.one (.str)], [], fun (x : Int × Unit) => F31 n x.1⟩
noncomputable def G31 (n : Nat) : Gam := [((41, []), c41 n)]
theorem e31 (n : Nat) (x : Int × Unit) : evBody tab (G31 n) n (c31 n) Tryd.f31 x = F31 n x.1 := by kernel_rfl
theorem g31 (W : World) (n : Nat) (h41 : ∀ n, Good Tryd.prog W 41 (c41 n)) : Good Tryd.prog W 31 (c31 n) := body_good follows tabOk (GamOk.cons ((fun (_ : World) => h41) W n) GamOk.nil) (f := 31) (fn := Tryd.f31) (c := bodyOf Tryd.f31) (by kernel_rfl) (by kernel_rfl) (by kernel_rfl) (by kernel_rfl) (by kernel_rfl) (by kernel_rfl) (by kernel_rfl) (fun x r h => ⟨n, (e31 n x).trans h⟩)
/-! impl.ReadDec -/
noncomputable def st16_0 (n : Nat) (g0 : ByteArray → ByteArray → Int → Int → Int → Int → Option (Int × Bool × Unit)) (s0 : ByteArray) (s1 : ByteArray) (i2 : Int) (i3 : Int) (i4 : Int) (i5 : Int) : Option (Int × Bool × Unit) :=
  if (decide (i5 < i4)) = true then
    if (decide (0 ≤ i5)) = true then
    if (decide (i5 < (s1.size : Int))) = true then
    if (decide ((bt s1 i5) < 48)) = true then
      some (0, false, ())
    else
      if (decide (0 ≤ i5)) = true then
      if (decide (i5 < (s1.size : Int))) = true then
      if (decide ((bt s1 i5) > 57)) = true then
        some (0, false, ())
      else
        if (decide (0 ≤ i5)) = true then
        if (decide (i5 < (s1.size : Int))) = true then
        g0 s0 s1 i2 (wrap64 ((wrap64 (10 * i3)) + (wrap64 ((wrapI .u8 ((bt s1 i5) - 48)))))) i4 (wrap64 (i5 + 1))
        else none
        else none
      else none
      else none
    else none
    else none
  else
    (F31 n (wrap64 (i2 * i3))).bind fun r2 =>
    if (!decide (r2.1.toList = s0.toList)) = true then
      some (0, false, ())
    else
      some ((wrap64 (i2 * i3)), true, ())
noncomputable def lp16_0 (n : Nat) : Nat → ByteArray → ByteArray → Int → Int → Int → Int → Option (Int × Bool × Unit)
  | 0 => fun _ _ _ _ _ _ => none
  | k + 1 => st16_0 n (lp16_0 n k)
noncomputable def st16 (n : Nat) (h0 : ByteArray → ByteArray → Int → Int → Int → Int → Option (Int × Bool × Unit)) (a0 : ByteArray) : Option (Int × Bool × Unit) :=
  if (decide ((a0.size : Int) > 0)) = true then
    if (decide (0 ≤ 0)) = true then
    if (decide (0 < (a0.size : Int))) = true then
    if (decide ((bt a0 (0 : Int)) = 45)) = true then
      if (decide (0 ≤ 1)) = true then
      if (decide (1 ≤ (a0.size : Int))) = true then
      if (decide ((a0.size : Int) ≤ (a0.size : Int))) = true then
      (F18 n ((a0.extract (1 : Int).toNat (a0.size : Int).toNat).size : Int) (1 : Int) (9 : Int)).bind fun r1 =>
      if (!r1.1) = true then
        some (0, false, ())
      else
        h0 a0 (a0.extract (1 : Int).toNat (a0.size : Int).toNat) (-1) (0 : Int) ((a0.extract (1 : Int).toNat (a0.size : Int).toNat).size : Int) (0 : Int)
      else none
      else none
      else none
    else
      (F18 n (a0.size : Int) (1 : Int) (9 : Int)).bind fun r3 =>
      if (!r3.1) = true then
        some (0, false, ())
      else
        h0 a0 a0 (1 : Int) (0 : Int) (a0.size : Int) (0 : Int)
    else none
    else none
  else
    (F18 n (a0.size : Int) (1 : Int) (9 : Int)).bind fun r4 =>
    if (!r4.1) = true then
      some (0, false, ())
    else
      h0 a0 a0 (1 : Int) (0 : Int) (a0.size : Int) (0 : Int)
noncomputable def F16 (n : Nat) (a0 : ByteArray) : Option (Int × Bool × Unit) := st16 n (lp16_0 n n) a0
noncomputable def c16 (n : Nat) : Con := ⟨[.one (.str)], [], [.one (.int .i64), .one (.bool)], [], fun (x : ByteArray × Unit) => F16 n x.1⟩
noncomputable def G16 (n : Nat) : Gam := [((18, []), c18 n), ((31, []), c31 n)]
noncomputable def S16_0 (s0 : ByteArray) (s1 : ByteArray) (i2 : Int) (i3 : Int) (i4 : Int) (i5 : Int) : St := ⟨[.str s0, .dead, .dead, .dead, .str s1, .int .i64 i2, .int .i64 i3] ++ List.replicate 17 .dead ++ [.int .i64 i4, .int .i64 i5] ++ List.replicate 30 .dead, List.replicate 56 Ob.none⟩
noncomputable def ga16_0 (n : Nat) (ks : List Nat) (k : Nat) (st : St) : Option (Int × Bool × Unit) := goAt tab (G16 n) n (bodyOf Tryd.f16) (lvOf Tryd.f16) (lvOf Tryd.f16).ret [1, 1, 1, 1, 1, 0, 1, 0] ks k st (evBody.endK tab (c16 n) Tryd.f16)
theorem el16_0 (n : Nat) : ∀ (k : Nat), ∀ (s0 : ByteArray) (s1 : ByteArray) (i2 : Int) (i3 : Int) (i4 : Int) (i5 : Int), ga16_0 n [] k (S16_0 s0 s1 i2 i3 i4 i5) = lp16_0 n k s0 s1 i2 i3 i4 i5 := by
  intro k
  induction k with
  | zero => intros; rfl
  | succ k ih =>
    intro s0 s1 i2 i3 i4 i5
    have h : ga16_0 n [] (k + 1) (S16_0 s0 s1 i2 i3 i4 i5) = st16_0 n (fun w0 w1 w2 w3 w4 w5 => ga16_0 n [] k (S16_0 w0 w1 w2 w3 w4 w5)) s0 s1 i2 i3 i4 i5 := by kernel_rfl
    rw [h]
    have e : (fun w0 w1 w2 w3 w4 w5 => ga16_0 n [] k (S16_0 w0 w1 w2 w3 w4 w5)) = lp16_0 n k := by
      funext w0 w1 w2 w3 w4 w5; exact ih w0 w1 w2 w3 w4 w5
    rw [e]
    rfl
theorem e16 (n : Nat) (x : ByteArray × Unit) : evBody tab (G16 n) n (c16 n) Tryd.f16 x = F16 n x.1 := by
  have h : evBody tab (G16 n) n (c16 n) Tryd.f16 x = st16 n (fun w0 w1 w2 w3 w4 w5 => ga16_0 n [] n (S16_0 w0 w1 w2 w3 w4 w5)) x.1 := by kernel_rfl
  rw [h]
  have e0 : (fun w0 w1 w2 w3 w4 w5 => ga16_0 n [] n (S16_0 w0 w1 w2 w3 w4 w5)) = lp16_0 n n := by
    funext w0 w1 w2 w3 w4 w5; exact el16_0 n n w0 w1 w2 w3 w4 w5
  rw [e0]
  rfl
theorem g16 (W : World) (n : Nat) (h41 : ∀ n, Good Tryd.prog W 41 (c41 n)) : Good Tryd.prog W 16 (c16 n) := body_good follows tabOk (GamOk.cons (g18 W n) (GamOk.cons (g31 W n h41) GamOk.nil)) (f := 16) (fn := Tryd.f16) (c := bodyOf Tryd.f16) (by kernel_rfl) (by kernel_rfl) (by kernel_rfl) (by kernel_rfl) (by kernel_rfl) (by kernel_rfl) (by kernel_rfl) (fun x r h => ⟨n, (e16 n x).trans h⟩)
/-! impl.KindWord -/
noncomputable def F42 (n : Nat) (a0 : Int) : Option (ByteArray × Unit) :=
  if (decide (a0 = 1)) = true then
    some ((⟨#[99]⟩ : ByteArray), ())
  else
    if (decide (a0 = 2)) = true then
      some ((⟨#[103]⟩ : ByteArray), ())
    else
      if (decide (a0 = 3)) = true then
        some ((⟨#[109, 115]⟩ : ByteArray), ())
      else
        some ((⟨#[]⟩ : ByteArray), ())
noncomputable def c42 (n : Nat) : Con := ⟨[.one (.int .i64)], [], [.one (.str)], [], fun (x : Int × Unit) => F42 n x.1⟩
noncomputable def G42 (n : Nat) : Gam := []
theorem e42 (n : Nat) (x : Int × Unit) : evBody tab (G42 n) n (c42 n) Tryd.f42 x = F42 n x.1 := by kernel_rfl
theorem g42 (W : World) (n : Nat) : Good Tryd.prog W 42 (c42 n) := body_good follows tabOk GamOk.nil (f := 42) (fn := Tryd.f42) (c := bodyOf Tryd.f42) (by kernel_rfl) (by kernel_rfl) (by kernel_rfl) (by kernel_rfl) (by kernel_rfl) (by kernel_rfl) (by kernel_rfl) (fun x r h => ⟨n, (e42 n x).trans h⟩)
/-! impl.KindOf -/
noncomputable def st32_0 (n : Nat) (g0 : ByteArray → Int → Option (Int × Unit)) (s0 : ByteArray) (i1 : Int) : Option (Int × Unit) :=
  if (decide (i1 ≤ 3)) = true then
    (F42 n i1).bind fun r1 =>
    if (decide (r1.1.toList = s0.toList)) = true then
      some (i1, ())
    else
      g0 s0 (wrap64 (i1 + 1))
  else
    some (0, ())
noncomputable def lp32_0 (n : Nat) : Nat → ByteArray → Int → Option (Int × Unit)
  | 0 => fun _ _ => none
  | k + 1 => st32_0 n (lp32_0 n k)
noncomputable def st32 (n : Nat) (h0 : ByteArray → Int → Option (Int × Unit)) (a0 : ByteArray) : Option (Int × Unit) :=
  h0 a0 (1 : Int)
noncomputable def F32 (n : Nat) (a0 : ByteArray) : Option (Int × Unit) := st32 n (lp32_0 n n) a0
noncomputable def c32 (n : Nat) : Con := ⟨[.one (.str)], [], [.one (.int .i64)], [], fun (x : ByteArray × Unit) => F32 n x.1⟩
noncomputable def G32 (n : Nat) : Gam := [((42, []), c42 n)]
noncomputable def S32_0 (s0 : ByteArray) (i1 : Int) : St := ⟨[.str s0, .dead, .dead, .int .i64 i1] ++ List.replicate 9 .dead, List.replicate 13 Ob.none⟩
noncomputable def ga32_0 (n : Nat) (ks : List Nat) (k : Nat) (st : St) : Option (Int × Unit) := goAt tab (G32 n) n (bodyOf Tryd.f32) (lvOf Tryd.f32) (lvOf Tryd.f32).ret [1, 0, 1, 0] ks k st (evBody.endK tab (c32 n) Tryd.f32)
theorem el32_0 (n : Nat) : ∀ (k : Nat), ∀ (s0 : ByteArray) (i1 : Int), ga32_0 n [] k (S32_0 s0 i1) = lp32_0 n k s0 i1 := by
  intro k
  induction k with
  | zero => intros; rfl
  | succ k ih =>
    intro s0 i1
    have h : ga32_0 n [] (k + 1) (S32_0 s0 i1) = st32_0 n (fun w0 w1 => ga32_0 n [] k (S32_0 w0 w1)) s0 i1 := by kernel_rfl
    rw [h]
    have e : (fun w0 w1 => ga32_0 n [] k (S32_0 w0 w1)) = lp32_0 n k := by
      funext w0 w1; exact ih w0 w1
    rw [e]
    rfl
theorem e32 (n : Nat) (x : ByteArray × Unit) : evBody tab (G32 n) n (c32 n) Tryd.f32 x = F32 n x.1 := by
  have h : evBody tab (G32 n) n (c32 n) Tryd.f32 x = st32 n (fun w0 w1 => ga32_0 n [] n (S32_0 w0 w1)) x.1 := by kernel_rfl
  rw [h]
  have e0 : (fun w0 w1 => ga32_0 n [] n (S32_0 w0 w1)) = lp32_0 n n := by
    funext w0 w1; exact el32_0 n n w0 w1
  rw [e0]
  rfl
theorem g32 (W : World) (n : Nat) : Good Tryd.prog W 32 (c32 n) := body_good follows tabOk (GamOk.cons (g42 W n) GamOk.nil) (f := 32) (fn := Tryd.f32) (c := bodyOf Tryd.f32) (by kernel_rfl) (by kernel_rfl) (by kernel_rfl) (by kernel_rfl) (by kernel_rfl) (by kernel_rfl) (by kernel_rfl) (fun x r h => ⟨n, (e32 n x).trans h⟩)
/-! impl.KeyOk -/
noncomputable def j43_0 (n : Nat) (g0 : ByteArray → Int → Int → Option (Bool × Unit)) (s0 : ByteArray) (i1 : Int) (i2 : Int) (b3 : Bool) : Option (Bool × Unit) :=
  if b3 = true then
    some (false, ())
  else
    g0 s0 i1 (wrap64 (i2 + 1))
noncomputable def st43_0 (n : Nat) (g0 : ByteArray → Int → Int → Option (Bool × Unit)) (s0 : ByteArray) (i1 : Int) (i2 : Int) : Option (Bool × Unit) :=
  if (decide (i2 < i1)) = true then
    if (decide (0 ≤ i2)) = true then
    if (decide (i2 < (s0.size : Int))) = true then
    if (decide ((bt s0 i2) ≥ 97)) = true then
      if (decide ((bt s0 i2) ≤ 122)) = true then
        g0 s0 i1 (wrap64 (i2 + 1))
      else
        if (decide ((bt s0 i2) ≥ 65)) = true then
          if (decide ((bt s0 i2) ≤ 90)) = true then
            g0 s0 i1 (wrap64 (i2 + 1))
          else
            if (decide ((bt s0 i2) ≥ 48)) = true then
              if (decide ((bt s0 i2) ≤ 57)) = true then
                g0 s0 i1 (wrap64 (i2 + 1))
              else
                j43_0 n g0 s0 i1 i2 (!(decide ((bt s0 i2) = 95)))
            else
              j43_0 n g0 s0 i1 i2 (!(decide ((bt s0 i2) = 95)))
        else
          if (decide ((bt s0 i2) ≥ 48)) = true then
            if (decide ((bt s0 i2) ≤ 57)) = true then
              g0 s0 i1 (wrap64 (i2 + 1))
            else
              j43_0 n g0 s0 i1 i2 (!(decide ((bt s0 i2) = 95)))
          else
            j43_0 n g0 s0 i1 i2 (!(decide ((bt s0 i2) = 95)))
    else
      if (decide ((bt s0 i2) ≥ 65)) = true then
        if (decide ((bt s0 i2) ≤ 90)) = true then
          g0 s0 i1 (wrap64 (i2 + 1))
        else
          if (decide ((bt s0 i2) ≥ 48)) = true then
            if (decide ((bt s0 i2) ≤ 57)) = true then
              g0 s0 i1 (wrap64 (i2 + 1))
            else
              j43_0 n g0 s0 i1 i2 (!(decide ((bt s0 i2) = 95)))
          else
            j43_0 n g0 s0 i1 i2 (!(decide ((bt s0 i2) = 95)))
      else
        if (decide ((bt s0 i2) ≥ 48)) = true then
          if (decide ((bt s0 i2) ≤ 57)) = true then
            g0 s0 i1 (wrap64 (i2 + 1))
          else
            j43_0 n g0 s0 i1 i2 (!(decide ((bt s0 i2) = 95)))
        else
          j43_0 n g0 s0 i1 i2 (!(decide ((bt s0 i2) = 95)))
    else none
    else none
  else
    (F18 n (s0.size : Int) (1 : Int) (4 : Int)).bind fun r1 =>
    some (r1.1, ())
noncomputable def lp43_0 (n : Nat) : Nat → ByteArray → Int → Int → Option (Bool × Unit)
  | 0 => fun _ _ _ => none
  | k + 1 => st43_0 n (lp43_0 n k)
noncomputable def st43 (n : Nat) (h0 : ByteArray → Int → Int → Option (Bool × Unit)) (a0 : ByteArray) : Option (Bool × Unit) :=
  h0 a0 (a0.size : Int) (0 : Int)
noncomputable def F43 (n : Nat) (a0 : ByteArray) : Option (Bool × Unit) := st43 n (lp43_0 n n) a0
noncomputable def c43 (n : Nat) : Con := ⟨[.one (.str)], [], [.one (.bool)], [], fun (x : ByteArray × Unit) => F43 n x.1⟩
noncomputable def G43 (n : Nat) : Gam := [((18, []), c18 n)]
noncomputable def S43_0 (s0 : ByteArray) (i1 : Int) (i2 : Int) : St := ⟨[.str s0] ++ List.replicate 5 .dead ++ [.int .i64 i1, .int .i64 i2] ++ List.replicate 36 .dead, List.replicate 44 Ob.none⟩
noncomputable def ga43_0 (n : Nat) (ks : List Nat) (k : Nat) (st : St) : Option (Bool × Unit) := goAt tab (G43 n) n (bodyOf Tryd.f43) (lvOf Tryd.f43) (lvOf Tryd.f43).ret [1, 0, 1, 0] ks k st (evBody.endK tab (c43 n) Tryd.f43)
theorem el43_0 (n : Nat) : ∀ (k : Nat), ∀ (s0 : ByteArray) (i1 : Int) (i2 : Int), ga43_0 n [] k (S43_0 s0 i1 i2) = lp43_0 n k s0 i1 i2 := by
  intro k
  induction k with
  | zero => intros; rfl
  | succ k ih =>
    intro s0 i1 i2
    have h : ga43_0 n [] (k + 1) (S43_0 s0 i1 i2) = st43_0 n (fun w0 w1 w2 => ga43_0 n [] k (S43_0 w0 w1 w2)) s0 i1 i2 := by kernel_rfl
    rw [h]
    have e : (fun w0 w1 w2 => ga43_0 n [] k (S43_0 w0 w1 w2)) = lp43_0 n k := by
      funext w0 w1 w2; exact ih w0 w1 w2
    rw [e]
    rfl
theorem e43 (n : Nat) (x : ByteArray × Unit) : evBody tab (G43 n) n (c43 n) Tryd.f43 x = F43 n x.1 := by
  have h : evBody tab (G43 n) n (c43 n) Tryd.f43 x = st43 n (fun w0 w1 w2 => ga43_0 n [] n (S43_0 w0 w1 w2)) x.1 := by kernel_rfl
  rw [h]
  have e0 : (fun w0 w1 w2 => ga43_0 n [] n (S43_0 w0 w1 w2)) = lp43_0 n n := by
    funext w0 w1 w2; exact el43_0 n n w0 w1 w2
  rw [e0]
  rfl
theorem g43 (W : World) (n : Nat) : Good Tryd.prog W 43 (c43 n) := body_good follows tabOk (GamOk.cons (g18 W n) GamOk.nil) (f := 43) (fn := Tryd.f43) (c := bodyOf Tryd.f43) (by kernel_rfl) (by kernel_rfl) (by kernel_rfl) (by kernel_rfl) (by kernel_rfl) (by kernel_rfl) (by kernel_rfl) (fun x r h => ⟨n, (e43 n x).trans h⟩)
/-! impl.OpOk -/
noncomputable def F34 (n : Nat) (a0 : Int) (a1 : ByteArray) (a2 : Int) (a3 : Int) : Option (Bool × Unit) :=
  if (decide (a0 = 1)) = true then
    (F43 n a1).bind fun r1 =>
    if r1.1 = true then
      (F42 n a2).bind fun r2 =>
      if (!decide (r2.1.toList = (⟨#[]⟩ : ByteArray).toList)) = true then
        some (decide (a3 = 0), ())
      else
        some (false, ())
    else
      some (false, ())
  else
    if (decide (a0 = 2)) = true then
      (F43 n a1).bind fun r3 =>
      if r3.1 = true then
        if (decide (a2 = 0)) = true then
          (F18 n a3 (0 : Int) (65535 : Int)).bind fun r4 =>
          some (r4.1, ())
        else
          some (false, ())
      else
        some (false, ())
    else
      if (decide (a0 = 3)) = true then
        some ((decide (a0 = 3) && (decide (a1.toList = (⟨#[]⟩ : ByteArray).toList) && (decide (a2 = 0) && (decide (a3 = 0) && true)))), ())
      else
        some (false, ())
noncomputable def c34 (n : Nat) : Con := ⟨[.agg [(.int .i64), (.str), (.int .i64), (.int .i64)]], [], [.one (.bool)], [], fun (x : Int × ByteArray × Int × Int × Unit) => F34 n x.1 x.2.1 x.2.2.1 x.2.2.2.1⟩
noncomputable def G34 (n : Nat) : Gam := [((18, []), c18 n), ((42, []), c42 n), ((43, []), c43 n)]
theorem e34 (n : Nat) (x : Int × ByteArray × Int × Int × Unit) : evBody tab (G34 n) n (c34 n) Tryd.f34 x = F34 n x.1 x.2.1 x.2.2.1 x.2.2.2.1 := by kernel_rfl
theorem g34 (W : World) (n : Nat) : Good Tryd.prog W 34 (c34 n) := body_good follows tabOk (GamOk.cons (g18 W n) (GamOk.cons (g42 W n) (GamOk.cons (g43 W n) GamOk.nil))) (f := 34) (fn := Tryd.f34) (c := bodyOf Tryd.f34) (by kernel_rfl) (by kernel_rfl) (by kernel_rfl) (by kernel_rfl) (by kernel_rfl) (by kernel_rfl) (by kernel_rfl) (fun x r h => ⟨n, (e34 n x).trans h⟩)
/-! impl.ShowOp -/
noncomputable def F33 (n : Nat) (a0 : Int) (a1 : ByteArray) (a2 : Int) (a3 : Int) : Option (ByteArray × Unit) :=
  (F34 n a0 a1 a2 a3).bind fun r1 =>
  if (!r1.1) = true then
    some ((⟨#[]⟩ : ByteArray), ())
  else
    if (decide (a0 = 1)) = true then
      if (decide (((⟨#[114, 101, 103, 32]⟩ : ByteArray).size + a1.size : Nat) ≤ 9223372036854775807)) = true then
      if (decide ((((⟨#[114, 101, 103, 32]⟩ : ByteArray) ++ a1).size + (⟨#[32]⟩ : ByteArray).size : Nat) ≤ 9223372036854775807)) = true then
      (F42 n a2).bind fun r2 =>
      if (decide (((((⟨#[114, 101, 103, 32]⟩ : ByteArray) ++ a1) ++ (⟨#[32]⟩ : ByteArray)).size + r2.1.size : Nat) ≤ 9223372036854775807)) = true then
      some (((((⟨#[114, 101, 103, 32]⟩ : ByteArray) ++ a1) ++ (⟨#[32]⟩ : ByteArray)) ++ r2.1), ())
      else none
      else none
      else none
    else
      if (decide (a0 = 2)) = true then
        if (decide (((⟨#[114, 101, 99, 32]⟩ : ByteArray).size + a1.size : Nat) ≤ 9223372036854775807)) = true then
        if (decide ((((⟨#[114, 101, 99, 32]⟩ : ByteArray) ++ a1).size + (⟨#[32]⟩ : ByteArray).size : Nat) ≤ 9223372036854775807)) = true then
        (F31 n a3).bind fun r3 =>
        if (decide (((((⟨#[114, 101, 99, 32]⟩ : ByteArray) ++ a1) ++ (⟨#[32]⟩ : ByteArray)).size + r3.1.size : Nat) ≤ 9223372036854775807)) = true then
        some (((((⟨#[114, 101, 99, 32]⟩ : ByteArray) ++ a1) ++ (⟨#[32]⟩ : ByteArray)) ++ r3.1), ())
        else none
        else none
        else none
      else
        some ((⟨#[102, 108, 117, 115, 104]⟩ : ByteArray), ())
noncomputable def c33 (n : Nat) : Con := ⟨[.agg [(.int .i64), (.str), (.int .i64), (.int .i64)]], [], [.one (.str)], [], fun (x : Int × ByteArray × Int × Int × Unit) => F33 n x.1 x.2.1 x.2.2.1 x.2.2.2.1⟩
noncomputable def G33 (n : Nat) : Gam := [((31, []), c31 n), ((34, []), c34 n), ((42, []), c42 n)]
theorem e33 (n : Nat) (x : Int × ByteArray × Int × Int × Unit) : evBody tab (G33 n) n (c33 n) Tryd.f33 x = F33 n x.1 x.2.1 x.2.2.1 x.2.2.2.1 := by kernel_rfl
theorem g33 (W : World) (n : Nat) (h41 : ∀ n, Good Tryd.prog W 41 (c41 n)) : Good Tryd.prog W 33 (c33 n) := body_good follows tabOk (GamOk.cons (g31 W n h41) (GamOk.cons (g34 W n) (GamOk.cons (g42 W n) GamOk.nil))) (f := 33) (fn := Tryd.f33) (c := bodyOf Tryd.f33) (by kernel_rfl) (by kernel_rfl) (by kernel_rfl) (by kernel_rfl) (by kernel_rfl) (by kernel_rfl) (by kernel_rfl) (fun x r h => ⟨n, (e33 n x).trans h⟩)
/-! impl.ReadOp -/
noncomputable def F17 (n : Nat) (a0 : ByteArray) : Option (Int × ByteArray × Int × Int × Bool × Unit) :=
  (F29 n a0 (⟨#[32]⟩ : ByteArray)).bind fun r1 =>
  if (decide (a0.toList = (⟨#[102, 108, 117, 115, 104]⟩ : ByteArray).toList)) = true then
    (F33 n (3 : Int) (⟨#[]⟩ : ByteArray) (0 : Int) (0 : Int)).bind fun r2 =>
    if (!decide (r2.1.toList = a0.toList)) = true then
      some (0, (⟨#[]⟩ : ByteArray), 0, 0, false, ())
    else
      some (3, (⟨#[]⟩ : ByteArray), 0, 0, true, ())
  else
    if (decide ((r1.1.length : Int) ≠ 3)) = true then
      some (0, (⟨#[]⟩ : ByteArray), 0, 0, false, ())
    else
      if (decide (0 ≤ 0)) = true then
      if (decide (0 < (r1.1.length : Int))) = true then
      if (decide ((rdOf (⟨#[]⟩ : ByteArray) r1.1 (0 : Int)).toList = (⟨#[114, 101, 103]⟩ : ByteArray).toList)) = true then
        if (decide (0 ≤ 1)) = true then
        if (decide (1 < (r1.1.length : Int))) = true then
        if (decide (0 ≤ 2)) = true then
        if (decide (2 < (r1.1.length : Int))) = true then
        (F32 n (rdOf (⟨#[]⟩ : ByteArray) r1.1 (2 : Int))).bind fun r3 =>
        (F33 n (1 : Int) (rdOf (⟨#[]⟩ : ByteArray) r1.1 (1 : Int)) r3.1 (0 : Int)).bind fun r4 =>
        if (!decide (r4.1.toList = a0.toList)) = true then
          some (0, (⟨#[]⟩ : ByteArray), 0, 0, false, ())
        else
          some (1, (rdOf (⟨#[]⟩ : ByteArray) r1.1 (1 : Int)), r3.1, 0, true, ())
        else none
        else none
        else none
        else none
      else
        if (decide (0 ≤ 2)) = true then
        if (decide (2 < (r1.1.length : Int))) = true then
        (F16 n (rdOf (⟨#[]⟩ : ByteArray) r1.1 (2 : Int))).bind fun r5 =>
        if (decide (0 ≤ 1)) = true then
        if (decide (1 < (r1.1.length : Int))) = true then
        (F33 n (2 : Int) (rdOf (⟨#[]⟩ : ByteArray) r1.1 (1 : Int)) (0 : Int) r5.1).bind fun r6 =>
        if (!decide (r6.1.toList = a0.toList)) = true then
          some (0, (⟨#[]⟩ : ByteArray), 0, 0, false, ())
        else
          some (2, (rdOf (⟨#[]⟩ : ByteArray) r1.1 (1 : Int)), 0, r5.1, true, ())
        else none
        else none
        else none
        else none
      else none
      else none
noncomputable def c17 (n : Nat) : Con := ⟨[.one (.str)], [], [.agg [(.int .i64), (.str), (.int .i64), (.int .i64)], .one (.bool)], [], fun (x : ByteArray × Unit) => F17 n x.1⟩
noncomputable def G17 (n : Nat) : Gam := [((16, []), c16 n), ((29, []), c29 n), ((32, []), c32 n), ((33, []), c33 n)]
theorem e17 (n : Nat) (x : ByteArray × Unit) : evBody tab (G17 n) n (c17 n) Tryd.f17 x = F17 n x.1 := by kernel_rfl
theorem g17 (W : World) (n : Nat) (h29 : ∀ n, Good Tryd.prog W 29 (c29 n)) (h41 : ∀ n, Good Tryd.prog W 41 (c41 n)) : Good Tryd.prog W 17 (c17 n) := body_good follows tabOk (GamOk.cons (g16 W n h41) (GamOk.cons ((fun (_ : World) => h29) W n) (GamOk.cons (g32 W n) (GamOk.cons (g33 W n h41) GamOk.nil)))) (f := 17) (fn := Tryd.f17) (c := bodyOf Tryd.f17) (by kernel_rfl) (by kernel_rfl) (by kernel_rfl) (by kernel_rfl) (by kernel_rfl) (by kernel_rfl) (by kernel_rfl) (fun x r h => ⟨n, (e17 n x).trans h⟩)
/-! impl.TodoOk -/
noncomputable def st19_1 (n : Nat) (g0 : (List (List (Int × (ByteArray × (Int × Int))))) → Int → Int → Option (Bool × Unit)) (g1 : Int → (List (List (Int × (ByteArray × (Int × Int))))) → Int → Int → (List (Int × (ByteArray × (Int × Int)))) → Int → Int → Option (Bool × Unit)) (i0 : Int) (l1 : List (List (Int × (ByteArray × (Int × Int))))) (i2 : Int) (i3 : Int) (l4 : List (Int × (ByteArray × (Int × Int)))) (i5 : Int) (i6 : Int) : Option (Bool × Unit) :=
  if (decide (i6 < i5)) = true then
    if (decide (0 ≤ i6)) = true then
    if (decide (i6 < (l4.length : Int))) = true then
    (F34 n ((rdOf ((0 : Int), ((⟨#[]⟩ : ByteArray), ((0 : Int), (0 : Int)))) l4 i6).1) (((rdOf ((0 : Int), ((⟨#[]⟩ : ByteArray), ((0 : Int), (0 : Int)))) l4 i6).2).1) ((((rdOf ((0 : Int), ((⟨#[]⟩ : ByteArray), ((0 : Int), (0 : Int)))) l4 i6).2).2).1) ((((rdOf ((0 : Int), ((⟨#[]⟩ : ByteArray), ((0 : Int), (0 : Int)))) l4 i6).2).2).2)).bind fun r1 =>
    if (!r1.1) = true then
      some (false, ())
    else
      if (!((decide ((rdOf ((0 : Int), ((⟨#[]⟩ : ByteArray), ((0 : Int), (0 : Int)))) l4 i6).1 = 3)) == (decide (i0 = 3)))) = true then
        some (false, ())
      else
        g1 i0 l1 i2 i3 l4 i5 (wrap64 (i6 + 1))
    else none
    else none
  else
    g0 l1 i2 (wrap64 (i3 + 1))
noncomputable def lp19_1 (n : Nat) (g0 : (List (List (Int × (ByteArray × (Int × Int))))) → Int → Int → Option (Bool × Unit)) : Nat → Int → (List (List (Int × (ByteArray × (Int × Int))))) → Int → Int → (List (Int × (ByteArray × (Int × Int)))) → Int → Int → Option (Bool × Unit)
  | 0 => fun _ _ _ _ _ _ _ => none
  | k + 1 => st19_1 n g0 (lp19_1 n g0 k)
noncomputable def st19_0 (n : Nat) (h1 : Int → (List (List (Int × (ByteArray × (Int × Int))))) → Int → Int → (List (Int × (ByteArray × (Int × Int)))) → Int → Int → Option (Bool × Unit)) (g0 : (List (List (Int × (ByteArray × (Int × Int))))) → Int → Int → Option (Bool × Unit)) (l0 : List (List (Int × (ByteArray × (Int × Int))))) (i1 : Int) (i2 : Int) : Option (Bool × Unit) :=
  if (decide (i2 < i1)) = true then
    if (decide (0 ≤ i2)) = true then
    if (decide (i2 < (l0.length : Int))) = true then
    if (decide (((rdOf ([] : List (Int × (ByteArray × (Int × Int)))) l0 i2).length : Int) > 10)) = true then
      some (false, ())
    else
      h1 i2 l0 i1 i2 (rdOf ([] : List (Int × (ByteArray × (Int × Int)))) l0 i2) ((rdOf ([] : List (Int × (ByteArray × (Int × Int)))) l0 i2).length : Int) (0 : Int)
    else none
    else none
  else
    some (true, ())
noncomputable def lp19_0 (n : Nat) : Nat → (List (List (Int × (ByteArray × (Int × Int))))) → Int → Int → Option (Bool × Unit)
  | 0 => fun _ _ _ => none
  | k + 1 => st19_0 n (lp19_1 n (lp19_0 n k) n) (lp19_0 n k)
noncomputable def st19 (n : Nat) (h0 : (List (List (Int × (ByteArray × (Int × Int))))) → Int → Int → Option (Bool × Unit)) (a0 : List (List (Int × (ByteArray × (Int × Int))))) : Option (Bool × Unit) :=
  if (decide ((a0.length : Int) ≠ 4)) = true then
    some (false, ())
  else
    h0 a0 (a0.length : Int) (0 : Int)
noncomputable def F19 (n : Nat) (a0 : List (List (Int × (ByteArray × (Int × Int))))) : Option (Bool × Unit) := st19 n (lp19_0 n n) a0
noncomputable def c19 (n : Nat) : Con := ⟨[.one (.sl (.imm true) 37 (.sl 31 (.pair (.int .i64) (.pair .str (.pair (.int .i64) (.int .i64))))))], [], [.one (.bool)], [], fun (x : List (List (Int × (ByteArray × (Int × Int)))) × Unit) => F19 n x.1⟩
noncomputable def G19 (n : Nat) : Gam := [((34, []), c34 n)]
noncomputable def S19_1 (i0 : Int) (l1 : List (List (Int × (ByteArray × (Int × Int))))) (i2 : Int) (i3 : Int) (l4 : List (Int × (ByteArray × (Int × Int)))) (i5 : Int) (i6 : Int) : St := ⟨[.dead, .dead, .dead, .int .i64 i0] ++ List.replicate 6 .dead ++ [.sl (.imm true) 37 (.sl 31 (.pair (.int .i64) (.pair .str (.pair (.int .i64) (.int .i64))))) l1, .int .i64 i2, .int .i64 i3] ++ List.replicate 9 .dead ++ [.sl (.imm true) 31 (.pair (.int .i64) (.pair .str (.pair (.int .i64) (.int .i64)))) l4, .int .i64 i5, .int .i64 i6] ++ List.replicate 16 .dead, List.replicate 41 Ob.none⟩
noncomputable def ga19_1 (n : Nat) (ks : List Nat) (k : Nat) (st : St) : Option (Bool × Unit) := goAt tab (G19 n) n (bodyOf Tryd.f19) (lvOf Tryd.f19) (lvOf Tryd.f19).ret [1, 1, 0, 1, 0, 0, 1, 1, 0, 0, 1, 1, 1, 0] ks k st (evBody.endK tab (c19 n) Tryd.f19)
noncomputable def S19_0 (l0 : List (List (Int × (ByteArray × (Int × Int))))) (i1 : Int) (i2 : Int) : St := ⟨List.replicate 10 .dead ++ [.sl (.imm true) 37 (.sl 31 (.pair (.int .i64) (.pair .str (.pair (.int .i64) (.int .i64))))) l0, .int .i64 i1, .int .i64 i2] ++ List.replicate 28 .dead, List.replicate 41 Ob.none⟩
noncomputable def ga19_0 (n : Nat) (ks : List Nat) (k : Nat) (st : St) : Option (Bool × Unit) := goAt tab (G19 n) n (bodyOf Tryd.f19) (lvOf Tryd.f19) (lvOf Tryd.f19).ret [1, 1, 0, 1, 0] ks k st (evBody.endK tab (c19 n) Tryd.f19)
theorem el19_1 (n : Nat) (k0 : Nat) : ∀ (k : Nat), ∀ (i0 : Int) (l1 : List (List (Int × (ByteArray × (Int × Int))))) (i2 : Int) (i3 : Int) (l4 : List (Int × (ByteArray × (Int × Int)))) (i5 : Int) (i6 : Int), ga19_1 n [k0] k (S19_1 i0 l1 i2 i3 l4 i5 i6) = lp19_1 n (fun w0 w1 w2 => ga19_0 n [] k0 (S19_0 w0 w1 w2)) k i0 l1 i2 i3 l4 i5 i6 := by
  intro k
  induction k with
  | zero => intros; rfl
  | succ k ih =>
    intro i0 l1 i2 i3 l4 i5 i6
    have h : ga19_1 n [k0] (k + 1) (S19_1 i0 l1 i2 i3 l4 i5 i6) = st19_1 n (fun w0 w1 w2 => ga19_0 n [] k0 (S19_0 w0 w1 w2)) (fun w0 w1 w2 w3 w4 w5 w6 => ga19_1 n [k0] k (S19_1 w0 w1 w2 w3 w4 w5 w6)) i0 l1 i2 i3 l4 i5 i6 := by kernel_rfl
    rw [h]
    have e : (fun w0 w1 w2 w3 w4 w5 w6 => ga19_1 n [k0] k (S19_1 w0 w1 w2 w3 w4 w5 w6)) = lp19_1 n (fun w0 w1 w2 => ga19_0 n [] k0 (S19_0 w0 w1 w2)) k := by
      funext w0 w1 w2 w3 w4 w5 w6; exact ih w0 w1 w2 w3 w4 w5 w6
    rw [e]
    rfl
theorem el19_0 (n : Nat) : ∀ (k : Nat), ∀ (l0 : List (List (Int × (ByteArray × (Int × Int))))) (i1 : Int) (i2 : Int), ga19_0 n [] k (S19_0 l0 i1 i2) = lp19_0 n k l0 i1 i2 := by
  intro k
  induction k with
  | zero => intros; rfl
  | succ k ih =>
    intro l0 i1 i2
    have h : ga19_0 n [] (k + 1) (S19_0 l0 i1 i2) = st19_0 n (fun w0 w1 w2 w3 w4 w5 w6 => ga19_1 n [k] n (S19_1 w0 w1 w2 w3 w4 w5 w6)) (fun w0 w1 w2 => ga19_0 n [] k (S19_0 w0 w1 w2)) l0 i1 i2 := by kernel_rfl
    rw [h]
    have e1 : (fun w0 w1 w2 w3 w4 w5 w6 => ga19_1 n [k] n (S19_1 w0 w1 w2 w3 w4 w5 w6)) = lp19_1 n (fun w0 w1 w2 => ga19_0 n [] k (S19_0 w0 w1 w2)) n := by
      funext w0 w1 w2 w3 w4 w5 w6; exact el19_1 n k n w0 w1 w2 w3 w4 w5 w6
    have e : (fun w0 w1 w2 => ga19_0 n [] k (S19_0 w0 w1 w2)) = lp19_0 n k := by
      funext w0 w1 w2; exact ih w0 w1 w2
    rw [e1, e]
    rfl
theorem e19 (n : Nat) (x : List (List (Int × (ByteArray × (Int × Int)))) × Unit) : evBody tab (G19 n) n (c19 n) Tryd.f19 x = F19 n x.1 := by
  have h : evBody tab (G19 n) n (c19 n) Tryd.f19 x = st19 n (fun w0 w1 w2 => ga19_0 n [] n (S19_0 w0 w1 w2)) x.1 := by kernel_rfl
  rw [h]
  have e0 : (fun w0 w1 w2 => ga19_0 n [] n (S19_0 w0 w1 w2)) = lp19_0 n n := by
    funext w0 w1 w2; exact el19_0 n n w0 w1 w2
  rw [e0]
  rfl
theorem g19 (W : World) (n : Nat) : Good Tryd.prog W 19 (c19 n) := body_good follows tabOk (GamOk.cons (g34 W n) GamOk.nil) (f := 19) (fn := Tryd.f19) (c := bodyOf Tryd.f19) (by kernel_rfl) (by kernel_rfl) (by kernel_rfl) (by kernel_rfl) (by kernel_rfl) (by kernel_rfl) (by kernel_rfl) (fun x r h => ⟨n, (e19 n x).trans h⟩)
/-! impl.ShowTodo -/
noncomputable def st20_1 (n : Nat) (g0 : ByteArray → (List (List (Int × (ByteArray × (Int × Int))))) → Int → Int → Option (ByteArray × Unit)) (g1 : ByteArray → Int → (List (List (Int × (ByteArray × (Int × Int))))) → Int → Int → (List (Int × (ByteArray × (Int × Int)))) → Int → Int → Option (ByteArray × Unit)) (s0 : ByteArray) (i1 : Int) (l2 : List (List (Int × (ByteArray × (Int × Int))))) (i3 : Int) (i4 : Int) (l5 : List (Int × (ByteArray × (Int × Int)))) (i6 : Int) (i7 : Int) : Option (ByteArray × Unit) :=
  if (decide (i7 < i6)) = true then
    if (decide (0 ≤ i7)) = true then
    if (decide (i7 < (l5.length : Int))) = true then
    (F31 n i1).bind fun r2 =>
    if (decide ((r2.1.size + (⟨#[32]⟩ : ByteArray).size : Nat) ≤ 9223372036854775807)) = true then
    (F33 n ((rdOf ((0 : Int), ((⟨#[]⟩ : ByteArray), ((0 : Int), (0 : Int)))) l5 i7).1) (((rdOf ((0 : Int), ((⟨#[]⟩ : ByteArray), ((0 : Int), (0 : Int)))) l5 i7).2).1) ((((rdOf ((0 : Int), ((⟨#[]⟩ : ByteArray), ((0 : Int), (0 : Int)))) l5 i7).2).2).1) ((((rdOf ((0 : Int), ((⟨#[]⟩ : ByteArray), ((0 : Int), (0 : Int)))) l5 i7).2).2).2)).bind fun r3 =>
    if (decide (((r2.1 ++ (⟨#[32]⟩ : ByteArray)).size + r3.1.size : Nat) ≤ 9223372036854775807)) = true then
    if (decide ((((r2.1 ++ (⟨#[32]⟩ : ByteArray)) ++ r3.1).size + (⟨#[10]⟩ : ByteArray).size : Nat) ≤ 9223372036854775807)) = true then
    if (decide ((s0.size + (((r2.1 ++ (⟨#[32]⟩ : ByteArray)) ++ r3.1) ++ (⟨#[10]⟩ : ByteArray)).size : Nat) ≤ 9223372036854775807)) = true then
    g1 (s0 ++ (((r2.1 ++ (⟨#[32]⟩ : ByteArray)) ++ r3.1) ++ (⟨#[10]⟩ : ByteArray))) i1 l2 i3 i4 l5 i6 (wrap64 (i7 + 1))
    else none
    else none
    else none
    else none
    else none
    else none
  else
    g0 s0 l2 i3 (wrap64 (i4 + 1))
noncomputable def lp20_1 (n : Nat) (g0 : ByteArray → (List (List (Int × (ByteArray × (Int × Int))))) → Int → Int → Option (ByteArray × Unit)) : Nat → ByteArray → Int → (List (List (Int × (ByteArray × (Int × Int))))) → Int → Int → (List (Int × (ByteArray × (Int × Int)))) → Int → Int → Option (ByteArray × Unit)
  | 0 => fun _ _ _ _ _ _ _ _ => none
  | k + 1 => st20_1 n g0 (lp20_1 n g0 k)
noncomputable def st20_0 (n : Nat) (h1 : ByteArray → Int → (List (List (Int × (ByteArray × (Int × Int))))) → Int → Int → (List (Int × (ByteArray × (Int × Int)))) → Int → Int → Option (ByteArray × Unit)) (g0 : ByteArray → (List (List (Int × (ByteArray × (Int × Int))))) → Int → Int → Option (ByteArray × Unit)) (s0 : ByteArray) (l1 : List (List (Int × (ByteArray × (Int × Int))))) (i2 : Int) (i3 : Int) : Option (ByteArray × Unit) :=
  if (decide (i3 < i2)) = true then
    if (decide (0 ≤ i3)) = true then
    if (decide (i3 < (l1.length : Int))) = true then
    h1 s0 i3 l1 i2 i3 (rdOf ([] : List (Int × (ByteArray × (Int × Int)))) l1 i3) ((rdOf ([] : List (Int × (ByteArray × (Int × Int)))) l1 i3).length : Int) (0 : Int)
    else none
    else none
  else
    some (s0, ())
noncomputable def lp20_0 (n : Nat) : Nat → ByteArray → (List (List (Int × (ByteArray × (Int × Int))))) → Int → Int → Option (ByteArray × Unit)
  | 0 => fun _ _ _ _ => none
  | k + 1 => st20_0 n (lp20_1 n (lp20_0 n k) n) (lp20_0 n k)
noncomputable def st20 (n : Nat) (h0 : ByteArray → (List (List (Int × (ByteArray × (Int × Int))))) → Int → Int → Option (ByteArray × Unit)) (a0 : List (List (Int × (ByteArray × (Int × Int))))) : Option (ByteArray × Unit) :=
  (F19 n a0).bind fun r1 =>
  if (!r1.1) = true then
    some ((⟨#[]⟩ : ByteArray), ())
  else
    h0 (⟨#[]⟩ : ByteArray) a0 (a0.length : Int) (0 : Int)
noncomputable def F20 (n : Nat) (a0 : List (List (Int × (ByteArray × (Int × Int))))) : Option (ByteArray × Unit) := st20 n (lp20_0 n n) a0
noncomputable def c20 (n : Nat) : Con := ⟨[.one (.sl (.imm true) 37 (.sl 31 (.pair (.int .i64) (.pair .str (.pair (.int .i64) (.int .i64))))))], [], [.one (.str)], [], fun (x : List (List (Int × (ByteArray × (Int × Int)))) × Unit) => F20 n x.1⟩
noncomputable def G20 (n : Nat) : Gam := [((19, []), c19 n), ((31, []), c31 n), ((33, []), c33 n)]
noncomputable def S20_1 (s0 : ByteArray) (i1 : Int) (l2 : List (List (Int × (ByteArray × (Int × Int))))) (i3 : Int) (i4 : Int) (l5 : List (Int × (ByteArray × (Int × Int)))) (i6 : Int) (i7 : Int) : St := ⟨[.dead, .dead, .dead, .str s0, .int .i64 i1] ++ List.replicate 7 .dead ++ [.sl (.imm true) 37 (.sl 31 (.pair (.int .i64) (.pair .str (.pair (.int .i64) (.int .i64))))) l2, .int .i64 i3, .int .i64 i4] ++ List.replicate 5 .dead ++ [.sl (.imm true) 31 (.pair (.int .i64) (.pair .str (.pair (.int .i64) (.int .i64)))) l5, .int .i64 i6, .int .i64 i7] ++ List.replicate 15 .dead, List.replicate 38 Ob.none⟩
noncomputable def ga20_1 (n : Nat) (ks : List Nat) (k : Nat) (st : St) : Option (ByteArray × Unit) := goAt tab (G20 n) n (bodyOf Tryd.f20) (lvOf Tryd.f20) (lvOf Tryd.f20).ret [1, 1, 1, 0, 1, 0, 0, 1, 1, 0, 0, 1, 1, 0] ks k st (evBody.endK tab (c20 n) Tryd.f20)
noncomputable def S20_0 (s0 : ByteArray) (l1 : List (List (Int × (ByteArray × (Int × Int))))) (i2 : Int) (i3 : Int) : St := ⟨[.dead, .dead, .dead, .str s0] ++ List.replicate 8 .dead ++ [.sl (.imm true) 37 (.sl 31 (.pair (.int .i64) (.pair .str (.pair (.int .i64) (.int .i64))))) l1, .int .i64 i2, .int .i64 i3] ++ List.replicate 23 .dead, List.replicate 38 Ob.none⟩
noncomputable def ga20_0 (n : Nat) (ks : List Nat) (k : Nat) (st : St) : Option (ByteArray × Unit) := goAt tab (G20 n) n (bodyOf Tryd.f20) (lvOf Tryd.f20) (lvOf Tryd.f20).ret [1, 1, 1, 0, 1, 0] ks k st (evBody.endK tab (c20 n) Tryd.f20)
theorem el20_1 (n : Nat) (k0 : Nat) : ∀ (k : Nat), ∀ (s0 : ByteArray) (i1 : Int) (l2 : List (List (Int × (ByteArray × (Int × Int))))) (i3 : Int) (i4 : Int) (l5 : List (Int × (ByteArray × (Int × Int)))) (i6 : Int) (i7 : Int), ga20_1 n [k0] k (S20_1 s0 i1 l2 i3 i4 l5 i6 i7) = lp20_1 n (fun w0 w1 w2 w3 => ga20_0 n [] k0 (S20_0 w0 w1 w2 w3)) k s0 i1 l2 i3 i4 l5 i6 i7 := by
  intro k
  induction k with
  | zero => intros; rfl
  | succ k ih =>
    intro s0 i1 l2 i3 i4 l5 i6 i7
    have h : ga20_1 n [k0] (k + 1) (S20_1 s0 i1 l2 i3 i4 l5 i6 i7) = st20_1 n (fun w0 w1 w2 w3 => ga20_0 n [] k0 (S20_0 w0 w1 w2 w3)) (fun w0 w1 w2 w3 w4 w5 w6 w7 => ga20_1 n [k0] k (S20_1 w0 w1 w2 w3 w4 w5 w6 w7)) s0 i1 l2 i3 i4 l5 i6 i7 := by kernel_rfl
    rw [h]
    have e : (fun w0 w1 w2 w3 w4 w5 w6 w7 => ga20_1 n [k0] k (S20_1 w0 w1 w2 w3 w4 w5 w6 w7)) = lp20_1 n (fun w0 w1 w2 w3 => ga20_0 n [] k0 (S20_0 w0 w1 w2 w3)) k := by
      funext w0 w1 w2 w3 w4 w5 w6 w7; exact ih w0 w1 w2 w3 w4 w5 w6 w7
    rw [e]
    rfl
theorem el20_0 (n : Nat) : ∀ (k : Nat), ∀ (s0 : ByteArray) (l1 : List (List (Int × (ByteArray × (Int × Int))))) (i2 : Int) (i3 : Int), ga20_0 n [] k (S20_0 s0 l1 i2 i3) = lp20_0 n k s0 l1 i2 i3 := by
  intro k
  induction k with
  | zero => intros; rfl
  | succ k ih =>
    intro s0 l1 i2 i3
    have h : ga20_0 n [] (k + 1) (S20_0 s0 l1 i2 i3) = st20_0 n (fun w0 w1 w2 w3 w4 w5 w6 w7 => ga20_1 n [k] n (S20_1 w0 w1 w2 w3 w4 w5 w6 w7)) (fun w0 w1 w2 w3 => ga20_0 n [] k (S20_0 w0 w1 w2 w3)) s0 l1 i2 i3 := by kernel_rfl
    rw [h]
    have e1 : (fun w0 w1 w2 w3 w4 w5 w6 w7 => ga20_1 n [k] n (S20_1 w0 w1 w2 w3 w4 w5 w6 w7)) = lp20_1 n (fun w0 w1 w2 w3 => ga20_0 n [] k (S20_0 w0 w1 w2 w3)) n := by
      funext w0 w1 w2 w3 w4 w5 w6 w7; exact el20_1 n k n w0 w1 w2 w3 w4 w5 w6 w7
    have e : (fun w0 w1 w2 w3 => ga20_0 n [] k (S20_0 w0 w1 w2 w3)) = lp20_0 n k := by
      funext w0 w1 w2 w3; exact ih w0 w1 w2 w3
    rw [e1, e]
    rfl
theorem e20 (n : Nat) (x : List (List (Int × (ByteArray × (Int × Int)))) × Unit) : evBody tab (G20 n) n (c20 n) Tryd.f20 x = F20 n x.1 := by
  have h : evBody tab (G20 n) n (c20 n) Tryd.f20 x = st20 n (fun w0 w1 w2 w3 => ga20_0 n [] n (S20_0 w0 w1 w2 w3)) x.1 := by kernel_rfl
  rw [h]
  have e0 : (fun w0 w1 w2 w3 => ga20_0 n [] n (S20_0 w0 w1 w2 w3)) = lp20_0 n n := by
    funext w0 w1 w2 w3; exact el20_0 n n w0 w1 w2 w3
  rw [e0]
  rfl
theorem g20 (W : World) (n : Nat) (h41 : ∀ n, Good Tryd.prog W 41 (c41 n)) : Good Tryd.prog W 20 (c20 n) := body_good follows tabOk (GamOk.cons (g19 W n) (GamOk.cons (g31 W n h41) (GamOk.cons (g33 W n h41) GamOk.nil))) (f := 20) (fn := Tryd.f20) (c := bodyOf Tryd.f20) (by kernel_rfl) (by kernel_rfl) (by kernel_rfl) (by kernel_rfl) (by kernel_rfl) (by kernel_rfl) (by kernel_rfl) (fun x r h => ⟨n, (e20 n x).trans h⟩)
/-! impl.ReadTodo -/
noncomputable def st5_0 (n : Nat) (g0 : ByteArray → Int → Int → (List (List (Int × (ByteArray × (Int × Int))))) → (List ByteArray) → Option (List (List (Int × (ByteArray × (Int × Int)))) × Bool × Unit)) (s0 : ByteArray) (i1 : Int) (i2 : Int) (l3 : List (List (Int × (ByteArray × (Int × Int))))) (l4 : List ByteArray) : Option (List (List (Int × (ByteArray × (Int × Int)))) × Bool × Unit) :=
  if (decide (i2 < i1)) = true then
    if (decide (0 ≤ i2)) = true then
    if (decide (i2 < (l4.length : Int))) = true then
    (F15 n (rdOf (⟨#[]⟩ : ByteArray) l4 i2) (⟨#[32]⟩ : ByteArray)).bind fun r2 =>
    (F16 n r2.1).bind fun r3 =>
    (F17 n r2.2.1).bind fun r4 =>
    if (!r3.2.1) = true then
      some (([] : List (List (Int × (ByteArray × (Int × Int))))), false, ())
    else
      if (!r4.2.2.2.2.1) = true then
        some (([] : List (List (Int × (ByteArray × (Int × Int))))), false, ())
      else
        (F18 n r3.1 (0 : Int) (3 : Int)).bind fun r5 =>
        if (!r5.1) = true then
          some (([] : List (List (Int × (ByteArray × (Int × Int))))), false, ())
        else
          if (decide (0 ≤ r3.1)) = true then
          if (decide (r3.1 < (l3.length : Int))) = true then
          if (decide (((rdOf ([] : List (Int × (ByteArray × (Int × Int)))) l3 r3.1).length + ([(r4.1, (r4.2.1, (r4.2.2.1, r4.2.2.2.1)))] : List (Int × (ByteArray × (Int × Int)))).length) * 40 ≤ 140737488355328)) = true then
          if (decide (0 ≤ r3.1)) = true then
          if (decide (r3.1 < (l3.length : Int))) = true then
          if (decide (r3.1 = r3.1)) = true then
          g0 s0 i1 (wrap64 (i2 + 1)) (l3.set r3.1.toNat ((rdOf ([] : List (Int × (ByteArray × (Int × Int)))) l3 r3.1) ++ ([(r4.1, (r4.2.1, (r4.2.2.1, r4.2.2.2.1)))] : List (Int × (ByteArray × (Int × Int)))))) l4
          else none
          else none
          else none
          else none
          else none
          else none
    else none
    else none
  else
    (F19 n l3).bind fun r6 =>
    if (!r6.1) = true then
      some (([] : List (List (Int × (ByteArray × (Int × Int))))), false, ())
    else
      (F20 n l3).bind fun r7 =>
      if (!decide (r7.1.toList = s0.toList)) = true then
        some (([] : List (List (Int × (ByteArray × (Int × Int))))), false, ())
      else
        some (l3, true, ())
noncomputable def lp5_0 (n : Nat) : Nat → ByteArray → Int → Int → (List (List (Int × (ByteArray × (Int × Int))))) → (List ByteArray) → Option (List (List (Int × (ByteArray × (Int × Int)))) × Bool × Unit)
  | 0 => fun _ _ _ _ _ => none
  | k + 1 => st5_0 n (lp5_0 n k)
noncomputable def st5 (n : Nat) (h0 : ByteArray → Int → Int → (List (List (Int × (ByteArray × (Int × Int))))) → (List ByteArray) → Option (List (List (Int × (ByteArray × (Int × Int)))) × Bool × Unit)) (a0 : ByteArray) : Option (List (List (Int × (ByteArray × (Int × Int)))) × Bool × Unit) :=
  if (decide (0 ≤ 4)) = true then
  if (decide (4 = 4)) = true then
  if (decide (4 * 24 ≤ 140737488355328)) = true then
  (F14 n a0).bind fun r1 =>
  h0 a0 (r1.1.length : Int) (0 : Int) (List.replicate (4 : Int).toNat ([] : List (Int × (ByteArray × (Int × Int))))) r1.1
  else none
  else none
  else none
noncomputable def F5 (n : Nat) (a0 : ByteArray) : Option (List (List (Int × (ByteArray × (Int × Int)))) × Bool × Unit) := st5 n (lp5_0 n n) a0
noncomputable def c5 (n : Nat) : Con := ⟨[.one (.str)], [], [.one (.sl .own 37 (.sl 31 (.pair (.int .i64) (.pair .str (.pair (.int .i64) (.int .i64)))))), .one (.bool)], [], fun (x : ByteArray × Unit) => F5 n x.1⟩
noncomputable def G5 (n : Nat) : Gam := [((14, []), c14 n), ((15, []), c15 n), ((16, []), c16 n), ((17, []), c17 n), ((18, []), c18 n), ((19, []), c19 n), ((20, []), c20 n)]
noncomputable def S5_0 (s0 : ByteArray) (i1 : Int) (i2 : Int) (l3 : List (List (Int × (ByteArray × (Int × Int))))) (l4 : List ByteArray) : St := ⟨[.str s0, .dead, .dead, .dead, .sr 4 0 none 0 0 none] ++ List.replicate 11 .dead ++ [.sr 16 0 none 0 0 none, .int .i64 i1, .int .i64 i2] ++ List.replicate 53 .dead, List.replicate 4 Ob.none ++ [⟨false, [.sl .own 37 (.sl 31 (.pair (.int .i64) (.pair .str (.pair (.int .i64) (.int .i64))))) l3], 0, 0⟩] ++ List.replicate 11 Ob.none ++ [⟨false, [.sl .own 9 .str l4], 0, 0⟩] ++ List.replicate 55 Ob.none⟩
noncomputable def ga5_0 (n : Nat) (ks : List Nat) (k : Nat) (st : St) : Option (List (List (Int × (ByteArray × (Int × Int)))) × Bool × Unit) := goAt tab (G5 n) n (bodyOf Tryd.f5) (lvOf Tryd.f5) (lvOf Tryd.f5).ret [1, 1, 0, 1, 0] ks k st (evBody.endK tab (c5 n) Tryd.f5)
theorem el5_0 (n : Nat) : ∀ (k : Nat), ∀ (s0 : ByteArray) (i1 : Int) (i2 : Int) (l3 : List (List (Int × (ByteArray × (Int × Int))))) (l4 : List ByteArray), ga5_0 n [] k (S5_0 s0 i1 i2 l3 l4) = lp5_0 n k s0 i1 i2 l3 l4 := by
  intro k
  induction k with
  | zero => intros; rfl
  | succ k ih =>
    intro s0 i1 i2 l3 l4
    have h : ga5_0 n [] (k + 1) (S5_0 s0 i1 i2 l3 l4) = st5_0 n (fun w0 w1 w2 w3 w4 => ga5_0 n [] k (S5_0 w0 w1 w2 w3 w4)) s0 i1 i2 l3 l4 := by kernel_rfl
    rw [h]
    have e : (fun w0 w1 w2 w3 w4 => ga5_0 n [] k (S5_0 w0 w1 w2 w3 w4)) = lp5_0 n k := by
      funext w0 w1 w2 w3 w4; exact ih w0 w1 w2 w3 w4
    rw [e]
    rfl
theorem e5 (n : Nat) (x : ByteArray × Unit) : evBody tab (G5 n) n (c5 n) Tryd.f5 x = F5 n x.1 := by
  have h : evBody tab (G5 n) n (c5 n) Tryd.f5 x = st5 n (fun w0 w1 w2 w3 w4 => ga5_0 n [] n (S5_0 w0 w1 w2 w3 w4)) x.1 := by kernel_rfl
  rw [h]
  have e0 : (fun w0 w1 w2 w3 w4 => ga5_0 n [] n (S5_0 w0 w1 w2 w3 w4)) = lp5_0 n n := by
    funext w0 w1 w2 w3 w4; exact el5_0 n n w0 w1 w2 w3 w4
  rw [e0]
  rfl
theorem g5 (W : World) (n : Nat) (h15 : ∀ n, Good Tryd.prog W 15 (c15 n)) (h29 : ∀ n, Good Tryd.prog W 29 (c29 n)) (h41 : ∀ n, Good Tryd.prog W 41 (c41 n)) : Good Tryd.prog W 5 (c5 n) := body_good follows tabOk (GamOk.cons (g14 W n h29) (GamOk.cons ((fun (_ : World) => h15) W n) (GamOk.cons (g16 W n h41) (GamOk.cons (g17 W n h29 h41) (GamOk.cons (g18 W n) (GamOk.cons (g19 W n) (GamOk.cons (g20 W n h41) GamOk.nil))))))) (f := 5) (fn := Tryd.f5) (c := bodyOf Tryd.f5) (by kernel_rfl) (by kernel_rfl) (by kernel_rfl) (by kernel_rfl) (by kernel_rfl) (by kernel_rfl) (by kernel_rfl) (fun x r h => ⟨n, (e5 n x).trans h⟩)
/-! spec.l1In -/
noncomputable def F11 (n : Nat) (a0 : Int) (a1 : Int) (a2 : Int) : Option (Bool × Unit) :=
  if (decide (a0 ≥ a1)) = true then
    some (decide (a0 ≤ a2), ())
  else
    some (false, ())
noncomputable def c11 (n : Nat) : Con := ⟨[.one (.int .i64), .one (.int .i64), .one (.int .i64)], [], [.one (.bool)], [], fun (x : Int × Int × Int × Unit) => F11 n x.1 x.2.1 x.2.2.1⟩
noncomputable def G11 (n : Nat) : Gam := []
theorem e11 (n : Nat) (x : Int × Int × Int × Unit) : evBody tab (G11 n) n (c11 n) Tryd.f11 x = F11 n x.1 x.2.1 x.2.2.1 := by kernel_rfl
theorem g11 (W : World) (n : Nat) : Good Tryd.prog W 11 (c11 n) := body_good follows tabOk GamOk.nil (f := 11) (fn := Tryd.f11) (c := bodyOf Tryd.f11) (by kernel_rfl) (by kernel_rfl) (by kernel_rfl) (by kernel_rfl) (by kernel_rfl) (by kernel_rfl) (by kernel_rfl) (fun x r h => ⟨n, (e11 n x).trans h⟩)
/-! spec.KindWord -/
noncomputable def F37 (n : Nat) (a0 : Int) : Option (ByteArray × Unit) :=
  (F11 n a0 (1 : Int) (3 : Int)).bind fun r1 =>
  if (!r1.1) = true then
    some ((⟨#[]⟩ : ByteArray), ())
  else
    if (decide (0 ≤ (wrap64 (a0 - 1)))) = true then
    if (decide ((wrap64 (a0 - 1)) < (([(⟨#[99]⟩ : ByteArray), (⟨#[103]⟩ : ByteArray), (⟨#[109, 115]⟩ : ByteArray)] : List ByteArray).length : Int))) = true then
    some ((rdOf (⟨#[]⟩ : ByteArray) ([(⟨#[99]⟩ : ByteArray), (⟨#[103]⟩ : ByteArray), (⟨#[109, 115]⟩ : ByteArray)] : List ByteArray) (wrap64 (a0 - 1))), ())
    else none
    else none
noncomputable def c37 (n : Nat) : Con := ⟨[.one (.int .i64)], [], [.one (.str)], [], fun (x : Int × Unit) => F37 n x.1⟩
noncomputable def G37 (n : Nat) : Gam := [((11, []), c11 n)]
theorem e37 (n : Nat) (x : Int × Unit) : evBody tab (G37 n) n (c37 n) Tryd.f37 x = F37 n x.1 := by kernel_rfl
theorem g37 (W : World) (n : Nat) : Good Tryd.prog W 37 (c37 n) := body_good follows tabOk (GamOk.cons (g11 W n) GamOk.nil) (f := 37) (fn := Tryd.f37) (c := bodyOf Tryd.f37) (by kernel_rfl) (by kernel_rfl) (by kernel_rfl) (by kernel_rfl) (by kernel_rfl) (by kernel_rfl) (by kernel_rfl) (fun x r h => ⟨n, (e37 n x).trans h⟩)
/-! spec.KindOf -/
noncomputable def st24_0 (n : Nat) (g0 : ByteArray → Int → Option (Int × Unit)) (s0 : ByteArray) (i1 : Int) : Option (Int × Unit) :=
  if (decide (i1 ≤ 3)) = true then
    (F37 n i1).bind fun r1 =>
    if (decide (r1.1.toList = s0.toList)) = true then
      some (i1, ())
    else
      g0 s0 (wrap64 (i1 + 1))
  else
    some (0, ())
noncomputable def lp24_0 (n : Nat) : Nat → ByteArray → Int → Option (Int × Unit)
  | 0 => fun _ _ => none
  | k + 1 => st24_0 n (lp24_0 n k)
noncomputable def st24 (n : Nat) (h0 : ByteArray → Int → Option (Int × Unit)) (a0 : ByteArray) : Option (Int × Unit) :=
  h0 a0 (1 : Int)
noncomputable def F24 (n : Nat) (a0 : ByteArray) : Option (Int × Unit) := st24 n (lp24_0 n n) a0
noncomputable def c24 (n : Nat) : Con := ⟨[.one (.str)], [], [.one (.int .i64)], [], fun (x : ByteArray × Unit) => F24 n x.1⟩
noncomputable def G24 (n : Nat) : Gam := [((37, []), c37 n)]
noncomputable def S24_0 (s0 : ByteArray) (i1 : Int) : St := ⟨[.str s0, .dead, .dead, .int .i64 i1] ++ List.replicate 9 .dead, List.replicate 13 Ob.none⟩
noncomputable def ga24_0 (n : Nat) (ks : List Nat) (k : Nat) (st : St) : Option (Int × Unit) := goAt tab (G24 n) n (bodyOf Tryd.f24) (lvOf Tryd.f24) (lvOf Tryd.f24).ret [1, 0, 1, 0] ks k st (evBody.endK tab (c24 n) Tryd.f24)
theorem el24_0 (n : Nat) : ∀ (k : Nat), ∀ (s0 : ByteArray) (i1 : Int), ga24_0 n [] k (S24_0 s0 i1) = lp24_0 n k s0 i1 := by
  intro k
  induction k with
  | zero => intros; rfl
  | succ k ih =>
    intro s0 i1
    have h : ga24_0 n [] (k + 1) (S24_0 s0 i1) = st24_0 n (fun w0 w1 => ga24_0 n [] k (S24_0 w0 w1)) s0 i1 := by kernel_rfl
    rw [h]
    have e : (fun w0 w1 => ga24_0 n [] k (S24_0 w0 w1)) = lp24_0 n k := by
      funext w0 w1; exact ih w0 w1
    rw [e]
    rfl
theorem e24 (n : Nat) (x : ByteArray × Unit) : evBody tab (G24 n) n (c24 n) Tryd.f24 x = F24 n x.1 := by
  have h : evBody tab (G24 n) n (c24 n) Tryd.f24 x = st24 n (fun w0 w1 => ga24_0 n [] n (S24_0 w0 w1)) x.1 := by kernel_rfl
  rw [h]
  have e0 : (fun w0 w1 => ga24_0 n [] n (S24_0 w0 w1)) = lp24_0 n n := by
    funext w0 w1; exact el24_0 n n w0 w1
  rw [e0]
  rfl
theorem g24 (W : World) (n : Nat) : Good Tryd.prog W 24 (c24 n) := body_good follows tabOk (GamOk.cons (g37 W n) GamOk.nil) (f := 24) (fn := Tryd.f24) (c := bodyOf Tryd.f24) (by kernel_rfl) (by kernel_rfl) (by kernel_rfl) (by kernel_rfl) (by kernel_rfl) (by kernel_rfl) (by kernel_rfl) (fun x r h => ⟨n, (e24 n x).trans h⟩)
/-! spec.Dec -/
noncomputable def j28_0 (n : Nat) (g0 : Int → ByteArray → Bool → Option (ByteArray × Unit)) (i0 : Int) (s1 : ByteArray) (b2 : Bool) (i3 : Int) : Option (ByteArray × Unit) :=
  if (decide (((strOf ([(wrapI .u8 ((wrap64 (48 + i3))))] : List Int)).size + s1.size : Nat) ≤ 9223372036854775807)) = true then
  if (decide (10 ≠ 0)) = true then
  g0 (wrap64 (i0.tdiv (10 : Int))) ((strOf ([(wrapI .u8 ((wrap64 (48 + i3))))] : List Int)) ++ s1) b2
  else none
  else none
noncomputable def st28_0 (n : Nat) (g0 : Int → ByteArray → Bool → Option (ByteArray × Unit)) (i0 : Int) (s1 : ByteArray) (b2 : Bool) : Option (ByteArray × Unit) :=
  if (decide (i0 ≠ 0)) = true then
    if (decide (10 ≠ 0)) = true then
    if (decide ((i0.tmod (10 : Int)) < 0)) = true then
      j28_0 n g0 i0 s1 b2 (wrap64 (0 - (i0.tmod (10 : Int))))
    else
      j28_0 n g0 i0 s1 b2 (i0.tmod (10 : Int))
    else none
  else
    if b2 = true then
      if (decide (((⟨#[45]⟩ : ByteArray).size + s1.size : Nat) ≤ 9223372036854775807)) = true then
      some (((⟨#[45]⟩ : ByteArray) ++ s1), ())
      else none
    else
      some (s1, ())
noncomputable def lp28_0 (n : Nat) : Nat → Int → ByteArray → Bool → Option (ByteArray × Unit)
  | 0 => fun _ _ _ => none
  | k + 1 => st28_0 n (lp28_0 n k)
noncomputable def st28 (n : Nat) (h0 : Int → ByteArray → Bool → Option (ByteArray × Unit)) (a0 : Int) : Option (ByteArray × Unit) :=
  if (decide (a0 = 0)) = true then
    some ((⟨#[48]⟩ : ByteArray), ())
  else
    h0 a0 (⟨#[]⟩ : ByteArray) (decide (a0 < 0))
noncomputable def F28 (n : Nat) (a0 : Int) : Option (ByteArray × Unit) := st28 n (lp28_0 n n) a0
noncomputable def c28 (n : Nat) : Con := ⟨[.one (.int .i64)], [], [.one (.str)], [], fun (x : Int × Unit) => F28 n x.1⟩
noncomputable def G28 (n : Nat) : Gam := []
noncomputable def S28_0 (i0 : Int) (s1 : ByteArray) (b2 : Bool) : St := ⟨[.int .i64 i0, .dead, .dead, .str s1, .bool b2] ++ List.replicate 26 .dead, List.replicate 31 Ob.none⟩
noncomputable def ga28_0 (n : Nat) (ks : List Nat) (k : Nat) (st : St) : Option (ByteArray × Unit) := goAt tab (G28 n) n (bodyOf Tryd.f28) (lvOf Tryd.f28) (lvOf Tryd.f28).ret [1, 1, 1, 1, 0, 0] ks k st (evBody.endK tab (c28 n) Tryd.f28)
theorem el28_0 (n : Nat) : ∀ (k : Nat), ∀ (i0 : Int) (s1 : ByteArray) (b2 : Bool), ga28_0 n [] k (S28_0 i0 s1 b2) = lp28_0 n k i0 s1 b2 := by
  intro k
  induction k with
  | zero => intros; rfl
  | succ k ih =>
    intro i0 s1 b2
    have h : ga28_0 n [] (k + 1) (S28_0 i0 s1 b2) = st28_0 n (fun w0 w1 w2 => ga28_0 n [] k (S28_0 w0 w1 w2)) i0 s1 b2 := by kernel_rfl
    rw [h]
    have e : (fun w0 w1 w2 => ga28_0 n [] k (S28_0 w0 w1 w2)) = lp28_0 n k := by
      funext w0 w1 w2; exact ih w0 w1 w2
    rw [e]
    rfl
theorem e28 (n : Nat) (x : Int × Unit) : evBody tab (G28 n) n (c28 n) Tryd.f28 x = F28 n x.1 := by
  have h : evBody tab (G28 n) n (c28 n) Tryd.f28 x = st28 n (fun w0 w1 w2 => ga28_0 n [] n (S28_0 w0 w1 w2)) x.1 := by kernel_rfl
  rw [h]
  have e0 : (fun w0 w1 w2 => ga28_0 n [] n (S28_0 w0 w1 w2)) = lp28_0 n n := by
    funext w0 w1 w2; exact el28_0 n n w0 w1 w2
  rw [e0]
  rfl
theorem g28 (W : World) (n : Nat) : Good Tryd.prog W 28 (c28 n) := body_good follows tabOk GamOk.nil (f := 28) (fn := Tryd.f28) (c := bodyOf Tryd.f28) (by kernel_rfl) (by kernel_rfl) (by kernel_rfl) (by kernel_rfl) (by kernel_rfl) (by kernel_rfl) (by kernel_rfl) (fun x r h => ⟨n, (e28 n x).trans h⟩)
/-! spec.ReadDec -/
noncomputable def j25_1 (n : Nat) (s0 : ByteArray) (i1 : Int) (i2 : Int) : Option (Int × Bool × Unit) :=
  if (decide (i2 > 9)) = true then
    some (0, false, ())
  else
    if (decide ((s0.size : Int) > 10)) = true then
      some (0, false, ())
    else
      (F28 n i1).bind fun r1 =>
      if (!decide (r1.1.toList = s0.toList)) = true then
        some (0, false, ())
      else
        some (i1, true, ())
noncomputable def j25_0 (n : Nat) (s0 : ByteArray) (i1 : Int) (i2 : Int) : Option (Int × Bool × Unit) :=
  if (decide ((s0.size : Int) > 0)) = true then
    if (decide (0 ≤ 0)) = true then
    if (decide (0 < (s0.size : Int))) = true then
    if (decide ((bt s0 (0 : Int)) = 45)) = true then
      j25_1 n s0 (wrap64 (0 - i1)) i2
    else
      j25_1 n s0 i1 i2
    else none
    else none
  else
    j25_1 n s0 i1 i2
noncomputable def st25_0 (n : Nat) (g0 : ByteArray → Int → Int → Int → Option (Int × Bool × Unit)) (s0 : ByteArray) (i1 : Int) (i2 : Int) (i3 : Int) : Option (Int × Bool × Unit) :=
  if (decide (i3 < (s0.size : Int))) = true then
    if (decide (i3 < 11)) = true then
      if (decide (0 ≤ i3)) = true then
      if (decide (i3 < (s0.size : Int))) = true then
      if (decide ((bt s0 i3) ≥ 48)) = true then
        if (decide (0 ≤ i3)) = true then
        if (decide (i3 < (s0.size : Int))) = true then
        if (decide ((bt s0 i3) ≤ 57)) = true then
          if (decide (0 ≤ i3)) = true then
          if (decide (i3 < (s0.size : Int))) = true then
          g0 s0 (wrap64 ((wrap64 (i1 * 10)) + (wrap64 ((wrapI .u8 ((bt s0 i3) - 48)))))) (wrap64 (i2 + 1)) (wrap64 (i3 + 1))
          else none
          else none
        else
          g0 s0 i1 i2 (wrap64 (i3 + 1))
        else none
        else none
      else
        g0 s0 i1 i2 (wrap64 (i3 + 1))
      else none
      else none
    else
      j25_0 n s0 i1 i2
  else
    j25_0 n s0 i1 i2
noncomputable def lp25_0 (n : Nat) : Nat → ByteArray → Int → Int → Int → Option (Int × Bool × Unit)
  | 0 => fun _ _ _ _ => none
  | k + 1 => st25_0 n (lp25_0 n k)
noncomputable def st25 (n : Nat) (h0 : ByteArray → Int → Int → Int → Option (Int × Bool × Unit)) (a0 : ByteArray) : Option (Int × Bool × Unit) :=
  h0 a0 (0 : Int) (0 : Int) (0 : Int)
noncomputable def F25 (n : Nat) (a0 : ByteArray) : Option (Int × Bool × Unit) := st25 n (lp25_0 n n) a0
noncomputable def c25 (n : Nat) : Con := ⟨[.one (.str)], [], [.one (.int .i64), .one (.bool)], [], fun (x : ByteArray × Unit) => F25 n x.1⟩
noncomputable def G25 (n : Nat) : Gam := [((28, []), c28 n)]
noncomputable def S25_0 (s0 : ByteArray) (i1 : Int) (i2 : Int) (i3 : Int) : St := ⟨[.str s0, .dead, .dead, .dead, .int .i64 i1, .int .i64 i2, .int .i64 i3] ++ List.replicate 54 .dead, List.replicate 61 Ob.none⟩
noncomputable def ga25_0 (n : Nat) (ks : List Nat) (k : Nat) (st : St) : Option (Int × Bool × Unit) := goAt tab (G25 n) n (bodyOf Tryd.f25) (lvOf Tryd.f25) (lvOf Tryd.f25).ret [1, 1, 1, 0, 1, 0] ks k st (evBody.endK tab (c25 n) Tryd.f25)
theorem el25_0 (n : Nat) : ∀ (k : Nat), ∀ (s0 : ByteArray) (i1 : Int) (i2 : Int) (i3 : Int), ga25_0 n [] k (S25_0 s0 i1 i2 i3) = lp25_0 n k s0 i1 i2 i3 := by
  intro k
  induction k with
  | zero => intros; rfl
  | succ k ih =>
    intro s0 i1 i2 i3
    have h : ga25_0 n [] (k + 1) (S25_0 s0 i1 i2 i3) = st25_0 n (fun w0 w1 w2 w3 => ga25_0 n [] k (S25_0 w0 w1 w2 w3)) s0 i1 i2 i3 := by kernel_rfl
    rw [h]
    have e : (fun w0 w1 w2 w3 => ga25_0 n [] k (S25_0 w0 w1 w2 w3)) = lp25_0 n k := by
      funext w0 w1 w2 w3; exact ih w0 w1 w2 w3
    rw [e]
    rfl
theorem e25 (n : Nat) (x : ByteArray × Unit) : evBody tab (G25 n) n (c25 n) Tryd.f25 x = F25 n x.1 := by
  have h : evBody tab (G25 n) n (c25 n) Tryd.f25 x = st25 n (fun w0 w1 w2 w3 => ga25_0 n [] n (S25_0 w0 w1 w2 w3)) x.1 := by kernel_rfl
  rw [h]
  have e0 : (fun w0 w1 w2 w3 => ga25_0 n [] n (S25_0 w0 w1 w2 w3)) = lp25_0 n n := by
    funext w0 w1 w2 w3; exact el25_0 n n w0 w1 w2 w3
  rw [e0]
  rfl
theorem g25 (W : World) (n : Nat) : Good Tryd.prog W 25 (c25 n) := body_good follows tabOk (GamOk.cons (g28 W n) GamOk.nil) (f := 25) (fn := Tryd.f25) (c := bodyOf Tryd.f25) (by kernel_rfl) (by kernel_rfl) (by kernel_rfl) (by kernel_rfl) (by kernel_rfl) (by kernel_rfl) (by kernel_rfl) (fun x r h => ⟨n, (e25 n x).trans h⟩)
/-! spec.l4Byte -/
noncomputable def F45 (n : Nat) (a0 : Int) : Option (Bool × Unit) :=
  (F11 n a0 (97 : Int) (122 : Int)).bind fun r1 =>
  if r1.1 = true then
    some (true, ())
  else
    (F11 n a0 (65 : Int) (90 : Int)).bind fun r2 =>
    if r2.1 = true then
      some (true, ())
    else
      (F11 n a0 (48 : Int) (57 : Int)).bind fun r3 =>
      if r3.1 = true then
        some (true, ())
      else
        some (decide (a0 = 95), ())
noncomputable def c45 (n : Nat) : Con := ⟨[.one (.int .i64)], [], [.one (.bool)], [], fun (x : Int × Unit) => F45 n x.1⟩
noncomputable def G45 (n : Nat) : Gam := [((11, []), c11 n)]
theorem e45 (n : Nat) (x : Int × Unit) : evBody tab (G45 n) n (c45 n) Tryd.f45 x = F45 n x.1 := by kernel_rfl
theorem g45 (W : World) (n : Nat) : Good Tryd.prog W 45 (c45 n) := body_good follows tabOk (GamOk.cons (g11 W n) GamOk.nil) (f := 45) (fn := Tryd.f45) (c := bodyOf Tryd.f45) (by kernel_rfl) (by kernel_rfl) (by kernel_rfl) (by kernel_rfl) (by kernel_rfl) (by kernel_rfl) (by kernel_rfl) (fun x r h => ⟨n, (e45 n x).trans h⟩)
end Go.Eva
end
section
/- The functions, as their texts evaluate. -/
set_option linter.unusedVariables false
set_option maxRecDepth 100000
namespace Go.Eva
open Go.Proofs
open Go.RowKit (wrap64)
/-! spec.KeyOk -/
noncomputable def st38_0 (n : Nat) (g0 : ByteArray → Int → Option (Bool × Unit)) (s0 : ByteArray) (i1 : Int) : Option (Bool × Unit) :=
  if (decide (i1 < (s0.size : Int))) = true then
    if (decide (0 ≤ i1)) = true then
    if (decide (i1 < (s0.size : Int))) = true then
    (F45 n (wrap64 ((bt s0 i1)))).bind fun r1 =>
    if (!r1.1) = true then
      some (false, ())
    else
      g0 s0 (wrap64 (i1 + 1))
    else none
    else none
  else
    (F11 n (s0.size : Int) (1 : Int) (4 : Int)).bind fun r2 =>
    some (r2.1, ())
noncomputable def lp38_0 (n : Nat) : Nat → ByteArray → Int → Option (Bool × Unit)
  | 0 => fun _ _ => none
  | k + 1 => st38_0 n (lp38_0 n k)
noncomputable def st38 (n : Nat) (h0 : ByteArray → Int → Option (Bool × Unit)) (a0 : ByteArray) : Option (Bool × Unit) :=
  h0 a0 (0 : Int)
noncomputable def F38 (n : Nat) (a0 : ByteArray) : Option (Bool × Unit) := st38 n (lp38_0 n n) a0
noncomputable def c38 (n : Nat) : Con := ⟨[.one (.str)], [], [.one (.bool)], [], fun (x : ByteArray × Unit) => F38 n x.1⟩
noncomputable def G38 (n : Nat) : Gam := [((11, []), c11 n), ((45, []), c45 n)]
noncomputable def S38_0 (s0 : ByteArray) (i1 : Int) : St := ⟨[.str s0, .dead, .dead, .int .i64 i1] ++ List.replicate 15 .dead, List.replicate 19 Ob.none⟩
noncomputable def ga38_0 (n : Nat) (ks : List Nat) (k : Nat) (st : St) : Option (Bool × Unit) := goAt tab (G38 n) n (bodyOf Tryd.f38) (lvOf Tryd.f38) (lvOf Tryd.f38).ret [1, 0, 1, 0] ks k st (evBody.endK tab (c38 n) Tryd.f38)
theorem el38_0 (n : Nat) : ∀ (k : Nat), ∀ (s0 : ByteArray) (i1 : Int), ga38_0 n [] k (S38_0 s0 i1) = lp38_0 n k s0 i1 := by
  intro k
  induction k with
  | zero => intros; rfl
  | succ k ih =>
    intro s0 i1
    have h : ga38_0 n [] (k + 1) (S38_0 s0 i1) = st38_0 n (fun w0 w1 => ga38_0 n [] k (S38_0 w0 w1)) s0 i1 := by kernel_rfl
    rw [h]
    have e : (fun w0 w1 => ga38_0 n [] k (S38_0 w0 w1)) = lp38_0 n k := by
      funext w0 w1; exact ih w0 w1
    rw [e]
    rfl
theorem e38 (n : Nat) (x : ByteArray × Unit) : evBody tab (G38 n) n (c38 n) Tryd.f38 x = F38 n x.1 := by
  have h : evBody tab (G38 n) n (c38 n) Tryd.f38 x = st38 n (fun w0 w1 => ga38_0 n [] n (S38_0 w0 w1)) x.1 := by kernel_rfl
  rw [h]
  have e0 : (fun w0 w1 => ga38_0 n [] n (S38_0 w0 w1)) = lp38_0 n n := by
    funext w0 w1; exact el38_0 n n w0 w1
  rw [e0]
  rfl
theorem g38 (W : World) (n : Nat) : Good Tryd.prog W 38 (c38 n) := body_good follows tabOk (GamOk.cons (g11 W n) (GamOk.cons (g45 W n) GamOk.nil)) (f := 38) (fn := Tryd.f38) (c := bodyOf Tryd.f38) (by kernel_rfl) (by kernel_rfl) (by kernel_rfl) (by kernel_rfl) (by kernel_rfl) (by kernel_rfl) (by kernel_rfl) (fun x r h => ⟨n, (e38 n x).trans h⟩)
/-! spec.OpOk -/
noncomputable def F27 (n : Nat) (a0 : Int) (a1 : ByteArray) (a2 : Int) (a3 : Int) : Option (Bool × Unit) :=
  if (decide (a0 = 1)) = true then
    (F38 n a1).bind fun r1 =>
    if r1.1 = true then
      (F37 n a2).bind fun r2 =>
      if (!decide (r2.1.toList = (⟨#[]⟩ : ByteArray).toList)) = true then
        some (decide (a3 = 0), ())
      else
        some (false, ())
    else
      some (false, ())
  else
    if (decide (a0 = 2)) = true then
      (F38 n a1).bind fun r3 =>
      if r3.1 = true then
        if (decide (a2 = 0)) = true then
          (F11 n a3 (0 : Int) (65535 : Int)).bind fun r4 =>
          some (r4.1, ())
        else
          some (false, ())
      else
        some (false, ())
    else
      if (decide (a0 = 3)) = true then
        some ((decide (a0 = 3) && (decide (a1.toList = (⟨#[]⟩ : ByteArray).toList) && (decide (a2 = 0) && (decide (a3 = 0) && true)))), ())
      else
        some (false, ())
noncomputable def c27 (n : Nat) : Con := ⟨[.agg [(.int .i64), (.str), (.int .i64), (.int .i64)]], [], [.one (.bool)], [], fun (x : Int × ByteArray × Int × Int × Unit) => F27 n x.1 x.2.1 x.2.2.1 x.2.2.2.1⟩
noncomputable def G27 (n : Nat) : Gam := [((11, []), c11 n), ((37, []), c37 n), ((38, []), c38 n)]
theorem e27 (n : Nat) (x : Int × ByteArray × Int × Int × Unit) : evBody tab (G27 n) n (c27 n) Tryd.f27 x = F27 n x.1 x.2.1 x.2.2.1 x.2.2.2.1 := by kernel_rfl
theorem g27 (W : World) (n : Nat) : Good Tryd.prog W 27 (c27 n) := body_good follows tabOk (GamOk.cons (g11 W n) (GamOk.cons (g37 W n) (GamOk.cons (g38 W n) GamOk.nil))) (f := 27) (fn := Tryd.f27) (c := bodyOf Tryd.f27) (by kernel_rfl) (by kernel_rfl) (by kernel_rfl) (by kernel_rfl) (by kernel_rfl) (by kernel_rfl) (by kernel_rfl) (fun x r h => ⟨n, (e27 n x).trans h⟩)
/-! spec.ShowOp -/
noncomputable def F26 (n : Nat) (a0 : Int) (a1 : ByteArray) (a2 : Int) (a3 : Int) : Option (ByteArray × Unit) :=
  (F27 n a0 a1 a2 a3).bind fun r1 =>
  if (!r1.1) = true then
    some ((⟨#[]⟩ : ByteArray), ())
  else
    if (decide (a0 = 1)) = true then
      if (decide (((⟨#[114, 101, 103, 32]⟩ : ByteArray).size + a1.size : Nat) ≤ 9223372036854775807)) = true then
      if (decide ((((⟨#[114, 101, 103, 32]⟩ : ByteArray) ++ a1).size + (⟨#[32]⟩ : ByteArray).size : Nat) ≤ 9223372036854775807)) = true then
      (F37 n a2).bind fun r2 =>
      if (decide (((((⟨#[114, 101, 103, 32]⟩ : ByteArray) ++ a1) ++ (⟨#[32]⟩ : ByteArray)).size + r2.1.size : Nat) ≤ 9223372036854775807)) = true then
      some (((((⟨#[114, 101, 103, 32]⟩ : ByteArray) ++ a1) ++ (⟨#[32]⟩ : ByteArray)) ++ r2.1), ())
      else none
      else none
      else none
    else
      if (decide (a0 = 2)) = true then
        if (decide (((⟨#[114, 101, 99, 32]⟩ : ByteArray).size + a1.size : Nat) ≤ 9223372036854775807)) = true then
        if (decide ((((⟨#[114, 101, 99, 32]⟩ : ByteArray) ++ a1).size + (⟨#[32]⟩ : ByteArray).size : Nat) ≤ 9223372036854775807)) = true then
        (F28 n a3).bind fun r3 =>
        if (decide (((((⟨#[114, 101, 99, 32]⟩ : ByteArray) ++ a1) ++ (⟨#[32]⟩ : ByteArray)).size + r3.1.size : Nat) ≤ 9223372036854775807)) = true then
        some (((((⟨#[114, 101, 99, 32]⟩ : ByteArray) ++ a1) ++ (⟨#[32]⟩ : ByteArray)) ++ r3.1), ())
        else none
        else none
        else none
      else
        some ((⟨#[102, 108, 117, 115, 104]⟩ : ByteArray), ())
noncomputable def c26 (n : Nat) : Con := ⟨[.agg [(.int .i64), (.str), (.int .i64), (.int .i64)]], [], [.one (.str)], [], fun (x : Int × ByteArray × Int × Int × Unit) => F26 n x.1 x.2.1 x.2.2.1 x.2.2.2.1⟩
noncomputable def G26 (n : Nat) : Gam := [((27, []), c27 n), ((28, []), c28 n), ((37, []), c37 n)]
theorem e26 (n : Nat) (x : Int × ByteArray × Int × Int × Unit) : evBody tab (G26 n) n (c26 n) Tryd.f26 x = F26 n x.1 x.2.1 x.2.2.1 x.2.2.2.1 := by kernel_rfl
theorem g26 (W : World) (n : Nat) : Good Tryd.prog W 26 (c26 n) := body_good follows tabOk (GamOk.cons (g27 W n) (GamOk.cons (g28 W n) (GamOk.cons (g37 W n) GamOk.nil))) (f := 26) (fn := Tryd.f26) (c := bodyOf Tryd.f26) (by kernel_rfl) (by kernel_rfl) (by kernel_rfl) (by kernel_rfl) (by kernel_rfl) (by kernel_rfl) (by kernel_rfl) (fun x r h => ⟨n, (e26 n x).trans h⟩)
/-! spec.l21Cut -/
noncomputable def st9_0 (n : Nat) (g0 : ByteArray → Int → Int → Int → (List ByteArray) → Option (List ByteArray × Unit)) (s0 : ByteArray) (i1 : Int) (i2 : Int) (i3 : Int) (l4 : List ByteArray) : Option (List ByteArray × Unit) :=
  if (decide (i3 < (s0.size : Int))) = true then
    if (decide (0 ≤ i3)) = true then
    if (decide (i3 < (s0.size : Int))) = true then
    if (decide ((bt s0 i3) = i1)) = true then
      if (decide (0 ≤ i2)) = true then
      if (decide (i2 ≤ i3)) = true then
      if (decide (i3 ≤ (s0.size : Int))) = true then
      if (decide ((l4.length + ([(s0.extract i2.toNat i3.toNat)] : List ByteArray).length) * 16 ≤ 140737488355328)) = true then
      g0 s0 i1 (wrap64 (i3 + 1)) (wrap64 (i3 + 1)) (l4 ++ ([(s0.extract i2.toNat i3.toNat)] : List ByteArray))
      else none
      else none
      else none
      else none
    else
      g0 s0 i1 i2 (wrap64 (i3 + 1)) l4
    else none
    else none
  else
    if (decide (0 ≤ i2)) = true then
    if (decide (i2 ≤ (s0.size : Int))) = true then
    if (decide ((s0.size : Int) ≤ (s0.size : Int))) = true then
    if (decide ((l4.length + ([(s0.extract i2.toNat (s0.size : Int).toNat)] : List ByteArray).length) * 16 ≤ 140737488355328)) = true then
    some ((l4 ++ ([(s0.extract i2.toNat (s0.size : Int).toNat)] : List ByteArray)), ())
    else none
    else none
    else none
    else none
noncomputable def lp9_0 (n : Nat) : Nat → ByteArray → Int → Int → Int → (List ByteArray) → Option (List ByteArray × Unit)
  | 0 => fun _ _ _ _ _ => none
  | k + 1 => st9_0 n (lp9_0 n k)
noncomputable def st9 (n : Nat) (h0 : ByteArray → Int → Int → Int → (List ByteArray) → Option (List ByteArray × Unit)) (a0 : ByteArray) (a1 : Int) : Option (List ByteArray × Unit) :=
  h0 a0 a1 (0 : Int) (0 : Int) ([] : List ByteArray)
noncomputable def F9 (n : Nat) (a0 : ByteArray) (a1 : Int) : Option (List ByteArray × Unit) := st9 n (lp9_0 n n) a0 a1
noncomputable def c9 (n : Nat) : Con := ⟨[.one (.str), .one (.int .u8)], [], [.one (.sl .own 9 .str)], [], fun (x : ByteArray × Int × Unit) => F9 n x.1 x.2.1⟩
noncomputable def G9 (n : Nat) : Gam := []
noncomputable def S9_0 (s0 : ByteArray) (i1 : Int) (i2 : Int) (i3 : Int) (l4 : List ByteArray) : St := ⟨[.str s0, .int .u8 i1, .dead, .dead, .dead, .sr 5 0 none 0 0 none, .int .i64 i2, .int .i64 i3] ++ List.replicate 27 .dead, List.replicate 5 Ob.none ++ [⟨false, [.sl .own 9 .str l4], 0, 0⟩] ++ List.replicate 29 Ob.none⟩
noncomputable def ga9_0 (n : Nat) (ks : List Nat) (k : Nat) (st : St) : Option (List ByteArray × Unit) := goAt tab (G9 n) n (bodyOf Tryd.f9) (lvOf Tryd.f9) (lvOf Tryd.f9).ret [1, 1, 1, 0, 1, 0] ks k st (evBody.endK tab (c9 n) Tryd.f9)
theorem el9_0 (n : Nat) : ∀ (k : Nat), ∀ (s0 : ByteArray) (i1 : Int) (i2 : Int) (i3 : Int) (l4 : List ByteArray), ga9_0 n [] k (S9_0 s0 i1 i2 i3 l4) = lp9_0 n k s0 i1 i2 i3 l4 := by
  intro k
  induction k with
  | zero => intros; rfl
  | succ k ih =>
    intro s0 i1 i2 i3 l4
    have h : ga9_0 n [] (k + 1) (S9_0 s0 i1 i2 i3 l4) = st9_0 n (fun w0 w1 w2 w3 w4 => ga9_0 n [] k (S9_0 w0 w1 w2 w3 w4)) s0 i1 i2 i3 l4 := by kernel_rfl
    rw [h]
    have e : (fun w0 w1 w2 w3 w4 => ga9_0 n [] k (S9_0 w0 w1 w2 w3 w4)) = lp9_0 n k := by
      funext w0 w1 w2 w3 w4; exact ih w0 w1 w2 w3 w4
    rw [e]
    rfl
theorem e9 (n : Nat) (x : ByteArray × Int × Unit) : evBody tab (G9 n) n (c9 n) Tryd.f9 x = F9 n x.1 x.2.1 := by
  have h : evBody tab (G9 n) n (c9 n) Tryd.f9 x = st9 n (fun w0 w1 w2 w3 w4 => ga9_0 n [] n (S9_0 w0 w1 w2 w3 w4)) x.1 x.2.1 := by kernel_rfl
  rw [h]
  have e0 : (fun w0 w1 w2 w3 w4 => ga9_0 n [] n (S9_0 w0 w1 w2 w3 w4)) = lp9_0 n n := by
    funext w0 w1 w2 w3 w4; exact el9_0 n n w0 w1 w2 w3 w4
  rw [e0]
  rfl
theorem g9 (W : World) (n : Nat) : Good Tryd.prog W 9 (c9 n) := body_good follows tabOk GamOk.nil (f := 9) (fn := Tryd.f9) (c := bodyOf Tryd.f9) (by kernel_rfl) (by kernel_rfl) (by kernel_rfl) (by kernel_rfl) (by kernel_rfl) (by kernel_rfl) (by kernel_rfl) (fun x r h => ⟨n, (e9 n x).trans h⟩)
/-! spec.ReadOp -/
noncomputable def j10_1 (n : Nat) (s0 : ByteArray) (i1 : Int) (s2 : ByteArray) (i3 : Int) (i4 : Int) (i5 : Int) (s6 : ByteArray) (i7 : Int) (i8 : Int) : Option (Int × ByteArray × Int × Int × Bool × Unit) :=
  if (decide (s0.toList = (⟨#[]⟩ : ByteArray).toList)) = true then
    some (0, (⟨#[]⟩ : ByteArray), 0, 0, false, ())
  else
    (F26 n i5 s6 i7 i8).bind fun r4 =>
    if (!decide (r4.1.toList = s0.toList)) = true then
      some (0, (⟨#[]⟩ : ByteArray), 0, 0, false, ())
    else
      some (i5, s6, i7, i8, true, ())
noncomputable def j10_0 (n : Nat) (s0 : ByteArray) (i1 : Int) (s2 : ByteArray) (i3 : Int) (i4 : Int) (l5 : List ByteArray) (i6 : Int) (s7 : ByteArray) (i8 : Int) (i9 : Int) : Option (Int × ByteArray × Int × Int × Bool × Unit) :=
  if (decide ((l5.length : Int) = 3)) = true then
    if (decide (0 ≤ 0)) = true then
    if (decide (0 < (l5.length : Int))) = true then
    if (decide ((rdOf (⟨#[]⟩ : ByteArray) l5 (0 : Int)).toList = (⟨#[114, 101, 99]⟩ : ByteArray).toList)) = true then
      if (decide (0 ≤ 2)) = true then
      if (decide (2 < (l5.length : Int))) = true then
      (F25 n (rdOf (⟨#[]⟩ : ByteArray) l5 (2 : Int))).bind fun r3 =>
      if (decide (0 ≤ 1)) = true then
      if (decide (1 < (l5.length : Int))) = true then
      j10_1 n s0 i1 s2 i3 i4 (2 : Int) (rdOf (⟨#[]⟩ : ByteArray) l5 (1 : Int)) (0 : Int) r3.1
      else none
      else none
      else none
      else none
    else
      j10_1 n s0 i1 s2 i3 i4 i6 s7 i8 i9
    else none
    else none
  else
    j10_1 n s0 i1 s2 i3 i4 i6 s7 i8 i9
noncomputable def F10 (n : Nat) (a0 : ByteArray) : Option (Int × ByteArray × Int × Int × Bool × Unit) :=
  (F9 n a0 (32 : Int)).bind fun r1 =>
  if (decide ((r1.1.length : Int) = 3)) = true then
    if (decide (0 ≤ 0)) = true then
    if (decide (0 < (r1.1.length : Int))) = true then
    if (decide ((rdOf (⟨#[]⟩ : ByteArray) r1.1 (0 : Int)).toList = (⟨#[114, 101, 103]⟩ : ByteArray).toList)) = true then
      if (decide (0 ≤ 1)) = true then
      if (decide (1 < (r1.1.length : Int))) = true then
      if (decide (0 ≤ 2)) = true then
      if (decide (2 < (r1.1.length : Int))) = true then
      (F24 n (rdOf (⟨#[]⟩ : ByteArray) r1.1 (2 : Int))).bind fun r2 =>
      j10_0 n a0 (0 : Int) (⟨#[]⟩ : ByteArray) (0 : Int) (0 : Int) r1.1 (1 : Int) (rdOf (⟨#[]⟩ : ByteArray) r1.1 (1 : Int)) r2.1 (0 : Int)
      else none
      else none
      else none
      else none
    else
      j10_0 n a0 (0 : Int) (⟨#[]⟩ : ByteArray) (0 : Int) (0 : Int) r1.1 (3 : Int) (⟨#[]⟩ : ByteArray) (0 : Int) (0 : Int)
    else none
    else none
  else
    j10_0 n a0 (0 : Int) (⟨#[]⟩ : ByteArray) (0 : Int) (0 : Int) r1.1 (3 : Int) (⟨#[]⟩ : ByteArray) (0 : Int) (0 : Int)
noncomputable def c10 (n : Nat) : Con := ⟨[.one (.str)], [], [.agg [(.int .i64), (.str), (.int .i64), (.int .i64)], .one (.bool)], [], fun (x : ByteArray × Unit) => F10 n x.1⟩
noncomputable def G10 (n : Nat) : Gam := [((9, []), c9 n), ((24, []), c24 n), ((25, []), c25 n), ((26, []), c26 n)]
theorem e10 (n : Nat) (x : ByteArray × Unit) : evBody tab (G10 n) n (c10 n) Tryd.f10 x = F10 n x.1 := by kernel_rfl
theorem g10 (W : World) (n : Nat) : Good Tryd.prog W 10 (c10 n) := body_good follows tabOk (GamOk.cons (g9 W n) (GamOk.cons (g24 W n) (GamOk.cons (g25 W n) (GamOk.cons (g26 W n) GamOk.nil)))) (f := 10) (fn := Tryd.f10) (c := bodyOf Tryd.f10) (by kernel_rfl) (by kernel_rfl) (by kernel_rfl) (by kernel_rfl) (by kernel_rfl) (by kernel_rfl) (by kernel_rfl) (fun x r h => ⟨n, (e10 n x).trans h⟩)
/-! spec.TodoOk -/
noncomputable def st12_1 (n : Nat) (g0 : (List (List (Int × (ByteArray × (Int × Int))))) → Int → Option (Bool × Unit)) (g1 : (List (List (Int × (ByteArray × (Int × Int))))) → Int → Int → Option (Bool × Unit)) (l0 : List (List (Int × (ByteArray × (Int × Int))))) (i1 : Int) (i2 : Int) : Option (Bool × Unit) :=
  if (decide (0 ≤ i1)) = true then
  if (decide (i1 < (l0.length : Int))) = true then
  if (decide (i2 < ((rdOf ([] : List (Int × (ByteArray × (Int × Int)))) l0 i1).length : Int))) = true then
    if (decide (0 ≤ i1)) = true then
    if (decide (i1 < (l0.length : Int))) = true then
    if (decide (0 ≤ i2)) = true then
    if (decide (i2 < ((rdOf ([] : List (Int × (ByteArray × (Int × Int)))) l0 i1).length : Int))) = true then
    (F27 n ((rdOf ((0 : Int), ((⟨#[]⟩ : ByteArray), ((0 : Int), (0 : Int)))) (rdOf ([] : List (Int × (ByteArray × (Int × Int)))) l0 i1) i2).1) (((rdOf ((0 : Int), ((⟨#[]⟩ : ByteArray), ((0 : Int), (0 : Int)))) (rdOf ([] : List (Int × (ByteArray × (Int × Int)))) l0 i1) i2).2).1) ((((rdOf ((0 : Int), ((⟨#[]⟩ : ByteArray), ((0 : Int), (0 : Int)))) (rdOf ([] : List (Int × (ByteArray × (Int × Int)))) l0 i1) i2).2).2).1) ((((rdOf ((0 : Int), ((⟨#[]⟩ : ByteArray), ((0 : Int), (0 : Int)))) (rdOf ([] : List (Int × (ByteArray × (Int × Int)))) l0 i1) i2).2).2).2)).bind fun r1 =>
    if (!r1.1) = true then
      some (false, ())
    else
      if (!((decide ((rdOf ((0 : Int), ((⟨#[]⟩ : ByteArray), ((0 : Int), (0 : Int)))) (rdOf ([] : List (Int × (ByteArray × (Int × Int)))) l0 i1) i2).1 = 3)) == (decide (i1 = 3)))) = true then
        some (false, ())
      else
        g1 l0 i1 (wrap64 (i2 + 1))
    else none
    else none
    else none
    else none
  else
    g0 l0 (wrap64 (i1 + 1))
  else none
  else none
noncomputable def lp12_1 (n : Nat) (g0 : (List (List (Int × (ByteArray × (Int × Int))))) → Int → Option (Bool × Unit)) : Nat → (List (List (Int × (ByteArray × (Int × Int))))) → Int → Int → Option (Bool × Unit)
  | 0 => fun _ _ _ => none
  | k + 1 => st12_1 n g0 (lp12_1 n g0 k)
noncomputable def st12_0 (n : Nat) (h1 : (List (List (Int × (ByteArray × (Int × Int))))) → Int → Int → Option (Bool × Unit)) (g0 : (List (List (Int × (ByteArray × (Int × Int))))) → Int → Option (Bool × Unit)) (l0 : List (List (Int × (ByteArray × (Int × Int))))) (i1 : Int) : Option (Bool × Unit) :=
  if (decide (i1 < (l0.length : Int))) = true then
    if (decide (0 ≤ i1)) = true then
    if (decide (i1 < (l0.length : Int))) = true then
    if (decide (((rdOf ([] : List (Int × (ByteArray × (Int × Int)))) l0 i1).length : Int) > 10)) = true then
      some (false, ())
    else
      h1 l0 i1 (0 : Int)
    else none
    else none
  else
    some (decide ((l0.length : Int) = 4), ())
noncomputable def lp12_0 (n : Nat) : Nat → (List (List (Int × (ByteArray × (Int × Int))))) → Int → Option (Bool × Unit)
  | 0 => fun _ _ => none
  | k + 1 => st12_0 n (lp12_1 n (lp12_0 n k) n) (lp12_0 n k)
noncomputable def st12 (n : Nat) (h0 : (List (List (Int × (ByteArray × (Int × Int))))) → Int → Option (Bool × Unit)) (a0 : List (List (Int × (ByteArray × (Int × Int))))) : Option (Bool × Unit) :=
  h0 a0 (0 : Int)
noncomputable def F12 (n : Nat) (a0 : List (List (Int × (ByteArray × (Int × Int))))) : Option (Bool × Unit) := st12 n (lp12_0 n n) a0
noncomputable def c12 (n : Nat) : Con := ⟨[.one (.sl (.imm true) 37 (.sl 31 (.pair (.int .i64) (.pair .str (.pair (.int .i64) (.int .i64))))))], [], [.one (.bool)], [], fun (x : List (List (Int × (ByteArray × (Int × Int)))) × Unit) => F12 n x.1⟩
noncomputable def G12 (n : Nat) : Gam := [((27, []), c27 n)]
noncomputable def S12_1 (l0 : List (List (Int × (ByteArray × (Int × Int))))) (i1 : Int) (i2 : Int) : St := ⟨[.sl (.imm true) 37 (.sl 31 (.pair (.int .i64) (.pair .str (.pair (.int .i64) (.int .i64))))) l0, .dead, .dead, .int .i64 i1, .int .i64 i2] ++ List.replicate 46 .dead, List.replicate 51 Ob.none⟩
noncomputable def ga12_1 (n : Nat) (ks : List Nat) (k : Nat) (st : St) : Option (Bool × Unit) := goAt tab (G12 n) n (bodyOf Tryd.f12) (lvOf Tryd.f12) (lvOf Tryd.f12).ret [1, 0, 1, 0, 0, 1, 0, 0, 1, 1, 0] ks k st (evBody.endK tab (c12 n) Tryd.f12)
noncomputable def S12_0 (l0 : List (List (Int × (ByteArray × (Int × Int))))) (i1 : Int) : St := ⟨[.sl (.imm true) 37 (.sl 31 (.pair (.int .i64) (.pair .str (.pair (.int .i64) (.int .i64))))) l0, .dead, .dead, .int .i64 i1] ++ List.replicate 47 .dead, List.replicate 51 Ob.none⟩
noncomputable def ga12_0 (n : Nat) (ks : List Nat) (k : Nat) (st : St) : Option (Bool × Unit) := goAt tab (G12 n) n (bodyOf Tryd.f12) (lvOf Tryd.f12) (lvOf Tryd.f12).ret [1, 0, 1, 0] ks k st (evBody.endK tab (c12 n) Tryd.f12)
theorem el12_1 (n : Nat) (k0 : Nat) : ∀ (k : Nat), ∀ (l0 : List (List (Int × (ByteArray × (Int × Int))))) (i1 : Int) (i2 : Int), ga12_1 n [k0] k (S12_1 l0 i1 i2) = lp12_1 n (fun w0 w1 => ga12_0 n [] k0 (S12_0 w0 w1)) k l0 i1 i2 := by
  intro k
  induction k with
  | zero => intros; rfl
  | succ k ih =>
    intro l0 i1 i2
    have h : ga12_1 n [k0] (k + 1) (S12_1 l0 i1 i2) = st12_1 n (fun w0 w1 => ga12_0 n [] k0 (S12_0 w0 w1)) (fun w0 w1 w2 => ga12_1 n [k0] k (S12_1 w0 w1 w2)) l0 i1 i2 := by kernel_rfl
    rw [h]
    have e : (fun w0 w1 w2 => ga12_1 n [k0] k (S12_1 w0 w1 w2)) = lp12_1 n (fun w0 w1 => ga12_0 n [] k0 (S12_0 w0 w1)) k := by
      funext w0 w1 w2; exact ih w0 w1 w2
    rw [e]
    rfl
theorem el12_0 (n : Nat) : ∀ (k : Nat), ∀ (l0 : List (List (Int × (ByteArray × (Int × Int))))) (i1 : Int), ga12_0 n [] k (S12_0 l0 i1) = lp12_0 n k l0 i1 := by
  intro k
  induction k with
  | zero => intros; rfl
  | succ k ih =>
    intro l0 i1
    have h : ga12_0 n [] (k + 1) (S12_0 l0 i1) = st12_0 n (fun w0 w1 w2 => ga12_1 n [k] n (S12_1 w0 w1 w2)) (fun w0 w1 => ga12_0 n [] k (S12_0 w0 w1)) l0 i1 := by kernel_rfl
    rw [h]
    have e1 : (fun w0 w1 w2 => ga12_1 n [k] n (S12_1 w0 w1 w2)) = lp12_1 n (fun w0 w1 => ga12_0 n [] k (S12_0 w0 w1)) n := by
      funext w0 w1 w2; exact el12_1 n k n w0 w1 w2
    have e : (fun w0 w1 => ga12_0 n [] k (S12_0 w0 w1)) = lp12_0 n k := by
      funext w0 w1; exact ih w0 w1
    rw [e1, e]
    rfl
theorem e12 (n : Nat) (x : List (List (Int × (ByteArray × (Int × Int)))) × Unit) : evBody tab (G12 n) n (c12 n) Tryd.f12 x = F12 n x.1 := by
  have h : evBody tab (G12 n) n (c12 n) Tryd.f12 x = st12 n (fun w0 w1 => ga12_0 n [] n (S12_0 w0 w1)) x.1 := by kernel_rfl
  rw [h]
  have e0 : (fun w0 w1 => ga12_0 n [] n (S12_0 w0 w1)) = lp12_0 n n := by
    funext w0 w1; exact el12_0 n n w0 w1
  rw [e0]
  rfl
theorem g12 (W : World) (n : Nat) : Good Tryd.prog W 12 (c12 n) := body_good follows tabOk (GamOk.cons (g27 W n) GamOk.nil) (f := 12) (fn := Tryd.f12) (c := bodyOf Tryd.f12) (by kernel_rfl) (by kernel_rfl) (by kernel_rfl) (by kernel_rfl) (by kernel_rfl) (by kernel_rfl) (by kernel_rfl) (fun x r h => ⟨n, (e12 n x).trans h⟩)
/-! spec.ShowTodo -/
noncomputable def st13_1 (n : Nat) (g0 : (List (List (Int × (ByteArray × (Int × Int))))) → ByteArray → Int → Option (ByteArray × Unit)) (g1 : (List (List (Int × (ByteArray × (Int × Int))))) → ByteArray → Int → Int → Option (ByteArray × Unit)) (l0 : List (List (Int × (ByteArray × (Int × Int))))) (s1 : ByteArray) (i2 : Int) (i3 : Int) : Option (ByteArray × Unit) :=
  if (decide (0 ≤ i2)) = true then
  if (decide (i2 < (l0.length : Int))) = true then
  if (decide (i3 < ((rdOf ([] : List (Int × (ByteArray × (Int × Int)))) l0 i2).length : Int))) = true then
    (F28 n i2).bind fun r2 =>
    if (decide ((s1.size + r2.1.size : Nat) ≤ 9223372036854775807)) = true then
    if (decide (((s1 ++ r2.1).size + (⟨#[32]⟩ : ByteArray).size : Nat) ≤ 9223372036854775807)) = true then
    if (decide (0 ≤ i2)) = true then
    if (decide (i2 < (l0.length : Int))) = true then
    if (decide (0 ≤ i3)) = true then
    if (decide (i3 < ((rdOf ([] : List (Int × (ByteArray × (Int × Int)))) l0 i2).length : Int))) = true then
    (F26 n ((rdOf ((0 : Int), ((⟨#[]⟩ : ByteArray), ((0 : Int), (0 : Int)))) (rdOf ([] : List (Int × (ByteArray × (Int × Int)))) l0 i2) i3).1) (((rdOf ((0 : Int), ((⟨#[]⟩ : ByteArray), ((0 : Int), (0 : Int)))) (rdOf ([] : List (Int × (ByteArray × (Int × Int)))) l0 i2) i3).2).1) ((((rdOf ((0 : Int), ((⟨#[]⟩ : ByteArray), ((0 : Int), (0 : Int)))) (rdOf ([] : List (Int × (ByteArray × (Int × Int)))) l0 i2) i3).2).2).1) ((((rdOf ((0 : Int), ((⟨#[]⟩ : ByteArray), ((0 : Int), (0 : Int)))) (rdOf ([] : List (Int × (ByteArray × (Int × Int)))) l0 i2) i3).2).2).2)).bind fun r3 =>
    if (decide ((((s1 ++ r2.1) ++ (⟨#[32]⟩ : ByteArray)).size + r3.1.size : Nat) ≤ 9223372036854775807)) = true then
    if (decide (((((s1 ++ r2.1) ++ (⟨#[32]⟩ : ByteArray)) ++ r3.1).size + (⟨#[10]⟩ : ByteArray).size : Nat) ≤ 9223372036854775807)) = true then
    g1 l0 ((((s1 ++ r2.1) ++ (⟨#[32]⟩ : ByteArray)) ++ r3.1) ++ (⟨#[10]⟩ : ByteArray)) i2 (wrap64 (i3 + 1))
    else none
    else none
    else none
    else none
    else none
    else none
    else none
    else none
  else
    g0 l0 s1 (wrap64 (i2 + 1))
  else none
  else none
noncomputable def lp13_1 (n : Nat) (g0 : (List (List (Int × (ByteArray × (Int × Int))))) → ByteArray → Int → Option (ByteArray × Unit)) : Nat → (List (List (Int × (ByteArray × (Int × Int))))) → ByteArray → Int → Int → Option (ByteArray × Unit)
  | 0 => fun _ _ _ _ => none
  | k + 1 => st13_1 n g0 (lp13_1 n g0 k)
noncomputable def st13_0 (n : Nat) (h1 : (List (List (Int × (ByteArray × (Int × Int))))) → ByteArray → Int → Int → Option (ByteArray × Unit)) (g0 : (List (List (Int × (ByteArray × (Int × Int))))) → ByteArray → Int → Option (ByteArray × Unit)) (l0 : List (List (Int × (ByteArray × (Int × Int))))) (s1 : ByteArray) (i2 : Int) : Option (ByteArray × Unit) :=
  if (decide (i2 < (l0.length : Int))) = true then
    (F12 n l0).bind fun r1 =>
    if r1.1 = true then
      h1 l0 s1 i2 (0 : Int)
    else
      some (s1, ())
  else
    some (s1, ())
noncomputable def lp13_0 (n : Nat) : Nat → (List (List (Int × (ByteArray × (Int × Int))))) → ByteArray → Int → Option (ByteArray × Unit)
  | 0 => fun _ _ _ => none
  | k + 1 => st13_0 n (lp13_1 n (lp13_0 n k) n) (lp13_0 n k)
noncomputable def st13 (n : Nat) (h0 : (List (List (Int × (ByteArray × (Int × Int))))) → ByteArray → Int → Option (ByteArray × Unit)) (a0 : List (List (Int × (ByteArray × (Int × Int))))) : Option (ByteArray × Unit) :=
  h0 a0 (⟨#[]⟩ : ByteArray) (0 : Int)
noncomputable def F13 (n : Nat) (a0 : List (List (Int × (ByteArray × (Int × Int))))) : Option (ByteArray × Unit) := st13 n (lp13_0 n n) a0
noncomputable def c13 (n : Nat) : Con := ⟨[.one (.sl (.imm true) 37 (.sl 31 (.pair (.int .i64) (.pair .str (.pair (.int .i64) (.int .i64))))))], [], [.one (.str)], [], fun (x : List (List (Int × (ByteArray × (Int × Int)))) × Unit) => F13 n x.1⟩
noncomputable def G13 (n : Nat) : Gam := [((12, []), c12 n), ((26, []), c26 n), ((28, []), c28 n)]
noncomputable def S13_1 (l0 : List (List (Int × (ByteArray × (Int × Int))))) (s1 : ByteArray) (i2 : Int) (i3 : Int) : St := ⟨[.sl (.imm true) 37 (.sl 31 (.pair (.int .i64) (.pair .str (.pair (.int .i64) (.int .i64))))) l0, .dead, .dead, .str s1, .int .i64 i2, .int .i64 i3] ++ List.replicate 37 .dead, List.replicate 43 Ob.none⟩
noncomputable def ga13_1 (n : Nat) (ks : List Nat) (k : Nat) (st : St) : Option (ByteArray × Unit) := goAt tab (G13 n) n (bodyOf Tryd.f13) (lvOf Tryd.f13) (lvOf Tryd.f13).ret [1, 1, 0, 1, 0, 0, 1, 0, 0, 1, 0] ks k st (evBody.endK tab (c13 n) Tryd.f13)
noncomputable def S13_0 (l0 : List (List (Int × (ByteArray × (Int × Int))))) (s1 : ByteArray) (i2 : Int) : St := ⟨[.sl (.imm true) 37 (.sl 31 (.pair (.int .i64) (.pair .str (.pair (.int .i64) (.int .i64))))) l0, .dead, .dead, .str s1, .int .i64 i2] ++ List.replicate 38 .dead, List.replicate 43 Ob.none⟩
noncomputable def ga13_0 (n : Nat) (ks : List Nat) (k : Nat) (st : St) : Option (ByteArray × Unit) := goAt tab (G13 n) n (bodyOf Tryd.f13) (lvOf Tryd.f13) (lvOf Tryd.f13).ret [1, 1, 0, 1, 0] ks k st (evBody.endK tab (c13 n) Tryd.f13)
theorem el13_1 (n : Nat) (k0 : Nat) : ∀ (k : Nat), ∀ (l0 : List (List (Int × (ByteArray × (Int × Int))))) (s1 : ByteArray) (i2 : Int) (i3 : Int), ga13_1 n [k0] k (S13_1 l0 s1 i2 i3) = lp13_1 n (fun w0 w1 w2 => ga13_0 n [] k0 (S13_0 w0 w1 w2)) k l0 s1 i2 i3 := by
  intro k
  induction k with
  | zero => intros; rfl
  | succ k ih =>
    intro l0 s1 i2 i3
    have h : ga13_1 n [k0] (k + 1) (S13_1 l0 s1 i2 i3) = st13_1 n (fun w0 w1 w2 => ga13_0 n [] k0 (S13_0 w0 w1 w2)) (fun w0 w1 w2 w3 => ga13_1 n [k0] k (S13_1 w0 w1 w2 w3)) l0 s1 i2 i3 := by kernel_rfl
    rw [h]
    have e : (fun w0 w1 w2 w3 => ga13_1 n [k0] k (S13_1 w0 w1 w2 w3)) = lp13_1 n (fun w0 w1 w2 => ga13_0 n [] k0 (S13_0 w0 w1 w2)) k := by
      funext w0 w1 w2 w3; exact ih w0 w1 w2 w3
    rw [e]
    rfl
theorem el13_0 (n : Nat) : ∀ (k : Nat), ∀ (l0 : List (List (Int × (ByteArray × (Int × Int))))) (s1 : ByteArray) (i2 : Int), ga13_0 n [] k (S13_0 l0 s1 i2) = lp13_0 n k l0 s1 i2 := by
  intro k
  induction k with
  | zero => intros; rfl
  | succ k ih =>
    intro l0 s1 i2
    have h : ga13_0 n [] (k + 1) (S13_0 l0 s1 i2) = st13_0 n (fun w0 w1 w2 w3 => ga13_1 n [k] n (S13_1 w0 w1 w2 w3)) (fun w0 w1 w2 => ga13_0 n [] k (S13_0 w0 w1 w2)) l0 s1 i2 := by kernel_rfl
    rw [h]
    have e1 : (fun w0 w1 w2 w3 => ga13_1 n [k] n (S13_1 w0 w1 w2 w3)) = lp13_1 n (fun w0 w1 w2 => ga13_0 n [] k (S13_0 w0 w1 w2)) n := by
      funext w0 w1 w2 w3; exact el13_1 n k n w0 w1 w2 w3
    have e : (fun w0 w1 w2 => ga13_0 n [] k (S13_0 w0 w1 w2)) = lp13_0 n k := by
      funext w0 w1 w2; exact ih w0 w1 w2
    rw [e1, e]
    rfl
theorem e13 (n : Nat) (x : List (List (Int × (ByteArray × (Int × Int)))) × Unit) : evBody tab (G13 n) n (c13 n) Tryd.f13 x = F13 n x.1 := by
  have h : evBody tab (G13 n) n (c13 n) Tryd.f13 x = st13 n (fun w0 w1 w2 => ga13_0 n [] n (S13_0 w0 w1 w2)) x.1 := by kernel_rfl
  rw [h]
  have e0 : (fun w0 w1 w2 => ga13_0 n [] n (S13_0 w0 w1 w2)) = lp13_0 n n := by
    funext w0 w1 w2; exact el13_0 n n w0 w1 w2
  rw [e0]
  rfl
theorem g13 (W : World) (n : Nat) : Good Tryd.prog W 13 (c13 n) := body_good follows tabOk (GamOk.cons (g12 W n) (GamOk.cons (g26 W n) (GamOk.cons (g28 W n) GamOk.nil))) (f := 13) (fn := Tryd.f13) (c := bodyOf Tryd.f13) (by kernel_rfl) (by kernel_rfl) (by kernel_rfl) (by kernel_rfl) (by kernel_rfl) (by kernel_rfl) (by kernel_rfl) (fun x r h => ⟨n, (e13 n x).trans h⟩)
/-! spec.ReadTodo -/
noncomputable def st4_0 (n : Nat) (g0 : ByteArray → Int → (List (List (Int × (ByteArray × (Int × Int))))) → (List ByteArray) → Option (List (List (Int × (ByteArray × (Int × Int)))) × Bool × Unit)) (s0 : ByteArray) (i1 : Int) (l2 : List (List (Int × (ByteArray × (Int × Int))))) (l3 : List ByteArray) : Option (List (List (Int × (ByteArray × (Int × Int)))) × Bool × Unit) :=
  if (decide ((wrap64 (i1 + 1)) < (l3.length : Int))) = true then
    if (decide (0 ≤ i1)) = true then
    if (decide (i1 < (l3.length : Int))) = true then
    if (decide (((rdOf (⟨#[]⟩ : ByteArray) l3 i1).size : Int) < 3)) = true then
      some (([] : List (List (Int × (ByteArray × (Int × Int))))), false, ())
    else
      if (decide (0 ≤ i1)) = true then
      if (decide (i1 < (l3.length : Int))) = true then
      if (decide (0 ≤ 0)) = true then
      if (decide (0 < ((rdOf (⟨#[]⟩ : ByteArray) l3 i1).size : Int))) = true then
      if (decide (0 ≤ i1)) = true then
      if (decide (i1 < (l3.length : Int))) = true then
      if (decide (0 ≤ 2)) = true then
      if (decide (2 ≤ ((rdOf (⟨#[]⟩ : ByteArray) l3 i1).size : Int))) = true then
      if (decide (((rdOf (⟨#[]⟩ : ByteArray) l3 i1).size : Int) ≤ ((rdOf (⟨#[]⟩ : ByteArray) l3 i1).size : Int))) = true then
      (F10 n ((rdOf (⟨#[]⟩ : ByteArray) l3 i1).extract (2 : Int).toNat ((rdOf (⟨#[]⟩ : ByteArray) l3 i1).size : Int).toNat)).bind fun r2 =>
      if (!r2.2.2.2.2.1) = true then
        some (([] : List (List (Int × (ByteArray × (Int × Int))))), false, ())
      else
        (F11 n (wrap64 ((wrap64 ((bt (rdOf (⟨#[]⟩ : ByteArray) l3 i1) (0 : Int)))) - 48)) (0 : Int) (3 : Int)).bind fun r3 =>
        if (!r3.1) = true then
          some (([] : List (List (Int × (ByteArray × (Int × Int))))), false, ())
        else
          if (decide (0 ≤ (wrap64 ((wrap64 ((bt (rdOf (⟨#[]⟩ : ByteArray) l3 i1) (0 : Int)))) - 48)))) = true then
          if (decide ((wrap64 ((wrap64 ((bt (rdOf (⟨#[]⟩ : ByteArray) l3 i1) (0 : Int)))) - 48)) < (l2.length : Int))) = true then
          if (decide (((rdOf ([] : List (Int × (ByteArray × (Int × Int)))) l2 (wrap64 ((wrap64 ((bt (rdOf (⟨#[]⟩ : ByteArray) l3 i1) (0 : Int)))) - 48))).length + ([(r2.1, (r2.2.1, (r2.2.2.1, r2.2.2.2.1)))] : List (Int × (ByteArray × (Int × Int)))).length) * 40 ≤ 140737488355328)) = true then
          if (decide (0 ≤ (wrap64 ((wrap64 ((bt (rdOf (⟨#[]⟩ : ByteArray) l3 i1) (0 : Int)))) - 48)))) = true then
          if (decide ((wrap64 ((wrap64 ((bt (rdOf (⟨#[]⟩ : ByteArray) l3 i1) (0 : Int)))) - 48)) < (l2.length : Int))) = true then
          if (decide ((wrap64 ((wrap64 ((bt (rdOf (⟨#[]⟩ : ByteArray) l3 i1) (0 : Int)))) - 48)) = (wrap64 ((wrap64 ((bt (rdOf (⟨#[]⟩ : ByteArray) l3 i1) (0 : Int)))) - 48)))) = true then
          g0 s0 (wrap64 (i1 + 1)) (l2.set (wrap64 ((wrap64 ((bt (rdOf (⟨#[]⟩ : ByteArray) l3 i1) (0 : Int)))) - 48)).toNat ((rdOf ([] : List (Int × (ByteArray × (Int × Int)))) l2 (wrap64 ((wrap64 ((bt (rdOf (⟨#[]⟩ : ByteArray) l3 i1) (0 : Int)))) - 48))) ++ ([(r2.1, (r2.2.1, (r2.2.2.1, r2.2.2.2.1)))] : List (Int × (ByteArray × (Int × Int)))))) l3
          else none
          else none
          else none
          else none
          else none
          else none
      else none
      else none
      else none
      else none
      else none
      else none
      else none
      else none
      else none
    else none
    else none
  else
    (F12 n l2).bind fun r4 =>
    if (!r4.1) = true then
      some (([] : List (List (Int × (ByteArray × (Int × Int))))), false, ())
    else
      (F13 n l2).bind fun r5 =>
      if (!decide (r5.1.toList = s0.toList)) = true then
        some (([] : List (List (Int × (ByteArray × (Int × Int))))), false, ())
      else
        some (l2, true, ())
noncomputable def lp4_0 (n : Nat) : Nat → ByteArray → Int → (List (List (Int × (ByteArray × (Int × Int))))) → (List ByteArray) → Option (List (List (Int × (ByteArray × (Int × Int)))) × Bool × Unit)
  | 0 => fun _ _ _ _ => none
  | k + 1 => st4_0 n (lp4_0 n k)
noncomputable def st4 (n : Nat) (h0 : ByteArray → Int → (List (List (Int × (ByteArray × (Int × Int))))) → (List ByteArray) → Option (List (List (Int × (ByteArray × (Int × Int)))) × Bool × Unit)) (a0 : ByteArray) : Option (List (List (Int × (ByteArray × (Int × Int)))) × Bool × Unit) :=
  if (decide (0 ≤ 4)) = true then
  if (decide (4 = 4)) = true then
  if (decide (4 * 24 ≤ 140737488355328)) = true then
  (F9 n a0 (10 : Int)).bind fun r1 =>
  h0 a0 (0 : Int) (List.replicate (4 : Int).toNat ([] : List (Int × (ByteArray × (Int × Int))))) r1.1
  else none
  else none
  else none
noncomputable def F4 (n : Nat) (a0 : ByteArray) : Option (List (List (Int × (ByteArray × (Int × Int)))) × Bool × Unit) := st4 n (lp4_0 n n) a0
noncomputable def c4 (n : Nat) : Con := ⟨[.one (.str)], [], [.one (.sl .own 37 (.sl 31 (.pair (.int .i64) (.pair .str (.pair (.int .i64) (.int .i64)))))), .one (.bool)], [], fun (x : ByteArray × Unit) => F4 n x.1⟩
noncomputable def G4 (n : Nat) : Gam := [((9, []), c9 n), ((10, []), c10 n), ((11, []), c11 n), ((12, []), c12 n), ((13, []), c13 n)]
noncomputable def S4_0 (s0 : ByteArray) (i1 : Int) (l2 : List (List (Int × (ByteArray × (Int × Int))))) (l3 : List ByteArray) : St := ⟨[.str s0, .dead, .dead, .dead, .sr 4 0 none 0 0 none, .sr 5 0 none 0 0 none, .int .i64 i1] ++ List.replicate 67 .dead, List.replicate 4 Ob.none ++ [⟨false, [.sl .own 37 (.sl 31 (.pair (.int .i64) (.pair .str (.pair (.int .i64) (.int .i64))))) l2], 0, 0⟩, ⟨false, [.sl .own 9 .str l3], 0, 0⟩] ++ List.replicate 68 Ob.none⟩
noncomputable def ga4_0 (n : Nat) (ks : List Nat) (k : Nat) (st : St) : Option (List (List (Int × (ByteArray × (Int × Int)))) × Bool × Unit) := goAt tab (G4 n) n (bodyOf Tryd.f4) (lvOf Tryd.f4) (lvOf Tryd.f4).ret [1, 1, 1, 0, 1, 0] ks k st (evBody.endK tab (c4 n) Tryd.f4)
theorem el4_0 (n : Nat) : ∀ (k : Nat), ∀ (s0 : ByteArray) (i1 : Int) (l2 : List (List (Int × (ByteArray × (Int × Int))))) (l3 : List ByteArray), ga4_0 n [] k (S4_0 s0 i1 l2 l3) = lp4_0 n k s0 i1 l2 l3 := by
  intro k
  induction k with
  | zero => intros; rfl
  | succ k ih =>
    intro s0 i1 l2 l3
    have h : ga4_0 n [] (k + 1) (S4_0 s0 i1 l2 l3) = st4_0 n (fun w0 w1 w2 w3 => ga4_0 n [] k (S4_0 w0 w1 w2 w3)) s0 i1 l2 l3 := by kernel_rfl
    rw [h]
    have e : (fun w0 w1 w2 w3 => ga4_0 n [] k (S4_0 w0 w1 w2 w3)) = lp4_0 n k := by
      funext w0 w1 w2 w3; exact ih w0 w1 w2 w3
    rw [e]
    rfl
theorem e4 (n : Nat) (x : ByteArray × Unit) : evBody tab (G4 n) n (c4 n) Tryd.f4 x = F4 n x.1 := by
  have h : evBody tab (G4 n) n (c4 n) Tryd.f4 x = st4 n (fun w0 w1 w2 w3 => ga4_0 n [] n (S4_0 w0 w1 w2 w3)) x.1 := by kernel_rfl
  rw [h]
  have e0 : (fun w0 w1 w2 w3 => ga4_0 n [] n (S4_0 w0 w1 w2 w3)) = lp4_0 n n := by
    funext w0 w1 w2 w3; exact el4_0 n n w0 w1 w2 w3
  rw [e0]
  rfl
theorem g4 (W : World) (n : Nat) : Good Tryd.prog W 4 (c4 n) := body_good follows tabOk (GamOk.cons (g9 W n) (GamOk.cons (g10 W n) (GamOk.cons (g11 W n) (GamOk.cons (g12 W n) (GamOk.cons (g13 W n) GamOk.nil))))) (f := 4) (fn := Tryd.f4) (c := bodyOf Tryd.f4) (by kernel_rfl) (by kernel_rfl) (by kernel_rfl) (by kernel_rfl) (by kernel_rfl) (by kernel_rfl) (by kernel_rfl) (fun x r h => ⟨n, (e4 n x).trans h⟩)
/-! laws.eqOp -/
noncomputable def F44 (n : Nat) (a0 : Int) (a1 : ByteArray) (a2 : Int) (a3 : Int) (a4 : Int) (a5 : ByteArray) (a6 : Int) (a7 : Int) : Option (Bool × Unit) :=
  if (decide (a0 ≠ a4)) = true then
    some (false, ())
  else
    if (!decide (a1.toList = a5.toList)) = true then
      some (false, ())
    else
      if (decide (a2 ≠ a6)) = true then
        some (false, ())
      else
        if (decide (a3 ≠ a7)) = true then
          some (false, ())
        else
          some (true, ())
noncomputable def c44 (n : Nat) : Con := ⟨[.agg [(.int .i64), (.str), (.int .i64), (.int .i64)], .agg [(.int .i64), (.str), (.int .i64), (.int .i64)]], [], [.one (.bool)], [], fun (x : Int × ByteArray × Int × Int × Int × ByteArray × Int × Int × Unit) => F44 n x.1 x.2.1 x.2.2.1 x.2.2.2.1 x.2.2.2.2.1 x.2.2.2.2.2.1 x.2.2.2.2.2.2.1 x.2.2.2.2.2.2.2.1⟩
noncomputable def G44 (n : Nat) : Gam := []
theorem e44 (n : Nat) (x : Int × ByteArray × Int × Int × Int × ByteArray × Int × Int × Unit) : evBody tab (G44 n) n (c44 n) Tryd.f44 x = F44 n x.1 x.2.1 x.2.2.1 x.2.2.2.1 x.2.2.2.2.1 x.2.2.2.2.2.1 x.2.2.2.2.2.2.1 x.2.2.2.2.2.2.2.1 := by kernel_rfl
theorem g44 (W : World) (n : Nat) : Good Tryd.prog W 44 (c44 n) := body_good follows tabOk GamOk.nil (f := 44) (fn := Tryd.f44) (c := bodyOf Tryd.f44) (by kernel_rfl) (by kernel_rfl) (by kernel_rfl) (by kernel_rfl) (by kernel_rfl) (by kernel_rfl) (by kernel_rfl) (fun x r h => ⟨n, (e44 n x).trans h⟩)
/-! laws.eqOpS -/
noncomputable def st35_0 (n : Nat) (g0 : (List (Int × (ByteArray × (Int × Int)))) → (List (Int × (ByteArray × (Int × Int)))) → Int → Option (Bool × Unit)) (l0 : List (Int × (ByteArray × (Int × Int)))) (l1 : List (Int × (ByteArray × (Int × Int)))) (i2 : Int) : Option (Bool × Unit) :=
  if (decide (i2 < (l0.length : Int))) = true then
    if (decide (0 ≤ i2)) = true then
    if (decide (i2 < (l0.length : Int))) = true then
    if (decide (0 ≤ i2)) = true then
    if (decide (i2 < (l1.length : Int))) = true then
    (F44 n ((rdOf ((0 : Int), ((⟨#[]⟩ : ByteArray), ((0 : Int), (0 : Int)))) l0 i2).1) (((rdOf ((0 : Int), ((⟨#[]⟩ : ByteArray), ((0 : Int), (0 : Int)))) l0 i2).2).1) ((((rdOf ((0 : Int), ((⟨#[]⟩ : ByteArray), ((0 : Int), (0 : Int)))) l0 i2).2).2).1) ((((rdOf ((0 : Int), ((⟨#[]⟩ : ByteArray), ((0 : Int), (0 : Int)))) l0 i2).2).2).2) ((rdOf ((0 : Int), ((⟨#[]⟩ : ByteArray), ((0 : Int), (0 : Int)))) l1 i2).1) (((rdOf ((0 : Int), ((⟨#[]⟩ : ByteArray), ((0 : Int), (0 : Int)))) l1 i2).2).1) ((((rdOf ((0 : Int), ((⟨#[]⟩ : ByteArray), ((0 : Int), (0 : Int)))) l1 i2).2).2).1) ((((rdOf ((0 : Int), ((⟨#[]⟩ : ByteArray), ((0 : Int), (0 : Int)))) l1 i2).2).2).2)).bind fun r1 =>
    if (!r1.1) = true then
      some (false, ())
    else
      g0 l0 l1 (wrap64 (i2 + 1))
    else none
    else none
    else none
    else none
  else
    some (true, ())
noncomputable def lp35_0 (n : Nat) : Nat → (List (Int × (ByteArray × (Int × Int)))) → (List (Int × (ByteArray × (Int × Int)))) → Int → Option (Bool × Unit)
  | 0 => fun _ _ _ => none
  | k + 1 => st35_0 n (lp35_0 n k)
noncomputable def st35 (n : Nat) (h0 : (List (Int × (ByteArray × (Int × Int)))) → (List (Int × (ByteArray × (Int × Int)))) → Int → Option (Bool × Unit)) (a0 : List (Int × (ByteArray × (Int × Int)))) (a1 : List (Int × (ByteArray × (Int × Int)))) : Option (Bool × Unit) :=
  if (decide ((a0.length : Int) ≠ (a1.length : Int))) = true then
    some (false, ())
  else
    h0 a0 a1 (0 : Int)
noncomputable def F35 (n : Nat) (a0 : List (Int × (ByteArray × (Int × Int)))) (a1 : List (Int × (ByteArray × (Int × Int)))) : Option (Bool × Unit) := st35 n (lp35_0 n n) a0 a1
noncomputable def c35 (n : Nat) : Con := ⟨[.one (.sl (.imm true) 31 (.pair (.int .i64) (.pair .str (.pair (.int .i64) (.int .i64))))), .one (.sl (.imm true) 31 (.pair (.int .i64) (.pair .str (.pair (.int .i64) (.int .i64)))))], [], [.one (.bool)], [], fun (x : List (Int × (ByteArray × (Int × Int))) × List (Int × (ByteArray × (Int × Int))) × Unit) => F35 n x.1 x.2.1⟩
noncomputable def G35 (n : Nat) : Gam := [((44, []), c44 n)]
noncomputable def S35_0 (l0 : List (Int × (ByteArray × (Int × Int)))) (l1 : List (Int × (ByteArray × (Int × Int)))) (i2 : Int) : St := ⟨[.sl (.imm true) 31 (.pair (.int .i64) (.pair .str (.pair (.int .i64) (.int .i64)))) l0, .sl (.imm true) 31 (.pair (.int .i64) (.pair .str (.pair (.int .i64) (.int .i64)))) l1, .dead, .dead, .dead, .int .i64 i2] ++ List.replicate 21 .dead, List.replicate 27 Ob.none⟩
noncomputable def ga35_0 (n : Nat) (ks : List Nat) (k : Nat) (st : St) : Option (Bool × Unit) := goAt tab (G35 n) n (bodyOf Tryd.f35) (lvOf Tryd.f35) (lvOf Tryd.f35).ret [1, 1, 0, 1, 0] ks k st (evBody.endK tab (c35 n) Tryd.f35)
theorem el35_0 (n : Nat) : ∀ (k : Nat), ∀ (l0 : List (Int × (ByteArray × (Int × Int)))) (l1 : List (Int × (ByteArray × (Int × Int)))) (i2 : Int), ga35_0 n [] k (S35_0 l0 l1 i2) = lp35_0 n k l0 l1 i2 := by
  intro k
  induction k with
  | zero => intros; rfl
  | succ k ih =>
    intro l0 l1 i2
    have h : ga35_0 n [] (k + 1) (S35_0 l0 l1 i2) = st35_0 n (fun w0 w1 w2 => ga35_0 n [] k (S35_0 w0 w1 w2)) l0 l1 i2 := by kernel_rfl
    rw [h]
    have e : (fun w0 w1 w2 => ga35_0 n [] k (S35_0 w0 w1 w2)) = lp35_0 n k := by
      funext w0 w1 w2; exact ih w0 w1 w2
    rw [e]
    rfl
theorem e35 (n : Nat) (x : List (Int × (ByteArray × (Int × Int))) × List (Int × (ByteArray × (Int × Int))) × Unit) : evBody tab (G35 n) n (c35 n) Tryd.f35 x = F35 n x.1 x.2.1 := by
  have h : evBody tab (G35 n) n (c35 n) Tryd.f35 x = st35 n (fun w0 w1 w2 => ga35_0 n [] n (S35_0 w0 w1 w2)) x.1 x.2.1 := by kernel_rfl
  rw [h]
  have e0 : (fun w0 w1 w2 => ga35_0 n [] n (S35_0 w0 w1 w2)) = lp35_0 n n := by
    funext w0 w1 w2; exact el35_0 n n w0 w1 w2
  rw [e0]
  rfl
theorem g35 (W : World) (n : Nat) : Good Tryd.prog W 35 (c35 n) := body_good follows tabOk (GamOk.cons (g44 W n) GamOk.nil) (f := 35) (fn := Tryd.f35) (c := bodyOf Tryd.f35) (by kernel_rfl) (by kernel_rfl) (by kernel_rfl) (by kernel_rfl) (by kernel_rfl) (by kernel_rfl) (by kernel_rfl) (fun x r h => ⟨n, (e35 n x).trans h⟩)
/-! laws.eqQueue -/
noncomputable def F21 (n : Nat) (a0 : List (Int × (ByteArray × (Int × Int)))) (a1 : List (Int × (ByteArray × (Int × Int)))) : Option (Bool × Unit) :=
  (F35 n a0 a1).bind fun r1 =>
  if (!r1.1) = true then
    some (false, ())
  else
    some (true, ())
noncomputable def c21 (n : Nat) : Con := ⟨[.agg [(.sl (.imm true) 31 (.pair (.int .i64) (.pair .str (.pair (.int .i64) (.int .i64)))))], .agg [(.sl (.imm true) 31 (.pair (.int .i64) (.pair .str (.pair (.int .i64) (.int .i64)))))]], [], [.one (.bool)], [], fun (x : List (Int × (ByteArray × (Int × Int))) × List (Int × (ByteArray × (Int × Int))) × Unit) => F21 n x.1 x.2.1⟩
noncomputable def G21 (n : Nat) : Gam := [((35, []), c35 n)]
theorem e21 (n : Nat) (x : List (Int × (ByteArray × (Int × Int))) × List (Int × (ByteArray × (Int × Int))) × Unit) : evBody tab (G21 n) n (c21 n) Tryd.f21 x = F21 n x.1 x.2.1 := by kernel_rfl
theorem g21 (W : World) (n : Nat) : Good Tryd.prog W 21 (c21 n) := body_good follows tabOk (GamOk.cons (g35 W n) GamOk.nil) (f := 21) (fn := Tryd.f21) (c := bodyOf Tryd.f21) (by kernel_rfl) (by kernel_rfl) (by kernel_rfl) (by kernel_rfl) (by kernel_rfl) (by kernel_rfl) (by kernel_rfl) (fun x r h => ⟨n, (e21 n x).trans h⟩)
/-! laws.eqQueueS -/
noncomputable def st6_0 (n : Nat) (g0 : (List (List (Int × (ByteArray × (Int × Int))))) → (List (List (Int × (ByteArray × (Int × Int))))) → Int → Option (Bool × Unit)) (l0 : List (List (Int × (ByteArray × (Int × Int))))) (l1 : List (List (Int × (ByteArray × (Int × Int))))) (i2 : Int) : Option (Bool × Unit) :=
  if (decide (i2 < (l0.length : Int))) = true then
    if (decide (0 ≤ i2)) = true then
    if (decide (i2 < (l0.length : Int))) = true then
    if (decide (0 ≤ i2)) = true then
    if (decide (i2 < (l1.length : Int))) = true then
    (F21 n (rdOf ([] : List (Int × (ByteArray × (Int × Int)))) l0 i2) (rdOf ([] : List (Int × (ByteArray × (Int × Int)))) l1 i2)).bind fun r1 =>
    if (!r1.1) = true then
      some (false, ())
    else
      g0 l0 l1 (wrap64 (i2 + 1))
    else none
    else none
    else none
    else none
  else
    some (true, ())
noncomputable def lp6_0 (n : Nat) : Nat → (List (List (Int × (ByteArray × (Int × Int))))) → (List (List (Int × (ByteArray × (Int × Int))))) → Int → Option (Bool × Unit)
  | 0 => fun _ _ _ => none
  | k + 1 => st6_0 n (lp6_0 n k)
noncomputable def st6 (n : Nat) (h0 : (List (List (Int × (ByteArray × (Int × Int))))) → (List (List (Int × (ByteArray × (Int × Int))))) → Int → Option (Bool × Unit)) (a0 : List (List (Int × (ByteArray × (Int × Int))))) (a1 : List (List (Int × (ByteArray × (Int × Int))))) : Option (Bool × Unit) :=
  if (decide ((a0.length : Int) ≠ (a1.length : Int))) = true then
    some (false, ())
  else
    h0 a0 a1 (0 : Int)
noncomputable def F6 (n : Nat) (a0 : List (List (Int × (ByteArray × (Int × Int))))) (a1 : List (List (Int × (ByteArray × (Int × Int))))) : Option (Bool × Unit) := st6 n (lp6_0 n n) a0 a1
noncomputable def c6 (n : Nat) : Con := ⟨[.one (.sl (.imm true) 37 (.sl 31 (.pair (.int .i64) (.pair .str (.pair (.int .i64) (.int .i64)))))), .one (.sl (.imm true) 37 (.sl 31 (.pair (.int .i64) (.pair .str (.pair (.int .i64) (.int .i64))))))], [], [.one (.bool)], [], fun (x : List (List (Int × (ByteArray × (Int × Int)))) × List (List (Int × (ByteArray × (Int × Int)))) × Unit) => F6 n x.1 x.2.1⟩
noncomputable def G6 (n : Nat) : Gam := [((21, []), c21 n)]
noncomputable def S6_0 (l0 : List (List (Int × (ByteArray × (Int × Int))))) (l1 : List (List (Int × (ByteArray × (Int × Int))))) (i2 : Int) : St := ⟨[.sl (.imm true) 37 (.sl 31 (.pair (.int .i64) (.pair .str (.pair (.int .i64) (.int .i64))))) l0, .sl (.imm true) 37 (.sl 31 (.pair (.int .i64) (.pair .str (.pair (.int .i64) (.int .i64))))) l1, .dead, .dead, .dead, .int .i64 i2] ++ List.replicate 21 .dead, List.replicate 27 Ob.none⟩
noncomputable def ga6_0 (n : Nat) (ks : List Nat) (k : Nat) (st : St) : Option (Bool × Unit) := goAt tab (G6 n) n (bodyOf Tryd.f6) (lvOf Tryd.f6) (lvOf Tryd.f6).ret [1, 1, 0, 1, 0] ks k st (evBody.endK tab (c6 n) Tryd.f6)
theorem el6_0 (n : Nat) : ∀ (k : Nat), ∀ (l0 : List (List (Int × (ByteArray × (Int × Int))))) (l1 : List (List (Int × (ByteArray × (Int × Int))))) (i2 : Int), ga6_0 n [] k (S6_0 l0 l1 i2) = lp6_0 n k l0 l1 i2 := by
  intro k
  induction k with
  | zero => intros; rfl
  | succ k ih =>
    intro l0 l1 i2
    have h : ga6_0 n [] (k + 1) (S6_0 l0 l1 i2) = st6_0 n (fun w0 w1 w2 => ga6_0 n [] k (S6_0 w0 w1 w2)) l0 l1 i2 := by kernel_rfl
    rw [h]
    have e : (fun w0 w1 w2 => ga6_0 n [] k (S6_0 w0 w1 w2)) = lp6_0 n k := by
      funext w0 w1 w2; exact ih w0 w1 w2
    rw [e]
    rfl
theorem e6 (n : Nat) (x : List (List (Int × (ByteArray × (Int × Int)))) × List (List (Int × (ByteArray × (Int × Int)))) × Unit) : evBody tab (G6 n) n (c6 n) Tryd.f6 x = F6 n x.1 x.2.1 := by
  have h : evBody tab (G6 n) n (c6 n) Tryd.f6 x = st6 n (fun w0 w1 w2 => ga6_0 n [] n (S6_0 w0 w1 w2)) x.1 x.2.1 := by kernel_rfl
  rw [h]
  have e0 : (fun w0 w1 w2 => ga6_0 n [] n (S6_0 w0 w1 w2)) = lp6_0 n n := by
    funext w0 w1 w2; exact el6_0 n n w0 w1 w2
  rw [e0]
  rfl
theorem g6 (W : World) (n : Nat) : Good Tryd.prog W 6 (c6 n) := body_good follows tabOk (GamOk.cons (g21 W n) GamOk.nil) (f := 6) (fn := Tryd.f6) (c := bodyOf Tryd.f6) (by kernel_rfl) (by kernel_rfl) (by kernel_rfl) (by kernel_rfl) (by kernel_rfl) (by kernel_rfl) (by kernel_rfl) (fun x r h => ⟨n, (e6 n x).trans h⟩)
/-! laws.markText -/
noncomputable def st36_0 (n : Nat) (g0 : Int → ByteArray → Option (ByteArray × Unit)) (i0 : Int) (s1 : ByteArray) : Option (ByteArray × Unit) :=
  if (decide (i0 > 0)) = true then
    if (decide (10 ≠ 0)) = true then
    if (decide (((strOf ([(wrapI .u8 ((wrap64 (48 + (i0.tmod (10 : Int))))))] : List Int)).size + s1.size : Nat) ≤ 9223372036854775807)) = true then
    if (decide (10 ≠ 0)) = true then
    g0 (wrap64 (i0.tdiv (10 : Int))) ((strOf ([(wrapI .u8 ((wrap64 (48 + (i0.tmod (10 : Int))))))] : List Int)) ++ s1)
    else none
    else none
    else none
  else
    if (decide (((⟨#[109]⟩ : ByteArray).size + s1.size : Nat) ≤ 9223372036854775807)) = true then
    some (((⟨#[109]⟩ : ByteArray) ++ s1), ())
    else none
noncomputable def lp36_0 (n : Nat) : Nat → Int → ByteArray → Option (ByteArray × Unit)
  | 0 => fun _ _ => none
  | k + 1 => st36_0 n (lp36_0 n k)
noncomputable def st36 (n : Nat) (h0 : Int → ByteArray → Option (ByteArray × Unit)) (a0 : Int) : Option (ByteArray × Unit) :=
  if (decide (a0 ≤ 0)) = true then
    some ((⟨#[109, 48]⟩ : ByteArray), ())
  else
    h0 a0 (⟨#[]⟩ : ByteArray)
noncomputable def F36 (n : Nat) (a0 : Int) : Option (ByteArray × Unit) := st36 n (lp36_0 n n) a0
noncomputable def c36 (n : Nat) : Con := ⟨[.one (.int .i64)], [], [.one (.str)], [], fun (x : Int × Unit) => F36 n x.1⟩
noncomputable def G36 (n : Nat) : Gam := []
noncomputable def S36_0 (i0 : Int) (s1 : ByteArray) : St := ⟨[.int .i64 i0, .dead, .dead, .str s1] ++ List.replicate 16 .dead, List.replicate 20 Ob.none⟩
noncomputable def ga36_0 (n : Nat) (ks : List Nat) (k : Nat) (st : St) : Option (ByteArray × Unit) := goAt tab (G36 n) n (bodyOf Tryd.f36) (lvOf Tryd.f36) (lvOf Tryd.f36).ret [1, 1, 1, 0, 0] ks k st (evBody.endK tab (c36 n) Tryd.f36)
theorem el36_0 (n : Nat) : ∀ (k : Nat), ∀ (i0 : Int) (s1 : ByteArray), ga36_0 n [] k (S36_0 i0 s1) = lp36_0 n k i0 s1 := by
  intro k
  induction k with
  | zero => intros; rfl
  | succ k ih =>
    intro i0 s1
    have h : ga36_0 n [] (k + 1) (S36_0 i0 s1) = st36_0 n (fun w0 w1 => ga36_0 n [] k (S36_0 w0 w1)) i0 s1 := by kernel_rfl
    rw [h]
    have e : (fun w0 w1 => ga36_0 n [] k (S36_0 w0 w1)) = lp36_0 n k := by
      funext w0 w1; exact ih w0 w1
    rw [e]
    rfl
theorem e36 (n : Nat) (x : Int × Unit) : evBody tab (G36 n) n (c36 n) Tryd.f36 x = F36 n x.1 := by
  have h : evBody tab (G36 n) n (c36 n) Tryd.f36 x = st36 n (fun w0 w1 => ga36_0 n [] n (S36_0 w0 w1)) x.1 := by kernel_rfl
  rw [h]
  have e0 : (fun w0 w1 => ga36_0 n [] n (S36_0 w0 w1)) = lp36_0 n n := by
    funext w0 w1; exact el36_0 n n w0 w1
  rw [e0]
  rfl
theorem g36 (W : World) (n : Nat) : Good Tryd.prog W 36 (c36 n) := body_good follows tabOk GamOk.nil (f := 36) (fn := Tryd.f36) (c := bodyOf Tryd.f36) (by kernel_rfl) (by kernel_rfl) (by kernel_rfl) (by kernel_rfl) (by kernel_rfl) (by kernel_rfl) (by kernel_rfl) (fun x r h => ⟨n, (e36 n x).trans h⟩)
/-! laws.heldOpS -/
noncomputable def st23_0 (n : Nat) (g0 : (List (Int × (ByteArray × (Int × Int)))) → Int → Int → Option (Int × Unit)) (l0 : List (Int × (ByteArray × (Int × Int)))) (i1 : Int) (i2 : Int) : Option (Int × Unit) :=
  if (decide (i2 < (l0.length : Int))) = true then
    if (decide (0 ≤ i2)) = true then
    if (decide (i2 < (l0.length : Int))) = true then
    if (decide ((rdOf ((0 : Int), ((⟨#[]⟩ : ByteArray), ((0 : Int), (0 : Int)))) l0 i2).1 ≠ i1)) = true then
      some ((-1), ())
    else
      if (decide (0 ≤ i2)) = true then
      if (decide (i2 < (l0.length : Int))) = true then
      (F36 n (wrap64 (i1 + 1))).bind fun r1 =>
      if (!decide ((((rdOf ((0 : Int), ((⟨#[]⟩ : ByteArray), ((0 : Int), (0 : Int)))) l0 i2).2).1).toList = r1.1.toList)) = true then
        some ((-1), ())
      else
        if (decide (0 ≤ i2)) = true then
        if (decide (i2 < (l0.length : Int))) = true then
        if (decide ((((rdOf ((0 : Int), ((⟨#[]⟩ : ByteArray), ((0 : Int), (0 : Int)))) l0 i2).2).2).1 ≠ (wrap64 ((wrap64 (i1 + 1)) + 1)))) = true then
          some ((-1), ())
        else
          if (decide (0 ≤ i2)) = true then
          if (decide (i2 < (l0.length : Int))) = true then
          if (decide ((((rdOf ((0 : Int), ((⟨#[]⟩ : ByteArray), ((0 : Int), (0 : Int)))) l0 i2).2).2).2 ≠ (wrap64 ((wrap64 ((wrap64 (i1 + 1)) + 1)) + 1)))) = true then
            some ((-1), ())
          else
            g0 l0 (wrap64 ((wrap64 ((wrap64 ((wrap64 (i1 + 1)) + 1)) + 1)) + 1)) (wrap64 (i2 + 1))
          else none
          else none
        else none
        else none
      else none
      else none
    else none
    else none
  else
    some (i1, ())
noncomputable def lp23_0 (n : Nat) : Nat → (List (Int × (ByteArray × (Int × Int)))) → Int → Int → Option (Int × Unit)
  | 0 => fun _ _ _ => none
  | k + 1 => st23_0 n (lp23_0 n k)
noncomputable def st23 (n : Nat) (h0 : (List (Int × (ByteArray × (Int × Int)))) → Int → Int → Option (Int × Unit)) (a0 : List (Int × (ByteArray × (Int × Int)))) (a1 : Int) : Option (Int × Unit) :=
  h0 a0 a1 (0 : Int)
noncomputable def F23 (n : Nat) (a0 : List (Int × (ByteArray × (Int × Int)))) (a1 : Int) : Option (Int × Unit) := st23 n (lp23_0 n n) a0 a1
noncomputable def c23 (n : Nat) : Con := ⟨[.one (.sl (.imm true) 31 (.pair (.int .i64) (.pair .str (.pair (.int .i64) (.int .i64))))), .one (.int .i64)], [], [.one (.int .i64)], [], fun (x : List (Int × (ByteArray × (Int × Int))) × Int × Unit) => F23 n x.1 x.2.1⟩
noncomputable def G23 (n : Nat) : Gam := [((36, []), c36 n)]
noncomputable def S23_0 (l0 : List (Int × (ByteArray × (Int × Int)))) (i1 : Int) (i2 : Int) : St := ⟨[.sl (.imm true) 31 (.pair (.int .i64) (.pair .str (.pair (.int .i64) (.int .i64)))) l0, .int .i64 i1, .dead, .dead, .dead, .int .i64 i2] ++ List.replicate 44 .dead, List.replicate 50 Ob.none⟩
noncomputable def ga23_0 (n : Nat) (ks : List Nat) (k : Nat) (st : St) : Option (Int × Unit) := goAt tab (G23 n) n (bodyOf Tryd.f23) (lvOf Tryd.f23) (lvOf Tryd.f23).ret [1, 0, 1, 0] ks k st (evBody.endK tab (c23 n) Tryd.f23)
theorem el23_0 (n : Nat) : ∀ (k : Nat), ∀ (l0 : List (Int × (ByteArray × (Int × Int)))) (i1 : Int) (i2 : Int), ga23_0 n [] k (S23_0 l0 i1 i2) = lp23_0 n k l0 i1 i2 := by
  intro k
  induction k with
  | zero => intros; rfl
  | succ k ih =>
    intro l0 i1 i2
    have h : ga23_0 n [] (k + 1) (S23_0 l0 i1 i2) = st23_0 n (fun w0 w1 w2 => ga23_0 n [] k (S23_0 w0 w1 w2)) l0 i1 i2 := by kernel_rfl
    rw [h]
    have e : (fun w0 w1 w2 => ga23_0 n [] k (S23_0 w0 w1 w2)) = lp23_0 n k := by
      funext w0 w1 w2; exact ih w0 w1 w2
    rw [e]
    rfl
theorem e23 (n : Nat) (x : List (Int × (ByteArray × (Int × Int))) × Int × Unit) : evBody tab (G23 n) n (c23 n) Tryd.f23 x = F23 n x.1 x.2.1 := by
  have h : evBody tab (G23 n) n (c23 n) Tryd.f23 x = st23 n (fun w0 w1 w2 => ga23_0 n [] n (S23_0 w0 w1 w2)) x.1 x.2.1 := by kernel_rfl
  rw [h]
  have e0 : (fun w0 w1 w2 => ga23_0 n [] n (S23_0 w0 w1 w2)) = lp23_0 n n := by
    funext w0 w1 w2; exact el23_0 n n w0 w1 w2
  rw [e0]
  rfl
theorem g23 (W : World) (n : Nat) : Good Tryd.prog W 23 (c23 n) := body_good follows tabOk (GamOk.cons (g36 W n) GamOk.nil) (f := 23) (fn := Tryd.f23) (c := bodyOf Tryd.f23) (by kernel_rfl) (by kernel_rfl) (by kernel_rfl) (by kernel_rfl) (by kernel_rfl) (by kernel_rfl) (by kernel_rfl) (fun x r h => ⟨n, (e23 n x).trans h⟩)
/-! laws.heldQueueS -/
noncomputable def st8_0 (n : Nat) (g0 : (List (List (Int × (ByteArray × (Int × Int))))) → Int → Int → Option (Int × Unit)) (l0 : List (List (Int × (ByteArray × (Int × Int))))) (i1 : Int) (i2 : Int) : Option (Int × Unit) :=
  if (decide (i2 < (l0.length : Int))) = true then
    if (decide (0 ≤ i2)) = true then
    if (decide (i2 < (l0.length : Int))) = true then
    (F23 n (rdOf ([] : List (Int × (ByteArray × (Int × Int)))) l0 i2) i1).bind fun r1 =>
    if (decide (r1.1 < 0)) = true then
      some ((-1), ())
    else
      g0 l0 r1.1 (wrap64 (i2 + 1))
    else none
    else none
  else
    some (i1, ())
noncomputable def lp8_0 (n : Nat) : Nat → (List (List (Int × (ByteArray × (Int × Int))))) → Int → Int → Option (Int × Unit)
  | 0 => fun _ _ _ => none
  | k + 1 => st8_0 n (lp8_0 n k)
noncomputable def st8 (n : Nat) (h0 : (List (List (Int × (ByteArray × (Int × Int))))) → Int → Int → Option (Int × Unit)) (a0 : List (List (Int × (ByteArray × (Int × Int))))) (a1 : Int) : Option (Int × Unit) :=
  h0 a0 a1 (0 : Int)
noncomputable def F8 (n : Nat) (a0 : List (List (Int × (ByteArray × (Int × Int))))) (a1 : Int) : Option (Int × Unit) := st8 n (lp8_0 n n) a0 a1
noncomputable def c8 (n : Nat) : Con := ⟨[.one (.sl (.imm true) 37 (.sl 31 (.pair (.int .i64) (.pair .str (.pair (.int .i64) (.int .i64)))))), .one (.int .i64)], [], [.one (.int .i64)], [], fun (x : List (List (Int × (ByteArray × (Int × Int)))) × Int × Unit) => F8 n x.1 x.2.1⟩
noncomputable def G8 (n : Nat) : Gam := [((23, []), c23 n)]
noncomputable def S8_0 (l0 : List (List (Int × (ByteArray × (Int × Int))))) (i1 : Int) (i2 : Int) : St := ⟨[.sl (.imm true) 37 (.sl 31 (.pair (.int .i64) (.pair .str (.pair (.int .i64) (.int .i64))))) l0, .int .i64 i1, .dead, .dead, .dead, .int .i64 i2] ++ List.replicate 16 .dead, List.replicate 22 Ob.none⟩
noncomputable def ga8_0 (n : Nat) (ks : List Nat) (k : Nat) (st : St) : Option (Int × Unit) := goAt tab (G8 n) n (bodyOf Tryd.f8) (lvOf Tryd.f8) (lvOf Tryd.f8).ret [1, 0, 1, 0] ks k st (evBody.endK tab (c8 n) Tryd.f8)
theorem el8_0 (n : Nat) : ∀ (k : Nat), ∀ (l0 : List (List (Int × (ByteArray × (Int × Int))))) (i1 : Int) (i2 : Int), ga8_0 n [] k (S8_0 l0 i1 i2) = lp8_0 n k l0 i1 i2 := by
  intro k
  induction k with
  | zero => intros; rfl
  | succ k ih =>
    intro l0 i1 i2
    have h : ga8_0 n [] (k + 1) (S8_0 l0 i1 i2) = st8_0 n (fun w0 w1 w2 => ga8_0 n [] k (S8_0 w0 w1 w2)) l0 i1 i2 := by kernel_rfl
    rw [h]
    have e : (fun w0 w1 w2 => ga8_0 n [] k (S8_0 w0 w1 w2)) = lp8_0 n k := by
      funext w0 w1 w2; exact ih w0 w1 w2
    rw [e]
    rfl
theorem e8 (n : Nat) (x : List (List (Int × (ByteArray × (Int × Int)))) × Int × Unit) : evBody tab (G8 n) n (c8 n) Tryd.f8 x = F8 n x.1 x.2.1 := by
  have h : evBody tab (G8 n) n (c8 n) Tryd.f8 x = st8 n (fun w0 w1 w2 => ga8_0 n [] n (S8_0 w0 w1 w2)) x.1 x.2.1 := by kernel_rfl
  rw [h]
  have e0 : (fun w0 w1 w2 => ga8_0 n [] n (S8_0 w0 w1 w2)) = lp8_0 n n := by
    funext w0 w1 w2; exact el8_0 n n w0 w1 w2
  rw [e0]
  rfl
theorem g8 (W : World) (n : Nat) : Good Tryd.prog W 8 (c8 n) := body_good follows tabOk (GamOk.cons (g23 W n) GamOk.nil) (f := 8) (fn := Tryd.f8) (c := bodyOf Tryd.f8) (by kernel_rfl) (by kernel_rfl) (by kernel_rfl) (by kernel_rfl) (by kernel_rfl) (by kernel_rfl) (by kernel_rfl) (fun x r h => ⟨n, (e8 n x).trans h⟩)
end Go.Eva
end
section
/- Total functions: rules for what an Option answers. -/
namespace Go.Eva
open Go.RowKit (wrap64)
set_option linter.unusedVariables false

def ok {α : Type} (x : Option α) (Q : α → Prop) : Prop := ∃ a, x = some a ∧ Q a
theorem ok.some {α : Type} {a : α} {Q : α → Prop} (h : Q a) : ok (some a) Q := ⟨a, rfl, h⟩
theorem ok.bind {α β : Type} {x : Option α} {f : α → Option β} {Q : α → Prop} {R : β → Prop} (h : ok x Q) (k : ∀ a, Q a → ok (f a) R) : ok (x.bind f) R := by
  obtain ⟨a, rfl, q⟩ := h
  exact k a q
theorem ok.guard {α : Type} {c : Prop} [Decidable c] {x : Option α} {Q : α → Prop} (h : c) (k : ok x Q) : ok (if decide c = true then x else none) Q := by rw [if_pos (decide_eq_true h)]; exact k
theorem ok.ite {α : Type} {c : Prop} [Decidable c] {x y : Option α} {Q : α → Prop} (h : c → ok x Q) (k : ¬ c → ok y Q) : ok (if decide c = true then x else y) Q := by
  by_cases hc : c
  · rw [if_pos (decide_eq_true hc)]; exact h hc
  · rw [if_neg (by simpa using hc)]; exact k hc
theorem ok.iteb {α : Type} {c : Bool} {x y : Option α} {Q : α → Prop} (h : c = true → ok x Q) (k : c = false → ok y Q) : ok (if c = true then x else y) Q := by
  cases c
  · exact k rfl
  · exact h rfl
theorem ok.mono {α : Type} {x : Option α} {Q R : α → Prop} (h : ok x Q) (k : ∀ a, Q a → R a) : ok x R := by
  obtain ⟨a, q1, q2⟩ := h
  exact ⟨a, q1, k a q2⟩
theorem w64 {x : Int} (h : -9223372036854775808 ≤ x) (h' : x ≤ 9223372036854775807) : wrap64 x = x := by unfold wrap64; omega
theorem andI_bd (x : Int) (m : Nat) (hm : m < 9223372036854775808) : 0 ≤ andI .i64 x m ∧ andI .i64 x m ≤ m := by
  unfold andI
  have h1 : (BitVec.ofInt IntKind.i64.bits x &&& BitVec.ofInt IntKind.i64.bits (m : Int)).toNat ≤ m := by
    rw [BitVec.toNat_and]
    have : (BitVec.ofInt IntKind.i64.bits (m : Int)).toNat = m := by
      rw [BitVec.toNat_ofInt]
      show ((m : Int) % (2 ^ 64 : Nat)).toNat = m
      omega
    rw [this]
    exact Nat.and_le_right
  have h2 : IntKind.i64.wrap ((BitVec.ofInt IntKind.i64.bits x &&& BitVec.ofInt IntKind.i64.bits (m : Int)).toNat : Int) = ((BitVec.ofInt IntKind.i64.bits x &&& BitVec.ofInt IntKind.i64.bits (m : Int)).toNat : Int) := by
    rw [IntKind.wrap_i64]; omega
  rw [h2]
  omega
theorem and255 (x : Int) : 0 ≤ andI .i64 x 255 ∧ andI .i64 x 255 < 256 := by
  have := andI_bd x 255 (by omega)
  exact ⟨this.1, Int.lt_of_le_of_lt this.2 (by decide)⟩
theorem rdOf_mem {α : Type} {d : α} {l : List α} {i : Int} (h : 0 ≤ i) (h' : i < (l.length : Int)) : rdOf d l i ∈ l := by
  unfold rdOf
  rw [List.getD_eq_getElem?_getD, List.getElem?_eq_getElem (by omega)]
  exact List.getElem_mem _
theorem rdOf_nat {α : Type} {d : α} {l : List α} {i : Nat} (h : i < l.length) : rdOf d l (i : Int) = l[i] := by
  unfold rdOf
  rw [List.getD_eq_getElem?_getD, Int.toNat_natCast, List.getElem?_eq_getElem h]; rfl
/-- A loop's rule: what goes down, and what stays. -/
theorem tmod_bd {x n : Int} (h : 0 ≤ x) (hn : 0 < n) : 0 ≤ x.tmod n ∧ x.tmod n < n := ⟨Int.tmod_nonneg _ h, Int.tmod_lt_of_pos _ hn⟩
end Go.Eva
end
section
/- Marks, written in place: the walks. -/
namespace Go.Eva
open Go.Proofs Go.Shelf
open Go.RowKit Go.Lib
set_option linter.unusedVariables false
set_option linter.unusedSimpArgs false
set_option maxRecDepth 100000
structure Hid (p : Prop) : Prop where
  out : p
theorem wr4 {x : Int} (h0 : 0 ≤ x) (h1 : x ≤ 1000000000000) : wrap64 (x + 1) = x + 1 ∧ wrap64 (x + 1 + 1) = x + 2 ∧ wrap64 (x + 2 + 1) = x + 3 ∧ wrap64 (x + 3 + 1) = x + 4 :=
  ⟨by rw [w64 (by omega) (by omega)], by rw [w64 (by omega) (by omega)]; omega, by rw [w64 (by omega) (by omega)]; omega, by rw [w64 (by omega) (by omega)]; omega⟩
abbrev kOp : Kd := .pair (.int .i64) (.pair .str (.pair (.int .i64) (.int .i64)))
def mkOp (mt : Int → ByteArray) (k : Int) : kOp.T := (k, (mt (k + 1), (k + 2, k + 3)))
theorem set4 (cur : Array Value) (p : Nat) (hp : p + 3 < cur.size) (a b c d : Value) :
    (((cur.setIfInBounds p a).setIfInBounds (p + 1) b).setIfInBounds (p + 2) c).setIfInBounds (p + 3) d = (((cur.setIfInBounds p a).setIfInBounds (p + 1) b).setIfInBounds (p + 2) c).setIfInBounds (p + 3) d ∧
    ∀ cur', cur' = (((cur.setIfInBounds p a).setIfInBounds (p + 1) b).setIfInBounds (p + 2) c).setIfInBounds (p + 3) d → cur'.size = cur.size ∧ cur'[p]? = some a ∧ cur'[p + 1]? = some b ∧ cur'[p + 2]? = some c ∧ cur'[p + 3]? = some d ∧ ∀ q, ¬ (p ≤ q ∧ q < p + 4) → cur'[q]? = cur[q]? := by
  refine ⟨rfl, fun cur' h => ?_⟩
  subst h
  refine ⟨by simp only [Array.size_setIfInBounds], ?_, ?_, ?_, ?_, fun q hq => ?_⟩
  · rw [Array.getElem?_setIfInBounds_ne (by omega), Array.getElem?_setIfInBounds_ne (by omega), Array.getElem?_setIfInBounds_ne (by omega), Array.getElem?_setIfInBounds_self_of_lt (by omega)]
  · rw [Array.getElem?_setIfInBounds_ne (by omega), Array.getElem?_setIfInBounds_ne (by omega), Array.getElem?_setIfInBounds_self_of_lt (by simp only [Array.size_setIfInBounds]; omega)]
  · rw [Array.getElem?_setIfInBounds_ne (by omega), Array.getElem?_setIfInBounds_self_of_lt (by simp only [Array.size_setIfInBounds]; omega)]
  · rw [Array.getElem?_setIfInBounds_self_of_lt (by simp only [Array.size_setIfInBounds]; omega)]
  · rw [Array.getElem?_setIfInBounds_ne (by omega), Array.getElem?_setIfInBounds_ne (by omega), Array.getElem?_setIfInBounds_ne (by omega), Array.getElem?_setIfInBounds_ne (by omega)]
theorem op_put {mt : Int → ByteArray} {cur : Array Value} {off i n : Nat} {l : List kOp.T} {k x : Int} (h : FLr kOp cur.toList off l) (hl : l.length = n) (hi : i < n) (hz : off + i * 4 + 3 < cur.size) (hx : x = k + 4 * i) (hp : ∀ j (h : j < l.length), j < i → l[j] = mkOp mt (k + 4 * j)) :
    ∃ l' : List kOp.T, l'.length = n ∧ FLr kOp ((((cur.setIfInBounds (off + i * 4) (.int .i64 x)).setIfInBounds (off + i * 4 + 1) (.string (mt (x + 1)))).setIfInBounds (off + i * 4 + 2) (.int .i64 (x + 2))).setIfInBounds (off + i * 4 + 3) (.int .i64 (x + 3))).toList off l' ∧ ∀ j (h : j < l'.length), j < i + 1 → l'[j] = mkOp mt (k + 4 * j) := by
  obtain ⟨_, h4⟩ := set4 cur (off + i * 4) hz (.int .i64 x) (.string (mt (x + 1))) (.int .i64 (x + 2)) (.int .i64 (x + 3))
  generalize (((cur.setIfInBounds (off + i * 4) (.int .i64 x)).setIfInBounds (off + i * 4 + 1) (.string (mt (x + 1)))).setIfInBounds (off + i * 4 + 2) (.int .i64 (x + 2))).setIfInBounds (off + i * 4 + 3) (.int .i64 (x + 3)) = cur' at h4
  obtain ⟨_, g0, g1, g2, g3, g4⟩ := h4 cur' rfl
  refine ⟨l.set i (mkOp mt x), by rw [List.length_set, hl], h.put (by omega) rfl g4 (fun w => ⟨[], [], rfl, ⟨g0, rfl⟩, [], [], rfl, ⟨g1, rfl⟩, [], [], rfl, ⟨g2, rfl⟩, ⟨g3, rfl⟩⟩), fun j hj hji => ?_⟩
  by_cases e : j = i
  · subst e
    rw [List.getElem_set_self, hx]
  · rw [List.getElem_set_ne (Ne.symm e)]
    exact hp j (by rwa [List.length_set] at hj) (by omega)
set_option maxHeartbeats 800000 in
theorem markOp_walk {W w : World} (hB : Below W.heap.size W w) {g off cap n : Nat} {l : List kOp.T} {cur : Array Value} (hW : W.heap.size ≤ g) (hg : w.heap[g]? = some (.cells cur 31 (0, 0))) (hfit : off + l.length * 4 ≤ cur.size)
    (hF : FLr kOp cur.toList off l) (hl : n = l.length) (hn : n ≤ 100000000) {k : Int} (hk0 : 0 ≤ k) (hk : k ≤ 100000000000) {mt : Int → ByteArray}
    (hmt : ∀ k w, 0 ≤ k → k ≤ 1000000000000 → Below W.heap.size W w → Calls Tryd.prog 36 #[.int .i64 k] w fun e w' => e = .returned (.string (mt k)) ∧ Below w.heap.size w w') :
    Calls Tryd.prog 22 #[.slice (some ⟨g, off, none⟩) n cap, .int .i64 k] w fun e w' => e = .returned (.int .i64 (k + 4 * n)) ∧ ∃ cur' l', cur'.size = cur.size ∧ Mk w w' g cur' 31 ∧ FLr kOp cur'.toList off l' ∧ l'.length = n ∧ ∀ j (h : j < l'.length), l'[j] = mkOp mt (k + 4 * j) := by
  have mixed : Tryd.prog.follows .mixedOrders = true := by kernel_rfl
  have HMT := Hid.mk hmt
  have HBW := Hid.mk hB
  have HF := Hid.mk hF
  have HG := Hid.mk hg
  have hfit : off + n * 4 ≤ cur.size := by rw [hl]; exact hfit
  have HL := Hid.mk hl
  clear hmt hB hF hg hl
  go_enter Tryd.func22, Tryd.ntmps22
  go_wp2
  go_loopg [1, 5] n (fun gq v1 v5 w' => ∃ (i : Nat) (x : Int) (cur' : Array Value) (l' : List kOp.T), v1 = .int .i64 x ∧ v5 = .int .i64 (i : Int) ∧ Hid (x = k + 4 * i) ∧ Hid (i + gq = n) ∧ Hid (cur'.size = cur.size) ∧ Hid (l'.length = n) ∧ Hid (Mk w w' g cur' 31) ∧ Hid (FLr kOp cur'.toList off l') ∧ Hid (∀ j (h : j < l'.length), j < i → l'[j] = mkOp mt (k + 4 * j)))
  case atStart => exact ⟨0, k, cur, l, rfl, rfl, ⟨by omega⟩, ⟨by omega⟩, ⟨rfl⟩, ⟨HL.out.symm⟩, ⟨Mk.refl HG.out⟩, HF, ⟨fun j _ h => by omega⟩⟩
  case round =>
    obtain ⟨i, x, cur', l', rfl, rfl, HX, HI, HCS, HLL, HM, HFL, HP⟩ := hrel
    cases gk with
    | zero =>
      obtain rfl : i = n := by have := HI.out; omega
      have hd : decide ((i : Int) < (i : Int)) = false := decide_eq_false (by omega)
      go_wp2
      go_ret
      exact ⟨by rw [HX.out]; rfl, cur', l', HCS.out, HM.out, HFL.out, HLL.out, fun j h => HP.out j h (by have := HLL.out; omega)⟩
    | succ gk =>
      have hI := HI.out
      have hX := HX.out
      have hC := HCS.out
      have hi : i < n := by omega
      have hd : decide ((i : Int) < (n : Int)) = true := decide_eq_true (by omega)
      have hd0 : decide ((0 : Int) ≤ (i : Int)) = true := decide_eq_true (by omega)
      have x0 : 0 ≤ x := by omega
      have x1 : x ≤ 1000000000000 := by omega
      have y0 : 0 ≤ x + 1 := by omega
      have y1 : x + 1 ≤ 1000000000000 := by omega
      have z0 : off + i * 4 < cur'.size := by omega
      have z1 : off + i * 4 + 1 < (cur'.setIfInBounds (off + i * 4) (.int .i64 x)).size := by rw [Array.size_setIfInBounds]; omega
      have HZ1 := Hid.mk z1
      obtain ⟨c0, hc0⟩ := HM.out.cell z0
      have hf0 := HM.out.frozen (off + i * 4)
      have HM1 := Hid.mk (HM.out.set (off + i * 4) (.int .i64 x))
      have HC := Hid.mk (HMT.out (x + 1) (wr.setCell ⟨g, off + i * 4, none⟩ (.int .i64 x)) y0 y1 (HM1.out.base HBW.out hW HBW.out.size))
      have HW := Hid.mk (wr4 x0 x1)
      have HZ2 := Hid.mk (show off + i * 4 + 3 < cur'.size by omega)
      have w5 : wrap64 ((i : Int) + 1) = ((i + 1 : Nat) : Int) := by rw [w64 (by omega) (by omega)]; rfl
      have HN := Hid.mk (show i + 1 + gk = n by omega)
      have HX2 := Hid.mk (show x + 4 = k + 4 * ((i + 1 : Nat) : Int) by omega)
      clear hX hI hC x0 x1 y0 y1 z0 z1
      obtain ⟨w1, w2, w3, w4⟩ := HW.out
      go_wp2_with (go_at_call 36; (with_reducible refine HC.out.mono ?_); rintro e wa ⟨rfl, hb2⟩; have HM2 := Hid.mk (HM1.out.below hb2); obtain ⟨c1, hc1⟩ := HM2.out.cell HZ1.out; have hf1 := HM2.out.frozen (off + i * 4 + 1); have HM3 := Hid.mk (HM2.out.set (off + i * 4 + 1) (.string (mt (x + 1)))); obtain ⟨c2, hc2⟩ := HM3.out.cell (p := off + i * 4 + 2) (by have := HZ2.out; rw [Array.size_setIfInBounds, Array.size_setIfInBounds]; omega); have hf2 := HM3.out.frozen (off + i * 4 + 2); have HM4 := Hid.mk (HM3.out.set (off + i * 4 + 2) (.int .i64 (x + 2))); obtain ⟨c3, hc3⟩ := HM4.out.cell (p := off + i * 4 + 3) (by have := HZ2.out; rw [Array.size_setIfInBounds, Array.size_setIfInBounds, Array.size_setIfInBounds]; omega); have hf3 := HM4.out.frozen (off + i * 4 + 3); have HM5 := Hid.mk (HM4.out.set (off + i * 4 + 3) (.int .i64 (x + 3))); have HB2 := Hid.mk hb2; clear hb2)
      obtain ⟨l2, q1, q2, q3⟩ := op_put HFL.out HLL.out hi HZ2.out HX.out HP.out
      go_roundg gk
      case measure => omega
      case rel => exact ⟨i + 1, x + 4, _, l2, (by show Value.int .i64 (wrap64 (x + 3 + 1)) = _; rw [w4]), rfl, HX2, HN, ⟨by simp only [Array.size_setIfInBounds]; exact HCS.out⟩, ⟨q1⟩, HM5, ⟨q2⟩, ⟨q3⟩⟩
end Go.Eva
end
section
/- Marks of rows of rows: the walk. -/
namespace Go.Eva
open Go.Proofs Go.Shelf
open Go.RowKit Go.Lib
set_option linter.unusedVariables false
set_option linter.unusedSimpArgs false
set_option maxRecDepth 100000
theorem markOp_walk0 {w : World} {a : Option Addr} {k : Int} : Calls Tryd.prog 22 #[.slice a 0 0, .int .i64 k] w fun e w' => e = .returned (.int .i64 k) ∧ w' = w := by
  have mixed : Tryd.prog.follows .mixedOrders = true := by kernel_rfl
  go_enter Tryd.func22, Tryd.ntmps22
  go_wp2
  go_loopg [1, 5] 0 (fun gq v1 v5 w' => v1 = .int .i64 k ∧ v5 = .int .i64 0 ∧ w' = w)
  case atStart => exact ⟨rfl, rfl, rfl⟩
  case round =>
    obtain ⟨rfl, rfl, rfl⟩ := hrel
    go_wp2
    go_ret
    exact ⟨rfl, rfl⟩
def mkRow (mt : Int → ByteArray) (k : Int) (n : Nat) : List kOp.T := (List.range n).map fun j => mkOp mt (k + 4 * (j : Nat))
theorem mkRow_of {mt : Int → ByteArray} {k : Int} {n : Nat} {l : List kOp.T} (h : l.length = n) (hp : ∀ j (h : j < l.length), l[j] = mkOp mt (k + 4 * j)) : l = mkRow mt k n := by
  refine List.ext_getElem (by rw [h]; simp [mkRow]) fun j h1 h2 => ?_
  rw [hp j h1]
  simp [mkRow]
abbrev MT (W : World) (mt : Int → ByteArray) : Prop := ∀ k w, 0 ≤ k → k ≤ 1000000000000 → Below W.heap.size W w → Calls Tryd.prog 36 #[.int .i64 k] w fun e w' => e = .returned (.string (mt k)) ∧ Below w.heap.size w w'
/-- A row marked. -/
theorem markOps {W w : World} (hB : Below W.heap.size W w) {v : Value} {l : List kOp.T} {fp : List Nat} (h : RdS w true (Rd w true kOp) kOp.n 31 v l fp) (hW : ∀ b ∈ fp, W.heap.size ≤ b) (hn : l.length ≤ 100000000) {k : Int} (hk0 : 0 ≤ k) (hk : k ≤ 100000000000) {mt : Int → ByteArray} (hmt : MT W mt) :
    Calls Tryd.prog 22 #[v, .int .i64 k] w fun e w' => e = .returned (.int .i64 (k + 4 * l.length)) ∧ Kp w w' fp ∧ RdS w' true (Rd w' true kOp) kOp.n 31 v (mkRow mt k l.length) fp := by
  rcases own_open rfl h with ⟨rfl, rfl, a, rfl⟩ | ⟨g, off, cap, cur, rfl, rfl, hg, hfit, hlc, hcm, hF⟩
  · refine markOp_walk0.mono ?_
    rintro e w' ⟨rfl, rfl⟩
    exact ⟨by simp, Kp.refl _ _, h⟩
  · have e4 : kOp.n = 4 := rfl
    rw [e4] at hfit
    have h4 : l.length * 4 ≤ cap * 4 := Nat.mul_le_mul_right 4 hlc
    refine (markOp_walk hB (hW g (List.mem_singleton.2 rfl)) hg (by omega) hF rfl hn hk0 hk hmt).mono ?_
    rintro e w' ⟨rfl, cur', l', c1, c2, c3, c4, c5⟩
    have hl := mkRow_of c4 c5
    refine ⟨rfl, c2.kp, ?_⟩
    have := own_close (κ := kOp) (e := 31) (l := l') (off := off) (cap := cap) c2.here (by rw [e4]; omega) (by omega) hcm c3
    rw [c4] at this
    rw [← hl]
    exact this
abbrev kQ : Kd := .sl 31 kOp
abbrev Tq := List (List kOp.T)
def pre (T : Tq) (i : Nat) : Nat := ((T.take i).map List.length).sum
theorem pre_succ (T : Tq) {i : Nat} (h : i < T.length) : pre T (i + 1) = pre T i + T[i].length := by
  unfold pre
  rw [List.take_succ_eq_append_getElem h, List.map_append, List.sum_append]
  simp
theorem pre_le {T : Tq} {m : Nat} (hm : ∀ l ∈ T, l.length ≤ m) (i : Nat) : pre T i ≤ m * T.length := by
  unfold pre
  have : ∀ L : Tq, (∀ l ∈ L, l.length ≤ m) → (L.map List.length).sum ≤ m * L.length := by
    intro L
    induction L with
    | nil => intro _; simp
    | cons x xs ih =>
      intro h
      have h1 := ih fun l hl => h l (List.mem_cons_of_mem _ hl)
      have h2 := h x List.mem_cons_self
      rw [List.map_cons, List.sum_cons, List.length_cons, Nat.mul_add, Nat.mul_one]
      omega
  refine Nat.le_trans (this _ fun l hl => hm l (List.mem_of_mem_take hl)) (Nat.mul_le_mul_left _ ?_)
  rw [List.length_take]; omega
/-- The first i rows are marked. -/
structure Mkd (mt : Int → ByteArray) (k : Int) (T T' : Tq) (i : Nat) : Prop where
  len : T'.length = T.length
  done : ∀ j (h : j < T'.length) (h' : j < T.length), j < i → T'[j] = mkRow mt (k + 4 * (pre T j : Nat)) T[j].length
  left : ∀ j (h : j < T'.length) (h' : j < T.length), i ≤ j → T'[j] = T[j]
theorem Mkd.step {mt : Int → ByteArray} {k : Int} {T T' : Tq} {i : Nat} (h : Mkd mt k T T' i) (hi : i < T.length) : Mkd mt k T (T'.set i (mkRow mt (k + 4 * (pre T i : Nat)) T[i].length)) (i + 1) := by
  refine ⟨by rw [List.length_set]; exact h.len, fun j h1 h2 hj => ?_, fun j h1 h2 hj => ?_⟩
  · by_cases e : j = i
    · subst e; rw [List.getElem_set_self]
    · rw [List.getElem_set_ne (Ne.symm e)]; exact h.done j _ h2 (by omega)
  · rw [List.getElem_set_ne (by omega)]; exact h.left j _ h2 (by omega)
set_option maxHeartbeats 800000 in
/-- All rows marked. -/
theorem markQ {W w : World} (hB : Below W.heap.size W w) {v : Value} {T : Tq} {fp : List Nat} (h : RdS w true (Rd w true kQ) kQ.n 37 v T fp) (hnd : fp.Nodup) (hW : ∀ b ∈ fp, W.heap.size ≤ b) (hT : T.length ≤ 1000) (hm : ∀ l ∈ T, l.length ≤ 1000) {k : Int} (hk0 : 0 ≤ k) (hk : k ≤ 1000) {mt : Int → ByteArray} (hmt : MT W mt) :
    Calls Tryd.prog 7 #[v, .int .i64 k] w fun e w' => e = .returned (.int .i64 (k + 4 * (pre T T.length : Nat))) ∧ Kp w w' fp ∧ ∃ T', Mkd mt k T T' T.length ∧ RdS w' true (Rd w' true kQ) kQ.n 37 v T' fp := by
  have mixed : Tryd.prog.follows .mixedOrders = true := by kernel_rfl
  obtain ⟨a, n, c, rfl, hn⟩ : ∃ a n c, v = .slice a n c ∧ n = T.length := by
    rcases h with ⟨h1, h2, a, c, h3, _⟩ | ⟨g, off, cap, fps, h1, _⟩
    · exact ⟨a, 0, c, h3, by rw [h1]; rfl⟩
    · exact ⟨_, _, cap, h1, rfl⟩
  have HMT := Hid.mk hmt
  have HBW := Hid.mk hB
  have HR := Hid.mk h
  have HND := Hid.mk hnd
  have HWW := Hid.mk hW
  have HN := Hid.mk hn
  have HM := Hid.mk hm
  have hn1 : n ≤ 1000 := by omega
  clear hmt hB h hnd hW hm hn hT
  go_enter Tryd.func7, Tryd.ntmps7
  go_wp2
  go_loopg [1, 5] n (fun gq v1 v5 w' => ∃ (i : Nat) (x : Int) (T' : Tq), v1 = .int .i64 x ∧ v5 = .int .i64 (i : Int) ∧ Hid (x = k + 4 * (pre T i : Nat)) ∧ Hid (i + gq = n) ∧ Hid (Kp w w' fp) ∧ Hid (Mkd mt k T T' i) ∧ Hid (RdS w' true (Rd w' true kQ) kQ.n 37 (.slice a n c) T' fp))
  case atStart => exact ⟨0, k, T, rfl, rfl, ⟨by simp [pre]⟩, ⟨by omega⟩, ⟨Kp.refl _ _⟩, ⟨rfl, fun j _ _ h => absurd h (Nat.not_lt_zero _), fun j _ _ _ => rfl⟩, HR⟩
  case round =>
    obtain ⟨i, x, T', rfl, rfl, HX, HI, HK, HD, HRR⟩ := hrel
    cases gk with
    | zero =>
      obtain rfl : i = n := by have := HI.out; omega
      have hd : decide ((i : Int) < (i : Int)) = false := decide_eq_false (by omega)
      go_wp2
      go_ret
      exact ⟨by rw [HX.out, HN.out]; rfl, HK.out, T', by rw [← HN.out]; exact HD.out, HRR.out⟩
    | succ gk =>
      have hI := HI.out
      have hN := HN.out
      have hX := HX.out
      have hi : i < n := by omega
      have hiT : i < T.length := by omega
      have hiT' : i < T'.length := by rw [HD.out.len]; exact hiT
      have hd : decide ((i : Int) < (n : Int)) = true := decide_eq_true (by omega)
      have hd0 : decide ((0 : Int) ≤ (i : Int)) = true := decide_eq_true (by omega)
      have hp := pre_le HM.out i
      have hp2 : 1000 * T.length ≤ 1000000 := by omega
      have hml := HM.out _ (List.getElem_mem hiT)
      obtain ⟨g, off, cap, vi, fi, q1, q2, q3, q4, q5, q6⟩ := nest_put HRR.out HND.out hiT'
      have eT : T'[i] = T[i] := HD.out.left i hiT' hiT (Nat.le_refl _)
      rw [eT] at q3
      injection q1 with r1 r2 r3
      subst r1 r3
      have HQ := Hid.mk q6
      have HF := Hid.mk q4
      have HC := Hid.mk (markOps (HK.out.base HBW.out HWW.out) q3 (fun b hb => HWW.out b (q4 b hb)) (by omega) (k := x) (by omega) (by omega) HMT.out)
      have w5 : wrap64 ((i : Int) + 1) = ((i + 1 : Nat) : Int) := by rw [w64 (by omega) (by omega)]; rfl
      have HN2 := Hid.mk (show i + 1 + gk = n by omega)
      have HX2 := Hid.mk (show x + 4 * (T[i].length : Nat) = k + 4 * (pre T (i + 1) : Nat) by rw [pre_succ T hiT]; omega)
      clear hI hX hp hp2 hml q3 q4 q5 q6 eT r2 hN
      go_wp2_with (go_at_call 22; (with_reducible refine HC.out.mono ?_); rintro e wa ⟨rfl, hk1, hr1⟩; have HK1 := Hid.mk hk1; have HR1 := Hid.mk hr1; clear hk1 hr1)
      have HD2 := HD.out.step hiT
      rw [← HX.out] at HD2
      go_roundg gk
      case measure => omega
      case rel => exact ⟨i + 1, _, _, rfl, rfl, HX2, HN2, ⟨HK.out.trans (HK1.out.mono HF.out)⟩, ⟨HD2⟩, ⟨HQ.out _ _ HK1.out HR1.out⟩⟩
end Go.Eva
end
section
/- FnExactReadTodo walked. -/
namespace Go.Eva
open Go.Proofs Go.Shelf
open Go.RowKit Go.Lib
set_option linter.unusedVariables false
set_option linter.unusedSimpArgs false
set_option maxRecDepth 100000
theorem below_step {W w w' : World} (h : Below W.heap.size W w) (k : Below w.heap.size w w') : Below W.heap.size W w' := h.trans (k.mono h.size)
set_option maxHeartbeats 1600000 in
theorem law_walk {W : World} {s : ByteArray} {T : Tq} {b : Bool} {q : Int} {mt : Int → ByteArray} (hT : T.length ≤ 1000) (hm : ∀ l ∈ T, l.length ≤ 1000) (hmt : MT W mt)
    (h4 : s.size ≤ 1048576 → ∀ w, Below W.heap.size W w → Calls Tryd.prog 4 #[.string s] w fun x w' => ∃ v fp, x = .returned (.tuple #[v, .bool b]) ∧ Own w.heap.size w' 37 kQ v T fp ∧ Below w.heap.size w w')
    (h5 : s.size ≤ 1048576 → ∀ w, Below W.heap.size W w → Calls Tryd.prog 5 #[.string s] w fun x w' => ∃ v fp, x = .returned (.tuple #[v, .bool b]) ∧ Own w.heap.size w' 37 kQ v T fp ∧ Below w.heap.size w w')
    (h6 : ∀ w v1 v2 fp1 fp2 lo1 lo2, Below W.heap.size W w → Own lo1 w 37 kQ v1 T fp1 → Own lo2 w 37 kQ v2 T fp2 → Calls Tryd.prog 6 #[v1, v2] w fun x w' => x = .returned (.bool true) ∧ Below w.heap.size w w')
    (h8 : ∀ w v fp lo T', Below W.heap.size W w → Mkd mt 1 T T' T.length → Own lo w 37 kQ v T' fp → Calls Tryd.prog 8 #[v, .int .i64 1] w fun x w' => x = .returned (.int .i64 (1 + 4 * (pre T T.length : Nat))) ∧ Below w.heap.size w w') :
    Calls Tryd.prog 3 #[.string s] W fun e w' => e = .returned (.bool true) ∧ Below W.heap.size W w' := by
  have mixed : Tryd.prog.follows .mixedOrders = true := by kernel_rfl
  by_cases hs : s.size ≤ 1048576
  · have hd : decide ((1048576 : Int) < (s.size : Int)) = false := decide_eq_false (by omega)
    have hq0 : decide ((1 + 4 * (pre T T.length : Nat) : Int) < 0) = false := decide_eq_false (by omega)
    have H4 := Hid.mk (h4 hs)
    have H5 := Hid.mk (h5 hs)
    have H6 := Hid.mk h6
    have H8 := Hid.mk h8
    have HMT := Hid.mk hmt
    have HT := Hid.mk hT
    have HMM := Hid.mk hm
    have HB := Hid.mk (Below.refl W.heap.size W)
    have M5 : True := trivial
    have M6 : True := trivial
    have M8 : True := trivial
    clear h4 h5 h6 h8 hmt hT hm
    go_enter Tryd.func3, Tryd.ntmps3
    go_wp2_with (first
      | (go_at_call 4; (with_reducible refine (H4.out _ HB.out).mono ?_); rintro e w1 ⟨v0, fp0, rfl, ho, hb⟩; have HO0 := Hid.mk ho; have HB1 := Hid.mk (below_step HB.out hb); clear ho hb)
      | (go_at_call 5; clear M5; (with_reducible refine (H5.out _ HB1.out).mono ?_); rintro e w2 ⟨g0, fpg, rfl, ho, hb⟩; have HG2 := Hid.mk ho; have HO2 := Hid.mk (HO0.out.below hb); have HL := Hid.mk HO0.out.lt; have HB2 := Hid.mk (below_step HB1.out hb); clear ho hb)
      | (go_at_call 6; clear M6; (with_reducible refine (H6.out _ _ _ _ _ _ _ HB2.out HG2.out HO2.out).mono ?_); rintro e w3 ⟨rfl, hb⟩; have HG3 := Hid.mk (HG2.out.below hb); have HO3 := Hid.mk (HO2.out.below hb); have HB3 := Hid.mk (below_step HB2.out hb); clear hb)
      | (go_at_call 7; (with_reducible refine (markQ HB3.out HG3.out.rd HG3.out.nd (fun b hb => Nat.le_trans HB1.out.size (HG3.out.lo b hb)) HT.out HMM.out (k := 1) (by decide) (by decide) HMT.out).mono ?_); rintro e w4 ⟨rfl, hk, T', hd4, hr4⟩; have HG4 := Hid.mk (Own.mk hr4 HG3.out.nd HG3.out.lo); have HO4 := Hid.mk (HO3.out.keep hk.size (fun b hb => hk.other b (HO3.out.lt b hb) (fun q => by have := HG3.out.lo b q; have := HL.out b hb; omega))); have HB4 := Hid.mk (hk.base HB3.out (fun b hb => Nat.le_trans HB1.out.size (HG3.out.lo b hb))); have HD := Hid.mk hd4; clear hk hr4 hd4)
      | (go_at_call 8; clear M8; (with_reducible refine (H8.out _ _ _ _ _ HB4.out HD.out HG4.out).mono ?_); rintro e w5 ⟨rfl, hb⟩; have HG5 := Hid.mk (HG4.out.below hb); have HO5 := Hid.mk (HO4.out.below hb); have HB5 := Hid.mk (below_step HB4.out hb); clear hb)
      | (go_at_call 5; (with_reducible refine (H5.out _ HB5.out).mono ?_); rintro e w6 ⟨g1, fph, rfl, ho, hb⟩; have HH6 := Hid.mk ho; have HO6 := Hid.mk (HO5.out.below hb); have HG6 := Hid.mk (HG5.out.below hb); have HB6 := Hid.mk (below_step HB5.out hb); clear ho hb)
      | (go_at_call 6; (with_reducible refine (H6.out _ _ _ _ _ _ _ HB6.out HH6.out HO6.out).mono ?_); rintro e w7 ⟨rfl, hb⟩; have HG7 := Hid.mk (HG6.out.below hb); have HB7 := Hid.mk (below_step HB6.out hb); clear hb)
      | (go_at_call 8; (with_reducible refine (H8.out _ _ _ _ _ HB7.out HD.out HG7.out).mono ?_); rintro e w8 ⟨rfl, hb⟩; have HB8 := Hid.mk (below_step HB7.out hb); clear hb))
    go_ret
    exact ⟨rfl, HB8.out⟩
  · have hd : decide ((1048576 : Int) < (s.size : Int)) = true := decide_eq_true (by omega)
    go_enter Tryd.func3, Tryd.ntmps3
    go_wp2
    go_ret
    exact ⟨rfl, Below.refl _ _⟩
end Go.Eva
end
section
/- Keys. -/
namespace Go.Eva
open Go.RowKit (wrap64)
set_option linter.unusedVariables false
set_option linter.unusedSimpArgs false

theorem t11 {n : Nat} {x y z : Int} : ok (F11 n x y z) fun _ => True := by
  unfold F11
  exact ok.ite (fun _ => ok.some trivial) (fun _ => ok.some trivial)
theorem t45 {n : Nat} {x : Int} : ok (F45 n x) fun _ => True := by
  unfold F45
  exact t11.bind fun _ _ => ok.iteb (fun _ => ok.some trivial) (fun _ => t11.bind fun _ _ => ok.iteb (fun _ => ok.some trivial) (fun _ => t11.bind fun _ _ => ok.iteb (fun _ => ok.some trivial) (fun _ => ok.some trivial)))
theorem t38_0 {n : Nat} {s : ByteArray} (hs : s.size ≤ 1048576) : ∀ (k : Nat) (i : Int), 0 ≤ i → i ≤ (s.size : Int) → (s.size : Int) - i < k → ok (lp38_0 n k s i) fun _ => True
  | 0, i, h0, h1, hk => by omega
  | k + 1, i, h0, h1, hk => by
    show ok (st38_0 n (lp38_0 n k) s i) _
    unfold st38_0
    refine ok.ite (fun h2 => ok.guard h0 (ok.guard h2 (t45.bind fun _ _ => ok.iteb (fun _ => ok.some trivial) (fun _ => ?_)))) (fun _ => t11.bind fun _ _ => ok.some trivial)
    rw [w64 (by omega) (by omega)]
    exact t38_0 hs k (i + 1) (by omega) (by omega) (by omega)
theorem drop_cons {α : Type} {l : List α} {i : Nat} (h : i < l.length) : l.drop i = l[i] :: l.drop (i + 1) := List.drop_eq_getElem_cons h
theorem w1 {i n : Nat} (h : i < n) (hn : n ≤ 1000000000) : wrap64 ((i : Int) + 1) = ((i + 1 : Nat) : Int) := by rw [w64 (by omega) (by omega)]; rfl

def inr (x a b : Int) : Bool := decide (a ≤ x ∧ x ≤ b)
theorem f11 {n : Nat} {x a b : Int} : F11 n x a b = some (inr x a b, ()) := by
  unfold F11 inr
  by_cases h1 : a ≤ x <;> by_cases h2 : x ≤ b <;> simp [h1, h2]
theorem f18 {n : Nat} {x a b : Int} : F18 n x a b = some (inr x a b, ()) := by
  unfold F18 inr
  by_cases h1 : a ≤ x <;> by_cases h2 : x ≤ b <;> simp [h1, h2]
def kc (x : Int) : Bool := inr x 97 122 || (inr x 65 90 || (inr x 48 57 || decide (x = 95)))
theorem f45 {n : Nat} {x : Int} : F45 n x = some (kc x, ()) := by
  unfold F45 kc
  simp only [f11, Option.bind_some]
  cases inr x 97 122 <;> cases inr x 65 90 <;> cases inr x 48 57 <;> simp
theorem bt_bd (s : ByteArray) (i : Int) : 0 ≤ bt s i ∧ bt s i < 256 := by
  unfold bt
  split
  · have := (s[i.toNat]).toNat_lt; omega
  · omega
theorem kc_eq (x : Int) (α : Type) (a b : Option α) : (if (!kc x) = true then a else b) = if decide (x ≥ 97) = true then (if decide (x ≤ 122) = true then b else (if decide (x ≥ 65) = true then (if decide (x ≤ 90) = true then b else (if decide (x ≥ 48) = true then (if decide (x ≤ 57) = true then b else (if (!(decide (x = 95))) = true then a else b)) else (if (!(decide (x = 95))) = true then a else b)))
    else (if decide (x ≥ 48) = true then (if decide (x ≤ 57) = true then b else (if (!(decide (x = 95))) = true then a else b)) else (if (!(decide (x = 95))) = true then a else b))))
   else (if decide (x ≥ 65) = true then (if decide (x ≤ 90) = true then b else (if decide (x ≥ 48) = true then (if decide (x ≤ 57) = true then b else (if (!(decide (x = 95))) = true then a else b)) else (if (!(decide (x = 95))) = true then a else b)))
    else (if decide (x ≥ 48) = true then (if decide (x ≤ 57) = true then b else (if (!(decide (x = 95))) = true then a else b)) else (if (!(decide (x = 95))) = true then a else b))) := by
  unfold kc inr
  by_cases h1 : x ≥ 97
  · by_cases h2 : x ≤ 122
    · have : (97 : Int) ≤ x ∧ x ≤ 122 := ⟨h1, h2⟩
      simp [h1, h2]
    · have e1 : ¬ x ≤ 90 := by omega
      have e2 : ¬ x ≤ 57 := by omega
      have e3 : ¬ x = 95 := by omega
      have e4 : x ≥ 65 := by omega
      have e5 : x ≥ 48 := by omega
      simp [h1, h2, e1, e2, e3, e4, e5]
  · by_cases h3 : x ≥ 65
    · by_cases h4 : x ≤ 90
      · simp [h1, h3, h4]
      · have e2 : ¬ x ≤ 57 := by omega
        have e5 : x ≥ 48 := by omega
        by_cases h5 : x = 95 <;> simp [h1, h3, h4, e2, e5, h5]
    · have e3 : ¬ x = 95 := by omega
      by_cases h5 : x ≥ 48 <;> by_cases h6 : x ≤ 57 <;> simp [h1, h3, e3, h5, h6]
theorem f43_0 {n : Nat} {s : ByteArray} : ∀ (k : Nat) (i : Int), lp43_0 n k s (s.size : Int) i = lp38_0 n k s i
  | 0, i => rfl
  | k + 1, i => by
    show st43_0 n (lp43_0 n k) s _ i = st38_0 n (lp38_0 n k) s i
    unfold st43_0 st38_0 j43_0
    have hb := bt_bd s i
    have ih := f43_0 (n := n) (s := s) k (wrap64 (i + 1))
    simp only [f45, f18, f11, Option.bind_some, w64 (x := bt s i) (by omega) (by omega), kc_eq, ih]
theorem f43 {n : Nat} {s : ByteArray} : F43 n s = F38 n s := f43_0 n 0
theorem t46g {n : Nat} {s : ByteArray} (hs : s.size ≤ 1048576) (hn : 2000000 ≤ n) : ok (F38 n s) fun _ => True := t38_0 hs n 0 (by omega) (by omega) (by omega)
noncomputable def kob (n : Nat) (s : ByteArray) : Bool := ((F38 n s).getD (false, ())).1
theorem bt_list (s : ByteArray) (i : Nat) (h : i < s.data.toList.length) : bt s (i : Int) = ((s.data.toList[i]).toNat : Int) := by
  have hl : s.data.toList.length = s.size := Array.length_toList
  unfold bt
  rw [Int.toNat_natCast, dif_pos (by omega)]
  rfl
theorem t46k {n : Nat} {s : ByteArray} (hs : s.size ≤ 1048576) : ∀ (k i : Nat), i ≤ s.size → s.size - i < k → ok (lp38_0 n k s (i : Int)) fun r => r.1 = true → (∀ j, i ≤ j → j < s.size → kc (bt s (j : Int)) = true) ∧ 1 ≤ s.size ∧ s.size ≤ 4
  | 0, i, h, hk => by omega
  | k + 1, i, h, hk => by
    show ok (st38_0 n (lp38_0 n k) s _) _
    unfold st38_0
    refine ok.ite (fun h1 => ok.guard (by omega) (ok.guard h1 ?_)) (fun h1 => ?_)
    · have hb := bt_bd s (i : Int)
      rw [f45, w64 (x := bt s (i : Int)) (by omega) (by omega)]
      simp only [Option.bind_some]
      refine ok.iteb (fun _ => ok.some fun h => by cases h) (fun hk1 => ?_)
      have hk1 : kc (bt s (i : Int)) = true := by simpa using hk1
      have hi : i < s.size := by omega
      have e : wrap64 ((i : Int) + 1) = ((i + 1 : Nat) : Int) := by rw [w64 (by omega) (by omega)]; rfl
      rw [e]
      refine (t46k hs k (i + 1) (by omega) (by omega)).mono fun r q h => ⟨fun j h2 h3 => ?_, (q h).2⟩
      by_cases e : j = i
      · subst e; exact hk1
      · exact (q h).1 j (by omega) h3
    · rw [f11]
      refine ok.some fun h => ⟨fun j h2 h3 => by omega, ?_⟩
      have h : inr (s.size : Int) 1 4 = true := h
      unfold inr at h
      have := of_decide_eq_true h
      omega
theorem kc_ne {x : Int} (h : kc x = true) : x ≠ 32 ∧ x ≠ 60 ∧ x ≠ 62 := by
  unfold kc inr at h
  simp only [Bool.or_eq_true, decide_eq_true_eq] at h
  omega
end Go.Eva
end
section
/- Numbers as texts. -/
namespace Go.Eva
open Go.RowKit (wrap64)
set_option linter.unusedVariables false
set_option linter.unusedSimpArgs false

def isDig (b : UInt8) : Bool := decide (48 ≤ b.toNat) && decide (b.toNat ≤ 57)
def valN (n : Nat) (L : List UInt8) : Nat := L.foldl (fun m b => m * 10 + (b.toNat - 48)) n
theorem valN_nil (n : Nat) : valN n [] = n := by unfold valN; exact List.foldl_nil
theorem valN_cons (n : Nat) (b : UInt8) (bs : List UInt8) : valN n (b :: bs) = valN (n * 10 + (b.toNat - 48)) bs := by unfold valN; exact List.foldl_cons
def p10 : Nat → Nat
  | 0 => 1
  | i + 1 => p10 i * 10
theorem pow_le10 (i : Nat) (h : i ≤ 11) : p10 i ≤ 100000000000 := by
  have : i = 0 ∨ i = 1 ∨ i = 2 ∨ i = 3 ∨ i = 4 ∨ i = 5 ∨ i = 6 ∨ i = 7 ∨ i = 8 ∨ i = 9 ∨ i = 10 ∨ i = 11 := by omega
  rcases this with rfl | rfl | rfl | rfl | rfl | rfl | rfl | rfl | rfl | rfl | rfl | rfl <;> decide
theorem p10_up {n i : Nat} (h : n < p10 i) : n < p10 (i + 1) := by
  show n < p10 i * 10
  omega
theorem p10_dig {n i b : Nat} (h : n < p10 i) (hb : b ≤ 57) : n * 10 + (b - 48) < p10 (i + 1) := by
  show n * 10 + (b - 48) < p10 i * 10
  omega
theorem valN_lt (L : List UInt8) : ∀ (n i : Nat), (∀ b ∈ L, isDig b = true) → n < p10 i → valN n L < p10 (i + L.length) := by
  induction L with
  | nil =>
    intro n i _ h
    have e := valN_nil n
    rw [e, List.length_nil, Nat.add_zero]
    exact h
  | cons b bs ih =>
    intro n i hd h
    have hb := hd b (by simp)
    unfold isDig at hb
    rw [Bool.and_eq_true] at hb
    have hb2 : b.toNat ≤ 57 := of_decide_eq_true hb.2
    have q := ih (n * 10 + (b.toNat - 48)) (i + 1) (fun c hc => hd c (by simp [hc])) (p10_dig h hb2)
    have e := valN_cons n b bs
    rw [e, List.length_cons, show i + (bs.length + 1) = i + 1 + bs.length from by omega]
    exact q
theorem digits_dig (u : Nat) : ∀ b ∈ Go.Lib.decDigits u, isDig b = true := by
  have one : ∀ v : Nat, v < 10 → isDig (UInt8.ofNat (48 + v)) = true := by
    intro v hv
    have : (UInt8.ofNat (48 + v)).toNat = 48 + v := by
      rw [UInt8.toNat_ofNat']
      omega
    unfold isDig
    rw [this]
    simp
    omega
  induction u using Nat.strongRecOn with
  | ind u ih =>
    intro b hb
    rw [Go.Lib.decDigits] at hb
    by_cases h : u < 10
    · rw [dif_pos h] at hb
      rw [List.mem_singleton.1 hb]
      exact one u h
    · rw [dif_neg h] at hb
      rcases List.mem_append.1 hb with hb | hb
      · exact ih (u / 10) (by omega) b hb
      · rw [List.mem_singleton.1 hb]
        exact one (u % 10) (by omega)
theorem digits_ne (u : Nat) : Go.Lib.decDigits u ≠ [] := by
  rw [Go.Lib.decDigits]
  by_cases h : u < 10
  · rw [dif_pos h]; simp
  · rw [dif_neg h]; simp

def dB (n : Int) : ByteArray := ⟨(Go.Lib.itoa n).toArray⟩
theorem dB_nat (m : Nat) : (dB (m : Int)).data.toList = Go.Lib.decDigits m := by
  show (Go.Lib.itoa (m : Int)).toArray.toList = _
  rw [Go.Lib.itoa_nonneg]
theorem ba_ext {a b : ByteArray} (h : a.data.toList = b.data.toList) : a = b := by
  cases a; cases b
  exact congrArg ByteArray.mk (Array.toList_inj.1 h)
theorem sz_list (s : ByteArray) : s.data.toList.length = s.size := Array.length_toList
theorem ba_app (a b : List UInt8) : (⟨a.toArray⟩ : ByteArray) ++ ⟨b.toArray⟩ = ⟨(a ++ b).toArray⟩ := by
  apply ba_ext
  simp
theorem valN_app (n : Nat) (A B : List UInt8) : valN n (A ++ B) = valN (valN n A) B := by unfold valN; exact List.foldl_append
theorem dg_toNat (v : Nat) (h : v < 10) : (UInt8.ofNat (48 + v)).toNat = 48 + v := by
  rw [UInt8.toNat_ofNat']; omega
theorem valN_digits (u : Nat) : valN 0 (Go.Lib.decDigits u) = u := by
  induction u using Nat.strongRecOn with
  | ind u ih =>
    rw [Go.Lib.decDigits]
    by_cases h : u < 10
    · rw [dif_pos h, valN_cons, valN_nil, dg_toNat u h]; omega
    · rw [dif_neg h, valN_app, ih (u / 10) (by omega), valN_cons, valN_nil, dg_toNat (u % 10) (by omega)]; omega
theorem digits_len : ∀ (i u : Nat), u < p10 (i + 1) → (Go.Lib.decDigits u).length ≤ i + 1
  | 0, u, h => by
    have h : u < 10 := h
    rw [Go.Lib.decDigits, dif_pos h]
    exact Nat.le_refl _
  | i + 1, u, h => by
    rw [Go.Lib.decDigits]
    by_cases h10 : u < 10
    · rw [dif_pos h10]; simp
    · rw [dif_neg h10, List.length_append]
      have h : u < p10 (i + 1) * 10 := h
      have := digits_len i (u / 10) (by omega)
      simp only [List.length_cons, List.length_nil]
      omega
theorem w_range (x : Int) : -9223372036854775808 ≤ wrap64 x ∧ wrap64 x ≤ 9223372036854775807 := by unfold wrap64; omega
theorem t31 {n : Nat} {a : Int} (h1 : -9223372036854775808 ≤ a) (h2 : a ≤ 9223372036854775807) : F31 n a = some (dB a, ()) := by
  unfold F31 F41 itoF
  rw [if_pos (decide_eq_true ⟨h1, h2⟩)]
  rfl
theorem dig1 (m : Nat) (h : m < 10) : strOf [wrapI .u8 (wrap64 (48 + (m : Int)))] = ⟨[UInt8.ofNat (48 + m)].toArray⟩ := by
  rw [w64 (by omega) (by omega)]
  have : wrapI .u8 (48 + (m : Int)) = 48 + (m : Int) := by
    show (48 + (m : Int)) % 256 = _
    omega
  unfold strOf
  rw [this]
  have e : (48 + (m : Int)).toNat = 48 + m := by omega
  simp [e]
theorem t28_0 {n : Nat} : ∀ (d m k : Nat) (acc : List UInt8), 0 < m → m < p10 d → d + 1 < k → (m : Int) ≤ 9223372036854775807 → acc.length + d ≤ 100 → lp28_0 n k (m : Int) ⟨acc.toArray⟩ false = some (⟨(Go.Lib.decDigits m ++ acc).toArray⟩, ())
  | 0, m, k, acc, h0, h1, hk, hm, ha => by
    have h1 : m < 1 := h1
    omega
  | d + 1, m, k, acc, h0, h1, hk, hm, ha => by
    obtain ⟨k, rfl⟩ : ∃ q, k = q + 1 := ⟨k - 1, by omega⟩
    have h1 : m < p10 d * 10 := h1
    show st28_0 n (lp28_0 n k) (m : Int) _ false = _
    have hz : ((m : Int).tmod 10) = ((m % 10 : Nat) : Int) := by rw [Int.tmod_eq_emod_of_nonneg (by omega)]; omega
    have hq : wrap64 ((m : Int).tdiv 10) = ((m / 10 : Nat) : Int) := by
      rw [Int.tdiv_eq_ediv_of_nonneg (by omega), w64 (by omega) (by omega)]; omega
    have hs1 : (⟨[UInt8.ofNat (48 + m % 10)].toArray⟩ : ByteArray).size = 1 := rfl
    have hs2 : (⟨acc.toArray⟩ : ByteArray).size = acc.length := by show acc.toArray.size = _; simp
    unfold st28_0
    rw [if_pos (decide_eq_true (show (m : Int) ≠ 0 by omega)), if_pos (by decide), hz, if_neg (by simp; omega)]
    unfold j28_0
    rw [dig1 (m % 10) (by omega), if_pos (decide_eq_true (by rw [hs1, hs2]; omega)), if_pos (by decide), hq, ba_app]
    rw [Go.Lib.decDigits]
    by_cases h10 : m < 10
    · have e0 : m / 10 = 0 := by omega
      have e1 : m % 10 = m := by omega
      rw [dif_pos h10, e0, e1]
      obtain ⟨k, rfl⟩ : ∃ q, k = q + 1 := ⟨k - 1, by omega⟩
      rfl
    · rw [dif_neg h10, t28_0 d (m / 10) k _ (by omega) (by omega) (by omega) (by omega) (by simp only [List.singleton_append, List.length_cons]; omega)]
      simp
theorem p10_19 : p10 19 = 10000000000000000000 := by decide
theorem t28 {n : Nat} (hn : 100 ≤ n) {m : Nat} (hm : (m : Int) ≤ 9223372036854775807) : F28 n (m : Int) = some (dB (m : Int), ()) := by
  unfold F28 st28
  by_cases h : m = 0
  · subst h
    have e : (⟨#[48]⟩ : ByteArray) = dB ((0 : Nat) : Int) := ba_ext (by rw [dB_nat, Go.Lib.decDigits, dif_pos (by omega)]; rfl)
    rw [if_pos (by decide), e]
  · rw [if_neg (by simp; omega)]
    have e : decide ((m : Int) < 0) = false := decide_eq_false (by omega)
    rw [e, show (⟨#[]⟩ : ByteArray) = ⟨([] : List UInt8).toArray⟩ from rfl, t28_0 19 m n [] (by omega) (by rw [p10_19]; omega) (by omega) hm (by simp), List.append_nil]
    congr 2
theorem t11t_0 {n : Nat} : ∀ (d k : Nat) (i : Int) (s : ByteArray) (b : Bool), i.natAbs < p10 d → d < k → -9223372036854775808 ≤ i → i ≤ 9223372036854775807 → s.size + d ≤ 1000000 → ok (lp28_0 n k i s b) fun r => r.1.size ≤ s.size + d + 1
  | d, 0, i, s, b, h1, hk, hl, hh, hs => by omega
  | d, k + 1, i, s, b, h1, hk, hl, hh, hs => by
    show ok (st28_0 n (lp28_0 n k) i s b) _
    unfold st28_0
    refine ok.ite (fun h2 => ?_) (fun h2 => ?_)
    · obtain ⟨d, rfl⟩ : ∃ q, d = q + 1 := ⟨d - 1, by
        rcases d with _ | d
        · have h1 : i.natAbs < 1 := h1
          omega
        · omega⟩
      have h1 : i.natAbs < p10 d * 10 := h1
      have hq : (i.tdiv 10).natAbs = i.natAbs / 10 := Int.natAbs_tdiv i 10
      have hj : ∀ x : Int, ok (j28_0 n (lp28_0 n k) i s b x) fun r => r.1.size ≤ s.size + (d + 1) + 1 := fun x => by
        unfold j28_0
        have hs1 : (strOf [wrapI .u8 (wrap64 (48 + x))]).size = 1 := rfl
        refine ok.guard (by rw [hs1]; omega) (ok.guard (by decide) ?_)
        rw [w64 (x := i.tdiv 10) (by omega) (by omega)]
        refine (t11t_0 d k _ _ b (by omega) (by omega) (by omega) (by omega) (by rw [ByteArray.size_append, hs1]; omega)).mono fun r q => ?_
        rw [ByteArray.size_append, hs1] at q
        omega
      exact ok.guard (by decide) (ok.ite (fun _ => hj _) (fun _ => hj _))
    · refine ok.iteb (fun _ => ok.guard (by show 1 + s.size ≤ _; omega) (ok.some ?_)) (fun _ => ok.some (by show s.size ≤ _; omega))
      show ((⟨#[45]⟩ : ByteArray) ++ s).size ≤ _
      rw [ByteArray.size_append]
      show 1 + s.size ≤ _
      omega
theorem t11t {n : Nat} (hn : 100 ≤ n) {i : Int} (hl : -9223372036854775808 ≤ i) (hh : i ≤ 9223372036854775807) : ok (F28 n i) fun r => r.1.size ≤ 21 := by
  unfold F28 st28
  refine ok.ite (fun _ => ok.some (by show 1 ≤ 21; omega)) (fun _ => ?_)
  exact (t11t_0 19 n i (⟨#[]⟩ : ByteArray) _ (by rw [p10_19]; omega) (by omega) hl hh (by show 0 + 19 ≤ 1000000; omega)).mono fun r q => Nat.le_trans q (show 0 + 19 + 1 ≤ 21 by omega)
theorem dB_size {i : Int} (hl : -9223372036854775808 ≤ i) (hh : i ≤ 9223372036854775807) : (dB i).size ≤ 21 := by
  have := Go.Lib.itoa_length_le i hl hh
  show (Go.Lib.itoa i).toArray.size ≤ 21
  simpa using this
theorem wb (i n : Nat) (h : i ≤ n) (hn : n ≤ 1048576) : wrap64 ((i : Int) + 1) = ((i + 1 : Nat) : Int) := by rw [w64 (by omega) (by omega)]; rfl
/-- The program's reading of a number: total. -/
theorem t49t_0 {n : Nat} {s0 t : ByteArray} (ht : t.size ≤ 1048576) {i2 : Int} : ∀ (k i : Nat) (i3 : Int), i ≤ t.size → t.size - i < k → ok (lp16_0 n k s0 t i2 i3 (t.size : Int) (i : Int)) fun _ => True
  | 0, i, i3, h, hk => by omega
  | k + 1, i, i3, h, hk => by
    show ok (st16_0 n (lp16_0 n k) s0 t i2 i3 _ _) _
    unfold st16_0
    refine ok.ite (fun h1 => ok.guard (by omega) (ok.guard h1 (ok.ite (fun _ => ok.some trivial) (fun _ => ok.guard (by omega) (ok.guard h1 (ok.ite (fun _ => ok.some trivial) (fun _ => ok.guard (by omega) (ok.guard h1 ?_)))))))) (fun _ => ?_)
    · rw [wb i t.size h ht]
      exact t49t_0 ht k (i + 1) _ (by omega) (by omega)
    · have := w_range (i2 * i3)
      rw [t31 this.1 this.2]
      exact ok.iteb (fun _ => ok.some trivial) (fun _ => ok.some trivial)
theorem t49t {n : Nat} {s : ByteArray} (hs : s.size ≤ 1048576) (hn : 2000000 ≤ n) : ok (F16 n s) fun _ => True := by
  have hx : (s.extract (1 : Int).toNat (s.size : Int).toNat).size ≤ 1048576 := by rw [ByteArray.size_extract]; omega
  unfold F16 st16
  simp only [f18, Option.bind_some]
  refine ok.ite (fun h => ok.guard (by decide) (ok.guard (by omega) (ok.ite (fun _ => ok.guard (by decide) (ok.guard (by omega) (ok.guard (by omega) (ok.iteb (fun _ => ok.some trivial) (fun _ => t49t_0 hx n 0 _ (by omega) (by omega)))))) (fun _ => ok.iteb (fun _ => ok.some trivial) (fun _ => t49t_0 hs n 0 _ (by omega) (by omega)))))) (fun _ => ok.iteb (fun _ => ok.some trivial) (fun _ => t49t_0 hs n 0 _ (by omega) (by omega)))
theorem rdstep (v b : Nat) (hv : v ≤ 100000000000) (h1 : 48 ≤ b) (h2 : b ≤ 57) : wrap64 ((wrap64 (10 * (v : Int))) + (wrap64 (wrapI .u8 ((b : Int) - 48)))) = ((v * 10 + (b - 48) : Nat) : Int) := by
  have e : wrapI .u8 ((b : Int) - 48) = (b : Int) - 48 := by
    show ((b : Int) - 48) % 256 = _
    omega
  rw [e, w64 (x := 10 * (v : Int)) (by omega) (by omega), w64 (x := (b : Int) - 48) (by omega) (by omega), w64 (by omega) (by omega)]
  omega
theorem dig_bt {s : ByteArray} (hd : ∀ b ∈ s.data.toList, isDig b = true) {i : Nat} (hi : i < s.data.toList.length) : bt s (i : Int) = ((s.data.toList[i]).toNat : Int) ∧ 48 ≤ (s.data.toList[i]).toNat ∧ (s.data.toList[i]).toNat ≤ 57 := by
  have := hd _ (List.getElem_mem hi)
  unfold isDig at this
  simp only [Bool.and_eq_true, decide_eq_true_eq] at this
  exact ⟨bt_list s i hi, this⟩
/-- .. and what it reads of a number's text. -/
theorem t16_0 {n : Nat} {s : ByteArray} (hd : ∀ b ∈ s.data.toList, isDig b = true) (h9 : s.size ≤ 9) {m : Nat} (hm : valN 0 s.data.toList = m) (hs : s.toList = (dB (m : Int)).toList) : ∀ (k i v : Nat), i ≤ s.size → s.size - i < k → v < p10 i → valN v (s.data.toList.drop i) = m →
    lp16_0 n k s s 1 (v : Int) (s.size : Int) (i : Int) = some ((m : Int), true, ())
  | 0, i, v, h, hk, hv, he => by omega
  | k + 1, i, v, h, hk, hv, he => by
    have hl := sz_list s
    have hp := pow_le10 i (by omega)
    show st16_0 n (lp16_0 n k) s s 1 _ _ _ = _
    unfold st16_0
    by_cases h1 : i < s.size
    · obtain ⟨e1, e2, e3⟩ := dig_bt hd (i := i) (by omega)
      rw [if_pos (decide_eq_true (by omega)), if_pos (decide_eq_true (by omega)), if_pos (decide_eq_true (by omega)), if_neg (by rw [e1, decide_eq_false (by omega)]; decide), if_pos (decide_eq_true (by omega)), if_pos (decide_eq_true (by omega)), if_neg (by rw [e1, decide_eq_false (by omega)]; decide), if_pos (decide_eq_true (by omega)), if_pos (decide_eq_true (by omega)), e1]
      rw [rdstep v _ (by omega) e2 e3, wb i s.size h (by omega)]
      rw [List.drop_eq_getElem_cons (show i < s.data.toList.length by omega), valN_cons] at he
      exact t16_0 hd h9 hm hs k (i + 1) _ (by omega) (by omega) (p10_dig hv e3) he
    · rw [List.drop_eq_nil_of_le (by omega), valN_nil] at he
      subst he
      rw [if_neg (by simp; omega), Int.one_mul, w64 (x := (v : Int)) (by omega) (by omega), t31 (by omega) (by omega)]
      simp only [Option.bind_some]
      rw [if_neg (by rw [decide_eq_true hs.symm]; decide)]
theorem num_text {m : Nat} (hm : m ≤ 999999999) : (∀ b ∈ (dB (m : Int)).data.toList, isDig b = true) ∧ 1 ≤ (dB (m : Int)).size ∧ (dB (m : Int)).size ≤ 9 ∧ valN 0 (dB (m : Int)).data.toList = m := by
  have hl := sz_list (dB (m : Int))
  rw [dB_nat] at hl ⊢
  refine ⟨digits_dig m, ?_, ?_, valN_digits m⟩
  · have := List.length_pos_iff.2 (digits_ne m); omega
  · have := digits_len 8 m (Nat.lt_of_le_of_lt hm (by decide))
    omega
theorem t16 {n : Nat} (hn : 2000000 ≤ n) {m : Nat} (hm : m ≤ 999999999) : F16 n (dB (m : Int)) = some ((m : Int), true, ()) := by
  obtain ⟨h1, h2, h3, h4⟩ := num_text hm
  have hl := sz_list (dB (m : Int))
  obtain ⟨e1, e2, e3⟩ := dig_bt h1 (i := 0) (by omega)
  have e1 : bt (dB (m : Int)) 0 = _ := e1
  unfold F16 st16
  simp only [f18, Option.bind_some]
  have hi : inr ((dB (m : Int)).size : Int) 1 9 = true := by unfold inr; exact decide_eq_true ⟨by omega, by omega⟩
  rw [if_pos (decide_eq_true (by omega)), if_pos (by decide), if_pos (decide_eq_true (by omega)), if_neg (by rw [e1, decide_eq_false (by omega)]; decide), hi, if_neg (by decide)]
  exact t16_0 h1 h3 h4 rfl n 0 0 (by omega) (by omega) (by decide) (by rw [List.drop_zero]; exact h4)
/-- The reference's reading of a number. -/
theorem t56j {n : Nat} (hn : 100 ≤ n) {s : ByteArray} {i1 i2 : Int} (h1 : -9223372036854775808 ≤ i1) (h2 : i1 ≤ 9223372036854775807) : ok (j25_0 n s i1 i2) fun _ => True := by
  have hj : ∀ x : Int, -9223372036854775808 ≤ x → x ≤ 9223372036854775807 → ok (j25_1 n s x i2) fun _ => True := fun x a b => by
    unfold j25_1
    exact ok.ite (fun _ => ok.some trivial) (fun _ => ok.ite (fun _ => ok.some trivial) (fun _ => (t11t hn a b).bind fun r q => ok.iteb (fun _ => ok.some trivial) (fun _ => ok.some trivial)))
  unfold j25_0
  exact ok.ite (fun h => ok.guard (by decide) (ok.guard (by omega) (ok.ite (fun _ => hj _ (w_range _).1 (w_range _).2) (fun _ => hj _ h1 h2)))) (fun _ => hj _ h1 h2)
theorem t56t_0 {n : Nat} (hn : 100 ≤ n) {s : ByteArray} (hs : s.size ≤ 1048576) : ∀ (k i : Nat) (i1 i2 : Int), i ≤ s.size → s.size - i < k → -9223372036854775808 ≤ i1 → i1 ≤ 9223372036854775807 → ok (lp25_0 n k s i1 i2 (i : Int)) fun _ => True
  | 0, i, i1, i2, h, hk, a, b => by omega
  | k + 1, i, i1, i2, h, hk, a, b => by
    show ok (st25_0 n (lp25_0 n k) s i1 i2 _) _
    unfold st25_0
    refine ok.ite (fun h1 => ok.ite (fun h2 => ok.guard (by omega) (ok.guard h1 (ok.ite (fun _ => ok.guard (by omega) (ok.guard h1 (ok.ite (fun _ => ok.guard (by omega) (ok.guard h1 ?_)) (fun _ => ?_)))) (fun _ => ?_)))) (fun _ => t56j hn a b)) (fun _ => t56j hn a b)
    · rw [wb i s.size h hs]
      exact t56t_0 hn hs k (i + 1) _ _ (by omega) (by omega) (w_range _).1 (w_range _).2
    · rw [wb i s.size h hs]
      exact t56t_0 hn hs k (i + 1) _ _ (by omega) (by omega) a b
    · rw [wb i s.size h hs]
      exact t56t_0 hn hs k (i + 1) _ _ (by omega) (by omega) a b
theorem t56t {n : Nat} {s : ByteArray} (hs : s.size ≤ 1048576) (hn : 2000000 ≤ n) : ok (F25 n s) fun _ => True := by
  unfold F25 st25
  exact t56t_0 (by omega) hs n 0 0 0 (by omega) (by omega) (by omega) (by omega)
theorem rdstep2 (v b : Nat) (hv : v ≤ 100000000000) (h1 : 48 ≤ b) (h2 : b ≤ 57) : wrap64 ((wrap64 ((v : Int) * 10)) + (wrap64 (wrapI .u8 ((b : Int) - 48)))) = ((v * 10 + (b - 48) : Nat) : Int) := by
  rw [Int.mul_comm]
  exact rdstep v b hv h1 h2
theorem t25_0 {n : Nat} (hn : 100 ≤ n) {s : ByteArray} (hd : ∀ b ∈ s.data.toList, isDig b = true) (h9 : s.size ≤ 9) (hp : 1 ≤ s.size) {m : Nat} (hs : s.toList = (dB (m : Int)).toList) : ∀ (k i v : Nat), i ≤ s.size → s.size - i < k → v < p10 i → valN v (s.data.toList.drop i) = m →
    lp25_0 n k s (v : Int) (i : Int) (i : Int) = some ((m : Int), true, ())
  | 0, i, v, h, hk, hv, he => by omega
  | k + 1, i, v, h, hk, hv, he => by
    have hl := sz_list s
    have hp10 := pow_le10 i (by omega)
    show st25_0 n (lp25_0 n k) s _ _ _ = _
    unfold st25_0
    by_cases h1 : i < s.size
    · obtain ⟨e1, e2, e3⟩ := dig_bt hd (i := i) (by omega)
      rw [if_pos (decide_eq_true (by omega)), if_pos (decide_eq_true (by omega)), if_pos (decide_eq_true (by omega)), if_pos (decide_eq_true (by omega)), if_pos (by rw [e1]; exact decide_eq_true (by omega)), if_pos (decide_eq_true (by omega)), if_pos (decide_eq_true (by omega)), if_pos (by rw [e1]; exact decide_eq_true (by omega)), if_pos (decide_eq_true (by omega)), if_pos (decide_eq_true (by omega)), e1]
      rw [rdstep2 v _ (by omega) e2 e3, wb i s.size h (by omega)]
      rw [List.drop_eq_getElem_cons (show i < s.data.toList.length by omega), valN_cons] at he
      exact t25_0 hn hd h9 hp hs k (i + 1) _ (by omega) (by omega) (p10_dig hv e3) he
    · rw [List.drop_eq_nil_of_le (by omega), valN_nil] at he
      subst he
      obtain ⟨e1, e2, e3⟩ := dig_bt hd (i := 0) (by omega)
      have e1 : bt s 0 = _ := e1
      rw [if_neg (by simp; omega)]
      unfold j25_0 j25_1
      rw [if_pos (decide_eq_true (by omega)), if_pos (by decide), if_pos (decide_eq_true (by omega)), if_neg (by rw [e1, decide_eq_false (by omega)]; decide), if_neg (by simp; omega), if_neg (by simp; omega), t28 hn (by omega)]
      simp only [Option.bind_some]
      rw [if_neg (by rw [decide_eq_true hs.symm]; decide)]
theorem t25 {n : Nat} (hn : 2000000 ≤ n) {m : Nat} (hm : m ≤ 999999999) : F25 n (dB (m : Int)) = some ((m : Int), true, ()) := by
  obtain ⟨h1, h2, h3, h4⟩ := num_text hm
  unfold F25 st25
  exact t25_0 (by omega) h1 h3 h2 rfl n 0 0 (by omega) (by omega) (by decide) (by rw [List.drop_zero]; exact h4)
end Go.Eva
end
section
/- Texts parted at a byte. -/
namespace Go.Eva
open Go.RowKit (wrap64)
set_option linter.unusedVariables false
set_option linter.unusedSimpArgs false

/-- The words of a list of bytes, parted at a byte. -/
def spC (c : UInt8) : List UInt8 → List (List UInt8)
  | [] => [[]]
  | b :: bs => if b = c then [] :: spC c bs else (match spC c bs with | [] => [[b]] | w :: ws => (b :: w) :: ws)
theorem spC_ne {c : UInt8} : ∀ L, spC c L ≠ []
  | [] => by simp [spC]
  | b :: bs => by
    simp only [spC]
    split
    · simp
    · split <;> simp
def hdB (cur : List UInt8) : List (List UInt8) → List (List UInt8)
  | [] => [cur]
  | w :: ws => (cur ++ w) :: ws
theorem hdB_nil {c : UInt8} (L : List UInt8) : hdB [] (spC c L) = spC c L := by
  have := spC_ne (c := c) L
  cases h : spC c L with
  | nil => exact absurd h this
  | cons w ws => rfl
theorem hdB_snoc {c : UInt8} (cur : List UInt8) (b : UInt8) (bs : List UInt8) (hb : b ≠ c) : hdB cur (spC c (b :: bs)) = hdB (cur ++ [b]) (spC c bs) := by
  simp only [spC, if_neg hb]
  have := spC_ne (c := c) bs
  cases h : spC c bs with
  | nil => exact absurd h this
  | cons w ws => simp [hdB]
theorem hdB_space {c : UInt8} (cur bs : List UInt8) : hdB cur (spC c (c :: bs)) = cur :: spC c bs := by simp [spC, hdB]
theorem cut_miss : ∀ L : List UInt8, Go.Lib.indexByte L 32 = -1 → spC 32 L = [L]
  | [], _ => rfl
  | b :: bs, h => by
    unfold Go.Lib.indexByte at h
    by_cases hb : b = 32
    · rw [if_pos (by simp [hb])] at h
      omega
    · rw [if_neg (by simp [hb])] at h
      have hi : Go.Lib.indexByte bs 32 = -1 := by
        by_cases q : Go.Lib.indexByte bs 32 = -1
        · exact q
        · rw [if_neg (by simp [q])] at h
          have := Go.Lib.indexByte_ge bs 32
          omega
      simp only [spC, if_neg hb, cut_miss bs hi]
theorem cut_hit : ∀ (L : List UInt8) (i : Nat), Go.Lib.indexByte L 32 = i → spC 32 L = L.take i :: spC 32 (L.drop (i + 1))
  | [], i, h => by
    unfold Go.Lib.indexByte at h
    omega
  | b :: bs, i, h => by
    unfold Go.Lib.indexByte at h
    by_cases hb : b = 32
    · rw [if_pos (by simp [hb])] at h
      obtain rfl : i = 0 := by omega
      simp [spC, hb]
    · rw [if_neg (by simp [hb])] at h
      by_cases q : Go.Lib.indexByte bs 32 = -1
      · rw [if_pos (by simp [q])] at h
        omega
      · rw [if_neg (by simp [q])] at h
        obtain ⟨j, rfl⟩ : ∃ j, i = j + 1 := ⟨i - 1, by have := Go.Lib.indexByte_ge bs 32; omega⟩
        have := cut_hit bs j (by omega)
        simp only [spC, if_neg hb, this, List.take_succ_cons, List.drop_succ_cons]
theorem split_cut (n : Nat) : ∀ s : ByteArray, s.size ≤ n → (Go.Lib.splitB (⟨#[32]⟩ : ByteArray) 0 (Go.Lib.countB s (⟨#[32]⟩ : ByteArray)) s).map (fun x => x.data.toList) = spC 32 s.data.toList := by
  induction n with
  | zero =>
    intro s hs
    have h : Go.Lib.indexB s (⟨#[32]⟩ : ByteArray) = -1 := by
      rcases Go.Lib.indexB_cases s (⟨#[32]⟩ : ByteArray) with h | ⟨i, h, hi⟩
      · exact h
      · have : (⟨#[32]⟩ : ByteArray).size = 1 := rfl
        omega
    rw [Go.Lib.splitB_miss _ _ _ _ h, cut_miss _ ((Go.Lib.index_one s.data.toList 32).symm.trans h)]
    rfl
  | succ n ih =>
    intro s hs
    have h1 : (⟨#[32]⟩ : ByteArray).size = 1 := rfl
    rcases Go.Lib.indexB_cases s (⟨#[32]⟩ : ByteArray) with h | ⟨i, h, hi⟩
    · rw [Go.Lib.splitB_miss _ _ _ _ h, cut_miss _ ((Go.Lib.index_one s.data.toList 32).symm.trans h)]
      rfl
    · rw [Go.Lib.countB_hit s _ i (by omega) h, Nat.add_comm, Go.Lib.splitB_hit _ _ _ _ i h, List.map_cons, cut_hit _ i ((Go.Lib.index_one s.data.toList 32).symm.trans h)]
      have hsz : (s.extract (i + 1) s.size).size ≤ n := by
        rw [ByteArray.size_extract]
        omega
      have := ih _ hsz
      rw [h1, this, Nat.add_zero, Go.Lib.extract_from_zero]
      have he : (s.extract (i + 1) s.size).data.toList = s.data.toList.drop (i + 1) := by
        rw [ByteArray.data_extract, Array.toList_extract, List.extract_eq_take_drop, List.take_of_length_le]
        rw [List.length_drop, sz_list]
        omega
      rw [he]
theorem spC_one {c : UInt8} : ∀ A : List UInt8, (∀ b ∈ A, b ≠ c) → spC c A = [A]
  | [], _ => rfl
  | b :: bs, h => by
    rw [spC, if_neg (h b (by simp)), spC_one bs (fun x hx => h x (by simp [hx]))]
theorem spC_app {c : UInt8} (B : List UInt8) : ∀ A : List UInt8, (∀ b ∈ A, b ≠ c) → spC c (A ++ c :: B) = A :: spC c B
  | [], _ => by simp [spC]
  | b :: bs, h => by
    rw [List.cons_append, spC, if_neg (h b (by simp)), spC_app B bs (fun x hx => h x (by simp [hx]))]
theorem spC_len {c : UInt8} : ∀ L : List UInt8, ∀ w ∈ spC c L, w.length ≤ L.length
  | [], w, h => by simp [spC] at h; simp [h]
  | b :: bs, w, h => by
    have ih := spC_len (c := c) bs
    rw [spC] at h
    split at h
    · rcases List.mem_cons.1 h with rfl | h
      · simp
      · have := ih w h; rw [List.length_cons]; omega
    · split at h
      · rw [List.mem_singleton.1 h]; simp
      · rename_i w' ws e
        rcases List.mem_cons.1 h with rfl | h
        · have := ih w' (by rw [e]; simp)
          simp only [List.length_cons]; omega
        · have := ih w (by rw [e]; simp [h])
          rw [List.length_cons]; omega
theorem extr_list (s : ByteArray) (a b : Nat) (hb : b ≤ s.size) : (s.extract a b).data.toList = (s.data.toList.drop a).take (b - a) := by
  rw [ByteArray.data_extract, Array.toList_extract, List.extract_eq_take_drop]
/-- The reference's cutting at a byte. -/
theorem t46c_0 {n : Nat} {c : UInt8} {s : ByteArray} (hs : s.size ≤ 1048576) : ∀ (k i frm : Nat) (out : List ByteArray), i ≤ s.size → s.size - i < k → frm ≤ i → out.length ≤ i → ok (lp9_0 n k s (c.toNat : Int) (frm : Int) (i : Int) out) fun r => r.1.map (fun x => x.data.toList) = out.map (fun x => x.data.toList) ++ hdB ((s.data.toList.drop frm).take (i - frm)) (spC c (s.data.toList.drop i))
  | 0, i, frm, out, h, hk, hf, ho => by omega
  | k + 1, i, frm, out, h, hk, hf, ho => by
    have hl := sz_list s
    show ok (st9_0 n (lp9_0 n k) s (c.toNat : Int) _ _ out) _
    unfold st9_0
    refine ok.ite (fun h1 => ok.guard (by omega) (ok.guard h1 ?_)) (fun h1 => ok.guard (by omega) (ok.guard (by omega) (ok.guard (by omega) (ok.guard (by simp only [List.length_cons, List.length_nil]; omega) (ok.some ?_)))))
    · have hi : i < s.data.toList.length := by omega
      have hsp : s.data.toList.drop i = s.data.toList[i] :: s.data.toList.drop (i + 1) := List.drop_eq_getElem_cons hi
      rw [bt_list s i hi, wb i s.size h hs]
      refine ok.ite (fun h2 => ok.guard (by omega) (ok.guard (by omega) (ok.guard (by omega) (ok.guard (by simp only [List.length_cons, List.length_nil]; omega) ?_)))) (fun h2 => ?_)
      · have hb : s.data.toList[i] = c := UInt8.toNat_inj.1 (by omega)
        refine (t46c_0 hs k (i + 1) (i + 1) _ (by omega) (by omega) (Nat.le_refl _) (by simp only [List.length_append, List.length_cons, List.length_nil]; omega)).mono fun r q => ?_
        rw [q, hsp, hb, hdB_space, List.map_append, List.append_assoc, Nat.sub_self, List.take_zero, hdB_nil]
        congr 1
        simp only [List.map_cons, List.map_nil, Int.toNat_natCast, List.singleton_append]
        rw [extr_list s frm i (by omega)]
      · have hb : s.data.toList[i] ≠ c := fun e => h2 (by rw [e])
        refine (t46c_0 hs k (i + 1) frm out (by omega) (by omega) (by omega) (by omega)).mono fun r q => ?_
        rw [q, hsp, hdB_snoc _ _ _ hb]
        congr 2
        have e : i + 1 - frm = (i - frm) + 1 := by omega
        rw [e, List.take_succ_eq_append_getElem (by rw [List.length_drop]; omega)]
        congr 2
        rw [List.getElem_drop]
        congr 1
        omega
    · rw [List.drop_eq_nil_of_le (show s.data.toList.length ≤ i by omega)]
      have e : i = s.size := by omega
      simp only [List.map_append, List.map_cons, List.map_nil, Int.toNat_natCast, spC, hdB, List.append_nil]
      rw [extr_list s frm s.size (Nat.le_refl _), e]
theorem t46c {n : Nat} {c : UInt8} {s : ByteArray} (hs : s.size ≤ 1048576) (hn : 2000000 ≤ n) {x : Int} (hx : x = (c.toNat : Int)) : ok (F9 n s x) fun r => r.1.map (fun x => x.data.toList) = spC c s.data.toList := by
  subst hx
  unfold F9 st9
  refine (t46c_0 hs n 0 0 [] (by omega) (by omega) (Nat.le_refl _) (Nat.le_refl _)).mono fun r q => ?_
  rw [q, Nat.sub_self, List.take_zero, List.drop_zero, hdB_nil]
  rfl
theorem extr_of (s d : ByteArray) (A D B : List UInt8) (a b : Nat) (hs : s.data.toList = A ++ (D ++ B)) (ha : a = A.length) (hb : b = A.length + D.length) (hd : d.data.toList = D) : s.extract a b = d := by
  have hl := sz_list s
  have hlen : s.data.toList.length = A.length + (D.length + B.length) := by rw [hs]; simp
  apply ba_ext
  rw [extr_list s a b (by omega), hs, hd, ha, hb]
  simp
end Go.Eva
end
section
/- Operations as texts, read again. -/
namespace Go.Eva
open Go.RowKit (wrap64)
set_option linter.unusedVariables false
set_option linter.unusedSimpArgs false

abbrev Op4 := Int × (ByteArray × (Int × Int))
def kw (x : Int) : ByteArray := if x = 1 then ⟨#[99]⟩ else if x = 2 then ⟨#[103]⟩ else if x = 3 then ⟨#[109, 115]⟩ else ⟨#[]⟩
theorem tl_eq {a b : ByteArray} (h : a.toList = b.toList) : a = b := ba_ext (by rw [← ByteArray.toList_eq, ← ByteArray.toList_eq]; exact h)
theorem f42 {n : Nat} {x : Int} : F42 n x = some (kw x, ()) := by
  unfold F42 kw
  by_cases h1 : x = 1
  · rw [if_pos (decide_eq_true h1), if_pos h1]
  · rw [if_neg (by rw [decide_eq_false h1]; decide), if_neg h1]
    by_cases h2 : x = 2
    · rw [if_pos (decide_eq_true h2), if_pos h2]
    · rw [if_neg (by rw [decide_eq_false h2]; decide), if_neg h2]
      by_cases h3 : x = 3
      · rw [if_pos (decide_eq_true h3), if_pos h3]
      · rw [if_neg (by rw [decide_eq_false h3]; decide), if_neg h3]
theorem f37 {n : Nat} {x : Int} : F37 n x = some (kw x, ()) := by
  unfold F37
  rw [f11]
  simp only [Option.bind_some]
  by_cases h : 1 ≤ x ∧ x ≤ 3
  · have e : inr x 1 3 = true := by unfold inr; exact decide_eq_true h
    have hx : x = 1 ∨ x = 2 ∨ x = 3 := by omega
    have w1 : wrap64 ((1 : Int) - 1) = 0 := by rw [w64 (by omega) (by omega)]; rfl
    have w2 : wrap64 ((2 : Int) - 1) = 1 := by rw [w64 (by omega) (by omega)]; rfl
    have w3 : wrap64 ((3 : Int) - 1) = 2 := by rw [w64 (by omega) (by omega)]; rfl
    rw [e]
    rcases hx with rfl | rfl | rfl
    · rw [w1]; rfl
    · rw [w2]; rfl
    · rw [w3]; rfl
  · have e : inr x 1 3 = false := by unfold inr; exact decide_eq_false h
    rw [e]
    unfold kw
    rw [if_neg (show ¬ x = 1 by omega), if_neg (show ¬ x = 2 by omega), if_neg (show ¬ x = 3 by omega)]
    rfl
theorem kw_ne {x : Int} : (kw x).toList = (⟨#[]⟩ : ByteArray).toList ↔ ¬ (1 ≤ x ∧ x ≤ 3) := by
  constructor
  · intro h hx
    have h := congrArg ByteArray.size (tl_eq h)
    have hx : x = 1 ∨ x = 2 ∨ x = 3 := by omega
    rcases hx with rfl | rfl | rfl
    · exact absurd (show (1 : Nat) = 0 from h) (by decide)
    · exact absurd (show (1 : Nat) = 0 from h) (by decide)
    · exact absurd (show (2 : Nat) = 0 from h) (by decide)
  · intro h
    unfold kw
    rw [if_neg (show ¬ x = 1 by omega), if_neg (show ¬ x = 2 by omega), if_neg (show ¬ x = 3 by omega)]
noncomputable def opB (n : Nat) (k : Int) (s : ByteArray) (w v : Int) : Bool :=
  if k = 1 then kob n s && (inr w 1 3 && decide (v = 0)) else if k = 2 then kob n s && (decide (w = 0) && inr v 0 65535) else if k = 3 then decide (s.toList = (⟨#[]⟩ : ByteArray).toList) && (decide (w = 0) && decide (v = 0)) else false
theorem f38 {n : Nat} (hn : 2000000 ≤ n) {s : ByteArray} (hs : s.size ≤ 1048576) : F38 n s = some (kob n s, ()) := by
  obtain ⟨⟨b, u⟩, h, _⟩ := t46g (n := n) hs hn
  unfold kob
  rw [h]
  rfl
theorem f27 {n : Nat} (hn : 2000000 ≤ n) {k : Int} {s : ByteArray} {w v : Int} (hs : s.size ≤ 1048576) : F27 n k s w v = some (opB n k s w v, ()) := by
  unfold F27 opB
  rw [f38 hn hs, f37, f11]
  simp only [Option.bind_some]
  by_cases h1 : k = 1
  · rw [if_pos (decide_eq_true h1), if_pos h1]
    cases kob n s
    · rfl
    · rw [if_pos rfl, Bool.true_and]
      by_cases hw : 1 ≤ w ∧ w ≤ 3
      · have e : inr w 1 3 = true := by unfold inr; exact decide_eq_true hw
        rw [if_pos (by rw [decide_eq_false (fun q => kw_ne.1 q hw)]; rfl), e, Bool.true_and]
      · have e : inr w 1 3 = false := by unfold inr; exact decide_eq_false hw
        rw [if_neg (by rw [decide_eq_true (kw_ne.2 hw)]; decide), e, Bool.false_and]
  · rw [if_neg (by rw [decide_eq_false h1]; decide), if_neg h1]
    by_cases h2 : k = 2
    · rw [if_pos (decide_eq_true h2), if_pos h2]
      cases kob n s
      · rfl
      · rw [if_pos rfl, Bool.true_and]
        by_cases hw : w = 0
        · rw [if_pos (decide_eq_true hw), decide_eq_true hw, Bool.true_and]
        · rw [if_neg (by rw [decide_eq_false hw]; decide), decide_eq_false hw, Bool.false_and]
    · rw [if_neg (by rw [decide_eq_false h2]; decide), if_neg h2]
      by_cases h3 : k = 3
      · rw [if_pos (decide_eq_true h3), if_pos h3, decide_eq_true h3]
        simp
      · rw [if_neg (by rw [decide_eq_false h3]; decide), if_neg h3]
theorem f31o {n : Nat} (hn : 2000000 ≤ n) {k : Int} {s : ByteArray} {w v : Int} (hs : s.size ≤ 1048576) : F34 n k s w v = some (opB n k s w v, ()) := by
  rw [← f27 hn hs]
  unfold F34 F27
  simp only [f43, f42, f37, f18, f11]
structure OOk (k : Int) (s : ByteArray) (w v : Int) : Prop where
  one : (k = 1 ∧ (1 ≤ w ∧ w ≤ 3) ∧ v = 0) ∨ (k = 2 ∧ w = 0 ∧ 0 ≤ v ∧ v ≤ 65535) ∨ (k = 3 ∧ s = ⟨#[]⟩ ∧ w = 0 ∧ v = 0)
  key : k ≠ 3 → (∀ b ∈ s.data.toList, b ≠ 32 ∧ b ≠ 10) ∧ 1 ≤ s.size
  len : s.size ≤ 4
theorem kob_key {n : Nat} {s : ByteArray} (hs : s.size ≤ 1048576) (hn : 2000000 ≤ n) (h : kob n s = true) : (∀ b ∈ s.data.toList, b ≠ 32 ∧ b ≠ 10) ∧ 1 ≤ s.size ∧ s.size ≤ 4 := by
  obtain ⟨⟨b, u⟩, h1, h2⟩ := t46k (n := n) hs n 0 (by omega) (by omega)
  have h1 : F38 n s = some (b, u) := h1
  unfold kob at h
  rw [h1] at h
  obtain ⟨k1, k2, k3⟩ := h2 h
  refine ⟨fun b hb => ?_, k2, k3⟩
  obtain ⟨j, hj, rfl⟩ := List.getElem_of_mem hb
  have hl : s.data.toList.length = s.size := Array.length_toList
  have hk := k1 j (Nat.zero_le _) (by omega)
  rw [bt_list s j hj] at hk
  unfold kc inr at hk
  simp only [Bool.or_eq_true, decide_eq_true_eq] at hk
  refine ⟨fun e => ?_, fun e => ?_⟩
  · rw [e] at hk
    have : (UInt8.toNat 32 : Int) = 32 := rfl
    omega
  · rw [e] at hk
    have : (UInt8.toNat 10 : Int) = 10 := rfl
    omega
theorem oOk {n : Nat} (hn : 2000000 ≤ n) {k : Int} {s : ByteArray} {w v : Int} (hs : s.size ≤ 1048576) (h : opB n k s w v = true) : OOk k s w v := by
  unfold opB inr at h
  split at h
  · rename_i hk
    simp only [Bool.and_eq_true, decide_eq_true_eq] at h
    obtain ⟨h1, h2, h3⟩ := h
    have K := kob_key hs hn h1
    exact ⟨.inl ⟨hk, h2, h3⟩, fun _ => ⟨K.1, K.2.1⟩, K.2.2⟩
  · split at h
    · rename_i hk
      simp only [Bool.and_eq_true, decide_eq_true_eq] at h
      obtain ⟨h1, h2, h3⟩ := h
      have K := kob_key hs hn h1
      exact ⟨.inr (.inl ⟨hk, h2, h3⟩), fun _ => ⟨K.1, K.2.1⟩, K.2.2⟩
    · split at h
      · rename_i hk
        simp only [Bool.and_eq_true, decide_eq_true_eq] at h
        obtain ⟨h1, h2, h3⟩ := h
        have e := tl_eq h1
        exact ⟨.inr (.inr ⟨hk, e, h2, h3⟩), fun q => absurd hk q, by rw [e]; exact Nat.zero_le _⟩
      · cases h
def opT (k : Int) (s : ByteArray) (w v : Int) : ByteArray :=
  if k = 1 then (((⟨#[114, 101, 103, 32]⟩ : ByteArray) ++ s) ++ (⟨#[32]⟩ : ByteArray)) ++ kw w else if k = 2 then (((⟨#[114, 101, 99, 32]⟩ : ByteArray) ++ s) ++ (⟨#[32]⟩ : ByteArray)) ++ dB v else ⟨#[102, 108, 117, 115, 104]⟩
theorem kw_size (w : Int) : (kw w).size ≤ 2 := by
  unfold kw
  split
  · show 1 ≤ 2; omega
  · split
    · show 1 ≤ 2; omega
    · split
      · show 2 ≤ 2; omega
      · show 0 ≤ 2; omega
theorem opT_size {k : Int} {s : ByteArray} {w v : Int} (O : OOk k s w v) : (opT k s w v).size ≤ 40 ∧ 3 ≤ (opT k s w v).size := by
  have h4 := O.len
  have e4 : (⟨#[114, 101, 103, 32]⟩ : ByteArray).size = 4 := rfl
  have e5 : (⟨#[114, 101, 99, 32]⟩ : ByteArray).size = 4 := rfl
  have e1 : (⟨#[32]⟩ : ByteArray).size = 1 := rfl
  have hk := kw_size w
  unfold opT
  split
  · simp only [ByteArray.size_append, e4, e1]; omega
  · split
    · rename_i h1 h2
      have hv : 0 ≤ v ∧ v ≤ 65535 := by
        rcases O.one with h | h | h
        · omega
        · omega
        · omega
      have := dB_size (i := v) (by omega) (by omega)
      simp only [ByteArray.size_append, e5, e1]; omega
    · show 5 ≤ 40 ∧ 3 ≤ 5; omega
theorem f12_ok {n : Nat} (hn : 2000000 ≤ n) {k : Int} {s : ByteArray} {w v : Int} (hs : s.size ≤ 1048576) (h : opB n k s w v = true) : F33 n k s w v = some (opT k s w v, ()) := by
  have O := oOk hn hs h
  have h4 := O.len
  have e4 : (⟨#[114, 101, 103, 32]⟩ : ByteArray).size = 4 := rfl
  have e5 : (⟨#[114, 101, 99, 32]⟩ : ByteArray).size = 4 := rfl
  have e1 : (⟨#[32]⟩ : ByteArray).size = 1 := rfl
  have hk := kw_size w
  unfold F33 opT
  rw [f31o hn hs, h, f42]
  simp only [Option.bind_some, ByteArray.size_append, e4, e5, e1]
  rw [if_neg (by decide)]
  by_cases h1 : k = 1
  · rw [if_pos (decide_eq_true h1), if_pos h1, if_pos (decide_eq_true (by omega)), if_pos (decide_eq_true (by omega)), if_pos (decide_eq_true (by omega))]
  · rw [if_neg (by rw [decide_eq_false h1]; decide), if_neg h1]
    by_cases h2 : k = 2
    · have hv : 0 ≤ v ∧ v ≤ 65535 := by
        rcases O.one with h | h | h
        · omega
        · omega
        · omega
      have := dB_size (i := v) (by omega) (by omega)
      rw [if_pos (decide_eq_true h2), if_pos h2, if_pos (decide_eq_true (by omega)), if_pos (decide_eq_true (by omega)), t31 (by omega) (by omega)]
      simp only [Option.bind_some]
      rw [if_pos (decide_eq_true (by omega))]
    · rw [if_neg (by rw [decide_eq_false h2]; decide), if_neg h2]
theorem f12_no {n : Nat} (hn : 2000000 ≤ n) {k : Int} {s : ByteArray} {w v : Int} (hs : s.size ≤ 1048576) (h : ¬ opB n k s w v = true) : F33 n k s w v = some (⟨#[]⟩, ()) := by
  have h : opB n k s w v = false := by simpa using h
  unfold F33
  rw [f31o hn hs, h]
  rfl
theorem f64_ok {n : Nat} (hn : 2000000 ≤ n) {k : Int} {s : ByteArray} {w v : Int} (hs : s.size ≤ 1048576) (h : opB n k s w v = true) : F26 n k s w v = some (opT k s w v, ()) := by
  have O := oOk hn hs h
  have h4 := O.len
  have e4 : (⟨#[114, 101, 103, 32]⟩ : ByteArray).size = 4 := rfl
  have e5 : (⟨#[114, 101, 99, 32]⟩ : ByteArray).size = 4 := rfl
  have e1 : (⟨#[32]⟩ : ByteArray).size = 1 := rfl
  have hk := kw_size w
  unfold F26 opT
  rw [f27 hn hs, h, f37]
  simp only [Option.bind_some, ByteArray.size_append, e4, e5, e1]
  rw [if_neg (by decide)]
  by_cases h1 : k = 1
  · rw [if_pos (decide_eq_true h1), if_pos h1, if_pos (decide_eq_true (by omega)), if_pos (decide_eq_true (by omega)), if_pos (decide_eq_true (by omega))]
  · rw [if_neg (by rw [decide_eq_false h1]; decide), if_neg h1]
    by_cases h2 : k = 2
    · have hv : 0 ≤ v ∧ v ≤ 65535 := by
        rcases O.one with h | h | h
        · omega
        · omega
        · omega
      have := dB_size (i := v) (by omega) (by omega)
      obtain ⟨V, rfl⟩ := Int.eq_ofNat_of_zero_le hv.1
      rw [if_pos (decide_eq_true h2), if_pos h2, if_pos (decide_eq_true (by omega)), if_pos (decide_eq_true (by omega)), t28 (by omega) (by omega)]
      simp only [Option.bind_some]
      rw [if_pos (decide_eq_true (by omega))]
    · rw [if_neg (by rw [decide_eq_false h2]; decide), if_neg h2]
theorem f64_no {n : Nat} (hn : 2000000 ≤ n) {k : Int} {s : ByteArray} {w v : Int} (hs : s.size ≤ 1048576) (h : ¬ opB n k s w v = true) : F26 n k s w v = some (⟨#[]⟩, ()) := by
  have h : opB n k s w v = false := by simpa using h
  unfold F26
  rw [f27 hn hs, h]
  rfl
/-- A kind's word read. -/
theorem t32 {n : Nat} (hn : 100 ≤ n) {s : ByteArray} : ok (F32 n s) fun r => ∀ x : Int, 1 ≤ x → x ≤ 3 → s = kw x → r.1 = x := by
  obtain ⟨k, rfl⟩ : ∃ q, n = q + 4 := ⟨n - 4, by omega⟩
  have e1 : wrap64 ((1 : Int) + 1) = 2 := by rw [w64 (by omega) (by omega)]; rfl
  have e2 : wrap64 ((2 : Int) + 1) = 3 := by rw [w64 (by omega) (by omega)]; rfl
  have e3 : wrap64 ((3 : Int) + 1) = 4 := by rw [w64 (by omega) (by omega)]; rfl
  have inj : ∀ x y : Int, 1 ≤ x → x ≤ 3 → 1 ≤ y → y ≤ 3 → kw x = kw y → x = y := fun x y a b c d h => by
    have hx : x = 1 ∨ x = 2 ∨ x = 3 := by omega
    have hy : y = 1 ∨ y = 2 ∨ y = 3 := by omega
    rcases hx with rfl | rfl | rfl <;> rcases hy with rfl | rfl | rfl <;> first | rfl | (exact absurd (congrArg ByteArray.data h) (by decide))
  have hgo : ∀ (d : Nat) (i : Int) (m : Nat), 1 ≤ i → i + d = 4 → ok (lp32_0 (k + 4) (m + d + 1) s i) fun r => ∀ x : Int, i ≤ x → x ≤ 3 → s = kw x → r.1 = x := by
    intro d
    induction d with
    | zero =>
      intro i m h1 h2
      show ok (st32_0 (k + 4) (lp32_0 (k + 4) (m + 0)) s i) _
      unfold st32_0
      exact ok.ite (fun h => by omega) (fun h => ok.some fun x a b _ => by omega)
    | succ d ih =>
      intro i m h1 h2
      show ok (st32_0 (k + 4) (lp32_0 (k + 4) (m + (d + 1))) s i) _
      unfold st32_0
      rw [f42]
      refine ok.ite (fun h => ok.bind (Q := fun r => r = (kw i, ())) (ok.some rfl) fun r1 q1 => ?_) (fun h => by omega)
      subst q1
      refine ok.ite (fun h3 => ok.some fun x a b hx => ?_) (fun h3 => ?_)
      · exact inj i x h1 (by omega) (by omega) b ((tl_eq h3).trans hx)
      · rw [w64 (x := i + 1) (by omega) (by omega)]
        refine (ih (i + 1) m (by omega) (by omega)).mono fun r q x a b hx => ?_
        by_cases e : x = i
        · subst e
          exact absurd (by rw [hx]) h3
        · exact q x (by omega) b hx
  exact hgo 3 1 k (by omega) (by omega)
theorem t24 {n : Nat} (hn : 100 ≤ n) {s : ByteArray} : ok (F24 n s) fun r => ∀ x : Int, 1 ≤ x → x ≤ 3 → s = kw x → r.1 = x := by
  have h29 := t32 hn (s := s)
  have e : F24 n s = F32 n s := by
    have hst : ∀ g, st24_0 n g = st32_0 n g := fun g => by
      funext s0 i1
      unfold st24_0 st32_0
      rw [f37, f42]
    have hl : ∀ k, lp24_0 n k = lp32_0 n k := fun k => by
      induction k with
      | zero => rfl
      | succ k ih => show st24_0 n (lp24_0 n k) = st32_0 n (lp32_0 n k); rw [ih, hst]
    unfold F24 F32 st24 st32
    rw [hl]
  rw [e]
  exact h29
end Go.Eva
end
section
/- Operations read from texts. -/
namespace Go.Eva
open Go.RowKit (wrap64)
set_option linter.unusedVariables false
set_option linter.unusedSimpArgs false

theorem cutc_miss {c : UInt8} : ∀ L : List UInt8, Go.Lib.indexByte L c = -1 → spC c L = [L]
  | [], _ => rfl
  | b :: bs, h => by
    unfold Go.Lib.indexByte at h
    by_cases hb : b = c
    · rw [if_pos (by simp [hb])] at h
      omega
    · rw [if_neg (by simp [hb])] at h
      have hi : Go.Lib.indexByte bs c = -1 := by
        by_cases q : Go.Lib.indexByte bs c = -1
        · exact q
        · rw [if_neg (by simp [q])] at h
          have := Go.Lib.indexByte_ge bs c
          omega
      simp only [spC, if_neg hb, cutc_miss bs hi]
theorem cutc_hit {c : UInt8} : ∀ (L : List UInt8) (i : Nat), Go.Lib.indexByte L c = i → spC c L = L.take i :: spC c (L.drop (i + 1))
  | [], i, h => by
    unfold Go.Lib.indexByte at h
    omega
  | b :: bs, i, h => by
    unfold Go.Lib.indexByte at h
    by_cases hb : b = c
    · rw [if_pos (by simp [hb])] at h
      obtain rfl : i = 0 := by omega
      simp [spC, hb]
    · rw [if_neg (by simp [hb])] at h
      by_cases q : Go.Lib.indexByte bs c = -1
      · rw [if_pos (by simp [q])] at h
        omega
      · rw [if_neg (by simp [q])] at h
        obtain ⟨j, rfl⟩ : ∃ j, i = j + 1 := ⟨i - 1, by have := Go.Lib.indexByte_ge bs c; omega⟩
        have := cutc_hit (c := c) bs j (by omega)
        simp only [spC, if_neg hb, this, List.take_succ_cons, List.drop_succ_cons]
theorem split_cutc {c : UInt8} (n : Nat) : ∀ s : ByteArray, s.size ≤ n → (Go.Lib.splitB (⟨#[c]⟩ : ByteArray) 0 (Go.Lib.countB s (⟨#[c]⟩ : ByteArray)) s).map (fun x => x.data.toList) = spC c s.data.toList := by
  induction n with
  | zero =>
    intro s hs
    have h : Go.Lib.indexB s (⟨#[c]⟩ : ByteArray) = -1 := by
      rcases Go.Lib.indexB_cases s (⟨#[c]⟩ : ByteArray) with h | ⟨i, h, hi⟩
      · exact h
      · have : (⟨#[c]⟩ : ByteArray).size = 1 := rfl
        omega
    rw [Go.Lib.splitB_miss _ _ _ _ h, cutc_miss _ ((Go.Lib.index_one s.data.toList c).symm.trans h)]
    rfl
  | succ n ih =>
    intro s hs
    have h1 : (⟨#[c]⟩ : ByteArray).size = 1 := rfl
    rcases Go.Lib.indexB_cases s (⟨#[c]⟩ : ByteArray) with h | ⟨i, h, hi⟩
    · rw [Go.Lib.splitB_miss _ _ _ _ h, cutc_miss _ ((Go.Lib.index_one s.data.toList c).symm.trans h)]
      rfl
    · rw [Go.Lib.countB_hit s _ i (by omega) h, Nat.add_comm, Go.Lib.splitB_hit _ _ _ _ i h, List.map_cons, cutc_hit _ i ((Go.Lib.index_one s.data.toList c).symm.trans h)]
      have hsz : (s.extract (i + 1) s.size).size ≤ n := by
        rw [ByteArray.size_extract]
        omega
      have := ih _ hsz
      rw [h1, this, Nat.add_zero, Go.Lib.extract_from_zero]
      have he : (s.extract (i + 1) s.size).data.toList = s.data.toList.drop (i + 1) := by
        rw [ByteArray.data_extract, Array.toList_extract, List.extract_eq_take_drop, List.take_of_length_le]
        rw [List.length_drop, sz_list]
        omega
      rw [he]
theorem t29 {n : Nat} {c : UInt8} {s d : ByteArray} (hs : s.size ≤ 1048576) (hd : d = ⟨#[c]⟩) : ok (F29 n s d) fun r => r.1.map (fun x => x.data.toList) = spC c s.data.toList := by
  subst hd
  unfold F29 splF
  exact ok.guard (by omega) (ok.guard (show 1 ≤ 1 from Nat.le_refl _) (ok.some (split_cutc s.size s (Nat.le_refl _))))
theorem three {W : List ByteArray} (h : ¬ ((W.length : Int) ≠ 3)) : ∃ p q r, W = [p, q, r] := by
  match W, h with
  | [p, q, r], _ => exact ⟨p, q, r, rfl⟩
  | [], h => simp at h
  | [_], h => simp at h
  | [_, _], h => simp at h
  | _ :: _ :: _ :: _ :: _, h => exact absurd (by simp only [List.length_cons]; omega) h
theorem map_w3 {W : List ByteArray} {a b c : ByteArray} (h : W.map (fun x => x.data.toList) = [a.data.toList, b.data.toList, c.data.toList]) : W = [a, b, c] := by
  match W, h with
  | [p, q, r], h =>
    simp only [List.map_cons, List.map_nil, List.cons.injEq, and_true] at h
    rw [ba_ext h.1, ba_ext h.2.1, ba_ext h.2.2]
  | [], h => simp at h
  | [_], h => simp at h
  | [_, _], h => simp at h
  | _ :: _ :: _ :: _ :: _, h => simp at h
theorem map_w1 {W : List ByteArray} {a : ByteArray} (h : W.map (fun x => x.data.toList) = [a.data.toList]) : W = [a] := by
  match W, h with
  | [p], h =>
    simp only [List.map_cons, List.map_nil, List.cons.injEq, and_true] at h
    rw [ba_ext h]
  | [], h => simp at h
  | _ :: _ :: _, h => simp at h
theorem words_le {c : UInt8} {W : List ByteArray} {s : ByteArray} (h : W.map (fun x => x.data.toList) = spC c s.data.toList) : ∀ x ∈ W, x.size ≤ s.size := by
  intro x hx
  have : x.data.toList ∈ spC c s.data.toList := by rw [← h]; exact List.mem_map.2 ⟨x, hx, rfl⟩
  have := spC_len _ _ this
  rwa [sz_list, sz_list] at this
def OSh (n : Nat) (a0 : ByteArray) (k : Int) (s : ByteArray) (w v : Int) : Prop := opB n k s w v = true ∧ s.size ≤ 1048576 ∧ a0 = opT k s w v
abbrev ORes := Int × ByteArray × Int × Int × Bool × Unit
theorem cmp12 {n : Nat} (hn : 2000000 ≤ n) {a0 s : ByteArray} (hs : s.size ≤ 1048576) (h0 : 1 ≤ a0.size) {k w v : Int} :
    ok ((F33 n k s w v).bind fun r4 => if (!decide (r4.1.toList = a0.toList)) = true then some (((0 : Int), (⟨#[]⟩ : ByteArray), (0 : Int), (0 : Int), false, ()) : ORes) else some (k, s, w, v, true, ())) fun r => r.2.2.2.2.1 = true → OSh n a0 r.1 r.2.1 r.2.2.1 r.2.2.2.1 := by
  by_cases hr : opB n k s w v = true
  · rw [f12_ok hn hs hr]
    simp only [Option.bind_some]
    refine ok.iteb (fun _ => ok.some fun h => by cases h) (fun h2 => ok.some fun _ => ⟨hr, hs, ?_⟩)
    have h2 : (opT k s w v).toList = a0.toList := by simpa using h2
    exact (tl_eq h2).symm
  · rw [f12_no hn hs hr]
    simp only [Option.bind_some]
    refine ok.iteb (fun _ => ok.some fun h => by cases h) (fun h2 => ?_)
    exfalso
    have h2 : (⟨#[]⟩ : ByteArray).toList = a0.toList := by simpa using h2
    have := tl_eq h2
    rw [← this] at h0
    exact absurd h0 (Nat.not_succ_le_zero _)
theorem cmp12c {n : Nat} (hn : 2000000 ≤ n) {a0 s : ByteArray} {k w v : Int} (h : OSh n a0 k s w v) :
    ok ((F33 n k s w v).bind fun r4 => if (!decide (r4.1.toList = a0.toList)) = true then some (((0 : Int), (⟨#[]⟩ : ByteArray), (0 : Int), (0 : Int), false, ()) : ORes) else some (k, s, w, v, true, ())) fun r => r = (k, s, w, v, true, ()) := by
  rw [f12_ok hn h.2.1 h.1, h.2.2]
  simp only [Option.bind_some]
  exact ok.iteb (fun h => by simp at h) (fun _ => ok.some rfl)
theorem size1 {c : UInt8} {p q : ByteArray} {W : List ByteArray} {s : ByteArray} (h : (p :: q :: W).map (fun x => x.data.toList) = spC c s.data.toList) : 1 ≤ s.size := by
  by_cases e : s.data.toList = []
  · rw [e] at h
    have := congrArg List.length h
    simp [spC] at this
  · have := List.length_pos_iff.2 e
    rw [sz_list] at this
    omega
theorem t11s {n : Nat} (hn : 2000000 ≤ n) {a0 : ByteArray} (hs : a0.size ≤ 1048576) : ok (F17 n a0) fun r => r.2.2.2.2.1 = true → OSh n a0 r.1 r.2.1 r.2.2.1 r.2.2.2.1 := by
  unfold F17
  refine (t29 hs rfl).bind fun r1 q1 => ok.ite (fun h => ?_) (fun h => ?_)
  · exact cmp12 hn (by decide) (by rw [tl_eq h]; decide)
  · obtain ⟨W, u⟩ := r1
    refine ok.ite (fun _ => ok.some fun h => by cases h) (fun h3 => ?_)
    obtain ⟨p, q, r, rfl⟩ := three (W := W) h3
    have hW := words_le q1
    have h0 := size1 q1
    have hq : q.size ≤ 1048576 := by have := hW q (by simp); omega
    have hr : r.size ≤ 1048576 := by have := hW r (by simp); omega
    refine ok.guard (by decide) (ok.guard (by simp) (ok.ite (fun _ => ok.guard (by decide) (ok.guard (by simp) (ok.guard (by decide) (ok.guard (by simp) ?_)))) (fun _ => ok.guard (by decide) (ok.guard (by simp) ?_))))
    · exact (t32 (by omega)).bind fun r3 _ => cmp12 hn hq h0
    · exact (t49t (show (rdOf (⟨#[]⟩ : ByteArray) [p, q, r] (2 : Int)).size ≤ 1048576 from hr) hn).bind fun r5 _ => ok.guard (by decide) (ok.guard (by simp) (cmp12 hn hq h0))
theorem opT_1 {s : ByteArray} {w v : Int} : (opT 1 s w v).data.toList = [114, 101, 103] ++ 32 :: (s.data.toList ++ 32 :: (kw w).data.toList) := by
  unfold opT
  rw [if_pos rfl]
  simp only [ByteArray.data_append, Array.toList_append, List.append_assoc]
  rfl
theorem opT_2 {s : ByteArray} {w v : Int} : (opT 2 s w v).data.toList = [114, 101, 99] ++ 32 :: (s.data.toList ++ 32 :: (dB v).data.toList) := by
  unfold opT
  rw [if_neg (by decide), if_pos rfl]
  simp only [ByteArray.data_append, Array.toList_append, List.append_assoc]
  rfl
theorem opT_3 {s : ByteArray} {w v : Int} : opT 3 s w v = ⟨#[102, 108, 117, 115, 104]⟩ := by
  unfold opT
  rw [if_neg (by decide), if_neg (by decide)]
theorem kw_sp (w : Int) : ∀ b ∈ (kw w).data.toList, b ≠ 32 ∧ b ≠ 10 := by
  unfold kw
  split
  · decide
  · split
    · decide
    · split
      · decide
      · decide
theorem dig_sp {m : Nat} (hm : m ≤ 999999999) : ∀ b ∈ (dB (m : Int)).data.toList, b ≠ 32 ∧ b ≠ 10 := by
  intro b hb
  have := (num_text hm).1 b hb
  refine ⟨?_, ?_⟩ <;> (intro q; rw [q] at this; exact absurd this (by decide))
theorem op_words1 {s : ByteArray} {w v : Int} (hs : ∀ b ∈ s.data.toList, b ≠ 32 ∧ b ≠ 10) : spC 32 (opT 1 s w v).data.toList = [(⟨#[114, 101, 103]⟩ : ByteArray).data.toList, s.data.toList, (kw w).data.toList] := by
  rw [opT_1, spC_app _ _ (by decide), spC_app _ _ (fun b hb => (hs b hb).1), spC_one _ (fun b hb => (kw_sp w b hb).1)]
theorem op_words2 {s : ByteArray} {w : Int} {m : Nat} (hm : m ≤ 999999999) (hs : ∀ b ∈ s.data.toList, b ≠ 32 ∧ b ≠ 10) : spC 32 (opT 2 s w (m : Int)).data.toList = [(⟨#[114, 101, 99]⟩ : ByteArray).data.toList, s.data.toList, (dB (m : Int)).data.toList] := by
  rw [opT_2, spC_app _ _ (by decide), spC_app _ _ (fun b hb => (hs b hb).1), spC_one _ (fun b hb => (dig_sp hm b hb).1)]
theorem fl_words : spC 32 (⟨#[102, 108, 117, 115, 104]⟩ : ByteArray).data.toList = [(⟨#[102, 108, 117, 115, 104]⟩ : ByteArray).data.toList] := by decide
theorem rec_reg {P : Prop} (e : (⟨#[114, 101, 99]⟩ : ByteArray).toList = (⟨#[114, 101, 103]⟩ : ByteArray).toList) : P := absurd (congrArg ByteArray.data (tl_eq e)) (by decide)
theorem reg_rec {P : Prop} (e : (⟨#[114, 101, 103]⟩ : ByteArray).toList = (⟨#[114, 101, 99]⟩ : ByteArray).toList) : P := absurd (congrArg ByteArray.data (tl_eq e)) (by decide)
theorem t11c {n : Nat} (hn : 2000000 ≤ n) {a0 s : ByteArray} {k w v : Int} (h : OSh n a0 k s w v) : ok (F17 n a0) fun r => r = (k, s, w, v, true, ()) := by
  have O := oOk hn h.2.1 h.1
  have hz := opT_size O
  have hs : a0.size ≤ 1048576 := by rw [h.2.2]; omega
  unfold F17
  rcases O.one with ⟨rfl, hw, rfl⟩ | ⟨rfl, rfl, hv⟩ | ⟨rfl, rfl, rfl, rfl⟩
  · have hk := (O.key (by decide)).1
    have hwd := op_words1 (w := w) (v := 0) hk
    refine (t29 hs rfl).bind fun r1 q1 => ?_
    obtain ⟨W, u⟩ := r1
    have q1 : W.map (fun x => x.data.toList) = spC 32 a0.data.toList := q1
    rw [h.2.2, hwd] at q1
    obtain rfl := map_w3 q1
    refine ok.ite (fun e => ?_) (fun _ => ok.ite (fun e => absurd rfl e) (fun _ => ok.guard (by decide) (ok.guard (by simp) (ok.ite (fun _ => ?_) (fun e => absurd rfl e)))))
    · rw [← h.2.2, tl_eq e, fl_words] at hwd
      cases hwd
    · refine ok.guard (by decide) (ok.guard (by simp) (ok.guard (by decide) (ok.guard (by simp) ((t32 (by omega)).bind fun r3 q3 => ?_))))
      have e := q3 w hw.1 hw.2 rfl
      rw [e]
      exact cmp12c hn h
  · have hk := (O.key (by decide)).1
    obtain ⟨m, rfl⟩ := Int.eq_ofNat_of_zero_le hv.1
    have hm : m ≤ 999999999 := by omega
    have hwd := op_words2 (w := 0) hm hk
    refine (t29 hs rfl).bind fun r1 q1 => ?_
    obtain ⟨W, u⟩ := r1
    have q1 : W.map (fun x => x.data.toList) = spC 32 a0.data.toList := q1
    rw [h.2.2, hwd] at q1
    obtain rfl := map_w3 q1
    refine ok.ite (fun e => ?_) (fun _ => ok.ite (fun e => absurd rfl e) (fun _ => ok.guard (by decide) (ok.guard (by simp) (ok.ite (fun e => ?_) (fun _ => ?_)))))
    · rw [← h.2.2, tl_eq e, fl_words] at hwd
      cases hwd
    · exact rec_reg e
    · refine ok.guard (by decide) (ok.guard (by simp) ?_)
      rw [show F16 n (rdOf (⟨#[]⟩ : ByteArray) (([⟨#[114, 101, 99]⟩, s, dB (m : Int)] : List ByteArray), u).1 (2 : Int)) = some ((m : Int), true, ()) from t16 hn hm]
      simp only [Option.bind_some]
      exact ok.guard (by decide) (ok.guard (by simp) (cmp12c hn h))
  · refine (t29 hs rfl).bind fun r1 q1 => ok.ite (fun e => cmp12c hn h) (fun e => ?_)
    exact absurd (by rw [h.2.2, opT_3]) e
/-- The reference. -/
theorem cmp47 {n : Nat} (hn : 2000000 ≤ n) {a0 s s2 : ByteArray} (hs : s.size ≤ 1048576) {k w v x1 x3 x4 : Int} : ok (j10_1 n a0 x1 s2 x3 x4 k s w v) fun r => r.2.2.2.2.1 = true → OSh n a0 r.1 r.2.1 r.2.2.1 r.2.2.2.1 := by
  unfold j10_1
  refine ok.ite (fun _ => ok.some fun h => by cases h) (fun h0 => ?_)
  by_cases hr : opB n k s w v = true
  · rw [f64_ok hn hs hr]
    simp only [Option.bind_some]
    refine ok.iteb (fun _ => ok.some fun h => by cases h) (fun h2 => ok.some fun _ => ⟨hr, hs, ?_⟩)
    have h2 : (opT k s w v).toList = a0.toList := by simpa using h2
    exact (tl_eq h2).symm
  · rw [f64_no hn hs hr]
    simp only [Option.bind_some]
    refine ok.iteb (fun _ => ok.some fun h => by cases h) (fun h2 => ?_)
    have h2 : (⟨#[]⟩ : ByteArray).toList = a0.toList := by simpa using h2
    exact absurd h2.symm h0
theorem cmp47c {n : Nat} (hn : 2000000 ≤ n) {a0 s s2 : ByteArray} {k w v x1 x3 x4 : Int} (h : OSh n a0 k s w v) : ok (j10_1 n a0 x1 s2 x3 x4 k s w v) fun r => r = (k, s, w, v, true, ()) := by
  have O := oOk hn h.2.1 h.1
  have hz := opT_size O
  unfold j10_1
  refine ok.ite (fun e => ?_) (fun _ => ?_)
  · have e := tl_eq e
    rw [h.2.2] at e
    rw [e] at hz
    exact absurd hz.2 (by decide)
  · rw [f64_ok hn h.2.1 h.1, h.2.2]
    simp only [Option.bind_some]
    exact ok.iteb (fun h => by simp at h) (fun _ => ok.some rfl)
theorem t47j {n : Nat} (hn : 2000000 ≤ n) {a0 s2 s7 : ByteArray} {i1 i3 i4 i6 i8 i9 : Int} {W : List ByteArray} (hW : ∀ x ∈ W, x.size ≤ 1048576) (h7 : s7.size ≤ 1048576) : ok (j10_0 n a0 i1 s2 i3 i4 W i6 s7 i8 i9) fun r => r.2.2.2.2.1 = true → OSh n a0 r.1 r.2.1 r.2.2.1 r.2.2.2.1 := by
  unfold j10_0
  refine ok.ite (fun h3 => ?_) (fun _ => cmp47 hn h7)
  obtain ⟨p, q, r, rfl⟩ := three (fun h => h h3)
  have hq := hW q (by simp)
  have hr := hW r (by simp)
  refine ok.guard (by decide) (ok.guard (by simp) (ok.ite (fun _ => ok.guard (by decide) (ok.guard (by simp) ?_)) (fun _ => cmp47 hn h7)))
  exact (t56t (show (rdOf (⟨#[]⟩ : ByteArray) [p, q, r] (2 : Int)).size ≤ 1048576 from hr) hn).bind fun r5 _ => ok.guard (by decide) (ok.guard (by simp) (cmp47 hn hq))
theorem t47s {n : Nat} (hn : 2000000 ≤ n) {a0 : ByteArray} (hs : a0.size ≤ 1048576) : ok (F10 n a0) fun r => r.2.2.2.2.1 = true → OSh n a0 r.1 r.2.1 r.2.2.1 r.2.2.2.1 := by
  unfold F10
  refine (t46c (c := 32) hs hn rfl).bind fun r1 q1 => ?_
  obtain ⟨W, u⟩ := r1
  have hW : ∀ x ∈ W, x.size ≤ 1048576 := fun x hx => by have := words_le q1 x hx; omega
  refine ok.ite (fun h3 => ?_) (fun _ => t47j hn hW (by decide))
  obtain ⟨p, q, r, rfl⟩ := three (W := W) (fun h => h h3)
  have hq := hW q (by simp)
  refine ok.guard (by decide) (ok.guard (by simp) (ok.ite (fun _ => ok.guard (by decide) (ok.guard (by simp) (ok.guard (by decide) (ok.guard (by simp) ?_)))) (fun _ => t47j hn hW (by decide))))
  exact (t24 (by omega)).bind fun r2 _ => t47j hn hW hq
theorem t47c {n : Nat} (hn : 2000000 ≤ n) {a0 s : ByteArray} {k w v : Int} (h : OSh n a0 k s w v) : ok (F10 n a0) fun r => r = (k, s, w, v, true, ()) := by
  have O := oOk hn h.2.1 h.1
  have hz := opT_size O
  have hs : a0.size ≤ 1048576 := by rw [h.2.2]; omega
  unfold F10
  rcases O.one with ⟨rfl, hw, rfl⟩ | ⟨rfl, rfl, hv⟩ | ⟨rfl, rfl, rfl, rfl⟩
  · have hk := (O.key (by decide)).1
    have hwd := op_words1 (w := w) (v := 0) hk
    refine (t46c (c := 32) hs hn rfl).bind fun r1 q1 => ?_
    obtain ⟨W, u⟩ := r1
    have q1 : W.map (fun x => x.data.toList) = spC 32 a0.data.toList := q1
    rw [h.2.2, hwd] at q1
    obtain rfl := map_w3 q1
    refine ok.ite (fun _ => ok.guard (by decide) (ok.guard (by simp) (ok.ite (fun _ => ?_) (fun e => absurd rfl e)))) (fun e => absurd rfl e)
    refine ok.guard (by decide) (ok.guard (by simp) (ok.guard (by decide) (ok.guard (by simp) ((t24 (by omega)).bind fun r3 q3 => ?_))))
    have e := q3 w hw.1 hw.2 rfl
    rw [e]
    unfold j10_0
    refine ok.ite (fun _ => ok.guard (by decide) (ok.guard (by simp) (ok.ite (fun e => ?_) (fun _ => cmp47c hn h)))) (fun e => absurd rfl e)
    exact reg_rec e
  · have hk := (O.key (by decide)).1
    obtain ⟨m, rfl⟩ := Int.eq_ofNat_of_zero_le hv.1
    have hm : m ≤ 999999999 := by omega
    have hwd := op_words2 (w := 0) hm hk
    refine (t46c (c := 32) hs hn rfl).bind fun r1 q1 => ?_
    obtain ⟨W, u⟩ := r1
    have q1 : W.map (fun x => x.data.toList) = spC 32 a0.data.toList := q1
    rw [h.2.2, hwd] at q1
    obtain rfl := map_w3 q1
    refine ok.ite (fun _ => ok.guard (by decide) (ok.guard (by simp) (ok.ite (fun e => ?_) (fun _ => ?_)))) (fun e => absurd rfl e)
    · exact rec_reg e
    · unfold j10_0
      refine ok.ite (fun _ => ok.guard (by decide) (ok.guard (by simp) (ok.ite (fun _ => ok.guard (by decide) (ok.guard (by simp) ?_)) (fun e => absurd rfl e)))) (fun e => absurd rfl e)
      rw [show F25 n (rdOf (⟨#[]⟩ : ByteArray) (([⟨#[114, 101, 99]⟩, s, dB (m : Int)] : List ByteArray), u).1 (2 : Int)) = some ((m : Int), true, ()) from t25 hn hm]
      simp only [Option.bind_some]
      exact ok.guard (by decide) (ok.guard (by simp) (cmp47c hn h))
  · refine (t46c (c := 32) hs hn rfl).bind fun r1 q1 => ?_
    obtain ⟨W, u⟩ := r1
    have q1 : W.map (fun x => x.data.toList) = spC 32 a0.data.toList := q1
    rw [h.2.2, opT_3, fl_words] at q1
    obtain rfl := map_w1 q1
    refine ok.ite (fun e => absurd (show ((1 : Nat) : Int) = 3 from e) (by decide)) (fun _ => ?_)
    unfold j10_0
    exact ok.ite (fun e => absurd (show ((1 : Nat) : Int) = 3 from e) (by decide)) (fun _ => cmp47c hn h)
end Go.Eva
end
section
/- Todos: when they are right, and their text. -/
namespace Go.Eva
open Go.RowKit (wrap64)
set_option linter.unusedVariables false
set_option linter.unusedSimpArgs false

theorem ok.run {α β : Type} {x : Option α} {a : α} {f : α → Option β} {R : β → Prop} (h : x = Option.some a) (k : ok (f a) R) : ok (x.bind f) R := by rw [h]; exact k
abbrev Td := List (List Op4)
def gd (n : Nat) (i : Int) (o : Op4) : Prop := opB n o.1 o.2.1 o.2.2.1 o.2.2.2 = true ∧ (o.1 = 3 ↔ i = 3)
def TSz (T : Td) : Prop := ∀ l ∈ T, ∀ o ∈ l, o.2.1.size ≤ 1048576
def rowOk (n : Nat) (i : Int) (l : List Op4) : Prop := l.length ≤ 10 ∧ ∀ o ∈ l, gd n i o
def TOk (n : Nat) (T : Td) : Prop := T.length = 4 ∧ ∀ (i : Nat) (h : i < T.length), rowOk n (i : Int) T[i]
theorem beq_iff3 {a b : Int} : (!((decide (a = 3)) == (decide (b = 3)))) = true ↔ ¬ (a = 3 ↔ b = 3) := by
  by_cases h1 : a = 3 <;> by_cases h2 : b = 3 <;> simp [h1, h2]
theorem step3 {n : Nat} {i : Int} {l : List Op4} {j : Nat} (hj : j < l.length) (hp : ∀ j' (h : j' < l.length), j' < j → gd n i l[j']) (g : gd n i l[j]) : ∀ j' (h : j' < l.length), j' < j + 1 → gd n i l[j'] := by
  intro j' h h2
  by_cases e : j' = j
  · subst e; exact g
  · exact hp j' h (by omega)
theorem t19_1 {n : Nat} (hn : 2000000 ≤ n) {Q : Bool × Unit → Prop} {g0 : Td → Int → Int → Option (Bool × Unit)} {T : Td} {i N : Int} {l : List Op4} (hl : l.length ≤ 10) (hs : ∀ o ∈ l, o.2.1.size ≤ 1048576)
    (hy : (∀ o ∈ l, gd n i o) → ok (g0 T N (wrap64 (i + 1))) Q) (hno : ∀ o ∈ l, ¬ gd n i o → Q (false, ())) :
    ∀ (k j : Nat), j ≤ l.length → l.length - j < k → (∀ j' (h : j' < l.length), j' < j → gd n i l[j']) → ok (lp19_1 n g0 k i T N i l (l.length : Int) (j : Int)) Q
  | 0, j, h, hk, hp => by omega
  | k + 1, j, h, hk, hp => by
    show ok (st19_1 n g0 (lp19_1 n g0 k) i T N i l (l.length : Int) (j : Int)) Q
    unfold st19_1
    refine ok.ite (fun h1 => ok.guard (by omega) (ok.guard h1 ?_)) (fun h1 => hy fun o ho => ?_)
    · have hj : j < l.length := by omega
      rw [rdOf_nat hj, wb j l.length (by omega) (by omega)]
      have hm := List.getElem_mem hj
      refine ok.run (f31o hn (hs _ hm)) (ok.iteb (fun h2 => ok.some (hno _ hm fun g => ?_)) (fun h2 => ok.iteb (fun h3 => ok.some (hno _ hm fun g => ?_)) (fun h3 => ?_)))
      · have h2 : (!(opB n l[j].1 l[j].2.1 l[j].2.2.1 l[j].2.2.2)) = true := h2
        rw [g.1] at h2; cases h2
      · exact beq_iff3.1 h3 g.2
      · refine t19_1 hn hl hs hy hno k (j + 1) (by omega) (by omega) (step3 hj hp ⟨by simpa using h2, ?_⟩)
        by_cases q : (l[j].1 = 3 ↔ i = 3)
        · exact q
        · rw [beq_iff3.2 q] at h3; cases h3
    · obtain ⟨j', h', rfl⟩ := List.getElem_of_mem ho
      exact hp j' h' (by omega)
theorem rowOk_iff {n : Nat} {T : Td} {i : Nat} (h : ∀ i' (h : i' < T.length), i' < i → rowOk n (i' : Int) T[i']) (hi : i < T.length) (g : rowOk n (i : Int) T[i]) : ∀ i' (h : i' < T.length), i' < i + 1 → rowOk n (i' : Int) T[i'] := by
  intro i' h' h2
  by_cases e : i' = i
  · subst e; exact g
  · exact h i' h' (by omega)
theorem t19_0 {n : Nat} (hn : 2000000 ≤ n) {T : Td} (hT : T.length = 4) (hs : TSz T) : ∀ (k i : Nat), i ≤ T.length → T.length - i < k → (∀ i' (h : i' < T.length), i' < i → rowOk n (i' : Int) T[i']) → ok (lp19_0 n k T (T.length : Int) (i : Int)) fun r => r.1 = true ↔ TOk n T
  | 0, i, h, hk, hp => by omega
  | k + 1, i, h, hk, hp => by
    show ok (st19_0 n (lp19_1 n (lp19_0 n k) n) (lp19_0 n k) T (T.length : Int) (i : Int)) _
    unfold st19_0
    refine ok.ite (fun h1 => ok.guard (by omega) (ok.guard h1 ?_)) (fun h1 => ok.some ⟨fun _ => ⟨hT, fun i' h' => hp i' h' (by omega)⟩, fun _ => rfl⟩)
    have hi : i < T.length := by omega
    rw [rdOf_nat hi]
    refine ok.ite (fun h2 => ok.some ⟨fun e => (by cases e), fun t => ?_⟩) (fun h2 => ?_)
    · have := (t.2 i hi).1; omega
    · refine t19_1 hn (by omega) (hs _ (List.getElem_mem hi)) (fun hy => ?_) (fun o ho g => ⟨fun e => (by cases e), fun t => absurd ((t.2 i hi).2 o ho) g⟩) n 0 (by omega) (by omega) (fun j' _ h => by omega)
      rw [wb i T.length (by omega) (by omega)]
      exact t19_0 hn hT hs k (i + 1) (by omega) (by omega) (rowOk_iff hp hi ⟨by omega, hy⟩)
theorem t19 {n : Nat} (hn : 2000000 ≤ n) {T : Td} (hs : TSz T) : ok (F19 n T) fun r => r.1 = true ↔ TOk n T := by
  unfold F19 st19
  refine ok.ite (fun h => ok.some ⟨fun e => (by cases e), fun t => ?_⟩) (fun h => ?_)
  · have := t.1; omega
  · exact t19_0 hn (by omega) hs n 0 (by omega) (by omega) (fun i' _ h => by omega)
/-- The reference. -/
theorem t12_1 {n : Nat} (hn : 2000000 ≤ n) {Q : Bool × Unit → Prop} {g0 : Td → Int → Option (Bool × Unit)} {T : Td} {i : Nat} (hi : i < T.length) (hl : T[i].length ≤ 10) (hs : ∀ o ∈ T[i], o.2.1.size ≤ 1048576)
    (hy : (∀ o ∈ T[i], gd n i o) → ok (g0 T (wrap64 ((i : Int) + 1))) Q) (hno : ∀ o ∈ T[i], ¬ gd n i o → Q (false, ())) :
    ∀ (k j : Nat), j ≤ T[i].length → T[i].length - j < k → (∀ j' (h : j' < T[i].length), j' < j → gd n i T[i][j']) → ok (lp12_1 n g0 k T (i : Int) (j : Int)) Q
  | 0, j, h, hk, hp => by omega
  | k + 1, j, h, hk, hp => by
    show ok (st12_1 n g0 (lp12_1 n g0 k) T (i : Int) (j : Int)) Q
    unfold st12_1
    rw [rdOf_nat hi]
    refine ok.guard (by omega) (ok.guard (by omega) (ok.ite (fun h1 => ok.guard (by omega) (ok.guard (by omega) (ok.guard (by omega) (ok.guard h1 ?_)))) (fun h1 => hy fun o ho => ?_)))
    · have hj : j < T[i].length := by omega
      rw [rdOf_nat hj, wb j T[i].length (by omega) (by omega)]
      have hm := List.getElem_mem hj
      refine ok.run (f27 hn (hs _ hm)) (ok.iteb (fun h2 => ok.some (hno _ hm fun g => ?_)) (fun h2 => ok.iteb (fun h3 => ok.some (hno _ hm fun g => ?_)) (fun h3 => ?_)))
      · have h2 : (!(opB n T[i][j].1 T[i][j].2.1 T[i][j].2.2.1 T[i][j].2.2.2)) = true := h2
        rw [g.1] at h2; cases h2
      · exact beq_iff3.1 h3 g.2
      · refine t12_1 hn hi hl hs hy hno k (j + 1) (by omega) (by omega) (step3 hj hp ⟨by simpa using h2, ?_⟩)
        by_cases q : (T[i][j].1 = 3 ↔ (i : Int) = 3)
        · exact q
        · rw [beq_iff3.2 q] at h3; cases h3
    · obtain ⟨j', h', rfl⟩ := List.getElem_of_mem ho
      exact hp j' h' (by omega)
theorem t12_0 {n : Nat} (hn : 2000000 ≤ n) {T : Td} (hT : T.length ≤ 1000) (hs : TSz T) : ∀ (k i : Nat), i ≤ T.length → T.length - i < k → (∀ i' (h : i' < T.length), i' < i → rowOk n (i' : Int) T[i']) → ok (lp12_0 n k T (i : Int)) fun r => r.1 = true ↔ TOk n T
  | 0, i, h, hk, hp => by omega
  | k + 1, i, h, hk, hp => by
    show ok (st12_0 n (lp12_1 n (lp12_0 n k) n) (lp12_0 n k) T (i : Int)) _
    unfold st12_0
    refine ok.ite (fun h1 => ok.guard (by omega) (ok.guard h1 ?_)) (fun h1 => ok.some ⟨fun e => ⟨?_, fun i' h' => hp i' h' (by omega)⟩, fun t => ?_⟩)
    · have hi : i < T.length := by omega
      rw [rdOf_nat hi]
      refine ok.ite (fun h2 => ok.some ⟨fun e => (by cases e), fun t => ?_⟩) (fun h2 => ?_)
      · have := (t.2 i hi).1; omega
      · refine t12_1 hn hi (by omega) (hs _ (List.getElem_mem hi)) (fun hy => ?_) (fun o ho g => ⟨fun e => (by cases e), fun t => absurd ((t.2 i hi).2 o ho) g⟩) n 0 (by omega) (by omega) (fun j' _ h => by omega)
        rw [wb i T.length (by omega) (by omega)]
        exact t12_0 hn hT hs k (i + 1) (by omega) (by omega) (rowOk_iff hp hi ⟨by omega, hy⟩)
    · have e : decide ((T.length : Int) = 4) = true := e
      have := of_decide_eq_true e
      omega
    · have := t.1
      exact decide_eq_true (by omega)
theorem t12 {n : Nat} (hn : 2000000 ≤ n) {T : Td} (hT : T.length ≤ 1000) (hs : TSz T) : ok (F12 n T) fun r => r.1 = true ↔ TOk n T := by
  unfold F12 st12
  exact t12_0 hn hT hs n 0 (by omega) (by omega) (fun i' _ h => by omega)
/-- The text of a todo. -/
def opX (o : Op4) : ByteArray := opT o.1 o.2.1 o.2.2.1 o.2.2.2
def lnB (i : Int) (o : Op4) : ByteArray := (dB i ++ (⟨#[32]⟩ : ByteArray)) ++ opX o
def tdL : Nat → Td → List ByteArray
  | _, [] => []
  | i, l :: T => l.map (lnB (i : Int)) ++ tdL (i + 1) T
def flat (L : List ByteArray) : List UInt8 := (L.map fun x => x.data.toList ++ [10]).flatten
theorem flat_app (A B : List ByteArray) : flat (A ++ B) = flat A ++ flat B := by simp [flat]
theorem flat_snoc (A : List ByteArray) (x : ByteArray) : flat (A ++ [x]) = flat A ++ (x.data.toList ++ [10]) := by simp [flat]
theorem tdL_drop {T : Td} {i : Nat} (h : i < T.length) : tdL i (T.drop i) = T[i].map (lnB (i : Int)) ++ tdL (i + 1) (T.drop (i + 1)) := by
  rw [List.drop_eq_getElem_cons h]; rfl
theorem lnB_size {i : Nat} (hi : i ≤ 9) {o : Op4} {n : Nat} (hn : 2000000 ≤ n) (h : opB n o.1 o.2.1 o.2.2.1 o.2.2.2 = true) (hs : o.2.1.size ≤ 1048576) : (lnB (i : Int) o).size ≤ 62 := by
  have := opT_size (oOk hn hs h)
  have hd := dB_size (i := (i : Int)) (by omega) (by omega)
  unfold lnB opX
  simp only [ByteArray.size_append]
  have e1 : (⟨#[32]⟩ : ByteArray).size = 1 := rfl
  omega
theorem size_list {s : ByteArray} {L : List UInt8} (h : s.data.toList = L) : s.size = L.length := by rw [← h, sz_list]
theorem list_app (a b : ByteArray) : (a ++ b).data.toList = a.data.toList ++ b.data.toList := by rw [ByteArray.data_append, Array.toList_append]
theorem t20_1 {n : Nat} (hn : 2000000 ≤ n) {Q : ByteArray × Unit → Prop} {g0 : ByteArray → Td → Int → Int → Option (ByteArray × Unit)} {T : Td} {i : Nat} (hi : i ≤ 9) {N : Int} {l : List Op4} (hl : rowOk n (i : Int) l) (hs : ∀ o ∈ l, o.2.1.size ≤ 1048576) {s : ByteArray} (hz : s.size ≤ 100000)
    (hy : ∀ x : ByteArray, x.size ≤ s.size + 630 → x.data.toList = s.data.toList ++ flat (l.map (lnB (i : Int))) → ok (g0 x T N (wrap64 ((i : Int) + 1))) Q) :
    ∀ (k j : Nat) (x : ByteArray), j ≤ l.length → l.length - j < k → x.size ≤ s.size + 63 * j → x.data.toList = s.data.toList ++ flat ((l.take j).map (lnB (i : Int))) → ok (lp20_1 n g0 k x (i : Int) T N (i : Int) l (l.length : Int) (j : Int)) Q
  | 0, j, x, h, hk, hx, hp => by omega
  | k + 1, j, x, h, hk, hx, hp => by
    have h10 := hl.1
    show ok (st20_1 n g0 (lp20_1 n g0 k) x (i : Int) T N (i : Int) l (l.length : Int) (j : Int)) Q
    unfold st20_1
    refine ok.ite (fun h1 => ok.guard (by omega) (ok.guard h1 ?_)) (fun h1 => hy x (by omega) ?_)
    · have hj : j < l.length := by omega
      rw [rdOf_nat hj, wb j l.length (by omega) (by omega)]
      have hm := List.getElem_mem hj
      have hg := (hl.2 _ hm).1
      have hsz := lnB_size hi hn hg (hs _ hm)
      have e1 : (⟨#[32]⟩ : ByteArray).size = 1 := rfl
      have e2 : (⟨#[10]⟩ : ByteArray).size = 1 := rfl
      have hu : (dB (i : Int)).size + 1 + (opX l[j]).size ≤ 62 := by
        unfold lnB at hsz
        simp only [ByteArray.size_append, e1] at hsz
        exact hsz
      refine ok.run (t31 (by omega) (by omega)) (ok.guard ?_ (ok.run (f12_ok hn (hs _ hm) hg) ?_))
      · show (dB (i : Int)).size + (⟨#[32]⟩ : ByteArray).size ≤ 9223372036854775807
        omega
      · refine ok.guard ?_ (ok.guard ?_ (ok.guard ?_ ?_))
        · show ((dB (i : Int)) ++ (⟨#[32]⟩ : ByteArray)).size + (opX l[j]).size ≤ 9223372036854775807
          rw [ByteArray.size_append]
          omega
        · show (lnB (i : Int) l[j]).size + (⟨#[10]⟩ : ByteArray).size ≤ 9223372036854775807
          omega
        · show x.size + (lnB (i : Int) l[j] ++ (⟨#[10]⟩ : ByteArray)).size ≤ 9223372036854775807
          rw [ByteArray.size_append]
          omega
        · refine t20_1 hn hi hl hs hz hy k (j + 1) (x ++ (lnB (i : Int) l[j] ++ (⟨#[10]⟩ : ByteArray))) (by omega) (by omega) ?_ ?_
          · rw [ByteArray.size_append, ByteArray.size_append]
            omega
          · rw [list_app, list_app, hp, List.take_succ_eq_append_getElem hj, List.map_append, List.map_cons, List.map_nil, flat_snoc, List.append_assoc]
    · rw [hp, List.take_of_length_le (by omega)]
theorem t20_0 {n : Nat} (hn : 2000000 ≤ n) {T : Td} (hT : TOk n T) (hs : TSz T) : ∀ (k i : Nat) (x : ByteArray), i ≤ T.length → T.length - i < k → x.size ≤ 630 * i → x.data.toList ++ flat (tdL i (T.drop i)) = flat (tdL 0 T) → ok (lp20_0 n k x T (T.length : Int) (i : Int)) fun r => r.1.data.toList = flat (tdL 0 T) ∧ r.1.size ≤ 3000
  | 0, i, x, h, hk, hx, hp => by omega
  | k + 1, i, x, h, hk, hx, hp => by
    have h4 := hT.1
    show ok (st20_0 n (lp20_1 n (lp20_0 n k) n) (lp20_0 n k) x T (T.length : Int) (i : Int)) _
    unfold st20_0
    refine ok.ite (fun h1 => ok.guard (by omega) (ok.guard h1 ?_)) (fun h1 => ok.some ⟨?_, by show x.size ≤ 3000; omega⟩)
    · have hi : i < T.length := by omega
      rw [rdOf_nat hi]
      refine t20_1 hn (by omega) (hT.2 i hi) (hs _ (List.getElem_mem hi)) (s := x) (by omega) (fun y hy1 hy2 => ?_) n 0 x (by omega) (by have := (hT.2 i hi).1; omega) (by omega) (by simp [flat])
      rw [wb i T.length (by omega) (by omega)]
      refine t20_0 hn hT hs k (i + 1) y (by omega) (by omega) (by omega) ?_
      rw [hy2, ← hp, tdL_drop hi, flat_app, List.append_assoc]
    · rw [← hp, List.drop_eq_nil_of_le (by omega)]
      simp [tdL, flat]
theorem t20 {n : Nat} (hn : 2000000 ≤ n) {T : Td} (hT : TOk n T) (hs : TSz T) : ok (F20 n T) fun r => r.1.data.toList = flat (tdL 0 T) ∧ r.1.size ≤ 3000 := by
  unfold F20 st20
  refine (t19 hn hs).bind fun r1 q1 => ok.iteb (fun h => ?_) (fun h => ?_)
  · rw [q1.2 hT] at h; cases h
  · exact t20_0 hn hT hs n 0 ⟨#[]⟩ (by omega) (by have := hT.1; omega) (by decide) rfl
theorem t16n {n : Nat} (hn : 2000000 ≤ n) {T : Td} (hT : ¬ TOk n T) (hs : TSz T) : ok (F20 n T) fun r => r = (⟨#[]⟩, ()) := by
  unfold F20 st20
  refine (t19 hn hs).bind fun r1 q1 => ok.iteb (fun h => ok.some rfl) (fun h => ?_)
  exact absurd (q1.1 (by simpa using h)) hT
theorem t13_1 {n : Nat} (hn : 2000000 ≤ n) {Q : ByteArray × Unit → Prop} {g0 : Td → ByteArray → Int → Option (ByteArray × Unit)} {T : Td} {i : Nat} (hiT : i < T.length) (hi : i ≤ 9) (hl : rowOk n (i : Int) T[i]) (hs : ∀ o ∈ T[i], o.2.1.size ≤ 1048576) {s : ByteArray} (hz : s.size ≤ 100000)
    (hy : ∀ x : ByteArray, x.size ≤ s.size + 630 → x.data.toList = s.data.toList ++ flat (T[i].map (lnB (i : Int))) → ok (g0 T x (wrap64 ((i : Int) + 1))) Q) :
    ∀ (k j : Nat) (x : ByteArray), j ≤ T[i].length → T[i].length - j < k → x.size ≤ s.size + 63 * j → x.data.toList = s.data.toList ++ flat ((T[i].take j).map (lnB (i : Int))) → ok (lp13_1 n g0 k T x (i : Int) (j : Int)) Q
  | 0, j, x, h, hk, hx, hp => by omega
  | k + 1, j, x, h, hk, hx, hp => by
    have h10 := hl.1
    show ok (st13_1 n g0 (lp13_1 n g0 k) T x (i : Int) (j : Int)) Q
    unfold st13_1
    rw [rdOf_nat hiT]
    refine ok.guard (by omega) (ok.guard (by omega) (ok.ite (fun h1 => ?_) (fun h1 => hy x (by omega) ?_)))
    · have hj : j < T[i].length := by omega
      rw [rdOf_nat hj, wb j T[i].length (by omega) (by omega)]
      have hm := List.getElem_mem hj
      have hg := (hl.2 _ hm).1
      have hsz := lnB_size hi hn hg (hs _ hm)
      have e1 : (⟨#[32]⟩ : ByteArray).size = 1 := rfl
      have e2 : (⟨#[10]⟩ : ByteArray).size = 1 := rfl
      have hu : (dB (i : Int)).size + 1 + (opX T[i][j]).size ≤ 62 := by
        unfold lnB at hsz
        simp only [ByteArray.size_append, e1] at hsz
        exact hsz
      refine ok.run (t28 (by omega) (by omega)) (ok.guard ?_ (ok.guard ?_ (ok.guard (by omega) (ok.guard (by omega) (ok.guard (by omega) (ok.guard h1 (ok.run (f64_ok hn (hs _ hm) hg) (ok.guard ?_ (ok.guard ?_ ?_)))))))))
      · show x.size + (dB (i : Int)).size ≤ 9223372036854775807
        omega
      · show (x ++ dB (i : Int)).size + (⟨#[32]⟩ : ByteArray).size ≤ 9223372036854775807
        rw [ByteArray.size_append]
        omega
      · show ((x ++ dB (i : Int)) ++ (⟨#[32]⟩ : ByteArray)).size + (opX T[i][j]).size ≤ 9223372036854775807
        rw [ByteArray.size_append, ByteArray.size_append]
        omega
      · show (((x ++ dB (i : Int)) ++ (⟨#[32]⟩ : ByteArray)) ++ opX T[i][j]).size + (⟨#[10]⟩ : ByteArray).size ≤ 9223372036854775807
        rw [ByteArray.size_append, ByteArray.size_append, ByteArray.size_append]
        omega
      · refine t13_1 hn hiT hi hl hs hz hy k (j + 1) ((((x ++ dB (i : Int)) ++ (⟨#[32]⟩ : ByteArray)) ++ opX T[i][j]) ++ (⟨#[10]⟩ : ByteArray)) (by omega) (by omega) ?_ ?_
        · rw [ByteArray.size_append, ByteArray.size_append, ByteArray.size_append, ByteArray.size_append]
          omega
        · rw [list_app, list_app, list_app, list_app, hp, List.take_succ_eq_append_getElem hj, List.map_append, List.map_cons, List.map_nil, flat_snoc]
          unfold lnB
          rw [list_app, list_app]
          simp only [List.append_assoc]
    · rw [hp, List.take_of_length_le (by omega)]
theorem t13_0 {n : Nat} (hn : 2000000 ≤ n) {T : Td} (hT : TOk n T) (hs : TSz T) : ∀ (k i : Nat) (x : ByteArray), i ≤ T.length → T.length - i < k → x.size ≤ 630 * i → x.data.toList ++ flat (tdL i (T.drop i)) = flat (tdL 0 T) → ok (lp13_0 n k T x (i : Int)) fun r => r.1.data.toList = flat (tdL 0 T) ∧ r.1.size ≤ 3000
  | 0, i, x, h, hk, hx, hp => by omega
  | k + 1, i, x, h, hk, hx, hp => by
    have h4 := hT.1
    show ok (st13_0 n (lp13_1 n (lp13_0 n k) n) (lp13_0 n k) T x (i : Int)) _
    unfold st13_0
    refine ok.ite (fun h1 => (t12 hn (by omega) hs).bind fun r1 q1 => ok.iteb (fun _ => ?_) (fun h2 => ?_)) (fun h1 => ok.some ⟨?_, by show x.size ≤ 3000; omega⟩)
    · have hi : i < T.length := by omega
      refine t13_1 hn hi (by omega) (hT.2 i hi) (hs _ (List.getElem_mem hi)) (s := x) (by omega) (fun y hy1 hy2 => ?_) n 0 x (by omega) (by have := (hT.2 i hi).1; omega) (by omega) (by simp [flat])
      rw [wb i T.length (by omega) (by omega)]
      refine t13_0 hn hT hs k (i + 1) y (by omega) (by omega) (by omega) ?_
      rw [hy2, ← hp, tdL_drop hi, flat_app, List.append_assoc]
    · rw [q1.2 hT] at h2; cases h2
    · rw [← hp, List.drop_eq_nil_of_le (by omega)]
      simp [tdL, flat]
theorem t13 {n : Nat} (hn : 2000000 ≤ n) {T : Td} (hT : TOk n T) (hs : TSz T) : ok (F13 n T) fun r => r.1.data.toList = flat (tdL 0 T) ∧ r.1.size ≤ 3000 := by
  unfold F13 st13
  exact t13_0 hn hT hs n 0 ⟨#[]⟩ (by omega) (by have := hT.1; omega) (by decide) rfl
end Go.Eva
end
section
/- Todos read from texts. -/
namespace Go.Eva
open Go.RowKit (wrap64)
set_option linter.unusedVariables false
set_option linter.unusedSimpArgs false

theorem cut_len (L S : List UInt8) : (Go.Lib.cut L S).1.length ≤ L.length ∧ (Go.Lib.cut L S).2.1.length ≤ L.length := by
  unfold Go.Lib.cut
  split
  · simp only [List.length_take, List.length_drop]; omega
  · simp
def neB (x : ByteArray) : Bool := !decide (x.toList = (⟨#[]⟩ : ByteArray).toList)
theorem spC_cnt {c : UInt8} : ∀ L : List UInt8, (spC c L).length ≤ L.length + 1
  | [] => by simp [spC]
  | b :: bs => by
    have ih := spC_cnt (c := c) bs
    rw [spC]
    split
    · simp only [List.length_cons]; omega
    · split
      · simp
      · rename_i w ws e
        rw [e] at ih
        simp only [List.length_cons] at ih ⊢
        omega
theorem words_cnt {c : UInt8} {W : List ByteArray} {s : ByteArray} (h : W.map (fun x => x.data.toList) = spC c s.data.toList) : W.length ≤ s.size + 1 := by
  have := congrArg List.length h
  rw [List.length_map] at this
  have h2 := spC_cnt (c := c) s.data.toList
  rw [sz_list] at h2
  omega
theorem t14_0 {n : Nat} {W : List ByteArray} (hW : W.length ≤ 1048577) : ∀ (k i : Nat) (out : List ByteArray), i ≤ W.length → W.length - i < k → out.length ≤ i → ok (lp14_0 n k (W.length : Int) (i : Int) out W) fun r => r.1 = out ++ (W.drop i).filter neB
  | 0, i, out, h, hk, ho => by omega
  | k + 1, i, out, h, hk, ho => by
    show ok (st14_0 n (lp14_0 n k) (W.length : Int) (i : Int) out W) _
    unfold st14_0
    refine ok.ite (fun h1 => ok.guard (by omega) (ok.guard h1 ?_)) (fun h1 => ok.some ?_)
    · have hi : i < W.length := by omega
      rw [rdOf_nat hi, w1 (n := 1048578) (by omega) (by omega)]
      have hd : W.drop i = W[i] :: W.drop (i + 1) := List.drop_eq_getElem_cons hi
      refine ok.iteb (fun h2 => ok.guard (by simp only [List.length_cons, List.length_nil]; omega) ?_) (fun h2 => ?_)
      · refine (t14_0 hW k (i + 1) _ (by omega) (by omega) (by simp only [List.length_append, List.length_cons, List.length_nil]; omega)).mono fun r q => ?_
        rw [q, hd, List.filter_cons, if_pos (show neB W[i] = true from h2), List.append_assoc]
        rfl
      · refine (t14_0 hW k (i + 1) out (by omega) (by omega) (by omega)).mono fun r q => ?_
        rw [q, hd, List.filter_cons, if_neg (by rw [show neB W[i] = false from h2]; decide)]
    · show out = _
      rw [List.drop_eq_nil_of_le (by omega)]
      simp
theorem t14 {n : Nat} (hn : 2000000 ≤ n) {s : ByteArray} (hs : s.size ≤ 1048576) : ok (F14 n s) fun r => ∃ W : List ByteArray, W.map (fun x => x.data.toList) = spC 10 s.data.toList ∧ r.1 = W.filter neB := by
  unfold F14 st14
  refine (t29 hs rfl).bind fun r1 q1 => ?_
  have hc := words_cnt q1
  refine (t14_0 (W := r1.1) (by omega) n 0 [] (by omega) (by omega) (Nat.le_refl _)).mono fun r q => ⟨r1.1, q1, ?_⟩
  rw [q]; simp
theorem f15 {n : Nat} {s c : ByteArray} (hs : s.size ≤ 1048576) : F15 n s c = some (⟨(Go.Lib.cut s.data.toList c.data.toList).1.toArray⟩, ⟨(Go.Lib.cut s.data.toList c.data.toList).2.1.toArray⟩, (Go.Lib.cut s.data.toList c.data.toList).2.2, ()) := by
  unfold F15 cutF
  rw [if_pos (decide_eq_true (by omega))]
abbrev no4 : Td × Bool × Unit := (([] : Td), false, ())
def ResT (n : Nat) (s0 : ByteArray) (r : Td × Bool × Unit) : Prop := r = no4 ∨ (r.2.1 = true ∧ TOk n r.1 ∧ TSz r.1 ∧ flat (tdL 0 r.1) = s0.data.toList)
theorem put_ok {T : Td} {i j : Nat} {o : Op4} (hi : i < T.length) (hs : TSz T) (hl : ∀ l ∈ T, l.length ≤ j) (ho : o.2.1.size ≤ 1048576) : TSz (T.set i (T[i] ++ [o])) ∧ (∀ l ∈ T.set i (T[i] ++ [o]), l.length ≤ j + 1) := by
  refine ⟨fun l hm q hq => ?_, fun l hm => ?_⟩
  · rcases List.mem_or_eq_of_mem_set hm with h | rfl
    · exact hs l h q hq
    · rcases List.mem_append.1 hq with h | h
      · exact hs _ (List.getElem_mem hi) q h
      · rw [List.mem_singleton.1 h]; exact ho
  · rcases List.mem_or_eq_of_mem_set hm with h | rfl
    · have := hl l h; omega
    · have := hl _ (List.getElem_mem hi)
      simp only [List.length_append, List.length_cons, List.length_nil]; omega
theorem fin15 {n : Nat} (hn : 2000000 ≤ n) {T : Td} (hs : TSz T) {s0 : ByteArray} :
    ok ((F19 n T).bind fun r6 => if (!r6.1) = true then some no4 else (F20 n T).bind fun r7 => if (!decide (r7.1.toList = s0.toList)) = true then some no4 else some (T, true, ())) (ResT n s0) := by
  refine (t19 hn hs).bind fun r6 q6 => ok.iteb (fun _ => ok.some (.inl rfl)) (fun h6 => ?_)
  have hT := q6.1 (by simpa using h6)
  refine (t20 hn hT hs).bind fun r7 q7 => ok.iteb (fun _ => ok.some (.inl rfl)) (fun h7 => ok.some (.inr ⟨rfl, hT, hs, ?_⟩))
  have h7 : r7.1.toList = s0.toList := by simpa using h7
  rw [← tl_eq h7]
  exact q7.1.symm
theorem fin15c {n : Nat} (hn : 2000000 ≤ n) {T : Td} (hs : TSz T) (hT : TOk n T) {s0 : ByteArray} (h0 : flat (tdL 0 T) = s0.data.toList) :
    ok ((F19 n T).bind fun r6 => if (!r6.1) = true then some no4 else (F20 n T).bind fun r7 => if (!decide (r7.1.toList = s0.toList)) = true then some no4 else some (T, true, ())) fun r => r = (T, true, ()) := by
  refine (t19 hn hs).bind fun r6 q6 => ok.iteb (fun h6 => ?_) (fun h6 => ?_)
  · rw [q6.2 hT] at h6; cases h6
  · refine (t20 hn hT hs).bind fun r7 q7 => ok.iteb (fun h7 => ?_) (fun h7 => ok.some rfl)
    have e : r7.1 = s0 := ba_ext (q7.1.trans h0)
    rw [e] at h7
    simp at h7
theorem t5_0 {n : Nat} (hn : 2000000 ≤ n) {s0 : ByteArray} {W : List ByteArray} (hc : W.length ≤ 1048577) (hW : ∀ x ∈ W, x.size ≤ 1048576) : ∀ (k i : Nat) (T : Td), i ≤ W.length → W.length - i < k → T.length = 4 → (∀ l ∈ T, l.length ≤ i) → TSz T → ok (lp5_0 n k s0 (W.length : Int) (i : Int) T W) (ResT n s0)
  | 0, i, T, h, hk, h4, hl, hs => by omega
  | k + 1, i, T, h, hk, h4, hl, hs => by
    show ok (st5_0 n (lp5_0 n k) s0 (W.length : Int) (i : Int) T W) _
    unfold st5_0
    refine ok.ite (fun h1 => ok.guard (by omega) (ok.guard h1 ?_)) (fun h1 => fin15 hn hs)
    have hi : i < W.length := by omega
    rw [rdOf_nat hi, w1 (n := 1048578) (by omega) (by omega)]
    have hw := hW _ (List.getElem_mem hi)
    have hcl := cut_len W[i].data.toList (⟨#[32]⟩ : ByteArray).data.toList
    rw [sz_list] at hcl
    refine ok.run (f15 hw) ?_
    obtain ⟨C1, hC1⟩ : ∃ C, C = (⟨(Go.Lib.cut W[i].data.toList (⟨#[32]⟩ : ByteArray).data.toList).1.toArray⟩ : ByteArray) := ⟨_, rfl⟩
    obtain ⟨C2, hC2⟩ : ∃ C, C = (⟨(Go.Lib.cut W[i].data.toList (⟨#[32]⟩ : ByteArray).data.toList).2.1.toArray⟩ : ByteArray) := ⟨_, rfl⟩
    have s1 : C1.size ≤ 1048576 := by
      rw [hC1]
      show Array.size (List.toArray _) ≤ _
      rw [List.size_toArray]
      omega
    have s2 : C2.size ≤ 1048576 := by
      rw [hC2]
      show Array.size (List.toArray _) ≤ _
      rw [List.size_toArray]
      omega
    rw [← hC1, ← hC2]
    refine (t49t s1 hn).bind fun r3 _ => (t11s hn s2).bind fun r4 q4 => ok.iteb (fun _ => ok.some (.inl rfl)) (fun _ => ok.iteb (fun _ => ok.some (.inl rfl)) (fun h4' => ok.run f18 (ok.iteb (fun _ => ok.some (.inl rfl)) (fun h5 => ?_))))
    have O := q4 (by simpa using h4')
    have h5 : inr r3.1 0 3 = true := by simpa using h5
    have h5 := of_decide_eq_true h5
    obtain ⟨m, hm⟩ := Int.eq_ofNat_of_zero_le h5.1
    have hmT : m < T.length := by omega
    have hl' := hl _ (List.getElem_mem hmT)
    rw [hm, rdOf_nat hmT, Int.toNat_natCast]
    refine ok.guard (by omega) (ok.guard (by omega) (ok.guard (by simp only [List.length_cons, List.length_nil]; omega) (ok.guard (by omega) (ok.guard (by omega) (ok.guard rfl ?_)))))
    have P := put_ok (i := m) (j := i) (o := (r4.1, r4.2.1, r4.2.2.1, r4.2.2.2.1)) hmT hs hl O.2.1
    exact t5_0 hn hc hW k (i + 1) _ (by omega) (by omega) (by rw [List.length_set]; exact h4) P.2 P.1
theorem rep4 : (List.replicate (4 : Int).toNat ([] : List Op4)) = [[], [], [], []] := rfl
theorem sz4 : TSz [[], [], [], []] := fun l hl o ho => by
  simp only [List.mem_cons, List.not_mem_nil, or_false, or_self] at hl
  rw [hl] at ho
  cases ho
theorem t5 {n : Nat} (hn : 2000000 ≤ n) {s : ByteArray} (hs : s.size ≤ 1048576) : ok (F5 n s) (ResT n s) := by
  unfold F5 st5
  refine ok.guard (by decide) (ok.guard (by decide) (ok.guard (by decide) ((t14 hn hs).bind fun r1 q1 => ?_)))
  obtain ⟨W, e, q⟩ := q1
  rw [q, rep4]
  have hc := words_cnt e
  have hf : (W.filter neB).length ≤ W.length := List.length_filter_le _ _
  refine t5_0 hn (by omega) (fun x hx => ?_) n 0 _ (by omega) (by omega) rfl (fun l hl => ?_) sz4
  · have := words_le e x (List.mem_filter.1 hx).1; omega
  · simp only [List.mem_cons, List.not_mem_nil, or_false, or_self] at hl
    rw [hl]; exact Nat.le_refl _
theorem fin19 {n : Nat} (hn : 2000000 ≤ n) {T : Td} (h4 : T.length ≤ 1000) (hs : TSz T) {s0 : ByteArray} :
    ok ((F12 n T).bind fun r6 => if (!r6.1) = true then some no4 else (F13 n T).bind fun r7 => if (!decide (r7.1.toList = s0.toList)) = true then some no4 else some (T, true, ())) (ResT n s0) := by
  refine (t12 hn h4 hs).bind fun r6 q6 => ok.iteb (fun _ => ok.some (.inl rfl)) (fun h6 => ?_)
  have hT := q6.1 (by simpa using h6)
  refine (t13 hn hT hs).bind fun r7 q7 => ok.iteb (fun _ => ok.some (.inl rfl)) (fun h7 => ok.some (.inr ⟨rfl, hT, hs, ?_⟩))
  have h7 : r7.1.toList = s0.toList := by simpa using h7
  rw [← tl_eq h7]
  exact q7.1.symm
theorem fin19c {n : Nat} (hn : 2000000 ≤ n) {T : Td} (hs : TSz T) (hT : TOk n T) {s0 : ByteArray} (h0 : flat (tdL 0 T) = s0.data.toList) :
    ok ((F12 n T).bind fun r6 => if (!r6.1) = true then some no4 else (F13 n T).bind fun r7 => if (!decide (r7.1.toList = s0.toList)) = true then some no4 else some (T, true, ())) fun r => r = (T, true, ()) := by
  refine (t12 hn (by have := hT.1; omega) hs).bind fun r6 q6 => ok.iteb (fun h6 => ?_) (fun h6 => ?_)
  · rw [q6.2 hT] at h6; cases h6
  · refine (t13 hn hT hs).bind fun r7 q7 => ok.iteb (fun h7 => ?_) (fun h7 => ok.some rfl)
    have e : r7.1 = s0 := ba_ext (q7.1.trans h0)
    rw [e] at h7
    simp at h7
theorem t4_0 {n : Nat} (hn : 2000000 ≤ n) {s0 : ByteArray} {W : List ByteArray} (hc : W.length ≤ 1048577) (hW : ∀ x ∈ W, x.size ≤ 1048576) : ∀ (k i : Nat) (T : Td), i ≤ W.length → W.length - i < k → T.length = 4 → (∀ l ∈ T, l.length ≤ i) → TSz T → ok (lp4_0 n k s0 (i : Int) T W) (ResT n s0)
  | 0, i, T, h, hk, h4, hl, hs => by omega
  | k + 1, i, T, h, hk, h4, hl, hs => by
    show ok (st4_0 n (lp4_0 n k) s0 (i : Int) T W) _
    unfold st4_0
    rw [w1 (n := 1048578) (by omega) (by omega)]
    refine ok.ite (fun h1 => ok.guard (by omega) (ok.guard (by omega) ?_)) (fun h1 => fin19 hn (by omega) hs)
    have hi : i < W.length := by omega
    rw [rdOf_nat hi]
    have hw := hW _ (List.getElem_mem hi)
    obtain ⟨D, hD⟩ : ∃ D, D = wrap64 ((wrap64 (bt W[i] (0 : Int))) - 48) := ⟨_, rfl⟩
    rw [← hD]
    refine ok.ite (fun _ => ok.some (.inl rfl)) (fun h3 => ok.guard (by omega) (ok.guard (by omega) (ok.guard (by decide) (ok.guard (by omega) (ok.guard (by omega) (ok.guard (by omega) (ok.guard (by decide) (ok.guard (by omega) (ok.guard (Int.le_refl _) ?_)))))))))
    have s2 : (W[i].extract (2 : Int).toNat (W[i].size : Int).toNat).size ≤ 1048576 := by rw [ByteArray.size_extract]; omega
    refine (t47s hn s2).bind fun r4 q4 => ok.iteb (fun _ => ok.some (.inl rfl)) (fun h4' => ok.run f11 (ok.iteb (fun _ => ok.some (.inl rfl)) (fun h5 => ?_)))
    have O := q4 (by simpa using h4')
    have h5 : inr D 0 3 = true := by simpa using h5
    have h5 := of_decide_eq_true h5
    obtain ⟨m, hm⟩ := Int.eq_ofNat_of_zero_le h5.1
    have hmT : m < T.length := by omega
    have hl' := hl _ (List.getElem_mem hmT)
    rw [hm, rdOf_nat hmT, Int.toNat_natCast]
    refine ok.guard (by omega) (ok.guard (by omega) (ok.guard (by simp only [List.length_cons, List.length_nil]; omega) (ok.guard (by omega) (ok.guard (by omega) (ok.guard rfl ?_)))))
    have P := put_ok (i := m) (j := i) (o := (r4.1, r4.2.1, r4.2.2.1, r4.2.2.2.1)) hmT hs hl O.2.1
    exact t4_0 hn hc hW k (i + 1) _ (by omega) (by omega) (by rw [List.length_set]; exact h4) P.2 P.1
theorem t4 {n : Nat} (hn : 2000000 ≤ n) {s : ByteArray} (hs : s.size ≤ 1048576) : ok (F4 n s) (ResT n s) := by
  unfold F4 st4
  refine ok.guard (by decide) (ok.guard (by decide) (ok.guard (by decide) ((t46c (c := 10) hs hn rfl).bind fun r1 q1 => ?_)))
  rw [rep4]
  have hc := words_cnt q1
  refine t4_0 hn (by omega) (fun x hx => ?_) n 0 _ (by omega) (by omega) rfl (fun l hl => ?_) sz4
  · have := words_le q1 x hx; omega
  · simp only [List.mem_cons, List.not_mem_nil, or_false, or_self] at hl
    rw [hl]; exact Nat.le_refl _
end Go.Eva
end
section
/- A todo's text is read as that todo. -/
namespace Go.Eva
open Go.RowKit (wrap64)
set_option linter.unusedVariables false
set_option linter.unusedSimpArgs false

def prs : Nat → Td → List (Nat × Op4)
  | _, [] => []
  | i, l :: T => l.map (fun o => (i, o)) ++ prs (i + 1) T
def lnP (p : Nat × Op4) : ByteArray := lnB (p.1 : Int) p.2
theorem tdL_prs : ∀ (T : Td) (i : Nat), tdL i T = (prs i T).map lnP
  | [], i => rfl
  | l :: T, i => by
    rw [tdL, prs, List.map_append, tdL_prs T (i + 1), List.map_map]
    rfl
def putO (T : Td) (p : Nat × Op4) : Td := T.set p.1 (rdOf [] T (p.1 : Int) ++ [p.2])
theorem put_len (T : Td) (p : Nat × Op4) : (putO T p).length = T.length := List.length_set
theorem fold_row (i : Nat) : ∀ (l : List Op4) (T : Td), i < T.length → (l.map (fun o => (i, o))).foldl putO T = T.set i (rdOf [] T (i : Int) ++ l)
  | [], T, h => by
    rw [rdOf_nat h]
    simp
  | o :: l, T, h => by
    rw [List.map_cons, List.foldl_cons, fold_row i l (putO T (i, o)) (by rw [put_len]; exact h)]
    unfold putO
    rw [rdOf_nat h, rdOf_nat (by rw [List.length_set]; exact h)]
    simp only [List.getElem_set_self, List.set_set, List.append_assoc]
    rfl
theorem fold_all {T : Td} (h : T.length = 4) : (prs 0 T).foldl putO [[], [], [], []] = T := by
  match T, h with
  | [a, b, c, d], _ =>
    show (a.map (fun o => (0, o)) ++ (b.map (fun o => (1, o)) ++ (c.map (fun o => (2, o)) ++ (d.map (fun o => (3, o)) ++ [])))).foldl putO [[], [], [], []] = [a, b, c, d]
    rw [List.append_nil, List.foldl_append, List.foldl_append, List.foldl_append, fold_row 0 a _ (by decide)]
    show (d.map (fun o => (3, o))).foldl putO ((c.map (fun o => (2, o))).foldl putO ((b.map (fun o => (1, o))).foldl putO [a, [], [], []])) = _
    rw [fold_row 1 b [a, [], [], []] (show 1 < 4 by decide)]
    show (d.map (fun o => (3, o))).foldl putO ((c.map (fun o => (2, o))).foldl putO [a, b, [], []]) = _
    rw [fold_row 2 c [a, b, [], []] (show 2 < 4 by decide)]
    show (d.map (fun o => (3, o))).foldl putO [a, b, c, []] = _
    rw [fold_row 3 d [a, b, c, []] (show 3 < 4 by decide)]
    rfl
def gP (n : Nat) (p : Nat × Op4) : Prop := p.1 ≤ 3 ∧ opB n p.2.1 p.2.2.1 p.2.2.2.1 p.2.2.2.2 = true ∧ p.2.2.1.size ≤ 1048576
theorem prs_ok {n : Nat} : ∀ (T : Td) (i : Nat), i + T.length ≤ 4 → (∀ (j : Nat) (h : j < T.length), rowOk n ((i + j : Nat) : Int) T[j]) → TSz T → ∀ p ∈ prs i T, gP n p
  | [], i, h, hr, hs, p, hp => by cases hp
  | l :: T, i, h, hr, hs, p, hp => by
    simp only [List.length_cons] at h
    rw [prs] at hp
    rcases List.mem_append.1 hp with hp | hp
    · obtain ⟨o, ho, rfl⟩ := List.mem_map.1 hp
      exact ⟨by show i ≤ 3; omega, ((hr 0 (by simp)).2 o ho).1, hs l (by simp) o ho⟩
    · refine prs_ok T (i + 1) (by omega) (fun j hj => ?_) (fun l' hl' => hs l' (by simp [hl'])) p hp
      have := hr (j + 1) (by simp only [List.length_cons]; omega)
      rw [show i + (j + 1) = i + 1 + j by omega] at this
      exact this
theorem prs_len : ∀ (T : Td) (i : Nat), (∀ l ∈ T, l.length ≤ 10) → (prs i T).length ≤ 10 * T.length
  | [], i, h => by simp [prs]
  | l :: T, i, h => by
    have := prs_len T (i + 1) (fun l hl => h l (by simp [hl]))
    have := h l (by simp)
    rw [prs]
    simp only [List.length_append, List.length_map, List.length_cons]
    omega
theorem op_no10 {n : Nat} (hn : 2000000 ≤ n) {k : Int} {s : ByteArray} {w v : Int} (hs : s.size ≤ 1048576) (h : opB n k s w v = true) : ∀ b ∈ (opT k s w v).data.toList, b ≠ 10 := by
  have O := oOk hn hs h
  rcases O.one with ⟨rfl, hw, rfl⟩ | ⟨rfl, rfl, hv⟩ | ⟨rfl, rfl, rfl, rfl⟩
  · have hk := (O.key (by decide)).1
    rw [opT_1]
    intro b hb
    simp only [List.mem_append, List.mem_cons, List.not_mem_nil, or_false] at hb
    rcases hb with (rfl | rfl | rfl) | rfl | hb | rfl | hb
    · decide
    · decide
    · decide
    · decide
    · exact (hk b hb).2
    · decide
    · exact (kw_sp w b hb).2
  · have hk := (O.key (by decide)).1
    obtain ⟨m, rfl⟩ := Int.eq_ofNat_of_zero_le hv.1
    rw [opT_2]
    intro b hb
    simp only [List.mem_append, List.mem_cons, List.not_mem_nil, or_false] at hb
    rcases hb with (rfl | rfl | rfl) | rfl | hb | rfl | hb
    · decide
    · decide
    · decide
    · decide
    · exact (hk b hb).2
    · decide
    · exact (dig_sp (by omega) b hb).2
  · rw [opT_3]
    decide
theorem lnP_list (p : Nat × Op4) : (lnP p).data.toList = (dB (p.1 : Int)).data.toList ++ 32 :: (opX p.2).data.toList := by
  unfold lnP lnB
  rw [list_app, list_app]
  simp only [List.append_assoc]
  rfl
theorem lnP_no10 {n : Nat} (hn : 2000000 ≤ n) {p : Nat × Op4} (h : gP n p) : ∀ b ∈ (lnP p).data.toList, b ≠ 10 := by
  rw [lnP_list]
  intro b hb
  simp only [List.mem_append, List.mem_cons] at hb
  rcases hb with hb | rfl | hb
  · have := h.1
    exact (dig_sp (by omega) b hb).2
  · decide
  · exact op_no10 hn h.2.2 h.2.1 b hb
theorem lnP_size {n : Nat} (hn : 2000000 ≤ n) {p : Nat × Op4} (h : gP n p) : 3 ≤ (lnP p).size ∧ (lnP p).size ≤ 62 := by
  have hz := opT_size (oOk hn h.2.2 h.2.1)
  have h1 := lnB_size (i := p.1) (by have := h.1; omega) hn h.2.1 h.2.2
  refine ⟨?_, h1⟩
  have := size_list (lnP_list p)
  rw [this]
  have hd : (opX p.2).data.toList.length = (opX p.2).size := sz_list _
  simp only [List.length_append, List.length_cons]
  rw [hd]
  unfold opX
  have := hz.2
  omega
theorem spC_flat {L : List ByteArray} (h : ∀ x ∈ L, ∀ b ∈ x.data.toList, b ≠ 10) : spC 10 (flat L) = (L ++ [(⟨#[]⟩ : ByteArray)]).map (fun x => x.data.toList) := by
  induction L with
  | nil => rfl
  | cons x L ih =>
    have e : flat (x :: L) = x.data.toList ++ 10 :: flat L := by simp [flat]
    rw [e, spC_app _ _ (h x (by simp)), ih (fun y hy => h y (by simp [hy]))]
    rfl
theorem map_inj {W L : List ByteArray} (h : W.map (fun x => x.data.toList) = L.map (fun x => x.data.toList)) : W = L := by
  induction W generalizing L with
  | nil => cases L with
    | nil => rfl
    | cons => simp at h
  | cons w W ih => cases L with
    | nil => simp at h
    | cons x L =>
      simp only [List.map_cons, List.cons.injEq] at h
      rw [ba_ext h.1, ih h.2]
/-- The list of a todo's lines, and what it says. -/
structure Txt (n : Nat) (s0 : ByteArray) (T : Td) : Prop where
  ok : TOk n T
  sz : TSz T
  tx : flat (tdL 0 T) = s0.data.toList
theorem Txt.prs {n : Nat} {s0 : ByteArray} {T : Td} (t : Txt n s0 T) : ∀ p ∈ prs 0 T, gP n p :=
  prs_ok T 0 (by rw [t.ok.1]; decide) (fun j h => by rw [Nat.zero_add]; exact t.ok.2 j h) t.sz
theorem Txt.len {n : Nat} {s0 : ByteArray} {T : Td} (t : Txt n s0 T) : (Eva.prs 0 T).length ≤ 40 := by
  have := prs_len T 0 (fun l hl => by
    obtain ⟨j, hj, rfl⟩ := List.getElem_of_mem hl
    exact (t.ok.2 j hj).1)
  rw [t.ok.1] at this
  exact this
theorem Txt.words {n : Nat} (hn : 2000000 ≤ n) {s0 : ByteArray} {T : Td} (t : Txt n s0 T) {W : List ByteArray} (h : W.map (fun x => x.data.toList) = spC 10 s0.data.toList) : W = (Eva.prs 0 T).map lnP ++ [(⟨#[]⟩ : ByteArray)] := by
  rw [← t.tx, tdL_prs, spC_flat] at h
  · exact map_inj h
  · intro x hx
    obtain ⟨p, hp, rfl⟩ := List.mem_map.1 hx
    exact lnP_no10 hn (t.prs p hp)
theorem dig_at {m : Nat} : ∀ (L : List UInt8), True := fun _ => trivial
theorem cut_ln {n : Nat} {p : Nat × Op4} (h : gP n p) : Go.Lib.cut (lnP p).data.toList [32] = ((dB (p.1 : Int)).data.toList, (opX p.2).data.toList, true) := by
  rw [lnP_list]
  have hD := dig_sp (m := p.1) (by have := h.1; omega)
  generalize (dB (p.1 : Int)).data.toList = D at hD
  generalize (opX p.2).data.toList = B
  have eI : Go.Lib.index (D ++ 32 :: B) [32] = (D.length : Int) := by
    refine Go.Lib.index_first (by simp) (by simp [Go.Lib.occAt]) ?_
    intro j hj
    cases e : Go.Lib.occAt (D ++ 32 :: B) [32] j with
    | false => rfl
    | true =>
      have := Go.Lib.occAt_head rfl e
      rw [List.getElem?_append_left hj] at this
      exact absurd rfl (hD 32 (List.mem_of_getElem? this)).1
  unfold Go.Lib.cut
  rw [eI, if_pos (by omega)]
  simp
theorem neB_ln {n : Nat} (hn : 2000000 ≤ n) {p : Nat × Op4} (h : gP n p) : neB (lnP p) = true := by
  have := lnP_size hn h
  unfold neB
  rw [decide_eq_false]
  · rfl
  · intro e
    rw [tl_eq e] at this
    exact absurd this.1 (by decide)
theorem t15c_0 {n : Nat} (hn : 2000000 ≤ n) {s0 : ByteArray} {T : Td} (t : Txt n s0 T) {W : List ByteArray} {ps : List (Nat × Op4)} (hps : ∀ p ∈ ps, gP n p) (hpl : ps.length ≤ 40) (hW : W = ps.map lnP) :
    ∀ (k i : Nat) (A : Td), i ≤ ps.length → ps.length - i < k → A.length = 4 → (∀ l ∈ A, l.length ≤ i) → TSz A → (ps.drop i).foldl putO A = T → ok (lp5_0 n k s0 (W.length : Int) (i : Int) A W) fun r => r = (T, true, ())
  | 0, i, A, h, hk, h4, hl, hs, hf => by omega
  | k + 1, i, A, h, hk, h4, hl, hs, hf => by
    have hWl : W.length = ps.length := by rw [hW, List.length_map]
    show ok (st5_0 n (lp5_0 n k) s0 (W.length : Int) (i : Int) A W) _
    unfold st5_0
    refine ok.ite (fun h1 => ok.guard (by omega) (ok.guard h1 ?_)) (fun h1 => ?_)
    · have hi : i < W.length := by omega
      have hip : i < ps.length := by omega
      rw [rdOf_nat hi, w1 (n := 1048578) (by omega) (by omega)]
      have hg := hps _ (List.getElem_mem hip)
      have eW : W[i] = lnP ps[i] := by subst hW; rw [List.getElem_map]
      rw [eW]
      have hsz := lnP_size hn hg
      have hd : ps.drop i = ps[i] :: ps.drop (i + 1) := List.drop_eq_getElem_cons hip
      rw [hd, List.foldl_cons] at hf
      generalize ps[i] = p at hg hsz hf
      obtain ⟨m, o⟩ := p
      have hm : m ≤ 3 := hg.1
      refine ok.run (f15 (by omega)) ?_
      rw [show (⟨#[32]⟩ : ByteArray).data.toList = [32] from rfl, cut_ln hg]
      have b1 : (⟨(dB (m : Int)).data.toList.toArray⟩ : ByteArray) = dB (m : Int) := ba_ext rfl
      have b2 : (⟨(opX o).data.toList.toArray⟩ : ByteArray) = opX o := ba_ext rfl
      show ok ((F16 n (⟨(dB (m : Int)).data.toList.toArray⟩ : ByteArray)).bind _) _
      rw [b1]
      refine ok.run (t16 hn (by omega)) ?_
      show ok ((F17 n (⟨(opX o).data.toList.toArray⟩ : ByteArray)).bind _) _
      rw [b2]
      refine (t11c hn (s := o.2.1) (k := o.1) (w := o.2.2.1) (v := o.2.2.2) ⟨hg.2.1, hg.2.2, rfl⟩).bind fun r4 q4 => ?_
      subst q4
      refine ok.iteb (fun h => by cases h) (fun _ => ok.iteb (fun h => by cases h) (fun _ => ok.run f18 (ok.iteb (fun h => ?_) (fun _ => ?_))))
      · have : inr (m : Int) 0 3 = true := decide_eq_true (by omega)
        have h : (!(inr (m : Int) 0 3)) = true := h
        rw [this] at h; cases h
      · have hmT : m < A.length := by omega
        have hl' := hl _ (List.getElem_mem hmT)
        have hf : (ps.drop (i + 1)).foldl putO (A.set m (rdOf [] A (m : Int) ++ [o])) = T := hf
        rw [rdOf_nat hmT] at hf
        show ok (if decide ((0 : Int) ≤ (m : Int)) = true then _ else _) _
        rw [rdOf_nat hmT, Int.toNat_natCast]
        refine ok.guard (by omega) (ok.guard (by omega) (ok.guard (by simp only [List.length_cons, List.length_nil]; omega) (ok.guard (by omega) (ok.guard (by omega) (ok.guard rfl ?_)))))
        have P := put_ok (i := m) (j := i) (o := o) hmT hs hl hg.2.2
        exact t15c_0 hn t hps hpl hW k (i + 1) _ (by omega) (by omega) (by rw [List.length_set]; exact h4) P.2 P.1 hf
    · rw [List.drop_eq_nil_of_le (by omega)] at hf
      have hf : A = T := hf
      subst hf
      exact fin15c hn t.sz t.ok t.tx
theorem t15c {n : Nat} (hn : 2000000 ≤ n) {s : ByteArray} (hs : s.size ≤ 1048576) {T : Td} (t : Txt n s T) : ok (F5 n s) fun r => r = (T, true, ()) := by
  unfold F5 st5
  refine ok.guard (by decide) (ok.guard (by decide) (ok.guard (by decide) ((t14 hn hs).bind fun r1 q1 => ?_)))
  obtain ⟨W, e, q⟩ := q1
  have eW := t.words hn e
  have ef : W.filter neB = (prs 0 T).map lnP := by
    rw [eW, List.filter_append, List.filter_eq_self.2 (fun x hx => ?_)]
    · rw [List.filter_cons, if_neg (by rw [show neB ⟨#[]⟩ = false from by unfold neB; rw [decide_eq_true rfl]; rfl]; decide), List.filter_nil, List.append_nil]
    · obtain ⟨p, hp, rfl⟩ := List.mem_map.1 hx
      exact neB_ln hn (t.prs p hp)
  rw [q, rep4]
  have := t.len
  refine t15c_0 hn t t.prs t.len ef n 0 _ (by omega) (by omega) rfl (fun l hl => ?_) sz4 (fold_all t.ok.1)
  simp only [List.mem_cons, List.not_mem_nil, or_false, or_self] at hl
  rw [hl]; exact Nat.le_refl _
theorem dig_one {m : Nat} (hm : m ≤ 3) : (dB (m : Int)).data.toList = [UInt8.ofNat (48 + m)] := by
  rw [dB_nat]
  have : m = 0 ∨ m = 1 ∨ m = 2 ∨ m = 3 := by omega
  rcases this with rfl | rfl | rfl | rfl <;> (rw [Go.Lib.decDigits, dif_pos (by decide)])
theorem t19c_0 {n : Nat} (hn : 2000000 ≤ n) {s0 : ByteArray} {T : Td} (t : Txt n s0 T) {W : List ByteArray} {ps : List (Nat × Op4)} (hps : ∀ p ∈ ps, gP n p) (hpl : ps.length ≤ 40) (hW : W = ps.map lnP ++ [(⟨#[]⟩ : ByteArray)]) :
    ∀ (k i : Nat) (A : Td), i ≤ ps.length → ps.length - i < k → A.length = 4 → (∀ l ∈ A, l.length ≤ i) → TSz A → (ps.drop i).foldl putO A = T → ok (lp4_0 n k s0 (i : Int) A W) fun r => r = (T, true, ())
  | 0, i, A, h, hk, h4, hl, hs, hf => by omega
  | k + 1, i, A, h, hk, h4, hl, hs, hf => by
    have hWl : W.length = ps.length + 1 := by rw [hW, List.length_append, List.length_map]; rfl
    show ok (st4_0 n (lp4_0 n k) s0 (i : Int) A W) _
    unfold st4_0
    rw [w1 (n := 1048578) (by omega) (by omega)]
    refine ok.ite (fun h1 => ok.guard (by omega) (ok.guard (by omega) ?_)) (fun h1 => ?_)
    · have hi : i < W.length := by omega
      have hip : i < ps.length := by omega
      rw [rdOf_nat hi]
      have hg := hps _ (List.getElem_mem hip)
      have eW : W[i] = lnP ps[i] := by subst hW; rw [List.getElem_append_left (by rw [List.length_map]; exact hip), List.getElem_map]
      rw [eW]
      have hsz := lnP_size hn hg
      have hd : ps.drop i = ps[i] :: ps.drop (i + 1) := List.drop_eq_getElem_cons hip
      rw [hd, List.foldl_cons] at hf
      generalize ps[i] = p at hg hsz hf
      obtain ⟨m, o⟩ := p
      have hm : m ≤ 3 := hg.1
      have hL := lnP_list (m, o)
      rw [show (dB (((m, o) : Nat × Op4).1 : Int)).data.toList = [UInt8.ofNat (48 + m)] from dig_one hm] at hL
      have hL : (lnP (m, o)).data.toList = [UInt8.ofNat (48 + m), 32] ++ ((opX o).data.toList ++ []) := by rw [hL]; simp
      generalize lnP (m, o) = w at hL hsz
      have hbt : bt w (0 : Int) = ((48 + m : Nat) : Int) := by
        have hz : 0 < w.data.toList.length := by rw [hL]; simp
        have e := bt_list w 0 hz
        have e2 : w.data.toList[0] = UInt8.ofNat (48 + m) := by
          have : w.data.toList[0]? = some (UInt8.ofNat (48 + m)) := by rw [hL]; rfl
          rw [List.getElem?_eq_getElem hz] at this
          exact Option.some.inj this
        rw [e2, dg_toNat m (by omega)] at e
        exact e
      have eD : wrap64 ((wrap64 (bt w (0 : Int))) - 48) = (m : Int) := by
        rw [hbt, w64 (x := ((48 + m : Nat) : Int)) (by omega) (by omega), w64 (by omega) (by omega)]
        omega
      rw [eD]
      have hszl := size_list hL
      have eX : w.extract (2 : Int).toNat (w.size : Int).toNat = opX o := extr_of w (opX o) [UInt8.ofNat (48 + m), 32] (opX o).data.toList [] _ _ hL rfl (by rw [Int.toNat_natCast, hszl]; simp only [List.length_append, List.length_cons, List.length_nil]; omega) rfl
      rw [eX]
      refine ok.ite (fun h => by omega) (fun h3 => ok.guard (by omega) (ok.guard (by omega) (ok.guard (by decide) (ok.guard (by omega) (ok.guard (by omega) (ok.guard (by omega) (ok.guard (by decide) (ok.guard (by omega) (ok.guard (Int.le_refl _) ?_)))))))))
      refine (t47c hn (s := o.2.1) (k := o.1) (w := o.2.2.1) (v := o.2.2.2) ⟨hg.2.1, hg.2.2, rfl⟩).bind fun r4 q4 => ?_
      subst q4
      refine ok.iteb (fun h => by cases h) (fun _ => ok.run f11 (ok.iteb (fun h => ?_) (fun _ => ?_)))
      · have : inr (m : Int) 0 3 = true := decide_eq_true (by omega)
        have h : (!(inr (m : Int) 0 3)) = true := h
        rw [this] at h; cases h
      · have hmT : m < A.length := by omega
        have hl' := hl _ (List.getElem_mem hmT)
        have hf : (ps.drop (i + 1)).foldl putO (A.set m (rdOf [] A (m : Int) ++ [o])) = T := hf
        rw [rdOf_nat hmT] at hf
        rw [rdOf_nat hmT, Int.toNat_natCast]
        refine ok.guard (by omega) (ok.guard (by omega) (ok.guard (by simp only [List.length_cons, List.length_nil]; omega) (ok.guard (by omega) (ok.guard (by omega) (ok.guard rfl ?_)))))
        have P := put_ok (i := m) (j := i) (o := o) hmT hs hl hg.2.2
        exact t19c_0 hn t hps hpl hW k (i + 1) _ (by omega) (by omega) (by rw [List.length_set]; exact h4) P.2 P.1 hf
    · rw [List.drop_eq_nil_of_le (by omega)] at hf
      have hf : A = T := hf
      subst hf
      exact fin19c hn t.sz t.ok t.tx
theorem t19c {n : Nat} (hn : 2000000 ≤ n) {s : ByteArray} (hs : s.size ≤ 1048576) {T : Td} (t : Txt n s T) : ok (F4 n s) fun r => r = (T, true, ()) := by
  unfold F4 st4
  refine ok.guard (by decide) (ok.guard (by decide) (ok.guard (by decide) ((t46c (c := 10) hs hn rfl).bind fun r1 q1 => ?_)))
  rw [rep4]
  have := t.len
  refine t19c_0 hn t t.prs t.len (t.words hn q1) n 0 _ (by omega) (by omega) rfl (fun l hl => ?_) sz4 (fold_all t.ok.1)
  simp only [List.mem_cons, List.not_mem_nil, or_false, or_self] at hl
  rw [hl]; exact Nat.le_refl _
end Go.Eva
end
section
/- FnExactReadTodo: what the functions answer. -/
namespace Go.Eva
open Go.RowKit (wrap64)
set_option linter.unusedVariables false
set_option linter.unusedSimpArgs false

/-- A mark's text. -/
theorem strOf_size (l : List Int) : (strOf l).size = l.length := by
  show Array.size (List.toArray _) = _
  rw [List.size_toArray, List.length_map]
theorem t36_0 {n : Nat} : ∀ (d k : Nat) (i : Int) (s : ByteArray), 0 ≤ i → i < (p10 d : Int) → d < k → s.size + d ≤ 1000 → i ≤ 1000000000000 → ok (lp36_0 n k i s) fun _ => True
  | d, 0, i, s, h0, h1, hk, hs, hi => by omega
  | d, k + 1, i, s, h0, h1, hk, hs, hi => by
    show ok (st36_0 n (lp36_0 n k) i s) _
    unfold st36_0
    have e1 : ∀ x : Int, (strOf [x]).size = 1 := fun x => strOf_size [x]
    have em : (⟨#[109]⟩ : ByteArray).size = 1 := rfl
    refine ok.ite (fun h => ok.guard (by decide) (ok.guard (by rw [e1]; omega) (ok.guard (by decide) ?_))) (fun h => ok.guard (by omega) (ok.some trivial))
    obtain ⟨m, rfl⟩ := Int.eq_ofNat_of_zero_le h0
    have e : ((m : Int).tdiv 10) = ((m / 10 : Nat) : Int) := by
      rw [Int.tdiv_eq_ediv_of_nonneg (by omega)]
      omega
    match d, h1, hs, hk with
    | 0, h1, hs, hk =>
      have : p10 0 = 1 := rfl
      omega
    | d + 1, h1, hs, hk =>
      have hp : p10 (d + 1) = p10 d * 10 := rfl
      rw [e, w64 (by omega) (by omega)]
      exact t36_0 d k _ _ (by omega) (by omega) (by omega) (by rw [ByteArray.size_append, e1]; omega) (by omega)
noncomputable def mtx (n : Nat) (k : Int) : ByteArray := ((F36 n k).getD (⟨#[]⟩, ())).1
theorem f36 {n : Nat} (hn : 100 ≤ n) {k : Int} (h0 : 0 ≤ k) (h1 : k ≤ 1000000000000) : F36 n k = some (mtx n k, ()) := by
  have h : ok (F36 n k) fun _ => True := by
    unfold F36 st36
    refine ok.ite (fun _ => ok.some trivial) (fun _ => t36_0 13 n k _ h0 ?_ (by omega) (by decide) h1)
    have : p10 13 = 10000000000000 := by decide
    omega
  obtain ⟨⟨a, u⟩, e, _⟩ := h
  unfold mtx
  rw [e]
  rfl
theorem mkRow_get {mt : Int → ByteArray} {k : Int} {m i : Nat} (h : i < (mkRow mt k m).length) : (mkRow mt k m)[i] = mkOp mt (k + 4 * i) := by
  simp [mkRow]
/-- Marks held. -/
theorem t23h_0 {n : Nat} (hn : 100 ≤ n) {l : List Op4} (hl : l.length ≤ 1000) {k : Int} (h0 : 0 ≤ k) (h1 : k ≤ 100000000000) (hp : l = mkRow (mtx n) k l.length) : ∀ (q i : Nat) (x : Int), i ≤ l.length → l.length - i < q → x = k + 4 * i → ok (lp23_0 n q l x (i : Int)) fun r => r = (k + 4 * l.length, ())
  | 0, i, x, h, hk, hx => by omega
  | q + 1, i, x, h, hk, hx => by
    show ok (st23_0 n (lp23_0 n q) l x (i : Int)) _
    unfold st23_0
    refine ok.ite (fun h2 => ok.guard (by omega) (ok.guard h2 ?_)) (fun h2 => ok.some ?_)
    · have hi : i < l.length := by omega
      have er : l[i] = mkOp (mtx n) x := by rw [List.getElem_of_eq hp hi, mkRow_get, hx]
      have y0 : 0 ≤ x + 1 := by omega
      have y1 : x + 1 ≤ 1000000000000 := by omega
      have z0 : 0 ≤ x := by omega
      have z1 : x ≤ 1000000000000 := by omega
      have w5 : wrap64 ((i : Int) + 1) = ((i + 1 : Nat) : Int) := wb i 1000 (by omega) (by omega)
      have W := wr4 z0 z1
      rw [rdOf_nat hi, er, W.1, W.2.1, W.2.2.1, W.2.2.2, w5]
      clear W w5
      refine ok.ite (fun e => absurd rfl e) (fun _ => ok.guard (by omega) (ok.guard h2 (ok.bind (Q := fun r => r = (mtx n (x + 1), ())) ⟨_, f36 hn y0 y1, rfl⟩ fun r1 q1 => ?_)))
      subst q1
      refine ok.iteb (fun e => ?_) (fun _ => ok.guard (by omega) (ok.guard h2 (ok.ite (fun e => absurd rfl e) (fun _ => ok.guard (by omega) (ok.guard h2 (ok.ite (fun e => absurd rfl e) (fun _ => ?_)))))))
      · have e : (!decide ((mtx n (x + 1)).toList = (mtx n (x + 1)).toList)) = true := e
        rw [decide_eq_true rfl] at e; cases e
      · exact t23h_0 hn hl h0 h1 hp q (i + 1) (x + 4) (by omega) (by omega) (by omega)
    · have : x = k + 4 * l.length := by omega
      rw [this]
theorem t23h {n : Nat} (hn : 2000000 ≤ n) {l : List Op4} (hl : l.length ≤ 1000) {k : Int} (h0 : 0 ≤ k) (h1 : k ≤ 100000000000) (hp : l = mkRow (mtx n) k l.length) : ok (F23 n l k) fun r => r = (k + 4 * l.length, ()) := by
  unfold F23 st23
  exact t23h_0 (by omega) hl h0 h1 hp n 0 k (by omega) (by omega) (by omega)
theorem mkRow_len (mt : Int → ByteArray) (k : Int) (m : Nat) : (mkRow mt k m).length = m := by simp [mkRow]
theorem t8h_0 {n : Nat} (hn : 2000000 ≤ n) {T T' : Tq} (hT : T.length ≤ 1000) (hm : ∀ l ∈ T, l.length ≤ 1000) (hd : Mkd (mtx n) 1 T T' T.length) : ∀ (q i : Nat) (x : Int), i ≤ T.length → T.length - i < q → x = 1 + 4 * (pre T i : Nat) → ok (lp8_0 n q T' x (i : Int)) fun r => r = ((1 : Int) + 4 * ((pre T T.length : Nat) : Int), ())
  | 0, i, x, h, hk, hx => by omega
  | q + 1, i, x, h, hk, hx => by
    have hl := hd.len
    show ok (st8_0 n (lp8_0 n q) T' x (i : Int)) _
    unfold st8_0
    refine ok.ite (fun h2 => ok.guard (by omega) (ok.guard h2 ?_)) (fun h2 => ok.some ?_)
    · have hi : i < T.length := by omega
      have hi' : i < T'.length := by omega
      have hp := pre_le hm i
      have hp2 : 1000 * T.length ≤ 1000000 := by omega
      have hml := hm _ (List.getElem_mem hi)
      have er := hd.done i hi' hi hi
      have hlen : T'[i].length = T[i].length := by rw [er, mkRow_len]
      have hs := pre_succ T hi
      rw [rdOf_nat hi', wb i 1000 (by omega) (by omega)]
      refine ok.bind (Q := fun r => r = (x + 4 * (T'[i].length : Nat), ())) (t23h hn (by omega) (by omega) (by omega) (by rw [hlen, hx]; exact er)) fun r1 q1 => ?_
      subst q1
      refine ok.ite (fun e => ?_) (fun _ => ?_)
      · have e : x + 4 * (T'[i].length : Int) < 0 := e
        omega
      · exact t8h_0 hn hT hm hd q (i + 1) _ (by omega) (by omega) (by show x + 4 * (T'[i].length : Int) = _; rw [hlen]; omega)
    · have : i = T.length := by omega
      rw [hx, this]
theorem t8h {n : Nat} (hn : 2000000 ≤ n) {T T' : Tq} (hT : T.length ≤ 1000) (hm : ∀ l ∈ T, l.length ≤ 1000) (hd : Mkd (mtx n) 1 T T' T.length) : F8 n T' 1 = some ((1 : Int) + 4 * ((pre T T.length : Nat) : Int), ()) := by
  have : ok (F8 n T' 1) fun r => r = ((1 : Int) + 4 * ((pre T T.length : Nat) : Int), ()) := by
    unfold F8 st8
    exact t8h_0 hn hT hm hd n 0 1 (by omega) (by omega) (by simp [pre])
  obtain ⟨r, h, rfl⟩ := this
  exact h
/-- A list is itself. -/
theorem t35_0 {n : Nat} {l : List Op4} (hl : l.length ≤ 1000) : ∀ (q i : Nat), i ≤ l.length → l.length - i < q → ok (lp35_0 n q l l (i : Int)) fun r => r = (true, ())
  | 0, i, h, hk => by omega
  | q + 1, i, h, hk => by
    show ok (st35_0 n (lp35_0 n q) l l (i : Int)) _
    unfold st35_0
    refine ok.ite (fun h2 => ok.guard (by omega) (ok.guard h2 (ok.guard (by omega) (ok.guard h2 ?_)))) (fun _ => ok.some rfl)
    rw [wb i 1000 (by omega) (by omega)]
    refine ok.bind (Q := fun r => r = (true, ())) ?_ fun r1 q1 => ?_
    · unfold F44
      refine ok.ite (fun e => absurd rfl e) (fun _ => ok.iteb (fun e => ?_) (fun _ => ok.ite (fun e => absurd rfl e) (fun _ => ok.ite (fun e => absurd rfl e) (fun _ => ok.some rfl))))
      rw [decide_eq_true rfl] at e; cases e
    · subst q1
      exact ok.iteb (fun e => by cases e) (fun _ => t35_0 hl q (i + 1) (by omega) (by omega))
theorem t21 {n : Nat} (hn : 2000000 ≤ n) {l : List Op4} (hl : l.length ≤ 1000) : ok (F21 n l l) fun r => r = (true, ()) := by
  unfold F21 F35 st35
  refine ok.bind (Q := fun r => r = (true, ())) (ok.ite (fun e => absurd rfl e) (fun _ => t35_0 hl n 0 (by omega) (by omega))) fun r1 q1 => ?_
  subst q1
  exact ok.iteb (fun e => by cases e) (fun _ => ok.some rfl)
theorem t6_0 {n : Nat} (hn : 2000000 ≤ n) {T : Tq} (hT : T.length ≤ 1000) (hm : ∀ l ∈ T, l.length ≤ 1000) : ∀ (q i : Nat), i ≤ T.length → T.length - i < q → ok (lp6_0 n q T T (i : Int)) fun r => r = (true, ())
  | 0, i, h, hk => by omega
  | q + 1, i, h, hk => by
    show ok (st6_0 n (lp6_0 n q) T T (i : Int)) _
    unfold st6_0
    refine ok.ite (fun h2 => ok.guard (by omega) (ok.guard h2 (ok.guard (by omega) (ok.guard h2 ?_)))) (fun _ => ok.some rfl)
    have hi : i < T.length := by omega
    rw [rdOf_nat hi, wb i 1000 (by omega) (by omega)]
    refine ok.bind (Q := fun r => r = (true, ())) (t21 hn (hm _ (List.getElem_mem hi))) fun r1 q1 => ?_
    subst q1
    exact ok.iteb (fun e => by cases e) (fun _ => t6_0 hn hT hm q (i + 1) (by omega) (by omega))
theorem f6 {n : Nat} (hn : 2000000 ≤ n) {T : Tq} (hT : T.length ≤ 1000) (hm : ∀ l ∈ T, l.length ≤ 1000) : F6 n T T = some (true, ()) := by
  have : ok (F6 n T T) fun r => r = (true, ()) := by
    unfold F6 st6
    exact ok.ite (fun e => absurd rfl e) (fun _ => t6_0 hn hT hm n 0 (by omega) (by omega))
  obtain ⟨r, h, rfl⟩ := this
  exact h
/-- Both read the same. -/
theorem both {n : Nat} (hn : 2000000 ≤ n) {s : ByteArray} (hs : s.size ≤ 1048576) : ∃ T b, F4 n s = some (T, b, ()) ∧ F5 n s = some (T, b, ()) ∧ List.length T ≤ 1000 ∧ ∀ l ∈ T, l.length ≤ 1000 := by
  by_cases hT : ∃ T, Txt n s T
  · obtain ⟨T, t⟩ := hT
    obtain ⟨r1, h1, rfl⟩ := t15c hn hs t
    obtain ⟨r2, h2, rfl⟩ := t19c hn hs t
    refine ⟨T, true, h2, h1, by have := t.ok.1; omega, fun l hl => ?_⟩
    obtain ⟨j, hj, rfl⟩ := List.getElem_of_mem hl
    have := (t.ok.2 j hj).1
    omega
  · obtain ⟨r1, h1, q1⟩ := t5 hn hs
    obtain ⟨r2, h2, q2⟩ := t4 hn hs
    have e1 : r1 = no4 := by
      rcases q1 with q | q
      · exact q
      · exact absurd ⟨_, ⟨q.2.1, q.2.2.1, q.2.2.2⟩⟩ hT
    have e2 : r2 = no4 := by
      rcases q2 with q | q
      · exact q
      · exact absurd ⟨_, ⟨q.2.1, q.2.2.1, q.2.2.2⟩⟩ hT
    subst e1 e2
    exact ⟨[], false, h2, h1, Nat.zero_le _, fun l hl => by cases hl⟩
end Go.Eva
end
section
/- The library's functions at this program: Itoa, Split, Cut. -/
namespace Go.Proofs
open Go.RowKit
set_option linter.unusedVariables false
set_option linter.unusedSimpArgs false
shelf_lay LaysM.n171 Nm 171 at Tryd as Tryd.laysM171
shelf_lay Lays.n145 Nm 145 at Tryd as Tryd.laysCut
shelf_lay Lays.n146 Nm 146 at Tryd as Tryd.laysSplit
end Go.Proofs
namespace Go.Eva
open Go.RowKit (Below)
open Go.Proofs
set_option linter.unusedVariables false
variable {P : Program}
theorem alloc_new (w : World) (b : Obj) : (w.alloc b).heap[w.heap.size]? = some b := by
  show (w.heap.push b)[w.heap.size]? = some b
  simp
theorem alloc_below (w : World) (b : Obj) : Below w.heap.size w (w.alloc b) := (Below.refl _ _).alloc (Nat.le_refl _) _
/-- Two texts to a new list of texts. -/
theorem good_ssl {W : World} {f : FuncId} {fn : Func} {e : TypeId} (hf : P.funcs[f]? = some fn) (hb : fn.body.isNone = false) (hn : (fn.name == "runtime.NumGoroutine") = false) {F : ByteArray → ByteArray → Option (List ByteArray × Unit)}
    (hc : ∀ a b r w, F a b = some (r, ()) → Below W.heap.size W w → Calls P f #[.string a, .string b] w fun x w' => r.length ≤ maxLen ∧ x = .returned (.slice (some ⟨w.heap.size, 0, none⟩) r.length r.length) ∧ w' = w.alloc (.cells (r.map Value.string).toArray e)) : Good P W f ⟨[.one .str, .one .str], [], [.one (.sl .own e .str)], [], fun (x : ByteArray × ByteArray × Unit) => F x.1 x.2.1⟩ where
  ok := rfl
  fn := ⟨fn, hf, hb, hn⟩
  run := fun x r hx w G H frz imm hI hH => by
    obtain ⟨a, b, u⟩ := x
    obtain ⟨r, u'⟩ := r
    have hH : H.map (·.a) = [.str a, .str b] := hH
    match H, hH, hI with
    | [⟨_, v0, f0⟩, ⟨_, v1, f1⟩], hH, hI =>
    simp only [List.map_cons, List.map_nil, List.cons.injEq, and_true] at hH
    obtain ⟨rfl, rfl⟩ := hH
    have hG : G = [] := List.eq_nil_of_length_eq_zero hI.len
    subst hG
    have r0 : f0 = [] ∧ v0 = .string a := hI.held ⟨.str a, v0, f0⟩ List.mem_cons_self
    have r1 : f1 = [] ∧ v1 = .string b := hI.held ⟨.str b, v1, f1⟩ (List.mem_cons_of_mem _ List.mem_cons_self)
    obtain ⟨rfl, rfl⟩ := r0
    obtain ⟨rfl, rfl⟩ := r1
    refine (hc a b r w hx hI.base).mono ?_
    rintro x w' ⟨hm, rfl, rfl⟩
    have hB := alloc_below w (.cells (r.map Value.string).toArray e)
    have hw : ∀ x : Nat, imm x → x ≠ w.heap.size := fun x hx => Nat.ne_of_lt (hI.ilt x hx)
    have hrd : RdS (w.alloc (.cells (r.map Value.string).toArray e)) true (Rd (w.alloc (.cells (r.map Value.string).toArray e)) true .str) Kd.str.n e (.slice (some ⟨w.heap.size, 0, none⟩) r.length r.length) r [w.heap.size] := by
      refine own_close (κ := .str) (alloc_new w _) ?_ (Nat.le_refl _) hm ?_
      · have : Kd.str.n = 1 := rfl
        rw [this, List.size_toArray, List.length_map]
        omega
      · intro w2 i hi
        refine ⟨?_, rfl⟩
        have : Kd.str.n = 1 := rfl
        show (r.map Value.string).toArray.toList[0 + i * Kd.str.n + 0]? = _
        rw [this]
        simp [hi]
    have ho : ∀ b, ownc [] [⟨.sl .own e .str r, .slice (some ⟨w.heap.size, 0, none⟩) r.length r.length, [w.heap.size]⟩] b = if b = w.heap.size then 1 else 0 := fun b => by
      unfold ownc
      by_cases e : b = w.heap.size
      · simp [e]
      · rw [if_neg e]
        simp [Ne.symm e]
    refine ⟨_, rfl, [], [⟨.sl .own e .str r, .slice (some ⟨w.heap.size, 0, none⟩) r.length r.length, [w.heap.size]⟩], frz, imm, ?_, rfl, rfl, fun j g hj => absurd hj (by simp), ext_plain hI hB⟩
    exact {
      base := hI.base.trans (hB.mono hI.base.size)
      fi := hI.fi
      lo := hI.lo
      ilt := fun b q => Nat.lt_of_lt_of_le (hI.ilt b q) hB.size
      len := rfl
      sl := hI.sl
      objs := fun o h1 h2 => absurd h2 (by simp)
      slots := fun s h1 => absurd h1 (by simp)
      tms := hI.tms
      held := fun x hx => by rw [List.mem_singleton.1 hx]; exact hrd
      one := fun b => by rw [ho]; split <;> omega
      apart := fun b q => by rw [ho, if_neg (hw b q)]
      olt := fun b q => by
        rw [ho] at q
        split at q
        · rename_i e; rw [e]; exact (Array.getElem?_eq_some_iff.1 (alloc_new w _)).1
        · omega
      pin := fun p q => absurd q (by simp) }
theorem gItoa (W : World) (hT : Go.Lib.TabIs Tryd.prog W "internal/strconv.uint64pow10" .u64 Go.Lib.pow10Tab) (n : Nat) : Good Tryd.prog W 41 (c41 n) :=
  good_is Tryd.func41 (by kernel_rfl) (by kernel_rfl) (F := itoF) fun a r w h hb => by
    unfold itoF at h
    by_cases hr : -9223372036854775808 ≤ a ∧ a ≤ 9223372036854775807
    · rw [if_pos (decide_eq_true hr)] at h
      obtain rfl : (⟨(Go.Lib.itoa a).toArray⟩ : ByteArray) = r := congrArg Prod.fst (Option.some.inj h)
      refine (Any.strconv_Itoa Tryd.laysM171 a hr.1 hr.2 w (Go.Lib.tabBelow_of_tabIs hT w hb)).mono ?_
      rintro e w' ⟨rfl, k, os, rfl⟩
      exact ⟨rfl, Go.Lib.below_grow _ _ (Nat.le_refl _) k os⟩
    · rw [if_neg (by rw [decide_eq_false hr]; decide)] at h
      cases h
theorem gCut (W : World) (hS : ∃ m, W.cell? ⟨0, 0, none⟩ = some (.int .i64 m)) (n : Nat) : Good Tryd.prog W 15 (c15 n) :=
  good_ssb Tryd.func15 (by kernel_rfl) (by kernel_rfl) (F := cutF) fun a b r1 r2 r3 w h hb => by
    unfold cutF at h
    split at h
    case isFalse => cases h
    rename_i h1
    have h1 := of_decide_eq_true h1
    obtain ⟨m, hm⟩ := hS
    have h := Option.some.inj h
    injection h with q1 h
    injection h with q2 h
    injection h with q3 h
    subst q1 q2 q3
    refine (Any.strings_Cut Tryd.laysCut a b m w h1 ((hb.cell (World.block_lt_of_cell? W _ hm)).trans hm)).mono ?_
    rintro e w' ⟨rfl, n, rfl⟩
    exact ⟨rfl, ⟨rfl, rfl, rfl, Nat.le_refl _, fun _ _ => rfl⟩⟩
theorem gSplit (W : World) (hS : ∃ m, W.cell? ⟨0, 0, none⟩ = some (.int .i64 m)) (n : Nat) : Good Tryd.prog W 29 (c29 n) :=
  good_ssl (e := 9) Tryd.func29 (by kernel_rfl) (by kernel_rfl) (F := splF) fun a b r w h hb => by
    unfold splF at h
    split at h
    case isFalse => cases h
    rename_i h1
    split at h
    case isFalse => cases h
    rename_i h2
    have h1 := of_decide_eq_true h1
    have h2 := of_decide_eq_true h2
    obtain ⟨m, hm⟩ := hS
    obtain rfl := congrArg Prod.fst (Option.some.inj h)
    have hle := Go.Lib.countB_le b h2 a.size a (Nat.le_refl _)
    have hlen := Go.Lib.splitB_all b h2 0 _ a rfl
    refine (Any.strings_Split Tryd.laysSplit (by kernel_rfl) a b m w h1 ((hb.cell (World.block_lt_of_cell? W _ hm)).trans hm) h2).mono ?_
    rintro e w' ⟨rfl, rfl⟩
    show (Go.Lib.splitB b 0 (Go.Lib.countB a b) a).length ≤ maxLen ∧ _ = Ending.returned (.slice (some ⟨w.heap.size, 0, none⟩) (Go.Lib.splitB b 0 (Go.Lib.countB a b) a).length (Go.Lib.splitB b 0 (Go.Lib.countB a b) a).length) ∧ _
    rw [hlen]
    exact ⟨by unfold maxLen; omega, rfl, rfl⟩
end Go.Eva
end
section
/- FnExactReadTodo: the law holds. -/
namespace Go.Eva
open Go.Proofs
open Go.RowKit (Below)
set_option linter.unusedVariables false
set_option linter.unusedSimpArgs false
theorem readTodo_calls {W : World} (hT : Go.Lib.TabIs Tryd.prog W "internal/strconv.uint64pow10" .u64 Go.Lib.pow10Tab) (hS : ∃ m, W.cell? ⟨0, 0, none⟩ = some (.int .i64 m)) (s : ByteArray) :
    Calls Tryd.prog 3 #[.string s] W fun e w' => e = .returned (.bool true) ∧ Below W.heap.size W w' := by
  obtain ⟨n, hn⟩ : ∃ n : Nat, 2000000 ≤ n := ⟨2000000, Nat.le_refl _⟩
  obtain ⟨T, b, hT1, hm1, hb⟩ : ∃ (T : Tq) (b : Bool), T.length ≤ 1000 ∧ (∀ l ∈ T, l.length ≤ 1000) ∧ (s.size ≤ 1048576 → F4 n s = some (T, b, ()) ∧ F5 n s = some (T, b, ())) := by
    by_cases hs : s.size ≤ 1048576
    · obtain ⟨T, b, h1, h2, h3, h4⟩ := both hn hs
      exact ⟨T, b, h3, h4, fun _ => ⟨h1, h2⟩⟩
    · exact ⟨[], true, Nat.zero_le _, (fun l hl => by cases hl), fun h => absurd h hs⟩
  refine law_walk (mt := mtx n) (T := T) (b := b) (q := 0) hT1 hm1 (fun k w h0 h1 hB => call_text (g36 W n) hB (f36 (by omega) h0 h1)) (fun hs w hB => call_read (g4 W n) hB (hb hs).1) (fun hs w hB => call_read (g5 W n (gCut W hS) (gSplit W hS) (gItoa W hT)) hB (hb hs).2) (fun w v1 v2 fp1 fp2 lo1 lo2 hB h1 h2 => call_eq (g6 W n) hB h1 h2 (f6 hn hT1 hm1)) (fun w v fp lo T' hB hd ho => call_held (g8 W n) hB ho (t8h hn hT1 hm1 hd))
end Go.Eva
end
