-- MADE BY qprint.py, a program of this claim's session, over the kit's print: own text.
import Derived.Test.YthhbgembnlpohaaDoorProg
import Derived.Below
import Derived.Deep.Draws
import Derived.Deep.AppendLies
import Derived.Maps.AppendAt
import Derived.OwnWalk
import Derived.Laws.BytesArg
import Derived.Laws.MakeOwn
import Derived.Laws.OwnMore
import Derived.Deep.OwnRows
import Derived.Tactics
import Derived.Lib.ConvBytes
import Derived.Laws.Slices
import Derived.WalkKit
import Derived.KernelRfl
import Derived.RowKit3
import Derived.Deep.LoopGhost
import Derived.Deep.QuietTactic
import Derived.BigQuiet
import Derived.WideLaws
import Derived.Deep.DeepCutAuto
import Derived.Deep.CutBlock
import Derived.Deep.RegionHeld3
import Derived.Laws.Rows
import Derived.Lib.AppendStr
import Derived.ArgAppend
import Derived.Laws.IdiomCopy
import Derived.OrdersHeld
import Derived.Laws.BitsLemmas
import Derived.RowKit
import Derived.Shelf.Lay
import Derived.Shelf.LaySoft
import Derived.Shelf.Strconv.Itoa3
import Derived.Shelf.LaysM
import Derived.Lib.AppendIntMem
import Derived.Lib.ItoaLen
import Derived.Lib.ItoaMem
import Derived.Test.YthhbgembnlpohaaDoorWWords
import Derived.Test.YthhbgembnlpohaaDoorWLast
import Derived.Test.YthhbgembnlpohaaDoorWTab
import Derived.Test.YthhbgembnlpohaaDoorWFour
import Derived.Test.YthhbgembnlpohaaDoorWQPut
import Derived.Test.YthhbgembnlpohaaDoorWApart
import Derived.Test.YthhbgembnlpohaaDoorWArr
import Derived.Test.YthhbgembnlpohaaDoorWZeros
import Derived.Test.YthhbgembnlpohaaDoorWFoot
import Derived.Test.YthhbgembnlpohaaDoorWKept
import Derived.Test.YthhbgembnlpohaaDoorWShare
import Derived.Test.YthhbgembnlpohaaDoorWN
import Derived.Test.YthhbgembnlpohaaDoorWFootNe
import Derived.Test.YthhbgembnlpohaaDoorWAt
import Derived.Test.YthhbgembnlpohaaDoorWEqStruct
import Derived.Test.YthhbgembnlpohaaDoorWRepsOne
import Derived.Test.YthhbgembnlpohaaDoorWInv
import Derived.Test.YthhbgembnlpohaaDoorWInvWords
import Derived.Test.YthhbgembnlpohaaDoorWGuard
import Derived.Test.YthhbgembnlpohaaDoorWNEv
import Derived.Test.YthhbgembnlpohaaDoorWMore
namespace Go.Proofs.YthhbgembnlpohaaDoor.QFnExactUsedCells
open Go.RowKit Go.Proofs.YthhbgembnlpohaaDoorW.PrintWords Go.Proofs.YthhbgembnlpohaaDoorW.PrintLast Go.Proofs.YthhbgembnlpohaaDoorW.PrintMore
attribute [local go_sem] max2_int min2_int max_two min_two max_three min_three max_four min_four   -- for this text's walks alone
set_option linter.unusedVariables false
set_option linter.unusedSimpArgs false



def errW : Option Int → Value
  | none => .nilIface
  | some c => .iface 0 (.int .i64 c)
theorem errW_none : errW none = .nilIface := rfl
theorem errW_some (c : Int) : errW (some c) = .iface 0 (.int .i64 c) := rfl

theorem info3 : (Tryd.prog.info? 3).map (fun i => (i.zero, i.size, i.bytes)) = some (some (.int .i64 0), 1, 8) := by kernel_rfl
theorem info5 : (Tryd.prog.info? 5).map (fun i => (i.zero, i.size, i.bytes)) = some (some (.int .u8 0), 1, 1) := by kernel_rfl
theorem info9 : (Tryd.prog.info? 9).map (fun i => (i.zero, i.size, i.bytes)) = some (some (.string ⟨#[]⟩), 1, 16) := by kernel_rfl
-- the values' own types
def rd_L3 (xs : List (List Int)) (i : Int) : (List Int) := xs.getD i.toNat ([] : List Int)
theorem at_L3 {w : World} {A : Option Addr} {n : Nat} {xs : List (List Int)} (h : Kd.C (Kd.slice 3 (Kd.int .i64)) w A n xs) (i : Int) (h0 : 0 ≤ i) (h1 : i < n) : ∃ ad A0 c0, A = some ad ∧ w.cell? (ad.add i.toNat) = some (.slice A0 (rd_L3 xs i).length c0) ∧ (rd_L3 xs i).length ≤ c0 ∧ (Kd.int .i64).C w A0 (rd_L3 xs i).length (rd_L3 xs i) := by
  obtain ⟨ad, c, e, _, hK, hc0⟩ := Kd.C_get h ([] : List Int) i h0 h1
  have hc : ∀ j u, c[j]? = some u → w.cell? (ad.add (i.toNat * 1 + j)) = some u := hc0
  obtain ⟨A0, c0, rfl, l0, g0⟩ := hK
  exact ⟨ad, A0, c0, e, by have hq := hc 0 _ rfl; rwa [Nat.mul_one, Nat.add_zero] at hq, l0, g0⟩

/-! ### a call of a function value -/
section
variable {P : Program} {ops : Array Oper} {Q : Exit → Act → World → Prop}
theorem gate_dyn {rest : List Oper} {o : Oper} {a : Act} {W : World} {s : Tmp} {xs_ : Array Operand} {ts : Array TypeId} (_ho : o.op = .call { callee := .value (.tmp s), args := xs_, argTypes := ts }) (h : wpList P ops Q (o :: rest) a W) : wpList P ops Q (o :: rest) a W := h
theorem goesF_ {rest : List Oper} {oi : Oper} {a : Act} {w : World} (N : Option Tmp) (hd : oi.dst = N) (hg : oi.guard = none) {f : FuncId} {fn : Func} {s : Tmp} {xs_ : Array Operand} {ts : Array TypeId} (hf : P.funcs[f]? = some fn) (hname : (fn.name == "runtime.NumGoroutine") = false) (hb : fn.body.isSome = true) (args caps : Array Value)
    (hop : oi.op = .call { callee := .value (.tmp s), args := xs_, argTypes := ts }) (hs : a.eval (.tmp s) = .func (.func f) #[] caps) (hargs : xs_.map a.eval = args)
    (h : Calls P f (args ++ caps) w fun e w' => ∃ v, e = .returned v ∧ wpList P ops Q rest (a.put N v) w') : wpList P ops Q (oi :: rest) a w := by
  refine wpList_plain hg fun K hK => ?_
  have he := enters_ hf hname hb (args ++ caps) w
  have hs' : a.eval (.tmp s) = .func (.func f) #[] caps := hs
  have hrun : (execOp a.eval oi).run P w = .ok (.enter f (args ++ caps)) w := by
    unfold execOp
    simp only [hop, resolve, hs', Deferred.ofValue, invoke, hargs]
    simpa [invoke] using he
  unfold Oper.wp
  rw [hrun, Oper.upon_enter]
  refine h.mono fun e w'' hh => ?_
  obtain ⟨v, rfl, hk⟩ := hh
  subst hd
  exact hK _ _ hk
end
/-- The place of the first element that g tells true of, from j on; or -1. -/
def firstAt {α : Type} (g : α → Bool) : List α → Int → Int
  | [], _ => -1
  | x :: xs, j => if g x = true then j else firstAt g xs (j + 1)
theorem firstAt_any {α : Type} (g : α → Bool) (l : List α) : ∀ j : Int, 0 ≤ j → decide (0 ≤ firstAt g l j) = l.any g := by
  induction l with
  | nil => intro j hj; rfl
  | cons x xs ih =>
    intro j hj
    by_cases h : g x = true
    · have e : firstAt g (x :: xs) j = j := if_pos h
      rw [e, List.any_cons, h, Bool.true_or, decide_eq_true hj]
    · have e : firstAt g (x :: xs) j = firstAt g xs (j + 1) := if_neg h
      rw [e, ih (j + 1) (by omega), List.any_cons, Bool.eq_false_iff.mpr h, Bool.false_or]
theorem firstAt_le {α : Type} (g : α → Bool) (l : List α) : ∀ j : Int, 0 ≤ j → -1 ≤ firstAt g l j ∧ firstAt g l j ≤ j + l.length := by
  induction l with
  | nil => intro j hj; exact ⟨Int.le_refl _, by simp [firstAt]; omega⟩
  | cons x xs ih =>
    intro j hj
    have := ih (j + 1) (by omega)
    simp only [firstAt, List.length_cons]
    split <;> omega
/-- Is what a timer's row holds such as may be? -/
def rowT (n mn mx tot drp : Int) : Bool := if n = 0 then (mn == 0 && (mx == 0 && (tot == 0 && (drp == 0)))) else (decide (1 ≤ n) && (decide (n ≤ 3) && (decide (0 ≤ mn) && (decide (mn ≤ mx) && (decide (mx ≤ 65535) && (decide (n * mn ≤ tot) && (decide (tot ≤ n * mx) && (decide (0 ≤ drp) && (decide (drp ≤ 65535) && (drp == 0 || n == 3))))))))))
/-- Is a row right, its key aside? -/
def rowB (kind sum : Int) (set : Bool) (last n mn mx tot drp : Int) : Bool :=
  if kind = 1 then ((!set && (last == 0 && (n == 0 && (mn == 0 && (mx == 0 && (tot == 0 && (drp == 0))))))) && (decide (0 ≤ sum) && decide (sum ≤ 281474976710655)))
  else if kind = 2 then ((sum == 0 && (n == 0 && (mn == 0 && (mx == 0 && (tot == 0 && (drp == 0)))))) && ((decide (0 ≤ last) && decide (last ≤ 65535)) && (set || last == 0)))
  else if kind = 3 then ((sum == 0 && (!set && last == 0)) && rowT n mn mx tot drp) else false

end Go.Proofs.YthhbgembnlpohaaDoor.QFnExactUsedCells
