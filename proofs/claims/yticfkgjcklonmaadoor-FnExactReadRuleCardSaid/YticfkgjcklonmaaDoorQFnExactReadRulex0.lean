-- MADE BY qprint.py, a program of this claim's session, over the kit's print: own text.
import Derived.Test.YticfkgjcklonmaaDoorProg
import Derived.Below
import Derived.Deep.Draws
import Derived.Deep.AppendLies
import Derived.Maps.AppendAt
import Derived.OwnWalk
import Derived.Laws.BytesArg
import Derived.Laws.MakeOwn
import Derived.Laws.OwnMore
import Derived.Deep.OwnRows
import Derived.Tactics
import Derived.Lib.ConvBytes
import Derived.Laws.Slices
import Derived.WalkKit
import Derived.KernelRfl
import Derived.RowKit3
import Derived.Deep.LoopGhost
import Derived.Deep.QuietTactic
import Derived.BigQuiet
import Derived.WideLaws
import Derived.Deep.DeepCutAuto
import Derived.Deep.CutBlock
import Derived.Deep.RegionHeld3
import Derived.Laws.Rows
import Derived.Lib.AppendStr
import Derived.ArgAppend
import Derived.Laws.IdiomCopy
import Derived.OrdersHeld
import Derived.Laws.BitsLemmas
import Derived.RowKit
import Derived.Shelf.Lay
import Derived.Shelf.LaySoft
import Derived.Shelf.Strconv.Itoa3
import Derived.Shelf.LaysM
import Derived.Lib.AppendIntMem
import Derived.Lib.ItoaLen
import Derived.Lib.ItoaMem
import Derived.Shelf.Lays
import Derived.Shelf.Strings.Split
import Derived.Shelf.Strings.Cut
import Derived.Shelf.Strings.IndexAnyAll
import Derived.Shelf.Small.Utf8
import Derived.Laws.RangeAny
import Derived.Laws.Runes
import Derived.WalkMore
import Derived.Lib.OthersKept
import Derived.Shelf.RegionOpenPlain
import Derived.Deep.WholeRow
import Derived.Test.YticfkgjcklonmaaDoorWWords
import Derived.Test.YticfkgjcklonmaaDoorWLast
import Derived.Test.YticfkgjcklonmaaDoorWTab
import Derived.Test.YticfkgjcklonmaaDoorWFour
import Derived.Test.YticfkgjcklonmaaDoorWQPut
import Derived.Test.YticfkgjcklonmaaDoorWApart
import Derived.Test.YticfkgjcklonmaaDoorWArr
import Derived.Test.YticfkgjcklonmaaDoorWZeros
import Derived.Test.YticfkgjcklonmaaDoorWFoot
import Derived.Test.YticfkgjcklonmaaDoorWKept
import Derived.Test.YticfkgjcklonmaaDoorWShare
import Derived.Test.YticfkgjcklonmaaDoorWN
import Derived.Test.YticfkgjcklonmaaDoorWFootNe
import Derived.Test.YticfkgjcklonmaaDoorWAt
import Derived.Test.YticfkgjcklonmaaDoorWEqStruct
import Derived.Test.YticfkgjcklonmaaDoorWRepsOne
import Derived.Test.YticfkgjcklonmaaDoorWInv
import Derived.Test.YticfkgjcklonmaaDoorWInvWords
import Derived.Test.YticfkgjcklonmaaDoorWGuard
import Derived.Test.YticfkgjcklonmaaDoorWNEv
import Derived.Test.YticfkgjcklonmaaDoorWMore
namespace Go.Proofs.YticfkgjcklonmaaDoor.QFnExactReadRule
open Go.RowKit Go.Proofs.YticfkgjcklonmaaDoorW.PrintWords Go.Proofs.YticfkgjcklonmaaDoorW.PrintLast Go.Proofs.YticfkgjcklonmaaDoorW.PrintMore
attribute [local go_sem] max2_int min2_int max_two min_two max_three min_three max_four min_four   -- for this text's walks alone
set_option linter.unusedVariables false
set_option linter.unusedSimpArgs false



def errW : Option Int → Value
  | none => .nilIface
  | some c => .iface 0 (.int .i64 c)
theorem errW_none : errW none = .nilIface := rfl
theorem errW_some (c : Int) : errW (some c) = .iface 0 (.int .i64 c) := rfl

theorem info5 : (Tryd.prog.info? 5).map (fun i => (i.zero, i.size, i.bytes)) = some (some (.int .u8 0), 1, 1) := by kernel_rfl
theorem info9 : (Tryd.prog.info? 9).map (fun i => (i.zero, i.size, i.bytes)) = some (some (.string ⟨#[]⟩), 1, 16) := by kernel_rfl
-- the values' own types

/-! ### a call of a function value -/
section
variable {P : Program} {ops : Array Oper} {Q : Exit → Act → World → Prop}
theorem gate_dyn {rest : List Oper} {o : Oper} {a : Act} {W : World} {s : Tmp} {xs_ : Array Operand} {ts : Array TypeId} (_ho : o.op = .call { callee := .value (.tmp s), args := xs_, argTypes := ts }) (h : wpList P ops Q (o :: rest) a W) : wpList P ops Q (o :: rest) a W := h
theorem goesF_ {rest : List Oper} {oi : Oper} {a : Act} {w : World} (N : Option Tmp) (hd : oi.dst = N) (hg : oi.guard = none) {f : FuncId} {fn : Func} {s : Tmp} {xs_ : Array Operand} {ts : Array TypeId} (hf : P.funcs[f]? = some fn) (hname : (fn.name == "runtime.NumGoroutine") = false) (hb : fn.body.isSome = true) (args caps : Array Value)
    (hop : oi.op = .call { callee := .value (.tmp s), args := xs_, argTypes := ts }) (hs : a.eval (.tmp s) = .func (.func f) #[] caps) (hargs : xs_.map a.eval = args)
    (h : Calls P f (args ++ caps) w fun e w' => ∃ v, e = .returned v ∧ wpList P ops Q rest (a.put N v) w') : wpList P ops Q (oi :: rest) a w := by
  refine wpList_plain hg fun K hK => ?_
  have he := enters_ hf hname hb (args ++ caps) w
  have hs' : a.eval (.tmp s) = .func (.func f) #[] caps := hs
  have hrun : (execOp a.eval oi).run P w = .ok (.enter f (args ++ caps)) w := by
    unfold execOp
    simp only [hop, resolve, hs', Deferred.ofValue, invoke, hargs]
    simpa [invoke] using he
  unfold Oper.wp
  rw [hrun, Oper.upon_enter]
  refine h.mono fun e w'' hh => ?_
  obtain ⟨v, rfl, hk⟩ := hh
  subst hd
  exact hK _ _ hk
end
/-- The place of the first element that g tells true of, from j on; or -1. -/
def firstAt {α : Type} (g : α → Bool) : List α → Int → Int
  | [], _ => -1
  | x :: xs, j => if g x = true then j else firstAt g xs (j + 1)
theorem firstAt_any {α : Type} (g : α → Bool) (l : List α) : ∀ j : Int, 0 ≤ j → decide (0 ≤ firstAt g l j) = l.any g := by
  induction l with
  | nil => intro j hj; rfl
  | cons x xs ih =>
    intro j hj
    by_cases h : g x = true
    · have e : firstAt g (x :: xs) j = j := if_pos h
      rw [e, List.any_cons, h, Bool.true_or, decide_eq_true hj]
    · have e : firstAt g (x :: xs) j = firstAt g xs (j + 1) := if_neg h
      rw [e, ih (j + 1) (by omega), List.any_cons, Bool.eq_false_iff.mpr h, Bool.false_or]
theorem firstAt_le {α : Type} (g : α → Bool) (l : List α) : ∀ j : Int, 0 ≤ j → -1 ≤ firstAt g l j ∧ firstAt g l j ≤ j + l.length := by
  induction l with
  | nil => intro j hj; exact ⟨Int.le_refl _, by simp [firstAt]; omega⟩
  | cons x xs ih =>
    intro j hj
    have := ih (j + 1) (by omega)
    simp only [firstAt, List.length_cons]
    split <;> omega
/-- Is what a timer's row holds such as may be? -/
def rowT (n mn mx tot drp : Int) : Bool := if n = 0 then (mn == 0 && (mx == 0 && (tot == 0 && (drp == 0)))) else (decide (1 ≤ n) && (decide (n ≤ 3) && (decide (0 ≤ mn) && (decide (mn ≤ mx) && (decide (mx ≤ 65535) && (decide (n * mn ≤ tot) && (decide (tot ≤ n * mx) && (decide (0 ≤ drp) && (decide (drp ≤ 65535) && (drp == 0 || n == 3))))))))))
/-- Is a row right, its key aside? -/
def rowB (kind sum : Int) (set : Bool) (last n mn mx tot drp : Int) : Bool :=
  if kind = 1 then ((!set && (last == 0 && (n == 0 && (mn == 0 && (mx == 0 && (tot == 0 && (drp == 0))))))) && (decide (0 ≤ sum) && decide (sum ≤ 281474976710655)))
  else if kind = 2 then ((sum == 0 && (n == 0 && (mn == 0 && (mx == 0 && (tot == 0 && (drp == 0)))))) && ((decide (0 ≤ last) && decide (last ≤ 65535)) && (set || last == 0)))
  else if kind = 3 then ((sum == 0 && (!set && last == 0)) && rowT n mn mx tot drp) else false
theorem bytes_total : ∀ a b : List UInt8, (Op.bytesLess a b || a == b) = !(Op.bytesLess b a)
  | [], [] => rfl
  | [], _ :: _ => rfl
  | _ :: _, [] => rfl
  | x :: xs, y :: ys => by
    have ih := bytes_total xs ys
    have hxy : (x < y) ∨ (x = y) ∨ (y < x) := by
      rcases Nat.lt_trichotomy x.toNat y.toNat with h | h | h
      · exact .inl (UInt8.lt_iff_toNat_lt.2 h)
      · exact .inr (.inl (UInt8.toNat_inj.1 h))
      · exact .inr (.inr (UInt8.lt_iff_toNat_lt.2 h))
    have e : (x :: xs == y :: ys) = ((x == y) && (xs == ys)) := rfl
    rw [e]
    simp only [Op.bytesLess]
    rcases hxy with h | h | h
    · have h1 : ¬ y < x := fun k => by rw [UInt8.lt_iff_toNat_lt] at h k; omega
      have h2 : (x == y) = false := by
        rw [beq_eq_false_iff_ne]
        rintro rfl
        rw [UInt8.lt_iff_toNat_lt] at h
        omega
      have h3 : (y == x) = false := by rw [beq_eq_false_iff_ne] at h2 ⊢; exact fun k => h2 k.symm
      simp only [h, h1, h2, h3, decide_true, decide_false, Bool.true_or, Bool.false_or, Bool.false_and, Bool.not_false]
    · subst h
      have h1 : ¬ x < x := fun k => by rw [UInt8.lt_iff_toNat_lt] at k; omega
      simp only [h1, decide_false, Bool.false_or, beq_self_eq_true, Bool.true_and]
      exact ih
    · have h1 : ¬ x < y := fun k => by rw [UInt8.lt_iff_toNat_lt] at h k; omega
      have h2 : (x == y) = false := by
        rw [beq_eq_false_iff_ne]
        rintro rfl
        rw [UInt8.lt_iff_toNat_lt] at h
        omega
      have h3 : (y == x) = false := by rw [beq_eq_false_iff_ne] at h2 ⊢; exact fun k => h2 k.symm
      simp only [h, h1, h2, h3, decide_true, decide_false, Bool.true_or, Bool.false_or, Bool.false_and, Bool.not_true]
theorem leq_str (t : TypeId) (a b : ByteArray) : binOp .leq t (.string a) (.string b) = pure (.bool !(Op.bytesLess b.toList a.toList)) := by
  rw [← bytes_total]
  simp [binOp, Op.stringOp]
theorem gtr_str (t : TypeId) (a b : ByteArray) : binOp .gtr t (.string a) (.string b) = pure (.bool (Op.bytesLess b.toList a.toList)) := by
  have := bytes_total a.toList b.toList
  rw [← Bool.not_not (Op.bytesLess b.toList a.toList), ← this]
  simp [binOp, Op.stringOp]
theorem geq_str (t : TypeId) (a b : ByteArray) : binOp .geq t (.string a) (.string b) = pure (.bool !(Op.bytesLess a.toList b.toList)) := by
  simp [binOp, Op.stringOp]

end Go.Proofs.YticfkgjcklonmaaDoor.QFnExactReadRule
