-- MADE BY qprint.py, a program of this claim's session, over the kit's print: own text.
import Derived.Test.YticfkgjcklonmaaDoorQFnExactTracex0
import Derived.Test.YticfkgjcklonmaaDoorQFnExactTracex2
import Derived.Test.YticfkgjcklonmaaDoorQFnExactTracex3
namespace Go.Proofs.YticfkgjcklonmaaDoor.QFnExactTrace
open Go.RowKit Go.Proofs.YticfkgjcklonmaaDoorW.PrintWords Go.Proofs.YticfkgjcklonmaaDoorW.PrintLast Go.Proofs.YticfkgjcklonmaaDoorW.PrintMore
attribute [local go_sem] max2_int min2_int max_two min_two max_three min_three max_four min_four   -- for this text's walks alone
attribute [local go_sem high] leq_str gtr_str geq_str
set_option linter.unusedVariables false
set_option linter.unusedSimpArgs false

/-! ### spec_ShowEv: function 22 -/
def spec_ShowEv.f (k : Nat) (a0_0 : Int) (a0_1 : Int) (a0_2 : Int) (a0_3 : Int) (a0_4 : Int) (a0_5 : ByteArray) (a0_6 : Int) (a0_7 : Int) (a0_8 : Int) (a0_9 : Int) (a0_10 : Int) (a0_11 : Int) (l0_12 : List (S75)) : Option (ByteArray) := (spec_Dec.f k a0_3).bind fun t141 => (if t141.size + 2 ≤ 9223372036854775807 then ((spec_Dec.f k a0_1).bind fun t142 => (if (t141 ++ (⟨#[32, 116]⟩ : ByteArray)).size + t142.size ≤ 9223372036854775807 then (if ((t141 ++ (⟨#[32, 116]⟩ : ByteArray)) ++ t142).size + 2 ≤ 9223372036854775807 then ((spec_Dec.f k a0_2).bind fun t143 => (if (((t141 ++ (⟨#[32, 116]⟩ : ByteArray)) ++ t142) ++ (⟨#[32, 35]⟩ : ByteArray)).size + t143.size ≤ 9223372036854775807 then (if a0_0 = 1 then (if ((((t141 ++ (⟨#[32, 116]⟩ : ByteArray)) ++ t142) ++ (⟨#[32, 35]⟩ : ByteArray)) ++ t143).size + 6 ≤ 9223372036854775807 then ((spec_ShowOp.f k a0_4 a0_5 a0_6 a0_7).bind fun t144 => (if (((((t141 ++ (⟨#[32, 116]⟩ : ByteArray)) ++ t142) ++ (⟨#[32, 35]⟩ : ByteArray)) ++ t143) ++ (⟨#[32, 99, 97, 108, 108, 32]⟩ : ByteArray)).size + t144.size ≤ 9223372036854775807 then (some ((((((t141 ++ (⟨#[32, 116]⟩ : ByteArray)) ++ t142) ++ (⟨#[32, 35]⟩ : ByteArray)) ++ t143) ++ (⟨#[32, 99, 97, 108, 108, 32]⟩ : ByteArray)) ++ t144)) else (none))) else (none)) else (if a0_0 = 2 then (if a0_9 < 0 then (if ((((t141 ++ (⟨#[32, 116]⟩ : ByteArray)) ++ t142) ++ (⟨#[32, 35]⟩ : ByteArray)) ++ t143).size + 7 ≤ 9223372036854775807 then ((spec_CodeWord.f a0_8).bind fun t145 => (if (((((t141 ++ (⟨#[32, 116]⟩ : ByteArray)) ++ t142) ++ (⟨#[32, 35]⟩ : ByteArray)) ++ t143) ++ (⟨#[32, 112, 111, 105, 110, 116, 32]⟩ : ByteArray)).size + t145.size ≤ 9223372036854775807 then (some ((((((t141 ++ (⟨#[32, 116]⟩ : ByteArray)) ++ t142) ++ (⟨#[32, 35]⟩ : ByteArray)) ++ t143) ++ (⟨#[32, 112, 111, 105, 110, 116, 32]⟩ : ByteArray)) ++ t145)) else (none))) else (none)) else (if ((((t141 ++ (⟨#[32, 116]⟩ : ByteArray)) ++ t142) ++ (⟨#[32, 35]⟩ : ByteArray)) ++ t143).size + 7 ≤ 9223372036854775807 then ((spec_CodeWord.f a0_8).bind fun t146 => (if (((((t141 ++ (⟨#[32, 116]⟩ : ByteArray)) ++ t142) ++ (⟨#[32, 35]⟩ : ByteArray)) ++ t143) ++ (⟨#[32, 112, 111, 105, 110, 116, 32]⟩ : ByteArray)).size + t146.size ≤ 9223372036854775807 then (if ((((((t141 ++ (⟨#[32, 116]⟩ : ByteArray)) ++ t142) ++ (⟨#[32, 35]⟩ : ByteArray)) ++ t143) ++ (⟨#[32, 112, 111, 105, 110, 116, 32]⟩ : ByteArray)) ++ t146).size + 4 ≤ 9223372036854775807 then ((spec_Dec.f k a0_9).bind fun t147 => (if (((((((t141 ++ (⟨#[32, 116]⟩ : ByteArray)) ++ t142) ++ (⟨#[32, 35]⟩ : ByteArray)) ++ t143) ++ (⟨#[32, 112, 111, 105, 110, 116, 32]⟩ : ByteArray)) ++ t146) ++ (⟨#[32, 105, 110, 32]⟩ : ByteArray)).size + t147.size ≤ 9223372036854775807 then (some ((((((((t141 ++ (⟨#[32, 116]⟩ : ByteArray)) ++ t142) ++ (⟨#[32, 35]⟩ : ByteArray)) ++ t143) ++ (⟨#[32, 112, 111, 105, 110, 116, 32]⟩ : ByteArray)) ++ t146) ++ (⟨#[32, 105, 110, 32]⟩ : ByteArray)) ++ t147)) else (none))) else (none)) else (none))) else (none))) else (if a0_0 = 3 then (if ((((t141 ++ (⟨#[32, 116]⟩ : ByteArray)) ++ t142) ++ (⟨#[32, 35]⟩ : ByteArray)) ++ t143).size + 6 ≤ 9223372036854775807 then ((spec_CodeWord.f a0_8).bind fun t148 => (if (((((t141 ++ (⟨#[32, 116]⟩ : ByteArray)) ++ t142) ++ (⟨#[32, 35]⟩ : ByteArray)) ++ t143) ++ (⟨#[32, 116, 111, 108, 100, 32]⟩ : ByteArray)).size + t148.size ≤ 9223372036854775807 then (if ((((((t141 ++ (⟨#[32, 116]⟩ : ByteArray)) ++ t142) ++ (⟨#[32, 35]⟩ : ByteArray)) ++ t143) ++ (⟨#[32, 116, 111, 108, 100, 32]⟩ : ByteArray)) ++ t148).size + 1 ≤ 9223372036854775807 then ((spec_Dec.f k (l0_12.length : Int)).bind fun t149 => (if (((((((t141 ++ (⟨#[32, 116]⟩ : ByteArray)) ++ t142) ++ (⟨#[32, 35]⟩ : ByteArray)) ++ t143) ++ (⟨#[32, 116, 111, 108, 100, 32]⟩ : ByteArray)) ++ t148) ++ (⟨#[32]⟩ : ByteArray)).size + t149.size ≤ 9223372036854775807 then (if ((((((((t141 ++ (⟨#[32, 116]⟩ : ByteArray)) ++ t142) ++ (⟨#[32, 35]⟩ : ByteArray)) ++ t143) ++ (⟨#[32, 116, 111, 108, 100, 32]⟩ : ByteArray)) ++ t148) ++ (⟨#[32]⟩ : ByteArray)) ++ t149).size + 5 ≤ 9223372036854775807 then (some (((((((((t141 ++ (⟨#[32, 116]⟩ : ByteArray)) ++ t142) ++ (⟨#[32, 35]⟩ : ByteArray)) ++ t143) ++ (⟨#[32, 116, 111, 108, 100, 32]⟩ : ByteArray)) ++ t148) ++ (⟨#[32]⟩ : ByteArray)) ++ t149) ++ (⟨#[32, 114, 111, 119, 115]⟩ : ByteArray))) else (none)) else (none))) else (none)) else (none))) else (none)) else (some (⟨#[]⟩ : ByteArray))))) else (none))) else (none)) else (none))) else (none))
theorem spec_ShowEv.mono : ∀ a0 a1 a2 a3 a4 a5 a6 a7 a8 a9 a10 a11 a12 k, LeO (spec_ShowEv.f k a0 a1 a2 a3 a4 a5 a6 a7 a8 a9 a10 a11 a12) (spec_ShowEv.f (k + 1) a0 a1 a2 a3 a4 a5 a6 a7 a8 a9 a10 a11 a12) := by
 intro a0 a1 a2 a3 a4 a5 a6 a7 a8 a9 a10 a11 a12 k
 unfold spec_ShowEv.f
 repeat' first
   | (with_reducible exact spec_Dec.mono _ _)
   | (with_reducible exact spec_ShowOp.mono _ _ _ _ _)
   | (with_reducible exact LeO.refl _)
   | (with_reducible exact LeO.none _)
   | (with_reducible refine LeO.ite ?_ ?_)
   | (with_reducible refine LeO.bind ?_ (fun _ => ?_))
   | exact spec_Dec.mono _ _
   | exact spec_ShowOp.mono _ _ _ _ _
   | exact LeO.none _
   | refine LeO.ite ?_ ?_
   | refine LeO.bind ?_ (fun _ => ?_)
def spec_ShowEv.T1 : Bool × List (List Nat × List Nat) := (true, [([], []), ([0], [0]), ([1], [1]), ([2], [2]), ([], []), ([4], [4]), ([5, 2], [5]), ([3, 6], [3, 6]), ([7], [7]), ([], []), ([9], [9]), ([10, 6], [10]), ([8, 11], [8, 11]), ([12, 11, 0, 1, 2, 3, 4, 5, 6, 7, 8, 9, 10, 11, 12], [12])])
def spec_ShowEv.B1 : List Nat := [0, 1, 3, 7, 0, 16, 55, 127, 255, 0, 512, 1655, 4095, 8191]
theorem spec_ShowEv.tab1 : rtab .any (opsOf Tryd.f22 1) = spec_ShowEv.T1 := by kernel_rfl
theorem spec_ShowEv.bits1 : waitsOk spec_ShowEv.T1.2 spec_ShowEv.B1 = true := by kernel_rfl
def spec_ShowEv.T8 : Bool × List (List Nat × List Nat) := (true, [([], []), ([0], [0]), ([], []), ([2], [2]), ([3], [3]), ([1, 4], [1, 4]), ([5], [5]), ([], []), ([7], [7]), ([8, 4], [8]), ([6, 9], [6, 9]), ([10, 9, 0, 1, 2, 3, 4, 5, 6, 7, 8, 9, 10], [10])])
def spec_ShowEv.B8 : List Nat := [0, 1, 0, 4, 12, 31, 63, 0, 128, 412, 1023, 2047]
theorem spec_ShowEv.tab8 : rtab .any (opsOf Tryd.f22 8) = spec_ShowEv.T8 := by kernel_rfl
theorem spec_ShowEv.bits8 : waitsOk spec_ShowEv.T8.2 spec_ShowEv.B8 = true := by kernel_rfl
def spec_ShowEv.T10 : Bool × List (List Nat × List Nat) := (true, [([], []), ([0], [0]), ([], []), ([2], [2]), ([3], [3]), ([1, 4], [1, 4]), ([5], [5]), ([], []), ([7], [7]), ([8], [8]), ([9, 4], [9]), ([6, 10], [6, 10]), ([11], [11]), ([12, 10, 0, 1, 2, 3, 4, 5, 6, 7, 8, 9, 10, 11, 12], [12])])
def spec_ShowEv.B10 : List Nat := [0, 1, 0, 4, 12, 31, 63, 0, 128, 384, 924, 2047, 4095, 8191]
theorem spec_ShowEv.tab10 : rtab .any (opsOf Tryd.f22 10) = spec_ShowEv.T10 := by kernel_rfl
theorem spec_ShowEv.bits10 : waitsOk spec_ShowEv.T10.2 spec_ShowEv.B10 = true := by kernel_rfl
set_option maxHeartbeats 8000000 in
set_option maxRecDepth 100000 in
theorem spec_ShowEv.calls (k : Nat) (a0_0 : Int) (a0_1 : Int) (a0_2 : Int) (a0_3 : Int) (a0_4 : Int) (a0_5 : ByteArray) (a0_6 : Int) (a0_7 : Int) (a0_8 : Int) (a0_9 : Int) (a0_10 : Int) (a0_11 : Int) (A0_12 : Option Addr) (c0_12 : Nat) (l0_12 : List (S75)) (r : ByteArray) (w : World) (hr0_12 : Kd.C k75 w A0_12 l0_12.length l0_12) (hc0_12 : l0_12.length ≤ c0_12) (h : spec_ShowEv.f k a0_0 a0_1 a0_2 a0_3 a0_4 a0_5 a0_6 a0_7 a0_8 a0_9 a0_10 a0_11 l0_12 = some r) :
  Calls Tryd.prog 22 #[.agg #[.int .i64 a0_0, .int .i64 a0_1, .int .i64 a0_2, .int .i64 a0_3, .int .i64 a0_4, .string a0_5, .int .i64 a0_6, .int .i64 a0_7, .int .i64 a0_8, .int .i64 a0_9, .int .i64 a0_10, .int .i64 a0_11, .slice A0_12 l0_12.length c0_12]] w fun e w' => e = .returned (.string r) ∧ Below w.heap.size w w' := by
 have hu52 := Tryd.underlying52
 have hu34 := Tryd.underlying34
 have HR0_12 := Aside0.mk hr0_12
 have HC0_12 := Aside0.mk hc0_12
 clear hr0_12 hc0_12
 have HB := Aside0.mk (Below.refl w.heap.size w)
 have H : ((spec_Dec.f k a0_3).bind fun t141 => (if t141.size + 2 ≤ 9223372036854775807 then ((spec_Dec.f k a0_1).bind fun t142 => (if (t141 ++ (⟨#[32, 116]⟩ : ByteArray)).size + t142.size ≤ 9223372036854775807 then (if ((t141 ++ (⟨#[32, 116]⟩ : ByteArray)) ++ t142).size + 2 ≤ 9223372036854775807 then ((spec_Dec.f k a0_2).bind fun t143 => (if (((t141 ++ (⟨#[32, 116]⟩ : ByteArray)) ++ t142) ++ (⟨#[32, 35]⟩ : ByteArray)).size + t143.size ≤ 9223372036854775807 then (if a0_0 = 1 then (if ((((t141 ++ (⟨#[32, 116]⟩ : ByteArray)) ++ t142) ++ (⟨#[32, 35]⟩ : ByteArray)) ++ t143).size + 6 ≤ 9223372036854775807 then ((spec_ShowOp.f k a0_4 a0_5 a0_6 a0_7).bind fun t144 => (if (((((t141 ++ (⟨#[32, 116]⟩ : ByteArray)) ++ t142) ++ (⟨#[32, 35]⟩ : ByteArray)) ++ t143) ++ (⟨#[32, 99, 97, 108, 108, 32]⟩ : ByteArray)).size + t144.size ≤ 9223372036854775807 then (some ((((((t141 ++ (⟨#[32, 116]⟩ : ByteArray)) ++ t142) ++ (⟨#[32, 35]⟩ : ByteArray)) ++ t143) ++ (⟨#[32, 99, 97, 108, 108, 32]⟩ : ByteArray)) ++ t144)) else (none))) else (none)) else (if a0_0 = 2 then (if a0_9 < 0 then (if ((((t141 ++ (⟨#[32, 116]⟩ : ByteArray)) ++ t142) ++ (⟨#[32, 35]⟩ : ByteArray)) ++ t143).size + 7 ≤ 9223372036854775807 then ((spec_CodeWord.f a0_8).bind fun t145 => (if (((((t141 ++ (⟨#[32, 116]⟩ : ByteArray)) ++ t142) ++ (⟨#[32, 35]⟩ : ByteArray)) ++ t143) ++ (⟨#[32, 112, 111, 105, 110, 116, 32]⟩ : ByteArray)).size + t145.size ≤ 9223372036854775807 then (some ((((((t141 ++ (⟨#[32, 116]⟩ : ByteArray)) ++ t142) ++ (⟨#[32, 35]⟩ : ByteArray)) ++ t143) ++ (⟨#[32, 112, 111, 105, 110, 116, 32]⟩ : ByteArray)) ++ t145)) else (none))) else (none)) else (if ((((t141 ++ (⟨#[32, 116]⟩ : ByteArray)) ++ t142) ++ (⟨#[32, 35]⟩ : ByteArray)) ++ t143).size + 7 ≤ 9223372036854775807 then ((spec_CodeWord.f a0_8).bind fun t146 => (if (((((t141 ++ (⟨#[32, 116]⟩ : ByteArray)) ++ t142) ++ (⟨#[32, 35]⟩ : ByteArray)) ++ t143) ++ (⟨#[32, 112, 111, 105, 110, 116, 32]⟩ : ByteArray)).size + t146.size ≤ 9223372036854775807 then (if ((((((t141 ++ (⟨#[32, 116]⟩ : ByteArray)) ++ t142) ++ (⟨#[32, 35]⟩ : ByteArray)) ++ t143) ++ (⟨#[32, 112, 111, 105, 110, 116, 32]⟩ : ByteArray)) ++ t146).size + 4 ≤ 9223372036854775807 then ((spec_Dec.f k a0_9).bind fun t147 => (if (((((((t141 ++ (⟨#[32, 116]⟩ : ByteArray)) ++ t142) ++ (⟨#[32, 35]⟩ : ByteArray)) ++ t143) ++ (⟨#[32, 112, 111, 105, 110, 116, 32]⟩ : ByteArray)) ++ t146) ++ (⟨#[32, 105, 110, 32]⟩ : ByteArray)).size + t147.size ≤ 9223372036854775807 then (some ((((((((t141 ++ (⟨#[32, 116]⟩ : ByteArray)) ++ t142) ++ (⟨#[32, 35]⟩ : ByteArray)) ++ t143) ++ (⟨#[32, 112, 111, 105, 110, 116, 32]⟩ : ByteArray)) ++ t146) ++ (⟨#[32, 105, 110, 32]⟩ : ByteArray)) ++ t147)) else (none))) else (none)) else (none))) else (none))) else (if a0_0 = 3 then (if ((((t141 ++ (⟨#[32, 116]⟩ : ByteArray)) ++ t142) ++ (⟨#[32, 35]⟩ : ByteArray)) ++ t143).size + 6 ≤ 9223372036854775807 then ((spec_CodeWord.f a0_8).bind fun t148 => (if (((((t141 ++ (⟨#[32, 116]⟩ : ByteArray)) ++ t142) ++ (⟨#[32, 35]⟩ : ByteArray)) ++ t143) ++ (⟨#[32, 116, 111, 108, 100, 32]⟩ : ByteArray)).size + t148.size ≤ 9223372036854775807 then (if ((((((t141 ++ (⟨#[32, 116]⟩ : ByteArray)) ++ t142) ++ (⟨#[32, 35]⟩ : ByteArray)) ++ t143) ++ (⟨#[32, 116, 111, 108, 100, 32]⟩ : ByteArray)) ++ t148).size + 1 ≤ 9223372036854775807 then ((spec_Dec.f k (l0_12.length : Int)).bind fun t149 => (if (((((((t141 ++ (⟨#[32, 116]⟩ : ByteArray)) ++ t142) ++ (⟨#[32, 35]⟩ : ByteArray)) ++ t143) ++ (⟨#[32, 116, 111, 108, 100, 32]⟩ : ByteArray)) ++ t148) ++ (⟨#[32]⟩ : ByteArray)).size + t149.size ≤ 9223372036854775807 then (if ((((((((t141 ++ (⟨#[32, 116]⟩ : ByteArray)) ++ t142) ++ (⟨#[32, 35]⟩ : ByteArray)) ++ t143) ++ (⟨#[32, 116, 111, 108, 100, 32]⟩ : ByteArray)) ++ t148) ++ (⟨#[32]⟩ : ByteArray)) ++ t149).size + 5 ≤ 9223372036854775807 then (some (((((((((t141 ++ (⟨#[32, 116]⟩ : ByteArray)) ++ t142) ++ (⟨#[32, 35]⟩ : ByteArray)) ++ t143) ++ (⟨#[32, 116, 111, 108, 100, 32]⟩ : ByteArray)) ++ t148) ++ (⟨#[32]⟩ : ByteArray)) ++ t149) ++ (⟨#[32, 114, 111, 119, 115]⟩ : ByteArray))) else (none)) else (none))) else (none)) else (none))) else (none)) else (some (⟨#[]⟩ : ByteArray))))) else (none))) else (none)) else (none))) else (none))) = some r := h
 clear h
 replace H := Option.bind_eq_some_iff.mp H
 obtain ⟨t141, A20, H⟩ := H
 replace H : (if t141.size + 2 ≤ 9223372036854775807 then ((spec_Dec.f k a0_1).bind fun t142 => (if (t141 ++ (⟨#[32, 116]⟩ : ByteArray)).size + t142.size ≤ 9223372036854775807 then (if ((t141 ++ (⟨#[32, 116]⟩ : ByteArray)) ++ t142).size + 2 ≤ 9223372036854775807 then ((spec_Dec.f k a0_2).bind fun t143 => (if (((t141 ++ (⟨#[32, 116]⟩ : ByteArray)) ++ t142) ++ (⟨#[32, 35]⟩ : ByteArray)).size + t143.size ≤ 9223372036854775807 then (if a0_0 = 1 then (if ((((t141 ++ (⟨#[32, 116]⟩ : ByteArray)) ++ t142) ++ (⟨#[32, 35]⟩ : ByteArray)) ++ t143).size + 6 ≤ 9223372036854775807 then ((spec_ShowOp.f k a0_4 a0_5 a0_6 a0_7).bind fun t144 => (if (((((t141 ++ (⟨#[32, 116]⟩ : ByteArray)) ++ t142) ++ (⟨#[32, 35]⟩ : ByteArray)) ++ t143) ++ (⟨#[32, 99, 97, 108, 108, 32]⟩ : ByteArray)).size + t144.size ≤ 9223372036854775807 then (some ((((((t141 ++ (⟨#[32, 116]⟩ : ByteArray)) ++ t142) ++ (⟨#[32, 35]⟩ : ByteArray)) ++ t143) ++ (⟨#[32, 99, 97, 108, 108, 32]⟩ : ByteArray)) ++ t144)) else (none))) else (none)) else (if a0_0 = 2 then (if a0_9 < 0 then (if ((((t141 ++ (⟨#[32, 116]⟩ : ByteArray)) ++ t142) ++ (⟨#[32, 35]⟩ : ByteArray)) ++ t143).size + 7 ≤ 9223372036854775807 then ((spec_CodeWord.f a0_8).bind fun t145 => (if (((((t141 ++ (⟨#[32, 116]⟩ : ByteArray)) ++ t142) ++ (⟨#[32, 35]⟩ : ByteArray)) ++ t143) ++ (⟨#[32, 112, 111, 105, 110, 116, 32]⟩ : ByteArray)).size + t145.size ≤ 9223372036854775807 then (some ((((((t141 ++ (⟨#[32, 116]⟩ : ByteArray)) ++ t142) ++ (⟨#[32, 35]⟩ : ByteArray)) ++ t143) ++ (⟨#[32, 112, 111, 105, 110, 116, 32]⟩ : ByteArray)) ++ t145)) else (none))) else (none)) else (if ((((t141 ++ (⟨#[32, 116]⟩ : ByteArray)) ++ t142) ++ (⟨#[32, 35]⟩ : ByteArray)) ++ t143).size + 7 ≤ 9223372036854775807 then ((spec_CodeWord.f a0_8).bind fun t146 => (if (((((t141 ++ (⟨#[32, 116]⟩ : ByteArray)) ++ t142) ++ (⟨#[32, 35]⟩ : ByteArray)) ++ t143) ++ (⟨#[32, 112, 111, 105, 110, 116, 32]⟩ : ByteArray)).size + t146.size ≤ 9223372036854775807 then (if ((((((t141 ++ (⟨#[32, 116]⟩ : ByteArray)) ++ t142) ++ (⟨#[32, 35]⟩ : ByteArray)) ++ t143) ++ (⟨#[32, 112, 111, 105, 110, 116, 32]⟩ : ByteArray)) ++ t146).size + 4 ≤ 9223372036854775807 then ((spec_Dec.f k a0_9).bind fun t147 => (if (((((((t141 ++ (⟨#[32, 116]⟩ : ByteArray)) ++ t142) ++ (⟨#[32, 35]⟩ : ByteArray)) ++ t143) ++ (⟨#[32, 112, 111, 105, 110, 116, 32]⟩ : ByteArray)) ++ t146) ++ (⟨#[32, 105, 110, 32]⟩ : ByteArray)).size + t147.size ≤ 9223372036854775807 then (some ((((((((t141 ++ (⟨#[32, 116]⟩ : ByteArray)) ++ t142) ++ (⟨#[32, 35]⟩ : ByteArray)) ++ t143) ++ (⟨#[32, 112, 111, 105, 110, 116, 32]⟩ : ByteArray)) ++ t146) ++ (⟨#[32, 105, 110, 32]⟩ : ByteArray)) ++ t147)) else (none))) else (none)) else (none))) else (none))) else (if a0_0 = 3 then (if ((((t141 ++ (⟨#[32, 116]⟩ : ByteArray)) ++ t142) ++ (⟨#[32, 35]⟩ : ByteArray)) ++ t143).size + 6 ≤ 9223372036854775807 then ((spec_CodeWord.f a0_8).bind fun t148 => (if (((((t141 ++ (⟨#[32, 116]⟩ : ByteArray)) ++ t142) ++ (⟨#[32, 35]⟩ : ByteArray)) ++ t143) ++ (⟨#[32, 116, 111, 108, 100, 32]⟩ : ByteArray)).size + t148.size ≤ 9223372036854775807 then (if ((((((t141 ++ (⟨#[32, 116]⟩ : ByteArray)) ++ t142) ++ (⟨#[32, 35]⟩ : ByteArray)) ++ t143) ++ (⟨#[32, 116, 111, 108, 100, 32]⟩ : ByteArray)) ++ t148).size + 1 ≤ 9223372036854775807 then ((spec_Dec.f k (l0_12.length : Int)).bind fun t149 => (if (((((((t141 ++ (⟨#[32, 116]⟩ : ByteArray)) ++ t142) ++ (⟨#[32, 35]⟩ : ByteArray)) ++ t143) ++ (⟨#[32, 116, 111, 108, 100, 32]⟩ : ByteArray)) ++ t148) ++ (⟨#[32]⟩ : ByteArray)).size + t149.size ≤ 9223372036854775807 then (if ((((((((t141 ++ (⟨#[32, 116]⟩ : ByteArray)) ++ t142) ++ (⟨#[32, 35]⟩ : ByteArray)) ++ t143) ++ (⟨#[32, 116, 111, 108, 100, 32]⟩ : ByteArray)) ++ t148) ++ (⟨#[32]⟩ : ByteArray)) ++ t149).size + 5 ≤ 9223372036854775807 then (some (((((((((t141 ++ (⟨#[32, 116]⟩ : ByteArray)) ++ t142) ++ (⟨#[32, 35]⟩ : ByteArray)) ++ t143) ++ (⟨#[32, 116, 111, 108, 100, 32]⟩ : ByteArray)) ++ t148) ++ (⟨#[32]⟩ : ByteArray)) ++ t149) ++ (⟨#[32, 114, 111, 119, 115]⟩ : ByteArray))) else (none)) else (none))) else (none)) else (none))) else (none)) else (some (⟨#[]⟩ : ByteArray))))) else (none))) else (none)) else (none))) else (none)) = some r := H
 have A2 := Aside0.mk A20
 clear A20
 by_cases c3 : t141.size + 2 ≤ 9223372036854775807
 ·rw [if_pos c3] at H
  have c3b0 := eq_true c3
  have c3b1 : decide (t141.size + 2 ≤ 9223372036854775807) = true := decide_eq_true c3
  try have c3b2 : (9223372036854775807 < t141.size + 2) = False := eq_false (Nat.not_lt.2 c3)
  replace H := Option.bind_eq_some_iff.mp H
  obtain ⟨t142, A40, H⟩ := H
  replace H : (if (t141 ++ (⟨#[32, 116]⟩ : ByteArray)).size + t142.size ≤ 9223372036854775807 then (if ((t141 ++ (⟨#[32, 116]⟩ : ByteArray)) ++ t142).size + 2 ≤ 9223372036854775807 then ((spec_Dec.f k a0_2).bind fun t143 => (if (((t141 ++ (⟨#[32, 116]⟩ : ByteArray)) ++ t142) ++ (⟨#[32, 35]⟩ : ByteArray)).size + t143.size ≤ 9223372036854775807 then (if a0_0 = 1 then (if ((((t141 ++ (⟨#[32, 116]⟩ : ByteArray)) ++ t142) ++ (⟨#[32, 35]⟩ : ByteArray)) ++ t143).size + 6 ≤ 9223372036854775807 then ((spec_ShowOp.f k a0_4 a0_5 a0_6 a0_7).bind fun t144 => (if (((((t141 ++ (⟨#[32, 116]⟩ : ByteArray)) ++ t142) ++ (⟨#[32, 35]⟩ : ByteArray)) ++ t143) ++ (⟨#[32, 99, 97, 108, 108, 32]⟩ : ByteArray)).size + t144.size ≤ 9223372036854775807 then (some ((((((t141 ++ (⟨#[32, 116]⟩ : ByteArray)) ++ t142) ++ (⟨#[32, 35]⟩ : ByteArray)) ++ t143) ++ (⟨#[32, 99, 97, 108, 108, 32]⟩ : ByteArray)) ++ t144)) else (none))) else (none)) else (if a0_0 = 2 then (if a0_9 < 0 then (if ((((t141 ++ (⟨#[32, 116]⟩ : ByteArray)) ++ t142) ++ (⟨#[32, 35]⟩ : ByteArray)) ++ t143).size + 7 ≤ 9223372036854775807 then ((spec_CodeWord.f a0_8).bind fun t145 => (if (((((t141 ++ (⟨#[32, 116]⟩ : ByteArray)) ++ t142) ++ (⟨#[32, 35]⟩ : ByteArray)) ++ t143) ++ (⟨#[32, 112, 111, 105, 110, 116, 32]⟩ : ByteArray)).size + t145.size ≤ 9223372036854775807 then (some ((((((t141 ++ (⟨#[32, 116]⟩ : ByteArray)) ++ t142) ++ (⟨#[32, 35]⟩ : ByteArray)) ++ t143) ++ (⟨#[32, 112, 111, 105, 110, 116, 32]⟩ : ByteArray)) ++ t145)) else (none))) else (none)) else (if ((((t141 ++ (⟨#[32, 116]⟩ : ByteArray)) ++ t142) ++ (⟨#[32, 35]⟩ : ByteArray)) ++ t143).size + 7 ≤ 9223372036854775807 then ((spec_CodeWord.f a0_8).bind fun t146 => (if (((((t141 ++ (⟨#[32, 116]⟩ : ByteArray)) ++ t142) ++ (⟨#[32, 35]⟩ : ByteArray)) ++ t143) ++ (⟨#[32, 112, 111, 105, 110, 116, 32]⟩ : ByteArray)).size + t146.size ≤ 9223372036854775807 then (if ((((((t141 ++ (⟨#[32, 116]⟩ : ByteArray)) ++ t142) ++ (⟨#[32, 35]⟩ : ByteArray)) ++ t143) ++ (⟨#[32, 112, 111, 105, 110, 116, 32]⟩ : ByteArray)) ++ t146).size + 4 ≤ 9223372036854775807 then ((spec_Dec.f k a0_9).bind fun t147 => (if (((((((t141 ++ (⟨#[32, 116]⟩ : ByteArray)) ++ t142) ++ (⟨#[32, 35]⟩ : ByteArray)) ++ t143) ++ (⟨#[32, 112, 111, 105, 110, 116, 32]⟩ : ByteArray)) ++ t146) ++ (⟨#[32, 105, 110, 32]⟩ : ByteArray)).size + t147.size ≤ 9223372036854775807 then (some ((((((((t141 ++ (⟨#[32, 116]⟩ : ByteArray)) ++ t142) ++ (⟨#[32, 35]⟩ : ByteArray)) ++ t143) ++ (⟨#[32, 112, 111, 105, 110, 116, 32]⟩ : ByteArray)) ++ t146) ++ (⟨#[32, 105, 110, 32]⟩ : ByteArray)) ++ t147)) else (none))) else (none)) else (none))) else (none))) else (if a0_0 = 3 then (if ((((t141 ++ (⟨#[32, 116]⟩ : ByteArray)) ++ t142) ++ (⟨#[32, 35]⟩ : ByteArray)) ++ t143).size + 6 ≤ 9223372036854775807 then ((spec_CodeWord.f a0_8).bind fun t148 => (if (((((t141 ++ (⟨#[32, 116]⟩ : ByteArray)) ++ t142) ++ (⟨#[32, 35]⟩ : ByteArray)) ++ t143) ++ (⟨#[32, 116, 111, 108, 100, 32]⟩ : ByteArray)).size + t148.size ≤ 9223372036854775807 then (if ((((((t141 ++ (⟨#[32, 116]⟩ : ByteArray)) ++ t142) ++ (⟨#[32, 35]⟩ : ByteArray)) ++ t143) ++ (⟨#[32, 116, 111, 108, 100, 32]⟩ : ByteArray)) ++ t148).size + 1 ≤ 9223372036854775807 then ((spec_Dec.f k (l0_12.length : Int)).bind fun t149 => (if (((((((t141 ++ (⟨#[32, 116]⟩ : ByteArray)) ++ t142) ++ (⟨#[32, 35]⟩ : ByteArray)) ++ t143) ++ (⟨#[32, 116, 111, 108, 100, 32]⟩ : ByteArray)) ++ t148) ++ (⟨#[32]⟩ : ByteArray)).size + t149.size ≤ 9223372036854775807 then (if ((((((((t141 ++ (⟨#[32, 116]⟩ : ByteArray)) ++ t142) ++ (⟨#[32, 35]⟩ : ByteArray)) ++ t143) ++ (⟨#[32, 116, 111, 108, 100, 32]⟩ : ByteArray)) ++ t148) ++ (⟨#[32]⟩ : ByteArray)) ++ t149).size + 5 ≤ 9223372036854775807 then (some (((((((((t141 ++ (⟨#[32, 116]⟩ : ByteArray)) ++ t142) ++ (⟨#[32, 35]⟩ : ByteArray)) ++ t143) ++ (⟨#[32, 116, 111, 108, 100, 32]⟩ : ByteArray)) ++ t148) ++ (⟨#[32]⟩ : ByteArray)) ++ t149) ++ (⟨#[32, 114, 111, 119, 115]⟩ : ByteArray))) else (none)) else (none))) else (none)) else (none))) else (none)) else (some (⟨#[]⟩ : ByteArray))))) else (none))) else (none)) else (none)) = some r := H
  have A4 := Aside0.mk A40
  clear A40
  by_cases c5 : (t141 ++ (⟨#[32, 116]⟩ : ByteArray)).size + t142.size ≤ 9223372036854775807
  ·rw [if_pos c5] at H
   have c5b0 := eq_true c5
   have c5b1 : decide ((t141 ++ (⟨#[32, 116]⟩ : ByteArray)).size + t142.size ≤ 9223372036854775807) = true := decide_eq_true c5
   try have c5b2 : (9223372036854775807 < (t141 ++ (⟨#[32, 116]⟩ : ByteArray)).size + t142.size) = False := eq_false (Nat.not_lt.2 c5)
   try (have c5n := c5; simp only [ByteArray.size_append, show (⟨#[32, 116]⟩ : ByteArray).size = 2 from rfl] at c5n; have c5b3 := eq_false (Nat.not_lt.2 c5n); have c5b4 := eq_true c5n; clear c5n)
   by_cases c6 : ((t141 ++ (⟨#[32, 116]⟩ : ByteArray)) ++ t142).size + 2 ≤ 9223372036854775807
   ·rw [if_pos c6] at H
    have c6b0 := eq_true c6
    have c6b1 : decide (((t141 ++ (⟨#[32, 116]⟩ : ByteArray)) ++ t142).size + 2 ≤ 9223372036854775807) = true := decide_eq_true c6
    try have c6b2 : (9223372036854775807 < ((t141 ++ (⟨#[32, 116]⟩ : ByteArray)) ++ t142).size + 2) = False := eq_false (Nat.not_lt.2 c6)
    try (have c6n := c6; simp only [ByteArray.size_append, show (⟨#[32, 116]⟩ : ByteArray).size = 2 from rfl] at c6n; have c6b3 := eq_false (Nat.not_lt.2 c6n); have c6b4 := eq_true c6n; clear c6n)
    replace H := Option.bind_eq_some_iff.mp H
    obtain ⟨t143, A70, H⟩ := H
    replace H : (if (((t141 ++ (⟨#[32, 116]⟩ : ByteArray)) ++ t142) ++ (⟨#[32, 35]⟩ : ByteArray)).size + t143.size ≤ 9223372036854775807 then (if a0_0 = 1 then (if ((((t141 ++ (⟨#[32, 116]⟩ : ByteArray)) ++ t142) ++ (⟨#[32, 35]⟩ : ByteArray)) ++ t143).size + 6 ≤ 9223372036854775807 then ((spec_ShowOp.f k a0_4 a0_5 a0_6 a0_7).bind fun t144 => (if (((((t141 ++ (⟨#[32, 116]⟩ : ByteArray)) ++ t142) ++ (⟨#[32, 35]⟩ : ByteArray)) ++ t143) ++ (⟨#[32, 99, 97, 108, 108, 32]⟩ : ByteArray)).size + t144.size ≤ 9223372036854775807 then (some ((((((t141 ++ (⟨#[32, 116]⟩ : ByteArray)) ++ t142) ++ (⟨#[32, 35]⟩ : ByteArray)) ++ t143) ++ (⟨#[32, 99, 97, 108, 108, 32]⟩ : ByteArray)) ++ t144)) else (none))) else (none)) else (if a0_0 = 2 then (if a0_9 < 0 then (if ((((t141 ++ (⟨#[32, 116]⟩ : ByteArray)) ++ t142) ++ (⟨#[32, 35]⟩ : ByteArray)) ++ t143).size + 7 ≤ 9223372036854775807 then ((spec_CodeWord.f a0_8).bind fun t145 => (if (((((t141 ++ (⟨#[32, 116]⟩ : ByteArray)) ++ t142) ++ (⟨#[32, 35]⟩ : ByteArray)) ++ t143) ++ (⟨#[32, 112, 111, 105, 110, 116, 32]⟩ : ByteArray)).size + t145.size ≤ 9223372036854775807 then (some ((((((t141 ++ (⟨#[32, 116]⟩ : ByteArray)) ++ t142) ++ (⟨#[32, 35]⟩ : ByteArray)) ++ t143) ++ (⟨#[32, 112, 111, 105, 110, 116, 32]⟩ : ByteArray)) ++ t145)) else (none))) else (none)) else (if ((((t141 ++ (⟨#[32, 116]⟩ : ByteArray)) ++ t142) ++ (⟨#[32, 35]⟩ : ByteArray)) ++ t143).size + 7 ≤ 9223372036854775807 then ((spec_CodeWord.f a0_8).bind fun t146 => (if (((((t141 ++ (⟨#[32, 116]⟩ : ByteArray)) ++ t142) ++ (⟨#[32, 35]⟩ : ByteArray)) ++ t143) ++ (⟨#[32, 112, 111, 105, 110, 116, 32]⟩ : ByteArray)).size + t146.size ≤ 9223372036854775807 then (if ((((((t141 ++ (⟨#[32, 116]⟩ : ByteArray)) ++ t142) ++ (⟨#[32, 35]⟩ : ByteArray)) ++ t143) ++ (⟨#[32, 112, 111, 105, 110, 116, 32]⟩ : ByteArray)) ++ t146).size + 4 ≤ 9223372036854775807 then ((spec_Dec.f k a0_9).bind fun t147 => (if (((((((t141 ++ (⟨#[32, 116]⟩ : ByteArray)) ++ t142) ++ (⟨#[32, 35]⟩ : ByteArray)) ++ t143) ++ (⟨#[32, 112, 111, 105, 110, 116, 32]⟩ : ByteArray)) ++ t146) ++ (⟨#[32, 105, 110, 32]⟩ : ByteArray)).size + t147.size ≤ 9223372036854775807 then (some ((((((((t141 ++ (⟨#[32, 116]⟩ : ByteArray)) ++ t142) ++ (⟨#[32, 35]⟩ : ByteArray)) ++ t143) ++ (⟨#[32, 112, 111, 105, 110, 116, 32]⟩ : ByteArray)) ++ t146) ++ (⟨#[32, 105, 110, 32]⟩ : ByteArray)) ++ t147)) else (none))) else (none)) else (none))) else (none))) else (if a0_0 = 3 then (if ((((t141 ++ (⟨#[32, 116]⟩ : ByteArray)) ++ t142) ++ (⟨#[32, 35]⟩ : ByteArray)) ++ t143).size + 6 ≤ 9223372036854775807 then ((spec_CodeWord.f a0_8).bind fun t148 => (if (((((t141 ++ (⟨#[32, 116]⟩ : ByteArray)) ++ t142) ++ (⟨#[32, 35]⟩ : ByteArray)) ++ t143) ++ (⟨#[32, 116, 111, 108, 100, 32]⟩ : ByteArray)).size + t148.size ≤ 9223372036854775807 then (if ((((((t141 ++ (⟨#[32, 116]⟩ : ByteArray)) ++ t142) ++ (⟨#[32, 35]⟩ : ByteArray)) ++ t143) ++ (⟨#[32, 116, 111, 108, 100, 32]⟩ : ByteArray)) ++ t148).size + 1 ≤ 9223372036854775807 then ((spec_Dec.f k (l0_12.length : Int)).bind fun t149 => (if (((((((t141 ++ (⟨#[32, 116]⟩ : ByteArray)) ++ t142) ++ (⟨#[32, 35]⟩ : ByteArray)) ++ t143) ++ (⟨#[32, 116, 111, 108, 100, 32]⟩ : ByteArray)) ++ t148) ++ (⟨#[32]⟩ : ByteArray)).size + t149.size ≤ 9223372036854775807 then (if ((((((((t141 ++ (⟨#[32, 116]⟩ : ByteArray)) ++ t142) ++ (⟨#[32, 35]⟩ : ByteArray)) ++ t143) ++ (⟨#[32, 116, 111, 108, 100, 32]⟩ : ByteArray)) ++ t148) ++ (⟨#[32]⟩ : ByteArray)) ++ t149).size + 5 ≤ 9223372036854775807 then (some (((((((((t141 ++ (⟨#[32, 116]⟩ : ByteArray)) ++ t142) ++ (⟨#[32, 35]⟩ : ByteArray)) ++ t143) ++ (⟨#[32, 116, 111, 108, 100, 32]⟩ : ByteArray)) ++ t148) ++ (⟨#[32]⟩ : ByteArray)) ++ t149) ++ (⟨#[32, 114, 111, 119, 115]⟩ : ByteArray))) else (none)) else (none))) else (none)) else (none))) else (none)) else (some (⟨#[]⟩ : ByteArray))))) else (none)) = some r := H
    have A7 := Aside0.mk A70
    clear A70
    by_cases c8 : (((t141 ++ (⟨#[32, 116]⟩ : ByteArray)) ++ t142) ++ (⟨#[32, 35]⟩ : ByteArray)).size + t143.size ≤ 9223372036854775807
    ·rw [if_pos c8] at H
     have c8b0 := eq_true c8
     have c8b1 : decide ((((t141 ++ (⟨#[32, 116]⟩ : ByteArray)) ++ t142) ++ (⟨#[32, 35]⟩ : ByteArray)).size + t143.size ≤ 9223372036854775807) = true := decide_eq_true c8
     try have c8b2 : (9223372036854775807 < (((t141 ++ (⟨#[32, 116]⟩ : ByteArray)) ++ t142) ++ (⟨#[32, 35]⟩ : ByteArray)).size + t143.size) = False := eq_false (Nat.not_lt.2 c8)
     try (have c8n := c8; simp only [ByteArray.size_append, show (⟨#[32, 116]⟩ : ByteArray).size = 2 from rfl, show (⟨#[32, 35]⟩ : ByteArray).size = 2 from rfl] at c8n; have c8b3 := eq_false (Nat.not_lt.2 c8n); have c8b4 := eq_true c8n; clear c8n)
     by_cases c9 : a0_0 = 1
     ·rw [if_pos c9] at H
      have c9b0 : (a0_0 == 1) = true := beq_iff_eq.mpr c9
      have c9b1 : (a0_0 != 1) = false := bne_eq_false_iff_eq.mpr c9
      clear c9
      by_cases c10 : ((((t141 ++ (⟨#[32, 116]⟩ : ByteArray)) ++ t142) ++ (⟨#[32, 35]⟩ : ByteArray)) ++ t143).size + 6 ≤ 9223372036854775807
      ·rw [if_pos c10] at H
       have c10b0 := eq_true c10
       have c10b1 : decide (((((t141 ++ (⟨#[32, 116]⟩ : ByteArray)) ++ t142) ++ (⟨#[32, 35]⟩ : ByteArray)) ++ t143).size + 6 ≤ 9223372036854775807) = true := decide_eq_true c10
       try have c10b2 : (9223372036854775807 < ((((t141 ++ (⟨#[32, 116]⟩ : ByteArray)) ++ t142) ++ (⟨#[32, 35]⟩ : ByteArray)) ++ t143).size + 6) = False := eq_false (Nat.not_lt.2 c10)
       try (have c10n := c10; simp only [ByteArray.size_append, show (⟨#[32, 116]⟩ : ByteArray).size = 2 from rfl, show (⟨#[32, 35]⟩ : ByteArray).size = 2 from rfl] at c10n; have c10b3 := eq_false (Nat.not_lt.2 c10n); have c10b4 := eq_true c10n; clear c10n)
       replace H := Option.bind_eq_some_iff.mp H
       obtain ⟨t144, A110, H⟩ := H
       replace H : (if (((((t141 ++ (⟨#[32, 116]⟩ : ByteArray)) ++ t142) ++ (⟨#[32, 35]⟩ : ByteArray)) ++ t143) ++ (⟨#[32, 99, 97, 108, 108, 32]⟩ : ByteArray)).size + t144.size ≤ 9223372036854775807 then (some ((((((t141 ++ (⟨#[32, 116]⟩ : ByteArray)) ++ t142) ++ (⟨#[32, 35]⟩ : ByteArray)) ++ t143) ++ (⟨#[32, 99, 97, 108, 108, 32]⟩ : ByteArray)) ++ t144)) else (none)) = some r := H
       have A11 := Aside0.mk A110
       clear A110
       by_cases c12 : (((((t141 ++ (⟨#[32, 116]⟩ : ByteArray)) ++ t142) ++ (⟨#[32, 35]⟩ : ByteArray)) ++ t143) ++ (⟨#[32, 99, 97, 108, 108, 32]⟩ : ByteArray)).size + t144.size ≤ 9223372036854775807
       ·rw [if_pos c12] at H
        have c12b0 := eq_true c12
        have c12b1 : decide ((((((t141 ++ (⟨#[32, 116]⟩ : ByteArray)) ++ t142) ++ (⟨#[32, 35]⟩ : ByteArray)) ++ t143) ++ (⟨#[32, 99, 97, 108, 108, 32]⟩ : ByteArray)).size + t144.size ≤ 9223372036854775807) = true := decide_eq_true c12
        try have c12b2 : (9223372036854775807 < (((((t141 ++ (⟨#[32, 116]⟩ : ByteArray)) ++ t142) ++ (⟨#[32, 35]⟩ : ByteArray)) ++ t143) ++ (⟨#[32, 99, 97, 108, 108, 32]⟩ : ByteArray)).size + t144.size) = False := eq_false (Nat.not_lt.2 c12)
        try (have c12n := c12; simp only [ByteArray.size_append, show (⟨#[32, 116]⟩ : ByteArray).size = 2 from rfl, show (⟨#[32, 35]⟩ : ByteArray).size = 2 from rfl, show (⟨#[32, 99, 97, 108, 108, 32]⟩ : ByteArray).size = 6 from rfl] at c12n; have c12b3 := eq_false (Nat.not_lt.2 c12n); have c12b4 := eq_true c12n; clear c12n)
        obtain rfl := Option.some.inj H
        go_enter Tryd.func22, Tryd.ntmps22
        try go_wp2_with (first | ((with_reducible refine gate_dst (N := 1) rfl ?_); refine box_event ?hg (N := 1) ?hd (cs := #[.int .i64 a0_0, .int .i64 a0_1, .int .i64 a0_2, .int .i64 a0_3, .int .i64 a0_4, .string a0_5, .int .i64 a0_6, .int .i64 a0_7, .int .i64 a0_8, .int .i64 a0_9, .int .i64 a0_10, .int .i64 a0_11, .slice A0_12 l0_12.length c0_12]) (t := 52) ?hr ?_; (case hd => rfl); (case hg => rfl); (case hr => first | (go_simp; done) | (go_simp; rfl)); intro gb140 hg w13 hbox hb; have n0_ := Aside0.mk (below_step (by repeat (first | (with_reducible first | exact HB.out | apply below_alloc | apply pw_below_drewN | apply below_drew1) | exact HB.out)) hb); have n1_ := Aside0.mk (hbox); have n2_ := Aside0.mk ((by rw [hg]; exact (below_size (by repeat (first | (with_reducible first | exact HB.out | apply below_alloc | apply pw_below_drewN | apply below_drew1) | exact HB.out))) : w.heap.size ≤ gb140)); have n3_ := Aside0.mk ((by rw [hg]; exact (below_size (by repeat (first | (with_reducible first | exact HB.out | apply below_alloc | apply pw_below_drewN | apply below_drew1) | exact HB.out))) : w.heap.size ≤ gb140)); clear HB; have HB := n0_; have BK140 := n1_; have GW140 := n2_; have GE140 := n3_; clear n0_ n1_ n2_ n3_; clear hb hbox hg))
        have n0_ := Aside0.mk (blk_drew BK140.out)
        have n1_ := Aside0.mk (below_drew1 HB.out)
        clear BK140
        clear HB
        have BK140 := n0_
        have HB := n1_
        clear n0_ n1_
        refine start_ (n := 14) (S := fun w' => w'.cell? ⟨gb140, 0, none⟩ = some (.int .i64 a0_0) ∧ w'.cell? ⟨gb140, 1, none⟩ = some (.int .i64 a0_1) ∧ w'.cell? ⟨gb140, 2, none⟩ = some (.int .i64 a0_2) ∧ w'.cell? ⟨gb140, 3, none⟩ = some (.int .i64 a0_3) ∧ w'.cell? ⟨gb140, 4, none⟩ = some (.int .i64 a0_4) ∧ w'.cell? ⟨gb140, 5, none⟩ = some (.string a0_5) ∧ w'.cell? ⟨gb140, 6, none⟩ = some (.int .i64 a0_6) ∧ w'.cell? ⟨gb140, 7, none⟩ = some (.int .i64 a0_7) ∧ w'.cell? ⟨gb140, 8, none⟩ = some (.int .i64 a0_8) ∧ w'.cell? ⟨gb140, 9, none⟩ = some (.int .i64 a0_9) ∧ w'.cell? ⟨gb140, 10, none⟩ = some (.int .i64 a0_10) ∧ w'.cell? ⟨gb140, 11, none⟩ = some (.int .i64 a0_11) ∧ w'.cell? ⟨gb140, 12, none⟩ = some (.slice A0_12 l0_12.length c0_12)) (ds := []) #[false, false, false, false, false, false, false, false, false, false, false, false, false, false] (by kernel_rfl) rfl rfl ⟨(blk_cell BK140.out 0).trans rfl, (blk_cell BK140.out 1).trans rfl, (blk_cell BK140.out 2).trans rfl, (blk_cell BK140.out 3).trans rfl, (blk_cell BK140.out 4).trans rfl, (blk_cell BK140.out 5).trans rfl, (blk_cell BK140.out 6).trans rfl, (blk_cell BK140.out 7).trans rfl, (blk_cell BK140.out 8).trans rfl, (blk_cell BK140.out 9).trans rfl, (blk_cell BK140.out 10).trans rfl, (blk_cell BK140.out 11).trans rfl, (blk_cell BK140.out 12).trans rfl⟩ (fun hHeld => ?_); refine with_tabW spec_ShowEv.tab1 spec_ShowEv.bits1 (fun HT_ HW_ => ?_)
        generalize w13.drew = w14 at BK140 HB hHeld ⊢
        refine pure_ (i := 0) (N := some 4) (v := ?_) (a' := ?_) #[true, false, false, false, false, false, false, false, false, false, false, false, false, false] rfl rfl (any_of HT_.out (by kernel_rfl)) (fun _ _ _ h => h) (Or.inl ⟨by rfl, ?_⟩) ?_ ?_
        rotate_left
        ·intro w'
         go_simp
         with_reducible rfl
        rotate_left
        ·simp only [Act.put, List.setIfInBounds_toArray, List.set_cons_zero, List.set_cons_succ, i64_w, i32_w]
         rfl
        refine pure_ (i := 4) (N := some 8) (v := ?_) (a' := ?_) #[true, false, false, false, true, false, false, false, false, false, false, false, false, false] rfl rfl (any_of HT_.out (by kernel_rfl)) (fun _ _ _ h => h) (Or.inl ⟨by rfl, ?_⟩) ?_ ?_
        rotate_left
        ·intro w'
         go_simp
         with_reducible rfl
        rotate_left
        ·simp only [Act.put, List.setIfInBounds_toArray, List.set_cons_zero, List.set_cons_succ, i64_w, i32_w]
         rfl
        refine pure_ (i := 9) (N := some 13) (v := ?_) (a' := ?_) #[true, false, false, false, true, false, false, false, false, true, false, false, false, false] rfl rfl (any_of HT_.out (by kernel_rfl)) (fun _ _ _ h => h) (Or.inl ⟨by rfl, ?_⟩) ?_ ?_
        rotate_left
        ·intro w'
         go_simp
         with_reducible rfl
        rotate_left
        ·simp only [Act.put, List.setIfInBounds_toArray, List.set_cons_zero, List.set_cons_succ, i64_w, i32_w]
         rfl
        refine take_ (i := 1) (N := some 5) (v := ?_) (a' := ?_) #[true, true, false, false, true, false, false, false, false, true, false, false, false, false] rfl rfl (take_ofW HT_.out HW_.out (by kernel_rfl)) (fun _ _ _ h => h) (Or.inl ⟨by rfl, ?_⟩) hHeld ?_ ?_
        rotate_left
        ·rintro w' ⟨s0, s1, s2, s3, s4, s5, s6, s7, s8, s9, s10, s11, s12⟩
         go_simp
         with_reducible rfl
        rotate_left
        ·simp only [Act.put, List.setIfInBounds_toArray, List.set_cons_zero, List.set_cons_succ, i64_w, i32_w]
         rfl
        refine take_ (i := 5) (N := some 9) (v := ?_) (a' := ?_) #[true, true, false, false, true, true, false, false, false, true, false, false, false, false] rfl rfl (take_ofW HT_.out HW_.out (by kernel_rfl)) (fun _ _ _ h => h) (Or.inl ⟨by rfl, ?_⟩) hHeld ?_ ?_
        rotate_left
        ·rintro w' ⟨s0, s1, s2, s3, s4, s5, s6, s7, s8, s9, s10, s11, s12⟩
         go_simp
         with_reducible rfl
        rotate_left
        ·simp only [Act.put, List.setIfInBounds_toArray, List.set_cons_zero, List.set_cons_succ, i64_w, i32_w]
         rfl
        refine take_ (i := 10) (N := some 14) (v := ?_) (a' := ?_) #[true, true, false, false, true, true, false, false, false, true, true, false, false, false] rfl rfl (take_ofW HT_.out HW_.out (by kernel_rfl)) (fun _ _ _ h => h) (Or.inl ⟨by rfl, ?_⟩) hHeld ?_ ?_
        rotate_left
        ·rintro w' ⟨s0, s1, s2, s3, s4, s5, s6, s7, s8, s9, s10, s11, s12⟩
         go_simp
         with_reducible rfl
        rotate_left
        ·simp only [Act.put, List.setIfInBounds_toArray, List.set_cons_zero, List.set_cons_succ, i64_w, i32_w]
         rfl
        refine one_ (i := 2) (N := some 6) #[true, true, true, false, true, true, false, false, false, true, true, false, false, false] rfl rfl (one_of HT_.out (by kernel_rfl)) (by decide) (fun K hK => ?_)
        refine goes_ Tryd.func43 (by kernel_rfl) rfl #[.int .i64 a0_3] (by rfl) rfl rfl (by (try simp only [List.map_toArray, List.map_cons, List.map_nil]); first | done | rfl | (simp only [List.length_drop, List.length_take]; rfl)) ?_
        with_reducible refine (spec_Dec.calls k a0_3 t141 _ A2.out).mono ?_
        rintro e w15 ⟨rfl, hb⟩
        refine ⟨_, rfl, ?_⟩
        have n0_ := Aside0.mk (blk_below (g := gb140) (o := .cells #[.int .i64 a0_0, .int .i64 a0_1, .int .i64 a0_2, .int .i64 a0_3, .int .i64 a0_4, .string a0_5, .int .i64 a0_6, .int .i64 a0_7, .int .i64 a0_8, .int .i64 a0_9, .int .i64 a0_10, .int .i64 a0_11, .slice A0_12 l0_12.length c0_12] 52 (0, 0)) (by (with_reducible repeat (first | refine blk_drewN ?_ _ | refine blk_drew ?_ | refine blk_alloc ?_ _)); exact BK140.out) hb)
        have n1_ := Aside0.mk (below_step (by repeat (first | (with_reducible first | exact HB.out | apply below_alloc | apply pw_below_drewN | apply below_drew1 | refine below_set ?_ GE140.out) | exact HB.out)) hb)
        clear BK140
        clear HB
        have BK140 := n0_
        have HB := n1_
        clear n0_ n1_
        (try clear hb)
        (try clear hb2)
        (try clear hk)
        (try clear hi)
        refine hK.out _ _ ⟨(blk_cell BK140.out 0).trans rfl, (blk_cell BK140.out 1).trans rfl, (blk_cell BK140.out 2).trans rfl, (blk_cell BK140.out 3).trans rfl, (blk_cell BK140.out 4).trans rfl, (blk_cell BK140.out 5).trans rfl, (blk_cell BK140.out 6).trans rfl, (blk_cell BK140.out 7).trans rfl, (blk_cell BK140.out 8).trans rfl, (blk_cell BK140.out 9).trans rfl, (blk_cell BK140.out 10).trans rfl, (blk_cell BK140.out 11).trans rfl, (blk_cell BK140.out 12).trans rfl⟩ (fun hHeld => ?_)
        clear hK K
        refine norm_ (a' := ?_) ?_ ?_
        rotate_left
        ·show Act.put _ (some 6) _ = _
         simp only [Act.put, List.setIfInBounds_toArray, List.set_cons_zero, List.set_cons_succ, i64_w, i32_w]
         rfl
        refine pure_ (i := 3) (N := some 7) (v := ?_) (a' := ?_) #[true, true, true, true, true, true, false, false, false, true, true, false, false, false] rfl rfl (any_of HT_.out (by kernel_rfl)) (fun _ _ _ h => h) (Or.inl ⟨by rfl, ?_⟩) ?_ ?_
        rotate_left
        ·intro w'
         go_simp
         with_reducible rfl
        rotate_left
        ·simp only [Act.put, List.setIfInBounds_toArray, List.set_cons_zero, List.set_cons_succ, i64_w, i32_w]
         rfl
        refine one_ (i := 6) (N := some 10) #[true, true, true, true, true, true, true, false, false, true, true, false, false, false] rfl rfl (one_of HT_.out (by kernel_rfl)) (by decide) (fun K hK => ?_)
        refine goes_ Tryd.func43 (by kernel_rfl) rfl #[.int .i64 a0_1] (by rfl) rfl rfl (by (try simp only [List.map_toArray, List.map_cons, List.map_nil]); first | done | rfl | (simp only [List.length_drop, List.length_take]; rfl)) ?_
        with_reducible refine (spec_Dec.calls k a0_1 t142 _ A4.out).mono ?_
        rintro e w16 ⟨rfl, hb⟩
        refine ⟨_, rfl, ?_⟩
        have n0_ := Aside0.mk (blk_below (g := gb140) (o := .cells #[.int .i64 a0_0, .int .i64 a0_1, .int .i64 a0_2, .int .i64 a0_3, .int .i64 a0_4, .string a0_5, .int .i64 a0_6, .int .i64 a0_7, .int .i64 a0_8, .int .i64 a0_9, .int .i64 a0_10, .int .i64 a0_11, .slice A0_12 l0_12.length c0_12] 52 (0, 0)) (by (with_reducible repeat (first | refine blk_drewN ?_ _ | refine blk_drew ?_ | refine blk_alloc ?_ _)); exact BK140.out) hb)
        have n1_ := Aside0.mk (below_step (by repeat (first | (with_reducible first | exact HB.out | apply below_alloc | apply pw_below_drewN | apply below_drew1 | refine below_set ?_ GE140.out) | exact HB.out)) hb)
        clear BK140
        clear HB
        have BK140 := n0_
        have HB := n1_
        clear n0_ n1_
        (try clear hb)
        (try clear hb2)
        (try clear hk)
        (try clear hi)
        refine hK.out _ _ ⟨(blk_cell BK140.out 0).trans rfl, (blk_cell BK140.out 1).trans rfl, (blk_cell BK140.out 2).trans rfl, (blk_cell BK140.out 3).trans rfl, (blk_cell BK140.out 4).trans rfl, (blk_cell BK140.out 5).trans rfl, (blk_cell BK140.out 6).trans rfl, (blk_cell BK140.out 7).trans rfl, (blk_cell BK140.out 8).trans rfl, (blk_cell BK140.out 9).trans rfl, (blk_cell BK140.out 10).trans rfl, (blk_cell BK140.out 11).trans rfl, (blk_cell BK140.out 12).trans rfl⟩ (fun hHeld => ?_)
        clear hK K
        refine norm_ (a' := ?_) ?_ ?_
        rotate_left
        ·show Act.put _ (some 10) _ = _
         simp only [Act.put, List.setIfInBounds_toArray, List.set_cons_zero, List.set_cons_succ, i64_w, i32_w]
         rfl
        refine pure_ (i := 7) (N := some 11) (v := ?_) (a' := ?_) #[true, true, true, true, true, true, true, true, false, true, true, false, false, false] rfl rfl (any_of HT_.out (by kernel_rfl)) (fun _ _ _ h => h) (Or.inl ⟨by rfl, ?_⟩) ?_ ?_
        rotate_left
        ·intro w'
         go_simp
         with_reducible rfl
        rotate_left
        ·simp only [Act.put, List.setIfInBounds_toArray, List.set_cons_zero, List.set_cons_succ, i64_w, i32_w]
         rfl
        refine pure_ (i := 8) (N := some 12) (v := ?_) (a' := ?_) #[true, true, true, true, true, true, true, true, true, true, true, false, false, false] rfl rfl (any_of HT_.out (by kernel_rfl)) (fun _ _ _ h => h) (Or.inl ⟨by rfl, ?_⟩) ?_ ?_
        rotate_left
        ·intro w'
         go_simp
         with_reducible rfl
        rotate_left
        ·simp only [Act.put, List.setIfInBounds_toArray, List.set_cons_zero, List.set_cons_succ, i64_w, i32_w]
         rfl
        refine one_ (i := 11) (N := some 15) #[true, true, true, true, true, true, true, true, true, true, true, true, false, false] rfl rfl (one_of HT_.out (by kernel_rfl)) (by decide) (fun K hK => ?_)
        refine goes_ Tryd.func43 (by kernel_rfl) rfl #[.int .i64 a0_2] (by rfl) rfl rfl (by (try simp only [List.map_toArray, List.map_cons, List.map_nil]); first | done | rfl | (simp only [List.length_drop, List.length_take]; rfl)) ?_
        with_reducible refine (spec_Dec.calls k a0_2 t143 _ A7.out).mono ?_
        rintro e w17 ⟨rfl, hb⟩
        refine ⟨_, rfl, ?_⟩
        have n0_ := Aside0.mk (blk_below (g := gb140) (o := .cells #[.int .i64 a0_0, .int .i64 a0_1, .int .i64 a0_2, .int .i64 a0_3, .int .i64 a0_4, .string a0_5, .int .i64 a0_6, .int .i64 a0_7, .int .i64 a0_8, .int .i64 a0_9, .int .i64 a0_10, .int .i64 a0_11, .slice A0_12 l0_12.length c0_12] 52 (0, 0)) (by (with_reducible repeat (first | refine blk_drewN ?_ _ | refine blk_drew ?_ | refine blk_alloc ?_ _)); exact BK140.out) hb)
        have n1_ := Aside0.mk (below_step (by repeat (first | (with_reducible first | exact HB.out | apply below_alloc | apply pw_below_drewN | apply below_drew1 | refine below_set ?_ GE140.out) | exact HB.out)) hb)
        clear BK140
        clear HB
        have BK140 := n0_
        have HB := n1_
        clear n0_ n1_
        (try clear hb)
        (try clear hb2)
        (try clear hk)
        (try clear hi)
        refine hK.out _ _ ⟨(blk_cell BK140.out 0).trans rfl, (blk_cell BK140.out 1).trans rfl, (blk_cell BK140.out 2).trans rfl, (blk_cell BK140.out 3).trans rfl, (blk_cell BK140.out 4).trans rfl, (blk_cell BK140.out 5).trans rfl, (blk_cell BK140.out 6).trans rfl, (blk_cell BK140.out 7).trans rfl, (blk_cell BK140.out 8).trans rfl, (blk_cell BK140.out 9).trans rfl, (blk_cell BK140.out 10).trans rfl, (blk_cell BK140.out 11).trans rfl, (blk_cell BK140.out 12).trans rfl⟩ (fun hHeld => ?_)
        clear hK K
        refine norm_ (a' := ?_) ?_ ?_
        rotate_left
        ·show Act.put _ (some 15) _ = _
         simp only [Act.put, List.setIfInBounds_toArray, List.set_cons_zero, List.set_cons_succ, i64_w, i32_w]
         rfl
        refine pure_ (i := 12) (N := some 16) (v := ?_) (a' := ?_) #[true, true, true, true, true, true, true, true, true, true, true, true, true, false] rfl rfl (any_of HT_.out (by kernel_rfl)) (fun _ _ _ h => h) (Or.inl ⟨by rfl, ?_⟩) ?_ ?_
        rotate_left
        ·intro w'
         go_simp
         with_reducible rfl
        rotate_left
        ·simp only [Act.put, List.setIfInBounds_toArray, List.set_cons_zero, List.set_cons_succ, i64_w, i32_w]
         rfl
        refine pure_ (i := 13) (N := some 3) (v := ?_) (a' := ?_) #[true, true, true, true, true, true, true, true, true, true, true, true, true, true] rfl rfl (any_of HT_.out (by kernel_rfl)) (fun _ _ _ h => h) (Or.inl ⟨by rfl, ?_⟩) ?_ ?_
        rotate_left
        ·intro w'
         go_simp
         with_reducible rfl
        rotate_left
        ·simp only [Act.put, List.setIfInBounds_toArray, List.set_cons_zero, List.set_cons_succ, i64_w, i32_w]
         rfl
        refine done_ (done_of HT_.out (by kernel_rfl)) ?_
        have hcz18_0 : w17.cell? ⟨gb140, 0, none⟩ = some (.int .i64 a0_0) := (blk_cell BK140.out 0).trans rfl
        have hcz18_1 : w17.cell? ⟨gb140, 1, none⟩ = some (.int .i64 a0_1) := (blk_cell BK140.out 1).trans rfl
        have hcz18_2 : w17.cell? ⟨gb140, 2, none⟩ = some (.int .i64 a0_2) := (blk_cell BK140.out 2).trans rfl
        have hcz18_3 : w17.cell? ⟨gb140, 3, none⟩ = some (.int .i64 a0_3) := (blk_cell BK140.out 3).trans rfl
        have hcz18_4 : w17.cell? ⟨gb140, 4, none⟩ = some (.int .i64 a0_4) := (blk_cell BK140.out 4).trans rfl
        have hcz18_5 : w17.cell? ⟨gb140, 5, none⟩ = some (.string a0_5) := (blk_cell BK140.out 5).trans rfl
        have hcz18_6 : w17.cell? ⟨gb140, 6, none⟩ = some (.int .i64 a0_6) := (blk_cell BK140.out 6).trans rfl
        have hcz18_7 : w17.cell? ⟨gb140, 7, none⟩ = some (.int .i64 a0_7) := (blk_cell BK140.out 7).trans rfl
        have hcz18_8 : w17.cell? ⟨gb140, 8, none⟩ = some (.int .i64 a0_8) := (blk_cell BK140.out 8).trans rfl
        have hcz18_9 : w17.cell? ⟨gb140, 9, none⟩ = some (.int .i64 a0_9) := (blk_cell BK140.out 9).trans rfl
        have hcz18_10 : w17.cell? ⟨gb140, 10, none⟩ = some (.int .i64 a0_10) := (blk_cell BK140.out 10).trans rfl
        have hcz18_11 : w17.cell? ⟨gb140, 11, none⟩ = some (.int .i64 a0_11) := (blk_cell BK140.out 11).trans rfl
        have hcz18_12 : w17.cell? ⟨gb140, 12, none⟩ = some (.slice A0_12 l0_12.length c0_12) := (blk_cell BK140.out 12).trans rfl
        have hfz18_0 := blk_frozen BK140.out 0
        have hfz18_1 := blk_frozen BK140.out 1
        have hfz18_2 := blk_frozen BK140.out 2
        have hfz18_3 := blk_frozen BK140.out 3
        have hfz18_4 := blk_frozen BK140.out 4
        have hfz18_5 := blk_frozen BK140.out 5
        have hfz18_6 := blk_frozen BK140.out 6
        have hfz18_7 := blk_frozen BK140.out 7
        have hfz18_8 := blk_frozen BK140.out 8
        have hfz18_9 := blk_frozen BK140.out 9
        have hfz18_10 := blk_frozen BK140.out 10
        have hfz18_11 := blk_frozen BK140.out 11
        have hfz18_12 := blk_frozen BK140.out 12
        try go_wp2_with (first | ((with_reducible refine gate_callee (f := 31) rfl ?_); refine goesL_ (some 25) rfl rfl Tryd.func31 (by kernel_rfl) rfl #[.agg #[.int .i64 a0_4, .string a0_5, .int .i64 a0_6, .int .i64 a0_7]] rfl (by (try simp only [List.map_toArray, List.map_cons, List.map_nil]); first | done | rfl | (simp only [List.length_drop, List.length_take]; rfl)) ?_; (with_reducible refine (spec_ShowOp.calls k a0_4 a0_5 a0_6 a0_7 t144 _ A11.out).mono ?_); rintro e w19 ⟨rfl, hb⟩; refine ⟨_, rfl, ?_⟩; have n0_ := Aside0.mk (blk_below (g := gb140) (o := .cells #[.int .i64 a0_0, .int .i64 a0_1, .int .i64 a0_2, .int .i64 a0_3, .int .i64 a0_4, .string a0_5, .int .i64 a0_6, .int .i64 a0_7, .int .i64 a0_8, .int .i64 a0_9, .int .i64 a0_10, .int .i64 a0_11, .slice A0_12 l0_12.length c0_12] 52 (0, 0)) (by (with_reducible repeat (first | refine blk_drewN ?_ _ | refine blk_drew ?_ | refine blk_alloc ?_ _)); exact BK140.out) hb); have n1_ := Aside0.mk (below_step (by repeat (first | (with_reducible first | exact HB.out | apply below_alloc | apply pw_below_drewN | apply below_drew1 | refine below_set ?_ GE140.out) | exact HB.out)) hb); clear BK140; clear HB; have BK140 := n0_; have HB := n1_; clear n0_ n1_; (try clear hb); (try clear hb2); (try clear hk); (try clear hi)))
        go_ret
        exact ⟨by first | rfl | (simp [errW_none, errW_some] <;> rfl) | (simp [*, errW_none, errW_some] <;> rfl), by repeat (first | (with_reducible first | exact HB.out | apply below_alloc | apply pw_below_drewN | apply below_drew1 | refine below_set ?_ GE140.out) | exact HB.out)⟩
       ·rw [if_neg c12] at H
        exact absurd H (by simp)
      ·rw [if_neg c10] at H
       exact absurd H (by simp)
     ·rw [if_neg c9] at H
      have c9b0 : (a0_0 == 1) = false := beq_eq_false_iff_ne.mpr c9
      have c9b1 : (a0_0 != 1) = true := bne_iff_ne.mpr c9
      by_cases c20 : a0_0 = 2
      ·rw [if_pos c20] at H
       have c20b0 : (a0_0 == 2) = true := beq_iff_eq.mpr c20
       have c20b1 : (a0_0 != 2) = false := bne_eq_false_iff_eq.mpr c20
       clear c20
       by_cases c21 : a0_9 < 0
       ·rw [if_pos c21] at H
        have c21b0 : decide (a0_9 < 0) = true := decide_eq_true c21
        clear c21
        by_cases c22 : ((((t141 ++ (⟨#[32, 116]⟩ : ByteArray)) ++ t142) ++ (⟨#[32, 35]⟩ : ByteArray)) ++ t143).size + 7 ≤ 9223372036854775807
        ·rw [if_pos c22] at H
         have c22b0 := eq_true c22
         have c22b1 : decide (((((t141 ++ (⟨#[32, 116]⟩ : ByteArray)) ++ t142) ++ (⟨#[32, 35]⟩ : ByteArray)) ++ t143).size + 7 ≤ 9223372036854775807) = true := decide_eq_true c22
         try have c22b2 : (9223372036854775807 < ((((t141 ++ (⟨#[32, 116]⟩ : ByteArray)) ++ t142) ++ (⟨#[32, 35]⟩ : ByteArray)) ++ t143).size + 7) = False := eq_false (Nat.not_lt.2 c22)
         try (have c22n := c22; simp only [ByteArray.size_append, show (⟨#[32, 116]⟩ : ByteArray).size = 2 from rfl, show (⟨#[32, 35]⟩ : ByteArray).size = 2 from rfl] at c22n; have c22b3 := eq_false (Nat.not_lt.2 c22n); have c22b4 := eq_true c22n; clear c22n)
         replace H := Option.bind_eq_some_iff.mp H
         obtain ⟨t145, A230, H⟩ := H
         replace H : (if (((((t141 ++ (⟨#[32, 116]⟩ : ByteArray)) ++ t142) ++ (⟨#[32, 35]⟩ : ByteArray)) ++ t143) ++ (⟨#[32, 112, 111, 105, 110, 116, 32]⟩ : ByteArray)).size + t145.size ≤ 9223372036854775807 then (some ((((((t141 ++ (⟨#[32, 116]⟩ : ByteArray)) ++ t142) ++ (⟨#[32, 35]⟩ : ByteArray)) ++ t143) ++ (⟨#[32, 112, 111, 105, 110, 116, 32]⟩ : ByteArray)) ++ t145)) else (none)) = some r := H
         have A23 := Aside0.mk A230
         clear A230
         by_cases c24 : (((((t141 ++ (⟨#[32, 116]⟩ : ByteArray)) ++ t142) ++ (⟨#[32, 35]⟩ : ByteArray)) ++ t143) ++ (⟨#[32, 112, 111, 105, 110, 116, 32]⟩ : ByteArray)).size + t145.size ≤ 9223372036854775807
         ·rw [if_pos c24] at H
          have c24b0 := eq_true c24
          have c24b1 : decide ((((((t141 ++ (⟨#[32, 116]⟩ : ByteArray)) ++ t142) ++ (⟨#[32, 35]⟩ : ByteArray)) ++ t143) ++ (⟨#[32, 112, 111, 105, 110, 116, 32]⟩ : ByteArray)).size + t145.size ≤ 9223372036854775807) = true := decide_eq_true c24
          try have c24b2 : (9223372036854775807 < (((((t141 ++ (⟨#[32, 116]⟩ : ByteArray)) ++ t142) ++ (⟨#[32, 35]⟩ : ByteArray)) ++ t143) ++ (⟨#[32, 112, 111, 105, 110, 116, 32]⟩ : ByteArray)).size + t145.size) = False := eq_false (Nat.not_lt.2 c24)
          try (have c24n := c24; simp only [ByteArray.size_append, show (⟨#[32, 112, 111, 105, 110, 116, 32]⟩ : ByteArray).size = 7 from rfl, show (⟨#[32, 116]⟩ : ByteArray).size = 2 from rfl, show (⟨#[32, 35]⟩ : ByteArray).size = 2 from rfl] at c24n; have c24b3 := eq_false (Nat.not_lt.2 c24n); have c24b4 := eq_true c24n; clear c24n)
          obtain rfl := Option.some.inj H
          go_enter Tryd.func22, Tryd.ntmps22
          try go_wp2_with (first | ((with_reducible refine gate_dst (N := 1) rfl ?_); refine box_event ?hg (N := 1) ?hd (cs := #[.int .i64 a0_0, .int .i64 a0_1, .int .i64 a0_2, .int .i64 a0_3, .int .i64 a0_4, .string a0_5, .int .i64 a0_6, .int .i64 a0_7, .int .i64 a0_8, .int .i64 a0_9, .int .i64 a0_10, .int .i64 a0_11, .slice A0_12 l0_12.length c0_12]) (t := 52) ?hr ?_; (case hd => rfl); (case hg => rfl); (case hr => first | (go_simp; done) | (go_simp; rfl)); intro gb140 hg w25 hbox hb; have n0_ := Aside0.mk (below_step (by repeat (first | (with_reducible first | exact HB.out | apply below_alloc | apply pw_below_drewN | apply below_drew1) | exact HB.out)) hb); have n1_ := Aside0.mk (hbox); have n2_ := Aside0.mk ((by rw [hg]; exact (below_size (by repeat (first | (with_reducible first | exact HB.out | apply below_alloc | apply pw_below_drewN | apply below_drew1) | exact HB.out))) : w.heap.size ≤ gb140)); have n3_ := Aside0.mk ((by rw [hg]; exact (below_size (by repeat (first | (with_reducible first | exact HB.out | apply below_alloc | apply pw_below_drewN | apply below_drew1) | exact HB.out))) : w.heap.size ≤ gb140)); clear HB; have HB := n0_; have BK140 := n1_; have GW140 := n2_; have GE140 := n3_; clear n0_ n1_ n2_ n3_; clear hb hbox hg))
          have n0_ := Aside0.mk (blk_drew BK140.out)
          have n1_ := Aside0.mk (below_drew1 HB.out)
          clear BK140
          clear HB
          have BK140 := n0_
          have HB := n1_
          clear n0_ n1_
          refine start_ (n := 14) (S := fun w' => w'.cell? ⟨gb140, 0, none⟩ = some (.int .i64 a0_0) ∧ w'.cell? ⟨gb140, 1, none⟩ = some (.int .i64 a0_1) ∧ w'.cell? ⟨gb140, 2, none⟩ = some (.int .i64 a0_2) ∧ w'.cell? ⟨gb140, 3, none⟩ = some (.int .i64 a0_3) ∧ w'.cell? ⟨gb140, 4, none⟩ = some (.int .i64 a0_4) ∧ w'.cell? ⟨gb140, 5, none⟩ = some (.string a0_5) ∧ w'.cell? ⟨gb140, 6, none⟩ = some (.int .i64 a0_6) ∧ w'.cell? ⟨gb140, 7, none⟩ = some (.int .i64 a0_7) ∧ w'.cell? ⟨gb140, 8, none⟩ = some (.int .i64 a0_8) ∧ w'.cell? ⟨gb140, 9, none⟩ = some (.int .i64 a0_9) ∧ w'.cell? ⟨gb140, 10, none⟩ = some (.int .i64 a0_10) ∧ w'.cell? ⟨gb140, 11, none⟩ = some (.int .i64 a0_11) ∧ w'.cell? ⟨gb140, 12, none⟩ = some (.slice A0_12 l0_12.length c0_12)) (ds := []) #[false, false, false, false, false, false, false, false, false, false, false, false, false, false] (by kernel_rfl) rfl rfl ⟨(blk_cell BK140.out 0).trans rfl, (blk_cell BK140.out 1).trans rfl, (blk_cell BK140.out 2).trans rfl, (blk_cell BK140.out 3).trans rfl, (blk_cell BK140.out 4).trans rfl, (blk_cell BK140.out 5).trans rfl, (blk_cell BK140.out 6).trans rfl, (blk_cell BK140.out 7).trans rfl, (blk_cell BK140.out 8).trans rfl, (blk_cell BK140.out 9).trans rfl, (blk_cell BK140.out 10).trans rfl, (blk_cell BK140.out 11).trans rfl, (blk_cell BK140.out 12).trans rfl⟩ (fun hHeld => ?_); refine with_tabW spec_ShowEv.tab1 spec_ShowEv.bits1 (fun HT_ HW_ => ?_)
          generalize w25.drew = w26 at BK140 HB hHeld ⊢
          refine pure_ (i := 0) (N := some 4) (v := ?_) (a' := ?_) #[true, false, false, false, false, false, false, false, false, false, false, false, false, false] rfl rfl (any_of HT_.out (by kernel_rfl)) (fun _ _ _ h => h) (Or.inl ⟨by rfl, ?_⟩) ?_ ?_
          rotate_left
          ·intro w'
           go_simp
           with_reducible rfl
          rotate_left
          ·simp only [Act.put, List.setIfInBounds_toArray, List.set_cons_zero, List.set_cons_succ, i64_w, i32_w]
           rfl
          refine pure_ (i := 4) (N := some 8) (v := ?_) (a' := ?_) #[true, false, false, false, true, false, false, false, false, false, false, false, false, false] rfl rfl (any_of HT_.out (by kernel_rfl)) (fun _ _ _ h => h) (Or.inl ⟨by rfl, ?_⟩) ?_ ?_
          rotate_left
          ·intro w'
           go_simp
           with_reducible rfl
          rotate_left
          ·simp only [Act.put, List.setIfInBounds_toArray, List.set_cons_zero, List.set_cons_succ, i64_w, i32_w]
           rfl
          refine pure_ (i := 9) (N := some 13) (v := ?_) (a' := ?_) #[true, false, false, false, true, false, false, false, false, true, false, false, false, false] rfl rfl (any_of HT_.out (by kernel_rfl)) (fun _ _ _ h => h) (Or.inl ⟨by rfl, ?_⟩) ?_ ?_
          rotate_left
          ·intro w'
           go_simp
           with_reducible rfl
          rotate_left
          ·simp only [Act.put, List.setIfInBounds_toArray, List.set_cons_zero, List.set_cons_succ, i64_w, i32_w]
           rfl
          refine take_ (i := 1) (N := some 5) (v := ?_) (a' := ?_) #[true, true, false, false, true, false, false, false, false, true, false, false, false, false] rfl rfl (take_ofW HT_.out HW_.out (by kernel_rfl)) (fun _ _ _ h => h) (Or.inl ⟨by rfl, ?_⟩) hHeld ?_ ?_
          rotate_left
          ·rintro w' ⟨s0, s1, s2, s3, s4, s5, s6, s7, s8, s9, s10, s11, s12⟩
           go_simp
           with_reducible rfl
          rotate_left
          ·simp only [Act.put, List.setIfInBounds_toArray, List.set_cons_zero, List.set_cons_succ, i64_w, i32_w]
           rfl
          refine take_ (i := 5) (N := some 9) (v := ?_) (a' := ?_) #[true, true, false, false, true, true, false, false, false, true, false, false, false, false] rfl rfl (take_ofW HT_.out HW_.out (by kernel_rfl)) (fun _ _ _ h => h) (Or.inl ⟨by rfl, ?_⟩) hHeld ?_ ?_
          rotate_left
          ·rintro w' ⟨s0, s1, s2, s3, s4, s5, s6, s7, s8, s9, s10, s11, s12⟩
           go_simp
           with_reducible rfl
          rotate_left
          ·simp only [Act.put, List.setIfInBounds_toArray, List.set_cons_zero, List.set_cons_succ, i64_w, i32_w]
           rfl
          refine take_ (i := 10) (N := some 14) (v := ?_) (a' := ?_) #[true, true, false, false, true, true, false, false, false, true, true, false, false, false] rfl rfl (take_ofW HT_.out HW_.out (by kernel_rfl)) (fun _ _ _ h => h) (Or.inl ⟨by rfl, ?_⟩) hHeld ?_ ?_
          rotate_left
          ·rintro w' ⟨s0, s1, s2, s3, s4, s5, s6, s7, s8, s9, s10, s11, s12⟩
           go_simp
           with_reducible rfl
          rotate_left
          ·simp only [Act.put, List.setIfInBounds_toArray, List.set_cons_zero, List.set_cons_succ, i64_w, i32_w]
           rfl
          refine one_ (i := 2) (N := some 6) #[true, true, true, false, true, true, false, false, false, true, true, false, false, false] rfl rfl (one_of HT_.out (by kernel_rfl)) (by decide) (fun K hK => ?_)
          refine goes_ Tryd.func43 (by kernel_rfl) rfl #[.int .i64 a0_3] (by rfl) rfl rfl (by (try simp only [List.map_toArray, List.map_cons, List.map_nil]); first | done | rfl | (simp only [List.length_drop, List.length_take]; rfl)) ?_
          with_reducible refine (spec_Dec.calls k a0_3 t141 _ A2.out).mono ?_
          rintro e w27 ⟨rfl, hb⟩
          refine ⟨_, rfl, ?_⟩
          have n0_ := Aside0.mk (blk_below (g := gb140) (o := .cells #[.int .i64 a0_0, .int .i64 a0_1, .int .i64 a0_2, .int .i64 a0_3, .int .i64 a0_4, .string a0_5, .int .i64 a0_6, .int .i64 a0_7, .int .i64 a0_8, .int .i64 a0_9, .int .i64 a0_10, .int .i64 a0_11, .slice A0_12 l0_12.length c0_12] 52 (0, 0)) (by (with_reducible repeat (first | refine blk_drewN ?_ _ | refine blk_drew ?_ | refine blk_alloc ?_ _)); exact BK140.out) hb)
          have n1_ := Aside0.mk (below_step (by repeat (first | (with_reducible first | exact HB.out | apply below_alloc | apply pw_below_drewN | apply below_drew1 | refine below_set ?_ GE140.out) | exact HB.out)) hb)
          clear BK140
          clear HB
          have BK140 := n0_
          have HB := n1_
          clear n0_ n1_
          (try clear hb)
          (try clear hb2)
          (try clear hk)
          (try clear hi)
          refine hK.out _ _ ⟨(blk_cell BK140.out 0).trans rfl, (blk_cell BK140.out 1).trans rfl, (blk_cell BK140.out 2).trans rfl, (blk_cell BK140.out 3).trans rfl, (blk_cell BK140.out 4).trans rfl, (blk_cell BK140.out 5).trans rfl, (blk_cell BK140.out 6).trans rfl, (blk_cell BK140.out 7).trans rfl, (blk_cell BK140.out 8).trans rfl, (blk_cell BK140.out 9).trans rfl, (blk_cell BK140.out 10).trans rfl, (blk_cell BK140.out 11).trans rfl, (blk_cell BK140.out 12).trans rfl⟩ (fun hHeld => ?_)
          clear hK K
          refine norm_ (a' := ?_) ?_ ?_
          rotate_left
          ·show Act.put _ (some 6) _ = _
           simp only [Act.put, List.setIfInBounds_toArray, List.set_cons_zero, List.set_cons_succ, i64_w, i32_w]
           rfl
          refine pure_ (i := 3) (N := some 7) (v := ?_) (a' := ?_) #[true, true, true, true, true, true, false, false, false, true, true, false, false, false] rfl rfl (any_of HT_.out (by kernel_rfl)) (fun _ _ _ h => h) (Or.inl ⟨by rfl, ?_⟩) ?_ ?_
          rotate_left
          ·intro w'
           go_simp
           with_reducible rfl
          rotate_left
          ·simp only [Act.put, List.setIfInBounds_toArray, List.set_cons_zero, List.set_cons_succ, i64_w, i32_w]
           rfl
          refine one_ (i := 6) (N := some 10) #[true, true, true, true, true, true, true, false, false, true, true, false, false, false] rfl rfl (one_of HT_.out (by kernel_rfl)) (by decide) (fun K hK => ?_)
          refine goes_ Tryd.func43 (by kernel_rfl) rfl #[.int .i64 a0_1] (by rfl) rfl rfl (by (try simp only [List.map_toArray, List.map_cons, List.map_nil]); first | done | rfl | (simp only [List.length_drop, List.length_take]; rfl)) ?_
          with_reducible refine (spec_Dec.calls k a0_1 t142 _ A4.out).mono ?_
          rintro e w28 ⟨rfl, hb⟩
          refine ⟨_, rfl, ?_⟩
          have n0_ := Aside0.mk (blk_below (g := gb140) (o := .cells #[.int .i64 a0_0, .int .i64 a0_1, .int .i64 a0_2, .int .i64 a0_3, .int .i64 a0_4, .string a0_5, .int .i64 a0_6, .int .i64 a0_7, .int .i64 a0_8, .int .i64 a0_9, .int .i64 a0_10, .int .i64 a0_11, .slice A0_12 l0_12.length c0_12] 52 (0, 0)) (by (with_reducible repeat (first | refine blk_drewN ?_ _ | refine blk_drew ?_ | refine blk_alloc ?_ _)); exact BK140.out) hb)
          have n1_ := Aside0.mk (below_step (by repeat (first | (with_reducible first | exact HB.out | apply below_alloc | apply pw_below_drewN | apply below_drew1 | refine below_set ?_ GE140.out) | exact HB.out)) hb)
          clear BK140
          clear HB
          have BK140 := n0_
          have HB := n1_
          clear n0_ n1_
          (try clear hb)
          (try clear hb2)
          (try clear hk)
          (try clear hi)
          refine hK.out _ _ ⟨(blk_cell BK140.out 0).trans rfl, (blk_cell BK140.out 1).trans rfl, (blk_cell BK140.out 2).trans rfl, (blk_cell BK140.out 3).trans rfl, (blk_cell BK140.out 4).trans rfl, (blk_cell BK140.out 5).trans rfl, (blk_cell BK140.out 6).trans rfl, (blk_cell BK140.out 7).trans rfl, (blk_cell BK140.out 8).trans rfl, (blk_cell BK140.out 9).trans rfl, (blk_cell BK140.out 10).trans rfl, (blk_cell BK140.out 11).trans rfl, (blk_cell BK140.out 12).trans rfl⟩ (fun hHeld => ?_)
          clear hK K
          refine norm_ (a' := ?_) ?_ ?_
          rotate_left
          ·show Act.put _ (some 10) _ = _
           simp only [Act.put, List.setIfInBounds_toArray, List.set_cons_zero, List.set_cons_succ, i64_w, i32_w]
           rfl
          refine pure_ (i := 7) (N := some 11) (v := ?_) (a' := ?_) #[true, true, true, true, true, true, true, true, false, true, true, false, false, false] rfl rfl (any_of HT_.out (by kernel_rfl)) (fun _ _ _ h => h) (Or.inl ⟨by rfl, ?_⟩) ?_ ?_
          rotate_left
          ·intro w'
           go_simp
           with_reducible rfl
          rotate_left
          ·simp only [Act.put, List.setIfInBounds_toArray, List.set_cons_zero, List.set_cons_succ, i64_w, i32_w]
           rfl
          refine pure_ (i := 8) (N := some 12) (v := ?_) (a' := ?_) #[true, true, true, true, true, true, true, true, true, true, true, false, false, false] rfl rfl (any_of HT_.out (by kernel_rfl)) (fun _ _ _ h => h) (Or.inl ⟨by rfl, ?_⟩) ?_ ?_
          rotate_left
          ·intro w'
           go_simp
           with_reducible rfl
          rotate_left
          ·simp only [Act.put, List.setIfInBounds_toArray, List.set_cons_zero, List.set_cons_succ, i64_w, i32_w]
           rfl
          refine one_ (i := 11) (N := some 15) #[true, true, true, true, true, true, true, true, true, true, true, true, false, false] rfl rfl (one_of HT_.out (by kernel_rfl)) (by decide) (fun K hK => ?_)
          refine goes_ Tryd.func43 (by kernel_rfl) rfl #[.int .i64 a0_2] (by rfl) rfl rfl (by (try simp only [List.map_toArray, List.map_cons, List.map_nil]); first | done | rfl | (simp only [List.length_drop, List.length_take]; rfl)) ?_
          with_reducible refine (spec_Dec.calls k a0_2 t143 _ A7.out).mono ?_
          rintro e w29 ⟨rfl, hb⟩
          refine ⟨_, rfl, ?_⟩
          have n0_ := Aside0.mk (blk_below (g := gb140) (o := .cells #[.int .i64 a0_0, .int .i64 a0_1, .int .i64 a0_2, .int .i64 a0_3, .int .i64 a0_4, .string a0_5, .int .i64 a0_6, .int .i64 a0_7, .int .i64 a0_8, .int .i64 a0_9, .int .i64 a0_10, .int .i64 a0_11, .slice A0_12 l0_12.length c0_12] 52 (0, 0)) (by (with_reducible repeat (first | refine blk_drewN ?_ _ | refine blk_drew ?_ | refine blk_alloc ?_ _)); exact BK140.out) hb)
          have n1_ := Aside0.mk (below_step (by repeat (first | (with_reducible first | exact HB.out | apply below_alloc | apply pw_below_drewN | apply below_drew1 | refine below_set ?_ GE140.out) | exact HB.out)) hb)
          clear BK140
          clear HB
          have BK140 := n0_
          have HB := n1_
          clear n0_ n1_
          (try clear hb)
          (try clear hb2)
          (try clear hk)
          (try clear hi)
          refine hK.out _ _ ⟨(blk_cell BK140.out 0).trans rfl, (blk_cell BK140.out 1).trans rfl, (blk_cell BK140.out 2).trans rfl, (blk_cell BK140.out 3).trans rfl, (blk_cell BK140.out 4).trans rfl, (blk_cell BK140.out 5).trans rfl, (blk_cell BK140.out 6).trans rfl, (blk_cell BK140.out 7).trans rfl, (blk_cell BK140.out 8).trans rfl, (blk_cell BK140.out 9).trans rfl, (blk_cell BK140.out 10).trans rfl, (blk_cell BK140.out 11).trans rfl, (blk_cell BK140.out 12).trans rfl⟩ (fun hHeld => ?_)
          clear hK K
          refine norm_ (a' := ?_) ?_ ?_
          rotate_left
          ·show Act.put _ (some 15) _ = _
           simp only [Act.put, List.setIfInBounds_toArray, List.set_cons_zero, List.set_cons_succ, i64_w, i32_w]
           rfl
          refine pure_ (i := 12) (N := some 16) (v := ?_) (a' := ?_) #[true, true, true, true, true, true, true, true, true, true, true, true, true, false] rfl rfl (any_of HT_.out (by kernel_rfl)) (fun _ _ _ h => h) (Or.inl ⟨by rfl, ?_⟩) ?_ ?_
          rotate_left
          ·intro w'
           go_simp
           with_reducible rfl
          rotate_left
          ·simp only [Act.put, List.setIfInBounds_toArray, List.set_cons_zero, List.set_cons_succ, i64_w, i32_w]
           rfl
          refine pure_ (i := 13) (N := some 3) (v := ?_) (a' := ?_) #[true, true, true, true, true, true, true, true, true, true, true, true, true, true] rfl rfl (any_of HT_.out (by kernel_rfl)) (fun _ _ _ h => h) (Or.inl ⟨by rfl, ?_⟩) ?_ ?_
          rotate_left
          ·intro w'
           go_simp
           with_reducible rfl
          rotate_left
          ·simp only [Act.put, List.setIfInBounds_toArray, List.set_cons_zero, List.set_cons_succ, i64_w, i32_w]
           rfl
          refine done_ (done_of HT_.out (by kernel_rfl)) ?_
          have hcz30_0 : w29.cell? ⟨gb140, 0, none⟩ = some (.int .i64 a0_0) := (blk_cell BK140.out 0).trans rfl
          have hcz30_1 : w29.cell? ⟨gb140, 1, none⟩ = some (.int .i64 a0_1) := (blk_cell BK140.out 1).trans rfl
          have hcz30_2 : w29.cell? ⟨gb140, 2, none⟩ = some (.int .i64 a0_2) := (blk_cell BK140.out 2).trans rfl
          have hcz30_3 : w29.cell? ⟨gb140, 3, none⟩ = some (.int .i64 a0_3) := (blk_cell BK140.out 3).trans rfl
          have hcz30_4 : w29.cell? ⟨gb140, 4, none⟩ = some (.int .i64 a0_4) := (blk_cell BK140.out 4).trans rfl
          have hcz30_5 : w29.cell? ⟨gb140, 5, none⟩ = some (.string a0_5) := (blk_cell BK140.out 5).trans rfl
          have hcz30_6 : w29.cell? ⟨gb140, 6, none⟩ = some (.int .i64 a0_6) := (blk_cell BK140.out 6).trans rfl
          have hcz30_7 : w29.cell? ⟨gb140, 7, none⟩ = some (.int .i64 a0_7) := (blk_cell BK140.out 7).trans rfl
          have hcz30_8 : w29.cell? ⟨gb140, 8, none⟩ = some (.int .i64 a0_8) := (blk_cell BK140.out 8).trans rfl
          have hcz30_9 : w29.cell? ⟨gb140, 9, none⟩ = some (.int .i64 a0_9) := (blk_cell BK140.out 9).trans rfl
          have hcz30_10 : w29.cell? ⟨gb140, 10, none⟩ = some (.int .i64 a0_10) := (blk_cell BK140.out 10).trans rfl
          have hcz30_11 : w29.cell? ⟨gb140, 11, none⟩ = some (.int .i64 a0_11) := (blk_cell BK140.out 11).trans rfl
          have hcz30_12 : w29.cell? ⟨gb140, 12, none⟩ = some (.slice A0_12 l0_12.length c0_12) := (blk_cell BK140.out 12).trans rfl
          have hfz30_0 := blk_frozen BK140.out 0
          have hfz30_1 := blk_frozen BK140.out 1
          have hfz30_2 := blk_frozen BK140.out 2
          have hfz30_3 := blk_frozen BK140.out 3
          have hfz30_4 := blk_frozen BK140.out 4
          have hfz30_5 := blk_frozen BK140.out 5
          have hfz30_6 := blk_frozen BK140.out 6
          have hfz30_7 := blk_frozen BK140.out 7
          have hfz30_8 := blk_frozen BK140.out 8
          have hfz30_9 := blk_frozen BK140.out 9
          have hfz30_10 := blk_frozen BK140.out 10
          have hfz30_11 := blk_frozen BK140.out 11
          have hfz30_12 := blk_frozen BK140.out 12
          try go_wp2_with (first | ((with_reducible refine gate_callee (f := 44) rfl ?_); refine goesL_ (some 36) rfl rfl Tryd.func44 (by kernel_rfl) rfl #[.int .i64 a0_8] rfl (by (try simp only [List.map_toArray, List.map_cons, List.map_nil]); first | done | rfl | (simp only [List.length_drop, List.length_take]; rfl)) ?_; (with_reducible refine (spec_CodeWord.calls a0_8 t145 _ A23.out).mono ?_); rintro e w31 ⟨rfl, hb⟩; refine ⟨_, rfl, ?_⟩; have n0_ := Aside0.mk (blk_below (g := gb140) (o := .cells #[.int .i64 a0_0, .int .i64 a0_1, .int .i64 a0_2, .int .i64 a0_3, .int .i64 a0_4, .string a0_5, .int .i64 a0_6, .int .i64 a0_7, .int .i64 a0_8, .int .i64 a0_9, .int .i64 a0_10, .int .i64 a0_11, .slice A0_12 l0_12.length c0_12] 52 (0, 0)) (by (with_reducible repeat (first | refine blk_drewN ?_ _ | refine blk_drew ?_ | refine blk_alloc ?_ _)); exact BK140.out) hb); have n1_ := Aside0.mk (below_step (by repeat (first | (with_reducible first | exact HB.out | apply below_alloc | apply pw_below_drewN | apply below_drew1 | refine below_set ?_ GE140.out) | exact HB.out)) hb); clear BK140; clear HB; have BK140 := n0_; have HB := n1_; clear n0_ n1_; (try clear hb); (try clear hb2); (try clear hk); (try clear hi)))
          go_ret
          exact ⟨by first | rfl | (simp [errW_none, errW_some] <;> rfl) | (simp [*, errW_none, errW_some] <;> rfl), by repeat (first | (with_reducible first | exact HB.out | apply below_alloc | apply pw_below_drewN | apply below_drew1 | refine below_set ?_ GE140.out) | exact HB.out)⟩
         ·rw [if_neg c24] at H
          exact absurd H (by simp)
        ·rw [if_neg c22] at H
         exact absurd H (by simp)
       ·rw [if_neg c21] at H
        have c21b0 : decide (a0_9 < 0) = false := decide_eq_false c21
        clear c21
        by_cases c32 : ((((t141 ++ (⟨#[32, 116]⟩ : ByteArray)) ++ t142) ++ (⟨#[32, 35]⟩ : ByteArray)) ++ t143).size + 7 ≤ 9223372036854775807
        ·rw [if_pos c32] at H
         have c32b0 := eq_true c32
         have c32b1 : decide (((((t141 ++ (⟨#[32, 116]⟩ : ByteArray)) ++ t142) ++ (⟨#[32, 35]⟩ : ByteArray)) ++ t143).size + 7 ≤ 9223372036854775807) = true := decide_eq_true c32
         try have c32b2 : (9223372036854775807 < ((((t141 ++ (⟨#[32, 116]⟩ : ByteArray)) ++ t142) ++ (⟨#[32, 35]⟩ : ByteArray)) ++ t143).size + 7) = False := eq_false (Nat.not_lt.2 c32)
         try (have c32n := c32; simp only [ByteArray.size_append, show (⟨#[32, 116]⟩ : ByteArray).size = 2 from rfl, show (⟨#[32, 35]⟩ : ByteArray).size = 2 from rfl] at c32n; have c32b3 := eq_false (Nat.not_lt.2 c32n); have c32b4 := eq_true c32n; clear c32n)
         replace H := Option.bind_eq_some_iff.mp H
         obtain ⟨t146, A330, H⟩ := H
         replace H : (if (((((t141 ++ (⟨#[32, 116]⟩ : ByteArray)) ++ t142) ++ (⟨#[32, 35]⟩ : ByteArray)) ++ t143) ++ (⟨#[32, 112, 111, 105, 110, 116, 32]⟩ : ByteArray)).size + t146.size ≤ 9223372036854775807 then (if ((((((t141 ++ (⟨#[32, 116]⟩ : ByteArray)) ++ t142) ++ (⟨#[32, 35]⟩ : ByteArray)) ++ t143) ++ (⟨#[32, 112, 111, 105, 110, 116, 32]⟩ : ByteArray)) ++ t146).size + 4 ≤ 9223372036854775807 then ((spec_Dec.f k a0_9).bind fun t147 => (if (((((((t141 ++ (⟨#[32, 116]⟩ : ByteArray)) ++ t142) ++ (⟨#[32, 35]⟩ : ByteArray)) ++ t143) ++ (⟨#[32, 112, 111, 105, 110, 116, 32]⟩ : ByteArray)) ++ t146) ++ (⟨#[32, 105, 110, 32]⟩ : ByteArray)).size + t147.size ≤ 9223372036854775807 then (some ((((((((t141 ++ (⟨#[32, 116]⟩ : ByteArray)) ++ t142) ++ (⟨#[32, 35]⟩ : ByteArray)) ++ t143) ++ (⟨#[32, 112, 111, 105, 110, 116, 32]⟩ : ByteArray)) ++ t146) ++ (⟨#[32, 105, 110, 32]⟩ : ByteArray)) ++ t147)) else (none))) else (none)) else (none)) = some r := H
         have A33 := Aside0.mk A330
         clear A330
         by_cases c34 : (((((t141 ++ (⟨#[32, 116]⟩ : ByteArray)) ++ t142) ++ (⟨#[32, 35]⟩ : ByteArray)) ++ t143) ++ (⟨#[32, 112, 111, 105, 110, 116, 32]⟩ : ByteArray)).size + t146.size ≤ 9223372036854775807
         ·rw [if_pos c34] at H
          have c34b0 := eq_true c34
          have c34b1 : decide ((((((t141 ++ (⟨#[32, 116]⟩ : ByteArray)) ++ t142) ++ (⟨#[32, 35]⟩ : ByteArray)) ++ t143) ++ (⟨#[32, 112, 111, 105, 110, 116, 32]⟩ : ByteArray)).size + t146.size ≤ 9223372036854775807) = true := decide_eq_true c34
          try have c34b2 : (9223372036854775807 < (((((t141 ++ (⟨#[32, 116]⟩ : ByteArray)) ++ t142) ++ (⟨#[32, 35]⟩ : ByteArray)) ++ t143) ++ (⟨#[32, 112, 111, 105, 110, 116, 32]⟩ : ByteArray)).size + t146.size) = False := eq_false (Nat.not_lt.2 c34)
          try (have c34n := c34; simp only [ByteArray.size_append, show (⟨#[32, 112, 111, 105, 110, 116, 32]⟩ : ByteArray).size = 7 from rfl, show (⟨#[32, 116]⟩ : ByteArray).size = 2 from rfl, show (⟨#[32, 35]⟩ : ByteArray).size = 2 from rfl] at c34n; have c34b3 := eq_false (Nat.not_lt.2 c34n); have c34b4 := eq_true c34n; clear c34n)
          by_cases c35 : ((((((t141 ++ (⟨#[32, 116]⟩ : ByteArray)) ++ t142) ++ (⟨#[32, 35]⟩ : ByteArray)) ++ t143) ++ (⟨#[32, 112, 111, 105, 110, 116, 32]⟩ : ByteArray)) ++ t146).size + 4 ≤ 9223372036854775807
          ·rw [if_pos c35] at H
           have c35b0 := eq_true c35
           have c35b1 : decide (((((((t141 ++ (⟨#[32, 116]⟩ : ByteArray)) ++ t142) ++ (⟨#[32, 35]⟩ : ByteArray)) ++ t143) ++ (⟨#[32, 112, 111, 105, 110, 116, 32]⟩ : ByteArray)) ++ t146).size + 4 ≤ 9223372036854775807) = true := decide_eq_true c35
           try have c35b2 : (9223372036854775807 < ((((((t141 ++ (⟨#[32, 116]⟩ : ByteArray)) ++ t142) ++ (⟨#[32, 35]⟩ : ByteArray)) ++ t143) ++ (⟨#[32, 112, 111, 105, 110, 116, 32]⟩ : ByteArray)) ++ t146).size + 4) = False := eq_false (Nat.not_lt.2 c35)
           try (have c35n := c35; simp only [ByteArray.size_append, show (⟨#[32, 112, 111, 105, 110, 116, 32]⟩ : ByteArray).size = 7 from rfl, show (⟨#[32, 116]⟩ : ByteArray).size = 2 from rfl, show (⟨#[32, 35]⟩ : ByteArray).size = 2 from rfl] at c35n; have c35b3 := eq_false (Nat.not_lt.2 c35n); have c35b4 := eq_true c35n; clear c35n)
           replace H := Option.bind_eq_some_iff.mp H
           obtain ⟨t147, A360, H⟩ := H
           replace H : (if (((((((t141 ++ (⟨#[32, 116]⟩ : ByteArray)) ++ t142) ++ (⟨#[32, 35]⟩ : ByteArray)) ++ t143) ++ (⟨#[32, 112, 111, 105, 110, 116, 32]⟩ : ByteArray)) ++ t146) ++ (⟨#[32, 105, 110, 32]⟩ : ByteArray)).size + t147.size ≤ 9223372036854775807 then (some ((((((((t141 ++ (⟨#[32, 116]⟩ : ByteArray)) ++ t142) ++ (⟨#[32, 35]⟩ : ByteArray)) ++ t143) ++ (⟨#[32, 112, 111, 105, 110, 116, 32]⟩ : ByteArray)) ++ t146) ++ (⟨#[32, 105, 110, 32]⟩ : ByteArray)) ++ t147)) else (none)) = some r := H
           have A36 := Aside0.mk A360
           clear A360
           by_cases c37 : (((((((t141 ++ (⟨#[32, 116]⟩ : ByteArray)) ++ t142) ++ (⟨#[32, 35]⟩ : ByteArray)) ++ t143) ++ (⟨#[32, 112, 111, 105, 110, 116, 32]⟩ : ByteArray)) ++ t146) ++ (⟨#[32, 105, 110, 32]⟩ : ByteArray)).size + t147.size ≤ 9223372036854775807
           ·rw [if_pos c37] at H
            have c37b0 := eq_true c37
            have c37b1 : decide ((((((((t141 ++ (⟨#[32, 116]⟩ : ByteArray)) ++ t142) ++ (⟨#[32, 35]⟩ : ByteArray)) ++ t143) ++ (⟨#[32, 112, 111, 105, 110, 116, 32]⟩ : ByteArray)) ++ t146) ++ (⟨#[32, 105, 110, 32]⟩ : ByteArray)).size + t147.size ≤ 9223372036854775807) = true := decide_eq_true c37
            try have c37b2 : (9223372036854775807 < (((((((t141 ++ (⟨#[32, 116]⟩ : ByteArray)) ++ t142) ++ (⟨#[32, 35]⟩ : ByteArray)) ++ t143) ++ (⟨#[32, 112, 111, 105, 110, 116, 32]⟩ : ByteArray)) ++ t146) ++ (⟨#[32, 105, 110, 32]⟩ : ByteArray)).size + t147.size) = False := eq_false (Nat.not_lt.2 c37)
            try (have c37n := c37; simp only [ByteArray.size_append, show (⟨#[32, 105, 110, 32]⟩ : ByteArray).size = 4 from rfl, show (⟨#[32, 112, 111, 105, 110, 116, 32]⟩ : ByteArray).size = 7 from rfl, show (⟨#[32, 116]⟩ : ByteArray).size = 2 from rfl, show (⟨#[32, 35]⟩ : ByteArray).size = 2 from rfl] at c37n; have c37b3 := eq_false (Nat.not_lt.2 c37n); have c37b4 := eq_true c37n; clear c37n)
            obtain rfl := Option.some.inj H
            go_enter Tryd.func22, Tryd.ntmps22
            try go_wp2_with (first | ((with_reducible refine gate_dst (N := 1) rfl ?_); refine box_event ?hg (N := 1) ?hd (cs := #[.int .i64 a0_0, .int .i64 a0_1, .int .i64 a0_2, .int .i64 a0_3, .int .i64 a0_4, .string a0_5, .int .i64 a0_6, .int .i64 a0_7, .int .i64 a0_8, .int .i64 a0_9, .int .i64 a0_10, .int .i64 a0_11, .slice A0_12 l0_12.length c0_12]) (t := 52) ?hr ?_; (case hd => rfl); (case hg => rfl); (case hr => first | (go_simp; done) | (go_simp; rfl)); intro gb140 hg w38 hbox hb; have n0_ := Aside0.mk (below_step (by repeat (first | (with_reducible first | exact HB.out | apply below_alloc | apply pw_below_drewN | apply below_drew1) | exact HB.out)) hb); have n1_ := Aside0.mk (hbox); have n2_ := Aside0.mk ((by rw [hg]; exact (below_size (by repeat (first | (with_reducible first | exact HB.out | apply below_alloc | apply pw_below_drewN | apply below_drew1) | exact HB.out))) : w.heap.size ≤ gb140)); have n3_ := Aside0.mk ((by rw [hg]; exact (below_size (by repeat (first | (with_reducible first | exact HB.out | apply below_alloc | apply pw_below_drewN | apply below_drew1) | exact HB.out))) : w.heap.size ≤ gb140)); clear HB; have HB := n0_; have BK140 := n1_; have GW140 := n2_; have GE140 := n3_; clear n0_ n1_ n2_ n3_; clear hb hbox hg))
            have n0_ := Aside0.mk (blk_drew BK140.out)
            have n1_ := Aside0.mk (below_drew1 HB.out)
            clear BK140
            clear HB
            have BK140 := n0_
            have HB := n1_
            clear n0_ n1_
            refine start_ (n := 14) (S := fun w' => w'.cell? ⟨gb140, 0, none⟩ = some (.int .i64 a0_0) ∧ w'.cell? ⟨gb140, 1, none⟩ = some (.int .i64 a0_1) ∧ w'.cell? ⟨gb140, 2, none⟩ = some (.int .i64 a0_2) ∧ w'.cell? ⟨gb140, 3, none⟩ = some (.int .i64 a0_3) ∧ w'.cell? ⟨gb140, 4, none⟩ = some (.int .i64 a0_4) ∧ w'.cell? ⟨gb140, 5, none⟩ = some (.string a0_5) ∧ w'.cell? ⟨gb140, 6, none⟩ = some (.int .i64 a0_6) ∧ w'.cell? ⟨gb140, 7, none⟩ = some (.int .i64 a0_7) ∧ w'.cell? ⟨gb140, 8, none⟩ = some (.int .i64 a0_8) ∧ w'.cell? ⟨gb140, 9, none⟩ = some (.int .i64 a0_9) ∧ w'.cell? ⟨gb140, 10, none⟩ = some (.int .i64 a0_10) ∧ w'.cell? ⟨gb140, 11, none⟩ = some (.int .i64 a0_11) ∧ w'.cell? ⟨gb140, 12, none⟩ = some (.slice A0_12 l0_12.length c0_12)) (ds := []) #[false, false, false, false, false, false, false, false, false, false, false, false, false, false] (by kernel_rfl) rfl rfl ⟨(blk_cell BK140.out 0).trans rfl, (blk_cell BK140.out 1).trans rfl, (blk_cell BK140.out 2).trans rfl, (blk_cell BK140.out 3).trans rfl, (blk_cell BK140.out 4).trans rfl, (blk_cell BK140.out 5).trans rfl, (blk_cell BK140.out 6).trans rfl, (blk_cell BK140.out 7).trans rfl, (blk_cell BK140.out 8).trans rfl, (blk_cell BK140.out 9).trans rfl, (blk_cell BK140.out 10).trans rfl, (blk_cell BK140.out 11).trans rfl, (blk_cell BK140.out 12).trans rfl⟩ (fun hHeld => ?_); refine with_tabW spec_ShowEv.tab1 spec_ShowEv.bits1 (fun HT_ HW_ => ?_)
            generalize w38.drew = w39 at BK140 HB hHeld ⊢
            refine pure_ (i := 0) (N := some 4) (v := ?_) (a' := ?_) #[true, false, false, false, false, false, false, false, false, false, false, false, false, false] rfl rfl (any_of HT_.out (by kernel_rfl)) (fun _ _ _ h => h) (Or.inl ⟨by rfl, ?_⟩) ?_ ?_
            rotate_left
            ·intro w'
             go_simp
             with_reducible rfl
            rotate_left
            ·simp only [Act.put, List.setIfInBounds_toArray, List.set_cons_zero, List.set_cons_succ, i64_w, i32_w]
             rfl
            refine pure_ (i := 4) (N := some 8) (v := ?_) (a' := ?_) #[true, false, false, false, true, false, false, false, false, false, false, false, false, false] rfl rfl (any_of HT_.out (by kernel_rfl)) (fun _ _ _ h => h) (Or.inl ⟨by rfl, ?_⟩) ?_ ?_
            rotate_left
            ·intro w'
             go_simp
             with_reducible rfl
            rotate_left
            ·simp only [Act.put, List.setIfInBounds_toArray, List.set_cons_zero, List.set_cons_succ, i64_w, i32_w]
             rfl
            refine pure_ (i := 9) (N := some 13) (v := ?_) (a' := ?_) #[true, false, false, false, true, false, false, false, false, true, false, false, false, false] rfl rfl (any_of HT_.out (by kernel_rfl)) (fun _ _ _ h => h) (Or.inl ⟨by rfl, ?_⟩) ?_ ?_
            rotate_left
            ·intro w'
             go_simp
             with_reducible rfl
            rotate_left
            ·simp only [Act.put, List.setIfInBounds_toArray, List.set_cons_zero, List.set_cons_succ, i64_w, i32_w]
             rfl
            refine take_ (i := 1) (N := some 5) (v := ?_) (a' := ?_) #[true, true, false, false, true, false, false, false, false, true, false, false, false, false] rfl rfl (take_ofW HT_.out HW_.out (by kernel_rfl)) (fun _ _ _ h => h) (Or.inl ⟨by rfl, ?_⟩) hHeld ?_ ?_
            rotate_left
            ·rintro w' ⟨s0, s1, s2, s3, s4, s5, s6, s7, s8, s9, s10, s11, s12⟩
             go_simp
             with_reducible rfl
            rotate_left
            ·simp only [Act.put, List.setIfInBounds_toArray, List.set_cons_zero, List.set_cons_succ, i64_w, i32_w]
             rfl
            refine take_ (i := 5) (N := some 9) (v := ?_) (a' := ?_) #[true, true, false, false, true, true, false, false, false, true, false, false, false, false] rfl rfl (take_ofW HT_.out HW_.out (by kernel_rfl)) (fun _ _ _ h => h) (Or.inl ⟨by rfl, ?_⟩) hHeld ?_ ?_
            rotate_left
            ·rintro w' ⟨s0, s1, s2, s3, s4, s5, s6, s7, s8, s9, s10, s11, s12⟩
             go_simp
             with_reducible rfl
            rotate_left
            ·simp only [Act.put, List.setIfInBounds_toArray, List.set_cons_zero, List.set_cons_succ, i64_w, i32_w]
             rfl
            refine take_ (i := 10) (N := some 14) (v := ?_) (a' := ?_) #[true, true, false, false, true, true, false, false, false, true, true, false, false, false] rfl rfl (take_ofW HT_.out HW_.out (by kernel_rfl)) (fun _ _ _ h => h) (Or.inl ⟨by rfl, ?_⟩) hHeld ?_ ?_
            rotate_left
            ·rintro w' ⟨s0, s1, s2, s3, s4, s5, s6, s7, s8, s9, s10, s11, s12⟩
             go_simp
             with_reducible rfl
            rotate_left
            ·simp only [Act.put, List.setIfInBounds_toArray, List.set_cons_zero, List.set_cons_succ, i64_w, i32_w]
             rfl
            refine one_ (i := 2) (N := some 6) #[true, true, true, false, true, true, false, false, false, true, true, false, false, false] rfl rfl (one_of HT_.out (by kernel_rfl)) (by decide) (fun K hK => ?_)
            refine goes_ Tryd.func43 (by kernel_rfl) rfl #[.int .i64 a0_3] (by rfl) rfl rfl (by (try simp only [List.map_toArray, List.map_cons, List.map_nil]); first | done | rfl | (simp only [List.length_drop, List.length_take]; rfl)) ?_
            with_reducible refine (spec_Dec.calls k a0_3 t141 _ A2.out).mono ?_
            rintro e w40 ⟨rfl, hb⟩
            refine ⟨_, rfl, ?_⟩
            have n0_ := Aside0.mk (blk_below (g := gb140) (o := .cells #[.int .i64 a0_0, .int .i64 a0_1, .int .i64 a0_2, .int .i64 a0_3, .int .i64 a0_4, .string a0_5, .int .i64 a0_6, .int .i64 a0_7, .int .i64 a0_8, .int .i64 a0_9, .int .i64 a0_10, .int .i64 a0_11, .slice A0_12 l0_12.length c0_12] 52 (0, 0)) (by (with_reducible repeat (first | refine blk_drewN ?_ _ | refine blk_drew ?_ | refine blk_alloc ?_ _)); exact BK140.out) hb)
            have n1_ := Aside0.mk (below_step (by repeat (first | (with_reducible first | exact HB.out | apply below_alloc | apply pw_below_drewN | apply below_drew1 | refine below_set ?_ GE140.out) | exact HB.out)) hb)
            clear BK140
            clear HB
            have BK140 := n0_
            have HB := n1_
            clear n0_ n1_
            (try clear hb)
            (try clear hb2)
            (try clear hk)
            (try clear hi)
            refine hK.out _ _ ⟨(blk_cell BK140.out 0).trans rfl, (blk_cell BK140.out 1).trans rfl, (blk_cell BK140.out 2).trans rfl, (blk_cell BK140.out 3).trans rfl, (blk_cell BK140.out 4).trans rfl, (blk_cell BK140.out 5).trans rfl, (blk_cell BK140.out 6).trans rfl, (blk_cell BK140.out 7).trans rfl, (blk_cell BK140.out 8).trans rfl, (blk_cell BK140.out 9).trans rfl, (blk_cell BK140.out 10).trans rfl, (blk_cell BK140.out 11).trans rfl, (blk_cell BK140.out 12).trans rfl⟩ (fun hHeld => ?_)
            clear hK K
            refine norm_ (a' := ?_) ?_ ?_
            rotate_left
            ·show Act.put _ (some 6) _ = _
             simp only [Act.put, List.setIfInBounds_toArray, List.set_cons_zero, List.set_cons_succ, i64_w, i32_w]
             rfl
            refine pure_ (i := 3) (N := some 7) (v := ?_) (a' := ?_) #[true, true, true, true, true, true, false, false, false, true, true, false, false, false] rfl rfl (any_of HT_.out (by kernel_rfl)) (fun _ _ _ h => h) (Or.inl ⟨by rfl, ?_⟩) ?_ ?_
            rotate_left
            ·intro w'
             go_simp
             with_reducible rfl
            rotate_left
            ·simp only [Act.put, List.setIfInBounds_toArray, List.set_cons_zero, List.set_cons_succ, i64_w, i32_w]
             rfl
            refine one_ (i := 6) (N := some 10) #[true, true, true, true, true, true, true, false, false, true, true, false, false, false] rfl rfl (one_of HT_.out (by kernel_rfl)) (by decide) (fun K hK => ?_)
            refine goes_ Tryd.func43 (by kernel_rfl) rfl #[.int .i64 a0_1] (by rfl) rfl rfl (by (try simp only [List.map_toArray, List.map_cons, List.map_nil]); first | done | rfl | (simp only [List.length_drop, List.length_take]; rfl)) ?_
            with_reducible refine (spec_Dec.calls k a0_1 t142 _ A4.out).mono ?_
            rintro e w41 ⟨rfl, hb⟩
            refine ⟨_, rfl, ?_⟩
            have n0_ := Aside0.mk (blk_below (g := gb140) (o := .cells #[.int .i64 a0_0, .int .i64 a0_1, .int .i64 a0_2, .int .i64 a0_3, .int .i64 a0_4, .string a0_5, .int .i64 a0_6, .int .i64 a0_7, .int .i64 a0_8, .int .i64 a0_9, .int .i64 a0_10, .int .i64 a0_11, .slice A0_12 l0_12.length c0_12] 52 (0, 0)) (by (with_reducible repeat (first | refine blk_drewN ?_ _ | refine blk_drew ?_ | refine blk_alloc ?_ _)); exact BK140.out) hb)
            have n1_ := Aside0.mk (below_step (by repeat (first | (with_reducible first | exact HB.out | apply below_alloc | apply pw_below_drewN | apply below_drew1 | refine below_set ?_ GE140.out) | exact HB.out)) hb)
            clear BK140
            clear HB
            have BK140 := n0_
            have HB := n1_
            clear n0_ n1_
            (try clear hb)
            (try clear hb2)
            (try clear hk)
            (try clear hi)
            refine hK.out _ _ ⟨(blk_cell BK140.out 0).trans rfl, (blk_cell BK140.out 1).trans rfl, (blk_cell BK140.out 2).trans rfl, (blk_cell BK140.out 3).trans rfl, (blk_cell BK140.out 4).trans rfl, (blk_cell BK140.out 5).trans rfl, (blk_cell BK140.out 6).trans rfl, (blk_cell BK140.out 7).trans rfl, (blk_cell BK140.out 8).trans rfl, (blk_cell BK140.out 9).trans rfl, (blk_cell BK140.out 10).trans rfl, (blk_cell BK140.out 11).trans rfl, (blk_cell BK140.out 12).trans rfl⟩ (fun hHeld => ?_)
            clear hK K
            refine norm_ (a' := ?_) ?_ ?_
            rotate_left
            ·show Act.put _ (some 10) _ = _
             simp only [Act.put, List.setIfInBounds_toArray, List.set_cons_zero, List.set_cons_succ, i64_w, i32_w]
             rfl
            refine pure_ (i := 7) (N := some 11) (v := ?_) (a' := ?_) #[true, true, true, true, true, true, true, true, false, true, true, false, false, false] rfl rfl (any_of HT_.out (by kernel_rfl)) (fun _ _ _ h => h) (Or.inl ⟨by rfl, ?_⟩) ?_ ?_
            rotate_left
            ·intro w'
             go_simp
             with_reducible rfl
            rotate_left
            ·simp only [Act.put, List.setIfInBounds_toArray, List.set_cons_zero, List.set_cons_succ, i64_w, i32_w]
             rfl
            refine pure_ (i := 8) (N := some 12) (v := ?_) (a' := ?_) #[true, true, true, true, true, true, true, true, true, true, true, false, false, false] rfl rfl (any_of HT_.out (by kernel_rfl)) (fun _ _ _ h => h) (Or.inl ⟨by rfl, ?_⟩) ?_ ?_
            rotate_left
            ·intro w'
             go_simp
             with_reducible rfl
            rotate_left
            ·simp only [Act.put, List.setIfInBounds_toArray, List.set_cons_zero, List.set_cons_succ, i64_w, i32_w]
             rfl
            refine one_ (i := 11) (N := some 15) #[true, true, true, true, true, true, true, true, true, true, true, true, false, false] rfl rfl (one_of HT_.out (by kernel_rfl)) (by decide) (fun K hK => ?_)
            refine goes_ Tryd.func43 (by kernel_rfl) rfl #[.int .i64 a0_2] (by rfl) rfl rfl (by (try simp only [List.map_toArray, List.map_cons, List.map_nil]); first | done | rfl | (simp only [List.length_drop, List.length_take]; rfl)) ?_
            with_reducible refine (spec_Dec.calls k a0_2 t143 _ A7.out).mono ?_
            rintro e w42 ⟨rfl, hb⟩
            refine ⟨_, rfl, ?_⟩
            have n0_ := Aside0.mk (blk_below (g := gb140) (o := .cells #[.int .i64 a0_0, .int .i64 a0_1, .int .i64 a0_2, .int .i64 a0_3, .int .i64 a0_4, .string a0_5, .int .i64 a0_6, .int .i64 a0_7, .int .i64 a0_8, .int .i64 a0_9, .int .i64 a0_10, .int .i64 a0_11, .slice A0_12 l0_12.length c0_12] 52 (0, 0)) (by (with_reducible repeat (first | refine blk_drewN ?_ _ | refine blk_drew ?_ | refine blk_alloc ?_ _)); exact BK140.out) hb)
            have n1_ := Aside0.mk (below_step (by repeat (first | (with_reducible first | exact HB.out | apply below_alloc | apply pw_below_drewN | apply below_drew1 | refine below_set ?_ GE140.out) | exact HB.out)) hb)
            clear BK140
            clear HB
            have BK140 := n0_
            have HB := n1_
            clear n0_ n1_
            (try clear hb)
            (try clear hb2)
            (try clear hk)
            (try clear hi)
            refine hK.out _ _ ⟨(blk_cell BK140.out 0).trans rfl, (blk_cell BK140.out 1).trans rfl, (blk_cell BK140.out 2).trans rfl, (blk_cell BK140.out 3).trans rfl, (blk_cell BK140.out 4).trans rfl, (blk_cell BK140.out 5).trans rfl, (blk_cell BK140.out 6).trans rfl, (blk_cell BK140.out 7).trans rfl, (blk_cell BK140.out 8).trans rfl, (blk_cell BK140.out 9).trans rfl, (blk_cell BK140.out 10).trans rfl, (blk_cell BK140.out 11).trans rfl, (blk_cell BK140.out 12).trans rfl⟩ (fun hHeld => ?_)
            clear hK K
            refine norm_ (a' := ?_) ?_ ?_
            rotate_left
            ·show Act.put _ (some 15) _ = _
             simp only [Act.put, List.setIfInBounds_toArray, List.set_cons_zero, List.set_cons_succ, i64_w, i32_w]
             rfl
            refine pure_ (i := 12) (N := some 16) (v := ?_) (a' := ?_) #[true, true, true, true, true, true, true, true, true, true, true, true, true, false] rfl rfl (any_of HT_.out (by kernel_rfl)) (fun _ _ _ h => h) (Or.inl ⟨by rfl, ?_⟩) ?_ ?_
            rotate_left
            ·intro w'
             go_simp
             with_reducible rfl
            rotate_left
            ·simp only [Act.put, List.setIfInBounds_toArray, List.set_cons_zero, List.set_cons_succ, i64_w, i32_w]
             rfl
            refine pure_ (i := 13) (N := some 3) (v := ?_) (a' := ?_) #[true, true, true, true, true, true, true, true, true, true, true, true, true, true] rfl rfl (any_of HT_.out (by kernel_rfl)) (fun _ _ _ h => h) (Or.inl ⟨by rfl, ?_⟩) ?_ ?_
            rotate_left
            ·intro w'
             go_simp
             with_reducible rfl
            rotate_left
            ·simp only [Act.put, List.setIfInBounds_toArray, List.set_cons_zero, List.set_cons_succ, i64_w, i32_w]
             rfl
            refine done_ (done_of HT_.out (by kernel_rfl)) ?_
            have hcz43_0 : w42.cell? ⟨gb140, 0, none⟩ = some (.int .i64 a0_0) := (blk_cell BK140.out 0).trans rfl
            have hcz43_1 : w42.cell? ⟨gb140, 1, none⟩ = some (.int .i64 a0_1) := (blk_cell BK140.out 1).trans rfl
            have hcz43_2 : w42.cell? ⟨gb140, 2, none⟩ = some (.int .i64 a0_2) := (blk_cell BK140.out 2).trans rfl
            have hcz43_3 : w42.cell? ⟨gb140, 3, none⟩ = some (.int .i64 a0_3) := (blk_cell BK140.out 3).trans rfl
            have hcz43_4 : w42.cell? ⟨gb140, 4, none⟩ = some (.int .i64 a0_4) := (blk_cell BK140.out 4).trans rfl
            have hcz43_5 : w42.cell? ⟨gb140, 5, none⟩ = some (.string a0_5) := (blk_cell BK140.out 5).trans rfl
            have hcz43_6 : w42.cell? ⟨gb140, 6, none⟩ = some (.int .i64 a0_6) := (blk_cell BK140.out 6).trans rfl
            have hcz43_7 : w42.cell? ⟨gb140, 7, none⟩ = some (.int .i64 a0_7) := (blk_cell BK140.out 7).trans rfl
            have hcz43_8 : w42.cell? ⟨gb140, 8, none⟩ = some (.int .i64 a0_8) := (blk_cell BK140.out 8).trans rfl
            have hcz43_9 : w42.cell? ⟨gb140, 9, none⟩ = some (.int .i64 a0_9) := (blk_cell BK140.out 9).trans rfl
            have hcz43_10 : w42.cell? ⟨gb140, 10, none⟩ = some (.int .i64 a0_10) := (blk_cell BK140.out 10).trans rfl
            have hcz43_11 : w42.cell? ⟨gb140, 11, none⟩ = some (.int .i64 a0_11) := (blk_cell BK140.out 11).trans rfl
            have hcz43_12 : w42.cell? ⟨gb140, 12, none⟩ = some (.slice A0_12 l0_12.length c0_12) := (blk_cell BK140.out 12).trans rfl
            have hfz43_0 := blk_frozen BK140.out 0
            have hfz43_1 := blk_frozen BK140.out 1
            have hfz43_2 := blk_frozen BK140.out 2
            have hfz43_3 := blk_frozen BK140.out 3
            have hfz43_4 := blk_frozen BK140.out 4
            have hfz43_5 := blk_frozen BK140.out 5
            have hfz43_6 := blk_frozen BK140.out 6
            have hfz43_7 := blk_frozen BK140.out 7
            have hfz43_8 := blk_frozen BK140.out 8
            have hfz43_9 := blk_frozen BK140.out 9
            have hfz43_10 := blk_frozen BK140.out 10
            have hfz43_11 := blk_frozen BK140.out 11
            have hfz43_12 := blk_frozen BK140.out 12
            try go_wp2
            have n0_ := Aside0.mk (blk_drew BK140.out)
            have n1_ := Aside0.mk (below_drew1 HB.out)
            clear BK140
            clear HB
            have BK140 := n0_
            have HB := n1_
            clear n0_ n1_
            refine start_ (n := 12) (S := fun w' => w'.cell? ⟨gb140, 0, none⟩ = some (.int .i64 a0_0) ∧ w'.cell? ⟨gb140, 1, none⟩ = some (.int .i64 a0_1) ∧ w'.cell? ⟨gb140, 2, none⟩ = some (.int .i64 a0_2) ∧ w'.cell? ⟨gb140, 3, none⟩ = some (.int .i64 a0_3) ∧ w'.cell? ⟨gb140, 4, none⟩ = some (.int .i64 a0_4) ∧ w'.cell? ⟨gb140, 5, none⟩ = some (.string a0_5) ∧ w'.cell? ⟨gb140, 6, none⟩ = some (.int .i64 a0_6) ∧ w'.cell? ⟨gb140, 7, none⟩ = some (.int .i64 a0_7) ∧ w'.cell? ⟨gb140, 8, none⟩ = some (.int .i64 a0_8) ∧ w'.cell? ⟨gb140, 9, none⟩ = some (.int .i64 a0_9) ∧ w'.cell? ⟨gb140, 10, none⟩ = some (.int .i64 a0_10) ∧ w'.cell? ⟨gb140, 11, none⟩ = some (.int .i64 a0_11) ∧ w'.cell? ⟨gb140, 12, none⟩ = some (.slice A0_12 l0_12.length c0_12)) (ds := []) #[false, false, false, false, false, false, false, false, false, false, false, false] (by kernel_rfl) rfl rfl ⟨(blk_cell BK140.out 0).trans rfl, (blk_cell BK140.out 1).trans rfl, (blk_cell BK140.out 2).trans rfl, (blk_cell BK140.out 3).trans rfl, (blk_cell BK140.out 4).trans rfl, (blk_cell BK140.out 5).trans rfl, (blk_cell BK140.out 6).trans rfl, (blk_cell BK140.out 7).trans rfl, (blk_cell BK140.out 8).trans rfl, (blk_cell BK140.out 9).trans rfl, (blk_cell BK140.out 10).trans rfl, (blk_cell BK140.out 11).trans rfl, (blk_cell BK140.out 12).trans rfl⟩ (fun hHeld => ?_); refine with_tabW spec_ShowEv.tab8 spec_ShowEv.bits8 (fun HT_ HW_ => ?_)
            generalize w42.drew = w44 at BK140 HB hHeld ⊢
            refine pure_ (i := 0) (N := some 38) (v := ?_) (a' := ?_) #[true, false, false, false, false, false, false, false, false, false, false, false] rfl rfl (any_of HT_.out (by kernel_rfl)) (fun _ _ _ h => h) (Or.inl ⟨by rfl, ?_⟩) ?_ ?_
            rotate_left
            ·intro w'
             go_simp
             with_reducible rfl
            rotate_left
            ·simp only [Act.put, List.setIfInBounds_toArray, List.set_cons_zero, List.set_cons_succ, i64_w, i32_w]
             rfl
            refine pure_ (i := 1) (N := some 39) (v := ?_) (a' := ?_) #[true, true, false, false, false, false, false, false, false, false, false, false] rfl rfl (any_of HT_.out (by kernel_rfl)) (fun _ _ _ h => h) (Or.inl ⟨by rfl, ?_⟩) ?_ ?_
            rotate_left
            ·intro w'
             go_simp
             with_reducible rfl
            rotate_left
            ·simp only [Act.put, List.setIfInBounds_toArray, List.set_cons_zero, List.set_cons_succ, i64_w, i32_w]
             rfl
            refine pure_ (i := 2) (N := some 40) (v := ?_) (a' := ?_) #[true, true, true, false, false, false, false, false, false, false, false, false] rfl rfl (any_of HT_.out (by kernel_rfl)) (fun _ _ _ h => h) (Or.inl ⟨by rfl, ?_⟩) ?_ ?_
            rotate_left
            ·intro w'
             go_simp
             with_reducible rfl
            rotate_left
            ·simp only [Act.put, List.setIfInBounds_toArray, List.set_cons_zero, List.set_cons_succ, i64_w, i32_w]
             rfl
            refine pure_ (i := 7) (N := some 45) (v := ?_) (a' := ?_) #[true, true, true, false, false, false, false, true, false, false, false, false] rfl rfl (any_of HT_.out (by kernel_rfl)) (fun _ _ _ h => h) (Or.inl ⟨by rfl, ?_⟩) ?_ ?_
            rotate_left
            ·intro w'
             go_simp
             with_reducible rfl
            rotate_left
            ·simp only [Act.put, List.setIfInBounds_toArray, List.set_cons_zero, List.set_cons_succ, i64_w, i32_w]
             rfl
            refine take_ (i := 3) (N := some 41) (v := ?_) (a' := ?_) #[true, true, true, true, false, false, false, true, false, false, false, false] rfl rfl (take_ofW HT_.out HW_.out (by kernel_rfl)) (fun _ _ _ h => h) (Or.inl ⟨by rfl, ?_⟩) hHeld ?_ ?_
            rotate_left
            ·rintro w' ⟨s0, s1, s2, s3, s4, s5, s6, s7, s8, s9, s10, s11, s12⟩
             go_simp
             with_reducible rfl
            rotate_left
            ·simp only [Act.put, List.setIfInBounds_toArray, List.set_cons_zero, List.set_cons_succ, i64_w, i32_w]
             rfl
            refine take_ (i := 8) (N := some 46) (v := ?_) (a' := ?_) #[true, true, true, true, false, false, false, true, true, false, false, false] rfl rfl (take_ofW HT_.out HW_.out (by kernel_rfl)) (fun _ _ _ h => h) (Or.inl ⟨by rfl, ?_⟩) hHeld ?_ ?_
            rotate_left
            ·rintro w' ⟨s0, s1, s2, s3, s4, s5, s6, s7, s8, s9, s10, s11, s12⟩
             go_simp
             with_reducible rfl
            rotate_left
            ·simp only [Act.put, List.setIfInBounds_toArray, List.set_cons_zero, List.set_cons_succ, i64_w, i32_w]
             rfl
            refine one_ (i := 4) (N := some 42) #[true, true, true, true, true, false, false, true, true, false, false, false] rfl rfl (one_of HT_.out (by kernel_rfl)) (by decide) (fun K hK => ?_)
            refine goes_ Tryd.func44 (by kernel_rfl) rfl #[.int .i64 a0_8] (by rfl) rfl rfl (by (try simp only [List.map_toArray, List.map_cons, List.map_nil]); first | done | rfl | (simp only [List.length_drop, List.length_take]; rfl)) ?_
            with_reducible refine (spec_CodeWord.calls a0_8 t146 _ A33.out).mono ?_
            rintro e w45 ⟨rfl, hb⟩
            refine ⟨_, rfl, ?_⟩
            have n0_ := Aside0.mk (blk_below (g := gb140) (o := .cells #[.int .i64 a0_0, .int .i64 a0_1, .int .i64 a0_2, .int .i64 a0_3, .int .i64 a0_4, .string a0_5, .int .i64 a0_6, .int .i64 a0_7, .int .i64 a0_8, .int .i64 a0_9, .int .i64 a0_10, .int .i64 a0_11, .slice A0_12 l0_12.length c0_12] 52 (0, 0)) (by (with_reducible repeat (first | refine blk_drewN ?_ _ | refine blk_drew ?_ | refine blk_alloc ?_ _)); exact BK140.out) hb)
            have n1_ := Aside0.mk (below_step (by repeat (first | (with_reducible first | exact HB.out | apply below_alloc | apply pw_below_drewN | apply below_drew1 | refine below_set ?_ GE140.out) | exact HB.out)) hb)
            clear BK140
            clear HB
            have BK140 := n0_
            have HB := n1_
            clear n0_ n1_
            (try clear hb)
            (try clear hb2)
            (try clear hk)
            (try clear hi)
            refine hK.out _ _ ⟨(blk_cell BK140.out 0).trans rfl, (blk_cell BK140.out 1).trans rfl, (blk_cell BK140.out 2).trans rfl, (blk_cell BK140.out 3).trans rfl, (blk_cell BK140.out 4).trans rfl, (blk_cell BK140.out 5).trans rfl, (blk_cell BK140.out 6).trans rfl, (blk_cell BK140.out 7).trans rfl, (blk_cell BK140.out 8).trans rfl, (blk_cell BK140.out 9).trans rfl, (blk_cell BK140.out 10).trans rfl, (blk_cell BK140.out 11).trans rfl, (blk_cell BK140.out 12).trans rfl⟩ (fun hHeld => ?_)
            clear hK K
            refine norm_ (a' := ?_) ?_ ?_
            rotate_left
            ·show Act.put _ (some 42) _ = _
             simp only [Act.put, List.setIfInBounds_toArray, List.set_cons_zero, List.set_cons_succ, i64_w, i32_w]
             rfl
            refine pure_ (i := 5) (N := some 43) (v := ?_) (a' := ?_) #[true, true, true, true, true, true, false, true, true, false, false, false] rfl rfl (any_of HT_.out (by kernel_rfl)) (fun _ _ _ h => h) (Or.inl ⟨by rfl, ?_⟩) ?_ ?_
            rotate_left
            ·intro w'
             go_simp
             with_reducible rfl
            rotate_left
            ·simp only [Act.put, List.setIfInBounds_toArray, List.set_cons_zero, List.set_cons_succ, i64_w, i32_w]
             rfl
            refine pure_ (i := 6) (N := some 44) (v := ?_) (a' := ?_) #[true, true, true, true, true, true, true, true, true, false, false, false] rfl rfl (any_of HT_.out (by kernel_rfl)) (fun _ _ _ h => h) (Or.inl ⟨by rfl, ?_⟩) ?_ ?_
            rotate_left
            ·intro w'
             go_simp
             with_reducible rfl
            rotate_left
            ·simp only [Act.put, List.setIfInBounds_toArray, List.set_cons_zero, List.set_cons_succ, i64_w, i32_w]
             rfl
            refine one_ (i := 9) (N := some 47) #[true, true, true, true, true, true, true, true, true, true, false, false] rfl rfl (one_of HT_.out (by kernel_rfl)) (by decide) (fun K hK => ?_)
            refine goes_ Tryd.func43 (by kernel_rfl) rfl #[.int .i64 a0_9] (by rfl) rfl rfl (by (try simp only [List.map_toArray, List.map_cons, List.map_nil]); first | done | rfl | (simp only [List.length_drop, List.length_take]; rfl)) ?_
            with_reducible refine (spec_Dec.calls k a0_9 t147 _ A36.out).mono ?_
            rintro e w46 ⟨rfl, hb⟩
            refine ⟨_, rfl, ?_⟩
            have n0_ := Aside0.mk (blk_below (g := gb140) (o := .cells #[.int .i64 a0_0, .int .i64 a0_1, .int .i64 a0_2, .int .i64 a0_3, .int .i64 a0_4, .string a0_5, .int .i64 a0_6, .int .i64 a0_7, .int .i64 a0_8, .int .i64 a0_9, .int .i64 a0_10, .int .i64 a0_11, .slice A0_12 l0_12.length c0_12] 52 (0, 0)) (by (with_reducible repeat (first | refine blk_drewN ?_ _ | refine blk_drew ?_ | refine blk_alloc ?_ _)); exact BK140.out) hb)
            have n1_ := Aside0.mk (below_step (by repeat (first | (with_reducible first | exact HB.out | apply below_alloc | apply pw_below_drewN | apply below_drew1 | refine below_set ?_ GE140.out) | exact HB.out)) hb)
            clear BK140
            clear HB
            have BK140 := n0_
            have HB := n1_
            clear n0_ n1_
            (try clear hb)
            (try clear hb2)
            (try clear hk)
            (try clear hi)
            refine hK.out _ _ ⟨(blk_cell BK140.out 0).trans rfl, (blk_cell BK140.out 1).trans rfl, (blk_cell BK140.out 2).trans rfl, (blk_cell BK140.out 3).trans rfl, (blk_cell BK140.out 4).trans rfl, (blk_cell BK140.out 5).trans rfl, (blk_cell BK140.out 6).trans rfl, (blk_cell BK140.out 7).trans rfl, (blk_cell BK140.out 8).trans rfl, (blk_cell BK140.out 9).trans rfl, (blk_cell BK140.out 10).trans rfl, (blk_cell BK140.out 11).trans rfl, (blk_cell BK140.out 12).trans rfl⟩ (fun hHeld => ?_)
            clear hK K
            refine norm_ (a' := ?_) ?_ ?_
            rotate_left
            ·show Act.put _ (some 47) _ = _
             simp only [Act.put, List.setIfInBounds_toArray, List.set_cons_zero, List.set_cons_succ, i64_w, i32_w]
             rfl
            refine pure_ (i := 10) (N := some 48) (v := ?_) (a' := ?_) #[true, true, true, true, true, true, true, true, true, true, true, false] rfl rfl (any_of HT_.out (by kernel_rfl)) (fun _ _ _ h => h) (Or.inl ⟨by rfl, ?_⟩) ?_ ?_
            rotate_left
            ·intro w'
             go_simp
             with_reducible rfl
            rotate_left
            ·simp only [Act.put, List.setIfInBounds_toArray, List.set_cons_zero, List.set_cons_succ, i64_w, i32_w]
             rfl
            refine pure_ (i := 11) (N := some 2) (v := ?_) (a' := ?_) #[true, true, true, true, true, true, true, true, true, true, true, true] rfl rfl (any_of HT_.out (by kernel_rfl)) (fun _ _ _ h => h) (Or.inl ⟨by rfl, ?_⟩) ?_ ?_
            rotate_left
            ·intro w'
             go_simp
             with_reducible rfl
            rotate_left
            ·simp only [Act.put, List.setIfInBounds_toArray, List.set_cons_zero, List.set_cons_succ, i64_w, i32_w]
             rfl
            refine done_ (done_of HT_.out (by kernel_rfl)) ?_
            try go_wp2
            go_ret
            exact ⟨by first | rfl | (simp [errW_none, errW_some] <;> rfl) | (simp [*, errW_none, errW_some] <;> rfl), by repeat (first | (with_reducible first | exact HB.out | apply below_alloc | apply pw_below_drewN | apply below_drew1 | refine below_set ?_ GE140.out) | exact HB.out)⟩
           ·rw [if_neg c37] at H
            exact absurd H (by simp)
          ·rw [if_neg c35] at H
           exact absurd H (by simp)
         ·rw [if_neg c34] at H
          exact absurd H (by simp)
        ·rw [if_neg c32] at H
         exact absurd H (by simp)
      ·rw [if_neg c20] at H
       have c20b0 : (a0_0 == 2) = false := beq_eq_false_iff_ne.mpr c20
       have c20b1 : (a0_0 != 2) = true := bne_iff_ne.mpr c20
       by_cases c47 : a0_0 = 3
       ·rw [if_pos c47] at H
        have c47b0 : (a0_0 == 3) = true := beq_iff_eq.mpr c47
        have c47b1 : (a0_0 != 3) = false := bne_eq_false_iff_eq.mpr c47
        clear c47
        by_cases c48 : ((((t141 ++ (⟨#[32, 116]⟩ : ByteArray)) ++ t142) ++ (⟨#[32, 35]⟩ : ByteArray)) ++ t143).size + 6 ≤ 9223372036854775807
        ·rw [if_pos c48] at H
         have c48b0 := eq_true c48
         have c48b1 : decide (((((t141 ++ (⟨#[32, 116]⟩ : ByteArray)) ++ t142) ++ (⟨#[32, 35]⟩ : ByteArray)) ++ t143).size + 6 ≤ 9223372036854775807) = true := decide_eq_true c48
         try have c48b2 : (9223372036854775807 < ((((t141 ++ (⟨#[32, 116]⟩ : ByteArray)) ++ t142) ++ (⟨#[32, 35]⟩ : ByteArray)) ++ t143).size + 6) = False := eq_false (Nat.not_lt.2 c48)
         try (have c48n := c48; simp only [ByteArray.size_append, show (⟨#[32, 116]⟩ : ByteArray).size = 2 from rfl, show (⟨#[32, 35]⟩ : ByteArray).size = 2 from rfl] at c48n; have c48b3 := eq_false (Nat.not_lt.2 c48n); have c48b4 := eq_true c48n; clear c48n)
         replace H := Option.bind_eq_some_iff.mp H
         obtain ⟨t148, A490, H⟩ := H
         replace H : (if (((((t141 ++ (⟨#[32, 116]⟩ : ByteArray)) ++ t142) ++ (⟨#[32, 35]⟩ : ByteArray)) ++ t143) ++ (⟨#[32, 116, 111, 108, 100, 32]⟩ : ByteArray)).size + t148.size ≤ 9223372036854775807 then (if ((((((t141 ++ (⟨#[32, 116]⟩ : ByteArray)) ++ t142) ++ (⟨#[32, 35]⟩ : ByteArray)) ++ t143) ++ (⟨#[32, 116, 111, 108, 100, 32]⟩ : ByteArray)) ++ t148).size + 1 ≤ 9223372036854775807 then ((spec_Dec.f k (l0_12.length : Int)).bind fun t149 => (if (((((((t141 ++ (⟨#[32, 116]⟩ : ByteArray)) ++ t142) ++ (⟨#[32, 35]⟩ : ByteArray)) ++ t143) ++ (⟨#[32, 116, 111, 108, 100, 32]⟩ : ByteArray)) ++ t148) ++ (⟨#[32]⟩ : ByteArray)).size + t149.size ≤ 9223372036854775807 then (if ((((((((t141 ++ (⟨#[32, 116]⟩ : ByteArray)) ++ t142) ++ (⟨#[32, 35]⟩ : ByteArray)) ++ t143) ++ (⟨#[32, 116, 111, 108, 100, 32]⟩ : ByteArray)) ++ t148) ++ (⟨#[32]⟩ : ByteArray)) ++ t149).size + 5 ≤ 9223372036854775807 then (some (((((((((t141 ++ (⟨#[32, 116]⟩ : ByteArray)) ++ t142) ++ (⟨#[32, 35]⟩ : ByteArray)) ++ t143) ++ (⟨#[32, 116, 111, 108, 100, 32]⟩ : ByteArray)) ++ t148) ++ (⟨#[32]⟩ : ByteArray)) ++ t149) ++ (⟨#[32, 114, 111, 119, 115]⟩ : ByteArray))) else (none)) else (none))) else (none)) else (none)) = some r := H
         have A49 := Aside0.mk A490
         clear A490
         by_cases c50 : (((((t141 ++ (⟨#[32, 116]⟩ : ByteArray)) ++ t142) ++ (⟨#[32, 35]⟩ : ByteArray)) ++ t143) ++ (⟨#[32, 116, 111, 108, 100, 32]⟩ : ByteArray)).size + t148.size ≤ 9223372036854775807
         ·rw [if_pos c50] at H
          have c50b0 := eq_true c50
          have c50b1 : decide ((((((t141 ++ (⟨#[32, 116]⟩ : ByteArray)) ++ t142) ++ (⟨#[32, 35]⟩ : ByteArray)) ++ t143) ++ (⟨#[32, 116, 111, 108, 100, 32]⟩ : ByteArray)).size + t148.size ≤ 9223372036854775807) = true := decide_eq_true c50
          try have c50b2 : (9223372036854775807 < (((((t141 ++ (⟨#[32, 116]⟩ : ByteArray)) ++ t142) ++ (⟨#[32, 35]⟩ : ByteArray)) ++ t143) ++ (⟨#[32, 116, 111, 108, 100, 32]⟩ : ByteArray)).size + t148.size) = False := eq_false (Nat.not_lt.2 c50)
          try (have c50n := c50; simp only [ByteArray.size_append, show (⟨#[32, 116, 111, 108, 100, 32]⟩ : ByteArray).size = 6 from rfl, show (⟨#[32, 116]⟩ : ByteArray).size = 2 from rfl, show (⟨#[32, 35]⟩ : ByteArray).size = 2 from rfl] at c50n; have c50b3 := eq_false (Nat.not_lt.2 c50n); have c50b4 := eq_true c50n; clear c50n)
          by_cases c51 : ((((((t141 ++ (⟨#[32, 116]⟩ : ByteArray)) ++ t142) ++ (⟨#[32, 35]⟩ : ByteArray)) ++ t143) ++ (⟨#[32, 116, 111, 108, 100, 32]⟩ : ByteArray)) ++ t148).size + 1 ≤ 9223372036854775807
          ·rw [if_pos c51] at H
           have c51b0 := eq_true c51
           have c51b1 : decide (((((((t141 ++ (⟨#[32, 116]⟩ : ByteArray)) ++ t142) ++ (⟨#[32, 35]⟩ : ByteArray)) ++ t143) ++ (⟨#[32, 116, 111, 108, 100, 32]⟩ : ByteArray)) ++ t148).size + 1 ≤ 9223372036854775807) = true := decide_eq_true c51
           try have c51b2 : (9223372036854775807 < ((((((t141 ++ (⟨#[32, 116]⟩ : ByteArray)) ++ t142) ++ (⟨#[32, 35]⟩ : ByteArray)) ++ t143) ++ (⟨#[32, 116, 111, 108, 100, 32]⟩ : ByteArray)) ++ t148).size + 1) = False := eq_false (Nat.not_lt.2 c51)
           try (have c51n := c51; simp only [ByteArray.size_append, show (⟨#[32, 116, 111, 108, 100, 32]⟩ : ByteArray).size = 6 from rfl, show (⟨#[32, 116]⟩ : ByteArray).size = 2 from rfl, show (⟨#[32, 35]⟩ : ByteArray).size = 2 from rfl] at c51n; have c51b3 := eq_false (Nat.not_lt.2 c51n); have c51b4 := eq_true c51n; clear c51n)
           replace H := Option.bind_eq_some_iff.mp H
           obtain ⟨t149, A520, H⟩ := H
           replace H : (if (((((((t141 ++ (⟨#[32, 116]⟩ : ByteArray)) ++ t142) ++ (⟨#[32, 35]⟩ : ByteArray)) ++ t143) ++ (⟨#[32, 116, 111, 108, 100, 32]⟩ : ByteArray)) ++ t148) ++ (⟨#[32]⟩ : ByteArray)).size + t149.size ≤ 9223372036854775807 then (if ((((((((t141 ++ (⟨#[32, 116]⟩ : ByteArray)) ++ t142) ++ (⟨#[32, 35]⟩ : ByteArray)) ++ t143) ++ (⟨#[32, 116, 111, 108, 100, 32]⟩ : ByteArray)) ++ t148) ++ (⟨#[32]⟩ : ByteArray)) ++ t149).size + 5 ≤ 9223372036854775807 then (some (((((((((t141 ++ (⟨#[32, 116]⟩ : ByteArray)) ++ t142) ++ (⟨#[32, 35]⟩ : ByteArray)) ++ t143) ++ (⟨#[32, 116, 111, 108, 100, 32]⟩ : ByteArray)) ++ t148) ++ (⟨#[32]⟩ : ByteArray)) ++ t149) ++ (⟨#[32, 114, 111, 119, 115]⟩ : ByteArray))) else (none)) else (none)) = some r := H
           have A52 := Aside0.mk A520
           clear A520
           by_cases c53 : (((((((t141 ++ (⟨#[32, 116]⟩ : ByteArray)) ++ t142) ++ (⟨#[32, 35]⟩ : ByteArray)) ++ t143) ++ (⟨#[32, 116, 111, 108, 100, 32]⟩ : ByteArray)) ++ t148) ++ (⟨#[32]⟩ : ByteArray)).size + t149.size ≤ 9223372036854775807
           ·rw [if_pos c53] at H
            have c53b0 := eq_true c53
            have c53b1 : decide ((((((((t141 ++ (⟨#[32, 116]⟩ : ByteArray)) ++ t142) ++ (⟨#[32, 35]⟩ : ByteArray)) ++ t143) ++ (⟨#[32, 116, 111, 108, 100, 32]⟩ : ByteArray)) ++ t148) ++ (⟨#[32]⟩ : ByteArray)).size + t149.size ≤ 9223372036854775807) = true := decide_eq_true c53
            try have c53b2 : (9223372036854775807 < (((((((t141 ++ (⟨#[32, 116]⟩ : ByteArray)) ++ t142) ++ (⟨#[32, 35]⟩ : ByteArray)) ++ t143) ++ (⟨#[32, 116, 111, 108, 100, 32]⟩ : ByteArray)) ++ t148) ++ (⟨#[32]⟩ : ByteArray)).size + t149.size) = False := eq_false (Nat.not_lt.2 c53)
            try (have c53n := c53; simp only [ByteArray.size_append, show (⟨#[32, 116, 111, 108, 100, 32]⟩ : ByteArray).size = 6 from rfl, show (⟨#[32, 116]⟩ : ByteArray).size = 2 from rfl, show (⟨#[32, 35]⟩ : ByteArray).size = 2 from rfl, show (⟨#[32]⟩ : ByteArray).size = 1 from rfl] at c53n; have c53b3 := eq_false (Nat.not_lt.2 c53n); have c53b4 := eq_true c53n; clear c53n)
            by_cases c54 : ((((((((t141 ++ (⟨#[32, 116]⟩ : ByteArray)) ++ t142) ++ (⟨#[32, 35]⟩ : ByteArray)) ++ t143) ++ (⟨#[32, 116, 111, 108, 100, 32]⟩ : ByteArray)) ++ t148) ++ (⟨#[32]⟩ : ByteArray)) ++ t149).size + 5 ≤ 9223372036854775807
            ·rw [if_pos c54] at H
             have c54b0 := eq_true c54
             have c54b1 : decide (((((((((t141 ++ (⟨#[32, 116]⟩ : ByteArray)) ++ t142) ++ (⟨#[32, 35]⟩ : ByteArray)) ++ t143) ++ (⟨#[32, 116, 111, 108, 100, 32]⟩ : ByteArray)) ++ t148) ++ (⟨#[32]⟩ : ByteArray)) ++ t149).size + 5 ≤ 9223372036854775807) = true := decide_eq_true c54
             try have c54b2 : (9223372036854775807 < ((((((((t141 ++ (⟨#[32, 116]⟩ : ByteArray)) ++ t142) ++ (⟨#[32, 35]⟩ : ByteArray)) ++ t143) ++ (⟨#[32, 116, 111, 108, 100, 32]⟩ : ByteArray)) ++ t148) ++ (⟨#[32]⟩ : ByteArray)) ++ t149).size + 5) = False := eq_false (Nat.not_lt.2 c54)
             try (have c54n := c54; simp only [ByteArray.size_append, show (⟨#[32, 116, 111, 108, 100, 32]⟩ : ByteArray).size = 6 from rfl, show (⟨#[32, 116]⟩ : ByteArray).size = 2 from rfl, show (⟨#[32, 35]⟩ : ByteArray).size = 2 from rfl, show (⟨#[32]⟩ : ByteArray).size = 1 from rfl] at c54n; have c54b3 := eq_false (Nat.not_lt.2 c54n); have c54b4 := eq_true c54n; clear c54n)
             obtain rfl := Option.some.inj H
             go_enter Tryd.func22, Tryd.ntmps22
             try go_wp2_with (first | ((with_reducible refine gate_dst (N := 1) rfl ?_); refine box_event ?hg (N := 1) ?hd (cs := #[.int .i64 a0_0, .int .i64 a0_1, .int .i64 a0_2, .int .i64 a0_3, .int .i64 a0_4, .string a0_5, .int .i64 a0_6, .int .i64 a0_7, .int .i64 a0_8, .int .i64 a0_9, .int .i64 a0_10, .int .i64 a0_11, .slice A0_12 l0_12.length c0_12]) (t := 52) ?hr ?_; (case hd => rfl); (case hg => rfl); (case hr => first | (go_simp; done) | (go_simp; rfl)); intro gb140 hg w55 hbox hb; have n0_ := Aside0.mk (below_step (by repeat (first | (with_reducible first | exact HB.out | apply below_alloc | apply pw_below_drewN | apply below_drew1) | exact HB.out)) hb); have n1_ := Aside0.mk (hbox); have n2_ := Aside0.mk ((by rw [hg]; exact (below_size (by repeat (first | (with_reducible first | exact HB.out | apply below_alloc | apply pw_below_drewN | apply below_drew1) | exact HB.out))) : w.heap.size ≤ gb140)); have n3_ := Aside0.mk ((by rw [hg]; exact (below_size (by repeat (first | (with_reducible first | exact HB.out | apply below_alloc | apply pw_below_drewN | apply below_drew1) | exact HB.out))) : w.heap.size ≤ gb140)); clear HB; have HB := n0_; have BK140 := n1_; have GW140 := n2_; have GE140 := n3_; clear n0_ n1_ n2_ n3_; clear hb hbox hg))
             have n0_ := Aside0.mk (blk_drew BK140.out)
             have n1_ := Aside0.mk (below_drew1 HB.out)
             clear BK140
             clear HB
             have BK140 := n0_
             have HB := n1_
             clear n0_ n1_
             refine start_ (n := 14) (S := fun w' => w'.cell? ⟨gb140, 0, none⟩ = some (.int .i64 a0_0) ∧ w'.cell? ⟨gb140, 1, none⟩ = some (.int .i64 a0_1) ∧ w'.cell? ⟨gb140, 2, none⟩ = some (.int .i64 a0_2) ∧ w'.cell? ⟨gb140, 3, none⟩ = some (.int .i64 a0_3) ∧ w'.cell? ⟨gb140, 4, none⟩ = some (.int .i64 a0_4) ∧ w'.cell? ⟨gb140, 5, none⟩ = some (.string a0_5) ∧ w'.cell? ⟨gb140, 6, none⟩ = some (.int .i64 a0_6) ∧ w'.cell? ⟨gb140, 7, none⟩ = some (.int .i64 a0_7) ∧ w'.cell? ⟨gb140, 8, none⟩ = some (.int .i64 a0_8) ∧ w'.cell? ⟨gb140, 9, none⟩ = some (.int .i64 a0_9) ∧ w'.cell? ⟨gb140, 10, none⟩ = some (.int .i64 a0_10) ∧ w'.cell? ⟨gb140, 11, none⟩ = some (.int .i64 a0_11) ∧ w'.cell? ⟨gb140, 12, none⟩ = some (.slice A0_12 l0_12.length c0_12)) (ds := []) #[false, false, false, false, false, false, false, false, false, false, false, false, false, false] (by kernel_rfl) rfl rfl ⟨(blk_cell BK140.out 0).trans rfl, (blk_cell BK140.out 1).trans rfl, (blk_cell BK140.out 2).trans rfl, (blk_cell BK140.out 3).trans rfl, (blk_cell BK140.out 4).trans rfl, (blk_cell BK140.out 5).trans rfl, (blk_cell BK140.out 6).trans rfl, (blk_cell BK140.out 7).trans rfl, (blk_cell BK140.out 8).trans rfl, (blk_cell BK140.out 9).trans rfl, (blk_cell BK140.out 10).trans rfl, (blk_cell BK140.out 11).trans rfl, (blk_cell BK140.out 12).trans rfl⟩ (fun hHeld => ?_); refine with_tabW spec_ShowEv.tab1 spec_ShowEv.bits1 (fun HT_ HW_ => ?_)
             generalize w55.drew = w56 at BK140 HB hHeld ⊢
             refine pure_ (i := 0) (N := some 4) (v := ?_) (a' := ?_) #[true, false, false, false, false, false, false, false, false, false, false, false, false, false] rfl rfl (any_of HT_.out (by kernel_rfl)) (fun _ _ _ h => h) (Or.inl ⟨by rfl, ?_⟩) ?_ ?_
             rotate_left
             ·intro w'
              go_simp
              with_reducible rfl
             rotate_left
             ·simp only [Act.put, List.setIfInBounds_toArray, List.set_cons_zero, List.set_cons_succ, i64_w, i32_w]
              rfl
             refine pure_ (i := 4) (N := some 8) (v := ?_) (a' := ?_) #[true, false, false, false, true, false, false, false, false, false, false, false, false, false] rfl rfl (any_of HT_.out (by kernel_rfl)) (fun _ _ _ h => h) (Or.inl ⟨by rfl, ?_⟩) ?_ ?_
             rotate_left
             ·intro w'
              go_simp
              with_reducible rfl
             rotate_left
             ·simp only [Act.put, List.setIfInBounds_toArray, List.set_cons_zero, List.set_cons_succ, i64_w, i32_w]
              rfl
             refine pure_ (i := 9) (N := some 13) (v := ?_) (a' := ?_) #[true, false, false, false, true, false, false, false, false, true, false, false, false, false] rfl rfl (any_of HT_.out (by kernel_rfl)) (fun _ _ _ h => h) (Or.inl ⟨by rfl, ?_⟩) ?_ ?_
             rotate_left
             ·intro w'
              go_simp
              with_reducible rfl
             rotate_left
             ·simp only [Act.put, List.setIfInBounds_toArray, List.set_cons_zero, List.set_cons_succ, i64_w, i32_w]
              rfl
             refine take_ (i := 1) (N := some 5) (v := ?_) (a' := ?_) #[true, true, false, false, true, false, false, false, false, true, false, false, false, false] rfl rfl (take_ofW HT_.out HW_.out (by kernel_rfl)) (fun _ _ _ h => h) (Or.inl ⟨by rfl, ?_⟩) hHeld ?_ ?_
             rotate_left
             ·rintro w' ⟨s0, s1, s2, s3, s4, s5, s6, s7, s8, s9, s10, s11, s12⟩
              go_simp
              with_reducible rfl
             rotate_left
             ·simp only [Act.put, List.setIfInBounds_toArray, List.set_cons_zero, List.set_cons_succ, i64_w, i32_w]
              rfl
             refine take_ (i := 5) (N := some 9) (v := ?_) (a' := ?_) #[true, true, false, false, true, true, false, false, false, true, false, false, false, false] rfl rfl (take_ofW HT_.out HW_.out (by kernel_rfl)) (fun _ _ _ h => h) (Or.inl ⟨by rfl, ?_⟩) hHeld ?_ ?_
             rotate_left
             ·rintro w' ⟨s0, s1, s2, s3, s4, s5, s6, s7, s8, s9, s10, s11, s12⟩
              go_simp
              with_reducible rfl
             rotate_left
             ·simp only [Act.put, List.setIfInBounds_toArray, List.set_cons_zero, List.set_cons_succ, i64_w, i32_w]
              rfl
             refine take_ (i := 10) (N := some 14) (v := ?_) (a' := ?_) #[true, true, false, false, true, true, false, false, false, true, true, false, false, false] rfl rfl (take_ofW HT_.out HW_.out (by kernel_rfl)) (fun _ _ _ h => h) (Or.inl ⟨by rfl, ?_⟩) hHeld ?_ ?_
             rotate_left
             ·rintro w' ⟨s0, s1, s2, s3, s4, s5, s6, s7, s8, s9, s10, s11, s12⟩
              go_simp
              with_reducible rfl
             rotate_left
             ·simp only [Act.put, List.setIfInBounds_toArray, List.set_cons_zero, List.set_cons_succ, i64_w, i32_w]
              rfl
             refine one_ (i := 2) (N := some 6) #[true, true, true, false, true, true, false, false, false, true, true, false, false, false] rfl rfl (one_of HT_.out (by kernel_rfl)) (by decide) (fun K hK => ?_)
             refine goes_ Tryd.func43 (by kernel_rfl) rfl #[.int .i64 a0_3] (by rfl) rfl rfl (by (try simp only [List.map_toArray, List.map_cons, List.map_nil]); first | done | rfl | (simp only [List.length_drop, List.length_take]; rfl)) ?_
             with_reducible refine (spec_Dec.calls k a0_3 t141 _ A2.out).mono ?_
             rintro e w57 ⟨rfl, hb⟩
             refine ⟨_, rfl, ?_⟩
             have n0_ := Aside0.mk (blk_below (g := gb140) (o := .cells #[.int .i64 a0_0, .int .i64 a0_1, .int .i64 a0_2, .int .i64 a0_3, .int .i64 a0_4, .string a0_5, .int .i64 a0_6, .int .i64 a0_7, .int .i64 a0_8, .int .i64 a0_9, .int .i64 a0_10, .int .i64 a0_11, .slice A0_12 l0_12.length c0_12] 52 (0, 0)) (by (with_reducible repeat (first | refine blk_drewN ?_ _ | refine blk_drew ?_ | refine blk_alloc ?_ _)); exact BK140.out) hb)
             have n1_ := Aside0.mk (below_step (by repeat (first | (with_reducible first | exact HB.out | apply below_alloc | apply pw_below_drewN | apply below_drew1 | refine below_set ?_ GE140.out) | exact HB.out)) hb)
             clear BK140
             clear HB
             have BK140 := n0_
             have HB := n1_
             clear n0_ n1_
             (try clear hb)
             (try clear hb2)
             (try clear hk)
             (try clear hi)
             refine hK.out _ _ ⟨(blk_cell BK140.out 0).trans rfl, (blk_cell BK140.out 1).trans rfl, (blk_cell BK140.out 2).trans rfl, (blk_cell BK140.out 3).trans rfl, (blk_cell BK140.out 4).trans rfl, (blk_cell BK140.out 5).trans rfl, (blk_cell BK140.out 6).trans rfl, (blk_cell BK140.out 7).trans rfl, (blk_cell BK140.out 8).trans rfl, (blk_cell BK140.out 9).trans rfl, (blk_cell BK140.out 10).trans rfl, (blk_cell BK140.out 11).trans rfl, (blk_cell BK140.out 12).trans rfl⟩ (fun hHeld => ?_)
             clear hK K
             refine norm_ (a' := ?_) ?_ ?_
             rotate_left
             ·show Act.put _ (some 6) _ = _
              simp only [Act.put, List.setIfInBounds_toArray, List.set_cons_zero, List.set_cons_succ, i64_w, i32_w]
              rfl
             refine pure_ (i := 3) (N := some 7) (v := ?_) (a' := ?_) #[true, true, true, true, true, true, false, false, false, true, true, false, false, false] rfl rfl (any_of HT_.out (by kernel_rfl)) (fun _ _ _ h => h) (Or.inl ⟨by rfl, ?_⟩) ?_ ?_
             rotate_left
             ·intro w'
              go_simp
              with_reducible rfl
             rotate_left
             ·simp only [Act.put, List.setIfInBounds_toArray, List.set_cons_zero, List.set_cons_succ, i64_w, i32_w]
              rfl
             refine one_ (i := 6) (N := some 10) #[true, true, true, true, true, true, true, false, false, true, true, false, false, false] rfl rfl (one_of HT_.out (by kernel_rfl)) (by decide) (fun K hK => ?_)
             refine goes_ Tryd.func43 (by kernel_rfl) rfl #[.int .i64 a0_1] (by rfl) rfl rfl (by (try simp only [List.map_toArray, List.map_cons, List.map_nil]); first | done | rfl | (simp only [List.length_drop, List.length_take]; rfl)) ?_
             with_reducible refine (spec_Dec.calls k a0_1 t142 _ A4.out).mono ?_
             rintro e w58 ⟨rfl, hb⟩
             refine ⟨_, rfl, ?_⟩
             have n0_ := Aside0.mk (blk_below (g := gb140) (o := .cells #[.int .i64 a0_0, .int .i64 a0_1, .int .i64 a0_2, .int .i64 a0_3, .int .i64 a0_4, .string a0_5, .int .i64 a0_6, .int .i64 a0_7, .int .i64 a0_8, .int .i64 a0_9, .int .i64 a0_10, .int .i64 a0_11, .slice A0_12 l0_12.length c0_12] 52 (0, 0)) (by (with_reducible repeat (first | refine blk_drewN ?_ _ | refine blk_drew ?_ | refine blk_alloc ?_ _)); exact BK140.out) hb)
             have n1_ := Aside0.mk (below_step (by repeat (first | (with_reducible first | exact HB.out | apply below_alloc | apply pw_below_drewN | apply below_drew1 | refine below_set ?_ GE140.out) | exact HB.out)) hb)
             clear BK140
             clear HB
             have BK140 := n0_
             have HB := n1_
             clear n0_ n1_
             (try clear hb)
             (try clear hb2)
             (try clear hk)
             (try clear hi)
             refine hK.out _ _ ⟨(blk_cell BK140.out 0).trans rfl, (blk_cell BK140.out 1).trans rfl, (blk_cell BK140.out 2).trans rfl, (blk_cell BK140.out 3).trans rfl, (blk_cell BK140.out 4).trans rfl, (blk_cell BK140.out 5).trans rfl, (blk_cell BK140.out 6).trans rfl, (blk_cell BK140.out 7).trans rfl, (blk_cell BK140.out 8).trans rfl, (blk_cell BK140.out 9).trans rfl, (blk_cell BK140.out 10).trans rfl, (blk_cell BK140.out 11).trans rfl, (blk_cell BK140.out 12).trans rfl⟩ (fun hHeld => ?_)
             clear hK K
             refine norm_ (a' := ?_) ?_ ?_
             rotate_left
             ·show Act.put _ (some 10) _ = _
              simp only [Act.put, List.setIfInBounds_toArray, List.set_cons_zero, List.set_cons_succ, i64_w, i32_w]
              rfl
             refine pure_ (i := 7) (N := some 11) (v := ?_) (a' := ?_) #[true, true, true, true, true, true, true, true, false, true, true, false, false, false] rfl rfl (any_of HT_.out (by kernel_rfl)) (fun _ _ _ h => h) (Or.inl ⟨by rfl, ?_⟩) ?_ ?_
             rotate_left
             ·intro w'
              go_simp
              with_reducible rfl
             rotate_left
             ·simp only [Act.put, List.setIfInBounds_toArray, List.set_cons_zero, List.set_cons_succ, i64_w, i32_w]
              rfl
             refine pure_ (i := 8) (N := some 12) (v := ?_) (a' := ?_) #[true, true, true, true, true, true, true, true, true, true, true, false, false, false] rfl rfl (any_of HT_.out (by kernel_rfl)) (fun _ _ _ h => h) (Or.inl ⟨by rfl, ?_⟩) ?_ ?_
             rotate_left
             ·intro w'
              go_simp
              with_reducible rfl
             rotate_left
             ·simp only [Act.put, List.setIfInBounds_toArray, List.set_cons_zero, List.set_cons_succ, i64_w, i32_w]
              rfl
             refine one_ (i := 11) (N := some 15) #[true, true, true, true, true, true, true, true, true, true, true, true, false, false] rfl rfl (one_of HT_.out (by kernel_rfl)) (by decide) (fun K hK => ?_)
             refine goes_ Tryd.func43 (by kernel_rfl) rfl #[.int .i64 a0_2] (by rfl) rfl rfl (by (try simp only [List.map_toArray, List.map_cons, List.map_nil]); first | done | rfl | (simp only [List.length_drop, List.length_take]; rfl)) ?_
             with_reducible refine (spec_Dec.calls k a0_2 t143 _ A7.out).mono ?_
             rintro e w59 ⟨rfl, hb⟩
             refine ⟨_, rfl, ?_⟩
             have n0_ := Aside0.mk (blk_below (g := gb140) (o := .cells #[.int .i64 a0_0, .int .i64 a0_1, .int .i64 a0_2, .int .i64 a0_3, .int .i64 a0_4, .string a0_5, .int .i64 a0_6, .int .i64 a0_7, .int .i64 a0_8, .int .i64 a0_9, .int .i64 a0_10, .int .i64 a0_11, .slice A0_12 l0_12.length c0_12] 52 (0, 0)) (by (with_reducible repeat (first | refine blk_drewN ?_ _ | refine blk_drew ?_ | refine blk_alloc ?_ _)); exact BK140.out) hb)
             have n1_ := Aside0.mk (below_step (by repeat (first | (with_reducible first | exact HB.out | apply below_alloc | apply pw_below_drewN | apply below_drew1 | refine below_set ?_ GE140.out) | exact HB.out)) hb)
             clear BK140
             clear HB
             have BK140 := n0_
             have HB := n1_
             clear n0_ n1_
             (try clear hb)
             (try clear hb2)
             (try clear hk)
             (try clear hi)
             refine hK.out _ _ ⟨(blk_cell BK140.out 0).trans rfl, (blk_cell BK140.out 1).trans rfl, (blk_cell BK140.out 2).trans rfl, (blk_cell BK140.out 3).trans rfl, (blk_cell BK140.out 4).trans rfl, (blk_cell BK140.out 5).trans rfl, (blk_cell BK140.out 6).trans rfl, (blk_cell BK140.out 7).trans rfl, (blk_cell BK140.out 8).trans rfl, (blk_cell BK140.out 9).trans rfl, (blk_cell BK140.out 10).trans rfl, (blk_cell BK140.out 11).trans rfl, (blk_cell BK140.out 12).trans rfl⟩ (fun hHeld => ?_)
             clear hK K
             refine norm_ (a' := ?_) ?_ ?_
             rotate_left
             ·show Act.put _ (some 15) _ = _
              simp only [Act.put, List.setIfInBounds_toArray, List.set_cons_zero, List.set_cons_succ, i64_w, i32_w]
              rfl
             refine pure_ (i := 12) (N := some 16) (v := ?_) (a' := ?_) #[true, true, true, true, true, true, true, true, true, true, true, true, true, false] rfl rfl (any_of HT_.out (by kernel_rfl)) (fun _ _ _ h => h) (Or.inl ⟨by rfl, ?_⟩) ?_ ?_
             rotate_left
             ·intro w'
              go_simp
              with_reducible rfl
             rotate_left
             ·simp only [Act.put, List.setIfInBounds_toArray, List.set_cons_zero, List.set_cons_succ, i64_w, i32_w]
              rfl
             refine pure_ (i := 13) (N := some 3) (v := ?_) (a' := ?_) #[true, true, true, true, true, true, true, true, true, true, true, true, true, true] rfl rfl (any_of HT_.out (by kernel_rfl)) (fun _ _ _ h => h) (Or.inl ⟨by rfl, ?_⟩) ?_ ?_
             rotate_left
             ·intro w'
              go_simp
              with_reducible rfl
             rotate_left
             ·simp only [Act.put, List.setIfInBounds_toArray, List.set_cons_zero, List.set_cons_succ, i64_w, i32_w]
              rfl
             refine done_ (done_of HT_.out (by kernel_rfl)) ?_
             have hcz60_0 : w59.cell? ⟨gb140, 0, none⟩ = some (.int .i64 a0_0) := (blk_cell BK140.out 0).trans rfl
             have hcz60_1 : w59.cell? ⟨gb140, 1, none⟩ = some (.int .i64 a0_1) := (blk_cell BK140.out 1).trans rfl
             have hcz60_2 : w59.cell? ⟨gb140, 2, none⟩ = some (.int .i64 a0_2) := (blk_cell BK140.out 2).trans rfl
             have hcz60_3 : w59.cell? ⟨gb140, 3, none⟩ = some (.int .i64 a0_3) := (blk_cell BK140.out 3).trans rfl
             have hcz60_4 : w59.cell? ⟨gb140, 4, none⟩ = some (.int .i64 a0_4) := (blk_cell BK140.out 4).trans rfl
             have hcz60_5 : w59.cell? ⟨gb140, 5, none⟩ = some (.string a0_5) := (blk_cell BK140.out 5).trans rfl
             have hcz60_6 : w59.cell? ⟨gb140, 6, none⟩ = some (.int .i64 a0_6) := (blk_cell BK140.out 6).trans rfl
             have hcz60_7 : w59.cell? ⟨gb140, 7, none⟩ = some (.int .i64 a0_7) := (blk_cell BK140.out 7).trans rfl
             have hcz60_8 : w59.cell? ⟨gb140, 8, none⟩ = some (.int .i64 a0_8) := (blk_cell BK140.out 8).trans rfl
             have hcz60_9 : w59.cell? ⟨gb140, 9, none⟩ = some (.int .i64 a0_9) := (blk_cell BK140.out 9).trans rfl
             have hcz60_10 : w59.cell? ⟨gb140, 10, none⟩ = some (.int .i64 a0_10) := (blk_cell BK140.out 10).trans rfl
             have hcz60_11 : w59.cell? ⟨gb140, 11, none⟩ = some (.int .i64 a0_11) := (blk_cell BK140.out 11).trans rfl
             have hcz60_12 : w59.cell? ⟨gb140, 12, none⟩ = some (.slice A0_12 l0_12.length c0_12) := (blk_cell BK140.out 12).trans rfl
             have hfz60_0 := blk_frozen BK140.out 0
             have hfz60_1 := blk_frozen BK140.out 1
             have hfz60_2 := blk_frozen BK140.out 2
             have hfz60_3 := blk_frozen BK140.out 3
             have hfz60_4 := blk_frozen BK140.out 4
             have hfz60_5 := blk_frozen BK140.out 5
             have hfz60_6 := blk_frozen BK140.out 6
             have hfz60_7 := blk_frozen BK140.out 7
             have hfz60_8 := blk_frozen BK140.out 8
             have hfz60_9 := blk_frozen BK140.out 9
             have hfz60_10 := blk_frozen BK140.out 10
             have hfz60_11 := blk_frozen BK140.out 11
             have hfz60_12 := blk_frozen BK140.out 12
             try go_wp2
             have n0_ := Aside0.mk (blk_drew BK140.out)
             have n1_ := Aside0.mk (below_drew1 HB.out)
             clear BK140
             clear HB
             have BK140 := n0_
             have HB := n1_
             clear n0_ n1_
             refine start_ (n := 14) (S := fun w' => w'.cell? ⟨gb140, 0, none⟩ = some (.int .i64 a0_0) ∧ w'.cell? ⟨gb140, 1, none⟩ = some (.int .i64 a0_1) ∧ w'.cell? ⟨gb140, 2, none⟩ = some (.int .i64 a0_2) ∧ w'.cell? ⟨gb140, 3, none⟩ = some (.int .i64 a0_3) ∧ w'.cell? ⟨gb140, 4, none⟩ = some (.int .i64 a0_4) ∧ w'.cell? ⟨gb140, 5, none⟩ = some (.string a0_5) ∧ w'.cell? ⟨gb140, 6, none⟩ = some (.int .i64 a0_6) ∧ w'.cell? ⟨gb140, 7, none⟩ = some (.int .i64 a0_7) ∧ w'.cell? ⟨gb140, 8, none⟩ = some (.int .i64 a0_8) ∧ w'.cell? ⟨gb140, 9, none⟩ = some (.int .i64 a0_9) ∧ w'.cell? ⟨gb140, 10, none⟩ = some (.int .i64 a0_10) ∧ w'.cell? ⟨gb140, 11, none⟩ = some (.int .i64 a0_11) ∧ w'.cell? ⟨gb140, 12, none⟩ = some (.slice A0_12 l0_12.length c0_12)) (ds := []) #[false, false, false, false, false, false, false, false, false, false, false, false, false, false] (by kernel_rfl) rfl rfl ⟨(blk_cell BK140.out 0).trans rfl, (blk_cell BK140.out 1).trans rfl, (blk_cell BK140.out 2).trans rfl, (blk_cell BK140.out 3).trans rfl, (blk_cell BK140.out 4).trans rfl, (blk_cell BK140.out 5).trans rfl, (blk_cell BK140.out 6).trans rfl, (blk_cell BK140.out 7).trans rfl, (blk_cell BK140.out 8).trans rfl, (blk_cell BK140.out 9).trans rfl, (blk_cell BK140.out 10).trans rfl, (blk_cell BK140.out 11).trans rfl, (blk_cell BK140.out 12).trans rfl⟩ (fun hHeld => ?_); refine with_tabW spec_ShowEv.tab10 spec_ShowEv.bits10 (fun HT_ HW_ => ?_)
             generalize w59.drew = w61 at BK140 HB hHeld ⊢
             refine pure_ (i := 0) (N := some 51) (v := ?_) (a' := ?_) #[true, false, false, false, false, false, false, false, false, false, false, false, false, false] rfl rfl (any_of HT_.out (by kernel_rfl)) (fun _ _ _ h => h) (Or.inl ⟨by rfl, ?_⟩) ?_ ?_
             rotate_left
             ·intro w'
              go_simp
              with_reducible rfl
             rotate_left
             ·simp only [Act.put, List.setIfInBounds_toArray, List.set_cons_zero, List.set_cons_succ, i64_w, i32_w]
              rfl
             refine pure_ (i := 1) (N := some 52) (v := ?_) (a' := ?_) #[true, true, false, false, false, false, false, false, false, false, false, false, false, false] rfl rfl (any_of HT_.out (by kernel_rfl)) (fun _ _ _ h => h) (Or.inl ⟨by rfl, ?_⟩) ?_ ?_
             rotate_left
             ·intro w'
              go_simp
              with_reducible rfl
             rotate_left
             ·simp only [Act.put, List.setIfInBounds_toArray, List.set_cons_zero, List.set_cons_succ, i64_w, i32_w]
              rfl
             refine pure_ (i := 2) (N := some 53) (v := ?_) (a' := ?_) #[true, true, true, false, false, false, false, false, false, false, false, false, false, false] rfl rfl (any_of HT_.out (by kernel_rfl)) (fun _ _ _ h => h) (Or.inl ⟨by rfl, ?_⟩) ?_ ?_
             rotate_left
             ·intro w'
              go_simp
              with_reducible rfl
             rotate_left
             ·simp only [Act.put, List.setIfInBounds_toArray, List.set_cons_zero, List.set_cons_succ, i64_w, i32_w]
              rfl
             refine pure_ (i := 7) (N := some 58) (v := ?_) (a' := ?_) #[true, true, true, false, false, false, false, true, false, false, false, false, false, false] rfl rfl (any_of HT_.out (by kernel_rfl)) (fun _ _ _ h => h) (Or.inl ⟨by rfl, ?_⟩) ?_ ?_
             rotate_left
             ·intro w'
              go_simp
              with_reducible rfl
             rotate_left
             ·simp only [Act.put, List.setIfInBounds_toArray, List.set_cons_zero, List.set_cons_succ, i64_w, i32_w]
              rfl
             refine take_ (i := 3) (N := some 54) (v := ?_) (a' := ?_) #[true, true, true, true, false, false, false, true, false, false, false, false, false, false] rfl rfl (take_ofW HT_.out HW_.out (by kernel_rfl)) (fun _ _ _ h => h) (Or.inl ⟨by rfl, ?_⟩) hHeld ?_ ?_
             rotate_left
             ·rintro w' ⟨s0, s1, s2, s3, s4, s5, s6, s7, s8, s9, s10, s11, s12⟩
              go_simp
              with_reducible rfl
             rotate_left
             ·simp only [Act.put, List.setIfInBounds_toArray, List.set_cons_zero, List.set_cons_succ, i64_w, i32_w]
              rfl
             refine take_ (i := 8) (N := some 59) (v := ?_) (a' := ?_) #[true, true, true, true, false, false, false, true, true, false, false, false, false, false] rfl rfl (take_ofW HT_.out HW_.out (by kernel_rfl)) (fun _ _ _ h => h) (Or.inl ⟨by rfl, ?_⟩) hHeld ?_ ?_
             rotate_left
             ·rintro w' ⟨s0, s1, s2, s3, s4, s5, s6, s7, s8, s9, s10, s11, s12⟩
              go_simp
              with_reducible rfl
             rotate_left
             ·simp only [Act.put, List.setIfInBounds_toArray, List.set_cons_zero, List.set_cons_succ, i64_w, i32_w]
              rfl
             refine pure_ (i := 9) (N := some 60) (v := ?_) (a' := ?_) #[true, true, true, true, false, false, false, true, true, true, false, false, false, false] rfl rfl (any_of HT_.out (by kernel_rfl)) (fun _ _ _ h => h) (Or.inl ⟨by rfl, ?_⟩) ?_ ?_
             rotate_left
             ·intro w'
              go_simp
              with_reducible rfl
             rotate_left
             ·simp only [Act.put, List.setIfInBounds_toArray, List.set_cons_zero, List.set_cons_succ, i64_w, i32_w]
              rfl
             refine one_ (i := 4) (N := some 55) #[true, true, true, true, true, false, false, true, true, true, false, false, false, false] rfl rfl (one_of HT_.out (by kernel_rfl)) (by decide) (fun K hK => ?_)
             refine goes_ Tryd.func44 (by kernel_rfl) rfl #[.int .i64 a0_8] (by rfl) rfl rfl (by (try simp only [List.map_toArray, List.map_cons, List.map_nil]); first | done | rfl | (simp only [List.length_drop, List.length_take]; rfl)) ?_
             with_reducible refine (spec_CodeWord.calls a0_8 t148 _ A49.out).mono ?_
             rintro e w62 ⟨rfl, hb⟩
             refine ⟨_, rfl, ?_⟩
             have n0_ := Aside0.mk (blk_below (g := gb140) (o := .cells #[.int .i64 a0_0, .int .i64 a0_1, .int .i64 a0_2, .int .i64 a0_3, .int .i64 a0_4, .string a0_5, .int .i64 a0_6, .int .i64 a0_7, .int .i64 a0_8, .int .i64 a0_9, .int .i64 a0_10, .int .i64 a0_11, .slice A0_12 l0_12.length c0_12] 52 (0, 0)) (by (with_reducible repeat (first | refine blk_drewN ?_ _ | refine blk_drew ?_ | refine blk_alloc ?_ _)); exact BK140.out) hb)
             have n1_ := Aside0.mk (below_step (by repeat (first | (with_reducible first | exact HB.out | apply below_alloc | apply pw_below_drewN | apply below_drew1 | refine below_set ?_ GE140.out) | exact HB.out)) hb)
             clear BK140
             clear HB
             have BK140 := n0_
             have HB := n1_
             clear n0_ n1_
             (try clear hb)
             (try clear hb2)
             (try clear hk)
             (try clear hi)
             refine hK.out _ _ ⟨(blk_cell BK140.out 0).trans rfl, (blk_cell BK140.out 1).trans rfl, (blk_cell BK140.out 2).trans rfl, (blk_cell BK140.out 3).trans rfl, (blk_cell BK140.out 4).trans rfl, (blk_cell BK140.out 5).trans rfl, (blk_cell BK140.out 6).trans rfl, (blk_cell BK140.out 7).trans rfl, (blk_cell BK140.out 8).trans rfl, (blk_cell BK140.out 9).trans rfl, (blk_cell BK140.out 10).trans rfl, (blk_cell BK140.out 11).trans rfl, (blk_cell BK140.out 12).trans rfl⟩ (fun hHeld => ?_)
             clear hK K
             refine norm_ (a' := ?_) ?_ ?_
             rotate_left
             ·show Act.put _ (some 55) _ = _
              simp only [Act.put, List.setIfInBounds_toArray, List.set_cons_zero, List.set_cons_succ, i64_w, i32_w]
              rfl
             refine pure_ (i := 5) (N := some 56) (v := ?_) (a' := ?_) #[true, true, true, true, true, true, false, true, true, true, false, false, false, false] rfl rfl (any_of HT_.out (by kernel_rfl)) (fun _ _ _ h => h) (Or.inl ⟨by rfl, ?_⟩) ?_ ?_
             rotate_left
             ·intro w'
              go_simp
              with_reducible rfl
             rotate_left
             ·simp only [Act.put, List.setIfInBounds_toArray, List.set_cons_zero, List.set_cons_succ, i64_w, i32_w]
              rfl
             refine pure_ (i := 6) (N := some 57) (v := ?_) (a' := ?_) #[true, true, true, true, true, true, true, true, true, true, false, false, false, false] rfl rfl (any_of HT_.out (by kernel_rfl)) (fun _ _ _ h => h) (Or.inl ⟨by rfl, ?_⟩) ?_ ?_
             rotate_left
             ·intro w'
              go_simp
              with_reducible rfl
             rotate_left
             ·simp only [Act.put, List.setIfInBounds_toArray, List.set_cons_zero, List.set_cons_succ, i64_w, i32_w]
              rfl
             refine one_ (i := 10) (N := some 61) #[true, true, true, true, true, true, true, true, true, true, true, false, false, false] rfl rfl (one_of HT_.out (by kernel_rfl)) (by decide) (fun K hK => ?_)
             refine goes_ Tryd.func43 (by kernel_rfl) rfl #[.int .i64 (l0_12.length : Int)] (by rfl) rfl rfl (by (try simp only [List.map_toArray, List.map_cons, List.map_nil]); first | done | rfl | (simp only [List.length_drop, List.length_take]; rfl)) ?_
             with_reducible refine (spec_Dec.calls k (l0_12.length : Int) t149 _ A52.out).mono ?_
             rintro e w63 ⟨rfl, hb⟩
             refine ⟨_, rfl, ?_⟩
             have n0_ := Aside0.mk (blk_below (g := gb140) (o := .cells #[.int .i64 a0_0, .int .i64 a0_1, .int .i64 a0_2, .int .i64 a0_3, .int .i64 a0_4, .string a0_5, .int .i64 a0_6, .int .i64 a0_7, .int .i64 a0_8, .int .i64 a0_9, .int .i64 a0_10, .int .i64 a0_11, .slice A0_12 l0_12.length c0_12] 52 (0, 0)) (by (with_reducible repeat (first | refine blk_drewN ?_ _ | refine blk_drew ?_ | refine blk_alloc ?_ _)); exact BK140.out) hb)
             have n1_ := Aside0.mk (below_step (by repeat (first | (with_reducible first | exact HB.out | apply below_alloc | apply pw_below_drewN | apply below_drew1 | refine below_set ?_ GE140.out) | exact HB.out)) hb)
             clear BK140
             clear HB
             have BK140 := n0_
             have HB := n1_
             clear n0_ n1_
             (try clear hb)
             (try clear hb2)
             (try clear hk)
             (try clear hi)
             refine hK.out _ _ ⟨(blk_cell BK140.out 0).trans rfl, (blk_cell BK140.out 1).trans rfl, (blk_cell BK140.out 2).trans rfl, (blk_cell BK140.out 3).trans rfl, (blk_cell BK140.out 4).trans rfl, (blk_cell BK140.out 5).trans rfl, (blk_cell BK140.out 6).trans rfl, (blk_cell BK140.out 7).trans rfl, (blk_cell BK140.out 8).trans rfl, (blk_cell BK140.out 9).trans rfl, (blk_cell BK140.out 10).trans rfl, (blk_cell BK140.out 11).trans rfl, (blk_cell BK140.out 12).trans rfl⟩ (fun hHeld => ?_)
             clear hK K
             refine norm_ (a' := ?_) ?_ ?_
             rotate_left
             ·show Act.put _ (some 61) _ = _
              simp only [Act.put, List.setIfInBounds_toArray, List.set_cons_zero, List.set_cons_succ, i64_w, i32_w]
              rfl
             refine pure_ (i := 11) (N := some 62) (v := ?_) (a' := ?_) #[true, true, true, true, true, true, true, true, true, true, true, true, false, false] rfl rfl (any_of HT_.out (by kernel_rfl)) (fun _ _ _ h => h) (Or.inl ⟨by rfl, ?_⟩) ?_ ?_
             rotate_left
             ·intro w'
              go_simp
              with_reducible rfl
             rotate_left
             ·simp only [Act.put, List.setIfInBounds_toArray, List.set_cons_zero, List.set_cons_succ, i64_w, i32_w]
              rfl
             refine pure_ (i := 12) (N := some 63) (v := ?_) (a' := ?_) #[true, true, true, true, true, true, true, true, true, true, true, true, true, false] rfl rfl (any_of HT_.out (by kernel_rfl)) (fun _ _ _ h => h) (Or.inl ⟨by rfl, ?_⟩) ?_ ?_
             rotate_left
             ·intro w'
              go_simp
              with_reducible rfl
             rotate_left
             ·simp only [Act.put, List.setIfInBounds_toArray, List.set_cons_zero, List.set_cons_succ, i64_w, i32_w]
              rfl
             refine pure_ (i := 13) (N := some 2) (v := ?_) (a' := ?_) #[true, true, true, true, true, true, true, true, true, true, true, true, true, true] rfl rfl (any_of HT_.out (by kernel_rfl)) (fun _ _ _ h => h) (Or.inl ⟨by rfl, ?_⟩) ?_ ?_
             rotate_left
             ·intro w'
              go_simp
              with_reducible rfl
             rotate_left
             ·simp only [Act.put, List.setIfInBounds_toArray, List.set_cons_zero, List.set_cons_succ, i64_w, i32_w]
              rfl
             refine done_ (done_of HT_.out (by kernel_rfl)) ?_
             try go_wp2
             go_ret
             exact ⟨by first | rfl | (simp [errW_none, errW_some] <;> rfl) | (simp [*, errW_none, errW_some] <;> rfl), by repeat (first | (with_reducible first | exact HB.out | apply below_alloc | apply pw_below_drewN | apply below_drew1 | refine below_set ?_ GE140.out) | exact HB.out)⟩
            ·rw [if_neg c54] at H
             exact absurd H (by simp)
           ·rw [if_neg c53] at H
            exact absurd H (by simp)
          ·rw [if_neg c51] at H
           exact absurd H (by simp)
         ·rw [if_neg c50] at H
          exact absurd H (by simp)
        ·rw [if_neg c48] at H
         exact absurd H (by simp)
       ·rw [if_neg c47] at H
        have c47b0 : (a0_0 == 3) = false := beq_eq_false_iff_ne.mpr c47
        have c47b1 : (a0_0 != 3) = true := bne_iff_ne.mpr c47
        obtain rfl := Option.some.inj H
        go_enter Tryd.func22, Tryd.ntmps22
        try go_wp2_with (first | ((with_reducible refine gate_dst (N := 1) rfl ?_); refine box_event ?hg (N := 1) ?hd (cs := #[.int .i64 a0_0, .int .i64 a0_1, .int .i64 a0_2, .int .i64 a0_3, .int .i64 a0_4, .string a0_5, .int .i64 a0_6, .int .i64 a0_7, .int .i64 a0_8, .int .i64 a0_9, .int .i64 a0_10, .int .i64 a0_11, .slice A0_12 l0_12.length c0_12]) (t := 52) ?hr ?_; (case hd => rfl); (case hg => rfl); (case hr => first | (go_simp; done) | (go_simp; rfl)); intro gb140 hg w64 hbox hb; have n0_ := Aside0.mk (below_step (by repeat (first | (with_reducible first | exact HB.out | apply below_alloc | apply pw_below_drewN | apply below_drew1) | exact HB.out)) hb); have n1_ := Aside0.mk (hbox); have n2_ := Aside0.mk ((by rw [hg]; exact (below_size (by repeat (first | (with_reducible first | exact HB.out | apply below_alloc | apply pw_below_drewN | apply below_drew1) | exact HB.out))) : w.heap.size ≤ gb140)); have n3_ := Aside0.mk ((by rw [hg]; exact (below_size (by repeat (first | (with_reducible first | exact HB.out | apply below_alloc | apply pw_below_drewN | apply below_drew1) | exact HB.out))) : w.heap.size ≤ gb140)); clear HB; have HB := n0_; have BK140 := n1_; have GW140 := n2_; have GE140 := n3_; clear n0_ n1_ n2_ n3_; clear hb hbox hg))
        have n0_ := Aside0.mk (blk_drew BK140.out)
        have n1_ := Aside0.mk (below_drew1 HB.out)
        clear BK140
        clear HB
        have BK140 := n0_
        have HB := n1_
        clear n0_ n1_
        refine start_ (n := 14) (S := fun w' => w'.cell? ⟨gb140, 0, none⟩ = some (.int .i64 a0_0) ∧ w'.cell? ⟨gb140, 1, none⟩ = some (.int .i64 a0_1) ∧ w'.cell? ⟨gb140, 2, none⟩ = some (.int .i64 a0_2) ∧ w'.cell? ⟨gb140, 3, none⟩ = some (.int .i64 a0_3) ∧ w'.cell? ⟨gb140, 4, none⟩ = some (.int .i64 a0_4) ∧ w'.cell? ⟨gb140, 5, none⟩ = some (.string a0_5) ∧ w'.cell? ⟨gb140, 6, none⟩ = some (.int .i64 a0_6) ∧ w'.cell? ⟨gb140, 7, none⟩ = some (.int .i64 a0_7) ∧ w'.cell? ⟨gb140, 8, none⟩ = some (.int .i64 a0_8) ∧ w'.cell? ⟨gb140, 9, none⟩ = some (.int .i64 a0_9) ∧ w'.cell? ⟨gb140, 10, none⟩ = some (.int .i64 a0_10) ∧ w'.cell? ⟨gb140, 11, none⟩ = some (.int .i64 a0_11) ∧ w'.cell? ⟨gb140, 12, none⟩ = some (.slice A0_12 l0_12.length c0_12)) (ds := []) #[false, false, false, false, false, false, false, false, false, false, false, false, false, false] (by kernel_rfl) rfl rfl ⟨(blk_cell BK140.out 0).trans rfl, (blk_cell BK140.out 1).trans rfl, (blk_cell BK140.out 2).trans rfl, (blk_cell BK140.out 3).trans rfl, (blk_cell BK140.out 4).trans rfl, (blk_cell BK140.out 5).trans rfl, (blk_cell BK140.out 6).trans rfl, (blk_cell BK140.out 7).trans rfl, (blk_cell BK140.out 8).trans rfl, (blk_cell BK140.out 9).trans rfl, (blk_cell BK140.out 10).trans rfl, (blk_cell BK140.out 11).trans rfl, (blk_cell BK140.out 12).trans rfl⟩ (fun hHeld => ?_); refine with_tabW spec_ShowEv.tab1 spec_ShowEv.bits1 (fun HT_ HW_ => ?_)
        generalize w64.drew = w65 at BK140 HB hHeld ⊢
        refine pure_ (i := 0) (N := some 4) (v := ?_) (a' := ?_) #[true, false, false, false, false, false, false, false, false, false, false, false, false, false] rfl rfl (any_of HT_.out (by kernel_rfl)) (fun _ _ _ h => h) (Or.inl ⟨by rfl, ?_⟩) ?_ ?_
        rotate_left
        ·intro w'
         go_simp
         with_reducible rfl
        rotate_left
        ·simp only [Act.put, List.setIfInBounds_toArray, List.set_cons_zero, List.set_cons_succ, i64_w, i32_w]
         rfl
        refine pure_ (i := 4) (N := some 8) (v := ?_) (a' := ?_) #[true, false, false, false, true, false, false, false, false, false, false, false, false, false] rfl rfl (any_of HT_.out (by kernel_rfl)) (fun _ _ _ h => h) (Or.inl ⟨by rfl, ?_⟩) ?_ ?_
        rotate_left
        ·intro w'
         go_simp
         with_reducible rfl
        rotate_left
        ·simp only [Act.put, List.setIfInBounds_toArray, List.set_cons_zero, List.set_cons_succ, i64_w, i32_w]
         rfl
        refine pure_ (i := 9) (N := some 13) (v := ?_) (a' := ?_) #[true, false, false, false, true, false, false, false, false, true, false, false, false, false] rfl rfl (any_of HT_.out (by kernel_rfl)) (fun _ _ _ h => h) (Or.inl ⟨by rfl, ?_⟩) ?_ ?_
        rotate_left
        ·intro w'
         go_simp
         with_reducible rfl
        rotate_left
        ·simp only [Act.put, List.setIfInBounds_toArray, List.set_cons_zero, List.set_cons_succ, i64_w, i32_w]
         rfl
        refine take_ (i := 1) (N := some 5) (v := ?_) (a' := ?_) #[true, true, false, false, true, false, false, false, false, true, false, false, false, false] rfl rfl (take_ofW HT_.out HW_.out (by kernel_rfl)) (fun _ _ _ h => h) (Or.inl ⟨by rfl, ?_⟩) hHeld ?_ ?_
        rotate_left
        ·rintro w' ⟨s0, s1, s2, s3, s4, s5, s6, s7, s8, s9, s10, s11, s12⟩
         go_simp
         with_reducible rfl
        rotate_left
        ·simp only [Act.put, List.setIfInBounds_toArray, List.set_cons_zero, List.set_cons_succ, i64_w, i32_w]
         rfl
        refine take_ (i := 5) (N := some 9) (v := ?_) (a' := ?_) #[true, true, false, false, true, true, false, false, false, true, false, false, false, false] rfl rfl (take_ofW HT_.out HW_.out (by kernel_rfl)) (fun _ _ _ h => h) (Or.inl ⟨by rfl, ?_⟩) hHeld ?_ ?_
        rotate_left
        ·rintro w' ⟨s0, s1, s2, s3, s4, s5, s6, s7, s8, s9, s10, s11, s12⟩
         go_simp
         with_reducible rfl
        rotate_left
        ·simp only [Act.put, List.setIfInBounds_toArray, List.set_cons_zero, List.set_cons_succ, i64_w, i32_w]
         rfl
        refine take_ (i := 10) (N := some 14) (v := ?_) (a' := ?_) #[true, true, false, false, true, true, false, false, false, true, true, false, false, false] rfl rfl (take_ofW HT_.out HW_.out (by kernel_rfl)) (fun _ _ _ h => h) (Or.inl ⟨by rfl, ?_⟩) hHeld ?_ ?_
        rotate_left
        ·rintro w' ⟨s0, s1, s2, s3, s4, s5, s6, s7, s8, s9, s10, s11, s12⟩
         go_simp
         with_reducible rfl
        rotate_left
        ·simp only [Act.put, List.setIfInBounds_toArray, List.set_cons_zero, List.set_cons_succ, i64_w, i32_w]
         rfl
        refine one_ (i := 2) (N := some 6) #[true, true, true, false, true, true, false, false, false, true, true, false, false, false] rfl rfl (one_of HT_.out (by kernel_rfl)) (by decide) (fun K hK => ?_)
        refine goes_ Tryd.func43 (by kernel_rfl) rfl #[.int .i64 a0_3] (by rfl) rfl rfl (by (try simp only [List.map_toArray, List.map_cons, List.map_nil]); first | done | rfl | (simp only [List.length_drop, List.length_take]; rfl)) ?_
        with_reducible refine (spec_Dec.calls k a0_3 t141 _ A2.out).mono ?_
        rintro e w66 ⟨rfl, hb⟩
        refine ⟨_, rfl, ?_⟩
        have n0_ := Aside0.mk (blk_below (g := gb140) (o := .cells #[.int .i64 a0_0, .int .i64 a0_1, .int .i64 a0_2, .int .i64 a0_3, .int .i64 a0_4, .string a0_5, .int .i64 a0_6, .int .i64 a0_7, .int .i64 a0_8, .int .i64 a0_9, .int .i64 a0_10, .int .i64 a0_11, .slice A0_12 l0_12.length c0_12] 52 (0, 0)) (by (with_reducible repeat (first | refine blk_drewN ?_ _ | refine blk_drew ?_ | refine blk_alloc ?_ _)); exact BK140.out) hb)
        have n1_ := Aside0.mk (below_step (by repeat (first | (with_reducible first | exact HB.out | apply below_alloc | apply pw_below_drewN | apply below_drew1 | refine below_set ?_ GE140.out) | exact HB.out)) hb)
        clear BK140
        clear HB
        have BK140 := n0_
        have HB := n1_
        clear n0_ n1_
        (try clear hb)
        (try clear hb2)
        (try clear hk)
        (try clear hi)
        refine hK.out _ _ ⟨(blk_cell BK140.out 0).trans rfl, (blk_cell BK140.out 1).trans rfl, (blk_cell BK140.out 2).trans rfl, (blk_cell BK140.out 3).trans rfl, (blk_cell BK140.out 4).trans rfl, (blk_cell BK140.out 5).trans rfl, (blk_cell BK140.out 6).trans rfl, (blk_cell BK140.out 7).trans rfl, (blk_cell BK140.out 8).trans rfl, (blk_cell BK140.out 9).trans rfl, (blk_cell BK140.out 10).trans rfl, (blk_cell BK140.out 11).trans rfl, (blk_cell BK140.out 12).trans rfl⟩ (fun hHeld => ?_)
        clear hK K
        refine norm_ (a' := ?_) ?_ ?_
        rotate_left
        ·show Act.put _ (some 6) _ = _
         simp only [Act.put, List.setIfInBounds_toArray, List.set_cons_zero, List.set_cons_succ, i64_w, i32_w]
         rfl
        refine pure_ (i := 3) (N := some 7) (v := ?_) (a' := ?_) #[true, true, true, true, true, true, false, false, false, true, true, false, false, false] rfl rfl (any_of HT_.out (by kernel_rfl)) (fun _ _ _ h => h) (Or.inl ⟨by rfl, ?_⟩) ?_ ?_
        rotate_left
        ·intro w'
         go_simp
         with_reducible rfl
        rotate_left
        ·simp only [Act.put, List.setIfInBounds_toArray, List.set_cons_zero, List.set_cons_succ, i64_w, i32_w]
         rfl
        refine one_ (i := 6) (N := some 10) #[true, true, true, true, true, true, true, false, false, true, true, false, false, false] rfl rfl (one_of HT_.out (by kernel_rfl)) (by decide) (fun K hK => ?_)
        refine goes_ Tryd.func43 (by kernel_rfl) rfl #[.int .i64 a0_1] (by rfl) rfl rfl (by (try simp only [List.map_toArray, List.map_cons, List.map_nil]); first | done | rfl | (simp only [List.length_drop, List.length_take]; rfl)) ?_
        with_reducible refine (spec_Dec.calls k a0_1 t142 _ A4.out).mono ?_
        rintro e w67 ⟨rfl, hb⟩
        refine ⟨_, rfl, ?_⟩
        have n0_ := Aside0.mk (blk_below (g := gb140) (o := .cells #[.int .i64 a0_0, .int .i64 a0_1, .int .i64 a0_2, .int .i64 a0_3, .int .i64 a0_4, .string a0_5, .int .i64 a0_6, .int .i64 a0_7, .int .i64 a0_8, .int .i64 a0_9, .int .i64 a0_10, .int .i64 a0_11, .slice A0_12 l0_12.length c0_12] 52 (0, 0)) (by (with_reducible repeat (first | refine blk_drewN ?_ _ | refine blk_drew ?_ | refine blk_alloc ?_ _)); exact BK140.out) hb)
        have n1_ := Aside0.mk (below_step (by repeat (first | (with_reducible first | exact HB.out | apply below_alloc | apply pw_below_drewN | apply below_drew1 | refine below_set ?_ GE140.out) | exact HB.out)) hb)
        clear BK140
        clear HB
        have BK140 := n0_
        have HB := n1_
        clear n0_ n1_
        (try clear hb)
        (try clear hb2)
        (try clear hk)
        (try clear hi)
        refine hK.out _ _ ⟨(blk_cell BK140.out 0).trans rfl, (blk_cell BK140.out 1).trans rfl, (blk_cell BK140.out 2).trans rfl, (blk_cell BK140.out 3).trans rfl, (blk_cell BK140.out 4).trans rfl, (blk_cell BK140.out 5).trans rfl, (blk_cell BK140.out 6).trans rfl, (blk_cell BK140.out 7).trans rfl, (blk_cell BK140.out 8).trans rfl, (blk_cell BK140.out 9).trans rfl, (blk_cell BK140.out 10).trans rfl, (blk_cell BK140.out 11).trans rfl, (blk_cell BK140.out 12).trans rfl⟩ (fun hHeld => ?_)
        clear hK K
        refine norm_ (a' := ?_) ?_ ?_
        rotate_left
        ·show Act.put _ (some 10) _ = _
         simp only [Act.put, List.setIfInBounds_toArray, List.set_cons_zero, List.set_cons_succ, i64_w, i32_w]
         rfl
        refine pure_ (i := 7) (N := some 11) (v := ?_) (a' := ?_) #[true, true, true, true, true, true, true, true, false, true, true, false, false, false] rfl rfl (any_of HT_.out (by kernel_rfl)) (fun _ _ _ h => h) (Or.inl ⟨by rfl, ?_⟩) ?_ ?_
        rotate_left
        ·intro w'
         go_simp
         with_reducible rfl
        rotate_left
        ·simp only [Act.put, List.setIfInBounds_toArray, List.set_cons_zero, List.set_cons_succ, i64_w, i32_w]
         rfl
        refine pure_ (i := 8) (N := some 12) (v := ?_) (a' := ?_) #[true, true, true, true, true, true, true, true, true, true, true, false, false, false] rfl rfl (any_of HT_.out (by kernel_rfl)) (fun _ _ _ h => h) (Or.inl ⟨by rfl, ?_⟩) ?_ ?_
        rotate_left
        ·intro w'
         go_simp
         with_reducible rfl
        rotate_left
        ·simp only [Act.put, List.setIfInBounds_toArray, List.set_cons_zero, List.set_cons_succ, i64_w, i32_w]
         rfl
        refine one_ (i := 11) (N := some 15) #[true, true, true, true, true, true, true, true, true, true, true, true, false, false] rfl rfl (one_of HT_.out (by kernel_rfl)) (by decide) (fun K hK => ?_)
        refine goes_ Tryd.func43 (by kernel_rfl) rfl #[.int .i64 a0_2] (by rfl) rfl rfl (by (try simp only [List.map_toArray, List.map_cons, List.map_nil]); first | done | rfl | (simp only [List.length_drop, List.length_take]; rfl)) ?_
        with_reducible refine (spec_Dec.calls k a0_2 t143 _ A7.out).mono ?_
        rintro e w68 ⟨rfl, hb⟩
        refine ⟨_, rfl, ?_⟩
        have n0_ := Aside0.mk (blk_below (g := gb140) (o := .cells #[.int .i64 a0_0, .int .i64 a0_1, .int .i64 a0_2, .int .i64 a0_3, .int .i64 a0_4, .string a0_5, .int .i64 a0_6, .int .i64 a0_7, .int .i64 a0_8, .int .i64 a0_9, .int .i64 a0_10, .int .i64 a0_11, .slice A0_12 l0_12.length c0_12] 52 (0, 0)) (by (with_reducible repeat (first | refine blk_drewN ?_ _ | refine blk_drew ?_ | refine blk_alloc ?_ _)); exact BK140.out) hb)
        have n1_ := Aside0.mk (below_step (by repeat (first | (with_reducible first | exact HB.out | apply below_alloc | apply pw_below_drewN | apply below_drew1 | refine below_set ?_ GE140.out) | exact HB.out)) hb)
        clear BK140
        clear HB
        have BK140 := n0_
        have HB := n1_
        clear n0_ n1_
        (try clear hb)
        (try clear hb2)
        (try clear hk)
        (try clear hi)
        refine hK.out _ _ ⟨(blk_cell BK140.out 0).trans rfl, (blk_cell BK140.out 1).trans rfl, (blk_cell BK140.out 2).trans rfl, (blk_cell BK140.out 3).trans rfl, (blk_cell BK140.out 4).trans rfl, (blk_cell BK140.out 5).trans rfl, (blk_cell BK140.out 6).trans rfl, (blk_cell BK140.out 7).trans rfl, (blk_cell BK140.out 8).trans rfl, (blk_cell BK140.out 9).trans rfl, (blk_cell BK140.out 10).trans rfl, (blk_cell BK140.out 11).trans rfl, (blk_cell BK140.out 12).trans rfl⟩ (fun hHeld => ?_)
        clear hK K
        refine norm_ (a' := ?_) ?_ ?_
        rotate_left
        ·show Act.put _ (some 15) _ = _
         simp only [Act.put, List.setIfInBounds_toArray, List.set_cons_zero, List.set_cons_succ, i64_w, i32_w]
         rfl
        refine pure_ (i := 12) (N := some 16) (v := ?_) (a' := ?_) #[true, true, true, true, true, true, true, true, true, true, true, true, true, false] rfl rfl (any_of HT_.out (by kernel_rfl)) (fun _ _ _ h => h) (Or.inl ⟨by rfl, ?_⟩) ?_ ?_
        rotate_left
        ·intro w'
         go_simp
         with_reducible rfl
        rotate_left
        ·simp only [Act.put, List.setIfInBounds_toArray, List.set_cons_zero, List.set_cons_succ, i64_w, i32_w]
         rfl
        refine pure_ (i := 13) (N := some 3) (v := ?_) (a' := ?_) #[true, true, true, true, true, true, true, true, true, true, true, true, true, true] rfl rfl (any_of HT_.out (by kernel_rfl)) (fun _ _ _ h => h) (Or.inl ⟨by rfl, ?_⟩) ?_ ?_
        rotate_left
        ·intro w'
         go_simp
         with_reducible rfl
        rotate_left
        ·simp only [Act.put, List.setIfInBounds_toArray, List.set_cons_zero, List.set_cons_succ, i64_w, i32_w]
         rfl
        refine done_ (done_of HT_.out (by kernel_rfl)) ?_
        have hcz69_0 : w68.cell? ⟨gb140, 0, none⟩ = some (.int .i64 a0_0) := (blk_cell BK140.out 0).trans rfl
        have hcz69_1 : w68.cell? ⟨gb140, 1, none⟩ = some (.int .i64 a0_1) := (blk_cell BK140.out 1).trans rfl
        have hcz69_2 : w68.cell? ⟨gb140, 2, none⟩ = some (.int .i64 a0_2) := (blk_cell BK140.out 2).trans rfl
        have hcz69_3 : w68.cell? ⟨gb140, 3, none⟩ = some (.int .i64 a0_3) := (blk_cell BK140.out 3).trans rfl
        have hcz69_4 : w68.cell? ⟨gb140, 4, none⟩ = some (.int .i64 a0_4) := (blk_cell BK140.out 4).trans rfl
        have hcz69_5 : w68.cell? ⟨gb140, 5, none⟩ = some (.string a0_5) := (blk_cell BK140.out 5).trans rfl
        have hcz69_6 : w68.cell? ⟨gb140, 6, none⟩ = some (.int .i64 a0_6) := (blk_cell BK140.out 6).trans rfl
        have hcz69_7 : w68.cell? ⟨gb140, 7, none⟩ = some (.int .i64 a0_7) := (blk_cell BK140.out 7).trans rfl
        have hcz69_8 : w68.cell? ⟨gb140, 8, none⟩ = some (.int .i64 a0_8) := (blk_cell BK140.out 8).trans rfl
        have hcz69_9 : w68.cell? ⟨gb140, 9, none⟩ = some (.int .i64 a0_9) := (blk_cell BK140.out 9).trans rfl
        have hcz69_10 : w68.cell? ⟨gb140, 10, none⟩ = some (.int .i64 a0_10) := (blk_cell BK140.out 10).trans rfl
        have hcz69_11 : w68.cell? ⟨gb140, 11, none⟩ = some (.int .i64 a0_11) := (blk_cell BK140.out 11).trans rfl
        have hcz69_12 : w68.cell? ⟨gb140, 12, none⟩ = some (.slice A0_12 l0_12.length c0_12) := (blk_cell BK140.out 12).trans rfl
        have hfz69_0 := blk_frozen BK140.out 0
        have hfz69_1 := blk_frozen BK140.out 1
        have hfz69_2 := blk_frozen BK140.out 2
        have hfz69_3 := blk_frozen BK140.out 3
        have hfz69_4 := blk_frozen BK140.out 4
        have hfz69_5 := blk_frozen BK140.out 5
        have hfz69_6 := blk_frozen BK140.out 6
        have hfz69_7 := blk_frozen BK140.out 7
        have hfz69_8 := blk_frozen BK140.out 8
        have hfz69_9 := blk_frozen BK140.out 9
        have hfz69_10 := blk_frozen BK140.out 10
        have hfz69_11 := blk_frozen BK140.out 11
        have hfz69_12 := blk_frozen BK140.out 12
        try go_wp2
        go_ret
        exact ⟨by first | rfl | (simp [errW_none, errW_some] <;> rfl) | (simp [*, errW_none, errW_some] <;> rfl), by repeat (first | (with_reducible first | exact HB.out | apply below_alloc | apply pw_below_drewN | apply below_drew1 | refine below_set ?_ GE140.out) | exact HB.out)⟩
    ·rw [if_neg c8] at H
     exact absurd H (by simp)
   ·rw [if_neg c6] at H
    exact absurd H (by simp)
  ·rw [if_neg c5] at H
   exact absurd H (by simp)
 ·rw [if_neg c3] at H
  exact absurd H (by simp)

end Go.Proofs.YticfkgjcklonmaaDoor.QFnExactTrace
