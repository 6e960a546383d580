-- MADE BY qprint.py, a program of this claim's session, over the kit's print: own text.
import Derived.Test.YticfkgjcklonmaaDoorQFnExactTracex0
import Derived.Test.YticfkgjcklonmaaDoorQFnExactTracex5
import Derived.Test.YticfkgjcklonmaaDoorQFnExactTracex7
namespace Go.Proofs.YticfkgjcklonmaaDoor.QFnExactTrace
open Go.RowKit Go.Proofs.YticfkgjcklonmaaDoorW.PrintWords Go.Proofs.YticfkgjcklonmaaDoorW.PrintLast Go.Proofs.YticfkgjcklonmaaDoorW.PrintMore
attribute [local go_sem] max2_int min2_int max_two min_two max_three min_three max_four min_four   -- for this text's walks alone
attribute [local go_sem high] leq_str gtr_str geq_str
set_option linter.unusedVariables false
set_option linter.unusedSimpArgs false

/-! ### impl_ShowEv: function 24 -/
def impl_ShowEv.f (k : Nat) (a0_0 : Int) (a0_1 : Int) (a0_2 : Int) (a0_3 : Int) (a0_4 : Int) (a0_5 : ByteArray) (a0_6 : Int) (a0_7 : Int) (a0_8 : Int) (a0_9 : Int) (a0_10 : Int) (a0_11 : Int) (l0_12 : List (S75)) : Option (ByteArray) := (impl_Dec.f a0_3).bind fun t221 => (if t221.size + 2 ≤ 9223372036854775807 then ((impl_Dec.f a0_1).bind fun t222 => (if (t221 ++ (⟨#[32, 116]⟩ : ByteArray)).size + t222.size ≤ 9223372036854775807 then (if ((t221 ++ (⟨#[32, 116]⟩ : ByteArray)) ++ t222).size + 2 ≤ 9223372036854775807 then ((impl_Dec.f a0_2).bind fun t223 => (if (((t221 ++ (⟨#[32, 116]⟩ : ByteArray)) ++ t222) ++ (⟨#[32, 35]⟩ : ByteArray)).size + t223.size ≤ 9223372036854775807 then (if ((((t221 ++ (⟨#[32, 116]⟩ : ByteArray)) ++ t222) ++ (⟨#[32, 35]⟩ : ByteArray)) ++ t223).size + 1 ≤ 9223372036854775807 then (if a0_0 = 1 then (if (((((t221 ++ (⟨#[32, 116]⟩ : ByteArray)) ++ t222) ++ (⟨#[32, 35]⟩ : ByteArray)) ++ t223) ++ (⟨#[32]⟩ : ByteArray)).size + 5 ≤ 9223372036854775807 then ((impl_ShowOp.f k a0_4 a0_5 a0_6 a0_7).bind fun t224 => (if ((((((t221 ++ (⟨#[32, 116]⟩ : ByteArray)) ++ t222) ++ (⟨#[32, 35]⟩ : ByteArray)) ++ t223) ++ (⟨#[32]⟩ : ByteArray)) ++ (⟨#[99, 97, 108, 108, 32]⟩ : ByteArray)).size + t224.size ≤ 9223372036854775807 then (some (((((((t221 ++ (⟨#[32, 116]⟩ : ByteArray)) ++ t222) ++ (⟨#[32, 35]⟩ : ByteArray)) ++ t223) ++ (⟨#[32]⟩ : ByteArray)) ++ (⟨#[99, 97, 108, 108, 32]⟩ : ByteArray)) ++ t224)) else (none))) else (none)) else (if a0_0 = 2 then ((impl_CodeWord.f a0_8).bind fun t225 => (if 6 + t225.size ≤ 9223372036854775807 then (if (((((t221 ++ (⟨#[32, 116]⟩ : ByteArray)) ++ t222) ++ (⟨#[32, 35]⟩ : ByteArray)) ++ t223) ++ (⟨#[32]⟩ : ByteArray)).size + ((⟨#[112, 111, 105, 110, 116, 32]⟩ : ByteArray) ++ t225).size ≤ 9223372036854775807 then (if a0_9 ≥ 0 then ((impl_Dec.f a0_9).bind fun t226 => (if 4 + t226.size ≤ 9223372036854775807 then (if ((((((t221 ++ (⟨#[32, 116]⟩ : ByteArray)) ++ t222) ++ (⟨#[32, 35]⟩ : ByteArray)) ++ t223) ++ (⟨#[32]⟩ : ByteArray)) ++ ((⟨#[112, 111, 105, 110, 116, 32]⟩ : ByteArray) ++ t225)).size + ((⟨#[32, 105, 110, 32]⟩ : ByteArray) ++ t226).size ≤ 9223372036854775807 then (some (((((((t221 ++ (⟨#[32, 116]⟩ : ByteArray)) ++ t222) ++ (⟨#[32, 35]⟩ : ByteArray)) ++ t223) ++ (⟨#[32]⟩ : ByteArray)) ++ ((⟨#[112, 111, 105, 110, 116, 32]⟩ : ByteArray) ++ t225)) ++ ((⟨#[32, 105, 110, 32]⟩ : ByteArray) ++ t226))) else (none)) else (none))) else (some ((((((t221 ++ (⟨#[32, 116]⟩ : ByteArray)) ++ t222) ++ (⟨#[32, 35]⟩ : ByteArray)) ++ t223) ++ (⟨#[32]⟩ : ByteArray)) ++ ((⟨#[112, 111, 105, 110, 116, 32]⟩ : ByteArray) ++ t225)))) else (none)) else (none))) else (if a0_0 = 3 then (if (((((t221 ++ (⟨#[32, 116]⟩ : ByteArray)) ++ t222) ++ (⟨#[32, 35]⟩ : ByteArray)) ++ t223) ++ (⟨#[32]⟩ : ByteArray)).size + 5 ≤ 9223372036854775807 then ((impl_CodeWord.f a0_8).bind fun t227 => (if ((((((t221 ++ (⟨#[32, 116]⟩ : ByteArray)) ++ t222) ++ (⟨#[32, 35]⟩ : ByteArray)) ++ t223) ++ (⟨#[32]⟩ : ByteArray)) ++ (⟨#[116, 111, 108, 100, 32]⟩ : ByteArray)).size + t227.size ≤ 9223372036854775807 then (if (((((((t221 ++ (⟨#[32, 116]⟩ : ByteArray)) ++ t222) ++ (⟨#[32, 35]⟩ : ByteArray)) ++ t223) ++ (⟨#[32]⟩ : ByteArray)) ++ (⟨#[116, 111, 108, 100, 32]⟩ : ByteArray)) ++ t227).size + 1 ≤ 9223372036854775807 then ((impl_Dec.f (l0_12.length : Int)).bind fun t228 => (if ((((((((t221 ++ (⟨#[32, 116]⟩ : ByteArray)) ++ t222) ++ (⟨#[32, 35]⟩ : ByteArray)) ++ t223) ++ (⟨#[32]⟩ : ByteArray)) ++ (⟨#[116, 111, 108, 100, 32]⟩ : ByteArray)) ++ t227) ++ (⟨#[32]⟩ : ByteArray)).size + t228.size ≤ 9223372036854775807 then (if (((((((((t221 ++ (⟨#[32, 116]⟩ : ByteArray)) ++ t222) ++ (⟨#[32, 35]⟩ : ByteArray)) ++ t223) ++ (⟨#[32]⟩ : ByteArray)) ++ (⟨#[116, 111, 108, 100, 32]⟩ : ByteArray)) ++ t227) ++ (⟨#[32]⟩ : ByteArray)) ++ t228).size + 5 ≤ 9223372036854775807 then (some ((((((((((t221 ++ (⟨#[32, 116]⟩ : ByteArray)) ++ t222) ++ (⟨#[32, 35]⟩ : ByteArray)) ++ t223) ++ (⟨#[32]⟩ : ByteArray)) ++ (⟨#[116, 111, 108, 100, 32]⟩ : ByteArray)) ++ t227) ++ (⟨#[32]⟩ : ByteArray)) ++ t228) ++ (⟨#[32, 114, 111, 119, 115]⟩ : ByteArray))) else (none)) else (none))) else (none)) else (none))) else (none)) else (some (⟨#[]⟩ : ByteArray))))) else (none)) else (none))) else (none)) else (none))) else (none))
theorem impl_ShowEv.mono : ∀ a0 a1 a2 a3 a4 a5 a6 a7 a8 a9 a10 a11 a12 k, LeO (impl_ShowEv.f k a0 a1 a2 a3 a4 a5 a6 a7 a8 a9 a10 a11 a12) (impl_ShowEv.f (k + 1) a0 a1 a2 a3 a4 a5 a6 a7 a8 a9 a10 a11 a12) := by
 intro a0 a1 a2 a3 a4 a5 a6 a7 a8 a9 a10 a11 a12 k
 unfold impl_ShowEv.f
 repeat' first
   | (with_reducible exact impl_ShowOp.mono _ _ _ _ _)
   | (with_reducible exact LeO.refl _)
   | (with_reducible exact LeO.none _)
   | (with_reducible refine LeO.ite ?_ ?_)
   | (with_reducible refine LeO.bind ?_ (fun _ => ?_))
   | exact impl_ShowOp.mono _ _ _ _ _
   | exact LeO.none _
   | refine LeO.ite ?_ ?_
   | refine LeO.bind ?_ (fun _ => ?_)
def impl_ShowEv.T1 : Bool × List (List Nat × List Nat) := (true, [([], []), ([0], [0]), ([1], [1]), ([2], [2]), ([], []), ([4], [4]), ([5, 2], [5]), ([3, 6], [3, 6]), ([7], [7]), ([], []), ([9], [9]), ([10, 6], [10]), ([8, 11], [8, 11]), ([12], [12]), ([13, 11, 0, 1, 2, 3, 4, 5, 6, 7, 8, 9, 10, 11, 12, 13], [13])])
def impl_ShowEv.B1 : List Nat := [0, 1, 3, 7, 0, 16, 55, 127, 255, 0, 512, 1655, 4095, 8191, 16383]
theorem impl_ShowEv.tab1 : rtab .any (opsOf Tryd.f24 1) = impl_ShowEv.T1 := by kernel_rfl
theorem impl_ShowEv.bits1 : waitsOk impl_ShowEv.T1.2 impl_ShowEv.B1 = true := by kernel_rfl
def impl_ShowEv.T11 : Bool × List (List Nat × List Nat) := (true, [([], []), ([0], [0]), ([], []), ([2], [2]), ([3], [3]), ([1, 4], [1, 4]), ([5], [5]), ([], []), ([7], [7]), ([8], [8]), ([9, 4], [9]), ([6, 10], [6, 10]), ([11], [11]), ([12, 10, 0, 1, 2, 3, 4, 5, 6, 7, 8, 9, 10, 11, 12], [12])])
def impl_ShowEv.B11 : List Nat := [0, 1, 0, 4, 12, 31, 63, 0, 128, 384, 924, 2047, 4095, 8191]
theorem impl_ShowEv.tab11 : rtab .any (opsOf Tryd.f24 11) = impl_ShowEv.T11 := by kernel_rfl
theorem impl_ShowEv.bits11 : waitsOk impl_ShowEv.T11.2 impl_ShowEv.B11 = true := by kernel_rfl
set_option maxHeartbeats 8000000 in
set_option maxRecDepth 100000 in
theorem impl_ShowEv.calls (k : Nat) (a0_0 : Int) (a0_1 : Int) (a0_2 : Int) (a0_3 : Int) (a0_4 : Int) (a0_5 : ByteArray) (a0_6 : Int) (a0_7 : Int) (a0_8 : Int) (a0_9 : Int) (a0_10 : Int) (a0_11 : Int) (A0_12 : Option Addr) (c0_12 : Nat) (l0_12 : List (S75)) (r : ByteArray) (w : World) (hr0_12 : Kd.C k75 w A0_12 l0_12.length l0_12) (hc0_12 : l0_12.length ≤ c0_12) (h : impl_ShowEv.f k a0_0 a0_1 a0_2 a0_3 a0_4 a0_5 a0_6 a0_7 a0_8 a0_9 a0_10 a0_11 l0_12 = some r) (hT : Lib.TabIs Tryd.prog w "internal/strconv.uint64pow10" .u64 Lib.pow10Tab) :
  Calls Tryd.prog 24 #[.agg #[.int .i64 a0_0, .int .i64 a0_1, .int .i64 a0_2, .int .i64 a0_3, .int .i64 a0_4, .string a0_5, .int .i64 a0_6, .int .i64 a0_7, .int .i64 a0_8, .int .i64 a0_9, .int .i64 a0_10, .int .i64 a0_11, .slice A0_12 l0_12.length c0_12]] w fun e w' => e = .returned (.string r) ∧ Below w.heap.size w w' := by
 have HT := Aside0.mk (show ∀ w_ : World, Below w.heap.size w w_ → Lib.TabIs Tryd.prog w_ "internal/strconv.uint64pow10" .u64 Lib.pow10Tab from Lib.tabBelow_of_tabIs hT)
 clear hT
 have hu52 := Tryd.underlying52
 have hu34 := Tryd.underlying34
 have HR0_12 := Aside0.mk hr0_12
 have HC0_12 := Aside0.mk hc0_12
 clear hr0_12 hc0_12
 have HB := Aside0.mk (Below.refl w.heap.size w)
 have H : ((impl_Dec.f a0_3).bind fun t221 => (if t221.size + 2 ≤ 9223372036854775807 then ((impl_Dec.f a0_1).bind fun t222 => (if (t221 ++ (⟨#[32, 116]⟩ : ByteArray)).size + t222.size ≤ 9223372036854775807 then (if ((t221 ++ (⟨#[32, 116]⟩ : ByteArray)) ++ t222).size + 2 ≤ 9223372036854775807 then ((impl_Dec.f a0_2).bind fun t223 => (if (((t221 ++ (⟨#[32, 116]⟩ : ByteArray)) ++ t222) ++ (⟨#[32, 35]⟩ : ByteArray)).size + t223.size ≤ 9223372036854775807 then (if ((((t221 ++ (⟨#[32, 116]⟩ : ByteArray)) ++ t222) ++ (⟨#[32, 35]⟩ : ByteArray)) ++ t223).size + 1 ≤ 9223372036854775807 then (if a0_0 = 1 then (if (((((t221 ++ (⟨#[32, 116]⟩ : ByteArray)) ++ t222) ++ (⟨#[32, 35]⟩ : ByteArray)) ++ t223) ++ (⟨#[32]⟩ : ByteArray)).size + 5 ≤ 9223372036854775807 then ((impl_ShowOp.f k a0_4 a0_5 a0_6 a0_7).bind fun t224 => (if ((((((t221 ++ (⟨#[32, 116]⟩ : ByteArray)) ++ t222) ++ (⟨#[32, 35]⟩ : ByteArray)) ++ t223) ++ (⟨#[32]⟩ : ByteArray)) ++ (⟨#[99, 97, 108, 108, 32]⟩ : ByteArray)).size + t224.size ≤ 9223372036854775807 then (some (((((((t221 ++ (⟨#[32, 116]⟩ : ByteArray)) ++ t222) ++ (⟨#[32, 35]⟩ : ByteArray)) ++ t223) ++ (⟨#[32]⟩ : ByteArray)) ++ (⟨#[99, 97, 108, 108, 32]⟩ : ByteArray)) ++ t224)) else (none))) else (none)) else (if a0_0 = 2 then ((impl_CodeWord.f a0_8).bind fun t225 => (if 6 + t225.size ≤ 9223372036854775807 then (if (((((t221 ++ (⟨#[32, 116]⟩ : ByteArray)) ++ t222) ++ (⟨#[32, 35]⟩ : ByteArray)) ++ t223) ++ (⟨#[32]⟩ : ByteArray)).size + ((⟨#[112, 111, 105, 110, 116, 32]⟩ : ByteArray) ++ t225).size ≤ 9223372036854775807 then (if a0_9 ≥ 0 then ((impl_Dec.f a0_9).bind fun t226 => (if 4 + t226.size ≤ 9223372036854775807 then (if ((((((t221 ++ (⟨#[32, 116]⟩ : ByteArray)) ++ t222) ++ (⟨#[32, 35]⟩ : ByteArray)) ++ t223) ++ (⟨#[32]⟩ : ByteArray)) ++ ((⟨#[112, 111, 105, 110, 116, 32]⟩ : ByteArray) ++ t225)).size + ((⟨#[32, 105, 110, 32]⟩ : ByteArray) ++ t226).size ≤ 9223372036854775807 then (some (((((((t221 ++ (⟨#[32, 116]⟩ : ByteArray)) ++ t222) ++ (⟨#[32, 35]⟩ : ByteArray)) ++ t223) ++ (⟨#[32]⟩ : ByteArray)) ++ ((⟨#[112, 111, 105, 110, 116, 32]⟩ : ByteArray) ++ t225)) ++ ((⟨#[32, 105, 110, 32]⟩ : ByteArray) ++ t226))) else (none)) else (none))) else (some ((((((t221 ++ (⟨#[32, 116]⟩ : ByteArray)) ++ t222) ++ (⟨#[32, 35]⟩ : ByteArray)) ++ t223) ++ (⟨#[32]⟩ : ByteArray)) ++ ((⟨#[112, 111, 105, 110, 116, 32]⟩ : ByteArray) ++ t225)))) else (none)) else (none))) else (if a0_0 = 3 then (if (((((t221 ++ (⟨#[32, 116]⟩ : ByteArray)) ++ t222) ++ (⟨#[32, 35]⟩ : ByteArray)) ++ t223) ++ (⟨#[32]⟩ : ByteArray)).size + 5 ≤ 9223372036854775807 then ((impl_CodeWord.f a0_8).bind fun t227 => (if ((((((t221 ++ (⟨#[32, 116]⟩ : ByteArray)) ++ t222) ++ (⟨#[32, 35]⟩ : ByteArray)) ++ t223) ++ (⟨#[32]⟩ : ByteArray)) ++ (⟨#[116, 111, 108, 100, 32]⟩ : ByteArray)).size + t227.size ≤ 9223372036854775807 then (if (((((((t221 ++ (⟨#[32, 116]⟩ : ByteArray)) ++ t222) ++ (⟨#[32, 35]⟩ : ByteArray)) ++ t223) ++ (⟨#[32]⟩ : ByteArray)) ++ (⟨#[116, 111, 108, 100, 32]⟩ : ByteArray)) ++ t227).size + 1 ≤ 9223372036854775807 then ((impl_Dec.f (l0_12.length : Int)).bind fun t228 => (if ((((((((t221 ++ (⟨#[32, 116]⟩ : ByteArray)) ++ t222) ++ (⟨#[32, 35]⟩ : ByteArray)) ++ t223) ++ (⟨#[32]⟩ : ByteArray)) ++ (⟨#[116, 111, 108, 100, 32]⟩ : ByteArray)) ++ t227) ++ (⟨#[32]⟩ : ByteArray)).size + t228.size ≤ 9223372036854775807 then (if (((((((((t221 ++ (⟨#[32, 116]⟩ : ByteArray)) ++ t222) ++ (⟨#[32, 35]⟩ : ByteArray)) ++ t223) ++ (⟨#[32]⟩ : ByteArray)) ++ (⟨#[116, 111, 108, 100, 32]⟩ : ByteArray)) ++ t227) ++ (⟨#[32]⟩ : ByteArray)) ++ t228).size + 5 ≤ 9223372036854775807 then (some ((((((((((t221 ++ (⟨#[32, 116]⟩ : ByteArray)) ++ t222) ++ (⟨#[32, 35]⟩ : ByteArray)) ++ t223) ++ (⟨#[32]⟩ : ByteArray)) ++ (⟨#[116, 111, 108, 100, 32]⟩ : ByteArray)) ++ t227) ++ (⟨#[32]⟩ : ByteArray)) ++ t228) ++ (⟨#[32, 114, 111, 119, 115]⟩ : ByteArray))) else (none)) else (none))) else (none)) else (none))) else (none)) else (some (⟨#[]⟩ : ByteArray))))) else (none)) else (none))) else (none)) else (none))) else (none))) = some r := h
 clear h
 replace H := Option.bind_eq_some_iff.mp H
 obtain ⟨t221, A20, H⟩ := H
 replace H : (if t221.size + 2 ≤ 9223372036854775807 then ((impl_Dec.f a0_1).bind fun t222 => (if (t221 ++ (⟨#[32, 116]⟩ : ByteArray)).size + t222.size ≤ 9223372036854775807 then (if ((t221 ++ (⟨#[32, 116]⟩ : ByteArray)) ++ t222).size + 2 ≤ 9223372036854775807 then ((impl_Dec.f a0_2).bind fun t223 => (if (((t221 ++ (⟨#[32, 116]⟩ : ByteArray)) ++ t222) ++ (⟨#[32, 35]⟩ : ByteArray)).size + t223.size ≤ 9223372036854775807 then (if ((((t221 ++ (⟨#[32, 116]⟩ : ByteArray)) ++ t222) ++ (⟨#[32, 35]⟩ : ByteArray)) ++ t223).size + 1 ≤ 9223372036854775807 then (if a0_0 = 1 then (if (((((t221 ++ (⟨#[32, 116]⟩ : ByteArray)) ++ t222) ++ (⟨#[32, 35]⟩ : ByteArray)) ++ t223) ++ (⟨#[32]⟩ : ByteArray)).size + 5 ≤ 9223372036854775807 then ((impl_ShowOp.f k a0_4 a0_5 a0_6 a0_7).bind fun t224 => (if ((((((t221 ++ (⟨#[32, 116]⟩ : ByteArray)) ++ t222) ++ (⟨#[32, 35]⟩ : ByteArray)) ++ t223) ++ (⟨#[32]⟩ : ByteArray)) ++ (⟨#[99, 97, 108, 108, 32]⟩ : ByteArray)).size + t224.size ≤ 9223372036854775807 then (some (((((((t221 ++ (⟨#[32, 116]⟩ : ByteArray)) ++ t222) ++ (⟨#[32, 35]⟩ : ByteArray)) ++ t223) ++ (⟨#[32]⟩ : ByteArray)) ++ (⟨#[99, 97, 108, 108, 32]⟩ : ByteArray)) ++ t224)) else (none))) else (none)) else (if a0_0 = 2 then ((impl_CodeWord.f a0_8).bind fun t225 => (if 6 + t225.size ≤ 9223372036854775807 then (if (((((t221 ++ (⟨#[32, 116]⟩ : ByteArray)) ++ t222) ++ (⟨#[32, 35]⟩ : ByteArray)) ++ t223) ++ (⟨#[32]⟩ : ByteArray)).size + ((⟨#[112, 111, 105, 110, 116, 32]⟩ : ByteArray) ++ t225).size ≤ 9223372036854775807 then (if a0_9 ≥ 0 then ((impl_Dec.f a0_9).bind fun t226 => (if 4 + t226.size ≤ 9223372036854775807 then (if ((((((t221 ++ (⟨#[32, 116]⟩ : ByteArray)) ++ t222) ++ (⟨#[32, 35]⟩ : ByteArray)) ++ t223) ++ (⟨#[32]⟩ : ByteArray)) ++ ((⟨#[112, 111, 105, 110, 116, 32]⟩ : ByteArray) ++ t225)).size + ((⟨#[32, 105, 110, 32]⟩ : ByteArray) ++ t226).size ≤ 9223372036854775807 then (some (((((((t221 ++ (⟨#[32, 116]⟩ : ByteArray)) ++ t222) ++ (⟨#[32, 35]⟩ : ByteArray)) ++ t223) ++ (⟨#[32]⟩ : ByteArray)) ++ ((⟨#[112, 111, 105, 110, 116, 32]⟩ : ByteArray) ++ t225)) ++ ((⟨#[32, 105, 110, 32]⟩ : ByteArray) ++ t226))) else (none)) else (none))) else (some ((((((t221 ++ (⟨#[32, 116]⟩ : ByteArray)) ++ t222) ++ (⟨#[32, 35]⟩ : ByteArray)) ++ t223) ++ (⟨#[32]⟩ : ByteArray)) ++ ((⟨#[112, 111, 105, 110, 116, 32]⟩ : ByteArray) ++ t225)))) else (none)) else (none))) else (if a0_0 = 3 then (if (((((t221 ++ (⟨#[32, 116]⟩ : ByteArray)) ++ t222) ++ (⟨#[32, 35]⟩ : ByteArray)) ++ t223) ++ (⟨#[32]⟩ : ByteArray)).size + 5 ≤ 9223372036854775807 then ((impl_CodeWord.f a0_8).bind fun t227 => (if ((((((t221 ++ (⟨#[32, 116]⟩ : ByteArray)) ++ t222) ++ (⟨#[32, 35]⟩ : ByteArray)) ++ t223) ++ (⟨#[32]⟩ : ByteArray)) ++ (⟨#[116, 111, 108, 100, 32]⟩ : ByteArray)).size + t227.size ≤ 9223372036854775807 then (if (((((((t221 ++ (⟨#[32, 116]⟩ : ByteArray)) ++ t222) ++ (⟨#[32, 35]⟩ : ByteArray)) ++ t223) ++ (⟨#[32]⟩ : ByteArray)) ++ (⟨#[116, 111, 108, 100, 32]⟩ : ByteArray)) ++ t227).size + 1 ≤ 9223372036854775807 then ((impl_Dec.f (l0_12.length : Int)).bind fun t228 => (if ((((((((t221 ++ (⟨#[32, 116]⟩ : ByteArray)) ++ t222) ++ (⟨#[32, 35]⟩ : ByteArray)) ++ t223) ++ (⟨#[32]⟩ : ByteArray)) ++ (⟨#[116, 111, 108, 100, 32]⟩ : ByteArray)) ++ t227) ++ (⟨#[32]⟩ : ByteArray)).size + t228.size ≤ 9223372036854775807 then (if (((((((((t221 ++ (⟨#[32, 116]⟩ : ByteArray)) ++ t222) ++ (⟨#[32, 35]⟩ : ByteArray)) ++ t223) ++ (⟨#[32]⟩ : ByteArray)) ++ (⟨#[116, 111, 108, 100, 32]⟩ : ByteArray)) ++ t227) ++ (⟨#[32]⟩ : ByteArray)) ++ t228).size + 5 ≤ 9223372036854775807 then (some ((((((((((t221 ++ (⟨#[32, 116]⟩ : ByteArray)) ++ t222) ++ (⟨#[32, 35]⟩ : ByteArray)) ++ t223) ++ (⟨#[32]⟩ : ByteArray)) ++ (⟨#[116, 111, 108, 100, 32]⟩ : ByteArray)) ++ t227) ++ (⟨#[32]⟩ : ByteArray)) ++ t228) ++ (⟨#[32, 114, 111, 119, 115]⟩ : ByteArray))) else (none)) else (none))) else (none)) else (none))) else (none)) else (some (⟨#[]⟩ : ByteArray))))) else (none)) else (none))) else (none)) else (none))) else (none)) = some r := H
 have A2 := Aside0.mk A20
 clear A20
 by_cases c3 : t221.size + 2 ≤ 9223372036854775807
 ·rw [if_pos c3] at H
  have c3b0 := eq_true c3
  have c3b1 : decide (t221.size + 2 ≤ 9223372036854775807) = true := decide_eq_true c3
  try have c3b2 : (9223372036854775807 < t221.size + 2) = False := eq_false (Nat.not_lt.2 c3)
  replace H := Option.bind_eq_some_iff.mp H
  obtain ⟨t222, A40, H⟩ := H
  replace H : (if (t221 ++ (⟨#[32, 116]⟩ : ByteArray)).size + t222.size ≤ 9223372036854775807 then (if ((t221 ++ (⟨#[32, 116]⟩ : ByteArray)) ++ t222).size + 2 ≤ 9223372036854775807 then ((impl_Dec.f a0_2).bind fun t223 => (if (((t221 ++ (⟨#[32, 116]⟩ : ByteArray)) ++ t222) ++ (⟨#[32, 35]⟩ : ByteArray)).size + t223.size ≤ 9223372036854775807 then (if ((((t221 ++ (⟨#[32, 116]⟩ : ByteArray)) ++ t222) ++ (⟨#[32, 35]⟩ : ByteArray)) ++ t223).size + 1 ≤ 9223372036854775807 then (if a0_0 = 1 then (if (((((t221 ++ (⟨#[32, 116]⟩ : ByteArray)) ++ t222) ++ (⟨#[32, 35]⟩ : ByteArray)) ++ t223) ++ (⟨#[32]⟩ : ByteArray)).size + 5 ≤ 9223372036854775807 then ((impl_ShowOp.f k a0_4 a0_5 a0_6 a0_7).bind fun t224 => (if ((((((t221 ++ (⟨#[32, 116]⟩ : ByteArray)) ++ t222) ++ (⟨#[32, 35]⟩ : ByteArray)) ++ t223) ++ (⟨#[32]⟩ : ByteArray)) ++ (⟨#[99, 97, 108, 108, 32]⟩ : ByteArray)).size + t224.size ≤ 9223372036854775807 then (some (((((((t221 ++ (⟨#[32, 116]⟩ : ByteArray)) ++ t222) ++ (⟨#[32, 35]⟩ : ByteArray)) ++ t223) ++ (⟨#[32]⟩ : ByteArray)) ++ (⟨#[99, 97, 108, 108, 32]⟩ : ByteArray)) ++ t224)) else (none))) else (none)) else (if a0_0 = 2 then ((impl_CodeWord.f a0_8).bind fun t225 => (if 6 + t225.size ≤ 9223372036854775807 then (if (((((t221 ++ (⟨#[32, 116]⟩ : ByteArray)) ++ t222) ++ (⟨#[32, 35]⟩ : ByteArray)) ++ t223) ++ (⟨#[32]⟩ : ByteArray)).size + ((⟨#[112, 111, 105, 110, 116, 32]⟩ : ByteArray) ++ t225).size ≤ 9223372036854775807 then (if a0_9 ≥ 0 then ((impl_Dec.f a0_9).bind fun t226 => (if 4 + t226.size ≤ 9223372036854775807 then (if ((((((t221 ++ (⟨#[32, 116]⟩ : ByteArray)) ++ t222) ++ (⟨#[32, 35]⟩ : ByteArray)) ++ t223) ++ (⟨#[32]⟩ : ByteArray)) ++ ((⟨#[112, 111, 105, 110, 116, 32]⟩ : ByteArray) ++ t225)).size + ((⟨#[32, 105, 110, 32]⟩ : ByteArray) ++ t226).size ≤ 9223372036854775807 then (some (((((((t221 ++ (⟨#[32, 116]⟩ : ByteArray)) ++ t222) ++ (⟨#[32, 35]⟩ : ByteArray)) ++ t223) ++ (⟨#[32]⟩ : ByteArray)) ++ ((⟨#[112, 111, 105, 110, 116, 32]⟩ : ByteArray) ++ t225)) ++ ((⟨#[32, 105, 110, 32]⟩ : ByteArray) ++ t226))) else (none)) else (none))) else (some ((((((t221 ++ (⟨#[32, 116]⟩ : ByteArray)) ++ t222) ++ (⟨#[32, 35]⟩ : ByteArray)) ++ t223) ++ (⟨#[32]⟩ : ByteArray)) ++ ((⟨#[112, 111, 105, 110, 116, 32]⟩ : ByteArray) ++ t225)))) else (none)) else (none))) else (if a0_0 = 3 then (if (((((t221 ++ (⟨#[32, 116]⟩ : ByteArray)) ++ t222) ++ (⟨#[32, 35]⟩ : ByteArray)) ++ t223) ++ (⟨#[32]⟩ : ByteArray)).size + 5 ≤ 9223372036854775807 then ((impl_CodeWord.f a0_8).bind fun t227 => (if ((((((t221 ++ (⟨#[32, 116]⟩ : ByteArray)) ++ t222) ++ (⟨#[32, 35]⟩ : ByteArray)) ++ t223) ++ (⟨#[32]⟩ : ByteArray)) ++ (⟨#[116, 111, 108, 100, 32]⟩ : ByteArray)).size + t227.size ≤ 9223372036854775807 then (if (((((((t221 ++ (⟨#[32, 116]⟩ : ByteArray)) ++ t222) ++ (⟨#[32, 35]⟩ : ByteArray)) ++ t223) ++ (⟨#[32]⟩ : ByteArray)) ++ (⟨#[116, 111, 108, 100, 32]⟩ : ByteArray)) ++ t227).size + 1 ≤ 9223372036854775807 then ((impl_Dec.f (l0_12.length : Int)).bind fun t228 => (if ((((((((t221 ++ (⟨#[32, 116]⟩ : ByteArray)) ++ t222) ++ (⟨#[32, 35]⟩ : ByteArray)) ++ t223) ++ (⟨#[32]⟩ : ByteArray)) ++ (⟨#[116, 111, 108, 100, 32]⟩ : ByteArray)) ++ t227) ++ (⟨#[32]⟩ : ByteArray)).size + t228.size ≤ 9223372036854775807 then (if (((((((((t221 ++ (⟨#[32, 116]⟩ : ByteArray)) ++ t222) ++ (⟨#[32, 35]⟩ : ByteArray)) ++ t223) ++ (⟨#[32]⟩ : ByteArray)) ++ (⟨#[116, 111, 108, 100, 32]⟩ : ByteArray)) ++ t227) ++ (⟨#[32]⟩ : ByteArray)) ++ t228).size + 5 ≤ 9223372036854775807 then (some ((((((((((t221 ++ (⟨#[32, 116]⟩ : ByteArray)) ++ t222) ++ (⟨#[32, 35]⟩ : ByteArray)) ++ t223) ++ (⟨#[32]⟩ : ByteArray)) ++ (⟨#[116, 111, 108, 100, 32]⟩ : ByteArray)) ++ t227) ++ (⟨#[32]⟩ : ByteArray)) ++ t228) ++ (⟨#[32, 114, 111, 119, 115]⟩ : ByteArray))) else (none)) else (none))) else (none)) else (none))) else (none)) else (some (⟨#[]⟩ : ByteArray))))) else (none)) else (none))) else (none)) else (none)) = some r := H
  have A4 := Aside0.mk A40
  clear A40
  by_cases c5 : (t221 ++ (⟨#[32, 116]⟩ : ByteArray)).size + t222.size ≤ 9223372036854775807
  ·rw [if_pos c5] at H
   have c5b0 := eq_true c5
   have c5b1 : decide ((t221 ++ (⟨#[32, 116]⟩ : ByteArray)).size + t222.size ≤ 9223372036854775807) = true := decide_eq_true c5
   try have c5b2 : (9223372036854775807 < (t221 ++ (⟨#[32, 116]⟩ : ByteArray)).size + t222.size) = False := eq_false (Nat.not_lt.2 c5)
   try (have c5n := c5; simp only [ByteArray.size_append, show (⟨#[32, 116]⟩ : ByteArray).size = 2 from rfl] at c5n; have c5b3 := eq_false (Nat.not_lt.2 c5n); have c5b4 := eq_true c5n; clear c5n)
   by_cases c6 : ((t221 ++ (⟨#[32, 116]⟩ : ByteArray)) ++ t222).size + 2 ≤ 9223372036854775807
   ·rw [if_pos c6] at H
    have c6b0 := eq_true c6
    have c6b1 : decide (((t221 ++ (⟨#[32, 116]⟩ : ByteArray)) ++ t222).size + 2 ≤ 9223372036854775807) = true := decide_eq_true c6
    try have c6b2 : (9223372036854775807 < ((t221 ++ (⟨#[32, 116]⟩ : ByteArray)) ++ t222).size + 2) = False := eq_false (Nat.not_lt.2 c6)
    try (have c6n := c6; simp only [ByteArray.size_append, show (⟨#[32, 116]⟩ : ByteArray).size = 2 from rfl] at c6n; have c6b3 := eq_false (Nat.not_lt.2 c6n); have c6b4 := eq_true c6n; clear c6n)
    replace H := Option.bind_eq_some_iff.mp H
    obtain ⟨t223, A70, H⟩ := H
    replace H : (if (((t221 ++ (⟨#[32, 116]⟩ : ByteArray)) ++ t222) ++ (⟨#[32, 35]⟩ : ByteArray)).size + t223.size ≤ 9223372036854775807 then (if ((((t221 ++ (⟨#[32, 116]⟩ : ByteArray)) ++ t222) ++ (⟨#[32, 35]⟩ : ByteArray)) ++ t223).size + 1 ≤ 9223372036854775807 then (if a0_0 = 1 then (if (((((t221 ++ (⟨#[32, 116]⟩ : ByteArray)) ++ t222) ++ (⟨#[32, 35]⟩ : ByteArray)) ++ t223) ++ (⟨#[32]⟩ : ByteArray)).size + 5 ≤ 9223372036854775807 then ((impl_ShowOp.f k a0_4 a0_5 a0_6 a0_7).bind fun t224 => (if ((((((t221 ++ (⟨#[32, 116]⟩ : ByteArray)) ++ t222) ++ (⟨#[32, 35]⟩ : ByteArray)) ++ t223) ++ (⟨#[32]⟩ : ByteArray)) ++ (⟨#[99, 97, 108, 108, 32]⟩ : ByteArray)).size + t224.size ≤ 9223372036854775807 then (some (((((((t221 ++ (⟨#[32, 116]⟩ : ByteArray)) ++ t222) ++ (⟨#[32, 35]⟩ : ByteArray)) ++ t223) ++ (⟨#[32]⟩ : ByteArray)) ++ (⟨#[99, 97, 108, 108, 32]⟩ : ByteArray)) ++ t224)) else (none))) else (none)) else (if a0_0 = 2 then ((impl_CodeWord.f a0_8).bind fun t225 => (if 6 + t225.size ≤ 9223372036854775807 then (if (((((t221 ++ (⟨#[32, 116]⟩ : ByteArray)) ++ t222) ++ (⟨#[32, 35]⟩ : ByteArray)) ++ t223) ++ (⟨#[32]⟩ : ByteArray)).size + ((⟨#[112, 111, 105, 110, 116, 32]⟩ : ByteArray) ++ t225).size ≤ 9223372036854775807 then (if a0_9 ≥ 0 then ((impl_Dec.f a0_9).bind fun t226 => (if 4 + t226.size ≤ 9223372036854775807 then (if ((((((t221 ++ (⟨#[32, 116]⟩ : ByteArray)) ++ t222) ++ (⟨#[32, 35]⟩ : ByteArray)) ++ t223) ++ (⟨#[32]⟩ : ByteArray)) ++ ((⟨#[112, 111, 105, 110, 116, 32]⟩ : ByteArray) ++ t225)).size + ((⟨#[32, 105, 110, 32]⟩ : ByteArray) ++ t226).size ≤ 9223372036854775807 then (some (((((((t221 ++ (⟨#[32, 116]⟩ : ByteArray)) ++ t222) ++ (⟨#[32, 35]⟩ : ByteArray)) ++ t223) ++ (⟨#[32]⟩ : ByteArray)) ++ ((⟨#[112, 111, 105, 110, 116, 32]⟩ : ByteArray) ++ t225)) ++ ((⟨#[32, 105, 110, 32]⟩ : ByteArray) ++ t226))) else (none)) else (none))) else (some ((((((t221 ++ (⟨#[32, 116]⟩ : ByteArray)) ++ t222) ++ (⟨#[32, 35]⟩ : ByteArray)) ++ t223) ++ (⟨#[32]⟩ : ByteArray)) ++ ((⟨#[112, 111, 105, 110, 116, 32]⟩ : ByteArray) ++ t225)))) else (none)) else (none))) else (if a0_0 = 3 then (if (((((t221 ++ (⟨#[32, 116]⟩ : ByteArray)) ++ t222) ++ (⟨#[32, 35]⟩ : ByteArray)) ++ t223) ++ (⟨#[32]⟩ : ByteArray)).size + 5 ≤ 9223372036854775807 then ((impl_CodeWord.f a0_8).bind fun t227 => (if ((((((t221 ++ (⟨#[32, 116]⟩ : ByteArray)) ++ t222) ++ (⟨#[32, 35]⟩ : ByteArray)) ++ t223) ++ (⟨#[32]⟩ : ByteArray)) ++ (⟨#[116, 111, 108, 100, 32]⟩ : ByteArray)).size + t227.size ≤ 9223372036854775807 then (if (((((((t221 ++ (⟨#[32, 116]⟩ : ByteArray)) ++ t222) ++ (⟨#[32, 35]⟩ : ByteArray)) ++ t223) ++ (⟨#[32]⟩ : ByteArray)) ++ (⟨#[116, 111, 108, 100, 32]⟩ : ByteArray)) ++ t227).size + 1 ≤ 9223372036854775807 then ((impl_Dec.f (l0_12.length : Int)).bind fun t228 => (if ((((((((t221 ++ (⟨#[32, 116]⟩ : ByteArray)) ++ t222) ++ (⟨#[32, 35]⟩ : ByteArray)) ++ t223) ++ (⟨#[32]⟩ : ByteArray)) ++ (⟨#[116, 111, 108, 100, 32]⟩ : ByteArray)) ++ t227) ++ (⟨#[32]⟩ : ByteArray)).size + t228.size ≤ 9223372036854775807 then (if (((((((((t221 ++ (⟨#[32, 116]⟩ : ByteArray)) ++ t222) ++ (⟨#[32, 35]⟩ : ByteArray)) ++ t223) ++ (⟨#[32]⟩ : ByteArray)) ++ (⟨#[116, 111, 108, 100, 32]⟩ : ByteArray)) ++ t227) ++ (⟨#[32]⟩ : ByteArray)) ++ t228).size + 5 ≤ 9223372036854775807 then (some ((((((((((t221 ++ (⟨#[32, 116]⟩ : ByteArray)) ++ t222) ++ (⟨#[32, 35]⟩ : ByteArray)) ++ t223) ++ (⟨#[32]⟩ : ByteArray)) ++ (⟨#[116, 111, 108, 100, 32]⟩ : ByteArray)) ++ t227) ++ (⟨#[32]⟩ : ByteArray)) ++ t228) ++ (⟨#[32, 114, 111, 119, 115]⟩ : ByteArray))) else (none)) else (none))) else (none)) else (none))) else (none)) else (some (⟨#[]⟩ : ByteArray))))) else (none)) else (none)) = some r := H
    have A7 := Aside0.mk A70
    clear A70
    by_cases c8 : (((t221 ++ (⟨#[32, 116]⟩ : ByteArray)) ++ t222) ++ (⟨#[32, 35]⟩ : ByteArray)).size + t223.size ≤ 9223372036854775807
    ·rw [if_pos c8] at H
     have c8b0 := eq_true c8
     have c8b1 : decide ((((t221 ++ (⟨#[32, 116]⟩ : ByteArray)) ++ t222) ++ (⟨#[32, 35]⟩ : ByteArray)).size + t223.size ≤ 9223372036854775807) = true := decide_eq_true c8
     try have c8b2 : (9223372036854775807 < (((t221 ++ (⟨#[32, 116]⟩ : ByteArray)) ++ t222) ++ (⟨#[32, 35]⟩ : ByteArray)).size + t223.size) = False := eq_false (Nat.not_lt.2 c8)
     try (have c8n := c8; simp only [ByteArray.size_append, show (⟨#[32, 116]⟩ : ByteArray).size = 2 from rfl, show (⟨#[32, 35]⟩ : ByteArray).size = 2 from rfl] at c8n; have c8b3 := eq_false (Nat.not_lt.2 c8n); have c8b4 := eq_true c8n; clear c8n)
     by_cases c9 : ((((t221 ++ (⟨#[32, 116]⟩ : ByteArray)) ++ t222) ++ (⟨#[32, 35]⟩ : ByteArray)) ++ t223).size + 1 ≤ 9223372036854775807
     ·rw [if_pos c9] at H
      have c9b0 := eq_true c9
      have c9b1 : decide (((((t221 ++ (⟨#[32, 116]⟩ : ByteArray)) ++ t222) ++ (⟨#[32, 35]⟩ : ByteArray)) ++ t223).size + 1 ≤ 9223372036854775807) = true := decide_eq_true c9
      try have c9b2 : (9223372036854775807 < ((((t221 ++ (⟨#[32, 116]⟩ : ByteArray)) ++ t222) ++ (⟨#[32, 35]⟩ : ByteArray)) ++ t223).size + 1) = False := eq_false (Nat.not_lt.2 c9)
      try (have c9n := c9; simp only [ByteArray.size_append, show (⟨#[32, 116]⟩ : ByteArray).size = 2 from rfl, show (⟨#[32, 35]⟩ : ByteArray).size = 2 from rfl] at c9n; have c9b3 := eq_false (Nat.not_lt.2 c9n); have c9b4 := eq_true c9n; clear c9n)
      by_cases c10 : a0_0 = 1
      ·rw [if_pos c10] at H
       have c10b0 : (a0_0 == 1) = true := beq_iff_eq.mpr c10
       have c10b1 : (a0_0 != 1) = false := bne_eq_false_iff_eq.mpr c10
       clear c10
       by_cases c11 : (((((t221 ++ (⟨#[32, 116]⟩ : ByteArray)) ++ t222) ++ (⟨#[32, 35]⟩ : ByteArray)) ++ t223) ++ (⟨#[32]⟩ : ByteArray)).size + 5 ≤ 9223372036854775807
       ·rw [if_pos c11] at H
        have c11b0 := eq_true c11
        have c11b1 : decide ((((((t221 ++ (⟨#[32, 116]⟩ : ByteArray)) ++ t222) ++ (⟨#[32, 35]⟩ : ByteArray)) ++ t223) ++ (⟨#[32]⟩ : ByteArray)).size + 5 ≤ 9223372036854775807) = true := decide_eq_true c11
        try have c11b2 : (9223372036854775807 < (((((t221 ++ (⟨#[32, 116]⟩ : ByteArray)) ++ t222) ++ (⟨#[32, 35]⟩ : ByteArray)) ++ t223) ++ (⟨#[32]⟩ : ByteArray)).size + 5) = False := eq_false (Nat.not_lt.2 c11)
        try (have c11n := c11; simp only [ByteArray.size_append, show (⟨#[32, 116]⟩ : ByteArray).size = 2 from rfl, show (⟨#[32, 35]⟩ : ByteArray).size = 2 from rfl, show (⟨#[32]⟩ : ByteArray).size = 1 from rfl] at c11n; have c11b3 := eq_false (Nat.not_lt.2 c11n); have c11b4 := eq_true c11n; clear c11n)
        replace H := Option.bind_eq_some_iff.mp H
        obtain ⟨t224, A120, H⟩ := H
        replace H : (if ((((((t221 ++ (⟨#[32, 116]⟩ : ByteArray)) ++ t222) ++ (⟨#[32, 35]⟩ : ByteArray)) ++ t223) ++ (⟨#[32]⟩ : ByteArray)) ++ (⟨#[99, 97, 108, 108, 32]⟩ : ByteArray)).size + t224.size ≤ 9223372036854775807 then (some (((((((t221 ++ (⟨#[32, 116]⟩ : ByteArray)) ++ t222) ++ (⟨#[32, 35]⟩ : ByteArray)) ++ t223) ++ (⟨#[32]⟩ : ByteArray)) ++ (⟨#[99, 97, 108, 108, 32]⟩ : ByteArray)) ++ t224)) else (none)) = some r := H
        have A12 := Aside0.mk A120
        clear A120
        by_cases c13 : ((((((t221 ++ (⟨#[32, 116]⟩ : ByteArray)) ++ t222) ++ (⟨#[32, 35]⟩ : ByteArray)) ++ t223) ++ (⟨#[32]⟩ : ByteArray)) ++ (⟨#[99, 97, 108, 108, 32]⟩ : ByteArray)).size + t224.size ≤ 9223372036854775807
        ·rw [if_pos c13] at H
         have c13b0 := eq_true c13
         have c13b1 : decide (((((((t221 ++ (⟨#[32, 116]⟩ : ByteArray)) ++ t222) ++ (⟨#[32, 35]⟩ : ByteArray)) ++ t223) ++ (⟨#[32]⟩ : ByteArray)) ++ (⟨#[99, 97, 108, 108, 32]⟩ : ByteArray)).size + t224.size ≤ 9223372036854775807) = true := decide_eq_true c13
         try have c13b2 : (9223372036854775807 < ((((((t221 ++ (⟨#[32, 116]⟩ : ByteArray)) ++ t222) ++ (⟨#[32, 35]⟩ : ByteArray)) ++ t223) ++ (⟨#[32]⟩ : ByteArray)) ++ (⟨#[99, 97, 108, 108, 32]⟩ : ByteArray)).size + t224.size) = False := eq_false (Nat.not_lt.2 c13)
         try (have c13n := c13; simp only [ByteArray.size_append, show (⟨#[32, 116]⟩ : ByteArray).size = 2 from rfl, show (⟨#[32, 35]⟩ : ByteArray).size = 2 from rfl, show (⟨#[32]⟩ : ByteArray).size = 1 from rfl, show (⟨#[99, 97, 108, 108, 32]⟩ : ByteArray).size = 5 from rfl] at c13n; have c13b3 := eq_false (Nat.not_lt.2 c13n); have c13b4 := eq_true c13n; clear c13n)
         obtain rfl := Option.some.inj H
         go_enter Tryd.func24, Tryd.ntmps24
         try go_wp2_with (first | ((with_reducible refine gate_dst (N := 1) rfl ?_); refine box_event ?hg (N := 1) ?hd (cs := #[.int .i64 a0_0, .int .i64 a0_1, .int .i64 a0_2, .int .i64 a0_3, .int .i64 a0_4, .string a0_5, .int .i64 a0_6, .int .i64 a0_7, .int .i64 a0_8, .int .i64 a0_9, .int .i64 a0_10, .int .i64 a0_11, .slice A0_12 l0_12.length c0_12]) (t := 52) ?hr ?_; (case hd => rfl); (case hg => rfl); (case hr => first | (go_simp; done) | (go_simp; rfl)); intro gb220 hg w14 hbox hb; have n0_ := Aside0.mk (below_step (by repeat (first | (with_reducible first | exact HB.out | apply below_alloc | apply pw_below_drewN | apply below_drew1) | exact HB.out)) hb); have n1_ := Aside0.mk (hbox); have n2_ := Aside0.mk ((by rw [hg]; exact (below_size (by repeat (first | (with_reducible first | exact HB.out | apply below_alloc | apply pw_below_drewN | apply below_drew1) | exact HB.out))) : w.heap.size ≤ gb220)); have n3_ := Aside0.mk ((by rw [hg]; exact (below_size (by repeat (first | (with_reducible first | exact HB.out | apply below_alloc | apply pw_below_drewN | apply below_drew1) | exact HB.out))) : w.heap.size ≤ gb220)); clear HB; have HB := n0_; have BK220 := n1_; have GW220 := n2_; have GE220 := n3_; clear n0_ n1_ n2_ n3_; clear hb hbox hg))
         have n0_ := Aside0.mk (blk_drew BK220.out)
         have n1_ := Aside0.mk (below_drew1 HB.out)
         clear BK220
         clear HB
         have BK220 := n0_
         have HB := n1_
         clear n0_ n1_
         refine start_ (n := 15) (S := fun w' => w'.cell? ⟨gb220, 0, none⟩ = some (.int .i64 a0_0) ∧ w'.cell? ⟨gb220, 1, none⟩ = some (.int .i64 a0_1) ∧ w'.cell? ⟨gb220, 2, none⟩ = some (.int .i64 a0_2) ∧ w'.cell? ⟨gb220, 3, none⟩ = some (.int .i64 a0_3) ∧ w'.cell? ⟨gb220, 4, none⟩ = some (.int .i64 a0_4) ∧ w'.cell? ⟨gb220, 5, none⟩ = some (.string a0_5) ∧ w'.cell? ⟨gb220, 6, none⟩ = some (.int .i64 a0_6) ∧ w'.cell? ⟨gb220, 7, none⟩ = some (.int .i64 a0_7) ∧ w'.cell? ⟨gb220, 8, none⟩ = some (.int .i64 a0_8) ∧ w'.cell? ⟨gb220, 9, none⟩ = some (.int .i64 a0_9) ∧ w'.cell? ⟨gb220, 10, none⟩ = some (.int .i64 a0_10) ∧ w'.cell? ⟨gb220, 11, none⟩ = some (.int .i64 a0_11) ∧ w'.cell? ⟨gb220, 12, none⟩ = some (.slice A0_12 l0_12.length c0_12)) (ds := []) #[false, false, false, false, false, false, false, false, false, false, false, false, false, false, false] (by kernel_rfl) rfl rfl ⟨(blk_cell BK220.out 0).trans rfl, (blk_cell BK220.out 1).trans rfl, (blk_cell BK220.out 2).trans rfl, (blk_cell BK220.out 3).trans rfl, (blk_cell BK220.out 4).trans rfl, (blk_cell BK220.out 5).trans rfl, (blk_cell BK220.out 6).trans rfl, (blk_cell BK220.out 7).trans rfl, (blk_cell BK220.out 8).trans rfl, (blk_cell BK220.out 9).trans rfl, (blk_cell BK220.out 10).trans rfl, (blk_cell BK220.out 11).trans rfl, (blk_cell BK220.out 12).trans rfl⟩ (fun hHeld => ?_); refine with_tabW impl_ShowEv.tab1 impl_ShowEv.bits1 (fun HT_ HW_ => ?_)
         generalize w14.drew = w15 at BK220 HB hHeld ⊢
         refine pure_ (i := 0) (N := some 4) (v := ?_) (a' := ?_) #[true, false, false, false, false, false, false, false, false, false, false, false, false, false, false] rfl rfl (any_of HT_.out (by kernel_rfl)) (fun _ _ _ h => h) (Or.inl ⟨by rfl, ?_⟩) ?_ ?_
         rotate_left
         ·intro w'
          go_simp
          with_reducible rfl
         rotate_left
         ·simp only [Act.put, List.setIfInBounds_toArray, List.set_cons_zero, List.set_cons_succ, i64_w, i32_w]
          rfl
         refine pure_ (i := 4) (N := some 8) (v := ?_) (a' := ?_) #[true, false, false, false, true, false, false, false, false, false, false, false, false, false, false] rfl rfl (any_of HT_.out (by kernel_rfl)) (fun _ _ _ h => h) (Or.inl ⟨by rfl, ?_⟩) ?_ ?_
         rotate_left
         ·intro w'
          go_simp
          with_reducible rfl
         rotate_left
         ·simp only [Act.put, List.setIfInBounds_toArray, List.set_cons_zero, List.set_cons_succ, i64_w, i32_w]
          rfl
         refine pure_ (i := 9) (N := some 13) (v := ?_) (a' := ?_) #[true, false, false, false, true, false, false, false, false, true, false, false, false, false, false] rfl rfl (any_of HT_.out (by kernel_rfl)) (fun _ _ _ h => h) (Or.inl ⟨by rfl, ?_⟩) ?_ ?_
         rotate_left
         ·intro w'
          go_simp
          with_reducible rfl
         rotate_left
         ·simp only [Act.put, List.setIfInBounds_toArray, List.set_cons_zero, List.set_cons_succ, i64_w, i32_w]
          rfl
         refine take_ (i := 1) (N := some 5) (v := ?_) (a' := ?_) #[true, true, false, false, true, false, false, false, false, true, false, false, false, false, false] rfl rfl (take_ofW HT_.out HW_.out (by kernel_rfl)) (fun _ _ _ h => h) (Or.inl ⟨by rfl, ?_⟩) hHeld ?_ ?_
         rotate_left
         ·rintro w' ⟨s0, s1, s2, s3, s4, s5, s6, s7, s8, s9, s10, s11, s12⟩
          go_simp
          with_reducible rfl
         rotate_left
         ·simp only [Act.put, List.setIfInBounds_toArray, List.set_cons_zero, List.set_cons_succ, i64_w, i32_w]
          rfl
         refine take_ (i := 5) (N := some 9) (v := ?_) (a' := ?_) #[true, true, false, false, true, true, false, false, false, true, false, false, false, false, false] rfl rfl (take_ofW HT_.out HW_.out (by kernel_rfl)) (fun _ _ _ h => h) (Or.inl ⟨by rfl, ?_⟩) hHeld ?_ ?_
         rotate_left
         ·rintro w' ⟨s0, s1, s2, s3, s4, s5, s6, s7, s8, s9, s10, s11, s12⟩
          go_simp
          with_reducible rfl
         rotate_left
         ·simp only [Act.put, List.setIfInBounds_toArray, List.set_cons_zero, List.set_cons_succ, i64_w, i32_w]
          rfl
         refine take_ (i := 10) (N := some 14) (v := ?_) (a' := ?_) #[true, true, false, false, true, true, false, false, false, true, true, false, false, false, false] rfl rfl (take_ofW HT_.out HW_.out (by kernel_rfl)) (fun _ _ _ h => h) (Or.inl ⟨by rfl, ?_⟩) hHeld ?_ ?_
         rotate_left
         ·rintro w' ⟨s0, s1, s2, s3, s4, s5, s6, s7, s8, s9, s10, s11, s12⟩
          go_simp
          with_reducible rfl
         rotate_left
         ·simp only [Act.put, List.setIfInBounds_toArray, List.set_cons_zero, List.set_cons_succ, i64_w, i32_w]
          rfl
         refine one_ (i := 2) (N := some 6) #[true, true, true, false, true, true, false, false, false, true, true, false, false, false, false] rfl rfl (one_of HT_.out (by kernel_rfl)) (by decide) (fun K hK => ?_)
         refine goes_ Tryd.func47 (by kernel_rfl) rfl #[.int .i64 a0_3] (by rfl) rfl rfl (by (try simp only [List.map_toArray, List.map_cons, List.map_nil]); first | done | rfl | (simp only [List.length_drop, List.length_take]; rfl)) ?_
         with_reducible refine (impl_Dec.calls a0_3 t221 _ A2.out (HT.out _ (by repeat (first | (with_reducible first | exact HB.out | apply below_alloc | apply pw_below_drewN | apply below_drew1 | refine below_set ?_ GE220.out) | exact HB.out)))).mono ?_
         rintro e w16 ⟨rfl, hb⟩
         refine ⟨_, rfl, ?_⟩
         have n0_ := Aside0.mk (blk_below (g := gb220) (o := .cells #[.int .i64 a0_0, .int .i64 a0_1, .int .i64 a0_2, .int .i64 a0_3, .int .i64 a0_4, .string a0_5, .int .i64 a0_6, .int .i64 a0_7, .int .i64 a0_8, .int .i64 a0_9, .int .i64 a0_10, .int .i64 a0_11, .slice A0_12 l0_12.length c0_12] 52 (0, 0)) (by (with_reducible repeat (first | refine blk_drewN ?_ _ | refine blk_drew ?_ | refine blk_alloc ?_ _)); exact BK220.out) hb)
         have n1_ := Aside0.mk (below_step (by repeat (first | (with_reducible first | exact HB.out | apply below_alloc | apply pw_below_drewN | apply below_drew1 | refine below_set ?_ GE220.out) | exact HB.out)) hb)
         clear BK220
         clear HB
         have BK220 := n0_
         have HB := n1_
         clear n0_ n1_
         (try clear hb)
         (try clear hb2)
         (try clear hk)
         (try clear hi)
         refine hK.out _ _ ⟨(blk_cell BK220.out 0).trans rfl, (blk_cell BK220.out 1).trans rfl, (blk_cell BK220.out 2).trans rfl, (blk_cell BK220.out 3).trans rfl, (blk_cell BK220.out 4).trans rfl, (blk_cell BK220.out 5).trans rfl, (blk_cell BK220.out 6).trans rfl, (blk_cell BK220.out 7).trans rfl, (blk_cell BK220.out 8).trans rfl, (blk_cell BK220.out 9).trans rfl, (blk_cell BK220.out 10).trans rfl, (blk_cell BK220.out 11).trans rfl, (blk_cell BK220.out 12).trans rfl⟩ (fun hHeld => ?_)
         clear hK K
         refine norm_ (a' := ?_) ?_ ?_
         rotate_left
         ·show Act.put _ (some 6) _ = _
          simp only [Act.put, List.setIfInBounds_toArray, List.set_cons_zero, List.set_cons_succ, i64_w, i32_w]
          rfl
         refine pure_ (i := 3) (N := some 7) (v := ?_) (a' := ?_) #[true, true, true, true, true, true, false, false, false, true, true, false, false, false, false] rfl rfl (any_of HT_.out (by kernel_rfl)) (fun _ _ _ h => h) (Or.inl ⟨by rfl, ?_⟩) ?_ ?_
         rotate_left
         ·intro w'
          go_simp
          with_reducible rfl
         rotate_left
         ·simp only [Act.put, List.setIfInBounds_toArray, List.set_cons_zero, List.set_cons_succ, i64_w, i32_w]
          rfl
         refine one_ (i := 6) (N := some 10) #[true, true, true, true, true, true, true, false, false, true, true, false, false, false, false] rfl rfl (one_of HT_.out (by kernel_rfl)) (by decide) (fun K hK => ?_)
         refine goes_ Tryd.func47 (by kernel_rfl) rfl #[.int .i64 a0_1] (by rfl) rfl rfl (by (try simp only [List.map_toArray, List.map_cons, List.map_nil]); first | done | rfl | (simp only [List.length_drop, List.length_take]; rfl)) ?_
         with_reducible refine (impl_Dec.calls a0_1 t222 _ A4.out (HT.out _ (by repeat (first | (with_reducible first | exact HB.out | apply below_alloc | apply pw_below_drewN | apply below_drew1 | refine below_set ?_ GE220.out) | exact HB.out)))).mono ?_
         rintro e w17 ⟨rfl, hb⟩
         refine ⟨_, rfl, ?_⟩
         have n0_ := Aside0.mk (blk_below (g := gb220) (o := .cells #[.int .i64 a0_0, .int .i64 a0_1, .int .i64 a0_2, .int .i64 a0_3, .int .i64 a0_4, .string a0_5, .int .i64 a0_6, .int .i64 a0_7, .int .i64 a0_8, .int .i64 a0_9, .int .i64 a0_10, .int .i64 a0_11, .slice A0_12 l0_12.length c0_12] 52 (0, 0)) (by (with_reducible repeat (first | refine blk_drewN ?_ _ | refine blk_drew ?_ | refine blk_alloc ?_ _)); exact BK220.out) hb)
         have n1_ := Aside0.mk (below_step (by repeat (first | (with_reducible first | exact HB.out | apply below_alloc | apply pw_below_drewN | apply below_drew1 | refine below_set ?_ GE220.out) | exact HB.out)) hb)
         clear BK220
         clear HB
         have BK220 := n0_
         have HB := n1_
         clear n0_ n1_
         (try clear hb)
         (try clear hb2)
         (try clear hk)
         (try clear hi)
         refine hK.out _ _ ⟨(blk_cell BK220.out 0).trans rfl, (blk_cell BK220.out 1).trans rfl, (blk_cell BK220.out 2).trans rfl, (blk_cell BK220.out 3).trans rfl, (blk_cell BK220.out 4).trans rfl, (blk_cell BK220.out 5).trans rfl, (blk_cell BK220.out 6).trans rfl, (blk_cell BK220.out 7).trans rfl, (blk_cell BK220.out 8).trans rfl, (blk_cell BK220.out 9).trans rfl, (blk_cell BK220.out 10).trans rfl, (blk_cell BK220.out 11).trans rfl, (blk_cell BK220.out 12).trans rfl⟩ (fun hHeld => ?_)
         clear hK K
         refine norm_ (a' := ?_) ?_ ?_
         rotate_left
         ·show Act.put _ (some 10) _ = _
          simp only [Act.put, List.setIfInBounds_toArray, List.set_cons_zero, List.set_cons_succ, i64_w, i32_w]
          rfl
         refine pure_ (i := 7) (N := some 11) (v := ?_) (a' := ?_) #[true, true, true, true, true, true, true, true, false, true, true, false, false, false, false] rfl rfl (any_of HT_.out (by kernel_rfl)) (fun _ _ _ h => h) (Or.inl ⟨by rfl, ?_⟩) ?_ ?_
         rotate_left
         ·intro w'
          go_simp
          with_reducible rfl
         rotate_left
         ·simp only [Act.put, List.setIfInBounds_toArray, List.set_cons_zero, List.set_cons_succ, i64_w, i32_w]
          rfl
         refine pure_ (i := 8) (N := some 12) (v := ?_) (a' := ?_) #[true, true, true, true, true, true, true, true, true, true, true, false, false, false, false] rfl rfl (any_of HT_.out (by kernel_rfl)) (fun _ _ _ h => h) (Or.inl ⟨by rfl, ?_⟩) ?_ ?_
         rotate_left
         ·intro w'
          go_simp
          with_reducible rfl
         rotate_left
         ·simp only [Act.put, List.setIfInBounds_toArray, List.set_cons_zero, List.set_cons_succ, i64_w, i32_w]
          rfl
         refine one_ (i := 11) (N := some 15) #[true, true, true, true, true, true, true, true, true, true, true, true, false, false, false] rfl rfl (one_of HT_.out (by kernel_rfl)) (by decide) (fun K hK => ?_)
         refine goes_ Tryd.func47 (by kernel_rfl) rfl #[.int .i64 a0_2] (by rfl) rfl rfl (by (try simp only [List.map_toArray, List.map_cons, List.map_nil]); first | done | rfl | (simp only [List.length_drop, List.length_take]; rfl)) ?_
         with_reducible refine (impl_Dec.calls a0_2 t223 _ A7.out (HT.out _ (by repeat (first | (with_reducible first | exact HB.out | apply below_alloc | apply pw_below_drewN | apply below_drew1 | refine below_set ?_ GE220.out) | exact HB.out)))).mono ?_
         rintro e w18 ⟨rfl, hb⟩
         refine ⟨_, rfl, ?_⟩
         have n0_ := Aside0.mk (blk_below (g := gb220) (o := .cells #[.int .i64 a0_0, .int .i64 a0_1, .int .i64 a0_2, .int .i64 a0_3, .int .i64 a0_4, .string a0_5, .int .i64 a0_6, .int .i64 a0_7, .int .i64 a0_8, .int .i64 a0_9, .int .i64 a0_10, .int .i64 a0_11, .slice A0_12 l0_12.length c0_12] 52 (0, 0)) (by (with_reducible repeat (first | refine blk_drewN ?_ _ | refine blk_drew ?_ | refine blk_alloc ?_ _)); exact BK220.out) hb)
         have n1_ := Aside0.mk (below_step (by repeat (first | (with_reducible first | exact HB.out | apply below_alloc | apply pw_below_drewN | apply below_drew1 | refine below_set ?_ GE220.out) | exact HB.out)) hb)
         clear BK220
         clear HB
         have BK220 := n0_
         have HB := n1_
         clear n0_ n1_
         (try clear hb)
         (try clear hb2)
         (try clear hk)
         (try clear hi)
         refine hK.out _ _ ⟨(blk_cell BK220.out 0).trans rfl, (blk_cell BK220.out 1).trans rfl, (blk_cell BK220.out 2).trans rfl, (blk_cell BK220.out 3).trans rfl, (blk_cell BK220.out 4).trans rfl, (blk_cell BK220.out 5).trans rfl, (blk_cell BK220.out 6).trans rfl, (blk_cell BK220.out 7).trans rfl, (blk_cell BK220.out 8).trans rfl, (blk_cell BK220.out 9).trans rfl, (blk_cell BK220.out 10).trans rfl, (blk_cell BK220.out 11).trans rfl, (blk_cell BK220.out 12).trans rfl⟩ (fun hHeld => ?_)
         clear hK K
         refine norm_ (a' := ?_) ?_ ?_
         rotate_left
         ·show Act.put _ (some 15) _ = _
          simp only [Act.put, List.setIfInBounds_toArray, List.set_cons_zero, List.set_cons_succ, i64_w, i32_w]
          rfl
         refine pure_ (i := 12) (N := some 16) (v := ?_) (a' := ?_) #[true, true, true, true, true, true, true, true, true, true, true, true, true, false, false] rfl rfl (any_of HT_.out (by kernel_rfl)) (fun _ _ _ h => h) (Or.inl ⟨by rfl, ?_⟩) ?_ ?_
         rotate_left
         ·intro w'
          go_simp
          with_reducible rfl
         rotate_left
         ·simp only [Act.put, List.setIfInBounds_toArray, List.set_cons_zero, List.set_cons_succ, i64_w, i32_w]
          rfl
         refine pure_ (i := 13) (N := some 17) (v := ?_) (a' := ?_) #[true, true, true, true, true, true, true, true, true, true, true, true, true, true, false] rfl rfl (any_of HT_.out (by kernel_rfl)) (fun _ _ _ h => h) (Or.inl ⟨by rfl, ?_⟩) ?_ ?_
         rotate_left
         ·intro w'
          go_simp
          with_reducible rfl
         rotate_left
         ·simp only [Act.put, List.setIfInBounds_toArray, List.set_cons_zero, List.set_cons_succ, i64_w, i32_w]
          rfl
         refine pure_ (i := 14) (N := some 3) (v := ?_) (a' := ?_) #[true, true, true, true, true, true, true, true, true, true, true, true, true, true, true] rfl rfl (any_of HT_.out (by kernel_rfl)) (fun _ _ _ h => h) (Or.inl ⟨by rfl, ?_⟩) ?_ ?_
         rotate_left
         ·intro w'
          go_simp
          with_reducible rfl
         rotate_left
         ·simp only [Act.put, List.setIfInBounds_toArray, List.set_cons_zero, List.set_cons_succ, i64_w, i32_w]
          rfl
         refine done_ (done_of HT_.out (by kernel_rfl)) ?_
         have hcz19_0 : w18.cell? ⟨gb220, 0, none⟩ = some (.int .i64 a0_0) := (blk_cell BK220.out 0).trans rfl
         have hcz19_1 : w18.cell? ⟨gb220, 1, none⟩ = some (.int .i64 a0_1) := (blk_cell BK220.out 1).trans rfl
         have hcz19_2 : w18.cell? ⟨gb220, 2, none⟩ = some (.int .i64 a0_2) := (blk_cell BK220.out 2).trans rfl
         have hcz19_3 : w18.cell? ⟨gb220, 3, none⟩ = some (.int .i64 a0_3) := (blk_cell BK220.out 3).trans rfl
         have hcz19_4 : w18.cell? ⟨gb220, 4, none⟩ = some (.int .i64 a0_4) := (blk_cell BK220.out 4).trans rfl
         have hcz19_5 : w18.cell? ⟨gb220, 5, none⟩ = some (.string a0_5) := (blk_cell BK220.out 5).trans rfl
         have hcz19_6 : w18.cell? ⟨gb220, 6, none⟩ = some (.int .i64 a0_6) := (blk_cell BK220.out 6).trans rfl
         have hcz19_7 : w18.cell? ⟨gb220, 7, none⟩ = some (.int .i64 a0_7) := (blk_cell BK220.out 7).trans rfl
         have hcz19_8 : w18.cell? ⟨gb220, 8, none⟩ = some (.int .i64 a0_8) := (blk_cell BK220.out 8).trans rfl
         have hcz19_9 : w18.cell? ⟨gb220, 9, none⟩ = some (.int .i64 a0_9) := (blk_cell BK220.out 9).trans rfl
         have hcz19_10 : w18.cell? ⟨gb220, 10, none⟩ = some (.int .i64 a0_10) := (blk_cell BK220.out 10).trans rfl
         have hcz19_11 : w18.cell? ⟨gb220, 11, none⟩ = some (.int .i64 a0_11) := (blk_cell BK220.out 11).trans rfl
         have hcz19_12 : w18.cell? ⟨gb220, 12, none⟩ = some (.slice A0_12 l0_12.length c0_12) := (blk_cell BK220.out 12).trans rfl
         have hfz19_0 := blk_frozen BK220.out 0
         have hfz19_1 := blk_frozen BK220.out 1
         have hfz19_2 := blk_frozen BK220.out 2
         have hfz19_3 := blk_frozen BK220.out 3
         have hfz19_4 := blk_frozen BK220.out 4
         have hfz19_5 := blk_frozen BK220.out 5
         have hfz19_6 := blk_frozen BK220.out 6
         have hfz19_7 := blk_frozen BK220.out 7
         have hfz19_8 := blk_frozen BK220.out 8
         have hfz19_9 := blk_frozen BK220.out 9
         have hfz19_10 := blk_frozen BK220.out 10
         have hfz19_11 := blk_frozen BK220.out 11
         have hfz19_12 := blk_frozen BK220.out 12
         try go_wp2_with (first | ((with_reducible refine gate_callee (f := 35) rfl ?_); refine goesL_ (some 26) rfl rfl Tryd.func35 (by kernel_rfl) rfl #[.agg #[.int .i64 a0_4, .string a0_5, .int .i64 a0_6, .int .i64 a0_7]] rfl (by (try simp only [List.map_toArray, List.map_cons, List.map_nil]); first | done | rfl | (simp only [List.length_drop, List.length_take]; rfl)) ?_; (with_reducible refine (impl_ShowOp.calls k a0_4 a0_5 a0_6 a0_7 t224 _ A12.out (HT.out _ (by repeat (first | (with_reducible first | exact HB.out | apply below_alloc | apply pw_below_drewN | apply below_drew1 | refine below_set ?_ GE220.out) | exact HB.out)))).mono ?_); rintro e w20 ⟨rfl, hb⟩; refine ⟨_, rfl, ?_⟩; have n0_ := Aside0.mk (blk_below (g := gb220) (o := .cells #[.int .i64 a0_0, .int .i64 a0_1, .int .i64 a0_2, .int .i64 a0_3, .int .i64 a0_4, .string a0_5, .int .i64 a0_6, .int .i64 a0_7, .int .i64 a0_8, .int .i64 a0_9, .int .i64 a0_10, .int .i64 a0_11, .slice A0_12 l0_12.length c0_12] 52 (0, 0)) (by (with_reducible repeat (first | refine blk_drewN ?_ _ | refine blk_drew ?_ | refine blk_alloc ?_ _)); exact BK220.out) hb); have n1_ := Aside0.mk (below_step (by repeat (first | (with_reducible first | exact HB.out | apply below_alloc | apply pw_below_drewN | apply below_drew1 | refine below_set ?_ GE220.out) | exact HB.out)) hb); clear BK220; clear HB; have BK220 := n0_; have HB := n1_; clear n0_ n1_; (try clear hb); (try clear hb2); (try clear hk); (try clear hi)))
         go_ret
         exact ⟨by first | rfl | (simp [errW_none, errW_some] <;> rfl) | (simp [*, errW_none, errW_some] <;> rfl), by repeat (first | (with_reducible first | exact HB.out | apply below_alloc | apply pw_below_drewN | apply below_drew1 | refine below_set ?_ GE220.out) | exact HB.out)⟩
        ·rw [if_neg c13] at H
         exact absurd H (by simp)
       ·rw [if_neg c11] at H
        exact absurd H (by simp)
      ·rw [if_neg c10] at H
       have c10b0 : (a0_0 == 1) = false := beq_eq_false_iff_ne.mpr c10
       have c10b1 : (a0_0 != 1) = true := bne_iff_ne.mpr c10
       by_cases c21 : a0_0 = 2
       ·rw [if_pos c21] at H
        have c21b0 : (a0_0 == 2) = true := beq_iff_eq.mpr c21
        have c21b1 : (a0_0 != 2) = false := bne_eq_false_iff_eq.mpr c21
        clear c21
        replace H := Option.bind_eq_some_iff.mp H
        obtain ⟨t225, A220, H⟩ := H
        replace H : (if 6 + t225.size ≤ 9223372036854775807 then (if (((((t221 ++ (⟨#[32, 116]⟩ : ByteArray)) ++ t222) ++ (⟨#[32, 35]⟩ : ByteArray)) ++ t223) ++ (⟨#[32]⟩ : ByteArray)).size + ((⟨#[112, 111, 105, 110, 116, 32]⟩ : ByteArray) ++ t225).size ≤ 9223372036854775807 then (if a0_9 ≥ 0 then ((impl_Dec.f a0_9).bind fun t226 => (if 4 + t226.size ≤ 9223372036854775807 then (if ((((((t221 ++ (⟨#[32, 116]⟩ : ByteArray)) ++ t222) ++ (⟨#[32, 35]⟩ : ByteArray)) ++ t223) ++ (⟨#[32]⟩ : ByteArray)) ++ ((⟨#[112, 111, 105, 110, 116, 32]⟩ : ByteArray) ++ t225)).size + ((⟨#[32, 105, 110, 32]⟩ : ByteArray) ++ t226).size ≤ 9223372036854775807 then (some (((((((t221 ++ (⟨#[32, 116]⟩ : ByteArray)) ++ t222) ++ (⟨#[32, 35]⟩ : ByteArray)) ++ t223) ++ (⟨#[32]⟩ : ByteArray)) ++ ((⟨#[112, 111, 105, 110, 116, 32]⟩ : ByteArray) ++ t225)) ++ ((⟨#[32, 105, 110, 32]⟩ : ByteArray) ++ t226))) else (none)) else (none))) else (some ((((((t221 ++ (⟨#[32, 116]⟩ : ByteArray)) ++ t222) ++ (⟨#[32, 35]⟩ : ByteArray)) ++ t223) ++ (⟨#[32]⟩ : ByteArray)) ++ ((⟨#[112, 111, 105, 110, 116, 32]⟩ : ByteArray) ++ t225)))) else (none)) else (none)) = some r := H
        have A22 := Aside0.mk A220
        clear A220
        by_cases c23 : 6 + t225.size ≤ 9223372036854775807
        ·rw [if_pos c23] at H
         have c23b0 := eq_true c23
         have c23b1 : decide (6 + t225.size ≤ 9223372036854775807) = true := decide_eq_true c23
         try have c23b2 : (9223372036854775807 < 6 + t225.size) = False := eq_false (Nat.not_lt.2 c23)
         by_cases c24 : (((((t221 ++ (⟨#[32, 116]⟩ : ByteArray)) ++ t222) ++ (⟨#[32, 35]⟩ : ByteArray)) ++ t223) ++ (⟨#[32]⟩ : ByteArray)).size + ((⟨#[112, 111, 105, 110, 116, 32]⟩ : ByteArray) ++ t225).size ≤ 9223372036854775807
         ·rw [if_pos c24] at H
          have c24b0 := eq_true c24
          have c24b1 : decide ((((((t221 ++ (⟨#[32, 116]⟩ : ByteArray)) ++ t222) ++ (⟨#[32, 35]⟩ : ByteArray)) ++ t223) ++ (⟨#[32]⟩ : ByteArray)).size + ((⟨#[112, 111, 105, 110, 116, 32]⟩ : ByteArray) ++ t225).size ≤ 9223372036854775807) = true := decide_eq_true c24
          try have c24b2 : (9223372036854775807 < (((((t221 ++ (⟨#[32, 116]⟩ : ByteArray)) ++ t222) ++ (⟨#[32, 35]⟩ : ByteArray)) ++ t223) ++ (⟨#[32]⟩ : ByteArray)).size + ((⟨#[112, 111, 105, 110, 116, 32]⟩ : ByteArray) ++ t225).size) = False := eq_false (Nat.not_lt.2 c24)
          try (have c24n := c24; simp only [ByteArray.size_append, show (⟨#[112, 111, 105, 110, 116, 32]⟩ : ByteArray).size = 6 from rfl, show (⟨#[32, 116]⟩ : ByteArray).size = 2 from rfl, show (⟨#[32, 35]⟩ : ByteArray).size = 2 from rfl, show (⟨#[32]⟩ : ByteArray).size = 1 from rfl] at c24n; have c24b3 := eq_false (Nat.not_lt.2 c24n); have c24b4 := eq_true c24n; clear c24n)
          by_cases c25 : a0_9 ≥ 0
          ·rw [if_pos c25] at H
           have c25b0 : decide (0 ≤ a0_9) = true := decide_eq_true c25
           clear c25
           replace H := Option.bind_eq_some_iff.mp H
           obtain ⟨t226, A260, H⟩ := H
           replace H : (if 4 + t226.size ≤ 9223372036854775807 then (if ((((((t221 ++ (⟨#[32, 116]⟩ : ByteArray)) ++ t222) ++ (⟨#[32, 35]⟩ : ByteArray)) ++ t223) ++ (⟨#[32]⟩ : ByteArray)) ++ ((⟨#[112, 111, 105, 110, 116, 32]⟩ : ByteArray) ++ t225)).size + ((⟨#[32, 105, 110, 32]⟩ : ByteArray) ++ t226).size ≤ 9223372036854775807 then (some (((((((t221 ++ (⟨#[32, 116]⟩ : ByteArray)) ++ t222) ++ (⟨#[32, 35]⟩ : ByteArray)) ++ t223) ++ (⟨#[32]⟩ : ByteArray)) ++ ((⟨#[112, 111, 105, 110, 116, 32]⟩ : ByteArray) ++ t225)) ++ ((⟨#[32, 105, 110, 32]⟩ : ByteArray) ++ t226))) else (none)) else (none)) = some r := H
           have A26 := Aside0.mk A260
           clear A260
           by_cases c27 : 4 + t226.size ≤ 9223372036854775807
           ·rw [if_pos c27] at H
            have c27b0 := eq_true c27
            have c27b1 : decide (4 + t226.size ≤ 9223372036854775807) = true := decide_eq_true c27
            try have c27b2 : (9223372036854775807 < 4 + t226.size) = False := eq_false (Nat.not_lt.2 c27)
            by_cases c28 : ((((((t221 ++ (⟨#[32, 116]⟩ : ByteArray)) ++ t222) ++ (⟨#[32, 35]⟩ : ByteArray)) ++ t223) ++ (⟨#[32]⟩ : ByteArray)) ++ ((⟨#[112, 111, 105, 110, 116, 32]⟩ : ByteArray) ++ t225)).size + ((⟨#[32, 105, 110, 32]⟩ : ByteArray) ++ t226).size ≤ 9223372036854775807
            ·rw [if_pos c28] at H
             have c28b0 := eq_true c28
             have c28b1 : decide (((((((t221 ++ (⟨#[32, 116]⟩ : ByteArray)) ++ t222) ++ (⟨#[32, 35]⟩ : ByteArray)) ++ t223) ++ (⟨#[32]⟩ : ByteArray)) ++ ((⟨#[112, 111, 105, 110, 116, 32]⟩ : ByteArray) ++ t225)).size + ((⟨#[32, 105, 110, 32]⟩ : ByteArray) ++ t226).size ≤ 9223372036854775807) = true := decide_eq_true c28
             try have c28b2 : (9223372036854775807 < ((((((t221 ++ (⟨#[32, 116]⟩ : ByteArray)) ++ t222) ++ (⟨#[32, 35]⟩ : ByteArray)) ++ t223) ++ (⟨#[32]⟩ : ByteArray)) ++ ((⟨#[112, 111, 105, 110, 116, 32]⟩ : ByteArray) ++ t225)).size + ((⟨#[32, 105, 110, 32]⟩ : ByteArray) ++ t226).size) = False := eq_false (Nat.not_lt.2 c28)
             try (have c28n := c28; simp only [ByteArray.size_append, show (⟨#[112, 111, 105, 110, 116, 32]⟩ : ByteArray).size = 6 from rfl, show (⟨#[32, 105, 110, 32]⟩ : ByteArray).size = 4 from rfl, show (⟨#[32, 116]⟩ : ByteArray).size = 2 from rfl, show (⟨#[32, 35]⟩ : ByteArray).size = 2 from rfl, show (⟨#[32]⟩ : ByteArray).size = 1 from rfl] at c28n; have c28b3 := eq_false (Nat.not_lt.2 c28n); have c28b4 := eq_true c28n; clear c28n)
             obtain rfl := Option.some.inj H
             go_enter Tryd.func24, Tryd.ntmps24
             try go_wp2_with (first | ((with_reducible refine gate_dst (N := 1) rfl ?_); refine box_event ?hg (N := 1) ?hd (cs := #[.int .i64 a0_0, .int .i64 a0_1, .int .i64 a0_2, .int .i64 a0_3, .int .i64 a0_4, .string a0_5, .int .i64 a0_6, .int .i64 a0_7, .int .i64 a0_8, .int .i64 a0_9, .int .i64 a0_10, .int .i64 a0_11, .slice A0_12 l0_12.length c0_12]) (t := 52) ?hr ?_; (case hd => rfl); (case hg => rfl); (case hr => first | (go_simp; done) | (go_simp; rfl)); intro gb220 hg w29 hbox hb; have n0_ := Aside0.mk (below_step (by repeat (first | (with_reducible first | exact HB.out | apply below_alloc | apply pw_below_drewN | apply below_drew1) | exact HB.out)) hb); have n1_ := Aside0.mk (hbox); have n2_ := Aside0.mk ((by rw [hg]; exact (below_size (by repeat (first | (with_reducible first | exact HB.out | apply below_alloc | apply pw_below_drewN | apply below_drew1) | exact HB.out))) : w.heap.size ≤ gb220)); have n3_ := Aside0.mk ((by rw [hg]; exact (below_size (by repeat (first | (with_reducible first | exact HB.out | apply below_alloc | apply pw_below_drewN | apply below_drew1) | exact HB.out))) : w.heap.size ≤ gb220)); clear HB; have HB := n0_; have BK220 := n1_; have GW220 := n2_; have GE220 := n3_; clear n0_ n1_ n2_ n3_; clear hb hbox hg))
             have n0_ := Aside0.mk (blk_drew BK220.out)
             have n1_ := Aside0.mk (below_drew1 HB.out)
             clear BK220
             clear HB
             have BK220 := n0_
             have HB := n1_
             clear n0_ n1_
             refine start_ (n := 15) (S := fun w' => w'.cell? ⟨gb220, 0, none⟩ = some (.int .i64 a0_0) ∧ w'.cell? ⟨gb220, 1, none⟩ = some (.int .i64 a0_1) ∧ w'.cell? ⟨gb220, 2, none⟩ = some (.int .i64 a0_2) ∧ w'.cell? ⟨gb220, 3, none⟩ = some (.int .i64 a0_3) ∧ w'.cell? ⟨gb220, 4, none⟩ = some (.int .i64 a0_4) ∧ w'.cell? ⟨gb220, 5, none⟩ = some (.string a0_5) ∧ w'.cell? ⟨gb220, 6, none⟩ = some (.int .i64 a0_6) ∧ w'.cell? ⟨gb220, 7, none⟩ = some (.int .i64 a0_7) ∧ w'.cell? ⟨gb220, 8, none⟩ = some (.int .i64 a0_8) ∧ w'.cell? ⟨gb220, 9, none⟩ = some (.int .i64 a0_9) ∧ w'.cell? ⟨gb220, 10, none⟩ = some (.int .i64 a0_10) ∧ w'.cell? ⟨gb220, 11, none⟩ = some (.int .i64 a0_11) ∧ w'.cell? ⟨gb220, 12, none⟩ = some (.slice A0_12 l0_12.length c0_12)) (ds := []) #[false, false, false, false, false, false, false, false, false, false, false, false, false, false, false] (by kernel_rfl) rfl rfl ⟨(blk_cell BK220.out 0).trans rfl, (blk_cell BK220.out 1).trans rfl, (blk_cell BK220.out 2).trans rfl, (blk_cell BK220.out 3).trans rfl, (blk_cell BK220.out 4).trans rfl, (blk_cell BK220.out 5).trans rfl, (blk_cell BK220.out 6).trans rfl, (blk_cell BK220.out 7).trans rfl, (blk_cell BK220.out 8).trans rfl, (blk_cell BK220.out 9).trans rfl, (blk_cell BK220.out 10).trans rfl, (blk_cell BK220.out 11).trans rfl, (blk_cell BK220.out 12).trans rfl⟩ (fun hHeld => ?_); refine with_tabW impl_ShowEv.tab1 impl_ShowEv.bits1 (fun HT_ HW_ => ?_)
             generalize w29.drew = w30 at BK220 HB hHeld ⊢
             refine pure_ (i := 0) (N := some 4) (v := ?_) (a' := ?_) #[true, false, false, false, false, false, false, false, false, false, false, false, false, false, false] rfl rfl (any_of HT_.out (by kernel_rfl)) (fun _ _ _ h => h) (Or.inl ⟨by rfl, ?_⟩) ?_ ?_
             rotate_left
             ·intro w'
              go_simp
              with_reducible rfl
             rotate_left
             ·simp only [Act.put, List.setIfInBounds_toArray, List.set_cons_zero, List.set_cons_succ, i64_w, i32_w]
              rfl
             refine pure_ (i := 4) (N := some 8) (v := ?_) (a' := ?_) #[true, false, false, false, true, false, false, false, false, false, false, false, false, false, false] rfl rfl (any_of HT_.out (by kernel_rfl)) (fun _ _ _ h => h) (Or.inl ⟨by rfl, ?_⟩) ?_ ?_
             rotate_left
             ·intro w'
              go_simp
              with_reducible rfl
             rotate_left
             ·simp only [Act.put, List.setIfInBounds_toArray, List.set_cons_zero, List.set_cons_succ, i64_w, i32_w]
              rfl
             refine pure_ (i := 9) (N := some 13) (v := ?_) (a' := ?_) #[true, false, false, false, true, false, false, false, false, true, false, false, false, false, false] rfl rfl (any_of HT_.out (by kernel_rfl)) (fun _ _ _ h => h) (Or.inl ⟨by rfl, ?_⟩) ?_ ?_
             rotate_left
             ·intro w'
              go_simp
              with_reducible rfl
             rotate_left
             ·simp only [Act.put, List.setIfInBounds_toArray, List.set_cons_zero, List.set_cons_succ, i64_w, i32_w]
              rfl
             refine take_ (i := 1) (N := some 5) (v := ?_) (a' := ?_) #[true, true, false, false, true, false, false, false, false, true, false, false, false, false, false] rfl rfl (take_ofW HT_.out HW_.out (by kernel_rfl)) (fun _ _ _ h => h) (Or.inl ⟨by rfl, ?_⟩) hHeld ?_ ?_
             rotate_left
             ·rintro w' ⟨s0, s1, s2, s3, s4, s5, s6, s7, s8, s9, s10, s11, s12⟩
              go_simp
              with_reducible rfl
             rotate_left
             ·simp only [Act.put, List.setIfInBounds_toArray, List.set_cons_zero, List.set_cons_succ, i64_w, i32_w]
              rfl
             refine take_ (i := 5) (N := some 9) (v := ?_) (a' := ?_) #[true, true, false, false, true, true, false, false, false, true, false, false, false, false, false] rfl rfl (take_ofW HT_.out HW_.out (by kernel_rfl)) (fun _ _ _ h => h) (Or.inl ⟨by rfl, ?_⟩) hHeld ?_ ?_
             rotate_left
             ·rintro w' ⟨s0, s1, s2, s3, s4, s5, s6, s7, s8, s9, s10, s11, s12⟩
              go_simp
              with_reducible rfl
             rotate_left
             ·simp only [Act.put, List.setIfInBounds_toArray, List.set_cons_zero, List.set_cons_succ, i64_w, i32_w]
              rfl
             refine take_ (i := 10) (N := some 14) (v := ?_) (a' := ?_) #[true, true, false, false, true, true, false, false, false, true, true, false, false, false, false] rfl rfl (take_ofW HT_.out HW_.out (by kernel_rfl)) (fun _ _ _ h => h) (Or.inl ⟨by rfl, ?_⟩) hHeld ?_ ?_
             rotate_left
             ·rintro w' ⟨s0, s1, s2, s3, s4, s5, s6, s7, s8, s9, s10, s11, s12⟩
              go_simp
              with_reducible rfl
             rotate_left
             ·simp only [Act.put, List.setIfInBounds_toArray, List.set_cons_zero, List.set_cons_succ, i64_w, i32_w]
              rfl
             refine one_ (i := 2) (N := some 6) #[true, true, true, false, true, true, false, false, false, true, true, false, false, false, false] rfl rfl (one_of HT_.out (by kernel_rfl)) (by decide) (fun K hK => ?_)
             refine goes_ Tryd.func47 (by kernel_rfl) rfl #[.int .i64 a0_3] (by rfl) rfl rfl (by (try simp only [List.map_toArray, List.map_cons, List.map_nil]); first | done | rfl | (simp only [List.length_drop, List.length_take]; rfl)) ?_
             with_reducible refine (impl_Dec.calls a0_3 t221 _ A2.out (HT.out _ (by repeat (first | (with_reducible first | exact HB.out | apply below_alloc | apply pw_below_drewN | apply below_drew1 | refine below_set ?_ GE220.out) | exact HB.out)))).mono ?_
             rintro e w31 ⟨rfl, hb⟩
             refine ⟨_, rfl, ?_⟩
             have n0_ := Aside0.mk (blk_below (g := gb220) (o := .cells #[.int .i64 a0_0, .int .i64 a0_1, .int .i64 a0_2, .int .i64 a0_3, .int .i64 a0_4, .string a0_5, .int .i64 a0_6, .int .i64 a0_7, .int .i64 a0_8, .int .i64 a0_9, .int .i64 a0_10, .int .i64 a0_11, .slice A0_12 l0_12.length c0_12] 52 (0, 0)) (by (with_reducible repeat (first | refine blk_drewN ?_ _ | refine blk_drew ?_ | refine blk_alloc ?_ _)); exact BK220.out) hb)
             have n1_ := Aside0.mk (below_step (by repeat (first | (with_reducible first | exact HB.out | apply below_alloc | apply pw_below_drewN | apply below_drew1 | refine below_set ?_ GE220.out) | exact HB.out)) hb)
             clear BK220
             clear HB
             have BK220 := n0_
             have HB := n1_
             clear n0_ n1_
             (try clear hb)
             (try clear hb2)
             (try clear hk)
             (try clear hi)
             refine hK.out _ _ ⟨(blk_cell BK220.out 0).trans rfl, (blk_cell BK220.out 1).trans rfl, (blk_cell BK220.out 2).trans rfl, (blk_cell BK220.out 3).trans rfl, (blk_cell BK220.out 4).trans rfl, (blk_cell BK220.out 5).trans rfl, (blk_cell BK220.out 6).trans rfl, (blk_cell BK220.out 7).trans rfl, (blk_cell BK220.out 8).trans rfl, (blk_cell BK220.out 9).trans rfl, (blk_cell BK220.out 10).trans rfl, (blk_cell BK220.out 11).trans rfl, (blk_cell BK220.out 12).trans rfl⟩ (fun hHeld => ?_)
             clear hK K
             refine norm_ (a' := ?_) ?_ ?_
             rotate_left
             ·show Act.put _ (some 6) _ = _
              simp only [Act.put, List.setIfInBounds_toArray, List.set_cons_zero, List.set_cons_succ, i64_w, i32_w]
              rfl
             refine pure_ (i := 3) (N := some 7) (v := ?_) (a' := ?_) #[true, true, true, true, true, true, false, false, false, true, true, false, false, false, false] rfl rfl (any_of HT_.out (by kernel_rfl)) (fun _ _ _ h => h) (Or.inl ⟨by rfl, ?_⟩) ?_ ?_
             rotate_left
             ·intro w'
              go_simp
              with_reducible rfl
             rotate_left
             ·simp only [Act.put, List.setIfInBounds_toArray, List.set_cons_zero, List.set_cons_succ, i64_w, i32_w]
              rfl
             refine one_ (i := 6) (N := some 10) #[true, true, true, true, true, true, true, false, false, true, true, false, false, false, false] rfl rfl (one_of HT_.out (by kernel_rfl)) (by decide) (fun K hK => ?_)
             refine goes_ Tryd.func47 (by kernel_rfl) rfl #[.int .i64 a0_1] (by rfl) rfl rfl (by (try simp only [List.map_toArray, List.map_cons, List.map_nil]); first | done | rfl | (simp only [List.length_drop, List.length_take]; rfl)) ?_
             with_reducible refine (impl_Dec.calls a0_1 t222 _ A4.out (HT.out _ (by repeat (first | (with_reducible first | exact HB.out | apply below_alloc | apply pw_below_drewN | apply below_drew1 | refine below_set ?_ GE220.out) | exact HB.out)))).mono ?_
             rintro e w32 ⟨rfl, hb⟩
             refine ⟨_, rfl, ?_⟩
             have n0_ := Aside0.mk (blk_below (g := gb220) (o := .cells #[.int .i64 a0_0, .int .i64 a0_1, .int .i64 a0_2, .int .i64 a0_3, .int .i64 a0_4, .string a0_5, .int .i64 a0_6, .int .i64 a0_7, .int .i64 a0_8, .int .i64 a0_9, .int .i64 a0_10, .int .i64 a0_11, .slice A0_12 l0_12.length c0_12] 52 (0, 0)) (by (with_reducible repeat (first | refine blk_drewN ?_ _ | refine blk_drew ?_ | refine blk_alloc ?_ _)); exact BK220.out) hb)
             have n1_ := Aside0.mk (below_step (by repeat (first | (with_reducible first | exact HB.out | apply below_alloc | apply pw_below_drewN | apply below_drew1 | refine below_set ?_ GE220.out) | exact HB.out)) hb)
             clear BK220
             clear HB
             have BK220 := n0_
             have HB := n1_
             clear n0_ n1_
             (try clear hb)
             (try clear hb2)
             (try clear hk)
             (try clear hi)
             refine hK.out _ _ ⟨(blk_cell BK220.out 0).trans rfl, (blk_cell BK220.out 1).trans rfl, (blk_cell BK220.out 2).trans rfl, (blk_cell BK220.out 3).trans rfl, (blk_cell BK220.out 4).trans rfl, (blk_cell BK220.out 5).trans rfl, (blk_cell BK220.out 6).trans rfl, (blk_cell BK220.out 7).trans rfl, (blk_cell BK220.out 8).trans rfl, (blk_cell BK220.out 9).trans rfl, (blk_cell BK220.out 10).trans rfl, (blk_cell BK220.out 11).trans rfl, (blk_cell BK220.out 12).trans rfl⟩ (fun hHeld => ?_)
             clear hK K
             refine norm_ (a' := ?_) ?_ ?_
             rotate_left
             ·show Act.put _ (some 10) _ = _
              simp only [Act.put, List.setIfInBounds_toArray, List.set_cons_zero, List.set_cons_succ, i64_w, i32_w]
              rfl
             refine pure_ (i := 7) (N := some 11) (v := ?_) (a' := ?_) #[true, true, true, true, true, true, true, true, false, true, true, false, false, false, false] rfl rfl (any_of HT_.out (by kernel_rfl)) (fun _ _ _ h => h) (Or.inl ⟨by rfl, ?_⟩) ?_ ?_
             rotate_left
             ·intro w'
              go_simp
              with_reducible rfl
             rotate_left
             ·simp only [Act.put, List.setIfInBounds_toArray, List.set_cons_zero, List.set_cons_succ, i64_w, i32_w]
              rfl
             refine pure_ (i := 8) (N := some 12) (v := ?_) (a' := ?_) #[true, true, true, true, true, true, true, true, true, true, true, false, false, false, false] rfl rfl (any_of HT_.out (by kernel_rfl)) (fun _ _ _ h => h) (Or.inl ⟨by rfl, ?_⟩) ?_ ?_
             rotate_left
             ·intro w'
              go_simp
              with_reducible rfl
             rotate_left
             ·simp only [Act.put, List.setIfInBounds_toArray, List.set_cons_zero, List.set_cons_succ, i64_w, i32_w]
              rfl
             refine one_ (i := 11) (N := some 15) #[true, true, true, true, true, true, true, true, true, true, true, true, false, false, false] rfl rfl (one_of HT_.out (by kernel_rfl)) (by decide) (fun K hK => ?_)
             refine goes_ Tryd.func47 (by kernel_rfl) rfl #[.int .i64 a0_2] (by rfl) rfl rfl (by (try simp only [List.map_toArray, List.map_cons, List.map_nil]); first | done | rfl | (simp only [List.length_drop, List.length_take]; rfl)) ?_
             with_reducible refine (impl_Dec.calls a0_2 t223 _ A7.out (HT.out _ (by repeat (first | (with_reducible first | exact HB.out | apply below_alloc | apply pw_below_drewN | apply below_drew1 | refine below_set ?_ GE220.out) | exact HB.out)))).mono ?_
             rintro e w33 ⟨rfl, hb⟩
             refine ⟨_, rfl, ?_⟩
             have n0_ := Aside0.mk (blk_below (g := gb220) (o := .cells #[.int .i64 a0_0, .int .i64 a0_1, .int .i64 a0_2, .int .i64 a0_3, .int .i64 a0_4, .string a0_5, .int .i64 a0_6, .int .i64 a0_7, .int .i64 a0_8, .int .i64 a0_9, .int .i64 a0_10, .int .i64 a0_11, .slice A0_12 l0_12.length c0_12] 52 (0, 0)) (by (with_reducible repeat (first | refine blk_drewN ?_ _ | refine blk_drew ?_ | refine blk_alloc ?_ _)); exact BK220.out) hb)
             have n1_ := Aside0.mk (below_step (by repeat (first | (with_reducible first | exact HB.out | apply below_alloc | apply pw_below_drewN | apply below_drew1 | refine below_set ?_ GE220.out) | exact HB.out)) hb)
             clear BK220
             clear HB
             have BK220 := n0_
             have HB := n1_
             clear n0_ n1_
             (try clear hb)
             (try clear hb2)
             (try clear hk)
             (try clear hi)
             refine hK.out _ _ ⟨(blk_cell BK220.out 0).trans rfl, (blk_cell BK220.out 1).trans rfl, (blk_cell BK220.out 2).trans rfl, (blk_cell BK220.out 3).trans rfl, (blk_cell BK220.out 4).trans rfl, (blk_cell BK220.out 5).trans rfl, (blk_cell BK220.out 6).trans rfl, (blk_cell BK220.out 7).trans rfl, (blk_cell BK220.out 8).trans rfl, (blk_cell BK220.out 9).trans rfl, (blk_cell BK220.out 10).trans rfl, (blk_cell BK220.out 11).trans rfl, (blk_cell BK220.out 12).trans rfl⟩ (fun hHeld => ?_)
             clear hK K
             refine norm_ (a' := ?_) ?_ ?_
             rotate_left
             ·show Act.put _ (some 15) _ = _
              simp only [Act.put, List.setIfInBounds_toArray, List.set_cons_zero, List.set_cons_succ, i64_w, i32_w]
              rfl
             refine pure_ (i := 12) (N := some 16) (v := ?_) (a' := ?_) #[true, true, true, true, true, true, true, true, true, true, true, true, true, false, false] rfl rfl (any_of HT_.out (by kernel_rfl)) (fun _ _ _ h => h) (Or.inl ⟨by rfl, ?_⟩) ?_ ?_
             rotate_left
             ·intro w'
              go_simp
              with_reducible rfl
             rotate_left
             ·simp only [Act.put, List.setIfInBounds_toArray, List.set_cons_zero, List.set_cons_succ, i64_w, i32_w]
              rfl
             refine pure_ (i := 13) (N := some 17) (v := ?_) (a' := ?_) #[true, true, true, true, true, true, true, true, true, true, true, true, true, true, false] rfl rfl (any_of HT_.out (by kernel_rfl)) (fun _ _ _ h => h) (Or.inl ⟨by rfl, ?_⟩) ?_ ?_
             rotate_left
             ·intro w'
              go_simp
              with_reducible rfl
             rotate_left
             ·simp only [Act.put, List.setIfInBounds_toArray, List.set_cons_zero, List.set_cons_succ, i64_w, i32_w]
              rfl
             refine pure_ (i := 14) (N := some 3) (v := ?_) (a' := ?_) #[true, true, true, true, true, true, true, true, true, true, true, true, true, true, true] rfl rfl (any_of HT_.out (by kernel_rfl)) (fun _ _ _ h => h) (Or.inl ⟨by rfl, ?_⟩) ?_ ?_
             rotate_left
             ·intro w'
              go_simp
              with_reducible rfl
             rotate_left
             ·simp only [Act.put, List.setIfInBounds_toArray, List.set_cons_zero, List.set_cons_succ, i64_w, i32_w]
              rfl
             refine done_ (done_of HT_.out (by kernel_rfl)) ?_
             have hcz34_0 : w33.cell? ⟨gb220, 0, none⟩ = some (.int .i64 a0_0) := (blk_cell BK220.out 0).trans rfl
             have hcz34_1 : w33.cell? ⟨gb220, 1, none⟩ = some (.int .i64 a0_1) := (blk_cell BK220.out 1).trans rfl
             have hcz34_2 : w33.cell? ⟨gb220, 2, none⟩ = some (.int .i64 a0_2) := (blk_cell BK220.out 2).trans rfl
             have hcz34_3 : w33.cell? ⟨gb220, 3, none⟩ = some (.int .i64 a0_3) := (blk_cell BK220.out 3).trans rfl
             have hcz34_4 : w33.cell? ⟨gb220, 4, none⟩ = some (.int .i64 a0_4) := (blk_cell BK220.out 4).trans rfl
             have hcz34_5 : w33.cell? ⟨gb220, 5, none⟩ = some (.string a0_5) := (blk_cell BK220.out 5).trans rfl
             have hcz34_6 : w33.cell? ⟨gb220, 6, none⟩ = some (.int .i64 a0_6) := (blk_cell BK220.out 6).trans rfl
             have hcz34_7 : w33.cell? ⟨gb220, 7, none⟩ = some (.int .i64 a0_7) := (blk_cell BK220.out 7).trans rfl
             have hcz34_8 : w33.cell? ⟨gb220, 8, none⟩ = some (.int .i64 a0_8) := (blk_cell BK220.out 8).trans rfl
             have hcz34_9 : w33.cell? ⟨gb220, 9, none⟩ = some (.int .i64 a0_9) := (blk_cell BK220.out 9).trans rfl
             have hcz34_10 : w33.cell? ⟨gb220, 10, none⟩ = some (.int .i64 a0_10) := (blk_cell BK220.out 10).trans rfl
             have hcz34_11 : w33.cell? ⟨gb220, 11, none⟩ = some (.int .i64 a0_11) := (blk_cell BK220.out 11).trans rfl
             have hcz34_12 : w33.cell? ⟨gb220, 12, none⟩ = some (.slice A0_12 l0_12.length c0_12) := (blk_cell BK220.out 12).trans rfl
             have hfz34_0 := blk_frozen BK220.out 0
             have hfz34_1 := blk_frozen BK220.out 1
             have hfz34_2 := blk_frozen BK220.out 2
             have hfz34_3 := blk_frozen BK220.out 3
             have hfz34_4 := blk_frozen BK220.out 4
             have hfz34_5 := blk_frozen BK220.out 5
             have hfz34_6 := blk_frozen BK220.out 6
             have hfz34_7 := blk_frozen BK220.out 7
             have hfz34_8 := blk_frozen BK220.out 8
             have hfz34_9 := blk_frozen BK220.out 9
             have hfz34_10 := blk_frozen BK220.out 10
             have hfz34_11 := blk_frozen BK220.out 11
             have hfz34_12 := blk_frozen BK220.out 12
             try go_wp2_with (first | ((with_reducible refine gate_callee (f := 48) rfl ?_); refine goesL_ (some 33) rfl rfl Tryd.func48 (by kernel_rfl) rfl #[.int .i64 a0_8] rfl (by (try simp only [List.map_toArray, List.map_cons, List.map_nil]); first | done | rfl | (simp only [List.length_drop, List.length_take]; rfl)) ?_; (with_reducible refine (impl_CodeWord.calls a0_8 t225 _ A22.out).mono ?_); rintro e w35 ⟨rfl, hb⟩; refine ⟨_, rfl, ?_⟩; have n0_ := Aside0.mk (blk_below (g := gb220) (o := .cells #[.int .i64 a0_0, .int .i64 a0_1, .int .i64 a0_2, .int .i64 a0_3, .int .i64 a0_4, .string a0_5, .int .i64 a0_6, .int .i64 a0_7, .int .i64 a0_8, .int .i64 a0_9, .int .i64 a0_10, .int .i64 a0_11, .slice A0_12 l0_12.length c0_12] 52 (0, 0)) (by (with_reducible repeat (first | refine blk_drewN ?_ _ | refine blk_drew ?_ | refine blk_alloc ?_ _)); exact BK220.out) hb); have n1_ := Aside0.mk (below_step (by repeat (first | (with_reducible first | exact HB.out | apply below_alloc | apply pw_below_drewN | apply below_drew1 | refine below_set ?_ GE220.out) | exact HB.out)) hb); clear BK220; clear HB; have BK220 := n0_; have HB := n1_; clear n0_ n1_; (try clear hb); (try clear hb2); (try clear hk); (try clear hi); have hcz36_0 : w35.cell? ⟨gb220, 0, none⟩ = some (.int .i64 a0_0) := (blk_cell BK220.out 0).trans rfl; have hcz36_1 : w35.cell? ⟨gb220, 1, none⟩ = some (.int .i64 a0_1) := (blk_cell BK220.out 1).trans rfl; have hcz36_2 : w35.cell? ⟨gb220, 2, none⟩ = some (.int .i64 a0_2) := (blk_cell BK220.out 2).trans rfl; have hcz36_3 : w35.cell? ⟨gb220, 3, none⟩ = some (.int .i64 a0_3) := (blk_cell BK220.out 3).trans rfl; have hcz36_4 : w35.cell? ⟨gb220, 4, none⟩ = some (.int .i64 a0_4) := (blk_cell BK220.out 4).trans rfl; have hcz36_5 : w35.cell? ⟨gb220, 5, none⟩ = some (.string a0_5) := (blk_cell BK220.out 5).trans rfl; have hcz36_6 : w35.cell? ⟨gb220, 6, none⟩ = some (.int .i64 a0_6) := (blk_cell BK220.out 6).trans rfl; have hcz36_7 : w35.cell? ⟨gb220, 7, none⟩ = some (.int .i64 a0_7) := (blk_cell BK220.out 7).trans rfl; have hcz36_8 : w35.cell? ⟨gb220, 8, none⟩ = some (.int .i64 a0_8) := (blk_cell BK220.out 8).trans rfl; have hcz36_9 : w35.cell? ⟨gb220, 9, none⟩ = some (.int .i64 a0_9) := (blk_cell BK220.out 9).trans rfl; have hcz36_10 : w35.cell? ⟨gb220, 10, none⟩ = some (.int .i64 a0_10) := (blk_cell BK220.out 10).trans rfl; have hcz36_11 : w35.cell? ⟨gb220, 11, none⟩ = some (.int .i64 a0_11) := (blk_cell BK220.out 11).trans rfl; have hcz36_12 : w35.cell? ⟨gb220, 12, none⟩ = some (.slice A0_12 l0_12.length c0_12) := (blk_cell BK220.out 12).trans rfl; have hfz36_0 := blk_frozen BK220.out 0; have hfz36_1 := blk_frozen BK220.out 1; have hfz36_2 := blk_frozen BK220.out 2; have hfz36_3 := blk_frozen BK220.out 3; have hfz36_4 := blk_frozen BK220.out 4; have hfz36_5 := blk_frozen BK220.out 5; have hfz36_6 := blk_frozen BK220.out 6; have hfz36_7 := blk_frozen BK220.out 7; have hfz36_8 := blk_frozen BK220.out 8; have hfz36_9 := blk_frozen BK220.out 9; have hfz36_10 := blk_frozen BK220.out 10; have hfz36_11 := blk_frozen BK220.out 11; have hfz36_12 := blk_frozen BK220.out 12) | ((with_reducible refine gate_callee (f := 47) rfl ?_); refine goesL_ (some 42) rfl rfl Tryd.func47 (by kernel_rfl) rfl #[.int .i64 a0_9] rfl (by (try simp only [List.map_toArray, List.map_cons, List.map_nil]); first | done | rfl | (simp only [List.length_drop, List.length_take]; rfl)) ?_; (with_reducible refine (impl_Dec.calls a0_9 t226 _ A26.out (HT.out _ (by repeat (first | (with_reducible first | exact HB.out | apply below_alloc | apply pw_below_drewN | apply below_drew1 | refine below_set ?_ GE220.out) | exact HB.out)))).mono ?_); rintro e w37 ⟨rfl, hb⟩; refine ⟨_, rfl, ?_⟩; have n0_ := Aside0.mk (blk_below (g := gb220) (o := .cells #[.int .i64 a0_0, .int .i64 a0_1, .int .i64 a0_2, .int .i64 a0_3, .int .i64 a0_4, .string a0_5, .int .i64 a0_6, .int .i64 a0_7, .int .i64 a0_8, .int .i64 a0_9, .int .i64 a0_10, .int .i64 a0_11, .slice A0_12 l0_12.length c0_12] 52 (0, 0)) (by (with_reducible repeat (first | refine blk_drewN ?_ _ | refine blk_drew ?_ | refine blk_alloc ?_ _)); exact BK220.out) hb); have n1_ := Aside0.mk (below_step (by repeat (first | (with_reducible first | exact HB.out | apply below_alloc | apply pw_below_drewN | apply below_drew1 | refine below_set ?_ GE220.out) | exact HB.out)) hb); clear BK220; clear HB; have BK220 := n0_; have HB := n1_; clear n0_ n1_; (try clear hb); (try clear hb2); (try clear hk); (try clear hi)))
             go_ret
             exact ⟨by first | rfl | (simp [errW_none, errW_some] <;> rfl) | (simp [*, errW_none, errW_some] <;> rfl), by repeat (first | (with_reducible first | exact HB.out | apply below_alloc | apply pw_below_drewN | apply below_drew1 | refine below_set ?_ GE220.out) | exact HB.out)⟩
            ·rw [if_neg c28] at H
             exact absurd H (by simp)
           ·rw [if_neg c27] at H
            exact absurd H (by simp)
          ·rw [if_neg c25] at H
           have c25b0 : decide (0 ≤ a0_9) = false := decide_eq_false c25
           clear c25
           obtain rfl := Option.some.inj H
           go_enter Tryd.func24, Tryd.ntmps24
           try go_wp2_with (first | ((with_reducible refine gate_dst (N := 1) rfl ?_); refine box_event ?hg (N := 1) ?hd (cs := #[.int .i64 a0_0, .int .i64 a0_1, .int .i64 a0_2, .int .i64 a0_3, .int .i64 a0_4, .string a0_5, .int .i64 a0_6, .int .i64 a0_7, .int .i64 a0_8, .int .i64 a0_9, .int .i64 a0_10, .int .i64 a0_11, .slice A0_12 l0_12.length c0_12]) (t := 52) ?hr ?_; (case hd => rfl); (case hg => rfl); (case hr => first | (go_simp; done) | (go_simp; rfl)); intro gb220 hg w38 hbox hb; have n0_ := Aside0.mk (below_step (by repeat (first | (with_reducible first | exact HB.out | apply below_alloc | apply pw_below_drewN | apply below_drew1) | exact HB.out)) hb); have n1_ := Aside0.mk (hbox); have n2_ := Aside0.mk ((by rw [hg]; exact (below_size (by repeat (first | (with_reducible first | exact HB.out | apply below_alloc | apply pw_below_drewN | apply below_drew1) | exact HB.out))) : w.heap.size ≤ gb220)); have n3_ := Aside0.mk ((by rw [hg]; exact (below_size (by repeat (first | (with_reducible first | exact HB.out | apply below_alloc | apply pw_below_drewN | apply below_drew1) | exact HB.out))) : w.heap.size ≤ gb220)); clear HB; have HB := n0_; have BK220 := n1_; have GW220 := n2_; have GE220 := n3_; clear n0_ n1_ n2_ n3_; clear hb hbox hg))
           have n0_ := Aside0.mk (blk_drew BK220.out)
           have n1_ := Aside0.mk (below_drew1 HB.out)
           clear BK220
           clear HB
           have BK220 := n0_
           have HB := n1_
           clear n0_ n1_
           refine start_ (n := 15) (S := fun w' => w'.cell? ⟨gb220, 0, none⟩ = some (.int .i64 a0_0) ∧ w'.cell? ⟨gb220, 1, none⟩ = some (.int .i64 a0_1) ∧ w'.cell? ⟨gb220, 2, none⟩ = some (.int .i64 a0_2) ∧ w'.cell? ⟨gb220, 3, none⟩ = some (.int .i64 a0_3) ∧ w'.cell? ⟨gb220, 4, none⟩ = some (.int .i64 a0_4) ∧ w'.cell? ⟨gb220, 5, none⟩ = some (.string a0_5) ∧ w'.cell? ⟨gb220, 6, none⟩ = some (.int .i64 a0_6) ∧ w'.cell? ⟨gb220, 7, none⟩ = some (.int .i64 a0_7) ∧ w'.cell? ⟨gb220, 8, none⟩ = some (.int .i64 a0_8) ∧ w'.cell? ⟨gb220, 9, none⟩ = some (.int .i64 a0_9) ∧ w'.cell? ⟨gb220, 10, none⟩ = some (.int .i64 a0_10) ∧ w'.cell? ⟨gb220, 11, none⟩ = some (.int .i64 a0_11) ∧ w'.cell? ⟨gb220, 12, none⟩ = some (.slice A0_12 l0_12.length c0_12)) (ds := []) #[false, false, false, false, false, false, false, false, false, false, false, false, false, false, false] (by kernel_rfl) rfl rfl ⟨(blk_cell BK220.out 0).trans rfl, (blk_cell BK220.out 1).trans rfl, (blk_cell BK220.out 2).trans rfl, (blk_cell BK220.out 3).trans rfl, (blk_cell BK220.out 4).trans rfl, (blk_cell BK220.out 5).trans rfl, (blk_cell BK220.out 6).trans rfl, (blk_cell BK220.out 7).trans rfl, (blk_cell BK220.out 8).trans rfl, (blk_cell BK220.out 9).trans rfl, (blk_cell BK220.out 10).trans rfl, (blk_cell BK220.out 11).trans rfl, (blk_cell BK220.out 12).trans rfl⟩ (fun hHeld => ?_); refine with_tabW impl_ShowEv.tab1 impl_ShowEv.bits1 (fun HT_ HW_ => ?_)
           generalize w38.drew = w39 at BK220 HB hHeld ⊢
           refine pure_ (i := 0) (N := some 4) (v := ?_) (a' := ?_) #[true, false, false, false, false, false, false, false, false, false, false, false, false, false, false] rfl rfl (any_of HT_.out (by kernel_rfl)) (fun _ _ _ h => h) (Or.inl ⟨by rfl, ?_⟩) ?_ ?_
           rotate_left
           ·intro w'
            go_simp
            with_reducible rfl
           rotate_left
           ·simp only [Act.put, List.setIfInBounds_toArray, List.set_cons_zero, List.set_cons_succ, i64_w, i32_w]
            rfl
           refine pure_ (i := 4) (N := some 8) (v := ?_) (a' := ?_) #[true, false, false, false, true, false, false, false, false, false, false, false, false, false, false] rfl rfl (any_of HT_.out (by kernel_rfl)) (fun _ _ _ h => h) (Or.inl ⟨by rfl, ?_⟩) ?_ ?_
           rotate_left
           ·intro w'
            go_simp
            with_reducible rfl
           rotate_left
           ·simp only [Act.put, List.setIfInBounds_toArray, List.set_cons_zero, List.set_cons_succ, i64_w, i32_w]
            rfl
           refine pure_ (i := 9) (N := some 13) (v := ?_) (a' := ?_) #[true, false, false, false, true, false, false, false, false, true, false, false, false, false, false] rfl rfl (any_of HT_.out (by kernel_rfl)) (fun _ _ _ h => h) (Or.inl ⟨by rfl, ?_⟩) ?_ ?_
           rotate_left
           ·intro w'
            go_simp
            with_reducible rfl
           rotate_left
           ·simp only [Act.put, List.setIfInBounds_toArray, List.set_cons_zero, List.set_cons_succ, i64_w, i32_w]
            rfl
           refine take_ (i := 1) (N := some 5) (v := ?_) (a' := ?_) #[true, true, false, false, true, false, false, false, false, true, false, false, false, false, false] rfl rfl (take_ofW HT_.out HW_.out (by kernel_rfl)) (fun _ _ _ h => h) (Or.inl ⟨by rfl, ?_⟩) hHeld ?_ ?_
           rotate_left
           ·rintro w' ⟨s0, s1, s2, s3, s4, s5, s6, s7, s8, s9, s10, s11, s12⟩
            go_simp
            with_reducible rfl
           rotate_left
           ·simp only [Act.put, List.setIfInBounds_toArray, List.set_cons_zero, List.set_cons_succ, i64_w, i32_w]
            rfl
           refine take_ (i := 5) (N := some 9) (v := ?_) (a' := ?_) #[true, true, false, false, true, true, false, false, false, true, false, false, false, false, false] rfl rfl (take_ofW HT_.out HW_.out (by kernel_rfl)) (fun _ _ _ h => h) (Or.inl ⟨by rfl, ?_⟩) hHeld ?_ ?_
           rotate_left
           ·rintro w' ⟨s0, s1, s2, s3, s4, s5, s6, s7, s8, s9, s10, s11, s12⟩
            go_simp
            with_reducible rfl
           rotate_left
           ·simp only [Act.put, List.setIfInBounds_toArray, List.set_cons_zero, List.set_cons_succ, i64_w, i32_w]
            rfl
           refine take_ (i := 10) (N := some 14) (v := ?_) (a' := ?_) #[true, true, false, false, true, true, false, false, false, true, true, false, false, false, false] rfl rfl (take_ofW HT_.out HW_.out (by kernel_rfl)) (fun _ _ _ h => h) (Or.inl ⟨by rfl, ?_⟩) hHeld ?_ ?_
           rotate_left
           ·rintro w' ⟨s0, s1, s2, s3, s4, s5, s6, s7, s8, s9, s10, s11, s12⟩
            go_simp
            with_reducible rfl
           rotate_left
           ·simp only [Act.put, List.setIfInBounds_toArray, List.set_cons_zero, List.set_cons_succ, i64_w, i32_w]
            rfl
           refine one_ (i := 2) (N := some 6) #[true, true, true, false, true, true, false, false, false, true, true, false, false, false, false] rfl rfl (one_of HT_.out (by kernel_rfl)) (by decide) (fun K hK => ?_)
           refine goes_ Tryd.func47 (by kernel_rfl) rfl #[.int .i64 a0_3] (by rfl) rfl rfl (by (try simp only [List.map_toArray, List.map_cons, List.map_nil]); first | done | rfl | (simp only [List.length_drop, List.length_take]; rfl)) ?_
           with_reducible refine (impl_Dec.calls a0_3 t221 _ A2.out (HT.out _ (by repeat (first | (with_reducible first | exact HB.out | apply below_alloc | apply pw_below_drewN | apply below_drew1 | refine below_set ?_ GE220.out) | exact HB.out)))).mono ?_
           rintro e w40 ⟨rfl, hb⟩
           refine ⟨_, rfl, ?_⟩
           have n0_ := Aside0.mk (blk_below (g := gb220) (o := .cells #[.int .i64 a0_0, .int .i64 a0_1, .int .i64 a0_2, .int .i64 a0_3, .int .i64 a0_4, .string a0_5, .int .i64 a0_6, .int .i64 a0_7, .int .i64 a0_8, .int .i64 a0_9, .int .i64 a0_10, .int .i64 a0_11, .slice A0_12 l0_12.length c0_12] 52 (0, 0)) (by (with_reducible repeat (first | refine blk_drewN ?_ _ | refine blk_drew ?_ | refine blk_alloc ?_ _)); exact BK220.out) hb)
           have n1_ := Aside0.mk (below_step (by repeat (first | (with_reducible first | exact HB.out | apply below_alloc | apply pw_below_drewN | apply below_drew1 | refine below_set ?_ GE220.out) | exact HB.out)) hb)
           clear BK220
           clear HB
           have BK220 := n0_
           have HB := n1_
           clear n0_ n1_
           (try clear hb)
           (try clear hb2)
           (try clear hk)
           (try clear hi)
           refine hK.out _ _ ⟨(blk_cell BK220.out 0).trans rfl, (blk_cell BK220.out 1).trans rfl, (blk_cell BK220.out 2).trans rfl, (blk_cell BK220.out 3).trans rfl, (blk_cell BK220.out 4).trans rfl, (blk_cell BK220.out 5).trans rfl, (blk_cell BK220.out 6).trans rfl, (blk_cell BK220.out 7).trans rfl, (blk_cell BK220.out 8).trans rfl, (blk_cell BK220.out 9).trans rfl, (blk_cell BK220.out 10).trans rfl, (blk_cell BK220.out 11).trans rfl, (blk_cell BK220.out 12).trans rfl⟩ (fun hHeld => ?_)
           clear hK K
           refine norm_ (a' := ?_) ?_ ?_
           rotate_left
           ·show Act.put _ (some 6) _ = _
            simp only [Act.put, List.setIfInBounds_toArray, List.set_cons_zero, List.set_cons_succ, i64_w, i32_w]
            rfl
           refine pure_ (i := 3) (N := some 7) (v := ?_) (a' := ?_) #[true, true, true, true, true, true, false, false, false, true, true, false, false, false, false] rfl rfl (any_of HT_.out (by kernel_rfl)) (fun _ _ _ h => h) (Or.inl ⟨by rfl, ?_⟩) ?_ ?_
           rotate_left
           ·intro w'
            go_simp
            with_reducible rfl
           rotate_left
           ·simp only [Act.put, List.setIfInBounds_toArray, List.set_cons_zero, List.set_cons_succ, i64_w, i32_w]
            rfl
           refine one_ (i := 6) (N := some 10) #[true, true, true, true, true, true, true, false, false, true, true, false, false, false, false] rfl rfl (one_of HT_.out (by kernel_rfl)) (by decide) (fun K hK => ?_)
           refine goes_ Tryd.func47 (by kernel_rfl) rfl #[.int .i64 a0_1] (by rfl) rfl rfl (by (try simp only [List.map_toArray, List.map_cons, List.map_nil]); first | done | rfl | (simp only [List.length_drop, List.length_take]; rfl)) ?_
           with_reducible refine (impl_Dec.calls a0_1 t222 _ A4.out (HT.out _ (by repeat (first | (with_reducible first | exact HB.out | apply below_alloc | apply pw_below_drewN | apply below_drew1 | refine below_set ?_ GE220.out) | exact HB.out)))).mono ?_
           rintro e w41 ⟨rfl, hb⟩
           refine ⟨_, rfl, ?_⟩
           have n0_ := Aside0.mk (blk_below (g := gb220) (o := .cells #[.int .i64 a0_0, .int .i64 a0_1, .int .i64 a0_2, .int .i64 a0_3, .int .i64 a0_4, .string a0_5, .int .i64 a0_6, .int .i64 a0_7, .int .i64 a0_8, .int .i64 a0_9, .int .i64 a0_10, .int .i64 a0_11, .slice A0_12 l0_12.length c0_12] 52 (0, 0)) (by (with_reducible repeat (first | refine blk_drewN ?_ _ | refine blk_drew ?_ | refine blk_alloc ?_ _)); exact BK220.out) hb)
           have n1_ := Aside0.mk (below_step (by repeat (first | (with_reducible first | exact HB.out | apply below_alloc | apply pw_below_drewN | apply below_drew1 | refine below_set ?_ GE220.out) | exact HB.out)) hb)
           clear BK220
           clear HB
           have BK220 := n0_
           have HB := n1_
           clear n0_ n1_
           (try clear hb)
           (try clear hb2)
           (try clear hk)
           (try clear hi)
           refine hK.out _ _ ⟨(blk_cell BK220.out 0).trans rfl, (blk_cell BK220.out 1).trans rfl, (blk_cell BK220.out 2).trans rfl, (blk_cell BK220.out 3).trans rfl, (blk_cell BK220.out 4).trans rfl, (blk_cell BK220.out 5).trans rfl, (blk_cell BK220.out 6).trans rfl, (blk_cell BK220.out 7).trans rfl, (blk_cell BK220.out 8).trans rfl, (blk_cell BK220.out 9).trans rfl, (blk_cell BK220.out 10).trans rfl, (blk_cell BK220.out 11).trans rfl, (blk_cell BK220.out 12).trans rfl⟩ (fun hHeld => ?_)
           clear hK K
           refine norm_ (a' := ?_) ?_ ?_
           rotate_left
           ·show Act.put _ (some 10) _ = _
            simp only [Act.put, List.setIfInBounds_toArray, List.set_cons_zero, List.set_cons_succ, i64_w, i32_w]
            rfl
           refine pure_ (i := 7) (N := some 11) (v := ?_) (a' := ?_) #[true, true, true, true, true, true, true, true, false, true, true, false, false, false, false] rfl rfl (any_of HT_.out (by kernel_rfl)) (fun _ _ _ h => h) (Or.inl ⟨by rfl, ?_⟩) ?_ ?_
           rotate_left
           ·intro w'
            go_simp
            with_reducible rfl
           rotate_left
           ·simp only [Act.put, List.setIfInBounds_toArray, List.set_cons_zero, List.set_cons_succ, i64_w, i32_w]
            rfl
           refine pure_ (i := 8) (N := some 12) (v := ?_) (a' := ?_) #[true, true, true, true, true, true, true, true, true, true, true, false, false, false, false] rfl rfl (any_of HT_.out (by kernel_rfl)) (fun _ _ _ h => h) (Or.inl ⟨by rfl, ?_⟩) ?_ ?_
           rotate_left
           ·intro w'
            go_simp
            with_reducible rfl
           rotate_left
           ·simp only [Act.put, List.setIfInBounds_toArray, List.set_cons_zero, List.set_cons_succ, i64_w, i32_w]
            rfl
           refine one_ (i := 11) (N := some 15) #[true, true, true, true, true, true, true, true, true, true, true, true, false, false, false] rfl rfl (one_of HT_.out (by kernel_rfl)) (by decide) (fun K hK => ?_)
           refine goes_ Tryd.func47 (by kernel_rfl) rfl #[.int .i64 a0_2] (by rfl) rfl rfl (by (try simp only [List.map_toArray, List.map_cons, List.map_nil]); first | done | rfl | (simp only [List.length_drop, List.length_take]; rfl)) ?_
           with_reducible refine (impl_Dec.calls a0_2 t223 _ A7.out (HT.out _ (by repeat (first | (with_reducible first | exact HB.out | apply below_alloc | apply pw_below_drewN | apply below_drew1 | refine below_set ?_ GE220.out) | exact HB.out)))).mono ?_
           rintro e w42 ⟨rfl, hb⟩
           refine ⟨_, rfl, ?_⟩
           have n0_ := Aside0.mk (blk_below (g := gb220) (o := .cells #[.int .i64 a0_0, .int .i64 a0_1, .int .i64 a0_2, .int .i64 a0_3, .int .i64 a0_4, .string a0_5, .int .i64 a0_6, .int .i64 a0_7, .int .i64 a0_8, .int .i64 a0_9, .int .i64 a0_10, .int .i64 a0_11, .slice A0_12 l0_12.length c0_12] 52 (0, 0)) (by (with_reducible repeat (first | refine blk_drewN ?_ _ | refine blk_drew ?_ | refine blk_alloc ?_ _)); exact BK220.out) hb)
           have n1_ := Aside0.mk (below_step (by repeat (first | (with_reducible first | exact HB.out | apply below_alloc | apply pw_below_drewN | apply below_drew1 | refine below_set ?_ GE220.out) | exact HB.out)) hb)
           clear BK220
           clear HB
           have BK220 := n0_
           have HB := n1_
           clear n0_ n1_
           (try clear hb)
           (try clear hb2)
           (try clear hk)
           (try clear hi)
           refine hK.out _ _ ⟨(blk_cell BK220.out 0).trans rfl, (blk_cell BK220.out 1).trans rfl, (blk_cell BK220.out 2).trans rfl, (blk_cell BK220.out 3).trans rfl, (blk_cell BK220.out 4).trans rfl, (blk_cell BK220.out 5).trans rfl, (blk_cell BK220.out 6).trans rfl, (blk_cell BK220.out 7).trans rfl, (blk_cell BK220.out 8).trans rfl, (blk_cell BK220.out 9).trans rfl, (blk_cell BK220.out 10).trans rfl, (blk_cell BK220.out 11).trans rfl, (blk_cell BK220.out 12).trans rfl⟩ (fun hHeld => ?_)
           clear hK K
           refine norm_ (a' := ?_) ?_ ?_
           rotate_left
           ·show Act.put _ (some 15) _ = _
            simp only [Act.put, List.setIfInBounds_toArray, List.set_cons_zero, List.set_cons_succ, i64_w, i32_w]
            rfl
           refine pure_ (i := 12) (N := some 16) (v := ?_) (a' := ?_) #[true, true, true, true, true, true, true, true, true, true, true, true, true, false, false] rfl rfl (any_of HT_.out (by kernel_rfl)) (fun _ _ _ h => h) (Or.inl ⟨by rfl, ?_⟩) ?_ ?_
           rotate_left
           ·intro w'
            go_simp
            with_reducible rfl
           rotate_left
           ·simp only [Act.put, List.setIfInBounds_toArray, List.set_cons_zero, List.set_cons_succ, i64_w, i32_w]
            rfl
           refine pure_ (i := 13) (N := some 17) (v := ?_) (a' := ?_) #[true, true, true, true, true, true, true, true, true, true, true, true, true, true, false] rfl rfl (any_of HT_.out (by kernel_rfl)) (fun _ _ _ h => h) (Or.inl ⟨by rfl, ?_⟩) ?_ ?_
           rotate_left
           ·intro w'
            go_simp
            with_reducible rfl
           rotate_left
           ·simp only [Act.put, List.setIfInBounds_toArray, List.set_cons_zero, List.set_cons_succ, i64_w, i32_w]
            rfl
           refine pure_ (i := 14) (N := some 3) (v := ?_) (a' := ?_) #[true, true, true, true, true, true, true, true, true, true, true, true, true, true, true] rfl rfl (any_of HT_.out (by kernel_rfl)) (fun _ _ _ h => h) (Or.inl ⟨by rfl, ?_⟩) ?_ ?_
           rotate_left
           ·intro w'
            go_simp
            with_reducible rfl
           rotate_left
           ·simp only [Act.put, List.setIfInBounds_toArray, List.set_cons_zero, List.set_cons_succ, i64_w, i32_w]
            rfl
           refine done_ (done_of HT_.out (by kernel_rfl)) ?_
           have hcz43_0 : w42.cell? ⟨gb220, 0, none⟩ = some (.int .i64 a0_0) := (blk_cell BK220.out 0).trans rfl
           have hcz43_1 : w42.cell? ⟨gb220, 1, none⟩ = some (.int .i64 a0_1) := (blk_cell BK220.out 1).trans rfl
           have hcz43_2 : w42.cell? ⟨gb220, 2, none⟩ = some (.int .i64 a0_2) := (blk_cell BK220.out 2).trans rfl
           have hcz43_3 : w42.cell? ⟨gb220, 3, none⟩ = some (.int .i64 a0_3) := (blk_cell BK220.out 3).trans rfl
           have hcz43_4 : w42.cell? ⟨gb220, 4, none⟩ = some (.int .i64 a0_4) := (blk_cell BK220.out 4).trans rfl
           have hcz43_5 : w42.cell? ⟨gb220, 5, none⟩ = some (.string a0_5) := (blk_cell BK220.out 5).trans rfl
           have hcz43_6 : w42.cell? ⟨gb220, 6, none⟩ = some (.int .i64 a0_6) := (blk_cell BK220.out 6).trans rfl
           have hcz43_7 : w42.cell? ⟨gb220, 7, none⟩ = some (.int .i64 a0_7) := (blk_cell BK220.out 7).trans rfl
           have hcz43_8 : w42.cell? ⟨gb220, 8, none⟩ = some (.int .i64 a0_8) := (blk_cell BK220.out 8).trans rfl
           have hcz43_9 : w42.cell? ⟨gb220, 9, none⟩ = some (.int .i64 a0_9) := (blk_cell BK220.out 9).trans rfl
           have hcz43_10 : w42.cell? ⟨gb220, 10, none⟩ = some (.int .i64 a0_10) := (blk_cell BK220.out 10).trans rfl
           have hcz43_11 : w42.cell? ⟨gb220, 11, none⟩ = some (.int .i64 a0_11) := (blk_cell BK220.out 11).trans rfl
           have hcz43_12 : w42.cell? ⟨gb220, 12, none⟩ = some (.slice A0_12 l0_12.length c0_12) := (blk_cell BK220.out 12).trans rfl
           have hfz43_0 := blk_frozen BK220.out 0
           have hfz43_1 := blk_frozen BK220.out 1
           have hfz43_2 := blk_frozen BK220.out 2
           have hfz43_3 := blk_frozen BK220.out 3
           have hfz43_4 := blk_frozen BK220.out 4
           have hfz43_5 := blk_frozen BK220.out 5
           have hfz43_6 := blk_frozen BK220.out 6
           have hfz43_7 := blk_frozen BK220.out 7
           have hfz43_8 := blk_frozen BK220.out 8
           have hfz43_9 := blk_frozen BK220.out 9
           have hfz43_10 := blk_frozen BK220.out 10
           have hfz43_11 := blk_frozen BK220.out 11
           have hfz43_12 := blk_frozen BK220.out 12
           try go_wp2_with (first | ((with_reducible refine gate_callee (f := 48) rfl ?_); refine goesL_ (some 33) rfl rfl Tryd.func48 (by kernel_rfl) rfl #[.int .i64 a0_8] rfl (by (try simp only [List.map_toArray, List.map_cons, List.map_nil]); first | done | rfl | (simp only [List.length_drop, List.length_take]; rfl)) ?_; (with_reducible refine (impl_CodeWord.calls a0_8 t225 _ A22.out).mono ?_); rintro e w44 ⟨rfl, hb⟩; refine ⟨_, rfl, ?_⟩; have n0_ := Aside0.mk (blk_below (g := gb220) (o := .cells #[.int .i64 a0_0, .int .i64 a0_1, .int .i64 a0_2, .int .i64 a0_3, .int .i64 a0_4, .string a0_5, .int .i64 a0_6, .int .i64 a0_7, .int .i64 a0_8, .int .i64 a0_9, .int .i64 a0_10, .int .i64 a0_11, .slice A0_12 l0_12.length c0_12] 52 (0, 0)) (by (with_reducible repeat (first | refine blk_drewN ?_ _ | refine blk_drew ?_ | refine blk_alloc ?_ _)); exact BK220.out) hb); have n1_ := Aside0.mk (below_step (by repeat (first | (with_reducible first | exact HB.out | apply below_alloc | apply pw_below_drewN | apply below_drew1 | refine below_set ?_ GE220.out) | exact HB.out)) hb); clear BK220; clear HB; have BK220 := n0_; have HB := n1_; clear n0_ n1_; (try clear hb); (try clear hb2); (try clear hk); (try clear hi); have hcz45_0 : w44.cell? ⟨gb220, 0, none⟩ = some (.int .i64 a0_0) := (blk_cell BK220.out 0).trans rfl; have hcz45_1 : w44.cell? ⟨gb220, 1, none⟩ = some (.int .i64 a0_1) := (blk_cell BK220.out 1).trans rfl; have hcz45_2 : w44.cell? ⟨gb220, 2, none⟩ = some (.int .i64 a0_2) := (blk_cell BK220.out 2).trans rfl; have hcz45_3 : w44.cell? ⟨gb220, 3, none⟩ = some (.int .i64 a0_3) := (blk_cell BK220.out 3).trans rfl; have hcz45_4 : w44.cell? ⟨gb220, 4, none⟩ = some (.int .i64 a0_4) := (blk_cell BK220.out 4).trans rfl; have hcz45_5 : w44.cell? ⟨gb220, 5, none⟩ = some (.string a0_5) := (blk_cell BK220.out 5).trans rfl; have hcz45_6 : w44.cell? ⟨gb220, 6, none⟩ = some (.int .i64 a0_6) := (blk_cell BK220.out 6).trans rfl; have hcz45_7 : w44.cell? ⟨gb220, 7, none⟩ = some (.int .i64 a0_7) := (blk_cell BK220.out 7).trans rfl; have hcz45_8 : w44.cell? ⟨gb220, 8, none⟩ = some (.int .i64 a0_8) := (blk_cell BK220.out 8).trans rfl; have hcz45_9 : w44.cell? ⟨gb220, 9, none⟩ = some (.int .i64 a0_9) := (blk_cell BK220.out 9).trans rfl; have hcz45_10 : w44.cell? ⟨gb220, 10, none⟩ = some (.int .i64 a0_10) := (blk_cell BK220.out 10).trans rfl; have hcz45_11 : w44.cell? ⟨gb220, 11, none⟩ = some (.int .i64 a0_11) := (blk_cell BK220.out 11).trans rfl; have hcz45_12 : w44.cell? ⟨gb220, 12, none⟩ = some (.slice A0_12 l0_12.length c0_12) := (blk_cell BK220.out 12).trans rfl; have hfz45_0 := blk_frozen BK220.out 0; have hfz45_1 := blk_frozen BK220.out 1; have hfz45_2 := blk_frozen BK220.out 2; have hfz45_3 := blk_frozen BK220.out 3; have hfz45_4 := blk_frozen BK220.out 4; have hfz45_5 := blk_frozen BK220.out 5; have hfz45_6 := blk_frozen BK220.out 6; have hfz45_7 := blk_frozen BK220.out 7; have hfz45_8 := blk_frozen BK220.out 8; have hfz45_9 := blk_frozen BK220.out 9; have hfz45_10 := blk_frozen BK220.out 10; have hfz45_11 := blk_frozen BK220.out 11; have hfz45_12 := blk_frozen BK220.out 12))
           go_ret
           exact ⟨by first | rfl | (simp [errW_none, errW_some] <;> rfl) | (simp [*, errW_none, errW_some] <;> rfl), by repeat (first | (with_reducible first | exact HB.out | apply below_alloc | apply pw_below_drewN | apply below_drew1 | refine below_set ?_ GE220.out) | exact HB.out)⟩
         ·rw [if_neg c24] at H
          exact absurd H (by simp)
        ·rw [if_neg c23] at H
         exact absurd H (by simp)
       ·rw [if_neg c21] at H
        have c21b0 : (a0_0 == 2) = false := beq_eq_false_iff_ne.mpr c21
        have c21b1 : (a0_0 != 2) = true := bne_iff_ne.mpr c21
        by_cases c46 : a0_0 = 3
        ·rw [if_pos c46] at H
         have c46b0 : (a0_0 == 3) = true := beq_iff_eq.mpr c46
         have c46b1 : (a0_0 != 3) = false := bne_eq_false_iff_eq.mpr c46
         clear c46
         by_cases c47 : (((((t221 ++ (⟨#[32, 116]⟩ : ByteArray)) ++ t222) ++ (⟨#[32, 35]⟩ : ByteArray)) ++ t223) ++ (⟨#[32]⟩ : ByteArray)).size + 5 ≤ 9223372036854775807
         ·rw [if_pos c47] at H
          have c47b0 := eq_true c47
          have c47b1 : decide ((((((t221 ++ (⟨#[32, 116]⟩ : ByteArray)) ++ t222) ++ (⟨#[32, 35]⟩ : ByteArray)) ++ t223) ++ (⟨#[32]⟩ : ByteArray)).size + 5 ≤ 9223372036854775807) = true := decide_eq_true c47
          try have c47b2 : (9223372036854775807 < (((((t221 ++ (⟨#[32, 116]⟩ : ByteArray)) ++ t222) ++ (⟨#[32, 35]⟩ : ByteArray)) ++ t223) ++ (⟨#[32]⟩ : ByteArray)).size + 5) = False := eq_false (Nat.not_lt.2 c47)
          try (have c47n := c47; simp only [ByteArray.size_append, show (⟨#[32, 116]⟩ : ByteArray).size = 2 from rfl, show (⟨#[32, 35]⟩ : ByteArray).size = 2 from rfl, show (⟨#[32]⟩ : ByteArray).size = 1 from rfl] at c47n; have c47b3 := eq_false (Nat.not_lt.2 c47n); have c47b4 := eq_true c47n; clear c47n)
          replace H := Option.bind_eq_some_iff.mp H
          obtain ⟨t227, A480, H⟩ := H
          replace H : (if ((((((t221 ++ (⟨#[32, 116]⟩ : ByteArray)) ++ t222) ++ (⟨#[32, 35]⟩ : ByteArray)) ++ t223) ++ (⟨#[32]⟩ : ByteArray)) ++ (⟨#[116, 111, 108, 100, 32]⟩ : ByteArray)).size + t227.size ≤ 9223372036854775807 then (if (((((((t221 ++ (⟨#[32, 116]⟩ : ByteArray)) ++ t222) ++ (⟨#[32, 35]⟩ : ByteArray)) ++ t223) ++ (⟨#[32]⟩ : ByteArray)) ++ (⟨#[116, 111, 108, 100, 32]⟩ : ByteArray)) ++ t227).size + 1 ≤ 9223372036854775807 then ((impl_Dec.f (l0_12.length : Int)).bind fun t228 => (if ((((((((t221 ++ (⟨#[32, 116]⟩ : ByteArray)) ++ t222) ++ (⟨#[32, 35]⟩ : ByteArray)) ++ t223) ++ (⟨#[32]⟩ : ByteArray)) ++ (⟨#[116, 111, 108, 100, 32]⟩ : ByteArray)) ++ t227) ++ (⟨#[32]⟩ : ByteArray)).size + t228.size ≤ 9223372036854775807 then (if (((((((((t221 ++ (⟨#[32, 116]⟩ : ByteArray)) ++ t222) ++ (⟨#[32, 35]⟩ : ByteArray)) ++ t223) ++ (⟨#[32]⟩ : ByteArray)) ++ (⟨#[116, 111, 108, 100, 32]⟩ : ByteArray)) ++ t227) ++ (⟨#[32]⟩ : ByteArray)) ++ t228).size + 5 ≤ 9223372036854775807 then (some ((((((((((t221 ++ (⟨#[32, 116]⟩ : ByteArray)) ++ t222) ++ (⟨#[32, 35]⟩ : ByteArray)) ++ t223) ++ (⟨#[32]⟩ : ByteArray)) ++ (⟨#[116, 111, 108, 100, 32]⟩ : ByteArray)) ++ t227) ++ (⟨#[32]⟩ : ByteArray)) ++ t228) ++ (⟨#[32, 114, 111, 119, 115]⟩ : ByteArray))) else (none)) else (none))) else (none)) else (none)) = some r := H
          have A48 := Aside0.mk A480
          clear A480
          by_cases c49 : ((((((t221 ++ (⟨#[32, 116]⟩ : ByteArray)) ++ t222) ++ (⟨#[32, 35]⟩ : ByteArray)) ++ t223) ++ (⟨#[32]⟩ : ByteArray)) ++ (⟨#[116, 111, 108, 100, 32]⟩ : ByteArray)).size + t227.size ≤ 9223372036854775807
          ·rw [if_pos c49] at H
           have c49b0 := eq_true c49
           have c49b1 : decide (((((((t221 ++ (⟨#[32, 116]⟩ : ByteArray)) ++ t222) ++ (⟨#[32, 35]⟩ : ByteArray)) ++ t223) ++ (⟨#[32]⟩ : ByteArray)) ++ (⟨#[116, 111, 108, 100, 32]⟩ : ByteArray)).size + t227.size ≤ 9223372036854775807) = true := decide_eq_true c49
           try have c49b2 : (9223372036854775807 < ((((((t221 ++ (⟨#[32, 116]⟩ : ByteArray)) ++ t222) ++ (⟨#[32, 35]⟩ : ByteArray)) ++ t223) ++ (⟨#[32]⟩ : ByteArray)) ++ (⟨#[116, 111, 108, 100, 32]⟩ : ByteArray)).size + t227.size) = False := eq_false (Nat.not_lt.2 c49)
           try (have c49n := c49; simp only [ByteArray.size_append, show (⟨#[116, 111, 108, 100, 32]⟩ : ByteArray).size = 5 from rfl, show (⟨#[32, 116]⟩ : ByteArray).size = 2 from rfl, show (⟨#[32, 35]⟩ : ByteArray).size = 2 from rfl, show (⟨#[32]⟩ : ByteArray).size = 1 from rfl] at c49n; have c49b3 := eq_false (Nat.not_lt.2 c49n); have c49b4 := eq_true c49n; clear c49n)
           by_cases c50 : (((((((t221 ++ (⟨#[32, 116]⟩ : ByteArray)) ++ t222) ++ (⟨#[32, 35]⟩ : ByteArray)) ++ t223) ++ (⟨#[32]⟩ : ByteArray)) ++ (⟨#[116, 111, 108, 100, 32]⟩ : ByteArray)) ++ t227).size + 1 ≤ 9223372036854775807
           ·rw [if_pos c50] at H
            have c50b0 := eq_true c50
            have c50b1 : decide ((((((((t221 ++ (⟨#[32, 116]⟩ : ByteArray)) ++ t222) ++ (⟨#[32, 35]⟩ : ByteArray)) ++ t223) ++ (⟨#[32]⟩ : ByteArray)) ++ (⟨#[116, 111, 108, 100, 32]⟩ : ByteArray)) ++ t227).size + 1 ≤ 9223372036854775807) = true := decide_eq_true c50
            try have c50b2 : (9223372036854775807 < (((((((t221 ++ (⟨#[32, 116]⟩ : ByteArray)) ++ t222) ++ (⟨#[32, 35]⟩ : ByteArray)) ++ t223) ++ (⟨#[32]⟩ : ByteArray)) ++ (⟨#[116, 111, 108, 100, 32]⟩ : ByteArray)) ++ t227).size + 1) = False := eq_false (Nat.not_lt.2 c50)
            try (have c50n := c50; simp only [ByteArray.size_append, show (⟨#[116, 111, 108, 100, 32]⟩ : ByteArray).size = 5 from rfl, show (⟨#[32, 116]⟩ : ByteArray).size = 2 from rfl, show (⟨#[32, 35]⟩ : ByteArray).size = 2 from rfl, show (⟨#[32]⟩ : ByteArray).size = 1 from rfl] at c50n; have c50b3 := eq_false (Nat.not_lt.2 c50n); have c50b4 := eq_true c50n; clear c50n)
            replace H := Option.bind_eq_some_iff.mp H
            obtain ⟨t228, A510, H⟩ := H
            replace H : (if ((((((((t221 ++ (⟨#[32, 116]⟩ : ByteArray)) ++ t222) ++ (⟨#[32, 35]⟩ : ByteArray)) ++ t223) ++ (⟨#[32]⟩ : ByteArray)) ++ (⟨#[116, 111, 108, 100, 32]⟩ : ByteArray)) ++ t227) ++ (⟨#[32]⟩ : ByteArray)).size + t228.size ≤ 9223372036854775807 then (if (((((((((t221 ++ (⟨#[32, 116]⟩ : ByteArray)) ++ t222) ++ (⟨#[32, 35]⟩ : ByteArray)) ++ t223) ++ (⟨#[32]⟩ : ByteArray)) ++ (⟨#[116, 111, 108, 100, 32]⟩ : ByteArray)) ++ t227) ++ (⟨#[32]⟩ : ByteArray)) ++ t228).size + 5 ≤ 9223372036854775807 then (some ((((((((((t221 ++ (⟨#[32, 116]⟩ : ByteArray)) ++ t222) ++ (⟨#[32, 35]⟩ : ByteArray)) ++ t223) ++ (⟨#[32]⟩ : ByteArray)) ++ (⟨#[116, 111, 108, 100, 32]⟩ : ByteArray)) ++ t227) ++ (⟨#[32]⟩ : ByteArray)) ++ t228) ++ (⟨#[32, 114, 111, 119, 115]⟩ : ByteArray))) else (none)) else (none)) = some r := H
            have A51 := Aside0.mk A510
            clear A510
            by_cases c52 : ((((((((t221 ++ (⟨#[32, 116]⟩ : ByteArray)) ++ t222) ++ (⟨#[32, 35]⟩ : ByteArray)) ++ t223) ++ (⟨#[32]⟩ : ByteArray)) ++ (⟨#[116, 111, 108, 100, 32]⟩ : ByteArray)) ++ t227) ++ (⟨#[32]⟩ : ByteArray)).size + t228.size ≤ 9223372036854775807
            ·rw [if_pos c52] at H
             have c52b0 := eq_true c52
             have c52b1 : decide (((((((((t221 ++ (⟨#[32, 116]⟩ : ByteArray)) ++ t222) ++ (⟨#[32, 35]⟩ : ByteArray)) ++ t223) ++ (⟨#[32]⟩ : ByteArray)) ++ (⟨#[116, 111, 108, 100, 32]⟩ : ByteArray)) ++ t227) ++ (⟨#[32]⟩ : ByteArray)).size + t228.size ≤ 9223372036854775807) = true := decide_eq_true c52
             try have c52b2 : (9223372036854775807 < ((((((((t221 ++ (⟨#[32, 116]⟩ : ByteArray)) ++ t222) ++ (⟨#[32, 35]⟩ : ByteArray)) ++ t223) ++ (⟨#[32]⟩ : ByteArray)) ++ (⟨#[116, 111, 108, 100, 32]⟩ : ByteArray)) ++ t227) ++ (⟨#[32]⟩ : ByteArray)).size + t228.size) = False := eq_false (Nat.not_lt.2 c52)
             try (have c52n := c52; simp only [ByteArray.size_append, show (⟨#[116, 111, 108, 100, 32]⟩ : ByteArray).size = 5 from rfl, show (⟨#[32, 116]⟩ : ByteArray).size = 2 from rfl, show (⟨#[32, 35]⟩ : ByteArray).size = 2 from rfl, show (⟨#[32]⟩ : ByteArray).size = 1 from rfl] at c52n; have c52b3 := eq_false (Nat.not_lt.2 c52n); have c52b4 := eq_true c52n; clear c52n)
             by_cases c53 : (((((((((t221 ++ (⟨#[32, 116]⟩ : ByteArray)) ++ t222) ++ (⟨#[32, 35]⟩ : ByteArray)) ++ t223) ++ (⟨#[32]⟩ : ByteArray)) ++ (⟨#[116, 111, 108, 100, 32]⟩ : ByteArray)) ++ t227) ++ (⟨#[32]⟩ : ByteArray)) ++ t228).size + 5 ≤ 9223372036854775807
             ·rw [if_pos c53] at H
              have c53b0 := eq_true c53
              have c53b1 : decide ((((((((((t221 ++ (⟨#[32, 116]⟩ : ByteArray)) ++ t222) ++ (⟨#[32, 35]⟩ : ByteArray)) ++ t223) ++ (⟨#[32]⟩ : ByteArray)) ++ (⟨#[116, 111, 108, 100, 32]⟩ : ByteArray)) ++ t227) ++ (⟨#[32]⟩ : ByteArray)) ++ t228).size + 5 ≤ 9223372036854775807) = true := decide_eq_true c53
              try have c53b2 : (9223372036854775807 < (((((((((t221 ++ (⟨#[32, 116]⟩ : ByteArray)) ++ t222) ++ (⟨#[32, 35]⟩ : ByteArray)) ++ t223) ++ (⟨#[32]⟩ : ByteArray)) ++ (⟨#[116, 111, 108, 100, 32]⟩ : ByteArray)) ++ t227) ++ (⟨#[32]⟩ : ByteArray)) ++ t228).size + 5) = False := eq_false (Nat.not_lt.2 c53)
              try (have c53n := c53; simp only [ByteArray.size_append, show (⟨#[116, 111, 108, 100, 32]⟩ : ByteArray).size = 5 from rfl, show (⟨#[32, 116]⟩ : ByteArray).size = 2 from rfl, show (⟨#[32, 35]⟩ : ByteArray).size = 2 from rfl, show (⟨#[32]⟩ : ByteArray).size = 1 from rfl] at c53n; have c53b3 := eq_false (Nat.not_lt.2 c53n); have c53b4 := eq_true c53n; clear c53n)
              obtain rfl := Option.some.inj H
              go_enter Tryd.func24, Tryd.ntmps24
              try go_wp2_with (first | ((with_reducible refine gate_dst (N := 1) rfl ?_); refine box_event ?hg (N := 1) ?hd (cs := #[.int .i64 a0_0, .int .i64 a0_1, .int .i64 a0_2, .int .i64 a0_3, .int .i64 a0_4, .string a0_5, .int .i64 a0_6, .int .i64 a0_7, .int .i64 a0_8, .int .i64 a0_9, .int .i64 a0_10, .int .i64 a0_11, .slice A0_12 l0_12.length c0_12]) (t := 52) ?hr ?_; (case hd => rfl); (case hg => rfl); (case hr => first | (go_simp; done) | (go_simp; rfl)); intro gb220 hg w54 hbox hb; have n0_ := Aside0.mk (below_step (by repeat (first | (with_reducible first | exact HB.out | apply below_alloc | apply pw_below_drewN | apply below_drew1) | exact HB.out)) hb); have n1_ := Aside0.mk (hbox); have n2_ := Aside0.mk ((by rw [hg]; exact (below_size (by repeat (first | (with_reducible first | exact HB.out | apply below_alloc | apply pw_below_drewN | apply below_drew1) | exact HB.out))) : w.heap.size ≤ gb220)); have n3_ := Aside0.mk ((by rw [hg]; exact (below_size (by repeat (first | (with_reducible first | exact HB.out | apply below_alloc | apply pw_below_drewN | apply below_drew1) | exact HB.out))) : w.heap.size ≤ gb220)); clear HB; have HB := n0_; have BK220 := n1_; have GW220 := n2_; have GE220 := n3_; clear n0_ n1_ n2_ n3_; clear hb hbox hg))
              have n0_ := Aside0.mk (blk_drew BK220.out)
              have n1_ := Aside0.mk (below_drew1 HB.out)
              clear BK220
              clear HB
              have BK220 := n0_
              have HB := n1_
              clear n0_ n1_
              refine start_ (n := 15) (S := fun w' => w'.cell? ⟨gb220, 0, none⟩ = some (.int .i64 a0_0) ∧ w'.cell? ⟨gb220, 1, none⟩ = some (.int .i64 a0_1) ∧ w'.cell? ⟨gb220, 2, none⟩ = some (.int .i64 a0_2) ∧ w'.cell? ⟨gb220, 3, none⟩ = some (.int .i64 a0_3) ∧ w'.cell? ⟨gb220, 4, none⟩ = some (.int .i64 a0_4) ∧ w'.cell? ⟨gb220, 5, none⟩ = some (.string a0_5) ∧ w'.cell? ⟨gb220, 6, none⟩ = some (.int .i64 a0_6) ∧ w'.cell? ⟨gb220, 7, none⟩ = some (.int .i64 a0_7) ∧ w'.cell? ⟨gb220, 8, none⟩ = some (.int .i64 a0_8) ∧ w'.cell? ⟨gb220, 9, none⟩ = some (.int .i64 a0_9) ∧ w'.cell? ⟨gb220, 10, none⟩ = some (.int .i64 a0_10) ∧ w'.cell? ⟨gb220, 11, none⟩ = some (.int .i64 a0_11) ∧ w'.cell? ⟨gb220, 12, none⟩ = some (.slice A0_12 l0_12.length c0_12)) (ds := []) #[false, false, false, false, false, false, false, false, false, false, false, false, false, false, false] (by kernel_rfl) rfl rfl ⟨(blk_cell BK220.out 0).trans rfl, (blk_cell BK220.out 1).trans rfl, (blk_cell BK220.out 2).trans rfl, (blk_cell BK220.out 3).trans rfl, (blk_cell BK220.out 4).trans rfl, (blk_cell BK220.out 5).trans rfl, (blk_cell BK220.out 6).trans rfl, (blk_cell BK220.out 7).trans rfl, (blk_cell BK220.out 8).trans rfl, (blk_cell BK220.out 9).trans rfl, (blk_cell BK220.out 10).trans rfl, (blk_cell BK220.out 11).trans rfl, (blk_cell BK220.out 12).trans rfl⟩ (fun hHeld => ?_); refine with_tabW impl_ShowEv.tab1 impl_ShowEv.bits1 (fun HT_ HW_ => ?_)
              generalize w54.drew = w55 at BK220 HB hHeld ⊢
              refine pure_ (i := 0) (N := some 4) (v := ?_) (a' := ?_) #[true, false, false, false, false, false, false, false, false, false, false, false, false, false, false] rfl rfl (any_of HT_.out (by kernel_rfl)) (fun _ _ _ h => h) (Or.inl ⟨by rfl, ?_⟩) ?_ ?_
              rotate_left
              ·intro w'
               go_simp
               with_reducible rfl
              rotate_left
              ·simp only [Act.put, List.setIfInBounds_toArray, List.set_cons_zero, List.set_cons_succ, i64_w, i32_w]
               rfl
              refine pure_ (i := 4) (N := some 8) (v := ?_) (a' := ?_) #[true, false, false, false, true, false, false, false, false, false, false, false, false, false, false] rfl rfl (any_of HT_.out (by kernel_rfl)) (fun _ _ _ h => h) (Or.inl ⟨by rfl, ?_⟩) ?_ ?_
              rotate_left
              ·intro w'
               go_simp
               with_reducible rfl
              rotate_left
              ·simp only [Act.put, List.setIfInBounds_toArray, List.set_cons_zero, List.set_cons_succ, i64_w, i32_w]
               rfl
              refine pure_ (i := 9) (N := some 13) (v := ?_) (a' := ?_) #[true, false, false, false, true, false, false, false, false, true, false, false, false, false, false] rfl rfl (any_of HT_.out (by kernel_rfl)) (fun _ _ _ h => h) (Or.inl ⟨by rfl, ?_⟩) ?_ ?_
              rotate_left
              ·intro w'
               go_simp
               with_reducible rfl
              rotate_left
              ·simp only [Act.put, List.setIfInBounds_toArray, List.set_cons_zero, List.set_cons_succ, i64_w, i32_w]
               rfl
              refine take_ (i := 1) (N := some 5) (v := ?_) (a' := ?_) #[true, true, false, false, true, false, false, false, false, true, false, false, false, false, false] rfl rfl (take_ofW HT_.out HW_.out (by kernel_rfl)) (fun _ _ _ h => h) (Or.inl ⟨by rfl, ?_⟩) hHeld ?_ ?_
              rotate_left
              ·rintro w' ⟨s0, s1, s2, s3, s4, s5, s6, s7, s8, s9, s10, s11, s12⟩
               go_simp
               with_reducible rfl
              rotate_left
              ·simp only [Act.put, List.setIfInBounds_toArray, List.set_cons_zero, List.set_cons_succ, i64_w, i32_w]
               rfl
              refine take_ (i := 5) (N := some 9) (v := ?_) (a' := ?_) #[true, true, false, false, true, true, false, false, false, true, false, false, false, false, false] rfl rfl (take_ofW HT_.out HW_.out (by kernel_rfl)) (fun _ _ _ h => h) (Or.inl ⟨by rfl, ?_⟩) hHeld ?_ ?_
              rotate_left
              ·rintro w' ⟨s0, s1, s2, s3, s4, s5, s6, s7, s8, s9, s10, s11, s12⟩
               go_simp
               with_reducible rfl
              rotate_left
              ·simp only [Act.put, List.setIfInBounds_toArray, List.set_cons_zero, List.set_cons_succ, i64_w, i32_w]
               rfl
              refine take_ (i := 10) (N := some 14) (v := ?_) (a' := ?_) #[true, true, false, false, true, true, false, false, false, true, true, false, false, false, false] rfl rfl (take_ofW HT_.out HW_.out (by kernel_rfl)) (fun _ _ _ h => h) (Or.inl ⟨by rfl, ?_⟩) hHeld ?_ ?_
              rotate_left
              ·rintro w' ⟨s0, s1, s2, s3, s4, s5, s6, s7, s8, s9, s10, s11, s12⟩
               go_simp
               with_reducible rfl
              rotate_left
              ·simp only [Act.put, List.setIfInBounds_toArray, List.set_cons_zero, List.set_cons_succ, i64_w, i32_w]
               rfl
              refine one_ (i := 2) (N := some 6) #[true, true, true, false, true, true, false, false, false, true, true, false, false, false, false] rfl rfl (one_of HT_.out (by kernel_rfl)) (by decide) (fun K hK => ?_)
              refine goes_ Tryd.func47 (by kernel_rfl) rfl #[.int .i64 a0_3] (by rfl) rfl rfl (by (try simp only [List.map_toArray, List.map_cons, List.map_nil]); first | done | rfl | (simp only [List.length_drop, List.length_take]; rfl)) ?_
              with_reducible refine (impl_Dec.calls a0_3 t221 _ A2.out (HT.out _ (by repeat (first | (with_reducible first | exact HB.out | apply below_alloc | apply pw_below_drewN | apply below_drew1 | refine below_set ?_ GE220.out) | exact HB.out)))).mono ?_
              rintro e w56 ⟨rfl, hb⟩
              refine ⟨_, rfl, ?_⟩
              have n0_ := Aside0.mk (blk_below (g := gb220) (o := .cells #[.int .i64 a0_0, .int .i64 a0_1, .int .i64 a0_2, .int .i64 a0_3, .int .i64 a0_4, .string a0_5, .int .i64 a0_6, .int .i64 a0_7, .int .i64 a0_8, .int .i64 a0_9, .int .i64 a0_10, .int .i64 a0_11, .slice A0_12 l0_12.length c0_12] 52 (0, 0)) (by (with_reducible repeat (first | refine blk_drewN ?_ _ | refine blk_drew ?_ | refine blk_alloc ?_ _)); exact BK220.out) hb)
              have n1_ := Aside0.mk (below_step (by repeat (first | (with_reducible first | exact HB.out | apply below_alloc | apply pw_below_drewN | apply below_drew1 | refine below_set ?_ GE220.out) | exact HB.out)) hb)
              clear BK220
              clear HB
              have BK220 := n0_
              have HB := n1_
              clear n0_ n1_
              (try clear hb)
              (try clear hb2)
              (try clear hk)
              (try clear hi)
              refine hK.out _ _ ⟨(blk_cell BK220.out 0).trans rfl, (blk_cell BK220.out 1).trans rfl, (blk_cell BK220.out 2).trans rfl, (blk_cell BK220.out 3).trans rfl, (blk_cell BK220.out 4).trans rfl, (blk_cell BK220.out 5).trans rfl, (blk_cell BK220.out 6).trans rfl, (blk_cell BK220.out 7).trans rfl, (blk_cell BK220.out 8).trans rfl, (blk_cell BK220.out 9).trans rfl, (blk_cell BK220.out 10).trans rfl, (blk_cell BK220.out 11).trans rfl, (blk_cell BK220.out 12).trans rfl⟩ (fun hHeld => ?_)
              clear hK K
              refine norm_ (a' := ?_) ?_ ?_
              rotate_left
              ·show Act.put _ (some 6) _ = _
               simp only [Act.put, List.setIfInBounds_toArray, List.set_cons_zero, List.set_cons_succ, i64_w, i32_w]
               rfl
              refine pure_ (i := 3) (N := some 7) (v := ?_) (a' := ?_) #[true, true, true, true, true, true, false, false, false, true, true, false, false, false, false] rfl rfl (any_of HT_.out (by kernel_rfl)) (fun _ _ _ h => h) (Or.inl ⟨by rfl, ?_⟩) ?_ ?_
              rotate_left
              ·intro w'
               go_simp
               with_reducible rfl
              rotate_left
              ·simp only [Act.put, List.setIfInBounds_toArray, List.set_cons_zero, List.set_cons_succ, i64_w, i32_w]
               rfl
              refine one_ (i := 6) (N := some 10) #[true, true, true, true, true, true, true, false, false, true, true, false, false, false, false] rfl rfl (one_of HT_.out (by kernel_rfl)) (by decide) (fun K hK => ?_)
              refine goes_ Tryd.func47 (by kernel_rfl) rfl #[.int .i64 a0_1] (by rfl) rfl rfl (by (try simp only [List.map_toArray, List.map_cons, List.map_nil]); first | done | rfl | (simp only [List.length_drop, List.length_take]; rfl)) ?_
              with_reducible refine (impl_Dec.calls a0_1 t222 _ A4.out (HT.out _ (by repeat (first | (with_reducible first | exact HB.out | apply below_alloc | apply pw_below_drewN | apply below_drew1 | refine below_set ?_ GE220.out) | exact HB.out)))).mono ?_
              rintro e w57 ⟨rfl, hb⟩
              refine ⟨_, rfl, ?_⟩
              have n0_ := Aside0.mk (blk_below (g := gb220) (o := .cells #[.int .i64 a0_0, .int .i64 a0_1, .int .i64 a0_2, .int .i64 a0_3, .int .i64 a0_4, .string a0_5, .int .i64 a0_6, .int .i64 a0_7, .int .i64 a0_8, .int .i64 a0_9, .int .i64 a0_10, .int .i64 a0_11, .slice A0_12 l0_12.length c0_12] 52 (0, 0)) (by (with_reducible repeat (first | refine blk_drewN ?_ _ | refine blk_drew ?_ | refine blk_alloc ?_ _)); exact BK220.out) hb)
              have n1_ := Aside0.mk (below_step (by repeat (first | (with_reducible first | exact HB.out | apply below_alloc | apply pw_below_drewN | apply below_drew1 | refine below_set ?_ GE220.out) | exact HB.out)) hb)
              clear BK220
              clear HB
              have BK220 := n0_
              have HB := n1_
              clear n0_ n1_
              (try clear hb)
              (try clear hb2)
              (try clear hk)
              (try clear hi)
              refine hK.out _ _ ⟨(blk_cell BK220.out 0).trans rfl, (blk_cell BK220.out 1).trans rfl, (blk_cell BK220.out 2).trans rfl, (blk_cell BK220.out 3).trans rfl, (blk_cell BK220.out 4).trans rfl, (blk_cell BK220.out 5).trans rfl, (blk_cell BK220.out 6).trans rfl, (blk_cell BK220.out 7).trans rfl, (blk_cell BK220.out 8).trans rfl, (blk_cell BK220.out 9).trans rfl, (blk_cell BK220.out 10).trans rfl, (blk_cell BK220.out 11).trans rfl, (blk_cell BK220.out 12).trans rfl⟩ (fun hHeld => ?_)
              clear hK K
              refine norm_ (a' := ?_) ?_ ?_
              rotate_left
              ·show Act.put _ (some 10) _ = _
               simp only [Act.put, List.setIfInBounds_toArray, List.set_cons_zero, List.set_cons_succ, i64_w, i32_w]
               rfl
              refine pure_ (i := 7) (N := some 11) (v := ?_) (a' := ?_) #[true, true, true, true, true, true, true, true, false, true, true, false, false, false, false] rfl rfl (any_of HT_.out (by kernel_rfl)) (fun _ _ _ h => h) (Or.inl ⟨by rfl, ?_⟩) ?_ ?_
              rotate_left
              ·intro w'
               go_simp
               with_reducible rfl
              rotate_left
              ·simp only [Act.put, List.setIfInBounds_toArray, List.set_cons_zero, List.set_cons_succ, i64_w, i32_w]
               rfl
              refine pure_ (i := 8) (N := some 12) (v := ?_) (a' := ?_) #[true, true, true, true, true, true, true, true, true, true, true, false, false, false, false] rfl rfl (any_of HT_.out (by kernel_rfl)) (fun _ _ _ h => h) (Or.inl ⟨by rfl, ?_⟩) ?_ ?_
              rotate_left
              ·intro w'
               go_simp
               with_reducible rfl
              rotate_left
              ·simp only [Act.put, List.setIfInBounds_toArray, List.set_cons_zero, List.set_cons_succ, i64_w, i32_w]
               rfl
              refine one_ (i := 11) (N := some 15) #[true, true, true, true, true, true, true, true, true, true, true, true, false, false, false] rfl rfl (one_of HT_.out (by kernel_rfl)) (by decide) (fun K hK => ?_)
              refine goes_ Tryd.func47 (by kernel_rfl) rfl #[.int .i64 a0_2] (by rfl) rfl rfl (by (try simp only [List.map_toArray, List.map_cons, List.map_nil]); first | done | rfl | (simp only [List.length_drop, List.length_take]; rfl)) ?_
              with_reducible refine (impl_Dec.calls a0_2 t223 _ A7.out (HT.out _ (by repeat (first | (with_reducible first | exact HB.out | apply below_alloc | apply pw_below_drewN | apply below_drew1 | refine below_set ?_ GE220.out) | exact HB.out)))).mono ?_
              rintro e w58 ⟨rfl, hb⟩
              refine ⟨_, rfl, ?_⟩
              have n0_ := Aside0.mk (blk_below (g := gb220) (o := .cells #[.int .i64 a0_0, .int .i64 a0_1, .int .i64 a0_2, .int .i64 a0_3, .int .i64 a0_4, .string a0_5, .int .i64 a0_6, .int .i64 a0_7, .int .i64 a0_8, .int .i64 a0_9, .int .i64 a0_10, .int .i64 a0_11, .slice A0_12 l0_12.length c0_12] 52 (0, 0)) (by (with_reducible repeat (first | refine blk_drewN ?_ _ | refine blk_drew ?_ | refine blk_alloc ?_ _)); exact BK220.out) hb)
              have n1_ := Aside0.mk (below_step (by repeat (first | (with_reducible first | exact HB.out | apply below_alloc | apply pw_below_drewN | apply below_drew1 | refine below_set ?_ GE220.out) | exact HB.out)) hb)
              clear BK220
              clear HB
              have BK220 := n0_
              have HB := n1_
              clear n0_ n1_
              (try clear hb)
              (try clear hb2)
              (try clear hk)
              (try clear hi)
              refine hK.out _ _ ⟨(blk_cell BK220.out 0).trans rfl, (blk_cell BK220.out 1).trans rfl, (blk_cell BK220.out 2).trans rfl, (blk_cell BK220.out 3).trans rfl, (blk_cell BK220.out 4).trans rfl, (blk_cell BK220.out 5).trans rfl, (blk_cell BK220.out 6).trans rfl, (blk_cell BK220.out 7).trans rfl, (blk_cell BK220.out 8).trans rfl, (blk_cell BK220.out 9).trans rfl, (blk_cell BK220.out 10).trans rfl, (blk_cell BK220.out 11).trans rfl, (blk_cell BK220.out 12).trans rfl⟩ (fun hHeld => ?_)
              clear hK K
              refine norm_ (a' := ?_) ?_ ?_
              rotate_left
              ·show Act.put _ (some 15) _ = _
               simp only [Act.put, List.setIfInBounds_toArray, List.set_cons_zero, List.set_cons_succ, i64_w, i32_w]
               rfl
              refine pure_ (i := 12) (N := some 16) (v := ?_) (a' := ?_) #[true, true, true, true, true, true, true, true, true, true, true, true, true, false, false] rfl rfl (any_of HT_.out (by kernel_rfl)) (fun _ _ _ h => h) (Or.inl ⟨by rfl, ?_⟩) ?_ ?_
              rotate_left
              ·intro w'
               go_simp
               with_reducible rfl
              rotate_left
              ·simp only [Act.put, List.setIfInBounds_toArray, List.set_cons_zero, List.set_cons_succ, i64_w, i32_w]
               rfl
              refine pure_ (i := 13) (N := some 17) (v := ?_) (a' := ?_) #[true, true, true, true, true, true, true, true, true, true, true, true, true, true, false] rfl rfl (any_of HT_.out (by kernel_rfl)) (fun _ _ _ h => h) (Or.inl ⟨by rfl, ?_⟩) ?_ ?_
              rotate_left
              ·intro w'
               go_simp
               with_reducible rfl
              rotate_left
              ·simp only [Act.put, List.setIfInBounds_toArray, List.set_cons_zero, List.set_cons_succ, i64_w, i32_w]
               rfl
              refine pure_ (i := 14) (N := some 3) (v := ?_) (a' := ?_) #[true, true, true, true, true, true, true, true, true, true, true, true, true, true, true] rfl rfl (any_of HT_.out (by kernel_rfl)) (fun _ _ _ h => h) (Or.inl ⟨by rfl, ?_⟩) ?_ ?_
              rotate_left
              ·intro w'
               go_simp
               with_reducible rfl
              rotate_left
              ·simp only [Act.put, List.setIfInBounds_toArray, List.set_cons_zero, List.set_cons_succ, i64_w, i32_w]
               rfl
              refine done_ (done_of HT_.out (by kernel_rfl)) ?_
              have hcz59_0 : w58.cell? ⟨gb220, 0, none⟩ = some (.int .i64 a0_0) := (blk_cell BK220.out 0).trans rfl
              have hcz59_1 : w58.cell? ⟨gb220, 1, none⟩ = some (.int .i64 a0_1) := (blk_cell BK220.out 1).trans rfl
              have hcz59_2 : w58.cell? ⟨gb220, 2, none⟩ = some (.int .i64 a0_2) := (blk_cell BK220.out 2).trans rfl
              have hcz59_3 : w58.cell? ⟨gb220, 3, none⟩ = some (.int .i64 a0_3) := (blk_cell BK220.out 3).trans rfl
              have hcz59_4 : w58.cell? ⟨gb220, 4, none⟩ = some (.int .i64 a0_4) := (blk_cell BK220.out 4).trans rfl
              have hcz59_5 : w58.cell? ⟨gb220, 5, none⟩ = some (.string a0_5) := (blk_cell BK220.out 5).trans rfl
              have hcz59_6 : w58.cell? ⟨gb220, 6, none⟩ = some (.int .i64 a0_6) := (blk_cell BK220.out 6).trans rfl
              have hcz59_7 : w58.cell? ⟨gb220, 7, none⟩ = some (.int .i64 a0_7) := (blk_cell BK220.out 7).trans rfl
              have hcz59_8 : w58.cell? ⟨gb220, 8, none⟩ = some (.int .i64 a0_8) := (blk_cell BK220.out 8).trans rfl
              have hcz59_9 : w58.cell? ⟨gb220, 9, none⟩ = some (.int .i64 a0_9) := (blk_cell BK220.out 9).trans rfl
              have hcz59_10 : w58.cell? ⟨gb220, 10, none⟩ = some (.int .i64 a0_10) := (blk_cell BK220.out 10).trans rfl
              have hcz59_11 : w58.cell? ⟨gb220, 11, none⟩ = some (.int .i64 a0_11) := (blk_cell BK220.out 11).trans rfl
              have hcz59_12 : w58.cell? ⟨gb220, 12, none⟩ = some (.slice A0_12 l0_12.length c0_12) := (blk_cell BK220.out 12).trans rfl
              have hfz59_0 := blk_frozen BK220.out 0
              have hfz59_1 := blk_frozen BK220.out 1
              have hfz59_2 := blk_frozen BK220.out 2
              have hfz59_3 := blk_frozen BK220.out 3
              have hfz59_4 := blk_frozen BK220.out 4
              have hfz59_5 := blk_frozen BK220.out 5
              have hfz59_6 := blk_frozen BK220.out 6
              have hfz59_7 := blk_frozen BK220.out 7
              have hfz59_8 := blk_frozen BK220.out 8
              have hfz59_9 := blk_frozen BK220.out 9
              have hfz59_10 := blk_frozen BK220.out 10
              have hfz59_11 := blk_frozen BK220.out 11
              have hfz59_12 := blk_frozen BK220.out 12
              try go_wp2
              have n0_ := Aside0.mk (blk_drew BK220.out)
              have n1_ := Aside0.mk (below_drew1 HB.out)
              clear BK220
              clear HB
              have BK220 := n0_
              have HB := n1_
              clear n0_ n1_
              refine start_ (n := 14) (S := fun w' => w'.cell? ⟨gb220, 0, none⟩ = some (.int .i64 a0_0) ∧ w'.cell? ⟨gb220, 1, none⟩ = some (.int .i64 a0_1) ∧ w'.cell? ⟨gb220, 2, none⟩ = some (.int .i64 a0_2) ∧ w'.cell? ⟨gb220, 3, none⟩ = some (.int .i64 a0_3) ∧ w'.cell? ⟨gb220, 4, none⟩ = some (.int .i64 a0_4) ∧ w'.cell? ⟨gb220, 5, none⟩ = some (.string a0_5) ∧ w'.cell? ⟨gb220, 6, none⟩ = some (.int .i64 a0_6) ∧ w'.cell? ⟨gb220, 7, none⟩ = some (.int .i64 a0_7) ∧ w'.cell? ⟨gb220, 8, none⟩ = some (.int .i64 a0_8) ∧ w'.cell? ⟨gb220, 9, none⟩ = some (.int .i64 a0_9) ∧ w'.cell? ⟨gb220, 10, none⟩ = some (.int .i64 a0_10) ∧ w'.cell? ⟨gb220, 11, none⟩ = some (.int .i64 a0_11) ∧ w'.cell? ⟨gb220, 12, none⟩ = some (.slice A0_12 l0_12.length c0_12)) (ds := []) #[false, false, false, false, false, false, false, false, false, false, false, false, false, false] (by kernel_rfl) rfl rfl ⟨(blk_cell BK220.out 0).trans rfl, (blk_cell BK220.out 1).trans rfl, (blk_cell BK220.out 2).trans rfl, (blk_cell BK220.out 3).trans rfl, (blk_cell BK220.out 4).trans rfl, (blk_cell BK220.out 5).trans rfl, (blk_cell BK220.out 6).trans rfl, (blk_cell BK220.out 7).trans rfl, (blk_cell BK220.out 8).trans rfl, (blk_cell BK220.out 9).trans rfl, (blk_cell BK220.out 10).trans rfl, (blk_cell BK220.out 11).trans rfl, (blk_cell BK220.out 12).trans rfl⟩ (fun hHeld => ?_); refine with_tabW impl_ShowEv.tab11 impl_ShowEv.bits11 (fun HT_ HW_ => ?_)
              generalize w58.drew = w60 at BK220 HB hHeld ⊢
              refine pure_ (i := 0) (N := some 48) (v := ?_) (a' := ?_) #[true, false, false, false, false, false, false, false, false, false, false, false, false, false] rfl rfl (any_of HT_.out (by kernel_rfl)) (fun _ _ _ h => h) (Or.inl ⟨by rfl, ?_⟩) ?_ ?_
              rotate_left
              ·intro w'
               go_simp
               with_reducible rfl
              rotate_left
              ·simp only [Act.put, List.setIfInBounds_toArray, List.set_cons_zero, List.set_cons_succ, i64_w, i32_w]
               rfl
              refine pure_ (i := 1) (N := some 49) (v := ?_) (a' := ?_) #[true, true, false, false, false, false, false, false, false, false, false, false, false, false] rfl rfl (any_of HT_.out (by kernel_rfl)) (fun _ _ _ h => h) (Or.inl ⟨by rfl, ?_⟩) ?_ ?_
              rotate_left
              ·intro w'
               go_simp
               with_reducible rfl
              rotate_left
              ·simp only [Act.put, List.setIfInBounds_toArray, List.set_cons_zero, List.set_cons_succ, i64_w, i32_w]
               rfl
              refine pure_ (i := 2) (N := some 50) (v := ?_) (a' := ?_) #[true, true, true, false, false, false, false, false, false, false, false, false, false, false] rfl rfl (any_of HT_.out (by kernel_rfl)) (fun _ _ _ h => h) (Or.inl ⟨by rfl, ?_⟩) ?_ ?_
              rotate_left
              ·intro w'
               go_simp
               with_reducible rfl
              rotate_left
              ·simp only [Act.put, List.setIfInBounds_toArray, List.set_cons_zero, List.set_cons_succ, i64_w, i32_w]
               rfl
              refine pure_ (i := 7) (N := some 55) (v := ?_) (a' := ?_) #[true, true, true, false, false, false, false, true, false, false, false, false, false, false] rfl rfl (any_of HT_.out (by kernel_rfl)) (fun _ _ _ h => h) (Or.inl ⟨by rfl, ?_⟩) ?_ ?_
              rotate_left
              ·intro w'
               go_simp
               with_reducible rfl
              rotate_left
              ·simp only [Act.put, List.setIfInBounds_toArray, List.set_cons_zero, List.set_cons_succ, i64_w, i32_w]
               rfl
              refine take_ (i := 3) (N := some 51) (v := ?_) (a' := ?_) #[true, true, true, true, false, false, false, true, false, false, false, false, false, false] rfl rfl (take_ofW HT_.out HW_.out (by kernel_rfl)) (fun _ _ _ h => h) (Or.inl ⟨by rfl, ?_⟩) hHeld ?_ ?_
              rotate_left
              ·rintro w' ⟨s0, s1, s2, s3, s4, s5, s6, s7, s8, s9, s10, s11, s12⟩
               go_simp
               with_reducible rfl
              rotate_left
              ·simp only [Act.put, List.setIfInBounds_toArray, List.set_cons_zero, List.set_cons_succ, i64_w, i32_w]
               rfl
              refine take_ (i := 8) (N := some 56) (v := ?_) (a' := ?_) #[true, true, true, true, false, false, false, true, true, false, false, false, false, false] rfl rfl (take_ofW HT_.out HW_.out (by kernel_rfl)) (fun _ _ _ h => h) (Or.inl ⟨by rfl, ?_⟩) hHeld ?_ ?_
              rotate_left
              ·rintro w' ⟨s0, s1, s2, s3, s4, s5, s6, s7, s8, s9, s10, s11, s12⟩
               go_simp
               with_reducible rfl
              rotate_left
              ·simp only [Act.put, List.setIfInBounds_toArray, List.set_cons_zero, List.set_cons_succ, i64_w, i32_w]
               rfl
              refine pure_ (i := 9) (N := some 57) (v := ?_) (a' := ?_) #[true, true, true, true, false, false, false, true, true, true, false, false, false, false] rfl rfl (any_of HT_.out (by kernel_rfl)) (fun _ _ _ h => h) (Or.inl ⟨by rfl, ?_⟩) ?_ ?_
              rotate_left
              ·intro w'
               go_simp
               with_reducible rfl
              rotate_left
              ·simp only [Act.put, List.setIfInBounds_toArray, List.set_cons_zero, List.set_cons_succ, i64_w, i32_w]
               rfl
              refine one_ (i := 4) (N := some 52) #[true, true, true, true, true, false, false, true, true, true, false, false, false, false] rfl rfl (one_of HT_.out (by kernel_rfl)) (by decide) (fun K hK => ?_)
              refine goes_ Tryd.func48 (by kernel_rfl) rfl #[.int .i64 a0_8] (by rfl) rfl rfl (by (try simp only [List.map_toArray, List.map_cons, List.map_nil]); first | done | rfl | (simp only [List.length_drop, List.length_take]; rfl)) ?_
              with_reducible refine (impl_CodeWord.calls a0_8 t227 _ A48.out).mono ?_
              rintro e w61 ⟨rfl, hb⟩
              refine ⟨_, rfl, ?_⟩
              have n0_ := Aside0.mk (blk_below (g := gb220) (o := .cells #[.int .i64 a0_0, .int .i64 a0_1, .int .i64 a0_2, .int .i64 a0_3, .int .i64 a0_4, .string a0_5, .int .i64 a0_6, .int .i64 a0_7, .int .i64 a0_8, .int .i64 a0_9, .int .i64 a0_10, .int .i64 a0_11, .slice A0_12 l0_12.length c0_12] 52 (0, 0)) (by (with_reducible repeat (first | refine blk_drewN ?_ _ | refine blk_drew ?_ | refine blk_alloc ?_ _)); exact BK220.out) hb)
              have n1_ := Aside0.mk (below_step (by repeat (first | (with_reducible first | exact HB.out | apply below_alloc | apply pw_below_drewN | apply below_drew1 | refine below_set ?_ GE220.out) | exact HB.out)) hb)
              clear BK220
              clear HB
              have BK220 := n0_
              have HB := n1_
              clear n0_ n1_
              (try clear hb)
              (try clear hb2)
              (try clear hk)
              (try clear hi)
              refine hK.out _ _ ⟨(blk_cell BK220.out 0).trans rfl, (blk_cell BK220.out 1).trans rfl, (blk_cell BK220.out 2).trans rfl, (blk_cell BK220.out 3).trans rfl, (blk_cell BK220.out 4).trans rfl, (blk_cell BK220.out 5).trans rfl, (blk_cell BK220.out 6).trans rfl, (blk_cell BK220.out 7).trans rfl, (blk_cell BK220.out 8).trans rfl, (blk_cell BK220.out 9).trans rfl, (blk_cell BK220.out 10).trans rfl, (blk_cell BK220.out 11).trans rfl, (blk_cell BK220.out 12).trans rfl⟩ (fun hHeld => ?_)
              clear hK K
              refine norm_ (a' := ?_) ?_ ?_
              rotate_left
              ·show Act.put _ (some 52) _ = _
               simp only [Act.put, List.setIfInBounds_toArray, List.set_cons_zero, List.set_cons_succ, i64_w, i32_w]
               rfl
              refine pure_ (i := 5) (N := some 53) (v := ?_) (a' := ?_) #[true, true, true, true, true, true, false, true, true, true, false, false, false, false] rfl rfl (any_of HT_.out (by kernel_rfl)) (fun _ _ _ h => h) (Or.inl ⟨by rfl, ?_⟩) ?_ ?_
              rotate_left
              ·intro w'
               go_simp
               with_reducible rfl
              rotate_left
              ·simp only [Act.put, List.setIfInBounds_toArray, List.set_cons_zero, List.set_cons_succ, i64_w, i32_w]
               rfl
              refine pure_ (i := 6) (N := some 54) (v := ?_) (a' := ?_) #[true, true, true, true, true, true, true, true, true, true, false, false, false, false] rfl rfl (any_of HT_.out (by kernel_rfl)) (fun _ _ _ h => h) (Or.inl ⟨by rfl, ?_⟩) ?_ ?_
              rotate_left
              ·intro w'
               go_simp
               with_reducible rfl
              rotate_left
              ·simp only [Act.put, List.setIfInBounds_toArray, List.set_cons_zero, List.set_cons_succ, i64_w, i32_w]
               rfl
              refine one_ (i := 10) (N := some 58) #[true, true, true, true, true, true, true, true, true, true, true, false, false, false] rfl rfl (one_of HT_.out (by kernel_rfl)) (by decide) (fun K hK => ?_)
              refine goes_ Tryd.func47 (by kernel_rfl) rfl #[.int .i64 (l0_12.length : Int)] (by rfl) rfl rfl (by (try simp only [List.map_toArray, List.map_cons, List.map_nil]); first | done | rfl | (simp only [List.length_drop, List.length_take]; rfl)) ?_
              with_reducible refine (impl_Dec.calls (l0_12.length : Int) t228 _ A51.out (HT.out _ (by repeat (first | (with_reducible first | exact HB.out | apply below_alloc | apply pw_below_drewN | apply below_drew1 | refine below_set ?_ GE220.out) | exact HB.out)))).mono ?_
              rintro e w62 ⟨rfl, hb⟩
              refine ⟨_, rfl, ?_⟩
              have n0_ := Aside0.mk (blk_below (g := gb220) (o := .cells #[.int .i64 a0_0, .int .i64 a0_1, .int .i64 a0_2, .int .i64 a0_3, .int .i64 a0_4, .string a0_5, .int .i64 a0_6, .int .i64 a0_7, .int .i64 a0_8, .int .i64 a0_9, .int .i64 a0_10, .int .i64 a0_11, .slice A0_12 l0_12.length c0_12] 52 (0, 0)) (by (with_reducible repeat (first | refine blk_drewN ?_ _ | refine blk_drew ?_ | refine blk_alloc ?_ _)); exact BK220.out) hb)
              have n1_ := Aside0.mk (below_step (by repeat (first | (with_reducible first | exact HB.out | apply below_alloc | apply pw_below_drewN | apply below_drew1 | refine below_set ?_ GE220.out) | exact HB.out)) hb)
              clear BK220
              clear HB
              have BK220 := n0_
              have HB := n1_
              clear n0_ n1_
              (try clear hb)
              (try clear hb2)
              (try clear hk)
              (try clear hi)
              refine hK.out _ _ ⟨(blk_cell BK220.out 0).trans rfl, (blk_cell BK220.out 1).trans rfl, (blk_cell BK220.out 2).trans rfl, (blk_cell BK220.out 3).trans rfl, (blk_cell BK220.out 4).trans rfl, (blk_cell BK220.out 5).trans rfl, (blk_cell BK220.out 6).trans rfl, (blk_cell BK220.out 7).trans rfl, (blk_cell BK220.out 8).trans rfl, (blk_cell BK220.out 9).trans rfl, (blk_cell BK220.out 10).trans rfl, (blk_cell BK220.out 11).trans rfl, (blk_cell BK220.out 12).trans rfl⟩ (fun hHeld => ?_)
              clear hK K
              refine norm_ (a' := ?_) ?_ ?_
              rotate_left
              ·show Act.put _ (some 58) _ = _
               simp only [Act.put, List.setIfInBounds_toArray, List.set_cons_zero, List.set_cons_succ, i64_w, i32_w]
               rfl
              refine pure_ (i := 11) (N := some 59) (v := ?_) (a' := ?_) #[true, true, true, true, true, true, true, true, true, true, true, true, false, false] rfl rfl (any_of HT_.out (by kernel_rfl)) (fun _ _ _ h => h) (Or.inl ⟨by rfl, ?_⟩) ?_ ?_
              rotate_left
              ·intro w'
               go_simp
               with_reducible rfl
              rotate_left
              ·simp only [Act.put, List.setIfInBounds_toArray, List.set_cons_zero, List.set_cons_succ, i64_w, i32_w]
               rfl
              refine pure_ (i := 12) (N := some 60) (v := ?_) (a' := ?_) #[true, true, true, true, true, true, true, true, true, true, true, true, true, false] rfl rfl (any_of HT_.out (by kernel_rfl)) (fun _ _ _ h => h) (Or.inl ⟨by rfl, ?_⟩) ?_ ?_
              rotate_left
              ·intro w'
               go_simp
               with_reducible rfl
              rotate_left
              ·simp only [Act.put, List.setIfInBounds_toArray, List.set_cons_zero, List.set_cons_succ, i64_w, i32_w]
               rfl
              refine pure_ (i := 13) (N := some 2) (v := ?_) (a' := ?_) #[true, true, true, true, true, true, true, true, true, true, true, true, true, true] rfl rfl (any_of HT_.out (by kernel_rfl)) (fun _ _ _ h => h) (Or.inl ⟨by rfl, ?_⟩) ?_ ?_
              rotate_left
              ·intro w'
               go_simp
               with_reducible rfl
              rotate_left
              ·simp only [Act.put, List.setIfInBounds_toArray, List.set_cons_zero, List.set_cons_succ, i64_w, i32_w]
               rfl
              refine done_ (done_of HT_.out (by kernel_rfl)) ?_
              try go_wp2
              go_ret
              exact ⟨by first | rfl | (simp [errW_none, errW_some] <;> rfl) | (simp [*, errW_none, errW_some] <;> rfl), by repeat (first | (with_reducible first | exact HB.out | apply below_alloc | apply pw_below_drewN | apply below_drew1 | refine below_set ?_ GE220.out) | exact HB.out)⟩
             ·rw [if_neg c53] at H
              exact absurd H (by simp)
            ·rw [if_neg c52] at H
             exact absurd H (by simp)
           ·rw [if_neg c50] at H
            exact absurd H (by simp)
          ·rw [if_neg c49] at H
           exact absurd H (by simp)
         ·rw [if_neg c47] at H
          exact absurd H (by simp)
        ·rw [if_neg c46] at H
         have c46b0 : (a0_0 == 3) = false := beq_eq_false_iff_ne.mpr c46
         have c46b1 : (a0_0 != 3) = true := bne_iff_ne.mpr c46
         obtain rfl := Option.some.inj H
         go_enter Tryd.func24, Tryd.ntmps24
         try go_wp2_with (first | ((with_reducible refine gate_dst (N := 1) rfl ?_); refine box_event ?hg (N := 1) ?hd (cs := #[.int .i64 a0_0, .int .i64 a0_1, .int .i64 a0_2, .int .i64 a0_3, .int .i64 a0_4, .string a0_5, .int .i64 a0_6, .int .i64 a0_7, .int .i64 a0_8, .int .i64 a0_9, .int .i64 a0_10, .int .i64 a0_11, .slice A0_12 l0_12.length c0_12]) (t := 52) ?hr ?_; (case hd => rfl); (case hg => rfl); (case hr => first | (go_simp; done) | (go_simp; rfl)); intro gb220 hg w63 hbox hb; have n0_ := Aside0.mk (below_step (by repeat (first | (with_reducible first | exact HB.out | apply below_alloc | apply pw_below_drewN | apply below_drew1) | exact HB.out)) hb); have n1_ := Aside0.mk (hbox); have n2_ := Aside0.mk ((by rw [hg]; exact (below_size (by repeat (first | (with_reducible first | exact HB.out | apply below_alloc | apply pw_below_drewN | apply below_drew1) | exact HB.out))) : w.heap.size ≤ gb220)); have n3_ := Aside0.mk ((by rw [hg]; exact (below_size (by repeat (first | (with_reducible first | exact HB.out | apply below_alloc | apply pw_below_drewN | apply below_drew1) | exact HB.out))) : w.heap.size ≤ gb220)); clear HB; have HB := n0_; have BK220 := n1_; have GW220 := n2_; have GE220 := n3_; clear n0_ n1_ n2_ n3_; clear hb hbox hg))
         have n0_ := Aside0.mk (blk_drew BK220.out)
         have n1_ := Aside0.mk (below_drew1 HB.out)
         clear BK220
         clear HB
         have BK220 := n0_
         have HB := n1_
         clear n0_ n1_
         refine start_ (n := 15) (S := fun w' => w'.cell? ⟨gb220, 0, none⟩ = some (.int .i64 a0_0) ∧ w'.cell? ⟨gb220, 1, none⟩ = some (.int .i64 a0_1) ∧ w'.cell? ⟨gb220, 2, none⟩ = some (.int .i64 a0_2) ∧ w'.cell? ⟨gb220, 3, none⟩ = some (.int .i64 a0_3) ∧ w'.cell? ⟨gb220, 4, none⟩ = some (.int .i64 a0_4) ∧ w'.cell? ⟨gb220, 5, none⟩ = some (.string a0_5) ∧ w'.cell? ⟨gb220, 6, none⟩ = some (.int .i64 a0_6) ∧ w'.cell? ⟨gb220, 7, none⟩ = some (.int .i64 a0_7) ∧ w'.cell? ⟨gb220, 8, none⟩ = some (.int .i64 a0_8) ∧ w'.cell? ⟨gb220, 9, none⟩ = some (.int .i64 a0_9) ∧ w'.cell? ⟨gb220, 10, none⟩ = some (.int .i64 a0_10) ∧ w'.cell? ⟨gb220, 11, none⟩ = some (.int .i64 a0_11) ∧ w'.cell? ⟨gb220, 12, none⟩ = some (.slice A0_12 l0_12.length c0_12)) (ds := []) #[false, false, false, false, false, false, false, false, false, false, false, false, false, false, false] (by kernel_rfl) rfl rfl ⟨(blk_cell BK220.out 0).trans rfl, (blk_cell BK220.out 1).trans rfl, (blk_cell BK220.out 2).trans rfl, (blk_cell BK220.out 3).trans rfl, (blk_cell BK220.out 4).trans rfl, (blk_cell BK220.out 5).trans rfl, (blk_cell BK220.out 6).trans rfl, (blk_cell BK220.out 7).trans rfl, (blk_cell BK220.out 8).trans rfl, (blk_cell BK220.out 9).trans rfl, (blk_cell BK220.out 10).trans rfl, (blk_cell BK220.out 11).trans rfl, (blk_cell BK220.out 12).trans rfl⟩ (fun hHeld => ?_); refine with_tabW impl_ShowEv.tab1 impl_ShowEv.bits1 (fun HT_ HW_ => ?_)
         generalize w63.drew = w64 at BK220 HB hHeld ⊢
         refine pure_ (i := 0) (N := some 4) (v := ?_) (a' := ?_) #[true, false, false, false, false, false, false, false, false, false, false, false, false, false, false] rfl rfl (any_of HT_.out (by kernel_rfl)) (fun _ _ _ h => h) (Or.inl ⟨by rfl, ?_⟩) ?_ ?_
         rotate_left
         ·intro w'
          go_simp
          with_reducible rfl
         rotate_left
         ·simp only [Act.put, List.setIfInBounds_toArray, List.set_cons_zero, List.set_cons_succ, i64_w, i32_w]
          rfl
         refine pure_ (i := 4) (N := some 8) (v := ?_) (a' := ?_) #[true, false, false, false, true, false, false, false, false, false, false, false, false, false, false] rfl rfl (any_of HT_.out (by kernel_rfl)) (fun _ _ _ h => h) (Or.inl ⟨by rfl, ?_⟩) ?_ ?_
         rotate_left
         ·intro w'
          go_simp
          with_reducible rfl
         rotate_left
         ·simp only [Act.put, List.setIfInBounds_toArray, List.set_cons_zero, List.set_cons_succ, i64_w, i32_w]
          rfl
         refine pure_ (i := 9) (N := some 13) (v := ?_) (a' := ?_) #[true, false, false, false, true, false, false, false, false, true, false, false, false, false, false] rfl rfl (any_of HT_.out (by kernel_rfl)) (fun _ _ _ h => h) (Or.inl ⟨by rfl, ?_⟩) ?_ ?_
         rotate_left
         ·intro w'
          go_simp
          with_reducible rfl
         rotate_left
         ·simp only [Act.put, List.setIfInBounds_toArray, List.set_cons_zero, List.set_cons_succ, i64_w, i32_w]
          rfl
         refine take_ (i := 1) (N := some 5) (v := ?_) (a' := ?_) #[true, true, false, false, true, false, false, false, false, true, false, false, false, false, false] rfl rfl (take_ofW HT_.out HW_.out (by kernel_rfl)) (fun _ _ _ h => h) (Or.inl ⟨by rfl, ?_⟩) hHeld ?_ ?_
         rotate_left
         ·rintro w' ⟨s0, s1, s2, s3, s4, s5, s6, s7, s8, s9, s10, s11, s12⟩
          go_simp
          with_reducible rfl
         rotate_left
         ·simp only [Act.put, List.setIfInBounds_toArray, List.set_cons_zero, List.set_cons_succ, i64_w, i32_w]
          rfl
         refine take_ (i := 5) (N := some 9) (v := ?_) (a' := ?_) #[true, true, false, false, true, true, false, false, false, true, false, false, false, false, false] rfl rfl (take_ofW HT_.out HW_.out (by kernel_rfl)) (fun _ _ _ h => h) (Or.inl ⟨by rfl, ?_⟩) hHeld ?_ ?_
         rotate_left
         ·rintro w' ⟨s0, s1, s2, s3, s4, s5, s6, s7, s8, s9, s10, s11, s12⟩
          go_simp
          with_reducible rfl
         rotate_left
         ·simp only [Act.put, List.setIfInBounds_toArray, List.set_cons_zero, List.set_cons_succ, i64_w, i32_w]
          rfl
         refine take_ (i := 10) (N := some 14) (v := ?_) (a' := ?_) #[true, true, false, false, true, true, false, false, false, true, true, false, false, false, false] rfl rfl (take_ofW HT_.out HW_.out (by kernel_rfl)) (fun _ _ _ h => h) (Or.inl ⟨by rfl, ?_⟩) hHeld ?_ ?_
         rotate_left
         ·rintro w' ⟨s0, s1, s2, s3, s4, s5, s6, s7, s8, s9, s10, s11, s12⟩
          go_simp
          with_reducible rfl
         rotate_left
         ·simp only [Act.put, List.setIfInBounds_toArray, List.set_cons_zero, List.set_cons_succ, i64_w, i32_w]
          rfl
         refine one_ (i := 2) (N := some 6) #[true, true, true, false, true, true, false, false, false, true, true, false, false, false, false] rfl rfl (one_of HT_.out (by kernel_rfl)) (by decide) (fun K hK => ?_)
         refine goes_ Tryd.func47 (by kernel_rfl) rfl #[.int .i64 a0_3] (by rfl) rfl rfl (by (try simp only [List.map_toArray, List.map_cons, List.map_nil]); first | done | rfl | (simp only [List.length_drop, List.length_take]; rfl)) ?_
         with_reducible refine (impl_Dec.calls a0_3 t221 _ A2.out (HT.out _ (by repeat (first | (with_reducible first | exact HB.out | apply below_alloc | apply pw_below_drewN | apply below_drew1 | refine below_set ?_ GE220.out) | exact HB.out)))).mono ?_
         rintro e w65 ⟨rfl, hb⟩
         refine ⟨_, rfl, ?_⟩
         have n0_ := Aside0.mk (blk_below (g := gb220) (o := .cells #[.int .i64 a0_0, .int .i64 a0_1, .int .i64 a0_2, .int .i64 a0_3, .int .i64 a0_4, .string a0_5, .int .i64 a0_6, .int .i64 a0_7, .int .i64 a0_8, .int .i64 a0_9, .int .i64 a0_10, .int .i64 a0_11, .slice A0_12 l0_12.length c0_12] 52 (0, 0)) (by (with_reducible repeat (first | refine blk_drewN ?_ _ | refine blk_drew ?_ | refine blk_alloc ?_ _)); exact BK220.out) hb)
         have n1_ := Aside0.mk (below_step (by repeat (first | (with_reducible first | exact HB.out | apply below_alloc | apply pw_below_drewN | apply below_drew1 | refine below_set ?_ GE220.out) | exact HB.out)) hb)
         clear BK220
         clear HB
         have BK220 := n0_
         have HB := n1_
         clear n0_ n1_
         (try clear hb)
         (try clear hb2)
         (try clear hk)
         (try clear hi)
         refine hK.out _ _ ⟨(blk_cell BK220.out 0).trans rfl, (blk_cell BK220.out 1).trans rfl, (blk_cell BK220.out 2).trans rfl, (blk_cell BK220.out 3).trans rfl, (blk_cell BK220.out 4).trans rfl, (blk_cell BK220.out 5).trans rfl, (blk_cell BK220.out 6).trans rfl, (blk_cell BK220.out 7).trans rfl, (blk_cell BK220.out 8).trans rfl, (blk_cell BK220.out 9).trans rfl, (blk_cell BK220.out 10).trans rfl, (blk_cell BK220.out 11).trans rfl, (blk_cell BK220.out 12).trans rfl⟩ (fun hHeld => ?_)
         clear hK K
         refine norm_ (a' := ?_) ?_ ?_
         rotate_left
         ·show Act.put _ (some 6) _ = _
          simp only [Act.put, List.setIfInBounds_toArray, List.set_cons_zero, List.set_cons_succ, i64_w, i32_w]
          rfl
         refine pure_ (i := 3) (N := some 7) (v := ?_) (a' := ?_) #[true, true, true, true, true, true, false, false, false, true, true, false, false, false, false] rfl rfl (any_of HT_.out (by kernel_rfl)) (fun _ _ _ h => h) (Or.inl ⟨by rfl, ?_⟩) ?_ ?_
         rotate_left
         ·intro w'
          go_simp
          with_reducible rfl
         rotate_left
         ·simp only [Act.put, List.setIfInBounds_toArray, List.set_cons_zero, List.set_cons_succ, i64_w, i32_w]
          rfl
         refine one_ (i := 6) (N := some 10) #[true, true, true, true, true, true, true, false, false, true, true, false, false, false, false] rfl rfl (one_of HT_.out (by kernel_rfl)) (by decide) (fun K hK => ?_)
         refine goes_ Tryd.func47 (by kernel_rfl) rfl #[.int .i64 a0_1] (by rfl) rfl rfl (by (try simp only [List.map_toArray, List.map_cons, List.map_nil]); first | done | rfl | (simp only [List.length_drop, List.length_take]; rfl)) ?_
         with_reducible refine (impl_Dec.calls a0_1 t222 _ A4.out (HT.out _ (by repeat (first | (with_reducible first | exact HB.out | apply below_alloc | apply pw_below_drewN | apply below_drew1 | refine below_set ?_ GE220.out) | exact HB.out)))).mono ?_
         rintro e w66 ⟨rfl, hb⟩
         refine ⟨_, rfl, ?_⟩
         have n0_ := Aside0.mk (blk_below (g := gb220) (o := .cells #[.int .i64 a0_0, .int .i64 a0_1, .int .i64 a0_2, .int .i64 a0_3, .int .i64 a0_4, .string a0_5, .int .i64 a0_6, .int .i64 a0_7, .int .i64 a0_8, .int .i64 a0_9, .int .i64 a0_10, .int .i64 a0_11, .slice A0_12 l0_12.length c0_12] 52 (0, 0)) (by (with_reducible repeat (first | refine blk_drewN ?_ _ | refine blk_drew ?_ | refine blk_alloc ?_ _)); exact BK220.out) hb)
         have n1_ := Aside0.mk (below_step (by repeat (first | (with_reducible first | exact HB.out | apply below_alloc | apply pw_below_drewN | apply below_drew1 | refine below_set ?_ GE220.out) | exact HB.out)) hb)
         clear BK220
         clear HB
         have BK220 := n0_
         have HB := n1_
         clear n0_ n1_
         (try clear hb)
         (try clear hb2)
         (try clear hk)
         (try clear hi)
         refine hK.out _ _ ⟨(blk_cell BK220.out 0).trans rfl, (blk_cell BK220.out 1).trans rfl, (blk_cell BK220.out 2).trans rfl, (blk_cell BK220.out 3).trans rfl, (blk_cell BK220.out 4).trans rfl, (blk_cell BK220.out 5).trans rfl, (blk_cell BK220.out 6).trans rfl, (blk_cell BK220.out 7).trans rfl, (blk_cell BK220.out 8).trans rfl, (blk_cell BK220.out 9).trans rfl, (blk_cell BK220.out 10).trans rfl, (blk_cell BK220.out 11).trans rfl, (blk_cell BK220.out 12).trans rfl⟩ (fun hHeld => ?_)
         clear hK K
         refine norm_ (a' := ?_) ?_ ?_
         rotate_left
         ·show Act.put _ (some 10) _ = _
          simp only [Act.put, List.setIfInBounds_toArray, List.set_cons_zero, List.set_cons_succ, i64_w, i32_w]
          rfl
         refine pure_ (i := 7) (N := some 11) (v := ?_) (a' := ?_) #[true, true, true, true, true, true, true, true, false, true, true, false, false, false, false] rfl rfl (any_of HT_.out (by kernel_rfl)) (fun _ _ _ h => h) (Or.inl ⟨by rfl, ?_⟩) ?_ ?_
         rotate_left
         ·intro w'
          go_simp
          with_reducible rfl
         rotate_left
         ·simp only [Act.put, List.setIfInBounds_toArray, List.set_cons_zero, List.set_cons_succ, i64_w, i32_w]
          rfl
         refine pure_ (i := 8) (N := some 12) (v := ?_) (a' := ?_) #[true, true, true, true, true, true, true, true, true, true, true, false, false, false, false] rfl rfl (any_of HT_.out (by kernel_rfl)) (fun _ _ _ h => h) (Or.inl ⟨by rfl, ?_⟩) ?_ ?_
         rotate_left
         ·intro w'
          go_simp
          with_reducible rfl
         rotate_left
         ·simp only [Act.put, List.setIfInBounds_toArray, List.set_cons_zero, List.set_cons_succ, i64_w, i32_w]
          rfl
         refine one_ (i := 11) (N := some 15) #[true, true, true, true, true, true, true, true, true, true, true, true, false, false, false] rfl rfl (one_of HT_.out (by kernel_rfl)) (by decide) (fun K hK => ?_)
         refine goes_ Tryd.func47 (by kernel_rfl) rfl #[.int .i64 a0_2] (by rfl) rfl rfl (by (try simp only [List.map_toArray, List.map_cons, List.map_nil]); first | done | rfl | (simp only [List.length_drop, List.length_take]; rfl)) ?_
         with_reducible refine (impl_Dec.calls a0_2 t223 _ A7.out (HT.out _ (by repeat (first | (with_reducible first | exact HB.out | apply below_alloc | apply pw_below_drewN | apply below_drew1 | refine below_set ?_ GE220.out) | exact HB.out)))).mono ?_
         rintro e w67 ⟨rfl, hb⟩
         refine ⟨_, rfl, ?_⟩
         have n0_ := Aside0.mk (blk_below (g := gb220) (o := .cells #[.int .i64 a0_0, .int .i64 a0_1, .int .i64 a0_2, .int .i64 a0_3, .int .i64 a0_4, .string a0_5, .int .i64 a0_6, .int .i64 a0_7, .int .i64 a0_8, .int .i64 a0_9, .int .i64 a0_10, .int .i64 a0_11, .slice A0_12 l0_12.length c0_12] 52 (0, 0)) (by (with_reducible repeat (first | refine blk_drewN ?_ _ | refine blk_drew ?_ | refine blk_alloc ?_ _)); exact BK220.out) hb)
         have n1_ := Aside0.mk (below_step (by repeat (first | (with_reducible first | exact HB.out | apply below_alloc | apply pw_below_drewN | apply below_drew1 | refine below_set ?_ GE220.out) | exact HB.out)) hb)
         clear BK220
         clear HB
         have BK220 := n0_
         have HB := n1_
         clear n0_ n1_
         (try clear hb)
         (try clear hb2)
         (try clear hk)
         (try clear hi)
         refine hK.out _ _ ⟨(blk_cell BK220.out 0).trans rfl, (blk_cell BK220.out 1).trans rfl, (blk_cell BK220.out 2).trans rfl, (blk_cell BK220.out 3).trans rfl, (blk_cell BK220.out 4).trans rfl, (blk_cell BK220.out 5).trans rfl, (blk_cell BK220.out 6).trans rfl, (blk_cell BK220.out 7).trans rfl, (blk_cell BK220.out 8).trans rfl, (blk_cell BK220.out 9).trans rfl, (blk_cell BK220.out 10).trans rfl, (blk_cell BK220.out 11).trans rfl, (blk_cell BK220.out 12).trans rfl⟩ (fun hHeld => ?_)
         clear hK K
         refine norm_ (a' := ?_) ?_ ?_
         rotate_left
         ·show Act.put _ (some 15) _ = _
          simp only [Act.put, List.setIfInBounds_toArray, List.set_cons_zero, List.set_cons_succ, i64_w, i32_w]
          rfl
         refine pure_ (i := 12) (N := some 16) (v := ?_) (a' := ?_) #[true, true, true, true, true, true, true, true, true, true, true, true, true, false, false] rfl rfl (any_of HT_.out (by kernel_rfl)) (fun _ _ _ h => h) (Or.inl ⟨by rfl, ?_⟩) ?_ ?_
         rotate_left
         ·intro w'
          go_simp
          with_reducible rfl
         rotate_left
         ·simp only [Act.put, List.setIfInBounds_toArray, List.set_cons_zero, List.set_cons_succ, i64_w, i32_w]
          rfl
         refine pure_ (i := 13) (N := some 17) (v := ?_) (a' := ?_) #[true, true, true, true, true, true, true, true, true, true, true, true, true, true, false] rfl rfl (any_of HT_.out (by kernel_rfl)) (fun _ _ _ h => h) (Or.inl ⟨by rfl, ?_⟩) ?_ ?_
         rotate_left
         ·intro w'
          go_simp
          with_reducible rfl
         rotate_left
         ·simp only [Act.put, List.setIfInBounds_toArray, List.set_cons_zero, List.set_cons_succ, i64_w, i32_w]
          rfl
         refine pure_ (i := 14) (N := some 3) (v := ?_) (a' := ?_) #[true, true, true, true, true, true, true, true, true, true, true, true, true, true, true] rfl rfl (any_of HT_.out (by kernel_rfl)) (fun _ _ _ h => h) (Or.inl ⟨by rfl, ?_⟩) ?_ ?_
         rotate_left
         ·intro w'
          go_simp
          with_reducible rfl
         rotate_left
         ·simp only [Act.put, List.setIfInBounds_toArray, List.set_cons_zero, List.set_cons_succ, i64_w, i32_w]
          rfl
         refine done_ (done_of HT_.out (by kernel_rfl)) ?_
         have hcz68_0 : w67.cell? ⟨gb220, 0, none⟩ = some (.int .i64 a0_0) := (blk_cell BK220.out 0).trans rfl
         have hcz68_1 : w67.cell? ⟨gb220, 1, none⟩ = some (.int .i64 a0_1) := (blk_cell BK220.out 1).trans rfl
         have hcz68_2 : w67.cell? ⟨gb220, 2, none⟩ = some (.int .i64 a0_2) := (blk_cell BK220.out 2).trans rfl
         have hcz68_3 : w67.cell? ⟨gb220, 3, none⟩ = some (.int .i64 a0_3) := (blk_cell BK220.out 3).trans rfl
         have hcz68_4 : w67.cell? ⟨gb220, 4, none⟩ = some (.int .i64 a0_4) := (blk_cell BK220.out 4).trans rfl
         have hcz68_5 : w67.cell? ⟨gb220, 5, none⟩ = some (.string a0_5) := (blk_cell BK220.out 5).trans rfl
         have hcz68_6 : w67.cell? ⟨gb220, 6, none⟩ = some (.int .i64 a0_6) := (blk_cell BK220.out 6).trans rfl
         have hcz68_7 : w67.cell? ⟨gb220, 7, none⟩ = some (.int .i64 a0_7) := (blk_cell BK220.out 7).trans rfl
         have hcz68_8 : w67.cell? ⟨gb220, 8, none⟩ = some (.int .i64 a0_8) := (blk_cell BK220.out 8).trans rfl
         have hcz68_9 : w67.cell? ⟨gb220, 9, none⟩ = some (.int .i64 a0_9) := (blk_cell BK220.out 9).trans rfl
         have hcz68_10 : w67.cell? ⟨gb220, 10, none⟩ = some (.int .i64 a0_10) := (blk_cell BK220.out 10).trans rfl
         have hcz68_11 : w67.cell? ⟨gb220, 11, none⟩ = some (.int .i64 a0_11) := (blk_cell BK220.out 11).trans rfl
         have hcz68_12 : w67.cell? ⟨gb220, 12, none⟩ = some (.slice A0_12 l0_12.length c0_12) := (blk_cell BK220.out 12).trans rfl
         have hfz68_0 := blk_frozen BK220.out 0
         have hfz68_1 := blk_frozen BK220.out 1
         have hfz68_2 := blk_frozen BK220.out 2
         have hfz68_3 := blk_frozen BK220.out 3
         have hfz68_4 := blk_frozen BK220.out 4
         have hfz68_5 := blk_frozen BK220.out 5
         have hfz68_6 := blk_frozen BK220.out 6
         have hfz68_7 := blk_frozen BK220.out 7
         have hfz68_8 := blk_frozen BK220.out 8
         have hfz68_9 := blk_frozen BK220.out 9
         have hfz68_10 := blk_frozen BK220.out 10
         have hfz68_11 := blk_frozen BK220.out 11
         have hfz68_12 := blk_frozen BK220.out 12
         try go_wp2
         go_ret
         exact ⟨by first | rfl | (simp [errW_none, errW_some] <;> rfl) | (simp [*, errW_none, errW_some] <;> rfl), by repeat (first | (with_reducible first | exact HB.out | apply below_alloc | apply pw_below_drewN | apply below_drew1 | refine below_set ?_ GE220.out) | exact HB.out)⟩
     ·rw [if_neg c9] at H
      exact absurd H (by simp)
    ·rw [if_neg c8] at H
     exact absurd H (by simp)
   ·rw [if_neg c6] at H
    exact absurd H (by simp)
  ·rw [if_neg c5] at H
   exact absurd H (by simp)
 ·rw [if_neg c3] at H
  exact absurd H (by simp)

end Go.Proofs.YticfkgjcklonmaaDoor.QFnExactTrace
