-- MADE BY qprint.py, a program of this claim's session, over the kit's print: own text.
import Derived.Test.YthhbgembnlpohaaDoorQFnExactShowRulex0
import Derived.Test.YthhbgembnlpohaaDoorQFnExactShowRulex1
namespace Go.Proofs.YthhbgembnlpohaaDoor.QFnExactShowRule
open Go.RowKit Go.Proofs.YthhbgembnlpohaaDoorW.PrintWords Go.Proofs.YthhbgembnlpohaaDoorW.PrintLast Go.Proofs.YthhbgembnlpohaaDoorW.PrintMore
attribute [local go_sem] max2_int min2_int max_two min_two max_three min_three max_four min_four   -- for this text's walks alone
set_option linter.unusedVariables false
set_option linter.unusedSimpArgs false

/-! ### spec_ShowRule: function 7 -/
def spec_ShowRule.f (k : Nat) (a0_0 : ByteArray) (a0_1 : Int) (a0_2 : Int) (a0_3 : Int) : Option (ByteArray) := (spec_RuleOk.f k a0_0 a0_1 a0_2 a0_3).bind fun t119 => (if t119 = true then ((some (([(⟨#[]⟩ : ByteArray), (⟨#[62]⟩ : ByteArray), (⟨#[60]⟩ : ByteArray)] : List ByteArray) : List ByteArray)).bind fun y120 => (if 0 ≤ a0_1 then (if a0_1 < (y120.length : Int) then (if a0_0.size + (rdOf ByteArray.empty y120 a0_1).size ≤ 9223372036854775807 then ((spec_Dec.f k a0_2).bind fun t124 => (if (a0_0 ++ (rdOf ByteArray.empty y120 a0_1)).size + t124.size ≤ 9223372036854775807 then (if ((a0_0 ++ (rdOf ByteArray.empty y120 a0_1)) ++ t124).size + 5 ≤ 9223372036854775807 then ((spec_Dec.f k a0_3).bind fun t125 => (if (((a0_0 ++ (rdOf ByteArray.empty y120 a0_1)) ++ t124) ++ (⟨#[32, 102, 111, 114, 32]⟩ : ByteArray)).size + t125.size ≤ 9223372036854775807 then (some ((((a0_0 ++ (rdOf ByteArray.empty y120 a0_1)) ++ t124) ++ (⟨#[32, 102, 111, 114, 32]⟩ : ByteArray)) ++ t125)) else (none))) else (none)) else (none))) else (none)) else (none)) else (none))) else (some (⟨#[]⟩ : ByteArray)))
theorem spec_ShowRule.mono : ∀ a0 a1 a2 a3 k, LeO (spec_ShowRule.f k a0 a1 a2 a3) (spec_ShowRule.f (k + 1) a0 a1 a2 a3) := by
  intro a0 a1 a2 a3 k
  unfold spec_ShowRule.f
  repeat' first
      | (with_reducible exact spec_Dec.mono _ _)
      | (with_reducible exact spec_RuleOk.mono _ _ _ _ _)
      | (with_reducible exact LeO.refl _)
      | (with_reducible exact LeO.none _)
      | (with_reducible refine LeO.ite ?_ ?_)
      | (with_reducible refine LeO.bind ?_ (fun _ => ?_))
      | exact spec_Dec.mono _ _
      | exact spec_RuleOk.mono _ _ _ _ _
      | exact LeO.none _
      | refine LeO.ite ?_ ?_
      | refine LeO.bind ?_ (fun _ => ?_)
def spec_ShowRule.T3 : Bool × List (List Nat × List Nat) := (true, [([], []), ([0], [0]), ([], []), ([], []), ([3], [3]), ([2, 4], [2, 4]), ([5], [5]), ([1, 6], [1, 6]), ([], []), ([8], [8]), ([9], [9]), ([7, 10], [7, 10]), ([11], [11]), ([], []), ([13], [13]), ([14, 10], [14]), ([12, 15], [12, 15]), ([16, 15, 0, 1, 2, 3, 4, 5, 6, 7, 8, 9, 10, 11, 12, 13, 14, 15, 16], [16])])
def spec_ShowRule.B3 : List Nat := [0, 1, 0, 0, 8, 28, 60, 127, 0, 256, 768, 2047, 4095, 0, 8192, 26368, 65535, 131071]
theorem spec_ShowRule.tab3 : rtab .any (opsOf Tryd.f7 3) = spec_ShowRule.T3 := by kernel_rfl
theorem spec_ShowRule.bits3 : waitsOk spec_ShowRule.T3.2 spec_ShowRule.B3 = true := by kernel_rfl
set_option maxHeartbeats 8000000 in
set_option maxRecDepth 100000 in
theorem spec_ShowRule.calls (k : Nat) (a0_0 : ByteArray) (a0_1 : Int) (a0_2 : Int) (a0_3 : Int) (r : ByteArray) (w : World) (h : spec_ShowRule.f k a0_0 a0_1 a0_2 a0_3 = some r) :
    Calls Tryd.prog 7 #[.agg #[.string a0_0, .int .i64 a0_1, .int .i64 a0_2, .int .i64 a0_3]] w fun e w' => e = .returned (.string r) ∧ Below w.heap.size w w' := by
  have hu26 := Tryd.underlying26
  have HB := Aside0.mk (Below.refl w.heap.size w)
  have H : ((spec_RuleOk.f k a0_0 a0_1 a0_2 a0_3).bind fun t119 => (if t119 = true then ((some (([(⟨#[]⟩ : ByteArray), (⟨#[62]⟩ : ByteArray), (⟨#[60]⟩ : ByteArray)] : List ByteArray) : List ByteArray)).bind fun y120 => (if 0 ≤ a0_1 then (if a0_1 < (y120.length : Int) then (if a0_0.size + (rdOf ByteArray.empty y120 a0_1).size ≤ 9223372036854775807 then ((spec_Dec.f k a0_2).bind fun t124 => (if (a0_0 ++ (rdOf ByteArray.empty y120 a0_1)).size + t124.size ≤ 9223372036854775807 then (if ((a0_0 ++ (rdOf ByteArray.empty y120 a0_1)) ++ t124).size + 5 ≤ 9223372036854775807 then ((spec_Dec.f k a0_3).bind fun t125 => (if (((a0_0 ++ (rdOf ByteArray.empty y120 a0_1)) ++ t124) ++ (⟨#[32, 102, 111, 114, 32]⟩ : ByteArray)).size + t125.size ≤ 9223372036854775807 then (some ((((a0_0 ++ (rdOf ByteArray.empty y120 a0_1)) ++ t124) ++ (⟨#[32, 102, 111, 114, 32]⟩ : ByteArray)) ++ t125)) else (none))) else (none)) else (none))) else (none)) else (none)) else (none))) else (some (⟨#[]⟩ : ByteArray)))) = some r := h
  clear h
  replace H := Option.bind_eq_some_iff.mp H
  obtain ⟨t119, A20, H⟩ := H
  replace H : (if t119 = true then ((some (([(⟨#[]⟩ : ByteArray), (⟨#[62]⟩ : ByteArray), (⟨#[60]⟩ : ByteArray)] : List ByteArray) : List ByteArray)).bind fun y120 => (if 0 ≤ a0_1 then (if a0_1 < (y120.length : Int) then (if a0_0.size + (rdOf ByteArray.empty y120 a0_1).size ≤ 9223372036854775807 then ((spec_Dec.f k a0_2).bind fun t124 => (if (a0_0 ++ (rdOf ByteArray.empty y120 a0_1)).size + t124.size ≤ 9223372036854775807 then (if ((a0_0 ++ (rdOf ByteArray.empty y120 a0_1)) ++ t124).size + 5 ≤ 9223372036854775807 then ((spec_Dec.f k a0_3).bind fun t125 => (if (((a0_0 ++ (rdOf ByteArray.empty y120 a0_1)) ++ t124) ++ (⟨#[32, 102, 111, 114, 32]⟩ : ByteArray)).size + t125.size ≤ 9223372036854775807 then (some ((((a0_0 ++ (rdOf ByteArray.empty y120 a0_1)) ++ t124) ++ (⟨#[32, 102, 111, 114, 32]⟩ : ByteArray)) ++ t125)) else (none))) else (none)) else (none))) else (none)) else (none)) else (none))) else (some (⟨#[]⟩ : ByteArray))) = some r := H
  have A2 := Aside0.mk A20
  clear A20
  by_cases c3 : t119 = true
  · subst c3
    have H1 : ((some (([(⟨#[]⟩ : ByteArray), (⟨#[62]⟩ : ByteArray), (⟨#[60]⟩ : ByteArray)] : List ByteArray) : List ByteArray)).bind fun y120 => (if 0 ≤ a0_1 then (if a0_1 < (y120.length : Int) then (if a0_0.size + (rdOf ByteArray.empty y120 a0_1).size ≤ 9223372036854775807 then ((spec_Dec.f k a0_2).bind fun t124 => (if (a0_0 ++ (rdOf ByteArray.empty y120 a0_1)).size + t124.size ≤ 9223372036854775807 then (if ((a0_0 ++ (rdOf ByteArray.empty y120 a0_1)) ++ t124).size + 5 ≤ 9223372036854775807 then ((spec_Dec.f k a0_3).bind fun t125 => (if (((a0_0 ++ (rdOf ByteArray.empty y120 a0_1)) ++ t124) ++ (⟨#[32, 102, 111, 114, 32]⟩ : ByteArray)).size + t125.size ≤ 9223372036854775807 then (some ((((a0_0 ++ (rdOf ByteArray.empty y120 a0_1)) ++ t124) ++ (⟨#[32, 102, 111, 114, 32]⟩ : ByteArray)) ++ t125)) else (none))) else (none)) else (none))) else (none)) else (none)) else (none))) = some r := by rw [if_pos rfl] at H; exact H
    clear H
    have H := H1
    clear H1
    obtain ⟨y120, hy120⟩ : ∃ y_ : List ByteArray, y_ = (([(⟨#[]⟩ : ByteArray), (⟨#[62]⟩ : ByteArray), (⟨#[60]⟩ : ByteArray)] : List ByteArray)) := ⟨_, rfl⟩
    replace H : (if 0 ≤ a0_1 then (if a0_1 < (y120.length : Int) then (if a0_0.size + (rdOf ByteArray.empty y120 a0_1).size ≤ 9223372036854775807 then ((spec_Dec.f k a0_2).bind fun t124 => (if (a0_0 ++ (rdOf ByteArray.empty y120 a0_1)).size + t124.size ≤ 9223372036854775807 then (if ((a0_0 ++ (rdOf ByteArray.empty y120 a0_1)) ++ t124).size + 5 ≤ 9223372036854775807 then ((spec_Dec.f k a0_3).bind fun t125 => (if (((a0_0 ++ (rdOf ByteArray.empty y120 a0_1)) ++ t124) ++ (⟨#[32, 102, 111, 114, 32]⟩ : ByteArray)).size + t125.size ≤ 9223372036854775807 then (some ((((a0_0 ++ (rdOf ByteArray.empty y120 a0_1)) ++ t124) ++ (⟨#[32, 102, 111, 114, 32]⟩ : ByteArray)) ++ t125)) else (none))) else (none)) else (none))) else (none)) else (none)) else (none)) = some r := by first | (rw [hy120]; with_reducible exact H) | (have H2_ := (Option.bind_some _ _).symm.trans H; rw [hy120]; with_reducible exact H2_) | (have H2_ := (Option.bind_some _ _).symm.trans H; with_reducible exact H2_) | with_reducible exact H | (rw [hy120]; exact H) | exact H
    have Ny120 := Aside0.mk hy120
    clear hy120
    by_cases c4 : 0 ≤ a0_1
    · rw [if_pos c4] at H
      have c4b0 : decide (0 ≤ a0_1) = true := decide_eq_true c4
      clear c4
      by_cases c5 : a0_1 < (y120.length : Int)
      · rw [if_pos c5] at H
        have c5b0 : decide (a0_1 < (y120.length : Int)) = true := decide_eq_true c5
        clear c5
        by_cases c6 : a0_0.size + (rdOf ByteArray.empty y120 a0_1).size ≤ 9223372036854775807
        · rw [if_pos c6] at H
          have c6b0 := eq_true c6
          have c6b1 : decide (a0_0.size + (rdOf ByteArray.empty y120 a0_1).size ≤ 9223372036854775807) = true := decide_eq_true c6
          try have c6b2 : (9223372036854775807 < a0_0.size + (rdOf ByteArray.empty y120 a0_1).size) = False := eq_false (Nat.not_lt.2 c6)
          replace H := Option.bind_eq_some_iff.mp H
          obtain ⟨t124, A70, H⟩ := H
          replace H : (if (a0_0 ++ (rdOf ByteArray.empty y120 a0_1)).size + t124.size ≤ 9223372036854775807 then (if ((a0_0 ++ (rdOf ByteArray.empty y120 a0_1)) ++ t124).size + 5 ≤ 9223372036854775807 then ((spec_Dec.f k a0_3).bind fun t125 => (if (((a0_0 ++ (rdOf ByteArray.empty y120 a0_1)) ++ t124) ++ (⟨#[32, 102, 111, 114, 32]⟩ : ByteArray)).size + t125.size ≤ 9223372036854775807 then (some ((((a0_0 ++ (rdOf ByteArray.empty y120 a0_1)) ++ t124) ++ (⟨#[32, 102, 111, 114, 32]⟩ : ByteArray)) ++ t125)) else (none))) else (none)) else (none)) = some r := H
          have A7 := Aside0.mk A70
          clear A70
          by_cases c8 : (a0_0 ++ (rdOf ByteArray.empty y120 a0_1)).size + t124.size ≤ 9223372036854775807
          · rw [if_pos c8] at H
            have c8b0 := eq_true c8
            have c8b1 : decide ((a0_0 ++ (rdOf ByteArray.empty y120 a0_1)).size + t124.size ≤ 9223372036854775807) = true := decide_eq_true c8
            try have c8b2 : (9223372036854775807 < (a0_0 ++ (rdOf ByteArray.empty y120 a0_1)).size + t124.size) = False := eq_false (Nat.not_lt.2 c8)
            try (have c8n := c8; simp only [ByteArray.size_append] at c8n; have c8b3 := eq_false (Nat.not_lt.2 c8n); have c8b4 := eq_true c8n; clear c8n)
            by_cases c9 : ((a0_0 ++ (rdOf ByteArray.empty y120 a0_1)) ++ t124).size + 5 ≤ 9223372036854775807
            · rw [if_pos c9] at H
              have c9b0 := eq_true c9
              have c9b1 : decide (((a0_0 ++ (rdOf ByteArray.empty y120 a0_1)) ++ t124).size + 5 ≤ 9223372036854775807) = true := decide_eq_true c9
              try have c9b2 : (9223372036854775807 < ((a0_0 ++ (rdOf ByteArray.empty y120 a0_1)) ++ t124).size + 5) = False := eq_false (Nat.not_lt.2 c9)
              try (have c9n := c9; simp only [ByteArray.size_append] at c9n; have c9b3 := eq_false (Nat.not_lt.2 c9n); have c9b4 := eq_true c9n; clear c9n)
              replace H := Option.bind_eq_some_iff.mp H
              obtain ⟨t125, A100, H⟩ := H
              replace H : (if (((a0_0 ++ (rdOf ByteArray.empty y120 a0_1)) ++ t124) ++ (⟨#[32, 102, 111, 114, 32]⟩ : ByteArray)).size + t125.size ≤ 9223372036854775807 then (some ((((a0_0 ++ (rdOf ByteArray.empty y120 a0_1)) ++ t124) ++ (⟨#[32, 102, 111, 114, 32]⟩ : ByteArray)) ++ t125)) else (none)) = some r := H
              have A10 := Aside0.mk A100
              clear A100
              by_cases c11 : (((a0_0 ++ (rdOf ByteArray.empty y120 a0_1)) ++ t124) ++ (⟨#[32, 102, 111, 114, 32]⟩ : ByteArray)).size + t125.size ≤ 9223372036854775807
              · rw [if_pos c11] at H
                have c11b0 := eq_true c11
                have c11b1 : decide ((((a0_0 ++ (rdOf ByteArray.empty y120 a0_1)) ++ t124) ++ (⟨#[32, 102, 111, 114, 32]⟩ : ByteArray)).size + t125.size ≤ 9223372036854775807) = true := decide_eq_true c11
                try have c11b2 : (9223372036854775807 < (((a0_0 ++ (rdOf ByteArray.empty y120 a0_1)) ++ t124) ++ (⟨#[32, 102, 111, 114, 32]⟩ : ByteArray)).size + t125.size) = False := eq_false (Nat.not_lt.2 c11)
                try (have c11n := c11; simp only [ByteArray.size_append, show (⟨#[32, 102, 111, 114, 32]⟩ : ByteArray).size = 5 from rfl] at c11n; have c11b3 := eq_false (Nat.not_lt.2 c11n); have c11b4 := eq_true c11n; clear c11n)
                obtain rfl := Option.some.inj H
                go_enter Tryd.func7, Tryd.ntmps7
                try go_wp2_with (first | ((with_reducible refine gate_dst (N := 1) rfl ?_); refine box_event ?hg (N := 1) ?hd (cs := #[.string a0_0, .int .i64 a0_1, .int .i64 a0_2, .int .i64 a0_3]) (t := 26) ?hr ?_; (case hd => rfl); (case hg => rfl); (case hr => first | (go_simp; done) | (go_simp; rfl)); intro gb118 hg w12 hbox hb; have n0_ := Aside0.mk (below_step (by repeat (first | (with_reducible first | exact HB.out | apply below_alloc | apply pw_below_drewN | apply below_drew1) | exact HB.out)) hb); have n1_ := Aside0.mk (hbox); have n2_ := Aside0.mk ((by rw [hg]; exact (below_size (by repeat (first | (with_reducible first | exact HB.out | apply below_alloc | apply pw_below_drewN | apply below_drew1) | exact HB.out))) : w.heap.size ≤ gb118)); have n3_ := Aside0.mk ((by rw [hg]; exact (below_size (by repeat (first | (with_reducible first | exact HB.out | apply below_alloc | apply pw_below_drewN | apply below_drew1) | exact HB.out))) : w.heap.size ≤ gb118)); clear HB; have HB := n0_; have BK118 := n1_; have GW118 := n2_; have GE118 := n3_; clear n0_ n1_ n2_ n3_; clear hb hbox hg; have hcz13_0 : w12.cell? ⟨gb118, 0, none⟩ = some (.string a0_0) := (blk_cell BK118.out 0).trans rfl; have hcz13_1 : w12.cell? ⟨gb118, 1, none⟩ = some (.int .i64 a0_1) := (blk_cell BK118.out 1).trans rfl; have hcz13_2 : w12.cell? ⟨gb118, 2, none⟩ = some (.int .i64 a0_2) := (blk_cell BK118.out 2).trans rfl; have hcz13_3 : w12.cell? ⟨gb118, 3, none⟩ = some (.int .i64 a0_3) := (blk_cell BK118.out 3).trans rfl; have hfz13_0 := blk_frozen BK118.out 0; have hfz13_1 := blk_frozen BK118.out 1; have hfz13_2 := blk_frozen BK118.out 2; have hfz13_3 := blk_frozen BK118.out 3) | ((with_reducible refine gate_callee (f := 22) rfl ?_); refine goesL_ (some 4) rfl rfl Tryd.func22 (by kernel_rfl) rfl #[.agg #[.string a0_0, .int .i64 a0_1, .int .i64 a0_2, .int .i64 a0_3]] rfl (by (try simp only [List.map_toArray, List.map_cons, List.map_nil]); first | done | rfl | (simp only [List.length_drop, List.length_take]; rfl)) ?_; (with_reducible refine (spec_RuleOk.calls k a0_0 a0_1 a0_2 a0_3 true _ A2.out).mono ?_); rintro e w14 ⟨rfl, hb⟩; refine ⟨_, rfl, ?_⟩; have n0_ := Aside0.mk (blk_below (g := gb118) (o := .cells #[.string a0_0, .int .i64 a0_1, .int .i64 a0_2, .int .i64 a0_3] 26 (0, 0)) (by (with_reducible repeat (first | refine blk_drewN ?_ _ | refine blk_drew ?_ | refine blk_alloc ?_ _)); exact BK118.out) hb); have n1_ := Aside0.mk (below_step (by repeat (first | (with_reducible first | exact HB.out | apply below_alloc | apply pw_below_drewN | apply below_drew1 | refine below_set ?_ GE118.out) | exact HB.out)) hb); clear BK118; clear HB; have BK118 := n0_; have HB := n1_; clear n0_ n1_; (try clear hb); (try clear hb2); (try clear hk); (try clear hi)))
                have pi123 : (0 ≤ (a0_1 : Int)) = True := eq_true (of_decide_eq_true (by first | (with_reducible assumption) | assumption))
                have qi123 : (a0_1 < (y120.length : Int)) = True := eq_true (of_decide_eq_true (by first | (with_reducible assumption) | assumption))
                have n0_ := Aside0.mk (blk_drew BK118.out)
                have n1_ := Aside0.mk (below_drew1 HB.out)
                clear BK118
                clear HB
                have BK118 := n0_
                have HB := n1_
                clear n0_ n1_
                refine start_ (n := 18) (S := fun w' => True) (ds := []) #[false, false, false, false, false, false, false, false, false, false, false, false, false, false, false, false, false, false] (by kernel_rfl) rfl rfl trivial (fun hHeld => ?_); refine with_tabW spec_ShowRule.tab3 spec_ShowRule.bits3 (fun HT_ HW_ => ?_)
                generalize w14.drew = w15 at BK118 HB hHeld ⊢
                refine pure_ (i := 0) (N := some 6) (v := ?_) (a' := ?_) #[true, false, false, false, false, false, false, false, false, false, false, false, false, false, false, false, false, false] rfl rfl (any_of HT_.out (by kernel_rfl)) (fun _ _ _ h => h) (Or.inl ⟨by rfl, ?_⟩) ?_ ?_
                rotate_left
                · intro w'
                  go_simp
                  with_reducible rfl
                rotate_left
                · simp only [Act.put, List.setIfInBounds_toArray, List.set_cons_zero, List.set_cons_succ, i64_w, i32_w]
                  rfl
                refine pure_ (i := 3) (N := some 9) (v := ?_) (a' := ?_) #[true, false, false, true, false, false, false, false, false, false, false, false, false, false, false, false, false, false] rfl rfl (any_of HT_.out (by kernel_rfl)) (fun _ _ _ h => h) (Or.inl ⟨by rfl, ?_⟩) ?_ ?_
                rotate_left
                · intro w'
                  go_simp
                  with_reducible rfl
                rotate_left
                · simp only [Act.put, List.setIfInBounds_toArray, List.set_cons_zero, List.set_cons_succ, i64_w, i32_w]
                  rfl
                refine pure_ (i := 8) (N := some 14) (v := ?_) (a' := ?_) #[true, false, false, true, false, false, false, false, true, false, false, false, false, false, false, false, false, false] rfl rfl (any_of HT_.out (by kernel_rfl)) (fun _ _ _ h => h) (Or.inl ⟨by rfl, ?_⟩) ?_ ?_
                rotate_left
                · intro w'
                  go_simp
                  with_reducible rfl
                rotate_left
                · simp only [Act.put, List.setIfInBounds_toArray, List.set_cons_zero, List.set_cons_succ, i64_w, i32_w]
                  rfl
                refine pure_ (i := 13) (N := some 19) (v := ?_) (a' := ?_) #[true, false, false, true, false, false, false, false, true, false, false, false, false, true, false, false, false, false] rfl rfl (any_of HT_.out (by kernel_rfl)) (fun _ _ _ h => h) (Or.inl ⟨by rfl, ?_⟩) ?_ ?_
                rotate_left
                · intro w'
                  go_simp
                  with_reducible rfl
                rotate_left
                · simp only [Act.put, List.setIfInBounds_toArray, List.set_cons_zero, List.set_cons_succ, i64_w, i32_w]
                  rfl
                refine inv_at [1, 2, 4, 5, 6, 7, 9, 10, 11, 12, 14, 15, 16, 17] (fun a0_ b a w' => ∃ (v121 : Value) (adz_v121 : Addr) (m5_ : Value), a = putSel a0_ b [(1, 7, .string a0_0), (2, 8, v121), (4, 10, .int .i64 a0_1), (5, 11, m5_), (6, 12, .string (rdOf ByteArray.empty y120 a0_1)), (7, 13, .string (a0_0 ++ (rdOf ByteArray.empty y120 a0_1))), (9, 15, .int .i64 a0_2), (10, 16, .string t124), (11, 17, .string ((a0_0 ++ (rdOf ByteArray.empty y120 a0_1)) ++ t124)), (12, 18, .string (((a0_0 ++ (rdOf ByteArray.empty y120 a0_1)) ++ t124) ++ (⟨#[32, 102, 111, 114, 32]⟩ : ByteArray))), (14, 20, .int .i64 a0_3), (15, 21, .string t125), (16, 22, .string ((((a0_0 ++ (rdOf ByteArray.empty y120 a0_1)) ++ t124) ++ (⟨#[32, 102, 111, 114, 32]⟩ : ByteArray)) ++ t125)), (17, 2, .string ((((a0_0 ++ (rdOf ByteArray.empty y120 a0_1)) ++ t124) ++ (⟨#[32, 102, 111, 114, 32]⟩ : ByteArray)) ++ t125))] ∧ (w'.heap[gb118]? = some (.cells #[.string a0_0, .int .i64 a0_1, .int .i64 a0_2, .int .i64 a0_3] 26 (0, 0))) ∧ (Below w.heap.size w w') ∧ (b 2 = true → Kd.R Kd.string 9 w' w.heap.size (fun _ => True) v121 y120) ∧ (b 2 = true → ∃ c_, (v121 : Value) = .slice (some adz_v121) y120.length c_) ∧ (b 5 = true → (m5_ : Value) = .pointer (some (adz_v121.add (a0_1).toNat)))) HT_.out HW_.out (by kernel_rfl) (by kernel_rfl) ?_ ?_ ?_
                · exact ⟨.bool false, ⟨0, 0, none⟩, .bool false, by simp only [putSel, Bool.false_eq_true, if_false], BK118.out, HB.out, fun h_ => absurd h_ (by decide), fun h_ => absurd h_ (by decide), fun h_ => absurd h_ (by decide)⟩
                · skip
                  clear BK118 HB
                  refine steps_cons ?_ ?_
                  · rintro b a w' ⟨v121, adz_v121, m5_, ha, Q_BK118, Q_HB, Q_HO122, Q_HA_HO122, Q_X5_⟩ hb_ hon hoff
                    refine ⟨_, rfl, fun K hK => ?_⟩
                    have e6 : a.tmps[6]? = some (.pointer (some ⟨gb118, 0, none⟩)) := by rw [ha]; exact (putSel_off rfl).trans rfl
                    replace ha := Aside0.mk ha
                    have BK118 := Aside0.mk Q_BK118
                    have HB := Aside0.mk Q_HB
                    have hc0_ : w'.cell? ⟨gb118, 0, none⟩ = some (.string a0_0) := (blk_cell BK118.out 0).trans rfl
                    have hc1_ : w'.cell? ⟨gb118, 1, none⟩ = some (.int .i64 a0_1) := (blk_cell BK118.out 1).trans rfl
                    have hc2_ : w'.cell? ⟨gb118, 2, none⟩ = some (.int .i64 a0_2) := (blk_cell BK118.out 2).trans rfl
                    have hc3_ : w'.cell? ⟨gb118, 3, none⟩ = some (.int .i64 a0_3) := (blk_cell BK118.out 3).trans rfl
                    refine value_ (w1 := w') (v := .string a0_0) (by rfl) rfl ?_ ?_
                    · go_simp
                      (try simp only [i64_w])
                      try rfl
                    refine hK.out _ _ ⟨v121, adz_v121, m5_, (by rw [ha.out]; exact putSel_upk 0 hb_ rfl rfl rfl), Q_BK118, Q_HB, Q_HO122, Q_HA_HO122, Q_X5_⟩
                  refine steps_cons ?_ ?_
                  · rintro b a w' ⟨v121, adz_v121, m5_, ha, Q_BK118, Q_HB, Q_HO122, Q_HA_HO122, Q_X5_⟩ hb_ hon hoff
                    refine ⟨_, rfl, fun K hK => ?_⟩
                    replace ha := Aside0.mk ha
                    have BK118 := Aside0.mk Q_BK118
                    have HB := Aside0.mk Q_HB
                    refine Kd.R_lit_step Kd.string _ 9 ?hg (N := 8) ?hd (xs := ([(⟨#[]⟩ : ByteArray), (⟨#[62]⟩ : ByteArray), (⟨#[60]⟩ : ByteArray)] : List ByteArray)) (inner := [.string (⟨#[]⟩ : ByteArray), .string (⟨#[62]⟩ : ByteArray), .string (⟨#[60]⟩ : ByteArray)]) (ok := fun _ => True) (okp := fun _ => True) ?hr ?hp (fun _ hk => hk) trivial (Below.refl _ _) (Nat.le_refl _) (by simp) ?_; (case hd => rfl); (case hg => rfl); (case hr => first | (go_simp; done) | (go_simp; rfl)); (case hp => exact (Reps.one (show Kd.M Kd.string _ _ _ (⟨#[]⟩ : ByteArray) [.string (⟨#[]⟩ : ByteArray)] from rfl) (Reps.one (show Kd.M Kd.string _ _ _ (⟨#[62]⟩ : ByteArray) [.string (⟨#[62]⟩ : ByteArray)] from rfl) (Reps.one (show Kd.M Kd.string _ _ _ (⟨#[60]⟩ : ByteArray) [.string (⟨#[60]⟩ : ByteArray)] from rfl) (Reps.none _ _)))))
                    intro v121 w16 ho17 hb hg_ hnew_
                    clear hg_ hnew_
                    (first | rw [← Ny120.out] at ho17 | (simp only [Int.reduceToNat] at ho17; rw [← Ny120.out] at ho17))
                    have n0_ := Aside0.mk (Kd.R_lower ho17 (below_size (by repeat (first | (with_reducible first | exact HB.out | apply below_alloc | apply pw_below_drewN | apply below_drew1 | refine below_set ?_ GE118.out) | exact HB.out))))
                    have n1_ := Aside0.mk (blk_below (g := gb118) (o := .cells #[.string a0_0, .int .i64 a0_1, .int .i64 a0_2, .int .i64 a0_3] 26 (0, 0)) (by (with_reducible repeat (first | refine blk_drewN ?_ _ | refine blk_drew ?_ | refine blk_alloc ?_ _)); exact BK118.out) hb)
                    have n2_ := Aside0.mk (below_step (by repeat (first | (with_reducible first | exact HB.out | apply below_alloc | apply pw_below_drewN | apply below_drew1 | refine below_set ?_ GE118.out) | exact HB.out)) hb)
                    clear BK118
                    clear HB
                    have HO122 := n0_
                    have BK118 := n1_
                    have HB := n2_
                    clear n0_ n1_ n2_
                    clear hb ho17
                    obtain ⟨Ao18, co18, eo18⟩ := Kd.R_slice HO122.out
                    subst eo18
                    obtain ⟨ado18, fo18, _⟩ := Kd.at_string (Kd.R_reads' HO122.out).2.2 0 (by decide) (by rw [Ny120.out]; simp)
                    cases fo18
                    refine hK.out _ _ ⟨.slice (some ado18) y120.length co18, ado18, m5_, (by rw [ha.out]; exact putSel_upk 1 hb_ rfl rfl rfl), (by (with_reducible repeat (first | refine blk_drewN ?_ _ | refine blk_drew ?_ | refine blk_alloc ?_ _)); exact BK118.out), (by repeat (first | (with_reducible first | exact HB.out | apply below_alloc | apply pw_below_drewN | apply below_drew1 | refine below_set ?_ GE118.out) | exact HB.out)), fun _ => (by (with_reducible repeat (first | apply Kd.R_alloc | apply Kd.R_drewN | apply Kd.R_drew)); exact HO122.out), fun _ => ⟨_, rfl⟩, fun h0_ => absurd ((hoff 5 (by kernel_rfl)).symm.trans h0_) (by decide)⟩
                  refine steps_cons ?_ ?_
                  · rintro b a w' ⟨v121, adz_v121, m5_, ha, Q_BK118, Q_HB, Q_HO122, Q_HA_HO122, Q_X5_⟩ hb_ hon hoff
                    refine ⟨_, rfl, fun K hK => ?_⟩
                    have e9 : a.tmps[9]? = some (.pointer (some ⟨gb118, 1, none⟩)) := by rw [ha]; exact (putSel_off rfl).trans rfl
                    replace ha := Aside0.mk ha
                    have BK118 := Aside0.mk Q_BK118
                    have HB := Aside0.mk Q_HB
                    have hc0_ : w'.cell? ⟨gb118, 0, none⟩ = some (.string a0_0) := (blk_cell BK118.out 0).trans rfl
                    have hc1_ : w'.cell? ⟨gb118, 1, none⟩ = some (.int .i64 a0_1) := (blk_cell BK118.out 1).trans rfl
                    have hc2_ : w'.cell? ⟨gb118, 2, none⟩ = some (.int .i64 a0_2) := (blk_cell BK118.out 2).trans rfl
                    have hc3_ : w'.cell? ⟨gb118, 3, none⟩ = some (.int .i64 a0_3) := (blk_cell BK118.out 3).trans rfl
                    refine value_ (w1 := w') (v := .int .i64 a0_1) (by rfl) rfl ?_ ?_
                    · go_simp
                      (try simp only [i64_w])
                      try rfl
                    refine hK.out _ _ ⟨v121, adz_v121, m5_, (by rw [ha.out]; exact putSel_upk 2 hb_ rfl rfl rfl), Q_BK118, Q_HB, Q_HO122, Q_HA_HO122, fun h0_ => absurd ((hoff 5 (by kernel_rfl)).symm.trans h0_) (by decide)⟩
                  refine steps_cons ?_ ?_
                  · rintro b a w' ⟨v121, adz_v121, m5_, ha, Q_BK118, Q_HB, Q_HO122, Q_HA_HO122, Q_X5_⟩ hb_ hon hoff
                    refine ⟨_, rfl, fun K hK => ?_⟩
                    have e8 : a.tmps[8]? = some (v121) := by rw [ha]; exact putSel_on (e := (2, 8, v121)) 1 rfl rfl (hon 2 (by kernel_rfl)) rfl
                    have e10 : a.tmps[10]? = some (.int .i64 a0_1) := by rw [ha]; exact putSel_on (e := (4, 10, .int .i64 a0_1)) 2 rfl rfl (hon 4 (by kernel_rfl)) rfl
                    replace ha := Aside0.mk ha
                    have BK118 := Aside0.mk Q_BK118
                    have HB := Aside0.mk Q_HB
                    have HO122 := Aside0.mk (Q_HO122 (hon 2 (by kernel_rfl)))
                    have HA_HO122 := Aside0.mk (Q_HA_HO122 (hon 2 (by kernel_rfl)))
                    obtain ⟨c_, hv_⟩ := HA_HO122.out
                    rw [hv_] at e8
                    refine value_ (w1 := w') (v := .pointer (some (adz_v121.add (a0_1).toNat))) (by rfl) rfl ?_ ?_
                    · go_simp
                      (try simp only [i64_w])
                      try rfl
                    refine hK.out _ _ ⟨v121, adz_v121, (.pointer (some (adz_v121.add (a0_1).toNat))), (by rw [ha.out]; exact putSel_upk 3 hb_ rfl rfl rfl), Q_BK118, Q_HB, Q_HO122, Q_HA_HO122, fun _ => rfl⟩
                  refine steps_cons ?_ ?_
                  · rintro b a w' ⟨v121, adz_v121, m5_, ha, Q_BK118, Q_HB, Q_HO122, Q_HA_HO122, Q_X5_⟩ hb_ hon hoff
                    refine ⟨_, rfl, fun K hK => ?_⟩
                    have e11 : a.tmps[11]? = some (m5_) := by rw [ha]; exact putSel_on (e := (5, 11, m5_)) 3 rfl rfl (hon 5 (by kernel_rfl)) rfl
                    rw [Q_X5_ (hon 5 (by kernel_rfl))] at e11
                    replace ha := Aside0.mk ha
                    have BK118 := Aside0.mk Q_BK118
                    have HB := Aside0.mk Q_HB
                    have HO122 := Aside0.mk (Q_HO122 (hon 2 (by kernel_rfl)))
                    have HA_HO122 := Aside0.mk (Q_HA_HO122 (hon 2 (by kernel_rfl)))
                    obtain ⟨c_, hv_⟩ := HA_HO122.out
                    have hF_ := HO122.out
                    rw [hv_] at hF_
                    obtain ⟨ad_, ea_, hx_⟩ := Kd.at_string (Kd.R_reads' hF_).2.2 a0_1 (of_eq_true pi123) (of_eq_true qi123)
                    cases ea_
                    refine value_ (w1 := w') (v := .string (rdOf ByteArray.empty y120 a0_1)) (by rfl) rfl ?_ ?_
                    · go_simp
                      (try simp only [i64_w])
                      try rfl
                    refine hK.out _ _ ⟨v121, adz_v121, m5_, (by rw [ha.out]; exact putSel_upk 4 hb_ rfl rfl rfl), Q_BK118, Q_HB, Q_HO122, Q_HA_HO122, Q_X5_⟩
                  refine steps_cons ?_ ?_
                  · rintro b a w' ⟨v121, adz_v121, m5_, ha, Q_BK118, Q_HB, Q_HO122, Q_HA_HO122, Q_X5_⟩ hb_ hon hoff
                    refine ⟨_, rfl, fun K hK => ?_⟩
                    have e7 : a.tmps[7]? = some (.string a0_0) := by rw [ha]; exact putSel_on (e := (1, 7, .string a0_0)) 0 rfl rfl (hon 1 (by kernel_rfl)) rfl
                    have e12 : a.tmps[12]? = some (.string (rdOf ByteArray.empty y120 a0_1)) := by rw [ha]; exact putSel_on (e := (6, 12, .string (rdOf ByteArray.empty y120 a0_1))) 4 rfl rfl (hon 6 (by kernel_rfl)) rfl
                    replace ha := Aside0.mk ha
                    have BK118 := Aside0.mk Q_BK118
                    have HB := Aside0.mk Q_HB
                    have HO122 := Aside0.mk (Q_HO122 (hon 2 (by kernel_rfl)))
                    have HA_HO122 := Aside0.mk (Q_HA_HO122 (hon 2 (by kernel_rfl)))
                    refine value_ (w1 := w') (v := .string (a0_0 ++ (rdOf ByteArray.empty y120 a0_1))) (by rfl) rfl ?_ ?_
                    · go_simp
                      (try simp only [i64_w])
                      try rfl
                    refine hK.out _ _ ⟨v121, adz_v121, m5_, (by rw [ha.out]; exact putSel_upk 5 hb_ rfl rfl rfl), Q_BK118, Q_HB, Q_HO122, Q_HA_HO122, Q_X5_⟩
                  refine steps_cons ?_ ?_
                  · rintro b a w' ⟨v121, adz_v121, m5_, ha, Q_BK118, Q_HB, Q_HO122, Q_HA_HO122, Q_X5_⟩ hb_ hon hoff
                    refine ⟨_, rfl, fun K hK => ?_⟩
                    have e14 : a.tmps[14]? = some (.pointer (some ⟨gb118, 2, none⟩)) := by rw [ha]; exact (putSel_off rfl).trans rfl
                    replace ha := Aside0.mk ha
                    have BK118 := Aside0.mk Q_BK118
                    have HB := Aside0.mk Q_HB
                    have hc0_ : w'.cell? ⟨gb118, 0, none⟩ = some (.string a0_0) := (blk_cell BK118.out 0).trans rfl
                    have hc1_ : w'.cell? ⟨gb118, 1, none⟩ = some (.int .i64 a0_1) := (blk_cell BK118.out 1).trans rfl
                    have hc2_ : w'.cell? ⟨gb118, 2, none⟩ = some (.int .i64 a0_2) := (blk_cell BK118.out 2).trans rfl
                    have hc3_ : w'.cell? ⟨gb118, 3, none⟩ = some (.int .i64 a0_3) := (blk_cell BK118.out 3).trans rfl
                    refine value_ (w1 := w') (v := .int .i64 a0_2) (by rfl) rfl ?_ ?_
                    · go_simp
                      (try simp only [i64_w])
                      try rfl
                    refine hK.out _ _ ⟨v121, adz_v121, m5_, (by rw [ha.out]; exact putSel_upk 6 hb_ rfl rfl rfl), Q_BK118, Q_HB, Q_HO122, Q_HA_HO122, Q_X5_⟩
                  refine steps_cons ?_ ?_
                  · rintro b a w' ⟨v121, adz_v121, m5_, ha, Q_BK118, Q_HB, Q_HO122, Q_HA_HO122, Q_X5_⟩ hb_ hon hoff
                    refine ⟨_, rfl, fun K hK => ?_⟩
                    have e15 : a.tmps[15]? = some (.int .i64 a0_2) := by rw [ha]; exact putSel_on (e := (9, 15, .int .i64 a0_2)) 6 rfl rfl (hon 9 (by kernel_rfl)) rfl
                    replace ha := Aside0.mk ha
                    have BK118 := Aside0.mk Q_BK118
                    have HB := Aside0.mk Q_HB
                    refine goes_ Tryd.func23 (by kernel_rfl) rfl #[.int .i64 a0_2] (by rfl) rfl rfl (by first | (simp only [List.map_toArray, List.map_cons, List.map_nil, Act.eval, Array.getD_eq_getD_getElem?, Option.getD_some, e15]; done) | (simp only [List.map_toArray, List.map_cons, List.map_nil, Act.eval, Array.getD_eq_getD_getElem?, Option.getD_some, e15]; rfl)) ?_
                    with_reducible refine (spec_Dec.calls k a0_2 t124 _ A7.out).mono ?_
                    rintro e w16 ⟨rfl, hb⟩
                    refine ⟨_, rfl, ?_⟩
                    have n0_ := Aside0.mk (blk_below (g := gb118) (o := .cells #[.string a0_0, .int .i64 a0_1, .int .i64 a0_2, .int .i64 a0_3] 26 (0, 0)) (by (with_reducible repeat (first | refine blk_drewN ?_ _ | refine blk_drew ?_ | refine blk_alloc ?_ _)); exact BK118.out) hb)
                    have n1_ := Aside0.mk (below_step (by repeat (first | (with_reducible first | exact HB.out | apply below_alloc | apply pw_below_drewN | apply below_drew1 | refine below_set ?_ GE118.out) | exact HB.out)) hb)
                    have z_HO122 := fun (h0_ : b 2 = true) => (show Kd.R Kd.string 9 w16 w.heap.size (fun _ => True) v121 y120 from by first | exact (Kd.R_below (by (with_reducible repeat (first | apply Kd.R_alloc | apply Kd.R_drewN | apply Kd.R_drew)); exact (Q_HO122 h0_)) hb) | exact Kd.R_mono (Kd.R_below (by (with_reducible repeat (first | apply Kd.R_alloc | apply Kd.R_drewN | apply Kd.R_drew)); exact (Q_HO122 h0_)) hb) (fun _ h_ => by first | trivial | exact h_ | exact h_.1))
                    clear BK118
                    clear HB
                    have BK118 := n0_
                    have HB := n1_
                    clear n0_ n1_
                    (try clear hb)
                    (try clear hb2)
                    (try clear hk)
                    (try clear hi)
                    refine hK.out _ _ ⟨v121, adz_v121, m5_, (by rw [ha.out]; exact putSel_upk 7 hb_ rfl rfl rfl), (by (with_reducible repeat (first | refine blk_drewN ?_ _ | refine blk_drew ?_ | refine blk_alloc ?_ _)); exact BK118.out), (by repeat (first | (with_reducible first | exact HB.out | apply below_alloc | apply pw_below_drewN | apply below_drew1 | refine below_set ?_ GE118.out) | exact HB.out)), z_HO122, Q_HA_HO122, Q_X5_⟩
                  refine steps_cons ?_ ?_
                  · rintro b a w' ⟨v121, adz_v121, m5_, ha, Q_BK118, Q_HB, Q_HO122, Q_HA_HO122, Q_X5_⟩ hb_ hon hoff
                    refine ⟨_, rfl, fun K hK => ?_⟩
                    have e13 : a.tmps[13]? = some (.string (a0_0 ++ (rdOf ByteArray.empty y120 a0_1))) := by rw [ha]; exact putSel_on (e := (7, 13, .string (a0_0 ++ (rdOf ByteArray.empty y120 a0_1)))) 5 rfl rfl (hon 7 (by kernel_rfl)) rfl
                    have e16 : a.tmps[16]? = some (.string t124) := by rw [ha]; exact putSel_on (e := (10, 16, .string t124)) 7 rfl rfl (hon 10 (by kernel_rfl)) rfl
                    replace ha := Aside0.mk ha
                    have BK118 := Aside0.mk Q_BK118
                    have HB := Aside0.mk Q_HB
                    have HO122 := Aside0.mk (Q_HO122 (hon 2 (by kernel_rfl)))
                    have HA_HO122 := Aside0.mk (Q_HA_HO122 (hon 2 (by kernel_rfl)))
                    refine value_ (w1 := w') (v := .string ((a0_0 ++ (rdOf ByteArray.empty y120 a0_1)) ++ t124)) (by rfl) rfl ?_ ?_
                    · go_simp
                      (try simp only [i64_w])
                      try rfl
                    refine hK.out _ _ ⟨v121, adz_v121, m5_, (by rw [ha.out]; exact putSel_upk 8 hb_ rfl rfl rfl), Q_BK118, Q_HB, Q_HO122, Q_HA_HO122, Q_X5_⟩
                  refine steps_cons ?_ ?_
                  · rintro b a w' ⟨v121, adz_v121, m5_, ha, Q_BK118, Q_HB, Q_HO122, Q_HA_HO122, Q_X5_⟩ hb_ hon hoff
                    refine ⟨_, rfl, fun K hK => ?_⟩
                    have e17 : a.tmps[17]? = some (.string ((a0_0 ++ (rdOf ByteArray.empty y120 a0_1)) ++ t124)) := by rw [ha]; exact putSel_on (e := (11, 17, .string ((a0_0 ++ (rdOf ByteArray.empty y120 a0_1)) ++ t124))) 8 rfl rfl (hon 11 (by kernel_rfl)) rfl
                    replace ha := Aside0.mk ha
                    have BK118 := Aside0.mk Q_BK118
                    have HB := Aside0.mk Q_HB
                    have HO122 := Aside0.mk (Q_HO122 (hon 2 (by kernel_rfl)))
                    have HA_HO122 := Aside0.mk (Q_HA_HO122 (hon 2 (by kernel_rfl)))
                    refine value_ (w1 := w') (v := .string (((a0_0 ++ (rdOf ByteArray.empty y120 a0_1)) ++ t124) ++ (⟨#[32, 102, 111, 114, 32]⟩ : ByteArray))) (by rfl) rfl ?_ ?_
                    · go_simp
                      (try simp only [i64_w])
                      try rfl
                    refine hK.out _ _ ⟨v121, adz_v121, m5_, (by rw [ha.out]; exact putSel_upk 9 hb_ rfl rfl rfl), Q_BK118, Q_HB, Q_HO122, Q_HA_HO122, Q_X5_⟩
                  refine steps_cons ?_ ?_
                  · rintro b a w' ⟨v121, adz_v121, m5_, ha, Q_BK118, Q_HB, Q_HO122, Q_HA_HO122, Q_X5_⟩ hb_ hon hoff
                    refine ⟨_, rfl, fun K hK => ?_⟩
                    have e19 : a.tmps[19]? = some (.pointer (some ⟨gb118, 3, none⟩)) := by rw [ha]; exact (putSel_off rfl).trans rfl
                    replace ha := Aside0.mk ha
                    have BK118 := Aside0.mk Q_BK118
                    have HB := Aside0.mk Q_HB
                    have hc0_ : w'.cell? ⟨gb118, 0, none⟩ = some (.string a0_0) := (blk_cell BK118.out 0).trans rfl
                    have hc1_ : w'.cell? ⟨gb118, 1, none⟩ = some (.int .i64 a0_1) := (blk_cell BK118.out 1).trans rfl
                    have hc2_ : w'.cell? ⟨gb118, 2, none⟩ = some (.int .i64 a0_2) := (blk_cell BK118.out 2).trans rfl
                    have hc3_ : w'.cell? ⟨gb118, 3, none⟩ = some (.int .i64 a0_3) := (blk_cell BK118.out 3).trans rfl
                    refine value_ (w1 := w') (v := .int .i64 a0_3) (by rfl) rfl ?_ ?_
                    · go_simp
                      (try simp only [i64_w])
                      try rfl
                    refine hK.out _ _ ⟨v121, adz_v121, m5_, (by rw [ha.out]; exact putSel_upk 10 hb_ rfl rfl rfl), Q_BK118, Q_HB, Q_HO122, Q_HA_HO122, Q_X5_⟩
                  refine steps_cons ?_ ?_
                  · rintro b a w' ⟨v121, adz_v121, m5_, ha, Q_BK118, Q_HB, Q_HO122, Q_HA_HO122, Q_X5_⟩ hb_ hon hoff
                    refine ⟨_, rfl, fun K hK => ?_⟩
                    have e20 : a.tmps[20]? = some (.int .i64 a0_3) := by rw [ha]; exact putSel_on (e := (14, 20, .int .i64 a0_3)) 10 rfl rfl (hon 14 (by kernel_rfl)) rfl
                    replace ha := Aside0.mk ha
                    have BK118 := Aside0.mk Q_BK118
                    have HB := Aside0.mk Q_HB
                    refine goes_ Tryd.func23 (by kernel_rfl) rfl #[.int .i64 a0_3] (by rfl) rfl rfl (by first | (simp only [List.map_toArray, List.map_cons, List.map_nil, Act.eval, Array.getD_eq_getD_getElem?, Option.getD_some, e20]; done) | (simp only [List.map_toArray, List.map_cons, List.map_nil, Act.eval, Array.getD_eq_getD_getElem?, Option.getD_some, e20]; rfl)) ?_
                    with_reducible refine (spec_Dec.calls k a0_3 t125 _ A10.out).mono ?_
                    rintro e w18 ⟨rfl, hb⟩
                    refine ⟨_, rfl, ?_⟩
                    have n0_ := Aside0.mk (blk_below (g := gb118) (o := .cells #[.string a0_0, .int .i64 a0_1, .int .i64 a0_2, .int .i64 a0_3] 26 (0, 0)) (by (with_reducible repeat (first | refine blk_drewN ?_ _ | refine blk_drew ?_ | refine blk_alloc ?_ _)); exact BK118.out) hb)
                    have n1_ := Aside0.mk (below_step (by repeat (first | (with_reducible first | exact HB.out | apply below_alloc | apply pw_below_drewN | apply below_drew1 | refine below_set ?_ GE118.out) | exact HB.out)) hb)
                    have z_HO122 := fun (h0_ : b 2 = true) => (show Kd.R Kd.string 9 w18 w.heap.size (fun _ => True) v121 y120 from by first | exact (Kd.R_below (by (with_reducible repeat (first | apply Kd.R_alloc | apply Kd.R_drewN | apply Kd.R_drew)); exact (Q_HO122 h0_)) hb) | exact Kd.R_mono (Kd.R_below (by (with_reducible repeat (first | apply Kd.R_alloc | apply Kd.R_drewN | apply Kd.R_drew)); exact (Q_HO122 h0_)) hb) (fun _ h_ => by first | trivial | exact h_ | exact h_.1))
                    clear BK118
                    clear HB
                    have BK118 := n0_
                    have HB := n1_
                    clear n0_ n1_
                    (try clear hb)
                    (try clear hb2)
                    (try clear hk)
                    (try clear hi)
                    refine hK.out _ _ ⟨v121, adz_v121, m5_, (by rw [ha.out]; exact putSel_upk 11 hb_ rfl rfl rfl), (by (with_reducible repeat (first | refine blk_drewN ?_ _ | refine blk_drew ?_ | refine blk_alloc ?_ _)); exact BK118.out), (by repeat (first | (with_reducible first | exact HB.out | apply below_alloc | apply pw_below_drewN | apply below_drew1 | refine below_set ?_ GE118.out) | exact HB.out)), z_HO122, Q_HA_HO122, Q_X5_⟩
                  refine steps_cons ?_ ?_
                  · rintro b a w' ⟨v121, adz_v121, m5_, ha, Q_BK118, Q_HB, Q_HO122, Q_HA_HO122, Q_X5_⟩ hb_ hon hoff
                    refine ⟨_, rfl, fun K hK => ?_⟩
                    have e18 : a.tmps[18]? = some (.string (((a0_0 ++ (rdOf ByteArray.empty y120 a0_1)) ++ t124) ++ (⟨#[32, 102, 111, 114, 32]⟩ : ByteArray))) := by rw [ha]; exact putSel_on (e := (12, 18, .string (((a0_0 ++ (rdOf ByteArray.empty y120 a0_1)) ++ t124) ++ (⟨#[32, 102, 111, 114, 32]⟩ : ByteArray)))) 9 rfl rfl (hon 12 (by kernel_rfl)) rfl
                    have e21 : a.tmps[21]? = some (.string t125) := by rw [ha]; exact putSel_on (e := (15, 21, .string t125)) 11 rfl rfl (hon 15 (by kernel_rfl)) rfl
                    replace ha := Aside0.mk ha
                    have BK118 := Aside0.mk Q_BK118
                    have HB := Aside0.mk Q_HB
                    have HO122 := Aside0.mk (Q_HO122 (hon 2 (by kernel_rfl)))
                    have HA_HO122 := Aside0.mk (Q_HA_HO122 (hon 2 (by kernel_rfl)))
                    refine value_ (w1 := w') (v := .string ((((a0_0 ++ (rdOf ByteArray.empty y120 a0_1)) ++ t124) ++ (⟨#[32, 102, 111, 114, 32]⟩ : ByteArray)) ++ t125)) (by rfl) rfl ?_ ?_
                    · go_simp
                      (try simp only [i64_w])
                      try rfl
                    refine hK.out _ _ ⟨v121, adz_v121, m5_, (by rw [ha.out]; exact putSel_upk 12 hb_ rfl rfl rfl), Q_BK118, Q_HB, Q_HO122, Q_HA_HO122, Q_X5_⟩
                  refine steps_cons ?_ ?_
                  · rintro b a w' ⟨v121, adz_v121, m5_, ha, Q_BK118, Q_HB, Q_HO122, Q_HA_HO122, Q_X5_⟩ hb_ hon hoff
                    refine ⟨_, rfl, fun K hK => ?_⟩
                    have e22 : a.tmps[22]? = some (.string ((((a0_0 ++ (rdOf ByteArray.empty y120 a0_1)) ++ t124) ++ (⟨#[32, 102, 111, 114, 32]⟩ : ByteArray)) ++ t125)) := by rw [ha]; exact putSel_on (e := (16, 22, .string ((((a0_0 ++ (rdOf ByteArray.empty y120 a0_1)) ++ t124) ++ (⟨#[32, 102, 111, 114, 32]⟩ : ByteArray)) ++ t125))) 12 rfl rfl (hon 16 (by kernel_rfl)) rfl
                    replace ha := Aside0.mk ha
                    have BK118 := Aside0.mk Q_BK118
                    have HB := Aside0.mk Q_HB
                    have HO122 := Aside0.mk (Q_HO122 (hon 2 (by kernel_rfl)))
                    have HA_HO122 := Aside0.mk (Q_HA_HO122 (hon 2 (by kernel_rfl)))
                    refine value_ (w1 := w') (v := .string ((((a0_0 ++ (rdOf ByteArray.empty y120 a0_1)) ++ t124) ++ (⟨#[32, 102, 111, 114, 32]⟩ : ByteArray)) ++ t125)) (by rfl) rfl ?_ ?_
                    · go_simp
                      (try simp only [i64_w])
                      try rfl
                    refine hK.out _ _ ⟨v121, adz_v121, m5_, (by rw [ha.out]; exact putSel_upk 13 hb_ rfl rfl rfl), Q_BK118, Q_HB, Q_HO122, Q_HA_HO122, Q_X5_⟩
                  exact steps_nil
                rintro b a w21 hall ⟨v121, adz_v121, m5_, ha, Q_BK118, Q_HB, Q_HO122, Q_HA_HO122, Q_X5_⟩
                clear BK118 HB
                have hb1_ := hall 1 (by kernel_rfl)
                have hb2_ := hall 2 (by kernel_rfl)
                have hb4_ := hall 4 (by kernel_rfl)
                have hb5_ := hall 5 (by kernel_rfl)
                have hb6_ := hall 6 (by kernel_rfl)
                have hb7_ := hall 7 (by kernel_rfl)
                have hb9_ := hall 9 (by kernel_rfl)
                have hb10_ := hall 10 (by kernel_rfl)
                have hb11_ := hall 11 (by kernel_rfl)
                have hb12_ := hall 12 (by kernel_rfl)
                have hb14_ := hall 14 (by kernel_rfl)
                have hb15_ := hall 15 (by kernel_rfl)
                have hb16_ := hall 16 (by kernel_rfl)
                have hb17_ := hall 17 (by kernel_rfl)
                subst ha
                obtain rfl := Q_X5_ hb5_
                simp only [putSel, hb1_, hb2_, hb4_, hb5_, hb6_, hb7_, hb9_, hb10_, hb11_, hb12_, hb14_, hb15_, hb16_, hb17_, if_true, Act.put, List.setIfInBounds_toArray, List.set_cons_zero, List.set_cons_succ]
                have BK118 := Aside0.mk Q_BK118
                clear Q_BK118
                have HB := Aside0.mk Q_HB
                clear Q_HB
                have HO122 := Aside0.mk (Q_HO122 hb2_)
                clear Q_HO122
                have HA_HO122 := Aside0.mk (Q_HA_HO122 hb2_)
                clear Q_HA_HO122
                clear hall hb1_ hb2_ hb4_ hb5_ hb6_ hb7_ hb9_ hb10_ hb11_ hb12_ hb14_ hb15_ hb16_ hb17_
                obtain ⟨co22, eo22⟩ := HA_HO122.out
                clear HA_HO122
                subst eo22
                try go_wp2
                go_ret
                exact ⟨by first | rfl | (simp [errW_none, errW_some] <;> rfl) | (simp [*, errW_none, errW_some] <;> rfl), by repeat (first | (with_reducible first | exact HB.out | apply below_alloc | apply pw_below_drewN | apply below_drew1 | refine below_set ?_ GE118.out) | exact HB.out)⟩
              · rw [if_neg c11] at H
                exact absurd H (by simp)
            · rw [if_neg c9] at H
              exact absurd H (by simp)
          · rw [if_neg c8] at H
            exact absurd H (by simp)
        · rw [if_neg c6] at H
          exact absurd H (by simp)
      · rw [if_neg c5] at H
        exact absurd H (by simp)
    · rw [if_neg c4] at H
      exact absurd H (by simp)
  · replace c3 := Bool.eq_false_iff.mpr c3
    subst c3
    have H1 : (some (⟨#[]⟩ : ByteArray)) = some r := by rw [if_neg (show ¬ (false = true) by decide)] at H; exact H
    clear H
    have H := H1
    clear H1
    obtain rfl := Option.some.inj H
    go_enter Tryd.func7, Tryd.ntmps7
    go_wp2_with (first | ((with_reducible refine gate_dst (N := 1) rfl ?_); refine box_event ?hg (N := 1) ?hd (cs := #[.string a0_0, .int .i64 a0_1, .int .i64 a0_2, .int .i64 a0_3]) (t := 26) ?hr ?_; (case hd => rfl); (case hg => rfl); (case hr => first | (go_simp; done) | (go_simp; rfl)); intro gb118 hg w23 hbox hb; have n0_ := Aside0.mk (below_step (by repeat (first | (with_reducible first | exact HB.out | apply below_alloc | apply pw_below_drewN | apply below_drew1) | exact HB.out)) hb); have n1_ := Aside0.mk (hbox); have n2_ := Aside0.mk ((by rw [hg]; exact (below_size (by repeat (first | (with_reducible first | exact HB.out | apply below_alloc | apply pw_below_drewN | apply below_drew1) | exact HB.out))) : w.heap.size ≤ gb118)); have n3_ := Aside0.mk ((by rw [hg]; exact (below_size (by repeat (first | (with_reducible first | exact HB.out | apply below_alloc | apply pw_below_drewN | apply below_drew1) | exact HB.out))) : w.heap.size ≤ gb118)); clear HB; have HB := n0_; have BK118 := n1_; have GW118 := n2_; have GE118 := n3_; clear n0_ n1_ n2_ n3_; clear hb hbox hg; have hcz24_0 : w23.cell? ⟨gb118, 0, none⟩ = some (.string a0_0) := (blk_cell BK118.out 0).trans rfl; have hcz24_1 : w23.cell? ⟨gb118, 1, none⟩ = some (.int .i64 a0_1) := (blk_cell BK118.out 1).trans rfl; have hcz24_2 : w23.cell? ⟨gb118, 2, none⟩ = some (.int .i64 a0_2) := (blk_cell BK118.out 2).trans rfl; have hcz24_3 : w23.cell? ⟨gb118, 3, none⟩ = some (.int .i64 a0_3) := (blk_cell BK118.out 3).trans rfl; have hfz24_0 := blk_frozen BK118.out 0; have hfz24_1 := blk_frozen BK118.out 1; have hfz24_2 := blk_frozen BK118.out 2; have hfz24_3 := blk_frozen BK118.out 3) | ((with_reducible refine gate_callee (f := 22) rfl ?_); refine goesL_ (some 4) rfl rfl Tryd.func22 (by kernel_rfl) rfl #[.agg #[.string a0_0, .int .i64 a0_1, .int .i64 a0_2, .int .i64 a0_3]] rfl (by (try simp only [List.map_toArray, List.map_cons, List.map_nil]); first | done | rfl | (simp only [List.length_drop, List.length_take]; rfl)) ?_; (with_reducible refine (spec_RuleOk.calls k a0_0 a0_1 a0_2 a0_3 false _ A2.out).mono ?_); rintro e w25 ⟨rfl, hb⟩; refine ⟨_, rfl, ?_⟩; have n0_ := Aside0.mk (blk_below (g := gb118) (o := .cells #[.string a0_0, .int .i64 a0_1, .int .i64 a0_2, .int .i64 a0_3] 26 (0, 0)) (by (with_reducible repeat (first | refine blk_drewN ?_ _ | refine blk_drew ?_ | refine blk_alloc ?_ _)); exact BK118.out) hb); have n1_ := Aside0.mk (below_step (by repeat (first | (with_reducible first | exact HB.out | apply below_alloc | apply pw_below_drewN | apply below_drew1 | refine below_set ?_ GE118.out) | exact HB.out)) hb); clear BK118; clear HB; have BK118 := n0_; have HB := n1_; clear n0_ n1_; (try clear hb); (try clear hb2); (try clear hk); (try clear hi)))
    go_ret
    exact ⟨by first | rfl | (simp [errW_none, errW_some] <;> rfl) | (simp [*, errW_none, errW_some] <;> rfl), by repeat (first | (with_reducible first | exact HB.out | apply below_alloc | apply pw_below_drewN | apply below_drew1 | refine below_set ?_ GE118.out) | exact HB.out)⟩

/-! ### laws_toRule: function 8 -/
def laws_toRule.f (a0_0 : ByteArray) (a0_1 : Int) (a0_2 : Int) (a0_3 : Int) : Option (ByteArray × Int × Int × Int) := some (a0_0, a0_1, a0_2, a0_3)
set_option maxHeartbeats 8000000 in
set_option maxRecDepth 100000 in
theorem laws_toRule.calls (a0_0 : ByteArray) (a0_1 : Int) (a0_2 : Int) (a0_3 : Int) (r1 : ByteArray) (r2 : Int) (r3 : Int) (r4 : Int) (w : World) (h : laws_toRule.f a0_0 a0_1 a0_2 a0_3 = some (r1, r2, r3, r4)) :
    Calls Tryd.prog 8 #[.agg #[.string a0_0, .int .i64 a0_1, .int .i64 a0_2, .int .i64 a0_3]] w fun e w' => e = .returned (.agg #[.string r1, .int .i64 r2, .int .i64 r3, .int .i64 r4]) ∧ Below w.heap.size w w' := by
  have hu23 := Tryd.underlying23
  have hu26 := Tryd.underlying26
  have HB := Aside0.mk (Below.refl w.heap.size w)
  have H : (some (a0_0, a0_1, a0_2, a0_3)) = some (r1, r2, r3, r4) := h
  clear h
  simp only [Option.some.injEq, Prod.mk.injEq] at H
  obtain ⟨rfl, rfl, rfl, rfl⟩ := H
  go_enter Tryd.func8, Tryd.ntmps8
  go_wp2_with (first | ((with_reducible refine gate_dst (N := 1) rfl ?_); refine box_event ?hg (N := 1) ?hd (cs := #[.string a0_0, .int .i64 a0_1, .int .i64 a0_2, .int .i64 a0_3]) (t := 23) ?hr ?_; (case hd => rfl); (case hg => rfl); (case hr => first | (go_simp; done) | (go_simp; rfl)); intro gb126 hg w2 hbox hb; have n0_ := Aside0.mk (below_step (by repeat (first | (with_reducible first | exact HB.out | apply below_alloc | apply pw_below_drewN | apply below_drew1) | exact HB.out)) hb); have n1_ := Aside0.mk (hbox); have n2_ := Aside0.mk ((by rw [hg]; exact (below_size (by repeat (first | (with_reducible first | exact HB.out | apply below_alloc | apply pw_below_drewN | apply below_drew1) | exact HB.out))) : w.heap.size ≤ gb126)); have n3_ := Aside0.mk ((by rw [hg]; exact (below_size (by repeat (first | (with_reducible first | exact HB.out | apply below_alloc | apply pw_below_drewN | apply below_drew1) | exact HB.out))) : w.heap.size ≤ gb126)); clear HB; have HB := n0_; have BK126 := n1_; have GW126 := n2_; have GE126 := n3_; clear n0_ n1_ n2_ n3_; clear hb hbox hg) | ((with_reducible refine gate_dst (N := 2) rfl ?_); refine box_event ?hg (N := 2) ?hd (cs := #[.string (⟨#[]⟩ : ByteArray), .int .i64 0, .int .i64 0, .int .i64 0]) (t := 26) ?hr ?_; (case hd => rfl); (case hg => rfl); (case hr => first | (go_simp; done) | (go_simp; rfl)); intro gb127 hg w3 hbox hb; have n0_ := Aside0.mk (blk_below (g := gb126) (o := .cells #[.string a0_0, .int .i64 a0_1, .int .i64 a0_2, .int .i64 a0_3] 23 (0, 0)) (by (with_reducible repeat (first | refine blk_drewN ?_ _ | refine blk_drew ?_ | refine blk_alloc ?_ _)); exact BK126.out) hb); have n1_ := Aside0.mk (below_step (by repeat (first | (with_reducible first | exact HB.out | apply below_alloc | apply pw_below_drewN | apply below_drew1 | refine below_set ?_ GE126.out) | exact HB.out)) hb); have n2_ := Aside0.mk (hbox); have n3_ := Aside0.mk ((by rw [hg]; exact (below_size (by repeat (first | (with_reducible first | exact HB.out | apply below_alloc | apply pw_below_drewN | apply below_drew1 | refine below_set ?_ GE126.out) | exact HB.out))) : w.heap.size ≤ gb127)); have n4_ := Aside0.mk ((by rw [hg]; exact (below_size (by repeat (first | (with_reducible first | exact HB.out | apply below_alloc | apply pw_below_drewN | apply below_drew1 | refine below_set ?_ GE126.out) | exact HB.out))) : w.heap.size ≤ gb127)); have n5_ := Aside0.mk ((by rw [hg]; exact Nat.ne_of_lt (blk_lt (g := gb126) (o := .cells #[.string a0_0, .int .i64 a0_1, .int .i64 a0_2, .int .i64 a0_3] 23 (0, 0)) (by (with_reducible repeat (first | refine blk_drewN ?_ _ | refine blk_drew ?_ | refine blk_alloc ?_ _)); exact BK126.out)) : gb126 ≠ gb127)); have n6_ := Aside0.mk ((by rw [hg]; exact Nat.ne_of_gt (blk_lt (g := gb126) (o := .cells #[.string a0_0, .int .i64 a0_1, .int .i64 a0_2, .int .i64 a0_3] 23 (0, 0)) (by (with_reducible repeat (first | refine blk_drewN ?_ _ | refine blk_drew ?_ | refine blk_alloc ?_ _)); exact BK126.out)) : gb127 ≠ gb126)); clear BK126; clear HB; have BK126 := n0_; have HB := n1_; have BK127 := n2_; have GW127 := n3_; have GE127 := n4_; have NB126_127 := n5_; have NB127_126 := n6_; clear n0_ n1_ n2_ n3_ n4_ n5_ n6_; clear hb hbox hg) | ((with_reducible refine gate_dst (N := 3) rfl ?_); refine box_event ?hg (N := 3) ?hd (cs := #[.string (⟨#[]⟩ : ByteArray), .int .i64 0, .int .i64 0, .int .i64 0]) (t := 26) ?hr ?_; (case hd => rfl); (case hg => rfl); (case hr => first | (go_simp; done) | (go_simp; rfl)); intro gb128 hg w4 hbox hb; have n0_ := Aside0.mk (blk_below (g := gb126) (o := .cells #[.string a0_0, .int .i64 a0_1, .int .i64 a0_2, .int .i64 a0_3] 23 (0, 0)) (by (with_reducible repeat (first | refine blk_drewN ?_ _ | refine blk_drew ?_ | refine blk_alloc ?_ _)); exact BK126.out) hb); have n1_ := Aside0.mk (blk_below (g := gb127) (o := .cells #[.string (⟨#[]⟩ : ByteArray), .int .i64 0, .int .i64 0, .int .i64 0] 26 (0, 0)) (by (with_reducible repeat (first | refine blk_drewN ?_ _ | refine blk_drew ?_ | refine blk_alloc ?_ _)); exact BK127.out) hb); have n2_ := Aside0.mk (below_step (by repeat (first | (with_reducible first | exact HB.out | apply below_alloc | apply pw_below_drewN | apply below_drew1 | refine below_set ?_ GE126.out | refine below_set ?_ GE127.out) | exact HB.out)) hb); have n3_ := Aside0.mk (hbox); have n4_ := Aside0.mk ((by rw [hg]; exact (below_size (by repeat (first | (with_reducible first | exact HB.out | apply below_alloc | apply pw_below_drewN | apply below_drew1 | refine below_set ?_ GE126.out | refine below_set ?_ GE127.out) | exact HB.out))) : w.heap.size ≤ gb128)); have n5_ := Aside0.mk ((by rw [hg]; exact (below_size (by repeat (first | (with_reducible first | exact HB.out | apply below_alloc | apply pw_below_drewN | apply below_drew1 | refine below_set ?_ GE126.out | refine below_set ?_ GE127.out) | exact HB.out))) : w.heap.size ≤ gb128)); have n6_ := Aside0.mk ((by rw [hg]; exact Nat.ne_of_lt (blk_lt (g := gb126) (o := .cells #[.string a0_0, .int .i64 a0_1, .int .i64 a0_2, .int .i64 a0_3] 23 (0, 0)) (by (with_reducible repeat (first | refine blk_drewN ?_ _ | refine blk_drew ?_ | refine blk_alloc ?_ _)); exact BK126.out)) : gb126 ≠ gb128)); have n7_ := Aside0.mk ((by rw [hg]; exact Nat.ne_of_gt (blk_lt (g := gb126) (o := .cells #[.string a0_0, .int .i64 a0_1, .int .i64 a0_2, .int .i64 a0_3] 23 (0, 0)) (by (with_reducible repeat (first | refine blk_drewN ?_ _ | refine blk_drew ?_ | refine blk_alloc ?_ _)); exact BK126.out)) : gb128 ≠ gb126)); have n8_ := Aside0.mk ((by rw [hg]; exact Nat.ne_of_lt (blk_lt (g := gb127) (o := .cells #[.string (⟨#[]⟩ : ByteArray), .int .i64 0, .int .i64 0, .int .i64 0] 26 (0, 0)) (by (with_reducible repeat (first | refine blk_drewN ?_ _ | refine blk_drew ?_ | refine blk_alloc ?_ _)); exact BK127.out)) : gb127 ≠ gb128)); have n9_ := Aside0.mk ((by rw [hg]; exact Nat.ne_of_gt (blk_lt (g := gb127) (o := .cells #[.string (⟨#[]⟩ : ByteArray), .int .i64 0, .int .i64 0, .int .i64 0] 26 (0, 0)) (by (with_reducible repeat (first | refine blk_drewN ?_ _ | refine blk_drew ?_ | refine blk_alloc ?_ _)); exact BK127.out)) : gb128 ≠ gb127)); clear BK126; clear BK127; clear HB; have BK126 := n0_; have BK127 := n1_; have HB := n2_; have BK128 := n3_; have GW128 := n4_; have GE128 := n5_; have NB126_128 := n6_; have NB128_126 := n7_; have NB127_128 := n8_; have NB128_127 := n9_; clear n0_ n1_ n2_ n3_ n4_ n5_ n6_ n7_ n8_ n9_; clear hb hbox hg; have hnb5 := NB126_127.out; have hnc5 := NB127_126.out; have hnb6 := NB126_128.out; have hnc6 := NB128_126.out; have hcz7_0 : w4.cell? ⟨gb126, 0, none⟩ = some (.string a0_0) := (blk_cell BK126.out 0).trans rfl; have hcz7_1 : w4.cell? ⟨gb126, 1, none⟩ = some (.int .i64 a0_1) := (blk_cell BK126.out 1).trans rfl; have hcz7_2 : w4.cell? ⟨gb126, 2, none⟩ = some (.int .i64 a0_2) := (blk_cell BK126.out 2).trans rfl; have hcz7_3 : w4.cell? ⟨gb126, 3, none⟩ = some (.int .i64 a0_3) := (blk_cell BK126.out 3).trans rfl; have hfz7_0 := blk_frozen BK126.out 0; have hfz7_1 := blk_frozen BK126.out 1; have hfz7_2 := blk_frozen BK126.out 2; have hfz7_3 := blk_frozen BK126.out 3; have hnb8 := NB128_127.out; have hnc8 := NB127_128.out; have hcz9_0 : w4.cell? ⟨gb128, 0, none⟩ = some (.string (⟨#[]⟩ : ByteArray)) := (blk_cell BK128.out 0).trans rfl; have hcz9_1 : w4.cell? ⟨gb128, 1, none⟩ = some (.int .i64 0) := (blk_cell BK128.out 1).trans rfl; have hcz9_2 : w4.cell? ⟨gb128, 2, none⟩ = some (.int .i64 0) := (blk_cell BK128.out 2).trans rfl; have hcz9_3 : w4.cell? ⟨gb128, 3, none⟩ = some (.int .i64 0) := (blk_cell BK128.out 3).trans rfl; have hfz9_0 := blk_frozen BK128.out 0; have hfz9_1 := blk_frozen BK128.out 1; have hfz9_2 := blk_frozen BK128.out 2; have hfz9_3 := blk_frozen BK128.out 3; have hcz10_0 : w4.cell? ⟨gb127, 0, none⟩ = some (.string (⟨#[]⟩ : ByteArray)) := (blk_cell BK127.out 0).trans rfl; have hcz10_1 : w4.cell? ⟨gb127, 1, none⟩ = some (.int .i64 0) := (blk_cell BK127.out 1).trans rfl; have hcz10_2 : w4.cell? ⟨gb127, 2, none⟩ = some (.int .i64 0) := (blk_cell BK127.out 2).trans rfl; have hcz10_3 : w4.cell? ⟨gb127, 3, none⟩ = some (.int .i64 0) := (blk_cell BK127.out 3).trans rfl; have hfz10_0 := blk_frozen BK127.out 0; have hfz10_1 := blk_frozen BK127.out 1; have hfz10_2 := blk_frozen BK127.out 2; have hfz10_3 := blk_frozen BK127.out 3))
  refine bodyPost_ret (results_cell_row rfl _ _ gb127 26 #[.string a0_0, .int .i64 a0_1, .int .i64 a0_2, .int .i64 a0_3] (0, 0) _ rfl (by (with_reducible repeat (first | refine blk_drewN ?_ _ | refine blk_drew ?_ | refine blk_alloc ?_ _)); refine blk_put (cs := #[.string a0_0, .int .i64 a0_1, .int .i64 a0_2, .int .i64 0]) ?_ 3 _ rfl; (with_reducible repeat (first | refine blk_drewN ?_ _ | refine blk_drew ?_ | refine blk_alloc ?_ _)); refine blk_put (cs := #[.string a0_0, .int .i64 a0_1, .int .i64 0, .int .i64 0]) ?_ 2 _ rfl; (with_reducible repeat (first | refine blk_drewN ?_ _ | refine blk_drew ?_ | refine blk_alloc ?_ _)); refine blk_put (cs := #[.string a0_0, .int .i64 0, .int .i64 0, .int .i64 0]) ?_ 1 _ rfl; (with_reducible repeat (first | refine blk_drewN ?_ _ | refine blk_drew ?_ | refine blk_alloc ?_ _)); refine blk_put (cs := #[.string (⟨#[]⟩ : ByteArray), .int .i64 0, .int .i64 0, .int .i64 0]) ?_ 0 _ rfl; (with_reducible repeat (first | refine blk_drewN ?_ _ | refine blk_drew ?_ | refine blk_alloc ?_ _)); refine blk_far ?_ NB127_128.out _; (with_reducible repeat (first | refine blk_drewN ?_ _ | refine blk_drew ?_ | refine blk_alloc ?_ _)); refine blk_far ?_ NB127_128.out _; (with_reducible repeat (first | refine blk_drewN ?_ _ | refine blk_drew ?_ | refine blk_alloc ?_ _)); refine blk_far ?_ NB127_128.out _; (with_reducible repeat (first | refine blk_drewN ?_ _ | refine blk_drew ?_ | refine blk_alloc ?_ _)); refine blk_far ?_ NB127_128.out _; (with_reducible repeat (first | refine blk_drewN ?_ _ | refine blk_drew ?_ | refine blk_alloc ?_ _)); exact BK127.out) Tryd.underlying26 rfl (by kernel_rfl)) rfl ?_
  exact ⟨by first | rfl | (simp [errW_none, errW_some] <;> rfl) | (simp [*, errW_none, errW_some] <;> rfl), by repeat (first | (with_reducible first | exact HB.out | apply below_alloc | apply pw_below_drewN | apply below_drew1 | refine below_set ?_ GE126.out | refine below_set ?_ GE127.out | refine below_set ?_ GE128.out) | exact HB.out)⟩

/-! ### impl_within: function 38 -/
def impl_within.f (a0 : Int) (a1 : Int) (a2 : Int) : Option (Bool) := if a1 ≤ a0 then (some (decide (a0 ≤ a2))) else (some false)
set_option maxHeartbeats 8000000 in
set_option maxRecDepth 100000 in
theorem impl_within.calls (a0 : Int) (a1 : Int) (a2 : Int) (r : Bool) (w : World) (h : impl_within.f a0 a1 a2 = some r) :
    Calls Tryd.prog 38 #[.int .i64 a0, .int .i64 a1, .int .i64 a2] w fun e w' => e = .returned (.bool r) ∧ Drawn0 w w' := by
  have H : (if a1 ≤ a0 then (some (decide (a0 ≤ a2))) else (some false)) = some r := h
  clear h
  by_cases c4 : a1 ≤ a0
  · rw [if_pos c4] at H
    have c4b0 : decide (a1 ≤ a0) = true := decide_eq_true c4
    clear c4
    obtain rfl := Option.some.inj H
    go_enter Tryd.func38, Tryd.ntmps38
    go_wp2
    go_ret
    exact ⟨by first | rfl | (simp; done) | (simp [*]; done), by repeat (first | exact Drawn0.refl _ | apply Drawn0.step)⟩
  · rw [if_neg c4] at H
    have c4b0 : decide (a1 ≤ a0) = false := decide_eq_false c4
    clear c4
    obtain rfl := Option.some.inj H
    go_enter Tryd.func38, Tryd.ntmps38
    go_wp2
    go_ret
    exact ⟨by first | rfl | (simp; done) | (simp [*]; done), by repeat (first | exact Drawn0.refl _ | apply Drawn0.step)⟩

end Go.Proofs.YthhbgembnlpohaaDoor.QFnExactShowRule
