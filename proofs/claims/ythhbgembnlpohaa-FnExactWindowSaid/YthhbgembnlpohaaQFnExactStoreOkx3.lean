-- MADE BY qprint.py, a program of this claim's session, over the kit's print: own text.
import Derived.Test.YthhbgembnlpohaaQFnExactStoreOkx0
import Derived.Test.YthhbgembnlpohaaQFnExactStoreOkx1
import Derived.Test.YthhbgembnlpohaaQFnExactStoreOkx2
namespace Go.Proofs.Ythhbgembnlpohaa.QFnExactStoreOk
open Go.RowKit Go.Proofs.YthhbgembnlpohaaW.PrintWords Go.Proofs.YthhbgembnlpohaaW.PrintLast Go.Proofs.YthhbgembnlpohaaW.PrintMore
attribute [local go_sem] max2_int min2_int max_two min_two max_three min_three max_four min_four   -- for this text's walks alone
attribute [local go_sem high] leq_str gtr_str geq_str
set_option linter.unusedVariables false
set_option linter.unusedSimpArgs false

attribute [local go_sem high] eqA102

/-! ### spec_RowOk: function 101 -/
def spec_RowOk.f (k : Nat) (a0_0 : ByteArray) (a0_1 : Int) (a0_2 : Int) (a0_3 : Bool) (a0_4 : Int) (a0_5 : Int) (a0_6 : Int) (a0_7 : Int) (a0_8 : Int) (a0_9 : Int) : Option (Bool) := (spec_KeyOk.f k a0_0).bind fun t => some (t && rowB a0_1 a0_2 a0_3 a0_4 a0_5 a0_6 a0_7 a0_8 a0_9)
theorem spec_RowOk.mono : ∀ a0 a1 a2 a3 a4 a5 a6 a7 a8 a9 k, LeO (spec_RowOk.f k a0 a1 a2 a3 a4 a5 a6 a7 a8 a9) (spec_RowOk.f (k + 1) a0 a1 a2 a3 a4 a5 a6 a7 a8 a9) := by
 intro a0 a1 a2 a3 a4 a5 a6 a7 a8 a9 k
 unfold spec_RowOk.f
 exact LeO.bind (spec_KeyOk.mono _ _) (fun _ => LeO.refl _)
theorem spec_RowOk.timer (a0_0 : ByteArray) (a0_1 : Int) (a0_2 : Int) (a0_3 : Bool) (a0_4 : Int) (n mn mx tot drp : Int) : spec_l7Timer.f a0_0 a0_1 a0_2 a0_3 a0_4 n mn mx tot drp = some (rowT n mn mx tot drp) := by
 unfold spec_l7Timer.f rowT
 simp only [spec_l1In.f]
 by_cases h0 : n = 0
 ·subst h0
  by_cases h1 : mn = 0 <;> by_cases h2 : mx = 0 <;> by_cases h3 : tot = 0 <;> simp [h1, h2, h3]
 ·by_cases h1 : 1 ≤ n
  ·by_cases h2 : n ≤ 3
   ·by_cases h3 : 0 ≤ mn
    ·by_cases h4 : mn ≤ mx
     ·by_cases h5 : mx ≤ 65535
      ·have e1 : wrap64 (mn * n) = n * mn := by
        have : n = 1 ∨ n = 2 ∨ n = 3 := by omega
        rcases this with rfl | rfl | rfl <;> (unfold wrap64; omega)
       have e2 : wrap64 (mx * n) = n * mx := by
        have : n = 1 ∨ n = 2 ∨ n = 3 := by omega
        rcases this with rfl | rfl | rfl <;> (unfold wrap64; omega)
       rw [e1, e2]
       by_cases h6 : n * mn ≤ tot <;> by_cases h7 : tot ≤ n * mx <;> by_cases h8 : 0 ≤ drp <;> by_cases h9 : drp ≤ 65535 <;> by_cases h10 : drp = 0 <;> simp [h0, h1, h2, h3, h4, h5, h6, h7, h8, h9, h10]
      ·simp [h0, h1, h2, h3, h4, h5]
     ·simp [h0, h1, h2, h3, h4]
    ·simp [h0, h1, h2, h3]
   ·simp [h0, h1, h2]
  ·simp [h0, h1]
set_option maxHeartbeats 16000000 in
set_option maxRecDepth 100000 in
theorem spec_RowOk.calls (k : Nat) (a0_0 : ByteArray) (a0_1 : Int) (a0_2 : Int) (a0_3 : Bool) (a0_4 : Int) (a0_5 : Int) (a0_6 : Int) (a0_7 : Int) (a0_8 : Int) (a0_9 : Int) (r : Bool) (w : World) (h : spec_RowOk.f k a0_0 a0_1 a0_2 a0_3 a0_4 a0_5 a0_6 a0_7 a0_8 a0_9 = some r) :
  Calls Try.prog 101 #[.agg #[.string a0_0, .int .i64 a0_1, .int .i64 a0_2, .bool a0_3, .int .i64 a0_4, .int .i64 a0_5, .int .i64 a0_6, .int .i64 a0_7, .int .i64 a0_8, .int .i64 a0_9]] w fun e w' => e = .returned (.bool r) ∧ Below w.heap.size w w' := by
 have hu := Try.underlying102
 unfold spec_RowOk.f at h
 obtain ⟨t, hk, h2⟩ := Option.bind_eq_some_iff.mp h
 obtain rfl := Option.some.inj h2
 clear h h2
 have HK := Aside0.mk (fun W => spec_KeyOk.calls k a0_0 t W hk)
 clear hk
 cases t with
 | false =>
  rw [Bool.false_and]
  go_enter Try.func101, Try.ntmps101
  go_wp2_with (first | (go_at_call 51; refine (HK.out _).mono ?_; rintro e w' ⟨rfl, ⟨nd, rfl⟩⟩))
  go_ret
  exact ⟨by first | rfl | (simp; done) | (simp [*]; done), by repeat (first | assumption | exact Below.refl _ _ | (apply below_set) | apply below_alloc | apply pw_below_drewN | apply below_drew1)⟩
 | true =>
  rw [Bool.true_and]
  by_cases k1 : a0_1 = 1
  ·subst k1
   have hb0 : rowB 1 a0_2 a0_3 a0_4 a0_5 a0_6 a0_7 a0_8 a0_9 = ((!a0_3 && (a0_4 == 0 && (a0_5 == 0 && (a0_6 == 0 && (a0_7 == 0 && (a0_8 == 0 && (a0_9 == 0))))))) && (decide (0 ≤ a0_2) && decide (a0_2 ≤ 281474976710655))) := rfl
   rw [hb0]
   clear hb0
   have HRW := Aside0.mk (fun W => spec_l1In.calls a0_2 0 281474976710655 (decide (0 ≤ a0_2) && decide (a0_2 ≤ 281474976710655)) W (by unfold spec_l1In.f; by_cases h : 0 ≤ a0_2 <;> simp [h]))
   generalize (decide (0 ≤ a0_2) && decide (a0_2 ≤ 281474976710655)) = bw at *
   cases he : (!a0_3 && (a0_4 == 0 && (a0_5 == 0 && (a0_6 == 0 && (a0_7 == 0 && (a0_8 == 0 && (a0_9 == 0)))))))
   ·rw [Bool.false_and]
    go_enter Try.func101, Try.ntmps101
    go_wp2_with (first | (go_at_call 51; refine (HK.out _).mono ?_; rintro e w' ⟨rfl, ⟨nd, rfl⟩⟩))
    go_ret
    exact ⟨by first | rfl | (simp; done) | (simp [*]; done), by repeat (first | assumption | exact Below.refl _ _ | (apply below_set) | apply below_alloc | apply pw_below_drewN | apply below_drew1)⟩
   ·rw [Bool.true_and]
    go_enter Try.func101, Try.ntmps101
    go_wp2_with (first | (go_at_call 51; refine (HK.out _).mono ?_; rintro e w' ⟨rfl, ⟨nd, rfl⟩⟩) | (go_at_call 68; (with_reducible refine (HRW.out _).mono ?_); rintro e w' ⟨rfl, ⟨nd, rfl⟩⟩))
    go_ret
    exact ⟨by first | rfl | (simp; done) | (simp [*]; done), by repeat (first | assumption | exact Below.refl _ _ | (apply below_set) | apply below_alloc | apply pw_below_drewN | apply below_drew1)⟩
  ·have k1b : (a0_1 == 1) = false := beq_eq_false_iff_ne.mpr k1
   by_cases k2 : a0_1 = 2
   ·subst k2
    clear k1 k1b
    have hb0 : rowB 2 a0_2 a0_3 a0_4 a0_5 a0_6 a0_7 a0_8 a0_9 = ((a0_2 == 0 && (a0_5 == 0 && (a0_6 == 0 && (a0_7 == 0 && (a0_8 == 0 && (a0_9 == 0)))))) && ((decide (0 ≤ a0_4) && decide (a0_4 ≤ 65535)) && (a0_3 || a0_4 == 0))) := rfl
    rw [hb0]
    clear hb0
    have HRW := Aside0.mk (fun W => spec_l1In.calls a0_4 0 65535 (decide (0 ≤ a0_4) && decide (a0_4 ≤ 65535)) W (by unfold spec_l1In.f; by_cases h : 0 ≤ a0_4 <;> simp [h]))
    generalize (decide (0 ≤ a0_4) && decide (a0_4 ≤ 65535)) = bw at *
    cases he : (a0_2 == 0 && (a0_5 == 0 && (a0_6 == 0 && (a0_7 == 0 && (a0_8 == 0 && (a0_9 == 0))))))
    ·rw [Bool.false_and]
     go_enter Try.func101, Try.ntmps101
     go_wp2_with (first | (go_at_call 51; refine (HK.out _).mono ?_; rintro e w' ⟨rfl, ⟨nd, rfl⟩⟩))
     go_ret
     exact ⟨by first | rfl | (simp; done) | (simp [*]; done), by repeat (first | assumption | exact Below.refl _ _ | (apply below_set) | apply below_alloc | apply pw_below_drewN | apply below_drew1)⟩
    ·rw [Bool.true_and]
     cases bw with
     | false =>
      rw [Bool.false_and]
      go_enter Try.func101, Try.ntmps101
      go_wp2_with (first | (go_at_call 51; refine (HK.out _).mono ?_; rintro e w' ⟨rfl, ⟨nd, rfl⟩⟩) | (go_at_call 68; (with_reducible refine (HRW.out _).mono ?_); rintro e w' ⟨rfl, ⟨nd, rfl⟩⟩))
      go_ret
      exact ⟨by first | rfl | (simp; done) | (simp [*]; done), by repeat (first | assumption | exact Below.refl _ _ | (apply below_set) | apply below_alloc | apply pw_below_drewN | apply below_drew1)⟩
     | true =>
      rw [Bool.true_and]
      cases a0_3 with
      | true =>
       rw [Bool.true_or]
       go_enter Try.func101, Try.ntmps101
       go_wp2_with (first | (go_at_call 51; refine (HK.out _).mono ?_; rintro e w' ⟨rfl, ⟨nd, rfl⟩⟩) | (go_at_call 68; (with_reducible refine (HRW.out _).mono ?_); rintro e w' ⟨rfl, ⟨nd, rfl⟩⟩))
       go_ret
       exact ⟨by first | rfl | (simp; done) | (simp [*]; done), by repeat (first | assumption | exact Below.refl _ _ | (apply below_set) | apply below_alloc | apply pw_below_drewN | apply below_drew1)⟩
      | false =>
       rw [Bool.false_or]
       go_enter Try.func101, Try.ntmps101
       go_wp2_with (first | (go_at_call 51; refine (HK.out _).mono ?_; rintro e w' ⟨rfl, ⟨nd, rfl⟩⟩) | (go_at_call 68; (with_reducible refine (HRW.out _).mono ?_); rintro e w' ⟨rfl, ⟨nd, rfl⟩⟩))
       go_ret
       exact ⟨by first | rfl | (simp; done) | (simp [*]; done), by repeat (first | assumption | exact Below.refl _ _ | (apply below_set) | apply below_alloc | apply pw_below_drewN | apply below_drew1)⟩
   ·have k2b : (a0_1 == 2) = false := beq_eq_false_iff_ne.mpr k2
    by_cases k3 : a0_1 = 3
    ·subst k3
     clear k1 k1b k2 k2b
     have hb0 : rowB 3 a0_2 a0_3 a0_4 a0_5 a0_6 a0_7 a0_8 a0_9 = ((a0_2 == 0 && (!a0_3 && a0_4 == 0)) && rowT a0_5 a0_6 a0_7 a0_8 a0_9) := rfl
     rw [hb0]
     clear hb0
     by_cases s0 : a0_2 = 0
     ·subst s0
      cases a0_3 with
      | true =>
       simp only [Bool.not_true, Bool.false_and, Bool.and_false]
       go_enter Try.func101, Try.ntmps101
       go_wp2_with (first | (go_at_call 51; refine (HK.out _).mono ?_; rintro e w' ⟨rfl, ⟨nd, rfl⟩⟩))
       go_ret
       exact ⟨by first | rfl | (simp; done) | (simp [*]; done), by repeat (first | assumption | exact Below.refl _ _ | (apply below_set) | apply below_alloc | apply pw_below_drewN | apply below_drew1)⟩
      | false =>
       by_cases l0 : a0_4 = 0
       ·subst l0
        simp only [Bool.not_false, Bool.true_and, beq_self_eq_true]
        have HT := Aside0.mk (fun W => spec_l7Timer.calls a0_0 3 0 false 0 a0_5 a0_6 a0_7 a0_8 a0_9 _ W (spec_RowOk.timer a0_0 3 0 false 0 a0_5 a0_6 a0_7 a0_8 a0_9))
        generalize rowT a0_5 a0_6 a0_7 a0_8 a0_9 = bt_ at *
        go_enter Try.func101, Try.ntmps101
        go_wp2_with (first | (go_at_call 51; refine (HK.out _).mono ?_; rintro e w' ⟨rfl, ⟨nd, rfl⟩⟩) | (go_at_call 115; (with_reducible refine (HT.out _).mono ?_); rintro e w' ⟨rfl, hb⟩; have HB : Below w.heap.size w w' := below_step (by repeat (first | exact Below.refl _ _ | apply below_set | apply below_alloc | apply pw_below_drewN | apply below_drew1)) hb; clear hb))
        go_ret
        exact ⟨by first | rfl | (simp; done) | (simp [*]; done), by repeat (first | assumption | exact Below.refl _ _ | (apply below_set) | apply below_alloc | apply pw_below_drewN | apply below_drew1)⟩
       ·have l0b : (a0_4 == 0) = false := beq_eq_false_iff_ne.mpr l0
        clear l0
        rw [show (((0 : Int) == 0) && (!false && a0_4 == 0)) = false from by rw [l0b]; rfl, Bool.false_and]
        go_enter Try.func101, Try.ntmps101
        go_wp2_with (first | (go_at_call 51; refine (HK.out _).mono ?_; rintro e w' ⟨rfl, ⟨nd, rfl⟩⟩))
        go_ret
        exact ⟨by first | rfl | (simp; done) | (simp [*]; done), by repeat (first | assumption | exact Below.refl _ _ | (apply below_set) | apply below_alloc | apply pw_below_drewN | apply below_drew1)⟩
     ·have s0b : (a0_2 == 0) = false := beq_eq_false_iff_ne.mpr s0
      clear s0
      rw [s0b, Bool.false_and, Bool.false_and]
      go_enter Try.func101, Try.ntmps101
      go_wp2_with (first | (go_at_call 51; refine (HK.out _).mono ?_; rintro e w' ⟨rfl, ⟨nd, rfl⟩⟩))
      go_ret
      exact ⟨by first | rfl | (simp; done) | (simp [*]; done), by repeat (first | assumption | exact Below.refl _ _ | (apply below_set) | apply below_alloc | apply pw_below_drewN | apply below_drew1)⟩
    ·have k3b : (a0_1 == 3) = false := beq_eq_false_iff_ne.mpr k3
     rw [show rowB a0_1 a0_2 a0_3 a0_4 a0_5 a0_6 a0_7 a0_8 a0_9 = false from by unfold rowB; rw [if_neg k1, if_neg k2, if_neg k3]]
     clear k1 k2 k3
     go_enter Try.func101, Try.ntmps101
     go_wp2_with (first | (go_at_call 51; refine (HK.out _).mono ?_; rintro e w' ⟨rfl, ⟨nd, rfl⟩⟩))
     go_ret
     exact ⟨by first | rfl | (simp; done) | (simp [*]; done), by repeat (first | assumption | exact Below.refl _ _ | (apply below_set) | apply below_alloc | apply pw_below_drewN | apply below_drew1)⟩

/-! ### spec_Quiet: function 102 -/
def spec_Quiet.f (a0_0 : ByteArray) (a0_1 : Int) (a0_2 : Int) (a0_3 : Bool) (a0_4 : Int) (a0_5 : Int) (a0_6 : Int) (a0_7 : Int) (a0_8 : Int) (a0_9 : Int) : Option (Bool) := if a0_2 = 0 then (if a0_3 = true then (some false) else (some (a0_5 == 0))) else (some false)
set_option maxHeartbeats 8000000 in
set_option maxRecDepth 100000 in
theorem spec_Quiet.calls (a0_0 : ByteArray) (a0_1 : Int) (a0_2 : Int) (a0_3 : Bool) (a0_4 : Int) (a0_5 : Int) (a0_6 : Int) (a0_7 : Int) (a0_8 : Int) (a0_9 : Int) (r : Bool) (w : World) (h : spec_Quiet.f a0_0 a0_1 a0_2 a0_3 a0_4 a0_5 a0_6 a0_7 a0_8 a0_9 = some r) :
  Calls Try.prog 102 #[.agg #[.string a0_0, .int .i64 a0_1, .int .i64 a0_2, .bool a0_3, .int .i64 a0_4, .int .i64 a0_5, .int .i64 a0_6, .int .i64 a0_7, .int .i64 a0_8, .int .i64 a0_9]] w fun e w' => e = .returned (.bool r) ∧ Below w.heap.size w w' := by
 have hu102 := Try.underlying102
 have HB := Aside0.mk (Below.refl w.heap.size w)
 have H : (if a0_2 = 0 then (if a0_3 = true then (some false) else (some (a0_5 == 0))) else (some false)) = some r := h
 clear h
 by_cases c2 : a0_2 = 0
 ·rw [if_pos c2] at H
  have c2b0 : (a0_2 == 0) = true := beq_iff_eq.mpr c2
  have c2b1 : (a0_2 != 0) = false := bne_eq_false_iff_eq.mpr c2
  clear c2
  by_cases c3 : a0_3 = true
  ·subst c3
   have H1 : (some false) = some r := by rw [if_pos rfl] at H; exact H
   clear H
   have H := H1
   clear H1
   obtain rfl := Option.some.inj H
   go_enter Try.func102, Try.ntmps102
   go_wp2_with (first | ((with_reducible refine gate_dst (N := 1) rfl ?_); refine box_event ?hg (N := 1) ?hd (cs := #[.string a0_0, .int .i64 a0_1, .int .i64 a0_2, .bool true, .int .i64 a0_4, .int .i64 a0_5, .int .i64 a0_6, .int .i64 a0_7, .int .i64 a0_8, .int .i64 a0_9]) (t := 102) ?hr ?_; (case hd => rfl); (case hg => rfl); (case hr => first | (go_simp; done) | (go_simp; rfl)); intro gb118 hg w4 hbox hb; have n0_ := Aside0.mk (below_step (by repeat (first | (with_reducible first | exact HB.out | apply below_alloc | apply pw_below_drewN | apply below_drew1) | exact HB.out)) hb); have n1_ := Aside0.mk (hbox); have n2_ := Aside0.mk ((by rw [hg]; exact (below_size (by repeat (first | (with_reducible first | exact HB.out | apply below_alloc | apply pw_below_drewN | apply below_drew1) | exact HB.out))) : w.heap.size ≤ gb118)); have n3_ := Aside0.mk ((by rw [hg]; exact (below_size (by repeat (first | (with_reducible first | exact HB.out | apply below_alloc | apply pw_below_drewN | apply below_drew1) | exact HB.out))) : w.heap.size ≤ gb118)); clear HB; have HB := n0_; have BK118 := n1_; have GW118 := n2_; have GE118 := n3_; clear n0_ n1_ n2_ n3_; clear hb hbox hg; have hcz5_0 : w4.cell? ⟨gb118, 0, none⟩ = some (.string a0_0) := (blk_cell BK118.out 0).trans rfl; have hcz5_1 : w4.cell? ⟨gb118, 1, none⟩ = some (.int .i64 a0_1) := (blk_cell BK118.out 1).trans rfl; have hcz5_2 : w4.cell? ⟨gb118, 2, none⟩ = some (.int .i64 a0_2) := (blk_cell BK118.out 2).trans rfl; have hcz5_3 : w4.cell? ⟨gb118, 3, none⟩ = some (.bool true) := (blk_cell BK118.out 3).trans rfl; have hcz5_4 : w4.cell? ⟨gb118, 4, none⟩ = some (.int .i64 a0_4) := (blk_cell BK118.out 4).trans rfl; have hcz5_5 : w4.cell? ⟨gb118, 5, none⟩ = some (.int .i64 a0_5) := (blk_cell BK118.out 5).trans rfl; have hcz5_6 : w4.cell? ⟨gb118, 6, none⟩ = some (.int .i64 a0_6) := (blk_cell BK118.out 6).trans rfl; have hcz5_7 : w4.cell? ⟨gb118, 7, none⟩ = some (.int .i64 a0_7) := (blk_cell BK118.out 7).trans rfl; have hcz5_8 : w4.cell? ⟨gb118, 8, none⟩ = some (.int .i64 a0_8) := (blk_cell BK118.out 8).trans rfl; have hcz5_9 : w4.cell? ⟨gb118, 9, none⟩ = some (.int .i64 a0_9) := (blk_cell BK118.out 9).trans rfl; have hfz5_0 := blk_frozen BK118.out 0; have hfz5_1 := blk_frozen BK118.out 1; have hfz5_2 := blk_frozen BK118.out 2; have hfz5_3 := blk_frozen BK118.out 3; have hfz5_4 := blk_frozen BK118.out 4; have hfz5_5 := blk_frozen BK118.out 5; have hfz5_6 := blk_frozen BK118.out 6; have hfz5_7 := blk_frozen BK118.out 7; have hfz5_8 := blk_frozen BK118.out 8; have hfz5_9 := blk_frozen BK118.out 9))
   go_ret
   exact ⟨by first | rfl | (simp [errW_none, errW_some] <;> rfl) | (simp [*, errW_none, errW_some] <;> rfl), by repeat (first | (with_reducible first | exact HB.out | apply below_alloc | apply pw_below_drewN | apply below_drew1 | refine below_set ?_ GE118.out) | exact HB.out)⟩
  ·replace c3 := Bool.eq_false_iff.mpr c3
   subst c3
   have H1 : (some (a0_5 == 0)) = some r := by rw [if_neg (show ¬ (false = true) by decide)] at H; exact H
   clear H
   have H := H1
   clear H1
   obtain rfl := Option.some.inj H
   go_enter Try.func102, Try.ntmps102
   go_wp2_with (first | ((with_reducible refine gate_dst (N := 1) rfl ?_); refine box_event ?hg (N := 1) ?hd (cs := #[.string a0_0, .int .i64 a0_1, .int .i64 a0_2, .bool false, .int .i64 a0_4, .int .i64 a0_5, .int .i64 a0_6, .int .i64 a0_7, .int .i64 a0_8, .int .i64 a0_9]) (t := 102) ?hr ?_; (case hd => rfl); (case hg => rfl); (case hr => first | (go_simp; done) | (go_simp; rfl)); intro gb118 hg w6 hbox hb; have n0_ := Aside0.mk (below_step (by repeat (first | (with_reducible first | exact HB.out | apply below_alloc | apply pw_below_drewN | apply below_drew1) | exact HB.out)) hb); have n1_ := Aside0.mk (hbox); have n2_ := Aside0.mk ((by rw [hg]; exact (below_size (by repeat (first | (with_reducible first | exact HB.out | apply below_alloc | apply pw_below_drewN | apply below_drew1) | exact HB.out))) : w.heap.size ≤ gb118)); have n3_ := Aside0.mk ((by rw [hg]; exact (below_size (by repeat (first | (with_reducible first | exact HB.out | apply below_alloc | apply pw_below_drewN | apply below_drew1) | exact HB.out))) : w.heap.size ≤ gb118)); clear HB; have HB := n0_; have BK118 := n1_; have GW118 := n2_; have GE118 := n3_; clear n0_ n1_ n2_ n3_; clear hb hbox hg; have hcz7_0 : w6.cell? ⟨gb118, 0, none⟩ = some (.string a0_0) := (blk_cell BK118.out 0).trans rfl; have hcz7_1 : w6.cell? ⟨gb118, 1, none⟩ = some (.int .i64 a0_1) := (blk_cell BK118.out 1).trans rfl; have hcz7_2 : w6.cell? ⟨gb118, 2, none⟩ = some (.int .i64 a0_2) := (blk_cell BK118.out 2).trans rfl; have hcz7_3 : w6.cell? ⟨gb118, 3, none⟩ = some (.bool false) := (blk_cell BK118.out 3).trans rfl; have hcz7_4 : w6.cell? ⟨gb118, 4, none⟩ = some (.int .i64 a0_4) := (blk_cell BK118.out 4).trans rfl; have hcz7_5 : w6.cell? ⟨gb118, 5, none⟩ = some (.int .i64 a0_5) := (blk_cell BK118.out 5).trans rfl; have hcz7_6 : w6.cell? ⟨gb118, 6, none⟩ = some (.int .i64 a0_6) := (blk_cell BK118.out 6).trans rfl; have hcz7_7 : w6.cell? ⟨gb118, 7, none⟩ = some (.int .i64 a0_7) := (blk_cell BK118.out 7).trans rfl; have hcz7_8 : w6.cell? ⟨gb118, 8, none⟩ = some (.int .i64 a0_8) := (blk_cell BK118.out 8).trans rfl; have hcz7_9 : w6.cell? ⟨gb118, 9, none⟩ = some (.int .i64 a0_9) := (blk_cell BK118.out 9).trans rfl; have hfz7_0 := blk_frozen BK118.out 0; have hfz7_1 := blk_frozen BK118.out 1; have hfz7_2 := blk_frozen BK118.out 2; have hfz7_3 := blk_frozen BK118.out 3; have hfz7_4 := blk_frozen BK118.out 4; have hfz7_5 := blk_frozen BK118.out 5; have hfz7_6 := blk_frozen BK118.out 6; have hfz7_7 := blk_frozen BK118.out 7; have hfz7_8 := blk_frozen BK118.out 8; have hfz7_9 := blk_frozen BK118.out 9))
   go_ret
   exact ⟨by first | rfl | (simp [errW_none, errW_some] <;> rfl) | (simp [*, errW_none, errW_some] <;> rfl), by repeat (first | (with_reducible first | exact HB.out | apply below_alloc | apply pw_below_drewN | apply below_drew1 | refine below_set ?_ GE118.out) | exact HB.out)⟩
 ·rw [if_neg c2] at H
  have c2b0 : (a0_2 == 0) = false := beq_eq_false_iff_ne.mpr c2
  have c2b1 : (a0_2 != 0) = true := bne_iff_ne.mpr c2
  obtain rfl := Option.some.inj H
  go_enter Try.func102, Try.ntmps102
  go_wp2_with (first | ((with_reducible refine gate_dst (N := 1) rfl ?_); refine box_event ?hg (N := 1) ?hd (cs := #[.string a0_0, .int .i64 a0_1, .int .i64 a0_2, .bool a0_3, .int .i64 a0_4, .int .i64 a0_5, .int .i64 a0_6, .int .i64 a0_7, .int .i64 a0_8, .int .i64 a0_9]) (t := 102) ?hr ?_; (case hd => rfl); (case hg => rfl); (case hr => first | (go_simp; done) | (go_simp; rfl)); intro gb118 hg w8 hbox hb; have n0_ := Aside0.mk (below_step (by repeat (first | (with_reducible first | exact HB.out | apply below_alloc | apply pw_below_drewN | apply below_drew1) | exact HB.out)) hb); have n1_ := Aside0.mk (hbox); have n2_ := Aside0.mk ((by rw [hg]; exact (below_size (by repeat (first | (with_reducible first | exact HB.out | apply below_alloc | apply pw_below_drewN | apply below_drew1) | exact HB.out))) : w.heap.size ≤ gb118)); have n3_ := Aside0.mk ((by rw [hg]; exact (below_size (by repeat (first | (with_reducible first | exact HB.out | apply below_alloc | apply pw_below_drewN | apply below_drew1) | exact HB.out))) : w.heap.size ≤ gb118)); clear HB; have HB := n0_; have BK118 := n1_; have GW118 := n2_; have GE118 := n3_; clear n0_ n1_ n2_ n3_; clear hb hbox hg; have hcz9_0 : w8.cell? ⟨gb118, 0, none⟩ = some (.string a0_0) := (blk_cell BK118.out 0).trans rfl; have hcz9_1 : w8.cell? ⟨gb118, 1, none⟩ = some (.int .i64 a0_1) := (blk_cell BK118.out 1).trans rfl; have hcz9_2 : w8.cell? ⟨gb118, 2, none⟩ = some (.int .i64 a0_2) := (blk_cell BK118.out 2).trans rfl; have hcz9_3 : w8.cell? ⟨gb118, 3, none⟩ = some (.bool a0_3) := (blk_cell BK118.out 3).trans rfl; have hcz9_4 : w8.cell? ⟨gb118, 4, none⟩ = some (.int .i64 a0_4) := (blk_cell BK118.out 4).trans rfl; have hcz9_5 : w8.cell? ⟨gb118, 5, none⟩ = some (.int .i64 a0_5) := (blk_cell BK118.out 5).trans rfl; have hcz9_6 : w8.cell? ⟨gb118, 6, none⟩ = some (.int .i64 a0_6) := (blk_cell BK118.out 6).trans rfl; have hcz9_7 : w8.cell? ⟨gb118, 7, none⟩ = some (.int .i64 a0_7) := (blk_cell BK118.out 7).trans rfl; have hcz9_8 : w8.cell? ⟨gb118, 8, none⟩ = some (.int .i64 a0_8) := (blk_cell BK118.out 8).trans rfl; have hcz9_9 : w8.cell? ⟨gb118, 9, none⟩ = some (.int .i64 a0_9) := (blk_cell BK118.out 9).trans rfl; have hfz9_0 := blk_frozen BK118.out 0; have hfz9_1 := blk_frozen BK118.out 1; have hfz9_2 := blk_frozen BK118.out 2; have hfz9_3 := blk_frozen BK118.out 3; have hfz9_4 := blk_frozen BK118.out 4; have hfz9_5 := blk_frozen BK118.out 5; have hfz9_6 := blk_frozen BK118.out 6; have hfz9_7 := blk_frozen BK118.out 7; have hfz9_8 := blk_frozen BK118.out 8; have hfz9_9 := blk_frozen BK118.out 9))
  go_ret
  exact ⟨by first | rfl | (simp [errW_none, errW_some] <;> rfl) | (simp [*, errW_none, errW_some] <;> rfl), by repeat (first | (with_reducible first | exact HB.out | apply below_alloc | apply pw_below_drewN | apply below_drew1 | refine below_set ?_ GE118.out) | exact HB.out)⟩

end Go.Proofs.Ythhbgembnlpohaa.QFnExactStoreOk
