-- MADE BY qprint.py, a program of this claim's session, over the kit's print: own text.
import Derived.Test.YticfkgjcklonmaaQFnExactPendingx0
import Derived.Test.YticfkgjcklonmaaQFnExactPendingx1
import Derived.Test.YticfkgjcklonmaaQFnExactPendingx2
import Derived.Test.YticfkgjcklonmaaQFnExactPendingx3
import Derived.Test.YticfkgjcklonmaaQFnExactPendingx5
namespace Go.Proofs.Yticfkgjcklonmaa.QFnExactPending
open Go.RowKit Go.Proofs.YticfkgjcklonmaaW.PrintWords Go.Proofs.YticfkgjcklonmaaW.PrintLast Go.Proofs.YticfkgjcklonmaaW.PrintMore
attribute [local go_sem] max2_int min2_int max_two min_two max_three min_three max_four min_four   -- for this text's walks alone
attribute [local go_sem high] leq_str gtr_str geq_str
set_option linter.unusedVariables false
set_option linter.unusedSimpArgs false

/-! ### laws_markIntS: function 27 -/
def laws_markIntS.l0 : Nat → List Int → Int → Int → Option (Int × List Int)
  | 0, _, _, _ => none
  | k + 1, x0, x1, x5 => if x5 < (x0.length : Int) then (if 0 ≤ x5 then (laws_markIntS.l0 k (x0.set (x5 : Int).toNat x1) (wrap64 (x1 + 1)) (wrap64 (x5 + 1))) else (none)) else (some (x1, x0))
def laws_markIntS.f (k : Nat) (l0 : List Int) (a1 : Int) : Option (Int × List Int) := laws_markIntS.l0 k l0 a1 0
theorem laws_markIntS.mono_l : ∀ k, (∀ y0 y1 y2, LeO (laws_markIntS.l0 k y0 y1 y2) (laws_markIntS.l0 (k + 1) y0 y1 y2))
  | 0 => fun _ _ _ r h => by simp [laws_markIntS.l0] at h
  | k + 1 => by
    have ih0 := laws_markIntS.mono_l k
    · intro y0 y1 y2
      unfold laws_markIntS.l0
      repeat' first
      | (with_reducible exact ih0 _ _ _)
      | (with_reducible exact LeO.refl _)
      | (with_reducible exact LeO.none _)
      | (with_reducible refine LeO.ite ?_ ?_)
      | (with_reducible refine LeO.bind ?_ (fun _ => ?_))
      | exact ih0 _ _ _
      | exact LeO.none _
      | refine LeO.ite ?_ ?_
      | refine LeO.bind ?_ (fun _ => ?_)
theorem laws_markIntS.mono : ∀ a0 a1 k, LeO (laws_markIntS.f k a0 a1) (laws_markIntS.f (k + 1) a0 a1) := by
  intro a0 a1 k
  have ih0 := laws_markIntS.mono_l k
  unfold laws_markIntS.f
  repeat' first
      | (with_reducible exact ih0 _ _ _)
      | (with_reducible exact LeO.refl _)
      | (with_reducible exact LeO.none _)
      | (with_reducible refine LeO.ite ?_ ?_)
      | (with_reducible refine LeO.bind ?_ (fun _ => ?_))
      | exact ih0 _ _ _
      | exact LeO.none _
      | refine LeO.ite ?_ ?_
      | refine LeO.bind ?_ (fun _ => ?_)
set_option maxHeartbeats 8000000 in
set_option maxRecDepth 100000 in
theorem laws_markIntS.calls (k : Nat) (P0_ : Nat → Prop) (u9000_ : Value) (l0 : List Int) (a1 : Int) (r1 : Int) (r2 : List Int) (w0 w : World) (hB : Below w0.heap.size w0 w) (ho0 : Kd.R (Kd.int .i64) 3 w w0.heap.size P0_ u9000_ l0) (h : laws_markIntS.f k l0 a1 = some (r1, r2)) :
    Calls Try.prog 27 #[u9000_, .int .i64 a1] w fun e w' => e = .returned (.int .i64 r1) ∧ Kd.R (Kd.int .i64) 3 w' w0.heap.size (fun k_ => (P0_ k_ ∨ w.heap.size ≤ k_)) u9000_ r2 ∧ Below w0.heap.size w0 w' ∧ Kept w w' (fun k_ => P0_ k_) := by
  have HO0 := Aside0.mk (show Kd.R (Kd.int .i64) 3 w w0.heap.size (fun k_ => (P0_ k_ ∨ w.heap.size ≤ k_)) u9000_ l0 from Kd.R_mono ho0 (fun k_ hk => (.inl hk)))
  have HK := Aside0.mk (Kept.refl w (fun k_ => P0_ k_))
  have HW0 := Aside0.mk hB.size
  have HB := Aside0.mk hB
  clear hB
  have H : (laws_markIntS.l0 k l0 a1 0) = some (r1, r2) := h
  clear h
  have H' := Aside0.mk H
  clear H
  go_enter Try.func27, Try.ntmps27
  go_wp2
  go_loopg [1, 5] k (fun kq v1 v5 w' => ∃ (x0_1 : List Int) (x1_1 : Int) (x5_1 : Int), v1 = .int .i64 x1_1 ∧ v5 = .int .i64 x5_1 ∧ Aside0 (laws_markIntS.l0 kq x0_1 x1_1 x5_1 = some (r1, r2)) ∧ Aside0 (kq ≤ k) ∧ Aside0 (Kd.R (Kd.int .i64) 3 w' w0.heap.size (fun k_ => (P0_ k_ ∨ w.heap.size ≤ k_)) u9000_ x0_1) ∧ Aside0 (Kept w w' (fun k_ => P0_ k_)) ∧ Aside0 (Below w0.heap.size w0 w'))
  case atStart => exact ⟨(l0), (a1), (0), (by first | rfl | (simp; done) | (simp [*]; done)), (by first | rfl | (simp; done) | (simp [*]; done)), H', ⟨Nat.le_refl _⟩, ⟨by (with_reducible repeat (first | apply Kd.R_alloc | apply Kd.R_drewN | apply Kd.R_drew)); exact HO0.out⟩, ⟨by repeat (first | (with_reducible first | exact HK.out | apply Kept.alloc | apply Kept.drewN | apply Kept.drew) | exact HK.out)⟩, ⟨by repeat (first | (with_reducible first | exact HB.out | apply below_alloc | apply pw_below_drewN | apply below_drew1) | exact HB.out)⟩⟩
  case round =>
    clear H'
    try clear c2
    try clear p2
    obtain ⟨x0_1, x1_1, x5_1, rfl, rfl, HA, HK1, HO_0, HK, HB⟩ := hrel
    cases gk with
    | zero => exact absurd HA.out (by simp [laws_markIntS.l0])
    | succ k1 =>
      have H := HA.out
      clear HA
      simp only [laws_markIntS.l0] at H
      by_cases c3 : x5_1 < (x0_1.length : Int)
      · rw [if_pos c3] at H
        have c3b0 : decide (x5_1 < (x0_1.length : Int)) = true := decide_eq_true c3
        clear c3
        by_cases c4 : 0 ≤ x5_1
        · rw [if_pos c4] at H
          have c4b0 : decide (0 ≤ x5_1) = true := decide_eq_true c4
          clear c4
          obtain ⟨y212, hy212⟩ : ∃ y_ : List Int, y_ = (x0_1.set (x5_1 : Int).toNat x1_1) := ⟨_, rfl⟩
          replace H : (laws_markIntS.l0 k1 y212 (wrap64 (x1_1 + 1)) (wrap64 (x5_1 + 1))) = some (r1, r2) := by first | (rw [hy212]; with_reducible exact H) | (have H2_ := (Option.bind_some _ _).symm.trans H; rw [hy212]; with_reducible exact H2_) | (have H2_ := (Option.bind_some _ _).symm.trans H; with_reducible exact H2_) | with_reducible exact H | (rw [hy212]; exact H) | exact H
          have Ny212 := Aside0.mk hy212
          clear hy212
          have H' := Aside0.mk H
          clear H
          obtain ⟨Ao6, co6, eo6⟩ := Kd.R_slice HO_0.out
          subst eo6
          have p5 : 0 ≤ (x5_1 : Int) := of_decide_eq_true (by first | (with_reducible assumption) | assumption)
          have q5 : (x5_1 : Int) < ((x0_1.length : Int) : Int) := of_decide_eq_true (by first | (with_reducible assumption) | assumption)
          obtain ⟨go5, co5, eo5, gb5, gl5, cl5, HG5⟩ := Kd.R_form HO_0.out (by omega)
          (first | cases eo5 | (injection eo5 with ea_ en_ ec_; (first | subst ea_ | (injection ea_ with ea_; subst ea_)); subst ec_; clear en_))
          have GB5 := Aside0.mk gb5
          have GG5 := Aside0.mk HG5
          clear gb5 gl5 HG5
          have HMgo5 := Aside0.mk (show (P0_ go5 ∨ w.heap.size ≤ go5) from (HO_0.out.1 _ rfl))
          obtain ⟨hx5_0, hf5_0⟩ := Kd.R_celln 0 HO_0.out (x5_1 : Int) p5 q5
          replace p5 := eq_true p5
          replace q5 := eq_true q5
          have HP7 := Kd.R_putg HO_0.out (x5_1 : Int) x1_1
          go_wp2_with (first | ((with_reducible refine gate_store (t := 3) (p := 15) rfl ?_); refine store_event (t := 3) (p := 15) (v := ?vo_w8) (w1 := (wr.setCell ⟨go5, (x5_1 : Int).toNat, none⟩ (.int .i64 x1_1))) ?hg ?ho ?hn ?hr ?_; (case ho => rfl); (case hg => rfl); (case hn => rfl); (case hr => first | (go_simp; done) | (go_simp; rfl)); intro w8 hw; have hg : wr.grownBy w8 (some go5) := (by rw [hw]; exact HP7.2); have hp_ : Kd.R (Kd.int .i64) 3 w8 w0.heap.size (fun k_ => (P0_ k_ ∨ w.heap.size ≤ k_)) (.slice (some ⟨go5, 0, none⟩) x0_1.length co6) y212 := (by rw [hw, Ny212.out]; exact HP7.1); clear HP7; have n0_ := Aside0.mk (hp_); have n1_ := Aside0.mk ((by rw [hw]; exact below_set (HB.out) GB5.out : Below w0.heap.size w0 w8)); have n2_ := Aside0.mk (Kept.of_grown (S := (fun k_ => P0_ k_)) hg (by repeat (first | (with_reducible first | exact HK.out | apply Kept.alloc | apply Kept.drewN | apply Kept.drew) | exact HK.out)) (fun k_ e_ => (HO_0.out.1 k_ e_))); clear HO_0; clear HB; clear HK; have HO_0 := n0_; have HB := n1_; have HK := n2_; clear n0_ n1_ n2_; clear hg hw hp_))
          go_roundg k1
          case measure => have := HK1.out; omega
          case rel => exact ⟨(y212), (wrap64 (x1_1 + 1)), (wrap64 (x5_1 + 1)), (by first | rfl | (simp; done) | (simp [*]; done)), (by first | rfl | (simp; done) | (simp [*]; done)), H', ⟨by have := HK1.out; omega⟩, ⟨by (with_reducible repeat (first | apply Kd.R_alloc | apply Kd.R_drewN | apply Kd.R_drew)); exact HO_0.out⟩, ⟨by repeat (first | (with_reducible first | exact HK.out | apply Kept.alloc | apply Kept.drewN | apply Kept.drew) | exact HK.out)⟩, ⟨by repeat (first | (with_reducible first | exact HB.out | apply below_alloc | apply pw_below_drewN | apply below_drew1) | exact HB.out)⟩⟩
        · rw [if_neg c4] at H
          exact absurd H (by simp)
      · rw [if_neg c3] at H
        have c3b0 : decide (x5_1 < (x0_1.length : Int)) = false := decide_eq_false c3
        clear c3
        simp only [Option.some.injEq, Prod.mk.injEq] at H
        obtain ⟨rfl, rfl⟩ := H
        obtain ⟨Ao9, co9, eo9⟩ := Kd.R_slice HO_0.out
        subst eo9
        go_wp2
        go_ret
        exact ⟨by first | rfl | (simp [errW_none, errW_some] <;> rfl) | (simp [*, errW_none, errW_some] <;> rfl), by (with_reducible repeat (first | apply Kd.R_alloc | apply Kd.R_drewN | apply Kd.R_drew)); exact HO_0.out, by repeat (first | (with_reducible first | exact HB.out | apply below_alloc | apply pw_below_drewN | apply below_drew1) | exact HB.out), by repeat (first | (with_reducible first | exact HK.out | apply Kept.alloc | apply Kept.drewN | apply Kept.drew) | exact HK.out)⟩

/-! ### laws_heldIntS: function 28 -/
def laws_heldIntS.l0 : Nat → List Int → Int → Int → Option (Int)
  | 0, _, _, _ => none
  | k + 1, x0, x1, x5 => if x5 < (x0.length : Int) then (if 0 ≤ x5 then (if (rd x0 x5) = x1 then (laws_heldIntS.l0 k x0 (wrap64 (x1 + 1)) (wrap64 (x5 + 1))) else (some (-1))) else (none)) else (some x1)
def laws_heldIntS.f (k : Nat) (l0 : List Int) (a1 : Int) : Option (Int) := laws_heldIntS.l0 k l0 a1 0
theorem laws_heldIntS.mono_l : ∀ k, (∀ y0 y1 y2, LeO (laws_heldIntS.l0 k y0 y1 y2) (laws_heldIntS.l0 (k + 1) y0 y1 y2))
  | 0 => fun _ _ _ r h => by simp [laws_heldIntS.l0] at h
  | k + 1 => by
    have ih0 := laws_heldIntS.mono_l k
    · intro y0 y1 y2
      unfold laws_heldIntS.l0
      repeat' first
      | (with_reducible exact ih0 _ _ _)
      | (with_reducible exact LeO.refl _)
      | (with_reducible exact LeO.none _)
      | (with_reducible refine LeO.ite ?_ ?_)
      | (with_reducible refine LeO.bind ?_ (fun _ => ?_))
      | exact ih0 _ _ _
      | exact LeO.none _
      | refine LeO.ite ?_ ?_
      | refine LeO.bind ?_ (fun _ => ?_)
theorem laws_heldIntS.mono : ∀ a0 a1 k, LeO (laws_heldIntS.f k a0 a1) (laws_heldIntS.f (k + 1) a0 a1) := by
  intro a0 a1 k
  have ih0 := laws_heldIntS.mono_l k
  unfold laws_heldIntS.f
  repeat' first
      | (with_reducible exact ih0 _ _ _)
      | (with_reducible exact LeO.refl _)
      | (with_reducible exact LeO.none _)
      | (with_reducible refine LeO.ite ?_ ?_)
      | (with_reducible refine LeO.bind ?_ (fun _ => ?_))
      | exact ih0 _ _ _
      | exact LeO.none _
      | refine LeO.ite ?_ ?_
      | refine LeO.bind ?_ (fun _ => ?_)
set_option maxHeartbeats 8000000 in
set_option maxRecDepth 100000 in
theorem laws_heldIntS.calls (k : Nat) (A0 : Option Addr) (c0 : Nat) (l0 : List Int) (a1 : Int) (r : Int) (w : World) (hr0 : Kd.C (Kd.int .i64) w A0 l0.length l0) (hc0 : l0.length ≤ c0) (h : laws_heldIntS.f k l0 a1 = some r) :
    Calls Try.prog 28 #[.slice A0 l0.length c0, .int .i64 a1] w fun e w' => e = .returned (.int .i64 r) ∧ Drawn0 w w' := by
  have HR0 := Aside0.mk hr0
  have HC0 := Aside0.mk hc0
  clear hr0 hc0
  have H : (laws_heldIntS.l0 k l0 a1 0) = some r := h
  clear h
  have H' := Aside0.mk H
  clear H
  go_enter Try.func28, Try.ntmps28
  go_wp2
  go_loopg [1, 5] k (fun kq v1 v5 w' => ∃ (x1_1 : Int) (x5_1 : Int), v1 = .int .i64 x1_1 ∧ v5 = .int .i64 x5_1 ∧ Aside0 (laws_heldIntS.l0 kq l0 x1_1 x5_1 = some r) ∧ Aside0 (kq ≤ k) ∧ Drawn0 w w')
  case atStart => exact ⟨(a1), (0), (by first | rfl | (simp; done) | (simp [*]; done)), (by first | rfl | (simp; done) | (simp [*]; done)), H', ⟨Nat.le_refl _⟩, by repeat (first | exact Drawn0.refl _ | apply Drawn0.step)⟩
  case round =>
    clear H'
    try clear c2
    try clear p2
    obtain ⟨x1_1, x5_1, rfl, rfl, HA, HK1, ⟨m1, rfl⟩⟩ := hrel
    cases gk with
    | zero => exact absurd HA.out (by simp [laws_heldIntS.l0])
    | succ k1 =>
      have H := HA.out
      clear HA
      simp only [laws_heldIntS.l0] at H
      by_cases c3 : x5_1 < (l0.length : Int)
      · rw [if_pos c3] at H
        have c3b0 : decide (x5_1 < (l0.length : Int)) = true := decide_eq_true c3
        clear c3
        by_cases c4 : 0 ≤ x5_1
        · rw [if_pos c4] at H
          have c4b0 : decide (0 ≤ x5_1) = true := decide_eq_true c4
          clear c4
          by_cases c5 : (rd l0 x5_1) = x1_1
          · rw [if_pos c5] at H
            have c5b0 : ((rd l0 x5_1) == x1_1) = true := beq_iff_eq.mpr c5
            have c5b1 : ((rd l0 x5_1) != x1_1) = false := bne_eq_false_iff_eq.mpr c5
            clear c5
            have H' := Aside0.mk H
            clear H
            have p213 : 0 ≤ (x5_1 : Int) := of_decide_eq_true (by first | (with_reducible assumption) | assumption)
            have q213 : x5_1 < (l0.length : Int) := of_decide_eq_true (by first | (with_reducible assumption) | assumption)
            obtain ⟨ad213, e213, hx213_0⟩ := Kd.at_int HR0.out x5_1 p213 q213
            cases e213
            replace p213 := eq_true p213
            replace q213 := eq_true q213
            go_wp2
            go_roundg k1
            case measure => have := HK1.out; omega
            case rel => exact ⟨(wrap64 (x1_1 + 1)), (wrap64 (x5_1 + 1)), (by first | rfl | (simp; done) | (simp [*]; done)), (by first | rfl | (simp; done) | (simp [*]; done)), H', ⟨by have := HK1.out; omega⟩, by repeat (first | exact Drawn0.refl _ | apply Drawn0.step)⟩
          · rw [if_neg c5] at H
            have c5b0 : ((rd l0 x5_1) == x1_1) = false := beq_eq_false_iff_ne.mpr c5
            have c5b1 : ((rd l0 x5_1) != x1_1) = true := bne_iff_ne.mpr c5
            obtain rfl := Option.some.inj H
            have p213 : 0 ≤ (x5_1 : Int) := of_decide_eq_true (by first | (with_reducible assumption) | assumption)
            have q213 : x5_1 < (l0.length : Int) := of_decide_eq_true (by first | (with_reducible assumption) | assumption)
            obtain ⟨ad213, e213, hx213_0⟩ := Kd.at_int HR0.out x5_1 p213 q213
            cases e213
            replace p213 := eq_true p213
            replace q213 := eq_true q213
            go_wp2
            go_ret
            exact ⟨by first | rfl | (simp; done) | (simp [*]; done), by repeat (first | exact Drawn0.refl _ | apply Drawn0.step)⟩
        · rw [if_neg c4] at H
          exact absurd H (by simp)
      · rw [if_neg c3] at H
        have c3b0 : decide (x5_1 < (l0.length : Int)) = false := decide_eq_false c3
        clear c3
        obtain rfl := Option.some.inj H
        go_wp2
        go_ret
        exact ⟨by first | rfl | (simp; done) | (simp [*]; done), by repeat (first | exact Drawn0.refl _ | apply Drawn0.step)⟩


/-! ### laws_FnExactPending: function 5 -/
def laws_FnExactPending.P (k : Nat) (l0 : List (S74)) : Prop :=
  (∃ t, laws_szEvS.f k l0 1048576 = some t ∧ t < 0) ∨
  (∃ (t : Int) (x : List S77) (q : List Int) (m1 : Int) (xm : List S77) (m2 : Int) (ym : List Int), laws_szEvS.f k l0 1048576 = some t ∧ 0 ≤ t ∧ laws_toEvS.f k l0 = some x ∧ spec_Pending.f k x = some q ∧ impl_Pending.f x = some q ∧ laws_eqIntS.f k q q = some true ∧ laws_eqEvS.f k x x = some true ∧ laws_markEvS.f k x 1 = some (m1, xm) ∧ 0 ≤ m1 ∧ laws_markIntS.f k q 1 = some (m2, ym) ∧ laws_heldIntS.f k ym 1 = some m2 ∧ 0 ≤ m2)
open Classical in
noncomputable def laws_FnExactPending.f (k : Nat) (l0 : List (S74)) : Option Bool := if laws_FnExactPending.P k l0 then some true else none
theorem laws_heldIntS.callsN (k : Nat) (A0 : Option Addr) (c0 n : Nat) (l0 : List Int) (a1 r : Int) (w : World) (hn : n = l0.length) (hr0 : Kd.C (Kd.int .i64) w A0 l0.length l0) (hc0 : n ≤ c0) (h : laws_heldIntS.f k l0 a1 = some r) :
    Calls Try.prog 28 #[.slice A0 n c0, .int .i64 a1] w fun e w' => e = .returned (.int .i64 r) ∧ Drawn0 w w' := by
  subst hn
  exact laws_heldIntS.calls k A0 c0 l0 a1 r w hr0 hc0 h
set_option maxHeartbeats 16000000 in
set_option maxRecDepth 100000 in
theorem laws_FnExactPending.calls (k : Nat) (A0 : Option Addr) (c0 : Nat) (l0 : List (S74)) (r : Bool) (w : World) (hr0 : Kd.C k74 w A0 l0.length l0) (hc0 : l0.length ≤ c0) (h : laws_FnExactPending.f k l0 = some r) :
    Calls Try.prog 5 #[.slice A0 l0.length c0] w fun e w' => e = .returned (.bool r) ∧ Below w.heap.size w w' := by
  have HR0 := Aside0.mk hr0
  have HC0 := Aside0.mk hc0
  clear hr0 hc0
  have HB := Aside0.mk (Below.refl w.heap.size w)
  have TOK0 := Aside0.mk True.intro
  unfold laws_FnExactPending.f at h
  by_cases hP : laws_FnExactPending.P k l0
  · rw [if_pos hP] at h
    obtain rfl := Option.some.inj h
    clear h
    rcases hP with ⟨t, hsz0, ht⟩ | ⟨t, x, q, m1, xm, m2, ym, hsz0, ht, hto0, hsp0, him0, heq0, hes0, hms0, hm1, hmr0, hhe0, hm2⟩
    · have hsz := Aside0.mk hsz0
      clear hsz0
      have htb : decide (t < 0) = true := decide_eq_true ht
      go_enter Try.func5, Try.ntmps5
      go_wp2_with (first | (have tok_ := TOK0; go_at_call 20; (with_reducible refine (laws_szEvS.calls k _ _ l0 1048576 t _ ?s1_0 ?s1_1 hsz.out).mono ?_); (case s1_0 => exact (Kd.C_below HR0.out (by repeat (first | (with_reducible first | exact HB.out | apply below_alloc | apply pw_below_drewN | apply below_drew1) | exact HB.out)))); (case s1_1 => exact HC0.out); rintro e w1 ⟨rfl, hb⟩; have hz_ := hb.size; have nS_ := Aside0.mk (show w.heap.size ≤ w1.heap.size from Nat.le_trans (by first | exact Nat.le_refl _ | (simp; done) | (simp; omega)) hz_); have nB_ := Aside0.mk (show Below w.heap.size w w1 from below_step (by repeat (first | (with_reducible first | exact HB.out | apply below_alloc | apply pw_below_drewN | apply below_drew1) | exact HB.out)) hb); clear hb hz_ TOK0 tok_ HB; have HS1 := nS_; have HB := nB_; clear nS_ nB_; have TOK1 := Aside0.mk True.intro))
      go_ret
      exact ⟨by first | rfl | (simp; done), by repeat (first | exact HB.out | apply below_alloc | apply pw_below_drewN | apply below_drew1)⟩
    · have hsz := Aside0.mk hsz0; have hto := Aside0.mk hto0; have hsp := Aside0.mk hsp0; have him := Aside0.mk him0; have heq := Aside0.mk heq0; have hes := Aside0.mk hes0; have hms := Aside0.mk hms0; have hmr := Aside0.mk hmr0; have hhe := Aside0.mk hhe0
      clear hsz0 hto0 hsp0 him0 heq0 hes0 hms0 hmr0 hhe0
      have tb : decide (t < 0) = false := decide_eq_false (by omega)
      have m1b : decide (m1 < 0) = false := decide_eq_false (by omega)
      have m2b : decide (m2 < 0) = false := decide_eq_false (by omega)
      have hm2c : (m2 == m2) = true := beq_self_eq_true m2
      have hm2d : (m2 != m2) = false := bne_self_eq_false m2
      clear ht hm1 hm2
      go_enter Try.func5, Try.ntmps5
      go_wp2_with (first | (have tok_ := TOK0; go_at_call 20; (with_reducible refine (laws_szEvS.calls k _ _ l0 1048576 t _ ?s1_0 ?s1_1 hsz.out).mono ?_); (case s1_0 => exact (Kd.C_below HR0.out (by repeat (first | (with_reducible first | exact HB.out | apply below_alloc | apply pw_below_drewN | apply below_drew1) | exact HB.out)))); (case s1_1 => exact HC0.out); rintro e w1 ⟨rfl, hb⟩; have hz_ := hb.size; have nS_ := Aside0.mk (show w.heap.size ≤ w1.heap.size from Nat.le_trans (by first | exact Nat.le_refl _ | (simp; done) | (simp; omega)) hz_); have nB_ := Aside0.mk (show Below w.heap.size w w1 from below_step (by repeat (first | (with_reducible first | exact HB.out | apply below_alloc | apply pw_below_drewN | apply below_drew1) | exact HB.out)) hb); clear hb hz_ TOK0 tok_ HB; have HS1 := nS_; have HB := nB_; clear nS_ nB_; have TOK1 := Aside0.mk True.intro) | (have tok_ := TOK1; go_at_call 22; (with_reducible refine (laws_toEvS.calls k _ _ l0 x _ ?s2_0 ?s2_1 hto.out).mono ?_); (case s2_0 => exact (Kd.C_below HR0.out (by repeat (first | (with_reducible first | exact HB.out | apply below_alloc | apply pw_below_drewN | apply below_drew1) | exact HB.out)))); (case s2_1 => exact HC0.out); rintro e w2 ⟨v, rfl, ho, hb⟩; have hz_ := hb.size; have nS_ := Aside0.mk (show w1.heap.size ≤ w2.heap.size from Nat.le_trans (by first | exact Nat.le_refl _ | (simp; done) | (simp; omega)) hz_); have nB_ := Aside0.mk (show Below w.heap.size w w2 from below_step (by repeat (first | (with_reducible first | exact HB.out | apply below_alloc | apply pw_below_drewN | apply below_drew1) | exact HB.out)) hb); obtain ⟨As, cs, rfl⟩ := Kd.S_slice ho; have nO_ := Aside0.mk (show Kd.S k77 77 w2 w.heap.size (fun b_ => w1.heap.size ≤ b_ ∧ b_ < w2.heap.size) (.slice As (x).length cs) x from Kd.S_lower (Kd.S_mono (Kd.S_bound ho) (fun b_ hb_ => ⟨Nat.le_trans (by first | exact Nat.le_refl _ | (simp; done) | (simp; omega)) hb_.2.1, hb_.2.2.1⟩)) (below_size (by repeat (first | (with_reducible first | exact HB.out | apply below_alloc | apply pw_below_drewN | apply below_drew1) | exact HB.out)))); clear hb hz_ ho TOK1 tok_ HB; have HS2 := nS_; have HB := nB_; have HOs := nO_; clear nS_ nB_ nO_; have TOK2 := Aside0.mk True.intro) | (have tok_ := TOK2; go_at_call 21; (with_reducible refine (spec_Pending.calls k _ _ x q _ ?s3_0 ?s3_1 hsp.out).mono ?_); (case s3_0 => refine (Kd.S_reads' (e := 77) (base := w.heap.size) (ok := fun b_ => w1.heap.size ≤ b_ ∧ b_ < w2.heap.size) (n := (x).length) (c := cs) ?_).2.2; exact (by (with_reducible repeat (first | apply Kd.S_alloc | apply Kd.S_drewN | apply Kd.S_drew)); exact HOs.out)); (case s3_1 => exact ((Kd.S_reads' HOs.out).2.1)); rintro e w3 ⟨v, rfl, ho, hb⟩; have hz_ := hb.size; have nS_ := Aside0.mk (show w2.heap.size ≤ w3.heap.size from Nat.le_trans (by first | exact Nat.le_refl _ | (simp; done) | (simp; omega)) hz_); have n0_ := Aside0.mk (Kd.S_below (by (with_reducible repeat (first | apply Kd.S_alloc | apply Kd.S_drewN | apply Kd.S_drew)); exact HOs.out) hb); have nB_ := Aside0.mk (show Below w.heap.size w w3 from below_step (by repeat (first | (with_reducible first | exact HB.out | apply below_alloc | apply pw_below_drewN | apply below_drew1) | exact HB.out)) hb); obtain ⟨Aw, cw, rfl⟩ := Kd.R_slice ho; have nO_ := Aside0.mk (show Kd.R (Kd.int .i64) 3 w3 w.heap.size (fun b_ => w2.heap.size ≤ b_ ∧ b_ < w3.heap.size) (.slice Aw (q).length cw) q from Kd.R_lower (Kd.R_mono (Kd.R_bound ho) (fun b_ hb_ => ⟨Nat.le_trans (by first | exact Nat.le_refl _ | (simp; done) | (simp; omega)) hb_.2.1, hb_.2.2.1⟩)) (below_size (by repeat (first | (with_reducible first | exact HB.out | apply below_alloc | apply pw_below_drewN | apply below_drew1) | exact HB.out)))); clear hb hz_ ho TOK2 tok_ HOs HB; have HS3 := nS_; have HOs := n0_; have HB := nB_; have HOw := nO_; clear nS_ n0_ nB_ nO_; have TOK3 := Aside0.mk True.intro) | (have tok_ := TOK3; go_at_call 22; (with_reducible refine (laws_toEvS.calls k _ _ l0 x _ ?s4_0 ?s4_1 hto.out).mono ?_); (case s4_0 => exact (Kd.C_below HR0.out (by repeat (first | (with_reducible first | exact HB.out | apply below_alloc | apply pw_below_drewN | apply below_drew1) | exact HB.out)))); (case s4_1 => exact HC0.out); rintro e w4 ⟨v, rfl, ho, hb⟩; have hz_ := hb.size; have nS_ := Aside0.mk (show w3.heap.size ≤ w4.heap.size from Nat.le_trans (by first | exact Nat.le_refl _ | (simp; done) | (simp; omega)) hz_); have n0_ := Aside0.mk (Kd.R_below (by (with_reducible repeat (first | apply Kd.R_alloc | apply Kd.R_drewN | apply Kd.R_drew)); exact HOw.out) hb); have nB_ := Aside0.mk (show Below w.heap.size w w4 from below_step (by repeat (first | (with_reducible first | exact HB.out | apply below_alloc | apply pw_below_drewN | apply below_drew1) | exact HB.out)) hb); obtain ⟨Ax, cx, rfl⟩ := Kd.S_slice ho; have nO_ := Aside0.mk (show Kd.S k77 77 w4 w.heap.size (fun b_ => w3.heap.size ≤ b_ ∧ b_ < w4.heap.size) (.slice Ax (x).length cx) x from Kd.S_lower (Kd.S_mono (Kd.S_bound ho) (fun b_ hb_ => ⟨Nat.le_trans (by first | exact Nat.le_refl _ | (simp; done) | (simp; omega)) hb_.2.1, hb_.2.2.1⟩)) (below_size (by repeat (first | (with_reducible first | exact HB.out | apply below_alloc | apply pw_below_drewN | apply below_drew1) | exact HB.out)))); clear hb hz_ ho TOK3 tok_ HOw HB; have HS4 := nS_; have HOw := n0_; have HB := nB_; have HOx := nO_; clear nS_ n0_ nB_ nO_; have TOK4 := Aside0.mk True.intro) | (have tok_ := TOK4; go_at_call 23; (with_reducible refine (impl_Pending.calls _ _ x q _ ?s5_0 ?s5_1 him.out).mono ?_); (case s5_0 => refine (Kd.S_reads' (e := 77) (base := w.heap.size) (ok := fun b_ => w3.heap.size ≤ b_ ∧ b_ < w4.heap.size) (n := (x).length) (c := cx) ?_).2.2; exact (by (with_reducible repeat (first | apply Kd.S_alloc | apply Kd.S_drewN | apply Kd.S_drew)); exact HOx.out)); (case s5_1 => exact ((Kd.S_reads' HOx.out).2.1)); rintro e w5 ⟨v, rfl, ho, hb⟩; have hz_ := hb.size; have nS_ := Aside0.mk (show w4.heap.size ≤ w5.heap.size from Nat.le_trans (by first | exact Nat.le_refl _ | (simp; done) | (simp; omega)) hz_); have n0_ := Aside0.mk (Kd.R_below (by (with_reducible repeat (first | apply Kd.R_alloc | apply Kd.R_drewN | apply Kd.R_drew)); exact HOw.out) hb); have n1_ := Aside0.mk (Kd.S_below (by (with_reducible repeat (first | apply Kd.S_alloc | apply Kd.S_drewN | apply Kd.S_drew)); exact HOx.out) hb); have nB_ := Aside0.mk (show Below w.heap.size w w5 from below_step (by repeat (first | (with_reducible first | exact HB.out | apply below_alloc | apply pw_below_drewN | apply below_drew1) | exact HB.out)) hb); obtain ⟨Ag, cg, rfl⟩ := Kd.R_slice ho; have nO_ := Aside0.mk (show Kd.R (Kd.int .i64) 3 w5 w.heap.size (fun b_ => w4.heap.size ≤ b_ ∧ b_ < w5.heap.size) (.slice Ag (q).length cg) q from Kd.R_lower (Kd.R_mono (Kd.R_bound ho) (fun b_ hb_ => ⟨Nat.le_trans (by first | exact Nat.le_refl _ | (simp; done) | (simp; omega)) hb_.2.1, hb_.2.2.1⟩)) (below_size (by repeat (first | (with_reducible first | exact HB.out | apply below_alloc | apply pw_below_drewN | apply below_drew1) | exact HB.out)))); clear hb hz_ ho TOK4 tok_ HOw HOx HB; have HS5 := nS_; have HOw := n0_; have HOx := n1_; have HB := nB_; have HOg := nO_; clear nS_ n0_ n1_ nB_ nO_; have TOK5 := Aside0.mk True.intro) | (have tok_ := TOK5; go_at_call 24; (with_reducible refine (laws_eqIntS.calls k _ _ q _ _ q true _ ?s6_0 ?s6_1 ?s6_2 ?s6_3 heq.out).mono ?_); (case s6_0 => refine (Kd.R_reads' (e := 3) (base := w.heap.size) (ok := fun b_ => w4.heap.size ≤ b_ ∧ b_ < w5.heap.size) (n := (q).length) (c := cg) ?_).2.2; exact (by (with_reducible repeat (first | apply Kd.R_alloc | apply Kd.R_drewN | apply Kd.R_drew)); exact HOg.out)); (case s6_1 => exact ((Kd.R_reads' HOg.out).2.1)); (case s6_2 => refine (Kd.R_reads' (e := 3) (base := w.heap.size) (ok := fun b_ => w2.heap.size ≤ b_ ∧ b_ < w3.heap.size) (n := (q).length) (c := cw) ?_).2.2; exact (by (with_reducible repeat (first | apply Kd.R_alloc | apply Kd.R_drewN | apply Kd.R_drew)); exact HOw.out)); (case s6_3 => exact ((Kd.R_reads' HOw.out).2.1)); rintro e w6 ⟨rfl, hd_⟩; have hb := Drawn0.below hd_; clear hd_; have hz_ := hb.size; have nS_ := Aside0.mk (show w5.heap.size ≤ w6.heap.size from Nat.le_trans (by first | exact Nat.le_refl _ | (simp; done) | (simp; omega)) hz_); have n0_ := Aside0.mk (Kd.R_below (by (with_reducible repeat (first | apply Kd.R_alloc | apply Kd.R_drewN | apply Kd.R_drew)); exact HOw.out) hb); have n1_ := Aside0.mk (Kd.S_below (by (with_reducible repeat (first | apply Kd.S_alloc | apply Kd.S_drewN | apply Kd.S_drew)); exact HOx.out) hb); have n2_ := Aside0.mk (Kd.R_below (by (with_reducible repeat (first | apply Kd.R_alloc | apply Kd.R_drewN | apply Kd.R_drew)); exact HOg.out) hb); have nB_ := Aside0.mk (show Below w.heap.size w w6 from below_step (by repeat (first | (with_reducible first | exact HB.out | apply below_alloc | apply pw_below_drewN | apply below_drew1) | exact HB.out)) hb); clear hb hz_ TOK5 tok_ HOw HOx HOg HB; have HS6 := nS_; have HOw := n0_; have HOx := n1_; have HOg := n2_; have HB := nB_; clear nS_ n0_ n1_ n2_ nB_; have TOK6 := Aside0.mk True.intro) | (have tok_ := TOK6; go_at_call 22; (with_reducible refine (laws_toEvS.calls k _ _ l0 x _ ?s7_0 ?s7_1 hto.out).mono ?_); (case s7_0 => exact (Kd.C_below HR0.out (by repeat (first | (with_reducible first | exact HB.out | apply below_alloc | apply pw_below_drewN | apply below_drew1) | exact HB.out)))); (case s7_1 => exact HC0.out); rintro e w7 ⟨v, rfl, ho, hb⟩; have hz_ := hb.size; have nS_ := Aside0.mk (show w6.heap.size ≤ w7.heap.size from Nat.le_trans (by first | exact Nat.le_refl _ | (simp; done) | (simp; omega)) hz_); have n0_ := Aside0.mk (Kd.R_below (by (with_reducible repeat (first | apply Kd.R_alloc | apply Kd.R_drewN | apply Kd.R_drew)); exact HOw.out) hb); have n1_ := Aside0.mk (Kd.S_below (by (with_reducible repeat (first | apply Kd.S_alloc | apply Kd.S_drewN | apply Kd.S_drew)); exact HOx.out) hb); have n2_ := Aside0.mk (Kd.R_below (by (with_reducible repeat (first | apply Kd.R_alloc | apply Kd.R_drewN | apply Kd.R_drew)); exact HOg.out) hb); have nB_ := Aside0.mk (show Below w.heap.size w w7 from below_step (by repeat (first | (with_reducible first | exact HB.out | apply below_alloc | apply pw_below_drewN | apply below_drew1) | exact HB.out)) hb); obtain ⟨Ay, cy, rfl⟩ := Kd.S_slice ho; have nO_ := Aside0.mk (show Kd.S k77 77 w7 w.heap.size (fun b_ => w6.heap.size ≤ b_ ∧ b_ < w7.heap.size) (.slice Ay (x).length cy) x from Kd.S_lower (Kd.S_mono (Kd.S_bound ho) (fun b_ hb_ => ⟨Nat.le_trans (by first | exact Nat.le_refl _ | (simp; done) | (simp; omega)) hb_.2.1, hb_.2.2.1⟩)) (below_size (by repeat (first | (with_reducible first | exact HB.out | apply below_alloc | apply pw_below_drewN | apply below_drew1) | exact HB.out)))); clear hb hz_ ho TOK6 tok_ HOw HOx HOg HB; have HS7 := nS_; have HOw := n0_; have HOx := n1_; have HOg := n2_; have HB := nB_; have HOy := nO_; clear nS_ n0_ n1_ n2_ nB_ nO_; have TOK7 := Aside0.mk True.intro) | (have tok_ := TOK7; go_at_call 25; (with_reducible refine (laws_eqEvS.calls k _ _ x _ _ x true _ ?s8_0 ?s8_1 ?s8_2 ?s8_3 hes.out).mono ?_); (case s8_0 => refine (Kd.S_reads' (e := 77) (base := w.heap.size) (ok := fun b_ => w3.heap.size ≤ b_ ∧ b_ < w4.heap.size) (n := (x).length) (c := cx) ?_).2.2; exact (by (with_reducible repeat (first | apply Kd.S_alloc | apply Kd.S_drewN | apply Kd.S_drew)); exact HOx.out)); (case s8_1 => exact ((Kd.S_reads' HOx.out).2.1)); (case s8_2 => refine (Kd.S_reads' (e := 77) (base := w.heap.size) (ok := fun b_ => w6.heap.size ≤ b_ ∧ b_ < w7.heap.size) (n := (x).length) (c := cy) ?_).2.2; exact (by (with_reducible repeat (first | apply Kd.S_alloc | apply Kd.S_drewN | apply Kd.S_drew)); exact HOy.out)); (case s8_3 => exact ((Kd.S_reads' HOy.out).2.1)); rintro e w8 ⟨rfl, hb⟩; have hz_ := hb.size; have nS_ := Aside0.mk (show w7.heap.size ≤ w8.heap.size from Nat.le_trans (by first | exact Nat.le_refl _ | (simp; done) | (simp; omega)) hz_); have n0_ := Aside0.mk (Kd.R_below (by (with_reducible repeat (first | apply Kd.R_alloc | apply Kd.R_drewN | apply Kd.R_drew)); exact HOw.out) hb); have n1_ := Aside0.mk (Kd.S_below (by (with_reducible repeat (first | apply Kd.S_alloc | apply Kd.S_drewN | apply Kd.S_drew)); exact HOx.out) hb); have n2_ := Aside0.mk (Kd.R_below (by (with_reducible repeat (first | apply Kd.R_alloc | apply Kd.R_drewN | apply Kd.R_drew)); exact HOg.out) hb); have n3_ := Aside0.mk (Kd.S_below (by (with_reducible repeat (first | apply Kd.S_alloc | apply Kd.S_drewN | apply Kd.S_drew)); exact HOy.out) hb); have nB_ := Aside0.mk (show Below w.heap.size w w8 from below_step (by repeat (first | (with_reducible first | exact HB.out | apply below_alloc | apply pw_below_drewN | apply below_drew1) | exact HB.out)) hb); clear hb hz_ TOK7 tok_ HOw HOx HOg HOy HB; have HS8 := nS_; have HOw := n0_; have HOx := n1_; have HOg := n2_; have HOy := n3_; have HB := nB_; clear nS_ n0_ n1_ n2_ n3_ nB_; have TOK8 := Aside0.mk True.intro) | (have tok_ := TOK8; go_at_call 26; (with_reducible refine (laws_markEvS.calls k (fun b_ => w3.heap.size ≤ b_ ∧ b_ < w4.heap.size) _ x 1 m1 xm w _ ?s9_1 ?s9_0 hms.out).mono ?_); (case s9_0 => exact (by (with_reducible repeat (first | apply Kd.S_alloc | apply Kd.S_drewN | apply Kd.S_drew)); exact HOx.out)); (case s9_1 => exact (by repeat (first | (with_reducible first | exact HB.out | apply below_alloc | apply pw_below_drewN | apply below_drew1) | exact HB.out))); rintro e w9 ⟨rfl, hr, hb, hk⟩; have hz_ := hk.1; have nS_ := Aside0.mk (show w8.heap.size ≤ w9.heap.size from Nat.le_trans (by first | exact Nat.le_refl _ | (simp; done) | (simp; omega)) hz_); have n0_ := Aside0.mk (Kd.R_kept (by (with_reducible repeat (first | apply Kd.R_alloc | apply Kd.R_drewN | apply Kd.R_drew)); exact HOw.out) hk (fun b_ h1_ h2_ => by have h3_ : w2.heap.size ≤ b_ ∧ b_ < w3.heap.size := h1_; have h4_ : w3.heap.size ≤ b_ ∧ b_ < w4.heap.size := h2_; have a1 := HS1.out; have a2 := HS2.out; have a3 := HS3.out; have a4 := HS4.out; have a5 := HS5.out; have a6 := HS6.out; have a7 := HS7.out; have a8 := HS8.out; omega)); have n1_ := Aside0.mk (Kd.R_kept (by (with_reducible repeat (first | apply Kd.R_alloc | apply Kd.R_drewN | apply Kd.R_drew)); exact HOg.out) hk (fun b_ h1_ h2_ => by have h3_ : w4.heap.size ≤ b_ ∧ b_ < w5.heap.size := h1_; have h4_ : w3.heap.size ≤ b_ ∧ b_ < w4.heap.size := h2_; have a1 := HS1.out; have a2 := HS2.out; have a3 := HS3.out; have a4 := HS4.out; have a5 := HS5.out; have a6 := HS6.out; have a7 := HS7.out; have a8 := HS8.out; omega)); have nB_ := Aside0.mk (hb); have nM_ := Aside0.mk (Kd.S_mono hr (ok' := fun _ => True) (fun _ _ => trivial)); clear hb hz_ hk hr TOK8 tok_ HOw HOx HOg HB; have HS9 := nS_; have HOw := n0_; have HOg := n1_; have HB := nB_; have HOx := nM_; clear nS_ n0_ n1_ nB_ nM_; have TOK9 := Aside0.mk True.intro) | (have tok_ := TOK9; go_at_call 24; (with_reducible refine (laws_eqIntS.calls k _ _ q _ _ q true _ ?s10_0 ?s10_1 ?s10_2 ?s10_3 heq.out).mono ?_); (case s10_0 => refine (Kd.R_reads' (e := 3) (base := w.heap.size) (ok := fun b_ => w4.heap.size ≤ b_ ∧ b_ < w5.heap.size) (n := (q).length) (c := cg) ?_).2.2; exact (by (with_reducible repeat (first | apply Kd.R_alloc | apply Kd.R_drewN | apply Kd.R_drew)); exact HOg.out)); (case s10_1 => exact ((Kd.R_reads' HOg.out).2.1)); (case s10_2 => refine (Kd.R_reads' (e := 3) (base := w.heap.size) (ok := fun b_ => w2.heap.size ≤ b_ ∧ b_ < w3.heap.size) (n := (q).length) (c := cw) ?_).2.2; exact (by (with_reducible repeat (first | apply Kd.R_alloc | apply Kd.R_drewN | apply Kd.R_drew)); exact HOw.out)); (case s10_3 => exact ((Kd.R_reads' HOw.out).2.1)); rintro e w10 ⟨rfl, hd_⟩; have hb := Drawn0.below hd_; clear hd_; have hz_ := hb.size; have nS_ := Aside0.mk (show w9.heap.size ≤ w10.heap.size from Nat.le_trans (by first | exact Nat.le_refl _ | (simp; done) | (simp; omega)) hz_); have n0_ := Aside0.mk (Kd.R_below (by (with_reducible repeat (first | apply Kd.R_alloc | apply Kd.R_drewN | apply Kd.R_drew)); exact HOw.out) hb); have n1_ := Aside0.mk (Kd.R_below (by (with_reducible repeat (first | apply Kd.R_alloc | apply Kd.R_drewN | apply Kd.R_drew)); exact HOg.out) hb); have nB_ := Aside0.mk (show Below w.heap.size w w10 from below_step (by repeat (first | (with_reducible first | exact HB.out | apply below_alloc | apply pw_below_drewN | apply below_drew1) | exact HB.out)) hb); clear hb hz_ TOK9 tok_ HOw HOg HB; have HS10 := nS_; have HOw := n0_; have HOg := n1_; have HB := nB_; clear nS_ n0_ n1_ nB_; have TOK10 := Aside0.mk True.intro) | (have tok_ := TOK10; go_at_call 27; (with_reducible refine (laws_markIntS.calls k (fun b_ => w4.heap.size ≤ b_ ∧ b_ < w5.heap.size) _ q 1 m2 ym w _ ?s11_1 ?s11_0 hmr.out).mono ?_); (case s11_0 => exact (by (with_reducible repeat (first | apply Kd.R_alloc | apply Kd.R_drewN | apply Kd.R_drew)); exact HOg.out)); (case s11_1 => exact (by repeat (first | (with_reducible first | exact HB.out | apply below_alloc | apply pw_below_drewN | apply below_drew1) | exact HB.out))); rintro e w11 ⟨rfl, hr, hb, hk⟩; have hz_ := hk.1; have nS_ := Aside0.mk (show w10.heap.size ≤ w11.heap.size from Nat.le_trans (by first | exact Nat.le_refl _ | (simp; done) | (simp; omega)) hz_); have n0_ := Aside0.mk (Kd.R_kept (by (with_reducible repeat (first | apply Kd.R_alloc | apply Kd.R_drewN | apply Kd.R_drew)); exact HOw.out) hk (fun b_ h1_ h2_ => by have h3_ : w2.heap.size ≤ b_ ∧ b_ < w3.heap.size := h1_; have h4_ : w4.heap.size ≤ b_ ∧ b_ < w5.heap.size := h2_; have a1 := HS1.out; have a2 := HS2.out; have a3 := HS3.out; have a4 := HS4.out; have a5 := HS5.out; have a6 := HS6.out; have a7 := HS7.out; have a8 := HS8.out; have a9 := HS9.out; have a10 := HS10.out; omega)); have nB_ := Aside0.mk (hb); have nM_ := Aside0.mk (Kd.R_mono hr (ok' := fun _ => True) (fun _ _ => trivial)); clear hb hz_ hk hr TOK10 tok_ HOw HOg HB; have HS11 := nS_; have HOw := n0_; have HB := nB_; have HOg := nM_; clear nS_ n0_ nB_ nM_; have TOK11 := Aside0.mk True.intro) | (have tok_ := TOK11; go_at_call 28; (with_reducible refine (laws_heldIntS.callsN k _ _ _ ym 1 m2 _ ?s12_0 ?s12_1 ?s12_2 hhe.out).mono ?_); (case s12_0 => exact (Kd.R_reads' HOg.out).1); (case s12_1 => refine (Kd.R_reads' (e := 3) (base := w.heap.size) (ok := fun _ => True) (n := (q).length) (c := cg) ?_).2.2; exact (by (with_reducible repeat (first | apply Kd.R_alloc | apply Kd.R_drewN | apply Kd.R_drew)); exact HOg.out)); (case s12_2 => exact ((Kd.R_reads' HOg.out).2.1)); rintro e w12 ⟨rfl, hd_⟩; have hb := Drawn0.below hd_; clear hd_; have hz_ := hb.size; have nS_ := Aside0.mk (show w11.heap.size ≤ w12.heap.size from Nat.le_trans (by first | exact Nat.le_refl _ | (simp; done) | (simp; omega)) hz_); have n0_ := Aside0.mk (Kd.R_below (by (with_reducible repeat (first | apply Kd.R_alloc | apply Kd.R_drewN | apply Kd.R_drew)); exact HOw.out) hb); have n1_ := Aside0.mk (Kd.R_below (by (with_reducible repeat (first | apply Kd.R_alloc | apply Kd.R_drewN | apply Kd.R_drew)); exact HOg.out) hb); have nB_ := Aside0.mk (show Below w.heap.size w w12 from below_step (by repeat (first | (with_reducible first | exact HB.out | apply below_alloc | apply pw_below_drewN | apply below_drew1) | exact HB.out)) hb); clear hb hz_ TOK11 tok_ HOw HOg HB; have HS12 := nS_; have HOw := n0_; have HOg := n1_; have HB := nB_; clear nS_ n0_ n1_ nB_; have TOK12 := Aside0.mk True.intro) | (have tok_ := TOK12; go_at_call 22; (with_reducible refine (laws_toEvS.calls k _ _ l0 x _ ?s13_0 ?s13_1 hto.out).mono ?_); (case s13_0 => exact (Kd.C_below HR0.out (by repeat (first | (with_reducible first | exact HB.out | apply below_alloc | apply pw_below_drewN | apply below_drew1) | exact HB.out)))); (case s13_1 => exact HC0.out); rintro e w13 ⟨v, rfl, ho, hb⟩; have hz_ := hb.size; have nS_ := Aside0.mk (show w12.heap.size ≤ w13.heap.size from Nat.le_trans (by first | exact Nat.le_refl _ | (simp; done) | (simp; omega)) hz_); have n0_ := Aside0.mk (Kd.R_below (by (with_reducible repeat (first | apply Kd.R_alloc | apply Kd.R_drewN | apply Kd.R_drew)); exact HOw.out) hb); have n1_ := Aside0.mk (Kd.R_below (by (with_reducible repeat (first | apply Kd.R_alloc | apply Kd.R_drewN | apply Kd.R_drew)); exact HOg.out) hb); have nB_ := Aside0.mk (show Below w.heap.size w w13 from below_step (by repeat (first | (with_reducible first | exact HB.out | apply below_alloc | apply pw_below_drewN | apply below_drew1) | exact HB.out)) hb); obtain ⟨Az, cz, rfl⟩ := Kd.S_slice ho; have nO_ := Aside0.mk (show Kd.S k77 77 w13 w.heap.size (fun b_ => w12.heap.size ≤ b_ ∧ b_ < w13.heap.size) (.slice Az (x).length cz) x from Kd.S_lower (Kd.S_mono (Kd.S_bound ho) (fun b_ hb_ => ⟨Nat.le_trans (by first | exact Nat.le_refl _ | (simp; done) | (simp; omega)) hb_.2.1, hb_.2.2.1⟩)) (below_size (by repeat (first | (with_reducible first | exact HB.out | apply below_alloc | apply pw_below_drewN | apply below_drew1) | exact HB.out)))); clear hb hz_ ho TOK12 tok_ HOw HOg HB; have HS13 := nS_; have HOw := n0_; have HOg := n1_; have HB := nB_; have HOz := nO_; clear nS_ n0_ n1_ nB_ nO_; have TOK13 := Aside0.mk True.intro) | (have tok_ := TOK13; go_at_call 23; (with_reducible refine (impl_Pending.calls _ _ x q _ ?s14_0 ?s14_1 him.out).mono ?_); (case s14_0 => refine (Kd.S_reads' (e := 77) (base := w.heap.size) (ok := fun b_ => w12.heap.size ≤ b_ ∧ b_ < w13.heap.size) (n := (x).length) (c := cz) ?_).2.2; exact (by (with_reducible repeat (first | apply Kd.S_alloc | apply Kd.S_drewN | apply Kd.S_drew)); exact HOz.out)); (case s14_1 => exact ((Kd.S_reads' HOz.out).2.1)); rintro e w14 ⟨v, rfl, ho, hb⟩; have hz_ := hb.size; have nS_ := Aside0.mk (show w13.heap.size ≤ w14.heap.size from Nat.le_trans (by first | exact Nat.le_refl _ | (simp; done) | (simp; omega)) hz_); have n0_ := Aside0.mk (Kd.R_below (by (with_reducible repeat (first | apply Kd.R_alloc | apply Kd.R_drewN | apply Kd.R_drew)); exact HOw.out) hb); have n1_ := Aside0.mk (Kd.R_below (by (with_reducible repeat (first | apply Kd.R_alloc | apply Kd.R_drewN | apply Kd.R_drew)); exact HOg.out) hb); have n2_ := Aside0.mk (Kd.S_below (by (with_reducible repeat (first | apply Kd.S_alloc | apply Kd.S_drewN | apply Kd.S_drew)); exact HOz.out) hb); have nB_ := Aside0.mk (show Below w.heap.size w w14 from below_step (by repeat (first | (with_reducible first | exact HB.out | apply below_alloc | apply pw_below_drewN | apply below_drew1) | exact HB.out)) hb); obtain ⟨Ah, ch, rfl⟩ := Kd.R_slice ho; have nO_ := Aside0.mk (show Kd.R (Kd.int .i64) 3 w14 w.heap.size (fun b_ => w13.heap.size ≤ b_ ∧ b_ < w14.heap.size) (.slice Ah (q).length ch) q from Kd.R_lower (Kd.R_mono (Kd.R_bound ho) (fun b_ hb_ => ⟨Nat.le_trans (by first | exact Nat.le_refl _ | (simp; done) | (simp; omega)) hb_.2.1, hb_.2.2.1⟩)) (below_size (by repeat (first | (with_reducible first | exact HB.out | apply below_alloc | apply pw_below_drewN | apply below_drew1) | exact HB.out)))); clear hb hz_ ho TOK13 tok_ HOw HOg HOz HB; have HS14 := nS_; have HOw := n0_; have HOg := n1_; have HOz := n2_; have HB := nB_; have HOh := nO_; clear nS_ n0_ n1_ n2_ nB_ nO_; have TOK14 := Aside0.mk True.intro) | (have tok_ := TOK14; go_at_call 24; (with_reducible refine (laws_eqIntS.calls k _ _ q _ _ q true _ ?s15_0 ?s15_1 ?s15_2 ?s15_3 heq.out).mono ?_); (case s15_0 => refine (Kd.R_reads' (e := 3) (base := w.heap.size) (ok := fun b_ => w13.heap.size ≤ b_ ∧ b_ < w14.heap.size) (n := (q).length) (c := ch) ?_).2.2; exact (by (with_reducible repeat (first | apply Kd.R_alloc | apply Kd.R_drewN | apply Kd.R_drew)); exact HOh.out)); (case s15_1 => exact ((Kd.R_reads' HOh.out).2.1)); (case s15_2 => refine (Kd.R_reads' (e := 3) (base := w.heap.size) (ok := fun b_ => w2.heap.size ≤ b_ ∧ b_ < w3.heap.size) (n := (q).length) (c := cw) ?_).2.2; exact (by (with_reducible repeat (first | apply Kd.R_alloc | apply Kd.R_drewN | apply Kd.R_drew)); exact HOw.out)); (case s15_3 => exact ((Kd.R_reads' HOw.out).2.1)); rintro e w15 ⟨rfl, hd_⟩; have hb := Drawn0.below hd_; clear hd_; have hz_ := hb.size; have nS_ := Aside0.mk (show w14.heap.size ≤ w15.heap.size from Nat.le_trans (by first | exact Nat.le_refl _ | (simp; done) | (simp; omega)) hz_); have n0_ := Aside0.mk (Kd.R_below (by (with_reducible repeat (first | apply Kd.R_alloc | apply Kd.R_drewN | apply Kd.R_drew)); exact HOw.out) hb); have n1_ := Aside0.mk (Kd.R_below (by (with_reducible repeat (first | apply Kd.R_alloc | apply Kd.R_drewN | apply Kd.R_drew)); exact HOg.out) hb); have n2_ := Aside0.mk (Kd.R_below (by (with_reducible repeat (first | apply Kd.R_alloc | apply Kd.R_drewN | apply Kd.R_drew)); exact HOh.out) hb); have nB_ := Aside0.mk (show Below w.heap.size w w15 from below_step (by repeat (first | (with_reducible first | exact HB.out | apply below_alloc | apply pw_below_drewN | apply below_drew1) | exact HB.out)) hb); clear hb hz_ TOK14 tok_ HOw HOg HOh HB; have HS15 := nS_; have HOw := n0_; have HOg := n1_; have HOh := n2_; have HB := nB_; clear nS_ n0_ n1_ n2_ nB_; have TOK15 := Aside0.mk True.intro) | (have tok_ := TOK15; go_at_call 28; (with_reducible refine (laws_heldIntS.callsN k _ _ _ ym 1 m2 _ ?s16_0 ?s16_1 ?s16_2 hhe.out).mono ?_); (case s16_0 => exact (Kd.R_reads' HOg.out).1); (case s16_1 => refine (Kd.R_reads' (e := 3) (base := w.heap.size) (ok := fun _ => True) (n := (q).length) (c := cg) ?_).2.2; exact (by (with_reducible repeat (first | apply Kd.R_alloc | apply Kd.R_drewN | apply Kd.R_drew)); exact HOg.out)); (case s16_2 => exact ((Kd.R_reads' HOg.out).2.1)); rintro e w16 ⟨rfl, hd_⟩; have hb := Drawn0.below hd_; clear hd_; have hz_ := hb.size; have nS_ := Aside0.mk (show w15.heap.size ≤ w16.heap.size from Nat.le_trans (by first | exact Nat.le_refl _ | (simp; done) | (simp; omega)) hz_); have n0_ := Aside0.mk (Kd.R_below (by (with_reducible repeat (first | apply Kd.R_alloc | apply Kd.R_drewN | apply Kd.R_drew)); exact HOw.out) hb); have n1_ := Aside0.mk (Kd.R_below (by (with_reducible repeat (first | apply Kd.R_alloc | apply Kd.R_drewN | apply Kd.R_drew)); exact HOg.out) hb); have n2_ := Aside0.mk (Kd.R_below (by (with_reducible repeat (first | apply Kd.R_alloc | apply Kd.R_drewN | apply Kd.R_drew)); exact HOh.out) hb); have nB_ := Aside0.mk (show Below w.heap.size w w16 from below_step (by repeat (first | (with_reducible first | exact HB.out | apply below_alloc | apply pw_below_drewN | apply below_drew1) | exact HB.out)) hb); clear hb hz_ TOK15 tok_ HOw HOg HOh HB; have HS16 := nS_; have HOw := n0_; have HOg := n1_; have HOh := n2_; have HB := nB_; clear nS_ n0_ n1_ n2_ nB_; have TOK16 := Aside0.mk True.intro))
      go_ret
      exact ⟨by first | rfl | (simp; done), by repeat (first | exact HB.out | apply below_alloc | apply pw_below_drewN | apply below_drew1)⟩
  · rw [if_neg hP] at h
    exact absurd h (by simp)

end Go.Proofs.Yticfkgjcklonmaa.QFnExactPending
