-- MADE BY qprint.py, a program of this claim's session, over the kit's print: own text.
import Derived.Test.YticfkgjcklonmaaDoorQFnExactTracex0
import Derived.Test.YticfkgjcklonmaaDoorQFnExactTracex2
import Derived.Test.YticfkgjcklonmaaDoorQFnExactTracex5
import Derived.Test.YticfkgjcklonmaaDoorQFnExactTracex9
import Derived.Test.YticfkgjcklonmaaDoorQFnExactTracex11
namespace Go.Proofs.YticfkgjcklonmaaDoor.QFnExactTrace
open Go.RowKit Go.Proofs.YticfkgjcklonmaaDoorW.PrintWords Go.Proofs.YticfkgjcklonmaaDoorW.PrintLast Go.Proofs.YticfkgjcklonmaaDoorW.PrintMore
attribute [local go_sem] max2_int min2_int max_two min_two max_three min_three max_four min_four   -- for this text's walks alone
attribute [local go_sem high] leq_str gtr_str geq_str
set_option linter.unusedVariables false
set_option linter.unusedSimpArgs false

/-! ### laws_markStringS: function 13 -/
def laws_markStringS.l0 : Nat → List ByteArray → Int → Int → Option (Int × List ByteArray)
 | 0, _, _, _ => none
 | k + 1, x0, x1, x5 => if x5 < (x0.length : Int) then ((laws_markText.f k x1).bind fun t268 => (if 0 ≤ x5 then (laws_markStringS.l0 k (x0.set (x5 : Int).toNat t268) (wrap64 (x1 + 1)) (wrap64 (x5 + 1))) else (none))) else (some (x1, x0))
def laws_markStringS.f (k : Nat) (l0 : List ByteArray) (a1 : Int) : Option (Int × List ByteArray) := laws_markStringS.l0 k l0 a1 0
theorem laws_markStringS.mono_l : ∀ k, (∀ y0 y1 y2, LeO (laws_markStringS.l0 k y0 y1 y2) (laws_markStringS.l0 (k + 1) y0 y1 y2))
 | 0 => fun _ _ _ r h => by simp [laws_markStringS.l0] at h
 | k + 1 => by
  have ih0 := laws_markStringS.mono_l k
  ·intro y0 y1 y2
   unfold laws_markStringS.l0
   repeat' first
   | (with_reducible exact ih0 _ _ _)
   | (with_reducible exact laws_markText.mono _ _)
   | (with_reducible exact LeO.refl _)
   | (with_reducible exact LeO.none _)
   | (with_reducible refine LeO.ite ?_ ?_)
   | (with_reducible refine LeO.bind ?_ (fun _ => ?_))
   | exact ih0 _ _ _
   | exact laws_markText.mono _ _
   | exact LeO.none _
   | refine LeO.ite ?_ ?_
   | refine LeO.bind ?_ (fun _ => ?_)
theorem laws_markStringS.mono : ∀ a0 a1 k, LeO (laws_markStringS.f k a0 a1) (laws_markStringS.f (k + 1) a0 a1) := by
 intro a0 a1 k
 have ih0 := laws_markStringS.mono_l k
 unfold laws_markStringS.f
 repeat' first
   | (with_reducible exact ih0 _ _ _)
   | (with_reducible exact laws_markText.mono _ _)
   | (with_reducible exact LeO.refl _)
   | (with_reducible exact LeO.none _)
   | (with_reducible refine LeO.ite ?_ ?_)
   | (with_reducible refine LeO.bind ?_ (fun _ => ?_))
   | exact ih0 _ _ _
   | exact laws_markText.mono _ _
   | exact LeO.none _
   | refine LeO.ite ?_ ?_
   | refine LeO.bind ?_ (fun _ => ?_)
set_option maxHeartbeats 8000000 in
set_option maxRecDepth 100000 in
theorem laws_markStringS.calls (k : Nat) (P0_ : Nat → Prop) (u9000_ : Value) (l0 : List ByteArray) (a1 : Int) (r1 : Int) (r2 : List ByteArray) (w0 w : World) (hB : Below w0.heap.size w0 w) (ho0 : Kd.R Kd.string 9 w w0.heap.size P0_ u9000_ l0) (h : laws_markStringS.f k l0 a1 = some (r1, r2)) :
  Calls Tryd.prog 13 #[u9000_, .int .i64 a1] w fun e w' => e = .returned (.int .i64 r1) ∧ Kd.R Kd.string 9 w' w0.heap.size (fun k_ => (P0_ k_ ∨ w.heap.size ≤ k_)) u9000_ r2 ∧ Below w0.heap.size w0 w' ∧ Kept w w' (fun k_ => P0_ k_) := by
 have HO0 := Aside0.mk (show Kd.R Kd.string 9 w w0.heap.size (fun k_ => (P0_ k_ ∨ w.heap.size ≤ k_)) u9000_ l0 from Kd.R_mono ho0 (fun k_ hk => (.inl hk)))
 have HK := Aside0.mk (Kept.refl w (fun k_ => P0_ k_))
 have HW0 := Aside0.mk hB.size
 have HB := Aside0.mk hB
 clear hB
 have H : (laws_markStringS.l0 k l0 a1 0) = some (r1, r2) := h
 clear h
 have H' := Aside0.mk H
 clear H
 go_enter Tryd.func13, Tryd.ntmps13
 go_wp2
 go_loopg [1, 5] k (fun kq v1 v5 w' => ∃ (x0_1 : List ByteArray) (x1_1 : Int) (x5_1 : Int), v1 = .int .i64 x1_1 ∧ v5 = .int .i64 x5_1 ∧ Aside0 (laws_markStringS.l0 kq x0_1 x1_1 x5_1 = some (r1, r2)) ∧ Aside0 (kq ≤ k) ∧ Aside0 (Kd.R Kd.string 9 w' w0.heap.size (fun k_ => (P0_ k_ ∨ w.heap.size ≤ k_)) u9000_ x0_1) ∧ Aside0 (Kept w w' (fun k_ => P0_ k_)) ∧ Aside0 (Below w0.heap.size w0 w'))
 case atStart => exact ⟨(l0), (a1), (0), (by first | rfl | (simp; done) | (simp [*]; done)), (by first | rfl | (simp; done) | (simp [*]; done)), H', ⟨Nat.le_refl _⟩, ⟨by (with_reducible repeat (first | apply Kd.R_alloc | apply Kd.R_drewN | apply Kd.R_drew)); exact HO0.out⟩, ⟨by repeat (first | (with_reducible first | exact HK.out | apply Kept.alloc | apply Kept.drewN | apply Kept.drew) | exact HK.out)⟩, ⟨by repeat (first | (with_reducible first | exact HB.out | apply below_alloc | apply pw_below_drewN | apply below_drew1) | exact HB.out)⟩⟩
 case round =>
  clear H'
  try clear c1
  try clear p2
  obtain ⟨x0_1, x1_1, x5_1, rfl, rfl, HA, HK1, HO_0, HK, HB⟩ := hrel
  cases gk with
  | zero => exact absurd HA.out (by simp [laws_markStringS.l0])
  | succ k1 =>
   have H := HA.out
   clear HA
   simp only [laws_markStringS.l0] at H
   by_cases c3 : x5_1 < (x0_1.length : Int)
   ·rw [if_pos c3] at H
    have c3b0 : decide (x5_1 < (x0_1.length : Int)) = true := decide_eq_true c3
    clear c3
    replace H := Option.bind_eq_some_iff.mp H
    obtain ⟨t268, A40, H⟩ := H
    replace H : (if 0 ≤ x5_1 then (laws_markStringS.l0 k1 (x0_1.set (x5_1 : Int).toNat t268) (wrap64 (x1_1 + 1)) (wrap64 (x5_1 + 1))) else (none)) = some (r1, r2) := H
    have A4 := Aside0.mk A40
    clear A40
    by_cases c5 : 0 ≤ x5_1
    ·rw [if_pos c5] at H
     have c5b0 : decide (0 ≤ x5_1) = true := decide_eq_true c5
     clear c5
     obtain ⟨y269, hy269⟩ : ∃ y_ : List ByteArray, y_ = (x0_1.set (x5_1 : Int).toNat t268) := ⟨_, rfl⟩
     replace H : (laws_markStringS.l0 k1 y269 (wrap64 (x1_1 + 1)) (wrap64 (x5_1 + 1))) = some (r1, r2) := by first | (rw [hy269]; with_reducible exact H) | (have H2_ := (Option.bind_some _ _).symm.trans H; rw [hy269]; with_reducible exact H2_) | (have H2_ := (Option.bind_some _ _).symm.trans H; with_reducible exact H2_) | with_reducible exact H | (rw [hy269]; exact H) | exact H
     have Ny269 := Aside0.mk hy269
     clear hy269
     have H' := Aside0.mk H
     clear H
     obtain ⟨Ao7, co7, eo7⟩ := Kd.R_slice HO_0.out
     subst eo7
     go_wp2_with (first | ((with_reducible refine gate_callee (f := 26) rfl ?_); refine goesL_ (some 15) rfl rfl Tryd.func26 (by kernel_rfl) rfl #[.int .i64 x1_1] rfl (by (try simp only [List.map_toArray, List.map_cons, List.map_nil]); first | done | rfl | (simp only [List.length_drop, List.length_take]; rfl)) ?_; (with_reducible refine (laws_markText.calls k1 x1_1 t268 _ A4.out).mono ?_); rintro e w8 ⟨rfl, hb⟩; refine ⟨_, rfl, ?_⟩; have n0_ := Aside0.mk (Kd.R_below (by (with_reducible repeat (first | apply Kd.R_alloc | apply Kd.R_drewN | apply Kd.R_drew)); exact HO_0.out) hb); have n1_ := Aside0.mk (Kept.below (S := (fun k_ => P0_ k_)) (by repeat (first | (with_reducible first | exact HK.out | apply Kept.alloc | apply Kept.drewN | apply Kept.drew) | exact HK.out)) hb); have n2_ := Aside0.mk (below_step (by repeat (first | (with_reducible first | exact HB.out | apply below_alloc | apply pw_below_drewN | apply below_drew1) | exact HB.out)) hb); clear HO_0; clear HK; clear HB; have HO_0 := n0_; have HK := n1_; have HB := n2_; clear n0_ n1_ n2_; (try clear hb); (try clear hb2); (try clear hk); (try clear hi); have p6 : 0 ≤ (x5_1 : Int) := of_decide_eq_true (by first | (with_reducible assumption) | assumption); have q6 : (x5_1 : Int) < ((x0_1.length : Int) : Int) := of_decide_eq_true (by first | (with_reducible assumption) | assumption); obtain ⟨go6, co6, eo6, gb6, gl6, cl6, HG6⟩ := Kd.R_form HO_0.out (by omega); (first | cases eo6 | (injection eo6 with ea_ en_ ec_; (first | subst ea_ | (injection ea_ with ea_; subst ea_)); subst ec_; clear en_)); have GB6 := Aside0.mk gb6; have GG6 := Aside0.mk HG6; clear gb6 gl6 HG6; have HMgo6 := Aside0.mk (show (P0_ go6 ∨ w.heap.size ≤ go6) from (HO_0.out.1 _ rfl)); obtain ⟨hx6_0, hf6_0⟩ := Kd.R_celln (⟨#[]⟩ : ByteArray) HO_0.out (x5_1 : Int) p6 q6; replace p6 := eq_true p6; replace q6 := eq_true q6; obtain ⟨hy9_, hz9_⟩ := Kd.R_celln (⟨#[]⟩ : ByteArray) HO_0.out (x5_1 : Int) (of_decide_eq_true (by first | (with_reducible assumption) | assumption)) (of_decide_eq_true (by first | (with_reducible assumption) | assumption)); have HP9 := Kd.R_putg HO_0.out (x5_1 : Int) t268) | ((with_reducible refine gate_store (t := 9) (p := 16) rfl ?_); refine store_event (t := 9) (p := 16) (v := ?vo_w10) (w1 := (w8.setCell ⟨go6, (x5_1 : Int).toNat, none⟩ (.string t268))) ?hg ?ho ?hn ?hr ?_; (case ho => rfl); (case hg => rfl); (case hn => rfl); (case hr => first | (go_simp; done) | (go_simp; rfl)); intro w10 hw; have hg : w8.grownBy w10 (some go6) := (by rw [hw]; exact HP9.2); have hp_ : Kd.R Kd.string 9 w10 w0.heap.size (fun k_ => (P0_ k_ ∨ w.heap.size ≤ k_)) (.slice (some ⟨go6, 0, none⟩) x0_1.length co7) y269 := (by rw [hw, Ny269.out]; exact HP9.1); clear HP9; have n0_ := Aside0.mk (hp_); have n1_ := Aside0.mk ((by rw [hw]; exact below_set (HB.out) GB6.out : Below w0.heap.size w0 w10)); have n2_ := Aside0.mk (Kept.of_grown (S := (fun k_ => P0_ k_)) hg (by repeat (first | (with_reducible first | exact HK.out | apply Kept.alloc | apply Kept.drewN | apply Kept.drew) | exact HK.out)) (fun k_ e_ => (HO_0.out.1 k_ e_))); clear HO_0; clear HB; clear HK; have HO_0 := n0_; have HB := n1_; have HK := n2_; clear n0_ n1_ n2_; clear hg hw hp_))
     go_roundg k1
     case measure => have := HK1.out; omega
     case rel => exact ⟨(y269), (wrap64 (x1_1 + 1)), (wrap64 (x5_1 + 1)), (by first | rfl | (simp; done) | (simp [*]; done)), (by first | rfl | (simp; done) | (simp [*]; done)), H', ⟨by have := HK1.out; omega⟩, ⟨by (with_reducible repeat (first | apply Kd.R_alloc | apply Kd.R_drewN | apply Kd.R_drew)); exact HO_0.out⟩, ⟨by repeat (first | (with_reducible first | exact HK.out | apply Kept.alloc | apply Kept.drewN | apply Kept.drew) | exact HK.out)⟩, ⟨by repeat (first | (with_reducible first | exact HB.out | apply below_alloc | apply pw_below_drewN | apply below_drew1) | exact HB.out)⟩⟩
    ·rw [if_neg c5] at H
     exact absurd H (by simp)
   ·rw [if_neg c3] at H
    have c3b0 : decide (x5_1 < (x0_1.length : Int)) = false := decide_eq_false c3
    clear c3
    simp only [Option.some.injEq, Prod.mk.injEq] at H
    obtain ⟨rfl, rfl⟩ := H
    obtain ⟨Ao11, co11, eo11⟩ := Kd.R_slice HO_0.out
    subst eo11
    go_wp2
    go_ret
    exact ⟨by first | rfl | (simp [errW_none, errW_some] <;> rfl) | (simp [*, errW_none, errW_some] <;> rfl), by (with_reducible repeat (first | apply Kd.R_alloc | apply Kd.R_drewN | apply Kd.R_drew)); exact HO_0.out, by repeat (first | (with_reducible first | exact HB.out | apply below_alloc | apply pw_below_drewN | apply below_drew1) | exact HB.out), by repeat (first | (with_reducible first | exact HK.out | apply Kept.alloc | apply Kept.drewN | apply Kept.drew) | exact HK.out)⟩

/-! ### laws_heldStringS: function 14 -/
def laws_heldStringS.l0 : Nat → List ByteArray → Int → Int → Option (Int)
 | 0, _, _, _ => none
 | k + 1, x0, x1, x5 => if x5 < (x0.length : Int) then (if 0 ≤ x5 then ((laws_markText.f k x1).bind fun t271 => (if (rdOf ByteArray.empty x0 x5).toList = t271.toList then (laws_heldStringS.l0 k x0 (wrap64 (x1 + 1)) (wrap64 (x5 + 1))) else (some (-1)))) else (none)) else (some x1)
def laws_heldStringS.f (k : Nat) (l0 : List ByteArray) (a1 : Int) : Option (Int) := laws_heldStringS.l0 k l0 a1 0
theorem laws_heldStringS.mono_l : ∀ k, (∀ y0 y1 y2, LeO (laws_heldStringS.l0 k y0 y1 y2) (laws_heldStringS.l0 (k + 1) y0 y1 y2))
 | 0 => fun _ _ _ r h => by simp [laws_heldStringS.l0] at h
 | k + 1 => by
  have ih0 := laws_heldStringS.mono_l k
  ·intro y0 y1 y2
   unfold laws_heldStringS.l0
   repeat' first
   | (with_reducible exact ih0 _ _ _)
   | (with_reducible exact laws_markText.mono _ _)
   | (with_reducible exact LeO.refl _)
   | (with_reducible exact LeO.none _)
   | (with_reducible refine LeO.ite ?_ ?_)
   | (with_reducible refine LeO.bind ?_ (fun _ => ?_))
   | exact ih0 _ _ _
   | exact laws_markText.mono _ _
   | exact LeO.none _
   | refine LeO.ite ?_ ?_
   | refine LeO.bind ?_ (fun _ => ?_)
theorem laws_heldStringS.mono : ∀ a0 a1 k, LeO (laws_heldStringS.f k a0 a1) (laws_heldStringS.f (k + 1) a0 a1) := by
 intro a0 a1 k
 have ih0 := laws_heldStringS.mono_l k
 unfold laws_heldStringS.f
 repeat' first
   | (with_reducible exact ih0 _ _ _)
   | (with_reducible exact laws_markText.mono _ _)
   | (with_reducible exact LeO.refl _)
   | (with_reducible exact LeO.none _)
   | (with_reducible refine LeO.ite ?_ ?_)
   | (with_reducible refine LeO.bind ?_ (fun _ => ?_))
   | exact ih0 _ _ _
   | exact laws_markText.mono _ _
   | exact LeO.none _
   | refine LeO.ite ?_ ?_
   | refine LeO.bind ?_ (fun _ => ?_)
set_option maxHeartbeats 8000000 in
set_option maxRecDepth 100000 in
theorem laws_heldStringS.calls (k : Nat) (A0 : Option Addr) (c0 : Nat) (l0 : List ByteArray) (a1 : Int) (r : Int) (w : World) (hr0 : Kd.C Kd.string w A0 l0.length l0) (hc0 : l0.length ≤ c0) (h : laws_heldStringS.f k l0 a1 = some r) :
  Calls Tryd.prog 14 #[.slice A0 l0.length c0, .int .i64 a1] w fun e w' => e = .returned (.int .i64 r) ∧ Below w.heap.size w w' := by
 have HR0 := Aside0.mk hr0
 have HC0 := Aside0.mk hc0
 clear hr0 hc0
 have HB := Aside0.mk (Below.refl w.heap.size w)
 have H : (laws_heldStringS.l0 k l0 a1 0) = some r := h
 clear h
 have H' := Aside0.mk H
 clear H
 go_enter Tryd.func14, Tryd.ntmps14
 go_wp2
 go_loopg [1, 5] k (fun kq v1 v5 w' => ∃ (x1_1 : Int) (x5_1 : Int), v1 = .int .i64 x1_1 ∧ v5 = .int .i64 x5_1 ∧ Aside0 (laws_heldStringS.l0 kq l0 x1_1 x5_1 = some r) ∧ Aside0 (kq ≤ k) ∧ Aside0 (Below w.heap.size w w'))
 case atStart => exact ⟨(a1), (0), (by first | rfl | (simp; done) | (simp [*]; done)), (by first | rfl | (simp; done) | (simp [*]; done)), H', ⟨Nat.le_refl _⟩, ⟨by repeat (first | (with_reducible first | exact HB.out | apply below_alloc | apply pw_below_drewN | apply below_drew1) | exact HB.out)⟩⟩
 case round =>
  clear H'
  try clear c1
  try clear p2
  obtain ⟨x1_1, x5_1, rfl, rfl, HA, HK1, HB⟩ := hrel
  cases gk with
  | zero => exact absurd HA.out (by simp [laws_heldStringS.l0])
  | succ k1 =>
   have H := HA.out
   clear HA
   simp only [laws_heldStringS.l0] at H
   by_cases c3 : x5_1 < (l0.length : Int)
   ·rw [if_pos c3] at H
    have c3b0 : decide (x5_1 < (l0.length : Int)) = true := decide_eq_true c3
    clear c3
    by_cases c4 : 0 ≤ x5_1
    ·rw [if_pos c4] at H
     have c4b0 : decide (0 ≤ x5_1) = true := decide_eq_true c4
     clear c4
     replace H := Option.bind_eq_some_iff.mp H
     obtain ⟨t271, A50, H⟩ := H
     replace H : (if (rdOf ByteArray.empty l0 x5_1).toList = t271.toList then (laws_heldStringS.l0 k1 l0 (wrap64 (x1_1 + 1)) (wrap64 (x5_1 + 1))) else (some (-1))) = some r := H
     have A5 := Aside0.mk A50
     clear A50
     by_cases c6 : (rdOf ByteArray.empty l0 x5_1).toList = t271.toList
     ·rw [if_pos c6] at H
      have c6b0 : ((rdOf ByteArray.empty l0 x5_1).toList == t271.toList) = true := beq_iff_eq.mpr c6
      have c6b1 : ((rdOf ByteArray.empty l0 x5_1).toList != t271.toList) = false := bne_eq_false_iff_eq.mpr c6
      clear c6
      have H' := Aside0.mk H
      clear H
      try go_wp2
      have n0_ := Aside0.mk (below_drew1 HB.out)
      clear HB
      have HB := n0_
      clear n0_
      have p270 : 0 ≤ (x5_1 : Int) := of_decide_eq_true (by first | (with_reducible assumption) | assumption)
      have q270 : x5_1 < (l0.length : Int) := of_decide_eq_true (by first | (with_reducible assumption) | assumption)
      obtain ⟨ad270, e270, hx270_0⟩ := Kd.at_string HR0.out x5_1 p270 q270
      have hw270_0 := hx270_0
      cases e270
      replace hx270_0 := (HB.out.cell (World.block_lt_of_cell? w _ hx270_0)).trans hx270_0
      replace p270 := eq_true p270
      replace q270 := eq_true q270
      refine start_ (n := 7) (S := fun w' => w'.cell? (ad270.add (x5_1).toNat) = some (.string (rdOf ByteArray.empty l0 x5_1))) (ds := []) #[false, false, false, false, false, false, false] (by kernel_rfl) rfl rfl (((HB.out.cell (World.block_lt_of_cell? w _ hw270_0)).trans hw270_0)) (fun hHeld => ?_)
      generalize wr.drew = w7 at HB hx270_0 hHeld ⊢
      refine pure_ (i := 0) (N := some 12) (v := ?_) (a' := ?_) #[true, false, false, false, false, false, false] rfl rfl (by kernel_rfl) (fun _ _ _ h => h) (Or.inl ⟨by rfl, ?_⟩) ?_ ?_
      rotate_left
      ·intro w'
       go_simp
       with_reducible rfl
      rotate_left
      ·simp only [Act.put, List.setIfInBounds_toArray, List.set_cons_zero, List.set_cons_succ, i64_w, i32_w]
       rfl
      refine pure_ (i := 1) (N := some 13) (v := ?_) (a' := ?_) #[true, true, false, false, false, false, false] rfl rfl (by kernel_rfl) (fun _ _ _ h => h) (Or.inl ⟨by rfl, ?_⟩) ?_ ?_
      rotate_left
      ·intro w'
       go_simp
       with_reducible rfl
      rotate_left
      ·simp only [Act.put, List.setIfInBounds_toArray, List.set_cons_zero, List.set_cons_succ, i64_w, i32_w]
       rfl
      refine pure_ (i := 2) (N := some 14) (v := ?_) (a' := ?_) #[true, true, true, false, false, false, false] rfl rfl (by kernel_rfl) (fun _ _ _ h => h) (Or.inl ⟨by rfl, ?_⟩) ?_ ?_
      rotate_left
      ·intro w'
       go_simp
       with_reducible rfl
      rotate_left
      ·simp only [Act.put, List.setIfInBounds_toArray, List.set_cons_zero, List.set_cons_succ, i64_w, i32_w]
       rfl
      refine pure_ (i := 4) (N := some 16) (v := ?_) (a' := ?_) #[true, true, true, false, true, false, false] rfl rfl (by kernel_rfl) (fun _ _ _ h => h) (Or.inl ⟨by rfl, ?_⟩) ?_ ?_
      rotate_left
      ·intro w'
       go_simp
       with_reducible rfl
      rotate_left
      ·simp only [Act.put, List.setIfInBounds_toArray, List.set_cons_zero, List.set_cons_succ, i64_w, i32_w]
       rfl
      refine take_ (i := 3) (N := some 15) (v := ?_) (a' := ?_) #[true, true, true, true, true, false, false] rfl rfl (by kernel_rfl) (fun _ _ _ h => h) (Or.inl ⟨by rfl, ?_⟩) hHeld ?_ ?_
      rotate_left
      ·intro w' s0
       go_simp
       with_reducible rfl
      rotate_left
      ·simp only [Act.put, List.setIfInBounds_toArray, List.set_cons_zero, List.set_cons_succ, i64_w, i32_w]
       rfl
      refine one_ (i := 5) (N := some 17) #[true, true, true, true, true, true, false] rfl rfl (by kernel_rfl) (by decide) (fun K hK => ?_)
      refine goes_ Tryd.func26 (by kernel_rfl) rfl #[.int .i64 x1_1] (by rfl) rfl rfl (by (try simp only [List.map_toArray, List.map_cons, List.map_nil]); first | done | rfl | (simp only [List.length_drop, List.length_take]; rfl)) ?_
      with_reducible refine (laws_markText.calls k1 x1_1 t271 _ A5.out).mono ?_
      rintro e w8 ⟨rfl, hb⟩
      refine ⟨_, rfl, ?_⟩
      have n0_ := Aside0.mk (below_step (by repeat (first | (with_reducible first | exact HB.out | apply below_alloc | apply pw_below_drewN | apply below_drew1) | exact HB.out)) hb)
      clear HB
      have HB := n0_
      clear n0_
      (try clear hb)
      (try clear hb2)
      (try clear hk)
      (try clear hi)
      refine hK.out _ _ (((HB.out.cell (World.block_lt_of_cell? w _ hw270_0)).trans hw270_0)) (fun hHeld => ?_)
      clear hK K
      refine norm_ (a' := ?_) ?_ ?_
      rotate_left
      ·show Act.put _ (some 17) _ = _
       simp only [Act.put, List.setIfInBounds_toArray, List.set_cons_zero, List.set_cons_succ, i64_w, i32_w]
       rfl
      refine pure_ (i := 6) (N := some 18) (v := ?_) (a' := ?_) #[true, true, true, true, true, true, true] rfl rfl (by kernel_rfl) (fun _ _ _ h => h) (Or.inl ⟨by rfl, ?_⟩) ?_ ?_
      rotate_left
      ·intro w'
       go_simp
       with_reducible rfl
      rotate_left
      ·simp only [Act.put, List.setIfInBounds_toArray, List.set_cons_zero, List.set_cons_succ, i64_w, i32_w]
       rfl
      refine done_ (by kernel_rfl) ?_
      try go_wp2
      go_roundg k1
      case measure => have := HK1.out; omega
      case rel => exact ⟨(wrap64 (x1_1 + 1)), (wrap64 (x5_1 + 1)), (by first | rfl | (simp; done) | (simp [*]; done)), (by first | rfl | (simp; done) | (simp [*]; done)), H', ⟨by have := HK1.out; omega⟩, ⟨by repeat (first | (with_reducible first | exact HB.out | apply below_alloc | apply pw_below_drewN | apply below_drew1) | exact HB.out)⟩⟩
     ·rw [if_neg c6] at H
      have c6b0 : ((rdOf ByteArray.empty l0 x5_1).toList == t271.toList) = false := beq_eq_false_iff_ne.mpr c6
      have c6b1 : ((rdOf ByteArray.empty l0 x5_1).toList != t271.toList) = true := bne_iff_ne.mpr c6
      obtain rfl := Option.some.inj H
      try go_wp2
      have n0_ := Aside0.mk (below_drew1 HB.out)
      clear HB
      have HB := n0_
      clear n0_
      have p270 : 0 ≤ (x5_1 : Int) := of_decide_eq_true (by first | (with_reducible assumption) | assumption)
      have q270 : x5_1 < (l0.length : Int) := of_decide_eq_true (by first | (with_reducible assumption) | assumption)
      obtain ⟨ad270, e270, hx270_0⟩ := Kd.at_string HR0.out x5_1 p270 q270
      have hw270_0 := hx270_0
      cases e270
      replace hx270_0 := (HB.out.cell (World.block_lt_of_cell? w _ hx270_0)).trans hx270_0
      replace p270 := eq_true p270
      replace q270 := eq_true q270
      refine start_ (n := 7) (S := fun w' => w'.cell? (ad270.add (x5_1).toNat) = some (.string (rdOf ByteArray.empty l0 x5_1))) (ds := []) #[false, false, false, false, false, false, false] (by kernel_rfl) rfl rfl (((HB.out.cell (World.block_lt_of_cell? w _ hw270_0)).trans hw270_0)) (fun hHeld => ?_)
      generalize wr.drew = w9 at HB hx270_0 hHeld ⊢
      refine pure_ (i := 0) (N := some 12) (v := ?_) (a' := ?_) #[true, false, false, false, false, false, false] rfl rfl (by kernel_rfl) (fun _ _ _ h => h) (Or.inl ⟨by rfl, ?_⟩) ?_ ?_
      rotate_left
      ·intro w'
       go_simp
       with_reducible rfl
      rotate_left
      ·simp only [Act.put, List.setIfInBounds_toArray, List.set_cons_zero, List.set_cons_succ, i64_w, i32_w]
       rfl
      refine pure_ (i := 1) (N := some 13) (v := ?_) (a' := ?_) #[true, true, false, false, false, false, false] rfl rfl (by kernel_rfl) (fun _ _ _ h => h) (Or.inl ⟨by rfl, ?_⟩) ?_ ?_
      rotate_left
      ·intro w'
       go_simp
       with_reducible rfl
      rotate_left
      ·simp only [Act.put, List.setIfInBounds_toArray, List.set_cons_zero, List.set_cons_succ, i64_w, i32_w]
       rfl
      refine pure_ (i := 2) (N := some 14) (v := ?_) (a' := ?_) #[true, true, true, false, false, false, false] rfl rfl (by kernel_rfl) (fun _ _ _ h => h) (Or.inl ⟨by rfl, ?_⟩) ?_ ?_
      rotate_left
      ·intro w'
       go_simp
       with_reducible rfl
      rotate_left
      ·simp only [Act.put, List.setIfInBounds_toArray, List.set_cons_zero, List.set_cons_succ, i64_w, i32_w]
       rfl
      refine pure_ (i := 4) (N := some 16) (v := ?_) (a' := ?_) #[true, true, true, false, true, false, false] rfl rfl (by kernel_rfl) (fun _ _ _ h => h) (Or.inl ⟨by rfl, ?_⟩) ?_ ?_
      rotate_left
      ·intro w'
       go_simp
       with_reducible rfl
      rotate_left
      ·simp only [Act.put, List.setIfInBounds_toArray, List.set_cons_zero, List.set_cons_succ, i64_w, i32_w]
       rfl
      refine take_ (i := 3) (N := some 15) (v := ?_) (a' := ?_) #[true, true, true, true, true, false, false] rfl rfl (by kernel_rfl) (fun _ _ _ h => h) (Or.inl ⟨by rfl, ?_⟩) hHeld ?_ ?_
      rotate_left
      ·intro w' s0
       go_simp
       with_reducible rfl
      rotate_left
      ·simp only [Act.put, List.setIfInBounds_toArray, List.set_cons_zero, List.set_cons_succ, i64_w, i32_w]
       rfl
      refine one_ (i := 5) (N := some 17) #[true, true, true, true, true, true, false] rfl rfl (by kernel_rfl) (by decide) (fun K hK => ?_)
      refine goes_ Tryd.func26 (by kernel_rfl) rfl #[.int .i64 x1_1] (by rfl) rfl rfl (by (try simp only [List.map_toArray, List.map_cons, List.map_nil]); first | done | rfl | (simp only [List.length_drop, List.length_take]; rfl)) ?_
      with_reducible refine (laws_markText.calls k1 x1_1 t271 _ A5.out).mono ?_
      rintro e w10 ⟨rfl, hb⟩
      refine ⟨_, rfl, ?_⟩
      have n0_ := Aside0.mk (below_step (by repeat (first | (with_reducible first | exact HB.out | apply below_alloc | apply pw_below_drewN | apply below_drew1) | exact HB.out)) hb)
      clear HB
      have HB := n0_
      clear n0_
      (try clear hb)
      (try clear hb2)
      (try clear hk)
      (try clear hi)
      refine hK.out _ _ (((HB.out.cell (World.block_lt_of_cell? w _ hw270_0)).trans hw270_0)) (fun hHeld => ?_)
      clear hK K
      refine norm_ (a' := ?_) ?_ ?_
      rotate_left
      ·show Act.put _ (some 17) _ = _
       simp only [Act.put, List.setIfInBounds_toArray, List.set_cons_zero, List.set_cons_succ, i64_w, i32_w]
       rfl
      refine pure_ (i := 6) (N := some 18) (v := ?_) (a' := ?_) #[true, true, true, true, true, true, true] rfl rfl (by kernel_rfl) (fun _ _ _ h => h) (Or.inl ⟨by rfl, ?_⟩) ?_ ?_
      rotate_left
      ·intro w'
       go_simp
       with_reducible rfl
      rotate_left
      ·simp only [Act.put, List.setIfInBounds_toArray, List.set_cons_zero, List.set_cons_succ, i64_w, i32_w]
       rfl
      refine done_ (by kernel_rfl) ?_
      try go_wp2
      go_ret
      exact ⟨by first | rfl | (simp [errW_none, errW_some] <;> rfl) | (simp [*, errW_none, errW_some] <;> rfl), by repeat (first | (with_reducible first | exact HB.out | apply below_alloc | apply pw_below_drewN | apply below_drew1) | exact HB.out)⟩
    ·rw [if_neg c4] at H
     exact absurd H (by simp)
   ·rw [if_neg c3] at H
    have c3b0 : decide (x5_1 < (l0.length : Int)) = false := decide_eq_false c3
    clear c3
    obtain rfl := Option.some.inj H
    go_wp2
    go_ret
    exact ⟨by first | rfl | (simp [errW_none, errW_some] <;> rfl) | (simp [*, errW_none, errW_some] <;> rfl), by repeat (first | (with_reducible first | exact HB.out | apply below_alloc | apply pw_below_drewN | apply below_drew1) | exact HB.out)⟩


/-! ### laws_FnExactTrace: function 3 -/
def laws_FnExactTrace.P (k : Nat) (l0 : List (S48)) : Prop :=
 (∃ t, laws_szEvS.f k l0 1048576 = some t ∧ t < 0) ∨
 (∃ (t : Int) (x : List S52) (q : List ByteArray) (m1 : Int) (xm : List S52) (m2 : Int) (ym : List ByteArray), laws_szEvS.f k l0 1048576 = some t ∧ 0 ≤ t ∧ laws_toEvS.f k l0 = some x ∧ spec_Trace.f k x = some q ∧ impl_Trace.f k x = some q ∧ laws_eqStringS.f k q q = some true ∧ laws_eqEvS.f k x x = some true ∧ laws_markEvS.f k x 1 = some (m1, xm) ∧ 0 ≤ m1 ∧ laws_markStringS.f k q 1 = some (m2, ym) ∧ laws_heldStringS.f k ym 1 = some m2 ∧ 0 ≤ m2)
open Classical in
noncomputable def laws_FnExactTrace.f (k : Nat) (l0 : List (S48)) : Option Bool := if laws_FnExactTrace.P k l0 then some true else none
theorem laws_heldStringS.callsN (k : Nat) (A0 : Option Addr) (c0 n : Nat) (l0 : List ByteArray) (a1 r : Int) (w : World) (hn : n = l0.length) (hr0 : Kd.C Kd.string w A0 l0.length l0) (hc0 : n ≤ c0) (h : laws_heldStringS.f k l0 a1 = some r) :
  Calls Tryd.prog 14 #[.slice A0 n c0, .int .i64 a1] w fun e w' => e = .returned (.int .i64 r) ∧ Below w.heap.size w w' := by
 subst hn
 exact laws_heldStringS.calls k A0 c0 l0 a1 r w hr0 hc0 h
set_option maxHeartbeats 16000000 in
set_option maxRecDepth 100000 in
theorem laws_FnExactTrace.calls (k : Nat) (A0 : Option Addr) (c0 : Nat) (l0 : List (S48)) (r : Bool) (w : World) (hr0 : Kd.C k48 w A0 l0.length l0) (hc0 : l0.length ≤ c0) (h : laws_FnExactTrace.f k l0 = some r) (hT : Lib.TabIs Tryd.prog w "internal/strconv.uint64pow10" .u64 Lib.pow10Tab) :
  Calls Tryd.prog 3 #[.slice A0 l0.length c0] w fun e w' => e = .returned (.bool r) ∧ Below w.heap.size w w' := by
 have HT := Aside0.mk (show ∀ w_ : World, Below w.heap.size w w_ → Lib.TabIs Tryd.prog w_ "internal/strconv.uint64pow10" .u64 Lib.pow10Tab from Lib.tabBelow_of_tabIs hT)
 clear hT
 have HR0 := Aside0.mk hr0
 have HC0 := Aside0.mk hc0
 clear hr0 hc0
 have HB := Aside0.mk (Below.refl w.heap.size w)
 have TOK0 := Aside0.mk True.intro
 unfold laws_FnExactTrace.f at h
 by_cases hP : laws_FnExactTrace.P k l0
 ·rw [if_pos hP] at h
  obtain rfl := Option.some.inj h
  clear h
  rcases hP with ⟨t, hsz0, ht⟩ | ⟨t, x, q, m1, xm, m2, ym, hsz0, ht, hto0, hsp0, him0, heq0, hes0, hms0, hm1, hmr0, hhe0, hm2⟩
  ·have hsz := Aside0.mk hsz0
   clear hsz0
   have htb : decide (t < 0) = true := decide_eq_true ht
   go_enter Tryd.func3, Tryd.ntmps3
   go_wp2_with (first | (have tok_ := TOK0; go_at_call 6; (with_reducible refine (laws_szEvS.calls k _ _ l0 1048576 t _ ?s1_0 ?s1_1 hsz.out).mono ?_); (case s1_0 => exact (Kd.C_below HR0.out (by repeat (first | (with_reducible first | exact HB.out | apply below_alloc | apply pw_below_drewN | apply below_drew1) | exact HB.out)))); (case s1_1 => exact HC0.out); rintro e w1 ⟨rfl, hb⟩; have hz_ := hb.size; have nS_ := Aside0.mk (show w.heap.size ≤ w1.heap.size from Nat.le_trans (by first | exact Nat.le_refl _ | (simp; done) | (simp; omega)) hz_); have nB_ := Aside0.mk (show Below w.heap.size w w1 from below_step (by repeat (first | (with_reducible first | exact HB.out | apply below_alloc | apply pw_below_drewN | apply below_drew1) | exact HB.out)) hb); clear hb hz_ TOK0 tok_ HB; have HS1 := nS_; have HB := nB_; clear nS_ nB_; have TOK1 := Aside0.mk True.intro))
   go_ret
   exact ⟨by first | rfl | (simp; done), by repeat (first | exact HB.out | apply below_alloc | apply pw_below_drewN | apply below_drew1)⟩
  ·have hsz := Aside0.mk hsz0; have hto := Aside0.mk hto0; have hsp := Aside0.mk hsp0; have him := Aside0.mk him0; have heq := Aside0.mk heq0; have hes := Aside0.mk hes0; have hms := Aside0.mk hms0; have hmr := Aside0.mk hmr0; have hhe := Aside0.mk hhe0
   clear hsz0 hto0 hsp0 him0 heq0 hes0 hms0 hmr0 hhe0
   have tb : decide (t < 0) = false := decide_eq_false (by omega)
   have m1b : decide (m1 < 0) = false := decide_eq_false (by omega)
   have m2b : decide (m2 < 0) = false := decide_eq_false (by omega)
   have hm2c : (m2 == m2) = true := beq_self_eq_true m2
   have hm2d : (m2 != m2) = false := bne_self_eq_false m2
   clear ht hm1 hm2
   go_enter Tryd.func3, Tryd.ntmps3
   go_wp2_with (first | (have tok_ := TOK0; go_at_call 6; (with_reducible refine (laws_szEvS.calls k _ _ l0 1048576 t _ ?s1_0 ?s1_1 hsz.out).mono ?_); (case s1_0 => exact (Kd.C_below HR0.out (by repeat (first | (with_reducible first | exact HB.out | apply below_alloc | apply pw_below_drewN | apply below_drew1) | exact HB.out)))); (case s1_1 => exact HC0.out); rintro e w1 ⟨rfl, hb⟩; have hz_ := hb.size; have nS_ := Aside0.mk (show w.heap.size ≤ w1.heap.size from Nat.le_trans (by first | exact Nat.le_refl _ | (simp; done) | (simp; omega)) hz_); have nB_ := Aside0.mk (show Below w.heap.size w w1 from below_step (by repeat (first | (with_reducible first | exact HB.out | apply below_alloc | apply pw_below_drewN | apply below_drew1) | exact HB.out)) hb); clear hb hz_ TOK0 tok_ HB; have HS1 := nS_; have HB := nB_; clear nS_ nB_; have TOK1 := Aside0.mk True.intro) | (have tok_ := TOK1; go_at_call 8; (with_reducible refine (laws_toEvS.calls k _ _ l0 x _ ?s2_0 ?s2_1 hto.out).mono ?_); (case s2_0 => exact (Kd.C_below HR0.out (by repeat (first | (with_reducible first | exact HB.out | apply below_alloc | apply pw_below_drewN | apply below_drew1) | exact HB.out)))); (case s2_1 => exact HC0.out); rintro e w2 ⟨v, rfl, ho, hb⟩; have hz_ := hb.size; have nS_ := Aside0.mk (show w1.heap.size ≤ w2.heap.size from Nat.le_trans (by first | exact Nat.le_refl _ | (simp; done) | (simp; omega)) hz_); have nB_ := Aside0.mk (show Below w.heap.size w w2 from below_step (by repeat (first | (with_reducible first | exact HB.out | apply below_alloc | apply pw_below_drewN | apply below_drew1) | exact HB.out)) hb); obtain ⟨As, cs, rfl⟩ := Kd.S_slice ho; have nO_ := Aside0.mk (show Kd.S k52 52 w2 w.heap.size (fun b_ => w1.heap.size ≤ b_ ∧ b_ < w2.heap.size) (.slice As (x).length cs) x from Kd.S_lower (Kd.S_mono (Kd.S_bound ho) (fun b_ hb_ => ⟨Nat.le_trans (by first | exact Nat.le_refl _ | (simp; done) | (simp; omega)) hb_.2.1, hb_.2.2.1⟩)) (below_size (by repeat (first | (with_reducible first | exact HB.out | apply below_alloc | apply pw_below_drewN | apply below_drew1) | exact HB.out)))); clear hb hz_ ho TOK1 tok_ HB; have HS2 := nS_; have HB := nB_; have HOs := nO_; clear nS_ nB_ nO_; have TOK2 := Aside0.mk True.intro) | (have tok_ := TOK2; go_at_call 7; (with_reducible refine (spec_Trace.calls k _ _ x q _ ?s3_0 ?s3_1 hsp.out).mono ?_); (case s3_0 => refine (Kd.S_reads' (e := 52) (base := w.heap.size) (ok := fun b_ => w1.heap.size ≤ b_ ∧ b_ < w2.heap.size) (n := (x).length) (c := cs) ?_).2.2; exact (by (with_reducible repeat (first | apply Kd.S_alloc | apply Kd.S_drewN | apply Kd.S_drew)); exact HOs.out)); (case s3_1 => exact ((Kd.S_reads' HOs.out).2.1)); rintro e w3 ⟨v, rfl, ho, hb⟩; have hz_ := hb.size; have nS_ := Aside0.mk (show w2.heap.size ≤ w3.heap.size from Nat.le_trans (by first | exact Nat.le_refl _ | (simp; done) | (simp; omega)) hz_); have n0_ := Aside0.mk (Kd.S_below (by (with_reducible repeat (first | apply Kd.S_alloc | apply Kd.S_drewN | apply Kd.S_drew)); exact HOs.out) hb); have nB_ := Aside0.mk (show Below w.heap.size w w3 from below_step (by repeat (first | (with_reducible first | exact HB.out | apply below_alloc | apply pw_below_drewN | apply below_drew1) | exact HB.out)) hb); obtain ⟨Aw, cw, rfl⟩ := Kd.R_slice ho; have nO_ := Aside0.mk (show Kd.R Kd.string 9 w3 w.heap.size (fun b_ => w2.heap.size ≤ b_ ∧ b_ < w3.heap.size) (.slice Aw (q).length cw) q from Kd.R_lower (Kd.R_mono (Kd.R_bound ho) (fun b_ hb_ => ⟨Nat.le_trans (by first | exact Nat.le_refl _ | (simp; done) | (simp; omega)) hb_.2.1, hb_.2.2.1⟩)) (below_size (by repeat (first | (with_reducible first | exact HB.out | apply below_alloc | apply pw_below_drewN | apply below_drew1) | exact HB.out)))); clear hb hz_ ho TOK2 tok_ HOs HB; have HS3 := nS_; have HOs := n0_; have HB := nB_; have HOw := nO_; clear nS_ n0_ nB_ nO_; have TOK3 := Aside0.mk True.intro) | (have tok_ := TOK3; go_at_call 8; (with_reducible refine (laws_toEvS.calls k _ _ l0 x _ ?s4_0 ?s4_1 hto.out).mono ?_); (case s4_0 => exact (Kd.C_below HR0.out (by repeat (first | (with_reducible first | exact HB.out | apply below_alloc | apply pw_below_drewN | apply below_drew1) | exact HB.out)))); (case s4_1 => exact HC0.out); rintro e w4 ⟨v, rfl, ho, hb⟩; have hz_ := hb.size; have nS_ := Aside0.mk (show w3.heap.size ≤ w4.heap.size from Nat.le_trans (by first | exact Nat.le_refl _ | (simp; done) | (simp; omega)) hz_); have n0_ := Aside0.mk (Kd.R_below (by (with_reducible repeat (first | apply Kd.R_alloc | apply Kd.R_drewN | apply Kd.R_drew)); exact HOw.out) hb); have nB_ := Aside0.mk (show Below w.heap.size w w4 from below_step (by repeat (first | (with_reducible first | exact HB.out | apply below_alloc | apply pw_below_drewN | apply below_drew1) | exact HB.out)) hb); obtain ⟨Ax, cx, rfl⟩ := Kd.S_slice ho; have nO_ := Aside0.mk (show Kd.S k52 52 w4 w.heap.size (fun b_ => w3.heap.size ≤ b_ ∧ b_ < w4.heap.size) (.slice Ax (x).length cx) x from Kd.S_lower (Kd.S_mono (Kd.S_bound ho) (fun b_ hb_ => ⟨Nat.le_trans (by first | exact Nat.le_refl _ | (simp; done) | (simp; omega)) hb_.2.1, hb_.2.2.1⟩)) (below_size (by repeat (first | (with_reducible first | exact HB.out | apply below_alloc | apply pw_below_drewN | apply below_drew1) | exact HB.out)))); clear hb hz_ ho TOK3 tok_ HOw HB; have HS4 := nS_; have HOw := n0_; have HB := nB_; have HOx := nO_; clear nS_ n0_ nB_ nO_; have TOK4 := Aside0.mk True.intro) | (have tok_ := TOK4; go_at_call 9; (with_reducible refine (impl_Trace.calls k _ _ x q _ ?s5_0 ?s5_1 him.out (HT.out _ (by repeat (first | (with_reducible first | exact HB.out | apply below_alloc | apply pw_below_drewN | apply below_drew1) | exact HB.out)))).mono ?_); (case s5_0 => refine (Kd.S_reads' (e := 52) (base := w.heap.size) (ok := fun b_ => w3.heap.size ≤ b_ ∧ b_ < w4.heap.size) (n := (x).length) (c := cx) ?_).2.2; exact (by (with_reducible repeat (first | apply Kd.S_alloc | apply Kd.S_drewN | apply Kd.S_drew)); exact HOx.out)); (case s5_1 => exact ((Kd.S_reads' HOx.out).2.1)); rintro e w5 ⟨v, rfl, ho, hb⟩; have hz_ := hb.size; have nS_ := Aside0.mk (show w4.heap.size ≤ w5.heap.size from Nat.le_trans (by first | exact Nat.le_refl _ | (simp; done) | (simp; omega)) hz_); have n0_ := Aside0.mk (Kd.R_below (by (with_reducible repeat (first | apply Kd.R_alloc | apply Kd.R_drewN | apply Kd.R_drew)); exact HOw.out) hb); have n1_ := Aside0.mk (Kd.S_below (by (with_reducible repeat (first | apply Kd.S_alloc | apply Kd.S_drewN | apply Kd.S_drew)); exact HOx.out) hb); have nB_ := Aside0.mk (show Below w.heap.size w w5 from below_step (by repeat (first | (with_reducible first | exact HB.out | apply below_alloc | apply pw_below_drewN | apply below_drew1) | exact HB.out)) hb); obtain ⟨Ag, cg, rfl⟩ := Kd.R_slice ho; have nO_ := Aside0.mk (show Kd.R Kd.string 9 w5 w.heap.size (fun b_ => w4.heap.size ≤ b_ ∧ b_ < w5.heap.size) (.slice Ag (q).length cg) q from Kd.R_lower (Kd.R_mono (Kd.R_bound ho) (fun b_ hb_ => ⟨Nat.le_trans (by first | exact Nat.le_refl _ | (simp; done) | (simp; omega)) hb_.2.1, hb_.2.2.1⟩)) (below_size (by repeat (first | (with_reducible first | exact HB.out | apply below_alloc | apply pw_below_drewN | apply below_drew1) | exact HB.out)))); clear hb hz_ ho TOK4 tok_ HOw HOx HB; have HS5 := nS_; have HOw := n0_; have HOx := n1_; have HB := nB_; have HOg := nO_; clear nS_ n0_ n1_ nB_ nO_; have TOK5 := Aside0.mk True.intro) | (have tok_ := TOK5; go_at_call 10; (with_reducible refine (laws_eqStringS.calls k _ _ q _ _ q true _ ?s6_0 ?s6_1 ?s6_2 ?s6_3 heq.out).mono ?_); (case s6_0 => refine (Kd.R_reads' (e := 9) (base := w.heap.size) (ok := fun b_ => w4.heap.size ≤ b_ ∧ b_ < w5.heap.size) (n := (q).length) (c := cg) ?_).2.2; exact (by (with_reducible repeat (first | apply Kd.R_alloc | apply Kd.R_drewN | apply Kd.R_drew)); exact HOg.out)); (case s6_1 => exact ((Kd.R_reads' HOg.out).2.1)); (case s6_2 => refine (Kd.R_reads' (e := 9) (base := w.heap.size) (ok := fun b_ => w2.heap.size ≤ b_ ∧ b_ < w3.heap.size) (n := (q).length) (c := cw) ?_).2.2; exact (by (with_reducible repeat (first | apply Kd.R_alloc | apply Kd.R_drewN | apply Kd.R_drew)); exact HOw.out)); (case s6_3 => exact ((Kd.R_reads' HOw.out).2.1)); rintro e w6 ⟨rfl, hd_⟩; have hb := Drawn0.below hd_; clear hd_; have hz_ := hb.size; have nS_ := Aside0.mk (show w5.heap.size ≤ w6.heap.size from Nat.le_trans (by first | exact Nat.le_refl _ | (simp; done) | (simp; omega)) hz_); have n0_ := Aside0.mk (Kd.R_below (by (with_reducible repeat (first | apply Kd.R_alloc | apply Kd.R_drewN | apply Kd.R_drew)); exact HOw.out) hb); have n1_ := Aside0.mk (Kd.S_below (by (with_reducible repeat (first | apply Kd.S_alloc | apply Kd.S_drewN | apply Kd.S_drew)); exact HOx.out) hb); have n2_ := Aside0.mk (Kd.R_below (by (with_reducible repeat (first | apply Kd.R_alloc | apply Kd.R_drewN | apply Kd.R_drew)); exact HOg.out) hb); have nB_ := Aside0.mk (show Below w.heap.size w w6 from below_step (by repeat (first | (with_reducible first | exact HB.out | apply below_alloc | apply pw_below_drewN | apply below_drew1) | exact HB.out)) hb); clear hb hz_ TOK5 tok_ HOw HOx HOg HB; have HS6 := nS_; have HOw := n0_; have HOx := n1_; have HOg := n2_; have HB := nB_; clear nS_ n0_ n1_ n2_ nB_; have TOK6 := Aside0.mk True.intro) | (have tok_ := TOK6; go_at_call 8; (with_reducible refine (laws_toEvS.calls k _ _ l0 x _ ?s7_0 ?s7_1 hto.out).mono ?_); (case s7_0 => exact (Kd.C_below HR0.out (by repeat (first | (with_reducible first | exact HB.out | apply below_alloc | apply pw_below_drewN | apply below_drew1) | exact HB.out)))); (case s7_1 => exact HC0.out); rintro e w7 ⟨v, rfl, ho, hb⟩; have hz_ := hb.size; have nS_ := Aside0.mk (show w6.heap.size ≤ w7.heap.size from Nat.le_trans (by first | exact Nat.le_refl _ | (simp; done) | (simp; omega)) hz_); have n0_ := Aside0.mk (Kd.R_below (by (with_reducible repeat (first | apply Kd.R_alloc | apply Kd.R_drewN | apply Kd.R_drew)); exact HOw.out) hb); have n1_ := Aside0.mk (Kd.S_below (by (with_reducible repeat (first | apply Kd.S_alloc | apply Kd.S_drewN | apply Kd.S_drew)); exact HOx.out) hb); have n2_ := Aside0.mk (Kd.R_below (by (with_reducible repeat (first | apply Kd.R_alloc | apply Kd.R_drewN | apply Kd.R_drew)); exact HOg.out) hb); have nB_ := Aside0.mk (show Below w.heap.size w w7 from below_step (by repeat (first | (with_reducible first | exact HB.out | apply below_alloc | apply pw_below_drewN | apply below_drew1) | exact HB.out)) hb); obtain ⟨Ay, cy, rfl⟩ := Kd.S_slice ho; have nO_ := Aside0.mk (show Kd.S k52 52 w7 w.heap.size (fun b_ => w6.heap.size ≤ b_ ∧ b_ < w7.heap.size) (.slice Ay (x).length cy) x from Kd.S_lower (Kd.S_mono (Kd.S_bound ho) (fun b_ hb_ => ⟨Nat.le_trans (by first | exact Nat.le_refl _ | (simp; done) | (simp; omega)) hb_.2.1, hb_.2.2.1⟩)) (below_size (by repeat (first | (with_reducible first | exact HB.out | apply below_alloc | apply pw_below_drewN | apply below_drew1) | exact HB.out)))); clear hb hz_ ho TOK6 tok_ HOw HOx HOg HB; have HS7 := nS_; have HOw := n0_; have HOx := n1_; have HOg := n2_; have HB := nB_; have HOy := nO_; clear nS_ n0_ n1_ n2_ nB_ nO_; have TOK7 := Aside0.mk True.intro) | (have tok_ := TOK7; go_at_call 11; (with_reducible refine (laws_eqEvS.calls k _ _ x _ _ x true _ ?s8_0 ?s8_1 ?s8_2 ?s8_3 hes.out rfl).mono ?_); (case s8_0 => refine (Kd.S_reads' (e := 52) (base := w.heap.size) (ok := fun b_ => w3.heap.size ≤ b_ ∧ b_ < w4.heap.size) (n := (x).length) (c := cx) ?_).2.2; exact (by (with_reducible repeat (first | apply Kd.S_alloc | apply Kd.S_drewN | apply Kd.S_drew)); exact HOx.out)); (case s8_1 => exact ((Kd.S_reads' HOx.out).2.1)); (case s8_2 => refine (Kd.S_reads' (e := 52) (base := w.heap.size) (ok := fun b_ => w6.heap.size ≤ b_ ∧ b_ < w7.heap.size) (n := (x).length) (c := cy) ?_).2.2; exact (by (with_reducible repeat (first | apply Kd.S_alloc | apply Kd.S_drewN | apply Kd.S_drew)); exact HOy.out)); (case s8_3 => exact ((Kd.S_reads' HOy.out).2.1)); rintro e w8 ⟨rfl, hb⟩; have hz_ := hb.size; have nS_ := Aside0.mk (show w7.heap.size ≤ w8.heap.size from Nat.le_trans (by first | exact Nat.le_refl _ | (simp; done) | (simp; omega)) hz_); have n0_ := Aside0.mk (Kd.R_below (by (with_reducible repeat (first | apply Kd.R_alloc | apply Kd.R_drewN | apply Kd.R_drew)); exact HOw.out) hb); have n1_ := Aside0.mk (Kd.S_below (by (with_reducible repeat (first | apply Kd.S_alloc | apply Kd.S_drewN | apply Kd.S_drew)); exact HOx.out) hb); have n2_ := Aside0.mk (Kd.R_below (by (with_reducible repeat (first | apply Kd.R_alloc | apply Kd.R_drewN | apply Kd.R_drew)); exact HOg.out) hb); have n3_ := Aside0.mk (Kd.S_below (by (with_reducible repeat (first | apply Kd.S_alloc | apply Kd.S_drewN | apply Kd.S_drew)); exact HOy.out) hb); have nB_ := Aside0.mk (show Below w.heap.size w w8 from below_step (by repeat (first | (with_reducible first | exact HB.out | apply below_alloc | apply pw_below_drewN | apply below_drew1) | exact HB.out)) hb); clear hb hz_ TOK7 tok_ HOw HOx HOg HOy HB; have HS8 := nS_; have HOw := n0_; have HOx := n1_; have HOg := n2_; have HOy := n3_; have HB := nB_; clear nS_ n0_ n1_ n2_ n3_ nB_; have TOK8 := Aside0.mk True.intro) | (have tok_ := TOK8; go_at_call 12; (with_reducible refine (laws_markEvS.calls k (fun b_ => w3.heap.size ≤ b_ ∧ b_ < w4.heap.size) _ x 1 m1 xm w _ ?s9_1 ?s9_0 hms.out).mono ?_); (case s9_0 => exact (by (with_reducible repeat (first | apply Kd.S_alloc | apply Kd.S_drewN | apply Kd.S_drew)); exact HOx.out)); (case s9_1 => exact (by repeat (first | (with_reducible first | exact HB.out | apply below_alloc | apply pw_below_drewN | apply below_drew1) | exact HB.out))); rintro e w9 ⟨rfl, hr, hb, hk⟩; have hz_ := hk.1; have nS_ := Aside0.mk (show w8.heap.size ≤ w9.heap.size from Nat.le_trans (by first | exact Nat.le_refl _ | (simp; done) | (simp; omega)) hz_); have n0_ := Aside0.mk (Kd.R_kept (by (with_reducible repeat (first | apply Kd.R_alloc | apply Kd.R_drewN | apply Kd.R_drew)); exact HOw.out) hk (fun b_ h1_ h2_ => by have h3_ : w2.heap.size ≤ b_ ∧ b_ < w3.heap.size := h1_; have h4_ : w3.heap.size ≤ b_ ∧ b_ < w4.heap.size := h2_; have a1 := HS1.out; have a2 := HS2.out; have a3 := HS3.out; have a4 := HS4.out; have a5 := HS5.out; have a6 := HS6.out; have a7 := HS7.out; have a8 := HS8.out; omega)); have n1_ := Aside0.mk (Kd.R_kept (by (with_reducible repeat (first | apply Kd.R_alloc | apply Kd.R_drewN | apply Kd.R_drew)); exact HOg.out) hk (fun b_ h1_ h2_ => by have h3_ : w4.heap.size ≤ b_ ∧ b_ < w5.heap.size := h1_; have h4_ : w3.heap.size ≤ b_ ∧ b_ < w4.heap.size := h2_; have a1 := HS1.out; have a2 := HS2.out; have a3 := HS3.out; have a4 := HS4.out; have a5 := HS5.out; have a6 := HS6.out; have a7 := HS7.out; have a8 := HS8.out; omega)); have nB_ := Aside0.mk (hb); have nM_ := Aside0.mk (Kd.S_mono hr (ok' := fun _ => True) (fun _ _ => trivial)); clear hb hz_ hk hr TOK8 tok_ HOw HOx HOg HB; have HS9 := nS_; have HOw := n0_; have HOg := n1_; have HB := nB_; have HOx := nM_; clear nS_ n0_ n1_ nB_ nM_; have TOK9 := Aside0.mk True.intro) | (have tok_ := TOK9; go_at_call 10; (with_reducible refine (laws_eqStringS.calls k _ _ q _ _ q true _ ?s10_0 ?s10_1 ?s10_2 ?s10_3 heq.out).mono ?_); (case s10_0 => refine (Kd.R_reads' (e := 9) (base := w.heap.size) (ok := fun b_ => w4.heap.size ≤ b_ ∧ b_ < w5.heap.size) (n := (q).length) (c := cg) ?_).2.2; exact (by (with_reducible repeat (first | apply Kd.R_alloc | apply Kd.R_drewN | apply Kd.R_drew)); exact HOg.out)); (case s10_1 => exact ((Kd.R_reads' HOg.out).2.1)); (case s10_2 => refine (Kd.R_reads' (e := 9) (base := w.heap.size) (ok := fun b_ => w2.heap.size ≤ b_ ∧ b_ < w3.heap.size) (n := (q).length) (c := cw) ?_).2.2; exact (by (with_reducible repeat (first | apply Kd.R_alloc | apply Kd.R_drewN | apply Kd.R_drew)); exact HOw.out)); (case s10_3 => exact ((Kd.R_reads' HOw.out).2.1)); rintro e w10 ⟨rfl, hd_⟩; have hb := Drawn0.below hd_; clear hd_; have hz_ := hb.size; have nS_ := Aside0.mk (show w9.heap.size ≤ w10.heap.size from Nat.le_trans (by first | exact Nat.le_refl _ | (simp; done) | (simp; omega)) hz_); have n0_ := Aside0.mk (Kd.R_below (by (with_reducible repeat (first | apply Kd.R_alloc | apply Kd.R_drewN | apply Kd.R_drew)); exact HOw.out) hb); have n1_ := Aside0.mk (Kd.R_below (by (with_reducible repeat (first | apply Kd.R_alloc | apply Kd.R_drewN | apply Kd.R_drew)); exact HOg.out) hb); have nB_ := Aside0.mk (show Below w.heap.size w w10 from below_step (by repeat (first | (with_reducible first | exact HB.out | apply below_alloc | apply pw_below_drewN | apply below_drew1) | exact HB.out)) hb); clear hb hz_ TOK9 tok_ HOw HOg HB; have HS10 := nS_; have HOw := n0_; have HOg := n1_; have HB := nB_; clear nS_ n0_ n1_ nB_; have TOK10 := Aside0.mk True.intro) | (have tok_ := TOK10; go_at_call 13; (with_reducible refine (laws_markStringS.calls k (fun b_ => w4.heap.size ≤ b_ ∧ b_ < w5.heap.size) _ q 1 m2 ym w _ ?s11_1 ?s11_0 hmr.out).mono ?_); (case s11_0 => exact (by (with_reducible repeat (first | apply Kd.R_alloc | apply Kd.R_drewN | apply Kd.R_drew)); exact HOg.out)); (case s11_1 => exact (by repeat (first | (with_reducible first | exact HB.out | apply below_alloc | apply pw_below_drewN | apply below_drew1) | exact HB.out))); rintro e w11 ⟨rfl, hr, hb, hk⟩; have hz_ := hk.1; have nS_ := Aside0.mk (show w10.heap.size ≤ w11.heap.size from Nat.le_trans (by first | exact Nat.le_refl _ | (simp; done) | (simp; omega)) hz_); have n0_ := Aside0.mk (Kd.R_kept (by (with_reducible repeat (first | apply Kd.R_alloc | apply Kd.R_drewN | apply Kd.R_drew)); exact HOw.out) hk (fun b_ h1_ h2_ => by have h3_ : w2.heap.size ≤ b_ ∧ b_ < w3.heap.size := h1_; have h4_ : w4.heap.size ≤ b_ ∧ b_ < w5.heap.size := h2_; have a1 := HS1.out; have a2 := HS2.out; have a3 := HS3.out; have a4 := HS4.out; have a5 := HS5.out; have a6 := HS6.out; have a7 := HS7.out; have a8 := HS8.out; have a9 := HS9.out; have a10 := HS10.out; omega)); have nB_ := Aside0.mk (hb); have nM_ := Aside0.mk (Kd.R_mono hr (ok' := fun _ => True) (fun _ _ => trivial)); clear hb hz_ hk hr TOK10 tok_ HOw HOg HB; have HS11 := nS_; have HOw := n0_; have HB := nB_; have HOg := nM_; clear nS_ n0_ nB_ nM_; have TOK11 := Aside0.mk True.intro) | (have tok_ := TOK11; go_at_call 14; (with_reducible refine (laws_heldStringS.callsN k _ _ _ ym 1 m2 _ ?s12_0 ?s12_1 ?s12_2 hhe.out).mono ?_); (case s12_0 => exact (Kd.R_reads' HOg.out).1); (case s12_1 => refine (Kd.R_reads' (e := 9) (base := w.heap.size) (ok := fun _ => True) (n := (q).length) (c := cg) ?_).2.2; exact (by (with_reducible repeat (first | apply Kd.R_alloc | apply Kd.R_drewN | apply Kd.R_drew)); exact HOg.out)); (case s12_2 => exact ((Kd.R_reads' HOg.out).2.1)); rintro e w12 ⟨rfl, hb⟩; have hz_ := hb.size; have nS_ := Aside0.mk (show w11.heap.size ≤ w12.heap.size from Nat.le_trans (by first | exact Nat.le_refl _ | (simp; done) | (simp; omega)) hz_); have n0_ := Aside0.mk (Kd.R_below (by (with_reducible repeat (first | apply Kd.R_alloc | apply Kd.R_drewN | apply Kd.R_drew)); exact HOw.out) hb); have n1_ := Aside0.mk (Kd.R_below (by (with_reducible repeat (first | apply Kd.R_alloc | apply Kd.R_drewN | apply Kd.R_drew)); exact HOg.out) hb); have nB_ := Aside0.mk (show Below w.heap.size w w12 from below_step (by repeat (first | (with_reducible first | exact HB.out | apply below_alloc | apply pw_below_drewN | apply below_drew1) | exact HB.out)) hb); clear hb hz_ TOK11 tok_ HOw HOg HB; have HS12 := nS_; have HOw := n0_; have HOg := n1_; have HB := nB_; clear nS_ n0_ n1_ nB_; have TOK12 := Aside0.mk True.intro) | (have tok_ := TOK12; go_at_call 8; (with_reducible refine (laws_toEvS.calls k _ _ l0 x _ ?s13_0 ?s13_1 hto.out).mono ?_); (case s13_0 => exact (Kd.C_below HR0.out (by repeat (first | (with_reducible first | exact HB.out | apply below_alloc | apply pw_below_drewN | apply below_drew1) | exact HB.out)))); (case s13_1 => exact HC0.out); rintro e w13 ⟨v, rfl, ho, hb⟩; have hz_ := hb.size; have nS_ := Aside0.mk (show w12.heap.size ≤ w13.heap.size from Nat.le_trans (by first | exact Nat.le_refl _ | (simp; done) | (simp; omega)) hz_); have n0_ := Aside0.mk (Kd.R_below (by (with_reducible repeat (first | apply Kd.R_alloc | apply Kd.R_drewN | apply Kd.R_drew)); exact HOw.out) hb); have n1_ := Aside0.mk (Kd.R_below (by (with_reducible repeat (first | apply Kd.R_alloc | apply Kd.R_drewN | apply Kd.R_drew)); exact HOg.out) hb); have nB_ := Aside0.mk (show Below w.heap.size w w13 from below_step (by repeat (first | (with_reducible first | exact HB.out | apply below_alloc | apply pw_below_drewN | apply below_drew1) | exact HB.out)) hb); obtain ⟨Az, cz, rfl⟩ := Kd.S_slice ho; have nO_ := Aside0.mk (show Kd.S k52 52 w13 w.heap.size (fun b_ => w12.heap.size ≤ b_ ∧ b_ < w13.heap.size) (.slice Az (x).length cz) x from Kd.S_lower (Kd.S_mono (Kd.S_bound ho) (fun b_ hb_ => ⟨Nat.le_trans (by first | exact Nat.le_refl _ | (simp; done) | (simp; omega)) hb_.2.1, hb_.2.2.1⟩)) (below_size (by repeat (first | (with_reducible first | exact HB.out | apply below_alloc | apply pw_below_drewN | apply below_drew1) | exact HB.out)))); clear hb hz_ ho TOK12 tok_ HOw HOg HB; have HS13 := nS_; have HOw := n0_; have HOg := n1_; have HB := nB_; have HOz := nO_; clear nS_ n0_ n1_ nB_ nO_; have TOK13 := Aside0.mk True.intro) | (have tok_ := TOK13; go_at_call 9; (with_reducible refine (impl_Trace.calls k _ _ x q _ ?s14_0 ?s14_1 him.out (HT.out _ (by repeat (first | (with_reducible first | exact HB.out | apply below_alloc | apply pw_below_drewN | apply below_drew1) | exact HB.out)))).mono ?_); (case s14_0 => refine (Kd.S_reads' (e := 52) (base := w.heap.size) (ok := fun b_ => w12.heap.size ≤ b_ ∧ b_ < w13.heap.size) (n := (x).length) (c := cz) ?_).2.2; exact (by (with_reducible repeat (first | apply Kd.S_alloc | apply Kd.S_drewN | apply Kd.S_drew)); exact HOz.out)); (case s14_1 => exact ((Kd.S_reads' HOz.out).2.1)); rintro e w14 ⟨v, rfl, ho, hb⟩; have hz_ := hb.size; have nS_ := Aside0.mk (show w13.heap.size ≤ w14.heap.size from Nat.le_trans (by first | exact Nat.le_refl _ | (simp; done) | (simp; omega)) hz_); have n0_ := Aside0.mk (Kd.R_below (by (with_reducible repeat (first | apply Kd.R_alloc | apply Kd.R_drewN | apply Kd.R_drew)); exact HOw.out) hb); have n1_ := Aside0.mk (Kd.R_below (by (with_reducible repeat (first | apply Kd.R_alloc | apply Kd.R_drewN | apply Kd.R_drew)); exact HOg.out) hb); have n2_ := Aside0.mk (Kd.S_below (by (with_reducible repeat (first | apply Kd.S_alloc | apply Kd.S_drewN | apply Kd.S_drew)); exact HOz.out) hb); have nB_ := Aside0.mk (show Below w.heap.size w w14 from below_step (by repeat (first | (with_reducible first | exact HB.out | apply below_alloc | apply pw_below_drewN | apply below_drew1) | exact HB.out)) hb); obtain ⟨Ah, ch, rfl⟩ := Kd.R_slice ho; have nO_ := Aside0.mk (show Kd.R Kd.string 9 w14 w.heap.size (fun b_ => w13.heap.size ≤ b_ ∧ b_ < w14.heap.size) (.slice Ah (q).length ch) q from Kd.R_lower (Kd.R_mono (Kd.R_bound ho) (fun b_ hb_ => ⟨Nat.le_trans (by first | exact Nat.le_refl _ | (simp; done) | (simp; omega)) hb_.2.1, hb_.2.2.1⟩)) (below_size (by repeat (first | (with_reducible first | exact HB.out | apply below_alloc | apply pw_below_drewN | apply below_drew1) | exact HB.out)))); clear hb hz_ ho TOK13 tok_ HOw HOg HOz HB; have HS14 := nS_; have HOw := n0_; have HOg := n1_; have HOz := n2_; have HB := nB_; have HOh := nO_; clear nS_ n0_ n1_ n2_ nB_ nO_; have TOK14 := Aside0.mk True.intro) | (have tok_ := TOK14; go_at_call 10; (with_reducible refine (laws_eqStringS.calls k _ _ q _ _ q true _ ?s15_0 ?s15_1 ?s15_2 ?s15_3 heq.out).mono ?_); (case s15_0 => refine (Kd.R_reads' (e := 9) (base := w.heap.size) (ok := fun b_ => w13.heap.size ≤ b_ ∧ b_ < w14.heap.size) (n := (q).length) (c := ch) ?_).2.2; exact (by (with_reducible repeat (first | apply Kd.R_alloc | apply Kd.R_drewN | apply Kd.R_drew)); exact HOh.out)); (case s15_1 => exact ((Kd.R_reads' HOh.out).2.1)); (case s15_2 => refine (Kd.R_reads' (e := 9) (base := w.heap.size) (ok := fun b_ => w2.heap.size ≤ b_ ∧ b_ < w3.heap.size) (n := (q).length) (c := cw) ?_).2.2; exact (by (with_reducible repeat (first | apply Kd.R_alloc | apply Kd.R_drewN | apply Kd.R_drew)); exact HOw.out)); (case s15_3 => exact ((Kd.R_reads' HOw.out).2.1)); rintro e w15 ⟨rfl, hd_⟩; have hb := Drawn0.below hd_; clear hd_; have hz_ := hb.size; have nS_ := Aside0.mk (show w14.heap.size ≤ w15.heap.size from Nat.le_trans (by first | exact Nat.le_refl _ | (simp; done) | (simp; omega)) hz_); have n0_ := Aside0.mk (Kd.R_below (by (with_reducible repeat (first | apply Kd.R_alloc | apply Kd.R_drewN | apply Kd.R_drew)); exact HOw.out) hb); have n1_ := Aside0.mk (Kd.R_below (by (with_reducible repeat (first | apply Kd.R_alloc | apply Kd.R_drewN | apply Kd.R_drew)); exact HOg.out) hb); have n2_ := Aside0.mk (Kd.R_below (by (with_reducible repeat (first | apply Kd.R_alloc | apply Kd.R_drewN | apply Kd.R_drew)); exact HOh.out) hb); have nB_ := Aside0.mk (show Below w.heap.size w w15 from below_step (by repeat (first | (with_reducible first | exact HB.out | apply below_alloc | apply pw_below_drewN | apply below_drew1) | exact HB.out)) hb); clear hb hz_ TOK14 tok_ HOw HOg HOh HB; have HS15 := nS_; have HOw := n0_; have HOg := n1_; have HOh := n2_; have HB := nB_; clear nS_ n0_ n1_ n2_ nB_; have TOK15 := Aside0.mk True.intro) | (have tok_ := TOK15; go_at_call 14; (with_reducible refine (laws_heldStringS.callsN k _ _ _ ym 1 m2 _ ?s16_0 ?s16_1 ?s16_2 hhe.out).mono ?_); (case s16_0 => exact (Kd.R_reads' HOg.out).1); (case s16_1 => refine (Kd.R_reads' (e := 9) (base := w.heap.size) (ok := fun _ => True) (n := (q).length) (c := cg) ?_).2.2; exact (by (with_reducible repeat (first | apply Kd.R_alloc | apply Kd.R_drewN | apply Kd.R_drew)); exact HOg.out)); (case s16_2 => exact ((Kd.R_reads' HOg.out).2.1)); rintro e w16 ⟨rfl, hb⟩; have hz_ := hb.size; have nS_ := Aside0.mk (show w15.heap.size ≤ w16.heap.size from Nat.le_trans (by first | exact Nat.le_refl _ | (simp; done) | (simp; omega)) hz_); have n0_ := Aside0.mk (Kd.R_below (by (with_reducible repeat (first | apply Kd.R_alloc | apply Kd.R_drewN | apply Kd.R_drew)); exact HOw.out) hb); have n1_ := Aside0.mk (Kd.R_below (by (with_reducible repeat (first | apply Kd.R_alloc | apply Kd.R_drewN | apply Kd.R_drew)); exact HOg.out) hb); have n2_ := Aside0.mk (Kd.R_below (by (with_reducible repeat (first | apply Kd.R_alloc | apply Kd.R_drewN | apply Kd.R_drew)); exact HOh.out) hb); have nB_ := Aside0.mk (show Below w.heap.size w w16 from below_step (by repeat (first | (with_reducible first | exact HB.out | apply below_alloc | apply pw_below_drewN | apply below_drew1) | exact HB.out)) hb); clear hb hz_ TOK15 tok_ HOw HOg HOh HB; have HS16 := nS_; have HOw := n0_; have HOg := n1_; have HOh := n2_; have HB := nB_; clear nS_ n0_ n1_ n2_ nB_; have TOK16 := Aside0.mk True.intro))
   go_ret
   exact ⟨by first | rfl | (simp; done), by repeat (first | exact HB.out | apply below_alloc | apply pw_below_drewN | apply below_drew1)⟩
 ·rw [if_neg hP] at h
  exact absurd h (by simp)

end Go.Proofs.YticfkgjcklonmaaDoor.QFnExactTrace
