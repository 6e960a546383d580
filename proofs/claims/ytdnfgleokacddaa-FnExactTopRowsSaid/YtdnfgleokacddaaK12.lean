/- A verified evaluator of the translated code, part 12: EvaKj, EvaKk, EvaKm, EvaKw, EvaYd, EvaKz -/
import Derived.Test.YtdnfgleokacddaaK11
import Derived.WalkKit
import Derived.BigFrame
import Derived.OwnWalk
import Derived.WalkMore
import Derived.Shelf.RegionOpenPlain
import Derived.Sort.LoopGhostIn
import Derived.Deep.Slices
section
/- impl.TopRows: what it answers. -/
namespace Go.Eva
open Go.Proofs Go.Shelf
open Go.RowKit Go.Lib Go.Sort
set_option linter.unusedVariables false
set_option linter.unusedSimpArgs false
set_option maxRecDepth 100000
noncomputable def kd15 : Kd := (.pair .str (.pair (.int .i64) (.pair (.int .i64) (.pair .bool (.pair (.int .i64) (.pair (.int .i64) (.pair (.int .i64) (.pair (.int .i64) (.pair (.int .i64) (.int .i64))))))))))
noncomputable def b15 : Code := bodyOf Try.f15
noncomputable def r15 : Code := p0 (p0 (p1 b15))
noncomputable def s15 (l : List kd15.T) : St := (evK tab [] 0 (p0 b15) (lvOf Try.f15) 0 (begin_ (cloCon 34 kd15 88) Try.f15.ntmps (l, ())) K0).getD ⟨[], []⟩
noncomputable def z15 (l : List kd15.T) : St := match (stepP tab [] [opN r15 0, opN r15 1] (opN r15 0)).run (s15 l) with
  | some (_, st) => st
  | none => ⟨[], []⟩
theorem clo15 (W : World) : Good Try.prog W 15 (cloCon 34 kd15 88) :=
  clone_good (fn := Try.f15) (c := b15) (i1 := 1) (o0 := opN r15 0) (o1 := opN r15 1) (r0 := p0 b15) (cd := p1 (p0 (p1 b15))) (r3 := p1 (p1 b15)) (t := 24) (e := 34) (u := 24) (κ := kd15) (F := fun x => cloF kd15 88 x.1) follows tabOk Try.func15 (by kernel_rfl) (by kernel_rfl) (by kernel_rfl) (by kernel_rfl) (by kernel_rfl) (by kernel_rfl) (by kernel_rfl) Try.underlying24 (by kernel_rfl)
   (lv := lvOf Try.f15) (m0 := 0) (m1 := 0) (m2 := 0) (S0 := s15) (S1 := z15) (fun l => by kernel_rfl) (fun l => by kernel_rfl) (fun l => by kernel_rfl) (by kernel_rfl) (fun l r h => Eq.trans (b := cloF kd15 88 l) (by kernel_rfl) h) (fun r h => by
    have h : some (([] : List kd15.T) ++ [], ()) = some r := h
    injection h with h
    exact h.symm)
abbrev kRw : Kd := (.pair .str (.pair (.int .i64) (.pair (.int .i64) (.pair .bool (.pair (.int .i64) (.pair (.int .i64) (.pair (.int .i64) (.pair (.int .i64) (.pair (.int .i64) (.int .i64))))))))))
theorem rd_enc {w : World} {g : Nat → Option Value} {x : Tr} {fp : List Nat} (h : Rd w true kRw g x fp) (j : Nat) (hj : j < 10) : g j = some (encR x)[j]! := by
  obtain ⟨_, _, _, ⟨h0, _⟩, _, _, _, ⟨h1, _⟩, _, _, _, ⟨h2, _⟩, _, _, _, ⟨h3, _⟩, _, _, _, ⟨h4, _⟩, _, _, _, ⟨h5, _⟩, _, _, _, ⟨h6, _⟩, _, _, _, ⟨h7, _⟩, _, _, _, ⟨h8, _⟩, ⟨h9, _⟩⟩ := h
  match j, hj with
  | 0, _ => exact h0
  | 1, _ => exact h1
  | 2, _ => exact h2
  | 3, _ => exact h3
  | 4, _ => exact h4
  | 5, _ => exact h5
  | 6, _ => exact h6
  | 7, _ => exact h7
  | 8, _ => exact h8
  | 9, _ => exact h9
theorem enc_rd {w : World} {g : Nat → Option Value} {x : Tr} (h : ∀ j, j < 10 → g j = some (encR x)[j]!) : Rd w true kRw g x [] :=
  ⟨[], [], rfl, ⟨h 0 (by omega), rfl⟩, [], [], rfl, ⟨h 1 (by omega), rfl⟩, [], [], rfl, ⟨h 2 (by omega), rfl⟩, [], [], rfl, ⟨h 3 (by omega), rfl⟩, [], [], rfl, ⟨h 4 (by omega), rfl⟩, [], [], rfl, ⟨h 5 (by omega), rfl⟩,
    [], [], rfl, ⟨h 6 (by omega), rfl⟩, [], [], rfl, ⟨h 7 (by omega), rfl⟩, [], [], rfl, ⟨h 8 (by omega), rfl⟩, ⟨h 9 (by omega), rfl⟩⟩
theorem holds_of {w : World} {g off : Nat} {cur : Array Value} {e : TypeId} {l : List Tr} (hg : w.heap[g]? = some (.cells cur e (0, 0))) (h : FLr kRw cur.toList off l) : HoldsK encR 10 w g off l.toArray := by
  intro t ht
  have ht : t < l.length * 10 := by simpa using ht
  have hi : t / 10 < l.length := by omega
  refine ⟨?_, by simp [World.frozen?, hg]⟩
  have h1 := rd_enc (h w (t / 10) hi) (t % 10) (by omega)
  have e1 : off + t / 10 * kRw.n + t % 10 = off + t := by
    have : kRw.n = 10 := rfl
    rw [this]; omega
  simp only [e1] at h1
  rw [get_flatK _ _ _ _ (by simpa using ht)]
  have e2 : l.toArray[t / 10]! = l[t / 10] := by simp [hi]
  rw [e2]
  simp only [World.cell?, hg]
  simpa using h1
theorem of_holds {w : World} {g off : Nat} {cur : Array Value} {e : TypeId} {d : Array Tr} (hg : w.heap[g]? = some (.cells cur e (0, 0))) (h : HoldsK encR 10 w g off d) : FLr kRw cur.toList off d.toList := by
  intro w0 i hi
  have hi' : i < d.size := by simpa using hi
  refine enc_rd fun j hj => ?_
  have h1 := (HoldsK.cell h hi' hj).1
  simp only [World.cell?, hg] at h1
  have e1 : kRw.n = 10 := rfl
  have e2 : d[i]! = d.toList[i] := by simp [hi']
  rw [e1, ← e2]
  simpa using h1
theorem putRow_block (w : World) (blk off y : Nat) (d : Array Value) (h : y ≠ blk) : (putRow id w blk off d).heap[y]? = w.heap[y]? := by
  unfold putRow mapBlock
  simp only
  rw [Array.getElem?_modify, if_neg (Ne.symm h)]
theorem putRow_at {w : World} {blk : Nat} (off : Nat) (d : Array Value) {cur : Array Value} {e : TypeId} {fr : Nat × Nat} (h : w.heap[blk]? = some (.cells cur e fr)) : (putRow id w blk off d).heap[blk]? = some (.cells (Go.Sort.putCells id off d cur) e fr) := by
  unfold putRow mapBlock
  simp only
  rw [Array.getElem?_modify, if_pos rfl, h]
  rfl
structure SortW (w w' : World) (g off : Nat) (cur : Array Value) (D : Array Tr) : Prop where
  size : w.heap.size ≤ w'.heap.size
  os : w'.os = w.os
  tape : w'.tape = w.tape
  output : w'.output = w.output
  other : ∀ y, y ≠ g → y < w.heap.size → w'.heap[y]? = w.heap[y]?
  here : ∃ cur' : Array Value, w'.heap[g]? = some (.cells cur' 34 (0, 0)) ∧ cur'.size = cur.size ∧ FLr kRw cur'.toList off D.toList
theorem sortW {w : World} {g off : Nat} {cur : Array Value} {d D : Array Tr} (hg : w.heap[g]? = some (.cells cur 34 (0, 0))) (hH : HoldsK encR 10 w g off d) (hD : D.size = d.size) (n : Nat) (os : Array Obj) : SortW w (sortWorldK encR 10 w g off n D os) g off cur D := by
  have hlt : g < w.heap.size := (Array.getElem?_eq_some_iff.1 hg).1
  have hh := holdsK_sortWorldK_c encR 10 w g off d D n os hH hlt hD
  have hold : ∀ y, y < w.heap.size → (sortWorldK encR 10 w g off n D os).heap[y]? = (putRow id (Go.Sort.ahead w n) g off (flatK encR 10 D)).heap[y]? := fun y hy => by
    unfold sortWorldK putRowK Go.Sort.grow
    simp only
    rw [Array.getElem?_append, if_pos (by simpa using hy)]
  have hat := (hold g hlt).trans (putRow_at (w := Go.Sort.ahead w n) off (flatK encR 10 D) hg)
  exact {
    size := by
      unfold sortWorldK putRowK Go.Sort.grow
      simp [Go.Sort.ahead]
    os := rfl
    tape := rfl
    output := rfl
    other := fun y h1 h2 => (hold y h2).trans (putRow_block _ g off y _ h1)
    here := ⟨_, hat, by unfold Go.Sort.putCells; simp, of_holds hat hh⟩ }

theorem own_take {w : World} {κ : Kd} {base : Option Addr} {m len cap : Nat} {e : TypeId} {l : List κ.T} {fp : List Nat} (hf : κ.flat = true) (h : RdS w true (Rd w true κ) κ.n e (.slice base len cap) l fp) (hm : m ≤ len) :
    RdS w true (Rd w true κ) κ.n e (.slice base m cap) (l.take m) fp := by
  rcases own_open hf h with ⟨h1, h2, a, h3⟩ | ⟨g, off, c, cur, h1, h2, h3, h4, h5, h6, h7⟩
  · injection h3 with q1 q2 q3
    subst q1 q2 q3
    obtain rfl : m = 0 := by omega
    rw [h1, h2]
    exact .inl ⟨rfl, rfl, base, 0, rfl, fun _ => rfl⟩
  · injection h1 with q1 q2 q3
    subst q1 q2 q3 h2
    have hl : (l.take m).length = m := by simp; omega
    have := own_close (l := l.take m) (off := off) (cap := cap) h3 h4 (by omega) h6 (fun w0 i hi => by
      have hi' : i < l.length := by rw [List.length_take] at hi; omega
      have := h7 w0 i hi'
      rw [List.getElem_take]
      exact this)
    rw [hl] at this
    exact this

theorem top_walk {w : World} {v0 : Value} {n : Int} {L : Nat} {CL S : Option Addr → Nat → Nat → World → Prop}
    (hclone : Calls Try.prog 15 #[v0] w fun e w1 => ∃ base len cap, e = .returned (.slice base len cap) ∧ CL base len cap w1)
    (hsort : ∀ base len cap w1, CL base len cap w1 → Calls Try.prog 16 #[.slice base len cap, .func (.func 17) #[] #[]] w1 fun e w2 => e = .returned (.tuple #[]) ∧ S base len cap w2)
    (hcl : ∀ base len cap w2, S base len cap w2 → len = L ∧ len ≤ cap ∧ cap ≤ 9223372036854775807 ∧ (base = none → cap = 0)) :
    Calls Try.prog 7 #[v0, .int .i64 n] w fun e w' => ∃ base cap, e = .returned (.slice base (if 0 ≤ n ∧ n ≤ (L : Int) then n.toNat else L) cap) ∧ S base L cap w' := by
  have mixed : Try.prog.follows .mixedOrders = true := by kernel_rfl
  by_cases hn : 0 ≤ n ∧ n ≤ (L : Int)
  · rw [if_pos hn]
    obtain ⟨k, rfl⟩ : ∃ k : Nat, n = k := ⟨n.toNat, by omega⟩
    have hk : k ≤ L := by omega
    go_enter Try.func7, Try.ntmps7
    go_wp2_with (refine hclone.mono ?_; rintro e w1 ⟨base, len, cap, rfl, hc⟩)
    refine (hsort _ _ _ _ hc).mono ?_
    rintro e w2 ⟨rfl, hs⟩
    obtain ⟨rfl, hlc, hcm, hb⟩ := hcl _ _ _ _ hs
    have hd : decide ((0 : Int) ≤ (k : Int) ∧ (k : Int) ≤ (len : Int)) = true := decide_eq_true hn
    go_wp2_with (refine (in_calls _ _ _ _).mono ?_; rintro e w' ⟨rfl, rfl⟩; rw [hd])
    go_ret
    exact ⟨base, cap, rfl, hs⟩
  · rw [if_neg hn]
    go_enter Try.func7, Try.ntmps7
    go_wp2_with (refine hclone.mono ?_; rintro e w1 ⟨base, len, cap, rfl, hc⟩)
    refine (hsort _ _ _ _ hc).mono ?_
    rintro e w2 ⟨rfl, hs⟩
    obtain ⟨rfl, hlc, hcm, hb⟩ := hcl _ _ _ _ hs
    have hd : decide ((0 : Int) ≤ n ∧ n ≤ (len : Int)) = false := decide_eq_false hn
    go_wp2_with (refine (in_calls _ _ _ _).mono ?_; rintro e w' ⟨rfl, rfl⟩; rw [hd])
    go_ret
    exact ⟨base, cap, rfl, hs⟩

theorem ins25n (p : Option Addr) (cap : Nat) (fv : Value) (w : World) : Calls Try.prog 25 #[.slice p 0 cap, .int .i64 0, .int .i64 0, fv] w fun e w' => e = .returned (.tuple #[]) ∧ w' = w := by
  have mixed : Try.prog.follows .mixedOrders = true := by kernel_rfl
  go_enter Try.func25, Try.ntmps25
  go_wp2
  refine wp_loop_rounds 1 ?_
  rw [rounds_succ]
  go_wp2
  go_end0
  exact ⟨rfl, rfl⟩
theorem stab23n (p : Option Addr) (cap : Nat) (fv : Value) (w : World) : Calls Try.prog 23 #[.slice p 0 cap, .int .i64 0, fv] w fun e w' => e = .returned (.tuple #[]) ∧ w' = w := by
  have mixed : Try.prog.follows .mixedOrders = true := by kernel_rfl
  have hi := ins25n p cap fv w
  go_enter Try.func23, Try.ntmps23
  go_wp2
  refine wp_loop_rounds 1 ?_
  rw [rounds_succ]
  go_wp2_with (refine hi.mono ?_; rintro e w' ⟨rfl, rfl⟩)
  refine wp_loop_rounds 1 ?_
  rw [rounds_succ]
  go_wp2
  go_end0
  exact ⟨rfl, rfl⟩
theorem sort16n (p : Option Addr) (cap : Nat) (fv : Value) (w : World) : Calls Try.prog 16 #[.slice p 0 cap, fv] w fun e w' => e = .returned (.tuple #[]) ∧ w' = w := by
  have mixed : Try.prog.follows .mixedOrders = true := by kernel_rfl
  have hi := stab23n p cap fv w
  go_enter Try.func16, Try.ntmps16
  go_wp2_with (refine hi.mono ?_; rintro e w' ⟨rfl, rfl⟩)
  go_end0
  exact ⟨rfl, rfl⟩
theorem sort16 {blk off cap : Nat} {l : List Tr} {w : World} (hH : HoldsK encR 10 w blk off l.toArray) (hblk : blk < w.heap.size) (hsz : l.length < 2000000000000) :
    Calls Try.prog 16 #[.slice (some ⟨blk, off, none⟩) l.length cap, cmpV] w fun e w' => e = unitR ∧ SL 10 w blk off (S rkR l) w' := by
  have mixed : Try.prog.follows .mixedOrders = true := by kernel_rfl
  have hi := stab23 (cap := cap) (l0 := l) (l := l) (w0 := w) (w := w) ⟨encR_len, encR_one, hH, hblk⟩ rfl rfl (SWK.start hH) hsz
  clear hH
  go_enter Try.func16, Try.ntmps16
  go_wp2_with (refine hi.mono ?_; rintro e w' ⟨rfl, ho⟩; have HO := ho; clear ho)
  go_end0
  exact ⟨rfl, HO⟩
/-- What TopRows answers. -/
def topL (l : List Tr) (n : Int) : List Tr := if 0 ≤ n ∧ n ≤ (l.length : Int) then (S rkR l).take n.toNat else S rkR l
theorem cloF_ok (κ : Kd) (B : Nat) (l : List κ.T) (h : l.length * B ≤ 140737488355328) : cloF κ B l = some (l, ()) := by
  unfold cloF
  rw [if_pos (decide_eq_true (show (([] : List κ.T).length + l.length) * B ≤ 140737488355328 by rw [List.length_nil, Nat.zero_add]; exact h))]
  rfl
/-- An own list with a block changed by a sort. -/
theorem own_sorted {lo : Nat} {w w' : World} {blk off cap : Nat} {l : List Tr} {fp : List Nat} (h : Own lo w 34 kRw (.slice (some ⟨blk, off, none⟩) l.length cap) l fp) (hne : l ≠ []) (hS : SL 10 w blk off (S rkR l) w') : Own lo w' 34 kRw (.slice (some ⟨blk, off, none⟩) l.length cap) (S rkR l) fp ∧ w.heap.size ≤ w'.heap.size ∧ w'.os = w.os ∧ w'.tape = w.tape ∧ w'.output = w.output ∧ ∀ y, y ≠ blk → y < w.heap.size → w'.heap[y]? = w.heap[y]? := by
  rcases own_open rfl h.rd with ⟨h1, _⟩ | ⟨g, o, c, cur, h3, h2, hg, hfit, hlc, hcm, hfl⟩
  · exact absurd h1 hne
  · injection h3 with q1 q2 q3
    injection q1 with q1
    injection q1 with q4 q5
    subst q4 q5 q3
    obtain ⟨n, os, rfl⟩ := hS
    have hH := holds_of hg hfl
    have W := sortW hg hH (D := (S rkR l).toArray) (by simp [S_len]) n os
    obtain ⟨cur', c1, c2, c3⟩ := W.here
    have hrd := own_close (κ := kRw) (e := 34) (l := S rkR l) (off := off) (cap := cap) c1 (by rw [c2]; exact hfit) (by rw [S_len]; exact hlc) hcm c3
    rw [S_len] at hrd
    exact ⟨⟨by rw [h2]; exact hrd, h.nd, h.lo⟩, W.size, W.os, W.tape, W.output, W.other⟩
theorem top_calls {w : World} {v0 : Value} {l : List Tr} {n : Int} (hv : Lent w 34 kRw v0 l) (hl : l.length ≤ 1048576) :
    Calls Try.prog 7 #[v0, .int .i64 n] w fun e w' => ∃ v fp, e = .returned v ∧ Own w.heap.size w' 34 kRw v (topL l n) fp ∧ Below w.heap.size w w' := by
  refine (top_walk (n := n) (L := l.length)
    (CL := fun base len cap w1 => ∃ fp, Own w.heap.size w1 34 kRw (.slice base len cap) l fp ∧ Below w.heap.size w w1)
    (S := fun base len cap w1 => ∃ fp, Own w.heap.size w1 34 kRw (.slice base len cap) (S rkR l) fp ∧ Below w.heap.size w w1)
    ((call_ll (clo15 w) (Below.refl _ _) hv (cloF_ok kd15 88 l (by have h88 : List.length l ≤ 1048576 := hl; show List.length l * 88 ≤ 140737488355328; omega))).mono ?_) ?_ ?_).mono ?_
  · rintro e w1 ⟨v, fp, rfl, ho, hb⟩
    rcases own_open rfl ho.rd with ⟨_, _, a, h3⟩ | ⟨g, off, c, cur, h3, _⟩
    · exact ⟨a, 0, 0, by rw [h3], fp, by rw [← h3]; exact ho, hb⟩
    · exact ⟨_, _, c, by rw [h3], fp, by rw [← h3]; exact ho, hb⟩
  · rintro base len cap w1 ⟨fp, ho, hb⟩
    rcases own_open rfl ho.rd with ⟨h1, h2, a, h3⟩ | ⟨g, off, c, cur, h3, h2, hg, hfit, hlc, hcm, hfl⟩
    · injection h3 with q1 q2 q3
      subst q1 q2 q3 h1
      refine (sort16n base 0 _ w1).mono ?_
      rintro e w2 ⟨rfl, rfl⟩
      exact ⟨rfl, fp, ho, hb⟩
    · injection h3 with q1 q2 q3
      subst q1 q2 q3
      have hH := holds_of hg hfl
      have hlt' : g < w1.heap.size := (Array.getElem?_eq_some_iff.1 hg).1
      by_cases hne : l = []
      · subst hne
        refine (sort16n _ cap _ w1).mono ?_
        rintro e w2 ⟨rfl, rfl⟩
        exact ⟨rfl, fp, ho, hb⟩
      · refine (sort16 (cap := cap) hH hlt' (by omega)).mono ?_
        rintro e w2 ⟨rfl, hS⟩
        obtain ⟨p1, p2, p3, p4, p5, p6⟩ := own_sorted ho hne hS
        have hgf : g ∈ fp := by rw [h2]; exact List.mem_singleton.2 rfl
        have hgw := ho.lo g hgf
        exact ⟨rfl, fp, p1, ⟨p3.trans hb.os, p4.trans hb.tape, p5.trans hb.output, Nat.le_trans hb.size p2, fun y hy => (p6 y (by omega) (Nat.lt_of_lt_of_le hy hb.size)).trans (hb.block y hy)⟩⟩
  · rintro base len cap w2 ⟨fp, ho, hb⟩
    have hsl := S_len rkR l
    rcases own_open rfl ho.rd with ⟨h1, h2, a, h3⟩ | ⟨g, off, c, cur, h3, h2, hg, hfit, hlc, hcm, hfl⟩
    · injection h3 with q1 q2 q3
      subst q2 q3
      rw [h1] at hsl
      exact ⟨hsl, Nat.le_refl _, by omega, fun _ => rfl⟩
    · injection h3 with q1 q2 q3
      subst q1 q2 q3
      unfold maxLen at hcm
      exact ⟨hsl, hlc, by omega, fun q => by cases q⟩
  · rintro e w' ⟨base, cap, rfl, fp, ho, hb⟩
    refine ⟨_, fp, rfl, ?_, hb⟩
    unfold topL
    by_cases hin : 0 ≤ n ∧ n ≤ (l.length : Int)
    · rw [if_pos hin, if_pos hin]
      exact ⟨own_take (κ := kRw) rfl ho.rd (by omega), ho.nd, ho.lo⟩
    · rw [if_neg hin, if_neg hin]
      exact ho
end Go.Eva
end
section
/- FnExactTopRows: what the functions answer. -/
namespace Go.Eva
open Go.RowKit (wrap64)
set_option linter.unusedVariables false
set_option linter.unusedSimpArgs false

theorem w1 {i n : Nat} (h : i < n) (hn : n ≤ 1000000000) : wrap64 ((i : Int) + 1) = ((i + 1 : Nat) : Int) := by rw [w64 (by omega) (by omega)]; rfl
theorem wb {i n : Nat} (h : i < n) (hn : n ≤ 1048576) : wrap64 ((i : Int) + 1) = ((i + 1 : Nat) : Int) := w1 h (by omega)
/-! ### sizes -/
theorem t11s {n : Nat} {s : ByteArray} {a b : Int} {t : Bool} {d e f g u v : Int} {left : Int} (hs : s.size ≤ maxLen) (h0 : 0 ≤ left) (h1 : left ≤ 1048576) : ok (F11 n s a b t d e f g u v left) fun r => r.1 < 0 ∨ (0 ≤ r.1 ∧ r.1 ≤ left ∧ s.size ≤ 1048576) := by
  have hm : maxLen = 9223372036854775807 := rfl
  unfold F11
  rw [w64 (by omega) (by omega)]
  refine ok.ite (fun h => ok.some (.inl (by decide))) (fun h => ok.some (.inr ⟨?_, ?_, by omega⟩))
  · show 0 ≤ left - (s.size : Int); omega
  · show left - (s.size : Int) ≤ left; omega
theorem t4s_0 {n : Nat} {l : List Tr} (hl : l.length ≤ 1048576) (hs : ∀ x ∈ l, x.1.size ≤ maxLen) : ∀ (k i : Nat) (left : Int), 0 ≤ left → left ≤ 1048576 → i ≤ l.length → l.length - i < k → ok (lp4_0 n k l left (i : Int)) fun r => r.1 < 0 ∨ (0 ≤ r.1 ∧ r.1 ≤ left ∧ ∀ j (h : j < l.length), i ≤ j → l[j].1.size ≤ 1048576)
  | 0, i, left, h0, h1, h, hk => by omega
  | k + 1, i, left, h0, h1, h, hk => by
    show ok (st4_0 n (lp4_0 n k) l left _) _
    unfold st4_0
    refine ok.ite (fun h2 => ok.guard (by omega) (ok.guard h2 ?_)) (fun h2 => ok.some (.inr ⟨h0, Int.le_refl _, fun j hj hi => by omega⟩))
    have hi : i < l.length := by omega
    rw [rdOf_nat hi]
    refine (t11s (hs _ (List.getElem_mem hi)) h0 h1).bind fun r1 q1 => ?_
    refine ok.ite (fun h3 => ok.some (.inl (by decide))) (fun h3 => ?_)
    obtain ⟨q2, q3, q4⟩ := q1.resolve_left h3
    have e := wb hi hl
    rw [e]
    refine (t4s_0 hl hs k (i + 1) r1.1 q2 (by omega) (by omega) (by omega)).mono fun r q => ?_
    rcases q with q | ⟨p1, p2, p3⟩
    · exact .inl q
    · refine .inr ⟨p1, by omega, fun j hj hij => ?_⟩
      by_cases hji : j = i
      · subst hji; exact q4
      · exact p3 j hj (by omega)
theorem t4s {n : Nat} (hn : 20000000 ≤ n) {l : List Tr} (hl : l.length ≤ maxLen) (hs : ∀ x ∈ l, x.1.size ≤ maxLen) {left : Int} (h0 : 0 ≤ left) (h1 : left ≤ 1048576) : ok (F4 n l left) fun r => r.1 < 0 ∨ (0 ≤ r.1 ∧ r.1 + l.length ≤ left ∧ ∀ x ∈ l, x.1.size ≤ 1048576) := by
  have hm : maxLen = 9223372036854775807 := rfl
  unfold F4 st4
  rw [w64 (by omega) (by omega)]
  refine ok.ite (fun h => ok.some (.inl (by decide))) (fun h => ?_)
  refine (t4s_0 (by omega) hs n 0 (left - l.length) (by omega) (by omega) (by omega) (by omega)).mono fun r q => ?_
  rcases q with q | ⟨p1, p2, p3⟩
  · exact .inl q
  · refine .inr ⟨p1, by omega, fun x hx => ?_⟩
    obtain ⟨j, hj, rfl⟩ := List.getElem_of_mem hx
    exact p3 j hj (by omega)
theorem t6_0 {n : Nat} {l : List Tr} (hl : l.length ≤ 1048576) : ∀ (k i : Nat) (o : List Tr), o.length = l.length → (∀ j (h : j < o.length) (h' : j < l.length), j < i → o[j] = l[j]) → i ≤ l.length → l.length - i < k → ok (lp6_0 n k l (i : Int) o) fun r => r = (l, ())
  | 0, i, o, ho, hp, h, hk => by omega
  | k + 1, i, o, ho, hp, h, hk => by
    show ok (st6_0 n (lp6_0 n k) l _ o) _
    unfold st6_0
    refine ok.ite (fun h2 => ok.guard (by omega) (ok.guard h2 ?_)) (fun h2 => ok.some ?_)
    · have hi : i < l.length := by omega
      have e := wb hi hl
      rw [rdOf_nat hi, e]
      unfold F14
      refine (ok.some rfl : ok _ fun r => r = _).bind fun r q => ?_
      subst q
      refine ok.guard (by omega) (ok.guard (by omega) ?_)
      rw [Int.toNat_natCast]
      refine t6_0 hl k (i + 1) (o.set i l[i]) (by rw [List.length_set]; exact ho) (fun j h1 h2 hj => ?_) (by omega) (by omega)
      by_cases hji : j = i
      · subst hji; rw [List.getElem_set_self]
      · rw [List.getElem_set_ne (Ne.symm hji)]; exact hp j (by rwa [List.length_set] at h1) h2 (by omega)
    · have : o = l := List.ext_getElem ho fun j h1 h2 => hp j h1 h2 (by omega)
      rw [this]
theorem t6 {n : Nat} (hn : 20000000 ≤ n) {l : List Tr} (hl : l.length ≤ 1048576) : ok (F6 n l) fun r => r = (l, ()) := by
  unfold F6 st6
  exact ok.guard (by omega) (ok.guard rfl (ok.guard (by omega) (t6_0 hl n 0 _ (by rw [List.length_replicate, Int.toNat_natCast]) (fun j h1 h2 hj => by omega) (by omega) (by omega))))
theorem t21 {n : Nat} {s : ByteArray} {a b : Int} {t : Bool} {d e f g u v : Int} : ok (F21 n s a b t d e f g u v s a b t d e f g u v) fun r => r = (true, ()) := by
  unfold F21
  refine ok.iteb (fun h => ?_) (fun _ => ok.ite (fun h => absurd rfl h) (fun _ => ok.ite (fun h => absurd rfl h) (fun _ => ok.iteb (fun h => ?_) (fun _ => ok.ite (fun h => absurd rfl h) (fun _ => ok.ite (fun h => absurd rfl h) (fun _ => ok.ite (fun h => absurd rfl h) (fun _ => ok.ite (fun h => absurd rfl h) (fun _ => ok.ite (fun h => absurd rfl h) (fun _ => ok.ite (fun h => absurd rfl h) (fun _ => ok.some rfl))))))))))
  · rw [decide_eq_true rfl] at h; cases h
  · cases t <;> cases h
theorem t8_0 {n : Nat} {l : List Tr} (hl : l.length ≤ 1048576) : ∀ (k i : Nat), i ≤ l.length → l.length - i < k → ok (lp8_0 n k l l (i : Int)) fun r => r = (true, ())
  | 0, i, h, hk => by omega
  | k + 1, i, h, hk => by
    show ok (st8_0 n (lp8_0 n k) l l _) _
    unfold st8_0
    refine ok.ite (fun h2 => ok.guard (by omega) (ok.guard h2 (ok.guard (by omega) (ok.guard h2 ?_)))) (fun h2 => ok.some rfl)
    have hi : i < l.length := by omega
    have e := wb hi hl
    rw [e]
    refine t21.bind fun r q => ?_
    subst q
    exact ok.iteb (fun h => by cases h) (fun _ => t8_0 hl k (i + 1) (by omega) (by omega))
theorem t8 {n : Nat} (hn : 20000000 ≤ n) {l : List Tr} (hl : l.length ≤ 1048576) : ok (F8 n l l) fun r => r = (true, ()) := by
  unfold F8 st8
  exact ok.ite (fun h => absurd rfl h) (fun _ => t8_0 hl n 0 (by omega) (by omega))
def p10 : Nat → Nat
  | 0 => 1
  | n + 1 => p10 n * 10
theorem strOf_size (l : List Int) : (strOf l).size = l.length := by
  show Array.size (List.toArray _) = _
  rw [List.size_toArray, List.length_map]
theorem t22_0 {n : Nat} : ∀ (d k : Nat) (i : Int) (s : ByteArray), 0 ≤ i → i < (p10 d : Int) → d < k → s.size + d ≤ 1000 → i ≤ 1000000000000 → ok (lp22_0 n k i s) fun _ => True
  | d, 0, i, s, h0, h1, hk, hs, hi => by omega
  | d, k + 1, i, s, h0, h1, hk, hs, hi => by
    show ok (st22_0 n (lp22_0 n k) i s) _
    unfold st22_0
    have e1 : ∀ x : Int, (strOf [x]).size = 1 := fun x => strOf_size [x]
    have em : (⟨#[109]⟩ : ByteArray).size = 1 := rfl
    refine ok.ite (fun h => ok.guard (by decide) (ok.guard (by rw [e1]; omega) (ok.guard (by decide) ?_))) (fun h => ok.guard (by omega) (ok.some trivial))
    obtain ⟨m, rfl⟩ := Int.eq_ofNat_of_zero_le h0
    have e : ((m : Int).tdiv 10) = ((m / 10 : Nat) : Int) := by
      rw [Int.tdiv_eq_ediv_of_nonneg (by omega)]
      omega
    match d, h1, hs, hk with
    | 0, h1, hs, hk =>
      have : p10 0 = 1 := rfl
      omega
    | d + 1, h1, hs, hk =>
      have hp : p10 (d + 1) = p10 d * 10 := rfl
      rw [e, w64 (by omega) (by omega)]
      exact t22_0 d k _ _ (by omega) (by omega) (by omega) (by rw [ByteArray.size_append, e1]; omega) (by omega)
noncomputable def mtx (n : Nat) (k : Int) : ByteArray := ((F22 n k).getD (⟨#[]⟩, ())).1
theorem f22 {n : Nat} (hn : 20000000 ≤ n) {k : Int} (h0 : 0 ≤ k) (h1 : k ≤ 1000000000000) : F22 n k = some (mtx n k, ()) := by
  have h : ok (F22 n k) fun _ => True := by
    unfold F22 st22
    refine ok.ite (fun _ => ok.some trivial) (fun _ => t22_0 13 n k _ h0 ?_ (by omega) (by decide) h1)
    have : p10 13 = 10000000000000 := by decide
    omega
  obtain ⟨⟨a, u⟩, e, _⟩ := h
  unfold mtx
  rw [e]
  rfl
/-- A marked row. -/
def mkR (mt : Int → ByteArray) (k : Int) : Tr := (mt k, (k + 1, (k + 2, (decide ((k + 3).tmod 3 = 0), (k + 4, (k + 5, (k + 6, (k + 7, (k + 8, k + 9)))))))))
def mkRow (mt : Int → ByteArray) (k : Int) (n : Nat) : List Tr := (List.range n).map fun j => mkR mt (k + 10 * (j : Nat))
theorem mkRow_len (mt : Int → ByteArray) (k : Int) (m : Nat) : (mkRow mt k m).length = m := by simp [mkRow]
theorem mkRow_get {mt : Int → ByteArray} {k : Int} {m i : Nat} (h : i < (mkRow mt k m).length) : (mkRow mt k m)[i] = mkR mt (k + 10 * i) := by
  simp [mkRow]
theorem wr10 {x : Int} (h0 : 0 ≤ x) (h1 : x ≤ 1000000000000) : wrap64 (x + 1) = x + 1 ∧ wrap64 (x + 1 + 1) = x + 2 ∧ wrap64 (x + 2 + 1) = x + 3 ∧ wrap64 (x + 3 + 1) = x + 4 ∧ wrap64 (x + 4 + 1) = x + 5 ∧ wrap64 (x + 5 + 1) = x + 6 ∧ wrap64 (x + 6 + 1) = x + 7 ∧ wrap64 (x + 7 + 1) = x + 8 ∧ wrap64 (x + 8 + 1) = x + 9 ∧ wrap64 (x + 9 + 1) = x + 10 := by
  refine ⟨?_, ?_, ?_, ?_, ?_, ?_, ?_, ?_, ?_, ?_⟩ <;> (rw [w64 (by omega) (by omega)]; try omega)
theorem t10h_0 {n : Nat} (hn : 20000000 ≤ n) {l : List Tr} (hl : l.length ≤ 1048576) {k : Int} (h0 : 0 ≤ k) (h1 : k ≤ 100000000000) (hp : l = mkRow (mtx n) k l.length) : ∀ (q i : Nat) (x : Int), i ≤ l.length → l.length - i < q → x = k + 10 * i → ok (lp10_0 n q l x (i : Int)) fun r => r = (k + 10 * l.length, ())
  | 0, i, x, h, hk, hx => by omega
  | q + 1, i, x, h, hk, hx => by
    show ok (st10_0 n (lp10_0 n q) l x (i : Int)) _
    unfold st10_0
    refine ok.ite (fun h2 => ok.guard (by omega) (ok.guard h2 ?_)) (fun h2 => ok.some ?_)
    · have hi : i < l.length := by omega
      have er : l[i] = mkR (mtx n) x := by rw [List.getElem_of_eq hp hi, mkRow_get, hx]
      have z0 : 0 ≤ x := by omega
      have z1 : x ≤ 1000000000000 := by omega
      have i0 : (0 : Int) ≤ (i : Int) := by omega
      have w5 : wrap64 ((i : Int) + 1) = ((i + 1 : Nat) : Int) := wb hi hl
      have W := wr10 z0 z1
      have nx : i + 1 ≤ l.length := by omega
      have nq : l.length - (i + 1) < q := by omega
      have nk : x + 10 = k + 10 * ((i + 1 : Nat) : Int) := by omega
      rw [rdOf_nat hi, er, W.1, W.2.1, W.2.2.1, W.2.2.2.1, W.2.2.2.2.1, W.2.2.2.2.2.1, W.2.2.2.2.2.2.1, W.2.2.2.2.2.2.2.1, W.2.2.2.2.2.2.2.2.1, W.2.2.2.2.2.2.2.2.2, w5]
      clear W w5
      refine ok.bind (Q := fun r => r = (mtx n x, ())) ⟨_, f22 hn z0 z1, rfl⟩ fun r1 q1 => ?_
      subst q1
      refine ok.iteb (fun e => ?_) (fun _ => ok.guard i0 (ok.guard h2 (ok.ite (fun e => absurd rfl e) (fun _ => ok.guard i0 (ok.guard h2 (ok.ite (fun e => absurd rfl e) (fun _ => ok.guard i0 (ok.guard h2 (ok.guard (by decide) (ok.iteb (fun e => ?_) (fun _ => ok.guard i0 (ok.guard h2 (ok.ite (fun e => absurd rfl e) (fun _ => ok.guard i0 (ok.guard h2 (ok.ite (fun e => absurd rfl e) (fun _ => ok.guard i0 (ok.guard h2 (ok.ite (fun e => absurd rfl e) (fun _ => ok.guard i0 (ok.guard h2 (ok.ite (fun e => absurd rfl e) (fun _ => ok.guard i0 (ok.guard h2 (ok.ite (fun e => absurd rfl e) (fun _ => ok.guard i0 (ok.guard h2 (ok.ite (fun e => absurd rfl e) (fun _ => ?_)))))))))))))))))))))))))))))
      · have e : (!decide ((mtx n x).toList = (mtx n x).toList)) = true := e
        rw [decide_eq_true rfl] at e; cases e
      · have e : (!(decide ((x + 3).tmod 3 = 0) == decide ((x + 3).tmod 3 = 0))) = true := e
        cases h : decide ((x + 3).tmod 3 = 0) <;> rw [h] at e <;> cases e
      · exact t10h_0 hn hl h0 h1 hp q (i + 1) (x + 10) nx nq nk
    · have : x = k + 10 * l.length := by omega
      rw [this]
theorem t10h {n : Nat} (hn : 20000000 ≤ n) {l : List Tr} (hl : l.length ≤ 1048576) {k : Int} (h0 : 0 ≤ k) (h1 : k ≤ 100000000000) (hp : l = mkRow (mtx n) k l.length) : ok (F10 n l k) fun r => r = (k + 10 * l.length, ()) := by
  unfold F10 st10
  exact t10h_0 hn hl h0 h1 hp n 0 k (by omega) (by omega) (by omega)

/-! ### the reference's TopRows -/
theorem t12 {n : Nat} (x : Tr) : F12 n x.1 x.2.1 x.2.2.1 x.2.2.2.1 x.2.2.2.2.1 x.2.2.2.2.2.1 x.2.2.2.2.2.2.1 x.2.2.2.2.2.2.2.1 x.2.2.2.2.2.2.2.2.1 x.2.2.2.2.2.2.2.2.2 = some (rkR x, ()) := by
  unfold F12 rkR rk4
  by_cases h1 : x.2.1 = 1
  · simp [h1]
  · by_cases h2 : x.2.1 = 2
    · simp [h2]
    · by_cases h3 : x.2.1 = 3
      · simp [h3]
      · simp [h1, h2, h3]
theorem cut_a {α : Type} (l : List α) (q : Nat) : cutL l (0 : Int) (q : Int) = l.take q := by simp [cutL]
theorem cut_b {α : Type} (l : List α) (q : Nat) : cutL l (q : Int) (l.length : Int) = l.drop q := by simp [cutL]
theorem t5_j {n : Nat} {g0 : List Tr → Int → Int → List Tr → Option (List Tr × Unit)} {l out : List Tr} {m : Int} {i q : Nat} (hi : i < l.length) (hq : q ≤ out.length) (ho : out.length ≤ 1048576) {Q : List Tr × Unit → Prop} (h : ok (g0 l m (wrap64 ((i : Int) + 1)) (out.take q ++ ([l[i]] ++ out.drop q))) Q) : ok (j5_0 n g0 l m (i : Int) (q : Int) out) Q := by
  unfold j5_0
  rw [rdOf_nat hi, cut_a, cut_b]
  have l1 : (out.drop q).length ≤ 1048576 := by rw [List.length_drop]; omega
  have l2 : (out.take q).length ≤ 1048576 := by rw [List.length_take]; omega
  refine ok.guard (by decide) (ok.guard (by omega) (ok.guard (by omega) (ok.guard (by omega) (ok.guard (by omega) (ok.guard (by omega) (ok.guard (by omega) (ok.guard (Int.le_refl _) (ok.guard ?_ (ok.guard ?_ h)))))))))
  · simp only [List.length_cons, List.length_nil]; omega
  · simp only [List.length_append, List.length_cons, List.length_nil]; omega
theorem t5_1 {n : Nat} {g0 : List Tr → Int → Int → List Tr → Option (List Tr × Unit)} {l out : List Tr} {m : Int} {i : Nat} (hi : i < l.length) (ho : out.length ≤ 1048576) (hs : Srt rkR out) {Q : List Tr × Unit → Prop} (h : ok (g0 l m (wrap64 ((i : Int) + 1)) (mrg rkR out [l[i]])) Q) : ∀ (k q : Nat), q ≤ out.length → q < k → (∀ z, out[q]? = some z → lt rkR l[i] z = true) → ok (lp5_1 n g0 k l m (i : Int) (q : Int) out) Q
  | 0, q, hq, hk, hz => by omega
  | k + 1, q, hq, hk, hz => by
    show ok (st5_1 n g0 (lp5_1 n g0 k) l m (i : Int) (q : Int) out) Q
    unfold st5_1
    have stop : (∀ z, (out.take q).getLast? = some z → lt rkR l[i] z = false) → ok (j5_0 n g0 l m (i : Int) (q : Int) out) Q := fun h1 => by
      refine t5_j hi hq ho ?_
      have e := mrg_at rkR (A := out) (y := l[i]) hs (A1 := out.take q) (A2 := out.drop q) (List.take_append_drop _ _).symm h1 (fun z hz' => hz z (by rw [headDrop] at hz'; exact hz'))
      rw [← show mrg rkR out [l[i]] = out.take q ++ ([l[i]] ++ out.drop q) from e]
      exact h
    refine ok.ite (fun h1 => ?_) (fun h1 => stop fun z hz' => ?_)
    · obtain ⟨p, rfl⟩ : ∃ p, q = p + 1 := ⟨q - 1, by omega⟩
      have hp : p < out.length := by omega
      have e : wrap64 (((p + 1 : Nat) : Int) - 1) = (p : Int) := by rw [w64 (by omega) (by omega)]; omega
      have g1 : (0 : Int) ≤ (p : Int) := by omega
      have g2 : (p : Int) < (out.length : Int) := by omega
      have g3 : (0 : Int) ≤ (i : Int) := by omega
      have g4 : (i : Int) < (l.length : Int) := by omega
      have k1 : p ≤ out.length := by omega
      have k2 : p < k := by omega
      rw [e, rdOf_nat hp, rdOf_nat hi]
      clear e
      refine ok.guard g1 (ok.guard g2 ?_)
      refine ok.bind (Q := fun r => r = (rkR out[p], ())) ⟨_, t12 out[p], rfl⟩ fun r1 q1 => ?_
      subst q1
      refine ok.guard g3 (ok.guard g4 ?_)
      refine ok.bind (Q := fun r => r = (rkR l[i], ())) ⟨_, t12 l[i], rfl⟩ fun r2 q2 => ?_
      subst q2
      refine ok.ite (fun h2 => ?_) (fun h2 => ?_)
      · exact t5_1 hi ho hs h k p k1 k2 (fun z hz' => by
          rw [List.getElem?_eq_getElem hp] at hz'
          injection hz' with hz'
          rw [← hz']
          exact decide_eq_true h2)
      · exact stop fun z hz' => by
          obtain ⟨_, q1⟩ := lastTake (by omega) hz'
          rw [show p + 1 - 1 = p by omega, List.getElem?_eq_getElem hp] at q1
          injection q1 with q1
          rw [← q1]
          exact decide_eq_false h2
    · have : q = 0 := by omega
      subst this
      simp at hz'
theorem t5_0 {n : Nat} (hn : 20000000 ≤ n) {l : List Tr} (hl : l.length ≤ 1048576) {m : Int} : ∀ (k i : Nat) (out : List Tr), i ≤ l.length → l.length - i < k → out = S rkR (l.take i) → ok (lp5_0 n k l m (i : Int) out) fun r => r = (topL l m, ())
  | 0, i, out, h, hk, ho => by omega
  | k + 1, i, out, h, hk, ho => by
    have hol : out.length = i := by rw [ho, S_len, List.length_take]; omega
    show ok (st5_0 n (lp5_1 n (lp5_0 n k) n) (lp5_0 n k) l m (i : Int) out) _
    unfold st5_0
    refine ok.ite (fun h1 => ?_) (fun h1 => ?_)
    · have hi : i < l.length := by omega
      have hss : Srt rkR out := by rw [ho]; exact S_srt rkR _
      refine t5_1 hi (by omega) hss ?_ n out.length (Nat.le_refl _) (by omega) (fun z hz => by
        have := (List.getElem?_eq_some_iff.1 hz).1
        omega)
      have nx : i + 1 ≤ l.length := by omega
      have nk : l.length - (i + 1) < k := by omega
      have e := wb hi hl
      rw [e]
      clear e
      refine t5_0 hn hl k (i + 1) _ nx nk ?_
      rw [ho, List.take_succ_eq_append_getElem hi, S_snoc]
    · have hi : i = l.length := by omega
      have ho' : out = S rkR l := by rw [ho, List.take_of_length_le (by omega)]
      unfold F13 topL
      by_cases h0 : 0 ≤ m
      · rw [if_pos (decide_eq_true h0)]
        simp only [Option.bind_some]
        by_cases h2 : m ≤ (out.length : Int)
        · have hin : 0 ≤ m ∧ m ≤ (l.length : Int) := ⟨h0, by omega⟩
          rw [if_pos hin]
          obtain ⟨q, rfl⟩ := Int.eq_ofNat_of_zero_le h0
          rw [cut_a, Int.toNat_natCast]
          have l2 : (out.take q).length ≤ 1048576 := by rw [List.length_take]; omega
          refine ok.iteb (fun hb => ?_) (fun _ => ok.guard (by decide) (ok.guard h0 (ok.guard h2 (ok.guard (by simp only [List.length_nil]; omega) (ok.some ?_)))))
          · rw [decide_eq_true h2] at hb; cases hb
          · rw [← ho']; rfl
        · have hin : ¬ (0 ≤ m ∧ m ≤ (l.length : Int)) := fun q => by omega
          rw [if_neg hin]
          refine ok.iteb (fun _ => ok.some (by rw [ho'])) (fun hb => ?_)
          rw [decide_eq_false h2] at hb; cases hb
      · have hin : ¬ (0 ≤ m ∧ m ≤ (l.length : Int)) := fun q => h0 q.1
        rw [if_neg (by rw [decide_eq_false h0]; decide), if_neg hin]
        exact ok.some (by rw [ho'])
theorem t5 {n : Nat} (hn : 20000000 ≤ n) {l : List Tr} (hl : l.length ≤ 1048576) {m : Int} : ok (F5 n l m) fun r => r = (topL l m, ()) := by
  unfold F5 st5
  exact t5_0 hn hl n 0 [] (by omega) (by omega) rfl
theorem topL_len (l : List Tr) (m : Int) : (topL l m).length ≤ l.length := by
  unfold topL
  split
  · rw [List.length_take, S_len]; omega
  · rw [S_len]; exact Nat.le_refl _
end Go.Eva
end
section
/- Marks of rows, written in place: the walk. -/
namespace Go.Eva
open Go.Proofs Go.Shelf
open Go.RowKit Go.Lib
set_option linter.unusedVariables false
set_option linter.unusedSimpArgs false
set_option maxRecDepth 100000
abbrev kRow : Kd := .pair .str (.pair (.int .i64) (.pair (.int .i64) (.pair .bool (.pair (.int .i64) (.pair (.int .i64) (.pair (.int .i64) (.pair (.int .i64) (.pair (.int .i64) (.int .i64)))))))))
def sets : Array Value → Nat → List Value → Array Value
  | cur, _, [] => cur
  | cur, p, v :: vs => sets (cur.setIfInBounds p v) (p + 1) vs
theorem sets_spec : ∀ (vs : List Value) (cur : Array Value) (p : Nat), p + vs.length ≤ cur.size → (sets cur p vs).size = cur.size ∧ (∀ j (h : j < vs.length), (sets cur p vs)[p + j]? = some vs[j]) ∧ ∀ q, ¬ (p ≤ q ∧ q < p + vs.length) → (sets cur p vs)[q]? = cur[q]?
  | [], cur, p, h => ⟨rfl, (fun j h => by cases h), fun q _ => rfl⟩
  | v :: vs, cur, p, h => by
    rw [List.length_cons] at h
    obtain ⟨h1, h2, h3⟩ := sets_spec vs (cur.setIfInBounds p v) (p + 1) (by rw [Array.size_setIfInBounds]; omega)
    refine ⟨by show (sets (cur.setIfInBounds p v) (p + 1) vs).size = _; rw [h1, Array.size_setIfInBounds], fun j hj => ?_, fun q hq => ?_⟩
    · match j, hj with
      | 0, _ =>
        show (sets (cur.setIfInBounds p v) (p + 1) vs)[p + 0]? = some v
        rw [h3 (p + 0) (by omega), Nat.add_zero, Array.getElem?_setIfInBounds_self_of_lt (by omega)]
      | j + 1, hj =>
        have := h2 j (by simpa using hj)
        rw [show p + 1 + j = p + (j + 1) by omega] at this
        exact this
    · rw [List.length_cons] at hq
      show (sets (cur.setIfInBounds p v) (p + 1) vs)[q]? = _
      rw [h3 q (by omega), Array.getElem?_setIfInBounds_ne (by omega)]
def rowV (mt : Int → ByteArray) (x : Int) : List Value := [.string (mt x), .int .i64 (x + 1), .int .i64 (x + 2), .bool ((x + 3).tmod 3 == 0), .int .i64 (x + 4), .int .i64 (x + 5), .int .i64 (x + 6), .int .i64 (x + 7), .int .i64 (x + 8), .int .i64 (x + 9)]
theorem row_put {mt : Int → ByteArray} {cur' : Array Value} {off i n : Nat} {l : List kRow.T} {k x : Int} (h : FLr kRow cur'.toList off l) (hl : l.length = n) (hi : i < n) (hz : off + i * 10 + 9 < cur'.size) (hx : x = k + 10 * i) (hp : ∀ j (h : j < l.length), j < i → l[j] = mkR mt (k + 10 * j)) :
    ∃ l' : List kRow.T, l'.length = n ∧ FLr kRow ((((((((((cur'.setIfInBounds (off + i * 10) (.string (mt x))).setIfInBounds (off + i * 10 + 1) (.int .i64 (x + 1))).setIfInBounds (off + i * 10 + 2) (.int .i64 (x + 2))).setIfInBounds (off + i * 10 + 3) (.bool ((x + 3).tmod 3 == 0))).setIfInBounds (off + i * 10 + 4) (.int .i64 (x + 4))).setIfInBounds (off + i * 10 + 5) (.int .i64 (x + 5))).setIfInBounds (off + i * 10 + 6) (.int .i64 (x + 6))).setIfInBounds (off + i * 10 + 7) (.int .i64 (x + 7))).setIfInBounds (off + i * 10 + 8) (.int .i64 (x + 8))).setIfInBounds (off + i * 10 + 9) (.int .i64 (x + 9))).toList off l' ∧ ∀ j (h : j < l'.length), j < i + 1 → l'[j] = mkR mt (k + 10 * j) := by
  obtain ⟨_, h1, h2⟩ := sets_spec (rowV mt x) cur' (off + i * 10) (by show off + i * 10 + 10 ≤ _; omega)
  have e : ((((((((((cur'.setIfInBounds (off + i * 10) (.string (mt x))).setIfInBounds (off + i * 10 + 1) (.int .i64 (x + 1))).setIfInBounds (off + i * 10 + 2) (.int .i64 (x + 2))).setIfInBounds (off + i * 10 + 3) (.bool ((x + 3).tmod 3 == 0))).setIfInBounds (off + i * 10 + 4) (.int .i64 (x + 4))).setIfInBounds (off + i * 10 + 5) (.int .i64 (x + 5))).setIfInBounds (off + i * 10 + 6) (.int .i64 (x + 6))).setIfInBounds (off + i * 10 + 7) (.int .i64 (x + 7))).setIfInBounds (off + i * 10 + 8) (.int .i64 (x + 8))).setIfInBounds (off + i * 10 + 9) (.int .i64 (x + 9))) = sets cur' (off + i * 10) (rowV mt x) := rfl
  rw [e]
  generalize sets cur' (off + i * 10) (rowV mt x) = c2 at h1 h2
  refine ⟨l.set i (mkR mt x), by rw [List.length_set, hl], h.put (by omega) rfl h2 (fun w => ⟨[], [], rfl, ⟨h1 0 (by show 0 < 10; decide), rfl⟩, [], [], rfl, ⟨h1 1 (by show 1 < 10; decide), rfl⟩, [], [], rfl, ⟨h1 2 (by show 2 < 10; decide), rfl⟩, [], [], rfl, ⟨h1 3 (by show 3 < 10; decide), rfl⟩, [], [], rfl, ⟨h1 4 (by show 4 < 10; decide), rfl⟩, [], [], rfl, ⟨h1 5 (by show 5 < 10; decide), rfl⟩, [], [], rfl, ⟨h1 6 (by show 6 < 10; decide), rfl⟩, [], [], rfl, ⟨h1 7 (by show 7 < 10; decide), rfl⟩, [], [], rfl, ⟨h1 8 (by show 8 < 10; decide), rfl⟩, ⟨h1 9 (by show 9 < 10; decide), rfl⟩⟩), fun j hj hji => ?_⟩
  by_cases e : j = i
  · subst e
    rw [List.getElem_set_self, hx]
  · rw [List.getElem_set_ne (Ne.symm e)]
    exact hp j (by rwa [List.length_set] at hj) (by omega)
set_option maxHeartbeats 3200000 in
theorem markRow_walk {W w : World} (hB : Below W.heap.size W w) {g off cap n : Nat} {l : List kRow.T} {cur : Array Value} (hW : W.heap.size ≤ g) (hg : w.heap[g]? = some (.cells cur 34 (0, 0))) (hfit : off + l.length * 10 ≤ cur.size)
    (hF : FLr kRow cur.toList off l) (hl : n = l.length) (hn : n ≤ 1048576) {k : Int} (hk0 : 0 ≤ k) (hk : k ≤ 100000000000) {mt : Int → ByteArray}
    (hmt : ∀ k w, 0 ≤ k → k ≤ 1000000000000 → Below W.heap.size W w → Calls Try.prog 22 #[.int .i64 k] w fun e w' => e = .returned (.string (mt k)) ∧ Below w.heap.size w w') :
    Calls Try.prog 9 #[.slice (some ⟨g, off, none⟩) n cap, .int .i64 k] w fun e w' => e = .returned (.int .i64 (k + 10 * n)) ∧ ∃ cur' l', cur'.size = cur.size ∧ Mk w w' g cur' 34 ∧ FLr kRow cur'.toList off l' ∧ l'.length = n ∧ ∀ j (h : j < l'.length), l'[j] = mkR mt (k + 10 * j) := by
  have mixed : Try.prog.follows .mixedOrders = true := by kernel_rfl
  have HMT := Hid.mk hmt
  have HBW := Hid.mk hB
  have HF := Hid.mk hF
  have HG := Hid.mk hg
  have hfit : off + n * 10 ≤ cur.size := by rw [hl]; exact hfit
  have HL := Hid.mk hl
  clear hmt hB hF hg hl
  go_enter Try.func9, Try.ntmps9
  go_wp2
  go_loopg [1, 5] n (fun gq v1 v5 w' => ∃ (i : Nat) (x : Int) (cur' : Array Value) (l' : List kRow.T), v1 = .int .i64 x ∧ v5 = .int .i64 (i : Int) ∧ Hid (x = k + 10 * i) ∧ Hid (i + gq = n) ∧ Hid (cur'.size = cur.size) ∧ Hid (l'.length = n) ∧ Hid (Mk w w' g cur' 34) ∧ Hid (FLr kRow cur'.toList off l') ∧ Hid (∀ j (h : j < l'.length), j < i → l'[j] = mkR mt (k + 10 * j)))
  case atStart => exact ⟨0, k, cur, l, rfl, rfl, ⟨by omega⟩, ⟨by omega⟩, ⟨rfl⟩, ⟨HL.out.symm⟩, ⟨Mk.refl HG.out⟩, HF, ⟨fun j _ h => by omega⟩⟩
  case round =>
    obtain ⟨i, x, cur', l', rfl, rfl, HX, HI, HCS, HLL, HM, HFL, HP⟩ := hrel
    cases gk with
    | zero =>
      obtain rfl : i = n := by have := HI.out; omega
      have hd : decide ((i : Int) < (i : Int)) = false := decide_eq_false (by omega)
      go_wp2
      go_ret
      exact ⟨by rw [HX.out]; rfl, cur', l', HCS.out, HM.out, HFL.out, HLL.out, fun j h => HP.out j h (by have := HLL.out; omega)⟩
    | succ gk =>
      have hI := HI.out
      have hX := HX.out
      have hC := HCS.out
      have hi : i < n := by omega
      have hd : decide ((i : Int) < (n : Int)) = true := decide_eq_true (by omega)
      have hd0 : decide ((0 : Int) ≤ (i : Int)) = true := decide_eq_true (by omega)
      have x0 : 0 ≤ x := by omega
      have x1 : x ≤ 1000000000000 := by omega
      have HC := Hid.mk (HMT.out x wr x0 x1 (HM.out.base HBW.out hW HBW.out.size))
      have HW := Hid.mk (wr10 x0 x1)
      have HZ2 := Hid.mk (show off + i * 10 + 9 < cur'.size by omega)
      have w5 : wrap64 ((i : Int) + 1) = ((i + 1 : Nat) : Int) := by rw [w64 (by omega) (by omega)]; rfl
      have HN := Hid.mk (show i + 1 + gk = n by omega)
      have HX2 := Hid.mk (show x + 10 = k + 10 * ((i + 1 : Nat) : Int) by omega)
      clear hX hI hC x0 x1
      obtain ⟨w1, w2, w3, w4, w5', w6, w7, w8, w9, w10⟩ := HW.out
      go_wp2_with (go_at_call 22; (with_reducible refine HC.out.mono ?_); rintro e wa ⟨rfl, hb2⟩; have HB2 := Hid.mk hb2; have HM0 := Hid.mk (HM.out.below hb2); clear hb2; obtain ⟨c0, hc0⟩ := HM0.out.cell (p := off + i * 10) (by have := HZ2.out; (try simp only [Array.size_setIfInBounds]); omega); have hf0 := HM0.out.frozen (off + i * 10); have HM1 := Hid.mk (HM0.out.set (off + i * 10) (.string (mt x))); obtain ⟨c1, hc1⟩ := HM1.out.cell (p := off + i * 10 + 1) (by have := HZ2.out; (try simp only [Array.size_setIfInBounds]); omega); have hf1 := HM1.out.frozen (off + i * 10 + 1); have HM2 := Hid.mk (HM1.out.set (off + i * 10 + 1) (.int .i64 (x + 1))); obtain ⟨c2, hc2⟩ := HM2.out.cell (p := off + i * 10 + 2) (by have := HZ2.out; (try simp only [Array.size_setIfInBounds]); omega); have hf2 := HM2.out.frozen (off + i * 10 + 2); have HM3 := Hid.mk (HM2.out.set (off + i * 10 + 2) (.int .i64 (x + 2))); obtain ⟨c3, hc3⟩ := HM3.out.cell (p := off + i * 10 + 3) (by have := HZ2.out; (try simp only [Array.size_setIfInBounds]); omega); have hf3 := HM3.out.frozen (off + i * 10 + 3); have HM4 := Hid.mk (HM3.out.set (off + i * 10 + 3) (.bool ((x + 3).tmod 3 == 0))); obtain ⟨c4, hc4⟩ := HM4.out.cell (p := off + i * 10 + 4) (by have := HZ2.out; (try simp only [Array.size_setIfInBounds]); omega); have hf4 := HM4.out.frozen (off + i * 10 + 4); have HM5 := Hid.mk (HM4.out.set (off + i * 10 + 4) (.int .i64 (x + 4))); obtain ⟨c5, hc5⟩ := HM5.out.cell (p := off + i * 10 + 5) (by have := HZ2.out; (try simp only [Array.size_setIfInBounds]); omega); have hf5 := HM5.out.frozen (off + i * 10 + 5); have HM6 := Hid.mk (HM5.out.set (off + i * 10 + 5) (.int .i64 (x + 5))); obtain ⟨c6, hc6⟩ := HM6.out.cell (p := off + i * 10 + 6) (by have := HZ2.out; (try simp only [Array.size_setIfInBounds]); omega); have hf6 := HM6.out.frozen (off + i * 10 + 6); have HM7 := Hid.mk (HM6.out.set (off + i * 10 + 6) (.int .i64 (x + 6))); obtain ⟨c7, hc7⟩ := HM7.out.cell (p := off + i * 10 + 7) (by have := HZ2.out; (try simp only [Array.size_setIfInBounds]); omega); have hf7 := HM7.out.frozen (off + i * 10 + 7); have HM8 := Hid.mk (HM7.out.set (off + i * 10 + 7) (.int .i64 (x + 7))); obtain ⟨c8, hc8⟩ := HM8.out.cell (p := off + i * 10 + 8) (by have := HZ2.out; (try simp only [Array.size_setIfInBounds]); omega); have hf8 := HM8.out.frozen (off + i * 10 + 8); have HM9 := Hid.mk (HM8.out.set (off + i * 10 + 8) (.int .i64 (x + 8))); obtain ⟨c9, hc9⟩ := HM9.out.cell (p := off + i * 10 + 9) (by have := HZ2.out; (try simp only [Array.size_setIfInBounds]); omega); have hf9 := HM9.out.frozen (off + i * 10 + 9); have HM10 := Hid.mk (HM9.out.set (off + i * 10 + 9) (.int .i64 (x + 9))))
      obtain ⟨l2, q1, q2, q3⟩ := row_put HFL.out HLL.out hi HZ2.out HX.out HP.out
      go_roundg gk
      case measure => omega
      case rel => exact ⟨i + 1, x + 10, _, l2, (by show Value.int .i64 (wrap64 (x + 9 + 1)) = _; rw [w10]), rfl, HX2, HN, ⟨by simp only [Array.size_setIfInBounds]; exact HCS.out⟩, ⟨q1⟩, HM10, ⟨q2⟩, ⟨q3⟩⟩
theorem markRow_walk0 {w : World} {a : Option Addr} {k : Int} : Calls Try.prog 9 #[.slice a 0 0, .int .i64 k] w fun e w' => e = .returned (.int .i64 k) ∧ w' = w := by
  have mixed : Try.prog.follows .mixedOrders = true := by kernel_rfl
  go_enter Try.func9, Try.ntmps9
  go_wp2
  go_loopg [1, 5] 0 (fun gq v1 v5 w' => v1 = .int .i64 k ∧ v5 = .int .i64 0 ∧ w' = w)
  case atStart => exact ⟨rfl, rfl, rfl⟩
  case round =>
    obtain ⟨rfl, rfl, rfl⟩ := hrel
    go_wp2
    go_ret
    exact ⟨rfl, rfl⟩
theorem mkRow_of {mt : Int → ByteArray} {k : Int} {n : Nat} {l : List kRow.T} (h : l.length = n) (hp : ∀ j (h : j < l.length), l[j] = mkR mt (k + 10 * j)) : l = mkRow mt k n := by
  refine List.ext_getElem (by rw [h]; simp [mkRow]) fun j h1 h2 => ?_
  rw [hp j h1]
  simp [mkRow]
abbrev MT (W : World) (mt : Int → ByteArray) : Prop := ∀ k w, 0 ≤ k → k ≤ 1000000000000 → Below W.heap.size W w → Calls Try.prog 22 #[.int .i64 k] w fun e w' => e = .returned (.string (mt k)) ∧ Below w.heap.size w w'
/-- A row list marked. -/
theorem markRows {W w : World} (hB : Below W.heap.size W w) {v : Value} {l : List kRow.T} {fp : List Nat} (h : RdS w true (Rd w true kRow) kRow.n 34 v l fp) (hW : ∀ b ∈ fp, W.heap.size ≤ b) (hn : l.length ≤ 1048576) {k : Int} (hk0 : 0 ≤ k) (hk : k ≤ 100000000000) {mt : Int → ByteArray} (hmt : MT W mt) :
    Calls Try.prog 9 #[v, .int .i64 k] w fun e w' => e = .returned (.int .i64 (k + 10 * l.length)) ∧ Kp w w' fp ∧ RdS w' true (Rd w' true kRow) kRow.n 34 v (mkRow mt k l.length) fp := by
  rcases own_open rfl h with ⟨rfl, rfl, a, rfl⟩ | ⟨g, off, cap, cur, rfl, rfl, hg, hfit, hlc, hcm, hF⟩
  · refine markRow_walk0.mono ?_
    rintro e w' ⟨rfl, rfl⟩
    exact ⟨by simp, Kp.refl _ _, h⟩
  · have e4 : kRow.n = 10 := rfl
    rw [e4] at hfit
    have h4 : l.length * 10 ≤ cap * 10 := Nat.mul_le_mul_right 10 hlc
    refine (markRow_walk hB (hW g (List.mem_singleton.2 rfl)) hg (by omega) hF rfl hn hk0 hk hmt).mono ?_
    rintro e w' ⟨rfl, cur', l', c1, c2, c3, c4, c5⟩
    have hl := mkRow_of c4 c5
    refine ⟨rfl, c2.kp, ?_⟩
    have := own_close (κ := kRow) (e := 34) (l := l') (off := off) (cap := cap) c2.here (by rw [e4]; omega) (by omega) hcm c3
    rw [c4] at this
    rw [← hl]
    exact this
theorem below_step {W w w' : World} (h : Below W.heap.size W w) (k : Below w.heap.size w w') : Below W.heap.size W w' := h.trans (k.mono h.size)
theorem alloc_new' (w : World) (o : Obj) : Below w.heap.size w (w.alloc o) := (Below.refl _ _).alloc (Nat.le_refl _) _
end Go.Eva
end
section
/- FnExactTopRows walked. -/
namespace Go.Eva
open Go.Proofs Go.Shelf
open Go.RowKit Go.Lib
set_option linter.unusedVariables false
set_option linter.unusedSimpArgs false
set_option maxRecDepth 100000
abbrev rb (b : Bool) : Ending := .returned (.bool b)
abbrev ri (b : Int) : Ending := .returned (.int .i64 b)
def Stp (w w' : World) : Prop := Below w.heap.size w w'
theorem Stp.refl (w : World) : Stp w w := Below.refl _ _
theorem Stp.alloc {w w1 : World} {o : Obj} (h : Stp w w1) : Stp w (w1.alloc o) := Below.alloc h h.size o
theorem Stp.drew {w w1 : World} (h : Stp w w1) : Stp w w1.drew := ⟨h.os, h.tape, h.output, h.size, h.block⟩
theorem Stp.drewN {w w1 : World} {n : Nat} (h : Stp w w1) : Stp w (w1.drewN n) := ⟨h.os, h.tape, h.output, h.size, h.block⟩
theorem gen_at {P : Program} {f : FuncId} {as1 : Array Value} {Q : Ending → World → Prop} {w0 w : World} (hb : Stp w0 w) (h : ∀ u, Below w0.heap.size w0 u → Calls P f as1 u Q) : Calls P f as1 w Q := h w hb
theorem gen_new {P : Program} {f : FuncId} {as1 : Array Value} {Q : Ending → World → Prop} {w0 w : World} {o : Obj} (hb : Stp (w0.alloc o) w) (h : ∀ u, Below w0.heap.size w0 u → u.heap[w0.heap.size]? = some o → Calls P f as1 u Q) : Calls P f as1 w Q :=
  h w (Below.trans (alloc_new' w0 o) (Below.mono hb (by show w0.heap.size ≤ (w0.heap.push o).size; rw [Array.size_push]; omega))) (by
    have e : (w0.alloc o).heap[w0.heap.size]? = some o := by show (w0.heap.push o)[w0.heap.size]? = some o; simp
    exact (hb.block _ (Array.getElem?_eq_some_iff.1 e).1).trans e)
theorem blk_lt {w : World} {b : Nat} {o : Obj} (h : w.heap[b]? = some o) : b < w.heap.size := (Array.getElem?_eq_some_iff.1 h).1
theorem blk_on {w w' : World} {b : Nat} {o : Obj} (h : w.heap[b]? = some o) (hb : Below w.heap.size w w') : w'.heap[b]? = some o := (hb.block b (blk_lt h)).trans h
set_option maxHeartbeats 3200000 in
theorem topx_walk {W : World} {m r : Int} {va : Value} {l L : List kRow.T} {mt : Int → ByteArray}
    (h4 : ∀ w, Below W.heap.size W w → Calls Try.prog 4 #[va, .int .i64 1048576] w fun x w' => x = ri r ∧ Below w.heap.size w w')
    (h6 : 0 ≤ r → ∀ w, Below W.heap.size W w → Calls Try.prog 6 #[va] w fun x w' => ∃ v fp, x = .returned v ∧ Own w.heap.size w' 34 kRow v l fp ∧ Below w.heap.size w w')
    (h5 : 0 ≤ r → ∀ w v lo fp, Below W.heap.size W w → Own lo w 34 kRow v l fp → Calls Try.prog 5 #[v, .int .i64 m] w fun x w' => ∃ v fp, x = .returned v ∧ Own w.heap.size w' 34 kRow v L fp ∧ Below w.heap.size w w')
    (h7 : 0 ≤ r → ∀ w v lo fp, Below W.heap.size W w → Own lo w 34 kRow v l fp → Calls Try.prog 7 #[v, .int .i64 m] w fun x w' => ∃ v fp, x = .returned v ∧ Own w.heap.size w' 34 kRow v L fp ∧ Below w.heap.size w w')
    (h8 : 0 ≤ r → ∀ w v1 v2 lo1 lo2 fp1 fp2, Below W.heap.size W w → Own lo1 w 34 kRow v1 L fp1 → Own lo2 w 34 kRow v2 L fp2 → Calls Try.prog 8 #[v1, v2] w fun x w' => x = rb true ∧ Below w.heap.size w w')
    (h8b : 0 ≤ r → ∀ w v1 v2 lo1 lo2 fp1 fp2, Below W.heap.size W w → Own lo1 w 34 kRow v1 l fp1 → Own lo2 w 34 kRow v2 l fp2 → Calls Try.prog 8 #[v1, v2] w fun x w' => x = rb true ∧ Below w.heap.size w w')
    (h9 : 0 ≤ r → ∀ w v lo fp, Below W.heap.size W w → Own lo w 34 kRow v L fp → (∀ b ∈ fp, W.heap.size ≤ b) → Calls Try.prog 9 #[v, .int .i64 1] w fun e w' => e = ri (1 + 10 * (L.length : Nat)) ∧ Kp w w' fp ∧ RdS w' true (Rd w' true kRow) kRow.n 34 v (mkRow mt 1 L.length) fp)
    (h9b : 0 ≤ r → ∀ w v lo fp, Below W.heap.size W w → Own lo w 34 kRow v l fp → (∀ b ∈ fp, W.heap.size ≤ b) → Calls Try.prog 9 #[v, .int .i64 1] w fun e w' => e = ri (1 + 10 * (l.length : Nat)) ∧ Kp w w' fp ∧ RdS w' true (Rd w' true kRow) kRow.n 34 v (mkRow mt 1 l.length) fp)
    (h10 : 0 ≤ r → ∀ w v lo fp, Below W.heap.size W w → Own lo w 34 kRow v (mkRow mt 1 L.length) fp → Calls Try.prog 10 #[v, .int .i64 1] w fun x w' => x = ri (1 + 10 * (L.length : Nat)) ∧ Below w.heap.size w w') :
    Calls Try.prog 3 #[va, .int .i64 m] W fun e w' => e = rb true ∧ Below W.heap.size W w' := by
  have mixed : Try.prog.follows .mixedOrders = true := by kernel_rfl
  have H4 := Hid.mk h4
  have HB0 := Hid.mk (Below.refl W.heap.size W)
  by_cases hr : 0 ≤ r
  · have hd : decide (r < 0) = false := decide_eq_false (by omega)
    have hq0 : decide ((1 + 10 * (l.length : Nat) : Int) < 0) = false := decide_eq_false (by omega)
    have hq1 : decide ((1 + 10 * (L.length : Nat) : Int) < 0) = false := decide_eq_false (by omega)
    have H6 := Hid.mk (h6 hr)
    have H5 := Hid.mk (h5 hr)
    have H7 := Hid.mk (h7 hr)
    have H8 := Hid.mk (h8 hr)
    have H8b := Hid.mk (h8b hr)
    have H9 := Hid.mk (h9 hr)
    have H9b := Hid.mk (h9b hr)
    have H10 := Hid.mk (h10 hr)
    have A1 : True := trivial
    have A2 : True := trivial
    have D1 : True := trivial
    have E1 : True := trivial
    have A3 : True := trivial
    have E2 : True := trivial
    have I1 : True := trivial
    have E3 : True := trivial
    have J1 : True := trivial
    clear h4 h6 h5 h7 h8 h8b h9 h9b h10 hr
    go_enter Try.func3, Try.ntmps3
    go_wp2_with (first
      | (go_at_call 4; (with_reducible refine gen_at (w0 := W) (by repeat (with_reducible first | exact Stp.refl _ | apply Stp.alloc | apply Stp.drewN | apply Stp.drew)) ?_); intro w1 hu; have HB1 := Hid.mk (below_step HB0.out hu); clear hu; (with_reducible refine (H4.out _ HB1.out).mono ?_); rintro e w2 ⟨rfl, hb⟩; have HB2 := Hid.mk (below_step HB1.out hb); clear hb)
      | (go_at_call 6; clear A1; (with_reducible refine gen_at (w0 := w2) (by repeat (with_reducible first | exact Stp.refl _ | apply Stp.alloc | apply Stp.drewN | apply Stp.drew)) ?_); intro w3 hu; have HB3 := Hid.mk (below_step HB2.out hu); clear hu; (with_reducible refine (H6.out _ HB3.out).mono ?_); rintro e w4 ⟨vS, fS, rfl, ho, hb⟩; have HS4 := Hid.mk ho; have ZS := Hid.mk HB3.out.size; have HB4 := Hid.mk (below_step HB3.out hb); clear ho hb)
      | (go_at_call 5; (with_reducible refine gen_at (w0 := w4) (by repeat (with_reducible first | exact Stp.refl _ | apply Stp.alloc | apply Stp.drewN | apply Stp.drew)) ?_); intro w5 hu; have HS5 := Hid.mk (HS4.out.below hu); have HB5 := Hid.mk (below_step HB4.out hu); clear hu; (with_reducible refine (H5.out _ _ _ _ HB5.out HS5.out).mono ?_); rintro e w6 ⟨vO, fO, rfl, ho, hb⟩; have HO6 := Hid.mk ho; have ZO := Hid.mk HB5.out.size; have HB6 := Hid.mk (below_step HB5.out hb); clear ho hb)
      | (go_at_call 6; clear A2; (with_reducible refine gen_at (w0 := w6) (by repeat (with_reducible first | exact Stp.refl _ | apply Stp.alloc | apply Stp.drewN | apply Stp.drew)) ?_); intro w7 hu; have HO7 := Hid.mk (HO6.out.below hu); have HB7 := Hid.mk (below_step HB6.out hu); clear hu; (with_reducible refine (H6.out _ HB7.out).mono ?_); rintro e w8 ⟨vX, fX, rfl, ho, hb⟩; have HX8 := Hid.mk ho; have LOX := Hid.mk HO7.out.lt; have ZX := Hid.mk HB7.out.size; have HO8 := Hid.mk (HO7.out.below hb); have HB8 := Hid.mk (below_step HB7.out hb); clear ho hb)
      | (go_at_call 7; clear D1; (with_reducible refine gen_at (w0 := w8) (by repeat (with_reducible first | exact Stp.refl _ | apply Stp.alloc | apply Stp.drewN | apply Stp.drew)) ?_); intro w9 hu; have HO9 := Hid.mk (HO8.out.below hu); have HX9 := Hid.mk (HX8.out.below hu); have HB9 := Hid.mk (below_step HB8.out hu); clear hu; (with_reducible refine (H7.out _ _ _ _ HB9.out HX9.out).mono ?_); rintro e w10 ⟨vG, fG, rfl, ho, hb⟩; have HG10 := Hid.mk ho; have LOG := Hid.mk HO9.out.lt; have LXG := Hid.mk HX9.out.lt; have ZG := Hid.mk HB9.out.size; have HO10 := Hid.mk (HO9.out.below hb); have HX10 := Hid.mk (HX9.out.below hb); have HB10 := Hid.mk (below_step HB9.out hb); clear ho hb)
      | (go_at_call 8; clear E1; (with_reducible refine gen_at (w0 := w10) (by repeat (with_reducible first | exact Stp.refl _ | apply Stp.alloc | apply Stp.drewN | apply Stp.drew)) ?_); intro w11 hu; have HO11 := Hid.mk (HO10.out.below hu); have HX11 := Hid.mk (HX10.out.below hu); have HG11 := Hid.mk (HG10.out.below hu); have HB11 := Hid.mk (below_step HB10.out hu); clear hu; (with_reducible refine (H8.out _ _ _ _ _ _ _ HB11.out HG11.out HO11.out).mono ?_); rintro e w12 ⟨rfl, hb⟩; have HO12 := Hid.mk (HO11.out.below hb); have HX12 := Hid.mk (HX11.out.below hb); have HG12 := Hid.mk (HG11.out.below hb); have HB12 := Hid.mk (below_step HB11.out hb); clear hb)
      | (go_at_call 6; clear A3; (with_reducible refine gen_at (w0 := w12) (by repeat (with_reducible first | exact Stp.refl _ | apply Stp.alloc | apply Stp.drewN | apply Stp.drew)) ?_); intro w13 hu; have HO13 := Hid.mk (HO12.out.below hu); have HX13 := Hid.mk (HX12.out.below hu); have HG13 := Hid.mk (HG12.out.below hu); have HB13 := Hid.mk (below_step HB12.out hu); clear hu; (with_reducible refine (H6.out _ HB13.out).mono ?_); rintro e w14 ⟨vY, fY, rfl, ho, hb⟩; have HY14 := Hid.mk ho; have LOY := Hid.mk HO13.out.lt; have LXY := Hid.mk HX13.out.lt; have LGY := Hid.mk HG13.out.lt; have ZY := Hid.mk HB13.out.size; have HO14 := Hid.mk (HO13.out.below hb); have HX14 := Hid.mk (HX13.out.below hb); have HG14 := Hid.mk (HG13.out.below hb); have HB14 := Hid.mk (below_step HB13.out hb); clear ho hb)
      | (go_at_call 8; clear E2; (with_reducible refine gen_at (w0 := w14) (by repeat (with_reducible first | exact Stp.refl _ | apply Stp.alloc | apply Stp.drewN | apply Stp.drew)) ?_); intro w15 hu; have HO15 := Hid.mk (HO14.out.below hu); have HX15 := Hid.mk (HX14.out.below hu); have HG15 := Hid.mk (HG14.out.below hu); have HY15 := Hid.mk (HY14.out.below hu); have HB15 := Hid.mk (below_step HB14.out hu); clear hu; (with_reducible refine (H8b.out _ _ _ _ _ _ _ HB15.out HX15.out HY15.out).mono ?_); rintro e w16 ⟨rfl, hb⟩; have HO16 := Hid.mk (HO15.out.below hb); have HX16 := Hid.mk (HX15.out.below hb); have HG16 := Hid.mk (HG15.out.below hb); have HB16 := Hid.mk (below_step HB15.out hb); clear hb)
      | (go_at_call 9; clear I1; (with_reducible refine gen_at (w0 := w16) (by repeat (with_reducible first | exact Stp.refl _ | apply Stp.alloc | apply Stp.drewN | apply Stp.drew)) ?_); intro w17 hu; have HO17 := Hid.mk (HO16.out.below hu); have HX17 := Hid.mk (HX16.out.below hu); have HG17 := Hid.mk (HG16.out.below hu); have HB17 := Hid.mk (below_step HB16.out hu); clear hu; (with_reducible refine (H9b.out _ _ _ _ HB17.out HX17.out (fun b hb => Nat.le_trans ZX.out (HX17.out.lo b hb))).mono ?_); rintro e w18 ⟨rfl, hk, ho⟩; have HX18 := Hid.mk (Own.mk ho HX17.out.nd HX17.out.lo); have HO18 := Hid.mk (HO17.out.keep hk.size (fun b hb => hk.other b (HO17.out.lt b hb) (fun q => by have := HX17.out.lo b q; have := LOX.out b hb; omega))); have HG18 := Hid.mk (HG17.out.keep hk.size (fun b hb => hk.other b (HG17.out.lt b hb) (fun q => by have := HG17.out.lo b hb; have := LXG.out b q; omega))); have HB18 := Hid.mk (hk.base HB17.out (fun b hb => Nat.le_trans ZX.out (HX17.out.lo b hb))); clear hk ho)
      | (go_at_call 8; clear E3; (with_reducible refine gen_at (w0 := w18) (by repeat (with_reducible first | exact Stp.refl _ | apply Stp.alloc | apply Stp.drewN | apply Stp.drew)) ?_); intro w19 hu; have HO19 := Hid.mk (HO18.out.below hu); have HG19 := Hid.mk (HG18.out.below hu); have HB19 := Hid.mk (below_step HB18.out hu); clear hu; (with_reducible refine (H8.out _ _ _ _ _ _ _ HB19.out HG19.out HO19.out).mono ?_); rintro e w20 ⟨rfl, hb⟩; have HO20 := Hid.mk (HO19.out.below hb); have HG20 := Hid.mk (HG19.out.below hb); have HB20 := Hid.mk (below_step HB19.out hb); clear hb)
      | (go_at_call 9; (with_reducible refine gen_at (w0 := w20) (by repeat (with_reducible first | exact Stp.refl _ | apply Stp.alloc | apply Stp.drewN | apply Stp.drew)) ?_); intro w21 hu; have HO21 := Hid.mk (HO20.out.below hu); have HG21 := Hid.mk (HG20.out.below hu); have HB21 := Hid.mk (below_step HB20.out hu); clear hu; (with_reducible refine (H9.out _ _ _ _ HB21.out HG21.out (fun b hb => Nat.le_trans ZG.out (HG21.out.lo b hb))).mono ?_); rintro e w22 ⟨rfl, hk, ho⟩; have HG22 := Hid.mk (Own.mk ho HG21.out.nd HG21.out.lo); have HO22 := Hid.mk (HO21.out.keep hk.size (fun b hb => hk.other b (HO21.out.lt b hb) (fun q => by have := HG21.out.lo b q; have := LOG.out b hb; omega))); have HB22 := Hid.mk (hk.base HB21.out (fun b hb => Nat.le_trans ZG.out (HG21.out.lo b hb))); clear hk ho)
      | (go_at_call 10; clear J1; (with_reducible refine gen_at (w0 := w22) (by repeat (with_reducible first | exact Stp.refl _ | apply Stp.alloc | apply Stp.drewN | apply Stp.drew)) ?_); intro w23 hu; have HO23 := Hid.mk (HO22.out.below hu); have HG23 := Hid.mk (HG22.out.below hu); have HB23 := Hid.mk (below_step HB22.out hu); clear hu; (with_reducible refine (H10.out _ _ _ _ HB23.out HG23.out).mono ?_); rintro e w24 ⟨rfl, hb⟩; have HO24 := Hid.mk (HO23.out.below hb); have HG24 := Hid.mk (HG23.out.below hb); have HB24 := Hid.mk (below_step HB23.out hb); clear hb)
      | (go_at_call 6; (with_reducible refine gen_at (w0 := w24) (by repeat (with_reducible first | exact Stp.refl _ | apply Stp.alloc | apply Stp.drewN | apply Stp.drew)) ?_); intro w25 hu; have HO25 := Hid.mk (HO24.out.below hu); have HG25 := Hid.mk (HG24.out.below hu); have HB25 := Hid.mk (below_step HB24.out hu); clear hu; (with_reducible refine (H6.out _ HB25.out).mono ?_); rintro e w26 ⟨vU, fU, rfl, ho, hb⟩; have HU26 := Hid.mk ho; have LOU := Hid.mk HO25.out.lt; have LGU := Hid.mk HG25.out.lt; have ZU := Hid.mk HB25.out.size; have HO26 := Hid.mk (HO25.out.below hb); have HG26 := Hid.mk (HG25.out.below hb); have HB26 := Hid.mk (below_step HB25.out hb); clear ho hb)
      | (go_at_call 7; (with_reducible refine gen_at (w0 := w26) (by repeat (with_reducible first | exact Stp.refl _ | apply Stp.alloc | apply Stp.drewN | apply Stp.drew)) ?_); intro w27 hu; have HO27 := Hid.mk (HO26.out.below hu); have HG27 := Hid.mk (HG26.out.below hu); have HU27 := Hid.mk (HU26.out.below hu); have HB27 := Hid.mk (below_step HB26.out hu); clear hu; (with_reducible refine (H7.out _ _ _ _ HB27.out HU27.out).mono ?_); rintro e w28 ⟨vV, fV, rfl, ho, hb⟩; have HV28 := Hid.mk ho; have LOV := Hid.mk HO27.out.lt; have LGV := Hid.mk HG27.out.lt; have ZV := Hid.mk HB27.out.size; have HO28 := Hid.mk (HO27.out.below hb); have HG28 := Hid.mk (HG27.out.below hb); have HB28 := Hid.mk (below_step HB27.out hb); clear ho hb)
      | (go_at_call 8; (with_reducible refine gen_at (w0 := w28) (by repeat (with_reducible first | exact Stp.refl _ | apply Stp.alloc | apply Stp.drewN | apply Stp.drew)) ?_); intro w29 hu; have HO29 := Hid.mk (HO28.out.below hu); have HG29 := Hid.mk (HG28.out.below hu); have HV29 := Hid.mk (HV28.out.below hu); have HB29 := Hid.mk (below_step HB28.out hu); clear hu; (with_reducible refine (H8.out _ _ _ _ _ _ _ HB29.out HV29.out HO29.out).mono ?_); rintro e w30 ⟨rfl, hb⟩; have HG30 := Hid.mk (HG29.out.below hb); have HB30 := Hid.mk (below_step HB29.out hb); clear hb)
      | (go_at_call 10; (with_reducible refine gen_at (w0 := w30) (by repeat (with_reducible first | exact Stp.refl _ | apply Stp.alloc | apply Stp.drewN | apply Stp.drew)) ?_); intro w31 hu; have HG31 := Hid.mk (HG30.out.below hu); have HB31 := Hid.mk (below_step HB30.out hu); clear hu; (with_reducible refine (H10.out _ _ _ _ HB31.out HG31.out).mono ?_); rintro e w32 ⟨rfl, hb⟩; have HG32 := Hid.mk (HG31.out.below hb); have HB32 := Hid.mk (below_step HB31.out hb); clear hb))
    go_ret
    exact ⟨rfl, HB32.out⟩
  · have hd : decide (r < 0) = true := decide_eq_true (by omega)
    clear h4 h6 h5 h7 h8 h8b h9 h9b h10 hr
    go_enter Try.func3, Try.ntmps3
    go_wp2_with (go_at_call 4; (with_reducible refine gen_at (w0 := W) (by repeat (with_reducible first | exact Stp.refl _ | apply Stp.alloc | apply Stp.drewN | apply Stp.drew)) ?_); intro w1 hu; have HB1 := Hid.mk (below_step HB0.out hu); clear hu; (with_reducible refine (H4.out _ HB1.out).mono ?_); rintro e w2 ⟨rfl, hb⟩; have HB2 := Hid.mk (below_step HB1.out hb); clear hb)
    go_ret
    exact ⟨rfl, HB2.out⟩
end Go.Eva
end
section
/- Whatever reads as data of a type reads as a value of its kind. -/
namespace Go.Eva
set_option linter.unusedVariables false
set_option linter.unusedSimpArgs false
universe u
variable {P : Program} {t e : TypeId}

def Reads (P : Program) (t : TypeId) (κ : Kd) (G : κ.T → Prop) : Prop :=
  P.cellsOf t = κ.n ∧ ∀ (H : Type) (enc : TypeId × Value → H) (W : World) (base : Nat) (spare : Nat → Bool) (held : Bool) (fuel : Nat) (cs : List Value) (x : DataW H × List MemPlace),
    DataW.trod enc P W base spare held fuel t cs = some x → ∃ y fp, Rd W false κ (fun j => cs[j]?) y fp ∧ G y
/-- The fields fs, from cell off on. -/
def ReadsF (P : Program) (fs : List Field) (off : Nat) (κ : Kd) (G : κ.T → Prop) : Prop :=
  ∀ (H : Type) (enc : TypeId × Value → H) (W : World) (base : Nat) (spare : Nat → Bool) (held : Bool) (n : Nat) (cs : List Value), cs.length = off + κ.n →
    (∀ f, f ∈ fs → ∃ y, DataW.trod enc P W base spare held n f.type ((cs.drop f.offset).take (P.cellsOf f.type)) = some y) → ∃ y fp, Rd W false κ (fun j => (cs.drop off)[j]?) y fp ∧ G y
theorem reads_int {k : IntKind} (ht : P.underlying t = some (.int k)) (hc : P.cellsOf t = 1) : Reads P t (.int k) (fun y => True) :=
  ⟨hc, fun H enc W base spare held fuel cs x h => by
    obtain ⟨n, rfl, _, hw⟩ := DataW.trod_int ht h
    exact ⟨n, [], ⟨rfl, rfl⟩, trivial⟩⟩
theorem reads_bool (ht : P.underlying t = some .bool) (hc : P.cellsOf t = 1) : Reads P t .bool (fun _ => True) :=
  ⟨hc, fun H enc W base spare held fuel cs x h => by
    obtain ⟨n, rfl, _⟩ := DataW.trod_bool ht h
    exact ⟨n, [], ⟨rfl, rfl⟩, trivial⟩⟩
theorem reads_str (ht : P.underlying t = some .string) (hc : P.cellsOf t = 1) : Reads P t .str (fun y => ByteArray.size y ≤ maxLen) :=
  ⟨hc, fun H enc W base spare held fuel cs x h => by
    obtain ⟨n, rfl, _, hw⟩ := DataW.trod_string ht h
    exact ⟨n, [], ⟨rfl, rfl⟩, hw⟩⟩
theorem Kd.n_pos : ∀ κ : Kd, 0 < κ.n
  | .int _ => Nat.one_pos
  | .bool => Nat.one_pos
  | .str => Nat.one_pos
  | .sl _ _ => Nat.one_pos
  | .pair a b => Nat.lt_of_lt_of_le (Kd.n_pos a) (Nat.le_add_right _ _)
theorem choose2 {α β : Type} (n : Nat) (Q : Nat → α → β → Prop) (h : ∀ i, i < n → ∃ a b, Q i a b) : ∃ (l : List α) (m : List β), l.length = n ∧ m.length = n ∧ ∀ i (h1 : i < l.length) (h2 : i < m.length), Q i l[i] m[i] := by
  induction n with
  | zero => exact ⟨[], [], rfl, rfl, fun i h1 => by cases h1⟩
  | succ n ih =>
    obtain ⟨l, m, h1, h2, h3⟩ := ih (fun i hi => h i (by omega))
    obtain ⟨a, b, hq⟩ := h n (by omega)
    refine ⟨l ++ [a], m ++ [b], by simp [h1], by simp [h2], fun i q1 q2 => ?_⟩
    by_cases hi : i < n
    · rw [List.getElem_append_left (by omega), List.getElem_append_left (by omega)]
      exact h3 i (by omega) (by omega)
    · have e : i = n := by simp [h1] at q1; omega
      subst e
      rw [List.getElem_append_right (by omega), List.getElem_append_right (by omega)]
      simp only [h1, h2, Nat.sub_self, List.getElem_cons_zero]
      exact hq
theorem reads_sl {κ : Kd} {G : κ.T → Prop} (ht : P.underlying t = some (.slice e)) (hc : P.cellsOf t = 1) (he : Reads P e κ G) : Reads P t (.sl e κ) (fun l => List.length l ≤ maxLen ∧ ∀ x ∈ l, G x) :=
  ⟨hc, fun H enc W base spare held fuel cs x h => by
    rcases Go.Deep.open_slice ht h with ⟨rfl, _⟩ | ⟨a, len, cap, m, n, D, Pl, rfl, _, hl, hm, hmm, _, hx⟩
    · exact ⟨[], [], ⟨_, rfl, .inl ⟨rfl, rfl, none, 0, rfl, fun k => (by cases k)⟩⟩, Nat.zero_le _, fun x hx => by cases hx⟩
    · have hlm : len ≤ m := by
        rw [hmm]
        split
        · exact hl
        · exact Nat.le_refl _
      have hn := Kd.n_pos κ
      have hV : ∀ i, i < len → ∃ (y : κ.T) (fp : List Nat), Rd W false κ (fun j => W.cell? (a.add (i * κ.n + j))) y fp ∧ G y ∧ ∃ c, W.cell? (a.add (i * κ.n)) = some c := fun i hi => by
        obtain ⟨cs', h1, h2⟩ := hx i (by omega)
        obtain ⟨y, fp, hr, hg⟩ := he.2 H enc W base spare held n cs' _ h2
        obtain ⟨_, h3, h4⟩ := World.cells?_some h1
        rw [he.1] at h3 h4
        have hcell : ∀ j, j < κ.n → W.cell? (a.add (i * κ.n + j)) = cs'[j]? := fun j hj => by
          have := h4 j hj
          rw [← this]
          congr 1
          exact (Go.Deep.add_add a (i * κ.n) j).symm
        refine ⟨y, fp, Rd.frame id (Nat.le_refl _) κ _ _ y fp hr (fun _ _ => rfl) hcell, hg, cs'[0]'(by omega), ?_⟩
        have := hcell 0 hn
        rw [Nat.add_zero] at this
        rw [this, List.getElem?_eq_getElem]
      cases len with
      | zero => exact ⟨[], [], ⟨_, rfl, .inl ⟨rfl, rfl, some a, cap, rfl, fun k => (by cases k)⟩⟩, Nat.zero_le _, fun x hx => by cases hx⟩
      | succ len =>
        obtain ⟨_, _, _, _, c0, hc0⟩ := hV 0 (by omega)
        rw [Nat.zero_mul] at hc0
        obtain ⟨g, off, spot⟩ := a
        have hspot : spot = none := by
          cases spot with
          | none => rfl
          | some s =>
            have : (⟨g, off, some s⟩ : Addr).add 0 = ⟨g, off, some s⟩ := by simp [Addr.add]
            rw [this] at hc0
            simp only [World.cell?, Option.isSome, if_true] at hc0
            split at hc0 <;> cases hc0
        subst hspot
        have hadd : ∀ i, (⟨g, off, none⟩ : Addr).add i = ⟨g, off + i, none⟩ := fun i => by unfold Addr.add; split <;> simp_all
        have hglt : g < W.heap.size := by
          rw [hadd] at hc0
          simp only [World.cell?] at hc0
          refine Nat.lt_of_not_le fun k => ?_
          rw [Array.getElem?_eq_none k] at hc0
          cases hc0
        obtain ⟨l, fps, q1, q2, q3⟩ := choose2 (len + 1) (fun i (y : κ.T) fp => Rd W false κ (fun j => W.cell? ((⟨g, off, none⟩ : Addr).add (i * κ.n + j))) y fp ∧ G y) (fun i hi => by
          obtain ⟨y, fp, h1, h2, _⟩ := hV i hi
          exact ⟨y, fp, h1, h2⟩)
        refine ⟨l, g :: fps.flatten, ⟨_, rfl, .inr ⟨g, off, cap, fps, by rw [q1], rfl, by rw [q1, q2], hglt, by rw [q1]; exact hl, fun k => (by cases k), fun i hi hi' => ?_⟩⟩, by rw [q1]; omega, fun x hx => ?_⟩
        · have := (q3 i hi hi').1
          simp only [hadd, ← Nat.add_assoc] at this
          exact this
        · obtain ⟨i, hi, rfl⟩ := List.getElem_of_mem hx
          exact (q3 i hi (by omega)).2⟩
theorem readsF_one {κ : Kd} {G : κ.T → Prop} {f : Field} {off : Nat} (ho : f.offset = off) (h : Reads P f.type κ G) : ReadsF P [f] off κ G := fun H enc W base spare held n cs hl hf => by
  obtain ⟨y, hy⟩ := hf f (by simp)
  obtain ⟨z, fp, hz, hg⟩ := h.2 H enc W base spare held n _ _ hy
  rw [h.1, ho, List.take_of_length_le (by rw [List.length_drop]; omega)] at hz
  exact ⟨z, fp, hz, hg⟩
theorem readsF_cons {a b : Kd} {Ga : a.T → Prop} {Gb : b.T → Prop} {f : Field} {fs : List Field} {off : Nat} (ho : f.offset = off) (h : Reads P f.type a Ga) (hs : ReadsF P fs (off + a.n) b Gb) :
    ReadsF P (f :: fs) off (.pair a b) (fun y => Ga y.1 ∧ Gb y.2) := fun H enc W base spare held n cs hl hf => by
  have hl2 : cs.length = off + (a.n + b.n) := hl
  obtain ⟨y, hy⟩ := hf f (by simp)
  obtain ⟨z, f1, hz, hg⟩ := h.2 H enc W base spare held n _ _ hy
  rw [h.1, ho] at hz
  obtain ⟨z2, f2, hz2, hg2⟩ := hs H enc W base spare held n cs (by omega) (fun f' hf' => hf f' (by simp [hf']))
  refine ⟨(z, z2), f1 ++ f2, ⟨f1, f2, rfl, Rd.frame id (Nat.le_refl _) a _ _ z f1 hz (fun _ _ => rfl) (fun j hj => ?_), Rd.frame id (Nat.le_refl _) b _ _ z2 f2 hz2 (fun _ _ => rfl) (fun j hj => ?_)⟩, hg, hg2⟩
  · show (cs.drop off)[j]? = ((cs.drop off).take a.n)[j]?
    rw [List.getElem?_take, if_pos hj]
  · show (cs.drop off)[a.n + j]? = (cs.drop (off + a.n))[j]?
    rw [List.getElem?_drop, List.getElem?_drop]
    congr 1
    omega
theorem reads_struct {κ : Kd} {G : κ.T → Prop} {fs : Array Field} {l : List Field} (ht : P.underlying t = some (.struct fs)) (hfs : fs.toList = l) (hc : P.cellsOf t = κ.n) (h : ReadsF P l 0 κ G) : Reads P t κ G :=
  ⟨hc, fun H enc W base spare held fuel cs x hx => by
    obtain ⟨xs, n, _, _, hl, hxs, hf⟩ := DataW.trod_struct ht hx
    obtain ⟨y, fp, hy, hg⟩ := h H enc W base spare held n cs (by rw [hl, hc]; omega) (fun q hq => by
      rw [← hfs] at hq
      obtain ⟨i, hi⟩ := List.getElem?_of_mem hq
      have hi2 : fs[i]? = some q := by simpa using hi
      have hlt : i < fs.size := (Array.getElem?_eq_some_iff.1 hi2).1
      rw [hf i q hi2]
      exact ⟨xs[i]'(by omega), List.getElem?_eq_getElem (by omega)⟩)
    exact ⟨y, fp, hy, hg⟩⟩
/-- A list read may be lent. -/
theorem lent_of {W : World} {e : TypeId} {κ : Kd} {v : Value} {l : List κ.T} {fp : List Nat} (h : RdS W false (Rd W false κ) κ.n e v l fp) : Lent W e κ v l := ⟨fp, h, h.lt fun g x f q => Rd.lt κ g x f q⟩
end Go.Eva
end
section
/- FnExactTopRows: the law holds. -/
namespace Go.Eva
open Go.Proofs
open Go.RowKit (Below)
set_option linter.unusedVariables false
set_option linter.unusedSimpArgs false
variable {P : Program} in
/-- A list and a number read: a list of one's own. -/
theorem call_lil {W w : World} {f : FuncId} {e e' : TypeId} {κ κ' : Kd} {F : List κ.T → Int → Option (List κ'.T × Unit)} (hg : Good P W f ⟨[.one (.sl (.imm true) e κ), .one (.int .i64)], [], [.one (.sl .own e' κ')], [], fun (x : List κ.T × Int × Unit) => F x.1 x.2.1⟩)
    (hB : Below W.heap.size W w) {v : Value} {l : List κ.T} (h : Lent w e κ v l) {k : Int} {r : List κ'.T} (hx : F l k = some (r, ())) :
    Calls P f #[v, .int .i64 k] w fun x w' => ∃ v' fp, x = .returned v' ∧ Own w.heap.size w' e' κ' v' r fp ∧ Below w.heap.size w w' := by
  refine (call_core hg hB (H := [⟨.sl (.imm true) e κ l, v, []⟩, ⟨.int .i64 k, .int .i64 k, []⟩]) (two_hd ⟨rfl, h.rc⟩ ⟨rfl, int_rc k⟩) (x := (l, k, ())) (r := (r, ())) hx rfl rfl rfl).mono ?_
  rintro x w' ⟨v, H', frz1, imm1, rfl, p1, p2, p3, p5⟩
  have p2 : H'.map (·.a) = [.sl .own e' κ' r] := p2
  match H', p2, p1, p3 with
  | [⟨_, v', f'⟩], p2, p1, p3 =>
  simp only [List.map_cons, List.map_nil, List.cons.injEq, and_true] at p2
  subst p2
  have p3 : v = v' := p3
  subst p3
  exact ⟨v, f', rfl, own_out p1 p5, ifc_out hB p1 p5⟩
theorem okeq {α : Type} {x : Option α} {a : α} (h : ok x fun r => r = a) : x = some a := by
  obtain ⟨r, h, rfl⟩ := h
  exact h
theorem mt_of (W : World) {n : Nat} (hn : 20000000 ≤ n) : MT W (mtx n) := fun k w h0 h1 hB => call_text (g22 W n) hB (f22 hn h0 h1)
theorem topx_calls {W : World} {m : Int} {va : Value} {l : List kRow.T} (hv : Lent W 32 kRow va l) (hl : l.length ≤ maxLen ∧ ∀ x ∈ l, x.1.size ≤ maxLen) :
    Calls Try.prog 3 #[va, .int .i64 m] W fun e w' => e = rb true ∧ Below W.heap.size W w' := by
  obtain ⟨n, hn⟩ : ∃ n : Nat, 20000000 ≤ n := ⟨20000000, Nat.le_refl _⟩
  obtain ⟨⟨r, u⟩, e4, q4⟩ := t4s hn hl.1 hl.2 (left := 1048576) (by decide) (by decide)
  have q4 : r < 0 ∨ (0 ≤ r ∧ r + l.length ≤ 1048576 ∧ ∀ x ∈ l, x.1.size ≤ 1048576) := q4
  have bd : 0 ≤ r → l.length ≤ 1048576 := fun hr => by have := (q4.resolve_left (by omega)).2.1; omega
  have bL : 0 ≤ r → (topL l m).length ≤ 1048576 := fun hr => Nat.le_trans (topL_len l m) (bd hr)
  refine topx_walk (r := r) (L := topL l m) (mt := mtx n) (fun w hB => call_li (g4 W n) hB (hv.below hB) e4)
    (fun hr w hB => call_ll (g6 W n) hB (hv.below hB) (okeq (t6 hn (bd hr))))
    (fun hr w v lo fp hB ho => call_lil (g5 W n) hB ho.lent (okeq (t5 hn (bd hr))))
    (fun hr w v lo fp hB ho => top_calls ho.lent (bd hr))
    (fun hr w v1 v2 lo1 lo2 fp1 fp2 hB h1 h2 => call_llb (g8 W n) hB h1.lent h2.lent (okeq (t8 hn (bL hr))))
    (fun hr w v1 v2 lo1 lo2 fp1 fp2 hB h1 h2 => call_llb (g8 W n) hB h1.lent h2.lent (okeq (t8 hn (bd hr))))
    (fun hr w v lo fp hB ho hW => markRows hB ho.rd hW (bL hr) (by decide) (by decide) (mt_of W hn))
    (fun hr w v lo fp hB ho hW => markRows hB ho.rd hW (bd hr) (by decide) (by decide) (mt_of W hn))
    (fun hr w v lo fp hB ho => call_li (g10 W n) hB ho.lent ?_)
  have h := t10h hn (l := mkRow (mtx n) 1 (topL l m).length) (by rw [mkRow_len]; exact bL hr) (k := 1) (by decide) (by decide) (by rw [mkRow_len])
  rw [mkRow_len] at h
  exact okeq h
end Go.Eva
end
