/- A verified evaluator of the translated code, part 4: EvaLa, EvaLb, EvaLm, EvaLc, EvaLn, EvaLw, EvaLv, EvaYd, EvaLz -/
import Derived.Test.YtiflbbpbjpohaaaL3
import Derived.WalkKit
import Derived.BigFrame
import Derived.OwnWalk
import Derived.WalkMore
import Derived.Shelf.RegionOpenPlain
import Derived.Sort.LoopGhostIn
import Derived.Deep.RegionWith
import Derived.Deep.Slices
section
/- Stores: merging, pushing, the last reports, for any data. -/
namespace Go.Eva
open Go.RowKit (wrap64)
set_option linter.unusedVariables false
set_option linter.unusedSimpArgs false

theorem t21 {n : Nat} {x y z : Int} : ok (F21 n x y z) fun _ => True := by
  unfold F21
  exact ok.ite (fun _ => ok.some trivial) (fun _ => ok.some trivial)
theorem t62 {n : Nat} {x : Int} : ok (F62 n x) fun _ => True := by
  unfold F62
  exact t21.bind fun _ _ => ok.iteb (fun _ => ok.some trivial) (fun _ => t21.bind fun _ _ => ok.iteb (fun _ => ok.some trivial) (fun _ => t21.bind fun _ _ => ok.iteb (fun _ => ok.some trivial) (fun _ => ok.some trivial)))
theorem t54_0 {n : Nat} {s : ByteArray} (hs : s.size ≤ 1048576) : ∀ (k : Nat) (i : Int), 0 ≤ i → i ≤ (s.size : Int) → (s.size : Int) - i < k → ok (lp54_0 n k s i) fun _ => True
  | 0, i, h0, h1, hk => by omega
  | k + 1, i, h0, h1, hk => by
    show ok (st54_0 n (lp54_0 n k) s i) _
    unfold st54_0
    refine ok.ite (fun h2 => ok.guard h0 (ok.guard h2 (t62.bind fun _ _ => ok.iteb (fun _ => ok.some trivial) (fun _ => ?_)))) (fun _ => t21.bind fun _ _ => ok.some trivial)
    rw [w64 (by omega) (by omega)]
    exact t54_0 hs k (i + 1) (by omega) (by omega) (by omega)
theorem t54 {n : Nat} {s : ByteArray} (hs : s.size ≤ 1048576) (hn : 2000000 ≤ n) : ok (F54 n s) fun _ => True := t54_0 (by omega) n 0 (by omega) (by omega) (by omega)
theorem t55 {n : Nat} {s : ByteArray} {a b : Int} {t : Bool} {d e f g u v : Int} : ok (F55 n s a b t d e f g u v) fun _ => True := by
  unfold F55
  refine ok.ite (fun _ => ok.ite (fun _ => ok.ite (fun _ => ok.ite (fun _ => ok.some trivial) (fun _ => ok.some trivial)) (fun _ => ok.some trivial)) (fun _ => ok.some trivial)) (fun _ => ?_)
  exact t21.bind fun _ _ => ok.iteb (fun _ => t21.bind fun _ _ => ok.iteb (fun _ => ok.ite (fun _ => t21.bind fun _ _ => ok.iteb (fun _ => t21.bind fun _ _ => ok.iteb (fun _ => ok.ite (fun _ => ok.some trivial) (fun _ => ok.some trivial)) (fun _ => ok.some trivial)) (fun _ => ok.some trivial)) (fun _ => ok.some trivial)) (fun _ => ok.some trivial)) (fun _ => ok.some trivial)
theorem t42 {n : Nat} {s : ByteArray} {a b : Int} {t : Bool} {d e f g u v : Int} (hs : s.size ≤ 1048576) (hn : 2000000 ≤ n) : ok (F42 n s a b t d e f g u v) fun _ => True := by
  unfold F42
  refine (t54 hs hn).bind fun _ _ => ok.iteb (fun _ => ok.some trivial) (fun _ => ok.ite (fun _ => ok.iteb (fun _ => t21.bind fun _ _ => ok.some trivial) (fun _ => ok.some trivial)) (fun _ => ok.ite (fun _ => ok.iteb (fun _ => t21.bind fun _ _ => ok.iteb (fun _ => ok.iteb (fun _ => ok.some trivial) (fun _ => ok.some trivial)) (fun _ => ok.some trivial)) (fun _ => ok.some trivial)) (fun _ => ok.ite (fun _ => ?_) (fun _ => ok.some trivial))))
  exact ok.ite (fun _ => ok.iteb (fun _ => ok.ite (fun _ => t55.bind fun _ _ => ok.some trivial) (fun _ => ok.some trivial)) (fun _ => ok.some trivial)) (fun _ => ok.some trivial)
theorem t43 {n : Nat} {s : ByteArray} {a b : Int} {t : Bool} {d e f g u v : Int} : ok (F43 n s a b t d e f g u v) fun _ => True := by
  unfold F43
  exact ok.ite (fun _ => ok.iteb (fun _ => ok.some trivial) (fun _ => ok.some trivial)) (fun _ => ok.some trivial)
def Rp (l : List (ByteArray × (Int × (Int × (Bool × (Int × (Int × (Int × (Int × (Int × Int)))))))))) : Prop := l.length ≤ 1048576 ∧ ∀ x ∈ l, x.1.size ≤ 1048576
abbrev Rw := (ByteArray × (Int × (Int × (Bool × (Int × (Int × (Int × (Int × (Int × Int)))))))))
abbrev Rf := ByteArray × Int × Int × Bool × Int × Int × Int × Int × Int × Int × Unit
def rw0 : Rw := ((⟨#[]⟩ : ByteArray), ((0 : Int), ((0 : Int), (false, ((0 : Int), ((0 : Int), ((0 : Int), ((0 : Int), ((0 : Int), (0 : Int))))))))))
def toR (r : Rf) : Rw := (r.1, r.2.1, r.2.2.1, r.2.2.2.1, r.2.2.2.2.1, r.2.2.2.2.2.1, r.2.2.2.2.2.2.1, r.2.2.2.2.2.2.2.1, r.2.2.2.2.2.2.2.2.1, r.2.2.2.2.2.2.2.2.2.1)
def toF (a : Rw) : Rf := (a.1, a.2.1, a.2.2.1, a.2.2.2.1, a.2.2.2.2.1, a.2.2.2.2.2.1, a.2.2.2.2.2.2.1, a.2.2.2.2.2.2.2.1, a.2.2.2.2.2.2.2.2.1, a.2.2.2.2.2.2.2.2.2, ())
/-- Two rows merged. -/
noncomputable def mr (a b : Rw) : Rw := match F50 0 a.1 a.2.1 a.2.2.1 a.2.2.2.1 a.2.2.2.2.1 a.2.2.2.2.2.1 a.2.2.2.2.2.2.1 a.2.2.2.2.2.2.2.1 a.2.2.2.2.2.2.2.2.1 a.2.2.2.2.2.2.2.2.2 b.1 b.2.1 b.2.2.1 b.2.2.2.1 b.2.2.2.2.1 b.2.2.2.2.2.1 b.2.2.2.2.2.2.1 b.2.2.2.2.2.2.2.1 b.2.2.2.2.2.2.2.2.1 b.2.2.2.2.2.2.2.2.2 with
  | some r => toR r
  | none => rw0
theorem p50 {n : Nat} {s : ByteArray} {a b : Int} {t : Bool} {d e f g u v : Int} {s' : ByteArray} {a' b' : Int} {t' : Bool} {d' e' f' g' u' v' : Int} : ok (F50 n s a b t d e f g u v s' a' b' t' d' e' f' g' u' v') fun r => s.toList = s'.toList → r.1.toList = s.toList := by
  unfold F50
  refine ok.iteb (fun _ => ok.some fun h => h.symm) (fun _ => ok.iteb (fun _ => ok.some fun _ => rfl) (fun _ => ok.ite (fun _ => ok.some fun _ => rfl) (fun _ => ok.guard (by decide) (ok.guard (by decide) (ok.iteb (fun _ => ?_) (fun _ => ?_))))))
  · exact ok.ite (fun _ => ok.some fun _ => rfl) (fun _ => ok.ite (fun _ => ok.some fun _ => rfl) (fun _ => ok.some fun _ => rfl))
  · exact ok.ite (fun _ => ok.some fun _ => rfl) (fun _ => ok.ite (fun _ => ok.some fun _ => rfl) (fun _ => ok.some fun _ => rfl))
theorem t50 {n : Nat} (a b : Rw) : ok (F50 n a.1 a.2.1 a.2.2.1 a.2.2.2.1 a.2.2.2.2.1 a.2.2.2.2.2.1 a.2.2.2.2.2.2.1 a.2.2.2.2.2.2.2.1 a.2.2.2.2.2.2.2.2.1 a.2.2.2.2.2.2.2.2.2 b.1 b.2.1 b.2.2.1 b.2.2.2.1 b.2.2.2.2.1 b.2.2.2.2.2.1 b.2.2.2.2.2.2.1 b.2.2.2.2.2.2.2.1 b.2.2.2.2.2.2.2.2.1 b.2.2.2.2.2.2.2.2.2) fun r => r = toF (mr a b) := by
  obtain ⟨r, h, _⟩ := p50 (n := 0) (s := a.1) (a := a.2.1) (b := a.2.2.1) (t := a.2.2.2.1) (d := a.2.2.2.2.1) (e := a.2.2.2.2.2.1) (f := a.2.2.2.2.2.2.1) (g := a.2.2.2.2.2.2.2.1) (u := a.2.2.2.2.2.2.2.2.1) (v := a.2.2.2.2.2.2.2.2.2) (s' := b.1) (a' := b.2.1) (b' := b.2.2.1) (t' := b.2.2.2.1) (d' := b.2.2.2.2.1) (e' := b.2.2.2.2.2.1) (f' := b.2.2.2.2.2.2.1) (g' := b.2.2.2.2.2.2.2.1) (u' := b.2.2.2.2.2.2.2.2.1) (v' := b.2.2.2.2.2.2.2.2.2)
  have hm : mr a b = toR r := by unfold mr; rw [h]
  refine ⟨r, h, ?_⟩
  rw [hm]
  rfl
theorem mod48 (x : Int) : (wrap64 (x.tmod 281474976710656 + 281474976710656)).tmod 281474976710656 = x % 281474976710656 := by
  have h1 := Int.tmod_lt_of_pos x (show (0 : Int) < 281474976710656 by decide)
  have h2 : -281474976710656 < x.tmod 281474976710656 := by
    have := Int.lt_tmod_of_pos x (show (0 : Int) < 281474976710656 by decide)
    exact this
  rw [w64 (by omega) (by omega), Int.tmod_eq_emod_of_nonneg (by omega)]
  have h3 := Int.tmod_eq_emod (a := x) (b := 281474976710656)
  rw [h3]
  split <;> omega
theorem t58 {n : Nat} {x : Int} : F58 n x = some (x % 281474976710656, ()) := by
  unfold F58
  rw [if_pos (by decide), if_pos (by decide), mod48]
theorem f46 {n : Nat} {s : ByteArray} {a b : Int} {t : Bool} {d e f g u v : Int} {s' : ByteArray} {a' b' : Int} {t' : Bool} {d' e' f' g' u' v' : Int} : F46 n s a b t d e f g u v s' a' b' t' d' e' f' g' u' v' = F50 n s a b t d e f g u v s' a' b' t' d' e' f' g' u' v' := by
  have hs : (wrap64 (b % 281474976710656 + b' % 281474976710656)) % 281474976710656 = (wrap64 (b + b')) % 281474976710656 := by unfold wrap64; omega
  have hd : decide ((281474976710656 : Nat) ≠ 0) = true := by decide
  have m1 : mn f' f' = f' := by unfold mn; split <;> rfl
  have m2 : mx g' g' = g' := by unfold mx; split <;> rfl
  unfold F46 F50
  simp only [t58, Option.bind_some, mod48, hs, if_pos hd, m1, m2, ite_self]
theorem t46 {n : Nat} (a b : Rw) : ok (F46 n a.1 a.2.1 a.2.2.1 a.2.2.2.1 a.2.2.2.2.1 a.2.2.2.2.2.1 a.2.2.2.2.2.2.1 a.2.2.2.2.2.2.2.1 a.2.2.2.2.2.2.2.2.1 a.2.2.2.2.2.2.2.2.2 b.1 b.2.1 b.2.2.1 b.2.2.2.1 b.2.2.2.2.1 b.2.2.2.2.2.1 b.2.2.2.2.2.2.1 b.2.2.2.2.2.2.2.1 b.2.2.2.2.2.2.2.2.1 b.2.2.2.2.2.2.2.2.2) fun r => r = toF (mr a b) := by
  rw [f46]
  exact t50 a b
/-- The place of the first that p is true of, counted from j; or -1. -/
def fi {α : Type} (p : α → Bool) : List α → Int → Int
  | [], _ => -1
  | x :: xs, j => if p x = true then j else fi p xs (j + 1)
def keq (s : ByteArray) (x : Rw) : Bool := decide (x.1.toList = s.toList)
def kgt (s : ByteArray) (x : Rw) : Bool := !(Op.bytesLess x.1.toList s.toList || decide (x.1.toList = s.toList))
noncomputable def rep (r : Rw) : List Rw → Option (List Rw)
  | [] => none
  | x :: xs => if keq r.1 x = true then some (mr x r :: xs) else (rep r xs).map (x :: ·)
def ins (r : Rw) : List Rw → List Rw
  | [] => [r]
  | x :: xs => if kgt r.1 x = true then r :: x :: xs else x :: ins r xs
noncomputable def upd (out : List Rw) (r : Rw) : List Rw := (rep r out).getD (ins r out)
theorem fi_rep (r : Rw) : ∀ (out : List Rw) (j : Int), 0 ≤ j → (fi (keq r.1) out j = -1 ∧ rep r out = none) ∨ ∃ i, ∃ h : i < out.length, fi (keq r.1) out j = j + i ∧ rep r out = some (out.set i (mr out[i] r))
  | [], j, hj => .inl ⟨rfl, rfl⟩
  | x :: xs, j, hj => by
    by_cases h : keq r.1 x = true
    · exact .inr ⟨0, by simp, by simp [fi, h], by simp [rep, h]⟩
    · rcases fi_rep r xs (j + 1) (by omega) with ⟨h1, h2⟩ | ⟨i, h1, h2, h3⟩
      · exact .inl ⟨by simp [fi, h, h1], by simp [rep, h, h2]⟩
      · exact .inr ⟨i + 1, by simp; omega, by simp only [fi, h, if_false, Bool.false_eq_true]; rw [h2]; omega, by simp [rep, h, h3]⟩
theorem fi_ins (r : Rw) : ∀ (out : List Rw) (j : Int), 0 ≤ j → (fi (kgt r.1) out j = -1 ∧ ins r out = out ++ [r]) ∨ ∃ i, i < out.length ∧ fi (kgt r.1) out j = j + i ∧ ins r out = out.take i ++ [r] ++ out.drop i
  | [], j, hj => .inl ⟨rfl, rfl⟩
  | x :: xs, j, hj => by
    by_cases h : kgt r.1 x = true
    · exact .inr ⟨0, by simp, by simp [fi, h], by simp [ins, h]⟩
    · rcases fi_ins r xs (j + 1) (by omega) with ⟨h1, h2⟩ | ⟨i, h1, h2, h3⟩
      · exact .inl ⟨by simp [fi, h, h1], by simp [ins, h, h2]⟩
      · exact .inr ⟨i + 1, by simp; omega, by simp only [fi, h, if_false, Bool.false_eq_true]; rw [h2]; omega, by simp [ins, h, h3]⟩
theorem drop_cons {α : Type} {l : List α} {i : Nat} (h : i < l.length) : l.drop i = l[i] :: l.drop (i + 1) := List.drop_eq_getElem_cons h
theorem w1 {i n : Nat} (h : i < n) (hn : n ≤ 1000000000) : wrap64 ((i : Int) + 1) = ((i + 1 : Nat) : Int) := by rw [w64 (by omega) (by omega)]; rfl

theorem t51_74_0 {n : Nat} {l : List Rw} (hl : l.length ≤ 1000000000) {s : ByteArray} : ∀ (k i : Nat), i ≤ l.length → l.length - i < k → ok (lp51_59_0 n k l (l.length : Int) (i : Int) s) fun r => r = (fi (keq s) (l.drop i) (i : Int), s, ())
  | 0, i, h, hk => by omega
  | k + 1, i, h, hk => by
    show ok (st51_59_0 n (lp51_59_0 n k) l _ _ s) _
    unfold st51_59_0
    refine ok.ite (fun h1 => ok.guard (by omega) (ok.guard h1 ?_)) (fun h1 => ok.some ?_)
    · have hi : i < l.length := by omega
      rw [rdOf_nat hi, drop_cons hi]
      unfold F59
      simp only [Option.bind_some, fi]
      refine ok.iteb (fun h2 => ok.some ?_) (fun h2 => ?_)
      · rw [if_pos (show keq s l[i] = true from h2)]
      · rw [if_neg (by rw [show keq s l[i] = false from h2]; decide), w1 hi hl]
        exact t51_74_0 hl k (i + 1) (by omega) (by omega)
    · rw [List.drop_eq_nil_of_le (by omega)]; rfl
theorem t49 {n : Nat} {l : List Rw} (hl : l.length ≤ 1000000000) (hn : l.length < n) {s : ByteArray} : ok (F49 n l s) fun r => r = (fi (keq s) l 0, ()) := by
  unfold F49 F51_59 st51_59
  refine (t51_74_0 hl (n := n) (s := s) n 0 (by omega) (by omega)).bind fun r q => ok.some ?_
  rw [q]; rfl
theorem t51_57_0 {n : Nat} {l : List Rw} (hl : l.length ≤ 1000000000) {s : ByteArray} {i4 i5 : Int} {b6 : Bool} {i7 i8 i9 i10 i11 i12 : Int} : ∀ (k i : Nat), i ≤ l.length → l.length - i < k → ok (lp51_52_0 n k l (l.length : Int) (i : Int) s i4 i5 b6 i7 i8 i9 i10 i11 i12) fun r => r = (fi (kgt s) (l.drop i) (i : Int), s, i4, i5, b6, i7, i8, i9, i10, i11, i12, ())
  | 0, i, h, hk => by omega
  | k + 1, i, h, hk => by
    show ok (st51_52_0 n (lp51_52_0 n k) l _ _ s i4 i5 b6 i7 i8 i9 i10 i11 i12) _
    unfold st51_52_0
    refine ok.ite (fun h1 => ok.guard (by omega) (ok.guard h1 ?_)) (fun h1 => ok.some ?_)
    · have hi : i < l.length := by omega
      rw [rdOf_nat hi, drop_cons hi]
      unfold F52
      simp only [Option.bind_some, fi]
      refine ok.iteb (fun h2 => ok.some ?_) (fun h2 => ?_)
      · rw [if_pos (show kgt s l[i] = true from h2)]
      · rw [if_neg (by rw [show kgt s l[i] = false from h2]; decide), w1 hi hl]
        exact t51_57_0 hl k (i + 1) (by omega) (by omega)
    · rw [List.drop_eq_nil_of_le (by omega)]; rfl
theorem ins_len (r : Rw) : ∀ out : List Rw, (ins r out).length = out.length + 1
  | [] => rfl
  | x :: xs => by
    unfold ins
    split
    · rfl
    · rw [List.length_cons, ins_len r xs, List.length_cons]
theorem upd_len (out : List Rw) (r : Rw) : (upd out r).length ≤ out.length + 1 := by
  unfold upd
  rcases fi_rep r out 0 (by omega) with ⟨_, h⟩ | ⟨i, h1, _, h⟩
  · rw [h]; simp [ins_len]
  · rw [h]; simp
theorem t41_0 {n : Nat} {b : List Rw} (hb : b.length ≤ 1000) (hn : 20000000 ≤ n) : ∀ (k i : Nat) (out : List Rw), i ≤ b.length → b.length - i < k → out.length + (b.length - i) ≤ 2000 → ok (lp41_0 n k b (b.length : Int) (i : Int) out) fun r => r = ((b.drop i).foldl upd out, ())
  | 0, i, out, h, hk, ho => by omega
  | k + 1, i, out, h, hk, ho => by
    show ok (st41_0 n (lp41_0 n k) b _ _ out) _
    unfold st41_0
    refine ok.ite (fun h1 => ok.guard (by omega) (ok.guard h1 ?_)) (fun h1 => ok.some ?_)
    · have hi : i < b.length := by omega
      rw [rdOf_nat hi, drop_cons hi]
      simp only [List.foldl_cons]
      have hlen := upd_len out b[i]
      refine (t49 (n := n) (l := out) (s := b[i].1) (by omega) (by omega)).bind fun r2 q2 => ?_
      subst q2
      have hstep : ∀ out', out' = upd out b[i] → ok (lp41_0 n k b (b.length : Int) (wrap64 ((i : Int) + 1)) out') fun r => r = ((b.drop (i + 1)).foldl upd (upd out b[i]), ()) := fun out' ho' => by
        subst ho'
        rw [w1 hi (by omega)]
        exact t41_0 hb hn k (i + 1) _ (by omega) (by omega) (by omega)
      rcases fi_rep b[i] out 0 (by omega) with ⟨e1, e2⟩ | ⟨j, hj, e1, e2⟩
      · have hu : upd out b[i] = ins b[i] out := by unfold upd; rw [e2]; rfl
        refine ok.ite (fun q => by simp only [e1] at q; omega) (fun _ => ?_)
        refine (t51_57_0 (n := n) (l := out) (by omega) n 0 (by omega) (by omega)).bind fun r4 q4 => ?_
        subst q4
        rcases fi_ins b[i] out 0 (by omega) with ⟨e3, e4⟩ | ⟨j, hj, e3, e4⟩
        · refine ok.ite (fun _ => ?_) (fun q => by simp only [List.drop_zero, Int.ofNat_zero, e3] at q; exact absurd (by decide) q)
          unfold F53 insF
          refine (ok.guard (by omega) (ok.guard (by omega) (ok.guard rfl (ok.guard (by omega) (ok.some rfl)))) : ok _ fun r => r = _).bind fun r5 q5 => ?_
          subst q5
          refine hstep _ ?_
          rw [hu, e4]
          simp
        · have e3 : fi (kgt b[i].1) out 0 = (j : Int) := by rw [e3]; omega
          refine ok.ite (fun q => by simp only [List.drop_zero, Int.ofNat_zero, e3] at q; omega) (fun q => ?_)
          simp only [List.drop_zero, Int.ofNat_zero]
          rw [e3]
          unfold F53 insF
          refine (ok.guard (by omega) (ok.guard (by omega) (ok.guard rfl (ok.guard (by omega) (ok.some rfl)))) : ok _ fun r => r = _).bind fun r5 q5 => ?_
          subst q5
          refine hstep _ ?_
          rw [hu, e4]
          simp
      · have hu : upd out b[i] = out.set j (mr out[j] b[i]) := by unfold upd; rw [e2]; rfl
        have e1 : fi (keq b[i].1) out 0 = (j : Int) := by rw [e1]; omega
        rw [e1]
        refine ok.ite (fun _ => ok.guard (by omega) (ok.guard (by omega) ?_)) (fun q => by simp only at q; omega)
        rw [rdOf_nat hj]
        refine (t50 out[j] b[i]).bind fun r3 q3 => ok.guard (by omega) (ok.guard (by omega) ?_)
        subst q3
        refine hstep _ ?_
        rw [hu, Int.toNat_natCast]
        rfl
    · rw [List.drop_eq_nil_of_le (by omega)]; rfl
theorem t41 {n : Nat} {a b : List Rw} (ha : a.length ≤ 1000) (hb : b.length ≤ 1000) (hn : 20000000 ≤ n) : ok (F41 n a b) fun r => r = (b.foldl upd a, ()) := by
  unfold F41 st41 F35 cloF
  refine (ok.guard (by simp only [List.length_nil]; omega) (ok.some rfl) : ok _ fun r => r = _).bind fun r1 q1 => ?_
  subst q1
  exact t41_0 hb hn n 0 _ (by omega) (by omega) (by simp only [List.nil_append]; omega)
/-- All reports merged. -/
noncomputable def ov (rs : List (List Rw)) (out : List Rw) : List Rw := rs.foldl (fun o l => l.foldl upd o) out
theorem foldl_upd_len (b : List Rw) : ∀ out : List Rw, (b.foldl upd out).length ≤ out.length + b.length := by
  induction b with
  | nil => intro out; exact Nat.le_refl _
  | cons x b ih => intro out; have := ih (upd out x); have := upd_len out x; simp only [List.foldl_cons, List.length_cons]; omega
theorem ov_len (rs : List (List Rw)) (m : Nat) : ∀ out : List Rw, (∀ l ∈ rs, l.length ≤ m) → (ov rs out).length ≤ out.length + m * rs.length := by
  induction rs with
  | nil => intro out _; exact Nat.le_refl _
  | cons x b ih =>
    intro out h
    have h1 := ih (x.foldl upd out) (fun l hl => h l (List.mem_cons_of_mem _ hl))
    have h2 := foldl_upd_len x out
    have h3 := h x List.mem_cons_self
    show (ov b (x.foldl upd out)).length ≤ _
    rw [List.length_cons, Nat.mul_add]
    omega
theorem t26_0 {n : Nat} {rs : List (List Rw)} (hr : rs.length ≤ 100) (hl : ∀ l ∈ rs, l.length ≤ 8) (hn : 20000000 ≤ n) : ∀ (k i : Nat) (out : List Rw), i ≤ rs.length → rs.length - i < k → out.length + 8 * (rs.length - i) ≤ 900 → ok (lp26_0 n k rs (rs.length : Int) (i : Int) out) fun r => r = (ov (rs.drop i) out, ())
  | 0, i, out, h, hk, ho => by omega
  | k + 1, i, out, h, hk, ho => by
    show ok (st26_0 n (lp26_0 n k) rs _ _ out) _
    unfold st26_0
    refine ok.ite (fun h1 => ok.guard (by omega) (ok.guard h1 ?_)) (fun h1 => ok.some ?_)
    · have hi : i < rs.length := by omega
      have hm := hl rs[i] (List.getElem_mem hi)
      rw [rdOf_nat hi, drop_cons hi]
      refine (t41 (n := n) (a := out) (b := rs[i]) (by omega) (by omega) hn).bind fun r1 q1 => ?_
      subst q1
      rw [w1 hi (by omega)]
      have := foldl_upd_len rs[i] out
      exact t26_0 hr hl hn k (i + 1) _ (by omega) (by omega) (by show (List.foldl upd out rs[i]).length + _ ≤ _; omega)
    · rw [List.drop_eq_nil_of_le (by omega)]; rfl
theorem t26 {n : Nat} {rs : List (List Rw)} (hr : rs.length ≤ 100) (hl : ∀ l ∈ rs, l.length ≤ 8) (hn : 20000000 ≤ n) : ok (F26 n rs) fun r => r = (ov rs [], ()) := by
  unfold F26 st26
  exact t26_0 hr hl hn n 0 _ (by omega) (by omega) (by simp only [List.length_nil]; omega)
theorem rep_none (r : Rw) : ∀ l : List Rw, (∀ j (h : j < l.length), keq r.1 l[j] = false) → rep r l = none
  | [], _ => rfl
  | x :: xs, h => by
    unfold rep
    rw [if_neg (by rw [show keq r.1 x = false from h 0 (by simp)]; decide), rep_none r xs (fun j hj => h (j + 1) (by simpa using hj))]; rfl
theorem rep_some (r : Rw) : ∀ (l : List Rw) (i : Nat) (hi : i < l.length), (∀ j (h : j < i), keq r.1 l[j] = false) → keq r.1 l[i] = true → rep r l = some (l.set i (mr l[i] r))
  | x :: xs, 0, _, _, h2 => by
    unfold rep
    rw [if_pos (show keq r.1 x = true from h2)]; rfl
  | x :: xs, i + 1, hi, h1, h2 => by
    unfold rep
    rw [if_neg (by rw [show keq r.1 x = false from h1 0 (by omega)]; decide), rep_some r xs i (by simpa using hi) (fun j hj => h1 (j + 1) (by omega)) h2]; rfl

theorem t47_0 {n : Nat} {l : List Rw} (hl : l.length ≤ 1048576) {r : Rw} (hno : ∀ j (h : j < l.length), keq r.1 l[j] = false) : ∀ (k i : Nat) (b : Bool) (out : List Rw), i ≤ l.length → l.length - i < k → out.length + (l.length - i) ≤ 3000000 + b.toNat →
    ok (lp47_0 n k b (i : Int) l r.1 r.2.1 r.2.2.1 r.2.2.2.1 r.2.2.2.2.1 r.2.2.2.2.2.1 r.2.2.2.2.2.2.1 r.2.2.2.2.2.2.2.1 r.2.2.2.2.2.2.2.2.1 r.2.2.2.2.2.2.2.2.2 out) fun x => x = (out ++ (if b = true then l.drop i else ins r (l.drop i)), ())
  | 0, i, b, out, h, hk, ho => by omega
  | k + 1, i, b, out, h, hk, ho => by
    have hbn : b.toNat ≤ 1 := by cases b <;> decide
    show ok (st47_0 n (lp47_0 n k) b _ l _ _ _ _ _ _ _ _ _ _ out) _
    unfold st47_0
    refine ok.ite (fun h1 => ok.guard (by omega) (ok.guard h1 ?_)) (fun h1 => ?_)
    · have hi : i < l.length := by omega
      have hk1 := hno i hi
      rw [rdOf_nat hi, drop_cons hi, w1 hi (by omega)]
      have hj : (b = true ∨ kgt r.1 l[i] = false) → ok (j47_0 n (lp47_0 n k) b (i : Int) l r.1 r.2.1 r.2.2.1 r.2.2.2.1 r.2.2.2.2.1 r.2.2.2.2.2.1 r.2.2.2.2.2.2.1 r.2.2.2.2.2.2.2.1 r.2.2.2.2.2.2.2.2.1 r.2.2.2.2.2.2.2.2.2 out) fun x => x = (out ++ (if b = true then l[i] :: l.drop (i + 1) else ins r (l[i] :: l.drop (i + 1))), ()) := fun hb => by
        unfold j47_0
        refine ok.guard (by omega) (ok.guard h1 (ok.guard (by simp only [List.length_cons, List.length_nil]; omega) ?_))
        rw [rdOf_nat hi, w1 hi (by omega)]
        refine (t47_0 hl hno k (i + 1) b (out ++ [l[i]]) (by omega) (by omega) (by simp only [List.length_append, List.length_cons, List.length_nil]; omega)).mono fun x hx => ?_
        rw [hx]
        cases b with
        | true => simp
        | false =>
          rcases hb with hb | hb
          · cases hb
          · simp [ins, hb]
      refine ok.iteb (fun h2 => by rw [show keq r.1 l[i] = true from h2] at hk1; cases hk1) (fun h2 => ok.iteb (fun h3 => ok.guard (by omega) (ok.guard h1 (ok.iteb (fun h4 => ?_) (fun h4 => hj (.inr h4))))) (fun h3 => hj (.inl (by simpa using h3))))
      refine ok.guard (by simp only [List.length_cons, List.length_nil]; omega) (ok.guard (by omega) (ok.guard h1 (ok.guard (by simp only [List.length_append, List.length_cons, List.length_nil]; omega) ?_)))
      have hb : b = false := by simpa using h3
      have hb0 : b.toNat = 0 := by rw [hb]; rfl
      refine (t47_0 hl hno k (i + 1) true (out ++ [r] ++ [l[i]]) (by omega) (by omega) (by simp only [List.length_append, List.length_cons, List.length_nil, Bool.toNat_true]; omega)).mono fun x hx => ?_
      rw [hx]
      have hg : kgt r.1 l[i] = true := h4
      subst hb
      simp [ins, hg]
    · rw [List.drop_eq_nil_of_le (by omega)]
      refine ok.iteb (fun h3 => ok.guard (by simp only [List.length_cons, List.length_nil]; omega) (ok.some ?_)) (fun h3 => ok.some ?_)
      · have hb : b = false := by simpa using h3
        subst hb
        rfl
      · have hb : b = true := by simpa using h3
        subst hb
        simp
theorem t47 {n : Nat} {l : List Rw} (hl : l.length ≤ 1048576) {r : Rw} (hno : ∀ j (h : j < l.length), keq r.1 l[j] = false) (hn : 20000000 ≤ n) : ok (F47 n l r.1 r.2.1 r.2.2.1 r.2.2.2.1 r.2.2.2.2.1 r.2.2.2.2.2.1 r.2.2.2.2.2.2.1 r.2.2.2.2.2.2.2.1 r.2.2.2.2.2.2.2.2.1 r.2.2.2.2.2.2.2.2.2) fun x => x = (ins r l, ()) := by
  unfold F47 st47
  refine (t47_0 hl hno n 0 false [] (by omega) (by omega) (by simp only [List.length_nil]; omega)).mono fun x hx => ?_
  rw [hx]; rfl
theorem t38_1 {n : Nat} (hn : 20000000 ≤ n) {g0 : _} {b : List Rw} {i1 : Nat} (hi1 : i1 < b.length) {l : List Rw} (hl : l.length ≤ 1048576) {Q : List Rw × Unit → Prop} (hQ : ok (g0 b (wrap64 ((i1 : Int) + 1)) (upd l b[i1])) Q) : ∀ (k i : Nat), i ≤ l.length → l.length - i + 1 < k → (∀ j (h : j < i) (h' : j < l.length), keq b[i1].1 l[j] = false) →
    ok (lp38_1 n g0 k b (i1 : Int) false (i : Int) l) Q
  | 0, i, h, hk, hno => by omega
  | k + 1, i, h, hk, hno => by
    show ok (st38_1 n g0 (lp38_1 n g0 k) b _ false _ l) _
    unfold st38_1
    refine ok.ite (fun h1 => ok.iteb (fun _ => ok.guard (by omega) (ok.guard h1 (ok.guard (by omega) (ok.guard (by omega) ?_)))) (fun h2 => by cases h2)) (fun h1 => ok.iteb (fun _ => ok.guard (by omega) (ok.guard (by omega) ?_)) (fun h2 => by cases h2))
    · have hi : i < l.length := by omega
      rw [rdOf_nat hi, rdOf_nat hi1, w1 hi (by omega)]
      refine ok.iteb (fun h2 => ok.guard (by omega) (ok.guard h1 (ok.guard (by omega) (ok.guard (by omega) ?_)))) (fun h2 => ?_)
      · refine (t46 l[i] b[i1]).bind fun r q => ok.guard (by omega) (ok.guard h1 ?_)
        subst q
        have hu : upd l b[i1] = l.set i (mr l[i] b[i1]) := by
          unfold upd
          rw [rep_some b[i1] l i hi (fun j hj => hno j hj (by omega)) h2]; rfl
        rw [hu] at hQ
        obtain ⟨k', rfl⟩ : ∃ k', k = k' + 1 := ⟨k - 1, by omega⟩
        show ok (st38_1 n g0 (lp38_1 n g0 k') b _ true _ _) _
        unfold st38_1
        rw [Int.toNat_natCast]
        refine ok.ite (fun h3 => ok.iteb (fun h4 => by cases h4) (fun _ => ok.iteb (fun h4 => by cases h4) (fun _ => hQ))) (fun h3 => ok.iteb (fun h4 => by cases h4) (fun _ => hQ))
      · refine t38_1 hn hi1 hl hQ k (i + 1) (by omega) (by omega) (fun j hj hj' => ?_)
        by_cases hji : j = i
        · subst hji; exact h2
        · exact hno j (by omega) hj'
    · rw [rdOf_nat hi1]
      refine (t47 (r := b[i1]) hl (fun j hj => hno j (by omega) hj) hn).bind fun r q => ?_
      subst q
      have hu : upd l b[i1] = ins b[i1] l := by
        unfold upd
        rw [rep_none b[i1] l (fun j hj => hno j (by omega) hj)]; rfl
      rw [hu] at hQ
      exact hQ
theorem t38_0 {n : Nat} {b : List Rw} (hb : b.length ≤ 500) (hn : 20000000 ≤ n) : ∀ (k i : Nat) (out : List Rw), i ≤ b.length → b.length - i < k → out.length + (b.length - i) ≤ 1000 → ok (lp38_0 n k b (i : Int) out) fun r => r = ((b.drop i).foldl upd out, ())
  | 0, i, out, h, hk, ho => by omega
  | k + 1, i, out, h, hk, ho => by
    show ok (st38_0 n (lp38_1 n (lp38_0 n k) n) (lp38_0 n k) b _ out) _
    unfold st38_0
    refine ok.ite (fun h1 => ?_) (fun h1 => ok.some ?_)
    · have hi : i < b.length := by omega
      have hlen := upd_len out b[i]
      rw [drop_cons hi]
      refine t38_1 hn hi (by omega) ?_ n 0 (by omega) (by omega) (fun j hj => by omega)
      rw [w1 hi (by omega)]
      exact t38_0 hb hn k (i + 1) _ (by omega) (by omega) (by omega)
    · rw [List.drop_eq_nil_of_le (by omega)]; rfl
theorem t38 {n : Nat} {a b : List Rw} (ha : a.length ≤ 500) (hb : b.length ≤ 500) (hn : 20000000 ≤ n) : ok (F38 n a b) fun r => r = (b.foldl upd a, ()) := by
  unfold F38 st38
  refine ok.guard (by simp only [List.length_nil]; omega) ?_
  exact t38_0 hb hn n 0 _ (by omega) (by omega) (by simp only [List.nil_append]; omega)
theorem t22_0 {n : Nat} {rs : List (List Rw)} (hr : rs.length ≤ 100) (hl : ∀ l ∈ rs, l.length ≤ 4) (hn : 20000000 ≤ n) : ∀ (k i : Nat) (out : List Rw), i ≤ rs.length → rs.length - i < k → out.length + 4 * (rs.length - i) ≤ 450 → ok (lp22_0 n k rs (i : Int) out) fun r => r = (ov (rs.drop i) out, ())
  | 0, i, out, h, hk, ho => by omega
  | k + 1, i, out, h, hk, ho => by
    show ok (st22_0 n (lp22_0 n k) rs _ out) _
    unfold st22_0
    refine ok.ite (fun h1 => ok.guard (by omega) (ok.guard h1 ?_)) (fun h1 => ok.some ?_)
    · have hi : i < rs.length := by omega
      have hm := hl rs[i] (List.getElem_mem hi)
      rw [rdOf_nat hi, drop_cons hi]
      refine (t38 (n := n) (a := out) (b := rs[i]) (by omega) (by omega) hn).bind fun r1 q1 => ?_
      subst q1
      rw [w1 hi (by omega)]
      have := foldl_upd_len rs[i] out
      exact t22_0 hr hl hn k (i + 1) _ (by omega) (by omega) (by show (List.foldl upd out rs[i]).length + _ ≤ _; omega)
    · rw [List.drop_eq_nil_of_le (by omega)]; rfl
theorem t22 {n : Nat} {rs : List (List Rw)} (hr : rs.length ≤ 100) (hl : ∀ l ∈ rs, l.length ≤ 4) (hn : 20000000 ≤ n) : ok (F22 n rs) fun r => r = (ov rs [], ()) := by
  unfold F22 st22
  exact t22_0 hr hl hn n 0 _ (by omega) (by omega) (by simp only [List.length_nil]; omega)
def inr (x a b : Int) : Bool := decide (a ≤ x ∧ x ≤ b)
theorem f21 {n : Nat} {x a b : Int} : F21 n x a b = some (inr x a b, ()) := by
  unfold F21 inr
  by_cases h1 : a ≤ x <;> by_cases h2 : x ≤ b <;> simp [h1, h2]
theorem f25 {n : Nat} {x a b : Int} : F25 n x a b = some (inr x a b, ()) := by
  unfold F25 inr
  by_cases h1 : a ≤ x <;> by_cases h2 : x ≤ b <;> simp [h1, h2]
def kc (x : Int) : Bool := inr x 97 122 || (inr x 65 90 || (inr x 48 57 || decide (x = 95)))
theorem f62 {n : Nat} {x : Int} : F62 n x = some (kc x, ()) := by
  unfold F62 kc
  simp only [f21, Option.bind_some]
  cases inr x 97 122 <;> cases inr x 65 90 <;> cases inr x 48 57 <;> simp
theorem bt_bd (s : ByteArray) (i : Int) : 0 ≤ bt s i ∧ bt s i < 256 := by
  unfold bt
  split
  · have := (s[i.toNat]).toNat_lt; omega
  · omega
theorem kc_eq (x : Int) (α : Type) (a b : Option α) : (if (!kc x) = true then a else b) = if decide (x ≥ 97) = true then (if decide (x ≤ 122) = true then b else (if decide (x ≥ 65) = true then (if decide (x ≤ 90) = true then b else (if decide (x ≥ 48) = true then (if decide (x ≤ 57) = true then b else (if (!(decide (x = 95))) = true then a else b)) else (if (!(decide (x = 95))) = true then a else b)))
    else (if decide (x ≥ 48) = true then (if decide (x ≤ 57) = true then b else (if (!(decide (x = 95))) = true then a else b)) else (if (!(decide (x = 95))) = true then a else b))))
   else (if decide (x ≥ 65) = true then (if decide (x ≤ 90) = true then b else (if decide (x ≥ 48) = true then (if decide (x ≤ 57) = true then b else (if (!(decide (x = 95))) = true then a else b)) else (if (!(decide (x = 95))) = true then a else b)))
    else (if decide (x ≥ 48) = true then (if decide (x ≤ 57) = true then b else (if (!(decide (x = 95))) = true then a else b)) else (if (!(decide (x = 95))) = true then a else b))) := by
  unfold kc inr
  by_cases h1 : x ≥ 97
  · by_cases h2 : x ≤ 122
    · have : (97 : Int) ≤ x ∧ x ≤ 122 := ⟨h1, h2⟩
      simp [h1, h2]
    · have e1 : ¬ x ≤ 90 := by omega
      have e2 : ¬ x ≤ 57 := by omega
      have e3 : ¬ x = 95 := by omega
      have e4 : x ≥ 65 := by omega
      have e5 : x ≥ 48 := by omega
      simp [h1, h2, e1, e2, e3, e4, e5]
  · by_cases h3 : x ≥ 65
    · by_cases h4 : x ≤ 90
      · simp [h1, h3, h4]
      · have e2 : ¬ x ≤ 57 := by omega
        have e5 : x ≥ 48 := by omega
        by_cases h5 : x = 95 <;> simp [h1, h3, h4, e2, e5, h5]
    · have e3 : ¬ x = 95 := by omega
      by_cases h5 : x ≥ 48 <;> by_cases h6 : x ≤ 57 <;> simp [h1, h3, e3, h5, h6]
theorem f56_0 {n : Nat} {s : ByteArray} : ∀ (k : Nat) (i : Int), lp56_0 n k s (s.size : Int) i = lp54_0 n k s i
  | 0, i => rfl
  | k + 1, i => by
    show st56_0 n (lp56_0 n k) s _ i = st54_0 n (lp54_0 n k) s i
    unfold st56_0 st54_0 j56_0
    have hb := bt_bd s i
    have ih := f56_0 (n := n) (s := s) k (wrap64 (i + 1))
    simp only [f62, f25, f21, Option.bind_some, w64 (x := bt s i) (by omega) (by omega), kc_eq, ih]
theorem f56 {n : Nat} {s : ByteArray} : F56 n s = F54 n s := f56_0 n 0
theorem bind_id (x : Option (Bool × Unit)) : (x.bind fun r1 => some (r1.1, ())) = x := by cases x <;> rfl
theorem f44 {n : Nat} {s : ByteArray} {a b : Int} {t : Bool} {d e f g u v : Int} : F44 n s a b t d e f g u v = F42 n s a b t d e f g u v := by
  unfold F44 F42 F57 F55
  rw [f56]
  cases F54 n s with
  | none => rfl
  | some r =>
    simp only [Option.bind_some, f25, f21, Int.mul_comm e f, Int.mul_comm e g, bind_id]
    by_cases h0 : r.1 = true
    · by_cases h1 : a = 1
      · subst h1; simp [h0]
      · by_cases h2 : a = 2
        · subst h2; simp [h0]
        · by_cases h3 : a = 3
          · subst h3
            by_cases hb : b = 0
            · cases t
              · by_cases hd : d = 0
                · by_cases he : e = 0
                  · by_cases hf : f = 0 <;> by_cases hg : g = 0 <;> by_cases hu : u = 0 <;> simp [h0, hb, hd, he, hf, hg, hu]
                  · by_cases hv : v = 0 <;> by_cases h5 : e = 3 <;> simp [h0, hb, hd, he, hv, h5]
                · simp [h0, hb, hd]
              · simp [h0, hb]
            · simp [h0, hb]
          · simp [h0, h1, h2, h3]
    · simp [h0]
theorem f45 {n : Nat} {s : ByteArray} {a b : Int} {t : Bool} {d e f g u v : Int} : F45 n s a b t d e f g u v = F43 n s a b t d e f g u v := by
  unfold F45 F43
  by_cases hb : b = 0 <;> cases t <;> by_cases he : e = 0 <;> simp [hb, he]
theorem f36_0 {n : Nat} {l : List Rw} : ∀ (k : Nat) (i : Int), lp36_0 n k l l (l.length : Int) i = lp33_0 n k l i
  | 0, i => rfl
  | k + 1, i => by
    show st36_0 n (lp36_0 n k) l l _ i = st33_0 n (lp33_0 n k) l i
    unfold st36_0 st33_0
    have ih := f36_0 (n := n) (l := l) k (wrap64 (i + 1))
    simp only [f44, f45, ih]
    by_cases h1 : i < (l.length : Int) <;> by_cases h2 : 0 ≤ i <;> simp [h1, h2]
theorem f36 {n : Nat} {l : List Rw} : F36 n l = F33 n l := f36_0 n 0
theorem ok.val {α : Type} {x : Option α} {Q : α → Prop} (d : α) (h : ok x Q) : ok x fun r => r = x.getD d := by
  obtain ⟨a, rfl, _⟩ := h
  exact ⟨a, rfl, rfl⟩
noncomputable def rpo (n : Nat) (l : List Rw) : Bool := ((F33 n l).getD (false, ())).1
/-- What a right report has. -/
def Rising (l : List Rw) : Prop := ∀ i (h : i + 1 < l.length), kgt l[i].1 l[i + 1] = true
def Cnt (x : Rw) : Prop := 1 ≤ x.1.size ∧ (x.2.1 = 1 → 0 ≤ x.2.2.1 ∧ x.2.2.1 ≤ 281474976710655)
theorem t85c {n : Nat} {s : ByteArray} (hs : s.size ≤ 1048576) (hn : 2000000 ≤ n) : ok (F54 n s) fun r => r.1 = true → 1 ≤ s.size := by
  have key : ∀ (k : Nat) (i : Int), 0 ≤ i → i ≤ (s.size : Int) → (s.size : Int) - i < k → ok (lp54_0 n k s i) fun r => r.1 = true → 1 ≤ s.size := by
    intro k
    induction k with
    | zero => intro i h0 h1 hk; omega
    | succ k ih =>
      intro i h0 h1 hk
      show ok (st54_0 n (lp54_0 n k) s i) _
      unfold st54_0
      simp only [f62, f21, Option.bind_some]
      refine ok.ite (fun h2 => ok.guard h0 (ok.guard h2 (ok.iteb (fun _ => ok.some (fun h => by cases h)) (fun _ => ?_)))) (fun _ => ok.some fun h => ?_)
      · rw [w64 (by omega) (by omega)]
        exact ih (i + 1) (by omega) (by omega) (by omega)
      · simp [inr] at h; omega
  exact key n 0 (by omega) (by omega) (by omega)
theorem t65c {n : Nat} {x : Rw} (hs : x.1.size ≤ 1048576) (hn : 2000000 ≤ n) : ok (F42 n x.1 x.2.1 x.2.2.1 x.2.2.2.1 x.2.2.2.2.1 x.2.2.2.2.2.1 x.2.2.2.2.2.2.1 x.2.2.2.2.2.2.2.1 x.2.2.2.2.2.2.2.2.1 x.2.2.2.2.2.2.2.2.2) fun r => r.1 = true → Cnt x := by
  unfold F42
  refine (t85c hs hn).bind fun r q => ok.iteb (fun _ => ok.some fun h => by cases h) (fun h0 => ?_)
  have h0 := q (by simpa using h0)
  refine ok.ite (fun h1 => ok.iteb (fun _ => ?_) (fun _ => ok.some fun h => by cases h)) (fun h1 => ?_)
  · rw [f21]
    refine ok.some fun h => ⟨h0, fun _ => ?_⟩
    simp only [Option.getD_some, inr, decide_eq_true_eq] at h
    exact h
  · have hne : ∀ r : Bool × Unit, r.1 = true → Cnt x := fun r _ => ⟨h0, fun h => absurd h h1⟩
    exact (ok.ite (fun _ => ok.iteb (fun _ => t21.bind fun _ _ => ok.iteb (fun _ => ok.iteb (fun _ => ok.some trivial) (fun _ => ok.some trivial)) (fun _ => ok.some trivial)) (fun _ => ok.some trivial)) (fun _ => ok.ite (fun _ => ok.ite (fun _ => ok.iteb (fun _ => ok.ite (fun _ => t55.bind fun _ _ => ok.some trivial) (fun _ => ok.some trivial)) (fun _ => ok.some trivial)) (fun _ => ok.some trivial)) (fun _ => ok.some trivial)) : ok _ fun _ => True).mono fun r _ => hne r
theorem t33_0 {n : Nat} (hn : 20000000 ≤ n) {l : List Rw} (hl : l.length ≤ 1048576) (hs : ∀ x ∈ l, x.1.size ≤ 1048576) : ∀ (k i : Nat), i ≤ l.length → l.length - i < k → ok (lp33_0 n k l (i : Int)) fun r => r.1 = true → (∀ j (h : j + 1 < l.length), i ≤ j + 1 → kgt l[j].1 l[j + 1] = true) ∧ l.length ≤ 4 ∧ ∀ j (h : j < l.length), i ≤ j → Cnt l[j]
  | 0, i, h, hk => by omega
  | k + 1, i, h, hk => by
    show ok (st33_0 n (lp33_0 n k) l _) _
    unfold st33_0
    refine ok.ite (fun h1 => ok.guard (by omega) (ok.guard h1 ?_)) (fun h1 => ok.some fun h => ⟨fun j hj hij => by omega, by have := of_decide_eq_true h; omega, fun j hj hij => by omega⟩)
    have hi : i < l.length := by omega
    rw [rdOf_nat hi]
    refine (t65c (x := l[i]) (hs _ (List.getElem_mem hi)) (by omega)).bind fun r q => ok.iteb (fun _ => ok.some fun h => by cases h) (fun h0 => ok.guard (by omega) (ok.guard h1 (t43.bind fun r2 _ => ok.iteb (fun _ => ok.some fun h => by cases h) (fun _ => ok.ite (fun h2 => ok.guard (by omega) (ok.guard h1 ?_)) (fun h2 => ?_)))))
    · have hc := q (by simpa using h0)
      have e : wrap64 ((i : Int) - 1) = ((i - 1 : Nat) : Int) := by rw [w64 (by omega) (by omega)]; omega
      rw [e]
      refine ok.guard (by omega) (ok.guard (by omega) ?_)
      rw [rdOf_nat (show i - 1 < l.length by omega), w1 hi (by omega)]
      refine ok.iteb (fun _ => ok.some fun h => by cases h) (fun h3 => (t33_0 hn hl hs k (i + 1) (by omega) (by omega)).mono fun r hr h => ?_)
      obtain ⟨a1, a2, a3⟩ := hr h
      refine ⟨fun j hj hij => ?_, a2, fun j hj hij => ?_⟩
      · by_cases hji : j + 1 = i
        · have e2 : j = i - 1 := by omega
          subst e2
          have e3 : i - 1 + 1 = i := by omega
          unfold kgt
          simp only [e3]
          rw [h3]; rfl
        · exact a1 j hj (by omega)
      · by_cases hji : j = i
        · subst hji; exact hc
        · exact a3 j hj (by omega)
    · have hc := q (by simpa using h0)
      rw [w1 hi (by omega)]
      refine (t33_0 hn hl hs k (i + 1) (by omega) (by omega)).mono fun r hr h => ?_
      obtain ⟨a1, a2, a3⟩ := hr h
      refine ⟨fun j hj hij => a1 j hj (by omega), a2, fun j hj hij => ?_⟩
      by_cases hji : j = i
      · subst hji; exact hc
      · exact a3 j hj (by omega)
theorem t33 {n : Nat} (hn : 20000000 ≤ n) {l : List Rw} (hl : Rp l) : ok (F33 n l) (fun r => r = (rpo n l, ())) ∧ (rpo n l = true → Rising l ∧ l.length ≤ 4 ∧ ∀ x ∈ l, Cnt x) := by
  have hl1 := hl.1
  have h := t33_0 hn (by omega) hl.2 n 0 (by omega) (by omega)
  have h' : ok (F33 n l) _ := h
  obtain ⟨a, e, q⟩ := h'
  have e1 : rpo n l = a.1 := by unfold rpo; rw [e]; rfl
  refine ⟨⟨a, e, by rw [e1]⟩, fun hr => ?_⟩
  obtain ⟨q1, q2, q3⟩ := q (by rw [← e1]; exact hr)
  refine ⟨fun i hi => q1 i hi (by omega), q2, fun x hx => ?_⟩
  obtain ⟨j, hj, rfl⟩ := List.getElem_of_mem hx
  exact q3 j hj (by omega)
/-! ### stores -/
def chk (c f : Int) (K : List (List Rw)) : Bool := inr c 1 5 && (decide ((K.length : Int) ≤ c) && (inr f 0 1000000 && (decide (f = 0) || decide ((K.length : Int) = c))))
noncomputable def sto (n : Nat) (c f : Int) (K : List (List Rw)) : Bool := K.all (rpo n) && chk c f K
theorem t20_0 {n : Nat} (hn : 20000000 ≤ n) {c f : Int} {K : List (List Rw)} (hK : K.length ≤ 1048576) (hR : ∀ l ∈ K, Rp l) : ∀ (k i : Nat), i ≤ K.length → K.length - i < k → ok (lp20_0 n k (i : Int) c f K) fun r => r = ((K.drop i).all (rpo n) && chk c f K, ())
  | 0, i, h, hk => by omega
  | k + 1, i, h, hk => by
    show ok (st20_0 n (lp20_0 n k) _ c f K) _
    unfold st20_0
    refine ok.ite (fun h1 => ok.guard (by omega) (ok.guard h1 ?_)) (fun h1 => ?_)
    · have hi : i < K.length := by omega
      rw [rdOf_nat hi, drop_cons hi]
      refine (t33 hn (hR _ (List.getElem_mem hi))).1.bind fun r q => ?_
      subst q
      refine ok.iteb (fun h2 => ok.some ?_) (fun h2 => ?_)
      · have h2 : rpo n K[i] = false := by simpa using h2
        rw [List.all_cons, h2]; rfl
      · have h2 : rpo n K[i] = true := by simpa using h2
        rw [w1 hi (by omega)]
        refine (t20_0 hn hK hR k (i + 1) (by omega) (by omega)).mono fun r hr => ?_
        rw [hr, List.all_cons, h2]; rfl
    · rw [List.drop_eq_nil_of_le (by omega)]
      simp only [f21, Option.bind_some, List.all_nil, Bool.true_and]
      unfold chk
      cases inr c 1 5
      · exact ok.some rfl
      · refine ok.iteb (fun _ => ok.ite (fun h2 => ?_) (fun h2 => ok.some (by simp [h2]))) (fun h => by cases h)
        cases inr f 0 1000000
        · exact ok.some (by simp)
        · refine ok.iteb (fun _ => ok.ite (fun h3 => ok.some (by simp [h2, h3])) (fun h3 => ok.some (by simp [h2, h3]))) (fun h => by cases h)
theorem t20 {n : Nat} (hn : 20000000 ≤ n) {c f : Int} {K : List (List Rw)} (hK : K.length ≤ 1048576) (hR : ∀ l ∈ K, Rp l) : ok (F20 n c f K) fun r => r = (sto n c f K, ()) := t20_0 hn hK hR n 0 (by omega) (by omega)
theorem t48 {n : Nat} (hn : 20000000 ≤ n) {K : List (List Rw)} (hK : K.length ≤ 1048576) (hR : ∀ l ∈ K, Rp l) : ∀ (k i : Nat), i ≤ K.length → K.length - i < k → ok (lp48_40_0 n k K (K.length : Int) (i : Int)) fun r => decide (r.1 ≥ 0) = !(K.drop i).all (rpo n)
  | 0, i, h, hk => by omega
  | k + 1, i, h, hk => by
    show ok (st48_40_0 n (lp48_40_0 n k) K _ _) _
    unfold st48_40_0
    refine ok.ite (fun h1 => ok.guard (by omega) (ok.guard h1 ?_)) (fun h1 => ok.some ?_)
    · have hi : i < K.length := by omega
      rw [rdOf_nat hi, drop_cons hi]
      unfold F40
      rw [f36]
      refine ((t33 hn (hR _ (List.getElem_mem hi))).1.bind (R := fun r => r = (!rpo n K[i], ())) fun r q => ok.some (by rw [q])).bind fun r q => ?_
      subst q
      refine ok.iteb (fun h2 => ok.some ?_) (fun h2 => ?_)
      · have h2 : rpo n K[i] = false := by simpa using h2
        rw [List.all_cons, h2, decide_eq_true (by omega)]; rfl
      · have h2 : rpo n K[i] = true := by simpa using h2
        rw [w1 hi (by omega)]
        refine (t48 hn hK hR k (i + 1) (by omega) (by omega)).mono fun r hr => ?_
        rw [hr, List.all_cons, h2]; rfl
    · rw [List.drop_eq_nil_of_le (by omega)]; rfl
theorem t39 {n : Nat} (hn : 20000000 ≤ n) {K : List (List Rw)} (hK : K.length ≤ 1048576) (hR : ∀ l ∈ K, Rp l) : ok (F39_40 n K) fun r => r = (!K.all (rpo n), ()) := by
  unfold F39_40 F48_40 st48_40
  refine (t48 hn hK hR n 0 (by omega) (by omega)).bind fun r q => ok.some ?_
  rw [q]; rfl
theorem t24 {n : Nat} (hn : 20000000 ≤ n) {c f : Int} {K : List (List Rw)} (hK : K.length ≤ 1048576) (hR : ∀ l ∈ K, Rp l) : ok (F24 n c f K) fun r => r = (sto n c f K, ()) := by
  unfold F24 sto chk
  simp only [f25, Option.bind_some]
  cases inr c 1 5
  · exact ok.some (by simp)
  · refine ok.iteb (fun _ => ok.ite (fun h2 => ?_) (fun h2 => ok.some (by simp [h2]))) (fun h => by cases h)
    cases inr f 0 1000000
    · exact ok.some (by simp)
    · refine ok.iteb (fun _ => ok.ite (fun h3 => ?_) (fun h3 => ok.ite (fun h4 => ?_) (fun h4 => ok.some (by simp [h2, h3, h4])))) (fun h => by cases h)
      · refine (t39 hn hK hR).bind fun r q => ok.some ?_
        subst q
        simp [h2, h3]
      · refine (t39 hn hK hR).bind fun r q => ok.some ?_
        subst q
        simp [h2, h3, h4]
noncomputable def pu (n : Nat) (c f : Int) (K : List (List Rw)) (l : List Rw) : Int × Int × List (List Rw) :=
  if (sto n c f K && (rpo n l && !(decide (f = 1000000)))) = true then (if decide (((K ++ [l]).length : Int) > c) = true then (c, wrap64 (f + 1), (K ++ [l]).drop 1) else (c, f, K ++ [l])) else (c, f, K)
theorem pu_len (n : Nat) (c f : Int) (K : List (List Rw)) (l : List Rw) : (pu n c f K l).2.2.length ≤ K.length + 1 := by
  unfold pu
  split
  · split
    · show ((K ++ [l]).drop 1).length ≤ _; simp
    · show (K ++ [l]).length ≤ _; simp
  · exact Nat.le_succ _
theorem pu_rp (n : Nat) (c f : Int) {K : List (List Rw)} {l : List Rw} (hK : ∀ x ∈ K, Rp x) (hl : Rp l) : ∀ x ∈ (pu n c f K l).2.2, Rp x := by
  have h : ∀ x ∈ K ++ [l], Rp x := fun x hx => by
    rcases List.mem_append.1 hx with hx | hx
    · exact hK x hx
    · rw [List.mem_singleton.1 hx]; exact hl
  unfold pu
  split
  · split
    · exact fun x hx => h x (List.mem_of_mem_drop hx)
    · exact h
  · exact hK
theorem t32_0 {n : Nat} {c f i4 i5 : Int} {K l6 : List (List Rw)} {i7 i8 : Int} (hK : K.length ≤ 1048576) (hR : ∀ l ∈ K, Rp l) : ∀ (k i : Nat) (out : List (List Rw)), i ≤ K.length → K.length - i < k → out.length + (K.length - i) ≤ 3000000 → ok (lp32_0 n k (i : Int) c f K i4 i5 l6 i7 i8 out) fun r => r = (i7, i8, out ++ K.drop i, ())
  | 0, i, out, h, hk, ho => by omega
  | k + 1, i, out, h, hk, ho => by
    show ok (st32_0 n (lp32_0 n k) _ c f K i4 i5 l6 i7 i8 out) _
    unfold st32_0
    refine ok.ite (fun h1 => ok.guard (by omega) (ok.guard h1 ?_)) (fun h1 => ok.some ?_)
    · have hi : i < K.length := by omega
      have hr := (hR _ (List.getElem_mem hi)).1
      rw [rdOf_nat hi]
      refine ok.guard (by simp only [List.length_nil]; omega) (ok.guard (by simp only [List.length_cons, List.length_nil]; omega) ?_)
      rw [w1 hi (by omega)]
      refine (t32_0 hK hR k (i + 1) _ (by omega) (by omega) (by simp only [List.length_append, List.length_cons, List.length_nil]; omega)).mono fun r hr => ?_
      rw [hr, drop_cons hi]
      simp
    · rw [List.drop_eq_nil_of_le (by omega)]; simp
theorem t32 {n : Nat} (hn : 20000000 ≤ n) {c f : Int} {K : List (List Rw)} (hK : K.length ≤ 1048576) (hR : ∀ l ∈ K, Rp l) : ok (F32 n c f K) fun r => r = (c, f, K, ()) :=
  (t32_0 hK hR n 0 [] (by omega) (by omega) (by simp only [List.length_nil]; omega)).mono fun r hr => by rw [hr]; simp
theorem cut1 {α : Type} (l : List α) : cutL l (1 : Int) (l.length : Int) = l.drop 1 := by simp [cutL]
theorem t15 {n : Nat} (hn : 20000000 ≤ n) {c f : Int} {K : List (List Rw)} {l : List Rw} (hK : K.length ≤ 1048576) (hR : ∀ l ∈ K, Rp l) (hl : Rp l) : ok (F15 n c f K l) fun r => r = ((pu n c f K l).1, (pu n c f K l).2.1, (pu n c f K l).2.2, ()) := by
  have hl1 := hl.1
  unfold F15
  refine (t32 hn hK hR).bind fun r1 q1 => (t20 hn hK hR).bind fun r2 q2 => ?_
  subst q1 q2
  unfold pu
  refine ok.iteb (fun h => ok.some ?_) (fun h => (t33 hn hl).1.bind fun r3 q3 => ?_)
  · have h : sto n c f K = false := by simpa using h
    rw [h]; rfl
  · have h : sto n c f K = true := by simpa using h
    subst q3
    refine ok.iteb (fun h2 => ok.some ?_) (fun h2 => ok.ite (fun h3 => ok.some ?_) (fun h3 => ?_))
    · have h2 : rpo n l = false := by simpa using h2
      rw [h, h2]; rfl
    · rw [h, decide_eq_true h3]; simp
    · have h2 : rpo n l = true := by simpa using h2
      have e : ([] : List Rw) ++ l = l := rfl
      rw [h, h2, decide_eq_false h3, e]
      refine ok.guard (by simp only [List.length_nil]; omega) (ok.guard (by simp only [List.length_cons, List.length_nil]; omega) (ok.ite (fun h4 => ok.guard (by omega) (ok.guard (by simp only [List.length_append, List.length_cons, List.length_nil]; omega) (ok.guard (Int.le_refl _) (ok.some ?_)))) (fun h4 => ok.some ?_)))
      · simp only [cut1]
        rw [decide_eq_true h4]; rfl
      · rw [decide_eq_false h4]; rfl
theorem t35 {n : Nat} {l : List Rw} (hl : l.length ≤ 1048576) : ok (F35 n l) fun r => r = (l, ()) := by
  unfold F35 cloF
  exact ok.guard (by simp only [List.length_nil]; omega) (ok.some rfl)
theorem t17_0 {n : Nat} (hn : 20000000 ≤ n) {l : List Rw} {K : List (List Rw)} {c f : Int} {i7 i8 : Int} {l9 : List (List Rw)} (hK : K.length ≤ 1048576) (hR : ∀ l ∈ K, Rp l) (hl : Rp l) : ∀ (k i : Nat) (out : List (List Rw)), i ≤ K.length → K.length - i < k → out = K.take i →
    ok (lp17_0 n k l K (K.length : Int) (i : Int) c f K i7 i8 l9 c f out) fun r => r = ((pu n c f K l).1, (pu n c f K l).2.1, (pu n c f K l).2.2, ())
  | 0, i, out, h, hk, ho => by omega
  | k + 1, i, out, h, hk, ho => by
    have hl1 := hl.1
    show ok (st17_0 n (lp17_0 n k) l K _ _ c f K i7 i8 l9 c f out) _
    unfold st17_0
    have hol : out.length ≤ 1048576 := by rw [ho, List.length_take]; omega
    refine ok.ite (fun h1 => ok.guard (by omega) (ok.guard h1 ?_)) (fun h1 => ?_)
    · have hi : i < K.length := by omega
      have hr := (hR _ (List.getElem_mem hi)).1
      rw [rdOf_nat hi]
      refine (t35 (by omega)).bind fun r q => ?_
      subst q
      refine ok.guard (by simp only [List.length_cons, List.length_nil]; omega) ?_
      rw [w1 hi (by omega)]
      refine t17_0 hn hK hR hl k (i + 1) _ (by omega) (by omega) ?_
      rw [ho]; simp
    · have hK' : out = K := by rw [ho, List.take_of_length_le (by omega)]
      subst hK'
      unfold pu
      refine (t24 hn hK hR).bind fun r2 q2 => ?_
      subst q2
      refine ok.iteb (fun h => ok.some ?_) (fun h => ?_)
      · have h : sto n c f out = false := by simpa using h
        rw [h]; rfl
      · have h : sto n c f out = true := by simpa using h
        rw [f36]
        refine (t33 hn hl).1.bind fun r3 q3 => ?_
        subst q3
        refine ok.iteb (fun h2 => ok.some ?_) (fun h2 => ok.ite (fun h3 => ok.some ?_) (fun h3 => ?_))
        · have h2 : rpo n l = false := by simpa using h2
          rw [h, h2]; rfl
        · rw [h, decide_eq_true h3]; simp
        · have h2 : rpo n l = true := by simpa using h2
          rw [h, h2, decide_eq_false h3]
          refine (t35 (by omega)).bind fun r q => ?_
          subst q
          refine ok.guard (by simp only [List.length_cons, List.length_nil]; omega) (ok.ite (fun h4 => ok.guard (by omega) (ok.guard (by simp only [List.length_append, List.length_cons, List.length_nil]; omega) (ok.guard (Int.le_refl _) (ok.some ?_)))) (fun h4 => ok.some ?_))
          · simp only [cut1]
            rw [decide_eq_true h4]; rfl
          · rw [decide_eq_false h4]; rfl
theorem t17 {n : Nat} (hn : 20000000 ≤ n) {c f : Int} {K : List (List Rw)} {l : List Rw} (hK : K.length ≤ 1048576) (hR : ∀ l ∈ K, Rp l) (hl : Rp l) : ok (F17 n c f K l) fun r => r = ((pu n c f K l).1, (pu n c f K l).2.1, (pu n c f K l).2.2, ()) :=
  t17_0 hn hK hR hl n 0 [] (by omega) (by omega) rfl

/-! ### draws -/
end Go.Eva
end
section
/- Stores: sizes, copies, comparisons, marks held. -/
namespace Go.Eva
open Go.RowKit (wrap64)
set_option linter.unusedVariables false
set_option linter.unusedSimpArgs false

theorem wb {i n : Nat} (h : i < n) (hn : n ≤ 1048576) : wrap64 ((i : Int) + 1) = ((i + 1 : Nat) : Int) := w1 h (by omega)
/-! ### sizes -/
theorem t31s {n : Nat} {s : ByteArray} {a b : Int} {t : Bool} {d e f g u v : Int} {left : Int} (hs : s.size ≤ maxLen) (h0 : 0 ≤ left) (h1 : left ≤ 1048576) : ok (F31 n s a b t d e f g u v left) fun r => r.1 < 0 ∨ (0 ≤ r.1 ∧ r.1 ≤ left ∧ s.size ≤ 1048576) := by
  have hm : maxLen = 9223372036854775807 := rfl
  unfold F31
  rw [w64 (by omega) (by omega)]
  refine ok.ite (fun h => ok.some (.inl (by decide))) (fun h => ok.some (.inr ⟨?_, ?_, by omega⟩))
  · show 0 ≤ left - (s.size : Int); omega
  · show left - (s.size : Int) ≤ left; omega
theorem t14s_0 {n : Nat} {l : List Rw} (hl : l.length ≤ 1048576) (hs : ∀ x ∈ l, x.1.size ≤ maxLen) : ∀ (k i : Nat) (left : Int), 0 ≤ left → left ≤ 1048576 → i ≤ l.length → l.length - i < k → ok (lp14_0 n k l left (i : Int)) fun r => r.1 < 0 ∨ (0 ≤ r.1 ∧ r.1 ≤ left ∧ ∀ j (h : j < l.length), i ≤ j → l[j].1.size ≤ 1048576)
  | 0, i, left, h0, h1, h, hk => by omega
  | k + 1, i, left, h0, h1, h, hk => by
    show ok (st14_0 n (lp14_0 n k) l left _) _
    unfold st14_0
    refine ok.ite (fun h2 => ok.guard (by omega) (ok.guard h2 ?_)) (fun h2 => ok.some (.inr ⟨h0, Int.le_refl _, fun j hj hi => by omega⟩))
    have hi : i < l.length := by omega
    rw [rdOf_nat hi]
    refine (t31s (hs _ (List.getElem_mem hi)) h0 h1).bind fun r1 q1 => ?_
    refine ok.ite (fun h3 => ok.some (.inl (by decide))) (fun h3 => ?_)
    obtain ⟨q2, q3, q4⟩ := q1.resolve_left h3
    have e := wb hi hl
    rw [e]
    refine (t14s_0 hl hs k (i + 1) r1.1 q2 (by omega) (by omega) (by omega)).mono fun r q => ?_
    rcases q with q | ⟨p1, p2, p3⟩
    · exact .inl q
    · refine .inr ⟨p1, by omega, fun j hj hij => ?_⟩
      by_cases hji : j = i
      · subst hji; exact q4
      · exact p3 j hj (by omega)
theorem t14s {n : Nat} (hn : 20000000 ≤ n) {l : List Rw} (hl : l.length ≤ maxLen) (hs : ∀ x ∈ l, x.1.size ≤ maxLen) {left : Int} (h0 : 0 ≤ left) (h1 : left ≤ 1048576) : ok (F14 n l left) fun r => r.1 < 0 ∨ (0 ≤ r.1 ∧ r.1 + l.length ≤ left ∧ ∀ x ∈ l, x.1.size ≤ 1048576) := by
  have hm : maxLen = 9223372036854775807 := rfl
  unfold F14 st14
  rw [w64 (by omega) (by omega)]
  refine ok.ite (fun h => ok.some (.inl (by decide))) (fun h => ?_)
  refine (t14s_0 (by omega) hs n 0 (left - l.length) (by omega) (by omega) (by omega) (by omega)).mono fun r q => ?_
  rcases q with q | ⟨p1, p2, p3⟩
  · exact .inl q
  · refine .inr ⟨p1, by omega, fun x hx => ?_⟩
    obtain ⟨j, hj, rfl⟩ := List.getElem_of_mem hx
    exact p3 j hj (by omega)
def sl (K : List (List Rw)) : Nat := (K.map List.length).sum
theorem sl_mem {K : List (List Rw)} {l : List Rw} (h : l ∈ K) : l.length ≤ sl K := by
  induction K with
  | nil => cases h
  | cons x K ih =>
    unfold sl
    rw [List.map_cons, List.sum_cons]
    rcases List.mem_cons.1 h with rfl | h
    · exact Nat.le_add_right _ _
    · have := ih h
      unfold sl at this
      omega
theorem t19s_0 {n : Nat} (hn : 20000000 ≤ n) {K : List (List Rw)} (hK : K.length ≤ 1048576) (hl : ∀ l ∈ K, l.length ≤ maxLen ∧ ∀ x ∈ l, x.1.size ≤ maxLen) : ∀ (k i : Nat) (left : Int), 0 ≤ left → left ≤ 1048576 → i ≤ K.length → K.length - i < k → ok (lp19_0 n k K left (i : Int)) fun r => r.1 < 0 ∨ (0 ≤ r.1 ∧ r.1 + sl (K.drop i) ≤ left ∧ ∀ j (h : j < K.length), i ≤ j → ∀ x ∈ K[j], x.1.size ≤ 1048576)
  | 0, i, left, h0, h1, h, hk => by omega
  | k + 1, i, left, h0, h1, h, hk => by
    show ok (st19_0 n (lp19_0 n k) K left _) _
    unfold st19_0
    refine ok.ite (fun h2 => ok.guard (by omega) (ok.guard h2 ?_)) (fun h2 => ok.some (.inr ⟨h0, ?_, fun j hj hi => by omega⟩))
    · have hi : i < K.length := by omega
      rw [rdOf_nat hi]
      have hL := hl _ (List.getElem_mem hi)
      refine (t14s hn hL.1 hL.2 h0 h1).bind fun r1 q1 => ?_
      refine ok.ite (fun h3 => ok.some (.inl (by decide))) (fun h3 => ?_)
      obtain ⟨q2, q3, q4⟩ := q1.resolve_left h3
      have e := wb hi hK
      rw [e]
      refine (t19s_0 hn hK hl k (i + 1) r1.1 q2 (by omega) (by omega) (by omega)).mono fun r q => ?_
      rcases q with q | ⟨p1, p2, p3⟩
      · exact .inl q
      · refine .inr ⟨p1, ?_, fun j hj hij => ?_⟩
        · rw [drop_cons hi]
          show r.1 + ((K[i].length + sl (K.drop (i + 1)) : Nat) : Int) ≤ left
          omega
        · by_cases hji : j = i
          · subst hji; exact q4
          · exact p3 j hj (by omega)
    · rw [List.drop_eq_nil_of_le (by omega)]
      show left + ((0 : Nat) : Int) ≤ left
      omega
theorem t5s {n : Nat} (hn : 20000000 ≤ n) {c f : Int} {K : List (List Rw)} (hK : K.length ≤ maxLen) (hl : ∀ l ∈ K, l.length ≤ maxLen ∧ ∀ x ∈ l, x.1.size ≤ maxLen) {left : Int} (h0 : 0 ≤ left) (h1 : left ≤ 1048576) : ok (F5 n c f K left) fun r => r.1 < 0 ∨ (0 ≤ r.1 ∧ r.1 + K.length + sl K ≤ left ∧ ∀ l ∈ K, ∀ x ∈ l, x.1.size ≤ 1048576) := by
  have hm : maxLen = 9223372036854775807 := rfl
  unfold F5 F19 st19
  rw [w64 (by omega) (by omega)]
  refine ok.bind (Q := fun r => r.1 < 0 ∨ (0 ≤ r.1 ∧ r.1 + K.length + sl K ≤ left ∧ ∀ l ∈ K, ∀ x ∈ l, x.1.size ≤ 1048576)) (ok.ite (fun h => ok.some (.inl (by decide))) (fun h => ?_)) fun r q => ok.ite (fun h => ok.some (.inl (by decide))) (fun h => ok.some q)
  refine (t19s_0 hn (by omega) hl n 0 (left - K.length) (by omega) (by omega) (by omega) (by omega)).mono fun r q => ?_
  rcases q with q | ⟨p1, p2, p3⟩
  · exact .inl q
  · refine .inr ⟨p1, by rw [List.drop_zero] at p2; omega, fun x hx => ?_⟩
    obtain ⟨j, hj, rfl⟩ := List.getElem_of_mem hx
    exact p3 j hj (by omega)
/-! ### copies -/
theorem t16_0 {n : Nat} {l : List Rw} (hl : l.length ≤ 1048576) : ∀ (k i : Nat) (o : List Rw), o.length = l.length → (∀ j (h : j < o.length) (h' : j < l.length), j < i → o[j] = l[j]) → i ≤ l.length → l.length - i < k → ok (lp16_0 n k l (i : Int) o) fun r => r = (l, ())
  | 0, i, o, ho, hp, h, hk => by omega
  | k + 1, i, o, ho, hp, h, hk => by
    show ok (st16_0 n (lp16_0 n k) l _ o) _
    unfold st16_0
    refine ok.ite (fun h2 => ok.guard (by omega) (ok.guard h2 ?_)) (fun h2 => ok.some ?_)
    · have hi : i < l.length := by omega
      have e := wb hi hl
      rw [rdOf_nat hi, e]
      unfold F34
      refine (ok.some rfl : ok _ fun r => r = _).bind fun r q => ?_
      subst q
      refine ok.guard (by omega) (ok.guard (by omega) ?_)
      rw [Int.toNat_natCast]
      refine t16_0 hl k (i + 1) (o.set i l[i]) (by rw [List.length_set]; exact ho) (fun j h1 h2 hj => ?_) (by omega) (by omega)
      by_cases hji : j = i
      · subst hji; rw [List.getElem_set_self]
      · rw [List.getElem_set_ne (Ne.symm hji)]; exact hp j (by rwa [List.length_set] at h1) h2 (by omega)
    · have : o = l := List.ext_getElem ho fun j h1 h2 => hp j h1 h2 (by omega)
      rw [this]
theorem t16 {n : Nat} (hn : 20000000 ≤ n) {l : List Rw} (hl : l.length ≤ 1048576) : ok (F16 n l) fun r => r = (l, ()) := by
  unfold F16 st16
  exact ok.guard (by omega) (ok.guard rfl (ok.guard (by omega) (t16_0 hl n 0 _ (by rw [List.length_replicate, Int.toNat_natCast]) (fun j h1 h2 hj => by omega) (by omega) (by omega))))
theorem t23_0 {n : Nat} (hn : 20000000 ≤ n) {K : List (List Rw)} (hK : K.length ≤ 1048576) (hl : ∀ l ∈ K, l.length ≤ 1048576) : ∀ (k i : Nat) (o : List (List Rw)), o.length = K.length → (∀ j (h : j < o.length) (h' : j < K.length), j < i → o[j] = K[j]) → i ≤ K.length → K.length - i < k → ok (lp23_0 n k K (i : Int) o) fun r => r = (K, ())
  | 0, i, o, ho, hp, h, hk => by omega
  | k + 1, i, o, ho, hp, h, hk => by
    show ok (st23_0 n (lp23_0 n k) K _ o) _
    unfold st23_0
    refine ok.ite (fun h2 => ok.guard (by omega) (ok.guard h2 ?_)) (fun h2 => ok.some ?_)
    · have hi : i < K.length := by omega
      have e := wb hi hK
      rw [rdOf_nat hi, e]
      refine (t16 hn (hl _ (List.getElem_mem hi))).bind fun r q => ?_
      subst q
      refine ok.guard (by omega) (ok.guard (by omega) ?_)
      rw [Int.toNat_natCast]
      refine t23_0 hn hK hl k (i + 1) (o.set i K[i]) (by rw [List.length_set]; exact ho) (fun j h1 h2 hj => ?_) (by omega) (by omega)
      by_cases hji : j = i
      · subst hji; rw [List.getElem_set_self]
      · rw [List.getElem_set_ne (Ne.symm hji)]; exact hp j (by rwa [List.length_set] at h1) h2 (by omega)
    · have : o = K := List.ext_getElem ho fun j h1 h2 => hp j h1 h2 (by omega)
      rw [this]
theorem t7 {n : Nat} (hn : 20000000 ≤ n) {c f : Int} {K : List (List Rw)} (hK : K.length ≤ 1048576) (hl : ∀ l ∈ K, l.length ≤ 1048576) : ok (F7 n c f K) fun r => r = (c, f, K, ()) := by
  unfold F7 F23 st23
  refine ok.bind (Q := fun r => r = (K, ())) (ok.guard (by omega) (ok.guard rfl (ok.guard (by omega) (t23_0 hn hK hl n 0 _ (by rw [List.length_replicate, Int.toNat_natCast]) (fun j h1 h2 hj => by omega) (by omega) (by omega))))) fun r q => ok.some ?_
  rw [q]
/-! ### comparisons -/
theorem t27 {n : Nat} {s : ByteArray} {a b : Int} {t : Bool} {d e f g u v : Int} : ok (F27 n s a b t d e f g u v s a b t d e f g u v) fun r => r = (true, ()) := by
  unfold F27
  refine ok.iteb (fun h => ?_) (fun _ => ok.ite (fun h => absurd rfl h) (fun _ => ok.ite (fun h => absurd rfl h) (fun _ => ok.iteb (fun h => ?_) (fun _ => ok.ite (fun h => absurd rfl h) (fun _ => ok.ite (fun h => absurd rfl h) (fun _ => ok.ite (fun h => absurd rfl h) (fun _ => ok.ite (fun h => absurd rfl h) (fun _ => ok.ite (fun h => absurd rfl h) (fun _ => ok.ite (fun h => absurd rfl h) (fun _ => ok.some rfl))))))))))
  · rw [decide_eq_true rfl] at h; cases h
  · cases t <;> cases h
theorem t9_0 {n : Nat} {l : List Rw} (hl : l.length ≤ 1048576) : ∀ (k i : Nat), i ≤ l.length → l.length - i < k → ok (lp9_0 n k l l (i : Int)) fun r => r = (true, ())
  | 0, i, h, hk => by omega
  | k + 1, i, h, hk => by
    show ok (st9_0 n (lp9_0 n k) l l _) _
    unfold st9_0
    refine ok.ite (fun h2 => ok.guard (by omega) (ok.guard h2 (ok.guard (by omega) (ok.guard h2 ?_)))) (fun h2 => ok.some rfl)
    have hi : i < l.length := by omega
    have e := wb hi hl
    rw [e]
    refine t27.bind fun r q => ?_
    subst q
    exact ok.iteb (fun h => by cases h) (fun _ => t9_0 hl k (i + 1) (by omega) (by omega))
theorem t9 {n : Nat} (hn : 20000000 ≤ n) {l : List Rw} (hl : l.length ≤ 1048576) : ok (F9 n l l) fun r => r = (true, ()) := by
  unfold F9 st9
  exact ok.ite (fun h => absurd rfl h) (fun _ => t9_0 hl n 0 (by omega) (by omega))
theorem t28_0 {n : Nat} (hn : 20000000 ≤ n) {K : List (List Rw)} (hK : K.length ≤ 1048576) (hl : ∀ l ∈ K, l.length ≤ 1048576) : ∀ (k i : Nat), i ≤ K.length → K.length - i < k → ok (lp28_0 n k K K (i : Int)) fun r => r = (true, ())
  | 0, i, h, hk => by omega
  | k + 1, i, h, hk => by
    show ok (st28_0 n (lp28_0 n k) K K _) _
    unfold st28_0
    refine ok.ite (fun h2 => ok.guard (by omega) (ok.guard h2 (ok.guard (by omega) (ok.guard h2 ?_)))) (fun h2 => ok.some rfl)
    have hi : i < K.length := by omega
    have e := wb hi hK
    rw [e, rdOf_nat hi]
    refine (t9 hn (hl _ (List.getElem_mem hi))).bind fun r q => ?_
    subst q
    exact ok.iteb (fun h => by cases h) (fun _ => t28_0 hn hK hl k (i + 1) (by omega) (by omega))
theorem t10 {n : Nat} (hn : 20000000 ≤ n) {c f : Int} {K : List (List Rw)} (hK : K.length ≤ 1048576) (hl : ∀ l ∈ K, l.length ≤ 1048576) : ok (F10 n c f K c f K) fun r => r = (true, ()) := by
  unfold F10 F28 st28
  refine ok.ite (fun h => absurd rfl h) (fun _ => ok.ite (fun h => absurd rfl h) (fun _ => ok.bind (Q := fun r => r = (true, ())) (ok.ite (fun h => absurd rfl h) (fun _ => t28_0 hn hK hl n 0 (by omega) (by omega))) fun r q => ?_))
  subst q
  exact ok.iteb (fun h => by cases h) (fun _ => ok.some rfl)
/-! ### marks -/
def p10 : Nat → Nat
  | 0 => 1
  | n + 1 => p10 n * 10
theorem strOf_size (l : List Int) : (strOf l).size = l.length := by
  show Array.size (List.toArray _) = _
  rw [List.size_toArray, List.length_map]
theorem t30_0 {n : Nat} : ∀ (d k : Nat) (i : Int) (s : ByteArray), 0 ≤ i → i < (p10 d : Int) → d < k → s.size + d ≤ 1000 → i ≤ 1000000000000 → ok (lp30_0 n k i s) fun _ => True
  | d, 0, i, s, h0, h1, hk, hs, hi => by omega
  | d, k + 1, i, s, h0, h1, hk, hs, hi => by
    show ok (st30_0 n (lp30_0 n k) i s) _
    unfold st30_0
    have e1 : ∀ x : Int, (strOf [x]).size = 1 := fun x => strOf_size [x]
    have em : (⟨#[109]⟩ : ByteArray).size = 1 := rfl
    refine ok.ite (fun h => ok.guard (by decide) (ok.guard (by rw [e1]; omega) (ok.guard (by decide) ?_))) (fun h => ok.guard (by omega) (ok.some trivial))
    obtain ⟨m, rfl⟩ := Int.eq_ofNat_of_zero_le h0
    have e : ((m : Int).tdiv 10) = ((m / 10 : Nat) : Int) := by
      rw [Int.tdiv_eq_ediv_of_nonneg (by omega)]
      omega
    match d, h1, hs, hk with
    | 0, h1, hs, hk =>
      have : p10 0 = 1 := rfl
      omega
    | d + 1, h1, hs, hk =>
      have hp : p10 (d + 1) = p10 d * 10 := rfl
      rw [e, w64 (by omega) (by omega)]
      exact t30_0 d k _ _ (by omega) (by omega) (by omega) (by rw [ByteArray.size_append, e1]; omega) (by omega)
noncomputable def mtx (n : Nat) (k : Int) : ByteArray := ((F30 n k).getD (⟨#[]⟩, ())).1
theorem f30 {n : Nat} (hn : 20000000 ≤ n) {k : Int} (h0 : 0 ≤ k) (h1 : k ≤ 1000000000000) : F30 n k = some (mtx n k, ()) := by
  have h : ok (F30 n k) fun _ => True := by
    unfold F30 st30
    refine ok.ite (fun _ => ok.some trivial) (fun _ => t30_0 13 n k _ h0 ?_ (by omega) (by decide) h1)
    have : p10 13 = 10000000000000 := by decide
    omega
  obtain ⟨⟨a, u⟩, e, _⟩ := h
  unfold mtx
  rw [e]
  rfl
/-- A marked row. -/
def mkR (mt : Int → ByteArray) (k : Int) : Rw := (mt k, (k + 1, (k + 2, (decide ((k + 3).tmod 3 = 0), (k + 4, (k + 5, (k + 6, (k + 7, (k + 8, k + 9)))))))))
def mkRow (mt : Int → ByteArray) (k : Int) (n : Nat) : List Rw := (List.range n).map fun j => mkR mt (k + 10 * (j : Nat))
theorem mkRow_len (mt : Int → ByteArray) (k : Int) (m : Nat) : (mkRow mt k m).length = m := by simp [mkRow]
theorem mkRow_get {mt : Int → ByteArray} {k : Int} {m i : Nat} (h : i < (mkRow mt k m).length) : (mkRow mt k m)[i] = mkR mt (k + 10 * i) := by
  simp [mkRow]
theorem wr10 {x : Int} (h0 : 0 ≤ x) (h1 : x ≤ 1000000000000) : wrap64 (x + 1) = x + 1 ∧ wrap64 (x + 1 + 1) = x + 2 ∧ wrap64 (x + 2 + 1) = x + 3 ∧ wrap64 (x + 3 + 1) = x + 4 ∧ wrap64 (x + 4 + 1) = x + 5 ∧ wrap64 (x + 5 + 1) = x + 6 ∧ wrap64 (x + 6 + 1) = x + 7 ∧ wrap64 (x + 7 + 1) = x + 8 ∧ wrap64 (x + 8 + 1) = x + 9 ∧ wrap64 (x + 9 + 1) = x + 10 := by
  refine ⟨?_, ?_, ?_, ?_, ?_, ?_, ?_, ?_, ?_, ?_⟩ <;> (rw [w64 (by omega) (by omega)]; try omega)
theorem t13h_0 {n : Nat} (hn : 20000000 ≤ n) {l : List Rw} (hl : l.length ≤ 1048576) {k : Int} (h0 : 0 ≤ k) (h1 : k ≤ 100000000000) (hp : l = mkRow (mtx n) k l.length) : ∀ (q i : Nat) (x : Int), i ≤ l.length → l.length - i < q → x = k + 10 * i → ok (lp13_0 n q l x (i : Int)) fun r => r = (k + 10 * l.length, ())
  | 0, i, x, h, hk, hx => by omega
  | q + 1, i, x, h, hk, hx => by
    show ok (st13_0 n (lp13_0 n q) l x (i : Int)) _
    unfold st13_0
    refine ok.ite (fun h2 => ok.guard (by omega) (ok.guard h2 ?_)) (fun h2 => ok.some ?_)
    · have hi : i < l.length := by omega
      have er : l[i] = mkR (mtx n) x := by rw [List.getElem_of_eq hp hi, mkRow_get, hx]
      have z0 : 0 ≤ x := by omega
      have z1 : x ≤ 1000000000000 := by omega
      have i0 : (0 : Int) ≤ (i : Int) := by omega
      have w5 : wrap64 ((i : Int) + 1) = ((i + 1 : Nat) : Int) := wb hi hl
      have W := wr10 z0 z1
      have nx : i + 1 ≤ l.length := by omega
      have nq : l.length - (i + 1) < q := by omega
      have nk : x + 10 = k + 10 * ((i + 1 : Nat) : Int) := by omega
      rw [rdOf_nat hi, er, W.1, W.2.1, W.2.2.1, W.2.2.2.1, W.2.2.2.2.1, W.2.2.2.2.2.1, W.2.2.2.2.2.2.1, W.2.2.2.2.2.2.2.1, W.2.2.2.2.2.2.2.2.1, W.2.2.2.2.2.2.2.2.2, w5]
      clear W w5
      refine ok.bind (Q := fun r => r = (mtx n x, ())) ⟨_, f30 hn z0 z1, rfl⟩ fun r1 q1 => ?_
      subst q1
      refine ok.iteb (fun e => ?_) (fun _ => ok.guard i0 (ok.guard h2 (ok.ite (fun e => absurd rfl e) (fun _ => ok.guard i0 (ok.guard h2 (ok.ite (fun e => absurd rfl e) (fun _ => ok.guard i0 (ok.guard h2 (ok.guard (by decide) (ok.iteb (fun e => ?_) (fun _ => ok.guard i0 (ok.guard h2 (ok.ite (fun e => absurd rfl e) (fun _ => ok.guard i0 (ok.guard h2 (ok.ite (fun e => absurd rfl e) (fun _ => ok.guard i0 (ok.guard h2 (ok.ite (fun e => absurd rfl e) (fun _ => ok.guard i0 (ok.guard h2 (ok.ite (fun e => absurd rfl e) (fun _ => ok.guard i0 (ok.guard h2 (ok.ite (fun e => absurd rfl e) (fun _ => ok.guard i0 (ok.guard h2 (ok.ite (fun e => absurd rfl e) (fun _ => ?_)))))))))))))))))))))))))))))
      · have e : (!decide ((mtx n x).toList = (mtx n x).toList)) = true := e
        rw [decide_eq_true rfl] at e; cases e
      · have e : (!(decide ((x + 3).tmod 3 = 0) == decide ((x + 3).tmod 3 = 0))) = true := e
        cases h : decide ((x + 3).tmod 3 = 0) <;> rw [h] at e <;> cases e
      · exact t13h_0 hn hl h0 h1 hp q (i + 1) (x + 10) nx nq nk
    · have : x = k + 10 * l.length := by omega
      rw [this]
theorem t13h {n : Nat} (hn : 20000000 ≤ n) {l : List Rw} (hl : l.length ≤ 1048576) {k : Int} (h0 : 0 ≤ k) (h1 : k ≤ 100000000000) (hp : l = mkRow (mtx n) k l.length) : ok (F13 n l k) fun r => r = (k + 10 * l.length, ()) := by
  unfold F13 st13
  exact t13h_0 hn hl h0 h1 hp n 0 k (by omega) (by omega) (by omega)
end Go.Eva
end
section
/- Marks of rows, written in place: the walk. -/
namespace Go.Eva
open Go.Proofs Go.Shelf
open Go.RowKit Go.Lib
set_option linter.unusedVariables false
set_option linter.unusedSimpArgs false
set_option maxRecDepth 100000
structure Hid (p : Prop) : Prop where
  out : p
abbrev kRow : Kd := .pair .str (.pair (.int .i64) (.pair (.int .i64) (.pair .bool (.pair (.int .i64) (.pair (.int .i64) (.pair (.int .i64) (.pair (.int .i64) (.pair (.int .i64) (.int .i64)))))))))
def sets : Array Value → Nat → List Value → Array Value
  | cur, _, [] => cur
  | cur, p, v :: vs => sets (cur.setIfInBounds p v) (p + 1) vs
theorem sets_spec : ∀ (vs : List Value) (cur : Array Value) (p : Nat), p + vs.length ≤ cur.size → (sets cur p vs).size = cur.size ∧ (∀ j (h : j < vs.length), (sets cur p vs)[p + j]? = some vs[j]) ∧ ∀ q, ¬ (p ≤ q ∧ q < p + vs.length) → (sets cur p vs)[q]? = cur[q]?
  | [], cur, p, h => ⟨rfl, (fun j h => by cases h), fun q _ => rfl⟩
  | v :: vs, cur, p, h => by
    rw [List.length_cons] at h
    obtain ⟨h1, h2, h3⟩ := sets_spec vs (cur.setIfInBounds p v) (p + 1) (by rw [Array.size_setIfInBounds]; omega)
    refine ⟨by show (sets (cur.setIfInBounds p v) (p + 1) vs).size = _; rw [h1, Array.size_setIfInBounds], fun j hj => ?_, fun q hq => ?_⟩
    · match j, hj with
      | 0, _ =>
        show (sets (cur.setIfInBounds p v) (p + 1) vs)[p + 0]? = some v
        rw [h3 (p + 0) (by omega), Nat.add_zero, Array.getElem?_setIfInBounds_self_of_lt (by omega)]
      | j + 1, hj =>
        have := h2 j (by simpa using hj)
        rw [show p + 1 + j = p + (j + 1) by omega] at this
        exact this
    · rw [List.length_cons] at hq
      show (sets (cur.setIfInBounds p v) (p + 1) vs)[q]? = _
      rw [h3 q (by omega), Array.getElem?_setIfInBounds_ne (by omega)]
def rowV (mt : Int → ByteArray) (x : Int) : List Value := [.string (mt x), .int .i64 (x + 1), .int .i64 (x + 2), .bool ((x + 3).tmod 3 == 0), .int .i64 (x + 4), .int .i64 (x + 5), .int .i64 (x + 6), .int .i64 (x + 7), .int .i64 (x + 8), .int .i64 (x + 9)]
theorem row_put {mt : Int → ByteArray} {cur' : Array Value} {off i n : Nat} {l : List kRow.T} {k x : Int} (h : FLr kRow cur'.toList off l) (hl : l.length = n) (hi : i < n) (hz : off + i * 10 + 9 < cur'.size) (hx : x = k + 10 * i) (hp : ∀ j (h : j < l.length), j < i → l[j] = mkR mt (k + 10 * j)) :
    ∃ l' : List kRow.T, l'.length = n ∧ FLr kRow ((((((((((cur'.setIfInBounds (off + i * 10) (.string (mt x))).setIfInBounds (off + i * 10 + 1) (.int .i64 (x + 1))).setIfInBounds (off + i * 10 + 2) (.int .i64 (x + 2))).setIfInBounds (off + i * 10 + 3) (.bool ((x + 3).tmod 3 == 0))).setIfInBounds (off + i * 10 + 4) (.int .i64 (x + 4))).setIfInBounds (off + i * 10 + 5) (.int .i64 (x + 5))).setIfInBounds (off + i * 10 + 6) (.int .i64 (x + 6))).setIfInBounds (off + i * 10 + 7) (.int .i64 (x + 7))).setIfInBounds (off + i * 10 + 8) (.int .i64 (x + 8))).setIfInBounds (off + i * 10 + 9) (.int .i64 (x + 9))).toList off l' ∧ ∀ j (h : j < l'.length), j < i + 1 → l'[j] = mkR mt (k + 10 * j) := by
  obtain ⟨_, h1, h2⟩ := sets_spec (rowV mt x) cur' (off + i * 10) (by show off + i * 10 + 10 ≤ _; omega)
  have e : ((((((((((cur'.setIfInBounds (off + i * 10) (.string (mt x))).setIfInBounds (off + i * 10 + 1) (.int .i64 (x + 1))).setIfInBounds (off + i * 10 + 2) (.int .i64 (x + 2))).setIfInBounds (off + i * 10 + 3) (.bool ((x + 3).tmod 3 == 0))).setIfInBounds (off + i * 10 + 4) (.int .i64 (x + 4))).setIfInBounds (off + i * 10 + 5) (.int .i64 (x + 5))).setIfInBounds (off + i * 10 + 6) (.int .i64 (x + 6))).setIfInBounds (off + i * 10 + 7) (.int .i64 (x + 7))).setIfInBounds (off + i * 10 + 8) (.int .i64 (x + 8))).setIfInBounds (off + i * 10 + 9) (.int .i64 (x + 9))) = sets cur' (off + i * 10) (rowV mt x) := rfl
  rw [e]
  generalize sets cur' (off + i * 10) (rowV mt x) = c2 at h1 h2
  refine ⟨l.set i (mkR mt x), by rw [List.length_set, hl], h.put (by omega) rfl h2 (fun w => ⟨[], [], rfl, ⟨h1 0 (by show 0 < 10; decide), rfl⟩, [], [], rfl, ⟨h1 1 (by show 1 < 10; decide), rfl⟩, [], [], rfl, ⟨h1 2 (by show 2 < 10; decide), rfl⟩, [], [], rfl, ⟨h1 3 (by show 3 < 10; decide), rfl⟩, [], [], rfl, ⟨h1 4 (by show 4 < 10; decide), rfl⟩, [], [], rfl, ⟨h1 5 (by show 5 < 10; decide), rfl⟩, [], [], rfl, ⟨h1 6 (by show 6 < 10; decide), rfl⟩, [], [], rfl, ⟨h1 7 (by show 7 < 10; decide), rfl⟩, [], [], rfl, ⟨h1 8 (by show 8 < 10; decide), rfl⟩, ⟨h1 9 (by show 9 < 10; decide), rfl⟩⟩), fun j hj hji => ?_⟩
  by_cases e : j = i
  · subst e
    rw [List.getElem_set_self, hx]
  · rw [List.getElem_set_ne (Ne.symm e)]
    exact hp j (by rwa [List.length_set] at hj) (by omega)
set_option maxHeartbeats 3200000 in
theorem markRow_walk {W w : World} (hB : Below W.heap.size W w) {g off cap n : Nat} {l : List kRow.T} {cur : Array Value} (hW : W.heap.size ≤ g) (hg : w.heap[g]? = some (.cells cur 49 (0, 0))) (hfit : off + l.length * 10 ≤ cur.size)
    (hF : FLr kRow cur.toList off l) (hl : n = l.length) (hn : n ≤ 1048576) {k : Int} (hk0 : 0 ≤ k) (hk : k ≤ 100000000000) {mt : Int → ByteArray}
    (hmt : ∀ k w, 0 ≤ k → k ≤ 1000000000000 → Below W.heap.size W w → Calls Try.prog 30 #[.int .i64 k] w fun e w' => e = .returned (.string (mt k)) ∧ Below w.heap.size w w') :
    Calls Try.prog 12 #[.slice (some ⟨g, off, none⟩) n cap, .int .i64 k] w fun e w' => e = .returned (.int .i64 (k + 10 * n)) ∧ ∃ cur' l', cur'.size = cur.size ∧ Mk w w' g cur' 49 ∧ FLr kRow cur'.toList off l' ∧ l'.length = n ∧ ∀ j (h : j < l'.length), l'[j] = mkR mt (k + 10 * j) := by
  have mixed : Try.prog.follows .mixedOrders = true := by kernel_rfl
  have HMT := Hid.mk hmt
  have HBW := Hid.mk hB
  have HF := Hid.mk hF
  have HG := Hid.mk hg
  have hfit : off + n * 10 ≤ cur.size := by rw [hl]; exact hfit
  have HL := Hid.mk hl
  clear hmt hB hF hg hl
  go_enter Try.func12, Try.ntmps12
  go_wp2
  go_loopg [1, 5] n (fun gq v1 v5 w' => ∃ (i : Nat) (x : Int) (cur' : Array Value) (l' : List kRow.T), v1 = .int .i64 x ∧ v5 = .int .i64 (i : Int) ∧ Hid (x = k + 10 * i) ∧ Hid (i + gq = n) ∧ Hid (cur'.size = cur.size) ∧ Hid (l'.length = n) ∧ Hid (Mk w w' g cur' 49) ∧ Hid (FLr kRow cur'.toList off l') ∧ Hid (∀ j (h : j < l'.length), j < i → l'[j] = mkR mt (k + 10 * j)))
  case atStart => exact ⟨0, k, cur, l, rfl, rfl, ⟨by omega⟩, ⟨by omega⟩, ⟨rfl⟩, ⟨HL.out.symm⟩, ⟨Mk.refl HG.out⟩, HF, ⟨fun j _ h => by omega⟩⟩
  case round =>
    obtain ⟨i, x, cur', l', rfl, rfl, HX, HI, HCS, HLL, HM, HFL, HP⟩ := hrel
    cases gk with
    | zero =>
      obtain rfl : i = n := by have := HI.out; omega
      have hd : decide ((i : Int) < (i : Int)) = false := decide_eq_false (by omega)
      go_wp2
      go_ret
      exact ⟨by rw [HX.out]; rfl, cur', l', HCS.out, HM.out, HFL.out, HLL.out, fun j h => HP.out j h (by have := HLL.out; omega)⟩
    | succ gk =>
      have hI := HI.out
      have hX := HX.out
      have hC := HCS.out
      have hi : i < n := by omega
      have hd : decide ((i : Int) < (n : Int)) = true := decide_eq_true (by omega)
      have hd0 : decide ((0 : Int) ≤ (i : Int)) = true := decide_eq_true (by omega)
      have x0 : 0 ≤ x := by omega
      have x1 : x ≤ 1000000000000 := by omega
      have HC := Hid.mk (HMT.out x wr x0 x1 (HM.out.base HBW.out hW HBW.out.size))
      have HW := Hid.mk (wr10 x0 x1)
      have HZ2 := Hid.mk (show off + i * 10 + 9 < cur'.size by omega)
      have w5 : wrap64 ((i : Int) + 1) = ((i + 1 : Nat) : Int) := by rw [w64 (by omega) (by omega)]; rfl
      have HN := Hid.mk (show i + 1 + gk = n by omega)
      have HX2 := Hid.mk (show x + 10 = k + 10 * ((i + 1 : Nat) : Int) by omega)
      clear hX hI hC x0 x1
      obtain ⟨w1, w2, w3, w4, w5', w6, w7, w8, w9, w10⟩ := HW.out
      go_wp2_with (go_at_call 30; (with_reducible refine HC.out.mono ?_); rintro e wa ⟨rfl, hb2⟩; have HB2 := Hid.mk hb2; have HM0 := Hid.mk (HM.out.below hb2); clear hb2; obtain ⟨c0, hc0⟩ := HM0.out.cell (p := off + i * 10) (by have := HZ2.out; (try simp only [Array.size_setIfInBounds]); omega); have hf0 := HM0.out.frozen (off + i * 10); have HM1 := Hid.mk (HM0.out.set (off + i * 10) (.string (mt x))); obtain ⟨c1, hc1⟩ := HM1.out.cell (p := off + i * 10 + 1) (by have := HZ2.out; (try simp only [Array.size_setIfInBounds]); omega); have hf1 := HM1.out.frozen (off + i * 10 + 1); have HM2 := Hid.mk (HM1.out.set (off + i * 10 + 1) (.int .i64 (x + 1))); obtain ⟨c2, hc2⟩ := HM2.out.cell (p := off + i * 10 + 2) (by have := HZ2.out; (try simp only [Array.size_setIfInBounds]); omega); have hf2 := HM2.out.frozen (off + i * 10 + 2); have HM3 := Hid.mk (HM2.out.set (off + i * 10 + 2) (.int .i64 (x + 2))); obtain ⟨c3, hc3⟩ := HM3.out.cell (p := off + i * 10 + 3) (by have := HZ2.out; (try simp only [Array.size_setIfInBounds]); omega); have hf3 := HM3.out.frozen (off + i * 10 + 3); have HM4 := Hid.mk (HM3.out.set (off + i * 10 + 3) (.bool ((x + 3).tmod 3 == 0))); obtain ⟨c4, hc4⟩ := HM4.out.cell (p := off + i * 10 + 4) (by have := HZ2.out; (try simp only [Array.size_setIfInBounds]); omega); have hf4 := HM4.out.frozen (off + i * 10 + 4); have HM5 := Hid.mk (HM4.out.set (off + i * 10 + 4) (.int .i64 (x + 4))); obtain ⟨c5, hc5⟩ := HM5.out.cell (p := off + i * 10 + 5) (by have := HZ2.out; (try simp only [Array.size_setIfInBounds]); omega); have hf5 := HM5.out.frozen (off + i * 10 + 5); have HM6 := Hid.mk (HM5.out.set (off + i * 10 + 5) (.int .i64 (x + 5))); obtain ⟨c6, hc6⟩ := HM6.out.cell (p := off + i * 10 + 6) (by have := HZ2.out; (try simp only [Array.size_setIfInBounds]); omega); have hf6 := HM6.out.frozen (off + i * 10 + 6); have HM7 := Hid.mk (HM6.out.set (off + i * 10 + 6) (.int .i64 (x + 6))); obtain ⟨c7, hc7⟩ := HM7.out.cell (p := off + i * 10 + 7) (by have := HZ2.out; (try simp only [Array.size_setIfInBounds]); omega); have hf7 := HM7.out.frozen (off + i * 10 + 7); have HM8 := Hid.mk (HM7.out.set (off + i * 10 + 7) (.int .i64 (x + 7))); obtain ⟨c8, hc8⟩ := HM8.out.cell (p := off + i * 10 + 8) (by have := HZ2.out; (try simp only [Array.size_setIfInBounds]); omega); have hf8 := HM8.out.frozen (off + i * 10 + 8); have HM9 := Hid.mk (HM8.out.set (off + i * 10 + 8) (.int .i64 (x + 8))); obtain ⟨c9, hc9⟩ := HM9.out.cell (p := off + i * 10 + 9) (by have := HZ2.out; (try simp only [Array.size_setIfInBounds]); omega); have hf9 := HM9.out.frozen (off + i * 10 + 9); have HM10 := Hid.mk (HM9.out.set (off + i * 10 + 9) (.int .i64 (x + 9))))
      obtain ⟨l2, q1, q2, q3⟩ := row_put HFL.out HLL.out hi HZ2.out HX.out HP.out
      go_roundg gk
      case measure => omega
      case rel => exact ⟨i + 1, x + 10, _, l2, (by show Value.int .i64 (wrap64 (x + 9 + 1)) = _; rw [w10]), rfl, HX2, HN, ⟨by simp only [Array.size_setIfInBounds]; exact HCS.out⟩, ⟨q1⟩, HM10, ⟨q2⟩, ⟨q3⟩⟩
end Go.Eva
end
section
/- Stores: the last reports, pushes, marks held, as the law needs them. -/
namespace Go.Eva
open Go.RowKit (wrap64)
set_option linter.unusedVariables false
set_option linter.unusedSimpArgs false

/-- Data within bounds. -/
structure Bd (K : List (List Rw)) : Prop where
  len : K.length ≤ 1048576
  all : sl K ≤ 1048576
  key : ∀ l ∈ K, ∀ x ∈ l, x.1.size ≤ 1048576
theorem Bd.row {K : List (List Rw)} (h : Bd K) {l : List Rw} (hl : l ∈ K) : l.length ≤ 1048576 := Nat.le_trans (sl_mem hl) h.all
theorem Bd.rp {K : List (List Rw)} (h : Bd K) : ∀ l ∈ K, Rp l := fun l hl => ⟨h.row hl, h.key l hl⟩
noncomputable def lst (n : Nat) (c f : Int) (K : List (List Rw)) (m : Int) : List Rw := if (sto n c f K && inr m 0 (K.length : Int)) = true then ov (K.drop (K.length - m.toNat)) [] else []
theorem sto_b {n : Nat} (hn : 20000000 ≤ n) {c f : Int} {K : List (List Rw)} (hR : ∀ l ∈ K, Rp l) (hs : sto n c f K = true) : K.length ≤ 5 ∧ ∀ l ∈ K, l.length ≤ 4 := by
  unfold sto chk at hs
  rw [Bool.and_eq_true, Bool.and_eq_true, Bool.and_eq_true] at hs
  obtain ⟨h1, h2, h3, h4⟩ := hs
  have h2 := of_decide_eq_true (show decide ((1 : Int) ≤ c ∧ c ≤ 5) = true from h2)
  have h3 := of_decide_eq_true h3
  refine ⟨by omega, fun l hl => ?_⟩
  exact ((t33 hn (hR l hl)).2 (List.all_eq_true.1 h1 l hl)).2.1
theorem cut_drop {K : List (List Rw)} {m : Int} (h : inr m 0 (K.length : Int) = true) : wrap64 ((K.length : Int) - m) = ((K.length - m.toNat : Nat) : Int) ∨ 1048576 < K.length := by
  have h := of_decide_eq_true (show decide ((0 : Int) ≤ m ∧ m ≤ (K.length : Int)) = true from h)
  by_cases q : 1048576 < K.length
  · exact .inr q
  · exact .inl (by rw [w64 (by omega) (by omega)]; omega)
theorem t8 {n : Nat} (hn : 20000000 ≤ n) {c f : Int} {K : List (List Rw)} (hK : K.length ≤ 1048576) (hR : ∀ l ∈ K, Rp l) {m : Int} : ok (F8 n c f K m) fun r => r = (lst n c f K m, ()) := by
  unfold F8 lst
  refine (t24 hn hK hR).bind fun r q => ?_
  subst q
  refine ok.iteb (fun h => ok.some ?_) (fun hs => ?_)
  · have h : sto n c f K = false := by simpa using h
    rw [h]; rfl
  have hs : sto n c f K = true := by simpa using hs
  rw [f25]
  refine ok.iteb (fun h => ok.some ?_) (fun hi => ?_)
  · have h : inr m 0 (K.length : Int) = false := by simpa using h
    rw [h, Bool.and_false]; rfl
  have hi : inr m 0 (K.length : Int) = true := by simpa using hi
  have hb := sto_b hn hR hs
  have e := (cut_drop hi).resolve_right (by omega)
  rw [hs, hi, e]
  have ec : cutL K ((K.length - m.toNat : Nat) : Int) (K.length : Int) = K.drop (K.length - m.toNat) := by simp [cutL]
  refine ok.guard (by omega) (ok.guard (by omega) (ok.guard (Int.le_refl _) ?_))
  rw [ec]
  refine (t26 (n := n) (rs := K.drop (K.length - m.toNat)) (by rw [List.length_drop]; omega) (fun l hl => by have := hb.2 l (List.mem_of_mem_drop hl); omega) hn).bind fun r q => ok.some ?_
  rw [q]; rfl
theorem t6 {n : Nat} (hn : 20000000 ≤ n) {c f : Int} {K : List (List Rw)} (hK : K.length ≤ 1048576) (hR : ∀ l ∈ K, Rp l) {m : Int} : ok (F6 n c f K m) fun r => r = (lst n c f K m, ()) := by
  unfold F6 lst
  refine (t20 hn hK hR).bind fun r q => ?_
  subst q
  refine ok.iteb (fun h => ok.some ?_) (fun hs => ?_)
  · have h : sto n c f K = false := by simpa using h
    rw [h]; rfl
  have hs : sto n c f K = true := by simpa using hs
  rw [f21]
  refine ok.iteb (fun h => ok.some ?_) (fun hi => ?_)
  · have h : inr m 0 (K.length : Int) = false := by simpa using h
    rw [h, Bool.and_false]; rfl
  have hi : inr m 0 (K.length : Int) = true := by simpa using hi
  have hb := sto_b hn hR hs
  have e := (cut_drop hi).resolve_right (by omega)
  rw [hs, hi, e]
  have ec : cutL K ((K.length - m.toNat : Nat) : Int) (K.length : Int) = K.drop (K.length - m.toNat) := by simp [cutL]
  refine ok.guard (by omega) (ok.guard (by omega) (ok.guard (Int.le_refl _) ?_))
  rw [ec]
  refine (t22 (n := n) (rs := K.drop (K.length - m.toNat)) (by rw [List.length_drop]; omega) (fun l hl => hb.2 l (List.mem_of_mem_drop hl)) hn).bind fun r q => ok.some ?_
  rw [q]; rfl
theorem lst_len {n : Nat} (hn : 20000000 ≤ n) {c f : Int} {K : List (List Rw)} (hR : ∀ l ∈ K, Rp l) {m : Int} : (lst n c f K m).length ≤ 1048576 := by
  unfold lst
  split
  · rename_i h
    rw [Bool.and_eq_true] at h
    have hb := sto_b hn hR h.1
    have := ov_len (K.drop (K.length - m.toNat)) 4 [] (fun l hl => hb.2 l (List.mem_of_mem_drop hl))
    rw [List.length_drop] at this
    simp only [List.length_nil] at this
    have : 4 * (K.length - (K.length - m.toNat)) ≤ 4 * K.length := Nat.mul_le_mul_left 4 (by omega)
    omega
  · simp
def pre (T : List (List Rw)) (i : Nat) : Nat := ((T.take i).map List.length).sum
theorem pre_succ (T : List (List Rw)) {i : Nat} (h : i < T.length) : pre T (i + 1) = pre T i + T[i].length := by
  unfold pre
  rw [List.take_succ_eq_append_getElem h, List.map_append, List.sum_append]
  simp
theorem sl_app (A B : List (List Rw)) : sl (A ++ B) = sl A + sl B := by unfold sl; rw [List.map_append, List.sum_append]
theorem pre_le (T : List (List Rw)) (i : Nat) : pre T i ≤ sl T := by
  have := sl_app (T.take i) (T.drop i)
  rw [List.take_append_drop] at this
  show sl (T.take i) ≤ sl T
  omega
theorem pre_all (T : List (List Rw)) : pre T T.length = sl T := by unfold pre sl; rw [List.take_length]
/-- The first i rows are marked. -/
structure Mkd (mt : Int → ByteArray) (k : Int) (T T' : List (List Rw)) (i : Nat) : Prop where
  len : T'.length = T.length
  done : ∀ j (h : j < T'.length) (h' : j < T.length), j < i → T'[j] = mkRow mt (k + 10 * (pre T j : Nat)) T[j].length
  left : ∀ j (h : j < T'.length) (h' : j < T.length), i ≤ j → T'[j] = T[j]
theorem Mkd.step {mt : Int → ByteArray} {k : Int} {T T' : List (List Rw)} {i : Nat} (h : Mkd mt k T T' i) (hi : i < T.length) : Mkd mt k T (T'.set i (mkRow mt (k + 10 * (pre T i : Nat)) T[i].length)) (i + 1) := by
  refine ⟨by rw [List.length_set]; exact h.len, fun j h1 h2 hj => ?_, fun j h1 h2 hj => ?_⟩
  · by_cases e : j = i
    · subst e; rw [List.getElem_set_self]
    · rw [List.getElem_set_ne (Ne.symm e)]; exact h.done j _ h2 (by omega)
  · rw [List.getElem_set_ne (by omega)]; exact h.left j _ h2 (by omega)
theorem t37_0 {n : Nat} (hn : 20000000 ≤ n) {k : Int} (hk0 : 0 ≤ k) (hk1 : k ≤ 10000000000) {T T' : List (List Rw)} (hT : T.length ≤ 1048576) (hm : sl T ≤ 2097152) (hml : ∀ l ∈ T, l.length ≤ 1048576) (hd : Mkd (mtx n) k T T' T.length) : ∀ (q i : Nat) (x : Int), i ≤ T.length → T.length - i < q → x = k + 10 * (pre T i : Nat) → ok (lp37_0 n q T' x (i : Int)) fun r => r = (k + 10 * ((pre T T.length : Nat) : Int), ())
  | 0, i, x, h, hk, hx => by omega
  | q + 1, i, x, h, hk, hx => by
    have hl := hd.len
    show ok (st37_0 n (lp37_0 n q) T' x (i : Int)) _
    unfold st37_0
    refine ok.ite (fun h2 => ok.guard (by omega) (ok.guard h2 ?_)) (fun h2 => ok.some ?_)
    · have hi : i < T.length := by omega
      have hi' : i < T'.length := by omega
      have hp := pre_le T i
      have hmi := hml _ (List.getElem_mem hi)
      have er := hd.done i hi' hi hi
      have hlen : T'[i].length = T[i].length := by rw [er, mkRow_len]
      have hs := pre_succ T hi
      have hrow : T'[i] = mkRow (mtx n) x T'[i].length := by rw [hlen, hx]; exact er
      have b1 : T'[i].length ≤ 1048576 := by omega
      have b2 : 0 ≤ x := by omega
      have b3 : x ≤ 100000000000 := by omega
      have b4 : ¬ (x + 10 * ((T'[i].length : Nat) : Int) < 0) := by omega
      have nx : i + 1 ≤ T.length := by omega
      have nq : T.length - (i + 1) < q := by omega
      have nk : x + 10 * ((T'[i].length : Nat) : Int) = k + 10 * ((pre T (i + 1) : Nat) : Int) := by rw [hlen]; omega
      have e := wb hi hT
      rw [rdOf_nat hi', e]
      clear e
      refine ok.bind (Q := fun r => r = (x + 10 * (T'[i].length : Nat), ())) (t13h hn b1 b2 b3 hrow) fun r1 q1 => ?_
      subst q1
      exact ok.ite (fun e => absurd e b4) (fun _ => t37_0 hn hk0 hk1 hT hm hml hd q (i + 1) _ nx nq nk)
    · have : i = T.length := by omega
      rw [hx, this]
theorem t18h {n : Nat} (hn : 20000000 ≤ n) {c f k : Int} (hk0 : 0 ≤ k) (hk1 : k ≤ 10000000000) {T T' : List (List Rw)} (hT : T.length ≤ 1048576) (hm : sl T ≤ 2097152) (hml : ∀ l ∈ T, l.length ≤ 1048576) (hd : Mkd (mtx n) k T T' T.length) : ok (F18 n c f T' k) fun r => r = (k + 10 * ((pre T T.length : Nat) : Int), ()) := by
  unfold F18 F37 st37
  refine (t37_0 hn hk0 hk1 hT hm hml hd n 0 k (by omega) (by omega) (by simp [pre])).bind fun r q => ?_
  subst q
  refine ok.ite (fun e => ?_) (fun _ => ok.some rfl)
  have e : k + 10 * ((pre T T.length : Nat) : Int) < 0 := e
  omega
/-- What a push keeps within bounds. -/
theorem pu_b {n : Nat} (hn : 20000000 ≤ n) {c f : Int} {K : List (List Rw)} {l : List Rw} (h : Bd K) (hl : l.length ≤ 1048576) : (pu n c f K l).2.2.length ≤ 1048576 ∧ sl (pu n c f K l).2.2 ≤ 2097152 ∧ ∀ x ∈ (pu n c f K l).2.2, x.length ≤ 1048576 := by
  have hall := h.all
  have h2 : ∀ x ∈ K ++ [l], x.length ≤ 1048576 := fun x hx => by
    rcases List.mem_append.1 hx with hx | hx
    · exact h.row hx
    · rw [List.mem_singleton.1 hx]; exact hl
  have h3 : sl (K ++ [l]) ≤ 2097152 := by
    rw [sl_app]
    have : sl [l] = l.length := by simp [sl]
    omega
  unfold pu
  split
  · rename_i hs
    rw [Bool.and_eq_true] at hs
    have hb := sto_b hn h.rp hs.1
    split
    · refine ⟨?_, ?_, fun x hx => h2 x (List.mem_of_mem_drop hx)⟩
      · show ((K ++ [l]).drop 1).length ≤ _
        rw [List.length_drop, List.length_append]; simp only [List.length_cons, List.length_nil]; omega
      · have := sl_app ((K ++ [l]).take 1) ((K ++ [l]).drop 1)
        rw [List.take_append_drop] at this
        show sl ((K ++ [l]).drop 1) ≤ _
        omega
    · refine ⟨?_, h3, h2⟩
      show (K ++ [l]).length ≤ _
      rw [List.length_append]; simp only [List.length_cons, List.length_nil]; omega
  · exact ⟨h.len, by show sl K ≤ _; omega, fun x hx => h.row hx⟩
end Go.Eva
end
section
/- Marks of rows of rows, and of a store: the walk. -/
namespace Go.Eva
open Go.Proofs Go.Shelf
open Go.RowKit Go.Lib
set_option linter.unusedVariables false
set_option linter.unusedSimpArgs false
set_option maxRecDepth 100000
theorem markRow_walk0 {w : World} {a : Option Addr} {k : Int} : Calls Try.prog 12 #[.slice a 0 0, .int .i64 k] w fun e w' => e = .returned (.int .i64 k) ∧ w' = w := by
  have mixed : Try.prog.follows .mixedOrders = true := by kernel_rfl
  go_enter Try.func12, Try.ntmps12
  go_wp2
  go_loopg [1, 5] 0 (fun gq v1 v5 w' => v1 = .int .i64 k ∧ v5 = .int .i64 0 ∧ w' = w)
  case atStart => exact ⟨rfl, rfl, rfl⟩
  case round =>
    obtain ⟨rfl, rfl, rfl⟩ := hrel
    go_wp2
    go_ret
    exact ⟨rfl, rfl⟩
theorem mkRow_of {mt : Int → ByteArray} {k : Int} {n : Nat} {l : List kRow.T} (h : l.length = n) (hp : ∀ j (h : j < l.length), l[j] = mkR mt (k + 10 * j)) : l = mkRow mt k n := by
  refine List.ext_getElem (by rw [h]; simp [mkRow]) fun j h1 h2 => ?_
  rw [hp j h1]
  simp [mkRow]
abbrev MT (W : World) (mt : Int → ByteArray) : Prop := ∀ k w, 0 ≤ k → k ≤ 1000000000000 → Below W.heap.size W w → Calls Try.prog 30 #[.int .i64 k] w fun e w' => e = .returned (.string (mt k)) ∧ Below w.heap.size w w'
/-- A row list marked. -/
theorem markRows {W w : World} (hB : Below W.heap.size W w) {v : Value} {l : List kRow.T} {fp : List Nat} (h : RdS w true (Rd w true kRow) kRow.n 49 v l fp) (hW : ∀ b ∈ fp, W.heap.size ≤ b) (hn : l.length ≤ 1048576) {k : Int} (hk0 : 0 ≤ k) (hk : k ≤ 100000000000) {mt : Int → ByteArray} (hmt : MT W mt) :
    Calls Try.prog 12 #[v, .int .i64 k] w fun e w' => e = .returned (.int .i64 (k + 10 * l.length)) ∧ Kp w w' fp ∧ RdS w' true (Rd w' true kRow) kRow.n 49 v (mkRow mt k l.length) fp := by
  rcases own_open rfl h with ⟨rfl, rfl, a, rfl⟩ | ⟨g, off, cap, cur, rfl, rfl, hg, hfit, hlc, hcm, hF⟩
  · refine markRow_walk0.mono ?_
    rintro e w' ⟨rfl, rfl⟩
    exact ⟨by simp, Kp.refl _ _, h⟩
  · have e4 : kRow.n = 10 := rfl
    rw [e4] at hfit
    have h4 : l.length * 10 ≤ cap * 10 := Nat.mul_le_mul_right 10 hlc
    refine (markRow_walk hB (hW g (List.mem_singleton.2 rfl)) hg (by omega) hF rfl hn hk0 hk hmt).mono ?_
    rintro e w' ⟨rfl, cur', l', c1, c2, c3, c4, c5⟩
    have hl := mkRow_of c4 c5
    refine ⟨rfl, c2.kp, ?_⟩
    have := own_close (κ := kRow) (e := 49) (l := l') (off := off) (cap := cap) c2.here (by rw [e4]; omega) (by omega) hcm c3
    rw [c4] at this
    rw [← hl]
    exact this
abbrev kQ : Kd := .sl 49 kRow
abbrev Tq := List (List kRow.T)
set_option maxHeartbeats 800000 in
/-- All row lists marked. -/
theorem markQ {W w : World} (hB : Below W.heap.size W w) {v : Value} {T : Tq} {fp : List Nat} (h : RdS w true (Rd w true kQ) kQ.n 26 v T fp) (hnd : fp.Nodup) (hW : ∀ b ∈ fp, W.heap.size ≤ b) (hT : T.length ≤ 1048576) (hs : sl T ≤ 2097152) (hm : ∀ l ∈ T, l.length ≤ 1048576) {k : Int} (hk0 : 0 ≤ k) (hk : k ≤ 1000) {mt : Int → ByteArray} (hmt : MT W mt) :
    Calls Try.prog 29 #[v, .int .i64 k] w fun e w' => e = .returned (.int .i64 (k + 10 * (pre T T.length : Nat))) ∧ Kp w w' fp ∧ ∃ T', Mkd mt k T T' T.length ∧ RdS w' true (Rd w' true kQ) kQ.n 26 v T' fp := by
  have mixed : Try.prog.follows .mixedOrders = true := by kernel_rfl
  obtain ⟨a, n, c, rfl, hn⟩ : ∃ a n c, v = .slice a n c ∧ n = T.length := by
    rcases h with ⟨h1, h2, a, c, h3, _⟩ | ⟨g, off, cap, fps, h1, _⟩
    · exact ⟨a, 0, c, h3, by rw [h1]; rfl⟩
    · exact ⟨_, _, cap, h1, rfl⟩
  have HMT := Hid.mk hmt
  have HBW := Hid.mk hB
  have HR := Hid.mk h
  have HND := Hid.mk hnd
  have HWW := Hid.mk hW
  have HN := Hid.mk hn
  have HM := Hid.mk hm
  have HS := Hid.mk hs
  have hn1 : n ≤ 1048576 := by omega
  clear hmt hB h hnd hW hm hn hT hs
  go_enter Try.func29, Try.ntmps29
  go_wp2
  go_loopg [1, 5] n (fun gq v1 v5 w' => ∃ (i : Nat) (x : Int) (T' : Tq), v1 = .int .i64 x ∧ v5 = .int .i64 (i : Int) ∧ Hid (x = k + 10 * (pre T i : Nat)) ∧ Hid (i + gq = n) ∧ Hid (Kp w w' fp) ∧ Hid (Mkd mt k T T' i) ∧ Hid (RdS w' true (Rd w' true kQ) kQ.n 26 (.slice a n c) T' fp))
  case atStart => exact ⟨0, k, T, rfl, rfl, ⟨by simp [pre]⟩, ⟨by omega⟩, ⟨Kp.refl _ _⟩, ⟨rfl, fun j _ _ h => absurd h (Nat.not_lt_zero _), fun j _ _ _ => rfl⟩, HR⟩
  case round =>
    obtain ⟨i, x, T', rfl, rfl, HX, HI, HK, HD, HRR⟩ := hrel
    cases gk with
    | zero =>
      obtain rfl : i = n := by have := HI.out; omega
      have hd : decide ((i : Int) < (i : Int)) = false := decide_eq_false (by omega)
      go_wp2
      go_ret
      exact ⟨by rw [HX.out, HN.out]; rfl, HK.out, T', by rw [← HN.out]; exact HD.out, HRR.out⟩
    | succ gk =>
      have hI := HI.out
      have hN := HN.out
      have hX := HX.out
      have hi : i < n := by omega
      have hiT : i < T.length := by omega
      have hiT' : i < T'.length := by rw [HD.out.len]; exact hiT
      have hd : decide ((i : Int) < (n : Int)) = true := decide_eq_true (by omega)
      have hd0 : decide ((0 : Int) ≤ (i : Int)) = true := decide_eq_true (by omega)
      have hp := pre_le T i
      have hp2 := HS.out
      have hml := HM.out _ (List.getElem_mem hiT)
      obtain ⟨g, off, cap, vi, fi, q1, q2, q3, q4, q5, q6⟩ := nest_put HRR.out HND.out hiT'
      have eT : T'[i] = T[i] := HD.out.left i hiT' hiT (Nat.le_refl _)
      rw [eT] at q3
      injection q1 with r1 r2 r3
      subst r1 r3
      have HQ := Hid.mk q6
      have HF := Hid.mk q4
      have HC := Hid.mk (markRows (HK.out.base HBW.out HWW.out) q3 (fun b hb => HWW.out b (q4 b hb)) (by omega) (k := x) (by omega) (by omega) HMT.out)
      have w5 : wrap64 ((i : Int) + 1) = ((i + 1 : Nat) : Int) := by rw [w64 (by omega) (by omega)]; rfl
      have HN2 := Hid.mk (show i + 1 + gk = n by omega)
      have HX2 := Hid.mk (show x + 10 * (T[i].length : Nat) = k + 10 * (pre T (i + 1) : Nat) by rw [pre_succ T hiT]; omega)
      clear hI hX hp hp2 hml q3 q4 q5 q6 eT r2 hN
      go_wp2_with (go_at_call 12; (with_reducible refine HC.out.mono ?_); rintro e wa ⟨rfl, hk1, hr1⟩; have HK1 := Hid.mk hk1; have HR1 := Hid.mk hr1; clear hk1 hr1)
      have HD2 := HD.out.step hiT
      rw [← HX.out] at HD2
      go_roundg gk
      case measure => omega
      case rel => exact ⟨i + 1, _, _, rfl, rfl, HX2, HN2, ⟨HK.out.trans (HK1.out.mono HF.out)⟩, ⟨HD2⟩, ⟨HQ.out _ _ HK1.out HR1.out⟩⟩
theorem Kp.after {w w1 w2 : World} {S : List Nat} (hb : Below w.heap.size w w1) (k : Kp w1 w2 S) : Kp w w2 S :=
  ⟨k.os.trans hb.os, k.tape.trans hb.tape, k.output.trans hb.output, Nat.le_trans hb.size k.size, fun b q n => (k.other b (Nat.lt_of_lt_of_le q hb.size) n).trans (hb.block b q)⟩
theorem below_step {W w w' : World} (h : Below W.heap.size W w) (k : Below w.heap.size w w') : Below W.heap.size W w' := h.trans (k.mono h.size)
theorem alloc_new' (w : World) (o : Obj) : Below w.heap.size w (w.alloc o) := (Below.refl _ _).alloc (Nat.le_refl _) _
/-- A store marked. -/
theorem markS {W w : World} (hB : Below W.heap.size W w) {c d : Int} {v : Value} {T : Tq} {fp : List Nat} {lo : Nat} (h : Own lo w 26 kQ v T fp) (hW : ∀ b ∈ fp, W.heap.size ≤ b) (hT : T.length ≤ 1048576) (hs : sl T ≤ 2097152) (hm : ∀ l ∈ T, l.length ≤ 1048576) {k : Int} (hk0 : 0 ≤ k) (hk : k ≤ 1000) {mt : Int → ByteArray} (hmt : MT W mt) :
    Calls Try.prog 11 #[.agg #[.int .i64 c, .int .i64 d, v], .int .i64 k] w fun e w' => e = .returned (.int .i64 (k + 10 * (pre T T.length : Nat))) ∧ Kp w w' fp ∧ ∃ T', Mkd mt k T T' T.length ∧ Own lo w' 26 kQ v T' fp := by
  have mixed : Try.prog.follows .mixedOrders = true := by kernel_rfl
  have HC : Hid (∀ w1, Below w.heap.size w w1 → Calls Try.prog 29 #[v, .int .i64 k] w1 fun e w' => e = .returned (.int .i64 (k + 10 * (pre T T.length : Nat))) ∧ Kp w w' fp ∧ ∃ T', Mkd mt k T T' T.length ∧ Own lo w' 26 kQ v T' fp) := ⟨fun w1 hb => by
    refine (markQ (below_step hB hb) (h.below hb).rd h.nd hW hT hs hm hk0 hk hmt).mono ?_
    rintro e w' ⟨q1, q2, T', q3, q4⟩
    exact ⟨q1, q2.after hb, T', q3, q4, h.nd, h.lo⟩⟩
  clear hB h hW hT hs hm hk0 hk hmt
  go_enter Try.func11, Try.ntmps11
  go_wp2_with (go_at_call 29; (with_reducible refine (HC.out _ (alloc_new' _ _)).mono ?_); rintro e wa ⟨rfl, hk1, T', hd, hr1⟩; have HK1 := Hid.mk hk1; have HD1 := Hid.mk hd; have HR1 := Hid.mk hr1; clear hk1 hr1 hd)
  go_ret
  exact ⟨rfl, HK1.out, T', HD1.out, HR1.out⟩
end Go.Eva
end
section
/- FnExactLast, FnExactPush walked. -/
namespace Go.Eva
open Go.Proofs Go.Shelf
open Go.RowKit Go.Lib
set_option linter.unusedVariables false
set_option linter.unusedSimpArgs false
set_option maxRecDepth 100000
abbrev kQL : Kd := .sl 54 kRow
abbrev rb (b : Bool) : Ending := .returned (.bool b)
abbrev ri (b : Int) : Ending := .returned (.int .i64 b)
abbrev sv (c f : Int) (v : Value) : Value := .agg #[.int .i64 c, .int .i64 f, v]
def Stp (w w' : World) : Prop := Below w.heap.size w w'
theorem Stp.refl (w : World) : Stp w w := Below.refl _ _
theorem Stp.alloc {w w1 : World} {o : Obj} (h : Stp w w1) : Stp w (w1.alloc o) := Below.alloc h h.size o
theorem Stp.drew {w w1 : World} (h : Stp w w1) : Stp w w1.drew := ⟨h.os, h.tape, h.output, h.size, h.block⟩
theorem Stp.drewN {w w1 : World} {n : Nat} (h : Stp w w1) : Stp w (w1.drewN n) := ⟨h.os, h.tape, h.output, h.size, h.block⟩
theorem gen_at {P : Program} {f : FuncId} {as1 : Array Value} {Q : Ending → World → Prop} {w0 w : World} (hb : Stp w0 w) (h : ∀ u, Below w0.heap.size w0 u → Calls P f as1 u Q) : Calls P f as1 w Q := h w hb
theorem gen_new {P : Program} {f : FuncId} {as1 : Array Value} {Q : Ending → World → Prop} {w0 w : World} {o : Obj} (hb : Stp (w0.alloc o) w) (h : ∀ u, Below w0.heap.size w0 u → u.heap[w0.heap.size]? = some o → Calls P f as1 u Q) : Calls P f as1 w Q :=
  h w (Below.trans (alloc_new' w0 o) (Below.mono hb (by show w0.heap.size ≤ (w0.heap.push o).size; rw [Array.size_push]; omega))) (by
    have e : (w0.alloc o).heap[w0.heap.size]? = some o := by show (w0.heap.push o)[w0.heap.size]? = some o; simp
    exact (hb.block _ (Array.getElem?_eq_some_iff.1 e).1).trans e)
theorem blk_lt {w : World} {b : Nat} {o : Obj} (h : w.heap[b]? = some o) : b < w.heap.size := (Array.getElem?_eq_some_iff.1 h).1
theorem blk_on {w w' : World} {b : Nat} {o : Obj} (h : w.heap[b]? = some o) (hb : Below w.heap.size w w') : w'.heap[b]? = some o := (hb.block b (blk_lt h)).trans h
theorem Own.slice {lo : Nat} {w : World} {e : TypeId} {κ : Kd} {v : Value} {l : List κ.T} {fp : List Nat} (h : Own lo w e κ v l fp) : ∃ a n c, v = .slice a n c := by
  rcases h.rd with ⟨_, _, a, c, h3, _⟩ | ⟨g, off, cap, fps, h1, _⟩
  · exact ⟨a, 0, c, h3⟩
  · exact ⟨_, _, cap, h1⟩
theorem blk_cell {w : World} {g : Nat} {c : Array Value} {e : TypeId} {z : Nat × Nat} (h : w.heap[g]? = some (.cells c e z)) (p : Nat) : w.cell? ⟨g, p, none⟩ = c[p]? := by
  simp [World.cell?, h]
set_option maxHeartbeats 3200000 in
theorem last_walk {W : World} {c f m r : Int} {va : Value} {K : Tq} {L : List kRow.T} {mt : Int → ByteArray}
    (h5 : ∀ w, Below W.heap.size W w → Calls Try.prog 5 #[sv c f va, .int .i64 1048576] w fun x w' => x = ri r ∧ Below w.heap.size w w')
    (h7 : 0 ≤ r → ∀ w, Below W.heap.size W w → Calls Try.prog 7 #[sv c f va] w fun x w' => ∃ v fp, x = .returned (sv c f v) ∧ Own w.heap.size w' 26 kQ v K fp ∧ Below w.heap.size w w')
    (h6 : 0 ≤ r → ∀ w v lo fp, Below W.heap.size W w → Own lo w 26 kQ v K fp → Calls Try.prog 6 #[sv c f v, .int .i64 m] w fun x w' => ∃ v fp, x = .returned v ∧ Own w.heap.size w' 49 kRow v L fp ∧ Below w.heap.size w w')
    (h8 : 0 ≤ r → ∀ w v lo fp, Below W.heap.size W w → Own lo w 26 kQ v K fp → Calls Try.prog 8 #[sv c f v, .int .i64 m] w fun x w' => ∃ v fp, x = .returned v ∧ Own w.heap.size w' 49 kRow v L fp ∧ Below w.heap.size w w')
    (h9 : 0 ≤ r → ∀ w v1 v2 lo1 lo2 fp1 fp2, Below W.heap.size W w → Own lo1 w 49 kRow v1 L fp1 → Own lo2 w 49 kRow v2 L fp2 → Calls Try.prog 9 #[v1, v2] w fun x w' => x = rb true ∧ Below w.heap.size w w')
    (h10 : 0 ≤ r → ∀ w v1 v2 lo1 lo2 fp1 fp2, Below W.heap.size W w → Own lo1 w 26 kQ v1 K fp1 → Own lo2 w 26 kQ v2 K fp2 → Calls Try.prog 10 #[sv c f v1, sv c f v2] w fun x w' => x = rb true ∧ Below w.heap.size w w')
    (h11 : 0 ≤ r → ∀ w v lo fp, Below W.heap.size W w → Own lo w 26 kQ v K fp → (∀ b ∈ fp, W.heap.size ≤ b) → Calls Try.prog 11 #[sv c f v, .int .i64 1] w fun e w' => e = ri (1 + 10 * (pre K K.length : Nat)) ∧ Kp w w' fp ∧ ∃ T', Mkd mt 1 K T' K.length ∧ Own lo w' 26 kQ v T' fp)
    (h12 : 0 ≤ r → ∀ w v lo fp, Below W.heap.size W w → Own lo w 49 kRow v L fp → (∀ b ∈ fp, W.heap.size ≤ b) → Calls Try.prog 12 #[v, .int .i64 1] w fun e w' => e = ri (1 + 10 * (L.length : Nat)) ∧ Kp w w' fp ∧ RdS w' true (Rd w' true kRow) kRow.n 49 v (mkRow mt 1 L.length) fp)
    (h13 : 0 ≤ r → ∀ w v lo fp, Below W.heap.size W w → Own lo w 49 kRow v (mkRow mt 1 L.length) fp → Calls Try.prog 13 #[v, .int .i64 1] w fun x w' => x = ri (1 + 10 * (L.length : Nat)) ∧ Below w.heap.size w w') :
    Calls Try.prog 3 #[sv c f va, .int .i64 m] W fun e w' => e = rb true ∧ Below W.heap.size W w' := by
  have mixed : Try.prog.follows .mixedOrders = true := by kernel_rfl
  have H5 := Hid.mk h5
  have HB0 := Hid.mk (Below.refl W.heap.size W)
  by_cases hr : 0 ≤ r
  · have hd : decide (r < 0) = false := decide_eq_false (by omega)
    have hq0 : decide ((1 + 10 * (pre K K.length : Nat) : Int) < 0) = false := decide_eq_false (by omega)
    have hq1 : decide ((1 + 10 * (L.length : Nat) : Int) < 0) = false := decide_eq_false (by omega)
    have H7 := Hid.mk (h7 hr)
    have H6 := Hid.mk (h6 hr)
    have H8 := Hid.mk (h8 hr)
    have H9 := Hid.mk (h9 hr)
    have H10 := Hid.mk (h10 hr)
    have H11 := Hid.mk (h11 hr)
    have H12 := Hid.mk (h12 hr)
    have H13 := Hid.mk (h13 hr)
    have A1 : True := trivial
    have A2 : True := trivial
    have D1 : True := trivial
    have E1 : True := trivial
    have A3 : True := trivial
    have E2 : True := trivial
    have J1 : True := trivial
    clear h5 h7 h6 h8 h9 h10 h11 h12 h13 hr
    go_enter Try.func3, Try.ntmps3
    go_wp2_with (first
      | (go_at_call 5; (with_reducible refine gen_new (w0 := W) (o := .cells #[.int .i64 c, .int .i64 f, va] 24 (0, 0)) (by repeat (with_reducible first | exact Stp.refl _ | apply Stp.drewN | apply Stp.drew)) ?_); intro w1 hu nb; have BA1 := Hid.mk nb; have HB1 := Hid.mk (below_step HB0.out hu); clear hu nb; (with_reducible refine (H5.out _ HB1.out).mono ?_); rintro e w2 ⟨rfl, hb⟩; have BA2 := Hid.mk (blk_on BA1.out hb); have HB2 := Hid.mk (below_step HB1.out hb); clear hb; have hcA_2_0 : w2.cell? ⟨W.heap.size, 0, none⟩ = some (.int .i64 c) := (blk_cell BA2.out 0).trans rfl; have hcA_2_1 : w2.cell? ⟨W.heap.size, 1, none⟩ = some (.int .i64 f) := (blk_cell BA2.out 1).trans rfl; have hcA_2_2 : w2.cell? ⟨W.heap.size, 2, none⟩ = some (va) := (blk_cell BA2.out 2).trans rfl)
      | (go_at_call 7; clear A1; (with_reducible refine gen_at (w0 := w2) (by repeat (with_reducible first | exact Stp.refl _ | apply Stp.alloc | apply Stp.drewN | apply Stp.drew)) ?_); intro w3 hu; have BA3 := Hid.mk (blk_on BA2.out hu); have HB3 := Hid.mk (below_step HB2.out hu); clear hu; (with_reducible refine (H7.out _ HB3.out).mono ?_); rintro e w4 ⟨vS, fS, rfl, ho, hb⟩; have HS4 := Hid.mk ho; have MAS := Hid.mk (blk_lt BA3.out); have ZS := Hid.mk HB3.out.size; have BA4 := Hid.mk (blk_on BA3.out hb); have HB4 := Hid.mk (below_step HB3.out hb); clear ho hb; clear hcA_2_0; clear hcA_2_1; clear hcA_2_2; have hcA_4_0 : w4.cell? ⟨W.heap.size, 0, none⟩ = some (.int .i64 c) := (blk_cell BA4.out 0).trans rfl; have hcA_4_1 : w4.cell? ⟨W.heap.size, 1, none⟩ = some (.int .i64 f) := (blk_cell BA4.out 1).trans rfl; have hcA_4_2 : w4.cell? ⟨W.heap.size, 2, none⟩ = some (va) := (blk_cell BA4.out 2).trans rfl)
      | (go_at_call 6; (with_reducible refine gen_at (w0 := w4) (by repeat (with_reducible first | exact Stp.refl _ | apply Stp.alloc | apply Stp.drewN | apply Stp.drew)) ?_); intro w5 hu; have HS5 := Hid.mk (HS4.out.below hu); have BA5 := Hid.mk (blk_on BA4.out hu); have HB5 := Hid.mk (below_step HB4.out hu); clear hu; (with_reducible refine (H6.out _ _ _ _ HB5.out HS5.out).mono ?_); rintro e w6 ⟨vO, fO, rfl, ho, hb⟩; have HO6 := Hid.mk ho; have MAO := Hid.mk (blk_lt BA5.out); have ZO := Hid.mk HB5.out.size; have BA6 := Hid.mk (blk_on BA5.out hb); have HB6 := Hid.mk (below_step HB5.out hb); clear ho hb; clear hcA_4_0; clear hcA_4_1; clear hcA_4_2; have hcA_6_0 : w6.cell? ⟨W.heap.size, 0, none⟩ = some (.int .i64 c) := (blk_cell BA6.out 0).trans rfl; have hcA_6_1 : w6.cell? ⟨W.heap.size, 1, none⟩ = some (.int .i64 f) := (blk_cell BA6.out 1).trans rfl; have hcA_6_2 : w6.cell? ⟨W.heap.size, 2, none⟩ = some (va) := (blk_cell BA6.out 2).trans rfl)
      | (go_at_call 7; clear A2; (with_reducible refine gen_at (w0 := w6) (by repeat (with_reducible first | exact Stp.refl _ | apply Stp.alloc | apply Stp.drewN | apply Stp.drew)) ?_); intro w7 hu; have HO7 := Hid.mk (HO6.out.below hu); have BA7 := Hid.mk (blk_on BA6.out hu); have HB7 := Hid.mk (below_step HB6.out hu); clear hu; (with_reducible refine (H7.out _ HB7.out).mono ?_); rintro e w8 ⟨vX, fX, rfl, ho, hb⟩; obtain ⟨aX, nX, cX, rfl⟩ := ho.slice; have HX8 := Hid.mk ho; have LOX := Hid.mk HO7.out.lt; have MAX := Hid.mk (blk_lt BA7.out); have ZX := Hid.mk HB7.out.size; have HO8 := Hid.mk (HO7.out.below hb); have BA8 := Hid.mk (blk_on BA7.out hb); have HB8 := Hid.mk (below_step HB7.out hb); clear ho hb; clear hcA_6_0; clear hcA_6_1; clear hcA_6_2; have hcA_8_0 : w8.cell? ⟨W.heap.size, 0, none⟩ = some (.int .i64 c) := (blk_cell BA8.out 0).trans rfl; have hcA_8_1 : w8.cell? ⟨W.heap.size, 1, none⟩ = some (.int .i64 f) := (blk_cell BA8.out 1).trans rfl; have hcA_8_2 : w8.cell? ⟨W.heap.size, 2, none⟩ = some (va) := (blk_cell BA8.out 2).trans rfl; have hdA_8_0 : (w8.alloc (.cells #[.int .i64 c, .int .i64 f, .slice aX nX cX] 30 (0, 0))).cell? ⟨W.heap.size, 0, none⟩ = some (.int .i64 c) := (blk_cell (blk_on BA8.out (alloc_new' _ _)) 0).trans rfl; have hdA_8_1 : (w8.alloc (.cells #[.int .i64 c, .int .i64 f, .slice aX nX cX] 30 (0, 0))).cell? ⟨W.heap.size, 1, none⟩ = some (.int .i64 f) := (blk_cell (blk_on BA8.out (alloc_new' _ _)) 1).trans rfl; have hdA_8_2 : (w8.alloc (.cells #[.int .i64 c, .int .i64 f, .slice aX nX cX] 30 (0, 0))).cell? ⟨W.heap.size, 2, none⟩ = some (va) := (blk_cell (blk_on BA8.out (alloc_new' _ _)) 2).trans rfl)
      | (go_at_call 8; clear D1; (with_reducible refine gen_new (w0 := w8) (o := .cells #[.int .i64 c, .int .i64 f, .slice aX nX cX] 30 (0, 0)) (by repeat (with_reducible first | exact Stp.refl _ | apply Stp.drewN | apply Stp.drew)) ?_); intro w9 hu nb; have BX9 := Hid.mk nb; have NOX := Hid.mk HO8.out.lt; have NXX := Hid.mk HX8.out.lt; have HO9 := Hid.mk (HO8.out.below hu); have HX9 := Hid.mk (HX8.out.below hu); have BA9 := Hid.mk (blk_on BA8.out hu); have HB9 := Hid.mk (below_step HB8.out hu); clear hu nb; (with_reducible refine (H8.out _ _ _ _ HB9.out HX9.out).mono ?_); rintro e w10 ⟨vG, fG, rfl, ho, hb⟩; have HG10 := Hid.mk ho; have LOG := Hid.mk HO9.out.lt; have LXG := Hid.mk HX9.out.lt; have MAG := Hid.mk (blk_lt BA9.out); have MXG := Hid.mk (blk_lt BX9.out); have ZG := Hid.mk HB9.out.size; have HO10 := Hid.mk (HO9.out.below hb); have HX10 := Hid.mk (HX9.out.below hb); have BA10 := Hid.mk (blk_on BA9.out hb); have BX10 := Hid.mk (blk_on BX9.out hb); have HB10 := Hid.mk (below_step HB9.out hb); clear ho hb; clear hcA_8_0; clear hcA_8_1; clear hcA_8_2; clear hdA_8_0; clear hdA_8_1; clear hdA_8_2; have hcA_10_0 : w10.cell? ⟨W.heap.size, 0, none⟩ = some (.int .i64 c) := (blk_cell BA10.out 0).trans rfl; have hcA_10_1 : w10.cell? ⟨W.heap.size, 1, none⟩ = some (.int .i64 f) := (blk_cell BA10.out 1).trans rfl; have hcA_10_2 : w10.cell? ⟨W.heap.size, 2, none⟩ = some (va) := (blk_cell BA10.out 2).trans rfl; have hcX_10_0 : w10.cell? ⟨w8.heap.size, 0, none⟩ = some (.int .i64 c) := (blk_cell BX10.out 0).trans rfl; have hcX_10_1 : w10.cell? ⟨w8.heap.size, 1, none⟩ = some (.int .i64 f) := (blk_cell BX10.out 1).trans rfl; have hcX_10_2 : w10.cell? ⟨w8.heap.size, 2, none⟩ = some (.slice aX nX cX) := (blk_cell BX10.out 2).trans rfl)
      | (go_at_call 9; clear E1; (with_reducible refine gen_at (w0 := w10) (by repeat (with_reducible first | exact Stp.refl _ | apply Stp.alloc | apply Stp.drewN | apply Stp.drew)) ?_); intro w11 hu; have HO11 := Hid.mk (HO10.out.below hu); have HX11 := Hid.mk (HX10.out.below hu); have HG11 := Hid.mk (HG10.out.below hu); have BA11 := Hid.mk (blk_on BA10.out hu); have BX11 := Hid.mk (blk_on BX10.out hu); have HB11 := Hid.mk (below_step HB10.out hu); clear hu; (with_reducible refine (H9.out _ _ _ _ _ _ _ HB11.out HG11.out HO11.out).mono ?_); rintro e w12 ⟨rfl, hb⟩; have HO12 := Hid.mk (HO11.out.below hb); have HX12 := Hid.mk (HX11.out.below hb); have HG12 := Hid.mk (HG11.out.below hb); have BA12 := Hid.mk (blk_on BA11.out hb); have BX12 := Hid.mk (blk_on BX11.out hb); have HB12 := Hid.mk (below_step HB11.out hb); clear hb; clear hcA_10_0; clear hcA_10_1; clear hcA_10_2; clear hcX_10_0; clear hcX_10_1; clear hcX_10_2; have hcA_12_0 : w12.cell? ⟨W.heap.size, 0, none⟩ = some (.int .i64 c) := (blk_cell BA12.out 0).trans rfl; have hcA_12_1 : w12.cell? ⟨W.heap.size, 1, none⟩ = some (.int .i64 f) := (blk_cell BA12.out 1).trans rfl; have hcA_12_2 : w12.cell? ⟨W.heap.size, 2, none⟩ = some (va) := (blk_cell BA12.out 2).trans rfl; have hcX_12_0 : w12.cell? ⟨w8.heap.size, 0, none⟩ = some (.int .i64 c) := (blk_cell BX12.out 0).trans rfl; have hcX_12_1 : w12.cell? ⟨w8.heap.size, 1, none⟩ = some (.int .i64 f) := (blk_cell BX12.out 1).trans rfl; have hcX_12_2 : w12.cell? ⟨w8.heap.size, 2, none⟩ = some (.slice aX nX cX) := (blk_cell BX12.out 2).trans rfl))
    go_region_with (first
      | (go_at_call 7; clear A3; (with_reducible refine gen_at (w0 := w12) (by repeat (with_reducible first | exact Stp.refl _ | apply Stp.alloc | apply Stp.drewN | apply Stp.drew)) ?_); intro w13 hu; have HO13 := Hid.mk (HO12.out.below hu); have HX13 := Hid.mk (HX12.out.below hu); have HG13 := Hid.mk (HG12.out.below hu); have BA13 := Hid.mk (blk_on BA12.out hu); have BX13 := Hid.mk (blk_on BX12.out hu); have HB13 := Hid.mk (below_step HB12.out hu); clear hu; (with_reducible refine (H7.out _ HB13.out).mono ?_); rintro e w14 ⟨vY, fY, rfl, ho, hb⟩; have HY14 := Hid.mk ho; have LOY := Hid.mk HO13.out.lt; have LXY := Hid.mk HX13.out.lt; have LGY := Hid.mk HG13.out.lt; have MAY := Hid.mk (blk_lt BA13.out); have MXY := Hid.mk (blk_lt BX13.out); have ZY := Hid.mk HB13.out.size; have HO14 := Hid.mk (HO13.out.below hb); have HX14 := Hid.mk (HX13.out.below hb); have HG14 := Hid.mk (HG13.out.below hb); have BA14 := Hid.mk (blk_on BA13.out hb); have BX14 := Hid.mk (blk_on BX13.out hb); have HB14 := Hid.mk (below_step HB13.out hb); clear ho hb; clear hcA_12_0; clear hcA_12_1; clear hcA_12_2; clear hcX_12_0; clear hcX_12_1; clear hcX_12_2; have hcA_14_0 : w14.cell? ⟨W.heap.size, 0, none⟩ = some (.int .i64 c) := (blk_cell BA14.out 0).trans rfl; have hcA_14_1 : w14.cell? ⟨W.heap.size, 1, none⟩ = some (.int .i64 f) := (blk_cell BA14.out 1).trans rfl; have hcA_14_2 : w14.cell? ⟨W.heap.size, 2, none⟩ = some (va) := (blk_cell BA14.out 2).trans rfl; have hcX_14_0 : w14.cell? ⟨w8.heap.size, 0, none⟩ = some (.int .i64 c) := (blk_cell BX14.out 0).trans rfl; have hcX_14_1 : w14.cell? ⟨w8.heap.size, 1, none⟩ = some (.int .i64 f) := (blk_cell BX14.out 1).trans rfl; have hcX_14_2 : w14.cell? ⟨w8.heap.size, 2, none⟩ = some (.slice aX nX cX) := (blk_cell BX14.out 2).trans rfl)
      | (go_at_call 10; (with_reducible refine gen_at (w0 := w14) (by repeat (with_reducible first | exact Stp.refl _ | apply Stp.alloc | apply Stp.drewN | apply Stp.drew)) ?_); intro w15 hu; have HO15 := Hid.mk (HO14.out.below hu); have HX15 := Hid.mk (HX14.out.below hu); have HG15 := Hid.mk (HG14.out.below hu); have HY15 := Hid.mk (HY14.out.below hu); have BA15 := Hid.mk (blk_on BA14.out hu); have BX15 := Hid.mk (blk_on BX14.out hu); have HB15 := Hid.mk (below_step HB14.out hu); clear hu; (with_reducible refine (H10.out _ _ _ _ _ _ _ HB15.out HX15.out HY15.out).mono ?_); rintro e w16 ⟨rfl, hb⟩; have HO16 := Hid.mk (HO15.out.below hb); have HX16 := Hid.mk (HX15.out.below hb); have HG16 := Hid.mk (HG15.out.below hb); have BA16 := Hid.mk (blk_on BA15.out hb); have BX16 := Hid.mk (blk_on BX15.out hb); have HB16 := Hid.mk (below_step HB15.out hb); clear hb; clear hcA_14_0; clear hcA_14_1; clear hcA_14_2; clear hcX_14_0; clear hcX_14_1; clear hcX_14_2; have hcA_16_0 : w16.cell? ⟨W.heap.size, 0, none⟩ = some (.int .i64 c) := (blk_cell BA16.out 0).trans rfl; have hcA_16_1 : w16.cell? ⟨W.heap.size, 1, none⟩ = some (.int .i64 f) := (blk_cell BA16.out 1).trans rfl; have hcA_16_2 : w16.cell? ⟨W.heap.size, 2, none⟩ = some (va) := (blk_cell BA16.out 2).trans rfl; have hcX_16_0 : w16.cell? ⟨w8.heap.size, 0, none⟩ = some (.int .i64 c) := (blk_cell BX16.out 0).trans rfl; have hcX_16_1 : w16.cell? ⟨w8.heap.size, 1, none⟩ = some (.int .i64 f) := (blk_cell BX16.out 1).trans rfl; have hcX_16_2 : w16.cell? ⟨w8.heap.size, 2, none⟩ = some (.slice aX nX cX) := (blk_cell BX16.out 2).trans rfl))
    all_goals go_wp2_with (first
      | (go_at_call 11; (with_reducible refine gen_at (w0 := w16) (by repeat (with_reducible first | exact Stp.refl _ | apply Stp.alloc | apply Stp.drewN | apply Stp.drew)) ?_); intro w17 hu; have HO17 := Hid.mk (HO16.out.below hu); have HX17 := Hid.mk (HX16.out.below hu); have HG17 := Hid.mk (HG16.out.below hu); have BA17 := Hid.mk (blk_on BA16.out hu); have BX17 := Hid.mk (blk_on BX16.out hu); have HB17 := Hid.mk (below_step HB16.out hu); clear hu; (with_reducible refine (H11.out _ _ _ _ HB17.out HX17.out (fun b hb => Nat.le_trans ZX.out (HX17.out.lo b hb))).mono ?_); rintro e w18 ⟨rfl, hk, TX, hd, ho⟩; have HDX := Hid.mk hd; have HX18 := Hid.mk ho; have HO18 := Hid.mk (HO17.out.keep hk.size (fun b hb => hk.other b (HO17.out.lt b hb) (fun q => by have := HX17.out.lo b q; have := LOX.out b hb; omega))); have HG18 := Hid.mk (HG17.out.keep hk.size (fun b hb => hk.other b (HG17.out.lt b hb) (fun q => by have := HG17.out.lo b hb; have := LXG.out b q; omega))); have BA18 := Hid.mk ((hk.other _ (blk_lt BA17.out) (fun q => by have := HX17.out.lo _ q; have := MAX.out; omega)).trans BA17.out); have HB18 := Hid.mk (hk.base HB17.out (fun b hb => Nat.le_trans ZX.out (HX17.out.lo b hb))); clear hk ho hd; clear hcA_16_0; clear hcA_16_1; clear hcA_16_2; clear hcX_16_0; clear hcX_16_1; clear hcX_16_2; have hcA_18_0 : w18.cell? ⟨W.heap.size, 0, none⟩ = some (.int .i64 c) := (blk_cell BA18.out 0).trans rfl; have hcA_18_1 : w18.cell? ⟨W.heap.size, 1, none⟩ = some (.int .i64 f) := (blk_cell BA18.out 1).trans rfl; have hcA_18_2 : w18.cell? ⟨W.heap.size, 2, none⟩ = some (va) := (blk_cell BA18.out 2).trans rfl)
      | (go_at_call 9; clear E2; (with_reducible refine gen_at (w0 := w18) (by repeat (with_reducible first | exact Stp.refl _ | apply Stp.alloc | apply Stp.drewN | apply Stp.drew)) ?_); intro w19 hu; have HO19 := Hid.mk (HO18.out.below hu); have HG19 := Hid.mk (HG18.out.below hu); have BA19 := Hid.mk (blk_on BA18.out hu); have HB19 := Hid.mk (below_step HB18.out hu); clear hu; (with_reducible refine (H9.out _ _ _ _ _ _ _ HB19.out HG19.out HO19.out).mono ?_); rintro e w20 ⟨rfl, hb⟩; have HO20 := Hid.mk (HO19.out.below hb); have HG20 := Hid.mk (HG19.out.below hb); have BA20 := Hid.mk (blk_on BA19.out hb); have HB20 := Hid.mk (below_step HB19.out hb); clear hb; clear hcA_18_0; clear hcA_18_1; clear hcA_18_2; have hcA_20_0 : w20.cell? ⟨W.heap.size, 0, none⟩ = some (.int .i64 c) := (blk_cell BA20.out 0).trans rfl; have hcA_20_1 : w20.cell? ⟨W.heap.size, 1, none⟩ = some (.int .i64 f) := (blk_cell BA20.out 1).trans rfl; have hcA_20_2 : w20.cell? ⟨W.heap.size, 2, none⟩ = some (va) := (blk_cell BA20.out 2).trans rfl)
      | (go_at_call 12; (with_reducible refine gen_at (w0 := w20) (by repeat (with_reducible first | exact Stp.refl _ | apply Stp.alloc | apply Stp.drewN | apply Stp.drew)) ?_); intro w21 hu; have HO21 := Hid.mk (HO20.out.below hu); have HG21 := Hid.mk (HG20.out.below hu); have BA21 := Hid.mk (blk_on BA20.out hu); have HB21 := Hid.mk (below_step HB20.out hu); clear hu; (with_reducible refine (H12.out _ _ _ _ HB21.out HG21.out (fun b hb => Nat.le_trans ZG.out (HG21.out.lo b hb))).mono ?_); rintro e w22 ⟨rfl, hk, ho⟩; have HG22 := Hid.mk (Own.mk ho HG21.out.nd HG21.out.lo); have HO22 := Hid.mk (HO21.out.keep hk.size (fun b hb => hk.other b (HO21.out.lt b hb) (fun q => by have := HG21.out.lo b q; have := LOG.out b hb; omega))); have BA22 := Hid.mk ((hk.other _ (blk_lt BA21.out) (fun q => by have := HG21.out.lo _ q; have := MAG.out; omega)).trans BA21.out); have HB22 := Hid.mk (hk.base HB21.out (fun b hb => Nat.le_trans ZG.out (HG21.out.lo b hb))); clear hk ho; clear hcA_20_0; clear hcA_20_1; clear hcA_20_2; have hcA_22_0 : w22.cell? ⟨W.heap.size, 0, none⟩ = some (.int .i64 c) := (blk_cell BA22.out 0).trans rfl; have hcA_22_1 : w22.cell? ⟨W.heap.size, 1, none⟩ = some (.int .i64 f) := (blk_cell BA22.out 1).trans rfl; have hcA_22_2 : w22.cell? ⟨W.heap.size, 2, none⟩ = some (va) := (blk_cell BA22.out 2).trans rfl)
      | (go_at_call 13; clear J1; (with_reducible refine gen_at (w0 := w22) (by repeat (with_reducible first | exact Stp.refl _ | apply Stp.alloc | apply Stp.drewN | apply Stp.drew)) ?_); intro w23 hu; have HO23 := Hid.mk (HO22.out.below hu); have HG23 := Hid.mk (HG22.out.below hu); have BA23 := Hid.mk (blk_on BA22.out hu); have HB23 := Hid.mk (below_step HB22.out hu); clear hu; (with_reducible refine (H13.out _ _ _ _ HB23.out HG23.out).mono ?_); rintro e w24 ⟨rfl, hb⟩; have HO24 := Hid.mk (HO23.out.below hb); have HG24 := Hid.mk (HG23.out.below hb); have BA24 := Hid.mk (blk_on BA23.out hb); have HB24 := Hid.mk (below_step HB23.out hb); clear hb; clear hcA_22_0; clear hcA_22_1; clear hcA_22_2; have hcA_24_0 : w24.cell? ⟨W.heap.size, 0, none⟩ = some (.int .i64 c) := (blk_cell BA24.out 0).trans rfl; have hcA_24_1 : w24.cell? ⟨W.heap.size, 1, none⟩ = some (.int .i64 f) := (blk_cell BA24.out 1).trans rfl; have hcA_24_2 : w24.cell? ⟨W.heap.size, 2, none⟩ = some (va) := (blk_cell BA24.out 2).trans rfl)
      | (go_at_call 7; (with_reducible refine gen_at (w0 := w24) (by repeat (with_reducible first | exact Stp.refl _ | apply Stp.alloc | apply Stp.drewN | apply Stp.drew)) ?_); intro w25 hu; have HO25 := Hid.mk (HO24.out.below hu); have HG25 := Hid.mk (HG24.out.below hu); have BA25 := Hid.mk (blk_on BA24.out hu); have HB25 := Hid.mk (below_step HB24.out hu); clear hu; (with_reducible refine (H7.out _ HB25.out).mono ?_); rintro e w26 ⟨vU, fU, rfl, ho, hb⟩; have HU26 := Hid.mk ho; have LOU := Hid.mk HO25.out.lt; have LGU := Hid.mk HG25.out.lt; have MAU := Hid.mk (blk_lt BA25.out); have ZU := Hid.mk HB25.out.size; have HO26 := Hid.mk (HO25.out.below hb); have HG26 := Hid.mk (HG25.out.below hb); have BA26 := Hid.mk (blk_on BA25.out hb); have HB26 := Hid.mk (below_step HB25.out hb); clear ho hb; clear hcA_24_0; clear hcA_24_1; clear hcA_24_2; have hcA_26_0 : w26.cell? ⟨W.heap.size, 0, none⟩ = some (.int .i64 c) := (blk_cell BA26.out 0).trans rfl; have hcA_26_1 : w26.cell? ⟨W.heap.size, 1, none⟩ = some (.int .i64 f) := (blk_cell BA26.out 1).trans rfl; have hcA_26_2 : w26.cell? ⟨W.heap.size, 2, none⟩ = some (va) := (blk_cell BA26.out 2).trans rfl)
      | (go_at_call 8; (with_reducible refine gen_at (w0 := w26) (by repeat (with_reducible first | exact Stp.refl _ | apply Stp.alloc | apply Stp.drewN | apply Stp.drew)) ?_); intro w27 hu; have HO27 := Hid.mk (HO26.out.below hu); have HG27 := Hid.mk (HG26.out.below hu); have HU27 := Hid.mk (HU26.out.below hu); have BA27 := Hid.mk (blk_on BA26.out hu); have HB27 := Hid.mk (below_step HB26.out hu); clear hu; (with_reducible refine (H8.out _ _ _ _ HB27.out HU27.out).mono ?_); rintro e w28 ⟨vV, fV, rfl, ho, hb⟩; have HV28 := Hid.mk ho; have LOV := Hid.mk HO27.out.lt; have LGV := Hid.mk HG27.out.lt; have ZV := Hid.mk HB27.out.size; have HO28 := Hid.mk (HO27.out.below hb); have HG28 := Hid.mk (HG27.out.below hb); have HB28 := Hid.mk (below_step HB27.out hb); clear ho hb; clear hcA_26_0; clear hcA_26_1; clear hcA_26_2)
      | (go_at_call 9; (with_reducible refine gen_at (w0 := w28) (by repeat (with_reducible first | exact Stp.refl _ | apply Stp.alloc | apply Stp.drewN | apply Stp.drew)) ?_); intro w29 hu; have HO29 := Hid.mk (HO28.out.below hu); have HG29 := Hid.mk (HG28.out.below hu); have HV29 := Hid.mk (HV28.out.below hu); have HB29 := Hid.mk (below_step HB28.out hu); clear hu; (with_reducible refine (H9.out _ _ _ _ _ _ _ HB29.out HV29.out HO29.out).mono ?_); rintro e w30 ⟨rfl, hb⟩; have HG30 := Hid.mk (HG29.out.below hb); have HB30 := Hid.mk (below_step HB29.out hb); clear hb)
      | (go_at_call 13; (with_reducible refine gen_at (w0 := w30) (by repeat (with_reducible first | exact Stp.refl _ | apply Stp.alloc | apply Stp.drewN | apply Stp.drew)) ?_); intro w31 hu; have HG31 := Hid.mk (HG30.out.below hu); have HB31 := Hid.mk (below_step HB30.out hu); clear hu; (with_reducible refine (H13.out _ _ _ _ HB31.out HG31.out).mono ?_); rintro e w32 ⟨rfl, hb⟩; have HG32 := Hid.mk (HG31.out.below hb); have HB32 := Hid.mk (below_step HB31.out hb); clear hb))
    all_goals go_ret
    all_goals exact ⟨rfl, HB32.out⟩
  · have hd : decide (r < 0) = true := decide_eq_true (by omega)
    clear h5 h7 h6 h8 h9 h10 h11 h12 h13 hr
    go_enter Try.func3, Try.ntmps3
    go_wp2_with (go_at_call 5; (with_reducible refine gen_new (w0 := W) (o := .cells #[.int .i64 c, .int .i64 f, va] 24 (0, 0)) (by repeat (with_reducible first | exact Stp.refl _ | apply Stp.drewN | apply Stp.drew)) ?_); intro w1 hu nb; have BA1 := Hid.mk nb; have HB1 := Hid.mk (below_step HB0.out hu); clear hu nb; (with_reducible refine (H5.out _ HB1.out).mono ?_); rintro e w2 ⟨rfl, hb⟩; have BA2 := Hid.mk (blk_on BA1.out hb); have HB2 := Hid.mk (below_step HB1.out hb); clear hb; have hcA_2_0 : w2.cell? ⟨W.heap.size, 0, none⟩ = some (.int .i64 c) := (blk_cell BA2.out 0).trans rfl; have hcA_2_1 : w2.cell? ⟨W.heap.size, 1, none⟩ = some (.int .i64 f) := (blk_cell BA2.out 1).trans rfl; have hcA_2_2 : w2.cell? ⟨W.heap.size, 2, none⟩ = some (va) := (blk_cell BA2.out 2).trans rfl)
    go_ret
    exact ⟨rfl, HB2.out⟩
end Go.Eva
end
section
/- FnExactPush walked. -/
namespace Go.Eva
open Go.Proofs Go.Shelf
open Go.RowKit Go.Lib
set_option linter.unusedVariables false
set_option linter.unusedSimpArgs false
set_option maxRecDepth 100000
set_option maxHeartbeats 3200000 in
theorem push_walk {W : World} {c f r r2 c' f' : Int} {va vl : Value} {K L : Tq} {l : List kRow.T} {mt : Int → ByteArray}
    (h5 : ∀ w, Below W.heap.size W w → Calls Try.prog 5 #[sv c f va, .int .i64 1048576] w fun x w' => x = ri r ∧ Below w.heap.size w w')
    (h14 : 0 ≤ r → ∀ w, Below W.heap.size W w → Calls Try.prog 14 #[vl, .int .i64 r] w fun x w' => x = ri r2 ∧ Below w.heap.size w w')
    (h7 : 0 ≤ r → 0 ≤ r2 → ∀ w, Below W.heap.size W w → Calls Try.prog 7 #[sv c f va] w fun x w' => ∃ v fp, x = .returned (sv c f v) ∧ Own w.heap.size w' 26 kQ v K fp ∧ Below w.heap.size w w')
    (h16 : 0 ≤ r → 0 ≤ r2 → ∀ w, Below W.heap.size W w → Calls Try.prog 16 #[vl] w fun x w' => ∃ v fp, x = .returned v ∧ Own w.heap.size w' 49 kRow v l fp ∧ Below w.heap.size w w')
    (h15 : 0 ≤ r → 0 ≤ r2 → ∀ w v1 v2 lo1 lo2 fp1 fp2, Below W.heap.size W w → Own lo1 w 26 kQ v1 K fp1 → Own lo2 w 49 kRow v2 l fp2 → Calls Try.prog 15 #[sv c f v1, v2] w fun x w' => ∃ v fp, x = .returned (sv c' f' v) ∧ Own w.heap.size w' 26 kQ v L fp ∧ Below w.heap.size w w')
    (h17 : 0 ≤ r → 0 ≤ r2 → ∀ w v1 v2 lo1 lo2 fp1 fp2, Below W.heap.size W w → Own lo1 w 26 kQ v1 K fp1 → Own lo2 w 49 kRow v2 l fp2 → Calls Try.prog 17 #[sv c f v1, v2] w fun x w' => ∃ v fp, x = .returned (sv c' f' v) ∧ Own w.heap.size w' 26 kQ v L fp ∧ Below w.heap.size w w')
    (h9 : 0 ≤ r → 0 ≤ r2 → ∀ w v1 v2 lo1 lo2 fp1 fp2, Below W.heap.size W w → Own lo1 w 49 kRow v1 l fp1 → Own lo2 w 49 kRow v2 l fp2 → Calls Try.prog 9 #[v1, v2] w fun x w' => x = rb true ∧ Below w.heap.size w w')
    (h10 : 0 ≤ r → 0 ≤ r2 → ∀ w v1 v2 lo1 lo2 fp1 fp2, Below W.heap.size W w → Own lo1 w 26 kQ v1 K fp1 → Own lo2 w 26 kQ v2 K fp2 → Calls Try.prog 10 #[sv c f v1, sv c f v2] w fun x w' => x = rb true ∧ Below w.heap.size w w')
    (h10b : 0 ≤ r → 0 ≤ r2 → ∀ w v1 v2 lo1 lo2 fp1 fp2, Below W.heap.size W w → Own lo1 w 26 kQ v1 L fp1 → Own lo2 w 26 kQ v2 L fp2 → Calls Try.prog 10 #[sv c' f' v1, sv c' f' v2] w fun x w' => x = rb true ∧ Below w.heap.size w w')
    (h11 : 0 ≤ r → 0 ≤ r2 → ∀ w v lo fp, Below W.heap.size W w → Own lo w 26 kQ v K fp → (∀ b ∈ fp, W.heap.size ≤ b) → Calls Try.prog 11 #[sv c f v, .int .i64 1] w fun e w' => e = ri (1 + 10 * (pre K K.length : Nat)) ∧ Kp w w' fp ∧ ∃ T', Mkd mt 1 K T' K.length ∧ Own lo w' 26 kQ v T' fp)
    (h11b : 0 ≤ r → 0 ≤ r2 → ∀ w v lo fp, Below W.heap.size W w → Own lo w 26 kQ v L fp → (∀ b ∈ fp, W.heap.size ≤ b) → Calls Try.prog 11 #[sv c' f' v, .int .i64 1] w fun e w' => e = ri (1 + 10 * (pre L L.length : Nat)) ∧ Kp w w' fp ∧ ∃ T', Mkd mt 1 L T' L.length ∧ Own lo w' 26 kQ v T' fp)
    (h12 : 0 ≤ r → 0 ≤ r2 → ∀ w v lo fp, Below W.heap.size W w → Own lo w 49 kRow v l fp → (∀ b ∈ fp, W.heap.size ≤ b) → Calls Try.prog 12 #[v, .int .i64 (1 + 10 * (pre K K.length : Nat))] w fun e w' => e = ri (1 + 10 * (pre K K.length : Nat) + 10 * (l.length : Nat)) ∧ Kp w w' fp ∧ RdS w' true (Rd w' true kRow) kRow.n 49 v (mkRow mt (1 + 10 * (pre K K.length : Nat)) l.length) fp)
    (h18 : 0 ≤ r → 0 ≤ r2 → ∀ w v lo fp T', Below W.heap.size W w → Mkd mt 1 L T' L.length → Own lo w 26 kQ v T' fp → Calls Try.prog 18 #[sv c' f' v, .int .i64 1] w fun x w' => x = ri (1 + 10 * (pre L L.length : Nat)) ∧ Below w.heap.size w w') :
    Calls Try.prog 4 #[sv c f va, vl] W fun e w' => e = rb true ∧ Below W.heap.size W w' := by
  have mixed : Try.prog.follows .mixedOrders = true := by kernel_rfl
  have H5 := Hid.mk h5
  have HB0 := Hid.mk (Below.refl W.heap.size W)
  by_cases hr : 0 ≤ r
  · have hd : decide (r < 0) = false := decide_eq_false (by omega)
    have H14 := Hid.mk (h14 hr)
    by_cases hr2 : 0 ≤ r2
    · have hd2 : decide (r2 < 0) = false := decide_eq_false (by omega)
      have hq0 : decide ((1 + 10 * (pre K K.length : Nat) + 10 * (l.length : Nat) : Int) < 0) = false := decide_eq_false (by omega)
      have hq1 : decide ((1 + 10 * (pre L L.length : Nat) : Int) < 0) = false := decide_eq_false (by omega)
      have H7 := Hid.mk (h7 hr hr2)
      have H16 := Hid.mk (h16 hr hr2)
      have H15 := Hid.mk (h15 hr hr2)
      have H17 := Hid.mk (h17 hr hr2)
      have H9 := Hid.mk (h9 hr hr2)
      have H10 := Hid.mk (h10 hr hr2)
      have H10b := Hid.mk (h10b hr hr2)
      have H11 := Hid.mk (h11 hr hr2)
      have H11b := Hid.mk (h11b hr hr2)
      have H12 := Hid.mk (h12 hr hr2)
      have H18 := Hid.mk (h18 hr hr2)
      have A1 : True := trivial
      have B1 : True := trivial
      have A2 : True := trivial
      have B2 : True := trivial
      have D1 : True := trivial
      have E1 : True := trivial
      have A3 : True := trivial
      have E2 : True := trivial
      have B3 : True := trivial
      have I1 : True := trivial
      have E3 : True := trivial
      have J1 : True := trivial
      clear h5 h14 h7 h16 h15 h17 h9 h10 h10b h11 h11b h12 h18 hr hr2
      go_enter Try.func4, Try.ntmps4
      go_wp2_with (first
        | (go_at_call 5; (with_reducible refine gen_new (w0 := W) (o := .cells #[.int .i64 c, .int .i64 f, va] 24 (0, 0)) (by repeat (with_reducible first | exact Stp.refl _ | apply Stp.drewN | apply Stp.drew)) ?_); intro w1 hu nb; have BA1 := Hid.mk nb; have HB1 := Hid.mk (below_step HB0.out hu); clear hu nb; (with_reducible refine (H5.out _ HB1.out).mono ?_); rintro e w2 ⟨rfl, hb⟩; have BA2 := Hid.mk (blk_on BA1.out hb); have HB2 := Hid.mk (below_step HB1.out hb); clear hb; have hcA_2_0 : w2.cell? ⟨W.heap.size, 0, none⟩ = some (.int .i64 c) := (blk_cell BA2.out 0).trans rfl; have hcA_2_1 : w2.cell? ⟨W.heap.size, 1, none⟩ = some (.int .i64 f) := (blk_cell BA2.out 1).trans rfl; have hcA_2_2 : w2.cell? ⟨W.heap.size, 2, none⟩ = some (va) := (blk_cell BA2.out 2).trans rfl)
        | (go_at_call 14; (with_reducible refine gen_at (w0 := w2) (by repeat (with_reducible first | exact Stp.refl _ | apply Stp.alloc | apply Stp.drewN | apply Stp.drew)) ?_); intro w3 hu; have BA3 := Hid.mk (blk_on BA2.out hu); have HB3 := Hid.mk (below_step HB2.out hu); clear hu; (with_reducible refine (H14.out _ HB3.out).mono ?_); rintro e w4 ⟨rfl, hb⟩; have BA4 := Hid.mk (blk_on BA3.out hb); have HB4 := Hid.mk (below_step HB3.out hb); clear hb; clear hcA_2_0; clear hcA_2_1; clear hcA_2_2; have hcA_4_0 : w4.cell? ⟨W.heap.size, 0, none⟩ = some (.int .i64 c) := (blk_cell BA4.out 0).trans rfl; have hcA_4_1 : w4.cell? ⟨W.heap.size, 1, none⟩ = some (.int .i64 f) := (blk_cell BA4.out 1).trans rfl; have hcA_4_2 : w4.cell? ⟨W.heap.size, 2, none⟩ = some (va) := (blk_cell BA4.out 2).trans rfl)
        | (go_at_call 7; clear A1; (with_reducible refine gen_at (w0 := w4) (by repeat (with_reducible first | exact Stp.refl _ | apply Stp.alloc | apply Stp.drewN | apply Stp.drew)) ?_); intro w5 hu; have BA5 := Hid.mk (blk_on BA4.out hu); have HB5 := Hid.mk (below_step HB4.out hu); clear hu; (with_reducible refine (H7.out _ HB5.out).mono ?_); rintro e w6 ⟨vS, fS, rfl, ho, hb⟩; have HS6 := Hid.mk ho; have MAS := Hid.mk (blk_lt BA5.out); have ZS := Hid.mk HB5.out.size; have BA6 := Hid.mk (blk_on BA5.out hb); have HB6 := Hid.mk (below_step HB5.out hb); clear ho hb; clear hcA_4_0; clear hcA_4_1; clear hcA_4_2; have hcA_6_0 : w6.cell? ⟨W.heap.size, 0, none⟩ = some (.int .i64 c) := (blk_cell BA6.out 0).trans rfl; have hcA_6_1 : w6.cell? ⟨W.heap.size, 1, none⟩ = some (.int .i64 f) := (blk_cell BA6.out 1).trans rfl; have hcA_6_2 : w6.cell? ⟨W.heap.size, 2, none⟩ = some (va) := (blk_cell BA6.out 2).trans rfl)
        | (go_at_call 16; clear B1; (with_reducible refine gen_at (w0 := w6) (by repeat (with_reducible first | exact Stp.refl _ | apply Stp.alloc | apply Stp.drewN | apply Stp.drew)) ?_); intro w7 hu; have HS7 := Hid.mk (HS6.out.below hu); have BA7 := Hid.mk (blk_on BA6.out hu); have HB7 := Hid.mk (below_step HB6.out hu); clear hu; (with_reducible refine (H16.out _ HB7.out).mono ?_); rintro e w8 ⟨vR, fR, rfl, ho, hb⟩; have HR8 := Hid.mk ho; have LSR := Hid.mk HS7.out.lt; have MAR := Hid.mk (blk_lt BA7.out); have ZR := Hid.mk HB7.out.size; have HS8 := Hid.mk (HS7.out.below hb); have BA8 := Hid.mk (blk_on BA7.out hb); have HB8 := Hid.mk (below_step HB7.out hb); clear ho hb; clear hcA_6_0; clear hcA_6_1; clear hcA_6_2; have hcA_8_0 : w8.cell? ⟨W.heap.size, 0, none⟩ = some (.int .i64 c) := (blk_cell BA8.out 0).trans rfl; have hcA_8_1 : w8.cell? ⟨W.heap.size, 1, none⟩ = some (.int .i64 f) := (blk_cell BA8.out 1).trans rfl; have hcA_8_2 : w8.cell? ⟨W.heap.size, 2, none⟩ = some (va) := (blk_cell BA8.out 2).trans rfl)
        | (go_at_call 15; (with_reducible refine gen_at (w0 := w8) (by repeat (with_reducible first | exact Stp.refl _ | apply Stp.alloc | apply Stp.drewN | apply Stp.drew)) ?_); intro w9 hu; have HS9 := Hid.mk (HS8.out.below hu); have HR9 := Hid.mk (HR8.out.below hu); have BA9 := Hid.mk (blk_on BA8.out hu); have HB9 := Hid.mk (below_step HB8.out hu); clear hu; (with_reducible refine (H15.out _ _ _ _ _ _ _ HB9.out HS9.out HR9.out).mono ?_); rintro e w10 ⟨vO, fO, rfl, ho, hb⟩; obtain ⟨aO, nO, cO, rfl⟩ := ho.slice; have HO10 := Hid.mk ho; have MAO := Hid.mk (blk_lt BA9.out); have ZO := Hid.mk HB9.out.size; have BA10 := Hid.mk (blk_on BA9.out hb); have HB10 := Hid.mk (below_step HB9.out hb); clear ho hb; clear hcA_8_0; clear hcA_8_1; clear hcA_8_2; have hcA_10_0 : w10.cell? ⟨W.heap.size, 0, none⟩ = some (.int .i64 c) := (blk_cell BA10.out 0).trans rfl; have hcA_10_1 : w10.cell? ⟨W.heap.size, 1, none⟩ = some (.int .i64 f) := (blk_cell BA10.out 1).trans rfl; have hcA_10_2 : w10.cell? ⟨W.heap.size, 2, none⟩ = some (va) := (blk_cell BA10.out 2).trans rfl; have hdA_10_0 : (w10.alloc (.cells #[.int .i64 c', .int .i64 f', .slice aO nO cO] 30 (0, 0))).cell? ⟨W.heap.size, 0, none⟩ = some (.int .i64 c) := (blk_cell (blk_on BA10.out (alloc_new' _ _)) 0).trans rfl; have hdA_10_1 : (w10.alloc (.cells #[.int .i64 c', .int .i64 f', .slice aO nO cO] 30 (0, 0))).cell? ⟨W.heap.size, 1, none⟩ = some (.int .i64 f) := (blk_cell (blk_on BA10.out (alloc_new' _ _)) 1).trans rfl; have hdA_10_2 : (w10.alloc (.cells #[.int .i64 c', .int .i64 f', .slice aO nO cO] 30 (0, 0))).cell? ⟨W.heap.size, 2, none⟩ = some (va) := (blk_cell (blk_on BA10.out (alloc_new' _ _)) 2).trans rfl)
        | (go_at_call 7; clear A2; (with_reducible refine gen_new (w0 := w10) (o := .cells #[.int .i64 c', .int .i64 f', .slice aO nO cO] 30 (0, 0)) (by repeat (with_reducible first | exact Stp.refl _ | apply Stp.drewN | apply Stp.drew)) ?_); intro w11 hu nb; have BO11 := Hid.mk nb; have NOO := Hid.mk HO10.out.lt; have HO11 := Hid.mk (HO10.out.below hu); have BA11 := Hid.mk (blk_on BA10.out hu); have HB11 := Hid.mk (below_step HB10.out hu); clear hu nb; (with_reducible refine (H7.out _ HB11.out).mono ?_); rintro e w12 ⟨vX, fX, rfl, ho, hb⟩; obtain ⟨aX, nX, cX, rfl⟩ := ho.slice; have HX12 := Hid.mk ho; have LOX := Hid.mk HO11.out.lt; have MAX := Hid.mk (blk_lt BA11.out); have MOX := Hid.mk (blk_lt BO11.out); have ZX := Hid.mk HB11.out.size; have HO12 := Hid.mk (HO11.out.below hb); have BA12 := Hid.mk (blk_on BA11.out hb); have BO12 := Hid.mk (blk_on BO11.out hb); have HB12 := Hid.mk (below_step HB11.out hb); clear ho hb; clear hcA_10_0; clear hcA_10_1; clear hcA_10_2; clear hdA_10_0; clear hdA_10_1; clear hdA_10_2; have hcA_12_0 : w12.cell? ⟨W.heap.size, 0, none⟩ = some (.int .i64 c) := (blk_cell BA12.out 0).trans rfl; have hcA_12_1 : w12.cell? ⟨W.heap.size, 1, none⟩ = some (.int .i64 f) := (blk_cell BA12.out 1).trans rfl; have hcA_12_2 : w12.cell? ⟨W.heap.size, 2, none⟩ = some (va) := (blk_cell BA12.out 2).trans rfl; have hcO_12_0 : w12.cell? ⟨w10.heap.size, 0, none⟩ = some (.int .i64 c') := (blk_cell BO12.out 0).trans rfl; have hcO_12_1 : w12.cell? ⟨w10.heap.size, 1, none⟩ = some (.int .i64 f') := (blk_cell BO12.out 1).trans rfl; have hcO_12_2 : w12.cell? ⟨w10.heap.size, 2, none⟩ = some (.slice aO nO cO) := (blk_cell BO12.out 2).trans rfl; have hdA_12_0 : (w12.alloc (.cells #[.int .i64 c, .int .i64 f, .slice aX nX cX] 30 (0, 0))).cell? ⟨W.heap.size, 0, none⟩ = some (.int .i64 c) := (blk_cell (blk_on BA12.out (alloc_new' _ _)) 0).trans rfl; have hdA_12_1 : (w12.alloc (.cells #[.int .i64 c, .int .i64 f, .slice aX nX cX] 30 (0, 0))).cell? ⟨W.heap.size, 1, none⟩ = some (.int .i64 f) := (blk_cell (blk_on BA12.out (alloc_new' _ _)) 1).trans rfl; have hdA_12_2 : (w12.alloc (.cells #[.int .i64 c, .int .i64 f, .slice aX nX cX] 30 (0, 0))).cell? ⟨W.heap.size, 2, none⟩ = some (va) := (blk_cell (blk_on BA12.out (alloc_new' _ _)) 2).trans rfl; have hdO_12_0 : (w12.alloc (.cells #[.int .i64 c, .int .i64 f, .slice aX nX cX] 30 (0, 0))).cell? ⟨w10.heap.size, 0, none⟩ = some (.int .i64 c') := (blk_cell (blk_on BO12.out (alloc_new' _ _)) 0).trans rfl; have hdO_12_1 : (w12.alloc (.cells #[.int .i64 c, .int .i64 f, .slice aX nX cX] 30 (0, 0))).cell? ⟨w10.heap.size, 1, none⟩ = some (.int .i64 f') := (blk_cell (blk_on BO12.out (alloc_new' _ _)) 1).trans rfl; have hdO_12_2 : (w12.alloc (.cells #[.int .i64 c, .int .i64 f, .slice aX nX cX] 30 (0, 0))).cell? ⟨w10.heap.size, 2, none⟩ = some (.slice aO nO cO) := (blk_cell (blk_on BO12.out (alloc_new' _ _)) 2).trans rfl)
        | (go_at_call 16; clear B2; (with_reducible refine gen_new (w0 := w12) (o := .cells #[.int .i64 c, .int .i64 f, .slice aX nX cX] 30 (0, 0)) (by repeat (with_reducible first | exact Stp.refl _ | apply Stp.drewN | apply Stp.drew)) ?_); intro w13 hu nb; have BX13 := Hid.mk nb; have NOX := Hid.mk HO12.out.lt; have NXX := Hid.mk HX12.out.lt; have HO13 := Hid.mk (HO12.out.below hu); have HX13 := Hid.mk (HX12.out.below hu); have BA13 := Hid.mk (blk_on BA12.out hu); have BO13 := Hid.mk (blk_on BO12.out hu); have HB13 := Hid.mk (below_step HB12.out hu); clear hu nb; (with_reducible refine (H16.out _ HB13.out).mono ?_); rintro e w14 ⟨vN, fN, rfl, ho, hb⟩; have HN14 := Hid.mk ho; have LON := Hid.mk HO13.out.lt; have LXN := Hid.mk HX13.out.lt; have MAN := Hid.mk (blk_lt BA13.out); have MON := Hid.mk (blk_lt BO13.out); have MXN := Hid.mk (blk_lt BX13.out); have ZN := Hid.mk HB13.out.size; have HO14 := Hid.mk (HO13.out.below hb); have HX14 := Hid.mk (HX13.out.below hb); have BA14 := Hid.mk (blk_on BA13.out hb); have BO14 := Hid.mk (blk_on BO13.out hb); have BX14 := Hid.mk (blk_on BX13.out hb); have HB14 := Hid.mk (below_step HB13.out hb); clear ho hb; clear hcA_12_0; clear hcA_12_1; clear hcA_12_2; clear hcO_12_0; clear hcO_12_1; clear hcO_12_2; clear hdA_12_0; clear hdA_12_1; clear hdA_12_2; clear hdO_12_0; clear hdO_12_1; clear hdO_12_2; have hcA_14_0 : w14.cell? ⟨W.heap.size, 0, none⟩ = some (.int .i64 c) := (blk_cell BA14.out 0).trans rfl; have hcA_14_1 : w14.cell? ⟨W.heap.size, 1, none⟩ = some (.int .i64 f) := (blk_cell BA14.out 1).trans rfl; have hcA_14_2 : w14.cell? ⟨W.heap.size, 2, none⟩ = some (va) := (blk_cell BA14.out 2).trans rfl; have hcO_14_0 : w14.cell? ⟨w10.heap.size, 0, none⟩ = some (.int .i64 c') := (blk_cell BO14.out 0).trans rfl; have hcO_14_1 : w14.cell? ⟨w10.heap.size, 1, none⟩ = some (.int .i64 f') := (blk_cell BO14.out 1).trans rfl; have hcO_14_2 : w14.cell? ⟨w10.heap.size, 2, none⟩ = some (.slice aO nO cO) := (blk_cell BO14.out 2).trans rfl; have hcX_14_0 : w14.cell? ⟨w12.heap.size, 0, none⟩ = some (.int .i64 c) := (blk_cell BX14.out 0).trans rfl; have hcX_14_1 : w14.cell? ⟨w12.heap.size, 1, none⟩ = some (.int .i64 f) := (blk_cell BX14.out 1).trans rfl; have hcX_14_2 : w14.cell? ⟨w12.heap.size, 2, none⟩ = some (.slice aX nX cX) := (blk_cell BX14.out 2).trans rfl)
        | (go_at_call 17; clear D1; (with_reducible refine gen_at (w0 := w14) (by repeat (with_reducible first | exact Stp.refl _ | apply Stp.alloc | apply Stp.drewN | apply Stp.drew)) ?_); intro w15 hu; have HO15 := Hid.mk (HO14.out.below hu); have HX15 := Hid.mk (HX14.out.below hu); have HN15 := Hid.mk (HN14.out.below hu); have BA15 := Hid.mk (blk_on BA14.out hu); have BO15 := Hid.mk (blk_on BO14.out hu); have BX15 := Hid.mk (blk_on BX14.out hu); have HB15 := Hid.mk (below_step HB14.out hu); clear hu; (with_reducible refine (H17.out _ _ _ _ _ _ _ HB15.out HX15.out HN15.out).mono ?_); rintro e w16 ⟨vG, fG, rfl, ho, hb⟩; obtain ⟨aG, nG, cG, rfl⟩ := ho.slice; have HG16 := Hid.mk ho; have LOG := Hid.mk HO15.out.lt; have LXG := Hid.mk HX15.out.lt; have LNG := Hid.mk HN15.out.lt; have MAG := Hid.mk (blk_lt BA15.out); have MOG := Hid.mk (blk_lt BO15.out); have MXG := Hid.mk (blk_lt BX15.out); have ZG := Hid.mk HB15.out.size; have HO16 := Hid.mk (HO15.out.below hb); have HX16 := Hid.mk (HX15.out.below hb); have HN16 := Hid.mk (HN15.out.below hb); have BA16 := Hid.mk (blk_on BA15.out hb); have BO16 := Hid.mk (blk_on BO15.out hb); have BX16 := Hid.mk (blk_on BX15.out hb); have HB16 := Hid.mk (below_step HB15.out hb); clear ho hb; clear hcA_14_0; clear hcA_14_1; clear hcA_14_2; clear hcO_14_0; clear hcO_14_1; clear hcO_14_2; clear hcX_14_0; clear hcX_14_1; clear hcX_14_2; have hcA_16_0 : w16.cell? ⟨W.heap.size, 0, none⟩ = some (.int .i64 c) := (blk_cell BA16.out 0).trans rfl; have hcA_16_1 : w16.cell? ⟨W.heap.size, 1, none⟩ = some (.int .i64 f) := (blk_cell BA16.out 1).trans rfl; have hcA_16_2 : w16.cell? ⟨W.heap.size, 2, none⟩ = some (va) := (blk_cell BA16.out 2).trans rfl; have hcO_16_0 : w16.cell? ⟨w10.heap.size, 0, none⟩ = some (.int .i64 c') := (blk_cell BO16.out 0).trans rfl; have hcO_16_1 : w16.cell? ⟨w10.heap.size, 1, none⟩ = some (.int .i64 f') := (blk_cell BO16.out 1).trans rfl; have hcO_16_2 : w16.cell? ⟨w10.heap.size, 2, none⟩ = some (.slice aO nO cO) := (blk_cell BO16.out 2).trans rfl; have hcX_16_0 : w16.cell? ⟨w12.heap.size, 0, none⟩ = some (.int .i64 c) := (blk_cell BX16.out 0).trans rfl; have hcX_16_1 : w16.cell? ⟨w12.heap.size, 1, none⟩ = some (.int .i64 f) := (blk_cell BX16.out 1).trans rfl; have hcX_16_2 : w16.cell? ⟨w12.heap.size, 2, none⟩ = some (.slice aX nX cX) := (blk_cell BX16.out 2).trans rfl; have hdA_16_0 : (w16.alloc (.cells #[.int .i64 c', .int .i64 f', .slice aG nG cG] 30 (0, 0))).cell? ⟨W.heap.size, 0, none⟩ = some (.int .i64 c) := (blk_cell (blk_on BA16.out (alloc_new' _ _)) 0).trans rfl; have hdA_16_1 : (w16.alloc (.cells #[.int .i64 c', .int .i64 f', .slice aG nG cG] 30 (0, 0))).cell? ⟨W.heap.size, 1, none⟩ = some (.int .i64 f) := (blk_cell (blk_on BA16.out (alloc_new' _ _)) 1).trans rfl; have hdA_16_2 : (w16.alloc (.cells #[.int .i64 c', .int .i64 f', .slice aG nG cG] 30 (0, 0))).cell? ⟨W.heap.size, 2, none⟩ = some (va) := (blk_cell (blk_on BA16.out (alloc_new' _ _)) 2).trans rfl; have hdO_16_0 : (w16.alloc (.cells #[.int .i64 c', .int .i64 f', .slice aG nG cG] 30 (0, 0))).cell? ⟨w10.heap.size, 0, none⟩ = some (.int .i64 c') := (blk_cell (blk_on BO16.out (alloc_new' _ _)) 0).trans rfl; have hdO_16_1 : (w16.alloc (.cells #[.int .i64 c', .int .i64 f', .slice aG nG cG] 30 (0, 0))).cell? ⟨w10.heap.size, 1, none⟩ = some (.int .i64 f') := (blk_cell (blk_on BO16.out (alloc_new' _ _)) 1).trans rfl; have hdO_16_2 : (w16.alloc (.cells #[.int .i64 c', .int .i64 f', .slice aG nG cG] 30 (0, 0))).cell? ⟨w10.heap.size, 2, none⟩ = some (.slice aO nO cO) := (blk_cell (blk_on BO16.out (alloc_new' _ _)) 2).trans rfl; have hdX_16_0 : (w16.alloc (.cells #[.int .i64 c', .int .i64 f', .slice aG nG cG] 30 (0, 0))).cell? ⟨w12.heap.size, 0, none⟩ = some (.int .i64 c) := (blk_cell (blk_on BX16.out (alloc_new' _ _)) 0).trans rfl; have hdX_16_1 : (w16.alloc (.cells #[.int .i64 c', .int .i64 f', .slice aG nG cG] 30 (0, 0))).cell? ⟨w12.heap.size, 1, none⟩ = some (.int .i64 f) := (blk_cell (blk_on BX16.out (alloc_new' _ _)) 1).trans rfl; have hdX_16_2 : (w16.alloc (.cells #[.int .i64 c', .int .i64 f', .slice aG nG cG] 30 (0, 0))).cell? ⟨w12.heap.size, 2, none⟩ = some (.slice aX nX cX) := (blk_cell (blk_on BX16.out (alloc_new' _ _)) 2).trans rfl)
        | (go_at_call 10; clear E1; (with_reducible refine gen_new (w0 := w16) (o := .cells #[.int .i64 c', .int .i64 f', .slice aG nG cG] 30 (0, 0)) (by repeat (with_reducible first | exact Stp.refl _ | apply Stp.drewN | apply Stp.drew)) ?_); intro w17 hu nb; have BG17 := Hid.mk nb; have NOG := Hid.mk HO16.out.lt; have NXG := Hid.mk HX16.out.lt; have NNG := Hid.mk HN16.out.lt; have NGG := Hid.mk HG16.out.lt; have HO17 := Hid.mk (HO16.out.below hu); have HX17 := Hid.mk (HX16.out.below hu); have HN17 := Hid.mk (HN16.out.below hu); have HG17 := Hid.mk (HG16.out.below hu); have BA17 := Hid.mk (blk_on BA16.out hu); have BO17 := Hid.mk (blk_on BO16.out hu); have BX17 := Hid.mk (blk_on BX16.out hu); have HB17 := Hid.mk (below_step HB16.out hu); clear hu nb; (with_reducible refine (H10b.out _ _ _ _ _ _ _ HB17.out HG17.out HO17.out).mono ?_); rintro e w18 ⟨rfl, hb⟩; have HO18 := Hid.mk (HO17.out.below hb); have HX18 := Hid.mk (HX17.out.below hb); have HN18 := Hid.mk (HN17.out.below hb); have HG18 := Hid.mk (HG17.out.below hb); have BA18 := Hid.mk (blk_on BA17.out hb); have BO18 := Hid.mk (blk_on BO17.out hb); have BX18 := Hid.mk (blk_on BX17.out hb); have BG18 := Hid.mk (blk_on BG17.out hb); have HB18 := Hid.mk (below_step HB17.out hb); clear hb; clear hcA_16_0; clear hcA_16_1; clear hcA_16_2; clear hcO_16_0; clear hcO_16_1; clear hcO_16_2; clear hcX_16_0; clear hcX_16_1; clear hcX_16_2; clear hdA_16_0; clear hdA_16_1; clear hdA_16_2; clear hdO_16_0; clear hdO_16_1; clear hdO_16_2; clear hdX_16_0; clear hdX_16_1; clear hdX_16_2; have hcA_18_0 : w18.cell? ⟨W.heap.size, 0, none⟩ = some (.int .i64 c) := (blk_cell BA18.out 0).trans rfl; have hcA_18_1 : w18.cell? ⟨W.heap.size, 1, none⟩ = some (.int .i64 f) := (blk_cell BA18.out 1).trans rfl; have hcA_18_2 : w18.cell? ⟨W.heap.size, 2, none⟩ = some (va) := (blk_cell BA18.out 2).trans rfl; have hcO_18_0 : w18.cell? ⟨w10.heap.size, 0, none⟩ = some (.int .i64 c') := (blk_cell BO18.out 0).trans rfl; have hcO_18_1 : w18.cell? ⟨w10.heap.size, 1, none⟩ = some (.int .i64 f') := (blk_cell BO18.out 1).trans rfl; have hcO_18_2 : w18.cell? ⟨w10.heap.size, 2, none⟩ = some (.slice aO nO cO) := (blk_cell BO18.out 2).trans rfl; have hcX_18_0 : w18.cell? ⟨w12.heap.size, 0, none⟩ = some (.int .i64 c) := (blk_cell BX18.out 0).trans rfl; have hcX_18_1 : w18.cell? ⟨w12.heap.size, 1, none⟩ = some (.int .i64 f) := (blk_cell BX18.out 1).trans rfl; have hcX_18_2 : w18.cell? ⟨w12.heap.size, 2, none⟩ = some (.slice aX nX cX) := (blk_cell BX18.out 2).trans rfl; have hcG_18_0 : w18.cell? ⟨w16.heap.size, 0, none⟩ = some (.int .i64 c') := (blk_cell BG18.out 0).trans rfl; have hcG_18_1 : w18.cell? ⟨w16.heap.size, 1, none⟩ = some (.int .i64 f') := (blk_cell BG18.out 1).trans rfl; have hcG_18_2 : w18.cell? ⟨w16.heap.size, 2, none⟩ = some (.slice aG nG cG) := (blk_cell BG18.out 2).trans rfl))
      go_region_with (first
        | (go_at_call 7; clear A3; (with_reducible refine gen_at (w0 := w18) (by repeat (with_reducible first | exact Stp.refl _ | apply Stp.alloc | apply Stp.drewN | apply Stp.drew)) ?_); intro w19 hu; have HO19 := Hid.mk (HO18.out.below hu); have HX19 := Hid.mk (HX18.out.below hu); have HN19 := Hid.mk (HN18.out.below hu); have HG19 := Hid.mk (HG18.out.below hu); have BA19 := Hid.mk (blk_on BA18.out hu); have BO19 := Hid.mk (blk_on BO18.out hu); have BX19 := Hid.mk (blk_on BX18.out hu); have BG19 := Hid.mk (blk_on BG18.out hu); have HB19 := Hid.mk (below_step HB18.out hu); clear hu; (with_reducible refine (H7.out _ HB19.out).mono ?_); rintro e w20 ⟨vY, fY, rfl, ho, hb⟩; have HY20 := Hid.mk ho; have LOY := Hid.mk HO19.out.lt; have LXY := Hid.mk HX19.out.lt; have LNY := Hid.mk HN19.out.lt; have LGY := Hid.mk HG19.out.lt; have MAY := Hid.mk (blk_lt BA19.out); have MOY := Hid.mk (blk_lt BO19.out); have MXY := Hid.mk (blk_lt BX19.out); have MGY := Hid.mk (blk_lt BG19.out); have ZY := Hid.mk HB19.out.size; have HO20 := Hid.mk (HO19.out.below hb); have HX20 := Hid.mk (HX19.out.below hb); have HN20 := Hid.mk (HN19.out.below hb); have HG20 := Hid.mk (HG19.out.below hb); have BA20 := Hid.mk (blk_on BA19.out hb); have BO20 := Hid.mk (blk_on BO19.out hb); have BX20 := Hid.mk (blk_on BX19.out hb); have BG20 := Hid.mk (blk_on BG19.out hb); have HB20 := Hid.mk (below_step HB19.out hb); clear ho hb; clear hcA_18_0; clear hcA_18_1; clear hcA_18_2; clear hcO_18_0; clear hcO_18_1; clear hcO_18_2; clear hcX_18_0; clear hcX_18_1; clear hcX_18_2; clear hcG_18_0; clear hcG_18_1; clear hcG_18_2; have hcA_20_0 : w20.cell? ⟨W.heap.size, 0, none⟩ = some (.int .i64 c) := (blk_cell BA20.out 0).trans rfl; have hcA_20_1 : w20.cell? ⟨W.heap.size, 1, none⟩ = some (.int .i64 f) := (blk_cell BA20.out 1).trans rfl; have hcA_20_2 : w20.cell? ⟨W.heap.size, 2, none⟩ = some (va) := (blk_cell BA20.out 2).trans rfl; have hcO_20_0 : w20.cell? ⟨w10.heap.size, 0, none⟩ = some (.int .i64 c') := (blk_cell BO20.out 0).trans rfl; have hcO_20_1 : w20.cell? ⟨w10.heap.size, 1, none⟩ = some (.int .i64 f') := (blk_cell BO20.out 1).trans rfl; have hcO_20_2 : w20.cell? ⟨w10.heap.size, 2, none⟩ = some (.slice aO nO cO) := (blk_cell BO20.out 2).trans rfl; have hcX_20_0 : w20.cell? ⟨w12.heap.size, 0, none⟩ = some (.int .i64 c) := (blk_cell BX20.out 0).trans rfl; have hcX_20_1 : w20.cell? ⟨w12.heap.size, 1, none⟩ = some (.int .i64 f) := (blk_cell BX20.out 1).trans rfl; have hcX_20_2 : w20.cell? ⟨w12.heap.size, 2, none⟩ = some (.slice aX nX cX) := (blk_cell BX20.out 2).trans rfl; have hcG_20_0 : w20.cell? ⟨w16.heap.size, 0, none⟩ = some (.int .i64 c') := (blk_cell BG20.out 0).trans rfl; have hcG_20_1 : w20.cell? ⟨w16.heap.size, 1, none⟩ = some (.int .i64 f') := (blk_cell BG20.out 1).trans rfl; have hcG_20_2 : w20.cell? ⟨w16.heap.size, 2, none⟩ = some (.slice aG nG cG) := (blk_cell BG20.out 2).trans rfl)
        | (go_at_call 10; clear E2; (with_reducible refine gen_at (w0 := w20) (by repeat (with_reducible first | exact Stp.refl _ | apply Stp.alloc | apply Stp.drewN | apply Stp.drew)) ?_); intro w21 hu; have HO21 := Hid.mk (HO20.out.below hu); have HX21 := Hid.mk (HX20.out.below hu); have HN21 := Hid.mk (HN20.out.below hu); have HG21 := Hid.mk (HG20.out.below hu); have HY21 := Hid.mk (HY20.out.below hu); have BA21 := Hid.mk (blk_on BA20.out hu); have BO21 := Hid.mk (blk_on BO20.out hu); have BX21 := Hid.mk (blk_on BX20.out hu); have BG21 := Hid.mk (blk_on BG20.out hu); have HB21 := Hid.mk (below_step HB20.out hu); clear hu; (with_reducible refine (H10.out _ _ _ _ _ _ _ HB21.out HX21.out HY21.out).mono ?_); rintro e w22 ⟨rfl, hb⟩; have HO22 := Hid.mk (HO21.out.below hb); have HX22 := Hid.mk (HX21.out.below hb); have HN22 := Hid.mk (HN21.out.below hb); have HG22 := Hid.mk (HG21.out.below hb); have BA22 := Hid.mk (blk_on BA21.out hb); have BO22 := Hid.mk (blk_on BO21.out hb); have BX22 := Hid.mk (blk_on BX21.out hb); have BG22 := Hid.mk (blk_on BG21.out hb); have HB22 := Hid.mk (below_step HB21.out hb); clear hb; clear hcA_20_0; clear hcA_20_1; clear hcA_20_2; clear hcO_20_0; clear hcO_20_1; clear hcO_20_2; clear hcX_20_0; clear hcX_20_1; clear hcX_20_2; clear hcG_20_0; clear hcG_20_1; clear hcG_20_2; have hcA_22_0 : w22.cell? ⟨W.heap.size, 0, none⟩ = some (.int .i64 c) := (blk_cell BA22.out 0).trans rfl; have hcA_22_1 : w22.cell? ⟨W.heap.size, 1, none⟩ = some (.int .i64 f) := (blk_cell BA22.out 1).trans rfl; have hcA_22_2 : w22.cell? ⟨W.heap.size, 2, none⟩ = some (va) := (blk_cell BA22.out 2).trans rfl; have hcO_22_0 : w22.cell? ⟨w10.heap.size, 0, none⟩ = some (.int .i64 c') := (blk_cell BO22.out 0).trans rfl; have hcO_22_1 : w22.cell? ⟨w10.heap.size, 1, none⟩ = some (.int .i64 f') := (blk_cell BO22.out 1).trans rfl; have hcO_22_2 : w22.cell? ⟨w10.heap.size, 2, none⟩ = some (.slice aO nO cO) := (blk_cell BO22.out 2).trans rfl; have hcX_22_0 : w22.cell? ⟨w12.heap.size, 0, none⟩ = some (.int .i64 c) := (blk_cell BX22.out 0).trans rfl; have hcX_22_1 : w22.cell? ⟨w12.heap.size, 1, none⟩ = some (.int .i64 f) := (blk_cell BX22.out 1).trans rfl; have hcX_22_2 : w22.cell? ⟨w12.heap.size, 2, none⟩ = some (.slice aX nX cX) := (blk_cell BX22.out 2).trans rfl; have hcG_22_0 : w22.cell? ⟨w16.heap.size, 0, none⟩ = some (.int .i64 c') := (blk_cell BG22.out 0).trans rfl; have hcG_22_1 : w22.cell? ⟨w16.heap.size, 1, none⟩ = some (.int .i64 f') := (blk_cell BG22.out 1).trans rfl; have hcG_22_2 : w22.cell? ⟨w16.heap.size, 2, none⟩ = some (.slice aG nG cG) := (blk_cell BG22.out 2).trans rfl))
      all_goals go_wp2_with (first
        | (go_at_call 16; clear B3; (with_reducible refine gen_at (w0 := w22) (by repeat (with_reducible first | exact Stp.refl _ | apply Stp.alloc | apply Stp.drewN | apply Stp.drew)) ?_); intro w23 hu; have HO23 := Hid.mk (HO22.out.below hu); have HX23 := Hid.mk (HX22.out.below hu); have HN23 := Hid.mk (HN22.out.below hu); have HG23 := Hid.mk (HG22.out.below hu); have BA23 := Hid.mk (blk_on BA22.out hu); have BO23 := Hid.mk (blk_on BO22.out hu); have BX23 := Hid.mk (blk_on BX22.out hu); have BG23 := Hid.mk (blk_on BG22.out hu); have HB23 := Hid.mk (below_step HB22.out hu); clear hu; (with_reducible refine (H16.out _ HB23.out).mono ?_); rintro e w24 ⟨vP, fP, rfl, ho, hb⟩; have HP24 := Hid.mk ho; have LOP := Hid.mk HO23.out.lt; have LXP := Hid.mk HX23.out.lt; have LNP := Hid.mk HN23.out.lt; have LGP := Hid.mk HG23.out.lt; have MAP := Hid.mk (blk_lt BA23.out); have MOP := Hid.mk (blk_lt BO23.out); have MXP := Hid.mk (blk_lt BX23.out); have MGP := Hid.mk (blk_lt BG23.out); have ZP := Hid.mk HB23.out.size; have HO24 := Hid.mk (HO23.out.below hb); have HX24 := Hid.mk (HX23.out.below hb); have HN24 := Hid.mk (HN23.out.below hb); have HG24 := Hid.mk (HG23.out.below hb); have BA24 := Hid.mk (blk_on BA23.out hb); have BO24 := Hid.mk (blk_on BO23.out hb); have BX24 := Hid.mk (blk_on BX23.out hb); have BG24 := Hid.mk (blk_on BG23.out hb); have HB24 := Hid.mk (below_step HB23.out hb); clear ho hb; clear hcA_22_0; clear hcA_22_1; clear hcA_22_2; clear hcO_22_0; clear hcO_22_1; clear hcO_22_2; clear hcX_22_0; clear hcX_22_1; clear hcX_22_2; clear hcG_22_0; clear hcG_22_1; clear hcG_22_2; have hcA_24_0 : w24.cell? ⟨W.heap.size, 0, none⟩ = some (.int .i64 c) := (blk_cell BA24.out 0).trans rfl; have hcA_24_1 : w24.cell? ⟨W.heap.size, 1, none⟩ = some (.int .i64 f) := (blk_cell BA24.out 1).trans rfl; have hcA_24_2 : w24.cell? ⟨W.heap.size, 2, none⟩ = some (va) := (blk_cell BA24.out 2).trans rfl; have hcO_24_0 : w24.cell? ⟨w10.heap.size, 0, none⟩ = some (.int .i64 c') := (blk_cell BO24.out 0).trans rfl; have hcO_24_1 : w24.cell? ⟨w10.heap.size, 1, none⟩ = some (.int .i64 f') := (blk_cell BO24.out 1).trans rfl; have hcO_24_2 : w24.cell? ⟨w10.heap.size, 2, none⟩ = some (.slice aO nO cO) := (blk_cell BO24.out 2).trans rfl; have hcX_24_0 : w24.cell? ⟨w12.heap.size, 0, none⟩ = some (.int .i64 c) := (blk_cell BX24.out 0).trans rfl; have hcX_24_1 : w24.cell? ⟨w12.heap.size, 1, none⟩ = some (.int .i64 f) := (blk_cell BX24.out 1).trans rfl; have hcX_24_2 : w24.cell? ⟨w12.heap.size, 2, none⟩ = some (.slice aX nX cX) := (blk_cell BX24.out 2).trans rfl; have hcG_24_0 : w24.cell? ⟨w16.heap.size, 0, none⟩ = some (.int .i64 c') := (blk_cell BG24.out 0).trans rfl; have hcG_24_1 : w24.cell? ⟨w16.heap.size, 1, none⟩ = some (.int .i64 f') := (blk_cell BG24.out 1).trans rfl; have hcG_24_2 : w24.cell? ⟨w16.heap.size, 2, none⟩ = some (.slice aG nG cG) := (blk_cell BG24.out 2).trans rfl)
        | (go_at_call 9; (with_reducible refine gen_at (w0 := w24) (by repeat (with_reducible first | exact Stp.refl _ | apply Stp.alloc | apply Stp.drewN | apply Stp.drew)) ?_); intro w25 hu; have HO25 := Hid.mk (HO24.out.below hu); have HX25 := Hid.mk (HX24.out.below hu); have HN25 := Hid.mk (HN24.out.below hu); have HG25 := Hid.mk (HG24.out.below hu); have HP25 := Hid.mk (HP24.out.below hu); have BA25 := Hid.mk (blk_on BA24.out hu); have BO25 := Hid.mk (blk_on BO24.out hu); have BX25 := Hid.mk (blk_on BX24.out hu); have BG25 := Hid.mk (blk_on BG24.out hu); have HB25 := Hid.mk (below_step HB24.out hu); clear hu; (with_reducible refine (H9.out _ _ _ _ _ _ _ HB25.out HN25.out HP25.out).mono ?_); rintro e w26 ⟨rfl, hb⟩; have HO26 := Hid.mk (HO25.out.below hb); have HX26 := Hid.mk (HX25.out.below hb); have HN26 := Hid.mk (HN25.out.below hb); have HG26 := Hid.mk (HG25.out.below hb); have BA26 := Hid.mk (blk_on BA25.out hb); have BO26 := Hid.mk (blk_on BO25.out hb); have BX26 := Hid.mk (blk_on BX25.out hb); have BG26 := Hid.mk (blk_on BG25.out hb); have HB26 := Hid.mk (below_step HB25.out hb); clear hb; clear hcA_24_0; clear hcA_24_1; clear hcA_24_2; clear hcO_24_0; clear hcO_24_1; clear hcO_24_2; clear hcX_24_0; clear hcX_24_1; clear hcX_24_2; clear hcG_24_0; clear hcG_24_1; clear hcG_24_2; have hcA_26_0 : w26.cell? ⟨W.heap.size, 0, none⟩ = some (.int .i64 c) := (blk_cell BA26.out 0).trans rfl; have hcA_26_1 : w26.cell? ⟨W.heap.size, 1, none⟩ = some (.int .i64 f) := (blk_cell BA26.out 1).trans rfl; have hcA_26_2 : w26.cell? ⟨W.heap.size, 2, none⟩ = some (va) := (blk_cell BA26.out 2).trans rfl; have hcO_26_0 : w26.cell? ⟨w10.heap.size, 0, none⟩ = some (.int .i64 c') := (blk_cell BO26.out 0).trans rfl; have hcO_26_1 : w26.cell? ⟨w10.heap.size, 1, none⟩ = some (.int .i64 f') := (blk_cell BO26.out 1).trans rfl; have hcO_26_2 : w26.cell? ⟨w10.heap.size, 2, none⟩ = some (.slice aO nO cO) := (blk_cell BO26.out 2).trans rfl; have hcX_26_0 : w26.cell? ⟨w12.heap.size, 0, none⟩ = some (.int .i64 c) := (blk_cell BX26.out 0).trans rfl; have hcX_26_1 : w26.cell? ⟨w12.heap.size, 1, none⟩ = some (.int .i64 f) := (blk_cell BX26.out 1).trans rfl; have hcX_26_2 : w26.cell? ⟨w12.heap.size, 2, none⟩ = some (.slice aX nX cX) := (blk_cell BX26.out 2).trans rfl; have hcG_26_0 : w26.cell? ⟨w16.heap.size, 0, none⟩ = some (.int .i64 c') := (blk_cell BG26.out 0).trans rfl; have hcG_26_1 : w26.cell? ⟨w16.heap.size, 1, none⟩ = some (.int .i64 f') := (blk_cell BG26.out 1).trans rfl; have hcG_26_2 : w26.cell? ⟨w16.heap.size, 2, none⟩ = some (.slice aG nG cG) := (blk_cell BG26.out 2).trans rfl)
        | (go_at_call 11; clear I1; (with_reducible refine gen_at (w0 := w26) (by repeat (with_reducible first | exact Stp.refl _ | apply Stp.alloc | apply Stp.drewN | apply Stp.drew)) ?_); intro w27 hu; have HO27 := Hid.mk (HO26.out.below hu); have HX27 := Hid.mk (HX26.out.below hu); have HN27 := Hid.mk (HN26.out.below hu); have HG27 := Hid.mk (HG26.out.below hu); have BA27 := Hid.mk (blk_on BA26.out hu); have BO27 := Hid.mk (blk_on BO26.out hu); have BX27 := Hid.mk (blk_on BX26.out hu); have BG27 := Hid.mk (blk_on BG26.out hu); have HB27 := Hid.mk (below_step HB26.out hu); clear hu; (with_reducible refine (H11.out _ _ _ _ HB27.out HX27.out (fun b hb => Nat.le_trans ZX.out (HX27.out.lo b hb))).mono ?_); rintro e w28 ⟨rfl, hk, TX, hd, ho⟩; have HDX := Hid.mk hd; have HX28 := Hid.mk ho; have HO28 := Hid.mk (HO27.out.keep hk.size (fun b hb => hk.other b (HO27.out.lt b hb) (fun q => by have := HX27.out.lo b q; have := LOX.out b hb; omega))); have HN28 := Hid.mk (HN27.out.keep hk.size (fun b hb => hk.other b (HN27.out.lt b hb) (fun q => by have := HN27.out.lo b hb; have := LXN.out b q; omega))); have HG28 := Hid.mk (HG27.out.keep hk.size (fun b hb => hk.other b (HG27.out.lt b hb) (fun q => by have := HG27.out.lo b hb; have := LXG.out b q; omega))); have BA28 := Hid.mk ((hk.other _ (blk_lt BA27.out) (fun q => by have := HX27.out.lo _ q; have := MAX.out; omega)).trans BA27.out); have BO28 := Hid.mk ((hk.other _ (blk_lt BO27.out) (fun q => by have := HX27.out.lo _ q; have := MOX.out; omega)).trans BO27.out); have BG28 := Hid.mk ((hk.other _ (blk_lt BG27.out) (fun q => by have := NXG.out _ q; omega)).trans BG27.out); have HB28 := Hid.mk (hk.base HB27.out (fun b hb => Nat.le_trans ZX.out (HX27.out.lo b hb))); clear hk ho hd; clear hcA_26_0; clear hcA_26_1; clear hcA_26_2; clear hcO_26_0; clear hcO_26_1; clear hcO_26_2; clear hcX_26_0; clear hcX_26_1; clear hcX_26_2; clear hcG_26_0; clear hcG_26_1; clear hcG_26_2; have hcA_28_0 : w28.cell? ⟨W.heap.size, 0, none⟩ = some (.int .i64 c) := (blk_cell BA28.out 0).trans rfl; have hcA_28_1 : w28.cell? ⟨W.heap.size, 1, none⟩ = some (.int .i64 f) := (blk_cell BA28.out 1).trans rfl; have hcA_28_2 : w28.cell? ⟨W.heap.size, 2, none⟩ = some (va) := (blk_cell BA28.out 2).trans rfl; have hcO_28_0 : w28.cell? ⟨w10.heap.size, 0, none⟩ = some (.int .i64 c') := (blk_cell BO28.out 0).trans rfl; have hcO_28_1 : w28.cell? ⟨w10.heap.size, 1, none⟩ = some (.int .i64 f') := (blk_cell BO28.out 1).trans rfl; have hcO_28_2 : w28.cell? ⟨w10.heap.size, 2, none⟩ = some (.slice aO nO cO) := (blk_cell BO28.out 2).trans rfl; have hcG_28_0 : w28.cell? ⟨w16.heap.size, 0, none⟩ = some (.int .i64 c') := (blk_cell BG28.out 0).trans rfl; have hcG_28_1 : w28.cell? ⟨w16.heap.size, 1, none⟩ = some (.int .i64 f') := (blk_cell BG28.out 1).trans rfl; have hcG_28_2 : w28.cell? ⟨w16.heap.size, 2, none⟩ = some (.slice aG nG cG) := (blk_cell BG28.out 2).trans rfl)
        | (go_at_call 12; (with_reducible refine gen_at (w0 := w28) (by repeat (with_reducible first | exact Stp.refl _ | apply Stp.alloc | apply Stp.drewN | apply Stp.drew)) ?_); intro w29 hu; have HO29 := Hid.mk (HO28.out.below hu); have HN29 := Hid.mk (HN28.out.below hu); have HG29 := Hid.mk (HG28.out.below hu); have BA29 := Hid.mk (blk_on BA28.out hu); have BO29 := Hid.mk (blk_on BO28.out hu); have BG29 := Hid.mk (blk_on BG28.out hu); have HB29 := Hid.mk (below_step HB28.out hu); clear hu; (with_reducible refine (H12.out _ _ _ _ HB29.out HN29.out (fun b hb => Nat.le_trans ZN.out (HN29.out.lo b hb))).mono ?_); rintro e w30 ⟨rfl, hk, ho⟩; have HN30 := Hid.mk (Own.mk ho HN29.out.nd HN29.out.lo); have HO30 := Hid.mk (HO29.out.keep hk.size (fun b hb => hk.other b (HO29.out.lt b hb) (fun q => by have := HN29.out.lo b q; have := LON.out b hb; omega))); have HG30 := Hid.mk (HG29.out.keep hk.size (fun b hb => hk.other b (HG29.out.lt b hb) (fun q => by have := HG29.out.lo b hb; have := LNG.out b q; omega))); have BA30 := Hid.mk ((hk.other _ (blk_lt BA29.out) (fun q => by have := HN29.out.lo _ q; have := MAN.out; omega)).trans BA29.out); have BO30 := Hid.mk ((hk.other _ (blk_lt BO29.out) (fun q => by have := HN29.out.lo _ q; have := MON.out; omega)).trans BO29.out); have BG30 := Hid.mk ((hk.other _ (blk_lt BG29.out) (fun q => by have := NNG.out _ q; omega)).trans BG29.out); have HB30 := Hid.mk (hk.base HB29.out (fun b hb => Nat.le_trans ZN.out (HN29.out.lo b hb))); clear hk ho; clear hcA_28_0; clear hcA_28_1; clear hcA_28_2; clear hcO_28_0; clear hcO_28_1; clear hcO_28_2; clear hcG_28_0; clear hcG_28_1; clear hcG_28_2; have hcA_30_0 : w30.cell? ⟨W.heap.size, 0, none⟩ = some (.int .i64 c) := (blk_cell BA30.out 0).trans rfl; have hcA_30_1 : w30.cell? ⟨W.heap.size, 1, none⟩ = some (.int .i64 f) := (blk_cell BA30.out 1).trans rfl; have hcA_30_2 : w30.cell? ⟨W.heap.size, 2, none⟩ = some (va) := (blk_cell BA30.out 2).trans rfl; have hcO_30_0 : w30.cell? ⟨w10.heap.size, 0, none⟩ = some (.int .i64 c') := (blk_cell BO30.out 0).trans rfl; have hcO_30_1 : w30.cell? ⟨w10.heap.size, 1, none⟩ = some (.int .i64 f') := (blk_cell BO30.out 1).trans rfl; have hcO_30_2 : w30.cell? ⟨w10.heap.size, 2, none⟩ = some (.slice aO nO cO) := (blk_cell BO30.out 2).trans rfl; have hcG_30_0 : w30.cell? ⟨w16.heap.size, 0, none⟩ = some (.int .i64 c') := (blk_cell BG30.out 0).trans rfl; have hcG_30_1 : w30.cell? ⟨w16.heap.size, 1, none⟩ = some (.int .i64 f') := (blk_cell BG30.out 1).trans rfl; have hcG_30_2 : w30.cell? ⟨w16.heap.size, 2, none⟩ = some (.slice aG nG cG) := (blk_cell BG30.out 2).trans rfl)
        | (go_at_call 10; clear E3; (with_reducible refine gen_at (w0 := w30) (by repeat (with_reducible first | exact Stp.refl _ | apply Stp.alloc | apply Stp.drewN | apply Stp.drew)) ?_); intro w31 hu; have HO31 := Hid.mk (HO30.out.below hu); have HG31 := Hid.mk (HG30.out.below hu); have BA31 := Hid.mk (blk_on BA30.out hu); have BO31 := Hid.mk (blk_on BO30.out hu); have BG31 := Hid.mk (blk_on BG30.out hu); have HB31 := Hid.mk (below_step HB30.out hu); clear hu; (with_reducible refine (H10b.out _ _ _ _ _ _ _ HB31.out HG31.out HO31.out).mono ?_); rintro e w32 ⟨rfl, hb⟩; have HO32 := Hid.mk (HO31.out.below hb); have HG32 := Hid.mk (HG31.out.below hb); have BA32 := Hid.mk (blk_on BA31.out hb); have BO32 := Hid.mk (blk_on BO31.out hb); have BG32 := Hid.mk (blk_on BG31.out hb); have HB32 := Hid.mk (below_step HB31.out hb); clear hb; clear hcA_30_0; clear hcA_30_1; clear hcA_30_2; clear hcO_30_0; clear hcO_30_1; clear hcO_30_2; clear hcG_30_0; clear hcG_30_1; clear hcG_30_2; have hcA_32_0 : w32.cell? ⟨W.heap.size, 0, none⟩ = some (.int .i64 c) := (blk_cell BA32.out 0).trans rfl; have hcA_32_1 : w32.cell? ⟨W.heap.size, 1, none⟩ = some (.int .i64 f) := (blk_cell BA32.out 1).trans rfl; have hcA_32_2 : w32.cell? ⟨W.heap.size, 2, none⟩ = some (va) := (blk_cell BA32.out 2).trans rfl; have hcO_32_0 : w32.cell? ⟨w10.heap.size, 0, none⟩ = some (.int .i64 c') := (blk_cell BO32.out 0).trans rfl; have hcO_32_1 : w32.cell? ⟨w10.heap.size, 1, none⟩ = some (.int .i64 f') := (blk_cell BO32.out 1).trans rfl; have hcO_32_2 : w32.cell? ⟨w10.heap.size, 2, none⟩ = some (.slice aO nO cO) := (blk_cell BO32.out 2).trans rfl; have hcG_32_0 : w32.cell? ⟨w16.heap.size, 0, none⟩ = some (.int .i64 c') := (blk_cell BG32.out 0).trans rfl; have hcG_32_1 : w32.cell? ⟨w16.heap.size, 1, none⟩ = some (.int .i64 f') := (blk_cell BG32.out 1).trans rfl; have hcG_32_2 : w32.cell? ⟨w16.heap.size, 2, none⟩ = some (.slice aG nG cG) := (blk_cell BG32.out 2).trans rfl)
        | (go_at_call 11; (with_reducible refine gen_at (w0 := w32) (by repeat (with_reducible first | exact Stp.refl _ | apply Stp.alloc | apply Stp.drewN | apply Stp.drew)) ?_); intro w33 hu; have HO33 := Hid.mk (HO32.out.below hu); have HG33 := Hid.mk (HG32.out.below hu); have BA33 := Hid.mk (blk_on BA32.out hu); have BO33 := Hid.mk (blk_on BO32.out hu); have BG33 := Hid.mk (blk_on BG32.out hu); have HB33 := Hid.mk (below_step HB32.out hu); clear hu; (with_reducible refine (H11b.out _ _ _ _ HB33.out HG33.out (fun b hb => Nat.le_trans ZG.out (HG33.out.lo b hb))).mono ?_); rintro e w34 ⟨rfl, hk, TG, hd, ho⟩; have HDG := Hid.mk hd; have HG34 := Hid.mk ho; have HO34 := Hid.mk (HO33.out.keep hk.size (fun b hb => hk.other b (HO33.out.lt b hb) (fun q => by have := HG33.out.lo b q; have := LOG.out b hb; omega))); have BA34 := Hid.mk ((hk.other _ (blk_lt BA33.out) (fun q => by have := HG33.out.lo _ q; have := MAG.out; omega)).trans BA33.out); have BO34 := Hid.mk ((hk.other _ (blk_lt BO33.out) (fun q => by have := HG33.out.lo _ q; have := MOG.out; omega)).trans BO33.out); have BG34 := Hid.mk ((hk.other _ (blk_lt BG33.out) (fun q => by have := NGG.out _ q; omega)).trans BG33.out); have HB34 := Hid.mk (hk.base HB33.out (fun b hb => Nat.le_trans ZG.out (HG33.out.lo b hb))); clear hk ho hd; clear hcA_32_0; clear hcA_32_1; clear hcA_32_2; clear hcO_32_0; clear hcO_32_1; clear hcO_32_2; clear hcG_32_0; clear hcG_32_1; clear hcG_32_2; have hcA_34_0 : w34.cell? ⟨W.heap.size, 0, none⟩ = some (.int .i64 c) := (blk_cell BA34.out 0).trans rfl; have hcA_34_1 : w34.cell? ⟨W.heap.size, 1, none⟩ = some (.int .i64 f) := (blk_cell BA34.out 1).trans rfl; have hcA_34_2 : w34.cell? ⟨W.heap.size, 2, none⟩ = some (va) := (blk_cell BA34.out 2).trans rfl; have hcO_34_0 : w34.cell? ⟨w10.heap.size, 0, none⟩ = some (.int .i64 c') := (blk_cell BO34.out 0).trans rfl; have hcO_34_1 : w34.cell? ⟨w10.heap.size, 1, none⟩ = some (.int .i64 f') := (blk_cell BO34.out 1).trans rfl; have hcO_34_2 : w34.cell? ⟨w10.heap.size, 2, none⟩ = some (.slice aO nO cO) := (blk_cell BO34.out 2).trans rfl; have hcG_34_0 : w34.cell? ⟨w16.heap.size, 0, none⟩ = some (.int .i64 c') := (blk_cell BG34.out 0).trans rfl; have hcG_34_1 : w34.cell? ⟨w16.heap.size, 1, none⟩ = some (.int .i64 f') := (blk_cell BG34.out 1).trans rfl; have hcG_34_2 : w34.cell? ⟨w16.heap.size, 2, none⟩ = some (.slice aG nG cG) := (blk_cell BG34.out 2).trans rfl)
        | (go_at_call 18; clear J1; (with_reducible refine gen_at (w0 := w34) (by repeat (with_reducible first | exact Stp.refl _ | apply Stp.alloc | apply Stp.drewN | apply Stp.drew)) ?_); intro w35 hu; have HO35 := Hid.mk (HO34.out.below hu); have HG35 := Hid.mk (HG34.out.below hu); have BA35 := Hid.mk (blk_on BA34.out hu); have BO35 := Hid.mk (blk_on BO34.out hu); have BG35 := Hid.mk (blk_on BG34.out hu); have HB35 := Hid.mk (below_step HB34.out hu); clear hu; (with_reducible refine (H18.out _ _ _ _ _ HB35.out HDG.out HG35.out).mono ?_); rintro e w36 ⟨rfl, hb⟩; have HO36 := Hid.mk (HO35.out.below hb); have HG36 := Hid.mk (HG35.out.below hb); have BA36 := Hid.mk (blk_on BA35.out hb); have BO36 := Hid.mk (blk_on BO35.out hb); have BG36 := Hid.mk (blk_on BG35.out hb); have HB36 := Hid.mk (below_step HB35.out hb); clear hb; clear hcA_34_0; clear hcA_34_1; clear hcA_34_2; clear hcO_34_0; clear hcO_34_1; clear hcO_34_2; clear hcG_34_0; clear hcG_34_1; clear hcG_34_2; have hcA_36_0 : w36.cell? ⟨W.heap.size, 0, none⟩ = some (.int .i64 c) := (blk_cell BA36.out 0).trans rfl; have hcA_36_1 : w36.cell? ⟨W.heap.size, 1, none⟩ = some (.int .i64 f) := (blk_cell BA36.out 1).trans rfl; have hcA_36_2 : w36.cell? ⟨W.heap.size, 2, none⟩ = some (va) := (blk_cell BA36.out 2).trans rfl; have hcO_36_0 : w36.cell? ⟨w10.heap.size, 0, none⟩ = some (.int .i64 c') := (blk_cell BO36.out 0).trans rfl; have hcO_36_1 : w36.cell? ⟨w10.heap.size, 1, none⟩ = some (.int .i64 f') := (blk_cell BO36.out 1).trans rfl; have hcO_36_2 : w36.cell? ⟨w10.heap.size, 2, none⟩ = some (.slice aO nO cO) := (blk_cell BO36.out 2).trans rfl; have hcG_36_0 : w36.cell? ⟨w16.heap.size, 0, none⟩ = some (.int .i64 c') := (blk_cell BG36.out 0).trans rfl; have hcG_36_1 : w36.cell? ⟨w16.heap.size, 1, none⟩ = some (.int .i64 f') := (blk_cell BG36.out 1).trans rfl; have hcG_36_2 : w36.cell? ⟨w16.heap.size, 2, none⟩ = some (.slice aG nG cG) := (blk_cell BG36.out 2).trans rfl)
        | (go_at_call 7; (with_reducible refine gen_at (w0 := w36) (by repeat (with_reducible first | exact Stp.refl _ | apply Stp.alloc | apply Stp.drewN | apply Stp.drew)) ?_); intro w37 hu; have HO37 := Hid.mk (HO36.out.below hu); have HG37 := Hid.mk (HG36.out.below hu); have BA37 := Hid.mk (blk_on BA36.out hu); have BO37 := Hid.mk (blk_on BO36.out hu); have BG37 := Hid.mk (blk_on BG36.out hu); have HB37 := Hid.mk (below_step HB36.out hu); clear hu; (with_reducible refine (H7.out _ HB37.out).mono ?_); rintro e w38 ⟨vU, fU, rfl, ho, hb⟩; have HU38 := Hid.mk ho; have LOU := Hid.mk HO37.out.lt; have LGU := Hid.mk HG37.out.lt; have MAU := Hid.mk (blk_lt BA37.out); have MOU := Hid.mk (blk_lt BO37.out); have MGU := Hid.mk (blk_lt BG37.out); have ZU := Hid.mk HB37.out.size; have HO38 := Hid.mk (HO37.out.below hb); have HG38 := Hid.mk (HG37.out.below hb); have BA38 := Hid.mk (blk_on BA37.out hb); have BO38 := Hid.mk (blk_on BO37.out hb); have BG38 := Hid.mk (blk_on BG37.out hb); have HB38 := Hid.mk (below_step HB37.out hb); clear ho hb; clear hcA_36_0; clear hcA_36_1; clear hcA_36_2; clear hcO_36_0; clear hcO_36_1; clear hcO_36_2; clear hcG_36_0; clear hcG_36_1; clear hcG_36_2; have hcA_38_0 : w38.cell? ⟨W.heap.size, 0, none⟩ = some (.int .i64 c) := (blk_cell BA38.out 0).trans rfl; have hcA_38_1 : w38.cell? ⟨W.heap.size, 1, none⟩ = some (.int .i64 f) := (blk_cell BA38.out 1).trans rfl; have hcA_38_2 : w38.cell? ⟨W.heap.size, 2, none⟩ = some (va) := (blk_cell BA38.out 2).trans rfl; have hcO_38_0 : w38.cell? ⟨w10.heap.size, 0, none⟩ = some (.int .i64 c') := (blk_cell BO38.out 0).trans rfl; have hcO_38_1 : w38.cell? ⟨w10.heap.size, 1, none⟩ = some (.int .i64 f') := (blk_cell BO38.out 1).trans rfl; have hcO_38_2 : w38.cell? ⟨w10.heap.size, 2, none⟩ = some (.slice aO nO cO) := (blk_cell BO38.out 2).trans rfl; have hcG_38_0 : w38.cell? ⟨w16.heap.size, 0, none⟩ = some (.int .i64 c') := (blk_cell BG38.out 0).trans rfl; have hcG_38_1 : w38.cell? ⟨w16.heap.size, 1, none⟩ = some (.int .i64 f') := (blk_cell BG38.out 1).trans rfl; have hcG_38_2 : w38.cell? ⟨w16.heap.size, 2, none⟩ = some (.slice aG nG cG) := (blk_cell BG38.out 2).trans rfl)
        | (go_at_call 16; (with_reducible refine gen_at (w0 := w38) (by repeat (with_reducible first | exact Stp.refl _ | apply Stp.alloc | apply Stp.drewN | apply Stp.drew)) ?_); intro w39 hu; have HO39 := Hid.mk (HO38.out.below hu); have HG39 := Hid.mk (HG38.out.below hu); have HU39 := Hid.mk (HU38.out.below hu); have BA39 := Hid.mk (blk_on BA38.out hu); have BO39 := Hid.mk (blk_on BO38.out hu); have BG39 := Hid.mk (blk_on BG38.out hu); have HB39 := Hid.mk (below_step HB38.out hu); clear hu; (with_reducible refine (H16.out _ HB39.out).mono ?_); rintro e w40 ⟨vQ, fQ, rfl, ho, hb⟩; have HQ40 := Hid.mk ho; have LOQ := Hid.mk HO39.out.lt; have LGQ := Hid.mk HG39.out.lt; have LUQ := Hid.mk HU39.out.lt; have MAQ := Hid.mk (blk_lt BA39.out); have MOQ := Hid.mk (blk_lt BO39.out); have MGQ := Hid.mk (blk_lt BG39.out); have ZQ := Hid.mk HB39.out.size; have HO40 := Hid.mk (HO39.out.below hb); have HG40 := Hid.mk (HG39.out.below hb); have HU40 := Hid.mk (HU39.out.below hb); have BA40 := Hid.mk (blk_on BA39.out hb); have BO40 := Hid.mk (blk_on BO39.out hb); have BG40 := Hid.mk (blk_on BG39.out hb); have HB40 := Hid.mk (below_step HB39.out hb); clear ho hb; clear hcA_38_0; clear hcA_38_1; clear hcA_38_2; clear hcO_38_0; clear hcO_38_1; clear hcO_38_2; clear hcG_38_0; clear hcG_38_1; clear hcG_38_2; have hcA_40_0 : w40.cell? ⟨W.heap.size, 0, none⟩ = some (.int .i64 c) := (blk_cell BA40.out 0).trans rfl; have hcA_40_1 : w40.cell? ⟨W.heap.size, 1, none⟩ = some (.int .i64 f) := (blk_cell BA40.out 1).trans rfl; have hcA_40_2 : w40.cell? ⟨W.heap.size, 2, none⟩ = some (va) := (blk_cell BA40.out 2).trans rfl; have hcO_40_0 : w40.cell? ⟨w10.heap.size, 0, none⟩ = some (.int .i64 c') := (blk_cell BO40.out 0).trans rfl; have hcO_40_1 : w40.cell? ⟨w10.heap.size, 1, none⟩ = some (.int .i64 f') := (blk_cell BO40.out 1).trans rfl; have hcO_40_2 : w40.cell? ⟨w10.heap.size, 2, none⟩ = some (.slice aO nO cO) := (blk_cell BO40.out 2).trans rfl; have hcG_40_0 : w40.cell? ⟨w16.heap.size, 0, none⟩ = some (.int .i64 c') := (blk_cell BG40.out 0).trans rfl; have hcG_40_1 : w40.cell? ⟨w16.heap.size, 1, none⟩ = some (.int .i64 f') := (blk_cell BG40.out 1).trans rfl; have hcG_40_2 : w40.cell? ⟨w16.heap.size, 2, none⟩ = some (.slice aG nG cG) := (blk_cell BG40.out 2).trans rfl)
        | (go_at_call 17; (with_reducible refine gen_at (w0 := w40) (by repeat (with_reducible first | exact Stp.refl _ | apply Stp.alloc | apply Stp.drewN | apply Stp.drew)) ?_); intro w41 hu; have HO41 := Hid.mk (HO40.out.below hu); have HG41 := Hid.mk (HG40.out.below hu); have HU41 := Hid.mk (HU40.out.below hu); have HQ41 := Hid.mk (HQ40.out.below hu); have BA41 := Hid.mk (blk_on BA40.out hu); have BO41 := Hid.mk (blk_on BO40.out hu); have BG41 := Hid.mk (blk_on BG40.out hu); have HB41 := Hid.mk (below_step HB40.out hu); clear hu; (with_reducible refine (H17.out _ _ _ _ _ _ _ HB41.out HU41.out HQ41.out).mono ?_); rintro e w42 ⟨vV, fV, rfl, ho, hb⟩; obtain ⟨aV, nV, cV, rfl⟩ := ho.slice; have HV42 := Hid.mk ho; have LOV := Hid.mk HO41.out.lt; have LGV := Hid.mk HG41.out.lt; have MOV := Hid.mk (blk_lt BO41.out); have MGV := Hid.mk (blk_lt BG41.out); have ZV := Hid.mk HB41.out.size; have HO42 := Hid.mk (HO41.out.below hb); have HG42 := Hid.mk (HG41.out.below hb); have BO42 := Hid.mk (blk_on BO41.out hb); have BG42 := Hid.mk (blk_on BG41.out hb); have HB42 := Hid.mk (below_step HB41.out hb); clear ho hb; clear hcA_40_0; clear hcA_40_1; clear hcA_40_2; clear hcO_40_0; clear hcO_40_1; clear hcO_40_2; clear hcG_40_0; clear hcG_40_1; clear hcG_40_2; have hcO_42_0 : w42.cell? ⟨w10.heap.size, 0, none⟩ = some (.int .i64 c') := (blk_cell BO42.out 0).trans rfl; have hcO_42_1 : w42.cell? ⟨w10.heap.size, 1, none⟩ = some (.int .i64 f') := (blk_cell BO42.out 1).trans rfl; have hcO_42_2 : w42.cell? ⟨w10.heap.size, 2, none⟩ = some (.slice aO nO cO) := (blk_cell BO42.out 2).trans rfl; have hcG_42_0 : w42.cell? ⟨w16.heap.size, 0, none⟩ = some (.int .i64 c') := (blk_cell BG42.out 0).trans rfl; have hcG_42_1 : w42.cell? ⟨w16.heap.size, 1, none⟩ = some (.int .i64 f') := (blk_cell BG42.out 1).trans rfl; have hcG_42_2 : w42.cell? ⟨w16.heap.size, 2, none⟩ = some (.slice aG nG cG) := (blk_cell BG42.out 2).trans rfl; have hdO_42_0 : (w42.alloc (.cells #[.int .i64 c', .int .i64 f', .slice aV nV cV] 30 (0, 0))).cell? ⟨w10.heap.size, 0, none⟩ = some (.int .i64 c') := (blk_cell (blk_on BO42.out (alloc_new' _ _)) 0).trans rfl; have hdO_42_1 : (w42.alloc (.cells #[.int .i64 c', .int .i64 f', .slice aV nV cV] 30 (0, 0))).cell? ⟨w10.heap.size, 1, none⟩ = some (.int .i64 f') := (blk_cell (blk_on BO42.out (alloc_new' _ _)) 1).trans rfl; have hdO_42_2 : (w42.alloc (.cells #[.int .i64 c', .int .i64 f', .slice aV nV cV] 30 (0, 0))).cell? ⟨w10.heap.size, 2, none⟩ = some (.slice aO nO cO) := (blk_cell (blk_on BO42.out (alloc_new' _ _)) 2).trans rfl; have hdG_42_0 : (w42.alloc (.cells #[.int .i64 c', .int .i64 f', .slice aV nV cV] 30 (0, 0))).cell? ⟨w16.heap.size, 0, none⟩ = some (.int .i64 c') := (blk_cell (blk_on BG42.out (alloc_new' _ _)) 0).trans rfl; have hdG_42_1 : (w42.alloc (.cells #[.int .i64 c', .int .i64 f', .slice aV nV cV] 30 (0, 0))).cell? ⟨w16.heap.size, 1, none⟩ = some (.int .i64 f') := (blk_cell (blk_on BG42.out (alloc_new' _ _)) 1).trans rfl; have hdG_42_2 : (w42.alloc (.cells #[.int .i64 c', .int .i64 f', .slice aV nV cV] 30 (0, 0))).cell? ⟨w16.heap.size, 2, none⟩ = some (.slice aG nG cG) := (blk_cell (blk_on BG42.out (alloc_new' _ _)) 2).trans rfl)
        | (go_at_call 10; (with_reducible refine gen_new (w0 := w42) (o := .cells #[.int .i64 c', .int .i64 f', .slice aV nV cV] 30 (0, 0)) (by repeat (with_reducible first | exact Stp.refl _ | apply Stp.drewN | apply Stp.drew)) ?_); intro w43 hu nb; have BV43 := Hid.mk nb; have NOV := Hid.mk HO42.out.lt; have NGV := Hid.mk HG42.out.lt; have NVV := Hid.mk HV42.out.lt; have HO43 := Hid.mk (HO42.out.below hu); have HG43 := Hid.mk (HG42.out.below hu); have HV43 := Hid.mk (HV42.out.below hu); have BO43 := Hid.mk (blk_on BO42.out hu); have BG43 := Hid.mk (blk_on BG42.out hu); have HB43 := Hid.mk (below_step HB42.out hu); clear hu nb; (with_reducible refine (H10b.out _ _ _ _ _ _ _ HB43.out HV43.out HO43.out).mono ?_); rintro e w44 ⟨rfl, hb⟩; have HG44 := Hid.mk (HG43.out.below hb); have BG44 := Hid.mk (blk_on BG43.out hb); have HB44 := Hid.mk (below_step HB43.out hb); clear hb; clear hcO_42_0; clear hcO_42_1; clear hcO_42_2; clear hcG_42_0; clear hcG_42_1; clear hcG_42_2; clear hdO_42_0; clear hdO_42_1; clear hdO_42_2; clear hdG_42_0; clear hdG_42_1; clear hdG_42_2; have hcG_44_0 : w44.cell? ⟨w16.heap.size, 0, none⟩ = some (.int .i64 c') := (blk_cell BG44.out 0).trans rfl; have hcG_44_1 : w44.cell? ⟨w16.heap.size, 1, none⟩ = some (.int .i64 f') := (blk_cell BG44.out 1).trans rfl; have hcG_44_2 : w44.cell? ⟨w16.heap.size, 2, none⟩ = some (.slice aG nG cG) := (blk_cell BG44.out 2).trans rfl)
        | (go_at_call 18; (with_reducible refine gen_at (w0 := w44) (by repeat (with_reducible first | exact Stp.refl _ | apply Stp.alloc | apply Stp.drewN | apply Stp.drew)) ?_); intro w45 hu; have HG45 := Hid.mk (HG44.out.below hu); have BG45 := Hid.mk (blk_on BG44.out hu); have HB45 := Hid.mk (below_step HB44.out hu); clear hu; (with_reducible refine (H18.out _ _ _ _ _ HB45.out HDG.out HG45.out).mono ?_); rintro e w46 ⟨rfl, hb⟩; have HG46 := Hid.mk (HG45.out.below hb); have BG46 := Hid.mk (blk_on BG45.out hb); have HB46 := Hid.mk (below_step HB45.out hb); clear hb; clear hcG_44_0; clear hcG_44_1; clear hcG_44_2; have hcG_46_0 : w46.cell? ⟨w16.heap.size, 0, none⟩ = some (.int .i64 c') := (blk_cell BG46.out 0).trans rfl; have hcG_46_1 : w46.cell? ⟨w16.heap.size, 1, none⟩ = some (.int .i64 f') := (blk_cell BG46.out 1).trans rfl; have hcG_46_2 : w46.cell? ⟨w16.heap.size, 2, none⟩ = some (.slice aG nG cG) := (blk_cell BG46.out 2).trans rfl))
      all_goals go_ret
      all_goals exact ⟨rfl, HB46.out⟩
    · have hd2 : decide (r2 < 0) = true := decide_eq_true (by omega)
      clear h5 h14 h7 h16 h15 h17 h9 h10 h10b h11 h11b h12 h18 hr hr2
      go_enter Try.func4, Try.ntmps4
      go_wp2_with (first
        | (go_at_call 5; (with_reducible refine gen_new (w0 := W) (o := .cells #[.int .i64 c, .int .i64 f, va] 24 (0, 0)) (by repeat (with_reducible first | exact Stp.refl _ | apply Stp.drewN | apply Stp.drew)) ?_); intro w1 hu nb; have BA1 := Hid.mk nb; have HB1 := Hid.mk (below_step HB0.out hu); clear hu nb; (with_reducible refine (H5.out _ HB1.out).mono ?_); rintro e w2 ⟨rfl, hb⟩; have BA2 := Hid.mk (blk_on BA1.out hb); have HB2 := Hid.mk (below_step HB1.out hb); clear hb; have hcA_2_0 : w2.cell? ⟨W.heap.size, 0, none⟩ = some (.int .i64 c) := (blk_cell BA2.out 0).trans rfl; have hcA_2_1 : w2.cell? ⟨W.heap.size, 1, none⟩ = some (.int .i64 f) := (blk_cell BA2.out 1).trans rfl; have hcA_2_2 : w2.cell? ⟨W.heap.size, 2, none⟩ = some (va) := (blk_cell BA2.out 2).trans rfl)
        | (go_at_call 14; (with_reducible refine gen_at (w0 := w2) (by repeat (with_reducible first | exact Stp.refl _ | apply Stp.alloc | apply Stp.drewN | apply Stp.drew)) ?_); intro w3 hu; have BA3 := Hid.mk (blk_on BA2.out hu); have HB3 := Hid.mk (below_step HB2.out hu); clear hu; (with_reducible refine (H14.out _ HB3.out).mono ?_); rintro e w4 ⟨rfl, hb⟩; have BA4 := Hid.mk (blk_on BA3.out hb); have HB4 := Hid.mk (below_step HB3.out hb); clear hb; clear hcA_2_0; clear hcA_2_1; clear hcA_2_2; have hcA_4_0 : w4.cell? ⟨W.heap.size, 0, none⟩ = some (.int .i64 c) := (blk_cell BA4.out 0).trans rfl; have hcA_4_1 : w4.cell? ⟨W.heap.size, 1, none⟩ = some (.int .i64 f) := (blk_cell BA4.out 1).trans rfl; have hcA_4_2 : w4.cell? ⟨W.heap.size, 2, none⟩ = some (va) := (blk_cell BA4.out 2).trans rfl))
      go_ret
      exact ⟨rfl, HB4.out⟩
  · have hd : decide (r < 0) = true := decide_eq_true (by omega)
    clear h5 h14 h7 h16 h15 h17 h9 h10 h10b h11 h11b h12 h18 hr
    go_enter Try.func4, Try.ntmps4
    go_wp2_with (go_at_call 5; (with_reducible refine gen_new (w0 := W) (o := .cells #[.int .i64 c, .int .i64 f, va] 24 (0, 0)) (by repeat (with_reducible first | exact Stp.refl _ | apply Stp.drewN | apply Stp.drew)) ?_); intro w1 hu nb; have BA1 := Hid.mk nb; have HB1 := Hid.mk (below_step HB0.out hu); clear hu nb; (with_reducible refine (H5.out _ HB1.out).mono ?_); rintro e w2 ⟨rfl, hb⟩; have BA2 := Hid.mk (blk_on BA1.out hb); have HB2 := Hid.mk (below_step HB1.out hb); clear hb; have hcA_2_0 : w2.cell? ⟨W.heap.size, 0, none⟩ = some (.int .i64 c) := (blk_cell BA2.out 0).trans rfl; have hcA_2_1 : w2.cell? ⟨W.heap.size, 1, none⟩ = some (.int .i64 f) := (blk_cell BA2.out 1).trans rfl; have hcA_2_2 : w2.cell? ⟨W.heap.size, 2, none⟩ = some (va) := (blk_cell BA2.out 2).trans rfl)
    go_ret
    exact ⟨rfl, HB2.out⟩
end Go.Eva
end
section
/- Whatever reads as data of a type reads as a value of its kind. -/
namespace Go.Eva
set_option linter.unusedVariables false
set_option linter.unusedSimpArgs false
universe u
variable {P : Program} {t e : TypeId}

def Reads (P : Program) (t : TypeId) (κ : Kd) (G : κ.T → Prop) : Prop :=
  P.cellsOf t = κ.n ∧ ∀ (H : Type) (enc : TypeId × Value → H) (W : World) (base : Nat) (spare : Nat → Bool) (held : Bool) (fuel : Nat) (cs : List Value) (x : DataW H × List MemPlace),
    DataW.trod enc P W base spare held fuel t cs = some x → ∃ y fp, Rd W false κ (fun j => cs[j]?) y fp ∧ G y
/-- The fields fs, from cell off on. -/
def ReadsF (P : Program) (fs : List Field) (off : Nat) (κ : Kd) (G : κ.T → Prop) : Prop :=
  ∀ (H : Type) (enc : TypeId × Value → H) (W : World) (base : Nat) (spare : Nat → Bool) (held : Bool) (n : Nat) (cs : List Value), cs.length = off + κ.n →
    (∀ f, f ∈ fs → ∃ y, DataW.trod enc P W base spare held n f.type ((cs.drop f.offset).take (P.cellsOf f.type)) = some y) → ∃ y fp, Rd W false κ (fun j => (cs.drop off)[j]?) y fp ∧ G y
theorem reads_int {k : IntKind} (ht : P.underlying t = some (.int k)) (hc : P.cellsOf t = 1) : Reads P t (.int k) (fun y => True) :=
  ⟨hc, fun H enc W base spare held fuel cs x h => by
    obtain ⟨n, rfl, _, hw⟩ := DataW.trod_int ht h
    exact ⟨n, [], ⟨rfl, rfl⟩, trivial⟩⟩
theorem reads_bool (ht : P.underlying t = some .bool) (hc : P.cellsOf t = 1) : Reads P t .bool (fun _ => True) :=
  ⟨hc, fun H enc W base spare held fuel cs x h => by
    obtain ⟨n, rfl, _⟩ := DataW.trod_bool ht h
    exact ⟨n, [], ⟨rfl, rfl⟩, trivial⟩⟩
theorem reads_str (ht : P.underlying t = some .string) (hc : P.cellsOf t = 1) : Reads P t .str (fun y => ByteArray.size y ≤ maxLen) :=
  ⟨hc, fun H enc W base spare held fuel cs x h => by
    obtain ⟨n, rfl, _, hw⟩ := DataW.trod_string ht h
    exact ⟨n, [], ⟨rfl, rfl⟩, hw⟩⟩
theorem Kd.n_pos : ∀ κ : Kd, 0 < κ.n
  | .int _ => Nat.one_pos
  | .bool => Nat.one_pos
  | .str => Nat.one_pos
  | .sl _ _ => Nat.one_pos
  | .pair a b => Nat.lt_of_lt_of_le (Kd.n_pos a) (Nat.le_add_right _ _)
theorem choose2 {α β : Type} (n : Nat) (Q : Nat → α → β → Prop) (h : ∀ i, i < n → ∃ a b, Q i a b) : ∃ (l : List α) (m : List β), l.length = n ∧ m.length = n ∧ ∀ i (h1 : i < l.length) (h2 : i < m.length), Q i l[i] m[i] := by
  induction n with
  | zero => exact ⟨[], [], rfl, rfl, fun i h1 => by cases h1⟩
  | succ n ih =>
    obtain ⟨l, m, h1, h2, h3⟩ := ih (fun i hi => h i (by omega))
    obtain ⟨a, b, hq⟩ := h n (by omega)
    refine ⟨l ++ [a], m ++ [b], by simp [h1], by simp [h2], fun i q1 q2 => ?_⟩
    by_cases hi : i < n
    · rw [List.getElem_append_left (by omega), List.getElem_append_left (by omega)]
      exact h3 i (by omega) (by omega)
    · have e : i = n := by simp [h1] at q1; omega
      subst e
      rw [List.getElem_append_right (by omega), List.getElem_append_right (by omega)]
      simp only [h1, h2, Nat.sub_self, List.getElem_cons_zero]
      exact hq
theorem reads_sl {κ : Kd} {G : κ.T → Prop} (ht : P.underlying t = some (.slice e)) (hc : P.cellsOf t = 1) (he : Reads P e κ G) : Reads P t (.sl e κ) (fun l => List.length l ≤ maxLen ∧ ∀ x ∈ l, G x) :=
  ⟨hc, fun H enc W base spare held fuel cs x h => by
    rcases Go.Deep.open_slice ht h with ⟨rfl, _⟩ | ⟨a, len, cap, m, n, D, Pl, rfl, _, hl, hm, hmm, _, hx⟩
    · exact ⟨[], [], ⟨_, rfl, .inl ⟨rfl, rfl, none, 0, rfl, fun k => (by cases k)⟩⟩, Nat.zero_le _, fun x hx => by cases hx⟩
    · have hlm : len ≤ m := by
        rw [hmm]
        split
        · exact hl
        · exact Nat.le_refl _
      have hn := Kd.n_pos κ
      have hV : ∀ i, i < len → ∃ (y : κ.T) (fp : List Nat), Rd W false κ (fun j => W.cell? (a.add (i * κ.n + j))) y fp ∧ G y ∧ ∃ c, W.cell? (a.add (i * κ.n)) = some c := fun i hi => by
        obtain ⟨cs', h1, h2⟩ := hx i (by omega)
        obtain ⟨y, fp, hr, hg⟩ := he.2 H enc W base spare held n cs' _ h2
        obtain ⟨_, h3, h4⟩ := World.cells?_some h1
        rw [he.1] at h3 h4
        have hcell : ∀ j, j < κ.n → W.cell? (a.add (i * κ.n + j)) = cs'[j]? := fun j hj => by
          have := h4 j hj
          rw [← this]
          congr 1
          exact (Go.Deep.add_add a (i * κ.n) j).symm
        refine ⟨y, fp, Rd.frame id (Nat.le_refl _) κ _ _ y fp hr (fun _ _ => rfl) hcell, hg, cs'[0]'(by omega), ?_⟩
        have := hcell 0 hn
        rw [Nat.add_zero] at this
        rw [this, List.getElem?_eq_getElem]
      cases len with
      | zero => exact ⟨[], [], ⟨_, rfl, .inl ⟨rfl, rfl, some a, cap, rfl, fun k => (by cases k)⟩⟩, Nat.zero_le _, fun x hx => by cases hx⟩
      | succ len =>
        obtain ⟨_, _, _, _, c0, hc0⟩ := hV 0 (by omega)
        rw [Nat.zero_mul] at hc0
        obtain ⟨g, off, spot⟩ := a
        have hspot : spot = none := by
          cases spot with
          | none => rfl
          | some s =>
            have : (⟨g, off, some s⟩ : Addr).add 0 = ⟨g, off, some s⟩ := by simp [Addr.add]
            rw [this] at hc0
            simp only [World.cell?, Option.isSome, if_true] at hc0
            split at hc0 <;> cases hc0
        subst hspot
        have hadd : ∀ i, (⟨g, off, none⟩ : Addr).add i = ⟨g, off + i, none⟩ := fun i => by unfold Addr.add; split <;> simp_all
        have hglt : g < W.heap.size := by
          rw [hadd] at hc0
          simp only [World.cell?] at hc0
          refine Nat.lt_of_not_le fun k => ?_
          rw [Array.getElem?_eq_none k] at hc0
          cases hc0
        obtain ⟨l, fps, q1, q2, q3⟩ := choose2 (len + 1) (fun i (y : κ.T) fp => Rd W false κ (fun j => W.cell? ((⟨g, off, none⟩ : Addr).add (i * κ.n + j))) y fp ∧ G y) (fun i hi => by
          obtain ⟨y, fp, h1, h2, _⟩ := hV i hi
          exact ⟨y, fp, h1, h2⟩)
        refine ⟨l, g :: fps.flatten, ⟨_, rfl, .inr ⟨g, off, cap, fps, by rw [q1], rfl, by rw [q1, q2], hglt, by rw [q1]; exact hl, fun k => (by cases k), fun i hi hi' => ?_⟩⟩, by rw [q1]; omega, fun x hx => ?_⟩
        · have := (q3 i hi hi').1
          simp only [hadd, ← Nat.add_assoc] at this
          exact this
        · obtain ⟨i, hi, rfl⟩ := List.getElem_of_mem hx
          exact (q3 i hi (by omega)).2⟩
theorem readsF_one {κ : Kd} {G : κ.T → Prop} {f : Field} {off : Nat} (ho : f.offset = off) (h : Reads P f.type κ G) : ReadsF P [f] off κ G := fun H enc W base spare held n cs hl hf => by
  obtain ⟨y, hy⟩ := hf f (by simp)
  obtain ⟨z, fp, hz, hg⟩ := h.2 H enc W base spare held n _ _ hy
  rw [h.1, ho, List.take_of_length_le (by rw [List.length_drop]; omega)] at hz
  exact ⟨z, fp, hz, hg⟩
theorem readsF_cons {a b : Kd} {Ga : a.T → Prop} {Gb : b.T → Prop} {f : Field} {fs : List Field} {off : Nat} (ho : f.offset = off) (h : Reads P f.type a Ga) (hs : ReadsF P fs (off + a.n) b Gb) :
    ReadsF P (f :: fs) off (.pair a b) (fun y => Ga y.1 ∧ Gb y.2) := fun H enc W base spare held n cs hl hf => by
  have hl2 : cs.length = off + (a.n + b.n) := hl
  obtain ⟨y, hy⟩ := hf f (by simp)
  obtain ⟨z, f1, hz, hg⟩ := h.2 H enc W base spare held n _ _ hy
  rw [h.1, ho] at hz
  obtain ⟨z2, f2, hz2, hg2⟩ := hs H enc W base spare held n cs (by omega) (fun f' hf' => hf f' (by simp [hf']))
  refine ⟨(z, z2), f1 ++ f2, ⟨f1, f2, rfl, Rd.frame id (Nat.le_refl _) a _ _ z f1 hz (fun _ _ => rfl) (fun j hj => ?_), Rd.frame id (Nat.le_refl _) b _ _ z2 f2 hz2 (fun _ _ => rfl) (fun j hj => ?_)⟩, hg, hg2⟩
  · show (cs.drop off)[j]? = ((cs.drop off).take a.n)[j]?
    rw [List.getElem?_take, if_pos hj]
  · show (cs.drop off)[a.n + j]? = (cs.drop (off + a.n))[j]?
    rw [List.getElem?_drop, List.getElem?_drop]
    congr 1
    omega
theorem reads_struct {κ : Kd} {G : κ.T → Prop} {fs : Array Field} {l : List Field} (ht : P.underlying t = some (.struct fs)) (hfs : fs.toList = l) (hc : P.cellsOf t = κ.n) (h : ReadsF P l 0 κ G) : Reads P t κ G :=
  ⟨hc, fun H enc W base spare held fuel cs x hx => by
    obtain ⟨xs, n, _, _, hl, hxs, hf⟩ := DataW.trod_struct ht hx
    obtain ⟨y, fp, hy, hg⟩ := h H enc W base spare held n cs (by rw [hl, hc]; omega) (fun q hq => by
      rw [← hfs] at hq
      obtain ⟨i, hi⟩ := List.getElem?_of_mem hq
      have hi2 : fs[i]? = some q := by simpa using hi
      have hlt : i < fs.size := (Array.getElem?_eq_some_iff.1 hi2).1
      rw [hf i q hi2]
      exact ⟨xs[i]'(by omega), List.getElem?_eq_getElem (by omega)⟩)
    exact ⟨y, fp, hy, hg⟩⟩
/-- A list read may be lent. -/
theorem lent_of {W : World} {e : TypeId} {κ : Kd} {v : Value} {l : List κ.T} {fp : List Nat} (h : RdS W false (Rd W false κ) κ.n e v l fp) : Lent W e κ v l := ⟨fp, h, h.lt fun g x f q => Rd.lt κ g x f q⟩
end Go.Eva
end
section
/- FnExactLast, FnExactPush: the laws hold. -/
namespace Go.Eva
open Go.Proofs
open Go.RowKit (Below)
set_option linter.unusedVariables false
set_option linter.unusedSimpArgs false
theorem okeq {α : Type} {x : Option α} {a : α} (h : ok x fun r => r = a) : x = some a := by
  obtain ⟨r, h, rfl⟩ := h
  exact h
theorem bd_of {K : Tq} {r : Int} (h : 0 ≤ r ∧ r + K.length + sl K ≤ 1048576 ∧ ∀ l ∈ K, ∀ x ∈ l, x.1.size ≤ 1048576) : Bd K := ⟨by omega, by omega, h.2.2⟩
theorem mt_of (W : World) {n : Nat} (hn : 20000000 ≤ n) : MT W (mtx n) := fun k w h0 h1 hB => call_text (g30 W n) hB (f30 hn h0 h1)
theorem last_calls {W : World} {c f m : Int} {va : Value} {K : Tq} (hv : Lent W 37 kQL va K) (hK : K.length ≤ maxLen) (hl : ∀ l ∈ K, l.length ≤ maxLen ∧ ∀ x ∈ l, x.1.size ≤ maxLen) :
    Calls Try.prog 3 #[sv c f va, .int .i64 m] W fun e w' => e = rb true ∧ Below W.heap.size W w' := by
  obtain ⟨n, hn⟩ : ∃ n : Nat, 20000000 ≤ n := ⟨20000000, Nat.le_refl _⟩
  obtain ⟨⟨r, u⟩, e5, q5⟩ := t5s (c := c) (f := f) hn hK hl (left := 1048576) (by decide) (by decide)
  have q5 : r < 0 ∨ (0 ≤ r ∧ r + K.length + sl K ≤ 1048576 ∧ ∀ l ∈ K, ∀ x ∈ l, x.1.size ≤ 1048576) := q5
  have bd : 0 ≤ r → Bd K := fun hr => bd_of (q5.resolve_left (by omega))
  have hL : 0 ≤ r → (lst n c f K m).length ≤ 1048576 := fun hr => lst_len hn (bd hr).rp
  refine last_walk (r := r) (L := lst n c f K m) (mt := mtx n) (fun w hB => call_si (g5 W n) hB (hv.below hB) e5)
    (fun hr w hB => call_ss (g7 W n) hB (hv.below hB) (okeq (t7 hn (bd hr).len fun l hl => (bd hr).row hl)))
    (fun hr w v lo fp hB ho => call_sil (g6 W n) hB ho.lent (okeq (t6 hn (bd hr).len (bd hr).rp)))
    (fun hr w v lo fp hB ho => call_sil (g8 W n) hB ho.lent (okeq (t8 hn (bd hr).len (bd hr).rp)))
    (fun hr w v1 v2 lo1 lo2 fp1 fp2 hB h1 h2 => call_llb (g9 W n) hB h1.lent h2.lent (okeq (t9 hn (hL hr))))
    (fun hr w v1 v2 lo1 lo2 fp1 fp2 hB h1 h2 => call_ssb (g10 W n) hB h1.lent h2.lent (okeq (t10 hn (bd hr).len fun l hl => (bd hr).row hl)))
    (fun hr w v lo fp hB ho hW => markS hB ho hW (bd hr).len (by have := (bd hr).all; omega) (fun l hl => (bd hr).row hl) (by decide) (by decide) (mt_of W hn))
    (fun hr w v lo fp hB ho hW => markRows hB ho.rd hW (hL hr) (by decide) (by decide) (mt_of W hn))
    (fun hr w v lo fp hB ho => call_li (g13 W n) hB ho.lent ?_)
  have h := t13h hn (l := mkRow (mtx n) 1 (lst n c f K m).length) (by rw [mkRow_len]; exact hL hr) (k := 1) (by decide) (by decide) (by rw [mkRow_len])
  rw [mkRow_len] at h
  exact okeq h
theorem push_calls {W : World} {c f : Int} {va vl : Value} {K : Tq} {l : List kRow.T} (hv : Lent W 37 kQL va K) (hK : K.length ≤ maxLen) (hl : ∀ l ∈ K, l.length ≤ maxLen ∧ ∀ x ∈ l, x.1.size ≤ maxLen)
    (hv2 : Lent W 54 kRow vl l) (hl2 : l.length ≤ maxLen ∧ ∀ x ∈ l, x.1.size ≤ maxLen) :
    Calls Try.prog 4 #[sv c f va, vl] W fun e w' => e = rb true ∧ Below W.heap.size W w' := by
  obtain ⟨n, hn⟩ : ∃ n : Nat, 20000000 ≤ n := ⟨20000000, Nat.le_refl _⟩
  obtain ⟨⟨r, u⟩, e5, q5⟩ := t5s (c := c) (f := f) hn hK hl (left := 1048576) (by decide) (by decide)
  have q5 : r < 0 ∨ (0 ≤ r ∧ r + K.length + sl K ≤ 1048576 ∧ ∀ l ∈ K, ∀ x ∈ l, x.1.size ≤ 1048576) := q5
  have bd : 0 ≤ r → Bd K := fun hr => bd_of (q5.resolve_left (by omega))
  obtain ⟨r2, h2⟩ : ∃ r2 : Int, 0 ≤ r → F14 n l r = some (r2, ()) ∧ (r2 < 0 ∨ (0 ≤ r2 ∧ r2 + l.length ≤ r ∧ ∀ x ∈ l, x.1.size ≤ 1048576)) := by
    by_cases hr : 0 ≤ r
    · have := (q5.resolve_left (by omega)).2.1
      obtain ⟨⟨r2, u⟩, e, q⟩ := t14s hn hl2.1 hl2.2 hr (by omega)
      exact ⟨r2, fun _ => ⟨e, q⟩⟩
    · exact ⟨0, fun h => absurd h hr⟩
  have rp : 0 ≤ r → 0 ≤ r2 → Rp l := fun hr hr2 => by
    have a1 := (q5.resolve_left (by omega)).2.1
    have a2 := (h2 hr).2.resolve_left (by omega)
    exact ⟨by omega, a2.2.2⟩
  have pb : 0 ≤ r → 0 ≤ r2 → (pu n c f K l).2.2.length ≤ 1048576 ∧ sl (pu n c f K l).2.2 ≤ 2097152 ∧ ∀ x ∈ (pu n c f K l).2.2, x.length ≤ 1048576 := fun hr hr2 => pu_b hn (bd hr) (rp hr hr2).1
  refine push_walk (r := r) (r2 := r2) (c' := (pu n c f K l).1) (f' := (pu n c f K l).2.1) (L := (pu n c f K l).2.2) (l := l) (mt := mtx n) (fun w hB => call_si (g5 W n) hB (hv.below hB) e5)
    (fun hr w hB => call_li (g14 W n) hB (hv2.below hB) (h2 hr).1)
    (fun hr hr2 w hB => call_ss (g7 W n) hB (hv.below hB) (okeq (t7 hn (bd hr).len fun l hl => (bd hr).row hl)))
    (fun hr hr2 w hB => call_ll (g16 W n) hB (hv2.below hB) (okeq (t16 hn (rp hr hr2).1)))
    (fun hr hr2 w v1 v2 lo1 lo2 fp1 fp2 hB h1 h2 => call_sls (g15 W n) hB h1.lent h2.lent (okeq (t15 hn (bd hr).len (bd hr).rp (rp hr hr2))))
    (fun hr hr2 w v1 v2 lo1 lo2 fp1 fp2 hB h1 h2 => call_sls (g17 W n) hB h1.lent h2.lent (okeq (t17 hn (bd hr).len (bd hr).rp (rp hr hr2))))
    (fun hr hr2 w v1 v2 lo1 lo2 fp1 fp2 hB h1 h2 => call_llb (g9 W n) hB h1.lent h2.lent (okeq (t9 hn (rp hr hr2).1)))
    (fun hr hr2 w v1 v2 lo1 lo2 fp1 fp2 hB h1 h2 => call_ssb (g10 W n) hB h1.lent h2.lent (okeq (t10 hn (bd hr).len fun l hl => (bd hr).row hl)))
    (fun hr hr2 w v1 v2 lo1 lo2 fp1 fp2 hB h1 h2 => call_ssb (g10 W n) hB h1.lent h2.lent (okeq (t10 hn (pb hr hr2).1 (pb hr hr2).2.2)))
    (fun hr hr2 w v lo fp hB ho hW => markS hB ho hW (bd hr).len (by have := (bd hr).all; omega) (fun l hl => (bd hr).row hl) (by decide) (by decide) (mt_of W hn))
    (fun hr hr2 w v lo fp hB ho hW => markS hB ho hW (pb hr hr2).1 (pb hr hr2).2.1 (pb hr hr2).2.2 (by decide) (by decide) (mt_of W hn))
    (fun hr hr2 w v lo fp hB ho hW => markRows hB ho.rd hW (rp hr hr2).1 (by omega) (by have := pre_le K K.length; have := (bd hr).all; omega) (mt_of W hn))
    (fun hr hr2 w v lo fp T' hB hd ho => call_si (g18 W n) hB ho.lent (okeq (t18h hn (by decide) (by decide) (pb hr hr2).1 (pb hr hr2).2.1 (pb hr hr2).2.2 hd)))
end Go.Eva
end
