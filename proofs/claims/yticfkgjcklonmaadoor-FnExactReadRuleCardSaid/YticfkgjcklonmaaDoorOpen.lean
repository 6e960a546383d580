/- Whatever reads as data of a type is read as a value of its kind: whole numbers, bools, strings, slices and structs of these. -/
import Derived.Test.YticfkgjcklonmaaDoorWWords
import Derived.ChangeSlices
import Derived.Deep.Slices
namespace Go.Proofs.YticfkgjcklonmaaDoor.Opn
open Go.RowKit Go.ChangeShapes Go.WideShapes Go.Proofs.YticfkgjcklonmaaDoorW.PrintWords
set_option linter.unusedVariables false
universe u
/-- Whatever reads as data of type t is a value of kind d that G holds of. -/
def Reads {α : Type} (P : Program) (t : TypeId) (d : Kd α) (G : α → Prop) : Prop :=
  P.cellsOf t = d.sz ∧ ∀ (H : Type) (enc : TypeId × Value → H) (W : World) (base : Nat) (spare : Nat → Bool) (held : Bool) (fuel : Nat) (cs : List Value) (x : DataW H × List MemPlace),
    DataW.trod enc P W base spare held fuel t cs = some x → ∃ y : α, d.K W y cs ∧ G y
/-- The fields fs, from cell off on, are values of kind d. -/
def ReadsF {α : Type} (P : Program) (fs : List Field) (off : Nat) (d : Kd α) (G : α → Prop) : Prop :=
  ∀ (H : Type) (enc : TypeId × Value → H) (W : World) (base : Nat) (spare : Nat → Bool) (held : Bool) (n : Nat) (cs : List Value), cs.length = off + d.sz →
    (∀ f, f ∈ fs → ∃ y, DataW.trod enc P W base spare held n f.type ((cs.drop f.offset).take (P.cellsOf f.type)) = some y) → ∃ y : α, d.K W y (cs.drop off) ∧ G y
variable {P : Program} {t e : TypeId}
theorem reads_int {k : IntKind} (ht : P.underlying t = some (.int k)) (hc : P.cellsOf t = 1) : Reads P t (Kd.int k) (fun y => (Lit.int k y).wf = true) :=
  ⟨hc, fun H enc W base spare held fuel cs x h => by
    obtain ⟨n, rfl, _, hw⟩ := DataW.trod_int ht h
    exact ⟨n, rfl, hw⟩⟩
theorem reads_bool (ht : P.underlying t = some .bool) (hc : P.cellsOf t = 1) : Reads P t Kd.bool (fun _ => True) :=
  ⟨hc, fun H enc W base spare held fuel cs x h => by
    obtain ⟨n, rfl, _⟩ := DataW.trod_bool ht h
    exact ⟨n, rfl, trivial⟩⟩
theorem reads_string (ht : P.underlying t = some .string) (hc : P.cellsOf t = 1) : Reads P t Kd.string (fun y => y.size ≤ maxLen) :=
  ⟨hc, fun H enc W base spare held fuel cs x h => by
    obtain ⟨n, rfl, _, hw⟩ := DataW.trod_string ht h
    exact ⟨n, rfl, hw⟩⟩
theorem choose_list {β : Type} (n : Nat) (Q : Nat → β → Prop) (h : ∀ i, i < n → ∃ y, Q i y) : ∃ l : List β, l.length = n ∧ ∀ i y, l[i]? = some y → Q i y := by
  induction n with
  | zero => exact ⟨[], rfl, fun i y hy => by simp at hy⟩
  | succ n ih =>
    obtain ⟨l, hl, hq⟩ := ih (fun i hi => h i (by omega))
    obtain ⟨z, hz⟩ := h n (by omega)
    refine ⟨l ++ [z], by simp [hl], fun i y hy => ?_⟩
    by_cases hi : i < l.length
    · rw [List.getElem?_append_left hi] at hy
      exact hq i y hy
    · rw [List.getElem?_append_right (by omega)] at hy
      have hi2 := (List.getElem?_eq_some_iff.1 hy).1
      simp only [List.length_singleton] at hi2
      have e : i = n := by omega
      subst e
      rw [hl, Nat.sub_self] at hy
      obtain rfl : z = y := by simpa using hy
      exact hz
theorem reads_slice {α : Type} {d : Kd α} {G : α → Prop} (ht : P.underlying t = some (.slice e)) (hc : P.cellsOf t = 1) (he : Reads P e d G) :
    Reads P t (Kd.slice e d) (fun l => l.length ≤ maxLen ∧ ∀ x ∈ l, G x) :=
  ⟨hc, fun H enc W base spare held fuel cs x h => by
    rcases Go.Deep.open_slice ht h with ⟨rfl, _⟩ | ⟨a, len, cap, m, n, D, Pl, rfl, _, hl, hm, hmm, _, hx⟩
    · exact ⟨[], ⟨none, 0, rfl, Nat.le_refl _, rfl, Nat.zero_le _, fun hp => absurd hp (by simp)⟩, Nat.zero_le _, fun x hx => by cases hx⟩
    · have hlm : len ≤ m := by
        rw [hmm]
        split
        · exact hl
        · exact Nat.le_refl _
      obtain ⟨l, hll, hq⟩ := choose_list (β := α) len (fun i y => (∃ c, c.length = d.sz ∧ d.K W y c ∧ ∀ j u, c[j]? = some u → W.cell? (a.add (i * d.sz + j)) = some u) ∧ G y) (fun i hi => by
        obtain ⟨cs', h1, h2⟩ := hx i (by omega)
        obtain ⟨y, hy, hg⟩ := he.2 H enc W base spare held n cs' _ h2
        obtain ⟨_, h3, h4⟩ := World.cells?_some h1
        rw [he.1] at h3 h4
        refine ⟨y, ⟨cs', h3, hy, fun j u hu => ?_⟩, hg⟩
        have hj : j < d.sz := by
          have := (List.getElem?_eq_some_iff.1 hu).1
          omega
        have := h4 j hj
        rw [hu] at this
        rw [← this]
        congr 1
        exact (Go.Deep.add_add a (i * d.sz) j).symm)
      refine ⟨l, ⟨some a, cap, by rw [hll], by rw [hll]; exact hl, rfl, by rw [hll]; unfold maxLen at hm; omega, fun hp => ⟨a, rfl, fun j p hp => (hq j p hp).1⟩⟩, by rw [hll]; omega, fun x hx => ?_⟩
      obtain ⟨i, hi⟩ := List.getElem?_of_mem hx
      exact (hq i x hi).2⟩
theorem readsF_one {α : Type} {d : Kd α} {G : α → Prop} {f : Field} {off : Nat} (ho : f.offset = off) (h : Reads P f.type d G) : ReadsF P [f] off d G := fun H enc W base spare held n cs hl hf => by
  obtain ⟨y, hy⟩ := hf f (by simp)
  obtain ⟨z, hz, hg⟩ := h.2 H enc W base spare held n _ _ hy
  rw [h.1, ho, List.take_of_length_le (by rw [List.length_drop]; omega)] at hz
  exact ⟨z, hz, hg⟩
theorem readsF_cons {α β : Type} {a : Kd α} {b : Kd β} {Ga : α → Prop} {Gb : β → Prop} {f : Field} {fs : List Field} {off : Nat} (ho : f.offset = off) (h : Reads P f.type a Ga) (hs : ReadsF P fs (off + a.sz) b Gb) :
    ReadsF P (f :: fs) off (Kd.pair a b) (fun y => Ga y.1 ∧ Gb y.2) := fun H enc W base spare held n cs hl hf => by
  have hl2 : cs.length = off + (a.sz + b.sz) := hl
  obtain ⟨y, hy⟩ := hf f (by simp)
  obtain ⟨z, hz, hg⟩ := h.2 H enc W base spare held n _ _ hy
  rw [h.1, ho] at hz
  obtain ⟨z2, hz2, hg2⟩ := hs H enc W base spare held n cs (by omega) (fun f' hf' => hf f' (by simp [hf']))
  refine ⟨(z, z2), ⟨_, _, ?_, hz, hz2⟩, hg, hg2⟩
  rw [← List.drop_drop, List.take_append_drop]
theorem reads_struct {α β : Type} {d : Kd α} {G : α → Prop} {fs : Array Field} {l : List Field} (ht : P.underlying t = some (.struct fs)) (hfs : fs.toList = l) (hc : P.cellsOf t = d.sz) (h : ReadsF P l 0 d G) (g : α → β) (f : β → α) (hfg : ∀ x, f (g x) = x) :
    Reads P t (Kd.iso d f) (fun y => G (f y)) :=
  ⟨hc, fun H enc W base spare held fuel cs x hx => by
    obtain ⟨xs, n, _, _, hl, hxs, hf⟩ := DataW.trod_struct ht hx
    obtain ⟨y, hy, hg⟩ := h H enc W base spare held n cs (by rw [hl, hc]; omega) (fun q hq => by
      rw [← hfs] at hq
      obtain ⟨i, hi⟩ := List.getElem?_of_mem hq
      have hi2 : fs[i]? = some q := by simpa using hi
      have hlt : i < fs.size := (Array.getElem?_eq_some_iff.1 hi2).1
      rw [hf i q hi2]
      exact ⟨xs[i]'(by omega), List.getElem?_eq_getElem (by omega)⟩)
    refine ⟨g y, ?_, ?_⟩
    · show d.K W (f (g y)) cs
      rw [hfg]
      exact hy
    · show G (f (g y))
      rw [hfg]
      exact hg⟩
theorem reads_plain {α : Type} {d : Kd α} {G : α → Prop} {fs : Array Field} {l : List Field} (ht : P.underlying t = some (.struct fs)) (hfs : fs.toList = l) (hc : P.cellsOf t = d.sz) (h : ReadsF P l 0 d G) : Reads P t d G :=
  reads_struct ht hfs hc h id id (fun _ => rfl)
end Go.Proofs.YticfkgjcklonmaaDoor.Opn
