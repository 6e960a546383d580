/- The row of the law FnExactPush. -/
import Derived.Test.YtiflbbpbjpohaaaRows
import Derived.WalkKit
import Derived.ProofKit
import Derived.OpenShut
import Derived.ShutString
import Derived.ChangeOld
import Derived.Below
import Derived.SizedLaws
import Derived.Carry
import Derived.Test.YtiflbbpbjpohaaaL4
namespace Go.Proofs.Ytiflbbpbjpohaaa.fnExactPush
open Go.ChangeShapes Go.WideShapes Go.ChangeAt Go.RowKit Go.Eva
set_option linter.unusedVariables false
set_option linter.unusedSimpArgs false
theorem own : ownKnob Try.prog.godebug = none := by kernel_rfl
theorem laidOut : laidOutB Try.prog = true := by kernel_rfl
theorem mono {P : Program} {t : TypeId} {κ : Eva.Kd} {G G1 : κ.T → Prop} (h : Reads P t κ G) (k : ∀ y, G y → G1 y) : Reads P t κ G1 :=
  ⟨h.1, fun H enc W base spare held fuel cs x hx => by
    obtain ⟨y, fp, h1, h2⟩ := h.2 H enc W base spare held fuel cs x hx
    exact ⟨y, fp, h1, k y h2⟩⟩
set_option maxRecDepth 100000 in
theorem rt3 : Reads Try.prog 3 (.int .i64) (fun _ => True) := reads_int Try.underlying3 (by kernel_rfl)
set_option maxRecDepth 100000 in
theorem rt9 : Reads Try.prog 9 .str (fun y => ByteArray.size y ≤ maxLen) := reads_str Try.underlying9 (by kernel_rfl)
set_option maxRecDepth 100000 in
theorem rt4 : Reads Try.prog 4 .bool (fun _ => True) := reads_bool Try.underlying4 (by kernel_rfl)
set_option maxRecDepth 100000 in
theorem rt54 : Reads Try.prog 54 kRow (fun y => ByteArray.size y.1 ≤ maxLen) := mono (reads_struct Try.underlying54 rfl (by kernel_rfl) (readsF_cons rfl rt9 (readsF_cons rfl rt3 (readsF_cons rfl rt3 (readsF_cons rfl rt4 (readsF_cons rfl rt3 (readsF_cons rfl rt3 (readsF_cons rfl rt3 (readsF_cons rfl rt3 (readsF_cons rfl rt3 (readsF_one rfl rt3))))))))))) (fun y h => h.1)
set_option maxRecDepth 100000 in
theorem rt37 : Reads Try.prog 37 kQL (fun l => List.length l ≤ maxLen ∧ ∀ x ∈ (l : List kRow.T), ByteArray.size x.1 ≤ maxLen) := reads_sl Try.underlying37 (by kernel_rfl) rt54
set_option maxRecDepth 100000 in
theorem rt22 : Reads Try.prog 22 (.sl 37 kQL) (fun K => List.length K ≤ maxLen ∧ ∀ l ∈ (K : List (List kRow.T)), l.length ≤ maxLen ∧ ∀ x ∈ l, ByteArray.size x.1 ≤ maxLen) := reads_sl Try.underlying22 (by kernel_rfl) rt37
set_option maxRecDepth 100000 in
theorem rt24 : Reads Try.prog 24 (.pair (.int .i64) (.pair (.int .i64) (.sl 37 kQL))) (fun y => List.length y.2.2 ≤ maxLen ∧ ∀ l ∈ (y.2.2 : List (List kRow.T)), l.length ≤ maxLen ∧ ∀ x ∈ l, ByteArray.size x.1 ≤ maxLen) := mono (reads_struct Try.underlying24 rfl (by kernel_rfl) (readsF_cons rfl rt3 (readsF_cons rfl rt3 (readsF_one rfl rt22)))) (fun y h => h.2.2)
theorem three {cs : Array Value} {a b c : Value} (h : cs.size = 3) (h0 : cs.toList[0]? = some a) (h1 : cs.toList[1]? = some b) (h2 : cs.toList[2]? = some c) : cs = #[a, b, c] := by
  obtain ⟨l⟩ := cs
  match l, h with
  | [x, y, z], _ =>
    have h0 : some x = some a := h0
    have h1 : some y = some b := h1
    have h2 : some z = some c := h2
    injection h0 with h0
    injection h1 with h1
    injection h2 with h2
    rw [h0, h1, h2]
set_option maxRecDepth 100000 in
theorem lifted (os : Os) (started : os.Started) (H : Type) (enc : TypeId × Value → H) :
    ReturnsInHanded {} Try.checked os 4 .any (Rows.fnExactPushSpec.pre6 enc Try.prog Try.f4 Rows.fnExactPushRow.domain false) (Rows.fnExactPushSpec.post enc Try.prog Try.f4 false true false false) := by
  refine returnsInHanded_of_change_sized (C := Try.checked) own started (by kernel_rfl) Try.func4
    (ChangeSpec.witness6 (enc := enc) (C := Try.checked) false ⟨#[], #[.agg #[.int .i64 0, .int .i64 0, .slice none 0 0], .slice none 0 0], []⟩ 8 (by kernel_rfl) (by kernel_rfl) (by kernel_rfl) (by kernel_rfl)) ?_
  intro W base args ds gs before hval0 hW hcnd hsz0 _
  have hval : ∀ (j : Nat) t v, Try.f4.params[j]? = some t → args[j]? = some v → Value.okWide Try.prog W .any base t v := hval0
  have hW' := hW
  obtain ⟨p, q, hA0, hV, rfl, hfz, hnd⟩ := hW
  have hA : DataW.TrodAll enc Try.prog W 0 (fun _ => true) true Try.f4.params.toList args.toList ds p := hA0
  rw [Try.params4] at hA hval
  obtain ⟨v0, vs0, d0, ds0, p0, q0, hargs, rfl, rfl, h0, r0⟩ := trodAll_cons hA
  obtain ⟨v1, vs1, d1, ds1, p1, q1, rfl, rfl, rfl, h1, r1⟩ := trodAll_cons r0
  obtain ⟨rfl, rfl, rfl⟩ := trodAll_nil r1
  obtain rfl : args = #[v0, v1] := by cases args; simp_all
  obtain ⟨rfl, rfl⟩ := trodVars_none hV
  have k0 := h0
  have lt0 : ∀ x ∈ p0, x.block < W.heap.size := by obtain ⟨m, hm⟩ := k0; exact DataW.trod_lt m _ _ _ hm
  obtain ⟨cs0, rfl, hs0⟩ := okWide_struct Try.underlying24 (hval 0 24 v0 rfl rfl)
  obtain ⟨fuel0, hf0⟩ := h0
  obtain ⟨y0, fp0, ⟨_, _, rfl, ⟨e1, _⟩, _, _, rfl, ⟨e2, _⟩, va, e3, hS⟩, g0⟩ := rt24.2 _ _ _ _ _ _ _ _ _ hf0
  obtain rfl := three (cs := cs0) (by rw [hs0]; kernel_rfl) e1 e2 e3
  have k1 := h1
  have lt1 : ∀ x ∈ p1, x.block < W.heap.size := by obtain ⟨m, hm⟩ := k1; exact DataW.trod_lt m _ _ _ hm
  obtain ⟨aa1, len1, cap1, rfl⟩ := okWide_slice Try.underlying37 (hval 1 37 v1 rfl rfl)
  obtain ⟨fuel1, hf1⟩ := h1
  obtain ⟨y1, fp1, ⟨vl, hv1, hS1⟩, g1⟩ := rt37.2 _ _ _ _ _ _ _ _ _ hf1
  have hv1 : some (Value.slice aa1 len1 cap1) = some vl := hv1
  injection hv1 with hv1
  subst hv1
  clear hA0 hval0 hsz0
  refine (push_calls (lent_of hS) g0.1 g0.2 (lent_of hS1) g1).mono fun e W' he => ?_
  obtain ⟨rfl, bel⟩ := he
  exact ⟨_, rfl, _, _, _, [], _, [], hW', trodAll_mk1 (shut_bool Try.underlying4 _), (trodAll_cons_mk (Below.trod laidOut (by kernel_rfl) (of_decide_eq_true (by kernel_rfl)) k0 bel lt0) (trodAll_cons_mk (Below.trod laidOut (by kernel_rfl) (of_decide_eq_true (by kernel_rfl)) k1 bel lt1) trodAll_mk0)), rfl, bel.frame _, fun h => by cases h⟩
theorem over : Rows.fnExactPushRow.holds Try.pinned (OpenSpec.ofChange Rows.fnExactPushSpec) :=
  OpenClaim.holds_of_wide 4 Try.f4 rfl rfl rfl rfl rfl rfl rfl ⟨rfl, rfl, rfl, rfl, rfl⟩ rfl rfl rfl rfl rfl (by kernel_rfl) Try.func4 (by kernel_rfl)
    (of_decide_eq_true (by kernel_rfl)) (by unfold Func.isWrapper; first | (rw [if_pos (by decide +kernel)]; kernel_rfl) | (rw [if_neg (by decide +kernel)]; exact ⟨rfl, rfl⟩))
    (fun os started H enc _ => lifted os started H enc)
theorem proved : Rows.FnExactPushSaid := over
end Go.Proofs.Ytiflbbpbjpohaaa.fnExactPush
namespace Go.Proofs.Ytiflbbpbjpohaaa
/-- The row, under a short name, for the claim. -/
theorem fnExactPush_holds : Rows.FnExactPushSaid := fnExactPush.proved
#print axioms fnExactPush_holds
end Go.Proofs.Ytiflbbpbjpohaaa
