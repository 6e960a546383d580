/- A verified evaluator of the translated code, part 2: EvaZr, EvaZs, EvaZt, EvaZu, EvaZv, EvaZw, EvaZx, EvaZy, EvaZz, EvaZza, EvaZzb, EvaZzc, EvaZzd, EvaZze, EvaZzf, EvaZzh, EvaZzj, EvaYa, EvaYb, EvaYc, EvaK_0 -/
import Derived.Test.YtdnfgleokacddaaK1
import Derived.Orders
import Derived.Laws.StructEq
import Derived.Deep.Slices
import Derived.Shelf.RegionOpenPlain
import Derived.Lib.Walk
import Derived.Lib.SliceRun
import Derived.Lib.AppendZerosOnto
import Derived.Lib.Overlaps
import Derived.Laws.Externs
import Derived.Laws.CopyOwn
import Derived.Lib.ItoaLen
import Derived.Lib.IndexAny
import Derived.Lib.IndexMore
import Derived.Lib.Split
import Derived.WalkKit
import Derived.Test.YtdnfgleokacddaaProg
section
/- Objects come back from a call; results laid into a slot. -/
namespace Go.Eva
set_option linter.unusedVariables false
set_option linter.unusedSimpArgs false
variable {P : Program} {W : Root} {T : Tab} {Γ : Gam}

theorem begO_real : ∀ (sss : List (List Sc)) (vs : List AV) (j : Nat) (h : j < (begO sss vs).length), (begO sss vs)[j] = ⟨true, (begO sss vs)[j].cells, 0, 0⟩
  | [], vs, j, h => by simp [begO] at h
  | ss :: sss, vs, j, h => by
    cases j with
    | zero => rfl
    | succ j => exact begO_real sss _ j (by simpa [begO] using h)
theorem begO_plain : ∀ (sss : List (List Sc)) (vs : List AV), (∀ a ∈ vs, avPlain a = true) → ∀ j (h : j < (begO sss vs).length), ∀ a ∈ (begO sss vs)[j].cells, avPlain a = true
  | [], vs, _, j, h => by simp [begO] at h
  | ss :: sss, vs, hv, j, h => by
    cases j with
    | zero => exact fun a ha => hv a (List.mem_of_mem_take ha)
    | succ j => exact begO_plain sss _ (fun a ha => hv a (List.mem_of_mem_drop ha)) j (by simpa [begO] using h)
theorem ofTs_plain {ss : List Sc} (x : Ts ss) (k : Nat) (hs : ∀ s ∈ ss.drop k, scPlain s = true) : ∀ a ∈ (ofTs ss x).drop k, avPlain a = true := fun a ha => by
  obtain ⟨i, hi, rfl⟩ := List.getElem_of_mem ha
  have hl := ofTs_len ss x
  have hi' : k + i < ss.length := by rw [List.length_drop, hl] at hi; omega
  obtain ⟨a, q1, q2⟩ := ofTs_shp ss x (k + i) hi'
  have : ((ofTs ss x).drop k)[i] = a := by
    rw [List.getElem_drop]
    rw [List.getElem?_eq_getElem (by rw [hl]; exact hi')] at q1
    injection q1
  rw [this]
  exact shp_plain q2 (hs _ (by
    have e : ss[k + i] = (ss.drop k)[i]'(by rw [List.length_drop]; omega) := by rw [List.getElem_drop]
    rw [e]; exact List.getElem_mem _))

section
variable {st : St} {w : World} {tm : Array Value} {G : List Gh} {H : List Hd} {frz imm : Nat → Prop}

/-- Objects come back. -/
theorem Rep.back {HA : List Hd} (h : Rep W st w tm G HA frz imm) {ids : List Nat} {sss : List (List Sc)} {cells : List AV} (hnd : ids.Nodup) (hd : ∀ o ∈ ids, o < st.objs.length ∧ True) (hlen : sss.length = ids.length)
    {w' : World} {GR : List Gh} {HR : List Hd} {frz1 imm1 : Nat → Prop} (hR : Ifc W sss cells w' GR HR frz1 imm1) (hE : Ext w frz (lentTo G imm ids) w' frz1 imm1) (hpl : ∀ a ∈ cells, avPlain a = true)
    (hadr : ∀ (j : Nat) (h : j < ids.length) (h' : j < GR.length) (b : Nat), (ghd G ids[j]).addr = some b → (GR[j]).addr = some b) {d : Nat} (hret : ∀ x ∈ HR, avPlain x.a = true ∨ x.a = .nilp ∨ ∃ j c, x.a = .ptr j c ∧ j < ids.length) :
    CLe (ctx st G w frz imm) ⟨updL backOb Ob.none st.objs ids (begO sss cells), updL (fun _ g => g) gh0 G ids GR, w', frz1, fun y => imm y ∨ frz1 y⟩ ∧
    Rep W ⟨st.slots, updL backOb Ob.none st.objs ids (begO sss cells)⟩ w' tm (updL (fun _ g => g) gh0 G ids GR) (HR.map fun x => ⟨mapPtr ids d x.a, x.v, x.fp⟩) frz1 (fun y => imm y ∨ frz1 y) ∧
    Ext w frz imm w' frz1 (fun y => imm y ∨ frz1 y) := by
  have hGl : GR.length = ids.length := by have := hR.len; simp only [begO_len] at this; omega
  have hlenG := h.len
  have hb : (begO sss cells).length = ids.length := by rw [begO_len, hlen]
  have hi0 : ∀ b, imm b → lentTo G imm ids b := fun b k => .inl k
  have hsz := hE.size
  -- what lies where
  have oOut : ∀ o, o ∉ ids → (updL backOb Ob.none st.objs ids (begO sss cells))[o]? = st.objs[o]? := fun o ho => updL_out _ _ _ _ _ o ho
  have gOut : ∀ o, o ∉ ids → (updL (fun _ g => g) gh0 G ids GR)[o]? = G[o]? := fun o ho => updL_out _ _ _ _ _ o ho
  have oIn : ∀ j (hj : j < ids.length), (updL backOb Ob.none st.objs ids (begO sss cells))[ids[j]]? = some (backOb (st.objs[ids[j]]'(hd _ (List.getElem_mem hj)).1) ((begO sss cells)[j]'(by omega))) := fun j hj => updL_in _ _ _ _ _ hnd j hj (by omega) (hd _ (List.getElem_mem hj)).1
  have gIn : ∀ j (hj : j < ids.length), (updL (fun _ g => g) gh0 G ids GR)[ids[j]]? = some (GR[j]'(by omega)) := fun j hj => updL_in _ _ _ _ _ hnd j hj (by omega) (by have := (hd _ (List.getElem_mem hj)).1; omega)
  have hout : ∀ (o : Nat) (ho : o < G.length), o ∉ ids → ∀ b ∈ G[o].own, w'.heap[b]? = w.heap[b]? := fun o ho hno b hb => hE.same b (.inr ⟨o, ho, hno, by rw [ghd_get (List.getElem?_eq_getElem ho)]; exact hb⟩)
  have hc : CLe (ctx st G w frz imm) ⟨updL backOb Ob.none st.objs ids (begO sss cells), updL (fun _ g => g) gh0 G ids GR, w', frz1, fun y => imm y ∨ frz1 y⟩ :=
    { size := hsz
      same := fun b hb => hE.same b (hi0 b hb)
      fi := h.fi
      s := fun t b k => by cases t; exact hE.fz b k; exact .inl k
      ob := fun o ob g h1 h2 => by
        by_cases ho : o ∈ ids
        · obtain ⟨j, hj, rfl⟩ := List.getElem_of_mem ho
          have h1' : st.objs[ids[j]]? = some ob := h1
          have h2' : G[ids[j]]? = some g := h2
          refine ⟨_, _, oIn j hj, gIn j hj, ?_⟩
          have e1 : st.objs[ids[j]]'(hd _ ho).1 = ob := by rw [List.getElem?_eq_getElem (hd _ ho).1] at h1'; injection h1'
          rw [e1]
          exact { rv := Nat.le_succ _, nv := Nat.le_succ _, addr := fun b q => hadr j hj (by omega) b (by rw [ghd_get h2']; exact q), root := fun k => absurd k (by simp [backOb]), back := fun k => absurd k (by simp [backOb]), hdr := fun k => absurd k (by simp [backOb]), np := fun k => absurd k (by simp [backOb]) }
        · have h1' : st.objs[o]? = some ob := h1
          have h2' : G[o]? = some g := h2
          refine ⟨ob, g, by rw [← h1']; exact oOut o ho, by rw [← h2']; exact gOut o ho, ?_⟩
          obtain ⟨a1, a2⟩ := List.getElem?_eq_some_iff.1 h1'
          obtain ⟨b1, b2⟩ := List.getElem?_eq_some_iff.1 h2'
          have hr := h.objs o a1 b1
          rw [a2, b2] at hr
          exact ObLe'.same hr h.fi (fun b hb => hout o b1 ho b (by rw [b2]; exact hb)) (fun b hb => hE.same b (hi0 b hb)) }
  -- ownership
  have hsumR : ∀ b, ownc GR HR b = (HR.map fun h => h.fp.count b).sum + (GR.map fun g => g.own.count b).sum := fun b => rfl
  have hfpR : ∀ b, ((HR.map fun x => (⟨mapPtr ids d x.a, x.v, x.fp⟩ : Hd)).map fun h => h.fp.count b).sum = (HR.map fun h => h.fp.count b).sum := fun b => by rw [List.map_map]; rfl
  have hsel : ∀ b, (ids.map fun o => (ghd (updL (fun _ g => g) gh0 G ids GR) o).own.count b) = GR.map fun g => g.own.count b := fun b => by
    apply List.ext_getElem (by simp [hGl])
    intro j q1 q2
    simp only [List.getElem_map]
    rw [ghd_get (gIn j (by simpa using q1))]
  have hlenG4 : (updL (fun _ g => g) gh0 G ids GR).length = G.length := updL_len _ _ _ _ _
  have hcase : ∀ b, ownc (updL (fun _ g => g) gh0 G ids GR) (HR.map fun x => ⟨mapPtr ids d x.a, x.v, x.fp⟩) b ≤ ownc GR HR b ∨
      (imm1 b ∧ (∃ o, o < G.length ∧ o ∉ ids ∧ b ∈ (ghd G o).own) ∧ ownc (updL (fun _ g => g) gh0 G ids GR) (HR.map fun x => ⟨mapPtr ids d x.a, x.v, x.fp⟩) b ≤ ownc G HA b) := fun b => by
    by_cases hex : ∃ o, o < G.length ∧ o ∉ ids ∧ b ∈ (ghd G o).own
    · right
      have h0 : imm1 b := hE.im b (.inr hex)
      have hz := hR.apart b h0
      rw [hsumR] at hz
      refine ⟨h0, hex, ?_⟩
      rw [ownc_ghd, ownc_ghd, hfpR, hlenG4]
      have : ((List.range G.length).map fun o => (ghd (updL (fun _ g => g) gh0 G ids GR) o).own.count b).sum ≤ ((List.range G.length).map fun o => (ghd G o).own.count b).sum := by
        have hle : ∀ o, (ghd (updL (fun _ g => g) gh0 G ids GR) o).own.count b ≤ (ghd G o).own.count b := fun o => by
          by_cases ho : o ∈ ids
          · obtain ⟨j, hj, rfl⟩ := List.getElem_of_mem ho
            rw [ghd_get (gIn j hj)]
            have : (GR[j]'(by omega)).own.count b ≤ (GR.map fun g => g.own.count b).sum := le_sum_mem (List.mem_map.2 ⟨_, List.getElem_mem _, rfl⟩)
            omega
          · have : ghd (updL (fun _ g => g) gh0 G ids GR) o = ghd G o := by simp only [ghd, List.getD_eq_getElem?_getD, gOut o ho]
            rw [this]; exact Nat.le_refl _
        have mono : ∀ L : List Nat, (L.map fun o => (ghd (updL (fun _ g => g) gh0 G ids GR) o).own.count b).sum ≤ (L.map fun o => (ghd G o).own.count b).sum := fun L => by
          induction L with
          | nil => simp
          | cons x xs ih => simp only [List.map_cons, List.sum_cons]; have := hle x; omega
        exact mono _
      omega
    · left
      rw [ownc_ghd, hfpR, hlenG4, hsumR, ← hsel]
      have := out_le (fun o => (ghd (updL (fun _ g => g) gh0 G ids GR) o).own.count b) G.length ids hnd (fun o ho => by rw [hlenG]; exact (hd o ho).1) (fun o ho hno => by
        have e : ghd (updL (fun _ g => g) gh0 G ids GR) o = ghd G o := by simp only [ghd, List.getD_eq_getElem?_getD, gOut o hno]
        rw [e]
        exact List.count_eq_zero.2 (fun q => hex ⟨o, ho, hno, q⟩))
      omega
  -- cells of the answer
  have mv : ∀ {a : AV} {v : Value} {fp : List Nat}, avPlain a = true → RC ⟨begO sss cells, GR, w', frz1, imm1⟩ a v fp → RC ⟨updL backOb Ob.none st.objs ids (begO sss cells), updL (fun _ g => g) gh0 G ids GR, w', frz1, fun y => imm y ∨ frz1 y⟩ a v fp := fun hp hr =>
    RC.move hr (avPlain.loose hp) (Nat.le_refl _) (fun _ _ => rfl) (fun t b hu hb => by
      have := avPlain.uses hp hu
      subst this
      exact ⟨hb, rfl⟩)
  refine ⟨hc, {
    base := by
      have h1 := hR.base
      exact h1
    fi := fun b hb => .inr hb
    lo := fun b hb => hE.fz b (h.lo b hb)
    ilt := fun b hb => hb.elim (fun k => Nat.lt_of_lt_of_le (h.ilt b k) hsz) (fun k => hR.ilt b (hR.fi b k))
    len := by rw [hlenG4, hlenG]; exact (updL_len _ _ _ _ _).symm
    sl := by simp only [updL_len]; exact h.sl
    objs := fun o h1 h2 => ?_
    slots := fun s hs => (h.slots s hs).le hc h.len
    tms := h.tms
    held := fun x hx => ?_
    one := fun b => ?_
    apart := fun b hb => ?_
    olt := fun b hb => ?_
    pin := fun p hp => ?_ }, ⟨hsz, fun b hb => hE.same b (hi0 b hb), hE.fz, fun b hb => .inl hb, fun b hb => (hE.new b hb).imp id (fun k q => k (hi0 b q))⟩⟩
  · simp only [updL_len] at h1
    have h2' : o < G.length := by rw [hlenG]; exact h1
    by_cases ho : o ∈ ids
    · obtain ⟨j, hj, rfl⟩ := List.getElem_of_mem ho
      have e1 := oIn j hj
      have e2 := gIn j hj
      rw [List.getElem?_eq_getElem (by rw [updL_len]; exact h1)] at e1
      rw [List.getElem?_eq_getElem h2] at e2
      injection e1 with e1
      injection e2 with e2
      simp only [e1, e2]
      obtain ⟨r1, r2, r3, r4, r5⟩ := hR.objs j (by simp only; omega) (by omega)
      refine ⟨r1, r2, fun i x y z => ?_, fun _ => ?_, fun k => by cases k⟩
      · exact mv (begO_plain sss cells hpl j (by omega) _ (List.getElem_mem x)) (r3 i x y z)
      · have := begO_real sss cells j (by omega)
        exact r4 (by simp only; rw [this])
    · have e1 := oOut o ho
      have e2 := gOut o ho
      rw [List.getElem?_eq_getElem (by rw [updL_len]; exact h1), List.getElem?_eq_getElem h1] at e1
      rw [List.getElem?_eq_getElem h2, List.getElem?_eq_getElem h2'] at e2
      injection e1 with e1
      injection e2 with e2
      simp only [e1, e2]
      obtain ⟨r1, r2, r3, r4, r5⟩ := h.objs o h1 h2'
      refine ⟨r1, r2, fun i x y z => (r3 i x y z).le hc h.len (fun b hb => hout o h2' ho b (Gh.mem_fps z hb)), fun hre => ?_, r5⟩
      obtain ⟨b, e, q1, q2⟩ := r4 hre
      exact ⟨b, e, q1, (hout o h2' ho b (by simp [Gh.own, q1])).trans q2⟩
  · obtain ⟨y, hy, rfl⟩ := List.mem_map.1 hx
    have rc := hR.held y hy
    rcases hret y hy with q | q | ⟨j, c, q, hj⟩
    · have : mapPtr ids d y.a = y.a := by
        generalize y.a = a at q
        cases a <;> first | rfl | cases q
      simp only [this]
      exact mv q rc
    · simp only [q, mapPtr]
      rw [q] at rc
      exact rc
    · simp only [q, mapPtr]
      rw [q] at rc
      obtain ⟨r1, g, b, r2, r3, r4⟩ := rc
      refine ⟨r1, g, b, ?_, r3, r4⟩
      rw [List.getD_eq_getElem?_getD, List.getElem?_eq_getElem hj]
      have r2 : GR[j]? = some g := r2
      rw [List.getElem?_eq_getElem (by omega)] at r2
      injection r2 with r2
      rw [← r2]
      exact gIn j hj
  · rcases hcase b with q | ⟨_, _, q⟩
    · exact Nat.le_trans q (hR.one b)
    · exact Nat.le_trans q (h.one b)
  · rcases hcase b with q | ⟨q0, hex, q⟩
    · have : imm1 b := by
        rcases hb with hb | hb
        · exact hE.im b (hi0 b hb)
        · exact hR.fi b hb
      have := hR.apart b this
      omega
    · have hi : imm b := by
        rcases hb with hb | hb
        · exact hb
        · rcases hE.new b hb with k | k
          · exact h.fi b k
          · exact absurd (.inr hex) k
      have := h.apart b hi
      omega
  · rcases hcase b with q | ⟨q0, hex, q⟩
    · exact hR.olt b (by omega)
    · exact Nat.lt_of_lt_of_le (h.olt b (by omega)) hsz
  · obtain ⟨q0, g, q1, q2⟩ := h.pin p hp
    refine ⟨q0, ?_⟩
    by_cases ho : p.1 ∈ ids
    · obtain ⟨j, hj, e⟩ := List.getElem_of_mem ho
      refine ⟨GR[j]'(by omega), by rw [← e]; exact gIn j hj, ?_⟩
      exact hadr j hj (by omega) _ (by rw [e, ghd_get q1]; exact q2)
    · exact ⟨g, by rw [gOut _ ho]; exact q1, q2⟩
end
end Go.Eva
end
section
/- Calls. -/
namespace Go.Eva
set_option linter.unusedVariables false
set_option linter.unusedSimpArgs false
variable {P : Program} {W : Root} {T : Tab} {Γ : Gam}

/-- Cells placed in a slot: whole slices lie in the slot's own object. -/
def plc (d rv nv : Nat) : Nat → List AV → List AV
  | _, [] => []
  | j, v :: r => if ownC v = true then .sr d j none rv nv none :: plc d rv nv (j + 1) r else v :: plc d rv nv j r
theorem plc_len (d rv nv : Nat) : ∀ (j : Nat) (vs : List AV), (plc d rv nv j vs).length = vs.length
  | _, [] => rfl
  | j, v :: r => by
    simp only [plc]
    split <;> simp [plc_len d rv nv]
theorem slotC_eq (d rv nv : Nat) (ids : List Nat) : ∀ (j : Nat) (vs : List AV), slotC d rv nv ids j vs = plc d rv nv j (vs.map (mapPtr ids d))
  | _, [] => rfl
  | j, v :: r => by
    cases v with
    | sl m e κ l =>
      simp only [slotC, List.map_cons, mapPtr, plc]
      by_cases hm : isOwn m = true
      · rw [if_pos hm, if_pos (show ownC (.sl m e κ l) = true from hm), slotC_eq d rv nv ids]
      · rw [if_neg hm, if_neg (show ¬ ownC (.sl m e κ l) = true from hm), slotC_eq d rv nv ids]
    | _ => simp only [slotC, List.map_cons, mapPtr, plc, ownC, slotC_eq d rv nv ids]; rfl
theorem argA_eq (i : Nat) : ∀ (j : Nat) (vs : List AV), argA i j vs = plc i 1 1 j vs
  | _, [] => rfl
  | j, v :: r => by
    cases v with
    | sl m e κ l =>
      simp only [argA, plc]
      by_cases hm : isOwn m = true
      · rw [if_pos hm, if_pos (show ownC (.sl m e κ l) = true from hm), argA_eq i]
      · rw [if_neg hm, if_neg (show ¬ ownC (.sl m e κ l) = true from hm), argA_eq i]
    | _ => simp only [argA, plc, ownC, argA_eq i]; rfl

theorem plc_R0 {C : Ctx} {d : Nat} {ob : Ob} {g : Gh} (ho : C.objs[d]? = some ob) (hg : C.G[d]? = some g) {rv nv : Nat} (hrv : rv = ob.rv) (hnv : nv = ob.nv) : ∀ (Hs : List Hd) (j : Nat), ob.cells.drop j = (Hs.filter fun x => ownC x.a).map (·.a) → g.hd.drop j = (Hs.filter fun x => ownC x.a).map (·.v) →
    (∀ x ∈ Hs, RC C x.a x.v x.fp ∧ isNapp x.a = false) → ∀ i (h : i < (plc d rv nv j (Hs.map (·.a))).length) (h' : i < Hs.length), R0 C (plc d rv nv j (Hs.map (·.a)))[i] Hs[i].v
  | [], j, _, _, _, i, h, h' => by cases h'
  | x :: Hs, j, hc, hh, hx, i, h, h' => by
    obtain ⟨rc, hnp⟩ := hx x List.mem_cons_self
    by_cases hown : ownC x.a = true
    · have e : plc d rv nv j ((x :: Hs).map (·.a)) = .sr d j none rv nv none :: plc d rv nv (j + 1) (Hs.map (·.a)) := by simp only [List.map_cons, plc, if_pos hown]
      simp only [e]
      rw [List.filter_cons_of_pos (p := fun x : Hd => ownC x.a) hown, List.map_cons] at hc hh
      have hcj : ob.cells[j]? = some x.a := by
        have := congrArg (·[0]?) hc
        simpa using this
      have hhj : g.hd[j]? = some x.v := by
        have := congrArg (·[0]?) hh
        simpa using this
      cases i with
      | zero =>
        obtain ⟨a, v, fp⟩ := x
        simp only at rc hown hcj hhj
        cases a with
        | sl m e' κ l =>
          refine ⟨RC.val rc, ob, g, ho, hg, by omega, by omega, fun _ => ⟨m, e', κ, l, v, ?_, hhj, rfl⟩⟩
          rw [List.getD_eq_getElem?_getD, hcj]; rfl
        | _ => cases hown
      | succ i =>
        refine plc_R0 ho hg hrv hnv Hs (j + 1) ?_ ?_ (fun y hy => hx y (List.mem_cons_of_mem _ hy)) i _ (by simpa using h')
        · have := congrArg List.tail hc
          simpa [List.tail_drop] using this
        · have := congrArg List.tail hh
          simpa [List.tail_drop] using this
    · have e : plc d rv nv j ((x :: Hs).map (·.a)) = x.a :: plc d rv nv j (Hs.map (·.a)) := by simp only [List.map_cons, plc, if_neg hown]
      simp only [e]
      rw [List.filter_cons_of_neg (p := fun x : Hd => ownC x.a) hown] at hc hh
      cases i with
      | zero =>
        obtain ⟨a, v, fp⟩ := x
        simp only at rc hown hnp
        simp only [List.getElem_cons_zero]
        cases a with
        | sl m e κ l =>
          cases m with
          | imm b => exact rc.2
          | own => exact absurd rfl hown
          | mix b => exact absurd rfl hown
        | napp => cases hnp
        | _ => exact rc.2
      | succ i => exact plc_R0 ho hg hrv hnv Hs j hc hh (fun y hy => hx y (List.mem_cons_of_mem _ hy)) i _ (by simpa using h')

section
variable {st : St} {w : World} {tm : Array Value} {G : List Gh} {H : List Hd} {frz imm : Nat → Prop}

theorem Rep.drops {Hs : List Hd} (h : Rep W st w tm G (Hs ++ H) frz imm) : Rep W st w tm G H frz imm := by
  induction Hs with
  | nil => exact h
  | cons x Hs ih => exact ih h.drop

theorem filter_fps (p : Hd → Bool) (b : Nat) : ∀ Hs : List Hd, (((Hs.filter p).map (·.fp)).flatten).count b ≤ ((Hs.map (·.fp)).flatten).count b
  | [] => by simp
  | x :: Hs => by
    have := filter_fps p b Hs
    rw [List.filter_cons]
    split
    · simp only [List.map_cons, List.flatten_cons, List.count_append]; omega
    · simp only [List.map_cons, List.flatten_cons, List.count_append]; omega

/-- What is held is laid into a slot. -/
theorem place_run {Hs : List Hd} (h : Rep W st w tm G (Hs ++ H) frz imm) (hn : ∀ x ∈ Hs, isNapp x.a = false) {d : Nat} (hreal : (st.objs.getD d Ob.none).real = false) {av : AV} {v : Value}
    (hval : ∀ C : Ctx, (∀ i (h1 : i < (plc d ((st.objs.getD d Ob.none).rv + 1) ((st.objs.getD d Ob.none).nv + 1) 0 (Hs.map (·.a))).length) (h2 : i < Hs.length), R0 C (plc d ((st.objs.getD d Ob.none).rv + 1) ((st.objs.getD d Ob.none).nv + 1) 0 (Hs.map (·.a)))[i] Hs[i].v) → R2 C av v) :
    ∃ G', Rep W ⟨st.slots.set d av, st.objs.set d ⟨false, (Hs.map (·.a)).filter ownC, (st.objs.getD d Ob.none).rv + 1, (st.objs.getD d Ob.none).nv + 1⟩⟩ w (tm.setIfInBounds d v) G' H frz imm := by
  by_cases hd : d < st.objs.length
  · have hob : st.objs.getD d Ob.none = st.objs[d] := by rw [List.getD_eq_getElem?_getD, List.getElem?_eq_getElem hd]; rfl
    rw [hob] at hreal hval ⊢
    have hG : d < G.length := by rw [h.len]; exact hd
    obtain ⟨r1, r2, r3, r4, r5⟩ := h.objs d hd hG
    have efl : (Hs.map (·.a)).filter ownC = (Hs.filter fun x => ownC x.a).map (·.a) := List.filter_map ..
    rw [efl]
    have hcnt : ∀ b, ownc (G.set d ⟨none, (Hs.filter fun x => ownC x.a).map (·.v), (Hs.filter fun x => ownC x.a).map (·.fp)⟩) H b ≤ ownc G (Hs ++ H) b := by
      intro b
      have a1 := ownc_set G H d ⟨none, (Hs.filter fun x => ownC x.a).map (·.v), (Hs.filter fun x => ownC x.a).map (·.fp)⟩ hG b
      have a2 := ownc_app G Hs H b
      have a3 : (Gh.own ⟨none, (Hs.filter fun x => ownC x.a).map (·.v), (Hs.filter fun x => ownC x.a).map (·.fp)⟩).count b = (((Hs.filter fun x => ownC x.a).map (·.fp)).flatten).count b := by simp [Gh.own]
      have a4 := filter_fps (fun x => ownC x.a) b Hs
      omega
    obtain ⟨k1, k2⟩ := h.upd d ⟨false, (Hs.filter fun x => ownC x.a).map (·.a), st.objs[d].rv + 1, st.objs[d].nv + 1⟩ ⟨none, (Hs.filter fun x => ownC x.a).map (·.v), (Hs.filter fun x => ownC x.a).map (·.fp)⟩ w H frz imm hd h.base
      (Nat.le_refl _) h.fi (fun _ h => h) (fun _ h => h) h.ilt (fun _ _ => rfl) (fun _ _ _ _ _ => rfl)
      (fun _ => { rv := Nat.le_succ _, nv := Nat.le_succ _, addr := fun b hb => (by rw [r5 hreal] at hb; cases hb), root := fun k => absurd k (by simp), back := fun k => absurd k (by simp), hdr := fun k => absurd k (by simp), np := fun k => absurd k (by simp) })
      (fun hc => ⟨by simp, by simp, fun i x y z => (by
        simp only at x ⊢
        have hx : i < (Hs.filter fun x => ownC x.a).length := by simpa using x
        have hm : (Hs.filter fun x => ownC x.a)[i] ∈ Hs := (List.mem_filter.1 (List.getElem_mem hx)).1
        have := (h.held _ (List.mem_append_left _ hm)).le hc h.len (fun _ _ => rfl)
        simpa using this), fun k => (by cases k), fun _ => rfl⟩)
      (fun hc x hx => (h.held x (List.mem_append_right _ hx)).le hc h.len (fun _ _ => rfl))
      (fun b => Nat.le_trans (hcnt b) (h.one b)) (fun b hb => by have := hcnt b; have := h.apart b hb; omega) (fun b hb => h.olt b (by have := hcnt b; omega))
    refine ⟨G.set d ⟨none, (Hs.filter fun x => ownC x.a).map (·.v), (Hs.filter fun x => ownC x.a).map (·.fp)⟩, Rep.put (st := ⟨st.slots, st.objs.set d _⟩) k2 d _ v (hval _ fun i h1 h2 => ?_)⟩
    refine plc_R0 (ob := ⟨false, (Hs.filter fun x => ownC x.a).map (·.a), st.objs[d].rv + 1, st.objs[d].nv + 1⟩) (g := ⟨none, (Hs.filter fun x => ownC x.a).map (·.v), (Hs.filter fun x => ownC x.a).map (·.fp)⟩) (by simp [hd]) (by simp [hG]) rfl rfl Hs 0 (by rw [List.drop_zero]) (by rw [List.drop_zero]) (fun x hx => ⟨?_, hn x hx⟩) i h1 h2
    exact (h.held x (List.mem_append_left _ hx)).le k1 h.len (fun _ _ => rfl)
  · have e1 : ∀ x, st.objs.set d x = st.objs := fun x => List.set_eq_of_length_le (Nat.le_of_not_lt hd)
    have e2 : ∀ x, st.slots.set d x = st.slots := fun x => List.set_eq_of_length_le (Nat.le_trans h.sl (Nat.le_of_not_lt hd))
    rw [e1, e2, set_noop _ _ _ (by rw [← h.tms]; exact Nat.le_trans h.sl (Nat.le_of_not_lt hd))]
    exact ⟨G, h.drops⟩
end

theorem shape_rel {C : Ctx} : ∀ (shps : List Shp) (cs : List AV) (us : List Value), us.length = cs.length → cs.length = (flats shps).length → (∀ i (h : i < cs.length) (h' : i < us.length), R0 C cs[i] us[i]) →
    (shape1 shps cs).length = shps.length ∧ (shV shps us).length = shps.length ∧ ∀ i (h : i < (shape1 shps cs).length) (h' : i < (shV shps us).length), R1 C (shape1 shps cs)[i] (shV shps us)[i]
  | [], cs, us, _, _, _ => ⟨rfl, rfl, fun i h => by cases h⟩
  | .one s :: shps, [], us, h1, h2, hr => by simp [flats, Shp.fl] at h2
  | .one s :: shps, c :: cs, [], h1, h2, hr => by cases h1
  | .one s :: shps, c :: cs, u :: us, h1, h2, hr => by
    obtain ⟨q1, q2, q3⟩ := shape_rel shps cs us (by simpa using h1) (by simp [flats, Shp.fl] at h2; exact h2) (fun i x y => hr (i + 1) (by simpa using x) (by simpa using y))
    refine ⟨congrArg (· + 1) q1, congrArg (· + 1) q2, fun i x y => ?_⟩
    cases i with
    | zero => exact (hr 0 (by simp) (by simp)).R1
    | succ i => exact q3 i (by simpa [shape1] using x) (by simpa [shV] using y)
  | .agg ss :: shps, cs, us, h1, h2, hr => by
    have hc : ss.length ≤ cs.length := by rw [h2]; simp [flats, Shp.fl]
    obtain ⟨q1, q2, q3⟩ := shape_rel shps (cs.drop ss.length) (us.drop ss.length) (by simp [h1]) (by simp [h2, flats, Shp.fl]) (fun i x y => by
      have := hr (ss.length + i) (by simp at x; omega) (by simp at y; omega)
      simpa using this)
    refine ⟨by simp [shape1, q1], by simp [shV, q2], fun i x y => ?_⟩
    cases i with
    | zero =>
      simp only [shape1, shV, List.getElem_cons_zero]
      refine ⟨us.take ss.length, rfl, by simp [h1], fun j a b => ?_⟩
      simp only [List.getElem_take]
      exact hr j (by simp at a; omega) (by simp at b; omega)
    | succ i =>
      have := q3 i (by simpa [shape1] using x) (by simpa [shV] using y)
      simpa [shape1, shV] using this
theorem retV_rel {C : Ctx} {azs : List AV} {vs : List Value} (hl : vs.length = azs.length) (h : ∀ i (h : i < azs.length) (h' : i < vs.length), R1 C azs[i] vs[i]) : R2 C (retV azs) (retVal vs) := by
  match azs, vs with
  | [], [] => exact ⟨[], rfl, rfl, fun i h => by cases h⟩
  | [a], [v] => exact (h 0 (by simp) (by simp)).R2
  | a :: b :: azs, v :: u :: vs => exact ⟨v :: u :: vs, rfl, hl, h⟩
  | [], _ :: _ => cases hl
  | _ :: _, [] => cases hl
  | [_], _ :: _ :: _ => cases hl
  | _ :: _ :: _, [_] => cases hl

theorem map_own (ids : List Nat) (d : Nat) : ∀ vs : List AV, (vs.map (mapPtr ids d)).filter ownC = vs.filter ownC
  | [] => rfl
  | v :: vs => by
    rw [List.map_cons, List.filter_cons, List.filter_cons, map_own ids d vs]
    cases v <;> rfl

theorem begO_take : ∀ (n : Nat) (sss : List (List Sc)) (vs : List AV), begO (sss.take n) vs = (begO sss vs).take n
  | 0, sss, vs => by simp [begO]
  | n + 1, [], vs => rfl
  | n + 1, ss :: sss, vs => by simp only [List.take_succ_cons, begO, begO_take n sss]
theorem updL_take {α β : Type} (f : α → β → α) (d : α) : ∀ (xs : List α) (is : List Nat) (ys : List β), updL f d xs is (ys.take is.length) = updL f d xs is ys
  | xs, [], ys => by simp only [updL]
  | xs, i :: is, [] => rfl
  | xs, i :: is, y :: ys => by simp only [List.length_cons, List.take_succ_cons, updL, updL_take f d _ is ys]

/-- Of what is handed back the last objects are left. -/
theorem Rep.first {W0 : World} {O : List Ob} {w : World} {G : List Gh} {frz imm : Nat → Prop} (h : Rep ⟨W0, []⟩ ⟨[], O⟩ w #[] G [] frz imm) (hO : ∀ ob ∈ O, ∀ a ∈ ob.cells, avPlain a = true) (n : Nat) : Rep ⟨W0, []⟩ ⟨[], O.take n⟩ w #[] (G.take n) [] frz imm := by
  have hown : ∀ b, ownc (G.take n) [] b ≤ ownc G [] b := fun b => by
    unfold ownc
    have : (G.map fun g => g.own.count b).sum = ((G.take n).map fun g => g.own.count b).sum + ((G.drop n).map fun g => g.own.count b).sum := by
      rw [← List.sum_append, ← List.map_append, List.take_append_drop]
    simp only [List.map_nil, List.sum_nil]
    omega
  have hlen : G.length = O.length := h.len
  exact {
    base := h.base
    fi := h.fi
    lo := h.lo
    ilt := h.ilt
    len := by simp [hlen]
    sl := by simp
    objs := fun o h1 h2 => by
      have ho : o < O.length := by simp at h1; omega
      simp only [List.getElem_take]
      obtain ⟨r1, r2, r3, r4, r5⟩ := h.objs o ho (by omega)
      exact ⟨r1, r2, fun i x y z => RC.move (r3 i x y z) (avPlain.loose (hO _ (List.getElem_mem ho) _ (List.getElem_mem x))) (Nat.le_refl _) (fun _ _ => rfl) (fun t b _ hb => ⟨by cases t; exact hb; exact hb, rfl⟩), r4, r5⟩
    slots := fun s hs => by simp at hs
    tms := rfl
    held := fun x hx => by cases hx
    one := fun b => Nat.le_trans (hown b) (h.one b)
    apart := fun b hb => by have := hown b; have := h.apart b hb; omega
    olt := fun b hb => h.olt b (Nat.le_trans hb (hown b))
    pin := fun p hp => by cases hp }

/-- A call by its contract. -/
theorem call_wp {con : Con} {f : FuncId} (hg : Good P W.toWorld f con) {o : Oper} {a : Act} {args : List Value} {st : St} {w : World} {G : List Gh} {frz imm : Nat → Prop} {avs : List AV} {st' : St} (hrep : Rep W st w a.tmps G [] frz imm)
    (hr : (conP con avs o.dst).run st = some ((), st')) (hl : args.length = avs.length) (hv : ∀ i (h : i < avs.length) (h' : i < args.length), R2 (ctx st G w frz imm) avs[i] args[i])
    (hx : (execOp a.eval o).run P w = .ok (.enter f args.toArray) w) : ∀ next Q, (∀ w' tm' G' frz' imm', Rep W st' w' tm' G' [] frz' imm' → Ext w frz imm w' frz' imm' → next ⟨tm', a.defers⟩ w') → o.wp P a w next Q := by
  intro next Q hn
  unfold Oper.wp
  rw [hx, Oper.upon_enter]
  obtain ⟨x, rr, st3, G3, HA, HO, HA', f3, i3, ids, q1, q2, q3, q4, q5, q6, q7, q8, q9, q10, q11, q12, q13⟩ := conP_run hrep hr hl hv hg.ok
  rw [q3]
  refine Calls.mono (hg.run x rr q1 w _ HA' f3 _ q13 q4) (fun e w' hp => ?_)
  obtain ⟨v, rfl, GR, HR, f4, i4, p1, p2, p3, p4, p5⟩ := hp
  simp only
  have hok := hg.ok
  simp only [conOk, Bool.and_eq_true, List.all_eq_true, decide_eq_true_eq] at hok
  obtain ⟨o1, o2, o3, o4, o5, o6⟩ := hok
  unfold retP at q2
  obtain ⟨sss', vs', b1, b2, ⟨l0, b3, b4⟩, b5⟩ := backO_run q2
  have hlG : GR.length = con.outs.length := by have := p1.len; simp only [begO_len] at this; exact this
  have hgl := ghO_len G3 w ids con.objs HO q12
  have hrl := ofTs_len _ rr
  have hHRl : HR.length = (flats con.rets).length := by
    have := congrArg List.length p2
    simpa [hrl] using this
  have hpl : ∀ a ∈ (ofTs _ rr).drop (flats con.rets).length, avPlain a = true := ofTs_plain rr _ (fun s hs => o3 s (by rw [List.drop_left] at hs; exact hs))
  have hret : ∀ x ∈ HR, avPlain x.a = true ∨ x.a = .nilp ∨ ∃ j c, x.a = .ptr j c ∧ j < con.outs.length := fun y hy => by
    obtain ⟨i, hi, rfl⟩ := List.getElem_of_mem hy
    have hi' : i < (flats con.rets).length := by omega
    have hi2 : i < (flats con.rets ++ flat2 con.outs).length := by simp; omega
    obtain ⟨a', z1, z2⟩ := ofTs_shp _ rr i hi2
    have e : HR[i].a = a' := by
      have := congrArg (·[i]?) p2
      simp only [List.getElem?_map, List.getElem?_eq_getElem hi, List.getElem?_take, if_pos hi', z1] at this
      injection this
    rw [e]
    rw [List.getElem_append_left hi'] at z2
    have hs := o4 _ (List.getElem_mem hi')
    generalize (flats con.rets)[i] = s at z2 hs
    cases s with
    | ptr j c => exact .inr (.inr ⟨j, c, z2, of_decide_eq_true hs⟩)
    | nilp => exact .inr (.inl z2)
    | ep j c k => cases hs
    | fn f caps => cases hs
    | int k => exact .inl (shp_plain z2 rfl)
    | bool => exact .inl (shp_plain z2 rfl)
    | str => exact .inl (shp_plain z2 rfl)
    | sl m e κ => exact .inl (shp_plain z2 hs)
  have hadr0 : ∀ (j : Nat) (hj : j < ids.length) (hj' : j < GR.length) (b : Nat), (ghd G3 ids[j]).addr = some b → (GR[j]).addr = some b := fun j hj hj' b hb => by
    obtain ⟨g, z1, z2⟩ := ghO_addr G3 w ids con.objs HO q12 j hj
    obtain ⟨g', z3, z4⟩ := p4 j g (by omega) z1
    rw [List.getElem?_eq_getElem hj'] at z3
    injection z3 with z3
    rw [z3, z4, z2, hb]
  have q7' : Rep W st3 w a.tmps G3 [] f3 i3 := Rep.drops (Hs := HA ++ HO) (H := []) (by rw [List.append_nil]; exact q7)
  have q11' : ∀ o ∈ ids, o < st3.objs.length ∧ True := fun o ho => ⟨(q11 o ho).1, trivial⟩
  have hsh : ∀ (C : Ctx) (cs : List AV), cs.length = HR.length → (∀ i (h1 : i < cs.length) (h2 : i < HR.length), R0 C cs[i] HR[i].v) → R2 C (retV (shape1 con.rets cs)) v := fun C cs hcl hC => by
    rw [p3]
    obtain ⟨k1, k2, k3⟩ := shape_rel (C := C) con.rets cs (HR.map (·.v)) (by rw [hcl]; simp) (by omega) (fun i x y => by
      have := hC i x (by simpa using y)
      simpa using this)
    exact retV_rel (by rw [k1, k2]) k3
  have hemap : ∀ d, (HR.map fun x => (⟨mapPtr ids d x.a, x.v, x.fp⟩ : Hd)).map (·.a) = ((ofTs _ rr).take (flats con.rets).length).map (mapPtr ids d) := fun d => by
    rw [← p2, List.map_map, List.map_map]; rfl
  cases hd : o.dst with
  | none => rw [hd] at b1; cases b1
  | some d =>
    rw [hd] at b1
    simp only at b1
    rw [run_obj] at b1
    simp only at b1
    match sss', b1, b2, b4, b5 with
    | [], b1, b2, b4, b5 =>
      simp only at b1
      split at b1
      · rename_i hreal
        rw [run_setObj, run_setSlot] at b1
        injection b1 with b1
        injection b1 with _ b1
        have hlo : con.outs.length = ids.length := by simp at b2; omega
        obtain ⟨c1, c2, c3⟩ := Rep.back (HA := []) (d := d) q7' q9 q11' hlo p1 p5 hpl hadr0 (fun y hy => by rw [← hlo]; exact hret y hy)
        have hplace := place_run (H := []) (d := d) (Hs := HR.map fun x => ⟨mapPtr ids d x.a, x.v, x.fp⟩) (by rw [List.append_nil]; exact c2) (fun y hy => ?_) hreal (av := retV (shape1 con.rets (plc d ((((updL backOb Ob.none st3.objs ids (begO con.outs ((ofTs _ rr).drop (flats con.rets).length))).getD d Ob.none).rv) + 1) ((((updL backOb Ob.none st3.objs ids (begO con.outs ((ofTs _ rr).drop (flats con.rets).length))).getD d Ob.none).nv) + 1) 0 ((HR.map fun x => (⟨mapPtr ids d x.a, x.v, x.fp⟩ : Hd)).map (·.a))))) (v := v) (fun C hC => ?_)
        · obtain ⟨G5, z⟩ := hplace
          rw [hemap, map_own] at z
          have := hn w' (a.tmps.setIfInBounds d v) G5 f4 (fun y => i3 y ∨ f4 y) (by
            rw [← b1]
            simp only [slotC_eq]
            exact z) (q8.trans c3)
          exact this
        · obtain ⟨x', _, rfl⟩ := List.mem_map.1 hy
          simp only
          rcases hret x' (by assumption) with q | q | ⟨j, c, q, _⟩
          · generalize x'.a = a' at q
            cases a' <;> first | rfl | cases q
          · rw [q]; rfl
          · rw [q]; rfl
        · exact hsh C _ (by rw [plc_len]; simp) (fun i h1 h2 => by
            have := hC i h1 (by simpa using h2)
            simpa using this)
      · cases b1
    | [ss], b1, b2, b4, b5 =>
      simp only at b1
      split at b1
      · rename_i hcond
        obtain ⟨hreal, hempty, hnown⟩ := hcond
        rw [run_setObj, run_setSlot] at b1
        injection b1 with b1
        injection b1 with _ b1
        have hlo : con.outs.length = ids.length + 1 := by simp at b2; omega
        have hdn : d ∉ ids := fun k => by
          obtain ⟨j, hj, e⟩ := List.getElem_of_mem k
          have := updL_in backOb Ob.none st3.objs ids (begO con.outs ((ofTs _ rr).drop (flats con.rets).length)) q9 j hj (by rw [begO_len]; omega) (q11 _ (List.getElem_mem hj)).1
          subst e
          rw [List.getD_eq_getElem?_getD, this] at hreal
          cases hreal
        have hod : (updL backOb Ob.none st3.objs ids (begO con.outs ((ofTs _ rr).drop (flats con.rets).length))).getD d Ob.none = st3.objs.getD d Ob.none := by
          rw [List.getD_eq_getElem?_getD, updL_out _ _ _ _ _ d hdn, List.getD_eq_getElem?_getD]
        have hcl0 : (st3.objs.getD d Ob.none).cells = [] := List.eq_nil_of_length_eq_zero (by rw [← hod]; exact hempty)
        have hre0 : (st3.objs.getD d Ob.none).real = false := by rw [← hod]; exact hreal
        have hvs : vs'.length = ss.length := by
          have := b5 (by rw [List.length_drop, hrl]; simp)
          simpa [flat2] using this
        have hbeg : begO con.outs ((ofTs _ rr).drop (flats con.rets).length) = l0 ++ [⟨true, vs', 0, 0⟩] := by
          rw [b4]
          simp only [begO]
          rw [List.take_of_length_le (by omega)]
        -- a slot that holds no slice of its own
        have hslot : ∀ ids', slotC d (st3.objs.getD d Ob.none).rv (st3.objs.getD d Ob.none).nv ids' 0 ((ofTs _ rr).take (flats con.rets).length) = ((ofTs _ rr).take (flats con.rets).length).map (mapPtr ids' d) := fun ids' => by
          rw [slotC_eq]
          have key : ∀ (vs : List AV) (j : Nat), (∀ a ∈ vs, ownC a = false) → plc d (st3.objs.getD d Ob.none).rv (st3.objs.getD d Ob.none).nv j vs = vs := by
            intro vs
            induction vs with
            | nil => exact fun _ _ => rfl
            | cons a vs ih =>
              intro j ha
              simp only [plc]
              rw [if_neg (by rw [ha a List.mem_cons_self]; simp), ih j (fun b hb => ha b (List.mem_cons_of_mem _ hb))]
          refine key _ 0 (fun a ha => ?_)
          obtain ⟨b, hb, rfl⟩ := List.mem_map.1 ha
          have h0 : ownC b = false := by
            cases hob : ownC b with
            | false => rfl
            | true =>
              have hnown : (((ofTs _ rr).take (flats con.rets).length).filter ownC).length = 0 := hnown
              have := List.mem_filter.2 ⟨hb, hob⟩
              rw [List.eq_nil_of_length_eq_zero hnown] at this
              cases this
          cases b <;> first | exact h0 | rfl
        by_cases hdl : d < st3.objs.length
        · have hGd : d < G3.length := by rw [q7'.len]; exact hdl
          have eo : st3.objs.getD d Ob.none = st3.objs[d] := by rw [List.getD_eq_getElem?_getD, List.getElem?_eq_getElem hdl]; rfl
          obtain ⟨r1, r2, r3, r4, r5⟩ := q7'.objs d hdl hGd
          have hown0 : (ghd G3 d).own = [] := by
            rw [ghd_get (List.getElem?_eq_getElem hGd)]
            have a1 := r5 (by rw [← eo]; exact hre0)
            have a2 : G3[d].fps = [] := List.eq_nil_of_length_eq_zero (by rw [r2, ← eo, hcl0]; rfl)
            unfold Gh.own
            rw [a1, a2]; rfl
          have hlent : lentTo G3 i3 (ids ++ [d]) = lentTo G3 i3 ids := by
            funext y
            apply propext
            constructor
            · rintro (h | ⟨o', h1, h2, h3⟩)
              · exact .inl h
              · exact .inr ⟨o', h1, fun k => h2 (List.mem_append_left _ k), h3⟩
            · rintro (h | ⟨o', h1, h2, h3⟩)
              · exact .inl h
              · refine .inr ⟨o', h1, fun k => ?_, h3⟩
                rcases List.mem_append.1 k with k | k
                · exact h2 k
                · rw [List.mem_singleton.1 k, hown0] at h3; cases h3
          have hnd2 : (ids ++ [d]).Nodup := by
            rw [List.nodup_append]
            exact ⟨q9, by simp, fun a ha b hb => by
              rw [List.mem_singleton.1 hb]
              exact fun k => hdn (by rw [← k]; exact ha)⟩
          obtain ⟨c1, c2, c3⟩ := Rep.back (HA := []) (d := d) (ids := ids ++ [d]) q7' hnd2 (fun o' ho => by
            rcases List.mem_append.1 ho with k | k
            · exact q11' o' k
            · rw [List.mem_singleton.1 k]; exact ⟨hdl, trivial⟩) (by simp; omega) p1 (by rw [hlent]; exact p5) hpl (fun j hj hj' b hb => by
            by_cases hji : j < ids.length
            · rw [List.getElem_append_left hji] at hb
              exact hadr0 j hji hj' b hb
            · have : (ids ++ [d])[j] = d := by
                rw [List.getElem_append_right (by omega)]; simp
              rw [this, ghd_get (List.getElem?_eq_getElem hGd), r5 (by rw [← eo]; exact hre0)] at hb
              cases hb) (fun y hy => by
            have := hret y hy
            rw [hlo] at this
            simpa using this)
          have hobj : (updL backOb Ob.none st3.objs ids (begO con.outs ((ofTs _ rr).drop (flats con.rets).length))).set d ⟨true, vs', (st3.objs.getD d Ob.none).rv + 1, (st3.objs.getD d Ob.none).nv + 1⟩ = updL backOb Ob.none st3.objs (ids ++ [d]) (begO con.outs ((ofTs _ rr).drop (flats con.rets).length)) := by
            rw [hbeg, updL_app _ _ _ _ _ _ _ b3, ← hbeg, hod]
            rfl
          have hmp : ∀ a, mapPtr (ids ++ [d]) d a = mapPtr ids d a := fun a => by
            cases a with
            | ptr j c =>
              simp only [mapPtr, List.getD_eq_getElem?_getD, List.getElem?_append]
              split
              · rfl
              · rename_i hj
                rw [List.getElem?_eq_none (Nat.le_of_not_lt hj)]
                by_cases e : j - ids.length = 0
                · simp [e]
                · rw [List.getElem?_eq_none (by simp; omega)]
            | _ => rfl
          have c2' : Rep W ⟨st3.slots, updL backOb Ob.none st3.objs (ids ++ [d]) (begO con.outs ((ofTs _ rr).drop (flats con.rets).length))⟩ w' a.tmps (updL (fun _ g => g) gh0 G3 (ids ++ [d]) GR) [] f4 (fun y => i3 y ∨ f4 y) := Rep.drops (Hs := HR.map fun x => ⟨mapPtr (ids ++ [d]) d x.a, x.v, x.fp⟩) (H := []) (by rw [List.append_nil]; exact c2)
          have hput := Rep.put (st := ⟨st3.slots, updL backOb Ob.none st3.objs (ids ++ [d]) (begO con.outs ((ofTs _ rr).drop (flats con.rets).length))⟩) c2' d (retV (shape1 con.rets (slotC d (st3.objs.getD d Ob.none).rv (st3.objs.getD d Ob.none).nv ids 0 ((ofTs _ rr).take (flats con.rets).length)))) v (hsh _ _ (by rw [hslot]; simp [hrl, hHRl]) (fun i h1 h2 => by
            have hm := c2.held ⟨mapPtr (ids ++ [d]) d HR[i].a, HR[i].v, HR[i].fp⟩ (List.mem_map.2 ⟨HR[i], List.getElem_mem h2, rfl⟩)
            have e1 : (slotC d (st3.objs.getD d Ob.none).rv (st3.objs.getD d Ob.none).nv ids 0 ((ofTs _ rr).take (flats con.rets).length))[i] = mapPtr ids d HR[i].a := by
              have : slotC d (st3.objs.getD d Ob.none).rv (st3.objs.getD d Ob.none).nv ids 0 ((ofTs _ rr).take (flats con.rets).length) = HR.map fun x => mapPtr ids d x.a := by
                rw [hslot, ← p2, List.map_map]; rfl
              simp only [this, List.getElem_map]
            rw [e1]
            simp only [hmp] at hm
            have h0 : ownC HR[i].a = false := by
              cases hob : ownC HR[i].a with
              | false => rfl
              | true =>
                have hnown : (((ofTs _ rr).take (flats con.rets).length).filter ownC).length = 0 := hnown
                have := List.mem_filter.2 ⟨(by rw [← p2]; exact List.mem_map.2 ⟨HR[i], List.getElem_mem h2, rfl⟩ : HR[i].a ∈ (ofTs _ rr).take (flats con.rets).length), hob⟩
                rw [List.eq_nil_of_length_eq_zero hnown] at this
                cases this
            rcases hret _ (List.getElem_mem h2) with q | q | ⟨j, c, q, _⟩
            · revert hm h0 q
              generalize HR[i].a = a'
              intro hm h0 q
              cases a' with
              | sl m e κ l =>
                cases m with
                | imm b => exact hm.2
                | own => cases h0
                | mix b => cases h0
              | int => exact hm.2
              | bool => exact hm.2
              | str => exact hm.2
              | _ => cases q
            · rw [q] at hm ⊢; exact hm.2
            · rw [q] at hm ⊢; exact hm.2))
          have := hn w' (a.tmps.setIfInBounds d v) _ f4 (fun y => i3 y ∨ f4 y) (by
            rw [← b1]
            simp only [hod, hobj]
            exact hput) (q8.trans c3)
          exact this
        · have hp1 := (Rep.first (O := begO con.outs ((ofTs _ rr).drop (flats con.rets).length)) (Rep.drops (Hs := HR) (H := []) (by rw [List.append_nil]; exact p1)) (fun ob hob a' ha => by
            obtain ⟨j, hj, rfl⟩ := List.getElem_of_mem hob
            exact begO_plain con.outs _ hpl j hj a' ha) ids.length)
          rw [← begO_take] at hp1
          obtain ⟨c1, c2, c3⟩ := Rep.back (HA := []) (HR := []) (d := d) (sss := con.outs.take ids.length) q7' q9 q11' (by simp; omega) hp1 p5 hpl (fun j hj hj' b hb => by
            rw [List.getElem_take]; exact hadr0 j hj (by rw [List.length_take] at hj'; omega) b hb) (fun y hy => by cases hy)
          rw [begO_take, updL_take] at c2
          have e1 : ∀ x, (updL backOb Ob.none st3.objs ids (begO con.outs ((ofTs _ rr).drop (flats con.rets).length))).set d x = updL backOb Ob.none st3.objs ids (begO con.outs ((ofTs _ rr).drop (flats con.rets).length)) := fun x => List.set_eq_of_length_le (by rw [updL_len]; exact Nat.le_of_not_lt hdl)
          have e2 : ∀ x, st3.slots.set d x = st3.slots := fun x => List.set_eq_of_length_le (Nat.le_trans q7'.sl (Nat.le_of_not_lt hdl))
          have := hn w' (a.tmps.setIfInBounds d v) _ f4 (fun y => i3 y ∨ f4 y) (by
            rw [← b1]
            simp only [e1, e2]
            rw [set_noop _ _ _ (by rw [← q7'.tms]; exact Nat.le_trans q7'.sl (Nat.le_of_not_lt hdl))]
            exact c2) (q8.trans c3)
          exact this
      · cases b1
    | _ :: _ :: _, b1, b2, b4, b5 => cases b1
end Go.Eva
end
section
/- Every operation; regions in order. -/
namespace Go.Eva
set_option linter.unusedVariables false
set_option linter.unusedSimpArgs false
variable {P : Program} {W : Root} {T : Tab} {Γ : Gam}

/-- All contracts of a list hold. -/
def GamOk (P : Program) (W : World) (Γ : Gam) : Prop := ∀ f s con, gget Γ f s = some con → Good P W f con

theorem call_fn_ok (hΓ : GamOk P W.toWorld Γ) {o : Oper} {c : Call} (h : o.op = .call c) {x : Operand} (hc : c.callee = .value x) : StepOk P W o (prgOf T Γ o) := by
  intro st w a G frz imm st' hrep hrun
  have key : ∀ {f : FuncId} {caps : Array Value} {av : List AV} {K : St → Prop}, a.eval x = .func (.func f) #[] caps → (callP Γ f av o.dst).run st = some ((), st') → (c.args.map a.eval ++ caps).toList.length = av.length →
      (∀ i (h : i < av.length) (h' : i < (c.args.map a.eval ++ caps).toList.length), R2 (ctx st G w frz imm) av[i] (c.args.map a.eval ++ caps).toList[i]) →
      ∀ next Q, (∀ w' tm' G' frz' imm', Rep W st' w' tm' G' [] frz' imm' → Ext w frz imm w' frz' imm' → next ⟨tm', a.defers⟩ w') → o.wp P a w next Q := by
    intro f caps av K hx hr hl hv
    unfold callP at hr
    split at hr
    · rename_i con hcon
      have hg := hΓ f _ con hcon
      refine call_wp hg hrep hr hl hv ?_
      obtain ⟨fn, f1, f2, f3⟩ := hg.fn
      have f3' : ¬ fn.name = "runtime.NumGoroutine" := by simpa using f3
      simp [execOp, h, resolve, hc, Deferred.ofValue, hx, invoke, callFunc, f1, f3']
      have f4 : ¬ fn.body = none := by intro q; rw [q] at f2; cases f2
      simp [f4]
    · cases hr
  simp only [prgOf, h, hc] at hrun
  split at hrun
  all_goals try (rename_i heq; cases heq)
  · obtain ⟨avs, k1, k2, k3⟩ := opvs_run hrep hrun
    refine key (K := fun _ => True) (caps := #[]) (av := avs) rfl k1 (by simp [k2]) (fun i x y => ?_)
    have := k3 i x (by rw [← k2]; exact x)
    simpa using this
  · rename_i t
    rw [run_slot] at hrun
    obtain ⟨gv, hgv⟩ : ∃ gv, gv = st.slots.getD t .dead := ⟨_, rfl⟩
    rw [← hgv] at hrun
    split at hrun
    · rename_i f caps
      obtain ⟨avs, k1, k2, k3⟩ := opvs_run hrep hrun
      obtain ⟨ht, hte⟩ := getD_some hgv.symm (by simp)
      have hs := hrep.slots t ht
      rw [hte] at hs
      obtain ⟨cv, e1, e2, e3⟩ := hs
      have hev : a.eval (.tmp t) = .func (.func f) #[] cv.toArray := by
        rw [← e1]
        have : t < a.tmps.size := by rw [← hrep.tms]; exact ht
        simp [Act.eval, this]
      refine key (K := fun _ => True) hev k1 (by simp [k2, e2, ptrs]) (fun i x y => ?_)
      by_cases hi : i < avs.length
      · have := k3 i hi (by rw [← k2]; exact hi)
        have e : (c.args.map a.eval ++ cv.toArray).toList[i] = a.eval c.args.toList[i] := by
          simp only [Array.toList_append, Array.toList_map]
          rw [List.getElem_append_left (by simp; simp at k2; omega)]
          simp
        rw [List.getElem_append_left hi, e]
        exact this
      · have hj : i - avs.length < caps.length := by simp [ptrs] at x; omega
        have := e3 (i - avs.length) hj (by omega)
        have e : (c.args.map a.eval ++ cv.toArray).toList[i] = cv[i - avs.length]'(by omega) := by
          simp only [Array.toList_append, Array.toList_map]
          rw [List.getElem_append_right (by simp; simp at k2; omega)]
          simp at k2
          simp [k2]
        rw [List.getElem_append_right (by omega), e]
        simp only [ptrs, List.getElem_map]
        exact this
    · cases hrun
  all_goals cases hrun

theorem fail_ok {o : Oper} {p : Prg Unit} (h : p = .fail) : StepOk P W o p := by
  intro st w a G frz imm st' hrep hrun
  rw [h] at hrun; cases hrun

theorem prg_ok (hT : TabOk P T) (hΓ : GamOk P W.toWorld Γ) (o : Oper) : StepOk P W o (prgOf T Γ o) := by
  cases h : o.op with
  | move x => exact move_ok h
  | assign x => exact assign_ok h
  | pick c a b => exact pick_ok h
  | alloc t => exact alloc_ok hT h
  | box t x => exact box_ok hT h
  | build t ps => exact build_ok hT h
  | buildSlice t n ps => exact buildSlice_ok hT h
  | load t a => exact load_ok hT h
  | store t a x => exact store_ok hT h
  | nilCheck x => exact nilCheck_ok h
  | binOp op t x y u => exact bin_ok hT h
  | unOp op t x => exact un_ok h
  | convert s t x => exact convert_ok hT h
  | makeFunc fn first caps =>
    cases fn with
    | func f => exact makeFunc_ok h
    | _ => exact fail_ok (by simp only [prgOf, h])
  | makeSlice t l c => exact makeSlice_ok hT h
  | slice t x lo hi mx =>
    cases mx with
    | none => exact slice_ok hT h
    | some m => exact fail_ok (by simp only [prgOf, h])
  | fieldAddr t x f => exact fieldAddr_ok hT h
  | field t x f => exact field_ok hT h
  | indexAddr t x i => exact indexAddr_ok hT h
  | index t x i => exact index_ok hT h
  | extract x i => exact extract_ok h
  | call c =>
    cases hc : c.callee with
    | builtin b =>
      cases b with
      | len => exact len_ok hT h hc
      | append => exact append_ok hT h hc
      | min => exact min_ok h hc
      | max => exact max_ok h hc
      | _ => exact fail_ok (by simp only [prgOf, h, hc])
    | value x => exact call_fn_ok hΓ h hc
    | invoke x n => exact fail_ok (by simp only [prgOf, h, hc])
  | _ => exact fail_ok (by simp only [prgOf, h])

/-! ### An operation with its guard -/
theorem R2.tup0 {C : Ctx} : R2 C (.tup []) undef := ⟨[], rfl, rfl, fun i h => by cases h⟩

theorem step_ok (hT : TabOk P T) (hΓ : GamOk P W.toWorld Γ) {ops : Array Oper} {i : Nat} {o : Oper} (hi : ops[i]? = some o) {st st' : St} {w : World} {a : Act} {G : List Gh} {frz imm : Nat → Prop} (hrep : Rep W st w a.tmps G [] frz imm)
    (hrun : (stepP T Γ ops.toList o).run st = some ((), st')) {next : Act → World → Prop} {Q : Exit → Act → World → Prop} (hn : ∀ w' tm' G' frz' imm', Rep W st' w' tm' G' [] frz' imm' → Ext w frz imm w' frz' imm' → next ⟨tm', a.defers⟩ w') : wpOp P ops Q i next a w := by
  unfold wpOp
  rw [hi]
  simp only
  have skip : (put o.dst (.tup [])).run st = some ((), st') → next (a.put o.dst undef) w := fun hr => by
    obtain ⟨st1, e, h4⟩ := put_run hrep hr (R2.tup0)
    injection e with _ e
    subst e
    have := hn w _ G frz imm h4 (Ext.refl _ _ _)
    rwa [← put_defers a o.dst undef] at this
  unfold stepP at hrun
  split at hrun
  · rename_i hg
    rw [if_pos (by unfold Region.wanted; rw [hg])]
    exact .inl (prg_ok hT hΓ o st w a G frz imm st' hrep hrun next Q hn)
  · rename_i j want hg
    split at hrun
    · cases hrun
    · rename_i s hs
      rw [run_slot] at hrun
      have hdst : (ops[j]?).bind (·.dst) = some s := by
        unfold dstOf at hs
        rw [← Array.getElem?_toList]
        split at hs
        · rename_i o' ho'; rw [ho']; exact hs
        · cases hs
      obtain ⟨gv, hgv⟩ : ∃ gv, gv = st.slots.getD s .dead := ⟨_, rfl⟩
      rw [← hgv] at hrun
      split at hrun
      · rename_i b
        obtain ⟨ht, hte⟩ := getD_some hgv.symm (by simp)
        have hsl := hrep.slots s ht
        rw [hte] at hsl
        have hsz : s < a.tmps.size := by rw [← hrep.tms]; exact ht
        have hsl : a.tmps.getD s undef = .bool b := hsl
        have hv : a.tmps[s]? = some (.bool b) := by
          rw [Array.getElem?_eq_getElem hsz, ← hsl]; simp [hsz]
        have hy : yielded ops a.tmps j = some b := by
          unfold yielded; rw [hdst]; simp only [Option.bind_some, hv]
        split at hrun
        · rename_i hb
          rw [if_pos (by unfold Region.wanted; rw [hg]; simp only [hy, hb]; simp)]
          exact .inl (prg_ok hT hΓ o st w a G frz imm st' hrep hrun next Q hn)
        · rename_i hb
          rw [if_neg (by unfold Region.wanted; rw [hg]; simp only [hy]; simpa using hb)]
          exact skip hrun
      · obtain ⟨ht, hte⟩ := getD_some hgv.symm (by simp)
        have hsl := hrep.slots s ht
        rw [hte] at hsl
        obtain ⟨vs, e1, e2, _⟩ := hsl
        have hsz : s < a.tmps.size := by rw [← hrep.tms]; exact ht
        have hv : a.tmps[s]? = some (.tuple vs.toArray) := by
          rw [Array.getElem?_eq_getElem hsz, ← e1]; simp [hsz]
        have hy : yielded ops a.tmps j = none := by
          unfold yielded; rw [hdst]; simp only [Option.bind_some, hv]
        rw [if_neg (by unfold Region.wanted; rw [hg]; simp only [hy]; simp)]
        exact skip hrun
      · cases hrun

/-- What a guard's slot holds is asked; nothing changes. -/
theorem ref_run {ops : List Oper} {i : Nat} {o : Oper} {st st' : St} (h : (refP ops i o).run st = some ((), st')) : st' = st := by
  unfold refP at h
  split at h
  · split at h
    · rename_i s hs
      rw [run_slot] at h
      obtain ⟨gv, hgv⟩ : ∃ gv, gv = st.slots.getD s .dead := ⟨_, rfl⟩
      rw [← hgv] at h
      split at h
      · rename_i b
        obtain ⟨ht, hte⟩ := getD_some hgv.symm (by simp)
        have e : ∀ b', b' = b → (⟨st.slots.set s (.bool b'), st.objs⟩ : St) = st := fun b' hb => by
          subst hb
          have : st.slots.set s (.bool b') = st.slots := by rw [← hte]; exact List.set_getElem_self ht
          rw [this]
        rw [run_br] at h
        split at h
        · rename_i hb
          rw [run_setSlot] at h
          injection h with h
          injection h with _ h
          rw [← h]; exact e true hb.symm
        · rename_i hb
          rw [run_setSlot] at h
          injection h with h
          injection h with _ h
          rw [← h]; exact e false (by cases b <;> simp at hb ⊢)
      · injection h with h; injection h with _ h; exact h.symm
    · injection h with h; injection h with _ h; exact h.symm
  · injection h with h; injection h with _ h; exact h.symm

variable {ρ : Type}

theorem seq_wp (hT : TabOk P T) (hΓ : GamOk P W.toWorld Γ) {ops : Array Oper} {Q : Exit → Act → World → Prop} : ∀ (l : List Oper) (i : Nat) {st : St} {w : World} {a : Act} {G : List Gh} {frz imm : Nat → Prop} {fs : List Foot} {K : St → List Foot → Option ρ} {r : ρ}, ops.toList.drop i = l → Rep W st w a.tmps G [] frz imm →
    evOps T Γ ops.toList i l st fs K = some r → (∀ st' w' tm' G' f' i' fs', K st' fs' = some r → Rep W st' w' tm' G' [] f' i' → Ext w frz imm w' f' i' → Q .normal ⟨tm', a.defers⟩ w') → wpOps P ops Q (List.range' i l.length) a w
  | [], i, st, w, a, G, frz, imm, fs, K, r, hl, hrep, hr, hQ => hQ st w a.tmps G frz imm fs hr hrep (Ext.refl _ _ _)
  | o :: l, i, st, w, a, G, frz, imm, fs, K, r, hl, hrep, hr, hQ => by
    have hi : ops[i]? = some o := by
      have := congrArg (·[0]?) hl
      simpa using this
    simp only [evOps] at hr
    obtain ⟨u, st1, F1, h1, h2⟩ := Prg.runK_some _ _ _ _ _ hr
    obtain ⟨u2, st2, F2, h3, h4⟩ := Prg.runK_some _ _ _ _ _ h2
    have := ref_run h3
    subst this
    simp only [List.length_cons, List.range'_succ]
    rw [wpOps_cons]
    refine step_ok hT hΓ hi hrep h1 (fun w' tm' G' f' i' hr' he => ?_)
    refine seq_wp hT hΓ l (i + 1) (a := ⟨tm', a.defers⟩) ?_ hr' h4 (fun st' w'' tm'' G'' f'' i'' fs' hk hr'' he' => hQ st' w'' tm'' G'' f'' i'' fs' hk hr'' (he.trans he'))
    have := congrArg List.tail hl
    simpa [List.tail_drop] using this
end Go.Eva
end
section
/- Regions in any order. -/
namespace Go.Eva
set_option linter.unusedVariables false
set_option linter.unusedSimpArgs false
variable {P : Program} {W : Root} {T : Tab} {Γ : Gam}

/-! ### What a small program reads and writes -/
theorem tb_or (a s t : Nat) : (a ||| 1 <<< s).testBit t = (a.testBit t || decide (s = t)) := by
  rw [Nat.testBit_or, Nat.one_shiftLeft, Nat.testBit_two_pow]

/-- Two states that are alike at some places. -/
structure Alike (ms mo : Nat) (a b : St) : Prop where
  sl : a.slots.length = b.slots.length
  ol : a.objs.length = b.objs.length
  s : ∀ k, ms.testBit k = true → a.slots[k]? = b.slots[k]?
  o : ∀ k, mo.testBit k = true → a.objs[k]? = b.objs[k]?
/-- Two states that are alike but at some places. -/
structure But (ms mo : Nat) (a b : St) : Prop where
  sl : a.slots.length = b.slots.length
  ol : a.objs.length = b.objs.length
  s : ∀ k, ms.testBit k = false → a.slots[k]? = b.slots[k]?
  o : ∀ k, mo.testBit k = false → a.objs[k]? = b.objs[k]?
structure FLe (F F' : Foot) : Prop where
  rs : ∀ k, F.rs.testBit k = true → F'.rs.testBit k = true
  ws : ∀ k, F.ws.testBit k = true → F'.ws.testBit k = true
  ro : ∀ k, F.ro.testBit k = true → F'.ro.testBit k = true
  wo : ∀ k, F.wo.testBit k = true → F'.wo.testBit k = true

theorem Alike.getS {ms mo : Nat} {a b : St} (h : Alike ms mo a b) {k : Nat} (hk : ms.testBit k = true) (d : AV) : a.slots.getD k d = b.slots.getD k d := by
  rw [List.getD_eq_getElem?_getD, List.getD_eq_getElem?_getD, h.s k hk]
theorem Alike.getO {ms mo : Nat} {a b : St} (h : Alike ms mo a b) {k : Nat} (hk : mo.testBit k = true) (d : Ob) : a.objs.getD k d = b.objs.getD k d := by
  rw [List.getD_eq_getElem?_getD, List.getD_eq_getElem?_getD, h.o k hk]

/-- What a run does, told by its marks F'. -/
structure Does {β : Type} (p : Prg β) (st : St) (F : Foot) (b : β) (st' : St) (F' : Foot) : Prop where
  run : p.run st = some (b, st')
  le : FLe F F'
  on : ∀ st2, Alike F'.rs F'.ro st st2 → Alike F.ws F.wo st st2 → ∃ st2', p.run st2 = some (b, st2') ∧ But F'.ws F'.wo st2 st2' ∧ Alike F'.ws F'.wo st' st2'

theorem get_set {α : Type} (xs : List α) (s k : Nat) (v : α) : (xs.set s v)[k]? = if s = k then (if s < xs.length then some v else none) else xs[k]? := by
  rw [List.getElem?_set]

theorem Prg.does {ρ β : Type} (p : Prg β) : ∀ (st : St) (F : Foot) (K : β → St → Foot → Option ρ) (r : ρ), p.runK st F K = some r → ∃ b st' F', K b st' F' = some r ∧ Does p st F b st' F' := by
  induction p with
  | done b => exact fun st F K r h => ⟨b, st, F, h, rfl, ⟨fun _ h => h, fun _ h => h, fun _ h => h, fun _ h => h⟩, fun st2 h1 h2 => ⟨st2, rfl, ⟨rfl, rfl, fun _ _ => rfl, fun _ _ => rfl⟩, h2⟩⟩
  | fail => intro st F K r h; cases h
  | slot s k ih =>
    intro st F K r h
    rw [runK, frc_eq] at h
    obtain ⟨b, st', F', h1, h2, h3, h4⟩ := ih _ _ _ _ _ h
    have hs : F'.rs.testBit s = true := h3.rs s (by rw [tb_or]; simp)
    refine ⟨b, st', F', h1, h2, ⟨fun t ht => h3.rs t (by rw [tb_or, ht]; rfl), h3.ws, h3.ro, h3.wo⟩, fun st2 q1 q2 => ?_⟩
    obtain ⟨st2', z⟩ := h4 st2 q1 q2
    refine ⟨st2', ?_, z.2⟩
    rw [run, ← q1.getS hs]; exact z.1
  | obj o k ih =>
    intro st F K r h
    rw [runK] at h
    obtain ⟨b, st', F', h1, h2, h3, h4⟩ := ih _ _ _ _ _ h
    have hs : F'.ro.testBit o = true := h3.ro o (by rw [tb_or]; simp)
    refine ⟨b, st', F', h1, h2, ⟨h3.rs, h3.ws, fun t ht => h3.ro t (by rw [tb_or, ht]; rfl), h3.wo⟩, fun st2 q1 q2 => ?_⟩
    obtain ⟨st2', z⟩ := h4 st2 q1 q2
    refine ⟨st2', ?_, z.2⟩
    rw [run, ← q1.getO hs]; exact z.1
  | setSlot s v k ih =>
    intro st F K r h
    rw [runK, frc_eq, setK_eq] at h
    obtain ⟨b, st', F', h1, h2, h3, h4⟩ := ih _ _ _ _ h
    have hs : F'.ws.testBit s = true := h3.ws s (by rw [tb_or]; simp)
    refine ⟨b, st', F', h1, h2, ⟨h3.rs, fun t ht => h3.ws t (by rw [tb_or, ht]; rfl), h3.ro, h3.wo⟩, fun st2 q1 q2 => ?_⟩
    have hl := q1.sl
    obtain ⟨st2', z1, z2, z3⟩ := h4 ⟨st2.slots.set s v, st2.objs⟩ ⟨by simp [hl], q1.ol, fun t ht => by
        simp only [get_set, hl]
        split
        · rfl
        · exact q1.s t ht, q1.o⟩ ⟨by simp [hl], q1.ol, fun t ht => by
        simp only [get_set, hl]
        split
        · rfl
        · rename_i hne
          rw [tb_or] at ht
          exact q2.s t (by simpa [hne] using ht), q2.o⟩
    refine ⟨st2', by rw [run]; exact z1, ⟨by have := z2.sl; simpa using this, z2.ol, fun t ht => ?_, z2.o⟩, z3⟩
    have := z2.s t ht
    simp only [get_set] at this
    rw [if_neg (fun q => by subst q; rw [hs] at ht; cases ht)] at this
    exact this
  | setObj o ob k ih =>
    intro st F K r h
    rw [runK, frcL_eq, setK_eq] at h
    obtain ⟨b, st', F', h1, h2, h3, h4⟩ := ih _ _ _ _ h
    have hs : F'.wo.testBit o = true := h3.wo o (by rw [tb_or]; simp)
    refine ⟨b, st', F', h1, h2, ⟨h3.rs, h3.ws, h3.ro, fun t ht => h3.wo t (by rw [tb_or, ht]; rfl)⟩, fun st2 q1 q2 => ?_⟩
    have hl := q1.ol
    obtain ⟨st2', z1, z2, z3⟩ := h4 ⟨st2.slots, st2.objs.set o ob⟩ ⟨q1.sl, by simp [hl], q1.s, fun t ht => by
        simp only [get_set, hl]
        split
        · rfl
        · exact q1.o t ht⟩ ⟨q1.sl, by simp [hl], q2.s, fun t ht => by
        simp only [get_set, hl]
        split
        · rfl
        · rename_i hne
          rw [tb_or] at ht
          exact q2.o t (by simpa [hne] using ht)⟩
    refine ⟨st2', by rw [run]; exact z1, ⟨z2.sl, by have := z2.ol; simpa using this, z2.s, fun t ht => ?_⟩, z3⟩
    have := z2.o t ht
    simp only [get_set] at this
    rw [if_neg (fun q => by subst q; rw [hs] at ht; cases ht)] at this
    exact this
  | br c t e iht ihe =>
    intro st F K r h
    rw [runK] at h
    split at h
    · rename_i hb
      obtain ⟨b, st', F', h1, h2, h3, h4⟩ := iht _ _ _ _ h
      exact ⟨b, st', F', h1, by rw [run, if_pos hb]; exact h2, h3, fun st2 q1 q2 => by
        obtain ⟨st2', z1, z⟩ := h4 st2 q1 q2
        exact ⟨st2', by rw [run, if_pos hb]; exact z1, z⟩⟩
    · rename_i hb
      obtain ⟨b, st', F', h1, h2, h3, h4⟩ := ihe _ _ _ _ h
      exact ⟨b, st', F', h1, by rw [run, if_neg hb]; exact h2, h3, fun st2 q1 q2 => by
        obtain ⟨st2', z1, z⟩ := h4 st2 q1 q2
        exact ⟨st2', by rw [run, if_neg hb]; exact z1, z⟩⟩
  | call α x k ih =>
    intro st F K r h
    rw [runK] at h
    cases x with
    | none => cases h
    | some a =>
      obtain ⟨b, st', F', h1, h2, h3, h4⟩ := ih a _ _ _ _ h
      exact ⟨b, st', F', h1, h2, h3, fun st2 q1 q2 => h4 st2 q1 q2⟩

/-- One operation of a region, with its marks. -/
structure Op1 (T : Tab) (Γ : Gam) (ops : List Oper) (o : Oper) (st st' : St) (F : Foot) : Prop where
  run : (stepP T Γ ops o).run st = some ((), st')
  on : ∀ st2, Alike F.rs F.ro st st2 → ∃ st2', (stepP T Γ ops o).run st2 = some ((), st2') ∧ But F.ws F.wo st2 st2' ∧ Alike F.ws F.wo st' st2'

theorem Alike.refl (ms mo : Nat) (a : St) : Alike ms mo a a := ⟨rfl, rfl, fun _ _ => rfl, fun _ _ => rfl⟩

theorem op1_run {ρ : Type} {ops : List Oper} {i : Nat} {o : Oper} {st : St} {K : St → Foot → Option ρ} {r : ρ} (h : ((stepP T Γ ops o).runK st ⟨0, 0, 0, 0⟩ fun _ st F => (refP ops i o).runK st F fun _ st F => K st F) = some r) :
    ∃ st' F, K st' F = some r ∧ Op1 T Γ ops o st st' F := by
  obtain ⟨u, st1, F1, h1, h2⟩ := Prg.does _ _ _ _ _ h
  obtain ⟨u2, st2, F2, h3, h4⟩ := Prg.does _ _ _ _ _ h1
  have e := ref_run h4.run
  subst e
  refine ⟨st2, F2, h3, h2.run, fun σ q => ?_⟩
  have z0 : Alike (0 : Nat) 0 st σ := ⟨q.sl, q.ol, fun k hk => by simp at hk, fun k hk => by simp at hk⟩
  obtain ⟨σ', a1, a2, a3⟩ := h2.on σ ⟨q.sl, q.ol, fun k hk => q.s k (h4.le.rs k hk), fun k hk => q.o k (h4.le.ro k hk)⟩ z0
  obtain ⟨b0, a0, a00, a000⟩ := h2.on st (Alike.refl _ _ _) (Alike.refl _ _ _)
  have e0 : b0 = st2 := by rw [h2.run] at a0; injection a0 with a0; injection a0 with _ a0; exact a0.symm
  subst e0
  -- the second program sees the same
  have hsee : Alike F2.rs F2.ro b0 σ' := ⟨a3.sl, a3.ol, fun k hk => by
      by_cases hw : F1.ws.testBit k = true
      · exact a3.s k hw
      · have hw : F1.ws.testBit k = false := by simpa using hw
        rw [← a00.s k hw, ← a2.s k hw]; exact q.s k hk, fun k hk => by
      by_cases hw : F1.wo.testBit k = true
      · exact a3.o k hw
      · have hw : F1.wo.testBit k = false := by simpa using hw
        rw [← a00.o k hw, ← a2.o k hw]; exact q.o k hk⟩
  obtain ⟨σ2, c1, c2, c3⟩ := h4.on σ' hsee a3
  have e2 := ref_run c1
  subst e2
  refine ⟨σ2, a1, ⟨a2.sl, a2.ol, fun k hk => a2.s k ?_, fun k hk => a2.o k ?_⟩, c3⟩
  · cases hh : F1.ws.testBit k
    · rfl
    · rw [h4.le.ws k hh] at hk; cases hk
  · cases hh : F1.wo.testBit k
    · rfl
    · rw [h4.le.wo k hh] at hk; cases hk

/-! ### What lies at a place behind some of the operations -/
section track
variable {α : Type} {n : Nat} {X : Nat → α} {Wr : Nat → Bool}
/-- One place: its values X 0, X 1, .. in order; L: what has been done. -/
def Trk (n : Nat) (X : Nat → α) (Wr : Nat → Bool) (L : Nat → Prop) (v : α) : Prop :=
  (∀ k, k < n → L k → Wr k = true → (∀ k', k < k' → k' < n → L k' → Wr k' = false) → v = X (k + 1)) ∧ ((∀ k, k < n → L k → Wr k = false) → v = X 0)
theorem Trk.at {L : Nat → Prop} {v : α} (h : Trk n X Wr L v) (hX : ∀ k, k < n → Wr k = false → X (k + 1) = X k) : ∀ m, m ≤ n → (∀ k, k < m → Wr k = true → L k) → (∀ k, m ≤ k → k < n → L k → Wr k = false) → v = X m
  | 0, _, _, h2 => h.2 (fun k hk hL => h2 k (Nat.zero_le _) hk hL)
  | m + 1, hm, h1, h2 => by
    cases hw : Wr m
    · rw [hX m (by omega) hw]
      exact Trk.at h hX m (by omega) (fun k hk => h1 k (by omega)) (fun k hk hkn hL => by
        by_cases e : k = m
        · rw [e]; exact hw
        · exact h2 k (by omega) hkn hL)
    · exact h.1 m (by omega) (h1 m (by omega) hw) hw (fun k' a b c => h2 k' (by omega) b c)
theorem Trk.step {L : Nat → Prop} {v v' : α} {i : Nat} (h : Trk n X Wr L v) (hi : i < n) (h1 : Wr i = true → v' = X (i + 1)) (h2 : Wr i = false → v' = v) (h3 : ∀ k, i < k → k < n → L k → Wr i = true → Wr k = false) : Trk n X Wr (fun k => L k ∨ k = i) v' := by
  constructor
  · intro k hk hL hw hlast
    by_cases e : k = i
    · subst e; exact h1 hw
    · have hL : L k := hL.resolve_right e
      cases hwi : Wr i
      · rw [h2 hwi]; exact h.1 k hk hL hw (fun k' a b c => hlast k' a b (.inl c))
      · rcases Nat.lt_or_gt_of_ne e with q | q
        · have := hlast i q hi (.inr rfl)
          rw [hwi] at this; cases this
        · have := h3 k q hk hL hwi
          rw [hw] at this; cases this
  · intro hz
    have := hz i hi (.inr rfl)
    rw [h2 this]
    exact h.2 (fun k hk hL => hz k hk (.inl hL))
end track
end Go.Eva
end
section
/- Regions in any order: whole. -/
namespace Go.Eva
set_option linter.unusedVariables false
set_option linter.unusedSimpArgs false
variable {P : Program} {W : Root} {T : Tab} {Γ : Gam} {ρ : Type}

theorem evOps_seq {ops : List Oper} : ∀ (l : List Oper) (i : Nat) (st : St) (fs : List Foot) (K : St → List Foot → Option ρ) (r : ρ), evOps T Γ ops i l st fs K = some r →
    ∃ (S : Nat → St) (Fs : List Foot), S 0 = st ∧ Fs.length = l.length ∧ K (S l.length) (Fs.reverse ++ fs) = some r ∧ ∀ k (h : k < l.length) (h' : k < Fs.length), Op1 T Γ ops l[k] (S k) (S (k + 1)) Fs[k]
  | [], i, st, fs, K, r, h => ⟨fun _ => st, [], rfl, rfl, h, fun k h => by cases h⟩
  | o :: l, i, st, fs, K, r, h => by
    simp only [evOps] at h
    obtain ⟨st1, F, h1, h2⟩ := op1_run (K := fun st F => evOps T Γ ops (i + 1) l st (F :: fs) K) h
    obtain ⟨S, Fs, q1, q2, q3, q4⟩ := evOps_seq l (i + 1) st1 (F :: fs) K r h1
    refine ⟨fun k => match k with | 0 => st | k + 1 => S k, F :: Fs, rfl, by simp [q2], by simpa using q3, fun k a b => ?_⟩
    cases k with
    | zero => simp only [List.getElem_cons_zero, q1]; exact h2
    | succ k => exact q4 k (by simpa using a) (by simpa using b)

theorem apart1_spec {bs : Nat} {f : Foot} : ∀ {i : Nat} {gs : List Foot}, apart1 bs f i gs = true → ∀ k (h : k < gs.length), bs.testBit (i + k) = true ∨ apartF f gs[k] = true
  | i, [], _, k, h => by cases h
  | i, g :: gs, h, k, hk => by
    simp only [apart1, Bool.and_eq_true, Bool.or_eq_true] at h
    cases k with
    | zero => exact h.1
    | succ k =>
      have := apart1_spec h.2 k (by simpa using hk)
      rw [show i + 1 + k = i + (k + 1) by omega] at this
      exact this
theorem apartAll_spec : ∀ {bs : List Nat} {done : List Foot} {i : Nat} {fs : List Foot}, apartAll bs done i fs = true → ∀ j (h : j < fs.length), ∃ b, bs[j]? = some b ∧ ∀ k (hk : k < done.length + j) (hk' : k < (done ++ fs).length), b.testBit k = true ∨ apartF fs[j] (done ++ fs)[k] = true
  | bs, done, i, [], _, j, h => by cases h
  | [], done, i, _ :: _, h, _, _ => by simp [apartAll] at h
  | b :: bs, done, i, f :: fs, h, j, hj => by
    simp only [apartAll, Bool.and_eq_true] at h
    cases j with
    | zero =>
      refine ⟨b, rfl, fun k hk hk' => ?_⟩
      have := apart1_spec h.1 k (by omega)
      rw [Nat.zero_add] at this
      simp only [List.getElem_cons_zero, List.getElem_append_left (show k < done.length by omega)]
      exact this
    | succ j =>
      obtain ⟨b', q1, q2⟩ := apartAll_spec h.2 j (by simpa using hj)
      refine ⟨b', q1, fun k hk hk' => ?_⟩
      have := q2 k (by simp; omega) (by simp at hk' ⊢; omega)
      simpa using this

/-! ### What comes before -/
def befOf (o : Oper) (acc : Array Nat) : Nat := o.after.foldl (fun s e => if Region.binds .any e then s ||| 2 ^ e.on ||| acc.getD e.on 0 else s) 0
theorem befOf_bit {o : Oper} {acc : Array Nat} {k : Nat} (h : (befOf o acc).testBit k = true) : ∃ e ∈ o.after, Region.binds .any e = true ∧ (k = e.on ∨ (acc.getD e.on 0).testBit k = true) := by
  unfold befOf at h
  rw [← Array.foldl_toList] at h
  have key : ∀ (l : List _) (s : Nat), (l.foldl (fun s (e : Edge) => if Region.binds .any e then s ||| 2 ^ e.on ||| acc.getD e.on 0 else s) s).testBit k = true → s.testBit k = true ∨ ∃ e ∈ l, Region.binds .any e = true ∧ (k = e.on ∨ (acc.getD e.on 0).testBit k = true) := by
    intro l
    induction l with
    | nil => exact fun s h => .inl h
    | cons e l ih =>
      intro s h
      rw [List.foldl_cons] at h
      rcases ih _ h with q | ⟨e', q1, q2⟩
      · split at q
        · rename_i hb
          rw [Nat.testBit_or, Nat.testBit_or, Nat.testBit_two_pow] at q
          simp only [Bool.or_eq_true, decide_eq_true_eq] at q
          rcases q with (q | q) | q
          · exact .inl q
          · exact .inr ⟨e, List.mem_cons_self, hb, .inl q.symm⟩
          · exact .inr ⟨e, List.mem_cons_self, hb, .inr q⟩
        · exact .inl q
      · exact .inr ⟨e', List.mem_cons_of_mem _ q1, q2⟩
  rcases key _ _ h with q | ⟨e, q1, q2⟩
  · simp at q
  · exact ⟨e, by simpa using q1, q2⟩
theorem before_fold : ∀ (l : List Oper) (acc : Array Nat), (l.foldl (fun acc o => acc.push (befOf o acc)) acc).size = acc.size + l.length ∧ (∀ k, k < acc.size → (l.foldl (fun acc o => acc.push (befOf o acc)) acc)[k]? = acc[k]?) ∧
    ∀ j (h : j < l.length), ∃ acc', (l.foldl (fun acc o => acc.push (befOf o acc)) acc)[acc.size + j]? = some (befOf l[j] acc') ∧ ∀ (k v : Nat), acc'[k]? = some v → (l.foldl (fun acc o => acc.push (befOf o acc)) acc)[k]? = some v
  | [], acc => ⟨rfl, fun _ _ => rfl, fun j h => by cases h⟩
  | o :: l, acc => by
    obtain ⟨h1, h2, h3⟩ := before_fold l (acc.push (befOf o acc))
    simp only [List.foldl_cons]
    refine ⟨by rw [h1]; simp; omega, fun k hk => ?_, fun j hj => ?_⟩
    · rw [h2 k (by simp; omega), Array.getElem?_push, if_neg (by omega)]
    · cases j with
      | zero =>
        refine ⟨acc, ?_, fun k v hk => ?_⟩
        · rw [Nat.add_zero, h2 acc.size (by simp)]
          simp
        · have hlt := (Array.getElem?_eq_some_iff.1 hk).1
          rw [h2 k (by simp; omega), Array.getElem?_push, if_neg (by omega)]
          exact hk
      | succ j =>
        obtain ⟨acc', q1, q2⟩ := h3 j (by simpa using hj)
        refine ⟨acc', ?_, q2⟩
        rw [show acc.size + (j + 1) = (acc.push (befOf o acc)).size + j by simp; omega]
        exact q1
theorem before_spec {ops : Array Oper} {j b k : Nat} (h : (Region.before ops)[j]? = some b) (hb : b.testBit k = true) : ∃ o, ops[j]? = some o ∧ ∃ e ∈ o.after, Region.binds .any e = true ∧ (k = e.on ∨ ∃ b', (Region.before ops)[e.on]? = some b' ∧ b'.testBit k = true) := by
  have e0 : Region.before ops = ops.toList.foldl (fun acc o => acc.push (befOf o acc)) #[] := by
    unfold Region.before
    rw [← Array.foldl_toList]
    rfl
  rw [e0] at h ⊢
  obtain ⟨h1, h2, h3⟩ := before_fold ops.toList #[]
  have hj : j < ops.toList.length := by
    have := (Array.getElem?_eq_some_iff.1 h).1
    rw [h1] at this; simpa using this
  obtain ⟨acc', q1, q2⟩ := h3 j hj
  simp only [Array.size_empty, Nat.zero_add] at q1
  rw [h] at q1
  injection q1 with q1
  subst q1
  obtain ⟨e, p1, p2, p3⟩ := befOf_bit hb
  refine ⟨ops.toList[j], by rw [← Array.getElem?_toList, List.getElem?_eq_getElem hj], e, p1, p2, p3.imp id (fun q => ?_)⟩
  cases ha : acc'[e.on]? with
  | none =>
    rw [Array.getD_eq_getD_getElem?, ha] at q
    simp at q
  | some b' =>
    rw [Array.getD_eq_getD_getElem?, ha] at q
    exact ⟨b', q2 _ _ ha, q⟩

/-- Every edge points back. -/
def backs (ops : Array Oper) : Bool := ops.toList.zipIdx.all fun p => p.1.after.all fun e => !Region.binds .any e || decide (e.on < p.2)
theorem backs_spec {ops : Array Oper} (h : backs ops = true) {i : Nat} {o : Oper} (hi : ops[i]? = some o) : ∀ e ∈ o.after, Region.binds .any e = true → e.on < i := by
  unfold backs at h
  rw [List.all_eq_true] at h
  have hm : (o, i) ∈ ops.toList.zipIdx := by
    rw [List.mem_zipIdx_iff_getElem?]
    rw [← Array.getElem?_toList] at hi
    exact hi
  have := h _ hm
  intro e he hb
  simp only [Array.all_eq_true_iff_forall_mem] at this
  have := this e he
  simpa [hb] using this

theorem land_bit {a b k : Nat} (h : (a &&& b) == 0) (ha : a.testBit k = true) : b.testBit k = false := by
  have h : a &&& b = 0 := by simpa using h
  have := congrArg (·.testBit k) h
  simp only [Nat.testBit_and, ha, Bool.true_and, Nat.zero_testBit] at this
  exact this
theorem apartF_s {a b : Foot} (h : apartF a b = true) (k : Nat) : (a.ws.testBit k = true → b.rs.testBit k = false ∧ b.ws.testBit k = false) ∧ (a.rs.testBit k = true → b.ws.testBit k = false) := by
  simp only [apartF, Bool.and_eq_true] at h
  obtain ⟨⟨⟨h1, h2⟩, h3⟩, h4⟩ := h
  refine ⟨fun hk => ?_, fun hk => land_bit h2 hk⟩
  have := land_bit h1 hk
  rw [Nat.testBit_or] at this
  simpa using this
theorem apartF_o {a b : Foot} (h : apartF a b = true) (k : Nat) : (a.wo.testBit k = true → b.ro.testBit k = false ∧ b.wo.testBit k = false) ∧ (a.ro.testBit k = true → b.wo.testBit k = false) := by
  simp only [apartF, Bool.and_eq_true] at h
  obtain ⟨⟨⟨h1, h2⟩, h3⟩, h4⟩ := h
  refine ⟨fun hk => ?_, fun hk => land_bit h4 hk⟩
  have := land_bit h3 hk
  rw [Nat.testBit_or] at this
  simpa using this

theorem Trk.congr {α : Type} {n : Nat} {X : Nat → α} {Wr : Nat → Bool} {L L' : Nat → Prop} {v : α} (h : Trk n X Wr L v) (hL : ∀ k, k < n → (L k ↔ L' k)) : Trk n X Wr L' v :=
  ⟨fun k hk hl hw hz => h.1 k hk ((hL k hk).2 hl) hw (fun k' a b c => hz k' a b ((hL k' b).1 c)), fun hz => h.2 (fun k hk hl => hz k hk ((hL k hk).1 hl))⟩

/-- The states in order, and what is known of them. -/
structure Line (T : Tab) (Γ : Gam) (ops : Array Oper) (S : Nat → St) (F : Nat → Foot) : Prop where
  op : ∀ k o, ops[k]? = some o → Op1 T Γ ops.toList o (S k) (S (k + 1)) (F k)
  ap : ∀ i k, k < i → i < ops.size → (∃ b, (Region.before ops)[i]? = some b ∧ b.testBit k = true) ∨ apartF (F i) (F k) = true
  back : backs ops = true

/-- What has been listed, and the state at hand. -/
structure At (ops : Array Oper) (S : Nat → St) (F : Nat → Foot) (listed : Array Bool) (σ : St) : Prop where
  size : listed.size = ops.size
  closed : ∀ j b k, (Region.before ops)[j]? = some b → j < ops.size → listed.getD j true = true → b.testBit k = true → listed.getD k true = true
  sl : σ.slots.length = (S 0).slots.length
  ol : σ.objs.length = (S 0).objs.length
  s : ∀ s, Trk ops.size (fun k => (S k).slots[s]?) (fun k => (F k).ws.testBit s) (fun k => listed.getD k true = true) σ.slots[s]?
  o : ∀ o, Trk ops.size (fun k => (S k).objs[o]?) (fun k => (F k).wo.testBit o) (fun k => listed.getD k true = true) σ.objs[o]?

theorem Line.same {ops : Array Oper} {S : Nat → St} {F : Nat → Foot} (h : Line T Γ ops S F) {k : Nat} (hk : k < ops.size) : But (F k).ws (F k).wo (S k) (S (k + 1)) := by
  have ho := h.op k _ (Array.getElem?_eq_getElem hk)
  obtain ⟨b, q1, q2, q3⟩ := ho.on (S k) (Alike.refl _ _ _)
  rw [ho.run] at q1
  injection q1 with q1
  injection q1 with _ q1
  rw [q1]; exact q2
theorem Line.lens {ops : Array Oper} {S : Nat → St} {F : Nat → Foot} (h : Line T Γ ops S F) : ∀ k, k ≤ ops.size → (S k).slots.length = (S 0).slots.length ∧ (S k).objs.length = (S 0).objs.length
  | 0, _ => ⟨rfl, rfl⟩
  | k + 1, hk => by
    obtain ⟨a, b⟩ := Line.lens h k (by omega)
    have := h.same (k := k) (by omega)
    exact ⟨this.sl.symm.trans a, this.ol.symm.trans b⟩

/-- What may come up next does what it did in order. -/
theorem At.next {ops : Array Oper} {S : Nat → St} {F : Nat → Foot} {listed : Array Bool} {σ : St} (hl : Line T Γ ops S F) (h : At ops S F listed σ) {i : Nat} {o : Oper} (hi : i < ops.size) (ho : ops[i]? = some o) (hun : listed.getD i true = false)
    (hall : ∀ e ∈ o.after, Region.binds .any e = true → listed.getD e.on false = true) :
    ∃ σ', (stepP T Γ ops.toList o).run σ = some ((), σ') ∧ At ops S F (listed.setIfInBounds i true) σ' := by
  have hf2t : ∀ k, listed.getD k false = true → listed.getD k true = true := fun k hk => by
    rw [Array.getD_eq_getD_getElem?] at hk ⊢
    cases hq : listed[k]? with
    | none => rfl
    | some b => rw [hq] at hk; exact hk
  have hbef : ∀ k b, (Region.before ops)[i]? = some b → b.testBit k = true → listed.getD k true = true := fun k b hb hk => by
    obtain ⟨o', p1, e, p2, p3, p4⟩ := before_spec hb hk
    rw [ho] at p1
    injection p1 with p1
    subst p1
    rcases p4 with rfl | ⟨b', p5, p6⟩
    · exact hf2t _ (hall e p2 p3)
    · have hlt : e.on < ops.size := by
        have := (Array.getElem?_eq_some_iff.1 (show listed[e.on]? = some true from by
          have := hall e p2 p3
          rw [Array.getD_eq_getD_getElem?] at this
          cases hq : listed[e.on]? with
          | none => rw [hq] at this; cases this
          | some b => rw [hq] at this; simp at this; rw [this])).1
        rw [h.size] at this; exact this
      exact h.closed _ _ _ p5 hlt (hf2t _ (hall e p2 p3)) p6
  have hafter : ∀ k, i < k → k < ops.size → listed.getD k true = true → apartF (F k) (F i) = true := fun k hk hkn hL => by
    rcases hl.ap k i hk hkn with ⟨b, q1, q2⟩ | q
    · have := h.closed k b i q1 hkn hL q2
      rw [hun] at this; cases this
    · exact q
  have hbefore : ∀ k, k < i → listed.getD k true = true ∨ apartF (F i) (F k) = true := fun k hk => by
    rcases hl.ap i k hk hi with ⟨b, q1, q2⟩ | q
    · exact .inl (hbef k b q1 q2)
    · exact .inr q
  have hXs : ∀ s k, k < ops.size → (F k).ws.testBit s = false → (S (k + 1)).slots[s]? = (S k).slots[s]? := fun s k hk hw => ((hl.same hk).s s hw).symm
  have hXo : ∀ s k, k < ops.size → (F k).wo.testBit s = false → (S (k + 1)).objs[s]? = (S k).objs[s]? := fun s k hk hw => ((hl.same hk).o s hw).symm
  have hop := hl.op i o ho
  obtain ⟨l1, l2⟩ := hl.lens i (by omega)
  have hal1 : ∀ s, (F i).rs.testBit s = true → (S i).slots[s]? = σ.slots[s]? := fun s hs => by
    refine ((h.s s).at (fun k hk hw => hXs s k hk hw) i (by omega) (fun k hk hw => ?_) (fun k hk hkn hL => ?_)).symm
    · rcases hbefore k hk with q | q
      · exact q
      · have := (apartF_s q s).2 hs
        rw [this] at hw; cases hw
    · by_cases e : k = i
      · subst e; rw [hun] at hL; cases hL
      · have q := hafter k (by omega) hkn hL
        cases hw : (F k).ws.testBit s
        · rfl
        · have := ((apartF_s q s).1 hw).1
          rw [hs] at this; cases this
  have hal2 : ∀ s, (F i).ro.testBit s = true → (S i).objs[s]? = σ.objs[s]? := fun s hs => by
    refine ((h.o s).at (fun k hk hw => hXo s k hk hw) i (by omega) (fun k hk hw => ?_) (fun k hk hkn hL => ?_)).symm
    · rcases hbefore k hk with q | q
      · exact q
      · have := (apartF_o q s).2 hs
        rw [this] at hw; cases hw
    · by_cases e : k = i
      · subst e; rw [hun] at hL; cases hL
      · have q := hafter k (by omega) hkn hL
        cases hw : (F k).wo.testBit s
        · rfl
        · have := ((apartF_o q s).1 hw).1
          rw [hs] at this; cases this
  have hal : Alike (F i).rs (F i).ro (S i) σ := ⟨l1.trans h.sl.symm, l2.trans h.ol.symm, hal1, hal2⟩
  obtain ⟨σ', z1, z2, z3⟩ := hop.on σ hal
  have hLi : ∀ k, k < ops.size → ((listed.getD k true = true ∨ k = i) ↔ (listed.setIfInBounds i true).getD k true = true) := fun k hk => by
    by_cases e : k = i
    · subst e
      have hks : k < listed.size := by rw [h.size]; exact hi
      simp [hks]
    · rw [getD_set_ne true (Ne.symm e)]
      simp [e]
  refine ⟨σ', z1, by simp [h.size], fun j b k hb hj hL hk => ?_, z2.sl.symm.trans h.sl, z2.ol.symm.trans h.ol, fun s => ?_, fun s => ?_⟩
  · have hk' : listed.getD k true = true := by
      rcases (hLi j hj).2 hL with q | q
      · exact h.closed j b k hb hj q hk
      · subst q; exact hbef k b hb hk
    by_cases e : k = i
    · subst e; rw [hun] at hk'; cases hk'
    · rw [getD_set_ne true (Ne.symm e)]; exact hk'
  · refine ((h.s s).step hi (fun hw => (z3.s s hw).symm) (fun hw => (z2.s s hw).symm) (fun k hk hkn hL hw => ?_)).congr hLi
    have q := hafter k hk hkn hL
    cases hwk : (F k).ws.testBit s
    · rfl
    · have := ((apartF_s q s).1 hwk).2
      rw [hw] at this; cases this
  · refine ((h.o s).step hi (fun hw => (z3.o s hw).symm) (fun hw => (z2.o s hw).symm) (fun k hk hkn hL hw => ?_)).congr hLi
    have q := hafter k hk hkn hL
    cases hwk : (F k).wo.testBit s
    · rfl
    · have := ((apartF_o q s).1 hwk).2
      rw [hw] at this; cases this

/-- Where nothing may come up, all has been. -/
theorem At.end {ops : Array Oper} {S : Nat → St} {F : Nat → Foot} {listed : Array Bool} {σ : St} (hl : Line T Γ ops S F) (h : At ops S F listed σ) (hr : Region.ready .any ops listed = []) : σ = S ops.size := by
  have hall : ∀ k, k < ops.size → listed.getD k true = true := by
    intro k
    induction k using Nat.strongRecOn with
    | _ k ih =>
      intro hk
      cases hq : listed.getD k true with
      | true => rfl
      | false =>
        have : k ∈ Region.ready .any ops listed := mem_ready.2 ⟨hq, ops[k], Array.getElem?_eq_getElem hk, fun e he hb => by
          have hlt := backs_spec hl.back (Array.getElem?_eq_getElem hk) e he hb
          have := ih e.on hlt (by omega)
          rw [Array.getD_eq_getD_getElem?] at this ⊢
          rw [Array.getElem?_eq_getElem (show e.on < listed.size by rw [h.size]; omega)] at this ⊢
          exact this⟩
        rw [hr] at this; cases this
  have hXs : ∀ s k, k < ops.size → (F k).ws.testBit s = false → (S (k + 1)).slots[s]? = (S k).slots[s]? := fun s k hk hw => ((hl.same hk).s s hw).symm
  have hXo : ∀ s k, k < ops.size → (F k).wo.testBit s = false → (S (k + 1)).objs[s]? = (S k).objs[s]? := fun s k hk hw => ((hl.same hk).o s hw).symm
  have e1 : σ.slots = (S ops.size).slots := List.ext_getElem? fun s => (h.s s).at (fun k hk hw => hXs s k hk hw) ops.size (Nat.le_refl _) (fun k hk _ => hall k hk) (fun k hk hkn => by omega)
  have e2 : σ.objs = (S ops.size).objs := List.ext_getElem? fun s => (h.o s).at (fun k hk hw => hXo s k hk hw) ops.size (Nat.le_refl _) (fun k hk _ => hall k hk) (fun k hk hkn => by omega)
  obtain ⟨a, b⟩ := σ
  simp only at e1 e2
  rw [e1, e2]

def unl (listed : Array Bool) (n : Nat) : Nat := ((List.range n).map fun k => if listed.getD k true = true then 0 else 1).sum
theorem unl_set {listed : Array Bool} {n i : Nat} (hi : i < n) (hs : listed.size = n) (hu : listed.getD i true = false) : unl (listed.setIfInBounds i true) n + 1 = unl listed n := by
  unfold unl
  rw [range_split (fun k => if listed.getD k true = true then 0 else 1) i n hi]
  have : ((List.range n).map fun k => if (listed.setIfInBounds i true).getD k true = true then 0 else 1) = (List.range n).map fun k => if k = i then 0 else if listed.getD k true = true then 0 else 1 := by
    apply List.map_congr_left
    intro k hk
    by_cases e : k = i
    · subst e
      have hks : k < listed.size := by rw [hs]; exact hi
      simp [hks]
    · rw [getD_set_ne true (Ne.symm e), if_neg e]
  rw [this, if_neg (by rw [hu]; simp)]
  omega

theorem any_wp (hT : TabOk P T) (hΓ : GamOk P W.toWorld Γ) {ops : Array Oper} {S : Nat → St} {F : Nat → Foot} (hl : Line T Γ ops S F) {Q : Exit → Act → World → Prop} : ∀ (fuel : Nat) (listed : Array Bool) {σ : St} {w : World} {a : Act} {G : List Gh} {frz imm : Nat → Prop}, At ops S F listed σ → unl listed ops.size ≤ fuel →
    Rep W σ w a.tmps G [] frz imm → (∀ w' tm' G' f' i', Rep W (S ops.size) w' tm' G' [] f' i' → Ext w frz imm w' f' i' → Q .normal ⟨tm', a.defers⟩ w') → wpAny P .any ops Q fuel listed a w
  | 0, listed, σ, w, a, G, frz, imm, hat, hfu, hrep, hQ => by
    have hr : Region.ready .any ops listed = [] := by
      cases hq : Region.ready .any ops listed with
      | nil => rfl
      | cons i l =>
        have hi : i ∈ Region.ready .any ops listed := by rw [hq]; exact List.mem_cons_self
        obtain ⟨h1, o, h2, _⟩ := mem_ready.1 hi
        have := unl_set (Array.getElem?_eq_some_iff.1 h2).1 hat.size h1
        omega
    refine ⟨hr, ?_⟩
    have e := hat.end hl hr
    subst e
    exact hQ w a.tmps G frz imm hrep (Ext.refl _ _ _)
  | fuel + 1, listed, σ, w, a, G, frz, imm, hat, hfu, hrep, hQ => by
    refine ⟨fun hr => ?_, fun i hi => ?_⟩
    · have e := hat.end hl hr
      subst e
      exact hQ w a.tmps G frz imm hrep (Ext.refl _ _ _)
    · obtain ⟨h1, o, h2, h3⟩ := mem_ready.1 hi
      have hin := (Array.getElem?_eq_some_iff.1 h2).1
      obtain ⟨σ', z1, z2⟩ := hat.next hl hin h2 h1 h3
      refine step_ok hT hΓ h2 hrep z1 (fun w' tm' G' f' i' hr' he => ?_)
      have := unl_set hin hat.size h1
      exact any_wp hT hΓ hl fuel _ (a := ⟨tm', a.defers⟩) z2 (by omega) hr' (fun w'' tm'' G'' f'' i'' hr'' he' => hQ w'' tm'' G'' f'' i'' hr'' (he.trans he'))

theorem Below.drew (w : World) : Go.RowKit.Below w.heap.size w { w with drawn := w.drawn + 1 } := ⟨rfl, rfl, rfl, Nat.le_refl _, fun _ _ => rfl⟩

/-- A region. -/
theorem reg_wp (hm : P.follows .mixedOrders = true) (hT : TabOk P T) (hΓ : GamOk P W.toWorld Γ) {id : Nat} {ops : Array Oper} {draw : Bool} (hb : draw = true → backs ops = true) {Q : Exit → Act → World → Prop} {st : St} {w : World} {a : Act} {G : List Gh} {frz imm : Nat → Prop} {K : St → Option ρ} {r : ρ}
    (hrep : Rep W st w a.tmps G [] frz imm) (hr : evReg T Γ ops draw st K = some r) (hQ : ∀ st' w' tm' G' f' i', K st' = some r → Rep W st' w' tm' G' [] f' i' → Ext w frz imm w' f' i' → Q .normal ⟨tm', a.defers⟩ w') :
    (Code.region id ops draw).wp P Q a w := by
  unfold evReg at hr
  cases draw with
  | false =>
    refine wp_region ?_
    have := seq_wp hT hΓ (Q := Q) ops.toList 0 (by simp) hrep hr (fun st' w' tm' G' f' i' fs' hk hr' he => hQ st' w' tm' G' f' i' (by simpa using hk) hr' he)
    rw [List.range_eq_range']
    simpa using this
  | true =>
    refine wp_region_any hm ?_
    obtain ⟨S, Fs, q1, q2, q3, q4⟩ := evOps_seq ops.toList 0 st [] _ r hr
    simp only [List.append_nil, List.reverse_reverse, Bool.not_true, Bool.false_or] at q3
    split at q3
    · rename_i hap
      have hsp := apartAll_spec hap
      obtain ⟨_, g2⟩ := hrep.grow (Below.drew w)
      have hline : Line T Γ ops S (fun k => Fs.getD k ⟨0, 0, 0, 0⟩) := ⟨fun k o hk => by
        have hk' : k < ops.size := (Array.getElem?_eq_some_iff.1 hk).1
        have hf : k < Fs.length := by rw [q2]; simpa using hk'
        have := q4 k (by simpa using hk') hf
        have e1 : ops.toList[k]'(by simpa using hk') = o := by
          have := hk
          rw [Array.getElem?_eq_getElem hk'] at this
          injection this with this
        rw [e1] at this
        simp only [List.getD_eq_getElem?_getD, List.getElem?_eq_getElem hf, Option.getD_some]
        exact this, fun i k hk hi => by
        have hf : i < Fs.length := by rw [q2]; simpa using hi
        obtain ⟨b, p1, p2⟩ := hsp i hf
        have hfk : k < Fs.length := by omega
        have := p2 k (by simpa using hk) (by simpa using hfk)
        rcases this with q | q
        · exact .inl ⟨b, by rw [← Array.getElem?_toList]; exact p1, q⟩
        · right
          simp only [List.getD_eq_getElem?_getD, List.getElem?_eq_getElem hf, List.getElem?_eq_getElem hfk, Option.getD_some]
          simpa using q, hb rfl⟩
      have hunl : ∀ k, k < ops.size → (Array.replicate ops.size false).getD k true = false := fun k hk => by simp [hk]
      refine any_wp hT hΓ hline ops.size _ (σ := st) (by
        refine ⟨by simp, fun j b k _ hj hL => ?_, by rw [q1], by rw [q1], fun s => ⟨fun k hk hL => ?_, fun _ => (by show st.slots[s]? = (S 0).slots[s]?; rw [q1])⟩, fun s => ⟨fun k hk hL => ?_, fun _ => (by show st.objs[s]? = (S 0).objs[s]?; rw [q1])⟩⟩
        · rw [hunl j hj] at hL; cases hL
        · simp only [hunl k hk] at hL; cases hL
        · simp only [hunl k hk] at hL; cases hL) ?_ g2 (fun w' tm' G' f' i' hr' he => ?_)
      · unfold unl
        have : ∀ (L : List Nat), (L.map fun k => if (Array.replicate ops.size false).getD k true = true then 0 else 1).sum ≤ L.length := fun L => by
          induction L with
          | nil => simp
          | cons x xs ih => simp only [List.map_cons, List.sum_cons, List.length_cons]; split <;> omega
        have := this (List.range ops.size)
        simpa using this
      · refine hQ _ w' tm' G' f' i' ?_ hr' ⟨he.size, he.same, he.fz, he.im, he.new⟩
        have : ops.toList.length = ops.size := by simp
        rw [← this]; exact q3
    · cases q3
end Go.Eva
end
section
/- The state at the head of a loop. -/
namespace Go.Eva
set_option linter.unusedVariables false
set_option linter.unusedSimpArgs false
variable {P : Program} {W : Root} {T : Tab} {Γ : Gam} {ρ : Type}

theorem normL_len (objs : List Ob) (kept : Nat) : ∀ l : List AV, (normL objs kept l).length = l.length
  | [] => rfl
  | v :: r => by simp [normL, normL_len objs kept r]
theorem normL_get (objs : List Ob) (kept : Nat) : ∀ (l : List AV) (i : Nat) (h : i < (normL objs kept l).length) (h' : i < l.length), (normL objs kept l)[i] = normA objs kept l[i]
  | [], i, _, h' => by cases h'
  | v :: r, 0, _, _ => rfl
  | v :: r, i + 1, h, h' => normL_get objs kept r i (by simpa [normL] using h) (by simpa using h')
theorem normS_len (objs : List Ob) (kept m : Nat) : ∀ (s : Nat) (l : List AV), (normS objs kept m s l).length = l.length
  | _, [] => rfl
  | s, v :: r => by simp [normS, normS_len objs kept m (s + 1) r]
theorem normS_get (objs : List Ob) (kept m : Nat) : ∀ (s : Nat) (l : List AV) (i : Nat) (h : i < (normS objs kept m s l).length) (h' : i < l.length), (normS objs kept m s l)[i] = if m.testBit (s + i) = true then normA objs kept l[i] else .dead
  | _, [], i, _, h' => by cases h'
  | s, v :: r, 0, _, _ => rfl
  | s, v :: r, i + 1, h, h' => by
    have := normS_get objs kept m (s + 1) r i (by simpa [normS] using h) (by simpa using h')
    simp only [normS, List.getElem_cons_succ, this]
    rw [show s + 1 + i = s + (i + 1) by omega]
def normOb (objs : List Ob) (kept : Nat) (o : Nat) (ob : Ob) : Ob := if kept.testBit o = true then ⟨ob.real, normL objs kept ob.cells, 0, 0⟩ else Ob.none
theorem normO_len (objs : List Ob) (kept : Nat) : ∀ (s : Nat) (l : List Ob), (normO objs kept s l).length = l.length
  | _, [] => rfl
  | s, v :: r => by simp [normO, normO_len objs kept (s + 1) r]
theorem normO_get (objs : List Ob) (kept : Nat) : ∀ (s : Nat) (l : List Ob) (i : Nat) (h : i < (normO objs kept s l).length) (h' : i < l.length), (normO objs kept s l)[i] = normOb objs kept (s + i) l[i]
  | _, [], i, _, h' => by cases h'
  | s, v :: r, 0, _, _ => rfl
  | s, v :: r, i + 1, h, h' => by
    have := normO_get objs kept (s + 1) r i (by simpa [normO] using h) (by simpa using h')
    simp only [normO, List.getElem_cons_succ, this]
    rw [show s + 1 + i = s + (i + 1) by omega]

theorem grow_bit (n m : Nat) : ∀ (s : Nat) (l : List Ob) (i : Nat), i < l.length → n ≤ s + i → (grow n m s l).testBit (s + i) = true
  | s, [], i, h, _ => by cases h
  | s, ob :: r, 0, _, hn => by
    simp only [grow, Nat.testBit_or, Bool.or_eq_true, Nat.add_zero]
    left
    rw [if_pos (.inr hn), Nat.testBit_or, Nat.one_shiftLeft, Nat.testBit_two_pow]
    simp
  | s, ob :: r, i + 1, h, hn => by
    simp only [grow, Nat.testBit_or, Bool.or_eq_true]
    right
    have := grow_bit n m (s + 1) r i (by simpa using h) (by omega)
    rw [show s + 1 + i = s + (i + 1) by omega] at this
    exact this
theorem kept_bit (st : St) (m o : Nat) (ho : o < st.objs.length) (hn : st.slots.length ≤ o) : (keptOf st m).testBit o = true := by
  have := grow_bit st.slots.length (grow st.slots.length (grow st.slots.length (rootsM m 0 st.slots) 0 st.objs) 0 st.objs) 0 st.objs o ho (by omega)
  rw [Nat.zero_add] at this
  exact this

def normGh (kept : Nat) (o : Nat) (ob : Ob) (g : Gh) : Gh :=
  if kept.testBit o = true then ⟨g.addr, g.hd, (List.range ob.cells.length).map fun i => if isNapp (ob.cells.getD i .dead) = true then [] else g.fps.getD i []⟩ else ⟨none, [], []⟩

section
variable {st : St} {w : World} {tm : Array Value} {G : List Gh} {H : List Hd} {frz imm : Nat → Prop}

/-- The ghosts of a state made simple. -/
def normG (kept : Nat) (objs : List Ob) (G : List Gh) : List Gh := (List.range objs.length).map fun o => normGh kept o (objs.getD o Ob.none) (ghd G o)

theorem normG_get {kept : Nat} {objs : List Ob} {G : List Gh} {o : Nat} (ho : o < objs.length) : (normG kept objs G)[o]? = some (normGh kept o objs[o] (ghd G o)) := by
  simp [normG, ho]

theorem okRef_spec {objs : List Ob} {kept o : Nat} {pth : Option (Int × Nat)} {rv nv : Nat} (h : okRef objs kept o pth rv nv = true) : kept.testBit o = true ∧ (objs.getD o Ob.none).rv = rv ∧ ∀ p, pth = some p → (objs.getD o Ob.none).nv = nv := by
  unfold okRef at h
  simp only [Bool.and_eq_true, beq_iff_eq] at h
  refine ⟨h.1.1, h.1.2, fun p hp => ?_⟩
  subst hp
  simpa using h.2

theorem normL_getD_sl {objs : List Ob} {kept : Nat} {l : List AV} {c : Nat} {m : Md} {e : TypeId} {κ : Kd} {x : List κ.T} (h : l.getD c .dead = .sl m e κ x) : (normL objs kept l).getD c .dead = .sl m e κ x := by
  obtain ⟨h1, h2⟩ := getD_some h (by simp)
  rw [List.getD_eq_getElem?_getD, List.getElem?_eq_getElem (by rw [normL_len]; exact h1), Option.getD_some, normL_get _ _ _ _ _ h1, h2]
  rfl

/-- What a slot says, in the simpler state. -/
theorem norm_R0 (h : Rep W st w tm G H frz imm) (kept : Nat) {a : AV} {v : Value} (hr : R0 (ctx st G w frz imm) a v) : R0 ⟨normO st.objs kept 0 st.objs, normG kept st.objs G, w, frz, imm⟩ (normA st.objs kept a) v := by
  have ptr : ∀ {o c : Nat} {v : Value}, kept.testBit o = true → PtR G o c v → PtR (normG kept st.objs G) o c v := fun {o c v} hk hp => by
    obtain ⟨g, b, q1, q2, q3⟩ := hp
    have ho : o < st.objs.length := by rw [← h.len]; exact (List.getElem?_eq_some_iff.1 q1).1
    refine ⟨_, b, normG_get ho, ?_, q3⟩
    unfold normGh
    rw [if_pos hk, ghd_get q1]
    exact q2
  have obj : ∀ {o : Nat} {ob : Ob} {g : Gh}, kept.testBit o = true → st.objs[o]? = some ob → G[o]? = some g → (normO st.objs kept 0 st.objs)[o]? = some ⟨ob.real, normL st.objs kept ob.cells, 0, 0⟩ ∧ ∃ g', (normG kept st.objs G)[o]? = some g' ∧ g'.hd = g.hd := fun {o ob g} hk q1 q2 => by
    obtain ⟨ho, e⟩ := List.getElem?_eq_some_iff.1 q1
    refine ⟨?_, _, normG_get ho, ?_⟩
    · rw [List.getElem?_eq_getElem (by rw [normO_len]; exact ho), normO_get _ _ _ _ _ _ ho, Nat.zero_add, normOb, if_pos hk, e]
    · unfold normGh
      rw [if_pos hk, ghd_get q2]
  cases a with
  | dead => exact True.intro
  | int k n => exact hr
  | bool b => exact hr
  | str s => exact hr
  | nilp => exact hr
  | nils => exact hr
  | fn f caps =>
    simp only [normA]
    split
    · rename_i hk
      rw [List.all_eq_true] at hk
      obtain ⟨cv, h1, h2, h3⟩ := hr
      exact ⟨cv, h1, h2, fun i x y => ptr (hk _ (List.getElem_mem x)) (h3 i x y)⟩
    · exact True.intro
  | ptr o c =>
    simp only [normA]
    split
    · rename_i hk
      exact ptr hk hr
    · exact True.intro
  | ep o c pth rv nv i k =>
    simp only [normA]
    split
    · rename_i hk
      obtain ⟨k1, k2, k3⟩ := okRef_spec hk
      obtain ⟨h0, ob, g, q1, q2, q3, q4, q5⟩ := hr
      have eo : st.objs.getD o Ob.none = ob := by
        have q1 : st.objs[o]? = some ob := q1
        rw [List.getD_eq_getElem?_getD, q1]; rfl
      rw [eo] at k2 k3
      obtain ⟨z1, g', z2, z3⟩ := obj k1 q1 q2
      refine ⟨h0, _, g', z1, z2, Nat.zero_le _, Nat.zero_le _, ?_⟩
      match pth, q5 with
      | none, q5 =>
        intro _
        obtain ⟨m, e, κ, l, b, off, len, cap, a1, a2, a3, a4, a5⟩ := q5 k2
        exact ⟨m, e, κ, l, b, off, len, cap, normL_getD_sl a1, by rw [z3]; exact a2, a3, a4, a5⟩
      | some (i0, k0), q5 =>
        intro _ _
        obtain ⟨m, e, κ, l, s, b, off, len, cap, b1, off1, len1, cap1, a1, a2, a3, a4⟩ := q5 k2 (k3 _ rfl)
        exact ⟨m, e, κ, l, s, b, off, len, cap, b1, off1, len1, cap1, normL_getD_sl a1, a2, by rw [z3]; exact a3, a4⟩
    · exact True.intro
  | sr o c pth rv nv rng =>
    simp only [normA]
    split
    · rename_i hk
      obtain ⟨k1, k2, k3⟩ := okRef_spec hk
      obtain ⟨h0, ob, g, q1, q2, q3, q4, q5⟩ := hr
      have eo : st.objs.getD o Ob.none = ob := by
        have q1 : st.objs[o]? = some ob := q1
        rw [List.getD_eq_getElem?_getD, q1]; rfl
      rw [eo] at k2 k3
      obtain ⟨z1, g', z2, z3⟩ := obj k1 q1 q2
      refine ⟨h0, _, g', z1, z2, Nat.zero_le _, Nat.zero_le _, ?_⟩
      match pth, q5 with
      | none, q5 =>
        intro _
        obtain ⟨m, e, κ, l, hv, a1, a2, a3⟩ := q5 k2
        exact ⟨m, e, κ, l, hv, normL_getD_sl a1, by rw [z3]; exact a2, a3⟩
      | some (i0, k0), q5 =>
        intro _ _
        obtain ⟨m, e, κ, l, s, b, off, len, cap, hv, a1, a2, a3, a4⟩ := q5 k2 (k3 _ rfl)
        exact ⟨m, e, κ, l, s, b, off, len, cap, hv, normL_getD_sl a1, a2, by rw [z3]; exact a3, a4⟩
    · exact True.intro
  | nr d rv => exact True.intro
  | rp cs => exact (show False from hr).elim
  | agg cs => exact (show False from hr).elim
  | tup cs => exact (show False from hr).elim
  | napp => exact (show False from hr).elim
  | sl m e κ l =>
    cases m with
    | imm b => exact hr
    | own => exact (show False from hr).elim
    | mix b => exact (show False from hr).elim

theorem norm_R2 (h : Rep W st w tm G H frz imm) (kept : Nat) {a : AV} {v : Value} (hr : R2 (ctx st G w frz imm) a v) : R2 ⟨normO st.objs kept 0 st.objs, normG kept st.objs G, w, frz, imm⟩ (normA st.objs kept a) v := by
  have fix : ∀ {a : AV} {v : Value}, avFix a = true → R0 (ctx st G w frz imm) a v → R0 ⟨normO st.objs kept 0 st.objs, normG kept st.objs G, w, frz, imm⟩ a v := fun {a v} hf hr => by
    cases a with
    | sl m e κ l => cases m <;> first | exact hr | cases hf
    | int => exact hr
    | bool => exact hr
    | str => exact hr
    | nilp => exact hr
    | nils => exact hr
    | _ => cases hf
  cases a with
  | tup => exact True.intro
  | agg => exact True.intro
  | rp cs =>
    simp only [normA]
    split
    · rename_i hk
      rw [List.all_eq_true] at hk
      obtain ⟨b, off, h1, h2⟩ := hr
      refine ⟨b, off, h1, fun j hj => ?_⟩
      obtain ⟨h3, u, h4, h5⟩ := h2 j hj
      exact ⟨h3, u, h4, fix (hk _ (List.getElem_mem hj)) h5⟩
    · exact True.intro
  | dead => exact True.intro
  | int k n => exact (R0.R1 (norm_R0 h kept (a := .int k n) hr)).R2
  | bool b => exact (R0.R1 (norm_R0 h kept (a := .bool b) hr)).R2
  | str x => exact (R0.R1 (norm_R0 h kept (a := .str x) hr)).R2
  | nilp => exact (R0.R1 (norm_R0 h kept (a := .nilp) hr)).R2
  | nils => exact (R0.R1 (norm_R0 h kept (a := .nils) hr)).R2
  | fn f c => exact (R0.R1 (norm_R0 h kept (a := .fn f c) hr)).R2
  | ptr o c => exact (R0.R1 (norm_R0 h kept (a := .ptr o c) hr)).R2
  | ep o c p rv nv i k => exact (R0.R1 (norm_R0 h kept (a := .ep o c p rv nv i k) hr)).R2
  | sl m e κ l => exact (R0.R1 (norm_R0 h kept (a := .sl m e κ l) hr)).R2
  | sr o c p rv nv r => exact (R0.R1 (norm_R0 h kept (a := .sr o c p rv nv r) hr)).R2
  | nr d rv => exact (R0.R1 (norm_R0 h kept (a := .nr d rv) hr)).R2
  | napp o c i k rv nv e κ l => exact (show False from hr).elim

theorem norm_RC (h : Rep W st w tm G H frz imm) (kept : Nat) {a : AV} {v : Value} {fp : List Nat} (hr : RC (ctx st G w frz imm) a v fp) : RC ⟨normO st.objs kept 0 st.objs, normG kept st.objs G, w, frz, imm⟩ (normA st.objs kept a) v (if isNapp a = true then [] else fp) := by
  have mk : ∀ {a : AV}, R0 ⟨normO st.objs kept 0 st.objs, normG kept st.objs G, w, frz, imm⟩ a v → RC ⟨normO st.objs kept 0 st.objs, normG kept st.objs G, w, frz, imm⟩ a v [] := fun {a} q => by
    cases a with
    | sl m e κ l => cases m <;> first | exact ⟨rfl, q⟩ | exact (show False from q).elim
    | napp => exact (show False from q).elim
    | _ => exact ⟨rfl, q⟩
  cases a with
  | sl m e κ l =>
    cases m with
    | own => exact hr
    | mix b => exact hr
    | imm b => exact hr
  | napp => exact ⟨rfl, True.intro⟩
  | _ =>
    obtain ⟨h1, h2⟩ := hr
    subst h1
    exact mk (norm_R0 h kept h2)

theorem Rep.simpler (h : Rep W st w tm G [] frz imm) (m : Nat) : ∃ G', Rep W (norm st m) w tm G' [] frz imm := by
  refine ⟨normG (keptOf st m) st.objs G, ?_⟩
  have hcnt : ∀ o, o < st.objs.length → ∀ b, (normGh (keptOf st m) o (st.objs.getD o Ob.none) (ghd G o)).own.count b ≤ (ghd G o).own.count b := fun o ho b => by
    have hG : o < G.length := by rw [h.len]; exact ho
    obtain ⟨r1, r2, _⟩ := h.objs o ho hG
    unfold normGh
    split
    · simp only [Gh.own, List.count_append]
      have eo : st.objs.getD o Ob.none = st.objs[o] := by rw [List.getD_eq_getElem?_getD, List.getElem?_eq_getElem ho]; rfl
      rw [eo, ghd_get (List.getElem?_eq_getElem hG)]
      have key : ∀ (n : Nat) (fps : List (List Nat)) (p : Nat → Bool), n ≤ fps.length → (((List.range n).map fun i => if p i = true then [] else fps.getD i []).flatten).count b ≤ fps.flatten.count b := by
        intro n fps p hn
        have e1 : (((List.range n).map fun i => if p i = true then [] else fps.getD i []).flatten).count b = ((List.range n).map fun i => (if p i = true then [] else fps.getD i []).count b).sum := by
          rw [List.count_flatten, List.map_map]; rfl
        have e2 : fps.flatten.count b = ((List.range fps.length).map fun i => (fps.getD i []).count b).sum := by
          rw [List.count_flatten]
          congr 1
          apply List.ext_getElem (by simp)
          intro i x y
          have hi : i < fps.length := by simpa using x
          simp [List.getD_eq_getElem?_getD, List.getElem?_eq_getElem hi]
        rw [e1, e2]
        exact sel_le (fun i => (fps.getD i []).count b) fps.length (List.range n) (fun i => (if p i = true then [] else fps.getD i []).count b) List.nodup_range (fun o ho => by have := List.mem_range.1 ho; omega) (fun i => by by_cases q : p i = true <;> simp [q])
      have := key st.objs[o].cells.length G[o].fps (fun i => isNapp (st.objs[o].cells.getD i .dead)) (by omega)
      omega
    · simp [Gh.own]
  have hown : ∀ b, ownc (normG (keptOf st m) st.objs G) [] b ≤ ownc G [] b := fun b => by
    have e1 : ownc (normG (keptOf st m) st.objs G) [] b = ((List.range st.objs.length).map fun o => (normGh (keptOf st m) o (st.objs.getD o Ob.none) (ghd G o)).own.count b).sum := by
      unfold ownc normG
      rw [List.map_map]
      simp only [List.map_nil, List.sum_nil, Nat.zero_add]
      rfl
    rw [e1, ownc_ghd, h.len]
    simp only [List.map_nil, List.sum_nil, Nat.zero_add]
    have mono : ∀ L : List Nat, (∀ o ∈ L, o < st.objs.length) → (L.map fun o => (normGh (keptOf st m) o (st.objs.getD o Ob.none) (ghd G o)).own.count b).sum ≤ (L.map fun o => (ghd G o).own.count b).sum := fun L => by
      induction L with
      | nil => simp
      | cons x xs ih =>
        intro hx
        simp only [List.map_cons, List.sum_cons]
        have := hcnt x (hx x List.mem_cons_self) b
        have := ih (fun o ho => hx o (List.mem_cons_of_mem _ ho))
        omega
    exact mono _ (fun o ho => List.mem_range.1 ho)
  refine {
    base := h.base
    fi := h.fi
    lo := h.lo
    ilt := h.ilt
    len := by simp [normG, norm, normO_len]
    sl := by simp only [norm, normO_len, normS_len]; exact h.sl
    objs := fun o h1 h2 => ?_
    slots := fun s hs => ?_
    tms := by simp only [norm, normS_len]; exact h.tms
    held := fun x hx => by cases hx
    one := fun b => Nat.le_trans (hown b) (h.one b)
    apart := fun b hb => by have := hown b; have := h.apart b hb; omega
    olt := fun b hb => h.olt b (Nat.le_trans hb (hown b))
    pin := fun p hp => ?_ }
  · simp only [norm, normO_len] at h1
    have hG : o < G.length := by rw [h.len]; exact h1
    obtain ⟨r1, r2, r3, r4, r5⟩ := h.objs o h1 hG
    have e1 : (normG (keptOf st m) st.objs G)[o] = normGh (keptOf st m) o st.objs[o] G[o] := by
      have := normG_get (kept := keptOf st m) (G := G) h1
      rw [List.getElem?_eq_getElem h2] at this
      injection this with this
      rw [this, ghd_get (List.getElem?_eq_getElem hG)]
    have e2 : (norm st m).objs[o]'(by simp only [norm, normO_len]; exact h1) = normOb st.objs (keptOf st m) o st.objs[o] := by
      simp only [norm]
      rw [normO_get _ _ _ _ _ _ h1, Nat.zero_add]
    simp only [e1, e2]
    unfold normOb normGh
    split
    · refine ⟨by simp only [normL_len]; exact r1, by simp [normL_len], fun i x y z => ?_, r4, r5⟩
      simp only [normL_len] at x
      simp only [normL_get _ _ _ _ _ x, List.getElem_map, List.getElem_range]
      have := norm_RC h (keptOf st m) (r3 i x (by omega) (by omega))
      rw [List.getD_eq_getElem?_getD, List.getElem?_eq_getElem x, List.getD_eq_getElem?_getD, List.getElem?_eq_getElem (show i < G[o].fps.length by omega)]
      exact this
    · exact ⟨rfl, rfl, fun i x => (by cases x), fun k => (by cases k), fun _ => rfl⟩
  · simp only [norm, normS_len] at hs
    simp only [norm]
    rw [normS_get _ _ _ _ _ _ _ hs, Nat.zero_add]
    split
    · exact norm_R2 h (keptOf st m) (h.slots s hs)
    · exact True.intro
  · obtain ⟨q0, g, q1, q2⟩ := h.pin p hp
    have ho : p.1 < st.objs.length := by rw [← h.len]; exact (List.getElem?_eq_some_iff.1 q1).1
    refine ⟨by simp only [norm, normS_len]; exact q0, _, normG_get ho, ?_⟩
    unfold normGh
    rw [if_pos (kept_bit st m p.1 ho q0), ghd_get q1]
    exact q2
end

theorem frcO_eq : ∀ (os : List Ob) (K : List Ob → Option ρ), frcO os K = K os
  | [], K => rfl
  | ⟨r, cs, v, w⟩ :: os, K => by rw [frcO, frcL_eq, frcO_eq os]
theorem normK_eq (st : St) (m : Nat) (K : St → Option ρ) : normK st m K = K (norm st m) := by
  unfold normK
  rw [frcL_eq, frcO_eq]
end Go.Eva
end
section
/- Control. -/
namespace Go.Eva
set_option linter.unusedVariables false
set_option linter.unusedSimpArgs false
variable {P : Program} {W : Root} {T : Tab} {Γ : Gam} {ρ : Type}

theorem wp_loop_n {Q : Exit → Act → World → Prop} {c : Code} (J : Nat → Act → World → Prop) (round : ∀ n a w, J n a w → c.wp P (Exit.then (fun a' w' => ∃ n', n' < n ∧ J n' a' w') Q) a w) {n : Nat} {a : Act} {w : World} (h₀ : J n a w) : (Code.loop c).wp P Q a w := by
  intro b k cs
  have key : ∀ n a w, J n a w → ∃ e a' w', Q e a' w' ∧ Arrives P (lone (b.at a (.code c :: .inLoop c :: k)) cs w) b k cs e a' w' := by
    intro n
    induction n using Nat.strongRecOn with
    | _ n ih =>
      intro a w hI
      obtain ⟨e, a₁, w₁, hq, harr⟩ := round n a w hI b (.inLoop c :: k) cs
      cases e with
      | normal =>
        obtain ⟨n', hlt, hI₁⟩ := hq
        obtain ⟨e₂, a₂, w₂, hq₂, harr₂⟩ := ih n' hlt a₁ w₁ hI₁
        exact ⟨e₂, a₂, w₂, hq₂, .of_steps (Steps.trans harr (.one step_inLoop)) harr₂⟩
      | exit id => exact ⟨_, a₁, w₁, hq, .pass (x := .inLoop c) rfl (fun _ _ => .inl (by simp)) harr⟩
      | goto l => exact ⟨_, a₁, w₁, hq, .pass (x := .inLoop c) rfl (fun _ _ => .inl (by simp)) harr⟩
      | ret => exact ⟨_, a₁, w₁, hq, .pass (x := .inLoop c) rfl (fun _ _ => .inl (by simp)) harr⟩
      | panic ch => exact ⟨_, a₁, w₁, hq, .pass (x := .inLoop c) rfl (fun _ _ => .inl (by simp)) harr⟩
      | outgrown => exact ⟨_, a₁, w₁, hq, .pass (x := .inLoop c) rfl (fun _ _ => .inl (by simp)) harr⟩
  obtain ⟨e, a', w', hq, harr⟩ := key n a w h₀
  exact ⟨e, a', w', hq, .of_steps (.one step_loop) harr⟩

/-- Every edge of a text's drawn regions points back. -/
def backsCode : Code → Bool
  | .region _ ops draw => !draw || backs ops
  | .seq a b => backsCode a && backsCode b
  | .cond _ a b => backsCode a && backsCode b
  | .block _ b => backsCode b
  | .loop b => backsCode b
  | _ => true

def exOf : Ex → Exit
  | .nrm => .normal
  | .exit id => .exit id
  | .ret => .ret

theorem cond_eval {st : St} {w : World} {a : Act} {G : List Gh} {frz imm : Nat → Prop} (hrep : Rep W st w a.tmps G [] frz imm) {c : Operand} {t : Bool} (h : (match c with | .tmp t => st.slots.getD t .dead | .const v => cst v | _ => .dead) = .bool t) : a.eval c = .bool t := by
  cases c with
  | tmp s =>
    obtain ⟨ht, hte⟩ := getD_some (show st.slots.getD s .dead = .bool t from h) (by simp)
    have hs := hrep.slots s ht
    rw [hte] at hs
    exact hs
  | const v =>
    have := R2.cst (ctx st G w frz imm) v
    rw [show cst v = .bool t from h] at this
    exact this
  | global g => cases h
  | func f => cases h

theorem evK_wp (hm : P.follows .mixedOrders = true) (hT : TabOk P T) (hΓ : GamOk P W.toWorld Γ) {n : Nat} : ∀ (c : Code) (lv : LV) (m : Nat) {st : St} {w : World} {a : Act} {G : List Gh} {frz imm : Nat → Prop} {K : Ex → St → Option ρ} {r : ρ} {Q : Exit → Act → World → Prop}, backsCode c = true →
    Rep W st w a.tmps G [] frz imm → evK T Γ n c lv m st K = some r → (∀ e st' w' tm' G' f' i', K e st' = some r → Rep W st' w' tm' G' [] f' i' → Ext w frz imm w' f' i' → Q (exOf e) ⟨tm', a.defers⟩ w') → c.wp P Q a w
  | .skip, lv, m, st, w, a, G, frz, imm, K, r, Q, hb, hrep, hr, hQ => wp_skip (hQ .nrm st w a.tmps G frz imm hr hrep (Ext.refl _ _ _))
  | .region id ops draw, lv, m, st, w, a, G, frz, imm, K, r, Q, hb, hrep, hr, hQ =>
    reg_wp hm hT hΓ (fun hd => by simpa [backsCode, hd] using hb) hrep hr (fun st' w' tm' G' f' i' hk hr' he => hQ .nrm st' w' tm' G' f' i' hk hr' he)
  | .seq x y, lv, m, st, w, a, G, frz, imm, K, r, Q, hb, hrep, hr, hQ => by
    simp only [backsCode, Bool.and_eq_true] at hb
    refine wp_seq (evK_wp hm hT hΓ x lv _ hb.1 hrep hr (fun e st' w' tm' G' f' i' hk hr' he => ?_))
    cases e with
    | nrm => exact evK_wp hm hT hΓ y lv m (a := ⟨tm', a.defers⟩) hb.2 hr' hk (fun e st'' w'' tm'' G'' f'' i'' hk' hr'' he' => hQ e st'' w'' tm'' G'' f'' i'' hk' hr'' (he.trans he'))
    | exit id => exact hQ (.exit id) st' w' tm' G' f' i' hk hr' he
    | ret => exact hQ .ret st' w' tm' G' f' i' hk hr' he
  | .cond c x y, lv, m, st, w, a, G, frz, imm, K, r, Q, hb, hrep, hr, hQ => by
    simp only [backsCode, Bool.and_eq_true] at hb
    simp only [evK] at hr
    split at hr
    · rename_i t hc
      have he := cond_eval hrep hc
      cases t with
      | true => exact wp_cond_true he (evK_wp hm hT hΓ x lv m hb.1 hrep (by simpa using hr) hQ)
      | false => exact wp_cond_false he (evK_wp hm hT hΓ y lv m hb.2 hrep (by simpa using hr) hQ)
    · cases hr
  | .block id b, lv, m, st, w, a, G, frz, imm, K, r, Q, hb, hrep, hr, hQ => by
    refine wp_block (evK_wp hm hT hΓ b _ m hb hrep hr (fun e st' w' tm' G' f' i' hk hr' he => ?_))
    cases e with
    | nrm => exact hQ .nrm st' w' tm' G' f' i' hk hr' he
    | ret => exact hQ .ret st' w' tm' G' f' i' hk hr' he
    | exit i =>
      simp only [exOf, Exit.inBlock]
      simp only at hk
      split at hk
      · rename_i hi
        rw [if_pos hi]; exact hQ .nrm st' w' tm' G' f' i' hk hr' he
      · rename_i hi
        rw [if_neg hi]; exact hQ (.exit i) st' w' tm' G' f' i' hk hr' he
  | .loop b, lv, m, st, w, a, G, frz, imm, K, r, Q, hb, hrep, hr, hQ => by
    simp only [evK, normK_eq] at hr
    obtain ⟨G0, hrep0⟩ := hrep.simpler (liveIn b lv 0)
    refine wp_loop_n (fun k a' w' => a'.defers = a.defers ∧ ∃ st' G' f' i', Rep W st' w' a'.tmps G' [] f' i' ∧ Ext w frz imm w' f' i' ∧ loopN (fun st K => evK T Γ n b lv (liveIn b lv 0) st K) (liveIn b lv 0) k st' K = some r) (fun k a' w' hJ => ?_) (n := n) ⟨rfl, _, G0, frz, imm, hrep0, Ext.refl _ _ _, hr⟩
    obtain ⟨hd, st', G', f', i', h1, h2, h3⟩ := hJ
    cases k with
    | zero => cases h3
    | succ k =>
      simp only [loopN] at h3
      refine evK_wp hm hT hΓ b lv _ hb h1 h3 (fun e st'' w'' tm'' G'' f'' i'' hk hr' he => ?_)
      cases e with
      | nrm =>
        simp only [normK_eq] at hk
        obtain ⟨G3, hrep3⟩ := hr'.simpler (liveIn b lv 0)
        exact ⟨k, Nat.lt_succ_self _, hd, _, G3, f'', i'', hrep3, h2.trans he, hk⟩
      | exit id => have := hQ (.exit id) st'' w'' tm'' G'' f'' i'' hk hr' (h2.trans he); rw [← hd] at this; exact this
      | ret => have := hQ .ret st'' w'' tm'' G'' f'' i'' hk hr' (h2.trans he); rw [← hd] at this; exact this
  | .exit id, lv, m, st, w, a, G, frz, imm, K, r, Q, hb, hrep, hr, hQ => wp_exit (hQ (.exit id) st w a.tmps G frz imm hr hrep (Ext.refl _ _ _))
  | .ret, lv, m, st, w, a, G, frz, imm, K, r, Q, hb, hrep, hr, hQ => wp_ret (hQ .ret st w a.tmps G frz imm hr hrep (Ext.refl _ _ _))
  | .rangeFunc .., _, _, _, _, _, _, _, _, _, _, _, _, _, hr, _ => by cases hr
  | .scope .., _, _, _, _, _, _, _, _, _, _, _, _, _, hr, _ => by cases hr
  | .label .., _, _, _, _, _, _, _, _, _, _, _, _, _, hr, _ => by cases hr
  | .goto .., _, _, _, _, _, _, _, _, _, _, _, _, _, hr, _ => by cases hr
  | .refuse .., _, _, _, _, _, _, _, _, _, _, _, _, _, hr, _ => by cases hr
end Go.Eva
end
section
/- A body's beginning. -/
namespace Go.Eva
set_option linter.unusedVariables false
set_option linter.unusedSimpArgs false
variable {P : Program} {W : Root} {T : Tab} {Γ : Gam} {ρ : Type}

theorem ownc_rep (n : Nat) (G : List Gh) (H : List Hd) (b : Nat) : ownc (List.replicate n gh0 ++ G) H b = ownc G H b := by
  unfold ownc
  rw [List.map_append, List.sum_append, List.map_replicate]
  have : (List.replicate n (gh0.own.count b)).sum = 0 := by
    have e : gh0.own.count b = 0 := by simp [gh0, Gh.own]
    rw [e]
    simp
  omega

/-- What is handed in, with room for the slots. -/
theorem Rep.raise {W0 : World} {O : List Ob} {w : World} {G : List Gh} {H : List Hd} {frz imm : Nat → Prop} (h : Rep ⟨W0, []⟩ ⟨[], O⟩ w #[] G H frz imm) (nt : Nat) (hO : ∀ ob ∈ O, ∀ a ∈ ob.cells, avPlain a = true) (hH : ∀ x ∈ H, avLoose x.a = true ∨ (∃ j c, x.a = .ptr j c) ∨ ∃ f caps, x.a = .fn f caps)
    (pins : List (Nat × Nat)) (hpin : ∀ p ∈ pins, nt ≤ p.1 ∧ ∃ g : Gh, G[p.1 - nt]? = some g ∧ g.addr = some p.2) :
    Rep ⟨W0, pins⟩ ⟨List.replicate nt .dead, List.replicate nt Ob.none ++ O⟩ w (Array.replicate nt undef) (List.replicate nt gh0 ++ G) (H.map fun x => ⟨argS nt x.a, x.v, x.fp⟩) frz imm := by
  have hown : ∀ b, ownc (List.replicate nt gh0 ++ G) (H.map fun x => ⟨argS nt x.a, x.v, x.fp⟩) b = ownc G H b := fun b => by
    rw [ownc_rep]
    unfold ownc
    rw [List.map_map]; rfl
  have hlen : G.length = O.length := h.len
  have mv : ∀ {a : AV} {v : Value} {fp : List Nat}, avLoose a = true → RC ⟨O, G, w, frz, imm⟩ a v fp → RC ⟨List.replicate nt Ob.none ++ O, List.replicate nt gh0 ++ G, w, frz, imm⟩ a v fp := fun hl hr =>
    RC.move hr hl (Nat.le_refl _) (fun _ _ => rfl) (fun t b _ hb => ⟨by cases t; exact hb; exact hb, rfl⟩)
  have ptr : ∀ {j c : Nat} {v : Value}, PtR G j c v → PtR (List.replicate nt gh0 ++ G) (nt + j) c v := fun hp => by
    obtain ⟨g, b, q1, q2, q3⟩ := hp
    refine ⟨g, b, ?_, q2, q3⟩
    rw [List.getElem?_append_right (by simp)]
    simpa using q1
  exact {
    base := h.base
    fi := h.fi
    lo := h.lo
    ilt := h.ilt
    len := by simp [hlen]
    sl := by simp
    objs := fun o h1 h2 => by
      by_cases ho : o < nt
      · simp only [List.getElem_append_left (show o < (List.replicate nt Ob.none).length by simpa using ho), List.getElem_append_left (show o < (List.replicate nt gh0).length by simpa using ho), List.getElem_replicate]
        exact ⟨rfl, rfl, fun i x => (by cases x), fun k => (by cases k), fun _ => rfl⟩
      · have ho2 : o - nt < O.length := by simp at h1; omega
        simp only [List.getElem_append_right (show (List.replicate nt Ob.none).length ≤ o by simp; omega), List.getElem_append_right (show (List.replicate nt gh0).length ≤ o by simp; omega), List.length_replicate]
        obtain ⟨r1, r2, r3, r4, r5⟩ := h.objs (o - nt) ho2 (by omega)
        exact ⟨r1, r2, fun i x y z => mv (avPlain.loose (hO _ (List.getElem_mem ho2) _ (List.getElem_mem x))) (r3 i x y z), r4, r5⟩
    slots := fun s hs => by
      simp only [List.getElem_replicate]
      exact True.intro
    tms := by simp
    held := fun x hx => by
      obtain ⟨y, hy, rfl⟩ := List.mem_map.1 hx
      have rc := h.held y hy
      rcases hH y hy with q | ⟨j, c, q⟩ | ⟨f, caps, q⟩
      · have e : argS nt y.a = y.a := by
          generalize y.a = a at q
          cases a <;> first | rfl | cases q
        simp only [e]
        exact mv q rc
      · simp only [q, argS]
        rw [q] at rc
        exact ⟨rc.1, ptr rc.2⟩
      · simp only [q, argS]
        rw [q] at rc
        obtain ⟨r1, cv, r2, r3, r4⟩ := rc
        refine ⟨r1, cv, r2, by simp [r3], fun i a b => ?_⟩
        simp only [List.getElem_map]
        exact ptr (r4 i (by simpa using a) b)
    one := fun b => by rw [hown]; exact h.one b
    apart := fun b hb => by rw [hown]; exact h.apart b hb
    olt := fun b hb => h.olt b (by rw [hown] at hb; exact hb)
    pin := fun p hp => by
      obtain ⟨q0, g, q1, q2⟩ := hpin p hp
      refine ⟨by simpa using q0, g, ?_, q2⟩
      rw [List.getElem?_append_right (by simpa using q0)]
      simpa using q1 }

theorem argS_own (nt : Nat) : ∀ vs : List AV, (vs.map (argS nt)).filter ownC = vs.filter ownC
  | [] => rfl
  | v :: vs => by
    rw [List.map_cons, List.filter_cons, List.filter_cons, argS_own nt vs]
    cases v <;> rfl

theorem set_mid {α : Type} (pre rest : List α) (k : Nat) (d v : α) : (pre ++ List.replicate (k + 1) d ++ rest).set pre.length v = (pre ++ [v]) ++ List.replicate k d ++ rest := by
  rw [List.append_assoc, List.set_append_right _ _ (Nat.le_refl _), Nat.sub_self, List.replicate_succ, List.cons_append, List.set_cons_zero]
  simp
theorem getD_mid {α : Type} (pre rest : List α) (k : Nat) (d d' : α) : (pre ++ List.replicate (k + 1) d ++ rest).getD pre.length d' = d := by
  rw [List.getD_eq_getElem?_getD, List.append_assoc, List.getElem?_append_right (Nat.le_refl _), Nat.sub_self, List.replicate_succ]
  rfl
theorem setA_mid (pre rest : List Value) (k : Nat) (d v : Value) : (pre ++ List.replicate (k + 1) d ++ rest).toArray.setIfInBounds pre.length v = ((pre ++ [v]) ++ List.replicate k d ++ rest).toArray := by
  rw [← set_mid]; simp

/-- The arguments are laid into their slots, one by one. -/
theorem begS_run {O : List Ob} {w : World} {frz imm : Nat → Prop} (nt : Nat) : ∀ (shps : List Shp) (vs : List AV) (Hs : List Hd) (pre : List AV) (preO : List Ob) (preV : List Value) (q : Nat) (G : List Gh), preO.length = pre.length → preV.length = pre.length → Hs.map (·.a) = vs.map (argS nt) → vs.length = (flats shps).length → (∀ x ∈ Hs, isNapp x.a = false) →
    Rep W ⟨pre ++ List.replicate (shps.length + q) .dead, preO ++ List.replicate (shps.length + q) Ob.none ++ O⟩ w (preV ++ List.replicate (shps.length + q) undef).toArray G Hs frz imm →
    ∃ G', Rep W ⟨pre ++ (begS nt pre.length shps vs).1 ++ List.replicate q .dead, preO ++ (begS nt pre.length shps vs).2 ++ List.replicate q Ob.none ++ O⟩ w (preV ++ shV shps (Hs.map (·.v)) ++ List.replicate q undef).toArray G' [] frz imm
  | [], vs, Hs, pre, preO, preV, q, G, h1, h2, h3, h4, h5, h => by
    have hv : vs = [] := List.eq_nil_of_length_eq_zero (by simpa [flats] using h4)
    subst hv
    have hH : Hs = [] := by simpa using h3
    subst hH
    refine ⟨G, ?_⟩
    simpa [begS, shV] using h
  | shp :: shps, vs, Hs, pre, preO, preV, q, G, h1, h2, h3, h4, h5, h => by
    have hk : (flats (shp :: shps)).length = shp.fl.length + (flats shps).length := by simp [flats]
    have hHl : Hs.length = vs.length := by have := congrArg List.length h3; simpa using this
    have hsplit : Hs.take shp.fl.length ++ Hs.drop shp.fl.length = Hs := List.take_append_drop _ _
    have e0 : shps.length + 1 + q = (shps.length + q) + 1 := by omega
    have hl0 : (shp :: shps).length + q = (shps.length + q) + 1 := by simp; omega
    rw [hl0] at h
    have hreal : ((preO ++ List.replicate (shps.length + q + 1) Ob.none ++ O).getD pre.length Ob.none) = Ob.none := by rw [← h1]; exact getD_mid _ _ _ _ _
    -- the slot's value
    have hone : ∃ av, begS nt pre.length (shp :: shps) vs = (av :: (begS nt (pre.length + 1) shps (vs.drop shp.fl.length)).1, ⟨false, (vs.take shp.fl.length).filter ownC, 1, 1⟩ :: (begS nt (pre.length + 1) shps (vs.drop shp.fl.length)).2) ∧
        ∃ v, shV (shp :: shps) (Hs.map (·.v)) = v :: shV shps ((Hs.drop shp.fl.length).map (·.v)) ∧
        ∀ C : Ctx, (∀ i (x : i < (plc pre.length 1 1 0 ((Hs.take shp.fl.length).map (·.a))).length) (y : i < (Hs.take shp.fl.length).length), R0 C (plc pre.length 1 1 0 ((Hs.take shp.fl.length).map (·.a)))[i] (Hs.take shp.fl.length)[i].v) → R2 C av v := by
      have hta : (Hs.take shp.fl.length).map (·.a) = (vs.take shp.fl.length).map (argS nt) := by rw [List.map_take, h3, List.map_take]
      cases shp with
      | one s =>
        refine ⟨(argA pre.length 0 ((vs.take 1).map (argS nt))).getD 0 .dead, ?_, (Hs.map (·.v)).getD 0 undef, ?_, fun C hC => ?_⟩
        · simp only [begS, Shp.fl, List.length_cons, List.length_nil]
        · simp only [shV, Shp.fl, List.length_cons, List.length_nil, List.map_drop]
        · simp only [Shp.fl, List.length_cons, List.length_nil, Nat.zero_add] at hC hta
          rw [argA_eq, ← hta]
          have h0 : 0 < Hs.length := by rw [hHl, h4, hk]; simp [Shp.fl]; omega
          have hpl : 0 < (plc pre.length 1 1 0 ((Hs.take 1).map (·.a))).length := by rw [plc_len]; simp; omega
          have := hC 0 hpl (by simp; omega)
          rw [List.getD_eq_getElem?_getD, List.getElem?_eq_getElem hpl, Option.getD_some, List.getD_eq_getElem?_getD, List.getElem?_eq_getElem (by simpa using h0), Option.getD_some]
          simp only [List.getElem_map, List.getElem_take] at this ⊢
          exact (R0.R1 this).R2
      | agg ss =>
        refine ⟨.agg (argA pre.length 0 ((vs.take ss.length).map (argS nt))), ?_, .agg ((Hs.map (·.v)).take ss.length).toArray, ?_, fun C hC => ?_⟩
        · simp only [begS, Shp.fl]
        · simp only [shV, Shp.fl, List.map_drop]
        · simp only [Shp.fl] at hC hta
          rw [argA_eq, ← hta]
          refine ⟨(Hs.map (·.v)).take ss.length, rfl, by rw [plc_len]; simp, fun i x y => ?_⟩
          have := hC i x (by simp at y ⊢; omega)
          simpa using this
    obtain ⟨av, b1, v, b2, b3⟩ := hone
    have h' : Rep W ⟨pre ++ List.replicate (shps.length + q + 1) .dead, preO ++ List.replicate (shps.length + q + 1) Ob.none ++ O⟩ w (preV ++ List.replicate (shps.length + q + 1) undef).toArray G (Hs.take shp.fl.length ++ Hs.drop shp.fl.length) frz imm := by rw [hsplit]; exact h
    obtain ⟨G1, p1⟩ := place_run (d := pre.length) h' (fun x hx => h5 x (List.mem_of_mem_take hx)) (by simp only [hreal]; rfl) (av := av) (v := v) (by simp only [hreal]; exact b3)
    simp only [hreal] at p1
    have e1 : (pre ++ List.replicate (shps.length + q + 1) AV.dead).set pre.length av = (pre ++ [av]) ++ List.replicate (shps.length + q) .dead := by
      have := set_mid pre [] (shps.length + q) AV.dead av
      simpa using this
    have e2 : ∀ ob, (preO ++ List.replicate (shps.length + q + 1) Ob.none ++ O).set pre.length ob = (preO ++ [ob]) ++ List.replicate (shps.length + q) Ob.none ++ O := fun ob => by rw [← h1]; exact set_mid _ _ _ _ _
    have e3 : (preV ++ List.replicate (shps.length + q + 1) undef).toArray.setIfInBounds pre.length v = ((preV ++ [v]) ++ List.replicate (shps.length + q) undef).toArray := by
      have := setA_mid preV [] (shps.length + q) undef v
      rw [← h2]
      simpa using this
    have e4 : ((Hs.take shp.fl.length).map (·.a)).filter ownC = (vs.take shp.fl.length).filter ownC := by
      rw [List.map_take, h3, ← List.map_take, argS_own]
    rw [e1, e2, e3, e4] at p1
    obtain ⟨G2, p2⟩ := begS_run nt shps (vs.drop shp.fl.length) (Hs.drop shp.fl.length) (pre ++ [av]) (preO ++ [⟨false, (vs.take shp.fl.length).filter ownC, 1, 1⟩]) (preV ++ [v]) q G1 (by simp [h1]) (by simp [h2]) (by rw [List.map_drop, h3, List.map_drop]) (by simp [h4, hk]) (fun x hx => h5 x (List.mem_of_mem_drop hx)) p1
    refine ⟨G2, ?_⟩
    rw [b1, b2]
    have e5 : (pre ++ [av]).length = pre.length + 1 := by simp
    rw [e5] at p2
    simpa [List.append_assoc] using p2
end Go.Eva
end
section
/- Bodies: a function's contract from its text. -/
namespace Go.Eva
set_option linter.unusedVariables false
set_option linter.unusedSimpArgs false
variable {P : Program} {W : Root} {T : Tab} {Γ : Gam} {ρ : Type}

section
variable {st : St} {w : World} {tm : Array Value} {G : List Gh} {H : List Hd} {frz imm : Nat → Prop}

theorem load_obj (h : Rep W st w tm G H frz imm) {t : TypeId} {ti : TI} (hti : TyOk P t ti) {o c : Nat} {v : Value} (hp : PtR G o c v) (hsz : c + ti.size ≤ (st.objs.getD o Ob.none).cells.length) :
    ∃ u p, v = .pointer (some p) ∧ R2 (ctx st G w frz imm) (asVal ti.agg (ldCells o (st.objs.getD o Ob.none) c ti.size ((st.objs.getD o Ob.none).cells.drop c))) u ∧ (loadVar t p).run P w = .ok u w := by
  obtain ⟨g, b, g1, g2, g3⟩ := hp
  have hG : o < G.length := (List.getElem?_eq_some_iff.1 g1).1
  have ho : o < st.objs.length := by rw [← h.len]; exact hG
  have hgd : st.objs.getD o Ob.none = st.objs[o] := by simp [List.getD, List.getElem?_eq_getElem ho]
  have eg : g = G[o] := ((List.getElem?_eq_some_iff.1 g1).2).symm
  subst eg
  rw [hgd] at hsz ⊢
  obtain ⟨r1, r2, r3, r4, r5⟩ := h.objs o ho hG
  have hre : st.objs[o].real = true := by
    cases hr0 : st.objs[o].real with
    | true => rfl
    | false => have := r5 hr0; rw [this] at g2; cases g2
  obtain ⟨b', e', q1, q2⟩ := r4 hre
  rw [g2] at q1
  injection q1 with q1
  subst q1
  have hll := ldCells_len o st.objs[o] ti.size c (st.objs[o].cells.drop c) (by simp; omega)
  obtain ⟨u, u1, u2⟩ := load_cells (C := ctx st G w frz imm) (b := b) (off := c) hti hll (fun j x => by
    have hj : j < ti.size := by omega
    refine ⟨G[o].hd[c + j]'(by omega), ?_, ?_⟩
    · have q2 : w.heap[b]? = some (.cells G[o].hd.toArray e' (0, 0)) := q2
      simp [World.cell?, q2, List.getElem?_eq_getElem (show c + j < G[o].hd.length by omega)]
    · rw [ldCells_get o st.objs[o] _ _ _ j x (by simp; omega)]
      have := ldCell_rel h ho hG (c := c + j) (by omega) (by omega)
      simpa using this)
  refine ⟨u, _, g3, u1, ?_⟩
  simpa [Instr.loadAt, Instr.sureAddr] using u2

theorem resV_run {β : Type} (hT : TabOk P T) {a : Act} (h : Rep W st w a.tmps G H frz imm) : ∀ {rs : List ResultVar} {K : List AV → Prg β} {r : β × St}, (resV T rs K).run st = some r →
    ∃ (vs : List AV) (us : List Value), (K vs).run st = some r ∧ us.length = vs.length ∧ (∀ i (h : i < vs.length) (h' : i < us.length), R2 (ctx st G w frz imm) vs[i] us[i]) ∧
      (rs.mapM fun (x : ResultVar) => (match x with | .tmp t => pure (a.tmps.getD t undef) | .cell p t => do loadVar t (← asAddr (a.tmps.getD p undef)) : Sem Value)).run P w = .ok us w
  | [], K, r, hr => ⟨[], [], hr, rfl, fun i h => (by cases h), by simp⟩
  | .tmp t :: rs, K, r, hr => by
    simp only [resV] at hr
    rw [run_slot] at hr
    obtain ⟨vs, us, q1, q2, q3, q4⟩ := resV_run hT h hr
    refine ⟨st.slots.getD t .dead :: vs, a.tmps.getD t undef :: us, q1, by simp [q2], fun i x y => ?_, ?_⟩
    · cases i with
      | zero =>
        simp only [List.getElem_cons_zero]
        by_cases ht : t < st.slots.length
        · rw [List.getD_eq_getElem?_getD, List.getElem?_eq_getElem ht]
          exact h.slots t ht
        · rw [List.getD_eq_getElem?_getD, List.getElem?_eq_none (Nat.le_of_not_lt ht)]
          exact True.intro
      | succ i => exact q3 i (by simpa using x) (by simpa using y)
    · rw [List.mapM_cons, Sem.run_bind]
      simp only [Sem.run_pure, Result.andThen_ok, Sem.run_bind, q4]
  | .cell t ty :: rs, K, r, hr => by
    simp only [resV] at hr
    rw [run_slot] at hr
    obtain ⟨gv, hgv⟩ : ∃ gv, gv = st.slots.getD t .dead := ⟨_, rfl⟩
    rw [← hgv] at hr
    split at hr
    · rename_i o c ti hti
      obtain ⟨ht, hte⟩ := getD_some hgv.symm (by simp)
      have hs := h.slots t ht
      rw [hte] at hs
      have hs : PtR G o c (a.tmps.getD t undef) := hs
      rw [run_obj] at hr
      split at hr
      · rename_i hsz
        obtain ⟨u, p, e1, e2, e3⟩ := load_obj h (hT.ty ty ti hti) hs hsz
        obtain ⟨vs, us, q1, q2, q3, q4⟩ := resV_run hT h hr
        refine ⟨_ :: vs, u :: us, q1, by simp [q2], fun i x y => ?_, ?_⟩
        · cases i with
          | zero => exact e2
          | succ i => exact q3 i (by simpa using x) (by simpa using y)
        · have ha : (asAddr (a.tmps.getD t undef)).run P w = .ok p w := by rw [e1]; rfl
          rw [List.mapM_cons, Sem.run_bind]
          simp only [Sem.run_bind, ha, Sem.run_pure, Result.andThen_ok, e3, q4]
      · cases hr
    · cases hr

theorem results_run {fn : Func} {tmps : Array Value} {us : List Value} {w : World} (h : (fn.results.toList.mapM fun (x : ResultVar) => (match x with | .tmp t => pure (tmps.getD t undef) | .cell p t => do loadVar t (← asAddr (tmps.getD p undef)) : Sem Value)).run P w = .ok us w) :
    (results fn tmps).run P w = .ok (retVal us) w := by
  unfold results
  rw [Sem.run_bind, Array.mapM_eq_mapM_toList, Sem.run_map]
  have : (fn.results.toList.mapM fun (x : ResultVar) => (match x with | .tmp t => pure (tmps.getD t undef) | .cell p t => do loadVar t (← asAddr (tmps.getD p undef)) : Sem Value)).run P w = .ok us w := h
  erw [this]
  match us with
  | [] => rfl
  | [v] => rfl
  | _ :: _ :: _ => simp [retVal]

theorem ptrOk_spec (nt nIn o : Nat) : ∀ (ss : List Sc) (vs : List AV), ptrOk nt nIn o ss vs = true → ∀ i (h : i < ss.length) (h' : i < vs.length) (j c o' c' : Nat), ss[i] = .ptr j c → vs[i] = .ptr o' c' → c = c' ∧ (j < nIn → o' = nt + j) ∧ (¬ j < nIn → j = nIn ∧ o' = o)
  | [], vs, _, i, h, _, _, _, _, _, _, _ => by cases h
  | s :: ss, [], _, i, _, h, _, _, _, _, _, _ => by cases h
  | s :: ss, v :: vs, hp, i, h, h', j, c, o', c', e1, e2 => by
    have tail : ptrOk nt nIn o ss vs = true := by
      cases s with
      | ptr j c =>
        cases v with
        | ptr o1 c1 =>
          simp only [ptrOk, Bool.and_eq_true] at hp
          exact hp.2
        | _ => cases hp
      | fn => cases hp
      | ep => cases hp
      | sl m e κ =>
        cases m with
        | imm b => cases b <;> first | exact hp | cases hp
        | own => exact hp
        | mix b => exact hp
      | _ => exact hp
    cases i with
    | zero =>
      simp only [List.getElem_cons_zero] at e1 e2
      subst e1 e2
      simp only [ptrOk, Bool.and_eq_true, beq_iff_eq] at hp
      refine ⟨hp.1.1, fun hj => ?_, fun hj => ?_⟩
      · have := hp.1.2
        rw [if_pos hj] at this
        simpa using this
      · have := hp.1.2
        rw [if_neg hj] at this
        simpa using this
    | succ i => exact ptrOk_spec nt nIn o ss vs tail i (by simpa using h) (by simpa using h') j c o' c' e1 e2

theorem newId_lt (nt nIn : Nat) : ∀ (ss : List Sc) (vs : List AV) (o : Nat), newId nt nIn ss vs = some o → o < nt
  | [], _, o, h => by simp [newId] at h
  | s :: ss, [], o, h => by cases s <;> simp [newId] at h
  | s :: ss, v :: vs, o, h => by
    have skip : newId nt nIn ss vs = some o → o < nt := newId_lt nt nIn ss vs o
    cases s with
    | ptr j c =>
      cases v with
      | ptr o' c' =>
        simp only [newId] at h
        split at h
        · rename_i hc
          injection h with h
          rw [← h]; exact hc.2
        · exact skip h
      | _ => exact skip h
    | _ => exact skip h
theorem scRet_arg {n : Nat} {s : Sc} (h : scRet n s = true) : scArg s = true ∧ (∀ e κ, s ≠ .sl (.imm true) e κ) := by
  cases s with
  | sl m e κ =>
    cases m with
    | own => exact ⟨rfl, fun _ _ q => by cases q⟩
    | mix b =>
      cases b with
      | false => exact ⟨rfl, fun _ _ q => by cases q⟩
      | true => cases h
    | imm b =>
      cases b with
      | false => exact ⟨rfl, fun _ _ q => by cases q⟩
      | true => cases h
  | ep => cases h
  | _ => exact ⟨rfl, fun _ _ q => by cases q⟩

/-- The end of a body. -/
theorem fin_run (hT : TabOk P T) {con : Con} {fn : Func} (hok : conOk con = true) (hnt : 0 < fn.ntmps) {a : Act} (h : Rep W st w a.tmps G [] frz imm) {x : _} {st' : St} (hr : (finP T con fn).run st = some (x, st')) :
    ∃ us G' H' f' i', (results fn a.tmps).run P w = .ok (retVal us) w ∧ Ifc W.toWorld con.outs ((ofTs _ x).drop (flats con.rets).length) w G' H' f' i' ∧ H'.map (·.a) = (ofTs _ x).take (flats con.rets).length ∧ us = shV con.rets (H'.map (·.v)) ∧
      Ext w frz imm w f' i' ∧ ∀ (j b : Nat), j < con.objs.length → (fn.ntmps + j, b) ∈ W.pins → ∃ g' : Gh, G'[j]? = some g' ∧ g'.addr = some b := by
  unfold finP at hr
  obtain ⟨vs, us, a1, a2, a3, a4⟩ := resV_run hT h hr
  obtain ⟨cs, us', b1, b2, b3, b4, b5⟩ := flatA_run (C := ctx st G w frz imm) a1 a2 a3
  split at b1
  · rename_i hcond
    simp only [Bool.and_eq_true] at hcond
    have hptr := ptrOk_spec _ _ _ _ _ hcond.1.1
    have hok0 := hok
    simp only [conOk, Bool.and_eq_true, List.all_eq_true, decide_eq_true_eq] at hok0
    obtain ⟨o1, o2, o3, o4, o5, o6⟩ := hok0
    obtain ⟨o0, ho0⟩ : ∃ o0, o0 = (newId fn.ntmps con.objs.length (flats con.rets) cs).getD 0 := ⟨_, rfl⟩
    have ho0lt : o0 < fn.ntmps := by
      rw [ho0]
      cases hq : newId fn.ntmps con.objs.length (flats con.rets) cs with
      | none => exact hnt
      | some o => exact newId_lt _ _ _ _ o hq
    rw [← ho0] at hptr b1
    obtain ⟨ids, hids0⟩ : ∃ ids, ids = outIds fn.ntmps con.objs.length o0 con.outs := ⟨_, rfl⟩
    have hids : ids = (List.range con.objs.length).map (fn.ntmps + ·) ++ (if con.outs.length = con.objs.length then [] else [o0]) := hids0
    rw [← hids0] at b1
    have hidj : ∀ j, j < con.objs.length → ids[j]? = some (fn.ntmps + j) := fun j hj => by
      rw [hids, List.getElem?_append_left (by simpa using hj)]; simp [hj]
    have hidn : con.objs.length < con.outs.length → ids[con.objs.length]? = some o0 := fun hj => by
      rw [hids, if_neg (by omega), List.getElem?_append_right (by simp)]; simp
    have hnd : ids.Nodup := by
      rw [hids]
      have h1 : ((List.range con.objs.length).map (fn.ntmps + ·)).Nodup := List.pairwise_map.2 (List.Pairwise.imp (fun h q => h (by omega)) List.nodup_range)
      split
      · rw [List.append_nil]; exact h1
      · rw [List.nodup_append]
        refine ⟨h1, by simp, fun a ha b hb => ?_⟩
        obtain ⟨j, _, rfl⟩ := List.mem_map.1 ha
        rw [List.mem_singleton.1 hb]
        omega
    obtain ⟨H1, st1, G1, f1, i1, c1, c2, c3, c4, c5, c6, c7, c8, c9⟩ := resAs_run h b1 b2 b5
    obtain ⟨HO, st2, G2, f2, i2, d1, d2, d3, d4, d5, d6, d7, d8, d9, d10⟩ := lendO_run hnd c8 c1
    obtain ⟨x', e1, e2, e3⟩ := toTs_run d1
    injection e1 with e1
    injection e1 with e1 _
    subst e1
    have hxl := ofTs_len _ x'
    have hRC : ∀ y ∈ H1, RC (ctx st2 G2 w f2 i2) y.a y.v y.fp := fun y hy => d4.held y (List.mem_append_right _ (List.mem_append_left _ hy))
    have hn : (flats con.rets).length = (H1.map (·.a)).length := by simp [c3]
    have hcl : (flats con.rets ++ flat2 con.outs).length = (H1.map (·.a) ++ HO.map (·.a)).length := e2.symm
    have hHOe : ∀ i (hi : i < (flat2 con.outs).length) (h1 : i < HO.length), ∃ a', (ofTs _ x')[(flats con.rets).length + i]? = some a' ∧ HO[i].a = a' ∧ avPlain a' = true := fun i hi h1 => by
      have hlt : (flats con.rets).length + i < (flats con.rets ++ flat2 con.outs).length := by simp; omega
      have t := e3 ((flats con.rets).length + i) hlt (by rw [← hcl]; exact hlt) (by rw [hxl]; exact hlt)
      simp only [List.getElem_append_right (show (flats con.rets).length ≤ (flats con.rets).length + i by omega), Nat.add_sub_cancel_left] at t
      rw [List.getElem_append_right (by omega)] at t
      simp only [List.getElem_map, show (flats con.rets).length + i - (H1.map (·.a)).length = i by omega] at t
      refine ⟨_, List.getElem?_eq_getElem (by rw [hxl]; exact hlt), ?_⟩
      have hp := o3 _ (List.getElem_mem hi)
      have hlk := d8 i hi h1
      generalize (flat2 con.outs)[i] = s at t hp hlk
      generalize (ofTs (flats con.rets ++ flat2 con.outs) x')[(flats con.rets).length + i]'_ = a' at t
      cases s with
      | int k => obtain ⟨t1, k', n, t2⟩ := t; exact ⟨t1.symm, by rw [t2]; rfl⟩
      | bool => obtain ⟨t1, n, t2⟩ := t; exact ⟨t1.symm, by rw [t2]; rfl⟩
      | str => obtain ⟨t1, n, t2⟩ := t; exact ⟨t1.symm, by rw [t2]; rfl⟩
      | sl m e κ =>
        obtain ⟨m0, l, t1, t2⟩ := t
        obtain ⟨q0, e', κ', l', q⟩ := hlk
        rw [t1] at q
        injection q with u1 u2 u3 u4
        subst u1 u2 u3
        exact ⟨by rw [t1, t2], by rw [t2, ← t1]; exact q0⟩
      | _ => cases hp
    have hdrop : HO.map (·.a) = (ofTs _ x').drop (flats con.rets).length := by
      apply List.ext_getElem?
      intro i
      rw [List.getElem?_drop]
      by_cases hi : i < HO.length
      · obtain ⟨a', q1, q2, _⟩ := hHOe i (by omega) hi
        rw [q1, List.getElem?_map, List.getElem?_eq_getElem hi]
        simp [q2]
      · rw [List.getElem?_eq_none (by simp; omega), List.getElem?_eq_none (by rw [hxl]; simp; omega)]
    have hplain : ∀ y ∈ HO, avPlain y.a = true := fun y hy => by
      obtain ⟨i, hi, rfl⟩ := List.getElem_of_mem hy
      obtain ⟨a', _, q2, q3⟩ := hHOe i (by omega) hi
      rw [q2]; exact q3
    let HA' : List Hd := List.zipWith (fun a' (y : Hd) => (⟨a', y.v, y.fp⟩ : Hd)) ((ofTs _ x').take (flats con.rets).length) H1
    have hlA : HA'.length = H1.length := by simp [HA', hxl]; omega
    have hgA : ∀ i (y : i < HA'.length) (z : i < H1.length) (z2 : i < (ofTs _ x').length), HA'[i] = ⟨(ofTs _ x')[i], H1[i].v, H1[i].fp⟩ := fun i y z z2 => by simp [HA']
    have hperm : (HO ++ (H1 ++ [])).Perm (H1 ++ HO) := by rw [List.append_nil]; exact List.perm_append_comm
    have d4' := d4.perm hperm
    have hA : ∀ i (z : i < H1.length) (y : i < HA'.length), (HA'[i]).fp = (H1[i]).fp ∧ RC ⟨begO con.outs (HO.map (·.a)), ghO G2 ids con.outs HO, w, f2, i2⟩ HA'[i].a HA'[i].v HA'[i].fp := fun i z y => by
      have z2 : i < (ofTs _ x').length := by rw [hxl]; simp; omega
      rw [hgA i y z z2]
      refine ⟨rfl, ?_⟩
      have hi : i < (flats con.rets).length := by omega
      have t := e3 i (by simp; omega) (by simp; omega) z2
      rw [List.getElem_append_left hi, List.getElem_append_left (show i < (H1.map (·.a)).length by omega)] at t
      have hsr := o4 _ (List.getElem_mem hi)
      obtain ⟨q1, q2⟩ := scRet_arg hsr
      have hb : resB w i2 (flats con.rets)[i] H1[i] (H1.map (·.a))[i] := by
        unfold resB
        split
        · rename_i e κ hs
          exact absurd hs (q2 e κ)
        · simp
      refine arg_rel (C := ctx st2 G2 w f2 i2) (x := H1[i]) (a := (ofTs _ x')[i]) (cs := (H1.map (·.a))[i]) (v := cs[i]'(by omega)) (ids := ids) (imm0 := i2) q1 ?_ (c5 i hi (by omega) z) hb t (hRC _ (List.getElem_mem z)) rfl (fun t b hb => hb) (fun b hb => hb) (fun j o g hj hg => ?_)
      · have hres := c5 i hi (by omega) z
        have hpi := hptr i hi (by omega)
        generalize hs : (flats con.rets)[i] = s at hsr hres hpi
        generalize hv : cs[i]'(by omega) = v at hres hpi
        cases s with
        | ptr j c =>
          cases v with
          | ptr o' c' =>
            have hj := of_decide_eq_true hsr
            obtain ⟨z1, z3, z4⟩ := hpi j c o' c' rfl rfl
            by_cases hjn : j < con.objs.length
            · exact ⟨z1, by rw [z3 hjn]; exact hidj j hjn⟩
            · obtain ⟨z5, z6⟩ := z4 hjn
              exact ⟨z1, by rw [z5, z6]; exact hidn (by omega)⟩
          | _ => exact True.intro
        | fn => cases hsr
        | _ => exact True.intro
      · obtain ⟨hj1, hj2⟩ := List.getElem?_eq_some_iff.1 hj
        obtain ⟨g', q1, q2⟩ := ghO_addr G2 w _ con.outs HO d6 j hj1
        have hg : G2[o]? = some g := hg
        exact ⟨g', q1, by rw [q2, hj2, ghd_get hg]⟩
    have hlen2 : G2.length = st2.objs.length := d4.len
    have hand := Rep.hand (sss := con.outs) (HA' := HA') (imm0 := i2) d4' hnd (fun o ho => by rw [hlen2]; exact (d10 o ho).1) d6 hplain (fun b hb => hb) (fun b hb => .inl hb) hlA hA ⟨W.toWorld, []⟩ rfl (fun p hp => by cases hp)
    refine ⟨us, ghO G2 ids con.outs HO, HA', f2, i2, results_run a4, ?_, ?_, ?_, c9.trans d5, fun j b hj hp => ?_⟩
    · unfold Ifc
      rw [← hdrop]
      exact hand
    · apply List.ext_getElem (by simp [hlA, hxl]; omega)
      intro i q1 q2
      simp only [List.getElem_map, List.getElem_take]
      rw [hgA i (by simpa using q1) (by simp at q1; omega) (by rw [hxl]; simp at q1 ⊢; omega)]
    · have : HA'.map (·.v) = us' := by
        rw [← c2]
        apply List.ext_getElem (by simp [hlA])
        intro i q1 q2
        simp only [List.getElem_map]
        rw [hgA i (by simpa using q1) (by simpa using q2) (by rw [hxl]; simp at q2 ⊢; omega)]
      rw [this]; exact b4
    · obtain ⟨_, g, q1, q2⟩ := d4'.pin _ hp
      have hij := hidj j hj
      obtain ⟨hj', hje⟩ := List.getElem?_eq_some_iff.1 hij
      obtain ⟨g', z1, z2⟩ := ghO_addr G2 w _ con.outs HO d6 j hj'
      refine ⟨g', z1, ?_⟩
      rw [z2, hje, ghd_get q1]
      exact q2
  · cases b1
end

/-- A function whose text is walked from its beginning to its end does what its contract says. -/
theorem body_good_of {W0 : World} (hT : TabOk P T) {f : FuncId} {fn : Func} {c : Code} {con : Con} (hf : P.funcs[f]? = some fn) (hb : fn.body = some c) (hname : (fn.name == "runtime.NumGoroutine") = false) (hok : conOk con = true)
    (hargs' : decide (con.args.length ≤ fn.ntmps) = true) (hnt' : decide (0 < fn.ntmps) = true) 
    (hwp : ∀ x r, con.f x = some r → ∀ (W : Root) (w : World) (tm : Array Value) (G : List Gh) (frz imm : Nat → Prop), W.toWorld = W0 → Rep W (begin_ con fn.ntmps x) w tm G [] frz imm → ∀ Q : Exit → Act → World → Prop,
      (∀ e st' w' tm' G' f' i', evBody.endK T con fn e st' = some r → Rep W st' w' tm' G' [] f' i' → Ext w frz imm w' f' i' → Q (exOf e) ⟨tm', []⟩ w') → c.wp P Q ⟨tm, []⟩ w) : Good P W0 f con := by
  have hargs := of_decide_eq_true hargs'
  have hnt := of_decide_eq_true hnt'
  refine ⟨hok, ⟨fn, hf, by rw [hb]; rfl, hname⟩, fun x r hfx w G H frz imm hI hH => ?_⟩
  have hok0 := hok
  simp only [conOk, Bool.and_eq_true, List.all_eq_true, decide_eq_true_eq] at hok0
  obtain ⟨o1, o2, o3, o4, o5, o6⟩ := hok0
  have hGl : G.length = con.objs.length := by have := hI.len; simp only [begO_len] at this; exact this
  have hxl := ofTs_len _ x
  -- addresses of what is handed in
  have hadr : ∀ j (hj : j < con.objs.length), ∃ b, (G[j]'(by omega)).addr = some b := fun j hj => by
    obtain ⟨_, _, _, r4, _⟩ := hI.objs j (by simp only [begO_len]; exact hj) (by omega)
    have := begO_real con.objs ((ofTs _ x).drop (flats con.args).length) j (by rw [begO_len]; exact hj)
    obtain ⟨b, _, q, _⟩ := r4 (by simp only; rw [this])
    exact ⟨b, q⟩
  let pins : List (Nat × Nat) := (List.range con.objs.length).map fun j => (fn.ntmps + j, ((ghd G j).addr.getD 0))
  have hpin : ∀ p ∈ pins, fn.ntmps ≤ p.1 ∧ ∃ g : Gh, G[p.1 - fn.ntmps]? = some g ∧ g.addr = some p.2 := fun p hp => by
    obtain ⟨j, hj, rfl⟩ := List.mem_map.1 hp
    have hj := List.mem_range.1 hj
    obtain ⟨b, q⟩ := hadr j hj
    refine ⟨by simp, G[j]'(by omega), ?_, ?_⟩
    · simp only [Nat.add_sub_cancel_left]; exact List.getElem?_eq_getElem (by omega)
    · rw [ghd_get (List.getElem?_eq_getElem (show j < G.length by omega)), q]; rfl
  have hHa : ∀ i (hi : i < H.length), ∃ a, shp1 ((flats con.args)[i]'(by have := congrArg List.length hH; simp [hxl] at this; omega)) a ∧ H[i].a = a := fun i hi => by
    have hl := congrArg List.length hH
    simp [hxl] at hl
    have hi' : i < (flats con.args).length := by omega
    obtain ⟨a, z1, z2⟩ := ofTs_shp _ x i (by simp; omega)
    rw [List.getElem_append_left hi'] at z2
    refine ⟨a, z2, ?_⟩
    have := congrArg (·[i]?) hH
    simp only [List.getElem?_map, List.getElem?_eq_getElem hi, List.getElem?_take, if_pos hi', z1] at this
    injection this
  have hHk : ∀ y ∈ H, avLoose y.a = true ∨ (∃ j c, y.a = .ptr j c) ∨ ∃ f caps, y.a = .fn f caps := fun y hy => by
    obtain ⟨i, hi, rfl⟩ := List.getElem_of_mem hy
    obtain ⟨a, z1, z2⟩ := hHa i hi
    rw [z2]
    have hs := o1 _ (List.getElem_mem (show i < (flats con.args).length by have := congrArg List.length hH; simp [hxl] at this; omega))
    generalize (flats con.args)[i]'_ = s at z1 hs
    cases s with
    | int k => obtain ⟨_, rfl⟩ := z1; exact .inl rfl
    | bool => obtain ⟨_, rfl⟩ := z1; exact .inl rfl
    | str => obtain ⟨_, rfl⟩ := z1; exact .inl rfl
    | sl m e κ => obtain ⟨_, rfl⟩ := z1; exact .inl rfl
    | ptr j c => exact .inr (.inl ⟨j, c, z1⟩)
    | fn f caps => exact .inr (.inr ⟨f, caps, z1⟩)
    | nilp => have z1 : a = .nilp := z1; subst z1; exact .inl rfl
    | ep => cases hs
  have hraise := Rep.raise hI fn.ntmps (fun ob hob a ha => by
    obtain ⟨j, hj, rfl⟩ := List.getElem_of_mem hob
    exact begO_plain con.objs _ (ofTs_plain x _ (fun s hs => o2 s (by rw [List.drop_left] at hs; exact hs))) j hj a ha) hHk pins hpin
  have e0 : fn.ntmps = con.args.length + (fn.ntmps - con.args.length) := by omega
  have hHl : ((ofTs _ x).take (flats con.args).length).length = (flats con.args).length := by simp [hxl]
  obtain ⟨G0, hbeg⟩ := begS_run (W := ⟨W0, pins⟩) (O := begO con.objs ((ofTs _ x).drop (flats con.args).length)) fn.ntmps con.args ((ofTs _ x).take (flats con.args).length) (H.map fun y => ⟨argS fn.ntmps y.a, y.v, y.fp⟩) [] [] [] (fn.ntmps - con.args.length) (List.replicate fn.ntmps gh0 ++ G) rfl rfl
    (by rw [← hH, List.map_map, List.map_map]; rfl) hHl (fun y hy => by
      obtain ⟨z, hz, rfl⟩ := List.mem_map.1 hy
      simp only
      rcases hHk z hz with q | ⟨j, c, q⟩ | ⟨f, caps, q⟩
      · generalize z.a = a at q
        cases a <;> first | rfl | cases q
      · rw [q]; rfl
      · rw [q]; rfl) (by rw [← e0]; simpa using hraise)
  have hbl : ∀ (i : Nat) (shps : List Shp) (vs : List AV), (begS fn.ntmps i shps vs).1.length = shps.length ∧ (begS fn.ntmps i shps vs).2.length = shps.length := by
    intro i shps
    induction shps generalizing i with
    | nil => exact fun vs => ⟨rfl, rfl⟩
    | cons s shps ih =>
      intro vs
      cases s with
      | one s => simp only [begS, List.length_cons, (ih (i + 1) (vs.drop 1)).1, (ih (i + 1) (vs.drop 1)).2]; exact ⟨trivial, trivial⟩
      | agg ss => simp only [begS, List.length_cons, (ih (i + 1) (vs.drop ss.length)).1, (ih (i + 1) (vs.drop ss.length)).2]; exact ⟨trivial, trivial⟩
  have hst : begin_ con fn.ntmps x = ⟨(begS fn.ntmps 0 con.args ((ofTs _ x).take (flats con.args).length)).1 ++ List.replicate (fn.ntmps - con.args.length) .dead, (begS fn.ntmps 0 con.args ((ofTs _ x).take (flats con.args).length)).2 ++ List.replicate (fn.ntmps - con.args.length) Ob.none ++ begO con.objs ((ofTs _ x).drop (flats con.args).length)⟩ := by
    have := hbl 0 con.args ((ofTs _ x).take (flats con.args).length)
    simp only [begin_, this.1, this.2]
  have hmv : (H.map fun y => (⟨argS fn.ntmps y.a, y.v, y.fp⟩ : Hd)).map (·.v) = H.map (·.v) := by rw [List.map_map]; rfl
  simp only [List.length_nil, List.nil_append, hmv] at hbeg
  rw [← hst] at hbeg
  have hsh : (shV con.args (H.map (·.v))).length = con.args.length := by
    have : ∀ (shps : List Shp) (us : List Value), (shV shps us).length = shps.length := by
      intro shps
      induction shps with
      | nil => exact fun _ => rfl
      | cons s shps ih => intro us; cases s <;> simp [shV, ih]
    exact this _ _
  refine calls_of_wp hf hb ?_
  have htm : (shV con.args (H.map (·.v))).toArray ++ Array.replicate (fn.ntmps - (shV con.args (H.map (·.v))).toArray.size) undef = (shV con.args (H.map (·.v)) ++ List.replicate (fn.ntmps - con.args.length) undef).toArray := by
    rw [List.size_toArray, hsh]; simp
  refine hwp x r hfx ⟨W0, pins⟩ w _ G0 frz imm rfl (by rw [htm]; exact hbeg) _ (fun e st' w' tm' G' f' i' hk hr' he => ?_)
  have hfin : ∀ (hk : ((finP T con fn).runK st' ⟨0, 0, 0, 0⟩ fun x _ _ => some x) = some r), ([] : List Deferred) = [] ∧ ∃ v, (results fn tm').run P w' = .ok v w' ∧ Post W0 con r w G frz imm (.returned v) w' := fun hk => by
    obtain ⟨x', st'', F', k1, k2⟩ := Prg.runK_some _ _ _ _ _ hk
    injection k2 with k2
    subst k2
    obtain ⟨us, GR, HR, f2, i2, p1, p2, p3, p4, p5, p6⟩ := fin_run (W := ⟨W0, pins⟩) (a := ⟨tm', []⟩) hT hok hnt hr' k1
    refine ⟨rfl, _, p1, _, rfl, GR, HR, f2, i2, p2, p3, by rw [p4], fun j g hj hg => ?_, he.trans p5⟩
    obtain ⟨b, q⟩ := hadr j hj
    have hg' : g = G[j]'(by omega) := by rw [List.getElem?_eq_getElem (by omega)] at hg; injection hg with hg; exact hg.symm
    obtain ⟨g', z1, z2⟩ := p6 j b hj (List.mem_map.2 ⟨j, List.mem_range.2 hj, by rw [ghd_get hg, hg', q]; rfl⟩)
    exact ⟨g', z1, by rw [z2, hg', q]⟩
  cases e with
  | nrm => exact hfin hk
  | ret => exact hfin hk
  | exit id => cases hk
/-- A function whose text is evaluated does what its contract says. -/
theorem body_good {W0 : World} (hm : P.follows .mixedOrders = true) (hT : TabOk P T) (hΓ : GamOk P W0 Γ) {f : FuncId} {fn : Func} {c : Code} {con : Con} (hf : P.funcs[f]? = some fn) (hb : fn.body = some c) (hname : (fn.name == "runtime.NumGoroutine") = false) (hok : conOk con = true)
    (hbk : backsCode c = true) (hargs' : decide (con.args.length ≤ fn.ntmps) = true) (hnt' : decide (0 < fn.ntmps) = true) (hev : ∀ x r, con.f x = some r → ∃ n, evBody T Γ n con fn x = some r) : Good P W0 f con := by
  refine body_good_of hT hf hb hname hok hargs' hnt' (fun x r hfx W w tm G frz imm hW hrep Q hQ => ?_)
  obtain ⟨n, hn⟩ := hev x r hfx
  unfold evBody at hn
  rw [hb] at hn
  simp only at hn
  exact evK_wp (a := ⟨tm, []⟩) hm hT (by rw [hW]; exact hΓ) c _ _ hbk hrep hn hQ
end Go.Eva
end
section
/- Words for printed functions. -/
namespace Go.Eva
set_option linter.unusedVariables false
variable {P : Program} {W : World}
theorem GamOk.nil : GamOk P W [] := fun f s con h => by cases h
theorem GamOk.cons {f : FuncId} {s : List Nat} {con : Con} {Γ : Gam} (h : Good P W f con) (hr : GamOk P W Γ) : GamOk P W (((f, s), con) :: Γ) := fun g t c hc => by
  simp only [gget] at hc
  split at hc
  · rename_i he
    injection hc with hc
    subst hc
    rw [← he.1]; exact h
  · exact hr g t c hc
def bodyOf (f : Func) : Code := f.body.getD .skip
def lvOf (f : Func) : LV := ⟨[], resMask f.results.toList⟩
end Go.Eva
end
section
/- What the table says of the types, by one Bool. -/
namespace Go.Eva
set_option linter.unusedVariables false
set_option linter.unusedSimpArgs false
variable {P : Program}

def ckB : TypeDesc → Ck → Bool
  | .int k, .int k' => k == k'
  | .bool, .bool => true
  | .string, .str => true
  | .slice e, .sl e' _ => e == e'
  | _, .ptr => true
  | _, .other => true
  | _, _ => false
def isAggV : Value → Bool
  | .agg _ => true
  | _ => false
def stB (P : Program) (d : TypeDesc) (offs : List (Nat × TypeId)) : Bool :=
  offs.isEmpty || match d with
    | .struct fs => decide (fs.toList.map (fun f => (f.offset, f.type)) = offs) && fs.toList.all fun f => match P.info? f.type with | some i => !(i.size == 0) | none => false
    | _ => false
def elB (d : TypeDesc) : Option TypeId → Bool
  | none => true
  | some e => match d with | .slice e' => e' == e | _ => false
def tyB (P : Program) (t : Nat) (ti : TI) : Bool :=
  (match P.info? t with
  | some i => i.size == ti.size && (i.bytes == ti.bytes && match i.zero with | some z => zerosOk ti.cells z.cells.toList && (!ti.agg || isAggV z) | none => false)
  | none => false) &&
  (ti.cells.length == ti.size && ((ti.agg || ti.size == 1) && ((match P.underlying t with
  | some d => isAggD d == ti.agg && (stB P d ti.offs && (elB d ti.elem && (ti.agg || match ti.cells.head? with | some c => ckB d c | none => true)))
  | none => false) && match ti.kd with | none => true | some κ => decide (ti.cells = κ.cks))))
theorem tyB_ok {t : Nat} {ti : TI} (h : tyB P t ti = true) : TyOk P t ti := by
  unfold tyB at h
  simp only [Bool.and_eq_true] at h
  obtain ⟨h1, h2, h3, h4, h5⟩ := h
  have h2 : ti.cells.length = ti.size := by simpa using h2
  cases hi : P.info? t with
  | none => rw [hi] at h1; cases h1
  | some i =>
    rw [hi] at h1
    simp only [Bool.and_eq_true, beq_iff_eq] at h1
    obtain ⟨q1, q2, q3⟩ := h1
    cases hz : i.zero with
    | none => rw [hz] at q3; cases q3
    | some z =>
      rw [hz] at q3
      simp only [Bool.and_eq_true, Bool.or_eq_true, Bool.not_eq_true'] at q3
      cases hu : P.underlying t with
      | none => rw [hu] at h4; cases h4
      | some d =>
        rw [hu] at h4
        simp only [Bool.and_eq_true, beq_iff_eq] at h4
        obtain ⟨p1, p2, p3, p4⟩ := h4
        refine ⟨⟨i, z, hi, q1, q2, hz, q3.1, fun ha => ?_⟩, h2, fun ha => ?_, ⟨d, hu, p1⟩, fun hne => ?_, fun e he => ?_, fun κ hk => ?_, fun ha c hc => ?_⟩
        · rcases q3.2 with k | k
          · rw [ha] at k; cases k
          · cases z <;> first | exact ⟨_, rfl⟩ | cases k
        · rw [ha] at h3; simpa using h3
        · unfold stB at p2
          rw [Bool.or_eq_true] at p2
          rcases p2 with k | k
          · exact absurd (by simpa using k) hne
          · cases d with
            | struct fs =>
              simp only [Bool.and_eq_true, decide_eq_true_eq, List.all_eq_true] at k
              refine ⟨fs, hu, k.1, fun f hf => ?_⟩
              have := k.2 f hf
              cases hfi : P.info? f.type with
              | none => rw [hfi] at this; cases this
              | some i' => rw [hfi] at this; exact ⟨i', rfl, by simpa using this⟩
            | _ => cases k
        · rw [he] at p3
          cases d with
          | slice e' =>
            have : e' = e := by simpa [elB] using p3
            rw [hu, this]
          | _ => cases p3
        · rw [hk] at h5; exact of_decide_eq_true h5
        · rw [ha, Bool.false_or, hc] at p4
          cases c with
          | int k =>
            cases d with
            | int k' => have : k' = k := by simpa [ckB] using p4
                        rw [← this]; exact hu
            | _ => cases p4
          | bool =>
            cases d with
            | bool => exact hu
            | _ => cases p4
          | str =>
            cases d with
            | string => exact hu
            | _ => cases p4
          | sl e κ =>
            cases d with
            | slice e' => have : e' = e := by simpa [ckB] using p4
                          rw [← this]; exact hu
            | _ => cases p4
          | ptr => exact True.intro
          | other => exact True.intro

/-! ### Structs of plain cells, compared -/
def plainB : TypeDesc → Ck → Bool
  | .int k, .int k' => k == k'
  | .bool, .bool => true
  | .string, .str => true
  | _, _ => false
def fldB (P : Program) : Nat → List Field → List Ck → Bool
  | _, [], [] => true
  | n, f :: fs, c :: cs => f.offset == n && (!(f.name == "_") && ((match P.underlying f.type with | some d => plainB d c | none => false) && fldB P (n + 1) fs cs))
  | _, _, _ => false
def eqB (P : Program) (t : Nat) (cks : List Ck) : Bool :=
  !P.stoodInHeld t && (!P.eqGuardType P.depth t && match P.underlying t with | some (.struct fs) => fldB P 0 fs.toList cks | _ => false)

theorem part_plain {t : TypeId} {d : TypeDesc} {c : Ck} (hu : P.underlying t = some d) (hp : plainB d c = true) {xs : Array Value} {off : Nat} {v : Value} (hv : xs[off]? = some v) (w : World) : (part t xs off).run P w = .ok v w := by
  have ha : (isAgg t).run P w = .ok false w := by
    cases d with
    | int k => simp [isAgg, run_underlying hu]
    | bool => simp [isAgg, run_underlying hu]
    | string => simp [isAgg, run_underlying hu]
    | _ => cases c <;> cases hp
  simp [part, ha, hv]

theorem fields_eq {C : Ctx} {d : Nat} {us vs : Array Value} (w : World) : ∀ (fs : List Field) (cks : List Ck) (n : Nat) (azs bs : List AV) (r : Bool), fldB P n fs cks = true → fits cks azs = true → eqCells azs bs = some r →
    (∀ i (h : i < azs.length), ∃ u, us[n + i]? = some u ∧ R0 C azs[i] u) → (∀ i (h : i < bs.length), ∃ u, vs[n + i]? = some u ∧ R0 C bs[i] u) →
    (Op.eqFields (d + 1) us vs fs).run P w = .ok r w
  | [], [], n, azs, bs, r, _, hf, he, _, _ => by
    cases azs with
    | nil =>
      cases bs with
      | nil => simp only [eqCells, Option.some.injEq] at he; subst he; simp [Op.eqFields]
      | cons b bs => cases he
    | cons a azs => simp [fits] at hf
  | f :: fs, c :: cks, n, azs, bs, r, hf, hfit, he, ha, hb => by
    simp only [fldB, Bool.and_eq_true, beq_iff_eq, Bool.not_eq_true'] at hf
    obtain ⟨h1, h2, h3, h4⟩ := hf
    cases hd : P.underlying f.type with
    | none => rw [hd] at h3; cases h3
    | some dd =>
      rw [hd] at h3
      have hn : f.name ≠ "_" := by simpa using h2
      cases azs with
      | nil => cases c <;> simp [fits] at hfit
      | cons a azs =>
        cases bs with
        | nil => cases a <;> cases he
        | cons b bs =>
          obtain ⟨u, u1, u2⟩ := ha 0 (by simp)
          obtain ⟨v, v1, v2⟩ := hb 0 (by simp)
          rw [Nat.add_zero, ← h1] at u1 v1
          have pa := part_plain hd h3 u1 w
          have pb := part_plain hd h3 v1 w
          have rest : ∀ r', fits cks azs = true → eqCells azs bs = some r' → (Op.eqFields (d + 1) us vs fs).run P w = .ok r' w := fun r' hft hr' =>
            fields_eq w fs cks (n + 1) azs bs r' h4 hft hr' (fun i hi => by
              have := ha (i + 1) (by simpa using hi)
              rw [show n + 1 + i = n + (i + 1) by omega]; simpa using this) (fun i hi => by
              have := hb (i + 1) (by simpa using hi)
              rw [show n + 1 + i = n + (i + 1) by omega]; simpa using this)
          have fin : ∀ q, (Op.equalIn (d + 1) f.type u v).run P w = .ok q w → ∀ r', fits cks azs = true → eqCells azs bs = some r' → (Op.eqFields (d + 1) us vs (f :: fs)).run P w = .ok (q && r') w := fun q hq r' hft hr' => by
            rw [Op.eqFields]
            simp only [if_pos hn, Sem.run_bind, pa, pb, hq, Result.andThen_ok]
            cases q
            · simp
            · simpa using rest r' hft hr'
          cases a with
          | int k x =>
            cases b with
            | int k' y =>
              simp only [eqCells] at he
              split at he
              · rename_i hk
                subst hk
                cases c with
                | int k2 =>
                  simp only [fits] at hfit
                  split at hfit
                  · cases hr : eqCells azs bs with
                    | none => rw [hr] at he; cases he
                    | some r' =>
                      rw [hr] at he
                      injection he with he
                      rw [← he]
                      have u2 : u = .int k x := u2
                      have v2 : v = .int k y := v2
                      refine fin _ ?_ r' hfit hr
                      subst u2 v2
                      cases dd with
                      | int k3 => simp [Op.equalIn, run_underlying hd]; rfl
                      | _ => cases h3
                  · cases hfit
                | _ => cases hfit
              · cases he
            | _ => cases he
          | bool x =>
            cases b with
            | bool y =>
              simp only [eqCells] at he
              cases c with
              | bool =>
                simp only [fits] at hfit
                cases hr : eqCells azs bs with
                | none => rw [hr] at he; cases he
                | some r' =>
                  rw [hr] at he
                  injection he with he
                  rw [← he]
                  have u2 : u = .bool x := u2
                  have v2 : v = .bool y := v2
                  refine fin _ ?_ r' hfit hr
                  subst u2 v2
                  cases dd with
                  | bool => simp [Op.equalIn, run_underlying hd]
                  | _ => cases h3
              | _ => cases hfit
            | _ => cases he
          | str x =>
            cases b with
            | str y =>
              simp only [eqCells] at he
              cases c with
              | str =>
                simp only [fits] at hfit
                cases hr : eqCells azs bs with
                | none => rw [hr] at he; cases he
                | some r' =>
                  rw [hr] at he
                  injection he with he
                  rw [← he]
                  have u2 : u = .string x := u2
                  have v2 : v = .string y := v2
                  refine fin _ ?_ r' hfit hr
                  subst u2 v2
                  cases dd with
                  | string =>
                    have := beq_toListBytes x y
                    have e : (x.toList == y.toList) = decide (x.toList = y.toList) := by rw [Bool.eq_iff_iff]; simp
                    simp only [Op.equalIn, Sem.run_bind, run_underlying hd, Result.andThen_ok, Sem.run_pure, this, e]
                  | _ => cases h3
              | _ => cases hfit
            | _ => cases he
          | _ => cases he
  | [], _ :: _, _, _, _, _, h, _, _, _, _ => by cases h
  | _ :: _, [], _, _, _, _, h, _, _, _, _ => by cases h

theorem eqB_ok {t : Nat} {cks : List Ck} (h : eqB P t cks = true) : EqOk P t cks := by
  intro op x y azs bs us vs r w C he hf hu hv ha hb
  unfold eqB at h
  simp only [Bool.and_eq_true, Bool.not_eq_true'] at h
  obtain ⟨h1, h2, h3⟩ := h
  cases hd : P.underlying t with
  | none => rw [hd] at h3; cases h3
  | some dd =>
    rw [hd] at h3
    cases dd with
    | struct fs =>
      have hfs : P.fieldsOf t = fs := by simp [Program.fieldsOf, hd]
      have key : ∀ D, (Op.equalIn (D + 2) t (.agg us.toArray) (.agg vs.toArray)).run P w = .ok r w := fun D => by
        rw [run_equalIn_struct (P := P) w (D + 1) t us.toArray vs.toArray (by rw [hfs]; exact hd) h1, hfs]
        refine fields_eq (C := C) w fs.toList cks 0 azs bs r h3 hf he (fun i hi => ?_) (fun i hi => ?_)
        · exact ⟨us[i]'(by omega), by simp [show i < us.length by omega], ha i hi (by omega)⟩
        · exact ⟨vs[i]'(by omega), by simp [show i < vs.length by omega], hb i hi (by omega)⟩
      obtain ⟨D, hD⟩ : ∃ D, Op.maxDepth = D + 2 := ⟨Op.maxDepth - 2, by decide⟩
      have hg : ∀ op, (eqGuard op t x y (.agg us.toArray) (.agg vs.toArray)).run P w = .ok () w := fun op => by
        cases op <;> simp [eqGuard, h2]
      have heq : (Op.equal t (.agg us.toArray) (.agg vs.toArray)).run P w = .ok r w := by
        unfold Op.equal; rw [hD]; exact key D
      refine ⟨fun _ => ?_, fun _ => ?_⟩
      · simp [hg, binOp, heq]
      · simp [hg, binOp, heq]
    | _ => cases h3

def tabB (P : Program) (T : Tab) : Bool := T.all fun p => tyB P p.1 p.2 && (!p.2.eq || eqB P p.1 p.2.cells)
theorem tget_mem : ∀ {T : Tab} {t : Nat} {ti : TI}, tget T t = some ti → (t, ti) ∈ T
  | [], _, _, h => by cases h
  | (i, x) :: T, t, ti, h => by
    simp only [tget] at h
    split at h
    · rename_i e
      injection h with h
      rw [e, h]; exact List.mem_cons_self
    · exact List.mem_cons_of_mem _ (tget_mem h)
theorem tabB_ok {T : Tab} (h : tabB P T = true) : TabOk P T := by
  unfold tabB at h
  rw [List.all_eq_true] at h
  refine ⟨fun t ti ht => ?_, fun t ti ht he => ?_⟩
  · have := h _ (tget_mem ht)
    simp only [Bool.and_eq_true] at this
    exact tyB_ok this.1
  · have := h _ (tget_mem ht)
    simp only [Bool.and_eq_true, Bool.or_eq_true, Bool.not_eq_true'] at this
    rcases this.2 with k | k
    · rw [he] at k; cases k
    · exact eqB_ok k
end Go.Eva
end
section
/- A law of one slice of bytes: its call, by its function's contract. -/
namespace Go.Eva
set_option linter.unusedVariables false
set_option linter.unusedSimpArgs false
variable {P : Program}

/-- Whatever reads as data of a slice of bytes reads as a list. -/
theorem code_rd {t e : TypeId} (ht : P.underlying t = some (.slice e)) (he : P.underlying e = some (.int .u8)) (hc : P.cellsOf e = 1) {H : Type} {enc : TypeId × Value → H} {W : World} {base : Nat} {spare : Nat → Bool} {held : Bool} {fuel : Nat} {v : Value} {x : DataW H × List MemPlace}
    (h : DataW.trod enc P W base spare held fuel t [v] = some x) : ∃ y : List Int, (∃ fp, RdS W false (Rd W false (.int .u8)) (Kd.int .u8).n e v y fp ∧ ∀ b ∈ fp, b < W.heap.size) ∧ y.length ≤ maxLen ∧ ∀ b ∈ y, 0 ≤ b ∧ b < 256 := by
  rcases Go.Deep.open_slice1 ht hc h with ⟨h1, _⟩ | ⟨a, len, cap, m, n, V, D, Pl, h1, _, hl, hm, hmm, _, hx⟩
  · injection h1 with h1 _
    subst h1
    exact ⟨[], ⟨[], .inl ⟨rfl, rfl, none, 0, rfl, fun k => (by cases k)⟩, fun b hb => (by cases hb)⟩, Nat.zero_le _, fun b hb => (by cases hb)⟩
  · injection h1 with h1 _
    subst h1
    have hlm : len ≤ m := by
      rw [hmm]
      split
      · exact hl
      · exact Nat.le_refl _
    have hV : ∀ i, i < len → ∃ y : Int, W.cell? (a.add i) = some (.int .u8 y) ∧ 0 ≤ y ∧ y < 256 := fun i hi => by
      obtain ⟨h2, h3⟩ := hx i (by omega)
      obtain ⟨y, q1, _, q2⟩ := DataW.trod_int he h3
      injection q1 with q1 _
      refine ⟨y, by rw [h2, q1], ?_⟩
      simp only [Lit.wf] at q2
      have q3 := q2
      simp [IntKind.min, IntKind.max, IntKind.signed, IntKind.bits] at q3
      omega
    cases len with
    | zero => exact ⟨[], ⟨[], .inl ⟨rfl, rfl, some a, cap, rfl, fun k => (by cases k)⟩, fun b hb => (by cases hb)⟩, Nat.zero_le _, fun b hb => by cases hb⟩
    | succ len =>
      obtain ⟨y0, c0, _⟩ := hV 0 (by omega)
      obtain ⟨g, off, spot⟩ := a
      have hspot : spot = none := by
        cases spot with
        | none => rfl
        | some s =>
          have : (⟨g, off, some s⟩ : Addr).add 0 = ⟨g, off, some s⟩ := by simp [Addr.add]
          rw [this] at c0
          simp only [World.cell?, Option.isSome, if_true] at c0
          split at c0 <;> cases c0
      subst hspot
      have hadd : ∀ i, (⟨g, off, none⟩ : Addr).add i = ⟨g, off + i, none⟩ := fun i => by unfold Addr.add; split <;> simp_all
      have hglt : g < W.heap.size := by
        have := c0
        rw [hadd] at this
        simp only [World.cell?] at this
        refine Nat.lt_of_not_le fun k => ?_
        rw [Array.getElem?_eq_none k] at this
        cases this
      obtain ⟨f, hf⟩ := Classical.axiomOfChoice (r := fun (i : Fin (len + 1)) (y : Int) => W.cell? ((⟨g, off, none⟩ : Addr).add i.1) = some (.int .u8 y) ∧ 0 ≤ y ∧ y < 256) (fun i => hV i.1 i.2)
      let l : List Int := List.ofFn f
      have hll : l.length = len + 1 := by simp [l]
      have hflat : (List.replicate (len + 1) ([] : List Nat)).flatten = [] := replicate_flat _
      refine ⟨l, ⟨[g], .inr ⟨g, off, cap, List.replicate (len + 1) [], by rw [hll], by rw [hflat], by simp [hll], hglt, by rw [hll]; exact hl, fun k => (by cases k), fun i hi hi' => ?_⟩, fun b hb => by rw [List.mem_singleton.1 hb]; exact hglt⟩, by rw [hll]; omega, fun b hb => ?_⟩
      · have hfi := (hf ⟨i, by omega⟩).1
        rw [hadd] at hfi
        refine ⟨?_, by simp⟩
        simp only [Kd.n, Nat.mul_one, Nat.add_zero, l, List.getElem_ofFn]
        exact hfi
      · obtain ⟨i, hi, rfl⟩ := List.getElem_of_mem hb
        simp only [l, List.getElem_ofFn]
        exact (hf _).2

/-- The call of a law of one slice of bytes. -/
theorem law_calls {W : World} {f : FuncId} {m : Bool} {e : TypeId} {F : _ → _} (hg : Good P W f ⟨[.one (.sl (.imm m) e (.int .u8))], [], [.one .bool], [], F⟩) {y : List Int} (hF : F (y, ()) = some (true, ())) {v : Value}
    (hrd : ∃ fp, RdS W false (Rd W false (.int .u8)) (Kd.int .u8).n e v y fp ∧ ∀ b ∈ fp, b < W.heap.size) : Calls P f #[v] W fun e w' => e = .returned (.bool true) ∧ Go.RowKit.Below W.heap.size W w' := by
  obtain ⟨fp, h1, h2⟩ := hrd
  have hrep : Ifc W [] [] W [] [⟨.sl (.imm m) e (.int .u8) y, v, []⟩] (fun b => b < W.heap.size) (fun b => b < W.heap.size) := {
    base := Go.RowKit.Below.refl _ _
    fi := fun _ h => h
    lo := fun _ h => h
    ilt := fun _ h => h
    len := rfl
    sl := Nat.le_refl _
    objs := fun o h => by cases h
    slots := fun s h => by cases h
    tms := rfl
    held := fun x hx => by
      rw [List.mem_singleton.1 hx]
      exact ⟨rfl, fp, h1, fun b hb => by cases m <;> exact h2 b hb⟩
    one := fun b => by simp [ownc]
    apart := fun b _ => by simp [ownc]
    olt := fun b hb => by simp [ownc] at hb
    pin := fun p hp => by cases hp }
  have := hg.run (y, ()) (true, ()) hF W [] [⟨.sl (.imm m) e (.int .u8) y, v, []⟩] _ _ hrep rfl
  refine Calls.mono this (fun en w' hp => ?_)
  obtain ⟨u, rfl, G', H', f', i', p1, p2, p3, p4, p5⟩ := hp
  refine ⟨?_, p1.base⟩
  have hl := congrArg List.length p2
  match H', p2, p3, p1 with
  | [⟨a, u', fp'⟩], p2, p3, p1 =>
    have ha : [a] = [AV.bool true] := p2
    injection ha with ha _
    have rc := p1.held _ List.mem_cons_self
    simp only at rc
    rw [ha] at rc
    have hu : u' = .bool true := rc.2
    rw [p3, hu]; rfl
  | [], p2, _, _ => cases hl
  | _ :: _ :: _, p2, _, _ => simp [ofTs, flats, Shp.fl] at hl
end Go.Eva
end
section
/- A function that asks whether its slice is nil, and answers alike. -/
namespace Go.Eva
set_option linter.unusedVariables false
set_option linter.unusedSimpArgs false
variable {P : Program} {T : Tab} {Γ : Gam}

def p0 : Code → Code
  | .seq a _ => a
  | c => c
def p1 : Code → Code
  | .seq _ b => b
  | c => c
def opsOf : Code → Array Oper
  | .region _ ops _ => ops
  | _ => #[]
def K0 : Ex → St → Option St := fun e st => match e with
  | .nrm => some st
  | _ => none
theorem eq_nil_run {t e : TypeId} (ht : P.underlying t = some (.slice e)) (a : Option Addr) (n c : Nat) (w : World) (x y : Operand) :
    (do eqGuard .eql t x y (.slice a n c) (.slice none 0 0); binOp .eql t (.slice a n c) (.slice none 0 0) : Sem Value).run P w = .ok (.bool a.isNone) w := by
  have hh : ∀ d : Nat, (Op.equalIn (d + 1) t (.slice a n c) (.slice none 0 0)).run P w = .ok a.isNone w := fun d => by
    cases a <;> simp [Op.equalIn, run_underlying ht]
  obtain ⟨D, hD⟩ : ∃ D, Op.maxDepth = D + 1 := ⟨Op.maxDepth - 1, by decide⟩
  have he : (Op.equal t (.slice a n c) (.slice none 0 0)).run P w = .ok a.isNone w := by unfold Op.equal; rw [hD]; exact hh D
  have hg : (eqGuard .eql t x y (.slice a n c) (.slice none 0 0)).run P w = .ok () w := by simp [eqGuard]
  rw [Sem.run_bind, hg, Result.andThen_ok]
  simp [binOp, he]

/-- slices.Clone, of elements without slices. -/
theorem clone_good {W0 : World} (hm : P.follows .mixedOrders = true) (hT : TabOk P T) {f : FuncId} {fn : Func} {c : Code} {e t u : TypeId} {κ : Kd} {F : _ → _} (hf : P.funcs[f]? = some fn) (hb : fn.body = some c) (hname : (fn.name == "runtime.NumGoroutine") = false)
    (hargs : decide (1 ≤ fn.ntmps) = true) {i1 : Nat} {o0 o1 : Oper} {r0 cd r3 : Code} (hc : c = .seq r0 (.seq (.seq (.region i1 #[o0, o1] false) cd) r3)) (h1 : o1.op = .binOp .eql t (.tmp 3) (.const (.slice none 0 0)) u) (hd1 : o1.dst = some 4) (hg1 : o1.guard = none)
    (ht : P.underlying t = some (.slice e)) (hbk : (backsCode r0 && (backsCode cd && backsCode r3)) = true) {lv : LV} {m0 m1 m2 : Nat} {S0 S1 : List κ.T → St}
    (E0 : ∀ l, evK T [] 0 r0 lv m0 (begin_ ⟨[.one (.sl (.imm true) e κ)], [], [.one (.sl .own e κ)], [], F⟩ fn.ntmps (l, ())) K0 = some (S0 l))
    (E1 : ∀ l, (stepP T [] [o0, o1] o0).run (S0 l) = some ((), S1 l)) (H3 : ∀ l, (S1 l).slots[3]? = some (.sl (.imm true) e κ l))
    (E2 : evK T [] 0 cd lv m1 ⟨(S1 []).slots.set 4 (.bool true), (S1 []).objs⟩ (fun ex st => match ex with | .nrm => evK T [] 0 r3 lv m2 st (evBody.endK T ⟨[.one (.sl (.imm true) e κ)], [], [.one (.sl .own e κ)], [], F⟩ fn) | ex => evBody.endK T ⟨[.one (.sl (.imm true) e κ)], [], [.one (.sl .own e κ)], [], F⟩ fn ex st) = some ([], ()))
    (E3 : ∀ l r, F (l, ()) = some r → evK T [] 0 cd lv m1 ⟨(S1 l).slots.set 4 (.bool false), (S1 l).objs⟩ (fun ex st => match ex with | .nrm => evK T [] 0 r3 lv m2 st (evBody.endK T ⟨[.one (.sl (.imm true) e κ)], [], [.one (.sl .own e κ)], [], F⟩ fn) | ex => evBody.endK T ⟨[.one (.sl (.imm true) e κ)], [], [.one (.sl .own e κ)], [], F⟩ fn ex st) = some r)
    (hF : ∀ r, F ([], ()) = some r → r = ([], ())) : Good P W0 f ⟨[.one (.sl (.imm true) e κ)], [], [.one (.sl .own e κ)], [], F⟩ := by
  simp only [Bool.and_eq_true] at hbk
  obtain ⟨b0, b1, b2⟩ := hbk
  have hnt : decide (0 < fn.ntmps) = true := by have := of_decide_eq_true hargs; exact decide_eq_true (by omega)
  refine body_good_of hT hf hb hname rfl hargs hnt (fun x r hfx W w tm G frz imm hW hrep Q hQ => ?_)
  obtain ⟨l, u'⟩ := x
  rw [hc]
  refine wp_seq (evK_wp (a := ⟨tm, []⟩) hm hT (GamOk.nil) r0 lv m0 b0 hrep (E0 l) (fun ex st1 w1 tm1 G1 f1 g1 hk hr1 he1 => ?_))
  cases ex with
  | exit id => cases hk
  | ret => cases hk
  | nrm =>
    injection hk with hk
    subst hk
    refine wp_seq (wp_seq (wp_region ?_))
    show wpOps P #[o0, o1] _ [0, 1] _ _
    rw [wpOps_cons]
    refine step_ok (ops := #[o0, o1]) (i := 0) hT (GamOk.nil (P := P) (W := W.toWorld)) rfl hr1 (E1 l) (fun w2 tm2 G2 f2 g2 hr2 he2 => ?_)
    rw [wpOps_cons]
    unfold wpOp
    simp only [List.getElem?_toArray, List.getElem?_cons_succ, List.getElem?_cons_zero]
    rw [if_pos (by unfold Region.wanted; rw [hg1])]
    refine .inl ?_
    obtain ⟨h3, h3e⟩ := List.getElem?_eq_some_iff.1 (H3 l)
    have hs := hr2.slots 3 h3
    rw [h3e] at hs
    obtain ⟨fp, hrd, hfp⟩ := hs
    have hval : ∃ a n c, tm2.getD 3 undef = .slice a n c ∧ (a = none → l = []) := by
      rcases hrd with ⟨q1, q2, a, c', q3, _⟩ | ⟨g, off, cap, fps, q1, _⟩
      · exact ⟨a, 0, c', q3, fun _ => q1⟩
      · exact ⟨_, _, _, q1, fun k => by cases k⟩
    obtain ⟨a, n, c', hv, hnil⟩ := hval
    have hx : (execOp (Act.eval ⟨tm2, []⟩) o1).run P w2 = .ok (.value (.bool a.isNone)) w2 := by
      have hev : Act.eval ⟨tm2, []⟩ (.tmp 3) = .slice a n c' := hv
      have := eq_nil_run (P := P) ht a n c' w2 (.tmp 3) (.const (.slice none 0 0))
      simp only [execOp, h1, hev]
      have e2 : Act.eval ⟨tm2, []⟩ (.const (.slice none 0 0)) = .slice none 0 0 := rfl
      rw [e2]
      rw [Sem.run_bind] at this ⊢
      simp only [Sem.run_bind] at this ⊢
      revert this
      generalize (eqGuard .eql t (.tmp 3) (.const (.slice none 0 0)) (.slice a n c') (.slice none 0 0)).run P w2 = q
      intro this
      cases q with
      | ok x w3 =>
        simp only [Result.andThen_ok] at this ⊢
        rw [this]; rfl
      | halt x w3 => cases this
    refine wp_value hx ?_
    rw [hd1]
    have hput := hr2.put 4 (.bool a.isNone) (.bool a.isNone) rfl
    have fin : ∀ b : Bool, b = a.isNone → evK T [] 0 cd lv m1 ⟨(S1 l).slots.set 4 (.bool b), (S1 l).objs⟩ (fun ex st => match ex with | .nrm => evK T [] 0 r3 lv m2 st (evBody.endK T ⟨[.one (.sl (.imm true) e κ)], [], [.one (.sl .own e κ)], [], F⟩ fn) | ex => evBody.endK T ⟨[.one (.sl (.imm true) e κ)], [], [.one (.sl .own e κ)], [], F⟩ fn ex st) = some r →
        cd.wp P (Exit.then ((r3).wp P Q) Q) (Act.put ⟨tm2, []⟩ (some 4) (.bool a.isNone)) w2 := fun b hbb hE => by
      subst hbb
      refine evK_wp (a := ⟨tm2.setIfInBounds 4 (.bool a.isNone), []⟩) hm hT (GamOk.nil (P := P) (W := W.toWorld)) cd lv m1 b1 hput hE (fun ex st3 w3 tm3 G3 f3 g3 hk hr3 he3 => ?_)
      cases ex with
      | nrm => exact evK_wp (a := ⟨tm3, []⟩) hm hT (GamOk.nil (P := P) (W := W.toWorld)) r3 lv m2 b2 hr3 hk (fun ex st4 w4 tm4 G4 f4 g4 hk4 hr4 he4 => hQ ex st4 w4 tm4 G4 f4 g4 hk4 hr4 (he1.trans (he2.trans (he3.trans he4))))
      | exit id => exact hQ (.exit id) st3 w3 tm3 G3 f3 g3 hk hr3 (he1.trans (he2.trans he3))
      | ret => exact hQ .ret st3 w3 tm3 G3 f3 g3 hk hr3 (he1.trans (he2.trans he3))
    show (Code.wp P cd _ _ _)
    cases a with
    | none =>
      have hl := hnil rfl
      subst hl
      have hr := hF r hfx
      subst hr
      exact fin true rfl E2
    | some ad => exact fin false rfl (E3 l r hfx)
end Go.Eva
end
section
/- A copy of rows. -/
namespace Go.Eva
set_option linter.unusedVariables false
set_option linter.unusedSimpArgs false
variable {P : Program}

theorem copy_run {dT sT ty e : TypeId} {i : TypeInfo} (ht : P.underlying dT = some (.slice e)) (hi : P.info? e = some i) {w : World} {g off dLen dCap : Nat} {cur : Array Value} {t : TypeId} (hg : w.heap[g]? = some (.cells cur t (0, 0)))
    {a : Addr} {sLen sCap m : Nat} (hm : Nat.min sLen dLen = m) {cs : List Value} (hl : cs.length = m * i.size) (hsrc : ∀ j v, cs[j]? = some v → w.cell? (a.add j) = some v) (hfit : off + cs.length ≤ cur.size) (h1 : ∀ v ∈ cs, v.oneCell' = true) :
    (Builtin.copy_ #[dT, sT] ty #[.slice (some ⟨g, off, none⟩) dLen dCap, .slice (some a) sLen sCap]).run P w = .ok (goInt m) (w.setRow g (over cur.toList off cs).toArray) := by
  have hst := run_storeCells_at P g off t cs 0 cur w hg (by simpa using hfit) h1
  simp only [Nat.add_zero] at hst
  have hf := run_firstCells_some (P := P) w i.size m a sLen sCap cs hl hsrc
  rw [over_eq _ _ _ (by simpa using hfit)]
  simp [Builtin.copy_, run_underlying ht, sizeOf, typeInfo, hi, Builtin.lenOf, hm, hf, hst]

theorem wp_copy {o : Oper} {a : Act} {w : World} {K : Act → World → Prop} {Q : Exit → Act → World → Prop} (d s : Operand) (t t' : TypeId)
    (ho : o.op = .call { callee := .builtin .copy, args := #[d, s], argTypes := #[t, t'] }) (v u : Value) (hd : a.eval d = v) (hs : a.eval s = u) {v' : Value} {w' : World}
    (hr : (Builtin.copy_ #[t, t'] o.type #[v, u]).run P w = .ok v' w') (h : K (a.put o.dst v') w') : o.wp P a w K Q := by
  unfold Oper.wp execOp
  simp only [ho, resolve, invoke, builtin, Sem.run_bind, Sem.run_pure, Result.andThen_ok, List.map_toArray, List.map_cons, List.map_nil, hd, hs, hr]
  exact h
theorem wpList_copy {w : World} {ops : Array Oper} {rest : List Oper} {o : Oper} {a : Act} {Q : Exit → Act → World → Prop} (hgd : o.guard = none) (d s : Operand) (t t' : TypeId)
    (ho : o.op = .call { callee := .builtin .copy, args := #[d, s], argTypes := #[t, t'] }) (v u : Value) (hd : a.eval d = v) (hs : a.eval s = u) {v' : Value} {w' : World}
    (hr : (Builtin.copy_ #[t, t'] o.type #[v, u]).run P w = .ok v' w') (h : wpList P ops Q rest (a.put o.dst v') w') : wpList P ops Q (o :: rest) a w :=
  wpList_plain hgd fun _ hK => wp_copy d s t t' ho v u hd hs hr (hK _ _ h)
theorem step_copy {ops : Array Oper} {o : Oper} {a : Act} {w : World} {K : Act → World → Prop} {Q : Exit → Act → World → Prop} {E : Prop}
    (hg : o.guard = none) (d x : Operand) (dT sT : TypeId) (hop : o.op = Op.call { callee := Callee.builtin Builtin.copy, args := #[d, x], argTypes := #[dT, sT] })
    (v u : Value) (hd : a.eval d = v) (hx : a.eval x = u) {v' : Value} {w' : World} (hr : (Builtin.copy_ #[dT, sT] o.type #[v, u]).run P w = .ok v' w') (hK : K (a.put o.dst v') w') :
    if Region.wanted o (yielded ops a.tmps) = true then Oper.wp P o a w K Q else E := by
  have hw : Region.wanted o (yielded ops a.tmps) = true := by simp [Region.wanted, hg]
  rw [if_pos hw]
  exact wp_copy d x dT sT hop v u hd hx hr hK
/-- The cells of rows in a block. -/
def part (cur : List Value) (off k : Nat) : List Value := (cur.drop off).take k
theorem part_len {cur : List Value} {off k : Nat} (h : off + k ≤ cur.length) : (part cur off k).length = k := by simp [part]; omega
theorem part_get {cur : List Value} {off k j : Nat} (h : off + k ≤ cur.length) (hj : j < k) : (part cur off k)[j]? = cur[off + j]? := by simp [part, hj]
theorem part_cell {w : World} {g : Nat} {cur : Array Value} {t : TypeId} {fr : Nat × Nat} (hg : w.heap[g]? = some (.cells cur t fr)) {off k : Nat} (j : Nat) (v : Value) (h : (part cur.toList off k)[j]? = some v) : w.cell? ⟨g, off + j, none⟩ = some v := by
  simp only [part, List.getElem?_take] at h
  split at h
  · rw [List.getElem?_drop] at h
    simp only [World.cell?, hg]
    simpa using h
  · cases h

/-- Rows that hold no slice lie in a list of cells. -/
def FLr (κ : Kd) (L : List Value) (off : Nat) (l : List κ.T) : Prop := ∀ (w : World) i (h : i < l.length), Rd w true κ (fun j => L[off + i * κ.n + j]?) l[i] []
theorem own_open {w : World} {κ : Kd} (hf : κ.flat = true) {e : TypeId} {v : Value} {l : List κ.T} {fp : List Nat} (h : RdS w true (Rd w true κ) κ.n e v l fp) :
    (l = [] ∧ fp = [] ∧ ∃ a, v = .slice a 0 0) ∨ ∃ g off cap cur, v = .slice (some ⟨g, off, none⟩) l.length cap ∧ fp = [g] ∧ w.heap[g]? = some (.cells cur e (0, 0)) ∧ off + cap * κ.n ≤ cur.size ∧ l.length ≤ cap ∧ cap ≤ maxLen ∧ FLr κ cur.toList off l := by
  rcases h with ⟨h1, h2, a, c, h3, h4⟩ | ⟨g, off, cap, fps, h1, h2, h3, h4, h40, h5, h6⟩
  · have := h4 rfl
    subst this
    exact .inl ⟨h1, h2, a, h3⟩
  · obtain ⟨cur, c1, c2, c3⟩ := h5 rfl
    have hfl : ∀ i (h : i < fps.length), fps[i] = [] := fun i hi => Rd.flat κ _ _ _ hf (h6 i (by omega) hi)
    have hz : fps.flatten = [] := by
      rw [List.flatten_eq_nil_iff]
      intro f hf'
      obtain ⟨i, hi, rfl⟩ := List.getElem_of_mem hf'
      exact hfl i hi
    refine .inr ⟨g, off, cap, cur, h1, by rw [h2, hz], c1, c2, h40, c3, fun w0 i hi => ?_⟩
    have hr := h6 i hi (by omega)
    rw [hfl] at hr
    have hc : (fun j => w.cell? ⟨g, off + i * κ.n + j, none⟩) = fun j => cur.toList[off + i * κ.n + j]? := funext fun j => by simp [World.cell?, c1]
    rw [hc] at hr
    exact Rd.flat_any κ _ _ _ hf hr
theorem own_close {w : World} {κ : Kd} {e : TypeId} {l : List κ.T} {g off cap : Nat} {cur : Array Value} (hg : w.heap[g]? = some (.cells cur e (0, 0))) (hfit : off + cap * κ.n ≤ cur.size) (hl : l.length ≤ cap) (hm : cap ≤ maxLen) (h : FLr κ cur.toList off l) :
    RdS w true (Rd w true κ) κ.n e (.slice (some ⟨g, off, none⟩) l.length cap) l [g] := by
  refine .inr ⟨g, off, cap, List.replicate l.length [], rfl, by rw [replicate_flat], by simp, (Array.getElem?_eq_some_iff.1 hg).1, hl, fun _ => ⟨cur, hg, hfit, hm⟩, fun i hi hi' => ?_⟩
  have hr := h w i hi
  have hc : (fun j => w.cell? ⟨g, off + i * κ.n + j, none⟩) = fun j => cur.toList[off + i * κ.n + j]? := funext fun j => by simp [World.cell?, hg]
  rw [hc, List.getElem_replicate]
  exact hr
theorem FLr.one (w : World) {κ : Kd} {L : List Value} {off : Nat} {l : List κ.T} (h : FLr κ L off l) {v : Value} (hv : v ∈ part L off (l.length * κ.n)) : v.oneCell' = true := by
  obtain ⟨j, hj, rfl⟩ := List.getElem_of_mem hv
  have hj1 : j < l.length * κ.n := by simp only [part, List.length_take] at hj; omega
  have hn : 0 < κ.n := Nat.pos_of_ne_zero fun k => by rw [k] at hj1; omega
  have hd : j / κ.n < l.length := (Nat.div_lt_iff_lt_mul hn).2 hj1
  have hr := h w (j / κ.n) hd
  obtain ⟨u, q1, q2⟩ := hr.cells (j % κ.n) (Nat.mod_lt _ hn)
  have he : off + j / κ.n * κ.n + j % κ.n = off + j := by have := Nat.div_add_mod j κ.n; rw [Nat.mul_comm] at this; omega
  rw [he] at q1
  have : (part L off (l.length * κ.n))[j]? = some u := by
    simp only [part, List.getElem?_take, hj1, if_true, List.getElem?_drop]
    exact q1
  rw [List.getElem?_eq_getElem hj] at this
  injection this with this
  rw [this]; exact q2
theorem FLr.ins {κ : Kd} {L V L' : List Value} {off voff off' : Nat} {l : List κ.T} {x : κ.T} {i : Nat} (hi : i ≤ l.length) (h : FLr κ L off l) (hv : FLr κ V voff [x])
    (hget : ∀ k j, k < l.length + 1 → j < κ.n → L'[off' + k * κ.n + j]? = if k < i then L[off + k * κ.n + j]? else if k = i then V[voff + j]? else L[off + (k - 1) * κ.n + j]?) : FLr κ L' off' (l.take i ++ [x] ++ l.drop i) := by
  intro w k hk
  have hkl : k < l.length + 1 := by simp at hk; omega
  by_cases h1 : k < i
  · have e : (l.take i ++ [x] ++ l.drop i)[k] = l[k] := by rw [List.getElem_append_left (by simp; omega), List.getElem_append_left (by simp; omega), List.getElem_take]
    rw [e]
    refine Rd.frame (fun k => k) (Nat.le_refl _) κ _ _ _ _ (h w k (by omega)) (fun _ _ => rfl) fun j hj => ?_
    rw [hget k j hkl hj, if_pos h1]
  · by_cases h2 : k = i
    · subst h2
      have e : (l.take k ++ [x] ++ l.drop k)[k] = x := by rw [List.getElem_append_left (by simp; omega), List.getElem_append_right (by simp; omega)]; simp
      rw [e]
      refine Rd.frame (fun k => k) (Nat.le_refl _) κ _ _ _ _ (hv w 0 (by simp)) (fun _ _ => rfl) fun j hj => ?_
      rw [hget k j hkl hj, if_neg h1, if_pos rfl]
      simp
    · have e : (l.take i ++ [x] ++ l.drop i)[k] = l[k - 1] := by
        rw [List.getElem_append_right (by simp; omega), List.getElem_drop]
        congr 1
        simp
        omega
      rw [e]
      refine Rd.frame (fun k => k) (Nat.le_refl _) κ _ _ _ _ (h w (k - 1) (by omega)) (fun _ _ => rfl) fun j hj => ?_
      rw [hget k j hkl hj, if_neg h1, if_neg h2]
theorem shift_get {n len off voff i : Nat} {L V : List Value} (hi : i ≤ len) (hfit : off + (len + 1) * n ≤ L.length) (hv : voff + n ≤ V.length) (k j : Nat) (hk : k < len + 1) (hj : j < n) :
    (over (over L (off + (i + 1) * n) (part L (off + i * n) ((len - i) * n))) (off + i * n) (part V voff n))[off + k * n + j]? = if k < i then L[off + k * n + j]? else if k = i then V[voff + j]? else L[off + (k - 1) * n + j]? := by
  have e1 : (len - i) * n = len * n - i * n := Nat.sub_mul ..
  have e2 : i * n ≤ len * n := Nat.mul_le_mul_right _ hi
  rw [Nat.add_mul, Nat.one_mul] at hfit
  have l1 : (part L (off + i * n) ((len - i) * n)).length = (len - i) * n := part_len (by omega)
  have l2 : (part V voff n).length = n := part_len (by omega)
  have e3 : (i + 1) * n = i * n + n := by rw [Nat.add_mul, Nat.one_mul]
  rw [over_get _ _ _ _ (by rw [over_len, l2]; omega), over_get _ _ _ _ (by rw [l1]; omega), l1, l2]
  rcases Nat.lt_trichotomy k i with h | h | h
  · have := Nat.mul_le_mul_right n (show k + 1 ≤ i by omega)
    rw [Nat.add_mul, Nat.one_mul] at this
    rw [if_neg (by omega), if_neg (by omega), if_pos h]
  · subst h
    rw [if_pos (by omega), if_neg (by omega), if_pos rfl, part_get (by omega) (by omega)]
    congr 1
    omega
  · have := Nat.mul_le_mul_right n (show i + 1 ≤ k by omega)
    have h2 := Nat.mul_le_mul_right n (show k ≤ len by omega)
    have h3 : (k - 1) * n = k * n - n := by rw [Nat.sub_mul, Nat.one_mul]
    rw [if_neg (by omega), if_pos (by omega), if_neg (by omega), if_neg (by omega), part_get (by omega) (by omega)]
    congr 1
    omega
theorem grow_get {n len off voff i : Nat} {L V R : List Value} (hi : i ≤ len) (hfit : off + len * n ≤ L.length) (hv : voff + n ≤ V.length) (hR : (len + 1 - i) * n ≤ R.length) (k j : Nat) (hk : k < len + 1) (hj : j < n) :
    (over (over (part L off (i * n) ++ R) (i * n) (part V voff n)) ((i + 1) * n) (part L (off + i * n) ((len - i) * n)))[0 + k * n + j]? = if k < i then L[off + k * n + j]? else if k = i then V[voff + j]? else L[off + (k - 1) * n + j]? := by
  have e1 : (len - i) * n = len * n - i * n := Nat.sub_mul ..
  have e2 : i * n ≤ len * n := Nat.mul_le_mul_right _ hi
  have e4 : (len + 1 - i) * n = len * n + n - i * n := by rw [Nat.sub_mul, Nat.add_mul, Nat.one_mul]
  have l0 : (part L off (i * n)).length = i * n := part_len (by omega)
  have l1 : (part L (off + i * n) ((len - i) * n)).length = (len - i) * n := part_len (by omega)
  have l2 : (part V voff n).length = n := part_len (by omega)
  have e3 : (i + 1) * n = i * n + n := by rw [Nat.add_mul, Nat.one_mul]
  have lA : (part L off (i * n) ++ R).length = i * n + R.length := by rw [List.length_append, l0]
  rw [over_get _ _ _ _ (by rw [over_len, l1, lA]; omega), over_get _ _ _ _ (by rw [l2, lA]; omega), l1, l2]
  rcases Nat.lt_trichotomy k i with h | h | h
  · have := Nat.mul_le_mul_right n (show k + 1 ≤ i by omega)
    rw [Nat.add_mul, Nat.one_mul] at this
    rw [if_neg (by omega), if_neg (by omega), if_pos h, List.getElem?_append_left (by omega), part_get (by omega) (by omega)]
    congr 1
    omega
  · subst h
    rw [if_neg (by omega), if_pos (by omega), if_neg (by omega), if_pos rfl, part_get (by omega) (by omega)]
    congr 1
    omega
  · have := Nat.mul_le_mul_right n (show i + 1 ≤ k by omega)
    have h2 := Nat.mul_le_mul_right n (show k ≤ len by omega)
    have h3 : (k - 1) * n = k * n - n := by rw [Nat.sub_mul, Nat.one_mul]
    rw [if_pos (by omega), if_neg (by omega), if_neg (by omega), part_get (by omega) (by omega)]
    congr 1
    omega
end Go.Eva
end
section
/- slices.Insert of one row into a slice of one's own, out of its three roads. -/
namespace Go.Eva
set_option linter.unusedVariables false
set_option linter.unusedSimpArgs false
variable {P : Program}

def opN : Code → Nat → Oper := fun c i => match (opsOf c).toList.drop i with
  | a :: _ => a
  | [] => ⟨none, .move (.tmp 0), 0, "", #[], none⟩
def cloF (κ : Kd) (B : Nat) (l : List κ.T) : Option (List κ.T × Unit) := if decide ((([] : List κ.T).length + l.length) * B ≤ 140737488355328) = true then some (([] : List κ.T) ++ l, ()) else none
def cloCon (e : TypeId) (κ : Kd) (B : Nat) : Con := ⟨[.one (.sl (.imm true) e κ)], [], [.one (.sl .own e κ)], [], fun (x : List κ.T × Unit) => cloF κ B x.1⟩
def insF (κ : Kd) (B : Nat) (a0 : List κ.T) (a1 : Int) (a2 : List κ.T) : Option (List κ.T × Unit) :=
  if decide (0 ≤ a1) = true then if decide (a1 ≤ (a0.length : Int)) = true then if decide (a2.length = 1) = true then if decide ((a0.length + 1) * B ≤ 140737488355328) = true then some (a0.take a1.toNat ++ a2 ++ a0.drop a1.toNat, ()) else none else none else none else none
def insCon (e : TypeId) (κ : Kd) (B : Nat) : Con := ⟨[.one (.sl .own e κ), .one (.int .i64), .one (.sl .own e κ)], [], [.one (.sl .own e κ)], [], fun (x : List κ.T × Int × List κ.T × Unit) => insF κ B x.1 x.2.1 x.2.2.1⟩

def InsShift (P : Program) (f : FuncId) (e : TypeId) (n : Nat) : Prop := ∀ (w : World) (b off len c i vb voff vc : Nat) (cur vcur : Array Value), w.heap[b]? = some (.cells cur e (0, 0)) → w.heap[vb]? = some (.cells vcur e (0, 0)) → vb ≠ b →
    i < len → len + 1 ≤ c → c ≤ 9223372036854775807 → off + c * n ≤ cur.size → voff + n ≤ vcur.size → (∀ v ∈ part cur.toList (off + i * n) ((len - i) * n), v.oneCell' = true) → (∀ v ∈ part vcur.toList voff n, v.oneCell' = true) →
    Calls P f #[.slice (some ⟨b, off, none⟩) len c, .int .i64 i, .slice (some ⟨vb, voff, none⟩) 1 vc] w fun e w' =>
      e = .returned (.slice (some ⟨b, off, none⟩) (len + 1) c) ∧ w' = (w.drew.setRow b (over cur.toList (off + (i + 1) * n) (part cur.toList (off + i * n) ((len - i) * n))).toArray).setRow b (over (over cur.toList (off + (i + 1) * n) (part cur.toList (off + i * n) ((len - i) * n))) (off + i * n) (part vcur.toList voff n)).toArray
def InsGrow (P : Program) (f : FuncId) (e : TypeId) (n B : Nat) : Prop := ∀ (w : World) (b off len c i vb voff vc : Nat) (cur vcur : Array Value), w.heap[b]? = some (.cells cur e (0, 0)) → w.heap[vb]? = some (.cells vcur e (0, 0)) → vb ≠ b →
    i < len → len ≤ c → c < len + 1 → (len + 1) * B ≤ 140737488355328 → off + c * n ≤ cur.size → voff + n ≤ vcur.size → (∀ v ∈ part cur.toList (off + i * n) ((len - i) * n), v.oneCell' = true) → (∀ v ∈ part vcur.toList voff n, v.oneCell' = true) →
    ∃ R : List Value, (len + 1 - i) * n ≤ R.length ∧ (i * n + R.length) = grownCap w (len + 1) c e * n ∧
    Calls P f #[.slice (some ⟨b, off, none⟩) len c, .int .i64 i, .slice (some ⟨vb, voff, none⟩) 1 vc] w fun en w' =>
      en = .returned (.slice (some ⟨w.heap.size, 0, none⟩) (len + 1) (grownCap w (len + 1) c e)) ∧ w' = ((((w.alloc (.cells (part cur.toList off (i * n) ++ R).toArray e)).drew).setRow w.heap.size (over (part cur.toList off (i * n) ++ R) (i * n) (part vcur.toList voff n)).toArray).drew).setRow w.heap.size (over (over (part cur.toList off (i * n) ++ R) (i * n) (part vcur.toList voff n)) ((i + 1) * n) (part cur.toList (off + i * n) ((len - i) * n))).toArray
def InsEnd (P : Program) (f : FuncId) (t : TypeId) : Prop := ∀ (w w' : World) (base : Option Addr) (n c vb voff vc : Nat) (v' : Value), (base = none → n = 0) → n ≤ c →
    (Builtin.append_ #[t, t] t #[.slice base n c, .slice (some ⟨vb, voff, none⟩) 1 vc]).run P w = .ok v' w' →
    Calls P f #[.slice base n c, .int .i64 n, .slice (some ⟨vb, voff, none⟩) 1 vc] w fun e w'' => e = .returned v' ∧ w'' = w'

theorem ins_good {W : World} {T : Tab} (hT : TabOk P T) {f : FuncId} {fn : Func} (hf : P.funcs[f]? = some fn) (hb : fn.body.isNone = false) (hname : (fn.name == "runtime.NumGoroutine") = false) {t e : TypeId} {te : TI} {κ : Kd} (ht : P.underlying t = some (.slice e)) (hte : tget T e = some te) (hκ : te.kd = some κ)
    (hby : (decide (te.bytes = 0) || decide (te.size = 0)) = false) (hfl : κ.flat = true) {B : Nat} (hB : te.bytes = B) (h1 : InsShift P f e κ.n) (h2 : InsGrow P f e κ.n B) (h3 : InsEnd P f t) : Good P W f (insCon e κ B) where
  ok := rfl
  fn := ⟨fn, hf, hb, hname⟩
  run := fun x r hx w G H frz imm hI hH => by
    obtain ⟨l, i, vx, u⟩ := x
    have hby' : ¬ (te.bytes = 0 ∨ te.size = 0) := by simpa using hby
    have hE := hT.ty e te hte
    have hkn : te.size = κ.n := by rw [← hE.len, hE.kd κ hκ, Kd.cks_len]
    have hn : 0 < κ.n := by omega
    have hx : insF κ B l i vx = some r := hx
    unfold insF at hx
    split at hx
    case isFalse => cases hx
    rename_i hi0
    split at hx
    case isFalse => cases hx
    rename_i hi1
    split at hx
    case isFalse => cases hx
    rename_i hv1
    split at hx
    case isFalse => cases hx
    rename_i hbig
    injection hx with hx
    subst hx
    have hi0 := of_decide_eq_true hi0
    have hi1 := of_decide_eq_true hi1
    have hv1 := of_decide_eq_true hv1
    have hbig := of_decide_eq_true hbig
    obtain ⟨k, rfl⟩ := Int.eq_ofNat_of_zero_le hi0
    have hk : k ≤ l.length := by omega
    simp only [Int.toNat_natCast]
    match vx, hv1 with
    | [x0], _ =>
    have hH : H.map (·.a) = [.sl .own e κ l, .int .i64 (k : Int), .sl .own e κ [x0]] := hH
    match H, hH, hI with
    | [⟨_, v0, f0⟩, ⟨_, v1, f1⟩, ⟨_, v2, f2⟩], hH, hI =>
    simp only [List.map_cons, List.map_nil, List.cons.injEq, and_true] at hH
    obtain ⟨rfl, rfl, rfl⟩ := hH
    have hG : G = [] := List.eq_nil_of_length_eq_zero hI.len
    subst hG
    have r0 : RdS w true (Rd w true κ) κ.n e v0 l f0 := hI.held _ (List.mem_cons_self)
    have r1 : f1 = [] ∧ v1 = .int .i64 (k : Int) := hI.held ⟨.int .i64 (k : Int), v1, f1⟩ (List.mem_cons_of_mem _ List.mem_cons_self)
    have r2 : RdS w true (Rd w true κ) κ.n e v2 [x0] f2 := hI.held ⟨.sl .own e κ [x0], v2, f2⟩ (List.mem_cons_of_mem _ (List.mem_cons_of_mem _ List.mem_cons_self))
    obtain ⟨rfl, rfl⟩ := r1
    have hone := hI.one
    have hapart := hI.apart
    have holt := hI.olt
    have hcount : ∀ b, ownc [] [⟨AV.sl .own e κ l, v0, f0⟩, ⟨AV.int .i64 (k : Int), .int .i64 (k : Int), []⟩, ⟨AV.sl .own e κ [x0], v2, f2⟩] b = f0.count b + f2.count b := fun b => by simp [ownc]
    rcases own_open hfl r2 with ⟨q, _⟩ | ⟨vb, voff, vc, vcur, rfl, rfl, hv, hvfit, hvc, _, hvfl⟩
    · cases q
    have hvfit' : voff + κ.n ≤ vcur.size := by
      have := Nat.mul_le_mul_right κ.n hvc
      simp only [List.length_cons, List.length_nil, Nat.zero_add, Nat.one_mul] at this
      omega
    have hv1 : ∀ v ∈ part vcur.toList voff κ.n, v.oneCell' = true := fun v hv => hvfl.one w (by simpa using hv)
    show Calls P f #[v0, .int .i64 (k : Int), .slice (some ⟨vb, voff, none⟩) 1 vc] w _
    have hpost : ∀ (v' : Value) (w' : World) (frz' imm' : Nat → Prop) (fp' : List Nat), Rep ⟨W, []⟩ ⟨[], []⟩ w' #[] [] [⟨.sl .own e κ (l.take k ++ [x0] ++ l.drop k), v', fp'⟩] frz' imm' → Ext w frz imm w' frz' imm' → Post W (insCon e κ B) (l.take k ++ [x0] ++ l.drop k, ()) w [] frz imm (.returned v') w' := fun v' w' frz' imm' fp' p1 p2 =>
      ⟨v', rfl, [], _, frz', imm', p1, rfl, rfl, fun j g hj => by simp [insCon] at hj, p2⟩
    have hend : k = l.length → ∀ base n c, v0 = .slice base n c → n = l.length → (base = none → n = 0) → n ≤ c → Calls P f #[v0, .int .i64 (k : Int), .slice (some ⟨vb, voff, none⟩) 1 vc] w (Post W (insCon e κ B) (l.take k ++ [x0] ++ l.drop k, ()) w [] frz imm) := fun hkl base n c hv0 hnl hnil hnc => by
      obtain ⟨us, fps, a1, a2, a3, a4, a5, a6, a7⟩ := rows_of (P := P) r2 hn
      have hI' : Rep ⟨W, []⟩ ⟨[], []⟩ w #[] [] ([⟨AV.sl .own e κ l, v0, f0⟩, ⟨AV.int .i64 (k : Int), .int .i64 (k : Int), []⟩, ⟨AV.sl .own e κ [x0], .slice (some ⟨vb, voff, none⟩) 1 vc, [vb]⟩] ++ []) frz imm := hI
      obtain ⟨v', w', frz', imm', fp', b1, b2, b3⟩ := app_turn (P := P) (ty := t) hI' ht hE hκ hby' r0 (u := .slice (some ⟨vb, voff, none⟩) 1 vc) (lx := [x0]) (us := us) (fpx := fps) ⟨a1, a2, a3, a4, a5, a6⟩ (by rw [hB]; exact hbig) (m := .own)
        (.inl ⟨rfl, rfl, fun b => by rw [a7]; simp [hfp, List.count_append]⟩)
      subst hkl
      have he : l.take l.length ++ [x0] ++ l.drop l.length = l ++ [x0] := by simp
      rw [he] at hpost ⊢
      rw [hv0] at b1 ⊢
      subst hnl
      refine (h3 w w' base l.length c vb voff vc v' hnil hnc b1).mono fun en w2 hh => ?_
      obtain ⟨rfl, rfl⟩ := hh
      exact hpost _ _ _ _ _ b2 b3
    rcases own_open hfl r0 with ⟨q, _, a, rfl⟩ | ⟨b, off, c, cur, rfl, rfl, hbk, hfit, hlc, hcm, hlr⟩
    · exact hend (by rw [q] at hk ⊢; simpa using hk) _ _ _ rfl (by rw [q]; rfl) (fun _ => rfl) (Nat.le_refl _)
    · by_cases hkl : k = l.length
      · exact hend hkl _ _ _ rfl rfl (fun q => by cases q) hlc
      · have hlt : k < l.length := by omega
        have hb1 := hone b
        have hb2 := hone vb
        rw [hcount] at hb1 hb2
        simp only [List.count_cons, List.count_nil, beq_iff_eq, beq_self_eq_true, if_true] at hb1 hb2
        have hne : vb ≠ b := fun q => by rw [if_pos q] at hb1; omega
        have hlen1 : (l.take k ++ [x0] ++ l.drop k).length = l.length + 1 := by simp; omega
        have hc1 : ∀ v ∈ part cur.toList (off + k * κ.n) ((l.length - k) * κ.n), v.oneCell' = true := fun v hv => by
          refine hlr.one w (v := v) ?_
          have e1 : (l.length - k) * κ.n = l.length * κ.n - k * κ.n := Nat.sub_mul ..
          have e2 : k * κ.n ≤ l.length * κ.n := Nat.mul_le_mul_right _ hk
          obtain ⟨j, hj, rfl⟩ := List.getElem_of_mem hv
          have hjl : j < (l.length - k) * κ.n := by simp only [part, List.length_take] at hj; omega
          have : (part cur.toList (off + k * κ.n) ((l.length - k) * κ.n))[j] = (part cur.toList off (l.length * κ.n))[k * κ.n + j]'(by simp only [part, List.length_take, List.length_drop] at hj ⊢; omega) := by
            simp only [part, List.getElem_take, List.getElem_drop]
            congr 1
            omega
          rw [this]
          exact List.getElem_mem _
        have hbB : W.heap.size ≤ b := Nat.le_of_not_lt fun q => by
          have := hapart b (hI.fi b (hI.lo b q))
          rw [hcount] at this
          simp at this
        have hmulc : l.length * κ.n ≤ c * κ.n := Nat.mul_le_mul_right _ hlc
        by_cases hroom : l.length + 1 ≤ c
        · refine (h1 w b off l.length c k vb voff vc cur vcur hbk hv hne hlt hroom (by unfold maxLen at hcm; omega) hfit hvfit' hc1 hv1).mono fun en w2 hh => ?_
          obtain ⟨rfl, rfl⟩ := hh
          have hmul2 : (l.length + 1) * κ.n ≤ c * κ.n := Nat.mul_le_mul_right _ hroom
          have hnew1 := setRow_heap w.drew b cur (over cur.toList (off + (k + 1) * κ.n) (part cur.toList (off + k * κ.n) ((l.length - k) * κ.n))).toArray e (0, 0) hbk
          have hnew := setRow_heap _ b _ (over (over cur.toList (off + (k + 1) * κ.n) (part cur.toList (off + k * κ.n) ((l.length - k) * κ.n))) (off + k * κ.n) (part vcur.toList voff κ.n)).toArray e (0, 0) hnew1
          have hrd := own_close (l := l.take k ++ [x0] ++ l.drop k) (off := off) (cap := c) hnew (by simp only [List.size_toArray, over_len, Array.length_toList]; exact hfit) (by rw [hlen1]; exact hroom) hcm
            (FLr.ins hk hlr hvfl (fun k' j hk' hj => shift_get hk (by simp only [Array.length_toList]; omega) (by simpa using hvfit') k' j hk' hj))
          rw [hlen1] at hrd
          have hturn := Rep.turn (H1 := [⟨AV.sl .own e κ l, .slice (some ⟨b, off, none⟩) l.length c, [b]⟩, ⟨AV.int .i64 (k : Int), .int .i64 (k : Int), []⟩, ⟨AV.sl .own e κ [x0], .slice (some ⟨vb, voff, none⟩) 1 vc, [vb]⟩]) (H := []) hI
            (w' := (w.drew.setRow b (over cur.toList (off + (k + 1) * κ.n) (part cur.toList (off + k * κ.n) ((l.length - k) * κ.n))).toArray).setRow b (over (over cur.toList (off + (k + 1) * κ.n) (part cur.toList (off + k * κ.n) ((l.length - k) * κ.n))) (off + k * κ.n) (part vcur.toList voff κ.n)).toArray)
            (below_setRow (below_setRow hI.base.drew hbB _) hbB _) (by simp [World.setRow]) (fun y hy => by
              rcases hy with hy | hy
              · have hyb : y ≠ b := fun q => by
                  have := hapart y hy
                  rw [hcount, q] at this
                  simp at this
                rw [setRow_other _ _ _ _ hyb, setRow_other _ _ _ _ hyb]; rfl
              · simp [ownc] at hy)
            (a := .sl .own e κ (l.take k ++ [x0] ++ l.drop k)) (fp := [b]) (fun _ => False) (fun y => .inl (by simp [hfp, List.count_cons])) (fun y hy => hy.elim) hrd
          exact hpost _ _ _ _ _ hturn.2.1 hturn.2.2
        · obtain ⟨R, hR1, hR2, hcall⟩ := h2 w b off l.length c k vb voff vc cur vcur hbk hv hne hlt hlc (by omega) hbig hfit hvfit' hc1 hv1
          refine hcall.mono fun en w2 hh => ?_
          obtain ⟨rfl, rfl⟩ := hh
          have hl0 : (part cur.toList off (k * κ.n)).length = k * κ.n := part_len (by
            have e2 : k * κ.n ≤ l.length * κ.n := Nat.mul_le_mul_right _ hk
            simp only [Array.length_toList]; omega)
          have hbt : 1 ≤ te.bytes := by omega
          have hbt2 := Nat.mul_le_mul_left (l.length + 1) hbt
          rw [hB, Nat.mul_one] at hbt2
          have hgm : grownCap w (l.length + 1) c e ≤ maxLen := grownCap_le_maxLen w (l.length + 1) c e (by unfold maxLen; omega)
          have hnew0 : ((w.alloc (.cells (part cur.toList off (k * κ.n) ++ R).toArray e)).drew).heap[w.heap.size]? = some (.cells (part cur.toList off (k * κ.n) ++ R).toArray e (0, 0)) := heap_alloc_new w (.cells (part cur.toList off (k * κ.n) ++ R).toArray e)
          have hnew1 := setRow_heap _ w.heap.size _ (over (part cur.toList off (k * κ.n) ++ R) (k * κ.n) (part vcur.toList voff κ.n)).toArray e (0, 0) hnew0
          have hnew := setRow_heap (World.drew (World.setRow _ _ _)) w.heap.size _ (over (over (part cur.toList off (k * κ.n) ++ R) (k * κ.n) (part vcur.toList voff κ.n)) ((k + 1) * κ.n) (part cur.toList (off + k * κ.n) ((l.length - k) * κ.n))).toArray e (0, 0) hnew1
          have hrd := own_close (l := l.take k ++ [x0] ++ l.drop k) (off := 0) (cap := grownCap w (l.length + 1) c e) hnew (by simp only [List.size_toArray, over_len, List.length_append, hl0]; omega) (by rw [hlen1]; exact grownCap_ge _ _ _ _) hgm
            (FLr.ins hk hlr hvfl (fun k' j hk' hj => grow_get hk (by simp only [Array.length_toList]; omega) (by simpa using hvfit') hR1 k' j hk' hj))
          rw [hlen1] at hrd
          have hbelow : Go.RowKit.Below W.heap.size W (((((w.alloc (.cells (part cur.toList off (k * κ.n) ++ R).toArray e)).drew).setRow w.heap.size (over (part cur.toList off (k * κ.n) ++ R) (k * κ.n) (part vcur.toList voff κ.n)).toArray).drew).setRow w.heap.size (over (over (part cur.toList off (k * κ.n) ++ R) (k * κ.n) (part vcur.toList voff κ.n)) ((k + 1) * κ.n) (part cur.toList (off + k * κ.n) ((l.length - k) * κ.n))).toArray) :=
            below_setRow (below_setRow (hI.base.alloc hI.base.size _).drew hI.base.size _).drew hI.base.size _
          have hal := Below.alloc' w (.cells (part cur.toList off (k * κ.n) ++ R).toArray e)
          have hss : ∀ (w : World) (g : Nat) (cs : Array Value), (w.setRow g cs).heap.size = w.heap.size := fun w g cs => by simp [World.setRow]
          have hturn := Rep.turn (H1 := [⟨AV.sl .own e κ l, .slice (some ⟨b, off, none⟩) l.length c, [b]⟩, ⟨AV.int .i64 (k : Int), .int .i64 (k : Int), []⟩, ⟨AV.sl .own e κ [x0], .slice (some ⟨vb, voff, none⟩) 1 vc, [vb]⟩]) (H := []) hI hbelow
            (by rw [hss]; show _ ≤ (World.setRow _ _ _).heap.size; rw [hss]; exact hal.size) (fun y hy => by
              rcases hy with hy | hy
              · have hyb : y ≠ w.heap.size := fun q => by have := hI.ilt y hy; omega
                rw [setRow_other _ _ _ _ hyb]
                show (World.setRow _ _ _).heap[y]? = _
                rw [setRow_other _ _ _ _ hyb]
                exact hal.block y (hI.ilt y hy)
              · simp [ownc] at hy)
            (a := .sl .own e κ (l.take k ++ [x0] ++ l.drop k)) (fp := [w.heap.size]) (fun _ => False) (fun y => by
              by_cases hy : y = w.heap.size
              · refine .inr ⟨by simp [List.count_cons]; split <;> omega, by rw [hy]; exact (Array.getElem?_eq_some_iff.1 hnew).1, ?_, fun q => by have := hI.ilt y q; omega⟩
                refine Nat.eq_zero_of_not_pos fun q => ?_
                have := holt y q
                omega
              · exact .inl (by simp [List.count_cons, Ne.symm hy])) (fun y hy => hy.elim) hrd
          exact hpost _ _ _ _ _ hturn.2.1 hturn.2.2
end Go.Eva
end
section
/- Contracts of the library's functions on plain values. -/
namespace Go.Eva
open Go.RowKit (Below)
set_option linter.unusedVariables false
variable {P : Program}

theorem rep_plain {W : World} {w w' : World} {H H' : List Hd} {frz imm : Nat → Prop} (h : Ifc W [] [] w [] H frz imm) (hb : Below w.heap.size w w') (hH : ∀ x ∈ H', x.fp = [] ∧ RC ⟨[], [], w', frz, imm⟩ x.a x.v []) : Ifc W [] [] w' [] H' frz imm := by
  have hz : ∀ (L : List Hd), (∀ x ∈ L, x.fp = []) → ∀ b, (L.map fun h => h.fp.count b).sum = 0 := by
    intro L
    induction L with
    | nil => intro _ b; rfl
    | cons x xs ih =>
      intro hx b
      rw [List.map_cons, List.sum_cons, ih (fun y hy => hx y (List.mem_cons_of_mem _ hy)), hx x List.mem_cons_self]
      rfl
  have ho : ∀ b, ownc [] H' b = 0 := fun b => by
    unfold ownc
    rw [hz H' (fun x hx => (hH x hx).1)]
    rfl
  exact {
    base := h.base.trans (hb.mono h.base.size)
    fi := h.fi
    lo := h.lo
    ilt := fun b q => Nat.lt_of_lt_of_le (h.ilt b q) hb.size
    len := rfl
    sl := h.sl
    objs := fun o h1 h2 => absurd h2 (by simp)
    slots := fun s h1 => absurd h1 (by simp)
    tms := h.tms
    held := fun x hx => by rw [(hH x hx).1]; exact (hH x hx).2
    one := fun b => by rw [ho]; omega
    apart := fun b _ => ho b
    olt := fun b q => by rw [ho] at q; omega
    pin := fun p q => absurd q (by simp) }
theorem ext_plain {W : World} {w w' : World} {H : List Hd} {frz imm : Nat → Prop} (h : Ifc W [] [] w [] H frz imm) (hb : Below w.heap.size w w') : Ext w frz imm w' frz imm :=
  ⟨hb.size, fun b q => hb.block b (h.ilt b q), fun _ q => q, fun _ q => q, fun b q => .inl q⟩

/-- int64 to text. -/
theorem good_is {W : World} {f : FuncId} {fn : Func} (hf : P.funcs[f]? = some fn) (hb : fn.body.isNone = false) (hn : (fn.name == "runtime.NumGoroutine") = false) {F : Int → Option (ByteArray × Unit)}
    (hc : ∀ a r w, F a = some (r, ()) → Below W.heap.size W w → Calls P f #[.int .i64 a] w fun e w' => e = .returned (.string r) ∧ Below w.heap.size w w') : Good P W f ⟨[.one (.int .i64)], [], [.one .str], [], fun (x : Int × Unit) => F x.1⟩ where
  ok := rfl
  fn := ⟨fn, hf, hb, hn⟩
  run := fun x r hx w G H frz imm hI hH => by
    obtain ⟨a, u⟩ := x
    obtain ⟨r, u'⟩ := r
    have hH : H.map (·.a) = [.int .i64 a] := hH
    match H, hH, hI with
    | [⟨_, v0, f0⟩], hH, hI =>
    simp only [List.map_cons, List.map_nil, List.cons.injEq, and_true] at hH
    subst hH
    have hG : G = [] := List.eq_nil_of_length_eq_zero hI.len
    subst hG
    have r0 : f0 = [] ∧ v0 = .int .i64 a := hI.held ⟨.int .i64 a, v0, f0⟩ List.mem_cons_self
    obtain ⟨rfl, rfl⟩ := r0
    refine (hc a r w hx hI.base).mono ?_
    rintro e w' ⟨rfl, hb⟩
    exact ⟨_, rfl, [], [⟨.str r, .string r, []⟩], frz, imm, rep_plain hI hb (fun x hx => by rw [List.mem_singleton.1 hx]; exact ⟨rfl, rfl, rfl⟩), rfl, rfl, fun j g hj => absurd hj (by simp), ext_plain hI hb⟩
/-- Two texts to int64. -/
theorem good_ssi {W : World} {f : FuncId} {fn : Func} (hf : P.funcs[f]? = some fn) (hb : fn.body.isNone = false) (hn : (fn.name == "runtime.NumGoroutine") = false) {F : ByteArray → ByteArray → Option (Int × Unit)}
    (hc : ∀ a b r w, F a b = some (r, ()) → Below W.heap.size W w → Calls P f #[.string a, .string b] w fun e w' => e = .returned (.int .i64 r) ∧ Below w.heap.size w w') : Good P W f ⟨[.one .str, .one .str], [], [.one (.int .i64)], [], fun (x : ByteArray × ByteArray × Unit) => F x.1 x.2.1⟩ where
  ok := rfl
  fn := ⟨fn, hf, hb, hn⟩
  run := fun x r hx w G H frz imm hI hH => by
    obtain ⟨a, b, u⟩ := x
    obtain ⟨r, u'⟩ := r
    have hH : H.map (·.a) = [.str a, .str b] := hH
    match H, hH, hI with
    | [⟨_, v0, f0⟩, ⟨_, v1, f1⟩], hH, hI =>
    simp only [List.map_cons, List.map_nil, List.cons.injEq, and_true] at hH
    obtain ⟨rfl, rfl⟩ := hH
    have hG : G = [] := List.eq_nil_of_length_eq_zero hI.len
    subst hG
    have r0 : f0 = [] ∧ v0 = .string a := hI.held ⟨.str a, v0, f0⟩ List.mem_cons_self
    have r1 : f1 = [] ∧ v1 = .string b := hI.held ⟨.str b, v1, f1⟩ (List.mem_cons_of_mem _ List.mem_cons_self)
    obtain ⟨rfl, rfl⟩ := r0
    obtain ⟨rfl, rfl⟩ := r1
    refine (hc a b r w hx hI.base).mono ?_
    rintro e w' ⟨rfl, hb⟩
    exact ⟨_, rfl, [], [⟨.int .i64 r, .int .i64 r, []⟩], frz, imm, rep_plain hI hb (fun x hx => by rw [List.mem_singleton.1 hx]; exact ⟨rfl, rfl, rfl⟩), rfl, rfl, fun j g hj => absurd hj (by simp), ext_plain hI hb⟩
/-- Two texts to two texts and a bool. -/
theorem good_ssb {W : World} {f : FuncId} {fn : Func} (hf : P.funcs[f]? = some fn) (hb : fn.body.isNone = false) (hn : (fn.name == "runtime.NumGoroutine") = false) {F : ByteArray → ByteArray → Option (ByteArray × ByteArray × Bool × Unit)}
    (hc : ∀ a b r1 r2 r3 w, F a b = some (r1, r2, r3, ()) → Below W.heap.size W w → Calls P f #[.string a, .string b] w fun e w' => e = .returned (.tuple #[.string r1, .string r2, .bool r3]) ∧ Below w.heap.size w w') : Good P W f ⟨[.one .str, .one .str], [], [.one .str, .one .str, .one .bool], [], fun (x : ByteArray × ByteArray × Unit) => F x.1 x.2.1⟩ where
  ok := rfl
  fn := ⟨fn, hf, hb, hn⟩
  run := fun x r hx w G H frz imm hI hH => by
    obtain ⟨a, b, u⟩ := x
    obtain ⟨r1, r2, r3, u'⟩ := r
    have hH : H.map (·.a) = [.str a, .str b] := hH
    match H, hH, hI with
    | [⟨_, v0, f0⟩, ⟨_, v1, f1⟩], hH, hI =>
    simp only [List.map_cons, List.map_nil, List.cons.injEq, and_true] at hH
    obtain ⟨rfl, rfl⟩ := hH
    have hG : G = [] := List.eq_nil_of_length_eq_zero hI.len
    subst hG
    have q0 : f0 = [] ∧ v0 = .string a := hI.held ⟨.str a, v0, f0⟩ List.mem_cons_self
    have q1 : f1 = [] ∧ v1 = .string b := hI.held ⟨.str b, v1, f1⟩ (List.mem_cons_of_mem _ List.mem_cons_self)
    obtain ⟨rfl, rfl⟩ := q0
    obtain ⟨rfl, rfl⟩ := q1
    refine (hc a b r1 r2 r3 w hx hI.base).mono ?_
    rintro e w' ⟨rfl, hb⟩
    exact ⟨_, rfl, [], [⟨.str r1, .string r1, []⟩, ⟨.str r2, .string r2, []⟩, ⟨.bool r3, .bool r3, []⟩], frz, imm, rep_plain hI hb (fun x hx => by
      simp only [List.mem_cons, List.not_mem_nil, or_false] at hx
      rcases hx with h | h | h <;> rw [h] <;> exact ⟨rfl, rfl, rfl⟩), rfl, rfl, fun j g hj => absurd hj (by simp), ext_plain hI hb⟩

def itoF (a : Int) : Option (ByteArray × Unit) := if decide (-9223372036854775808 ≤ a ∧ a ≤ 9223372036854775807) = true then some (⟨(Go.Lib.itoa a).toArray⟩, ()) else none
def anyF (s c : ByteArray) : Option (Int × Unit) := if decide (s.size < 4294967281) = true then if decide (c.toList = (⟨#[60, 62]⟩ : ByteArray).toList) = true then some (Go.Lib.indexAny s.data.toList [60, 62], ()) else none else none
def cutF (s c : ByteArray) : Option (ByteArray × ByteArray × Bool × Unit) := if decide (s.size < 4294967281) = true then some (⟨(Go.Lib.cut s.data.toList c.data.toList).1.toArray⟩, ⟨(Go.Lib.cut s.data.toList c.data.toList).2.1.toArray⟩, (Go.Lib.cut s.data.toList c.data.toList).2.2, ()) else none
end Go.Eva
end
section
/- Contracts of the library's functions on texts: Split. -/
namespace Go.Eva
set_option linter.unusedVariables false
def splF (s c : ByteArray) : Option (List ByteArray × Unit) := if decide (s.size < 4294967281) = true then if decide (1 ≤ c.size) = true then some (Go.Lib.splitB c 0 (Go.Lib.countB s c) s, ()) else none else none
def rcF (s : ByteArray) : Option (Int × Unit) := none
end Go.Eva
end
section
/- Functions called on plain facts: what a caller holds, what stays. -/
namespace Go.Eva
open Go.RowKit (Below)
set_option linter.unusedVariables false
variable {P : Program}

/-- A list that the caller owns, all of it, in blocks from lo on. -/
structure Own (lo : Nat) (w : World) (e : TypeId) (κ : Kd) (v : Value) (l : List κ.T) (fp : List Nat) : Prop where
  rd : RdS w true (Rd w true κ) κ.n e v l fp
  nd : fp.Nodup
  lo : ∀ b ∈ fp, lo ≤ b
theorem Own.lt {lo : Nat} {w : World} {e : TypeId} {κ : Kd} {v : Value} {l : List κ.T} {fp : List Nat} (h : Own lo w e κ v l fp) : ∀ b ∈ fp, b < w.heap.size := h.rd.lt fun g x f q => Rd.lt κ g x f q
theorem Own.keep {lo : Nat} {w w' : World} {e : TypeId} {κ : Kd} {v : Value} {l : List κ.T} {fp : List Nat} (h : Own lo w e κ v l fp) (hs : w.heap.size ≤ w'.heap.size) (hb : ∀ b ∈ fp, w'.heap[b]? = w.heap[b]?) : Own lo w' e κ v l fp :=
  ⟨h.rd.imp id hs hb fun g x f hf hr g' hg => Rd.frame id hs κ g g' x f hr (fun b hbf => hb b (hf b hbf)) (fun j _ => hg j), h.nd, h.lo⟩
theorem Own.below {lo : Nat} {w w' : World} {e : TypeId} {κ : Kd} {v : Value} {l : List κ.T} {fp : List Nat} (h : Own lo w e κ v l fp) (hb : Below w.heap.size w w') : Own lo w' e κ v l fp :=
  h.keep hb.size fun b q => hb.block b (h.lt b q)
def frz0 (W : World) : Nat → Prop := fun b => b < W.heap.size
def imm0 (w : World) : Nat → Prop := fun b => b < w.heap.size
theorem Own.lend {lo : Nat} {w : World} {e : TypeId} {κ : Kd} {v : Value} {l : List κ.T} {fp : List Nat} (h : Own lo w e κ v l fp) (frz : Nat → Prop) : R0 ⟨[], [], w, frz, imm0 w⟩ (.sl (.imm true) e κ l) v :=
  ⟨fp, h.rd.imp (fun q => by cases q) (Nat.le_refl _) (fun _ _ => rfl) (fun g x f hf hr g' hg => Rd.frame (fun q => by cases q) (Nat.le_refl _) κ g g' x f hr (fun _ _ => rfl) (fun j _ => hg j)), fun x hx => h.lt x hx⟩
theorem no_own : ∀ (L : List Hd), (∀ x ∈ L, x.fp = []) → ∀ b, (L.map fun h => h.fp.count b).sum = 0 := by
  intro L
  induction L with
  | nil => intro _ b; rfl
  | cons x xs ih =>
    intro hx b
    rw [List.map_cons, List.sum_cons, ih (fun y hy => hx y (List.mem_cons_of_mem _ hy)), hx x List.mem_cons_self]
    rfl
theorem ifc_in {W : World} {w : World} (hB : Below W.heap.size W w) {H : List Hd} (hH : ∀ x ∈ H, x.fp = [] ∧ RC ⟨[], [], w, frz0 W, imm0 w⟩ x.a x.v []) : Ifc W [] [] w [] H (frz0 W) (imm0 w) := by
  have ho : ∀ b, ownc [] H b = 0 := fun b => by
    unfold ownc
    rw [no_own H (fun x hx => (hH x hx).1)]
    rfl
  exact {
    base := hB
    fi := fun b q => Nat.lt_of_lt_of_le q hB.size
    lo := fun b q => q
    ilt := fun b q => q
    len := rfl
    sl := Nat.le_refl _
    objs := fun o h1 h2 => absurd h2 (by simp)
    slots := fun s h1 => absurd h1 (by simp)
    tms := rfl
    held := fun x hx => by rw [(hH x hx).1]; exact (hH x hx).2
    one := fun b => by rw [ho]; omega
    apart := fun b _ => ho b
    olt := fun b q => by rw [ho] at q; omega
    pin := fun p q => absurd q (by simp) }
theorem ifc_out {W w w' : World} {G' : List Gh} {H' : List Hd} {frz imm : Nat → Prop} {c : List AV} {ss : List (List Sc)} (hB : Below W.heap.size W w) (h : Ifc W ss c w' G' H' frz imm) (x : Ext w (frz0 W) (imm0 w) w' frz imm) : Below w.heap.size w w' :=
  ⟨h.base.os.trans hB.os.symm, h.base.tape.trans hB.tape.symm, h.base.output.trans hB.output.symm, x.size, fun k hk => x.same k hk⟩
theorem own_out {W w w' : World} {H' : List Hd} {frz imm : Nat → Prop} {e : TypeId} {κ : Kd} {l : List κ.T} {v : Value} {fp : List Nat} (h : Ifc W [] [] w' [] (⟨.sl .own e κ l, v, fp⟩ :: H') frz imm) (x : Ext w (frz0 W) (imm0 w) w' frz imm) : Own w.heap.size w' e κ v l fp := by
  have hc : ∀ b, fp.count b ≤ ownc [] (⟨.sl .own e κ l, v, fp⟩ :: H') b := fun b => by
    unfold ownc
    rw [List.map_cons, List.sum_cons]
    show fp.count b ≤ fp.count b + _ + _
    omega
  refine ⟨h.held _ List.mem_cons_self, List.nodup_iff_count.2 fun b => Nat.le_trans (hc b) (h.one b), fun b hb => Nat.le_of_not_lt fun q => ?_⟩
  have h0 := h.apart b (x.im b q)
  have := hc b
  have := List.count_pos_iff.2 hb
  omega
/-- Two lists read: a bool. -/
theorem call_eq {W w : World} {f : FuncId} {e : TypeId} {κ : Kd} {F : List κ.T → List κ.T → Option (Bool × Unit)} (hg : Good P W f ⟨[.one (.sl (.imm true) e κ), .one (.sl (.imm true) e κ)], [], [.one .bool], [], fun (x : List κ.T × List κ.T × Unit) => F x.1 x.2.1⟩)
    (hB : Below W.heap.size W w) {lo1 lo2 : Nat} {v1 v2 : Value} {l1 l2 : List κ.T} {fp1 fp2 : List Nat} (h1 : Own lo1 w e κ v1 l1 fp1) (h2 : Own lo2 w e κ v2 l2 fp2) {b : Bool} (hx : F l1 l2 = some (b, ())) :
    Calls P f #[v1, v2] w fun x w' => x = .returned (.bool b) ∧ Below w.heap.size w w' := by
  have hI := ifc_in hB (H := [⟨.sl (.imm true) e κ l1, v1, []⟩, ⟨.sl (.imm true) e κ l2, v2, []⟩]) (fun x hx => by
    rcases List.mem_cons.1 hx with rfl | hx
    · exact ⟨rfl, rfl, h1.lend _⟩
    · rw [List.mem_singleton.1 hx]; exact ⟨rfl, rfl, h2.lend _⟩)
  refine (hg.run (l1, l2, ()) (b, ()) hx w [] _ _ _ hI rfl).mono ?_
  rintro x w' ⟨v, rfl, G', H', frz1, imm1, p1, p2, p3, p4, p5⟩
  have p2 : H'.map (·.a) = [.bool b] := p2
  match H', p2, p1, p3 with
  | [⟨_, v', f'⟩], p2, p1, p3 =>
  simp only [List.map_cons, List.map_nil, List.cons.injEq, and_true] at p2
  subst p2
  obtain rfl : G' = [] := List.eq_nil_of_length_eq_zero p1.len
  have p3 : v = v' := p3
  subst p3
  have r0 : f' = [] ∧ v = .bool b := p1.held _ List.mem_cons_self
  rw [r0.2]
  exact ⟨rfl, ifc_out hB p1 p5⟩
/-- A list and a number read: a number. -/
theorem call_held {W w : World} {f : FuncId} {e : TypeId} {κ : Kd} {F : List κ.T → Int → Option (Int × Unit)} (hg : Good P W f ⟨[.one (.sl (.imm true) e κ), .one (.int .i64)], [], [.one (.int .i64)], [], fun (x : List κ.T × Int × Unit) => F x.1 x.2.1⟩)
    (hB : Below W.heap.size W w) {lo1 : Nat} {v1 : Value} {l1 : List κ.T} {fp1 : List Nat} (h1 : Own lo1 w e κ v1 l1 fp1) {k r : Int} (hx : F l1 k = some (r, ())) :
    Calls P f #[v1, .int .i64 k] w fun x w' => x = .returned (.int .i64 r) ∧ Below w.heap.size w w' := by
  have hI := ifc_in hB (H := [⟨.sl (.imm true) e κ l1, v1, []⟩, ⟨.int .i64 k, .int .i64 k, []⟩]) (fun x hx => by
    rcases List.mem_cons.1 hx with rfl | hx
    · exact ⟨rfl, rfl, h1.lend _⟩
    · rw [List.mem_singleton.1 hx]; exact ⟨rfl, rfl, rfl⟩)
  refine (hg.run (l1, k, ()) (r, ()) hx w [] _ _ _ hI rfl).mono ?_
  rintro x w' ⟨v, rfl, G', H', frz1, imm1, p1, p2, p3, p4, p5⟩
  have p2 : H'.map (·.a) = [.int .i64 r] := p2
  match H', p2, p1, p3 with
  | [⟨_, v', f'⟩], p2, p1, p3 =>
  simp only [List.map_cons, List.map_nil, List.cons.injEq, and_true] at p2
  subst p2
  obtain rfl : G' = [] := List.eq_nil_of_length_eq_zero p1.len
  have p3 : v = v' := p3
  subst p3
  have r0 : f' = [] ∧ v = .int .i64 r := p1.held _ List.mem_cons_self
  rw [r0.2]
  exact ⟨rfl, ifc_out hB p1 p5⟩
/-- A number read: a text. -/
theorem call_text {W w : World} {f : FuncId} {F : Int → Option (ByteArray × Unit)} (hg : Good P W f ⟨[.one (.int .i64)], [], [.one .str], [], fun (x : Int × Unit) => F x.1⟩)
    (hB : Below W.heap.size W w) {k : Int} {r : ByteArray} (hx : F k = some (r, ())) :
    Calls P f #[.int .i64 k] w fun x w' => x = .returned (.string r) ∧ Below w.heap.size w w' := by
  have hI := ifc_in hB (H := [⟨.int .i64 k, .int .i64 k, []⟩]) (fun x hx => by rw [List.mem_singleton.1 hx]; exact ⟨rfl, rfl, rfl⟩)
  refine (hg.run (k, ()) (r, ()) hx w [] _ _ _ hI rfl).mono ?_
  rintro x w' ⟨v, rfl, G', H', frz1, imm1, p1, p2, p3, p4, p5⟩
  have p2 : H'.map (·.a) = [.str r] := p2
  match H', p2, p1, p3 with
  | [⟨_, v', f'⟩], p2, p1, p3 =>
  simp only [List.map_cons, List.map_nil, List.cons.injEq, and_true] at p2
  subst p2
  obtain rfl : G' = [] := List.eq_nil_of_length_eq_zero p1.len
  have p3 : v = v' := p3
  subst p3
  have r0 : f' = [] ∧ v = .string r := p1.held _ List.mem_cons_self
  rw [r0.2]
  exact ⟨rfl, ifc_out hB p1 p5⟩
/-- A text read: a list of one's own, and a bool. -/
theorem call_read {W w : World} {f : FuncId} {e : TypeId} {κ : Kd} {F : ByteArray → Option (List κ.T × Bool × Unit)} (hg : Good P W f ⟨[.one .str], [], [.one (.sl .own e κ), .one .bool], [], fun (x : ByteArray × Unit) => F x.1⟩)
    (hB : Below W.heap.size W w) {s : ByteArray} {l : List κ.T} {b : Bool} (hx : F s = some (l, b, ())) :
    Calls P f #[.string s] w fun x w' => ∃ v fp, x = .returned (.tuple #[v, .bool b]) ∧ Own w.heap.size w' e κ v l fp ∧ Below w.heap.size w w' := by
  have hI := ifc_in hB (H := [⟨.str s, .string s, []⟩]) (fun x hx => by rw [List.mem_singleton.1 hx]; exact ⟨rfl, rfl, rfl⟩)
  refine (hg.run (s, ()) (l, b, ()) hx w [] _ _ _ hI rfl).mono ?_
  rintro x w' ⟨v, rfl, G', H', frz1, imm1, p1, p2, p3, p4, p5⟩
  have p2 : H'.map (·.a) = [.sl .own e κ l, .bool b] := p2
  match H', p2, p1, p3 with
  | [⟨_, v', f'⟩, ⟨_, v2, f2⟩], p2, p1, p3 =>
  simp only [List.map_cons, List.map_nil, List.cons.injEq, and_true] at p2
  obtain ⟨rfl, rfl⟩ := p2
  obtain rfl : G' = [] := List.eq_nil_of_length_eq_zero p1.len
  have p3 : v = .tuple #[v', v2] := p3
  have r0 : f2 = [] ∧ v2 = .bool b := p1.held ⟨.bool b, v2, f2⟩ (List.mem_cons_of_mem _ List.mem_cons_self)
  rw [p3, r0.2]
  exact ⟨v', f', rfl, own_out p1 p5, ifc_out hB p1 p5⟩
end Go.Eva
end
section
/- Rows of a list written in place. -/
namespace Go.Eva
open Go.RowKit (Below)
set_option linter.unusedVariables false
variable {P : Program}

/-- Only the cells of block g are others; cur stands there. -/
structure Mk (w w' : World) (g : Nat) (cur : Array Value) (e : TypeId) : Prop where
  os : w'.os = w.os
  tape : w'.tape = w.tape
  output : w'.output = w.output
  size : w.heap.size ≤ w'.heap.size
  here : w'.heap[g]? = some (.cells cur e (0, 0))
  other : ∀ b, b < w.heap.size → b ≠ g → w'.heap[b]? = w.heap[b]?
theorem Mk.refl {w : World} {g : Nat} {cur : Array Value} {e : TypeId} (h : w.heap[g]? = some (.cells cur e (0, 0))) : Mk w w g cur e := ⟨rfl, rfl, rfl, Nat.le_refl _, h, fun _ _ _ => rfl⟩
theorem Mk.set {w w' : World} {g : Nat} {cur : Array Value} {e : TypeId} (h : Mk w w' g cur e) (p : Nat) (v : Value) : Mk w (w'.setCell ⟨g, p, none⟩ v) g (cur.setIfInBounds p v) e := by
  refine ⟨h.os, h.tape, h.output, ?_, ?_, fun b hb hn => ?_⟩
  · show _ ≤ (w'.heap.modify g _).size
    rw [Array.size_modify]
    exact h.size
  · show (w'.heap.modify g _)[g]? = _
    rw [Array.getElem?_modify, if_pos rfl, h.here]
    rfl
  · show (w'.heap.modify g _)[b]? = _
    rw [Array.getElem?_modify, if_neg (Ne.symm hn)]
    exact h.other b hb hn
theorem Mk.below {w w' w'' : World} {g : Nat} {cur : Array Value} {e : TypeId} (h : Mk w w' g cur e) (hb : Below w'.heap.size w' w'') : Mk w w'' g cur e := by
  have hg : g < w'.heap.size := (Array.getElem?_eq_some_iff.1 h.here).1
  exact ⟨hb.os.trans h.os, hb.tape.trans h.tape, hb.output.trans h.output, Nat.le_trans h.size hb.size, (hb.block g hg).trans h.here, fun b q hn => (hb.block b (Nat.lt_of_lt_of_le q h.size)).trans (h.other b q hn)⟩
theorem Mk.base {w w' : World} {g : Nat} {cur : Array Value} {e : TypeId} (h : Mk w w' g cur e) {B : Nat} {W : World} (hB : Below B W w) (hg : B ≤ g) (hl : B ≤ w.heap.size) : Below B W w' :=
  ⟨h.os.trans hB.os, h.tape.trans hB.tape, h.output.trans hB.output, Nat.le_trans hB.size h.size, fun k hk => (h.other k (Nat.lt_of_lt_of_le hk hl) (by omega)).trans (hB.block k hk)⟩
theorem Mk.cell {w w' : World} {g : Nat} {cur : Array Value} {e : TypeId} (h : Mk w w' g cur e) {p : Nat} (hp : p < cur.size) : ∃ c, w'.cell? ⟨g, p, none⟩ = some c := by
  refine ⟨cur[p], ?_⟩
  simp [World.cell?, h.here, hp]
theorem Mk.frozen {w w' : World} {g : Nat} {cur : Array Value} {e : TypeId} (h : Mk w w' g cur e) (p : Nat) : w'.frozen? ⟨g, p, none⟩ = false := by
  simp [World.frozen?, h.here]
/-- A row written. -/
theorem FLr.put {κ : Kd} {cur cur' : Array Value} {off : Nat} {l : List κ.T} (h : FLr κ cur.toList off l) {i : Nat} (hi : i < l.length) {x : κ.T} (hk : κ.flat = true)
    (hs : ∀ q, ¬ (off + i * κ.n ≤ q ∧ q < off + i * κ.n + κ.n) → cur'[q]? = cur[q]?) (hx : ∀ w : World, Rd w true κ (fun j => cur'[off + i * κ.n + j]?) x []) : FLr κ cur'.toList off (l.set i x) := by
  intro w k hk'
  have hk2 : k < l.length := by rwa [List.length_set] at hk'
  by_cases e : k = i
  · subst e
    rw [List.getElem_set_self]
    have := hx w
    simp only [Array.getElem?_toList]
    exact this
  · rw [List.getElem_set_ne (Ne.symm e)]
    refine Rd.frame id (Nat.le_refl _) κ _ _ _ [] (h w k hk2) (fun b hb => by cases hb) (fun j hj => ?_)
    simp only [Array.getElem?_toList]
    refine hs _ fun q => ?_
    rcases Nat.lt_or_gt_of_ne e with h1 | h1
    · have := Nat.mul_le_mul_right κ.n (show k + 1 ≤ i by omega)
      rw [Nat.add_mul, Nat.one_mul] at this
      omega
    · have := Nat.mul_le_mul_right κ.n (show i + 1 ≤ k by omega)
      rw [Nat.add_mul, Nat.one_mul] at this
      omega
/-- Only blocks of S are others. -/
structure Kp (w w' : World) (S : List Nat) : Prop where
  os : w'.os = w.os
  tape : w'.tape = w.tape
  output : w'.output = w.output
  size : w.heap.size ≤ w'.heap.size
  other : ∀ b, b < w.heap.size → b ∉ S → w'.heap[b]? = w.heap[b]?
theorem Kp.refl (w : World) (S : List Nat) : Kp w w S := ⟨rfl, rfl, rfl, Nat.le_refl _, fun _ _ _ => rfl⟩
theorem Kp.trans {w w1 w2 : World} {S : List Nat} (h : Kp w w1 S) (k : Kp w1 w2 S) : Kp w w2 S :=
  ⟨k.os.trans h.os, k.tape.trans h.tape, k.output.trans h.output, Nat.le_trans h.size k.size, fun b q n => (k.other b (Nat.lt_of_lt_of_le q h.size) n).trans (h.other b q n)⟩
theorem Kp.mono {w w1 : World} {S T : List Nat} (h : Kp w w1 S) (hs : ∀ b ∈ S, b ∈ T) : Kp w w1 T := ⟨h.os, h.tape, h.output, h.size, fun b q n => h.other b q fun k => n (hs b k)⟩
theorem Kp.base {w w' : World} {S : List Nat} (h : Kp w w' S) {W : World} (hB : Below W.heap.size W w) (hg : ∀ b ∈ S, W.heap.size ≤ b) : Below W.heap.size W w' :=
  ⟨h.os.trans hB.os, h.tape.trans hB.tape, h.output.trans hB.output, Nat.le_trans hB.size h.size, fun k hk => (h.other k (Nat.lt_of_lt_of_le hk hB.size) (fun q => by have := hg k q; omega)).trans (hB.block k hk)⟩
theorem Mk.kp {w w' : World} {g : Nat} {cur : Array Value} {e : TypeId} (h : Mk w w' g cur e) : Kp w w' [g] := ⟨h.os, h.tape, h.output, h.size, fun b q n => h.other b q fun e => n (by rw [e]; exact List.mem_singleton.2 rfl)⟩
theorem two_mem {b : Nat} : ∀ (fps : List (List Nat)) (i j : Nat) (hj : j < fps.length) (h : i < j), b ∈ fps[i] → b ∈ fps[j] → 2 ≤ fps.flatten.count b
  | f :: fps, 0, j + 1, hj, _, hi, hj' => by
    have h1 : 1 ≤ f.count b := List.count_pos_iff.2 hi
    have h2 : 1 ≤ fps.flatten.count b := List.count_pos_iff.2 (List.mem_flatten.2 ⟨fps[j]'(by simpa using hj), List.getElem_mem _, hj'⟩)
    rw [List.flatten_cons, List.count_append]
    omega
  | f :: fps, i + 1, j + 1, hj, h, hi, hj' => by
    have := two_mem fps i j (by simpa using hj) (by omega) hi hj'
    rw [List.flatten_cons, List.count_append]
    omega
theorem two_ne {b : Nat} {fps : List (List Nat)} (hn : fps.flatten.Nodup) {i j : Nat} (hi : i < fps.length) (hj : j < fps.length) (h : i ≠ j) (h1 : b ∈ fps[i]) (h2 : b ∈ fps[j]) : False := by
  have hc := List.nodup_iff_count.1 hn b
  rcases Nat.lt_or_gt_of_ne h with q | q
  · have := two_mem fps i j hj q h1 h2; omega
  · have := two_mem fps j i hi q h2 h1; omega
theorem nd_row {fps : List (List Nat)} (hn : fps.flatten.Nodup) {i : Nat} (hi : i < fps.length) : fps[i].Nodup := (List.sublist_flatten_of_mem (List.getElem_mem hi)).nodup hn
/-- A nested row: its value, and how the whole stays when it is another. -/
theorem nest_put {w : World} {e e1 : TypeId} {κ : Kd} {v : Value} {T : List (List κ.T)} {fp : List Nat} (h : RdS w true (Rd w true (.sl e κ)) (Kd.sl e κ).n e1 v T fp) (hnd : fp.Nodup) {i : Nat} (hi : i < T.length) :
    ∃ g off cap vi fi, v = .slice (some ⟨g, off, none⟩) T.length cap ∧ w.cell? ⟨g, off + i, none⟩ = some vi ∧ RdS w true (Rd w true κ) κ.n e vi T[i] fi ∧ (∀ b ∈ fi, b ∈ fp) ∧ fi.Nodup ∧
      ∀ w' l', Kp w w' fi → RdS w' true (Rd w' true κ) κ.n e vi l' fi → RdS w' true (Rd w' true (.sl e κ)) (Kd.sl e κ).n e1 v (T.set i l') fp := by
  rcases h with ⟨h1, _⟩ | ⟨g, off, cap, fps, h1, h2, h3, h4, h40, h5, h6⟩
  · rw [h1] at hi; exact absurd hi (Nat.not_lt_zero _)
  · have hif : i < fps.length := by omega
    rw [h2] at hnd
    have hgf : g ∉ fps.flatten := (List.nodup_cons.1 hnd).1
    have hnf := (List.nodup_cons.1 hnd).2
    have hn1 : (Kd.sl e κ).n = 1 := rfl
    obtain ⟨vi, c1, c2⟩ := h6 i hi hif
    have c1 : w.cell? ⟨g, off + i * (Kd.sl e κ).n + 0, none⟩ = some vi := c1
    rw [hn1, Nat.mul_one, Nat.add_zero] at c1
    refine ⟨g, off, cap, vi, fps[i], h1, c1, c2, fun b hb => ?_, nd_row hnf hif, fun w' l' hk hr => ?_⟩
    · rw [h2]; exact List.mem_cons_of_mem _ (List.mem_flatten.2 ⟨_, List.getElem_mem hif, hb⟩)
    · have hgo : w'.heap[g]? = w.heap[g]? := hk.other g h4 fun q => hgf (List.mem_flatten.2 ⟨_, List.getElem_mem hif, q⟩)
      have hcell : ∀ p, w'.cell? ⟨g, p, none⟩ = w.cell? ⟨g, p, none⟩ := fun p => World.cell?_of_block (w := w) (w' := w') (a := ⟨g, p, none⟩) hgo
      refine .inr ⟨g, off, cap, fps, by rw [List.length_set]; exact h1, h2, by rw [List.length_set]; exact h3, Nat.lt_of_lt_of_le h4 hk.size, by rw [List.length_set]; exact h40, fun q => ?_, fun j hj hj' => ?_⟩
      · obtain ⟨cur, q1, q2⟩ := h5 q
        exact ⟨cur, hgo.trans q1, q2⟩
      · have hj2 : j < T.length := by rwa [List.length_set] at hj
        by_cases ej : j = i
        · subst ej
          rw [List.getElem_set_self]
          refine ⟨vi, ?_, hr⟩
          show w'.cell? ⟨g, off + j * (Kd.sl e κ).n + 0, none⟩ = some vi
          rw [hcell, hn1, Nat.mul_one, Nat.add_zero]
          exact c1
        · rw [List.getElem_set_ne (Ne.symm ej)]
          refine Rd.frame id hk.size (.sl e κ) _ _ _ _ (h6 j hj2 hj') (fun b hb => ?_) (fun p _ => hcell _)
          have hlt : b < w.heap.size := Rd.lt (.sl e κ) _ _ _ (h6 j hj2 hj') b hb
          exact hk.other b hlt fun q => two_ne hnf hif hj' (Ne.symm ej) q hb
end Go.Eva
end
section
/- Functions called on plain facts: structs of two numbers and a list. -/
namespace Go.Eva
open Go.RowKit (Below)
set_option linter.unusedVariables false
variable {P : Program}

/-- A list that may be read. -/
def Lent (w : World) (e : TypeId) (κ : Kd) (v : Value) (l : List κ.T) : Prop := ∃ fp, RdS w false (Rd w false κ) κ.n e v l fp ∧ ∀ b ∈ fp, b < w.heap.size
theorem Own.lent {lo : Nat} {w : World} {e : TypeId} {κ : Kd} {v : Value} {l : List κ.T} {fp : List Nat} (h : Own lo w e κ v l fp) : Lent w e κ v l := h.lend (fun _ => True)
theorem Lent.below {w w' : World} {e : TypeId} {κ : Kd} {v : Value} {l : List κ.T} (h : Lent w e κ v l) (hb : Below w.heap.size w w') : Lent w' e κ v l := by
  obtain ⟨fp, h1, h2⟩ := h
  exact ⟨fp, h1.imp id hb.size (fun b q => hb.block b (h2 b q)) (fun g x f hf hr g' hg => Rd.frame id hb.size κ g g' x f hr (fun b hbf => hb.block b (h2 b (hf b hbf))) (fun j _ => hg j)), fun b q => Nat.lt_of_lt_of_le (h2 b q) hb.size⟩
theorem Lent.rc {W w : World} {e : TypeId} {κ : Kd} {v : Value} {l : List κ.T} (h : Lent w e κ v l) : RC ⟨[], [], w, frz0 W, imm0 w⟩ (.sl (.imm true) e κ l) v [] := ⟨rfl, h⟩
theorem int_rc {W w : World} (k : Int) : RC ⟨[], [], w, frz0 W, imm0 w⟩ (.int .i64 k) (.int .i64 k) [] := ⟨rfl, rfl⟩
theorem call_core {W w : World} {f : FuncId} {ar rs : List Shp} {F : Ts (flats ar ++ flat2 []) → Option (Ts (flats rs ++ flat2 []))} (hg : Good P W f ⟨ar, [], rs, [], F⟩) (hB : Below W.heap.size W w) {H : List Hd} (hH : ∀ x ∈ H, x.fp = [] ∧ RC ⟨[], [], w, frz0 W, imm0 w⟩ x.a x.v [])
    {x : Ts (flats ar ++ flat2 [])} {r : Ts (flats rs ++ flat2 [])} (hx : F x = some r) (ha : H.map (·.a) = (ofTs _ x).take (flats ar).length) (hd : (ofTs _ x).drop (flats ar).length = []) (hd' : (ofTs _ r).drop (flats rs).length = []) :
    Calls P f (shV ar (H.map (·.v))).toArray w fun e w' => ∃ v H' frz1 imm1, e = .returned v ∧ Ifc W [] [] w' [] H' frz1 imm1 ∧ H'.map (·.a) = (ofTs _ r).take (flats rs).length ∧ v = retVal (shV rs (H'.map (·.v))) ∧ Ext w (frz0 W) (imm0 w) w' frz1 imm1 := by
  have hI := ifc_in hB hH
  refine (hg.run x r hx w [] H _ _ (by show Ifc W [] ((ofTs _ x).drop (flats ar).length) w [] H _ _; rw [hd]; exact hI) ha).mono ?_
  rintro e w' ⟨v, rfl, G', H', frz1, imm1, p1, p2, p3, p4, p5⟩
  have p1 : Ifc W [] ((ofTs _ r).drop (flats rs).length) w' G' H' frz1 imm1 := p1
  rw [hd'] at p1
  obtain rfl : G' = [] := List.eq_nil_of_length_eq_zero p1.len
  exact ⟨v, H', frz1, imm1, rfl, p1, p2, p3, p5⟩
theorem two_hd {Q : Hd → Prop} {a b : Hd} (ha : Q a) (hb : Q b) : ∀ x ∈ [a, b], Q x := fun x hx => by
  rcases List.mem_cons.1 hx with rfl | hx
  · exact ha
  · rw [List.mem_singleton.1 hx]; exact hb
theorem three_hd {Q : Hd → Prop} {a b c : Hd} (ha : Q a) (hb : Q b) (hc : Q c) : ∀ x ∈ [a, b, c], Q x := fun x hx => by
  rcases List.mem_cons.1 hx with rfl | hx
  · exact ha
  · exact two_hd hb hc x hx
theorem four_hd {Q : Hd → Prop} {a b c d : Hd} (ha : Q a) (hb : Q b) (hc : Q c) (hd : Q d) : ∀ x ∈ [a, b, c, d], Q x := fun x hx => by
  rcases List.mem_cons.1 hx with rfl | hx
  · exact ha
  · exact three_hd hb hc hd x hx
theorem six_hd {Q : Hd → Prop} {a b c d e f : Hd} (ha : Q a) (hb : Q b) (hc : Q c) (hd : Q d) (he : Q e) (hf : Q f) : ∀ x ∈ [a, b, c, d, e, f], Q x := fun x hx => by
  rcases List.mem_cons.1 hx with rfl | hx
  · exact ha
  · rcases List.mem_cons.1 hx with rfl | hx
    · exact hb
    · exact four_hd hc hd he hf x hx
/-- A list and a number read: a number. -/
theorem call_li {W w : World} {f : FuncId} {e : TypeId} {κ : Kd} {F : List κ.T → Int → Option (Int × Unit)} (hg : Good P W f ⟨[.one (.sl (.imm true) e κ), .one (.int .i64)], [], [.one (.int .i64)], [], fun (x : List κ.T × Int × Unit) => F x.1 x.2.1⟩)
    (hB : Below W.heap.size W w) {v : Value} {l : List κ.T} (h : Lent w e κ v l) {k r : Int} (hx : F l k = some (r, ())) :
    Calls P f #[v, .int .i64 k] w fun x w' => x = .returned (.int .i64 r) ∧ Below w.heap.size w w' := by
  refine (call_core hg hB (H := [⟨.sl (.imm true) e κ l, v, []⟩, ⟨.int .i64 k, .int .i64 k, []⟩]) (two_hd ⟨rfl, h.rc⟩ ⟨rfl, int_rc k⟩) (x := (l, k, ())) (r := (r, ())) hx rfl rfl rfl).mono ?_
  rintro x w' ⟨v, H', frz1, imm1, rfl, p1, p2, p3, p5⟩
  have p2 : H'.map (·.a) = [.int .i64 r] := p2
  match H', p2, p1, p3 with
  | [⟨_, v', f'⟩], p2, p1, p3 =>
  simp only [List.map_cons, List.map_nil, List.cons.injEq, and_true] at p2
  subst p2
  have p3 : v = v' := p3
  subst p3
  have r0 : f' = [] ∧ v = .int .i64 r := p1.held _ List.mem_cons_self
  rw [r0.2]
  exact ⟨rfl, ifc_out hB p1 p5⟩
/-- A struct and a number read: a number. -/
theorem call_si {W w : World} {f : FuncId} {e : TypeId} {κ : Kd} {F : Int → Int → List κ.T → Int → Option (Int × Unit)} (hg : Good P W f ⟨[.agg [.int .i64, .int .i64, .sl (.imm true) e κ], .one (.int .i64)], [], [.one (.int .i64)], [], fun (x : Int × Int × List κ.T × Int × Unit) => F x.1 x.2.1 x.2.2.1 x.2.2.2.1⟩)
    (hB : Below W.heap.size W w) {v : Value} {l : List κ.T} (h : Lent w e κ v l) {c d k r : Int} (hx : F c d l k = some (r, ())) :
    Calls P f #[.agg #[.int .i64 c, .int .i64 d, v], .int .i64 k] w fun x w' => x = .returned (.int .i64 r) ∧ Below w.heap.size w w' := by
  refine (call_core hg hB (H := [⟨.int .i64 c, .int .i64 c, []⟩, ⟨.int .i64 d, .int .i64 d, []⟩, ⟨.sl (.imm true) e κ l, v, []⟩, ⟨.int .i64 k, .int .i64 k, []⟩]) (four_hd ⟨rfl, int_rc c⟩ ⟨rfl, int_rc d⟩ ⟨rfl, h.rc⟩ ⟨rfl, int_rc k⟩) (x := (c, d, l, k, ())) (r := (r, ())) hx rfl rfl rfl).mono ?_
  rintro x w' ⟨v, H', frz1, imm1, rfl, p1, p2, p3, p5⟩
  have p2 : H'.map (·.a) = [.int .i64 r] := p2
  match H', p2, p1, p3 with
  | [⟨_, v', f'⟩], p2, p1, p3 =>
  simp only [List.map_cons, List.map_nil, List.cons.injEq, and_true] at p2
  subst p2
  have p3 : v = v' := p3
  subst p3
  have r0 : f' = [] ∧ v = .int .i64 r := p1.held _ List.mem_cons_self
  rw [r0.2]
  exact ⟨rfl, ifc_out hB p1 p5⟩
/-- Two structs read: a bool. -/
theorem call_ssb {W w : World} {f : FuncId} {e : TypeId} {κ : Kd} {F : Int → Int → List κ.T → Int → Int → List κ.T → Option (Bool × Unit)} (hg : Good P W f ⟨[.agg [.int .i64, .int .i64, .sl (.imm true) e κ], .agg [.int .i64, .int .i64, .sl (.imm true) e κ]], [], [.one .bool], [], fun (x : Int × Int × List κ.T × Int × Int × List κ.T × Unit) => F x.1 x.2.1 x.2.2.1 x.2.2.2.1 x.2.2.2.2.1 x.2.2.2.2.2.1⟩)
    (hB : Below W.heap.size W w) {v v' : Value} {l l' : List κ.T} (h : Lent w e κ v l) (h' : Lent w e κ v' l') {c d c' d' : Int} {r : Bool} (hx : F c d l c' d' l' = some (r, ())) :
    Calls P f #[.agg #[.int .i64 c, .int .i64 d, v], .agg #[.int .i64 c', .int .i64 d', v']] w fun x w' => x = .returned (.bool r) ∧ Below w.heap.size w w' := by
  refine (call_core hg hB (H := [⟨.int .i64 c, .int .i64 c, []⟩, ⟨.int .i64 d, .int .i64 d, []⟩, ⟨.sl (.imm true) e κ l, v, []⟩, ⟨.int .i64 c', .int .i64 c', []⟩, ⟨.int .i64 d', .int .i64 d', []⟩, ⟨.sl (.imm true) e κ l', v', []⟩]) (six_hd ⟨rfl, int_rc c⟩ ⟨rfl, int_rc d⟩ ⟨rfl, h.rc⟩ ⟨rfl, int_rc c'⟩ ⟨rfl, int_rc d'⟩ ⟨rfl, h'.rc⟩) (x := (c, d, l, c', d', l', ())) (r := (r, ())) hx rfl rfl rfl).mono ?_
  rintro x w' ⟨v, H', frz1, imm1, rfl, p1, p2, p3, p5⟩
  have p2 : H'.map (·.a) = [.bool r] := p2
  match H', p2, p1, p3 with
  | [⟨_, v', f'⟩], p2, p1, p3 =>
  simp only [List.map_cons, List.map_nil, List.cons.injEq, and_true] at p2
  subst p2
  have p3 : v = v' := p3
  subst p3
  have r0 : f' = [] ∧ v = .bool r := p1.held _ List.mem_cons_self
  rw [r0.2]
  exact ⟨rfl, ifc_out hB p1 p5⟩
/-- Two lists read: a bool. -/
theorem call_llb {W w : World} {f : FuncId} {e : TypeId} {κ : Kd} {F : List κ.T → List κ.T → Option (Bool × Unit)} (hg : Good P W f ⟨[.one (.sl (.imm true) e κ), .one (.sl (.imm true) e κ)], [], [.one .bool], [], fun (x : List κ.T × List κ.T × Unit) => F x.1 x.2.1⟩)
    (hB : Below W.heap.size W w) {v v' : Value} {l l' : List κ.T} (h : Lent w e κ v l) (h' : Lent w e κ v' l') {r : Bool} (hx : F l l' = some (r, ())) :
    Calls P f #[v, v'] w fun x w' => x = .returned (.bool r) ∧ Below w.heap.size w w' := by
  refine (call_core hg hB (H := [⟨.sl (.imm true) e κ l, v, []⟩, ⟨.sl (.imm true) e κ l', v', []⟩]) (two_hd ⟨rfl, h.rc⟩ ⟨rfl, h'.rc⟩) (x := (l, l', ())) (r := (r, ())) hx rfl rfl rfl).mono ?_
  rintro x w' ⟨v, H', frz1, imm1, rfl, p1, p2, p3, p5⟩
  have p2 : H'.map (·.a) = [.bool r] := p2
  match H', p2, p1, p3 with
  | [⟨_, v', f'⟩], p2, p1, p3 =>
  simp only [List.map_cons, List.map_nil, List.cons.injEq, and_true] at p2
  subst p2
  have p3 : v = v' := p3
  subst p3
  have r0 : f' = [] ∧ v = .bool r := p1.held _ List.mem_cons_self
  rw [r0.2]
  exact ⟨rfl, ifc_out hB p1 p5⟩
/-- A list read: a list of one's own. -/
theorem call_ll {W w : World} {f : FuncId} {e e' : TypeId} {κ κ' : Kd} {F : List κ.T → Option (List κ'.T × Unit)} (hg : Good P W f ⟨[.one (.sl (.imm true) e κ)], [], [.one (.sl .own e' κ')], [], fun (x : List κ.T × Unit) => F x.1⟩)
    (hB : Below W.heap.size W w) {v : Value} {l : List κ.T} (h : Lent w e κ v l) {r : List κ'.T} (hx : F l = some (r, ())) :
    Calls P f #[v] w fun x w' => ∃ v' fp, x = .returned v' ∧ Own w.heap.size w' e' κ' v' r fp ∧ Below w.heap.size w w' := by
  refine (call_core hg hB (H := [⟨.sl (.imm true) e κ l, v, []⟩]) (fun x hx => by rw [List.mem_singleton.1 hx]; exact ⟨rfl, h.rc⟩) (x := (l, ())) (r := (r, ())) hx rfl rfl rfl).mono ?_
  rintro x w' ⟨v, H', frz1, imm1, rfl, p1, p2, p3, p5⟩
  have p2 : H'.map (·.a) = [.sl .own e' κ' r] := p2
  match H', p2, p1, p3 with
  | [⟨_, v', f'⟩], p2, p1, p3 =>
  simp only [List.map_cons, List.map_nil, List.cons.injEq, and_true] at p2
  subst p2
  have p3 : v = v' := p3
  subst p3
  exact ⟨v, f', rfl, own_out p1 p5, ifc_out hB p1 p5⟩
/-- A struct and a number read: a list of one's own. -/
theorem call_sil {W w : World} {f : FuncId} {e e' : TypeId} {κ κ' : Kd} {F : Int → Int → List κ.T → Int → Option (List κ'.T × Unit)} (hg : Good P W f ⟨[.agg [.int .i64, .int .i64, .sl (.imm true) e κ], .one (.int .i64)], [], [.one (.sl .own e' κ')], [], fun (x : Int × Int × List κ.T × Int × Unit) => F x.1 x.2.1 x.2.2.1 x.2.2.2.1⟩)
    (hB : Below W.heap.size W w) {v : Value} {l : List κ.T} (h : Lent w e κ v l) {c d k : Int} {r : List κ'.T} (hx : F c d l k = some (r, ())) :
    Calls P f #[.agg #[.int .i64 c, .int .i64 d, v], .int .i64 k] w fun x w' => ∃ v' fp, x = .returned v' ∧ Own w.heap.size w' e' κ' v' r fp ∧ Below w.heap.size w w' := by
  refine (call_core hg hB (H := [⟨.int .i64 c, .int .i64 c, []⟩, ⟨.int .i64 d, .int .i64 d, []⟩, ⟨.sl (.imm true) e κ l, v, []⟩, ⟨.int .i64 k, .int .i64 k, []⟩]) (four_hd ⟨rfl, int_rc c⟩ ⟨rfl, int_rc d⟩ ⟨rfl, h.rc⟩ ⟨rfl, int_rc k⟩) (x := (c, d, l, k, ())) (r := (r, ())) hx rfl rfl rfl).mono ?_
  rintro x w' ⟨v, H', frz1, imm1, rfl, p1, p2, p3, p5⟩
  have p2 : H'.map (·.a) = [.sl .own e' κ' r] := p2
  match H', p2, p1, p3 with
  | [⟨_, v', f'⟩], p2, p1, p3 =>
  simp only [List.map_cons, List.map_nil, List.cons.injEq, and_true] at p2
  subst p2
  have p3 : v = v' := p3
  subst p3
  exact ⟨v, f', rfl, own_out p1 p5, ifc_out hB p1 p5⟩
theorem own_out3 {W w w' : World} {frz imm : Nat → Prop} {a b : AV} {va vb : Value} {fa fb : List Nat} {e : TypeId} {κ : Kd} {l : List κ.T} {v : Value} {fp : List Nat} (h : Ifc W [] [] w' [] [⟨a, va, fa⟩, ⟨b, vb, fb⟩, ⟨.sl .own e κ l, v, fp⟩] frz imm) (x : Ext w (frz0 W) (imm0 w) w' frz imm) : Own w.heap.size w' e κ v l fp := by
  have hc : ∀ q, fp.count q ≤ ownc [] [⟨a, va, fa⟩, ⟨b, vb, fb⟩, ⟨.sl .own e κ l, v, fp⟩] q := fun q => by
    unfold ownc
    simp only [List.map_cons, List.sum_cons, List.map_nil, List.sum_nil]
    omega
  refine ⟨h.held ⟨.sl .own e κ l, v, fp⟩ (List.mem_cons_of_mem _ (List.mem_cons_of_mem _ List.mem_cons_self)), List.nodup_iff_count.2 fun b => Nat.le_trans (hc b) (h.one b), fun b hb => Nat.le_of_not_lt fun q => ?_⟩
  have h0 := h.apart b (x.im b q)
  have := hc b
  have := List.count_pos_iff.2 hb
  omega
/-- What a struct of one's own is. -/
theorem agg_out {W w w' : World} (hB : Below W.heap.size W w) {H' : List Hd} {frz imm : Nat → Prop} {e : TypeId} {κ : Kd} {c d : Int} {r : List κ.T} {v : Value} (p1 : Ifc W [] [] w' [] H' frz imm) (p2 : H'.map (·.a) = [.int .i64 c, .int .i64 d, .sl .own e κ r]) (p3 : v = retVal (shV [.agg [.int .i64, .int .i64, .sl .own e κ]] (H'.map (·.v)))) (p5 : Ext w (frz0 W) (imm0 w) w' frz imm) :
    ∃ v' fp, v = .agg #[.int .i64 c, .int .i64 d, v'] ∧ Own w.heap.size w' e κ v' r fp ∧ Below w.heap.size w w' := by
  match H', p2, p1, p3 with
  | [⟨_, v1, f1⟩, ⟨_, v2, f2⟩, ⟨_, v3, f3⟩], p2, p1, p3 =>
  simp only [List.map_cons, List.map_nil, List.cons.injEq, and_true] at p2
  obtain ⟨rfl, rfl, rfl⟩ := p2
  have p3 : v = .agg #[v1, v2, v3] := p3
  have r1 : f1 = [] ∧ v1 = .int .i64 c := p1.held _ List.mem_cons_self
  have r2 : f2 = [] ∧ v2 = .int .i64 d := p1.held ⟨.int .i64 d, v2, f2⟩ (List.mem_cons_of_mem _ List.mem_cons_self)
  exact ⟨v3, f3, by rw [p3, r1.2, r2.2], own_out3 p1 p5, ifc_out hB p1 p5⟩
/-- A struct read: a struct of one's own. -/
theorem call_ss {W w : World} {f : FuncId} {e e' : TypeId} {κ κ' : Kd} {F : Int → Int → List κ.T → Option (Int × Int × List κ'.T × Unit)} (hg : Good P W f ⟨[.agg [.int .i64, .int .i64, .sl (.imm true) e κ]], [], [.agg [.int .i64, .int .i64, .sl .own e' κ']], [], fun (x : Int × Int × List κ.T × Unit) => F x.1 x.2.1 x.2.2.1⟩)
    (hB : Below W.heap.size W w) {v : Value} {l : List κ.T} (h : Lent w e κ v l) {c d c' d' : Int} {r : List κ'.T} (hx : F c d l = some (c', d', r, ())) :
    Calls P f #[.agg #[.int .i64 c, .int .i64 d, v]] w fun x w' => ∃ v' fp, x = .returned (.agg #[.int .i64 c', .int .i64 d', v']) ∧ Own w.heap.size w' e' κ' v' r fp ∧ Below w.heap.size w w' := by
  refine (call_core hg hB (H := [⟨.int .i64 c, .int .i64 c, []⟩, ⟨.int .i64 d, .int .i64 d, []⟩, ⟨.sl (.imm true) e κ l, v, []⟩]) (three_hd ⟨rfl, int_rc c⟩ ⟨rfl, int_rc d⟩ ⟨rfl, h.rc⟩) (x := (c, d, l, ())) (r := (c', d', r, ())) hx rfl rfl rfl).mono ?_
  rintro x w' ⟨v, H', frz1, imm1, rfl, p1, p2, p3, p5⟩
  obtain ⟨v', fp, rfl, q1, q2⟩ := agg_out hB p1 p2 p3 p5
  exact ⟨v', fp, rfl, q1, q2⟩
/-- A struct and a list read: a struct of one's own. -/
theorem call_sls {W w : World} {f : FuncId} {e e1 e' : TypeId} {κ κ1 κ' : Kd} {F : Int → Int → List κ.T → List κ1.T → Option (Int × Int × List κ'.T × Unit)} (hg : Good P W f ⟨[.agg [.int .i64, .int .i64, .sl (.imm true) e κ], .one (.sl (.imm true) e1 κ1)], [], [.agg [.int .i64, .int .i64, .sl .own e' κ']], [], fun (x : Int × Int × List κ.T × List κ1.T × Unit) => F x.1 x.2.1 x.2.2.1 x.2.2.2.1⟩)
    (hB : Below W.heap.size W w) {v v1 : Value} {l : List κ.T} {l1 : List κ1.T} (h : Lent w e κ v l) (h1 : Lent w e1 κ1 v1 l1) {c d c' d' : Int} {r : List κ'.T} (hx : F c d l l1 = some (c', d', r, ())) :
    Calls P f #[.agg #[.int .i64 c, .int .i64 d, v], v1] w fun x w' => ∃ v' fp, x = .returned (.agg #[.int .i64 c', .int .i64 d', v']) ∧ Own w.heap.size w' e' κ' v' r fp ∧ Below w.heap.size w w' := by
  refine (call_core hg hB (H := [⟨.int .i64 c, .int .i64 c, []⟩, ⟨.int .i64 d, .int .i64 d, []⟩, ⟨.sl (.imm true) e κ l, v, []⟩, ⟨.sl (.imm true) e1 κ1 l1, v1, []⟩]) (four_hd ⟨rfl, int_rc c⟩ ⟨rfl, int_rc d⟩ ⟨rfl, h.rc⟩ ⟨rfl, h1.rc⟩) (x := (c, d, l, l1, ())) (r := (c', d', r, ())) hx rfl rfl rfl).mono ?_
  rintro x w' ⟨v, H', frz1, imm1, rfl, p1, p2, p3, p5⟩
  obtain ⟨v', fp, rfl, q1, q2⟩ := agg_out hB p1 p2 p3 p5
  exact ⟨v', fp, rfl, q1, q2⟩
end Go.Eva
end
section
/- The types of the program. -/
set_option linter.unusedVariables false
set_option maxRecDepth 100000
namespace Go.Eva
open Go.Proofs
open Go.RowKit (wrap64)
noncomputable def tab : Tab := [
  (3, ⟨1, 8, false, [(.int .i64)], [], none, (some (.int .i64)), false⟩),
  (4, ⟨1, 1, false, [.bool], [], none, (some .bool), false⟩),
  (5, ⟨1, 1, false, [(.int .u8)], [], none, (some (.int .u8)), false⟩),
  (9, ⟨1, 16, false, [.str], [], none, (some .str), false⟩),
  (22, ⟨1, 24, false, [(.sl 32 (.pair .str (.pair (.int .i64) (.pair (.int .i64) (.pair .bool (.pair (.int .i64) (.pair (.int .i64) (.pair (.int .i64) (.pair (.int .i64) (.pair (.int .i64) (.int .i64)))))))))))], [], (some 32), (some (.sl 32 (.pair .str (.pair (.int .i64) (.pair (.int .i64) (.pair .bool (.pair (.int .i64) (.pair (.int .i64) (.pair (.int .i64) (.pair (.int .i64) (.pair (.int .i64) (.int .i64)))))))))))), false⟩),
  (24, ⟨1, 24, false, [(.sl 34 (.pair .str (.pair (.int .i64) (.pair (.int .i64) (.pair .bool (.pair (.int .i64) (.pair (.int .i64) (.pair (.int .i64) (.pair (.int .i64) (.pair (.int .i64) (.int .i64)))))))))))], [], (some 34), (some (.sl 34 (.pair .str (.pair (.int .i64) (.pair (.int .i64) (.pair .bool (.pair (.int .i64) (.pair (.int .i64) (.pair (.int .i64) (.pair (.int .i64) (.pair (.int .i64) (.int .i64)))))))))))), false⟩),
  (32, ⟨10, 88, true, [.str, (.int .i64), (.int .i64), .bool, (.int .i64), (.int .i64), (.int .i64), (.int .i64), (.int .i64), (.int .i64)], [(0, 9), (1, 3), (2, 3), (3, 4), (4, 3), (5, 3), (6, 3), (7, 3), (8, 3), (9, 3)], none, (some (.pair .str (.pair (.int .i64) (.pair (.int .i64) (.pair .bool (.pair (.int .i64) (.pair (.int .i64) (.pair (.int .i64) (.pair (.int .i64) (.pair (.int .i64) (.int .i64))))))))))), true⟩),
  (34, ⟨10, 88, true, [.str, (.int .i64), (.int .i64), .bool, (.int .i64), (.int .i64), (.int .i64), (.int .i64), (.int .i64), (.int .i64)], [(0, 9), (1, 3), (2, 3), (3, 4), (4, 3), (5, 3), (6, 3), (7, 3), (8, 3), (9, 3)], none, (some (.pair .str (.pair (.int .i64) (.pair (.int .i64) (.pair .bool (.pair (.int .i64) (.pair (.int .i64) (.pair (.int .i64) (.pair (.int .i64) (.pair (.int .i64) (.int .i64))))))))))), true⟩),
  (45, ⟨1, 24, false, [(.sl 5 (.int .u8))], [], (some 5), (some (.sl 5 (.int .u8))), false⟩)]
theorem tabOk : TabOk Try.prog tab := tabB_ok (by kernel_rfl)
theorem follows : Try.prog.follows .mixedOrders = true := by kernel_rfl
end Go.Eva
end
