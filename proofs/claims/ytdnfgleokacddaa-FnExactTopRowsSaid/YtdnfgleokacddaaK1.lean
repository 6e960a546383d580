/- A verified evaluator of the translated code, part 1: EvaW, EvaX, EvaY, EvaZ, EvaZa, EvaZb, EvaZc, EvaZd, EvaZe, EvaZf, EvaZg, EvaZh, EvaZi, EvaZj, EvaZk, EvaZl, EvaZm, EvaZn, EvaZo, EvaZp, EvaZq -/
import Derived.Test.YtdnfgleokacddaaK0
section
/- Slices of zeros; what memory holds is read. -/
namespace Go.Eva
set_option linter.unusedVariables false
set_option linter.unusedSimpArgs false
variable {P : Program} {W : Root} {T : Tab} {Γ : Gam}

theorem zerosOk_app : ∀ (azs bs : List Ck) (vs : List Value), zerosOk (azs ++ bs) vs = true → zerosOk azs (vs.take azs.length) = true ∧ zerosOk bs (vs.drop azs.length) = true
  | [], bs, vs, h => ⟨rfl, h⟩
  | a :: azs, bs, [], h => by cases h
  | a :: azs, bs, v :: vs, h => by
    simp only [List.cons_append, zerosOk, Bool.and_eq_true] at h
    obtain ⟨h1, h2⟩ := zerosOk_app azs bs vs h.2
    exact ⟨by simp only [List.length_cons, List.take_succ_cons, zerosOk, Bool.and_eq_true]; exact ⟨h.1, h1⟩, h2⟩
theorem zero_rd {w : World} {o : Bool} : ∀ (κ : Kd) (zs : List Value), zerosOk κ.cks zs = true → Rd w o κ (fun k => zs[k]?) κ.dflt []
  | .int k, zs, h => by
    match zs, h with
    | [v], h =>
      simp only [Kd.cks, zerosOk, Bool.and_true] at h
      have := zeroOk_R0 (C := ⟨[], [], w, fun _ => True, fun _ => True⟩) h
      have : v = .int k 0 := this
      exact ⟨by rw [this]; rfl, rfl⟩
    | [], h => cases h
    | _ :: _ :: _, h => simp [Kd.cks, zerosOk] at h
  | .bool, zs, h => by
    match zs, h with
    | [v], h =>
      simp only [Kd.cks, zerosOk, Bool.and_true] at h
      have := zeroOk_R0 (C := ⟨[], [], w, fun _ => True, fun _ => True⟩) h
      have : v = .bool false := this
      exact ⟨by rw [this]; rfl, rfl⟩
    | [], h => cases h
    | _ :: _ :: _, h => simp [Kd.cks, zerosOk] at h
  | .str, zs, h => by
    match zs, h with
    | [v], h =>
      simp only [Kd.cks, zerosOk, Bool.and_true] at h
      have := zeroOk_R0 (C := ⟨[], [], w, fun _ => True, fun _ => True⟩) h
      have : v = .string ⟨#[]⟩ := this
      exact ⟨by rw [this]; rfl, rfl⟩
    | [], h => cases h
    | _ :: _ :: _, h => simp [Kd.cks, zerosOk] at h
  | .sl e κ, zs, h => by
    match zs, h with
    | [v], h =>
      simp only [Kd.cks, zerosOk, Bool.and_true] at h
      have := zeroOk_R0 (C := ⟨[], [], w, fun _ => True, fun _ => True⟩) h
      have : v = .slice none 0 0 := this
      exact ⟨v, rfl, .inl ⟨rfl, rfl, none, 0, this, fun _ => rfl⟩⟩
    | [], h => cases h
    | _ :: _ :: _, h => simp [Kd.cks, zerosOk] at h
  | .pair a b, zs, h => by
    obtain ⟨h1, h2⟩ := zerosOk_app a.cks b.cks zs h
    rw [Kd.cks_len] at h1 h2
    refine ⟨[], [], rfl, ?_, ?_⟩
    · exact Rd.frame (w := w) (fun k => k) (Nat.le_refl _) a _ _ _ _ (zero_rd a _ h1) (fun _ _ => rfl) (fun j hj => by rw [List.getElem?_take_of_lt hj])
    · exact Rd.frame (w := w) (fun k => k) (Nat.le_refl _) b _ _ _ _ (zero_rd b _ h2) (fun _ _ => rfl) (fun j hj => by rw [List.getElem?_drop])

theorem makeSlice_ok (hT : TabOk P T) {o : Oper} {t : TypeId} {x y : Operand} (h : o.op = .makeSlice t x y) : StepOk P W o (prgOf T Γ o) := mem_ok fun st w a G frz imm r hrep hr => by
  simp only [prgOf, h] at hr
  obtain ⟨av, k1, k2⟩ := opv_run hrep hr
  obtain ⟨bv, k3, k4⟩ := opv_run hrep k1
  unfold mkP at k3
  split at k3
  · cases k3
  rename_i ti ht
  split at k3
  · cases k3
  rename_i e he
  split at k3
  · cases k3
  rename_i te hte
  split at k3
  · rename_i κ n n' hκ
    split at k3
    · cases k3
    rename_i hby
    obtain ⟨b1, k31⟩ := run_bnd k3
    obtain ⟨b2, k32⟩ := run_bnd k31
    obtain ⟨b3, k33⟩ := run_bnd k32
    have b1 := of_decide_eq_true b1
    have b2 := of_decide_eq_true b2
    have b3 := of_decide_eq_true b3
    subst b2
    have hti := hT.ty t ti ht
    have hE := hT.ty e te hte
    have hu := hti.elem e he
    have hkn : te.size = κ.n := by rw [← hE.len, hE.kd κ hκ, Kd.cks_len]
    have hsz : 0 < te.size := by omega
    have hbp : 1 ≤ te.bytes := by omega
    obtain ⟨N, rfl⟩ := Int.eq_ofNat_of_zero_le b1
    have b3' : N * te.bytes ≤ 140737488355328 := by
      have : ((N * te.bytes : Nat) : Int) ≤ 140737488355328 := by push_cast; exact b3
      omega
    have hN : N ≤ 140737488355328 := Nat.le_trans (by have := Nat.mul_le_mul_left N hbp; omega) b3'
    obtain ⟨z, z1, z2⟩ := zero_run hE w
    have z3 := z2
    rw [hE.kd κ hκ] at z3
    obtain ⟨zl, zr⟩ := zeros_R0 (C := ctx st G w frz imm) _ _ z2
    have hzn : z.cells.toList.length = te.size := by rw [zl, hE.len]
    obtain ⟨i, zz, i1, i2, i3, _⟩ := hE.info
    have hso : (sizeOf e).run P w = .ok te.size w := by simp [sizeOf, typeInfo, i1, i2]
    have hty : (typeInfo e).run P w = .ok i w := by simp [typeInfo, i1]
    obtain ⟨zero, q0, q00⟩ : ∃ zero : Array Value, ((N * te.size = 0 ∧ zero = #[]) ∨ (N * te.size ≠ 0 ∧ zero = z.cells)) ∧ (N ≠ 0 → zero.toList = z.cells.toList) := by
      by_cases hn : N * te.size = 0
      · refine ⟨#[], .inl ⟨hn, rfl⟩, fun k => ?_⟩
        rcases Nat.mul_eq_zero.1 hn with q | q
        · exact absurd q k
        · omega
      · exact ⟨z.cells, .inr ⟨hn, rfl⟩, fun _ => rfl⟩
    have hv0 := zero_rows z.cells.toList N te.size hzn hsz zero q00
    generalize hcur : (Array.range (N * te.size)).map (zero[· % zero.size]!) = cur at hv0
    have hnb := heap_alloc_new w (.cells cur e)
    obtain ⟨g1, g2⟩ := hrep.grow (Below.alloc' w (.cells cur e))
    have hz : ownc G ([] ++ []) w.heap.size = 0 := by
      have := hrep.olt w.heap.size
      simp only [List.append_nil]; omega
    obtain ⟨f2, im2, fp, a1, a2, a3⟩ := Rep.pack (H1 := []) (H := []) g2 (nb := w.heap.size) (e := e) (κ := κ) (l := List.replicate N κ.dflt) (v := .slice (some ⟨w.heap.size, 0, none⟩) (List.replicate N κ.dflt).length (List.replicate N κ.dflt).length) (j := none) (by simp) hz
      (fun k => by have := hrep.ilt _ k; omega)
      (fun _ => by
        have := rows_block (on := true) (e := e) (κ := κ) hnb hv0 (fun g hg => by rw [List.eq_of_mem_replicate hg, hzn, hkn]) (l := List.replicate N κ.dflt) (by simp) (by simp only [List.length_replicate]; unfold maxLen; omega) (fps := List.replicate N []) (by simp) (fun i x y y2 => by
          simp only [List.getElem_replicate]
          exact zero_rd κ _ z3)
        have e0 : (List.replicate N ([] : List Nat)).flatten = [] := by induction N <;> simp_all [List.replicate_succ]
        rw [e0] at this
        exact this)
      (fun b hb => by cases hb)
    have k3 : (newV o.dst Md.own e κ (List.replicate N κ.dflt)).run st = some r := k33
    obtain ⟨d', st', G', b1, b2, b3⟩ := newV_run a2 k3
    refine ⟨st', _, _, G', f2, im2, b2, ?_, by rw [b1]; exact b3, (alloc_ext hrep.ilt _).trans a3⟩
    have e1 : a.eval x = .int .i64 N := k2
    have e2 : a.eval y = .int .i64 N := k4
    have hw : IntKind.i64.wrap (N : Int) = N := by rw [IntKind.wrap_i64]; omega
    have hl : (List.replicate N κ.dflt).length = N := by simp
    simp only [execOp, h, Instr.makeSlice, Sem.run_bind, run_underlying hu, Result.andThen_ok, e1, e2, asInt, asIntOf, Sem.run_pure, hty, hw, i3]
    have f1 : decide ((N : Int) < 0) = false := decide_eq_false (by omega)
    have f2 : decide ((te.bytes : Int) * (N : Int) > 2 ^ 48) = false := decide_eq_false (by
      have : ((te.bytes * N : Nat) : Int) ≤ 140737488355328 := by rw [Nat.mul_comm]; omega
      push_cast at this
      omega)
    have f3 : decide ((N : Int) > (N : Int)) = false := decide_eq_false (by omega)
    rw [f1, f2, f3, if_neg (show ¬ ((false || false || false || false) = true) by simp)]
    simp only [Sem.run_bind, run_askRoom, Result.andThen_ok, hso, Int.toNat_natCast]
    rcases q0 with ⟨c1, c2⟩ | ⟨c1, c2⟩
    · subst c2
      rw [if_pos c1]
      simp only [Sem.run_bind, Sem.run_pure, Result.andThen_ok, hcur, newRow_run, hl]
    · subst c2
      rw [if_neg c1]
      simp only [Sem.run_bind, Sem.run_pure, Result.andThen_ok, z1, hcur, newRow_run, hl]
  · cases k3

/-- What a place in a slice that lies elsewhere reads as. -/
def inS (C : Ctx) : Md → List Nat → Prop
  | .own, _ => True
  | .mix b, fp => ∀ y ∈ fp.drop 1, C.S b y
  | .imm b, fp => ∀ y ∈ fp, C.S b y
theorem ep_read {β : Type} {st : St} {w : World} {tm : Array Value} {G : List Gh} {H : List Hd} {frz imm : Nat → Prop} {o c : Nat} {pth : Option (Int × Nat)} {rv nv : Nat} {i : Int} {k : Nat} {v : Value}
    {K : Ob → Md → TypeId → (κ : Kd) → List κ.T → Prg β} {r : β × St} (h : Rep W st w tm G H frz imm) (hr : (content o c pth rv nv K).run st = some r) (hv : EpR (ctx st G w frz imm) o c pth rv nv i k v) :
    ∃ (ob : Ob) (m : Md) (e : TypeId) (κ : Kd) (l : List κ.T) (b off len cap : Nat) (fp : List Nat), (K ob m e κ l).run st = some r ∧ RdS w (isOwn m) (Rd w m.deep κ) κ.n e (.slice (some ⟨b, off, none⟩) len cap) l fp ∧
      inS (ctx st G w frz imm) m fp ∧ 0 ≤ i ∧ i < (l.length : Int) ∧ v = .pointer (some ⟨b, off + i.toNat * κ.n + k, none⟩) ∧
      st.objs[o]? = some ob ∧ rv ≤ ob.rv ∧ nv ≤ ob.nv ∧ PlR (ctx st G w frz imm) o c pth ob (.slice (some ⟨b, off, none⟩) len cap) κ l.length := by
  obtain ⟨ho, m, e, κ, l, c1, c2, c3⟩ := content_run hr
  have hG : o < G.length := by rw [h.len]; exact ho
  obtain ⟨hcl, hce⟩ := getD_some c2 (by simp)
  obtain ⟨r1, r2, r3, r4, r5⟩ := h.objs o ho hG
  have hh : c < G[o].hd.length := by rw [r1]; exact hcl
  have hf : c < G[o].fps.length := by rw [r2]; exact hcl
  have rc := r3 c hcl hh hf
  rw [hce] at rc
  obtain ⟨_, ob, g, s1, s2, s3, s4, s5⟩ := hv
  have e1 : ob = st.objs[o] := by simp only at s1; rw [List.getElem?_eq_getElem ho] at s1; injection s1 with s1; exact s1.symm
  have e2 : g = G[o] := by simp only at s2; rw [List.getElem?_eq_getElem hG] at s2; injection s2 with s2; exact s2.symm
  subst e1 e2
  obtain ⟨fp0, a1, a2⟩ : ∃ fp0, RdS w (isOwn m) (Rd w m.deep κ) κ.n e G[o].hd[c] l fp0 ∧ inS (ctx st G w frz imm) m fp0 := by
    cases m with
    | own => exact ⟨_, rc, True.intro⟩
    | mix b => obtain ⟨fp0, q1, q2, q3⟩ := rc; exact ⟨fp0, q1, q3⟩
    | imm b => obtain ⟨q0, fp0, q1, q2⟩ := rc; exact ⟨fp0, q1, q2⟩
  cases pth with
  | none =>
    obtain ⟨m', e', κ', l', b, off, len, cap, t1, t2, t3, t4, t5⟩ := s5 c1
    rw [c2] at t1
    injection t1 with u1 u2 u3 u4
    subst u1 u2 u3
    have u4 := eq_of_heq u4
    subst u4
    rw [List.getElem?_eq_getElem hh] at t2
    injection t2 with t2
    rw [t2] at a1
    exact ⟨st.objs[o], m, e, κ, l, b, off, len, cap, fp0, c3, a1, a2, t3, t4, t5, List.getElem?_eq_getElem ho, s3, s4, G[o], s2, m, e, l, c2, rfl, by rw [List.getElem?_eq_getElem hh, t2]⟩
  | some p =>
    obtain ⟨i0, k0⟩ := p
    obtain ⟨c4, s, c5, c6⟩ := c3
    obtain ⟨m', e', κ', l', s', b, off, len, cap, b1, off1, len1, cap1, t1, t2, t3, t4, t5, t6, t7, t8, t9⟩ := s5 c1 c4
    rw [c2] at t1
    injection t1 with u1 u2 u3 u4
    subst u1 u2 u3
    have u4 := eq_of_heq u4
    subst u4
    rw [c5] at t2
    injection t2 with t2
    subst t2
    rw [List.getElem?_eq_getElem hh] at t3
    injection t3 with t3
    obtain ⟨hv1, fp1, z1, z2, z3, _⟩ := RdS.nested a1 t4 t5 c5 t3
    rw [t6] at z1
    injection z1 with z1
    subst z1
    have hd : RdS w (isOwn m.nest) (Rd w m.nest.deep s.κ') s.κ'.n s.e (.slice (some ⟨b1, off1, none⟩) len1 cap1) (s.get (rdOf κ.dflt l i0)) fp1 := by
      cases m <;> exact z2
    have hin : inS (ctx st G w frz imm) m.nest fp1 := by
      cases m with
      | own => exact True.intro
      | mix b => exact fun y hy => a2 y (z3 y hy)
      | imm b => exact fun y hy => a2 y (List.mem_of_mem_drop (z3 y hy))
    exact ⟨st.objs[o], m.nest, s.e, s.κ', _, b1, off1, len1, cap1, fp1, c6, hd, hin, t7, t8, t9, List.getElem?_eq_getElem ho, s3, s4, G[o], s2, m, e, κ, l, s, b, off, len, cap, c2, c5, by rw [List.getElem?_eq_getElem hh, t3], t4, t5, t6, rfl, rfl⟩

theorem loadVar_run {t : TypeId} {ti : TI} (h : TyOk P t ti) {b off : Nat} {us : List Value} {w : World} (hl : us.length = ti.size) (hc : ∀ j (x : j < us.length), w.cell? ⟨b, off + j, none⟩ = some us[j]) :
    (Instr.loadAt t (.pointer (some ⟨b, off, none⟩))).run P w = .ok (if ti.agg = true then .agg us.toArray else us.getD 0 undef) w := by
  simp only [Instr.loadAt, Instr.sureAddr, Sem.run_bind, Sem.run_pure, Result.andThen_ok, loadVar, isAgg_run h]
  cases ha : ti.agg with
  | true =>
    simp only [if_true, Sem.run_bind, sizeOf_run h, Result.andThen_ok, Sem.run_pure]
    rw [← hl, run_loadCells_list (P := P) w ⟨b, off, none⟩ us (fun j v hj => by
      obtain ⟨x, rfl⟩ := List.getElem?_eq_some_iff.1 hj
      have : (⟨b, off, none⟩ : Addr).add j = ⟨b, off + j, none⟩ := by unfold Addr.add; split <;> simp_all
      rw [this]; exact hc j x)]
    rfl
  | false =>
    have h1 := h.one ha
    have h0 : 0 < us.length := by omega
    have := hc 0 h0
    simp only [Nat.add_zero] at this
    simp [run_load, this, List.getD, List.getElem?_eq_getElem h0]

theorem ldCells_len (o : Nat) (ob : Ob) : ∀ (n c : Nat) (l : List AV), n ≤ l.length → (ldCells o ob c n l).length = n
  | 0, _, _, _ => rfl
  | n + 1, _, [], h => by cases h
  | n + 1, c, v :: l, h => by simp only [ldCells, List.length_cons]; rw [ldCells_len o ob n (c + 1) l (by simpa using h)]
theorem ldCells_get (o : Nat) (ob : Ob) : ∀ (n c : Nat) (l : List AV) (j : Nat) (x : j < (ldCells o ob c n l).length) (y : j < l.length), (ldCells o ob c n l)[j] = ldCell o (c + j) ob l[j]
  | 0, _, _, _, x, _ => by cases x
  | n + 1, _, [], _, _, y => by cases y
  | n + 1, c, v :: l, 0, x, y => rfl
  | n + 1, c, v :: l, j + 1, x, y => by
    have := ldCells_get o ob n (c + 1) l j (by simpa [ldCells] using x) (by simpa using y)
    simp only [ldCells, List.getElem_cons_succ, this]
    rw [show c + 1 + j = c + (j + 1) by omega]
theorem ldCell_rel {st : St} {w : World} {tm : Array Value} {G : List Gh} {H : List Hd} {frz imm : Nat → Prop} (h : Rep W st w tm G H frz imm) {o c : Nat} (ho : o < st.objs.length) (hG : o < G.length) (hc : c < st.objs[o].cells.length) (hh : c < G[o].hd.length) :
    R0 (ctx st G w frz imm) (ldCell o c st.objs[o] st.objs[o].cells[c]) G[o].hd[c] := by
  obtain ⟨r1, r2, r3, r4, r5⟩ := h.objs o ho hG
  have rc := r3 c hc hh (by omega)
  have hgd : st.objs[o].cells.getD c .dead = st.objs[o].cells[c] := by simp [List.getD, List.getElem?_eq_getElem hc]
  generalize hav : st.objs[o].cells[c] = av at rc hgd ⊢
  have key : ∀ m e κ l, av = .sl m e κ l → isOwn m = true → R0 (ctx st G w frz imm) (.sr o c none st.objs[o].rv st.objs[o].nv none) G[o].hd[c] := fun m e κ l q q2 => by
    subst q
    exact ⟨RC.val rc, _, _, List.getElem?_eq_getElem ho, List.getElem?_eq_getElem hG, Nat.le_refl _, Nat.le_refl _, fun _ => ⟨m, e, κ, l, _, hgd, List.getElem?_eq_getElem hh, rfl⟩⟩
  cases av with
  | sl m e κ l =>
    cases m with
    | imm b => exact rc.2
    | own => exact key _ _ _ _ rfl rfl
    | mix b => exact key _ _ _ _ rfl rfl
  | napp => exact True.intro
  | dead => exact True.intro
  | _ => exact rc.2

theorem load_cells {C : Ctx} {t : TypeId} {ti : TI} (hti : TyOk P t ti) {cs : List AV} {b off : Nat} (hl : cs.length = ti.size) (hc : ∀ j (x : j < cs.length), ∃ u, C.w.cell? ⟨b, off + j, none⟩ = some u ∧ R0 C cs[j] u) :
    ∃ v, R2 C (asVal ti.agg cs) v ∧ (Instr.loadAt t (.pointer (some ⟨b, off, none⟩))).run P C.w = .ok v C.w := by
  have hlu : ((List.range ti.size).map fun j => (C.w.cell? ⟨b, off + j, none⟩).getD undef).length = ti.size := by simp
  refine ⟨_, asVal_rel (us := (List.range ti.size).map fun j => (C.w.cell? ⟨b, off + j, none⟩).getD undef) hti hl hlu (fun j x y => ?_), loadVar_run hti hlu (fun j x => ?_)⟩
  · obtain ⟨u, h1, h2⟩ := hc j x
    simp [h1, h2]
  · obtain ⟨u, h1, h2⟩ := hc j (by omega)
    simp [h1]

theorem load_ok (hT : TabOk P T) {o : Oper} {t : TypeId} {x : Operand} (h : o.op = .load t x) : StepOk P W o (prgOf T Γ o) := pure_ok fun st w a G frz imm r hrep hr => by
  simp only [prgOf, h] at hr
  split at hr
  · rename_i ti ht
    have hti := hT.ty t ti ht
    obtain ⟨av, k1, k2⟩ := opv_run hrep hr
    have fin : ∀ (cs : List AV) (b off : Nat), a.eval x = .pointer (some ⟨b, off, none⟩) → (put o.dst (asVal ti.agg cs)).run st = some r → cs.length = ti.size → (∀ j (x : j < cs.length), ∃ u, w.cell? ⟨b, off + j, none⟩ = some u ∧ R0 (ctx st G w frz imm) cs[j] u) →
        ∃ av v, (put o.dst av).run st = some r ∧ R2 (ctx st G w frz imm) av v ∧ (execOp a.eval o).run P w = .ok (.value v) w := fun cs b off e1 e2 e3 e4 => by
      obtain ⟨v, v1, v2⟩ := load_cells (C := ctx st G w frz imm) (b := b) (off := off) hti e3 e4
      exact ⟨_, v, e2, v1, by simp only [execOp, h, e1, Sem.run_bind, v2, Result.andThen_ok, Sem.run_pure]⟩
    unfold loadP at k1
    split at k1
    · rename_i ob c
      rw [run_obj] at k1
      split at k1
      · rename_i hsz
        obtain ⟨g, b, g1, g2, g3⟩ := k2
        have hG : ob < G.length := (List.getElem?_eq_some_iff.1 g1).1
        have ho : ob < st.objs.length := by rw [← hrep.len]; exact hG
        have hgd : st.objs.getD ob Ob.none = st.objs[ob] := by simp [List.getD, List.getElem?_eq_getElem ho]
        have eg : g = G[ob] := ((List.getElem?_eq_some_iff.1 g1).2).symm
        subst eg
        rw [hgd] at k1 hsz
        obtain ⟨r1, r2, r3, r4, r5⟩ := hrep.objs ob ho hG
        have hre : st.objs[ob].real = true := by
          cases hr0 : st.objs[ob].real with
          | true => rfl
          | false => have := r5 hr0; rw [this] at g2; cases g2
        obtain ⟨b', e', q1, q2⟩ := r4 hre
        rw [g2] at q1
        injection q1 with q1
        subst q1
        have hll := ldCells_len ob st.objs[ob] ti.size c (st.objs[ob].cells.drop c) (by simp; omega)
        refine fin _ b c g3 k1 hll (fun j x => ?_)
        have hj : j < ti.size := by omega
        refine ⟨G[ob].hd[c + j]'(by omega), ?_, ?_⟩
        · have q2 : w.heap[b]? = some (.cells G[ob].hd.toArray e' (0, 0)) := q2
          simp [World.cell?, q2, List.getElem?_eq_getElem (show c + j < G[ob].hd.length by omega)]
        · rw [ldCells_get ob st.objs[ob] _ _ _ j x (by simp; omega)]
          have := ldCell_rel hrep ho hG (c := c + j) (by omega) (by omega)
          simpa using this
      · cases k1
    · rename_i oo c pth rv nv i k
      obtain ⟨ob, m, e, κ, l, b, off, len, cap, fp, p1, p2, p3, p4, p5, p6, p7, p8, p9, p10⟩ := ep_read hrep k1 k2
      split at p1
      · rename_i hkn
        obtain ⟨g, off', cap', f, d1, d2, d3, d4, d5⟩ := RdS.at κ.dflt p2 p4 p5
        injection d1 with d1 d1' d1''
        injection d1 with d1
        injection d1 with d1 d1'
        subst d1 d1'
        have ex := explode_at (nestOf oo c pth rv nv i m) (R0 (ctx st G w frz imm)) (fun _ _ => rfl) (fun _ => rfl) (fun _ => rfl) κ 0 (rdOf κ.dflt l i) _ f d5 (fun k' s v fp' s1 s2 s3 s4 => by
          rw [Nat.zero_add]
          have imm_case : ∀ bb, (∀ y ∈ f, (ctx st G w frz imm).S bb y) → R0 (ctx st G w frz imm) (.sl (.imm bb) s.e s.κ' (s.get (rdOf κ.dflt l i))) v := fun bb hb =>
            ⟨fp', s3.weak, fun y hy => hb y (s4 y hy)⟩
          cases m with
          | own =>
            cases pth with
            | some p => exact True.intro
            | none =>
              obtain ⟨a1, a2, a3⟩ := s3.len
              obtain ⟨gg, z1, m', e', l', z2, z3, z4⟩ := p10
              exact ⟨⟨_, _, _, a3⟩, ob, gg, p7, z1, p8, p9, fun _ _ => ⟨m', e', κ, l', s, b, off, len, cap, v, z2, s1, z4, p4, by omega, s2, rfl⟩⟩
          | mix bb => exact imm_case bb (fun y hy => p3 y (d3 y hy))
          | imm bb => exact imm_case bb (fun y hy => p3 y (List.mem_of_mem_drop (d3 y hy))))
        have hlen := explode_len (nestOf oo c pth rv nv i m) κ 0 (rdOf κ.dflt l i)
        refine fin _ b (off + i.toNat * κ.n + k) p6 p1 (by simp [hlen]; omega) (fun j x => ?_)
        have hj : j < ti.size := by simp [hlen] at x; omega
        obtain ⟨v, v1, v2⟩ := ex (k + j) (by rw [hlen]; omega)
        refine ⟨v, by rw [Nat.add_assoc]; exact v1, ?_⟩
        simpa using v2
      · cases p1
    · rename_i cs
      split at k1
      · rename_i hsz
        obtain ⟨b, off, q1, q2⟩ := k2
        refine fin _ b off q1 k1 (by simp; omega) (fun j x => ?_)
        obtain ⟨_, u, u1, u2⟩ := q2 j (by simp at x; omega)
        exact ⟨u, u1, by simpa using u2⟩
      · cases k1
    · cases k1
  · cases hr
end Go.Eva
end
section
/- Stores. -/
namespace Go.Eva
set_option linter.unusedVariables false
set_option linter.unusedSimpArgs false
variable {P : Program} {W : Root} {T : Tab} {Γ : Gam}

theorem le_sum_mem {x : Nat} : ∀ {l : List Nat}, x ∈ l → x ≤ l.sum
  | [], h => by cases h
  | y :: l, h => by
    rw [List.sum_cons]
    rcases List.mem_cons.1 h with rfl | h
    · omega
    · have := le_sum_mem h; omega
theorem over_eq {α : Type} (xs vs : List α) (c : Nat) (h : c + vs.length ≤ xs.length) : over xs c vs = xs.take c ++ vs ++ xs.drop (c + vs.length) := by
  have e1 : xs = xs.take c ++ ((xs.drop c).take vs.length ++ xs.drop (c + vs.length)) := by
    rw [← List.drop_drop, List.take_append_drop, List.take_append_drop]
  have hc : (xs.take c).length = c := by simp; omega
  conv => lhs; rw [e1]
  have := over_app (xs.take c) vs ((xs.drop c).take vs.length ++ xs.drop (c + vs.length)) 0
  rw [hc, Nat.add_zero] at this
  rw [this, over_all _ _ _ (by simp; omega), List.append_assoc]

/-- Where the whole slices of an object stay. -/
theorem ObLe'.keep {C : Ctx} {ob ob' : Ob} {g g' : Gh} {w' : World} (h : ObR C ob g) (fi : ∀ b, C.frz b → C.imm b) (ho : ∀ c (hc : c < g.fps.length), ∀ b ∈ g.fps[c], w'.heap[b]? = C.w.heap[b]?)
    (hi : ∀ b, C.imm b → w'.heap[b]? = C.w.heap[b]?) (hrv : ob.rv ≤ ob'.rv) (hnv : ob.nv ≤ ob'.nv) (haddr : ∀ b, g.addr = some b → g'.addr = some b)
    (hcell : ob'.rv = ob.rv → ∀ c m e κ l, ob.cells.getD c .dead = .sl m e κ l → ob'.cells.getD c .dead = .sl m e κ l ∧ g'.hd[c]? = g.hd[c]?)
    (hback : ob'.rv = ob.rv → ∀ c m e κ l, ob'.cells.getD c .dead = .sl m e κ l → ∃ m e κ l, ob.cells.getD c .dead = .sl m e κ l)
    (hnp : ob'.rv = ob.rv → ∀ c, isNapp (ob.cells.getD c .dead) = true → ob'.cells.getD c .dead = ob.cells.getD c .dead ∧ g'.hd[c]? = g.hd[c]?) : ObLe' C.w w' ob g ob' g' where
  rv := hrv
  nv := hnv
  addr := haddr
  back := hback
  np := hnp
  hdr := fun _ c m e κ l hc => by
    obtain ⟨hi, _⟩ := getD_some hc (by simp)
    exact ⟨_, List.getElem?_eq_getElem (by rw [h.1]; exact hi)⟩
  root := fun hr c m e κ l hv hc hh => by
    obtain ⟨k1, k2⟩ := hcell hr c m e κ l hc
    obtain ⟨hcl, hce⟩ := getD_some hc (by simp)
    have r := h.2.2.1 c hcl (by rw [h.1]; exact hcl) (by rw [h.2.1]; exact hcl)
    rw [hce] at r
    have hh0 := hh
    rw [List.getElem?_eq_getElem (by rw [h.1]; exact hcl)] at hh
    injection hh with hh
    rw [hh] at r
    obtain ⟨fp0, r1, r2, r3⟩ := r.read fi
    have hall : ∀ b ∈ fp0, w'.heap[b]? = C.w.heap[b]? := fun b hb => (r2 b hb).elim (fun k => ho c _ b k) (hi b)
    refine ⟨m, l, k1, fun k => k, rfl, by rw [k2, hh0], fun _ k s hs i i0 il => ⟨rfl, fun b off len cap hb => ?_⟩⟩
    obtain ⟨g1, off1, cap1, f, q1, q2, q3, _, q4⟩ := r1.at κ.dflt i0 il
    rw [hb] at q1
    injection q1 with q1 _ _
    injection q1 with q1
    injection q1 with q1 q5
    subst q1 q5
    refine ⟨World.cell?_of_block (w := C.w) (a := ⟨b, off + i.toNat * κ.n + k, none⟩) (hall b q2), fun hm g2 off2 len2 cap2 hp2 hg2 => ?_⟩
    obtain ⟨v1, fp1, t1, t2, t3, _⟩ := Rd.sub κ k s _ _ _ hs q4
    rw [hg2] at t1
    injection t1 with t1
    subst t1
    rcases t2 with ⟨_, _, a, c2, u1, u2⟩ | ⟨g3, off3, cap3, fps3, u1, u2, _⟩
    · have := u2 (by rw [hm]; rfl)
      injection u1 with _ _ u1
      omega
    · injection u1 with u1 _ _
      injection u1 with u1
      injection u1 with u1 _
      subst u1
      exact hall g2 (List.mem_of_mem_drop <| q3 g2 (t3 g2 (by rw [u2]; exact List.mem_cons_self)))

theorem anyA_zero {vs : List AV} (h : anyA vs = 0) : ∀ v ∈ vs, isSlA v = false := by
  intro v hv
  unfold anyA at h
  split at h
  · cases h
  · rename_i hn
    cases hq : isSlA v with
    | false => rfl
    | true => exact absurd (List.any_eq_true.2 ⟨v, hv, hq⟩) hn

theorem storeVar_run {t : TypeId} {ti : TI} (hti : TyOk P t ti) {b off : Nat} {v : Value} {w : World} {cur : Array Value} {e : TypeId} (hb : w.heap[b]? = some (.cells cur e (0, 0))) (hs : v.cells.size = ti.size) (hle : off + ti.size ≤ cur.size) (h1 : ∀ u ∈ v.cells.toList, u.oneCell' = true) :
    (Instr.storeAt t (.pointer (some ⟨b, off, none⟩)) v).run P w = .ok () (w.setRow b (over cur.toList off v.cells.toList).toArray) := by
  have hn : v.cells.toList.length = ti.size := by rw [Array.length_toList]; exact hs
  have := run_storeCells_at (P := P) b off e v.cells.toList 0 cur w hb (by rw [hn]; omega) h1
  rw [over_eq _ _ _ (by rw [hn]; simpa using hle)]
  simp only [Instr.storeAt, Instr.sureAddr, Sem.run_bind, Sem.run_pure, Result.andThen_ok, storeVar, sizeOf_run hti]
  rw [if_neg (by simp [hs])]
  simpa using this

theorem Below.setRow' {B g : Nat} {w0 w : World} (hb : Go.RowKit.Below B w0 w) (hBg : B ≤ g) (cs : Array Value) : Go.RowKit.Below B w0 (w.setRow g cs) :=
  ⟨hb.os, hb.tape, hb.output, by simpa using hb.size, fun k hk => (setRow_other w g k cs (by omega)).trans (hb.block k hk)⟩

section
variable {st : St} {w : World} {tm : Array Value} {G : List Gh} {H : List Hd} {frz imm : Nat → Prop}
theorem over_getD (xs vs : List AV) (c i : Nat) (h : c + vs.length ≤ xs.length) : (over xs c vs).getD i .dead = if c ≤ i ∧ i < c + vs.length then vs.getD (i - c) .dead else xs.getD i .dead := by
  rw [List.getD_eq_getElem?_getD, over_get _ _ _ _ h]
  split <;> simp [List.getD_eq_getElem?_getD]

/-- Held cells are laid over an object's cells. -/
theorem lay_run {H1 : List Hd} (h : Rep W st w tm G (H1 ++ H) frz imm) {o c b : Nat} (hG : o < G.length) (ho : o < st.objs.length) (hre : st.objs[o].real = true) (hb : G[o].addr = some b) (hle : c + H1.length ≤ st.objs[o].cells.length) (N : Nat)
    (hN : N = anyA (H1.map (·.a) ++ (st.objs[o].cells.drop c).take H1.length)) :
    ∃ cur e, w.heap[b]? = some (.cells cur e (0, 0)) ∧ cur.size = st.objs[o].cells.length ∧ ¬ imm b ∧
      Rep W ⟨st.slots, st.objs.set o ⟨true, over st.objs[o].cells c (H1.map (·.a)), st.objs[o].rv + N, st.objs[o].nv + N⟩⟩ (w.setRow b (over cur.toList c (H1.map (·.v))).toArray) tm
        (G.set o ⟨some b, over G[o].hd c (H1.map (·.v)), over G[o].fps c (H1.map (·.fp))⟩) H frz imm := by
  obtain ⟨r1, r2, r3, r4, r5⟩ := h.objs o ho hG
  obtain ⟨b', e, q1, q2⟩ := r4 hre
  rw [hb] at q1
  injection q1 with q1
  subst q1
  have q2 : w.heap[b]? = some (.cells G[o].hd.toArray e (0, 0)) := q2
  have hbo : b ∈ G[o].own := by simp [Gh.own, hb]
  have hown := h.one b
  have hge := ownc_mem G (H1 ++ H) hG hbo
  have hni : ¬ imm b := fun k => by have := h.apart b k; omega
  have hz := ownc_set G (H1 ++ H) o ⟨none, [], []⟩ hG b
  have hoc : G[o].own.count b = 1 + G[o].fps.flatten.count b := by simp [Gh.own, hb]; omega
  have hfps : ∀ i (x : i < G[o].fps.length), ∀ y ∈ G[o].fps[i], y ≠ b := by
    intro i x y hy e1
    subst e1
    have c1 := List.count_pos_iff.2 (List.mem_flatten.2 ⟨_, List.getElem_mem x, hy⟩)
    have c2 := ownc_set G (H1 ++ H) o ⟨none, [], []⟩ hG y
    have c3 : (Gh.own ⟨none, [], []⟩).count y = 0 := by simp [Gh.own]
    omega
  have hheld : ∀ x ∈ H1 ++ H, ∀ y ∈ x.fp, y ≠ b := by
    intro x hx y hy e1
    subst e1
    have c1 : 1 ≤ (((H1 ++ H).map fun h => h.fp.count y)).sum := by
      have := List.count_pos_iff.2 hy
      have h2 : (x.fp.count y) ∈ ((H1 ++ H).map fun h => h.fp.count y) := List.mem_map.2 ⟨x, hx, rfl⟩
      have h3 := le_sum_mem h2
      omega
    have c2 : 1 ≤ (G.map fun g => g.own.count y).sum := by
      have h2 : (G[o].own.count y) ∈ (G.map fun g => g.own.count y) := List.mem_map.2 ⟨_, List.getElem_mem hG, rfl⟩
      have h3 := le_sum_mem h2
      have := List.count_pos_iff.2 hbo
      omega
    unfold ownc at hown
    omega
  have hBW : W.heap.size ≤ b := by
    apply Nat.le_of_not_lt
    intro k
    exact hni (h.fi b (h.lo b k))
  have hoth : ∀ x, x ≠ b → (w.setRow b (over G[o].hd c (H1.map (·.v))).toArray).heap[x]? = w.heap[x]? := fun x hx => setRow_other w b x _ hx
  refine ⟨G[o].hd.toArray, e, q2, by simp [r1], hni, ?_⟩
  have hcnt : ∀ x, ownc (G.set o ⟨some b, over G[o].hd c (H1.map (·.v)), over G[o].fps c (H1.map (·.fp))⟩) H x ≤ ownc G (H1 ++ H) x := by
    intro x
    have a1 := ownc_set G H o ⟨some b, over G[o].hd c (H1.map (·.v)), over G[o].fps c (H1.map (·.fp))⟩ hG x
    have a2 := ownc_app G H1 H x
    have a3 : (Gh.own ⟨some b, over G[o].hd c (H1.map (·.v)), over G[o].fps c (H1.map (·.fp))⟩).count x ≤ G[o].own.count x + (H1.map (·.fp)).flatten.count x := by
      simp only [Gh.own, hb, List.count_append]
      rw [over_eq _ _ _ (by simp [r2]; omega)]
      simp only [List.flatten_append, List.count_append]
      have e1 : G[o].fps.flatten.count x = (G[o].fps.take c).flatten.count x + (((G[o].fps.drop c).take (H1.map (·.fp)).length).flatten.count x + (G[o].fps.drop (c + (H1.map (·.fp)).length)).flatten.count x) := by
        conv => lhs; rw [← List.take_append_drop c G[o].fps, ← List.take_append_drop (H1.map (·.fp)).length (G[o].fps.drop c)]
        simp only [List.flatten_append, List.count_append, List.drop_drop]
      omega
    omega
  have hkeep : ObLe' w (w.setRow b (over G[o].hd c (H1.map (·.v))).toArray) st.objs[o] G[o] ⟨true, over st.objs[o].cells c (H1.map (·.a)), st.objs[o].rv + N, st.objs[o].nv + N⟩ ⟨some b, over G[o].hd c (H1.map (·.v)), over G[o].fps c (H1.map (·.fp))⟩ := by
    refine ObLe'.keep (h.objs o ho hG) h.fi (fun i x y hy => hoth y (hfps i x y hy)) (fun y hy => hoth y (fun k => hni (by rw [← k]; exact hy))) (Nat.le_add_right _ _) (Nat.le_add_right _ _) (fun y hy => (by rw [hb] at hy; exact hy)) (fun hr i m e κ l hc => ?_) (fun hr i m e κ l hc => ?_) (fun hr i hc => ?_)
    · have hN0 : N = 0 := by simp only at hr; omega
      rw [hN] at hN0
      have hno := anyA_zero hN0
      have hout : ¬ (c ≤ i ∧ i < c + H1.length) := fun k => by
        obtain ⟨x1, x2⟩ := getD_some hc (by simp)
        have : st.objs[o].cells[i] ∈ (st.objs[o].cells.drop c).take H1.length := by
          refine List.mem_iff_getElem.2 ⟨i - c, by simp; omega, ?_⟩
          simp [show c + (i - c) = i by omega]
        have := hno _ (List.mem_append_right _ this)
        rw [x2] at this; cases this
      refine ⟨?_, ?_⟩
      · simp only
        rw [over_getD _ _ _ _ (by simpa using hle), if_neg (by simpa using hout)]; exact hc
      · simp only
        rw [over_get _ _ _ _ (by simp [r1]; omega), if_neg (by simpa using hout)]
    · have hN0 : N = 0 := by simp only at hr; omega
      rw [hN] at hN0
      have hno := anyA_zero hN0
      simp only at hc
      rw [over_getD _ _ _ _ (by simpa using hle)] at hc
      split at hc
      · rename_i hin
        obtain ⟨x1, x2⟩ := getD_some hc (by simp)
        have := hno _ (List.mem_append_left _ (List.getElem_mem x1))
        rw [x2] at this; cases this
      · exact ⟨m, e, κ, l, hc⟩
    · have hN0 : N = 0 := by simp only at hr; omega
      rw [hN] at hN0
      have hno := anyA_zero hN0
      have hout : ¬ (c ≤ i ∧ i < c + H1.length) := fun k => by
        generalize hq : st.objs[o].cells.getD i .dead = q at hc
        have hq0 : q ≠ .dead := fun k => by subst k; cases hc
        obtain ⟨x1, x2⟩ := getD_some hq hq0
        have : st.objs[o].cells[i] ∈ (st.objs[o].cells.drop c).take H1.length := by
          refine List.mem_iff_getElem.2 ⟨i - c, by simp; omega, ?_⟩
          simp [show c + (i - c) = i by omega]
        have := hno _ (List.mem_append_right _ this)
        rw [x2] at this
        cases q with
        | napp => cases this
        | _ => cases hc
      refine ⟨?_, ?_⟩
      · simp only
        rw [over_getD _ _ _ _ (by simpa using hle), if_neg (by simpa using hout)]
      · simp only
        rw [over_get _ _ _ _ (by simp [r1]; omega), if_neg (by simpa using hout)]
  refine (h.upd o _ _ _ H frz imm ho (Below.setRow' h.base hBW _) (by simp) h.fi (fun _ k => k) (fun _ k => k) (fun y hy => (by have := h.ilt y hy; simpa using this)) (fun y hy => hoth y (fun k => hni (by rw [← k]; exact hy)))
    (fun o1 h1 hne y hy => hoth y (fun k => (by subst k; exact ownc_two G (H1 ++ H) h.one hG h1 hne hbo hy))) (fun _ => hkeep) (fun hc => ?_) (fun hc x hx => (h.held x (List.mem_append_right _ hx)).le hc h.len (fun y hy => hoth y (hheld x (List.mem_append_right _ hx) y hy)))
    (fun x => Nat.le_trans (hcnt x) (h.one x)) (fun x hx => by have := hcnt x; have := h.apart x hx; omega) (fun x hx => by have := h.olt x (by have := hcnt x; omega); simpa using this)).2
  refine ⟨by simp [over_len, r1], by simp [over_len, r2], fun i x y z => ?_, fun _ => ⟨b, e, rfl, setRow_heap w b _ _ e _ q2⟩, fun k => by cases k⟩
  simp only at x y z ⊢
  have x' : i < st.objs[o].cells.length := by rw [over_len] at x; exact x
  have g1 := over_get (H1.map (·.a)) st.objs[o].cells c i (by simpa using hle)
  have g2 := over_get (H1.map (·.v)) G[o].hd c i (by simp [r1]; omega)
  have g3 := over_get (H1.map (·.fp)) G[o].fps c i (by simp [r2]; omega)
  rw [List.getElem?_eq_getElem x] at g1
  rw [List.getElem?_eq_getElem y] at g2
  rw [List.getElem?_eq_getElem z] at g3
  simp only [List.length_map] at g1 g2 g3
  by_cases hin : c ≤ i ∧ i < c + H1.length
  · have hx : i - c < H1.length := by omega
    rw [if_pos hin, List.getElem?_eq_getElem (by simpa using hx)] at g1 g2 g3
    injection g1 with g1
    injection g2 with g2
    injection g3 with g3
    rw [g1, g2, g3]
    simp only [List.getElem_map]
    exact (h.held H1[i - c] (List.mem_append_left _ (List.getElem_mem hx))).le hc h.len (fun y hy => hoth y (hheld _ (List.mem_append_left _ (List.getElem_mem hx)) y hy))
  · rw [if_neg hin, List.getElem?_eq_getElem (by omega)] at g1 g2 g3
    injection g1 with g1
    injection g2 with g2
    injection g3 with g3
    rw [g1, g2, g3]
    exact (r3 i x' (by omega) (by omega)).le hc h.len (fun y hy => hoth y (hfps i _ y hy))
end
end Go.Eva
end
section
/- A row taken apart, and put together again. -/
namespace Go.Eva
set_option linter.unusedVariables false
set_option linter.unusedSimpArgs false

/-- A row of one's own, taken apart. -/
theorem rd_hd {C : Ctx} : ∀ (κ : Kd) (c : Nat) (g : Nat → Option Value) (x : κ.T) (fp : List Nat), Rd C.w true κ g x fp →
    ∃ E : List Hd, E.map (·.a) = explode nestD κ c x ∧ (∀ j, j < κ.n → g j = (E[j]?).map (·.v)) ∧ (∀ h ∈ E, RC C h.a h.v h.fp) ∧ (E.map (·.fp)).flatten = fp ∧ E.length = κ.n
  | .int k, c, g, x, fp, h => ⟨[⟨.int k x, .int k x, []⟩], rfl, fun j hj => by
      have : j = 0 := by simp [Kd.n] at hj; exact hj
      subst this; exact h.1, fun y hy => by rw [List.mem_singleton.1 hy]; exact ⟨rfl, rfl⟩, by rw [h.2]; rfl, rfl⟩
  | .bool, c, g, x, fp, h => ⟨[⟨.bool x, .bool x, []⟩], rfl, fun j hj => by
      have : j = 0 := by simp [Kd.n] at hj; exact hj
      subst this; exact h.1, fun y hy => by rw [List.mem_singleton.1 hy]; exact ⟨rfl, rfl⟩, by rw [h.2]; rfl, rfl⟩
  | .str, c, g, x, fp, h => ⟨[⟨.str x, .string x, []⟩], rfl, fun j hj => by
      have : j = 0 := by simp [Kd.n] at hj; exact hj
      subst this; exact h.1, fun y hy => by rw [List.mem_singleton.1 hy]; exact ⟨rfl, rfl⟩, by rw [h.2]; rfl, rfl⟩
  | .sl e κ, c, g, x, fp, ⟨v, h1, h2⟩ => ⟨[⟨.sl .own e κ x, v, fp⟩], rfl, fun j hj => by
      have : j = 0 := by simp [Kd.n] at hj; exact hj
      subst this; exact h1, fun y hy => by rw [List.mem_singleton.1 hy]; exact h2, by simp, rfl⟩
  | .pair a b, c, g, x, fp, ⟨f1, f2, h0, h1, h2⟩ => by
    obtain ⟨E1, a1, a2, a3, a4, a5⟩ := rd_hd a c g x.1 f1 h1
    obtain ⟨E2, b1, b2, b3, b4, b5⟩ := rd_hd b (c + a.n) _ x.2 f2 h2
    refine ⟨E1 ++ E2, by simp [explode, a1, b1], fun j hj => ?_, fun y hy => (List.mem_append.1 hy).elim (a3 y) (b3 y), by simp [a4, b4, h0], by simp [a5, b5, Kd.n]⟩
    by_cases hlt : j < a.n
    · rw [List.getElem?_append_left (by omega)]; exact a2 j hlt
    · rw [List.getElem?_append_right (by omega), a5]
      have := b2 (j - a.n) (by simp only [Kd.n] at hj; omega)
      rw [show a.n + (j - a.n) = j by omega] at this
      exact this
/-- A row that is shared, taken apart. -/
theorem rd_im {C : Ctx} {t : Bool} : ∀ (κ : Kd) (c : Nat) (g : Nat → Option Value) (x : κ.T) (fp : List Nat), Rd C.w false κ g x fp → (∀ y ∈ fp, C.S t y) →
    ∃ E : List Hd, E.map (·.a) = explode (nestI t) κ c x ∧ (∀ j, j < κ.n → g j = (E[j]?).map (·.v)) ∧ (∀ h ∈ E, RC C h.a h.v h.fp) ∧ (E.map (·.fp)).flatten = [] ∧ E.length = κ.n
  | .int k, c, g, x, fp, h, _ => ⟨[⟨.int k x, .int k x, []⟩], rfl, fun j hj => by
      have : j = 0 := by simp [Kd.n] at hj; exact hj
      subst this; exact h.1, fun y hy => by rw [List.mem_singleton.1 hy]; exact ⟨rfl, rfl⟩, rfl, rfl⟩
  | .bool, c, g, x, fp, h, _ => ⟨[⟨.bool x, .bool x, []⟩], rfl, fun j hj => by
      have : j = 0 := by simp [Kd.n] at hj; exact hj
      subst this; exact h.1, fun y hy => by rw [List.mem_singleton.1 hy]; exact ⟨rfl, rfl⟩, rfl, rfl⟩
  | .str, c, g, x, fp, h, _ => ⟨[⟨.str x, .string x, []⟩], rfl, fun j hj => by
      have : j = 0 := by simp [Kd.n] at hj; exact hj
      subst this; exact h.1, fun y hy => by rw [List.mem_singleton.1 hy]; exact ⟨rfl, rfl⟩, rfl, rfl⟩
  | .sl e κ, c, g, x, fp, ⟨v, h1, h2⟩, hS => ⟨[⟨.sl (.imm t) e κ x, v, []⟩], rfl, fun j hj => by
      have : j = 0 := by simp [Kd.n] at hj; exact hj
      subst this; exact h1, fun y hy => by rw [List.mem_singleton.1 hy]; exact ⟨rfl, fp, h2, hS⟩, rfl, rfl⟩
  | .pair a b, c, g, x, fp, ⟨f1, f2, h0, h1, h2⟩, hS => by
    obtain ⟨E1, a1, a2, a3, a4, a5⟩ := rd_im (t := t) a c g x.1 f1 h1 (fun y hy => hS y (by rw [h0]; exact List.mem_append_left _ hy))
    obtain ⟨E2, b1, b2, b3, b4, b5⟩ := rd_im (t := t) b (c + a.n) _ x.2 f2 h2 (fun y hy => hS y (by rw [h0]; exact List.mem_append_right _ hy))
    refine ⟨E1 ++ E2, by simp [explode, a1, b1], fun j hj => ?_, fun y hy => (List.mem_append.1 hy).elim (a3 y) (b3 y), by simp only [List.map_append, List.flatten_append, a4, b4, List.append_nil], by simp [a5, b5, Kd.n]⟩
    by_cases hlt : j < a.n
    · rw [List.getElem?_append_left (by omega)]; exact a2 j hlt
    · rw [List.getElem?_append_right (by omega), a5]
      have := b2 (j - a.n) (by simp only [Kd.n] at hj; omega)
      rw [show a.n + (j - a.n) = j by omega] at this
      exact this

/-- Cells alike but for how a slice is held. -/
inductive Eqv : List AV → List AV → Prop
  | nil : Eqv [] []
  | same (a : AV) {r r' : List AV} : Eqv r r' → Eqv (a :: r) (a :: r')
  | sl (m m' : Md) (e : TypeId) (κ : Kd) (l : List κ.T) {r r' : List AV} : Eqv r r' → Eqv (.sl m e κ l :: r) (.sl m' e κ l :: r')
theorem Eqv.refl : ∀ l : List AV, Eqv l l
  | [] => .nil
  | a :: r => .same a (Eqv.refl r)
theorem Eqv.app {a a' b b' : List AV} (h : Eqv a a') (k : Eqv b b') : Eqv (a ++ b) (a' ++ b') := by
  induction h with
  | nil => exact k
  | same a _ ih => exact .same a ih
  | sl m m' e κ l _ ih => exact .sl m m' e κ l ih
theorem explode_eqv (t : Bool) : ∀ (κ : Kd) (c : Nat) (x : κ.T), Eqv (explode nestD κ c x) (explode (nestI t) κ c x)
  | .int _, _, _ => Eqv.refl _
  | .bool, _, _ => Eqv.refl _
  | .str, _, _ => Eqv.refl _
  | .sl e κ, _, x => .sl .own (.imm t) e κ x .nil
  | .pair a b, c, x => (explode_eqv t a c x.1).app (explode_eqv t b _ x.2)
theorem Eqv.len {l l' : List AV} (h : Eqv l l') : l'.length = l.length := by
  induction h with
  | nil => rfl
  | same _ _ ih => simp [ih]
  | sl _ _ _ _ _ _ ih => simp [ih]
theorem Eqv.set {l l' : List AV} (h : Eqv l l') : ∀ (i : Nat) (v : AV), Eqv (l.set i v) (l'.set i v) := by
  induction h with
  | nil => exact fun _ _ => .nil
  | same a h ih => exact fun i v => by cases i with
    | zero => exact .same v h
    | succ i => exact .same a (ih i v)
  | sl m m' e κ l h ih => exact fun i v => by cases i with
    | zero => exact .same v h
    | succ i => exact .sl m m' e κ l (ih i v)
theorem Eqv.over : ∀ (ds : List AV) {l l' : List AV} (k : Nat), Eqv l l' → Eqv (over l k ds) (Go.Eva.over l' k ds)
  | [], _, _, _, h => h
  | d :: ds, _, _, k, h => Eqv.over ds (k + 1) (h.set k d)
theorem implode_eqv {β : Type} {st : St} {res : β × St} : ∀ (κ : Kd) (cs cs' : List AV) (K K' : κ.T → List AV → Prg β), Eqv cs cs' → (∀ y r r', Eqv r r' → (K y r).run st = some res → (K' y r').run st = some res) →
    (implode κ cs K).run st = some res → (implode κ cs' K').run st = some res
  | .int k, cs, cs', K, K', he, hK, h => by
    cases he with
    | nil => cases h
    | sl m m' e κ l he => cases h
    | same a he =>
      cases a with
      | int k' n =>
        simp only [implode] at h ⊢
        split at h
        · rename_i hk; rw [if_pos hk]; exact hK _ _ _ he h
        · cases h
      | _ => cases h
  | .bool, cs, cs', K, K', he, hK, h => by
    cases he with
    | nil => cases h
    | sl m m' e κ l he => cases h
    | same a he =>
      cases a with
      | bool n => exact hK _ _ _ he h
      | _ => cases h
  | .str, cs, cs', K, K', he, hK, h => by
    cases he with
    | nil => cases h
    | sl m m' e κ l he => cases h
    | same a he =>
      cases a with
      | str n => exact hK _ _ _ he h
      | _ => cases h
  | .sl e κ, cs, cs', K, K', he, hK, h => by
    cases he with
    | nil => cases h
    | sl m m' e' κ' l he =>
      simp only [implode] at h ⊢
      split at h
      · rename_i h1
        rw [if_pos h1]
        split at h
        · rename_i h2
          rw [dif_pos h2]; exact hK _ _ _ he h
        · cases h
      · cases h
    | same a he =>
      cases a with
      | sl m e' κ' l =>
        simp only [implode] at h ⊢
        split at h
        · rename_i h1
          rw [if_pos h1]
          split at h
          · rename_i h2
            rw [dif_pos h2]; exact hK _ _ _ he h
          · cases h
        · cases h
      | nils => exact hK _ _ _ he h
      | _ => cases h
  | .pair a b, cs, cs', K, K', he, hK, h => by
    have h : (implode a cs fun x r => implode b r fun y r' => K (x, y) r').run st = some res := by
      cases cs with
      | nil => exact h
      | cons c cs => exact h
    have : (implode a cs' fun x r => implode b r fun y r' => K' (x, y) r').run st = some res :=
      implode_eqv a cs cs' _ _ he (fun x r r' hr hx => implode_eqv b r r' _ _ hr (fun y s s' hs hy => hK _ _ _ hs hy) hx) h
    cases cs' with
    | nil => exact this
    | cons c cs => exact this

theorem explode_sub (nest : Nat → TypeId → (κ : Kd) → List κ.T → AV) : ∀ (κ : Kd) (c : Nat) (x : κ.T) (k : Nat) (s : Sub κ), κ.sub k = some s → (explode nest κ c x)[k]? = some (nest (c + k) s.e s.κ' (s.get x))
  | .int _, _, _, k, s, h => by cases k <;> simp [Kd.sub] at h
  | .bool, _, _, k, s, h => by cases k <;> simp [Kd.sub] at h
  | .str, _, _, k, s, h => by cases k <;> simp [Kd.sub] at h
  | .sl e κ, c, x, k, s, h => by
    cases k with
    | zero => simp only [Kd.sub, Option.some.injEq] at h; subst h; rfl
    | succ k => simp [Kd.sub] at h
  | .pair a b, c, x, k, s, h => by
    simp only [Kd.sub] at h
    split at h
    · rename_i hk
      cases hs : a.sub k with
      | none => rw [hs] at h; cases h
      | some s1 =>
        rw [hs] at h
        injection h with h
        subst h
        simp only [explode]
        rw [List.getElem?_append_left (by rw [explode_len]; exact hk), explode_sub nest a c x.1 k s1 hs]
    · rename_i hk
      cases hs : b.sub (k - a.n) with
      | none => rw [hs] at h; cases h
      | some s1 =>
        rw [hs] at h
        injection h with h
        subst h
        simp only [explode]
        rw [List.getElem?_append_right (by rw [explode_len]; omega), explode_len, explode_sub nest b _ x.2 (k - a.n) s1 hs]
        rw [show c + a.n + (k - a.n) = c + k by omega]

/-- What a row that is put together holds at its slices. -/
theorem implode_sub {β : Type} {st : St} {res : β × St} : ∀ (κ : Kd) (cs : List AV) (K : κ.T → List AV → Prg β), (implode κ cs K).run st = some res →
    ∃ y pre rest, cs = pre ++ rest ∧ pre.length = κ.n ∧ (K y rest).run st = some res ∧ (∀ a ∈ pre, plainA a = true) ∧ ∀ k s, κ.sub k = some s → (∃ m, pre[k]? = some (.sl m s.e s.κ' (s.get y))) ∨ (pre[k]? = some .nils ∧ s.get y = [])
  | .int k, cs, K, h => by
    match cs with
    | [] => cases h
    | a :: r =>
      cases a with
      | int k' n =>
        simp only [implode] at h
        split at h
        · exact ⟨n, [.int k' n], r, rfl, rfl, h, fun a ha => by rw [List.mem_singleton.1 ha]; rfl, fun k s hs => by cases k <;> simp [Kd.sub] at hs⟩
        · cases h
      | _ => cases h
  | .bool, cs, K, h => by
    match cs with
    | [] => cases h
    | a :: r =>
      cases a with
      | bool n => exact ⟨n, [.bool n], r, rfl, rfl, h, fun a ha => by rw [List.mem_singleton.1 ha]; rfl, fun k s hs => by cases k <;> simp [Kd.sub] at hs⟩
      | _ => cases h
  | .str, cs, K, h => by
    match cs with
    | [] => cases h
    | a :: r =>
      cases a with
      | str n => exact ⟨n, [.str n], r, rfl, rfl, h, fun a ha => by rw [List.mem_singleton.1 ha]; rfl, fun k s hs => by cases k <;> simp [Kd.sub] at hs⟩
      | _ => cases h
  | .sl e κ, cs, K, h => by
    match cs with
    | [] => cases h
    | a :: r =>
      cases a with
      | sl m e' κ' l =>
        simp only [implode] at h
        split at h
        · rename_i h1
          split at h
          · rename_i h2
            subst h1 h2
            refine ⟨l, [.sl m e' κ' l], r, rfl, rfl, h, fun a ha => by rw [List.mem_singleton.1 ha]; rfl, fun k s hs => ?_⟩
            cases k with
            | zero => simp only [Kd.sub, Option.some.injEq] at hs; subst hs; exact .inl ⟨m, rfl⟩
            | succ k => simp [Kd.sub] at hs
          · cases h
        · cases h
      | nils =>
        refine ⟨[], [.nils], r, rfl, rfl, h, fun a ha => by rw [List.mem_singleton.1 ha]; rfl, fun k s hs => ?_⟩
        cases k with
        | zero => simp only [Kd.sub, Option.some.injEq] at hs; subst hs; exact .inr ⟨rfl, rfl⟩
        | succ k => simp [Kd.sub] at hs
      | _ => cases h
  | .pair a b, cs, K, h => by
    have h : (implode a cs fun x r => implode b r fun y r' => K (x, y) r').run st = some res := by
      cases cs with
      | nil => exact h
      | cons c cs => exact h
    obtain ⟨x, p1, r1, a1, a2, a3, a0, a4⟩ := implode_sub a cs _ h
    obtain ⟨y, p2, r2, b1, b2, b3, b0, b4⟩ := implode_sub b r1 _ a3
    refine ⟨(x, y), p1 ++ p2, r2, by rw [a1, b1, List.append_assoc], by simp [a2, b2, Kd.n], b3, fun z hz => (List.mem_append.1 hz).elim (a0 z) (b0 z), fun k s hs => ?_⟩
    simp only [Kd.sub] at hs
    split at hs
    · rename_i hk
      cases hs1 : a.sub k with
      | none => rw [hs1] at hs; cases hs
      | some s1 =>
        rw [hs1] at hs
        injection hs with hs
        subst hs
        rw [List.getElem?_append_left (by omega)]
        exact a4 k s1 hs1
    · rename_i hk
      cases hs1 : b.sub (k - a.n) with
      | none => rw [hs1] at hs; cases hs
      | some s1 =>
        rw [hs1] at hs
        injection hs with hs
        subst hs
        rw [List.getElem?_append_right (by omega), a2]
        exact b4 _ s1 hs1
theorem joins_explode : ∀ (κ : Kd) (c : Nat) (x : κ.T), joins (explode nestD κ c x) = none
  | .int _, _, _ => rfl
  | .bool, _, _ => rfl
  | .str, _, _ => rfl
  | .sl _ _, _, _ => rfl
  | .pair a b, c, x => by simp only [explode, joins_append, joins_explode a, joins_explode b]; rfl
theorem joins_none : ∀ {l : List AV}, joins l = none ↔ ∀ a ∈ l, join1 a = none
  | [] => ⟨fun _ a h => (by cases h), fun _ => rfl⟩
  | a :: l => by
    constructor
    · intro h b hb
      obtain ⟨h1, h2⟩ := join2_none h
      rcases List.mem_cons.1 hb with rfl | hb
      · exact h1
      · exact joins_none.1 h2 b hb
    · intro h
      rw [joins, h a List.mem_cons_self, joins_none.2 (fun b hb => h b (List.mem_cons_of_mem _ hb))]; rfl
end Go.Eva
end
section
/- Stores into rows. -/
namespace Go.Eva
set_option linter.unusedVariables false
set_option linter.unusedSimpArgs false
variable {P : Program} {W : Root} {T : Tab} {Γ : Gam}

theorem implode_det (st : St) : ∀ (κ : Kd) (cs : List AV), (∃ x r, ∀ (β : Type) (K : κ.T → List AV → Prg β), (implode κ cs K).run st = (K x r).run st) ∨ (∀ (β : Type) (K : κ.T → List AV → Prg β), (implode κ cs K).run st = none)
  | .int k, cs => by
    match cs with
    | [] => exact .inr fun β K => rfl
    | a :: r =>
      cases a with
      | int k' n =>
        by_cases h : k' = k
        · exact .inl ⟨n, r, fun β K => by simp only [implode, if_pos h]⟩
        · exact .inr fun β K => by simp only [implode, if_neg h]; rfl
      | _ => exact .inr fun β K => rfl
  | .bool, cs => by
    match cs with
    | [] => exact .inr fun β K => rfl
    | a :: r =>
      cases a with
      | bool n => exact .inl ⟨n, r, fun β K => rfl⟩
      | _ => exact .inr fun β K => rfl
  | .str, cs => by
    match cs with
    | [] => exact .inr fun β K => rfl
    | a :: r =>
      cases a with
      | str n => exact .inl ⟨n, r, fun β K => rfl⟩
      | _ => exact .inr fun β K => rfl
  | .sl e κ, cs => by
    match cs with
    | [] => exact .inr fun β K => rfl
    | a :: r =>
      cases a with
      | sl m e' κ' l =>
        by_cases h : e' = e
        · by_cases h2 : κ' = κ
          · subst h2; exact .inl ⟨l, r, fun β K => by simp only [implode, if_pos h, dif_pos]⟩
          · exact .inr fun β K => by simp only [implode, if_pos h, dif_neg h2]; rfl
        · exact .inr fun β K => by simp only [implode, if_neg h]; rfl
      | nils => exact .inl ⟨[], r, fun β K => rfl⟩
      | _ => exact .inr fun β K => rfl
  | .pair a b, cs => by
    have e : ∀ (β : Type) (K : (Kd.pair a b).T → List AV → Prg β), implode (.pair a b) cs K = implode a cs fun x r => implode b r fun y r' => K (x, y) r' := fun β K => by cases cs <;> rfl
    rcases implode_det st a cs with ⟨x, r, h⟩ | h
    · rcases implode_det st b r with ⟨y, r', h'⟩ | h'
      · exact .inl ⟨(x, y), r', fun β K => by rw [e, h, h']⟩
      · exact .inr fun β K => by rw [e, h, h']
    · exact .inr fun β K => by rw [e, h]

theorem over_map {α β : Type} (f : α → β) : ∀ (vs xs : List α) (k : Nat), (over xs k vs).map f = over (xs.map f) k (vs.map f)
  | [], _, _ => rfl
  | v :: vs, xs, k => by rw [over, over_map f vs]; simp [over]
theorem over_mem {α : Type} : ∀ (vs xs : List α) (k : Nat), ∀ x ∈ over xs k vs, x ∈ xs ∨ x ∈ vs
  | [], _, _, x, h => .inl h
  | v :: vs, xs, k, x, h => by
    rcases over_mem vs _ _ x h with h | h
    · rcases List.mem_or_eq_of_mem_set h with h | h
      · exact .inl h
      · exact .inr (by rw [h]; exact List.mem_cons_self)
    · exact .inr (List.mem_cons_of_mem _ h)
theorem over_count (xs vs : List (List Nat)) (k : Nat) (h : k + vs.length ≤ xs.length) (z : Nat) : (over xs k vs).flatten.count z ≤ xs.flatten.count z + vs.flatten.count z := by
  rw [over_eq _ _ _ h]
  have e1 : xs.flatten.count z = (xs.take k).flatten.count z + (((xs.drop k).take vs.length).flatten.count z + (xs.drop (k + vs.length)).flatten.count z) := by
    conv => lhs; rw [← List.take_append_drop k xs, ← List.take_append_drop vs.length (xs.drop k)]
    simp only [List.flatten_append, List.count_append, List.drop_drop]
  simp only [List.flatten_append, List.count_append]
  omega

/-- A whole slice whose blocks stay keeps what lies within. -/
theorem root_keep {C : Ctx} {m : Md} {e : TypeId} {κ : Kd} {l : List κ.T} {hv : Value} {fp : List Nat} {w' : World} (r : RC C (.sl m e κ l) hv fp) (fi : ∀ b, C.frz b → C.imm b) (ho : ∀ b ∈ fp, w'.heap[b]? = C.w.heap[b]?) (hi : ∀ b, C.imm b → w'.heap[b]? = C.w.heap[b]?)
    {k : Nat} {s : Sub κ} (hs : κ.sub k = some s) {i : Int} (i0 : 0 ≤ i) (il : i < (l.length : Int)) {b off len cap : Nat} (hb : hv = .slice (some ⟨b, off, none⟩) len cap) :
    w'.cell? ⟨b, off + i.toNat * κ.n + k, none⟩ = C.w.cell? ⟨b, off + i.toNat * κ.n + k, none⟩ ∧ (m = .own → ∀ g1 off1 len1 cap1, 0 < cap1 → C.w.cell? ⟨b, off + i.toNat * κ.n + k, none⟩ = some (.slice (some ⟨g1, off1, none⟩) len1 cap1) → w'.heap[g1]? = C.w.heap[g1]?) := by
  obtain ⟨fp0, r1, r2, r3⟩ := r.read fi
  have hall : ∀ b ∈ fp0, w'.heap[b]? = C.w.heap[b]? := fun b hb => (r2 b hb).elim (fun k => ho b k) (hi b)
  obtain ⟨g1, off1, cap1, f, q1, q2, q3, _, q4⟩ := r1.at κ.dflt i0 il
  rw [hb] at q1
  injection q1 with q1 _ _
  injection q1 with q1
  injection q1 with q1 q5
  subst q1 q5
  refine ⟨World.cell?_of_block (w := C.w) (a := ⟨b, off + i.toNat * κ.n + k, none⟩) (hall b q2), fun hm g2 off2 len2 cap2 hp2 hg2 => ?_⟩
  obtain ⟨v1, fp1, t1, t2, t3, _⟩ := Rd.sub κ k s _ _ _ hs q4
  rw [hg2] at t1
  injection t1 with t1
  subst t1
  rcases t2 with ⟨_, _, a, c2, u1, u2⟩ | ⟨g3, off3, cap3, fps3, u1, u2, _⟩
  · have := u2 (by rw [hm]; rfl)
    injection u1 with _ _ u1
    omega
  · injection u1 with u1 _ _
    injection u1 with u1
    injection u1 with u1 _
    subst u1
    exact hall g2 (List.mem_of_mem_drop <| q3 g2 (t3 g2 (by rw [u2]; exact List.mem_cons_self)))

/-- A new row in a slice. -/
theorem set_rows {w w' : World} {o o' : Bool} (hoo : o' = true → o = true) {e : TypeId} {κ : Kd} {l : List κ.T} {b off cap : Nat} {fps0 : List (List Nat)} {i : Nat} {y : κ.T} {newfp : List Nat} {cur' : Array Value}
    (hb : w'.heap[b]? = some (.cells cur' e (0, 0))) (hsz : off + cap * κ.n ≤ cur'.size) (hcap : cap ≤ maxLen) (hlt : b < w'.heap.size) (hlc : l.length ≤ cap) (hs : w.heap.size ≤ w'.heap.size)
    (h3 : fps0.length = l.length) (hrow : ∀ j (h : j < l.length) (h' : j < fps0.length), j ≠ i → Rd w o κ (fun x => w.cell? ⟨b, off + j * κ.n + x, none⟩) l[j] fps0[j])
    (hfr : ∀ j (h' : j < fps0.length), ∀ z ∈ fps0[j], w'.heap[z]? = w.heap[z]?) (hcell : ∀ j, j ≠ i → ∀ x, x < κ.n → w'.cell? ⟨b, off + j * κ.n + x, none⟩ = w.cell? ⟨b, off + j * κ.n + x, none⟩)
    (hnew : Rd w' o' κ (fun x => w'.cell? ⟨b, off + i * κ.n + x, none⟩) y newfp) :
    RdS w' true (Rd w' o' κ) κ.n e (.slice (some ⟨b, off, none⟩) l.length cap) (l.set i y) (b :: (fps0.set i newfp).flatten) := by
  refine .inr ⟨b, off, cap, fps0.set i newfp, by simp, rfl, by simp [h3], hlt, by simpa using hlc, fun _ => ⟨cur', hb, hsz, hcap⟩, fun j h h' => ?_⟩
  by_cases e1 : i = j
  · subst e1
    simp only [List.getElem_set_self]
    exact hnew
  · simp only [List.getElem_set_ne e1]
    exact Rd.frame hoo hs κ _ _ _ _ (hrow j (by simpa using h) (by simpa using h') (Ne.symm e1)) (hfr j _) (fun x hx => hcell j (Ne.symm e1) x hx)
end Go.Eva
end
section
/- A store into a row. -/
namespace Go.Eva
set_option linter.unusedVariables false
set_option linter.unusedSimpArgs false
variable {P : Program} {W : Root} {T : Tab} {Γ : Gam}

section
variable {st : St} {w : World} {tm : Array Value} {G : List Gh} {H : List Hd} {frz imm : Nat → Prop}

/-- What putting cells into a row computes. -/
theorem putCells_run {κ : Kd} {x : κ.T} {k : Nat} {ds : List AV} {K : κ.T → Prg Unit} {r : Unit × St} (hr : (putCells κ x k ds K).run st = some r) :
    k + ds.length ≤ κ.n ∧ ∃ y, (K y).run st = some r ∧ ∀ cs, Eqv (over (explode nestD κ 0 x) k ds) cs → ∀ (β : Type) (K' : κ.T → List AV → Prg β), (implode κ cs K').run st = (K' y []).run st := by
  unfold putCells at hr
  split at hr
  · rename_i hk
    refine ⟨hk, ?_⟩
    rcases implode_det st κ (over (explode nestD κ 0 x) k ds) with ⟨y, rr, h⟩ | h
    · rw [h] at hr
      cases rr with
      | cons c cs => cases hr
      | nil =>
        refine ⟨y, hr, fun cs he β K' => ?_⟩
        have h1 := implode_eqv (β := κ.T × List AV) (st := st) (res := ((y, []), st)) κ _ cs (fun x r => .done (x, r)) (fun x r => .done (x, r)) he (fun y1 r1 r2 hr12 h12 => by
          have h12 : some ((y1, r1), st) = some ((y, []), st) := h12
          injection h12 with h12
          injection h12 with h12 _
          injection h12 with h12 h13
          subst h12 h13
          have : r2 = [] := List.eq_nil_of_length_eq_zero (by rw [hr12.len]; rfl)
          subst this; rfl) (by rw [h]; rfl)
        rcases implode_det st κ cs with ⟨y', rr', h'⟩ | h'
        · rw [h'] at h1
          have h1 : some ((y', rr'), st) = some ((y, []), st) := h1
          injection h1 with h1
          injection h1 with h1 _
          injection h1 with h1 h2
          subst h1 h2
          exact h' β K'
        · rw [h'] at h1; cases h1
    · rw [h] at hr; cases hr
  · cases hr

theorem join_nestI (t : Bool) : ∀ (κ : Kd) (c : Nat) (x : κ.T), ∀ a ∈ explode (nestI t) κ c x, ∀ b', join1 a = some b' → b' = t
  | .int k, c, x, a, ha, b', hb => by rw [List.mem_singleton.1 ha] at hb; cases hb
  | .bool, c, x, a, ha, b', hb => by rw [List.mem_singleton.1 ha] at hb; cases hb
  | .str, c, x, a, ha, b', hb => by rw [List.mem_singleton.1 ha] at hb; cases hb
  | .sl e κ, c, x, a, ha, b', hb => by
    rw [List.mem_singleton.1 ha] at hb
    have hb : some t = some b' := hb
    injection hb with hb; exact hb.symm
  | .pair p q, c, x, a, ha, b', hb => (List.mem_append.1 ha).elim (fun h => join_nestI t p c x.1 a h b' hb) (fun h => join_nestI t q _ x.2 a h b' hb)
theorem bears_joins {b : Bool} : ∀ {l : List AV}, (∀ a ∈ l, bears b (join1 a)) → bears b (joins l)
  | [], _ => fun b' h => by cases h
  | a :: l, h => by
    have h1 := h a List.mem_cons_self
    have h2 := bears_joins (l := l) (fun x hx => h x (List.mem_cons_of_mem _ hx))
    intro b' hb ht
    rw [joins] at hb
    unfold join2 at hb
    split at hb
    · exact h2 b' hb ht
    · exact h1 b' hb ht
    · rename_i p q e1 e2
      injection hb with hb
      subst hb
      cases p
      · exact h2 q e2 (by simpa using ht)
      · exact h1 true e1 rfl
theorem bears_mem {b : Bool} : ∀ {l : List AV}, bears b (joins l) → ∀ a ∈ l, bears b (join1 a)
  | [], _, a, h => by cases h
  | x :: l, hb, a, h => by
    obtain ⟨h1, h2⟩ := bears_join2 hb
    rcases List.mem_cons.1 h with rfl | h
    · exact h1
    · exact bears_mem h2 a h
theorem mdJoin_own {m : Md} {j : Option Bool} (h : mdJoin m j = .own) : m = .own ∧ j = none := by
  cases m with
  | own => cases j with
    | none => exact ⟨rfl, rfl⟩
    | some b => cases h
  | mix b => cases j <;> cases h
  | imm b => cases j <;> cases h

theorem mdJoin_mix {m : Md} {j : Option Bool} (hm : isOwn m = true) (h : mdJoin m j ≠ .own) : ∃ t', mdJoin m j = .mix t' ∧ bears t' j ∧ ∀ t, m = .mix t → t = true → t' = true := by
  cases m with
  | own => cases j with
    | none => exact absurd rfl h
    | some b => exact ⟨b, rfl, fun b' hb ht => (by injection hb with hb; rw [hb]; exact ht), fun t k => by cases k⟩
  | mix b => cases j with
    | none => exact ⟨b, rfl, fun b' hb => (by cases hb), fun t k ht => by injection k with k; rw [k]; exact ht⟩
    | some b' => exact ⟨b || b', rfl, fun b2 hb ht => (by injection hb with hb; subst hb; subst ht; simp), fun t k ht => by injection k with k; subst k; subst ht; rfl⟩
  | imm b => cases hm

theorem eqv_at {l l' : List AV} (h : Eqv l l') : ∀ (k : Nat) {m : Md} {e : TypeId} {κ : Kd} {x : List κ.T}, l[k]? = some (.sl m e κ x) → ∃ m', l'[k]? = some (.sl m' e κ x) := by
  induction h with
  | nil => intro k m e κ x h; cases h
  | same a h ih =>
    intro k m e κ x hk
    cases k with
    | zero => exact ⟨m, hk⟩
    | succ k => exact ih k hk
  | sl m0 m1 e0 κ0 l0 h ih =>
    intro k m e κ x hk
    cases k with
    | zero =>
      have hk : some (AV.sl m0 e0 κ0 l0) = some (AV.sl m e κ x) := hk
      injection hk with hk
      injection hk with q1 q2 q3 q4
      subst q1 q2 q3
      have q4 := eq_of_heq q4
      subst q4
      exact ⟨m1, rfl⟩
    | succ k => exact ih k hk

set_option maxHeartbeats 4000000 in
theorem putRow_run {H1 : List Hd} (h : Rep W st w tm G (H1 ++ H) frz imm) {o c : Nat} (ho : o < st.objs.length) (hG : o < G.length) {m : Md} {e : TypeId} {κ : Kd} {l : List κ.T} (hc : c < st.objs[o].cells.length) (hce : st.objs[o].cells[c] = .sl m e κ l) (hm : isOwn m = true)
    {i : Int} (i0 : 0 ≤ i) (i1 : i < (l.length : Int)) {k b off len cap : Nat} (hh : G[o].hd[c]? = some (.slice (some ⟨b, off, none⟩) len cap)) {K : κ.T → Prg Unit} {r : Unit × St} (hr : (putCells κ (rdOf κ.dflt l i) k (H1.map (·.a)) K).run st = some r) :
    ∃ y cur e0 frz' imm' G', (K y).run st = some r ∧ w.heap[b]? = some (.cells cur e0 (0, 0)) ∧ off + i.toNat * κ.n + k + H1.length ≤ cur.size ∧ (∀ x ∈ H1, x.v.oneCell' = true) ∧
      Rep W ⟨st.slots, st.objs.set o ⟨st.objs[o].real, st.objs[o].cells.set c (.sl (mdJoin m (joins (H1.map (·.a)))) e κ (l.set i.toNat y)), st.objs[o].rv, st.objs[o].nv + anyA (H1.map (·.a))⟩⟩
        (w.setRow b (over cur.toList (off + i.toNat * κ.n + k) (H1.map (·.v))).toArray) tm G' H frz' imm' ∧
      Ext w frz imm (w.setRow b (over cur.toList (off + i.toNat * κ.n + k) (H1.map (·.v))).toArray) frz' imm' := by
  obtain ⟨hkn, y, hK, hy⟩ := putCells_run hr
  simp only [List.length_map] at hkn
  obtain ⟨r1, r2, r3, r4, r5⟩ := h.objs o ho hG
  have hch : c < G[o].hd.length := by rw [r1]; exact hc
  have hcf : c < G[o].fps.length := by rw [r2]; exact hc
  have hhd : G[o].hd[c] = .slice (some ⟨b, off, none⟩) len cap := by rw [List.getElem?_eq_getElem hch] at hh; injection hh
  have rc := r3 c hc hch hcf
  rw [hce, hhd] at rc
  -- what the cell holds
  obtain ⟨fp0, a1, a2, a3⟩ : ∃ fp0, RdS w true (Rd w m.deep κ) κ.n e (.slice (some ⟨b, off, none⟩) len cap) l fp0 ∧ fp0.take 1 = G[o].fps[c].take 1 ∧ ((m = .own ∧ fp0 = G[o].fps[c]) ∨ ∃ t, m = .mix t ∧ G[o].fps[c] = fp0.take 1 ∧ ∀ z ∈ fp0.drop 1, (ctx st G w frz imm).S t z) := by
    cases m with
    | own => exact ⟨_, rc, rfl, .inl ⟨rfl, rfl⟩⟩
    | mix t => obtain ⟨fp0, q1, q2, q3⟩ := rc; exact ⟨fp0, q1, by rw [q2]; cases fp0 <;> rfl, .inr ⟨t, rfl, q2, q3⟩⟩
    | imm t => cases hm
  rcases a1 with ⟨a1, _⟩ | ⟨g', off', cap', fps0, b1, b2, b3, b4, b40, b5, b6⟩
  · subst a1; exact absurd i1 (by simp only [List.length_nil]; omega)
  injection b1 with b1 b1' b1''
  injection b1 with b1
  injection b1 with b1 b10
  subst b1 b10 b1' b1''
  obtain ⟨cur, c1, c2, c3⟩ := b5 rfl
  obtain ⟨hil, hrd⟩ := rdOf_lt κ.dflt l i i0 i1
  have hif : i.toNat < fps0.length := by omega
  have hrow := b6 i.toNat hil hif
  -- the row's cells
  have hEx : ∃ E : List Hd, Eqv (explode nestD κ 0 l[i.toNat]) (E.map (·.a)) ∧ (∀ j, j < κ.n → w.cell? ⟨b, off + i.toNat * κ.n + j, none⟩ = (E[j]?).map (·.v)) ∧ (∀ x ∈ E, RC (ctx st G w frz imm) x.a x.v x.fp) ∧ E.length = κ.n ∧
      ((m = .own ∧ (E.map (·.fp)).flatten = fps0[i.toNat] ∧ ∀ x ∈ E, join1 x.a = none) ∨ ∃ t, m = .mix t ∧ (E.map (·.fp)).flatten = [] ∧ ∀ x ∈ E, ∀ b', join1 x.a = some b' → b' = t) := by
    rcases a3 with ⟨q1, q2⟩ | ⟨t, q1, q2, q3⟩
    · subst q1
      obtain ⟨E, e1, e2, e3, e4, e5⟩ := rd_hd (C := ctx st G w frz imm) κ 0 _ _ _ hrow
      refine ⟨E, by rw [e1]; exact Eqv.refl _, e2, e3, e5, .inl ⟨rfl, e4, fun x hx => ?_⟩⟩
      have := joins_none.1 (joins_explode κ 0 l[i.toNat])
      rw [← e1] at this
      exact this _ (List.mem_map.2 ⟨x, hx, rfl⟩)
    · subst q1
      obtain ⟨E, e1, e2, e3, e4, e5⟩ := rd_im (C := ctx st G w frz imm) (t := t) κ 0 _ _ _ hrow (fun z hz => q3 z (by rw [b2]; exact List.mem_flatten.2 ⟨_, List.getElem_mem hif, hz⟩))
      refine ⟨E, by rw [e1]; exact explode_eqv t _ _ _, e2, e3, e5, .inr ⟨t, rfl, e4, fun x hx b' hb' => ?_⟩⟩
      exact join_nestI t κ 0 _ x.a (by rw [← e1]; exact List.mem_map.2 ⟨x, hx, rfl⟩) b' hb'
  obtain ⟨E, E1, E2, E3, E4, E5⟩ := hEx
  have hFe := Eqv.over (H1.map (·.a)) k E1
  rw [← over_map] at hFe
  rw [hrd] at hy
  have hFl : (over E k H1).length = κ.n := by rw [over_len, E4]
  have hFR : ∀ x ∈ over E k H1, RC (ctx st G w frz imm) x.a x.v x.fp := fun x hx => (over_mem _ _ _ x hx).elim (E3 x) (fun q => h.held x (List.mem_append_left _ q))
  have hFd := hy _ hFe
  obtain ⟨y', pre, rest, p1, p2, p3, p4, p5⟩ := implode_run (C := ctx st G w frz imm) h.fi κ (over E k H1) (by rw [hFd]; rfl : (implode κ ((over E k H1).map (·.a)) (fun x r => Prg.done (x, r))).run st = some ((y, []), st)) hFR
  have p3 : some ((y', rest.map (·.a)), st) = some ((y, []), st) := p3
  injection p3 with p3
  injection p3 with p3 _
  injection p3 with p3 p30
  have hrest : rest = [] := List.map_eq_nil_iff.1 p30
  rw [hrest, List.append_nil] at p1
  rw [p3, ← p1] at p4 p5
  obtain ⟨y3, pre2, rest2, s1, s2, s3, s0, s4⟩ := implode_sub (st := st) (res := ((y, []), st)) κ ((over E k H1).map (·.a)) (fun x r => Prg.done (x, r)) (by rw [hFd]; rfl)
  have s3 : some ((y3, rest2), st) = some ((y, []), st) := s3
  injection s3 with s3
  injection s3 with s3 _
  injection s3 with s3 s30
  rw [s30, List.append_nil] at s1
  rw [s3, ← s1] at s4
  rw [← s1] at s0
  -- places
  have hbc : b ∈ G[o].fps[c] := by
    have : b ∈ G[o].fps[c].take 1 := by rw [← a2, b2]; exact List.mem_cons_self
    exact List.mem_of_mem_take this
  have hbo : b ∈ G[o].own := Gh.mem_fps hcf hbc
  have hown := h.one b
  have hge := ownc_mem G (H1 ++ H) hG hbo
  have hni : ¬ imm b := fun q => by have := h.apart b q; omega
  have hownG : G[o].own.count b ≤ 1 := by
    have c2 := ownc_set G (H1 ++ H) o ⟨none, [], []⟩ hG b
    have c3 : (Gh.own ⟨none, [], []⟩).count b = 0 := by simp [Gh.own]
    omega
  have hset := own_set G[o] c hcf [] b
  have hcp := List.count_pos_iff.2 hbc
  simp only [List.count_nil] at hset
  have hno : b ∉ Gh.own ⟨G[o].addr, G[o].hd, G[o].fps.set c []⟩ := fun q => by have := List.count_pos_iff.2 q; omega
  have hother : ∀ c' (x : c' < G[o].fps.length), c' ≠ c → ∀ z ∈ G[o].fps[c'], z ≠ b := fun c' x hne z hz e1 => by
    subst e1
    refine hno (List.mem_append_right _ (List.mem_flatten.2 ⟨G[o].fps[c'], ?_, hz⟩))
    refine List.mem_iff_getElem.2 ⟨c', by simpa using x, ?_⟩
    simp [List.getElem_set_ne (Ne.symm hne)]
  have haddr : G[o].addr ≠ some b := fun q => hno (List.mem_append_left _ (by simp [q]))
  have hdrop : ∀ z ∈ G[o].fps[c].drop 1, z ≠ b := fun z hz e1 => by
    subst e1
    have q1 := count_take_drop G[o].fps[c] z
    have q2 := List.count_pos_iff.2 hz
    have q3 : 1 ≤ (G[o].fps[c].take 1).count z := by rw [← a2, b2]; simp
    omega
  have hheld : ∀ x ∈ H1 ++ H, ∀ y ∈ x.fp, y ≠ b := by
    intro x hx y hy e1
    subst e1
    have c1 : 1 ≤ (((H1 ++ H).map fun h => h.fp.count y)).sum := by
      have := List.count_pos_iff.2 hy
      have h2 : (x.fp.count y) ∈ ((H1 ++ H).map fun h => h.fp.count y) := List.mem_map.2 ⟨x, hx, rfl⟩
      have h3 := le_sum_mem h2
      omega
    have c2 : 1 ≤ (G.map fun g => g.own.count y).sum := by
      have h2 : (G[o].own.count y) ∈ (G.map fun g => g.own.count y) := List.mem_map.2 ⟨_, List.getElem_mem hG, rfl⟩
      have h3 := le_sum_mem h2
      have := List.count_pos_iff.2 hbo
      omega
    unfold ownc at hown
    omega
  have hH1 : ∀ z ∈ (H1.map (·.fp)).flatten, z ≠ b := fun z hz => by
    obtain ⟨f, hf, hzf⟩ := List.mem_flatten.1 hz
    obtain ⟨x, hx, rfl⟩ := List.mem_map.1 hf
    exact hheld x (List.mem_append_left _ hx) z hzf
  have hBW : W.heap.size ≤ b := Nat.le_of_not_lt fun q => hni (h.fi b (h.lo b q))
  have hmn : i.toNat * κ.n + κ.n ≤ cap * κ.n := by
    have := Nat.mul_le_mul_right κ.n (show i.toNat + 1 ≤ cap by omega)
    rw [Nat.add_mul] at this; omega
  have hfit : off + i.toNat * κ.n + k + H1.length ≤ cur.size := by omega
  have hovl : off + i.toNat * κ.n + k + (H1.map (·.v)).length ≤ cur.toList.length := by simpa using hfit
  generalize hw' : w.setRow b (over cur.toList (off + i.toNat * κ.n + k) (H1.map (·.v))).toArray = w'
  have hoth : ∀ x, x ≠ b → w'.heap[x]? = w.heap[x]? := fun x hx => by rw [← hw']; exact setRow_other w b x _ hx
  have hnb : w'.heap[b]? = some (.cells (over cur.toList (off + i.toNat * κ.n + k) (H1.map (·.v))).toArray e (0, 0)) := by rw [← hw']; exact setRow_heap w b _ _ e _ c1
  have hsz : w'.heap.size = w.heap.size := by rw [← hw']; simp
  have hcellw : ∀ p, w.cell? ⟨b, p, none⟩ = cur.toList[p]? := fun p => by simp [World.cell?, c1]
  have hcellw' : ∀ p, w'.cell? ⟨b, p, none⟩ = if off + i.toNat * κ.n + k ≤ p ∧ p < off + i.toNat * κ.n + k + H1.length then (H1.map (·.v))[p - (off + i.toNat * κ.n + k)]? else w.cell? ⟨b, p, none⟩ := fun p => by
    rw [hcellw]
    have := over_get (H1.map (·.v)) cur.toList (off + i.toNat * κ.n + k) p hovl
    rw [List.length_map] at this
    rw [← this]
    simp [World.cell?, hnb]
  have hrows : ∀ j, j ≠ i.toNat → ∀ x, x < κ.n → w'.cell? ⟨b, off + j * κ.n + x, none⟩ = w.cell? ⟨b, off + j * κ.n + x, none⟩ := fun j hj x hx => by
    rw [hcellw', if_neg]
    intro q
    rcases Nat.lt_or_gt_of_ne hj with q1 | q1
    · have := Nat.mul_le_mul_right κ.n (show j + 1 ≤ i.toNat from q1)
      rw [Nat.add_mul] at this; omega
    · have := Nat.mul_le_mul_right κ.n (show i.toNat + 1 ≤ j from q1)
      rw [Nat.add_mul] at this; omega
  have hmine : ∀ j, j < κ.n → w'.cell? ⟨b, off + i.toNat * κ.n + j, none⟩ = ((over E k H1)[j]?).map (·.v) := fun j hj => by
    rw [hcellw', E2 j hj]
    have q0 := over_get (H1.map (·.v)) (E.map (·.v)) k j (by simp [E4]; omega)
    rw [← over_map, List.length_map, List.getElem?_map, List.getElem?_map (l := E)] at q0
    rw [q0]
    by_cases q : k ≤ j ∧ j < k + H1.length
    · rw [if_pos (by omega), if_pos q]; congr 1; omega
    · rw [if_neg (by omega), if_neg q]
  have hlen := b3
  have hFfp : ∀ z, ((over E k H1).map (·.fp)).flatten.count z ≤ (E.map (·.fp)).flatten.count z + (H1.map (·.fp)).flatten.count z := fun z => by
    rw [over_map]; exact over_count _ _ _ (by simp [E4]; omega) z
  have hFm : ∀ z, z ∈ ((over E k H1).map (·.fp)).flatten → z ∈ (E.map (·.fp)).flatten ∨ z ∈ (H1.map (·.fp)).flatten := fun z hz => by
    have q1 := List.count_pos_iff.2 hz
    have q2 := hFfp z
    by_cases q : z ∈ (E.map (·.fp)).flatten
    · exact .inl q
    · have := List.count_eq_zero_of_not_mem q
      exact .inr (List.count_pos_iff.1 (by omega))
  have hcsz : off + cap * κ.n ≤ (over cur.toList (off + i.toNat * κ.n + k) (H1.map (·.v))).toArray.size := by simp [over_len]; exact c2
  have hblt : b < w'.heap.size := by rw [hsz]; exact b4
  have hfp0 : ∀ j (x : j < fps0.length), ∀ z ∈ fps0[j], z ∈ fp0.drop 1 := fun j x z hz => by rw [b2]; exact List.mem_flatten.2 ⟨_, List.getElem_mem x, hz⟩
  have hfpb : ∀ j (x : j < fps0.length), ∀ z ∈ fps0[j], z ≠ b := fun j x z hz => by
    have q := hfp0 j x z hz
    rcases a3 with ⟨_, q2⟩ | ⟨t, _, _, q3⟩
    · rw [q2] at q; exact hdrop z q
    · intro q4; subst q4; exact hni (CLe.imm h.cle (q3 z q))
  obtain ⟨X, fpc, x1, x2, x3, x4⟩ : ∃ (X : Nat → Prop) (fpc : List Nat), (∀ z, X z → z ∈ G[o].fps[c].drop 1 ∨ z ∈ (H1.map (·.fp)).flatten) ∧ (∀ z, X z → fpc.count z = 0) ∧ (∀ z, fpc.count z ≤ G[o].fps[c].count z + (H1.map (·.fp)).flatten.count z) ∧
      ∀ C' : Ctx, C'.w = w' → (∀ t z, (ctx st G w frz imm).S t z → C'.S t z) → (∀ t z, X z → C'.S t z) → RC C' (.sl (mdJoin m (joins (H1.map (·.a)))) e κ (l.set i.toNat y)) (.slice (some ⟨b, off, none⟩) l.length cap) fpc := by
    by_cases hj : mdJoin m (joins (H1.map (·.a))) = .own
    · obtain ⟨hm1, hm2⟩ := mdJoin_own hj
      have E5' : (E.map (·.fp)).flatten = fps0[i.toNat] ∧ ∀ x ∈ E, join1 x.a = none := by
        rcases E5 with ⟨_, q⟩ | ⟨t, q, _⟩
        · exact q
        · rw [hm1] at q; cases q
      have hF0 : fp0 = G[o].fps[c] := by
        rcases a3 with ⟨_, q⟩ | ⟨t, q, _⟩
        · exact q
        · rw [hm1] at q; cases q
      have hjF : joins ((over E k H1).map (·.a)) = none := joins_none.2 (fun x hx => by
        obtain ⟨z, hz, rfl⟩ := List.mem_map.1 hx
        rcases over_mem _ _ _ z hz with q | q
        · exact E5'.2 z q
        · exact joins_none.1 hm2 _ (List.mem_map.2 ⟨z, q, rfl⟩))
      have hR := p4 hjF
      refine ⟨fun _ => False, b :: (fps0.set i.toNat ((over E k H1).map (·.fp)).flatten).flatten, fun z hz => hz.elim, fun z hz => hz.elim, fun z => ?_, fun C' hC' _ _ => ?_⟩
      · have q1 := count_flatten_set fps0 i.toNat hif ((over E k H1).map (·.fp)).flatten z
        have q2 := hFfp z
        rw [E5'.1] at q2
        rw [← hF0, b2, List.count_cons, List.count_cons]
        omega
      · rw [hj]
        show RdS C'.w true (Rd C'.w true κ) κ.n e _ _ _
        rw [hC']
        subst hm1
        exact set_rows (w := w) (o := true) (fun q => q) hnb hcsz c3 hblt b40 (by rw [hsz]; exact Nat.le_refl _) b3 (fun j x y _ => b6 j x y) (fun j x z hz => hoth z (hfpb j x z hz)) hrows
          (Rd.frame (fun q => q) (by rw [hsz]; exact Nat.le_refl _) κ _ _ _ _ hR (fun z hz => hoth z (by
            rcases hFm z hz with q | q
            · rw [E5'.1] at q; exact hfpb _ hif z q
            · exact hH1 z q)) (fun j hj => hmine j hj))
    · obtain ⟨t', ht', hb1, hb2⟩ := mdJoin_mix hm hj
      have hbF : bears t' (joins ((over E k H1).map (·.a))) := bears_joins (fun x hx => by
        obtain ⟨z, hz, rfl⟩ := List.mem_map.1 hx
        rcases over_mem _ _ _ z hz with q | q
        · rcases E5 with ⟨_, _, q2⟩ | ⟨t, qm, _, q2⟩
          · rw [q2 z q]; intro b' hb'; cases hb'
          · intro b' hb' hbt
            have := q2 z q b' hb'
            exact hb2 t qm (by rw [← this]; exact hbt)
        · exact bears_mem hb1 _ (List.mem_map.2 ⟨z, q, rfl⟩))
      obtain ⟨fpa, d1, d2⟩ := p5 t' hbF
      have hEz : ∀ z ∈ (E.map (·.fp)).flatten, z ∈ fps0[i.toNat] ∧ m = .own := fun z hz => by
        rcases E5 with ⟨qm, q, _⟩ | ⟨t, _, q, _⟩
        · rw [q] at hz; exact ⟨hz, qm⟩
        · rw [q] at hz; cases hz
      have hda : ∀ z ∈ fpa, z ≠ b := fun z hz => by
        rcases d2 z hz with q | q
        · rcases hFm z q with q | q
          · exact hfpb _ hif z (hEz z q).1
          · exact hH1 z q
        · intro q4; subst q4; exact hni (CLe.imm h.cle q)
      have hX0 : m = .own → ∀ z ∈ fp0.drop 1, z ∈ G[o].fps[c].drop 1 := fun hm0 z hz => by
        rcases a3 with ⟨_, q⟩ | ⟨t, q, _⟩
        · rw [← q]; exact hz
        · rw [hm0] at q; cases q
      refine ⟨fun z => z ∈ G[o].fps[c].drop 1 ∨ z ∈ (H1.map (·.fp)).flatten, [b], fun z hz => hz, fun z hz => ?_, fun z => ?_, fun C' hC' hS hX => ?_⟩
      · have : z ≠ b := hz.elim (hdrop z) (hH1 z)
        simp [Ne.symm this]
      · have := List.count_pos_iff.2 hbc
        by_cases hz : z = b
        · subst hz; simp; omega
        · simp [Ne.symm hz]
      · rw [ht']
        show ∃ fpx, RdS C'.w true (Rd C'.w false κ) κ.n e _ _ fpx ∧ [b] = fpx.take 1 ∧ ∀ x ∈ fpx.drop 1, C'.S t' x
        rw [hC']
        refine ⟨b :: (fps0.set i.toNat fpa).flatten, ?_, rfl, fun z hz => ?_⟩
        · exact set_rows (w := w) (o := m.deep) (fun q => by cases q) hnb hcsz c3 hblt b40 (by rw [hsz]; exact Nat.le_refl _) b3 (fun j x y _ => b6 j x y) (fun j x z hz => hoth z (hfpb j x z hz)) hrows
            (Rd.frame (fun q => q) (by rw [hsz]; exact Nat.le_refl _) κ _ _ _ _ d1 (fun z hz => hoth z (hda z hz)) (fun j hj => hmine j hj))
        · have hz : z ∈ (fps0.set i.toNat fpa).flatten := hz
          obtain ⟨f, hf, hzf⟩ := List.mem_flatten.1 hz
          rcases List.mem_or_eq_of_mem_set hf with q | q
          · obtain ⟨j, hj, rfl⟩ := List.getElem_of_mem q
            have q1 := hfp0 j hj z hzf
            rcases a3 with ⟨qm, q2⟩ | ⟨t, qm, _, q3⟩
            · exact hX t' z (.inl (hX0 qm z q1))
            · exact hS t' z (S_bears h.fi (hb2 t qm) (q3 z q1))
          · subst q
            rcases d2 z hzf with q | q
            · rcases hFm z q with q | q
              · exact hX t' z (.inl (hX0 (hEz z q).2 z (hfp0 _ hif z (hEz z q).1)))
              · exact hX t' z (.inr q)
            · exact hS t' z q
  have hXo : ∀ z, X z → 1 ≤ ownc G (H1 ++ H) z := fun z hz => by
    rcases x1 z hz with q | q
    · exact ownc_mem G (H1 ++ H) hG (Gh.mem_fps hcf (List.mem_of_mem_drop q))
    · have := ownc_app G H1 H z
      have := List.count_pos_iff.2 q
      omega
  have hXi : ∀ z, X z → ¬ imm z := fun z hz q => by have := h.apart z q; have := hXo z hz; omega
  have hcnt : ∀ z, ownc (G.set o ⟨G[o].addr, G[o].hd, G[o].fps.set c fpc⟩) H z + G[o].fps[c].count z = ownc G H z + fpc.count z := fun z => by
    have q1 := ownc_set G H o ⟨G[o].addr, G[o].hd, G[o].fps.set c fpc⟩ hG z
    have q2 := own_set G[o] c hcf fpc z
    omega
  have happ := ownc_app G H1 H
  have hfc : ∀ z, G[o].fps[c].count z ≤ ownc G H z := fun z => by
    have q1 := ownc_set G H o ⟨G[o].addr, G[o].hd, G[o].fps.set c []⟩ hG z
    have q2 := own_set G[o] c hcf [] z
    simp only [List.count_nil] at q2
    omega
  refine ⟨y, cur, e, fun z => frz z ∨ X z, fun z => imm z ∨ X z, G.set o ⟨G[o].addr, G[o].hd, G[o].fps.set c fpc⟩, hK, c1, hfit, fun x hx => ?_, ?_, ?_⟩
  · obtain ⟨j, hj, rfl⟩ := List.getElem_of_mem hx
    refine (h.held _ (List.mem_append_left _ hx)).one (s0 _ ?_)
    have q := over_get H1 E k (k + j) (by omega)
    rw [if_pos (by omega), show k + j - k = j by omega, List.getElem?_eq_getElem hj] at q
    exact List.mem_map.2 ⟨H1[j], List.mem_of_getElem? q, rfl⟩
  · rw [hw']
    have hgetc : ∀ c', (st.objs[o].cells.set c (.sl (mdJoin m (joins (H1.map (·.a)))) e κ (l.set i.toNat y))).getD c' .dead = if c' = c then .sl (mdJoin m (joins (H1.map (·.a)))) e κ (l.set i.toNat y) else st.objs[o].cells.getD c' .dead := fun c' => cells_set_getD _ _ _ _ hc
    refine (h.upd o _ _ w' H _ _ ho (by rw [← hw']; exact Below.setRow' h.base hBW _) (by rw [hsz]; exact Nat.le_refl _) (fun z hz => hz.imp (h.fi z) id) (fun _ q => .inl q) (fun _ q => .inl q)
      (fun z hz => by
        rw [hsz]
        rcases hz with q | q
        · exact h.ilt z q
        · exact h.olt z (hXo z q)) (fun z hz => hoth z (fun q => hni (by rw [← q]; exact hz)))
      (fun o1 h1 hne z hz => hoth z (fun q => (by subst q; exact ownc_two G (H1 ++ H) h.one hG h1 hne hbo hz))) (fun _ => ?_) (fun hC => ?_) (fun hC x hx => (h.held x (List.mem_append_right _ hx)).le hC h.len (fun z hz => hoth z (hheld x (List.mem_append_right _ hx) z hz)))
      (fun z => ?_) (fun z hz => ?_) (fun z hz => ?_)).2
    · -- what stays
      refine { rv := Nat.le_refl _, nv := Nat.le_add_right _ _, addr := fun _ q => q, root := fun _ c' m1 e1 κ1 l1 hv hcc hhv => ?_, back := fun _ c' m1 e1 κ1 l1 hcc => ?_, hdr := fun _ c' m1 e1 κ1 l1 hcc => ?_, np := fun _ c' hcc => ?_ }
      · simp only at hgetc ⊢
        by_cases e1' : c' = c
        · have e1' := e1'.symm; subst e1'
          have : st.objs[o].cells.getD c .dead = .sl m e κ l := by simp [List.getD_eq_getElem?_getD, List.getElem?_eq_getElem hc, hce]
          rw [this] at hcc
          injection hcc with t1 t2 t3 t4
          subst t1 t2 t3
          have t4 := eq_of_heq t4
          subst t4
          rw [hh] at hhv
          injection hhv with hhv
          subst hhv
          refine ⟨mdJoin m (joins (H1.map (·.a))), l.set i.toNat y, by rw [hgetc, if_pos rfl], fun q => (mdJoin_own q).1, by simp, hh, fun hn kk s hs i' i0' i1' => ?_⟩
          have hN0 : anyA (H1.map (·.a)) = 0 := by omega
          have hnosl := anyA_zero hN0
          obtain ⟨hil', hrd'⟩ := rdOf_lt κ.dflt l i' i0' i1'
          obtain ⟨hil2, hrd2⟩ := rdOf_lt κ.dflt (l.set i.toNat y) i' i0' (by simpa using i1')
          have hkk : kk < κ.n := by
            obtain ⟨_, _, _, _, _, q⟩ := Rd.sub κ kk s _ _ _ hs (b6 i'.toNat hil' (by omega))
            exact q
          have hout : ¬ (k ≤ kk ∧ kk < k + H1.length) := fun q => by
            have q1 := over_get (H1.map (·.a)) (E.map (·.a)) k kk (by simp [E4]; omega)
            rw [← over_map, List.length_map, if_pos q, List.getElem?_eq_getElem (l := H1.map (·.a)) (i := kk - k) (by simp; omega)] at q1
            have q2 := hnosl _ (List.getElem_mem (show kk - k < (H1.map (·.a)).length by simp; omega))
            rcases s4 kk s hs with ⟨mm, q3⟩ | ⟨q3, _⟩
            · rw [q1] at q3; injection q3 with q3; rw [q3] at q2; cases q2
            · rw [q1] at q3; injection q3 with q3; rw [q3] at q2; cases q2
          have hsame : s.get y = s.get l[i.toNat] := by
            have q1 := over_get (H1.map (·.a)) (E.map (·.a)) k kk (by simp [E4]; omega)
            rw [← over_map, List.length_map, if_neg hout] at q1
            have q2 : ∃ mm, (E.map (·.a))[kk]? = some (.sl mm s.e s.κ' (s.get l[i.toNat])) := by
              have q3 := explode_sub nestD κ 0 l[i.toNat] kk s hs
              exact eqv_at E1 kk q3
            obtain ⟨mm, q2⟩ := q2
            rcases s4 kk s hs with ⟨mm', q3⟩ | ⟨q3, _⟩
            · rw [q1, q2] at q3
              injection q3 with q3
              injection q3 with _ _ _ q3
              exact q3.symm
            · rw [q1, q2] at q3; injection q3 with q3; cases q3
          refine ⟨?_, fun b1 off1 len1 cap1 hbb => ?_⟩
          · rw [hrd', hrd2, List.getElem_set]
            split
            · rename_i hq
              simp only [← hq]
              rw [hsame]
            · rfl
          · injection hbb with u1 u2 u3
            injection u1 with u1
            injection u1 with u1 u1'
            subst u1 u1'
            refine ⟨?_, fun hq g1 off2 len2 cap2 hp2 hg => ?_⟩
            · by_cases hq : i'.toNat = i.toNat
              · rw [hcellw', if_neg (by rw [hq]; omega)]
              · exact hrows _ hq kk hkk
            · have hm0 := (mdJoin_own hq).1
              obtain ⟨v1, fp1, t1, t2, t3, _⟩ := Rd.sub κ kk s _ _ _ hs (b6 i'.toNat hil' (by omega))
              rw [hg] at t1
              injection t1 with t1
              subst t1
              rcases t2 with ⟨_, _, aa, cc2, u1, u2⟩ | ⟨g3, off3, cap3, fps3, u1, u2, _⟩
              · have := u2 (by rw [hm0]; rfl)
                injection u1 with _ _ u1
                omega
              · injection u1 with u1 _ _
                injection u1 with u1
                injection u1 with u1 _
                subst u1
                exact hoth g1 (hfpb _ _ g1 (t3 g1 (by rw [u2]; exact List.mem_cons_self)))
        · refine ⟨m1, l1, by rw [hgetc, if_neg e1']; exact hcc, fun q => q, rfl, hhv, fun _ kk s hs i' i0' i1' => ⟨rfl, fun b1 off1 len1 cap1 hbb => ?_⟩⟩
          obtain ⟨z1, z2⟩ := getD_some hcc (by simp)
          have rc' := r3 c' z1 (by omega) (by omega)
          rw [z2] at rc'
          have hv' : G[o].hd[c' ]'(by omega) = hv := by rw [List.getElem?_eq_getElem (by omega)] at hhv; injection hhv
          rw [hv'] at rc'
          exact root_keep rc' h.fi (fun z hz => hoth z (hother c' (by omega) e1' z hz)) (fun z hz => hoth z (fun q => hni (by rw [← q]; exact hz))) hs i0' i1' hbb
      · simp only at hcc
        rw [hgetc] at hcc
        split at hcc
        · rename_i q
          have q := q.symm; subst q
          exact ⟨m, e, κ, l, by simp [List.getD_eq_getElem?_getD, List.getElem?_eq_getElem hc, hce]⟩
        · exact ⟨m1, e1, κ1, l1, hcc⟩
      · obtain ⟨z1, z2⟩ := getD_some hcc (by simp)
        exact ⟨_, List.getElem?_eq_getElem (show c' < G[o].hd.length by omega)⟩
      · refine ⟨?_, rfl⟩
        simp only
        rw [hgetc]
        by_cases e1' : c' = c
        · have e1' := e1'.symm; subst e1'
          have : st.objs[o].cells.getD c .dead = .sl m e κ l := by simp [List.getD_eq_getElem?_getD, List.getElem?_eq_getElem hc, hce]
          rw [this] at hcc; cases hcc
        · rw [if_neg e1']
    · refine ⟨by simp [r1], by simp [r2], fun j x y z => ?_, fun hre => ?_, r5⟩
      · simp only at x y z ⊢
        have x' : j < st.objs[o].cells.length := by simpa using x
        by_cases e1' : c = j
        · subst e1'
          simp only [List.getElem_set_self]
          rw [hhd]
          exact x4 _ rfl (fun t z q => by cases t; exact .inl q; exact .inl q) (fun t z q => by cases t; exact .inr q; exact .inr q)
        · simp only [List.getElem_set_ne e1']
          exact (r3 j x' (by omega) (by omega)).le hC h.len (fun z hz => hoth z (hother j (by omega) (Ne.symm e1') z hz))
      · obtain ⟨b', e', q1, q2⟩ := r4 hre
        exact ⟨b', e', q1, (hoth b' (fun q => haddr (by rw [← q]; exact q1))).trans q2⟩
    · have q1 := hcnt z
      have q2 := x3 z
      have q3 := happ z
      have q4 := h.one z
      have q5 := hfc z
      omega
    · have q1 := hcnt z
      have q2 := x3 z
      have q3 := happ z
      have q4 := h.one z
      have q5 := hfc z
      rcases hz with q | q
      · have := h.apart z q; omega
      · have q6 := x2 z q
        rcases x1 z q with q | q
        · have := List.count_pos_iff.2 (List.mem_of_mem_drop q); omega
        · have := List.count_pos_iff.2 q; omega
    · have q1 := hcnt z
      have q2 := x3 z
      have q3 := happ z
      have q5 := hfc z
      rw [hsz]
      exact h.olt z (by omega)
  · rw [hw']
    exact ⟨by rw [hsz]; exact Nat.le_refl _, fun z hz => hoth z (fun q => hni (by rw [← q]; exact hz)), fun z hz => .inl hz, fun z hz => .inl hz, fun z hz => hz.imp id (hXi z)⟩
end
end Go.Eva
end
section
/- Stores, assignments and picks. -/
namespace Go.Eva
set_option linter.unusedVariables false
set_option linter.unusedSimpArgs false
variable {P : Program} {W : Root} {T : Tab} {Γ : Gam}

/-- An operation that answers nothing. -/
theorem unit_ok {o : Oper} {p : Prg Unit} (h : ∀ (st : St) (w : World) (a : Act) (G : List Gh) (frz imm : Nat → Prop) (r : Unit × St), Rep W st w a.tmps G [] frz imm → p.run st = some r →
    ∃ st' w' G' frz' imm', r = ((), st') ∧ (execOp a.eval o).run P w = .ok .skip w' ∧ Rep W st' w' (a.put o.dst undef).tmps G' [] frz' imm' ∧ Ext w frz imm w' frz' imm') : StepOk P W o p := by
  intro st w a G frz imm st' hrep hrun next Q hn
  obtain ⟨st1, w', G', f', i', e, h2, h3, h4⟩ := h st w a G frz imm _ hrep hrun
  injection e with _ e
  subst e
  refine wp_skip' h2 ?_
  have := hn w' _ G' f' i' h3 h4
  rwa [← put_defers a o.dst undef] at this

section
variable {st : St} {w : World} {tm : Array Value} {G : List Gh} {H : List Hd} {frz imm : Nat → Prop}
theorem PtR.real (h : Rep W st w tm G H frz imm) {o c : Nat} {v : Value} (hp : PtR G o c v) : ∃ (hG : o < G.length) (ho : o < st.objs.length) (b : Nat), G[o].addr = some b ∧ st.objs[o].real = true ∧ v = .pointer (some ⟨b, c, none⟩) := by
  obtain ⟨g, b, g1, g2, g3⟩ := hp
  have hG : o < G.length := (List.getElem?_eq_some_iff.1 g1).1
  have ho : o < st.objs.length := by rw [← h.len]; exact hG
  have eg : g = G[o] := ((List.getElem?_eq_some_iff.1 g1).2).symm
  subst eg
  refine ⟨hG, ho, b, g2, ?_, g3⟩
  cases hr : st.objs[o].real with
  | true => rfl
  | false => have := (h.objs o ho hG).2.2.2.2 hr; rw [this] at g2; cases g2

theorem storeO_run {t : TypeId} {ti : TI} (hti : TyOk P t ti) {o c : Nat} {av : AV} {p v : Value} {r : Unit × St} (h : Rep W st w tm G H frz imm) (hr : (storeO o c ti.cells (valCells av)).run st = some r) (hp : PtR G o c p) (hv : R2 (ctx st G w frz imm) av v) :
    ∃ st' w' G', r = ((), st') ∧ (Instr.storeAt t p v).run P w = .ok () w' ∧ Rep W st' w' tm G' H frz imm ∧ Ext w frz imm w' frz imm := by
  unfold storeO at hr
  obtain ⟨H1, st1, G1, k1, k2, k3, k30, k4, k5, k6⟩ := toCells_val h hr hv
  have hp1 : PtR G1 o c p := PtR.le (C' := ctx st1 G1 w frz imm) k5 hp h.len
  obtain ⟨hG, ho, b, q1, q2, q3⟩ := hp1.real k6
  have hgd : st1.objs.getD o Ob.none = st1.objs[o] := by simp [List.getD, List.getElem?_eq_getElem ho]
  rw [run_obj, hgd] at k1
  split at k1
  · rename_i hle
    rw [List.length_map] at k1 hle
    obtain ⟨cur, e, m1, m2, m3, m4⟩ := lay_run k6 hG ho q2 q1 hle.2 _ rfl
    rw [run_setObj] at k1
    injection k1 with k1
    have hs : v.cells.size = ti.size := by rw [← Array.length_toList, ← k2, List.length_map, k3, hti.len]
    have hst := storeVar_run (P := P) hti (v := v) m1 hs (by rw [m2, ← hti.len, ← k3]; exact hle.2) (fun u hu => by
      rw [← k2] at hu
      obtain ⟨x, hx, rfl⟩ := List.mem_map.1 hu
      exact (k6.held x (List.mem_append_left _ hx)).one (k30 x hx))
    rw [q3]
    rw [← k2] at hst
    exact ⟨_, _, _, k1.symm, hst, m4, ⟨by simp, fun z hz => setRow_other w b z _ (fun q => m3 (by rw [← q]; exact hz)), fun _ q => q, fun _ q => q, fun _ q => .inl q⟩⟩
  · cases k1

theorem embeds_val {β : Type} {av : AV} {v : Value} {K : List AV → Prg β} {r : β × St} (h : Rep W st w tm G H frz imm) (hr : (embeds (valCells av) K).run st = some r) (hv : R2 (ctx st G w frz imm) av v) :
    ∃ (H1 : List Hd) (st' : St) (G' : List Gh) (frz' imm' : Nat → Prop), (K (H1.map (·.a))).run st' = some r ∧ H1.map (·.v) = v.cells.toList ∧ st'.slots = st.slots ∧ CLe (ctx st G w frz imm) (ctx st' G' w frz' imm') ∧ Rep W st' w tm G' (H1 ++ H) frz' imm' ∧ Ext w frz imm w frz' imm' := by
  rcases val_cells hv with ⟨cs, us, e1, e2, e3, e4⟩ | ⟨e1, e2, e3⟩ | e1 | ⟨x, e1⟩
  · subst e1 e2
    exact embeds_run h hr e3 (fun i x y => (e4 i x y).R1)
  · rw [e1] at hr
    obtain ⟨H1, st', G', f', i', q1, q2, q⟩ := embeds_run (us := [v]) h hr rfl (fun i x y => by
      have : i = 0 := by simpa using x
      subst this; exact e3)
    exact ⟨H1, st', G', f', i', q1, by rw [q2, e2], q⟩
  · subst e1; cases hr
  · subst e1; cases hr

theorem storeE_run {t : TypeId} {ti : TI} (hti : TyOk P t ti) {o c : Nat} {pth : Option (Int × Nat)} {rv nv : Nat} {i : Int} {k : Nat} {av : AV} {p v : Value} {r : Unit × St} (h : Rep W st w tm G H frz imm) (hsz : ti.size = (valCells av).length)
    (hr : (storeE o c pth rv nv i k (valCells av)).run st = some r) (hp : EpR (ctx st G w frz imm) o c pth rv nv i k p) (hv : R2 (ctx st G w frz imm) av v) :
    ∃ st' w' G' frz' imm', r = ((), st') ∧ (Instr.storeAt t p v).run P w = .ok () w' ∧ Rep W st' w' tm G' H frz' imm' ∧ Ext w frz imm w' frz' imm' := by
  unfold storeE at hr
  obtain ⟨H1, st1, G1, f1, i1, k1, k2, k4, k5, k6, k7⟩ := embeds_val h hr hv
  have hp1 : EpR (ctx st1 G1 w f1 i1) o c pth rv nv i k p := hp.le k5
  rw [run_obj] at k1
  split at k1
  · rename_i hrv
    split at k1
    · rename_i m e κ l hcell
      split at k1
      · rename_i hm
        cases pth with
        | some q => cases k1
        | none =>
          obtain ⟨ho, hob⟩ := objs_getD hcell (by simp)
          rw [hob] at hcell k1 hrv
          obtain ⟨_, ob, g, s1, s2, s3, s4, s5⟩ := hp1
          have e1 : ob = st1.objs[o] := by simp only at s1; rw [List.getElem?_eq_getElem ho] at s1; injection s1 with s1; exact s1.symm
          subst e1
          have hG : o < G1.length := by rw [k6.len]; exact ho
          have e2 : g = G1[o] := by simp only at s2; rw [List.getElem?_eq_getElem hG] at s2; injection s2 with s2; exact s2.symm
          subst e2
          obtain ⟨m', e', κ', l', b, off, len, cap, t1, t2, t3, t4, t5⟩ := s5 hrv
          rw [hcell] at t1
          injection t1 with u1 u2 u3 u4
          subst u1 u2 u3
          have u4 := eq_of_heq u4
          subst u4
          obtain ⟨hcl, hce⟩ := getD_some hcell (by simp)
          obtain ⟨y, cur, e0, f2, i2, G2, z1, z2, z3, z4, z5, z6⟩ := putRow_run k6 ho hG hcl hce hm t3 t4 t2 k1
          injection z1 with z1
          have hs : v.cells.size = ti.size := by
            rw [← Array.length_toList]
            rcases val_cells hv with ⟨cs, us, q1, q2, q3, q4⟩ | ⟨q1, q2, q3⟩ | q1 | ⟨x, q1⟩
            · subst q1 q2
              simp only [valCells] at hsz
              rw [hsz, ← q3]; rfl
            · rw [hsz, q1, q2]; rfl
            · subst q1; cases hr
            · subst q1; cases hr
          have hH1 : H1.length = ti.size := by
            have q0 : H1.length = v.cells.size := by simpa using congrArg List.length k2
            rw [q0, hs]
          have hst := storeVar_run (P := P) hti (v := v) z2 hs (off := off + i.toNat * κ.n + k) (by rw [← hH1]; exact z3) (fun u hu => by
            rw [← k2] at hu
            obtain ⟨x, hx, rfl⟩ := List.mem_map.1 hu
            exact z4 x hx)
          rw [t5]
          rw [← k2] at hst
          exact ⟨_, _, G2, f2, i2, z1.symm, hst, z5, k7.trans z6⟩
      · cases k1
    · cases k1
  · cases k1
end
end Go.Eva
end
section
/- Assignments and picks. -/
namespace Go.Eva
set_option linter.unusedVariables false
set_option linter.unusedSimpArgs false
variable {P : Program} {W : Root} {T : Tab} {Γ : Gam}

section
variable {st : St} {w : World} {G : List Gh} {H : List Hd} {frz imm : Nat → Prop} {a : Act}
theorem newV_act {d : Option Tmp} {m : Md} {e : TypeId} {κ : Kd} {l : List κ.T} {v : Value} {fp : List Nat} {r : Unit × St} (h : Rep W st w a.tmps G (⟨.sl m e κ l, v, fp⟩ :: H) frz imm)
    (hr : (newV d m e κ l).run st = some r) : ∃ st' G', r = ((), st') ∧ Rep W st' w (a.put d v).tmps G' H frz imm := by
  obtain ⟨d', st', G', h1, h2, h3⟩ := newV_run h hr
  subst h1
  exact ⟨st', G', h2, h3⟩
theorem nil_hold (e : TypeId) (κ : Kd) (h : Rep W st w a.tmps G H frz imm) : Rep W st w a.tmps G (⟨.sl .own e κ [], .slice none 0 0, []⟩ :: H) frz imm :=
  h.free (H1 := [⟨.sl .own e κ [], .slice none 0 0, []⟩]) (fun x hx => by rw [List.mem_singleton.1 hx]; exact ⟨rfl, .inl ⟨rfl, rfl, none, 0, rfl, fun _ => rfl⟩⟩)
theorem asg_run {d : Option Tmp} {ty : TypeId} {av : AV} {v : Value} {r : Unit × St} (h : Rep W st w a.tmps G H frz imm) (hr : (asgP T d ty av).run st = some r) (hv : R2 (ctx st G w frz imm) av v) :
    ∃ st' G', r = ((), st') ∧ Rep W st' w (a.put d v).tmps G' H frz imm := by
  have dflt : ∀ {r : Unit × St}, (put d av).run st = some r → ∃ st' G', r = ((), st') ∧ Rep W st' w (a.put d v).tmps G' H frz imm := fun hr => by
    obtain ⟨st1, e, h4⟩ := put_run h hr hv
    exact ⟨st1, G, e, h4⟩
  unfold asgP at hr
  split at hr
  · split at hr
    · have hv : v = .slice none 0 0 := hv
      subst hv
      exact newV_act (nil_hold _ _ h) hr
    · cases hr
  · rename_i d o c rv nv rng
    have tk : ∀ {rng : Option (Int × Int)} {v : Value} {r : Unit × St}, (takeP o c rv nv rng fun m e κ l => newV (some d) m e κ l).run st = some r → SrR (ctx st G w frz imm) o c none rv nv rng v → ∃ st' G', r = ((), st') ∧ Rep W st' w (a.put (some d) v).tmps G' H frz imm := fun hr hv => by
      obtain ⟨m, e, κ, l, st1, G1, fp, q1, q2, q3, q4, q5⟩ := take_run h hr hv
      exact newV_act q5 q2
    split at hr
    · split at hr
      · exact dflt hr
      · exact tk hr hv
    · rw [run_obj] at hr
      split at hr
      · exact dflt hr
      · exact tk hr hv
  · exact dflt hr
end

theorem assign_ok {o : Oper} {x : Operand} (h : o.op = .assign x) : StepOk P W o (prgOf T Γ o) := mem_ok fun st w a G frz imm r hrep hr => by
  simp only [prgOf, h] at hr
  obtain ⟨av, h1, h2⟩ := opv_run hrep hr
  obtain ⟨st', G', q1, q2⟩ := asg_run hrep h1 h2
  exact ⟨st', _, w, G', frz, imm, q1, by simp [execOp, h], q2, Ext.refl _ _ _⟩

theorem pick_ok {o : Oper} {c x y : Operand} (h : o.op = .pick c x y) : StepOk P W o (prgOf T Γ o) := pure_ok fun st w a G frz imm r hrep hr => by
  simp only [prgOf, h] at hr
  obtain ⟨av, h1, h2⟩ := opv_run hrep hr
  split at h1
  · rename_i t
    have h2 : a.eval c = .bool t := h2
    unfold pickP at h1
    rw [run_br] at h1
    cases t with
    | true =>
      rw [if_pos rfl] at h1
      obtain ⟨bv, k1, k2⟩ := opv_run hrep h1
      exact ⟨bv, _, k1, k2, by simp [execOp, h, h2, asBool]⟩
    | false =>
      rw [if_neg (by simp)] at h1
      obtain ⟨bv, k1, k2⟩ := opv_run hrep h1
      exact ⟨bv, _, k1, k2, by simp [execOp, h, h2, asBool]⟩
  · cases h1
end Go.Eva
end
section
/- A slice within a row is given another value. -/
namespace Go.Eva
set_option linter.unusedVariables false
set_option linter.unusedSimpArgs false
variable {P : Program} {W : Root} {T : Tab} {Γ : Gam}

theorem rd_setsub {w w' : World} (hs : w.heap.size ≤ w'.heap.size) : ∀ (κ : Kd) (k : Nat) (s : Sub κ) (g g' : Nat → Option Value) (x : κ.T) (fp : List Nat), κ.sub k = some s → Rd w true κ g x fp →
    ∃ A fpk B vk, fp = A ++ fpk ++ B ∧ g k = some vk ∧ RdS w true (Rd w true s.κ') s.κ'.n s.e vk (s.get x) fpk ∧
      ∀ (v' : Value) (l' : List s.κ'.T) (fp' : List Nat), g' k = some v' → (∀ j, j ≠ k → j < κ.n → g' j = g j) → RdS w' true (Rd w' true s.κ') s.κ'.n s.e v' l' fp' → (∀ z ∈ A ++ B, w'.heap[z]? = w.heap[z]?) → Rd w' true κ g' (s.set x l') (A ++ fp' ++ B)
  | .int _, k, s, g, g', x, fp, h, _ => by cases k <;> simp [Kd.sub] at h
  | .bool, k, s, g, g', x, fp, h, _ => by cases k <;> simp [Kd.sub] at h
  | .str, k, s, g, g', x, fp, h, _ => by cases k <;> simp [Kd.sub] at h
  | .sl e κ, k, s, g, g', x, fp, h, ⟨v, h1, h2⟩ => by
    cases k with
    | zero =>
      simp only [Kd.sub, Option.some.injEq] at h
      subst h
      exact ⟨[], fp, [], v, by simp, h1, h2, fun v' l' fp' a1 a2 a3 a4 => ⟨v', a1, by simpa using a3⟩⟩
    | succ k => simp [Kd.sub] at h
  | .pair a c, k, s, g, g', x, fp, h, ⟨f1, f2, h0, h1, h2⟩ => by
    simp only [Kd.sub] at h
    split at h
    · rename_i hk
      cases hs1 : a.sub k with
      | none => rw [hs1] at h; cases h
      | some s1 =>
        rw [hs1] at h
        injection h with h
        subst h
        obtain ⟨A, fpk, B, vk, q1, q2, q3, q4⟩ := rd_setsub hs a k s1 g g' x.1 f1 hs1 h1
        refine ⟨A, fpk, B ++ f2, vk, by rw [h0, q1]; simp, q2, q3, fun v' l' fp' a1 a2 a3 a4 => ⟨A ++ fp' ++ B, f2, by simp, ?_, ?_⟩⟩
        · exact q4 v' l' fp' a1 (fun j j1 j2 => a2 j j1 (by simp only [Kd.n]; omega)) a3 (fun z hz => a4 z (by simp only [List.mem_append] at hz ⊢; rcases hz with hz | hz; exact .inl hz; exact .inr (.inl hz)))
        · exact Rd.frame (fun q => q) hs c _ _ _ _ h2 (fun z hz => a4 z (by simp only [List.mem_append]; exact .inr (.inr hz))) (fun j hj => a2 _ (by omega) (by simp only [Kd.n]; omega))
    · rename_i hk
      cases hs1 : c.sub (k - a.n) with
      | none => rw [hs1] at h; cases h
      | some s1 =>
        rw [hs1] at h
        injection h with h
        subst h
        obtain ⟨A, fpk, B, vk, q1, q2, q3, q4⟩ := rd_setsub hs c (k - a.n) s1 (fun i => g (a.n + i)) (fun i => g' (a.n + i)) x.2 f2 hs1 h2
        refine ⟨f1 ++ A, fpk, B, vk, by rw [h0, q1]; simp, by rw [show a.n + (k - a.n) = k by omega] at q2; exact q2, q3, fun v' l' fp' a1 a2 a3 a4 => ⟨f1, A ++ fp' ++ B, by simp, ?_, ?_⟩⟩
        · exact Rd.frame (fun q => q) hs a _ _ _ _ h1 (fun z hz => a4 z (by simp only [List.mem_append]; exact .inl (.inl hz))) (fun j hj => a2 _ (by omega) (by simp only [Kd.n]; omega))
        · exact q4 v' l' fp' (by rw [show a.n + (k - a.n) = k by omega]; exact a1) (fun j j1 j2 => a2 _ (by omega) (by simp only [Kd.n]; omega)) a3 (fun z hz => a4 z (by simp only [List.mem_append] at hz ⊢; rcases hz with hz | hz; exact .inl (.inr hz); exact .inr hz))

section
variable {st : St} {w : World} {tm : Array Value} {G : List Gh} {H : List Hd} {frz imm : Nat → Prop}
set_option maxHeartbeats 4000000 in
theorem setSub_run {H1 : List Hd} (h : Rep W st w tm G (H1 ++ H) frz imm) {o c : Nat} (ho : o < st.objs.length) (hG : o < G.length) {e : TypeId} {κ : Kd} {l : List κ.T} (hc : c < st.objs[o].cells.length) (hce : st.objs[o].cells[c] = .sl .own e κ l)
    {i : Int} (i0 : 0 ≤ i) (i1 : i < (l.length : Int)) {k b off len cap : Nat} (hh : G[o].hd[c]? = some (.slice (some ⟨b, off, none⟩) len cap)) {s : Sub κ} (hs : κ.sub k = some s) {v : Value} {l' : List s.κ'.T}
    (hnew : ∀ fpk vk, w.cell? ⟨b, off + i.toNat * κ.n + k, none⟩ = some vk → RdS w true (Rd w true s.κ') s.κ'.n s.e vk (s.get (rdOf κ.dflt l i)) fpk → ∃ fpk', RdS w true (Rd w true s.κ') s.κ'.n s.e v l' fpk' ∧ ∀ z, fpk'.count z ≤ fpk.count z + (H1.map (·.fp)).flatten.count z) :
    ∃ cur e0 G', w.heap[b]? = some (.cells cur e0 (0, 0)) ∧ off + i.toNat * κ.n + k + 1 ≤ cur.size ∧
      Rep W ⟨st.slots, st.objs.set o ⟨st.objs[o].real, st.objs[o].cells.set c (.sl .own e κ (l.set i.toNat (s.set (rdOf κ.dflt l i) l'))), st.objs[o].rv, st.objs[o].nv + 1⟩⟩
        (w.setRow b (over cur.toList (off + i.toNat * κ.n + k) [v]).toArray) tm G' H frz imm ∧
      Ext w frz imm (w.setRow b (over cur.toList (off + i.toNat * κ.n + k) [v]).toArray) frz imm := by
  obtain ⟨r1, r2, r3, r4, r5⟩ := h.objs o ho hG
  have hch : c < G[o].hd.length := by rw [r1]; exact hc
  have hcf : c < G[o].fps.length := by rw [r2]; exact hc
  have hhd : G[o].hd[c] = .slice (some ⟨b, off, none⟩) len cap := by rw [List.getElem?_eq_getElem hch] at hh; injection hh
  have rc := r3 c hc hch hcf
  rw [hce, hhd] at rc
  have a1 : RdS w true (Rd w true κ) κ.n e (.slice (some ⟨b, off, none⟩) len cap) l G[o].fps[c] := rc
  rcases a1 with ⟨a1, _⟩ | ⟨g', off', cap', fps0, b1, b2, b3, b4, b40, b5, b6⟩
  · subst a1; exact absurd i1 (by simp only [List.length_nil]; omega)
  injection b1 with b1 b1' b1''
  injection b1 with b1
  injection b1 with b1 b10
  subst b1 b10 b1' b1''
  obtain ⟨cur, c1, c2, c3⟩ := b5 rfl
  obtain ⟨hil, hrd⟩ := rdOf_lt κ.dflt l i i0 i1
  have hif : i.toNat < fps0.length := by omega
  have hrow := b6 i.toNat hil hif
  have hkn : k < κ.n := by
    obtain ⟨_, _, _, _, _, q⟩ := Rd.sub κ k s _ _ _ hs hrow
    exact q
  have hbc : b ∈ G[o].fps[c] := by rw [b2]; exact List.mem_cons_self
  have hbo : b ∈ G[o].own := Gh.mem_fps hcf hbc
  have hown := h.one b
  have hge := ownc_mem G (H1 ++ H) hG hbo
  have hni : ¬ imm b := fun q => by have := h.apart b q; omega
  have hownG : G[o].own.count b ≤ 1 := by
    have c2 := ownc_set G (H1 ++ H) o ⟨none, [], []⟩ hG b
    have c3 : (Gh.own ⟨none, [], []⟩).count b = 0 := by simp [Gh.own]
    omega
  have hset := own_set G[o] c hcf [] b
  have hcp := List.count_pos_iff.2 hbc
  simp only [List.count_nil] at hset
  have hno : b ∉ Gh.own ⟨G[o].addr, G[o].hd, G[o].fps.set c []⟩ := fun q => by have := List.count_pos_iff.2 q; omega
  have hother : ∀ c' (x : c' < G[o].fps.length), c' ≠ c → ∀ z ∈ G[o].fps[c'], z ≠ b := fun c' x hne z hz e1 => by
    subst e1
    refine hno (List.mem_append_right _ (List.mem_flatten.2 ⟨G[o].fps[c'], ?_, hz⟩))
    refine List.mem_iff_getElem.2 ⟨c', by simpa using x, ?_⟩
    simp [List.getElem_set_ne (Ne.symm hne)]
  have haddr : G[o].addr ≠ some b := fun q => hno (List.mem_append_left _ (by simp [q]))
  have hfpb : ∀ j (x : j < fps0.length), ∀ z ∈ fps0[j], z ≠ b := fun j x z hz e1 => by
    subst e1
    have q2 : 1 ≤ fps0.flatten.count z := List.count_pos_iff.2 (List.mem_flatten.2 ⟨_, List.getElem_mem x, hz⟩)
    rw [b2, List.count_cons] at hset
    simp at hset
    omega
  have hheld : ∀ x ∈ H1 ++ H, ∀ y ∈ x.fp, y ≠ b := by
    intro x hx y hy e1
    subst e1
    have c1 : 1 ≤ (((H1 ++ H).map fun h => h.fp.count y)).sum := by
      have := List.count_pos_iff.2 hy
      have h2 : (x.fp.count y) ∈ ((H1 ++ H).map fun h => h.fp.count y) := List.mem_map.2 ⟨x, hx, rfl⟩
      have h3 := le_sum_mem h2
      omega
    have c2 : 1 ≤ (G.map fun g => g.own.count y).sum := by
      have h2 : (G[o].own.count y) ∈ (G.map fun g => g.own.count y) := List.mem_map.2 ⟨_, List.getElem_mem hG, rfl⟩
      have h3 := le_sum_mem h2
      have := List.count_pos_iff.2 hbo
      omega
    unfold ownc at hown
    omega
  have hH1 : ∀ z ∈ (H1.map (·.fp)).flatten, z ≠ b := fun z hz => by
    obtain ⟨f, hf, hzf⟩ := List.mem_flatten.1 hz
    obtain ⟨x, hx, rfl⟩ := List.mem_map.1 hf
    exact hheld x (List.mem_append_left _ hx) z hzf
  have hBW : W.heap.size ≤ b := Nat.le_of_not_lt fun q => hni (h.fi b (h.lo b q))
  have hmn : i.toNat * κ.n + κ.n ≤ cap * κ.n := by
    have := Nat.mul_le_mul_right κ.n (show i.toNat + 1 ≤ cap by omega)
    rw [Nat.add_mul] at this; omega
  have hfit : off + i.toNat * κ.n + k + 1 ≤ cur.size := by omega
  have hovl : off + i.toNat * κ.n + k + [v].length ≤ cur.toList.length := by simpa using hfit
  generalize hw' : w.setRow b (over cur.toList (off + i.toNat * κ.n + k) [v]).toArray = w'
  have hoth : ∀ x, x ≠ b → w'.heap[x]? = w.heap[x]? := fun x hx => by rw [← hw']; exact setRow_other w b x _ hx
  have hnb : w'.heap[b]? = some (.cells (over cur.toList (off + i.toNat * κ.n + k) [v]).toArray e (0, 0)) := by rw [← hw']; exact setRow_heap w b _ _ e _ c1
  have hsz : w'.heap.size = w.heap.size := by rw [← hw']; simp
  have hcellw : ∀ p, w.cell? ⟨b, p, none⟩ = cur.toList[p]? := fun p => by simp [World.cell?, c1]
  have hcellw' : ∀ p, w'.cell? ⟨b, p, none⟩ = if p = off + i.toNat * κ.n + k then some v else w.cell? ⟨b, p, none⟩ := fun p => by
    rw [hcellw]
    have := over_get [v] cur.toList (off + i.toNat * κ.n + k) p hovl
    have e1 : w'.cell? ⟨b, p, none⟩ = (over cur.toList (off + i.toNat * κ.n + k) [v])[p]? := by simp [World.cell?, hnb]
    rw [e1, this]
    by_cases q : p = off + i.toNat * κ.n + k
    · subst q; simp
    · rw [if_neg q, if_neg (by simp only [List.length_cons, List.length_nil]; omega)]
  have hrows : ∀ j, j ≠ i.toNat → ∀ x, x < κ.n → w'.cell? ⟨b, off + j * κ.n + x, none⟩ = w.cell? ⟨b, off + j * κ.n + x, none⟩ := fun j hj x hx => by
    rw [hcellw', if_neg]
    intro q
    rcases Nat.lt_or_gt_of_ne hj with q1 | q1
    · have := Nat.mul_le_mul_right κ.n (show j + 1 ≤ i.toNat from q1)
      rw [Nat.add_mul] at this; omega
    · have := Nat.mul_le_mul_right κ.n (show i.toNat + 1 ≤ j from q1)
      rw [Nat.add_mul] at this; omega
  have hblt : b < w'.heap.size := by rw [hsz]; exact b4
  obtain ⟨A, fpk, B, vk, s1, s2, s3, s4⟩ := rd_setsub (w := w) (w' := w') (by rw [hsz]; exact Nat.le_refl _) κ k s _ (fun x => w'.cell? ⟨b, off + i.toNat * κ.n + x, none⟩) l[i.toNat] fps0[i.toNat] hs hrow
  rw [hrd] at hnew
  obtain ⟨fpk', n1, n2⟩ := hnew fpk vk s2 s3
  have hfk : ∀ z ∈ fpk', z ≠ b := fun z hz => by
    have q1 := List.count_pos_iff.2 hz
    have q2 := n2 z
    by_cases q : z ∈ fpk
    · exact hfpb _ hif z (by rw [s1]; simp [q])
    · have := List.count_eq_zero_of_not_mem q
      exact hH1 z (List.count_pos_iff.1 (by omega))
  have n1' : RdS w' true (Rd w' true s.κ') s.κ'.n s.e v l' fpk' := n1.imp (fun q => q) (by rw [hsz]; exact Nat.le_refl _) (fun z hz => hoth z (hfk z hz)) (fun g x f hf hx g' hg => Rd.frame (fun q => q) (by rw [hsz]; exact Nat.le_refl _) _ g g' x f hx (fun z hz => hoth z (hfk z (hf z hz))) (fun j _ => hg j))
  have hrow' := s4 v l' fpk' (by rw [hcellw', if_pos rfl]) (fun j j1 j2 => by rw [hcellw', if_neg (by omega)]) n1' (fun z hz => hoth z (hfpb _ hif z (by rw [s1]; simp only [List.mem_append] at hz ⊢; rcases hz with hz | hz; exact .inl (.inl hz); exact .inr hz)))
  have hcsz : off + cap * κ.n ≤ (over cur.toList (off + i.toNat * κ.n + k) [v]).toArray.size := by simp [over_len]; exact c2
  have x4 := set_rows (w := w) (o := true) (o' := true) (fun q => q) hnb hcsz c3 hblt b40 (by rw [hsz]; exact Nat.le_refl _) b3 (fun j x y _ => b6 j x y) (fun j x z hz => hoth z (hfpb j x z hz)) hrows hrow'
  have hcnt0 : ∀ z, (b :: (fps0.set i.toNat (A ++ fpk' ++ B)).flatten).count z ≤ G[o].fps[c].count z + (H1.map (·.fp)).flatten.count z := fun z => by
    have q1 := count_flatten_set fps0 i.toNat hif (A ++ fpk' ++ B) z
    have q2 := n2 z
    rw [s1] at q1
    simp only [List.count_append] at q1
    rw [b2, List.count_cons, List.count_cons]
    omega
  have hcnt : ∀ z, ownc (G.set o ⟨G[o].addr, G[o].hd, G[o].fps.set c (b :: (fps0.set i.toNat (A ++ fpk' ++ B)).flatten)⟩) H z ≤ ownc G (H1 ++ H) z := fun z => by
    have q1 := ownc_set G H o ⟨G[o].addr, G[o].hd, G[o].fps.set c (b :: (fps0.set i.toNat (A ++ fpk' ++ B)).flatten)⟩ hG z
    have q2 := own_set G[o] c hcf (b :: (fps0.set i.toNat (A ++ fpk' ++ B)).flatten) z
    have q3 := hcnt0 z
    have q4 := ownc_app G H1 H z
    omega
  refine ⟨cur, e, G.set o ⟨G[o].addr, G[o].hd, G[o].fps.set c (b :: (fps0.set i.toNat (A ++ fpk' ++ B)).flatten)⟩, c1, hfit, ?_, ?_⟩
  · rw [hw', hrd]
    have hgetc : ∀ c', (st.objs[o].cells.set c (.sl .own e κ (l.set i.toNat (s.set l[i.toNat] l')))).getD c' .dead = if c' = c then .sl .own e κ (l.set i.toNat (s.set l[i.toNat] l')) else st.objs[o].cells.getD c' .dead := fun c' => cells_set_getD _ _ _ _ hc
    refine (h.upd o _ _ w' H frz imm ho (by rw [← hw']; exact Below.setRow' h.base hBW _) (by rw [hsz]; exact Nat.le_refl _) h.fi (fun _ q => q) (fun _ q => q)
      (fun z hz => by rw [hsz]; exact h.ilt z hz) (fun z hz => hoth z (fun q => hni (by rw [← q]; exact hz)))
      (fun o1 h1 hne z hz => hoth z (fun q => (by subst q; exact ownc_two G (H1 ++ H) h.one hG h1 hne hbo hz))) (fun _ => ?_) (fun hC => ?_) (fun hC x hx => (h.held x (List.mem_append_right _ hx)).le hC h.len (fun z hz => hoth z (hheld x (List.mem_append_right _ hx) z hz)))
      (fun z => Nat.le_trans (hcnt z) (h.one z)) (fun z hz => by have := hcnt z; have := h.apart z hz; omega) (fun z hz => by rw [hsz]; exact h.olt z (Nat.le_trans hz (hcnt z)))).2
    · refine { rv := Nat.le_refl _, nv := Nat.le_succ _, addr := fun _ q => q, root := fun _ c' m1 e1 κ1 l1 hv hcc hhv => ?_, back := fun _ c' m1 e1 κ1 l1 hcc => ?_, hdr := fun _ c' m1 e1 κ1 l1 hcc => ?_, np := fun _ c' hcc => ?_ }
      · simp only at hgetc ⊢
        by_cases e1' : c' = c
        · subst e1'
          have : st.objs[o].cells.getD c' .dead = .sl .own e κ l := by simp [List.getD_eq_getElem?_getD, List.getElem?_eq_getElem hc, hce]
          rw [this] at hcc
          injection hcc with t1 t2 t3 t4
          subst t1 t2 t3
          have t4 := eq_of_heq t4
          subst t4
          exact ⟨.own, _, by rw [hgetc, if_pos rfl], fun q => q, by simp, hhv, fun hn => absurd hn (by omega)⟩
        · refine ⟨m1, l1, by rw [hgetc, if_neg e1']; exact hcc, fun q => q, rfl, hhv, fun hn => absurd hn (by omega)⟩
      · simp only at hcc
        rw [hgetc] at hcc
        split at hcc
        · rename_i q
          subst q
          exact ⟨.own, e, κ, l, by simp [List.getD_eq_getElem?_getD, List.getElem?_eq_getElem hc, hce]⟩
        · exact ⟨m1, e1, κ1, l1, hcc⟩
      · obtain ⟨z1, z2⟩ := getD_some hcc (by simp)
        exact ⟨_, List.getElem?_eq_getElem (show c' < G[o].hd.length by omega)⟩
      · refine ⟨?_, rfl⟩
        simp only
        rw [hgetc]
        by_cases e1' : c' = c
        · subst e1'
          have : st.objs[o].cells.getD c' .dead = .sl .own e κ l := by simp [List.getD_eq_getElem?_getD, List.getElem?_eq_getElem hc, hce]
          rw [this] at hcc; cases hcc
        · rw [if_neg e1']
    · refine ⟨by simp [r1], by simp [r2], fun j x y z => ?_, fun hre => ?_, r5⟩
      · simp only at x y z ⊢
        have x' : j < st.objs[o].cells.length := by simpa using x
        by_cases e1' : c = j
        · subst e1'
          simp only [List.getElem_set_self]
          rw [hhd]
          exact x4
        · simp only [List.getElem_set_ne e1']
          exact (r3 j x' (by omega) (by omega)).le hC h.len (fun z hz => hoth z (hother j (by omega) (Ne.symm e1') z hz))
      · obtain ⟨b', e', q1, q2⟩ := r4 hre
        exact ⟨b', e', q1, (hoth b' (fun q => haddr (by rw [← q]; exact q1))).trans q2⟩
  · rw [hw']
    exact ⟨by rw [hsz]; exact Nat.le_refl _, fun z hz => hoth z (fun q => hni (by rw [← q]; exact hz)), fun z hz => hz, fun z hz => hz, fun z hz => .inl hz⟩
end
end Go.Eva
end
section
/- An append's answer stored back; stores. -/
namespace Go.Eva
set_option linter.unusedVariables false
set_option linter.unusedSimpArgs false
variable {P : Program} {W : Root} {T : Tab} {Γ : Gam}

section
variable {st : St} {w : World} {tm : Array Value} {G : List Gh} {H : List Hd} {frz imm : Nat → Prop}
/-- What an object's cell owns is dropped, or held. -/
theorem drop_cell (h : Rep W st w tm G H frz imm) {d : Nat} (hd : d < st.objs.length) (hG : d < G.length) (hc : 0 < st.objs[d].cells.length) (H1 : List Hd) (hH : ∀ x ∈ H1, RC (ctx st G w frz imm) x.a x.v x.fp) (hcn : ∀ z, (H1.map (·.fp)).flatten.count z ≤ (G[d].fps[0]'(by rw [(h.objs d hd hG).2.1]; exact hc)).count z) :
    CLe (ctx st G w frz imm) (ctx ⟨st.slots, st.objs.set d ⟨st.objs[d].real, st.objs[d].cells.set 0 .dead, st.objs[d].rv + 1, st.objs[d].nv + 1⟩⟩ (G.set d ⟨G[d].addr, G[d].hd, G[d].fps.set 0 []⟩) w frz imm) ∧
    Rep W ⟨st.slots, st.objs.set d ⟨st.objs[d].real, st.objs[d].cells.set 0 .dead, st.objs[d].rv + 1, st.objs[d].nv + 1⟩⟩ w tm (G.set d ⟨G[d].addr, G[d].hd, G[d].fps.set 0 []⟩) (H1 ++ H) frz imm := by
  obtain ⟨r1, r2, r3, r4, r5⟩ := h.objs d hd hG
  have hf : 0 < G[d].fps.length := by rw [r2]; exact hc
  have hcnt : ∀ b, ownc (G.set d ⟨G[d].addr, G[d].hd, G[d].fps.set 0 []⟩) (H1 ++ H) b ≤ ownc G H b := by
    intro b
    have a1 := ownc_set G H d ⟨G[d].addr, G[d].hd, G[d].fps.set 0 []⟩ hG b
    have a2 := own_set G[d] 0 hf [] b
    have a3 := ownc_app (G.set d ⟨G[d].addr, G[d].hd, G[d].fps.set 0 []⟩) H1 H b
    have a4 := hcn b
    simp only [List.count_nil] at a2
    omega
  exact h.upd d ⟨st.objs[d].real, st.objs[d].cells.set 0 .dead, st.objs[d].rv + 1, st.objs[d].nv + 1⟩ ⟨G[d].addr, G[d].hd, G[d].fps.set 0 []⟩ w (H1 ++ H) frz imm hd h.base
      (Nat.le_refl _) h.fi (fun _ h => h) (fun _ h => h) h.ilt (fun _ _ => rfl) (fun _ _ _ _ _ => rfl)
      (fun _ => { rv := Nat.le_succ _, nv := Nat.le_succ _, addr := fun _ h => h, root := fun k => absurd k (by simp), back := fun k => absurd k (by simp), hdr := fun k => absurd k (by simp), np := fun k => absurd k (by simp) })
      (fun hc => ⟨by simp [r1], by simp [r2], fun i x y z => by
        simp only [List.getElem_set]
        split
        · exact ⟨rfl, True.intro⟩
        · exact (r3 i (by simpa using x) y (by simpa using z)).le hc h.len (fun _ _ => rfl), r4, r5⟩)
      (fun hc x hx => by
        rcases List.mem_append.1 hx with hx | hx
        · exact (hH x hx).le hc h.len (fun _ _ => rfl)
        · exact (h.held x hx).le hc h.len (fun _ _ => rfl))
      (fun b => Nat.le_trans (hcnt b) (h.one b)) (fun b hb => by have := hcnt b; have := h.apart b hb; omega) (fun b hb => h.olt b (by have := hcnt b; omega))

theorem storeN_run {t : TypeId} {ti : TI} (hti : TyOk P t ti) (h1 : ti.size = 1) (h : Rep W st w tm G H frz imm) {d rv2 o c rv nv : Nat} {i : Int} {k : Nat} {o' c' : Nat} {i' : Int} {k' rv' nv' : Nat} {e : TypeId} {κ : Kd} {l : List κ.T} {p v : Value} {r : Unit × St}
    (hr : (storeN d (st.objs.getD d Ob.none) o c rv i k o' c' i' k' rv' nv' e κ l).run st = some r) (hn : (st.objs.getD d Ob.none).cells.getD 0 .dead = .napp o' c' i' k' rv' nv' e κ l) (hrv : (st.objs.getD d Ob.none).rv = rv2)
    (hp : EpR (ctx st G w frz imm) o c none rv nv i k p) (hv : NrR (ctx st G w frz imm) d rv2 v) :
    ∃ st' w' G', r = ((), st') ∧ (Instr.storeAt t p v).run P w = .ok () w' ∧ Rep W st' w' tm G' H frz imm ∧ Ext w frz imm w' frz imm := by
  obtain ⟨hd, hob⟩ := objs_getD hn (by simp)
  rw [hob] at hr hn hrv
  have hGd : d < G.length := by rw [h.len]; exact hd
  obtain ⟨⟨va, vn, vc, hvs⟩, obd, gd, v1, v2, v3, v4⟩ := hv
  have e1 : obd = st.objs[d] := by simp only at v1; rw [List.getElem?_eq_getElem hd] at v1; injection v1 with v1; exact v1.symm
  have e2 : gd = G[d] := by simp only at v2; rw [List.getElem?_eq_getElem hGd] at v2; injection v2 with v2; exact v2.symm
  subst e1 e2
  obtain ⟨_, v5⟩ := v4 hrv
  obtain ⟨r1, r2, r3, r4, r5⟩ := h.objs d hd hGd
  obtain ⟨hdc, hdce⟩ := getD_some hn (by simp)
  have hv0 : G[d].hd[0]'(by omega) = v := by rw [List.getElem?_eq_getElem (by omega)] at v5; injection v5
  have rc := r3 0 hdc (by omega) (by omega)
  rw [hdce, hv0] at rc
  unfold storeN at hr
  split at hr
  · rename_i hcond
    obtain ⟨q1, q2, q3, q4, hne⟩ := hcond
    subst q1 q2 q3 q4
    rw [run_br] at hr
    split at hr
    · rename_i hii
      have hii := of_decide_eq_true hii
      subst hii
      rw [run_obj] at hr
      split at hr
      · rename_i hvn
        split at hr
        · rename_i e1 κ1 l1 hcell
          split at hr
          · rename_i s hs
            split at hr
            · rename_i hse
              split at hr
              · rename_i hκ
                subst hse hκ
                rw [run_setObj, run_setObj] at hr
                injection hr with hr
                obtain ⟨ho, hoo⟩ := objs_getD hcell (by simp)
                rw [hoo] at hcell hvn
                have hGo : o < G.length := by rw [h.len]; exact ho
                obtain ⟨hoc, hoce⟩ := getD_some hcell (by simp)
                obtain ⟨_, ob, g, s1, s2, s3, s4, s5⟩ := hp
                have e1 : ob = st.objs[o] := by simp only at s1; rw [List.getElem?_eq_getElem ho] at s1; injection s1 with s1; exact s1.symm
                have e2 : g = G[o] := by simp only at s2; rw [List.getElem?_eq_getElem hGo] at s2; injection s2 with s2; exact s2.symm
                subst e1 e2
                obtain ⟨m', e', κ', l', b, off, len, cap, t1, t2, t3, t4, t5⟩ := s5 hvn.1
                rw [hcell] at t1
                injection t1 with u1 u2 u3 u4
                subst u1 u2 u3
                have u4 := eq_of_heq u4
                subst u4
                obtain ⟨ob, g, n1, n2, n3, n4, n5⟩ := rc
                have e1 : ob = st.objs[o] := by simp only at n1; rw [List.getElem?_eq_getElem ho] at n1; injection n1 with n1; exact n1.symm
                have e2 : g = G[o] := by simp only at n2; rw [List.getElem?_eq_getElem hGo] at n2; injection n2 with n2; exact n2.symm
                subst e1 e2
                obtain ⟨hflat, n6⟩ := n5 hvn.1 hvn.2
                obtain ⟨H1, hH1, hcn, hnew⟩ : ∃ H1 : List Hd, (∀ x ∈ H1, RC (ctx st G w frz imm) x.a x.v x.fp) ∧ (∀ z, (H1.map (·.fp)).flatten.count z ≤ (G[d].fps[0]'(by omega)).count z) ∧
                    ∀ fpk vk, w.cell? ⟨b, off + i.toNat * κ1.n + k, none⟩ = some vk → RdS w true (Rd w true s.κ') s.κ'.n s.e vk (s.get (rdOf κ1.dflt l1 i)) fpk → ∃ fpk', RdS w true (Rd w true s.κ') s.κ'.n s.e v l fpk' ∧ ∀ z, fpk'.count z ≤ fpk.count z + (H1.map (·.fp)).flatten.count z := by
                  rcases n6 with n6 | ⟨n6, n7⟩
                  · refine ⟨[⟨.sl .own s.e s.κ' l, v, G[d].fps[0]'(by omega)⟩], fun x hx => ?_, fun z => by simp, fun fpk vk _ _ => ⟨_, n6, fun z => by simp⟩⟩
                    rw [List.mem_singleton.1 hx]; exact n6
                  · refine ⟨[], fun x hx => (by cases hx), fun z => (by simp), fun fpk vk hvk hrd => ?_⟩
                    obtain ⟨s', b', off', len', cap', g1, off1, len1, cap1, x1, x2, x3, x4, x5, xp, x6⟩ := n7 _ _ l1 hcell
                    rw [hs] at x1
                    injection x1 with x1
                    subst x1
                    have x2 : G[o].hd[c]? = some (.slice (some ⟨b', off', none⟩) len' cap') := x2
                    have t2 : G[o].hd[c]? = some (.slice (some ⟨b, off, none⟩) len cap) := t2
                    rw [t2] at x2
                    injection x2 with x2
                    injection x2 with x2 _ _
                    injection x2 with x2
                    injection x2 with x2 x2'
                    subst x2 x2'
                    have x5 : w.cell? ⟨b, off + i.toNat * κ1.n + k, none⟩ = some (.slice (some ⟨g1, off1, none⟩) len1 cap1) := x5
                    rw [hvk] at x5
                    injection x5 with x5
                    subst x5
                    refine ⟨[g1], x6, fun z => ?_⟩
                    rcases hrd with ⟨_, _, aa, cc2, u1, u2⟩ | ⟨g3, off3, cap3, fps3, u1, u2, _⟩
                    · have := u2 rfl
                      injection u1 with _ _ u1
                      omega
                    · injection u1 with u1 _ _
                      injection u1 with u1
                      injection u1 with u1 _
                      subst u1
                      rw [u2, List.count_cons, List.count_cons]
                      simp
                obtain ⟨k1, k2⟩ := drop_cell h hd hGd hdc H1 hH1 hcn
                have ho' : o < (st.objs.set d ⟨st.objs[d].real, st.objs[d].cells.set 0 .dead, st.objs[d].rv + 1, st.objs[d].nv + 1⟩).length := by simpa using ho
                have hGo' : o < (G.set d ⟨G[d].addr, G[d].hd, G[d].fps.set 0 []⟩).length := by simpa using hGo
                have eo : (st.objs.set d ⟨st.objs[d].real, st.objs[d].cells.set 0 .dead, st.objs[d].rv + 1, st.objs[d].nv + 1⟩)[o] = st.objs[o] := List.getElem_set_ne (Ne.symm hne) _
                have eG : (G.set d ⟨G[d].addr, G[d].hd, G[d].fps.set 0 []⟩)[o] = G[o] := List.getElem_set_ne (Ne.symm hne) _
                obtain ⟨cur, e0, G2, z1, z2, z3, z4⟩ := setSub_run (v := v) (l' := l) k2 ho' hGo' (by simp only [eo]; exact hoc) (by simp only [eo]; exact hoce) t3 t4 (by simp only [eG]; exact t2) hs hnew
                have hvc : v.cells = #[v] := by rw [hvs]; rfl
                have hst := storeVar_run (P := P) hti (v := v) z1 (by rw [hvc, h1]; rfl) (off := off + i.toNat * κ1.n + k) (by rw [h1]; exact z2) (fun u hu => by
                  rw [hvc] at hu
                  have : u = v := by simpa using hu
                  rw [this, hvs]; rfl)
                rw [hvc] at hst
                simp only [eo] at z3
                rw [t5, ← hr, hoo]
                exact ⟨_, _, G2, rfl, hst, z3, z4⟩
              · cases hr
            · cases hr
          · cases hr
        · cases hr
      · cases hr
    · cases hr
  · cases hr

theorem store_ok (hT : TabOk P T) {o : Oper} {t : TypeId} {x y : Operand} (h : o.op = .store t x y) : StepOk P W o (prgOf T Γ o) := unit_ok fun st w a G frz imm r hrep hr => by
  simp only [prgOf, h] at hr
  split at hr
  · rename_i ti ht hdst
    have hti := hT.ty t ti ht
    obtain ⟨av, k1, k2⟩ := opv_run hrep hr
    obtain ⟨bv, k3, k4⟩ := opv_run hrep k1
    have fin : (∃ st' w' G' frz' imm', r = ((), st') ∧ (Instr.storeAt t (a.eval x) (a.eval y)).run P w = .ok () w' ∧ Rep W st' w' a.tmps G' [] frz' imm' ∧ Ext w frz imm w' frz' imm') →
        ∃ st' w' G' frz' imm', r = ((), st') ∧ (execOp a.eval o).run P w = .ok .skip w' ∧ Rep W st' w' (a.put o.dst undef).tmps G' [] frz' imm' ∧ Ext w frz imm w' frz' imm' := fun ⟨st', w', G', f', i', q1, q2, q3, q4⟩ =>
      ⟨st', w', G', f', i', q1, by simp [execOp, h, q2], by rw [hdst]; exact q3, q4⟩
    unfold storeP at k3
    split at k3
    · obtain ⟨st', w', G', q1, q2, q3, q4⟩ := storeO_run (P := P) hti hrep k3 k2 k4
      exact fin ⟨st', w', G', _, _, q1, q2, q3, q4⟩
    · split at k3
      · rw [run_obj] at k3
        split at k3
        · rename_i hn
          split at k3
          · rename_i hc
            obtain ⟨st', w', G', q1, q2, q3, q4⟩ := storeN_run (P := P) hti hc.2 hrep k3 hn hc.1 k2 k4
            exact fin ⟨st', w', G', _, _, q1, q2, q3, q4⟩
          · cases k3
        · cases k3
      · split at k3
        · rename_i hsz
          exact fin (storeE_run (P := P) hti hrep hsz k3 k2 k4)
        · cases k3
    · cases k3
  · cases hr
end
end Go.Eva
end
section
/- Appends: what the memory does. -/
namespace Go.Eva
set_option linter.unusedVariables false
set_option linter.unusedSimpArgs false
variable {P : Program} {W : Root} {T : Tab} {Γ : Gam}

/-- An append in place, at any offset. -/
theorem append_room {t ty e : TypeId} {i : TypeInfo} (ht : P.underlying t = some (.slice e)) (hi : P.info? e = some i) {w : World}
    {g off sLen sCap : Nat} {cur : Array Value} (hg : w.heap[g]? = some (.cells cur e (0, 0))) {x : Value} {m : Nat} {news : List Value} (hx : (Builtin.lenOf x).run P w = .ok m w) (hf : (Builtin.firstCells i.size m x).run P w = .ok news.toArray w) (hl : news.length = m * i.size) (h1 : ∀ u ∈ news, u.oneCell' = true)
    (hroom : sLen + m ≤ sCap) (hfit : off + sLen * i.size + news.length ≤ cur.size) :
    (Builtin.append_ #[t, t] ty #[.slice (some ⟨g, off, none⟩) sLen sCap, x]).run P w =
      .ok (.slice (some ⟨g, off, none⟩) (sLen + m) sCap) (w.setRow g (over cur.toList (off + sLen * i.size) news).toArray) := by
  have hst := run_storeCells_at P g (off + sLen * i.size) e news 0 cur w hg (by simpa using hfit) h1
  simp only [Nat.add_zero] at hst
  have hadd : (⟨g, off, none⟩ : Addr).add (sLen * i.size) = ⟨g, off + sLen * i.size, none⟩ := by unfold Addr.add; split <;> simp_all
  rw [over_eq _ _ _ (by simpa using hfit)]
  simp [Builtin.append_, run_underlying ht, sizeOf, typeInfo, hi, hx, hroom, hf, hadd, hst]

/-- An append that grows. -/
theorem append_grow {t ty e : TypeId} {i : TypeInfo} {z : Value} (ht : P.underlying t = some (.slice e)) (hi : P.info? e = some i) (hz : i.zero = some z) {w : World}
    {base : Option Addr} {sLen sCap : Nat} {olds : List Value} (ho : ∀ w' : World, w'.heap = w.heap → (Builtin.firstCells i.size sLen (.slice base sLen sCap)).run P w' = .ok olds.toArray w') {x : Value} {m : Nat} {news : List Value} (hx : (Builtin.lenOf x).run P w = .ok m w)
    (hf : ∀ w' : World, w'.heap = w.heap → (Builtin.firstCells i.size m x).run P w' = .ok news.toArray w') (hg : sCap < sLen + m) (h63 : ((sLen + m : Nat) : Int) ≤ 9223372036854775807) (hb : (sLen + m) * i.bytes ≤ 140737488355328) :
    (Builtin.append_ #[t, t] ty #[.slice base sLen sCap, x]).run P w =
      .ok (.slice (some ⟨w.heap.size, 0, none⟩) (sLen + m) (grownCap w (sLen + m) sCap e)) (w.drew.alloc (.cells (olds.toArray ++ news.toArray ++ Builtin.zeroCells z.cells (grownCap w (sLen + m) sCap e - (sLen + m))) e)) := by
  have hfit := growslice_fits hg hb
  have hn : ¬ (sLen + m ≤ sCap) := by omega
  have h63' : ¬ (9223372036854775807 < ((sLen : Int) + (m : Int))) := by omega
  have h48' : ¬ (281474976710656 < Builtin.nextslicecap (sLen + m) sCap * i.bytes) := by omega
  have hf' := hf w.drew rfl
  have ho' := ho w.drew rfl
  simp [Builtin.append_, run_underlying ht, sizeOf, typeInfo, zeroValue, hi, hz, hx, hn, h63', h48', Question.forced, hf', ho', newRow, grownCap]
  try
    congr 2
    apply Array.ext'
    simp [List.append_assoc]
end Go.Eva
end
section
/- What is held becomes another thing; rows read out of a slice, and appended. -/
namespace Go.Eva
set_option linter.unusedVariables false
set_option linter.unusedSimpArgs false
variable {P : Program} {W : Root} {T : Tab} {Γ : Gam}

section
variable {st : St} {w : World} {tm : Array Value} {G : List Gh} {H : List Hd} {frz imm : Nat → Prop}

def hfp (H1 : List Hd) : List Nat := (H1.map (·.fp)).flatten

/-- What is held is turned into one thing, in a memory that keeps all others' blocks. -/
theorem Rep.turn {H1 : List Hd} (h : Rep W st w tm G (H1 ++ H) frz imm) {w' : World} (hbase : Go.RowKit.Below W.heap.size W w') (hsz : w.heap.size ≤ w'.heap.size)
    (hsame : ∀ b, (imm b ∨ 1 ≤ ownc G H b) → w'.heap[b]? = w.heap[b]?) {a : AV} {v : Value} {fp : List Nat} (B : Nat → Prop)
    (hcnt : ∀ b, fp.count b ≤ (hfp H1).count b ∨ (fp.count b ≤ 1 ∧ b < w'.heap.size ∧ ownc G (H1 ++ H) b = 0 ∧ ¬ imm b))
    (hB : ∀ y, B y → y ∈ hfp H1 ∧ fp.count y = 0)
    (hrc : RC (ctx st G w' (fun y => frz y ∨ B y) (fun y => imm y ∨ B y)) a v fp) :
    CLe (ctx st G w frz imm) (ctx st G w' (fun y => frz y ∨ B y) (fun y => imm y ∨ B y)) ∧ Rep W st w' tm G (⟨a, v, fp⟩ :: H) (fun y => frz y ∨ B y) (fun y => imm y ∨ B y) ∧
      Ext w frz imm w' (fun y => frz y ∨ B y) (fun y => imm y ∨ B y) := by
  have hown : ∀ b, ownc G (H1 ++ H) b = (hfp H1).count b + ownc G H b := fun b => ownc_app G H1 H b
  have hBc : ∀ y, B y → 1 ≤ (hfp H1).count y := fun y hy => List.count_pos_iff.2 (hB y hy).1
  have hBi : ∀ y, B y → ¬ imm y := fun y hy hi => by have := h.apart y hi; have := hBc y hy; have := hown y; omega
  have ho : ∀ o (hG : o < G.length), ∀ b ∈ G[o].own, w'.heap[b]? = w.heap[b]? := fun o hG b hb' => hsame b (.inr (ownc_mem G H hG hb'))
  have hc : CLe (ctx st G w frz imm) (ctx st G w' (fun y => frz y ∨ B y) (fun y => imm y ∨ B y)) :=
    { size := hsz, same := fun b hb => hsame b (.inl hb), fi := h.fi, s := fun t b k => by cases t; exact .inl k; exact .inl k, ob := fun o ob g h1 h2 => by
        obtain ⟨a1, a2⟩ := List.getElem?_eq_some_iff.1 h1
        obtain ⟨b1, b2⟩ := List.getElem?_eq_some_iff.1 h2
        have := h.objs o a1 b1
        simp only at a2 b2
        rw [a2, b2] at this
        exact ⟨ob, g, h1, h2, ObLe'.same this h.fi (fun b hb => ho o b1 b (by rw [b2]; exact hb)) (fun b hb => hsame b (.inl hb))⟩ }
  refine ⟨hc, {
    base := hbase
    fi := fun b hb => hb.imp (h.fi b) id
    lo := fun b hb => .inl (h.lo b hb)
    ilt := fun b hb => hb.elim (fun k => Nat.lt_of_lt_of_le (h.ilt b k) hsz) (fun k => Nat.lt_of_lt_of_le (h.olt b (by have := hBc b k; have := hown b; omega)) hsz)
    len := h.len
    sl := h.sl
    objs := fun o h1 h2 => by
      obtain ⟨r1, r2, r3, r4, r5⟩ := h.objs o h1 h2
      refine ⟨r1, r2, fun i x y z => (r3 i x y z).le hc h.len (fun b hb' => ho o h2 b (Gh.mem_fps z hb')), fun hr => ?_, r5⟩
      obtain ⟨b, e1, q1, q2⟩ := r4 hr
      exact ⟨b, e1, q1, by simp only; rw [ho o h2 b (by simp [Gh.own, q1])]; exact q2⟩
    slots := fun s hs => (h.slots s hs).le hc h.len
    tms := h.tms
    held := fun x hx => by
      rcases List.mem_cons.1 hx with rfl | hx
      · exact hrc
      · exact (h.held x (List.mem_append_right _ hx)).le hc h.len (fun b hb' => hsame b (.inr (ownc_held G H hx hb')))
    one := fun b => by
      rw [ownc_cons]
      have := h.one b; have := hown b
      simp only
      rcases hcnt b with q | ⟨q, _, q2, _⟩ <;> omega
    apart := fun b hb => by
      rw [ownc_cons]
      have := hown b; have := h.one b
      simp only
      rcases hb with hb | hb
      · have := h.apart b hb
        rcases hcnt b with q | ⟨q, _, q2, q3⟩
        · omega
        · exact absurd hb q3
      · have := hBc b hb; have := (hB b hb).2; omega
    olt := fun b hb => by
      rw [ownc_cons] at hb
      have := hown b
      simp only at hb
      rcases hcnt b with q | ⟨q, q1, q2, q3⟩
      · exact Nat.lt_of_lt_of_le (h.olt b (by omega)) hsz
      · exact q1
    pin := h.pin }, ⟨hsz, fun b hb => hsame b (.inl hb), fun _ k => .inl k, fun _ k => .inl k, fun b hb => hb.imp id (hBi b)⟩⟩
end

/-- The cells of rows. -/
theorem Rd.cells {w : World} {o : Bool} {κ : Kd} {g : Nat → Option Value} {x : κ.T} {fp : List Nat} (h : Rd w o κ g x fp) : ∀ j, j < κ.n → ∃ v, g j = some v ∧ v.oneCell' = true := by
  intro j hj
  have := explode_at (fun _ _ _ _ => .dead) (fun _ v => v.oneCell' = true) (fun _ _ => rfl) (fun _ => rfl) (fun _ => rfl) κ 0 x g fp h (fun k s v fp' _ _ hr _ => by
    obtain ⟨a, c, q⟩ := hr.len; rw [q]; rfl) j (by rw [explode_len]; exact hj)
  exact this

/-- The rows of a slice, read. -/
theorem rows_of {w : World} {ot on : Bool} {κ : Kd} {e : TypeId} {v : Value} {l : List κ.T} {fp : List Nat} (h : RdS w ot (Rd w on κ) κ.n e v l fp) (hn : 0 < κ.n) :
    ∃ (us : List (List Value)) (fps : List (List Nat)), us.length = l.length ∧ fps.length = l.length ∧ (∀ g ∈ us, g.length = κ.n ∧ ∀ u ∈ g, u.oneCell' = true) ∧
      (∀ w0 : World, (Builtin.lenOf v).run P w0 = .ok l.length w0) ∧ (∀ w0 : World, w0.heap = w.heap → (Builtin.firstCells κ.n l.length v).run P w0 = .ok us.flatten.toArray w0) ∧
      (∀ i (h : i < l.length) (h1 : i < us.length) (h2 : i < fps.length), Rd w on κ (fun k => us[i][k]?) l[i] fps[i]) ∧ fps.flatten = fp.tail := by
  rcases h with ⟨h1, h2, a, c, h3, _⟩ | ⟨g, off, cap, fps, h1, h2, h3, h4, h40, h5, h6⟩
  · subst h1 h3
    refine ⟨[], [], rfl, rfl, by simp, fun w0 => by simp [Builtin.lenOf], fun w0 _ => ?_, fun i h => by simp at h, by rw [h2]; rfl⟩
    cases a with
    | none => simp [Builtin.firstCells]
    | some b => exact run_firstCells_some w0 κ.n 0 b 0 c [] (by simp) (by simp)
  · let row : Nat → List Value := fun i => (List.range κ.n).map fun k => (w.cell? ⟨g, off + i * κ.n + k, none⟩).getD undef
    have hc : ∀ i, i < l.length → ∀ k, k < κ.n → ∃ u, w.cell? ⟨g, off + i * κ.n + k, none⟩ = some u ∧ u.oneCell' = true := fun i hi k hk => (h6 i hi (by omega)).cells k hk
    have hrow : ∀ i k, k < κ.n → (row i)[k]? = some ((w.cell? ⟨g, off + i * κ.n + k, none⟩).getD undef) := fun i k hk => by simp [row, hk]
    have hlen : ((List.range l.length).map row).length = l.length := by simp
    have hus : ∀ g ∈ (List.range l.length).map row, g.length = κ.n := fun x hx => by
      obtain ⟨i, _, rfl⟩ := List.mem_map.1 hx
      simp [row]
    refine ⟨(List.range l.length).map row, fps, by simp, h3, fun x hx => ⟨hus x hx, fun u hu => ?_⟩, fun w0 => by rw [h1]; simp [Builtin.lenOf], fun w0 hw0 => ?_, fun i a b c => ?_, by rw [h2]; rfl⟩
    · obtain ⟨i, hi, rfl⟩ := List.mem_map.1 hx
      obtain ⟨k, hk, rfl⟩ := List.mem_map.1 hu
      obtain ⟨u, q1, q2⟩ := hc i (List.mem_range.1 hi) k (List.mem_range.1 hk)
      rw [q1]; exact q2
    · rw [h1]
      refine run_firstCells_some w0 κ.n l.length ⟨g, off, none⟩ _ cap _ (by rw [flatten_len κ.n _ hus, hlen]) (fun j v hj => ?_)
      have hjl := (List.getElem?_eq_some_iff.1 hj).1
      rw [flatten_len κ.n _ hus, hlen] at hjl
      have hd := Nat.div_add_mod j κ.n
      have hm := Nat.mod_lt j hn
      have hq : j / κ.n < l.length := Nat.div_lt_of_lt_mul (by rw [Nat.mul_comm]; exact hjl)
      have q := flatten_get κ.n _ hus (j / κ.n) (j % κ.n) hm (by rw [hlen]; exact hq)
      rw [show j / κ.n * κ.n + j % κ.n = j by rw [Nat.mul_comm]; exact hd, hj] at q
      rw [List.getElem_map, List.getElem_range, hrow _ _ hm] at q
      obtain ⟨u, q1, q2⟩ := hc _ hq _ hm
      rw [q1] at q
      injection q with q
      have e1 : (⟨g, off, none⟩ : Addr).add j = ⟨g, off + j, none⟩ := by unfold Addr.add; split <;> simp_all
      rw [e1, q]
      have e2 : off + j / κ.n * κ.n + j % κ.n = off + j := by rw [Nat.add_assoc, Nat.mul_comm (j / κ.n), hd]
      rw [e2] at q1
      have : w0.cell? ⟨g, off + j, none⟩ = w.cell? ⟨g, off + j, none⟩ := by simp only [World.cell?, hw0]
      rw [this, q1]; rfl
    · refine Rd.frame (fun k => k) (Nat.le_refl _) κ _ _ _ _ (h6 i a c) (fun _ _ => rfl) (fun j hj => ?_)
      simp only [List.getElem_map, List.getElem_range]
      rw [hrow _ _ hj]
      obtain ⟨u, q1, q2⟩ := hc i a j hj
      rw [q1]; rfl

theorem rows_blockC {w : World} {on : Bool} {e : TypeId} {κ : Kd} {nb : Nat} {cur : Array Value} (hb : w.heap[nb]? = some (.cells cur e (0, 0))) {uss : List (List Value)} {rest : List Value} (hc : cur.toList = uss.flatten ++ rest) (hu : ∀ g ∈ uss, g.length = κ.n) {l : List κ.T} (hl : l.length = uss.length)
    {cap : Nat} (hcap : l.length ≤ cap) (hm : cap ≤ maxLen) (hfit : cap * κ.n ≤ cur.size)
    {fps : List (List Nat)} (hf : fps.length = l.length) (hR : ∀ i (h : i < l.length) (h' : i < uss.length) (h2 : i < fps.length), Rd w on κ (fun k => uss[i][k]?) l[i] fps[i]) :
    RdS w true (Rd w on κ) κ.n e (.slice (some ⟨nb, 0, none⟩) l.length cap) l (nb :: fps.flatten) := by
  have hlt : nb < w.heap.size := (Array.getElem?_eq_some_iff.1 hb).1
  refine .inr ⟨nb, 0, cap, fps, rfl, rfl, hf, hlt, hcap, fun _ => ⟨cur, hb, by omega, hm⟩, fun i hi hi' => ?_⟩
  refine Rd.frame (fun k => k) (Nat.le_refl _) κ _ _ _ _ (hR i hi (by omega) hi') (fun _ _ => rfl) (fun j hj => ?_)
  have h1 := flatten_get κ.n uss hu i j hj (by omega)
  have h2 : i * κ.n + j < uss.flatten.length := by
    rw [flatten_len κ.n uss hu]
    have : (i + 1) * κ.n ≤ uss.length * κ.n := Nat.mul_le_mul_right _ (by omega)
    rw [Nat.add_mul, Nat.one_mul] at this
    omega
  rw [← List.getElem?_append_left (l₂ := rest) h2, ← hc] at h1
  simp only [World.cell?, hb]
  rw [Nat.zero_add]
  rw [← h1]
  simp
end Go.Eva
end
section
/- Appends: what the data are behind one. -/
namespace Go.Eva
set_option linter.unusedVariables false
set_option linter.unusedSimpArgs false
variable {P : Program} {W : Root} {T : Tab} {Γ : Gam}

/-- What is appended: a value whose rows are read. -/
structure Src (P : Program) (w : World) (on : Bool) (κ : Kd) (u : Value) (lx : List κ.T) (us : List (List Value)) (fpx : List (List Nat)) : Prop where
  l1 : us.length = lx.length
  l2 : fpx.length = lx.length
  row : ∀ g ∈ us, g.length = κ.n ∧ ∀ u ∈ g, u.oneCell' = true
  len : ∀ w0 : World, (Builtin.lenOf u).run P w0 = .ok lx.length w0
  get : ∀ w0 : World, w0.heap = w.heap → (Builtin.firstCells κ.n lx.length u).run P w0 = .ok us.flatten.toArray w0
  rd : ∀ i (h : i < lx.length) (h1 : i < us.length) (h2 : i < fpx.length), Rd w on κ (fun k => us[i][k]?) lx[i] fpx[i]

theorem app_len {α : Type} (a b : List α) : (a ++ b).length = a.length + b.length := List.length_append

theorem app_grown {w : World} {on ot : Bool} {κ : Kd} {e t ty : TypeId} {te : TI} (hu : P.underlying t = some (.slice e)) (hE : TyOk P e te) (hκ : te.kd = some κ) (hby : ¬ (te.bytes = 0 ∨ te.size = 0))
    {base : Option Addr} {cap : Nat} {l : List κ.T} {fp : List Nat} (hv : RdS w ot (Rd w on κ) κ.n e (.slice base l.length cap) l fp)
    {u : Value} {lx : List κ.T} {us : List (List Value)} {fpx : List (List Nat)} (hx : Src P w on κ u lx us fpx) (hg : cap < l.length + lx.length) (hbd : (l.length + lx.length) * te.bytes ≤ 140737488355328) :
    ∃ cap' cs, (Builtin.append_ #[t, t] ty #[.slice base l.length cap, u]).run P w = .ok (.slice (some ⟨w.heap.size, 0, none⟩) (l ++ lx).length cap') (w.drew.alloc (.cells cs e)) ∧
      RdS (w.drew.alloc (.cells cs e)) true (Rd (w.drew.alloc (.cells cs e)) on κ) κ.n e (.slice (some ⟨w.heap.size, 0, none⟩) (l ++ lx).length cap') (l ++ lx) (w.heap.size :: (fp.tail ++ fpx.flatten)) := by
  obtain ⟨i, z, i1, i2, i3, i4, i5, _⟩ := hE.info
  have hkn : te.size = κ.n := by rw [← hE.len, hE.kd κ hκ, Kd.cks_len]
  have hn : 0 < κ.n := by omega
  have hbp : 1 ≤ te.bytes := by omega
  obtain ⟨us0, fps0, a1, a2, a3, a4, a5, a6, a7⟩ := rows_of (P := P) hv hn
  have hN : l.length + lx.length ≤ 140737488355328 := Nat.le_trans (by have := Nat.mul_le_mul_left (l.length + lx.length) hbp; omega) hbd
  have hzn : z.cells.size = κ.n := by
    obtain ⟨zl, _⟩ := zeros_R0 (C := ⟨[], [], w, fun _ => False, fun _ => False⟩) _ _ i5
    rw [← Array.length_toList, zl, hE.len, hkn]
  have hrun := append_grow (P := P) (ty := ty) hu i1 i4 (base := base) (sLen := l.length) (sCap := cap) (olds := us0.flatten) (fun w' hw => by rw [i2, hkn]; exact a5 w' hw) (x := u) (m := lx.length) (news := us.flatten) (hx.len w) (fun w' hw => by rw [i2, hkn]; exact hx.get w' hw) hg (by omega) (by rw [i3]; exact hbd)
  generalize hgc : grownCap w (l.length + lx.length) cap e = gc at hrun
  have c1 : l.length + lx.length ≤ gc := by rw [← hgc]; exact grownCap_ge _ _ _ _
  have c2 : gc ≤ maxLen := by rw [← hgc]; exact grownCap_le_maxLen _ _ _ _ (by unfold maxLen; omega)
  refine ⟨gc, _, by rw [app_len]; exact hrun, ?_⟩
  have hrows : ∀ g ∈ us0 ++ us, g.length = κ.n := fun g hg => by
    rcases List.mem_append.1 hg with hg | hg
    · exact (a3 g hg).1
    · exact (hx.row g hg).1
  have hfl : (fps0 ++ fpx).flatten = fp.tail ++ fpx.flatten := by rw [List.flatten_append, a7]
  rw [← hfl]
  have hnew := heap_alloc_new w.drew (.cells (us0.flatten.toArray ++ us.flatten.toArray ++ Builtin.zeroCells z.cells (gc - (l.length + lx.length))) e)
  have hl1 := hx.l1
  have hl2 := hx.l2
  refine rows_blockC (uss := us0 ++ us) (rest := (Builtin.zeroCells z.cells (gc - (l.length + lx.length))).toList) hnew (by simp) hrows (by simp only [app_len]; omega) (by rw [app_len]; exact c1) c2 ?_ (by simp only [app_len]; omega) (fun j h h' h2 => ?_)
  · simp only [Array.size_append, List.size_toArray, flatten_len κ.n us0 (fun g hg => (a3 g hg).1), flatten_len κ.n us (fun g hg => (hx.row g hg).1), Builtin.zeroCells, Array.size_map, Array.size_range, hzn, a1, hl1]
    rw [← Nat.add_mul, ← Nat.add_mul]
    exact Nat.mul_le_mul_right _ (by omega)
  · have hb := Below.alloc' w.drew (.cells (us0.flatten.toArray ++ us.flatten.toArray ++ Builtin.zeroCells z.cells (gc - (l.length + lx.length))) e)
    have hk : ∀ (x : κ.T) (g : Nat → Option Value) (f : List Nat), Rd w on κ g x f → Rd (w.drew.alloc (.cells (us0.flatten.toArray ++ us.flatten.toArray ++ Builtin.zeroCells z.cells (gc - (l.length + lx.length))) e)) on κ g x f := fun x g f hr =>
      Rd.frame (w := w) (fun k => k) (show w.heap.size ≤ _ from hb.size) κ _ _ _ _ hr (fun b hb' => show _ = w.drew.heap[b]? from hb.block b (Rd.lt κ _ _ _ hr b hb')) (fun _ _ => rfl)
    simp only [app_len] at h h' h2
    by_cases hj : j < l.length
    · have := hk _ _ _ (a6 j hj (by omega) (by omega))
      simp only [List.getElem_append_left hj, List.getElem_append_left (show j < us0.length by omega), List.getElem_append_left (show j < fps0.length by omega)]
      exact this
    · have := hk _ _ _ (hx.rd (j - l.length) (by omega) (by omega) (by omega))
      simp only [List.getElem_append_right (show l.length ≤ j by omega), List.getElem_append_right (show us0.length ≤ j by omega), List.getElem_append_right (show fps0.length ≤ j by omega), a1, a2]
      exact this

theorem app_place {w : World} {on : Bool} {κ : Kd} {e t ty : TypeId} {te : TI} (hu : P.underlying t = some (.slice e)) (hE : TyOk P e te) (hκ : te.kd = some κ) (hby : ¬ (te.bytes = 0 ∨ te.size = 0))
    {g off cap : Nat} {l : List κ.T} {fps : List (List Nat)} (hl : fps.length = l.length) {cur : Array Value} (hcur : w.heap[g]? = some (.cells cur e (0, 0))) (hfit : off + cap * κ.n ≤ cur.size) (hmax : cap ≤ maxLen)
    (hrd : ∀ i (h : i < l.length) (h' : i < fps.length), Rd w on κ (fun j => w.cell? ⟨g, off + i * κ.n + j, none⟩) l[i] fps[i])
    {u : Value} {lx : List κ.T} {us : List (List Value)} {fpx : List (List Nat)} (hx : Src P w on κ u lx us fpx) (hg1 : g ∉ fps.flatten) (hg2 : g ∉ fpx.flatten) (hroom : l.length + lx.length ≤ cap) :
    ∃ cs, (Builtin.append_ #[t, t] ty #[.slice (some ⟨g, off, none⟩) l.length cap, u]).run P w = .ok (.slice (some ⟨g, off, none⟩) (l ++ lx).length cap) (w.setRow g cs) ∧
      RdS (w.setRow g cs) true (Rd (w.setRow g cs) on κ) κ.n e (.slice (some ⟨g, off, none⟩) (l ++ lx).length cap) (l ++ lx) (g :: (fps.flatten ++ fpx.flatten)) ∧
      RdS (w.setRow g cs) true (Rd (w.setRow g cs) on κ) κ.n e (.slice (some ⟨g, off, none⟩) l.length cap) l (g :: fps.flatten) := by
  obtain ⟨i, z, i1, i2, i3, i4, i5, _⟩ := hE.info
  have hkn : te.size = κ.n := by rw [← hE.len, hE.kd κ hκ, Kd.cks_len]
  have hn : 0 < κ.n := by omega
  have hl1 := hx.l1
  have hl2 := hx.l2
  have hul : us.flatten.length = lx.length * κ.n := by rw [flatten_len κ.n us (fun g hg => (hx.row g hg).1), hl1]
  have hle : (l.length + lx.length) * κ.n ≤ cap * κ.n := Nat.mul_le_mul_right _ hroom
  rw [Nat.add_mul] at hle
  have hfit' : off + l.length * κ.n + us.flatten.length ≤ cur.size := by rw [hul]; omega
  have hrun := append_room (P := P) (ty := ty) hu i1 hcur (off := off) (sLen := l.length) (sCap := cap) (x := u) (m := lx.length) (news := us.flatten) (hx.len w) (by rw [i2, hkn]; exact hx.get w rfl) (by rw [i2, hkn, hul])
    (fun v hv => by obtain ⟨r, h1, h2⟩ := List.mem_flatten.1 hv; exact (hx.row r h1).2 v h2) hroom (by rw [i2, hkn]; exact hfit')
  rw [i2, hkn] at hrun
  generalize hcs : (over cur.toList (off + l.length * κ.n) us.flatten).toArray = cs at hrun
  have hsz : cs.size = cur.size := by rw [← hcs]; simp [over_len]
  have hlt : g < w.heap.size := (Array.getElem?_eq_some_iff.1 hcur).1
  have hnew := setRow_heap w g cur cs e (0, 0) hcur
  have hoth : ∀ b, b ≠ g → (w.setRow g cs).heap[b]? = w.heap[b]? := fun b hb => setRow_other w g b cs hb
  have hcell : ∀ j, (w.setRow g cs).cell? ⟨g, j, none⟩ = cs[j]? := fun j => cell_setRow_same w g j cur cs e (0, 0) hcur
  have hcell0 : ∀ j, w.cell? ⟨g, j, none⟩ = cur[j]? := fun j => by
    simp [World.cell?, hcur]
  have hov : ∀ j, cs[j]? = if off + l.length * κ.n ≤ j ∧ j < off + l.length * κ.n + us.flatten.length then us.flatten[j - (off + l.length * κ.n)]? else cur[j]? := fun j => by
    have := over_get us.flatten cur.toList (off + l.length * κ.n) j (by simpa using hfit')
    rw [← hcs]
    simpa using this
  have hold : ∀ j (h : j < l.length) (h' : j < fps.length), Rd (w.setRow g cs) on κ (fun k => (w.setRow g cs).cell? ⟨g, off + j * κ.n + k, none⟩) l[j] fps[j] := fun j h h' =>
    Rd.frame (fun k => k) (by simp) κ _ _ _ _ (hrd j h h') (fun b hb => hoth b (fun k => by subst k; exact hg1 (List.mem_flatten.2 ⟨_, List.getElem_mem h', hb⟩))) (fun k hk => by
      have : (j + 1) * κ.n ≤ l.length * κ.n := Nat.mul_le_mul_right _ (by omega)
      rw [Nat.add_mul, Nat.one_mul] at this
      rw [hcell, hcell0, hov, if_neg (by omega)])
  refine ⟨cs, by rw [app_len]; exact hrun, ?_, .inr ⟨g, off, cap, fps, rfl, rfl, hl, by simpa using hlt, by omega, fun _ => ⟨cs, hnew, by rw [hsz]; exact hfit, hmax⟩, hold⟩⟩
  rw [← List.flatten_append]
  refine .inr ⟨g, off, cap, fps ++ fpx, rfl, rfl, by simp only [app_len]; omega, by simpa using hlt, by rw [app_len]; omega, fun _ => ⟨cs, hnew, by rw [hsz]; exact hfit, hmax⟩, fun j h h' => ?_⟩
  simp only [app_len] at h h'
  by_cases hj : j < l.length
  · simp only [List.getElem_append_left hj, List.getElem_append_left (show j < fps.length by omega)]
    exact hold j hj (by omega)
  · simp only [List.getElem_append_right (show l.length ≤ j by omega), List.getElem_append_right (show fps.length ≤ j by omega), hl]
    refine Rd.frame (fun k => k) (by simp) κ _ _ _ _ (hx.rd (j - l.length) (by omega) (by omega) (by omega)) (fun b hb => hoth b (fun k => by subst k; exact hg2 (List.mem_flatten.2 ⟨_, List.getElem_mem (by omega), hb⟩))) (fun k hk => ?_)
    have hq := flatten_get κ.n us (fun g hg => (hx.row g hg).1) (j - l.length) k hk (by omega)
    have e1 : j * κ.n = l.length * κ.n + (j - l.length) * κ.n := by rw [← Nat.add_mul]; congr 1; omega
    have e2 : (j - l.length + 1) * κ.n ≤ lx.length * κ.n := Nat.mul_le_mul_right _ (by omega)
    rw [Nat.add_mul, Nat.one_mul] at e2
    rw [hcell, hov, if_pos (by omega), ← hq]
    congr 1
    omega
end Go.Eva
end
section
/- Appends: the source. -/
namespace Go.Eva
set_option linter.unusedVariables false
set_option linter.unusedSimpArgs false
variable {P : Program} {W : Root} {T : Tab} {Γ : Gam}

section
variable {st : St} {w : World} {tm : Array Value} {G : List Gh} {H : List Hd} {frz imm : Nat → Prop}

/-- A source whose blocks are told. -/
def SrcR (P : Program) (C : Ctx) (κ : Kd) (u : Value) (lx : List κ.T) (j : Option Bool) (hf : List Nat) : Prop :=
  ∀ on : Bool, (j = none ∨ on = false) → ∃ us fpx, Src P C.w on κ u lx us fpx ∧ (j = none → ∀ b, fpx.flatten.count b ≤ hf.count b) ∧ (∀ t, j = some t → ∀ y ∈ fpx.flatten, C.S t y) ∧ (κ.flat = true → fpx.flatten = [])

theorem flat_fps {w : World} {on : Bool} {κ : Kd} (hf : κ.flat = true) {us : List (List Value)} {l : List κ.T} {fps : List (List Nat)} (h1 : us.length = l.length) (h2 : fps.length = l.length)
    (h : ∀ i (h : i < l.length) (h1 : i < us.length) (h2 : i < fps.length), Rd w on κ (fun k => us[i][k]?) l[i] fps[i]) : fps.flatten = [] := by
  rw [List.flatten_eq_nil_iff]
  intro f hf'
  obtain ⟨i, hi, rfl⟩ := List.getElem_of_mem hf'
  exact Rd.flat κ _ _ _ hf (h i (by omega) (by omega) hi)

theorem src_flat {C : Ctx} {κ : Kd} (hn : 0 < κ.n) (hf : κ.flat = true) {ot on : Bool} {e : TypeId} {u : Value} {l : List κ.T} {fp : List Nat} (h : RdS C.w ot (Rd C.w on κ) κ.n e u l fp) {j : Option Bool} (hj : j = none) (h0 : List Nat) : SrcR P C κ u l j h0 := by
  obtain ⟨us, fps, a1, a2, a3, a4, a5, a6, a7⟩ := rows_of (P := P) h hn
  have hz := flat_fps hf a1 a2 a6
  intro on' _
  exact ⟨us, fps, ⟨a1, a2, a3, a4, a5, fun i x y z => Rd.flat_any κ _ _ _ hf (a6 i x y z)⟩, fun _ b => by rw [hz]; simp, fun t ht => (by rw [hj] at ht; cases ht), fun _ => hz⟩

theorem srcP_run {β : Type} {x : AV} {κ : Kd} {K : List κ.T → Option Bool → Prg β} {r : β × St} {u : Value} (hn : 0 < κ.n) (h : Rep W st w tm G H frz imm) (hr : (srcP x κ K).run st = some r) (hv : R2 (ctx st G w frz imm) x u) :
    ∃ (lx : List κ.T) (j : Option Bool) (st' : St) (G' : List Gh) (H1 : List Hd), (K lx j).run st' = some r ∧ st'.slots = st.slots ∧ CLe (ctx st G w frz imm) (ctx st' G' w frz imm) ∧ Rep W st' w tm G' (H1 ++ H) frz imm ∧
      SrcR P (ctx st' G' w frz imm) κ u lx j (hfp H1) := by
  unfold srcP at hr
  split at hr
  · have hv : u = .slice none 0 0 := hv
    refine ⟨[], none, st, G, [], hr, rfl, h.cle, h, fun on _ => ?_⟩
    obtain ⟨us, fps, a1, a2, a3, a4, a5, a6, a7⟩ := rows_of (P := P) (w := w) (ot := true) (on := on) (κ := κ) (e := 0) (v := u) (l := []) (fp := []) (.inl ⟨rfl, rfl, none, 0, hv, fun _ => rfl⟩) hn
    have : fps.flatten = [] := a7
    exact ⟨us, fps, ⟨a1, a2, a3, a4, a5, a6⟩, fun _ b => by rw [this]; simp, fun t ht => (by cases ht), fun _ => this⟩
  · rename_i b e κ' l
    split at hr
    · rename_i hκ
      subst hκ
      obtain ⟨fp, h1, h2⟩ := hv
      refine ⟨l, _, st, G, [], hr, rfl, h.cle, h, ?_⟩
      by_cases hf : κ'.flat = true
      · rw [if_pos hf]
        exact src_flat hn hf (C := ctx st G w frz imm) h1 rfl _
      · rw [if_neg hf]
        intro on hon
        have hon : on = false := by rcases hon with q | q; cases q; exact q
        subst hon
        obtain ⟨us, fps, a1, a2, a3, a4, a5, a6, a7⟩ := rows_of (P := P) h1 hn
        refine ⟨us, fps, ⟨a1, a2, a3, a4, a5, a6⟩, fun k => (by cases k), fun t ht y hy => ?_, fun k => absurd k hf⟩
        injection ht with ht
        subst ht
        rw [a7] at hy
        exact h2 y (List.mem_of_mem_tail hy)
    · cases hr
  · rename_i o c pth rv nv rng
    split at hr
    · rename_i hf
      obtain ⟨ob, m, e, κ', l, hd, fp, q1, q2, q3, _⟩ := sr_read h hr hv
      split at q1
      · rename_i hκ
        subst hκ
        obtain ⟨fp', c1, c2, _⟩ := q3.cut q2
        exact ⟨cutR l rng, none, st, G, [], q1, rfl, h.cle, h, src_flat hn hf (C := ctx st G w frz imm) c1 rfl _⟩
      · cases q1
    · rename_i hf
      split at hr
      · obtain ⟨m, e, κ', l, st', G', fp, h1, h2, h3, h4, h5⟩ := take_run h hr hv
        split at h2
        · rename_i hκ
          subst hκ
          refine ⟨l, _, st', G', [⟨.sl m e κ' l, u, fp⟩], h2, h3, h4, h5, ?_⟩
          have rc := h5.held _ List.mem_cons_self
          cases m with
          | own =>
            intro on _
            have rc : RdS w true (Rd w true κ') κ'.n e u l fp := rc
            have rc : RdS w true (Rd w on κ') κ'.n e u l fp := rc.imp (fun k => k) (Nat.le_refl _) (fun _ _ => rfl) (fun g x f _ hx g' hg => Rd.frame (fun _ => rfl) (Nat.le_refl _) κ' g g' x f hx (fun _ _ => rfl) (fun j _ => hg j))
            obtain ⟨us, fps, a1, a2, a3, a4, a5, a6, a7⟩ := rows_of (P := P) rc hn
            refine ⟨us, fps, ⟨a1, a2, a3, a4, a5, a6⟩, fun _ b => ?_, fun t ht => (by cases ht), fun k => absurd k hf⟩
            rw [a7]
            simp only [hfp, List.map_cons, List.map_nil, List.flatten_cons, List.flatten_nil, List.append_nil]
            exact (List.tail_sublist fp).count_le b
          | mix b =>
            intro on hon
            have hon : on = false := by rcases hon with q | q; cases q; exact q
            subst hon
            obtain ⟨fp0, r1, r2, r3⟩ := rc
            obtain ⟨us, fps, a1, a2, a3, a4, a5, a6, a7⟩ := rows_of (P := P) r1 hn
            refine ⟨us, fps, ⟨a1, a2, a3, a4, a5, a6⟩, fun k => (by cases k), fun t ht y hy => ?_, fun k => absurd k hf⟩
            injection ht with ht
            subst ht
            rw [a7] at hy
            exact r3 y (by rw [List.drop_one]; exact hy)
          | imm b => cases h1
        · cases h2
      · cases hr
  · cases hr
end
end Go.Eva
end
section
/- Appends: the answer held. -/
namespace Go.Eva
set_option linter.unusedVariables false
set_option linter.unusedSimpArgs false
variable {P : Program} {W : Root} {T : Tab} {Γ : Gam}

section
variable {st : St} {w : World} {tm : Array Value} {G : List Gh} {H : List Hd} {frz imm : Nat → Prop}

theorem Below.drewAlloc (w : World) (o : Obj) : Go.RowKit.Below w.heap.size w (w.drew.alloc o) := by
  have h := Below.alloc' w.drew o
  exact ⟨h.os, h.tape, h.output, h.size, h.block⟩

theorem app_turn {HA : List Hd} (h : Rep W st w tm G (HA ++ H) frz imm) {on : Bool} {κ : Kd} {e t ty : TypeId} {te : TI} (hu : P.underlying t = some (.slice e)) (hE : TyOk P e te) (hκ : te.kd = some κ) (hby : ¬ (te.bytes = 0 ∨ te.size = 0))
    {v : Value} {l : List κ.T} {fp : List Nat} (hv : RdS w true (Rd w on κ) κ.n e v l fp)
    {u : Value} {lx : List κ.T} {us : List (List Value)} {fpx : List (List Nat)} (hx : Src P w on κ u lx us fpx) (hbd : (l.length + lx.length) * te.bytes ≤ 140737488355328) {m : Md}
    (hm : (m = .own ∧ on = true ∧ ∀ b, (fp ++ fpx.flatten).count b ≤ (hfp HA).count b) ∨
      (∃ k, m = .mix k ∧ on = false ∧ (∀ b, (fp.take 1).count b ≤ (hfp HA).count b) ∧ ∀ y ∈ fp.tail ++ fpx.flatten, (y ∈ hfp HA ∧ y ∉ fp.take 1) ∨ (ctx st G w frz imm).S k y)) :
    ∃ v' w' frz' imm' fp', (Builtin.append_ #[t, t] ty #[v, u]).run P w = .ok v' w' ∧ Rep W st w' tm G (⟨.sl m e κ (l ++ lx), v', fp'⟩ :: H) frz' imm' ∧ Ext w frz imm w' frz' imm' := by
  have hown : ∀ b, ownc G (HA ++ H) b = (hfp HA).count b + ownc G H b := fun b => ownc_app G HA H b
  have hone := h.one
  have hSi : ∀ k y, (ctx st G w frz imm).S k y → imm y := fun k y hy => by
    cases k
    · exact h.fi y hy
    · exact hy
  have hhd : ∀ g rest, fp = g :: rest → 1 ≤ (hfp HA).count g := fun g rest hg => by
    subst hg
    rcases hm with ⟨_, _, hm⟩ | ⟨k, _, _, hm, _⟩
    · have := hm g; simp only [List.cons_append, List.count_cons_self] at this; omega
    · have := hm g; simp only [List.take_succ_cons, List.take_zero, List.count_cons_self, List.count_nil] at this; omega
  have hap : ∀ g rest, fp = g :: rest → g ∉ rest ∧ g ∉ fpx.flatten := fun g rest hg => by
    have h1 := hhd g rest hg
    have key : g ∉ rest ++ fpx.flatten := fun hmem => by
      rcases hm with ⟨_, _, hm⟩ | ⟨k, _, _, _, hm⟩
      · have q := hm g
        rw [hg, List.cons_append, List.count_cons_self] at q
        have := List.count_pos_iff.2 hmem
        have := hone g; have := hown g
        omega
      · have q := hm g (by rw [hg]; exact hmem)
        rcases q with ⟨_, q⟩ | q
        · exact q (by rw [hg]; simp)
        · have := h.apart g (hSi k g q); have := hown g; omega
    exact ⟨fun k => key (List.mem_append_left _ k), fun k => key (List.mem_append_right _ k)⟩
  have hlt : ∀ y ∈ fp.tail ++ fpx.flatten, y < w.heap.size := fun y hy => by
    rcases hm with ⟨_, _, hm⟩ | ⟨k, _, _, _, hm⟩
    · have := hm y
      have hp := List.count_pos_iff.2 hy
      rw [List.count_append] at this hp
      have h2 := (List.tail_sublist fp).count_le y
      exact h.olt y (by have := hown y; omega)
    · rcases hm y hy with ⟨q, _⟩ | q
      · have := List.count_pos_iff.2 q; exact h.olt y (by have := hown y; omega)
      · exact h.ilt y (hSi k y q)
  -- the answer in memory
  have fin : ∀ (v' : Value) (w' : World) (hd : List Nat), (Builtin.append_ #[t, t] ty #[v, u]).run P w = .ok v' w' → Go.RowKit.Below W.heap.size W w' → w.heap.size ≤ w'.heap.size → (∀ b, (imm b ∨ 1 ≤ ownc G H b) → w'.heap[b]? = w.heap[b]?) →
      RdS w' true (Rd w' on κ) κ.n e v' (l ++ lx) (hd ++ (fp.tail ++ fpx.flatten)) → (hd = [] ∧ fp.tail ++ fpx.flatten = [] ∨ ∃ g, hd = [g] ∧ g ∉ fp.tail ++ fpx.flatten ∧ (fp.head? = some g ∨ (g < w'.heap.size ∧ ownc G (HA ++ H) g = 0 ∧ ¬ imm g))) →
      ∃ v' w' frz' imm' fp', (Builtin.append_ #[t, t] ty #[v, u]).run P w = .ok v' w' ∧ Rep W st w' tm G (⟨.sl m e κ (l ++ lx), v', fp'⟩ :: H) frz' imm' ∧ Ext w frz imm w' frz' imm' := by
    intro v' w' hd r1 r2 r3 r4 r5 r6
    rcases hm with ⟨m1, m2, m3⟩ | ⟨k, m1, m2, m3, m4⟩
    · subst m1 m2
      obtain ⟨_, q2, q3⟩ := h.turn (a := .sl .own e κ (l ++ lx)) (v := v') (fp := hd ++ (fp.tail ++ fpx.flatten)) r2 r3 r4 (fun _ => False) (fun b => by
        have t1 := m3 b
        rw [List.count_append] at t1
        have t2 := (List.tail_sublist fp).count_le b
        rcases r6 with ⟨z1, z2⟩ | ⟨g, z1, z2, z3⟩
        · rw [z1, z2]; exact .inl (by simp)
        · rw [z1]
          by_cases hb : b = g
          · subst hb
            have c0 : (fp.tail ++ fpx.flatten).count b = 0 := List.count_eq_zero.2 z2
            have c1 : ([b] ++ (fp.tail ++ fpx.flatten)).count b = 1 := by rw [List.count_append, c0]; simp
            rw [c1]
            rcases z3 with z3 | z3
            · left
              have : fp = b :: fp.tail := by cases fp with
                | nil => cases z3
                | cons x xs => injection z3 with z3; rw [z3]; rfl
              exact hhd b _ this
            · exact .inr ⟨Nat.le_refl _, z3⟩
          · left
            have : ([g] ++ (fp.tail ++ fpx.flatten)).count b = fp.tail.count b + fpx.flatten.count b := by
              rw [List.count_append, List.count_append, List.count_singleton]
              simp [Ne.symm hb]
            omega) (fun y hy => hy.elim) r5
      exact ⟨v', w', _, _, _, r1, q2, q3⟩
    · subst m1 m2
      obtain ⟨_, q2, q3⟩ := h.turn (a := .sl (.mix k) e κ (l ++ lx)) (v := v') (fp := hd) r2 r3 r4 (fun y => y ∈ hfp HA ∧ y ∉ hd ∧ y ∈ fp.tail ++ fpx.flatten) (fun b => by
        rcases r6 with ⟨z1, z2⟩ | ⟨g, z1, z2, z3⟩
        · rw [z1]; exact .inl (by simp)
        · rw [z1]
          by_cases hb : b = g
          · subst hb
            have c1 : [b].count b = 1 := by simp
            rw [c1]
            rcases z3 with z3 | z3
            · left
              have : fp = b :: fp.tail := by cases fp with
                | nil => cases z3
                | cons x xs => injection z3 with z3; rw [z3]; rfl
              exact hhd b _ this
            · exact .inr ⟨Nat.le_refl _, z3⟩
          · left
            rw [List.count_singleton]
            simp [Ne.symm hb]) (fun y hy => ⟨hy.1, List.count_eq_zero.2 hy.2.1⟩) ⟨_, r5, by
              rcases r6 with ⟨z1, z2⟩ | ⟨g, z1, _⟩
              · rw [z1, z2]; rfl
              · rw [z1]; rfl, fun y hy => by
              have hy' : y ∈ fp.tail ++ fpx.flatten := by
                rcases r6 with ⟨z1, z2⟩ | ⟨g, z1, _⟩
                · rw [z1, z2] at hy; cases hy
                · rw [z1] at hy; exact hy
              have hnd : y ∉ hd := fun hyd => by
                rcases r6 with ⟨z1, z2⟩ | ⟨g, z1, z2, _⟩
                · rw [z1] at hyd; cases hyd
                · rw [z1] at hyd; rw [List.mem_singleton.1 hyd] at hy'; exact z2 hy'
              rcases m4 y hy' with ⟨q, _⟩ | q
              · cases k
                · exact .inr ⟨q, hnd, hy'⟩
                · exact .inr ⟨q, hnd, hy'⟩
              · cases k
                · exact .inl q
                · exact .inl q⟩
      exact ⟨v', w', _, _, _, r1, q2, q3⟩
  have hnb : w.heap.size ∉ fp.tail ++ fpx.flatten := fun k => Nat.lt_irrefl _ (hlt _ k)
  have hnew : ∀ cap' cs, (Builtin.append_ #[t, t] ty #[v, u]).run P w = .ok (.slice (some ⟨w.heap.size, 0, none⟩) (l ++ lx).length cap') (w.drew.alloc (.cells cs e)) →
      RdS (w.drew.alloc (.cells cs e)) true (Rd (w.drew.alloc (.cells cs e)) on κ) κ.n e (.slice (some ⟨w.heap.size, 0, none⟩) (l ++ lx).length cap') (l ++ lx) (w.heap.size :: (fp.tail ++ fpx.flatten)) →
      ∃ v' w' frz' imm' fp', (Builtin.append_ #[t, t] ty #[v, u]).run P w = .ok v' w' ∧ Rep W st w' tm G (⟨.sl m e κ (l ++ lx), v', fp'⟩ :: H) frz' imm' ∧ Ext w frz imm w' frz' imm' := fun cap' cs r1 r2 => by
    have hb := Below.drewAlloc w (.cells cs e)
    refine fin _ _ [w.heap.size] r1 (h.base.trans (hb.mono h.base.size)) hb.size (fun b hb' => hb.block b (hb'.elim (h.ilt b) (fun q => h.olt b (by have := hown b; omega)))) r2 (.inr ⟨_, rfl, hnb, .inr ⟨?_, ?_, fun k => Nat.lt_irrefl _ (h.ilt _ k)⟩⟩)
    · have := heap_alloc_new w.drew (.cells cs e)
      exact (Array.getElem?_eq_some_iff.1 this).1
    · have := h.olt w.heap.size
      omega
  rcases hv with ⟨h1, h2, a, c, h3, h4⟩ | ⟨g, off, cap, fps, h1, h2, h3, h4, h40, h5, h6⟩
  · have h5 := h4 rfl
    subst h1 h2 h3 h5
    by_cases hz : lx.length = 0
    · have hlx : lx = [] := List.eq_nil_of_length_eq_zero hz
      have e1 := hx.len w
      have e2 := hx.get w rfl
      rw [hz] at e1 e2
      have hus : us = [] := List.eq_nil_of_length_eq_zero (by rw [hx.l1, hz])
      have hfx : fpx = [] := List.eq_nil_of_length_eq_zero (by rw [hx.l2, hz])
      obtain ⟨i, z, i1, i2, _⟩ := hE.info
      have hkn : te.size = κ.n := by rw [← hE.len, hE.kd κ hκ, Kd.cks_len]
      have hrun : (Builtin.append_ #[t, t] ty #[.slice a 0 0, u]).run P w = .ok (.slice a 0 0) w := by
        cases a <;> simp [Builtin.append_, run_underlying hu, sizeOf, typeInfo, i1, i2, hkn, e1, e2, storeCells, hus]
      refine fin _ w [] hrun h.base (Nat.le_refl _) (fun _ _ => rfl) ?_ (.inl ⟨rfl, by rw [hfx]; rfl⟩)
      rw [hlx, hfx]
      exact .inl ⟨rfl, rfl, a, 0, rfl, fun _ => rfl⟩
    · have hv : RdS w true (Rd w on κ) κ.n e (.slice a ([] : List κ.T).length 0) ([] : List κ.T) [] := .inl ⟨rfl, rfl, a, 0, rfl, fun _ => rfl⟩
      obtain ⟨cap', cs, r1, r2⟩ := app_grown (ty := ty) hu hE hκ hby hv hx (by simp; omega) hbd
      exact hnew cap' cs r1 r2
  · subst h1
    obtain ⟨cur, c1, c2, c3⟩ := h5 rfl
    obtain ⟨g1, g2⟩ := hap g _ h2
    by_cases hroom : l.length + lx.length ≤ cap
    · obtain ⟨cs, r1, r2, _⟩ := app_place (ty := ty) hu hE hκ hby h3 c1 c2 c3 h6 hx g1 g2 hroom
      have hgi : ¬ imm g := fun k => by have := h.apart g k; have := hhd g _ h2; have := hown g; omega
      have hgW : W.heap.size ≤ g := Nat.le_of_not_lt fun k => hgi (h.fi g (h.lo g k))
      have htl : fp.tail = fps.flatten := by rw [h2]; rfl
      refine fin _ _ [g] r1 (Below.setRow' h.base hgW _) (by simp) (fun b hb => setRow_other w g b cs (fun k => ?_)) (by rw [htl]; exact r2) (.inr ⟨g, rfl, by rw [htl]; exact fun k => (List.mem_append.1 k).elim g1 g2, .inl (by rw [h2]; rfl)⟩)
      subst k
      rcases hb with hb | hb
      · exact hgi hb
      · have := hhd b _ h2; have := hown b; have := hone b; omega
    · have hv : RdS w true (Rd w on κ) κ.n e (.slice (some ⟨g, off, none⟩) l.length cap) l fp := .inr ⟨g, off, cap, fps, rfl, h2, h3, h4, h40, h5, h6⟩
      obtain ⟨cap', cs, r1, r2⟩ := app_grown (ty := ty) hu hE hκ hby hv hx (by omega) hbd
      exact hnew cap' cs r1 r2
end
end Go.Eva
end
section
/- An append to a slice within a row. -/
namespace Go.Eva
set_option linter.unusedVariables false
set_option linter.unusedSimpArgs false
variable {P : Program} {W : Root} {T : Tab} {Γ : Gam}

theorem sub_set_get : ∀ (κ : Kd) (k : Nat) (s : Sub κ), κ.sub k = some s → ∀ x, s.set x (s.get x) = x
  | .int _, k, s, h => by cases k <;> simp [Kd.sub] at h
  | .bool, k, s, h => by cases k <;> simp [Kd.sub] at h
  | .str, k, s, h => by cases k <;> simp [Kd.sub] at h
  | .sl e κ, k, s, h => by
    cases k with
    | zero =>
      simp only [Kd.sub, Option.some.injEq] at h
      subst h
      intro x; rfl
    | succ k => simp [Kd.sub] at h
  | .pair a c, k, s, h => by
    simp only [Kd.sub] at h
    split at h
    · cases hs1 : a.sub k with
      | none => rw [hs1] at h; cases h
      | some s1 =>
        rw [hs1] at h
        injection h with h
        subst h
        intro x
        have := sub_set_get a k s1 hs1 x.1
        simp only [this]
    · cases hs1 : c.sub (k - a.n) with
      | none => rw [hs1] at h; cases h
      | some s1 =>
        rw [hs1] at h
        injection h with h
        subst h
        intro x
        have := sub_set_get c _ s1 hs1 x.2
        simp only [this]

section
variable {st : St} {w : World} {tm : Array Value} {G : List Gh} {H : List Hd} {frz imm : Nat → Prop}

abbrev bumped (ob : Ob) : Ob := ⟨ob.real, ob.cells, ob.rv, ob.nv + 1⟩

theorem bump_le {w w' : World} {ob : Ob} {g : Gh} (h1 : g.hd.length = ob.cells.length) : ObLe' w w' ob g (bumped ob) g :=
  { rv := Nat.le_refl _, nv := Nat.le_succ _, addr := fun _ q => q
    root := fun _ c m e κ l hv hc hh => ⟨m, l, hc, fun q => q, rfl, hh, fun hn => absurd hn (by simp)⟩
    back := fun _ c m e κ l hc => ⟨m, e, κ, l, hc⟩
    hdr := fun _ c m e κ l hc => by
      obtain ⟨z1, z2⟩ := getD_some hc (by simp)
      exact ⟨_, List.getElem?_eq_getElem (show c < g.hd.length by omega)⟩
    np := fun _ c hc => ⟨rfl, rfl⟩ }

theorem bump_run (h : Rep W st w tm G H frz imm) {o : Nat} (ho : o < st.objs.length) (hG : o < G.length) : Rep W ⟨st.slots, st.objs.set o (bumped st.objs[o])⟩ w tm G H frz imm := by
  obtain ⟨r1, r2, r3, r4, r5⟩ := h.objs o ho hG
  have e1 : G.set o G[o] = G := List.set_getElem_self hG
  have := (h.upd o (bumped st.objs[o]) G[o] w H frz imm ho h.base (Nat.le_refl _) h.fi (fun _ q => q) (fun _ q => q) h.ilt (fun _ _ => rfl) (fun _ _ _ _ _ => rfl) (fun _ => bump_le r1)
    (fun hC => ⟨r1, r2, fun i x y z => (r3 i x y z).le hC h.len (fun _ _ => rfl), r4, r5⟩) (fun hC x hx => (h.held x hx).le hC h.len (fun _ _ => rfl)) (fun b => by rw [e1]; exact h.one b) (fun b hb => by rw [e1]; exact h.apart b hb) (fun b hb => h.olt b (by rw [e1] at hb; exact hb))).2
  rw [e1] at this
  exact this

/-- The block of a slice within a row is written behind what is read of it. -/
theorem keepSub_run (h : Rep W st w tm G H frz imm) {o c : Nat} (ho : o < st.objs.length) (hG : o < G.length) {e : TypeId} {κ : Kd} {l : List κ.T} (hc : c < st.objs[o].cells.length) (hce : st.objs[o].cells[c] = .sl .own e κ l)
    {i : Int} (i0 : 0 ≤ i) (i1 : i < (l.length : Int)) {k b off len cap : Nat} (hh : G[o].hd[c]? = some (.slice (some ⟨b, off, none⟩) len cap)) {s : Sub κ} (hs : κ.sub k = some s) (hsf : s.κ'.flat = true)
    {g1 off1 len1 cap1 : Nat} (hcell : w.cell? ⟨b, off + i.toNat * κ.n + k, none⟩ = some (.slice (some ⟨g1, off1, none⟩) len1 cap1)) (hcap1 : 0 < cap1)
    {w' : World} (hsz : w'.heap.size = w.heap.size) (hoth : ∀ x, x ≠ g1 → w'.heap[x]? = w.heap[x]?) (hbel : W.heap.size ≤ g1 → Go.RowKit.Below W.heap.size W w')
    (hk : RdS w true (Rd w true s.κ') s.κ'.n s.e (.slice (some ⟨g1, off1, none⟩) len1 cap1) (s.get (rdOf κ.dflt l i)) [g1] → RdS w' true (Rd w' true s.κ') s.κ'.n s.e (.slice (some ⟨g1, off1, none⟩) len1 cap1) (s.get (rdOf κ.dflt l i)) [g1]) :
    Rep W ⟨st.slots, st.objs.set o (bumped st.objs[o])⟩ w' tm G H frz imm ∧ Ext w frz imm w' frz imm := by
  obtain ⟨r1, r2, r3, r4, r5⟩ := h.objs o ho hG
  have hch : c < G[o].hd.length := by rw [r1]; exact hc
  have hcf : c < G[o].fps.length := by rw [r2]; exact hc
  have hhd : G[o].hd[c] = .slice (some ⟨b, off, none⟩) len cap := by rw [List.getElem?_eq_getElem hch] at hh; injection hh
  have rc := r3 c hc hch hcf
  rw [hce, hhd] at rc
  have a1 : RdS w true (Rd w true κ) κ.n e (.slice (some ⟨b, off, none⟩) len cap) l G[o].fps[c] := rc
  rcases a1 with ⟨a1, _⟩ | ⟨g', off', cap', fps0, b1, b2, b3, b4, b40, b5, b6⟩
  · subst a1; exact absurd i1 (by simp only [List.length_nil]; omega)
  injection b1 with b1 b1' b1''
  injection b1 with b1
  injection b1 with b1 b10
  subst b1 b10 b1' b1''
  obtain ⟨hil, hrd⟩ := rdOf_lt κ.dflt l i i0 i1
  have hif : i.toNat < fps0.length := by omega
  have hrow := b6 i.toNat hil hif
  obtain ⟨A, fpk, B, vk, s1, s2, s3, s4⟩ := rd_setsub (w := w) (w' := w') (by rw [hsz]; exact Nat.le_refl _) κ k s _ (fun x => w'.cell? ⟨b, off + i.toNat * κ.n + x, none⟩) l[i.toNat] fps0[i.toNat] hs hrow
  have s2 : w.cell? ⟨b, off + i.toNat * κ.n + k, none⟩ = some vk := s2
  rw [hcell] at s2
  injection s2 with s2
  subst s2
  have hfpk : fpk = [g1] := by
    rcases s3 with ⟨_, _, aa, cc2, u1, u2⟩ | ⟨g3, off3, cap3, fps3, u1, u2, u3, _, _, _, u6⟩
    · have := u2 rfl
      injection u1 with _ _ u1
      omega
    · injection u1 with u1 _ _
      injection u1 with u1
      injection u1 with u1 _
      subst u1
      have hz : fps3.flatten = [] := by
        rw [List.flatten_eq_nil_iff]
        intro f hf'
        obtain ⟨i, hi, rfl⟩ := List.getElem_of_mem hf'
        exact Rd.flat _ _ _ _ hsf (u6 i (by omega) hi)
      rw [u2, hz]
  subst hfpk
  have hgc : 1 ≤ G[o].fps[c].count g1 := List.count_pos_iff.2 (by rw [b2]; exact List.mem_cons_of_mem _ (List.mem_flatten.2 ⟨_, List.getElem_mem hif, by rw [s1]; simp⟩))
  have hgo : g1 ∈ G[o].own := Gh.mem_fps hcf (List.count_pos_iff.1 hgc)
  have hown := h.one g1
  have hge := ownc_mem G H hG hgo
  have hni : ¬ imm g1 := fun q => by have := h.apart g1 q; omega
  have hownG : G[o].own.count g1 ≤ 1 := by
    have c2 := ownc_set G H o ⟨none, [], []⟩ hG g1
    have c3 : (Gh.own ⟨none, [], []⟩).count g1 = 0 := by simp [Gh.own]
    omega
  have hset := own_set G[o] c hcf [] g1
  simp only [List.count_nil] at hset
  have hno : g1 ∉ Gh.own ⟨G[o].addr, G[o].hd, G[o].fps.set c []⟩ := fun q => by have := List.count_pos_iff.2 q; omega
  have hother : ∀ c' (x : c' < G[o].fps.length), c' ≠ c → ∀ z ∈ G[o].fps[c'], z ≠ g1 := fun c' x hne z hz e1 => by
    subst e1
    refine hno (List.mem_append_right _ (List.mem_flatten.2 ⟨G[o].fps[c'], ?_, hz⟩))
    refine List.mem_iff_getElem.2 ⟨c', by simpa using x, ?_⟩
    simp [List.getElem_set_ne (Ne.symm hne)]
  have haddr : G[o].addr ≠ some g1 := fun q => hno (List.mem_append_left _ (by simp [q]))
  have hone1 : G[o].fps[c].count g1 ≤ 1 := by omega
  have hcf0 := count_flatten_set fps0 i.toNat hif [] g1
  have hrowc : (fps0[i.toNat]).count g1 = A.count g1 + 1 + B.count g1 := by
    rw [s1]; simp only [List.count_append]; simp
  rw [b2, List.count_cons] at hone1
  simp only [List.count_nil] at hcf0
  have hbg : b ≠ g1 := fun q => by rw [if_pos (by simp [q])] at hone1; omega
  have hAB : ∀ z ∈ A ++ B, z ≠ g1 := fun z hz e1 => by
    subst e1
    rcases List.mem_append.1 hz with hz | hz <;> have := List.count_pos_iff.2 hz <;> omega
  have hrest : ∀ j (x : j < fps0.length), j ≠ i.toNat → ∀ z ∈ fps0[j], z ≠ g1 := fun j x hne z hz e1 => by
    subst e1
    have : 1 ≤ ((fps0.set i.toNat []).flatten).count z := List.count_pos_iff.2 (List.mem_flatten.2 ⟨fps0[j], List.mem_iff_getElem.2 ⟨j, by simpa using x, by simp [List.getElem_set_ne (Ne.symm hne)]⟩, hz⟩)
    omega
  have hheld : ∀ x ∈ H, ∀ y ∈ x.fp, y ≠ g1 := by
    intro x hx y hy e1
    subst e1
    have c1 : 1 ≤ ((H.map fun h => h.fp.count y)).sum := by
      have := List.count_pos_iff.2 hy
      have h2 : (x.fp.count y) ∈ (H.map fun h => h.fp.count y) := List.mem_map.2 ⟨x, hx, rfl⟩
      have h3 := le_sum_mem h2
      omega
    have c2 : 1 ≤ (G.map fun g => g.own.count y).sum := by
      have h2 : (G[o].own.count y) ∈ (G.map fun g => g.own.count y) := List.mem_map.2 ⟨_, List.getElem_mem hG, rfl⟩
      have h3 := le_sum_mem h2
      have := List.count_pos_iff.2 hgo
      omega
    unfold ownc at hown
    omega
  have hBW : W.heap.size ≤ g1 := Nat.le_of_not_lt fun q => hni (h.fi g1 (h.lo g1 q))
  have hcb : ∀ p, w'.cell? ⟨b, p, none⟩ = w.cell? ⟨b, p, none⟩ := fun p => World.cell?_of_block (hoth b hbg)
  have hle : w.heap.size ≤ w'.heap.size := by rw [hsz]; exact Nat.le_refl _
  have hrow' := s4 (.slice (some ⟨g1, off1, none⟩) len1 cap1) (s.get l[i.toNat]) [g1] (by show w'.cell? _ = _; rw [hcb]; exact hcell) (fun j _ _ => hcb _) (by rw [hrd] at hk; exact hk s3) (fun z hz => hoth z (hAB z hz))
  rw [sub_set_get κ k s hs, ← s1] at hrow'
  have x4 : RdS w' true (Rd w' true κ) κ.n e (.slice (some ⟨b, off, none⟩) l.length cap) l G[o].fps[c] := by
    refine .inr ⟨b, off, cap, fps0, rfl, b2, b3, by rw [hsz]; exact b4, b40, fun q => ?_, fun j x y => ?_⟩
    · obtain ⟨cur, c1, c2⟩ := b5 q
      exact ⟨cur, (hoth b hbg).trans c1, c2⟩
    · by_cases hj : j = i.toNat
      · subst hj; exact hrow'
      · exact Rd.frame (fun q => q) hle κ _ _ _ _ (b6 j x y) (fun z hz => hoth z (hrest j y hj z hz)) (fun _ _ => hcb _)
  have e1 : G.set o G[o] = G := List.set_getElem_self hG
  have hup := (h.upd o (bumped st.objs[o]) G[o] w' H frz imm ho (hbel hBW) hle h.fi (fun _ q => q) (fun _ q => q) (fun z hz => by rw [hsz]; exact h.ilt z hz) (fun z hz => hoth z (fun q => hni (by rw [← q]; exact hz)))
    (fun o1 h1 hne z hz => hoth z (fun q => (by subst q; exact ownc_two G H h.one hG h1 hne hgo hz))) (fun _ => bump_le r1)
    (fun hC => ⟨r1, r2, fun j x y z => (by
      by_cases e1' : j = c
      · subst e1'
        simp only [hce, hhd]
        exact x4
      · exact (r3 j x y z).le hC h.len (fun q hq => hoth q (hother j z e1' q hq))), fun hre => (by
      obtain ⟨b', e', q1, q2⟩ := r4 hre
      exact ⟨b', e', q1, (hoth b' (fun q => haddr (by rw [← q]; exact q1))).trans q2⟩), r5⟩)
    (fun hC x hx => (h.held x hx).le hC h.len (fun z hz => hoth z (hheld x hx z hz))) (fun b => by rw [e1]; exact h.one b) (fun b hb => by rw [e1]; exact h.apart b hb) (fun b hb => by rw [hsz]; exact h.olt b (by rw [e1] at hb; exact hb))).2
  rw [e1] at hup
  exact ⟨hup, hle, fun z hz => hoth z (fun q => hni (by rw [← q]; exact hz)), fun z hz => hz, fun z hz => hz, fun z hz => .inl hz⟩

/-- What is held becomes the only cell of the slot's own object. -/
theorem newN_run {d : Nat} {o c : Nat} {i : Int} {k rv nv : Nat} {e : TypeId} {κ : Kd} {l : List κ.T} {v : Value} {fp : List Nat} (h : Rep W st w tm G (⟨.napp o c i k rv nv e κ l, v, fp⟩ :: H) frz imm) (hval : ∃ a n c, v = .slice a n c)
    (hreal : (st.objs.getD d Ob.none).real = false) :
    ∃ G', Rep W ⟨st.slots.set d (.nr d ((st.objs.getD d Ob.none).rv + 1)), st.objs.set d ⟨false, [.napp o c i k rv nv e κ l], (st.objs.getD d Ob.none).rv + 1, (st.objs.getD d Ob.none).nv + 1⟩⟩ w (tm.setIfInBounds d v) G' H frz imm := by
  by_cases hd : d < st.objs.length
  · have hob : st.objs.getD d Ob.none = st.objs[d] := by rw [List.getD_eq_getElem?_getD, List.getElem?_eq_getElem hd]; rfl
    rw [hob] at hreal ⊢
    have hG : d < G.length := by rw [h.len]; exact hd
    obtain ⟨r1, r2, r3, r4, r5⟩ := h.objs d hd hG
    have hcnt : ∀ b, ownc (G.set d ⟨none, [v], [fp]⟩) H b ≤ ownc G (⟨.napp o c i k rv nv e κ l, v, fp⟩ :: H) b := by
      intro b
      have a1 := ownc_set G H d ⟨none, [v], [fp]⟩ hG b
      have a2 := ownc_cons G H ⟨.napp o c i k rv nv e κ l, v, fp⟩ b
      have a3 : (Gh.own ⟨none, [v], [fp]⟩).count b = fp.count b := by simp [Gh.own]
      simp only at a2
      omega
    obtain ⟨k1, k2⟩ := h.upd d ⟨false, [.napp o c i k rv nv e κ l], st.objs[d].rv + 1, st.objs[d].nv + 1⟩ ⟨none, [v], [fp]⟩ w H frz imm hd h.base
      (Nat.le_refl _) h.fi (fun _ h => h) (fun _ h => h) h.ilt (fun _ _ => rfl) (fun _ _ _ _ _ => rfl)
      (fun _ => { rv := Nat.le_succ _, nv := Nat.le_succ _, addr := fun b hb => (by rw [r5 hreal] at hb; cases hb), root := fun k => absurd k (by simp), back := fun k => absurd k (by simp), hdr := fun k => absurd k (by simp), np := fun k => absurd k (by simp) })
      (fun hc => ⟨rfl, rfl, fun i x y z => (by
        have : i = 0 := by simpa using x
        subst this
        exact (h.held _ List.mem_cons_self).le hc h.len (fun _ _ => rfl)), fun k => (by cases k), fun _ => rfl⟩)
      (fun hc x hx => (h.held x (List.mem_cons_of_mem _ hx)).le hc h.len (fun _ _ => rfl))
      (fun b => Nat.le_trans (hcnt b) (h.one b)) (fun b hb => by have := hcnt b; have := h.apart b hb; omega) (fun b hb => h.olt b (by have := hcnt b; omega))
    refine ⟨G.set d ⟨none, [v], [fp]⟩, Rep.put (st := ⟨st.slots, st.objs.set d _⟩) k2 d _ v ?_⟩
    exact ⟨hval, ⟨false, [.napp o c i k rv nv e κ l], st.objs[d].rv + 1, st.objs[d].nv + 1⟩, ⟨none, [v], [fp]⟩, by simp [hd], by simp [hG], Nat.le_refl _, fun _ => ⟨rfl, rfl⟩⟩
  · have e1 : ∀ x, st.objs.set d x = st.objs := fun x => List.set_eq_of_length_le (Nat.le_of_not_lt hd)
    have e2 : ∀ x, st.slots.set d x = st.slots := fun x => List.set_eq_of_length_le (Nat.le_trans h.sl (Nat.le_of_not_lt hd))
    rw [e1, e2, set_noop _ _ _ (by rw [← h.tms]; exact Nat.le_trans h.sl (Nat.le_of_not_lt hd))]
    exact ⟨G, h.drop⟩
end
end Go.Eva
end
section
/- The builtins that are called. -/
namespace Go.Eva
set_option linter.unusedVariables false
set_option linter.unusedSimpArgs false
variable {P : Program} {W : Root} {T : Tab} {Γ : Gam}

theorem isOwn_join {m : Md} {j : Option Bool} (hm : isOwn m = true) : (m = .own ∧ j = none ∧ mdJoin m j = .own) ∨ ∃ k, mdJoin m j = .mix k ∧ (∀ b, m = .mix b → b = true → k = true) ∧ (∀ b, j = some b → b = true → k = true) := by
  cases m with
  | own => cases j with
    | none => exact .inl ⟨rfl, rfl, rfl⟩
    | some b => exact .inr ⟨b, rfl, fun b' h => (by cases h), fun b' h => (by injection h with h; rw [h]; exact id)⟩
  | mix b => cases j with
    | none => exact .inr ⟨b, rfl, fun b' h => (by injection h with h; rw [h]; exact id), fun b' h => (by cases h)⟩
    | some b' => exact .inr ⟨b || b', rfl, fun b1 h h1 => (by injection h with h; subst h; simp [h1]), fun b1 h h1 => (by injection h with h; subst h; simp [h1])⟩
  | imm b => cases hm

section
variable {st : St} {w : World} {tm : Array Value} {G : List Gh} {H : List Hd} {frz imm : Nat → Prop}

theorem app_case {H1 : List Hd} {m : Md} {e t ty : TypeId} {κ : Kd} {l : List κ.T} {v : Value} {fp : List Nat} (h : Rep W st w tm G (⟨.sl m e κ l, v, fp⟩ :: (H1 ++ H)) frz imm) (hmo : isOwn m = true) {te : TI} (hu : P.underlying t = some (.slice e)) (hE : TyOk P e te) (hκ : te.kd = some κ) (hby : ¬ (te.bytes = 0 ∨ te.size = 0))
    {u : Value} {lx : List κ.T} {j : Option Bool} (hs : SrcR P (ctx st G w frz imm) κ u lx j (hfp H1)) (hbd : (l.length + lx.length) * te.bytes ≤ 140737488355328) :
    ∃ v' w' frz' imm' fp', (Builtin.append_ #[t, t] ty #[v, u]).run P w = .ok v' w' ∧ Rep W st w' tm G (⟨.sl (mdJoin m j) e κ (l ++ lx), v', fp'⟩ :: H) frz' imm' ∧ Ext w frz imm w' frz' imm' := by
  have rc := h.held _ List.mem_cons_self
  have hfpc : ∀ b, (hfp (⟨.sl m e κ l, v, fp⟩ :: H1)).count b = fp.count b + (hfp H1).count b := fun b => by simp [hfp]
  have hown : ∀ b, ownc G ((⟨.sl m e κ l, v, fp⟩ :: H1) ++ H) b = fp.count b + (hfp H1).count b + ownc G H b := fun b => by rw [ownc_app]; have := hfpc b; unfold hfp at this; unfold hfp; omega
  have hone : ∀ b, fp.count b + (hfp H1).count b ≤ 1 := fun b => by have := h.one b; have q := hown b; rw [List.cons_append] at q; omega
  have hHi : ∀ y ∈ hfp H1, y ∉ fp.take 1 := fun y hy hy2 => by
    have c1 := List.count_pos_iff.2 hy
    have c2 := List.count_pos_iff.2 (List.mem_of_mem_take hy2)
    have := hone y; omega
  rcases isOwn_join (j := j) hmo with ⟨q1, q2, q3⟩ | ⟨k, q1, q2, q3⟩
  · subst q1 q2
    rw [q3]
    obtain ⟨us, fpx, s1, s2, _, _⟩ := hs true (.inl rfl)
    refine app_turn (HA := ⟨.sl .own e κ l, v, fp⟩ :: H1) h hu hE hκ hby (on := true) rc s1 hbd (.inl ⟨rfl, rfl, fun b => ?_⟩)
    have := s2 rfl b
    rw [List.count_append]
    exact Nat.le_trans (Nat.add_le_add_left this _) (Nat.le_of_eq (hfpc b).symm)
  · rw [q1]
    obtain ⟨us, fpx, s1, s2, s3, _⟩ := hs false (.inr rfl)
    have hfx : ∀ y ∈ fpx.flatten, (y ∈ hfp (⟨.sl m e κ l, v, fp⟩ :: H1) ∧ y ∉ fp.take 1) ∨ (ctx st G w frz imm).S k y := fun y hy => by
      cases hj : j with
      | none =>
        left
        have c1 := s2 hj y
        have c2 := List.count_pos_iff.2 hy
        have hm : y ∈ hfp H1 := List.count_pos_iff.1 (by omega)
        exact ⟨by simp only [hfp, List.map_cons, List.flatten_cons]; exact List.mem_append_right _ hm, hHi y hm⟩
      | some t' => exact .inr (S_bears h.fi (q3 t' hj) (s3 t' hj y hy))
    cases m with
    | own =>
      have rc : RdS w true (Rd w true κ) κ.n e v l fp := rc
      have hv : RdS w true (Rd w false κ) κ.n e v l fp := rc.imp (fun q => q) (Nat.le_refl _) (fun _ _ => rfl) (fun g x f _ hx g' hg => Rd.frame (fun q => by cases q) (Nat.le_refl _) κ g g' x f hx (fun _ _ => rfl) (fun j _ => hg j))
      refine app_turn (HA := ⟨.sl .own e κ l, v, fp⟩ :: H1) h hu hE hκ hby (on := false) hv s1 hbd (.inr ⟨k, rfl, rfl, fun b => ?_, fun y hy => ?_⟩)
      · have := (List.take_sublist 1 fp).count_le b
        exact Nat.le_trans this (Nat.le_trans (Nat.le_add_right _ _) (Nat.le_of_eq (hfpc b).symm))
      · rcases List.mem_append.1 hy with hy | hy
        · left
          have c0 := count_take_drop fp y
          have c1 : 1 ≤ (fp.drop 1).count y := List.count_pos_iff.2 (by rw [List.drop_one]; exact hy)
          have := hone y
          exact ⟨by simp only [hfp, List.map_cons, List.flatten_cons]; exact List.mem_append_left _ (List.mem_of_mem_tail hy), fun q => by have := List.count_pos_iff.2 q; omega⟩
        · exact hfx y hy
    | mix b =>
      obtain ⟨fp0, r1, r2, r3⟩ := rc
      have r1 : RdS w true (Rd w false κ) κ.n e v l fp0 := r1
      have r2 : fp = fp0.take 1 := r2
      have r22 : fp.take 1 = fp := by rw [r2, List.take_take]; rfl
      refine app_turn (HA := ⟨.sl (.mix b) e κ l, v, fp⟩ :: H1) h hu hE hκ hby (on := false) r1 s1 hbd (.inr ⟨k, rfl, rfl, fun b => ?_, fun y hy => ?_⟩)
      · rw [← r2]
        exact Nat.le_trans (Nat.le_add_right _ _) (Nat.le_of_eq (hfpc b).symm)
      · rcases List.mem_append.1 hy with hy | hy
        · exact .inr (S_bears h.fi (q2 b rfl) (r3 y (by rw [List.drop_one]; exact hy)))
        · rw [← r2]
          exact (hfx y hy).imp (fun q => ⟨q.1, by rw [← r22]; exact q.2⟩) id
    | imm b => cases hmo

theorem napp_run (hT : TabOk P T) {t e ty : TypeId} {κ : Kd} {te : TI} (hu : P.underlying t = some (.slice e)) (hE : TyOk P e te) (hκ : te.kd = some κ) (hby : ¬ (te.bytes = 0 ∨ te.size = 0)) (hflat : κ.flat = true)
    (h : Rep W st w tm G [] frz imm) {o c : Nat} {i : Int} {k rv nv : Nat} {v : Value} (hv : SrR (ctx st G w frz imm) o c (some (i, k)) rv nv none v) {e1 : TypeId} {κ1 : Kd} {l1 : List κ1.T} {s : Sub κ1}
    (ho : o < st.objs.length) (hrv : st.objs[o].rv = rv) (hnv : st.objs[o].nv = nv) (hcell : st.objs[o].cells.getD c .dead = .sl .own e1 κ1 l1) (hs : κ1.sub k = some s) (hse : s.e = e) (hsκ : s.κ' = κ)
    {u : Value} {lx : List κ.T} {j : Option Bool} {h0 : List Nat} (hx : SrcR P (ctx st G w frz imm) κ u lx j h0) (hj : j = none) (hbd : ((s.get (rdOf κ1.dflt l1 i)).length + lx.length) * te.bytes ≤ 140737488355328) {d : Nat} (hd : d ≠ o)
    (hreal : (st.objs.getD d Ob.none).real = false) :
    ∃ v' w' G', (Builtin.append_ #[t, t] ty #[v, u]).run P w = .ok v' w' ∧
      Rep W ⟨st.slots.set d (.nr d ((st.objs.getD d Ob.none).rv + 1)), (st.objs.set o (bumped st.objs[o])).set d ⟨false, [.napp o c i k rv (nv + 1) e κ ((hsκ ▸ s.get (rdOf κ1.dflt l1 i) : List κ.T) ++ lx)], (st.objs.getD d Ob.none).rv + 1, (st.objs.getD d Ob.none).nv + 1⟩⟩ w'
        (tm.setIfInBounds d v') G' [] frz imm ∧ Ext w frz imm w' frz imm := by
  subst hse hsκ
  have hG : o < G.length := by rw [h.len]; exact ho
  obtain ⟨hc, hce⟩ := getD_some hcell (by simp)
  obtain ⟨r1, r2, r3, r4, r5⟩ := h.objs o ho hG
  have hh : c < G[o].hd.length := by rw [r1]; exact hc
  have hf : c < G[o].fps.length := by rw [r2]; exact hc
  have rc := r3 c hc hh hf
  rw [hce] at rc
  have rc : RdS w true (Rd w true κ1) κ1.n e1 G[o].hd[c] l1 G[o].fps[c] := rc
  obtain ⟨hvs, ob, g, s1, s2, s3, s4, s5⟩ := hv
  have x1 : ob = st.objs[o] := by simp only at s1; rw [List.getElem?_eq_getElem ho] at s1; injection s1 with s1; exact s1.symm
  have x2 : g = G[o] := by simp only at s2; rw [List.getElem?_eq_getElem hG] at s2; injection s2 with s2; exact s2.symm
  subst x1 x2
  obtain ⟨m', e', κ', l', s', b, off, len, cap, hv, t1, t2, t3, t4, t5, t6, t7⟩ := s5 hrv hnv
  rw [hcell] at t1
  injection t1 with u1 u2 u3 u4
  subst u1 u2 u3
  have u4 := eq_of_heq u4
  subst u4
  rw [hs] at t2
  injection t2 with t2
  subst t2
  have t3' := t3
  rw [List.getElem?_eq_getElem hh] at t3'
  injection t3' with t3'
  have t7 : v = hv := t7
  subst t7
  obtain ⟨hv1, fp1, z1, z2, z3, _⟩ := RdS.nested rc t4 t5 hs t3'
  have t6 : w.cell? ⟨b, off + i.toNat * κ1.n + k, none⟩ = some v := t6
  rw [t6] at z1
  injection z1 with z1
  subst z1
  obtain ⟨us, fpx, src, _, _, sfl⟩ := hx true (.inl hj)
  have sfl := sfl hflat
  have hrd : st.objs.getD d Ob.none = (st.objs.set o (bumped st.objs[o])).getD d Ob.none := by
    rw [List.getD_eq_getElem?_getD, List.getD_eq_getElem?_getD, List.getElem?_set_ne (Ne.symm hd)]
  -- the end: what is held is laid into the slot's object
  have fin : ∀ (v' : Value) (w' : World) (fp' : List Nat), (Builtin.append_ #[t, t] ty #[v, u]).run P w = .ok v' w' → Rep W ⟨st.slots, st.objs.set o (bumped st.objs[o])⟩ w' tm G [] frz imm → Ext w frz imm w' frz imm → (∃ a n c, v' = .slice a n c) →
      (fp' = [] ∨ ∃ nb, fp' = [nb] ∧ nb < w'.heap.size ∧ ownc G [] nb = 0 ∧ ¬ imm nb) →
      (RdS w' true (Rd w' true s.κ') s.κ'.n s.e v' (s.get (rdOf κ1.dflt l1 i) ++ lx) fp' ∨ (fp' = [] ∧ ∃ g1 off1 len1 cap1, w'.cell? ⟨b, off + i.toNat * κ1.n + k, none⟩ = some (.slice (some ⟨g1, off1, none⟩) len1 cap1) ∧ 0 < cap1 ∧ RdS w' true (Rd w' true s.κ') s.κ'.n s.e v' (s.get (rdOf κ1.dflt l1 i) ++ lx) [g1])) →
      ∃ v' w' G', (Builtin.append_ #[t, t] ty #[v, u]).run P w = .ok v' w' ∧
        Rep W ⟨st.slots.set d (.nr d ((st.objs.getD d Ob.none).rv + 1)), (st.objs.set o (bumped st.objs[o])).set d ⟨false, [.napp o c i k rv (nv + 1) s.e s.κ' (s.get (rdOf κ1.dflt l1 i) ++ lx)], (st.objs.getD d Ob.none).rv + 1, (st.objs.getD d Ob.none).nv + 1⟩⟩ w'
          (tm.setIfInBounds d v') G' [] frz imm ∧ Ext w frz imm w' frz imm := by
    intro v' w' fp' f1 f2 f3 f4 f5 f6
    have hobj : (st.objs.set o (bumped st.objs[o]))[o]? = some (bumped st.objs[o]) := by simp [ho]
    obtain ⟨_, q2, _⟩ := Rep.turn (H1 := []) (H := []) f2 (w' := w') f2.base (Nat.le_refl _) (fun _ _ => rfl) (a := .napp o c i k rv (nv + 1) s.e s.κ' (s.get (rdOf κ1.dflt l1 i) ++ lx)) (v := v') (fp := fp') (fun _ => False) (fun b => by
      rcases f5 with f5 | ⟨nb, f5, f7, f8, f9⟩
      · rw [f5]; exact .inl (by simp)
      · rw [f5]
        by_cases hb : b = nb
        · subst hb; exact .inr ⟨by simp, f7, f8, f9⟩
        · left; rw [List.count_singleton]; simp [Ne.symm hb]) (fun y hy => hy.elim) (by
      refine ⟨bumped st.objs[o], G[o], hobj, s2, s3, by simp only [bumped]; omega, fun _ _ => ⟨hflat, ?_⟩⟩
      rcases f6 with f6 | ⟨f6, g1, off1, len1, cap1, f7, fp0, f8⟩
      · exact .inl f6
      · refine .inr ⟨f6, fun e2 κ2 l2 hcc => ?_⟩
        have hcc : st.objs[o].cells.getD c .dead = .sl .own e2 κ2 l2 := hcc
        rw [hcell] at hcc
        injection hcc with u1 u2 u3 u4
        subst u2 u3
        have u4 := eq_of_heq u4
        subst u4
        exact ⟨s, b, off, len, cap, g1, off1, len1, cap1, hs, t3, t4, t5, f7, fp0, f8⟩)
    have hfrz : (fun y => frz y ∨ False) = frz := by funext y; simp
    have himm : (fun y => imm y ∨ False) = imm := by funext y; simp
    rw [hfrz, himm] at q2
    obtain ⟨G2, q3⟩ := newN_run (d := d) q2 f4 (by simp only; rw [← hrd]; exact hreal)
    simp only [← hrd] at q3
    exact ⟨v', w', G2, f1, q3, f3⟩
  have hgrow : ∀ cap' cs, (Builtin.append_ #[t, t] ty #[v, u]).run P w = .ok (.slice (some ⟨w.heap.size, 0, none⟩) (s.get (rdOf κ1.dflt l1 i) ++ lx).length cap') (w.drew.alloc (.cells cs s.e)) →
      RdS (w.drew.alloc (.cells cs s.e)) true (Rd (w.drew.alloc (.cells cs s.e)) true s.κ') s.κ'.n s.e (.slice (some ⟨w.heap.size, 0, none⟩) (s.get (rdOf κ1.dflt l1 i) ++ lx).length cap') (s.get (rdOf κ1.dflt l1 i) ++ lx) [w.heap.size] → _ := fun cap' cs c1 c2 => by
    have hb := Below.drewAlloc w (.cells cs s.e)
    obtain ⟨_, gr⟩ := h.grow hb
    have hlt : w.heap.size < (w.drew.alloc (.cells cs s.e)).heap.size := (Array.getElem?_eq_some_iff.1 (heap_alloc_new w.drew (.cells cs s.e))).1
    exact fin _ _ [w.heap.size] c1 (bump_run gr ho hG) ⟨hb.size, fun b hb' => hb.block b (h.ilt b hb'), fun _ q => q, fun _ q => q, fun _ q => .inl q⟩ ⟨_, _, _, rfl⟩
      (.inr ⟨_, rfl, hlt, by have := h.olt w.heap.size; omega, fun q => Nat.lt_irrefl _ (h.ilt _ q)⟩) (.inl c2)
  rcases z2 with ⟨y1, y2, a, cc, y3, y4⟩ | ⟨g1, off1, cap1, fps1, y1, y2, y3, y4, y40, y5, y6⟩
  · have y5 := y4 rfl
    subst y3 y5
    by_cases hz : lx.length = 0
    · have hlx : lx = [] := List.eq_nil_of_length_eq_zero hz
      have e1 := src.len w
      have e2 := src.get w rfl
      rw [hz] at e1 e2
      have hus : us = [] := List.eq_nil_of_length_eq_zero (by rw [src.l1, hz])
      obtain ⟨i', z, i1, i2, _⟩ := hE.info
      have hkn : te.size = s.κ'.n := by rw [← hE.len, hE.kd _ hκ, Kd.cks_len]
      have hrun : (Builtin.append_ #[t, t] ty #[.slice a 0 0, u]).run P w = .ok (.slice a 0 0) w := by
        cases a <;> simp [Builtin.append_, run_underlying hu, sizeOf, typeInfo, i1, i2, hkn, e1, e2, storeCells, hus]
      refine fin _ w [] hrun (bump_run h ho hG) (Ext.refl _ _ _) ⟨_, _, _, rfl⟩ (.inl rfl) (.inl ?_)
      rw [y1, hlx]
      exact .inl ⟨rfl, rfl, a, 0, rfl, fun _ => rfl⟩
    · have hvn : RdS w true (Rd w true s.κ') s.κ'.n s.e (.slice a (s.get (rdOf κ1.dflt l1 i)).length 0) (s.get (rdOf κ1.dflt l1 i)) [] := .inl ⟨y1, rfl, a, 0, by rw [y1]; rfl, fun _ => rfl⟩
      obtain ⟨cap', cs, c1, c2⟩ := app_grown (ty := ty) hu hE hκ hby hvn src (by rw [y1]; simp; omega) hbd
      rw [sfl] at c2
      refine hgrow cap' cs ?_ c2
      rw [← c1, y1]; rfl
  · subst y1
    have hfps : fps1.flatten = [] := by
      rw [List.flatten_eq_nil_iff]
      intro f hf'
      obtain ⟨x, hx, rfl⟩ := List.getElem_of_mem hf'
      exact Rd.flat _ _ _ _ hflat (y6 x (by omega) hx)
    by_cases hroom : (s.get (rdOf κ1.dflt l1 i)).length + lx.length ≤ cap1
    · obtain ⟨cur, c1, c2, c3⟩ := y5 rfl
      obtain ⟨cs, p1, p2, p3⟩ := app_place (ty := ty) hu hE hκ hby y3 c1 c2 c3 y6 src (by rw [hfps]; simp) (by rw [sfl]; simp) hroom
      rw [hfps] at p3
      rw [hfps, sfl] at p2
      have hsz : (w.setRow g1 cs).heap.size = w.heap.size := by simp
      have hoth : ∀ x, x ≠ g1 → (w.setRow g1 cs).heap[x]? = w.heap[x]? := fun x hx => setRow_other w g1 x cs hx
      have hbg : b ≠ g1 := by
        -- the row's block and the nested one are two
        intro q
        rcases rc with ⟨q1, _⟩ | ⟨g', off', cap', fps0, b1, b2, b3, b4, b40, b5, b6⟩
        · rw [q1] at t5; simp only [List.length_nil] at t5; omega
        · rw [t3'] at b1
          injection b1 with b1 _ _
          injection b1 with b1
          injection b1 with b1 _
          subst b1
          have hz := z3 g1 (by rw [y2]; exact List.mem_cons_self)
          rw [b2] at hz
          have hz : b ∈ fps0.flatten := by rw [q]; exact hz
          have h1 : 2 ≤ G[o].fps[c].count b := by
            rw [b2, List.count_cons_self]
            have := List.count_pos_iff.2 hz; omega
          have h2 := own_set G[o] c hf [] b
          have h3 := ownc_set G [] o ⟨none, [], []⟩ hG b
          have h4 : (Gh.own ⟨none, [], []⟩).count b = 0 := by simp [Gh.own]
          have h5 := h.one b
          simp only [List.count_nil] at h2
          omega
      by_cases hc0 : 0 < cap1
      · obtain ⟨k1, k2⟩ := keepSub_run h ho hG hc hce t4 t5 t3 hs hflat t6 hc0 hsz hoth (fun hW => Below.setRow' h.base hW _) (fun _ => p3)
        refine fin _ _ [] p1 k1 k2 ⟨_, _, _, rfl⟩ (.inl rfl) (.inr ⟨rfl, g1, off1, (s.get (rdOf κ1.dflt l1 i)).length, cap1, ?_, hc0, p2⟩)
        exact (World.cell?_of_block (w := w) (a := ⟨b, off + i.toNat * κ1.n + k, none⟩) (hoth b hbg)).trans t6
      · have hl0 : (s.get (rdOf κ1.dflt l1 i)) = [] := List.eq_nil_of_length_eq_zero (by omega)
        have hx0 : lx = [] := List.eq_nil_of_length_eq_zero (by omega)
        have hus : us = [] := List.eq_nil_of_length_eq_zero (by rw [src.l1, hx0]; rfl)
        have hcap0 : cap1 = 0 := by omega
        obtain ⟨i', z, i1, i2, _⟩ := hE.info
        have hkn : te.size = s.κ'.n := by rw [← hE.len, hE.kd _ hκ, Kd.cks_len]
        have e1 := src.len w
        have e2 := src.get w rfl
        rw [hx0] at e1 e2
        have hrun : (Builtin.append_ #[t, t] ty #[.slice (some ⟨g1, off1, none⟩) (s.get (rdOf κ1.dflt l1 i)).length cap1, u]).run P w = .ok (.slice (some ⟨g1, off1, none⟩) 0 0) w := by
          rw [hl0, hcap0]
          simp at e1 e2
          simp [Builtin.append_, run_underlying hu, sizeOf, typeInfo, i1, i2, hkn, e1, e2, storeCells, hus]
        refine fin _ w [] hrun (bump_run h ho hG) (Ext.refl _ _ _) ⟨_, _, _, rfl⟩ (.inl rfl) (.inl ?_)
        rw [hl0, hx0]
        exact .inl ⟨rfl, rfl, _, 0, rfl, fun _ => rfl⟩
    · have hvn : RdS w true (Rd w true s.κ') s.κ'.n s.e (.slice (some ⟨g1, off1, none⟩) (s.get (rdOf κ1.dflt l1 i)).length cap1) (s.get (rdOf κ1.dflt l1 i)) fp1 := .inr ⟨g1, off1, cap1, fps1, rfl, y2, y3, y4, y40, y5, y6⟩
      obtain ⟨cap', cs, c1, c2⟩ := app_grown (ty := ty) hu hE hκ hby hvn src (by omega) hbd
      rw [sfl, y2] at c2
      simp only [List.tail_cons, hfps, List.append_nil] at c2
      exact hgrow cap' cs c1 c2
theorem append_run (hT : TabOk P T) {t ty : TypeId} {x y : AV} {d : Option Tmp} {v u : Value} {r : Unit × St} (h : Rep W st w tm G [] frz imm) (hr : (appP T t x y d).run st = some r) (hv : R2 (ctx st G w frz imm) x v) (hu : R2 (ctx st G w frz imm) y u) :
    ∃ d' st' v' w' G' frz' imm', d = some d' ∧ r = ((), st') ∧ (Builtin.append_ #[t, t] ty #[v, u]).run P w = .ok v' w' ∧ Rep W st' w' (tm.setIfInBounds d' v') G' [] frz' imm' ∧ Ext w frz imm w' frz' imm' := by
  unfold appP at hr
  split at hr
  · cases hr
  rename_i ti ht
  split at hr
  · cases hr
  rename_i e he
  split at hr
  · cases hr
  rename_i te hte
  split at hr
  · cases hr
  rename_i κ hκ
  split at hr
  · cases hr
  rename_i hby
  have hti := hT.ty t ti ht
  have hE := hT.ty e te hte
  have hsl := hti.elem e he
  have hkn : te.size = κ.n := by rw [← hE.len, hE.kd κ hκ, Kd.cks_len]
  obtain ⟨lx, j, st1, G1, H1, k1, k2, k3, k4, k5⟩ := srcP_run (P := P) (by omega) h hr hu
  have hv := R2.le k3 h.len hv
  split at k1
  · obtain ⟨b1, k6⟩ := run_bnd k1
    have b1 := of_decide_eq_true b1
    have hv : v = .slice none 0 0 := hv
    have hz : ∀ b, ownc G1 (⟨.sl .own e κ [], v, []⟩ :: (H1 ++ [])) b = ownc G1 (H1 ++ []) b := fun b => by rw [ownc_cons]; simp
    have k7 : Rep W st1 w tm G1 (⟨.sl .own e κ [], v, []⟩ :: (H1 ++ [])) frz imm := { k4 with
      held := fun q hq => by
        rcases List.mem_cons.1 hq with rfl | hq
        · exact .inl ⟨rfl, rfl, none, 0, hv, fun _ => rfl⟩
        · exact k4.held q hq
      one := fun b => by rw [hz]; exact k4.one b
      apart := fun b hb => by rw [hz]; exact k4.apart b hb
      olt := fun b hb => k4.olt b (by rw [hz] at hb; exact hb) }
    obtain ⟨v', w', f', i', fp', c1, c2, c3⟩ := app_case (ty := ty) k7 rfl hsl hE hκ hby k5 (by simpa using b1)
    obtain ⟨d', st', G', z1, z2, z3⟩ := newV_run c2 (by simpa [mdJoin] using k6)
    exact ⟨d', st', v', w', G', f', i', z1, z2, c1, z3, c3⟩
  · rename_i o c rv nv rng
    obtain ⟨m, e', κ', l, st2, G2, fp, h1, h2, h3, h4, h5⟩ := take_run k4 k1 hv
    split at h2
    · rename_i hee
      subst hee
      split at h2
      · rename_i hκκ
        subst hκκ
        obtain ⟨b1, k6⟩ := run_bnd h2
        have b1 := of_decide_eq_true b1
        obtain ⟨v', w', f', i', fp', c1, c2, c3⟩ := app_case (ty := ty) h5 h1 hsl hE hκ hby k5 b1
        obtain ⟨d', st', G', z1, z2, z3⟩ := newV_run c2 k6
        exact ⟨d', st', v', w', G', f', i', z1, z2, c1, z3, c3⟩
      · cases h2
    · cases h2
  · rename_i o c i k rv nv _
    obtain ⟨ho, m, e', κ', l, c1, c2, c3⟩ := content_run k1
    obtain ⟨c4, s, c5, c6⟩ := c3
    split at c6
    · rename_i hm
      obtain ⟨m1, m2, m3⟩ := hm
      split at c6
      · rename_i hκκ
        split at c6
        · rename_i d
          split at c6
          · rename_i hflat
            obtain ⟨b1, k6⟩ := run_bnd c6
            have b1 := of_decide_eq_true b1
            rw [run_obj] at k6
            split at k6
            · rename_i hd
              rw [run_setObj, run_setObj, run_setSlot] at k6
              have hmo : m = .own := by cases m <;> simp [Md.nest] at m1 ⊢
              subst hmo
              have k4' : Rep W st1 w tm G1 [] frz imm := by
                have : ∀ (L : List Hd), Rep W st1 w tm G1 (L ++ []) frz imm → Rep W st1 w tm G1 [] frz imm := by
                  intro L
                  induction L with
                  | nil => exact id
                  | cons q L ih => exact fun q => ih q.drop
                exact this H1 k4
              obtain ⟨v', w', G', n1, n2, n3⟩ := napp_run (ty := ty) hT hsl hE hκ hby hflat k4' hv ho c1 c4 c2 c5 m3 hκκ k5 m2 (by
                subst hκκ; exact b1) hd.2 hd.1
              injection k6 with k6
              refine ⟨d, _, v', w', G', frz, imm, rfl, k6.symm, n1, ?_, n3⟩
              exact n2
            · cases k6
          · cases c6
        · cases c6
      · cases c6
    · cases c6
  · cases k1

theorem toList2 {α : Type} {a : Array α} {x y : α} (h : a.toList = [x, y]) : a = #[x, y] := by
  apply Array.ext'; rw [h]
theorem toList1 {α : Type} {a : Array α} {x : α} (h : a.toList = [x]) : a = #[x] := by
  apply Array.ext'; rw [h]
theorem exec_builtin {a : Act} {o : Oper} {c : Call} (h : o.op = .call c) {b : Builtin} (hc : c.callee = .builtin b) (w : World) :
    ∃ cs, (execOp a.eval o).run P w = (Go.builtin b c.argTypes o.type cs (c.args.map a.eval)).run P w := by
  refine ⟨c.args.map (fun | .const _ => true | _ => false), ?_⟩
  simp only [execOp, h, resolve, hc, invoke, Sem.run_bind, Sem.run_pure, Result.andThen_ok]
  rfl
end

theorem append_ok (hT : TabOk P T) {o : Oper} {c : Call} (h : o.op = .call c) (hc : c.callee = .builtin .append) : StepOk P W o (prgOf T Γ o) := mem_ok fun st w a G frz imm r hrep hr => by
  simp only [prgOf, h, hc] at hr
  split at hr
  · rename_i s x t t' hargs htypes
    split at hr
    · rename_i htt
      subst htt
      obtain ⟨av, k1, k2⟩ := opv_run hrep hr
      obtain ⟨bv, k3, k4⟩ := opv_run hrep k1
      obtain ⟨d', st', v', w', G', f', i', q1, q2, q3, q4, q5⟩ := append_run (ty := o.type) hT hrep k3 k2 k4
      refine ⟨st', v', w', G', f', i', q2, ?_, by rw [q1]; exact q4, q5⟩
      obtain ⟨cs, hcs⟩ := exec_builtin (P := P) (a := a) h hc w
      rw [hcs, toList2 hargs, toList2 htypes]
      simp [Go.builtin, q3]
    · cases hr
  · cases hr

theorem len_ok (hT : TabOk P T) {o : Oper} {c : Call} (h : o.op = .call c) (hc : c.callee = .builtin .len) : StepOk P W o (prgOf T Γ o) := pure_ok fun st w a G frz imm r hrep hr => by
  simp only [prgOf, h, hc] at hr
  split at hr
  · rename_i x t hargs htypes
    obtain ⟨av, k1, k2⟩ := opv_run hrep hr
    obtain ⟨n, q1, q2⟩ := len_run hT hrep k1 k2
    refine ⟨_, _, q1, rfl, ?_⟩
    obtain ⟨cs, hcs⟩ := exec_builtin (P := P) (a := a) h hc w
    rw [hcs, toList1 hargs, toList1 htypes]
    have : (Builtin.len_ #[t] o.type #[a.eval x]).run P w = .ok (.int .i64 n) w := q2
    simp [Go.builtin, this]
  · cases hr

theorem min_ok {o : Oper} {c : Call} (h : o.op = .call c) (hc : c.callee = .builtin .min) : StepOk P W o (prgOf T Γ o) := pure_ok fun st w a G frz imm r hrep hr => by
  simp only [prgOf, h, hc] at hr
  split at hr
  · rename_i x y hargs
    obtain ⟨av, k1, k2⟩ := opv_run hrep hr
    obtain ⟨bv, k3, k4⟩ := opv_run hrep k1
    split at k3
    · rename_i k n k' n'
      have k2 : a.eval x = .int k n := k2
      have k4 : a.eval y = .int k' n' := k4
      refine ⟨_, _, k3, rfl, ?_⟩
      obtain ⟨cs, hcs⟩ := exec_builtin (P := P) (a := a) h hc w
      rw [hcs, toList2 hargs]
      simp [Go.builtin, Builtin.min_, k2, k4, Builtin.min2, mn]
    · cases k3
  · cases hr
theorem max_ok {o : Oper} {c : Call} (h : o.op = .call c) (hc : c.callee = .builtin .max) : StepOk P W o (prgOf T Γ o) := pure_ok fun st w a G frz imm r hrep hr => by
  simp only [prgOf, h, hc] at hr
  split at hr
  · rename_i x y hargs
    obtain ⟨av, k1, k2⟩ := opv_run hrep hr
    obtain ⟨bv, k3, k4⟩ := opv_run hrep k1
    split at k3
    · rename_i k n k' n'
      have k2 : a.eval x = .int k n := k2
      have k4 : a.eval y = .int k' n' := k4
      refine ⟨_, _, k3, rfl, ?_⟩
      obtain ⟨cs, hcs⟩ := exec_builtin (P := P) (a := a) h hc w
      rw [hcs, toList2 hargs]
      simp [Go.builtin, Builtin.max_, k2, k4, Builtin.max2, mx]
    · cases k3
  · cases hr
end Go.Eva
end
section
/- What is handed over at a call: the callee's view of memory. -/
namespace Go.Eva
set_option linter.unusedVariables false
set_option linter.unusedSimpArgs false
variable {P : Program} {W : Root} {T : Tab} {Γ : Gam}

/-! ### Sums over some of a list -/
theorem range_split (g : Nat → Nat) (o : Nat) : ∀ n, o < n → ((List.range n).map g).sum = g o + ((List.range n).map fun i => if i = o then 0 else g i).sum
  | 0, h => absurd h (Nat.not_lt_zero _)
  | n + 1, h => by
    rw [List.range_succ, List.map_append, List.map_append, List.sum_append, List.sum_append]
    simp only [List.map_cons, List.map_nil, List.sum_cons, List.sum_nil, Nat.add_zero]
    by_cases e : n = o
    · subst e
      rw [if_pos rfl]
      have : ((List.range n).map fun i => if i = n then 0 else g i) = (List.range n).map g := by
        apply List.map_congr_left
        intro i hi
        rw [if_neg (by have := List.mem_range.1 hi; omega)]
      rw [this]; omega
    · rw [range_split g o n (by omega), if_neg e]; omega
theorem sel_le (g : Nat → Nat) (n : Nat) : ∀ (ids : List Nat) (h : Nat → Nat), ids.Nodup → (∀ o ∈ ids, o < n) → (∀ i, h i ≤ g i) → (ids.map h).sum ≤ ((List.range n).map g).sum
  | [], h, _, _, _ => by simp
  | o :: ids, h, hn, hl, hh => by
    rw [List.nodup_cons] at hn
    rw [range_split g o n (hl o List.mem_cons_self), List.map_cons, List.sum_cons]
    have := sel_le (fun i => if i = o then 0 else g i) n ids (fun i => if i = o then 0 else h i) hn.2 (fun x hx => hl x (List.mem_cons_of_mem _ hx)) (fun i => by by_cases q : i = o <;> simp [q, hh])
    have e : ids.map (fun i => if i = o then 0 else h i) = ids.map h := by
      apply List.map_congr_left
      intro i hi
      rw [if_neg (fun q => hn.1 (by rw [← q]; exact hi))]
    rw [e] at this
    have := hh o
    omega
theorem out_le (g : Nat → Nat) (n : Nat) : ∀ (ids : List Nat), ids.Nodup → (∀ o ∈ ids, o < n) → (∀ i, i < n → i ∉ ids → g i = 0) → ((List.range n).map g).sum ≤ (ids.map g).sum
  | [], _, _, hz => by
    have : ((List.range n).map g).sum = 0 := by
      rw [List.sum_eq_zero_iff_forall_eq_nat]
      intro x hx
      obtain ⟨i, hi, rfl⟩ := List.mem_map.1 hx
      exact hz i (List.mem_range.1 hi) (by simp)
    omega
  | o :: ids, hn, hl, hz => by
    rw [List.nodup_cons] at hn
    rw [range_split g o n (hl o List.mem_cons_self), List.map_cons, List.sum_cons]
    have := out_le (fun i => if i = o then 0 else g i) n ids hn.2 (fun x hx => hl x (List.mem_cons_of_mem _ hx)) (fun i hi hni => by
      by_cases q : i = o
      · simp [q]
      · simp only [if_neg q]; exact hz i hi (by simp [q, hni]))
    have e : ids.map (fun i => if i = o then 0 else g i) = ids.map g := by
      apply List.map_congr_left
      intro i hi
      rw [if_neg (fun q => hn.1 (by rw [← q]; exact hi))]
    rw [e] at this
    omega
def ghd (G : List Gh) (o : Nat) : Gh := G.getD o ⟨none, [], []⟩
theorem sum_ghd (G : List Gh) (f : Gh → Nat) : (G.map f).sum = ((List.range G.length).map fun o => f (ghd G o)).sum := by
  have : G.map f = (List.range G.length).map fun o => f (ghd G o) := by
    apply List.ext_getElem (by simp)
    intro i h1 h2
    have hi : i < G.length := by simpa using h1
    simp [ghd, List.getD_eq_getElem?_getD, List.getElem?_eq_getElem hi]
  rw [this]

/-! ### Cells that speak of no object -/
def avUses : AV → Bool → Prop
  | .sl (.imm b) _ _ _, t => b = t
  | .sl (.mix b) _ _ _, t => b = t
  | _, _ => False
def avLoose : AV → Bool
  | .int _ _ => true
  | .bool _ => true
  | .str _ => true
  | .nilp => true
  | .nils => true
  | .sl _ _ _ _ => true
  | .dead => true
  | _ => false
theorem RC.move {C C' : Ctx} {a : AV} {v : Value} {fp : List Nat} (h : RC C a v fp) (ha : avLoose a = true) (hs : C.w.heap.size ≤ C'.w.heap.size) (hfp : ∀ b ∈ fp, C'.w.heap[b]? = C.w.heap[b]?)
    (hS : ∀ t b, avUses a t → C.S t b → C'.S t b ∧ C'.w.heap[b]? = C.w.heap[b]?) : RC C' a v fp := by
  cases a with
  | sl m e κ l =>
    cases m with
    | own => exact RdS.imp h (fun k => k) hs hfp (fun g x f hf hr g' hg => Rd.frame (fun k => k) hs κ g g' x f hr (fun b hb => hfp b (hf b hb)) (fun j _ => hg j))
    | mix b =>
      obtain ⟨fp0, h1, h2, h3⟩ := h
      have hall : ∀ x ∈ fp0, C'.w.heap[x]? = C.w.heap[x]? := by
        intro x hx
        rw [← List.take_append_drop 1 fp0] at hx
        rcases List.mem_append.1 hx with hx | hx
        · exact hfp x (by rw [h2]; exact hx)
        · exact (hS b x rfl (h3 x hx)).2
      exact ⟨fp0, h1.imp (fun k => k) hs hall (fun g x f hf hr g' hg => Rd.frame (fun k => k) hs κ g g' x f hr (fun b hb => hall b (hf b hb)) (fun j _ => hg j)), h2, fun x hx => (hS b x rfl (h3 x hx)).1⟩
    | imm b =>
      obtain ⟨h0, fp0, h1, h2⟩ := h
      have hall : ∀ x ∈ fp0, C'.w.heap[x]? = C.w.heap[x]? := fun x hx => (hS b x rfl (h2 x hx)).2
      exact ⟨h0, fp0, h1.imp (fun k => k) hs hall (fun g x f hf hr g' hg => Rd.frame (fun k => k) hs κ g g' x f hr (fun b hb => hall b (hf b hb)) (fun j _ => hg j)), fun x hx => (hS b x rfl (h2 x hx)).1⟩
  | int k n => exact h
  | bool b => exact h
  | str s => exact h
  | nilp => exact h
  | nils => exact h
  | dead => exact ⟨h.1, True.intro⟩
  | _ => cases ha

/-- What may lie in an object that is handed over. -/
def scPlain : Sc → Bool
  | .int _ => true
  | .bool => true
  | .str => true
  | .sl .own _ _ => true
  | .sl (.mix false) _ _ => true
  | .sl (.imm false) _ _ => true
  | _ => false
def avPlain : AV → Bool
  | .int _ _ => true
  | .bool _ => true
  | .str _ => true
  | .sl .own _ _ _ => true
  | .sl (.mix false) _ _ _ => true
  | .sl (.imm false) _ _ _ => true
  | _ => false
theorem avPlain.loose {a : AV} (h : avPlain a = true) : avLoose a = true := by
  cases a with
  | int => rfl
  | bool => rfl
  | str => rfl
  | sl => rfl
  | _ => cases h
theorem avPlain.uses {a : AV} (h : avPlain a = true) {t : Bool} (hu : avUses a t) : t = false := by
  cases a with
  | sl m e κ l =>
    cases m with
    | own => exact hu.elim
    | mix b => cases b; exact hu.symm; cases h
    | imm b => cases b; exact hu.symm; cases h
  | _ => exact (show False from hu).elim
theorem ofTs_len : ∀ (ss : List Sc) (x : Ts ss), (ofTs ss x).length = ss.length
  | [], _ => rfl
  | .int k :: r, x => congrArg (· + 1) (ofTs_len r x.2)
  | .bool :: r, x => congrArg (· + 1) (ofTs_len r x.2)
  | .str :: r, x => congrArg (· + 1) (ofTs_len r x.2)
  | .sl m e κ :: r, x => congrArg (· + 1) (ofTs_len r x.2)
  | .ep j c k :: r, x => congrArg (· + 1) (ofTs_len r x.2)
  | .ptr j c :: r, x => congrArg (· + 1) (ofTs_len r x.2)
  | .fn f caps :: r, x => congrArg (· + 1) (ofTs_len r x.2)
  | .nilp :: r, x => congrArg (· + 1) (ofTs_len r x.2)
/-- The shape of one cell. -/
def shp1 : Sc → AV → Prop
  | .int k, a => ∃ n, a = .int k n
  | .bool, a => ∃ b, a = .bool b
  | .str, a => ∃ s, a = .str s
  | .sl m e κ, a => ∃ l, a = .sl m e κ l
  | .ep j c k, a => ∃ i, a = .ep j c none 0 0 i k
  | .ptr j c, a => a = .ptr j c
  | .fn f caps, a => a = .fn f caps
  | .nilp, a => a = .nilp
theorem ofTs_shp : ∀ (ss : List Sc) (x : Ts ss) (i : Nat) (h : i < ss.length), ∃ a, (ofTs ss x)[i]? = some a ∧ shp1 ss[i] a
  | [], _, i, h => by cases h
  | s :: r, x, i, h => by
    cases i with
    | zero =>
      cases s with
      | int k => exact ⟨_, rfl, _, rfl⟩
      | bool => exact ⟨_, rfl, _, rfl⟩
      | str => exact ⟨_, rfl, _, rfl⟩
      | sl m e κ => exact ⟨_, rfl, _, rfl⟩
      | ep j c k => exact ⟨_, rfl, _, rfl⟩
      | ptr j c => exact ⟨_, rfl, rfl⟩
      | fn f caps => exact ⟨_, rfl, rfl⟩
      | nilp => exact ⟨_, rfl, rfl⟩
    | succ i =>
      have := ofTs_shp r x.2 i (by simpa using h)
      cases s <;> exact this
theorem shp_plain {s : Sc} {a : AV} (h : shp1 s a) (hs : scPlain s = true) : avPlain a = true := by
  cases s with
  | int k => obtain ⟨n, rfl⟩ := h; rfl
  | bool => obtain ⟨n, rfl⟩ := h; rfl
  | str => obtain ⟨n, rfl⟩ := h; rfl
  | sl m e κ =>
    obtain ⟨l, rfl⟩ := h
    cases m with
    | own => rfl
    | mix b => cases b; rfl; cases hs
    | imm b => cases b; rfl; cases hs
  | _ => cases hs

/-! ### The objects that are handed over -/
/-- Their ghosts: H holds their cells, one behind the other. -/
def ghO (G : List Gh) : List Nat → List (List Sc) → List Hd → List Gh
  | o :: os, ss :: sss, H => ⟨(ghd G o).addr, (H.take ss.length).map (·.v), (H.take ss.length).map (·.fp)⟩ :: ghO G os sss (H.drop ss.length)
  | _, _, _ => []
/-- Each is real, and its block holds what is held. -/
def LentAt (G : List Gh) (w : World) : List Nat → List (List Sc) → List Hd → Prop
  | o :: os, ss :: sss, H => (∃ b e, (ghd G o).addr = some b ∧ w.heap[b]? = some (.cells ((H.take ss.length).map (·.v)).toArray e (0, 0))) ∧ ss.length ≤ H.length ∧ LentAt G w os sss (H.drop ss.length)
  | [], [], H => H = []
  | _, _, _ => False

theorem ghO_len (G : List Gh) (w : World) : ∀ (ids : List Nat) (sss : List (List Sc)) (H : List Hd), LentAt G w ids sss H → (ghO G ids sss H).length = sss.length ∧ ids.length = sss.length
  | [], [], _, _ => ⟨rfl, rfl⟩
  | o :: os, ss :: sss, H, h => by
    obtain ⟨a, b⟩ := ghO_len G w os sss _ h.2.2
    exact ⟨by simp [ghO, a], by simp [b]⟩
theorem begO_len : ∀ (sss : List (List Sc)) (vs : List AV), (begO sss vs).length = sss.length
  | [], _ => rfl
  | ss :: r, vs => by simp [begO, begO_len r]
theorem ghO_addr (G : List Gh) (w : World) : ∀ (ids : List Nat) (sss : List (List Sc)) (H : List Hd), LentAt G w ids sss H → ∀ j (h : j < ids.length), ∃ g, (ghO G ids sss H)[j]? = some g ∧ g.addr = (ghd G ids[j]).addr
  | [], [], _, _, j, h => by cases h
  | o :: os, ss :: sss, H, hl, j, h => by
    cases j with
    | zero => exact ⟨_, rfl, rfl⟩
    | succ j =>
      obtain ⟨g, a, b⟩ := ghO_addr G w os sss _ hl.2.2 j (by simpa using h)
      exact ⟨g, by simpa [ghO] using a, b⟩
theorem ghO_count (G : List Gh) (w : World) (b : Nat) : ∀ (ids : List Nat) (sss : List (List Sc)) (H : List Hd), LentAt G w ids sss H →
    ((ghO G ids sss H).map fun g => g.own.count b).sum = (ids.map fun o => (ghd G o).addr.toList.count b).sum + (H.map fun h => h.fp.count b).sum
  | [], [], H, h => by
    have h : H = [] := h
    subst h; rfl
  | o :: os, ss :: sss, H, h => by
    have e := ghO_count G w b os sss _ h.2.2
    have e2 : (H.map fun h => h.fp.count b).sum = ((H.take ss.length).map fun h => h.fp.count b).sum + ((H.drop ss.length).map fun h => h.fp.count b).sum := by
      rw [← List.sum_append, ← List.map_append, List.take_append_drop]
    have e3 : (((H.take ss.length).map (·.fp)).flatten).count b = ((H.take ss.length).map fun h => h.fp.count b).sum := by
      rw [List.count_flatten, List.map_map]; rfl
    have e0 : (Gh.own ⟨(ghd G o).addr, (H.take ss.length).map (·.v), (H.take ss.length).map (·.fp)⟩).count b = (ghd G o).addr.toList.count b + ((H.take ss.length).map fun h => h.fp.count b).sum := by
      simp only [Gh.own, List.count_append, e3]
    simp only [ghO, List.map_cons, List.sum_cons]
    rw [e, e2, e0]
    omega
/-- Each object of the callee's view. -/
theorem ghO_ob {C : Ctx} (G : List Gh) : ∀ (ids : List Nat) (sss : List (List Sc)) (H : List Hd), LentAt G C.w ids sss H → (∀ x ∈ H, RC C x.a x.v x.fp) →
    ∀ j (h : j < (begO sss (H.map (·.a))).length) (h' : j < (ghO G ids sss H).length), ObR C (begO sss (H.map (·.a)))[j] (ghO G ids sss H)[j]
  | [], [], H, hl, _, j, h, _ => by simp [begO] at h
  | o :: os, ss :: sss, H, hl, hH, j, h, h' => by
    obtain ⟨⟨b, e, q1, q2⟩, q3, q4⟩ := hl
    cases j with
    | zero =>
      simp only [begO, ghO, List.getElem_cons_zero]
      refine ⟨by simp, by simp, fun i x y z => ?_, fun _ => ⟨b, e, q1, q2⟩, fun k => by cases k⟩
      have hi : i < H.length := by
        simp only [List.length_take, List.length_map] at x
        omega
      have := hH H[i] (List.getElem_mem hi)
      simpa using this
    | succ j =>
      have := ghO_ob (C := C) G os sss (H.drop ss.length) q4 (fun x hx => hH x (List.mem_of_mem_drop hx)) j (by simpa [begO] using h) (by simpa [ghO] using h')
      simpa [begO, ghO] using this

section
variable {st : St} {w : World} {tm : Array Value} {G : List Gh} {H : List Hd} {frz imm : Nat → Prop}

theorem ownc_ghd (G : List Gh) (H : List Hd) (b : Nat) : ownc G H b = (H.map fun h => h.fp.count b).sum + ((List.range G.length).map fun o => (ghd G o).own.count b).sum := by
  unfold ownc; rw [sum_ghd G fun g => g.own.count b]

/-- The callee's view: what is held, and some objects whose cells are held. -/
theorem Rep.hand {HA HO HA' : List Hd} (h : Rep W st w tm G (HA ++ HO) frz imm) {ids : List Nat} {sss : List (List Sc)} (hnd : ids.Nodup) (hlt : ∀ o ∈ ids, o < G.length) (hl : LentAt G w ids sss HO)
    (hp : ∀ x ∈ HO, avPlain x.a = true) {imm0 : Nat → Prop} (hi : ∀ b, imm b → imm0 b) (hi0 : ∀ b, imm0 b → imm b ∨ ∃ o, o < G.length ∧ o ∉ ids ∧ b ∈ (ghd G o).own) (hlen : HA'.length = HA.length)
    (hA : ∀ i (x : i < HA.length) (y : i < HA'.length), (HA'[i]).fp = (HA[i]).fp ∧ RC ⟨begO sss (HO.map (·.a)), ghO G ids sss HO, w, frz, imm0⟩ HA'[i].a HA'[i].v HA'[i].fp) (W' : Root) (hW : W'.toWorld = W.toWorld) (hpin : ∀ p ∈ W'.pins, ∃ g : Gh, (ghO G ids sss HO)[p.1]? = some g ∧ g.addr = some p.2) :
    Rep W' ⟨[], begO sss (HO.map (·.a))⟩ w #[] (ghO G ids sss HO) HA' frz imm0 := by
  obtain ⟨l1, l2⟩ := ghO_len G w ids sss HO hl
  have hfpe : (HA'.map fun h => h.fp) = HA.map fun h => h.fp := by
    apply List.ext_getElem (by simp [hlen])
    intro i h1 h2
    simp only [List.getElem_map]
    exact (hA i (by simpa using h2) (by simpa using h1)).1
  have hsum : ∀ b, (HA'.map fun h => h.fp.count b).sum = (HA.map fun h => h.fp.count b).sum := fun b => by
    have : HA'.map (fun h => h.fp.count b) = HA.map fun h => h.fp.count b := by
      have e1 : ∀ L : List Hd, L.map (fun h => h.fp.count b) = (L.map fun h => h.fp).map fun f => f.count b := fun L => by rw [List.map_map]; rfl
      rw [e1, e1, hfpe]
    rw [this]
  have hadr : ∀ o b, (ghd G o).addr.toList.count b ≤ (ghd G o).own.count b := fun o b => by simp only [Gh.own, List.count_append]; omega
  have hown : ∀ b, ownc (ghO G ids sss HO) HA' b ≤ ownc G (HA ++ HO) b := fun b => by
    have e1 : ownc (ghO G ids sss HO) HA' b = (HA'.map fun h => h.fp.count b).sum + ((ghO G ids sss HO).map fun g => g.own.count b).sum := rfl
    rw [e1, ghO_count G w b ids sss HO hl, hsum, ownc_ghd, List.map_append, List.sum_append]
    have := sel_le (fun o => (ghd G o).own.count b) G.length ids (fun o => (ghd G o).addr.toList.count b) hnd hlt (fun o => hadr o b)
    omega
  have hrest : ∀ b o, o < G.length → o ∉ ids → b ∈ (ghd G o).own → ownc (ghO G ids sss HO) HA' b = 0 := fun b o ho hno hb => by
    have e1 : ownc (ghO G ids sss HO) HA' b = (HA'.map fun h => h.fp.count b).sum + ((ghO G ids sss HO).map fun g => g.own.count b).sum := rfl
    have h1 := h.one b
    rw [ownc_ghd, List.map_append, List.sum_append] at h1
    rw [e1, ghO_count G w b ids sss HO hl, hsum]
    have hc := List.count_pos_iff.2 hb
    have h2 := range_split (fun o => (ghd G o).own.count b) o G.length ho
    have h3 := sel_le (fun i => if i = o then 0 else (ghd G i).own.count b) G.length ids (fun i => if i = o then 0 else (ghd G i).addr.toList.count b) hnd hlt (fun i => by by_cases q : i = o <;> simp [q, hadr])
    have e : ids.map (fun i => if i = o then 0 else (ghd G i).addr.toList.count b) = ids.map fun i => (ghd G i).addr.toList.count b := by
      apply List.map_congr_left
      intro i hi
      rw [if_neg (fun q => hno (by rw [← q]; exact hi))]
    rw [e] at h3
    omega
  have hfi : ∀ b, frz b → imm0 b := fun b hb => hi b (h.fi b hb)
  have hHO : ∀ x ∈ HO, RC ⟨begO sss (HO.map (·.a)), ghO G ids sss HO, w, frz, imm0⟩ x.a x.v x.fp := fun x hx =>
    RC.move (h.held x (List.mem_append_right _ hx)) (avPlain.loose (hp x hx)) (Nat.le_refl _) (fun _ _ => rfl) (fun t b _ hb => ⟨by cases t; exact hb; exact hi b hb, rfl⟩)
  refine {
    base := by have := h.base; rw [← hW] at this; exact this
    fi := hfi
    lo := fun b hb => h.lo b (by rw [← hW]; exact hb)
    ilt := fun b hb => ?_
    len := by rw [l1]; exact (begO_len _ _).symm
    sl := by simp
    objs := fun o h1 h2 => ?_
    slots := fun s hs => by simp at hs
    tms := rfl
    held := fun x hx => ?_
    one := fun b => Nat.le_trans (hown b) (h.one b)
    apart := fun b hb => ?_
    olt := fun b hb => h.olt b (Nat.le_trans hb (hown b))
    pin := fun p hp => ⟨Nat.zero_le _, hpin p hp⟩ }
  · rcases hi0 b hb with q | ⟨o, q1, q2, q3⟩
    · exact h.ilt b q
    · refine h.olt b ?_
      rw [ownc_ghd]
      have := range_split (fun o => (ghd G o).own.count b) o G.length q1
      have := List.count_pos_iff.2 q3
      omega
  · exact ghO_ob (C := ⟨begO sss (HO.map (·.a)), ghO G ids sss HO, w, frz, imm0⟩) G ids sss HO hl hHO o h1 h2
  · obtain ⟨i, hi', rfl⟩ := List.getElem_of_mem hx
    exact (hA i (by omega) hi').2
  · rcases hi0 b hb with q | ⟨o, q1, q2, q3⟩
    · have := h.apart b q; have := hown b; omega
    · exact hrest b o q1 q2 q3
end
end Go.Eva
end
section
/- Arguments made ready. -/
namespace Go.Eva
set_option linter.unusedVariables false
set_option linter.unusedSimpArgs false
variable {P : Program} {W : Root} {T : Tab} {Γ : Gam}

section
variable {st : St} {w : World} {tm : Array Value} {G : List Gh} {H : List Hd} {frz imm : Nat → Prop}

theorem RC.freeze {C C' : Ctx} {m : Md} {e : TypeId} {κ : Kd} {l : List κ.T} {v : Value} {fp : List Nat} (h : RC C (.sl m e κ l) v fp) (hm : m = .own ∨ m = .mix false ∨ m = .imm false) (hw : C'.w = C.w) (hf : ∀ y, C.frz y ∨ y ∈ fp → C'.frz y) :
    ∃ fp0, RdS C'.w false (Rd C'.w false κ) κ.n e v l fp0 ∧ ∀ y ∈ fp0, C'.frz y := by
  rw [hw]
  rcases hm with rfl | rfl | rfl
  · exact ⟨fp, RdS.weak h, fun y hy => hf y (.inr hy)⟩
  · obtain ⟨fp0, h1, h2, h3⟩ := h
    refine ⟨fp0, h1.weak, fun y hy => ?_⟩
    rw [← List.take_append_drop 1 fp0] at hy
    rcases List.mem_append.1 hy with hy | hy
    · exact hf y (.inr (by rw [h2]; exact hy))
    · exact hf y (.inl (h3 y hy))
  · obtain ⟨_, fp0, h1, h2⟩ := h
    exact ⟨fp0, h1, fun y hy => hf y (.inl (h2 y hy))⟩

/-- A slice of an object is frozen for good. -/
theorem freeze_cell {o c rv nv : Nat} {rng : Option (Int × Int)} {v : Value} (h : Rep W st w tm G H frz imm) (hv : SrR (ctx st G w frz imm) o c none rv nv rng v) (ho : o < st.objs.length) {m : Md} {e : TypeId} {κ : Kd} {l : List κ.T}
    (hrv : st.objs[o].rv = rv) (hc : st.objs[o].cells.getD c .dead = .sl m e κ l) (hm : m = .own ∨ m = .mix false ∨ m = .imm false) :
    ∃ G' frz' imm', CLe (ctx st G w frz imm) (ctx ⟨st.slots, st.objs.set o ⟨st.objs[o].real, st.objs[o].cells.set c (.sl (.imm false) e κ l), st.objs[o].rv, st.objs[o].nv⟩⟩ G' w frz' imm') ∧
      Rep W ⟨st.slots, st.objs.set o ⟨st.objs[o].real, st.objs[o].cells.set c (.sl (.imm false) e κ l), st.objs[o].rv, st.objs[o].nv⟩⟩ w tm G' H frz' imm' ∧ Ext w frz imm w frz' imm' ∧
      R0 (ctx ⟨st.slots, st.objs.set o ⟨st.objs[o].real, st.objs[o].cells.set c (.sl (.imm false) e κ l), st.objs[o].rv, st.objs[o].nv⟩⟩ G' w frz' imm') (.sl (.imm false) e κ (cutR l rng)) v := by
  have hG : o < G.length := by rw [h.len]; exact ho
  obtain ⟨hcl, hce⟩ := getD_some hc (by simp)
  obtain ⟨r1, r2, r3, r4, r5⟩ := h.objs o ho hG
  have hh : c < G[o].hd.length := by rw [r1]; exact hcl
  have hf : c < G[o].fps.length := by rw [r2]; exact hcl
  have rc := r3 c hcl hh hf
  rw [hce] at rc
  obtain ⟨_, ob, g, s1, s2, s3, s4, s5⟩ := hv
  have e1 : ob = st.objs[o] := by simp only at s1; rw [List.getElem?_eq_getElem ho] at s1; injection s1 with s1; exact s1.symm
  have e2 : g = G[o] := by simp only at s2; rw [List.getElem?_eq_getElem hG] at s2; injection s2 with s2; exact s2.symm
  subst e1 e2
  obtain ⟨m', e', κ', l', hv, t1, t2, t3⟩ := s5 hrv
  rw [hc] at t1
  injection t1 with u1 u2 u3 u4
  subst u1 u2 u3
  have u4 := eq_of_heq u4
  subst u4
  rw [List.getElem?_eq_getElem hh] at t2
  injection t2 with t2
  subst t2
  have hcnt : ∀ y, ownc (G.set o ⟨G[o].addr, G[o].hd, G[o].fps.set c []⟩) H y + (G[o].fps[c]).count y = ownc G H y := by
    intro y
    have a1 := ownc_set G H o ⟨G[o].addr, G[o].hd, G[o].fps.set c []⟩ hG y
    have a2 := own_set G[o] c hf [] y
    simp only [List.count_nil] at a2
    omega
  have hBi : ∀ y, y ∈ G[o].fps[c] → ¬ imm y := fun y hy hi => by
    have := h.apart y hi
    have := hcnt y
    have := List.count_pos_iff.2 hy
    omega
  have y3 : ∀ C' : Ctx, C'.w = w → (∀ y, C'.frz y ↔ frz y ∨ y ∈ G[o].fps[c]) → RC C' (.sl (.imm false) e κ l) G[o].hd[c] [] := fun C' c1 c2 => ⟨rfl, by
    obtain ⟨fp0, q1, q2⟩ := rc.freeze hm (C' := C') c1 (fun y hy => (c2 y).2 hy)
    exact ⟨fp0, q1, q2⟩⟩
  obtain ⟨k1, k2⟩ := h.upd o ⟨st.objs[o].real, st.objs[o].cells.set c (.sl (.imm false) e κ l), st.objs[o].rv, st.objs[o].nv⟩ ⟨G[o].addr, G[o].hd, G[o].fps.set c []⟩ w H (fun y => frz y ∨ y ∈ G[o].fps[c]) (fun y => imm y ∨ y ∈ G[o].fps[c]) ho h.base
    (Nat.le_refl _) (fun y hy => hy.imp (h.fi y) id) (fun _ h => .inl h) (fun _ h => .inl h)
    (fun y hy => hy.elim (h.ilt y) (fun hb => h.olt y (by have := hcnt y; have := List.count_pos_iff.2 hb; omega)))
    (fun _ _ => rfl) (fun _ _ _ _ _ => rfl)
    (fun _ => { rv := Nat.le_refl _, nv := Nat.le_refl _, addr := fun _ h => h,
                root := fun _ c1 m1 e1 κ1 l1 hv1 q1 q2 => (by
                  show ∃ m' l', (st.objs[o].cells.set c (.sl (.imm false) e κ l)).getD c1 .dead = _ ∧ _
                  rw [cells_set_getD _ _ _ _ hcl]
                  by_cases ec : c1 = c
                  · subst ec
                    rw [hc] at q1
                    injection q1 with u1 u2 u3 u4
                    subst u1 u2 u3
                    have u4 := eq_of_heq u4
                    subst u4
                    exact ⟨.imm false, l, by rw [if_pos rfl], fun k => (by cases k), rfl, q2, fun _ k s hk i i0 i1 => ⟨rfl, fun _ _ _ _ _ => ⟨rfl, fun _ _ _ _ _ _ _ => rfl⟩⟩⟩
                  · exact ⟨m1, l1, by rw [if_neg ec]; exact q1, fun k => k, rfl, q2, fun _ k s hk i i0 i1 => ⟨rfl, fun _ _ _ _ _ => ⟨rfl, fun _ _ _ _ _ _ _ => rfl⟩⟩⟩),
                back := fun _ c1 m1 e1 κ1 l1 q1 => (by
                  replace q1 : (st.objs[o].cells.set c (.sl (.imm false) e κ l)).getD c1 .dead = _ := q1
                  rw [cells_set_getD _ _ _ _ hcl] at q1
                  by_cases ec : c1 = c
                  · subst ec; exact ⟨m, e, κ, l, hc⟩
                  · rw [if_neg ec] at q1; exact ⟨m1, e1, κ1, l1, q1⟩),
                np := fun _ c1 q1 => (by
                  show (st.objs[o].cells.set c (.sl (.imm false) e κ l)).getD c1 .dead = _ ∧ _
                  rw [cells_set_getD _ _ _ _ hcl]
                  by_cases ec : c1 = c
                  · subst ec; rw [hc] at q1; cases q1
                  · exact ⟨by rw [if_neg ec], rfl⟩),
                hdr := fun _ c1 m1 e1 κ1 l1 q1 => (by
                  obtain ⟨hi, _⟩ := getD_some q1 (by simp)
                  exact ⟨_, List.getElem?_eq_getElem (by rw [r1]; exact hi)⟩) })
    (fun hC => ⟨by simp [r1], by simp [r2], fun i x1 y1' z1' => by
      simp only [List.getElem_set]
      by_cases ei : c = i
      · subst ei
        simp only [if_true]
        exact y3 _ rfl (fun _ => Iff.rfl)
      · simp only [if_neg ei]
        exact (r3 i (by simpa using x1) y1' (by simpa using z1')).le hC h.len (fun _ _ => rfl), r4, r5⟩)
    (fun hC x hx => (h.held x hx).le hC h.len (fun _ _ => rfl))
    (fun y => by have := hcnt y; have := h.one y; omega)
    (fun y hy => by
      have c1 := hcnt y
      rcases hy with hy | hy
      · have := h.apart y hy; omega
      · have c3 := h.one y
        have := List.count_pos_iff.2 hy
        omega)
    (fun y hy => h.olt y (by have := hcnt y; omega))
  refine ⟨_, _, _, k1, k2, ⟨Nat.le_refl _, fun _ _ => rfl, fun _ h => .inl h, fun _ h => .inl h, fun y hy => hy.imp id (hBi y)⟩, ?_⟩
  obtain ⟨fp0, q1, q2⟩ := rc.freeze hm (C' := ctx ⟨st.slots, st.objs.set o ⟨st.objs[o].real, st.objs[o].cells.set c (.sl (.imm false) e κ l), st.objs[o].rv, st.objs[o].nv⟩⟩ (G.set o ⟨G[o].addr, G[o].hd, G[o].fps.set c []⟩) w (fun y => frz y ∨ y ∈ G[o].fps[c]) (fun y => imm y ∨ y ∈ G[o].fps[c])) rfl (fun y hy => hy)
  obtain ⟨fp2, g1, g2, _⟩ := q1.cut t3
  exact ⟨fp2, g1, fun y hy => q2 y (List.count_pos_iff.1 (by have := g2 y; have := List.count_pos_iff.2 hy; omega))⟩

/-- What is held is frozen within. -/
theorem mix_held {e : TypeId} {κ : Kd} {l : List κ.T} {v : Value} {fp : List Nat} (h : Rep W st w tm G (⟨.sl .own e κ l, v, fp⟩ :: H) frz imm) :
    ∃ frz' imm', CLe (ctx st G w frz imm) (ctx st G w frz' imm') ∧ Rep W st w tm G (⟨.sl (.mix false) e κ l, v, fp.take 1⟩ :: H) frz' imm' ∧ Ext w frz imm w frz' imm' := by
  have rc : RdS w true (Rd w true κ) κ.n e v l fp := h.held _ List.mem_cons_self
  have hone : ∀ b, fp.count b ≤ 1 := fun b => by
    have := h.one b
    rw [ownc_cons] at this
    simp only at this
    omega
  have hx : hfp [⟨.sl .own e κ l, v, fp⟩] = fp := by simp [hfp]
  have rc' : RdS w true (Rd w false κ) κ.n e v l fp := rc.imp (fun q => q) (Nat.le_refl _) (fun _ _ => rfl) (fun g x f _ hx g' hg => Rd.frame (fun q => by cases q) (Nat.le_refl _) κ g g' x f hx (fun _ _ => rfl) (fun j _ => hg j))
  obtain ⟨q1, q2, q3⟩ := Rep.turn (H1 := [⟨.sl .own e κ l, v, fp⟩]) (H := H) h h.base (Nat.le_refl _) (fun _ _ => rfl) (a := .sl (.mix false) e κ l) (v := v) (fp := fp.take 1) (fun y => y ∈ fp.drop 1)
    (fun b => .inl (by rw [hx]; exact (List.take_sublist 1 fp).count_le b))
    (fun y hy => ⟨by rw [hx]; exact List.mem_of_mem_drop hy, by
      have c0 := count_take_drop fp y
      have c1 := List.count_pos_iff.2 hy
      have := hone y
      omega⟩) ⟨fp, rc', rfl, fun y hy => .inr hy⟩
  exact ⟨_, _, q1, q2, q3⟩

def resOk : Sc → AV → AV → Prop
  | .ptr _ _, v, a => a = v ∧ ∃ o c, v = .ptr o c
  | .fn _ _, v, a => a = v ∧ ∃ f caps, v = .fn f caps
  | .int _, _, a => ∃ k n, a = .int k n
  | .bool, _, a => ∃ b, a = .bool b
  | .str, _, a => ∃ s, a = .str s
  | .nilp, _, a => a = .nilp
  | .sl (.imm true) _ _, _, a => (∃ o c p rv nv rng, a = .sr o c p rv nv rng) ∨ (∃ b e κ l, a = .sl (.imm b) e κ l) ∨ a = .nils
  | .sl (.mix true) _ _, _, _ => False
  | .sl m _ _, _, a => ∃ e κ l, a = .sl m e κ l
  | .ep _ _ _, _, _ => False

theorem resA1_run {β : Type} {s : Sc} {av : AV} {u : Value} {K : AV → Prg β} {r : β × St} (h : Rep W st w tm G H frz imm) (hr : (resA1 s av K).run st = some r) (hv : R2 (ctx st G w frz imm) av u) :
    ∃ a fp st' G' frz' imm', (K a).run st' = some r ∧ resOk s av a ∧ st'.slots = st.slots ∧ CLe (ctx st G w frz imm) (ctx st' G' w frz' imm') ∧ Rep W st' w tm G' (⟨a, u, fp⟩ :: H) frz' imm' ∧ Ext w frz imm w frz' imm' := by
  have plain : ∀ x, (K x).run st = some r → RC (ctx st G w frz imm) x u [] → resOk s av x → ∃ a fp st' G' frz' imm', (K a).run st' = some r ∧ resOk s av a ∧ st'.slots = st.slots ∧ CLe (ctx st G w frz imm) (ctx st' G' w frz' imm') ∧ Rep W st' w tm G' (⟨a, u, fp⟩ :: H) frz' imm' ∧ Ext w frz imm w frz' imm' :=
    fun x h1 h2 h3 => ⟨x, [], st, G, frz, imm, h1, h3, rfl, h.cle, h.free (H1 := [⟨x, u, []⟩]) (fun y hy => by rw [List.mem_singleton.1 hy]; exact ⟨rfl, h2⟩), Ext.refl _ _ _⟩
  unfold resA1 at hr
  split at hr
  · exact plain _ hr ⟨rfl, hv⟩ ⟨_, _, rfl⟩
  · exact plain _ hr ⟨rfl, hv⟩ ⟨_, rfl⟩
  · exact plain _ hr ⟨rfl, hv⟩ ⟨_, rfl⟩
  · exact plain _ hr ⟨rfl, hv⟩ ⟨rfl, _, _, rfl⟩
  · exact plain _ hr ⟨rfl, hv⟩ ⟨rfl, _, _, rfl⟩
  · exact plain _ hr ⟨rfl, hv⟩ rfl
  · obtain ⟨m, e, κ, l, st', G', fp, h1, h2, h3, h4, h5⟩ := take_run h hr hv
    split at h2
    · rename_i hm
      subst hm
      exact ⟨_, fp, st', G', frz, imm, h2, ⟨_, _, _, rfl⟩, h3, h4, h5, Ext.refl _ _ _⟩
    · cases h2
  · have hv : u = .slice none 0 0 := hv
    exact plain _ hr (by rw [hv]; exact .inl ⟨rfl, rfl, none, 0, rfl, fun _ => rfl⟩) ⟨_, _, _, rfl⟩
  · obtain ⟨m, e, κ, l, st', G', fp, h1, h2, h3, h4, h5⟩ := take_run h hr hv
    split at h2
    · rename_i hm
      rcases hm with rfl | rfl
      · obtain ⟨f', i', q1, q2, q3⟩ := mix_held h5
        exact ⟨_, _, st', G', f', i', h2, ⟨_, _, _, rfl⟩, h3, h4.trans q1, q2, q3⟩
      · exact ⟨_, fp, st', G', frz, imm, h2, ⟨_, _, _, rfl⟩, h3, h4, h5, Ext.refl _ _ _⟩
    · cases h2
  · have hv : u = .slice none 0 0 := hv
    exact plain _ hr (by rw [hv]; exact ⟨[], .inl ⟨rfl, rfl, none, 0, rfl, fun _ => rfl⟩, rfl, fun x hx => by cases hx⟩) ⟨_, _, _, rfl⟩
  · obtain ⟨ho, m, e, κ, l, c1, c2, c3⟩ := content_run hr
    simp only at c3
    split at c3
    · rename_i hm
      rw [run_setObj] at c3
      obtain ⟨G', f', i', q1, q2, q3, q4⟩ := freeze_cell h hv ho c1 c2 hm
      exact ⟨_, [], _, G', f', i', c3, ⟨_, _, _, rfl⟩, rfl, q1, q2.free (H1 := [⟨_, u, []⟩]) (fun y hy => by rw [List.mem_singleton.1 hy]; exact ⟨rfl, rfl, q4⟩), q3⟩
    · cases c3
  · rename_i o c p rv nv rng
    obtain ⟨b, e, κ, l, st', G', f', i', h1, h2, h3, h4, h5, h6⟩ := nest_run (rng := rng) h hr hv
    split at h1
    · rename_i hm
      injection hm with hm
      subst hm
      exact ⟨_, [], st', G', f', i', h1, ⟨_, _, _, rfl⟩, h2, h3, h4.free (H1 := [⟨_, u, []⟩]) (fun y hy => by rw [List.mem_singleton.1 hy]; exact ⟨rfl, rfl, h6⟩), h5⟩
    · cases h1
  · exact plain _ hr ⟨rfl, hv⟩ ⟨_, _, _, rfl⟩
  · have hv : u = .slice none 0 0 := hv
    exact plain _ hr ⟨rfl, [], .inl ⟨rfl, rfl, none, 0, hv, fun k => by cases k⟩, fun x hx => by cases hx⟩ ⟨_, _, _, rfl⟩
  · exact plain _ hr ⟨rfl, hv⟩ (.inl ⟨_, _, _, _, _, _, rfl⟩)
  · exact plain _ hr ⟨rfl, hv⟩ (.inr (.inl ⟨_, _, _, _, rfl⟩))
  · exact plain _ hr ⟨rfl, hv⟩ (.inr (.inr rfl))
  · cases hr
end

theorem resAs_run {β : Type} {w : World} {tm : Array Value} : ∀ {ss : List Sc} {avs : List AV} {us : List Value} {st : St} {G : List Gh} {H : List Hd} {frz imm : Nat → Prop} {K : List AV → Prg β} {r : β × St}, Rep W st w tm G H frz imm →
    (resAs ss avs K).run st = some r → us.length = avs.length → (∀ i (h : i < avs.length) (h' : i < us.length), R2 (ctx st G w frz imm) avs[i] us[i]) →
    ∃ (H1 : List Hd) (st' : St) (G' : List Gh) (frz' imm' : Nat → Prop), (K (H1.map (·.a))).run st' = some r ∧ H1.map (·.v) = us ∧ H1.length = ss.length ∧ avs.length = ss.length ∧
      (∀ i (h : i < ss.length) (h1 : i < avs.length) (h2 : i < H1.length), resOk ss[i] avs[i] H1[i].a) ∧ st'.slots = st.slots ∧ CLe (ctx st G w frz imm) (ctx st' G' w frz' imm') ∧ Rep W st' w tm G' (H1 ++ H) frz' imm' ∧ Ext w frz imm w frz' imm'
  | [], [], us, st, G, H, frz, imm, K, r, h, hr, hl, hv => by
    have : us = [] := List.eq_nil_of_length_eq_zero hl
    subst this
    exact ⟨[], st, G, frz, imm, hr, rfl, rfl, rfl, (fun i x => by simp at x), rfl, h.cle, h, Ext.refl _ _ _⟩
  | s :: ss, av :: avs, us, st, G, H, frz, imm, K, r, h, hr, hl, hv => by
    match us, hl with
    | u :: us, hl =>
      obtain ⟨a, fp, st1, G1, f1, i1, a1, a0, a2, a3, a4, a5⟩ := resA1_run h hr (hv 0 (by simp) (by simp))
      obtain ⟨H1, st2, G2, f2, i2, b1, b2, b0, b00, b3, b4, b5, b6, b7⟩ := resAs_run (us := us) a4 a1 (by simpa using hl) (fun i x y => (hv (i + 1) (by simpa using x) (by simpa using y)).le a3 h.len)
      refine ⟨⟨a, u, fp⟩ :: H1, st2, G2, f2, i2, b1, by simp [b2], by simp [b0], by simp [b00], fun i x y z => ?_, by rw [b4, a2], a3.trans b5, b6.perm (List.perm_middle (a := ⟨a, u, fp⟩) (l₁ := H1) (l₂ := H)), a5.trans b7⟩
      cases i with
      | zero => exact a0
      | succ i => exact b3 i (by simpa using x) (by simpa using y) (by simpa using z)
  | [], _ :: _, _, _, _, _, _, _, _, _, _, hr, _, _ => by cases hr
  | _ :: _, [], _, _, _, _, _, _, _, _, _, hr, _, _ => by cases hr
end Go.Eva
end
section
/- Objects handed over; values read for the call. -/
namespace Go.Eva
set_option linter.unusedVariables false
set_option linter.unusedSimpArgs false
variable {P : Program} {W : Root} {T : Tab} {Γ : Gam}

def lentOk : Sc → AV → Prop
  | .sl m _ _, a => avPlain a = true ∧ ∃ e κ l, a = .sl m e κ l
  | _, _ => True

section
variable {st : St} {w : World} {tm : Array Value} {G : List Gh} {H : List Hd} {frz imm : Nat → Prop}

theorem lents_run : ∀ {ss : List Sc} {HO H : List Hd} {frz imm : Nat → Prop} {vs : List AV}, Rep W st w tm G (HO ++ H) frz imm → lents ss (HO.map (·.a)) = some vs →
    ∃ (HO' : List Hd) (frz' imm' : Nat → Prop), HO'.map (·.a) = vs ∧ HO'.map (·.v) = HO.map (·.v) ∧ HO'.length = ss.length ∧ (∀ i (h : i < ss.length) (h1 : i < HO'.length), lentOk ss[i] HO'[i].a) ∧ CLe (ctx st G w frz imm) (ctx st G w frz' imm') ∧
      Rep W st w tm G (HO' ++ H) frz' imm' ∧ Ext w frz imm w frz' imm'
  | [], [], H, frz, imm, vs, h, hr => by
    injection hr with hr
    exact ⟨[], frz, imm, hr, rfl, rfl, (fun i x => by simp at x), h.cle, h, Ext.refl _ _ _⟩
  | s :: ss, x :: HO, H, frz, imm, vs, h, hr => by
    simp only [lents, List.map_cons] at hr
    split at hr
    · rename_i v' vs' e1 e2
      injection hr with hr
      -- the first
      have key : ∃ fp' frz' imm', lentOk s v' ∧ CLe (ctx st G w frz imm) (ctx st G w frz' imm') ∧ Rep W st w tm G (⟨v', x.v, fp'⟩ :: (HO ++ H)) frz' imm' ∧ Ext w frz imm w frz' imm' := by
        have same : v' = x.a → lentOk s v' → ∃ fp' frz' imm', lentOk s v' ∧ CLe (ctx st G w frz imm) (ctx st G w frz' imm') ∧ Rep W st w tm G (⟨v', x.v, fp'⟩ :: (HO ++ H)) frz' imm' ∧ Ext w frz imm w frz' imm' := fun q q2 => by
          subst q; exact ⟨x.fp, frz, imm, q2, h.cle, h, Ext.refl _ _ _⟩
        unfold lent1 at e1
        split at e1
        · rename_i hx
          injection e1 with e1
          exact same (by rw [← e1, hx]) (by rw [← e1]; exact ⟨rfl, _, _, _, rfl⟩)
        · rename_i hx
          injection e1 with e1
          obtain ⟨a, v, fp⟩ := x
          simp only at hx
          subst hx e1
          obtain ⟨f', i', q1, q2, q3⟩ := mix_held h
          exact ⟨_, f', i', ⟨rfl, _, _, _, rfl⟩, q1, q2, q3⟩
        · rename_i hx
          injection e1 with e1
          exact same (by rw [← e1, hx]) (by rw [← e1]; exact ⟨rfl, _, _, _, rfl⟩)
        · rename_i hx
          injection e1 with e1
          exact same (by rw [← e1, hx]) (by rw [← e1]; exact ⟨rfl, _, _, _, rfl⟩)
        · cases e1
        · injection e1 with e1
          exact same e1.symm True.intro
        · injection e1 with e1
          exact same e1.symm True.intro
        · injection e1 with e1
          exact same e1.symm True.intro
        · cases e1
      obtain ⟨fp', f1, i1, k0, k1, k2, k3⟩ := key
      have p1 : (⟨v', x.v, fp'⟩ :: (HO ++ H)).Perm (HO ++ (⟨v', x.v, fp'⟩ :: H)) := (List.perm_middle (a := ⟨v', x.v, fp'⟩) (l₁ := HO) (l₂ := H)).symm
      obtain ⟨HO', f2, i2, q1, q2, q3, q4, q5, q6, q7⟩ := lents_run (k2.perm p1) e2
      refine ⟨⟨v', x.v, fp'⟩ :: HO', f2, i2, by simp [q1, hr], by simp [q2], by simp [q3], fun i a b => ?_, k1.trans q5, q6.perm (List.perm_middle (a := ⟨v', x.v, fp'⟩) (l₁ := HO') (l₂ := H)), k3.trans q7⟩
      cases i with
      | zero => exact k0
      | succ i => exact q4 i (by simpa using a) (by simpa using b)
    · cases hr
  | [], _ :: _, _, _, _, _, _, hr => by cases hr
  | _ :: _, [], _, _, _, _, _, hr => by cases hr

theorem replicate_flat (n : Nat) : (List.replicate n ([] : List Nat)).flatten = [] := by induction n <;> simp_all [List.replicate_succ]

/-- An object's cells are held, all of them. -/
theorem takeO_run (h : Rep W st w tm G H frz imm) {o : Nat} (ho : o < st.objs.length) (hreal : st.objs[o].real = true) :
    ∃ (HO : List Hd) (g' : Gh), HO.map (·.a) = st.objs[o].cells ∧ g'.fps.flatten = [] ∧ g'.addr = (ghd G o).addr ∧ (∃ b e, g'.addr = some b ∧ w.heap[b]? = some (.cells (HO.map (·.v)).toArray e (0, 0))) ∧
      CLe (ctx st G w frz imm) (ctx ⟨st.slots, st.objs.set o ⟨true, List.replicate st.objs[o].cells.length .dead, st.objs[o].rv + 1, st.objs[o].nv + 1⟩⟩ (G.set o g') w frz imm) ∧
      Rep W ⟨st.slots, st.objs.set o ⟨true, List.replicate st.objs[o].cells.length .dead, st.objs[o].rv + 1, st.objs[o].nv + 1⟩⟩ w tm (G.set o g') (HO ++ H) frz imm := by
  have hG : o < G.length := by rw [h.len]; exact ho
  obtain ⟨r1, r2, r3, r4, r5⟩ := h.objs o ho hG
  have eg : ghd G o = G[o] := by simp [ghd, List.getD_eq_getElem?_getD, List.getElem?_eq_getElem hG]
  let HO : List Hd := (List.range st.objs[o].cells.length).map fun i => ⟨st.objs[o].cells.getD i .dead, G[o].hd.getD i undef, G[o].fps.getD i []⟩
  have hlen : HO.length = st.objs[o].cells.length := by simp [HO]
  have ha : HO.map (·.a) = st.objs[o].cells := by
    apply List.ext_getElem (by simp [HO])
    intro i x y
    simp [HO, List.getD_eq_getElem?_getD, List.getElem?_eq_getElem y]
  have hv : HO.map (·.v) = G[o].hd := by
    apply List.ext_getElem (by simp [HO, r1])
    intro i x y
    simp [HO, List.getD_eq_getElem?_getD, List.getElem?_eq_getElem y]
  have hf : HO.map (·.fp) = G[o].fps := by
    apply List.ext_getElem (by simp [HO, r2])
    intro i x y
    simp [HO, List.getD_eq_getElem?_getD, List.getElem?_eq_getElem y]
  have hRC : ∀ x ∈ HO, RC (ctx st G w frz imm) x.a x.v x.fp := fun x hx => by
    obtain ⟨i, hi, rfl⟩ := List.mem_map.1 hx
    have hi := List.mem_range.1 hi
    have := r3 i hi (by omega) (by omega)
    simpa [List.getD_eq_getElem?_getD, List.getElem?_eq_getElem hi, List.getElem?_eq_getElem (show i < G[o].hd.length by omega), List.getElem?_eq_getElem (show i < G[o].fps.length by omega)] using this
  have hcnt : ∀ b, ownc (G.set o ⟨G[o].addr, G[o].hd, List.replicate st.objs[o].cells.length []⟩) (HO ++ H) b ≤ ownc G H b := by
    intro b
    have a1 := ownc_set G H o ⟨G[o].addr, G[o].hd, List.replicate st.objs[o].cells.length []⟩ hG b
    have a3 := ownc_app (G.set o ⟨G[o].addr, G[o].hd, List.replicate st.objs[o].cells.length []⟩) HO H b
    rw [hf] at a3
    simp only [Gh.own, List.count_append, replicate_flat, List.count_nil] at a1
    omega
  obtain ⟨b, e, q1, q2⟩ := r4 hreal
  have q2 : w.heap[b]? = some (.cells G[o].hd.toArray e (0, 0)) := q2
  obtain ⟨k1, k2⟩ := h.upd o ⟨true, List.replicate st.objs[o].cells.length .dead, st.objs[o].rv + 1, st.objs[o].nv + 1⟩ ⟨G[o].addr, G[o].hd, List.replicate st.objs[o].cells.length []⟩ w (HO ++ H) frz imm ho h.base
      (Nat.le_refl _) h.fi (fun _ h => h) (fun _ h => h) h.ilt (fun _ _ => rfl) (fun _ _ _ _ _ => rfl)
      (fun _ => { rv := Nat.le_succ _, nv := Nat.le_succ _, addr := fun _ h => h, root := fun k => absurd k (by simp), back := fun k => absurd k (by simp), hdr := fun k => absurd k (by simp), np := fun k => absurd k (by simp) })
      (fun hc => ⟨by simp [r1], by simp, fun i x y z => by
        simp only [List.getElem_replicate]
        exact ⟨rfl, True.intro⟩, fun _ => ⟨b, e, q1, q2⟩, fun k => by cases k⟩)
      (fun hc x hx => by
        rcases List.mem_append.1 hx with hx | hx
        · exact (hRC x hx).le hc h.len (fun _ _ => rfl)
        · exact (h.held x hx).le hc h.len (fun _ _ => rfl))
      (fun b => Nat.le_trans (hcnt b) (h.one b)) (fun b hb => by have := hcnt b; have := h.apart b hb; omega) (fun b hb => h.olt b (by have := hcnt b; omega))
  exact ⟨HO, ⟨G[o].addr, G[o].hd, List.replicate st.objs[o].cells.length []⟩, ha, replicate_flat _, by rw [eg], ⟨b, e, q1, by rw [hv]; exact q2⟩, k1, k2⟩
end

def deadAt (st : St) (G : List Gh) (o : Nat) : Prop := (∃ n rv nv, st.objs[o]? = some ⟨true, List.replicate n .dead, rv, nv⟩) ∧ (ghd G o).fps.flatten = []

theorem lentAt_le {G G' : List Gh} {w : World} : ∀ {ids : List Nat} {sss : List (List Sc)} {H : List Hd}, LentAt G w ids sss H → (∀ o ∈ ids, (ghd G' o).addr = (ghd G o).addr) → LentAt G' w ids sss H
  | [], [], _, h, _ => h
  | o :: os, ss :: sss, H, h, ha => ⟨by obtain ⟨b, e, q1, q2⟩ := h.1; exact ⟨b, e, by rw [ha o List.mem_cons_self]; exact q1, q2⟩, h.2.1, lentAt_le h.2.2 (fun x hx => ha x (List.mem_cons_of_mem _ hx))⟩

theorem lendO_run {β : Type} {w : World} {tm : Array Value} : ∀ {ids : List Nat} {sss : List (List Sc)} {st : St} {G : List Gh} {H : List Hd} {frz imm : Nat → Prop} {K : List AV → Prg β} {r : β × St}, ids.Nodup → Rep W st w tm G H frz imm →
    (lendO ids sss K).run st = some r →
    ∃ (HO : List Hd) (st' : St) (G' : List Gh) (frz' imm' : Nat → Prop), (K (HO.map (·.a))).run st' = some r ∧ st'.slots = st.slots ∧ CLe (ctx st G w frz imm) (ctx st' G' w frz' imm') ∧ Rep W st' w tm G' (HO ++ H) frz' imm' ∧ Ext w frz imm w frz' imm' ∧
      LentAt G' w ids sss HO ∧ HO.length = (flat2 sss).length ∧ (∀ i (h : i < (flat2 sss).length) (h1 : i < HO.length), lentOk (flat2 sss)[i] HO[i].a) ∧ (∀ x, x ∉ ids → st'.objs[x]? = st.objs[x]? ∧ G'[x]? = G[x]?) ∧ (∀ o ∈ ids, o < st'.objs.length ∧ deadAt st' G' o)
  | [], [], st, G, H, frz, imm, K, r, _, h, hr => ⟨[], st, G, frz, imm, hr, rfl, h.cle, h, Ext.refl _ _ _, rfl, rfl, (fun i x => by simp [flat2] at x), fun x _ => ⟨rfl, rfl⟩, fun o ho => by cases ho⟩
  | o :: os, ss :: sss, st, G, H, frz, imm, K, r, hnd, h, hr => by
    rw [List.nodup_cons] at hnd
    simp only [lendO] at hr
    rw [run_obj] at hr
    split at hr
    · rename_i hreal
      have ho : o < st.objs.length := by
        refine Nat.lt_of_not_le fun k => ?_
        have : st.objs.getD o Ob.none = Ob.none := by rw [List.getD_eq_getElem?_getD, List.getElem?_eq_none k]; rfl
        rw [this] at hreal; cases hreal
      have hob : st.objs.getD o Ob.none = st.objs[o] := by rw [List.getD_eq_getElem?_getD, List.getElem?_eq_getElem ho]; rfl
      rw [hob] at hr hreal
      split at hr
      · rename_i vs hvs
        rw [run_setObj] at hr
        have hG : o < G.length := by rw [h.len]; exact ho
        obtain ⟨HO1, g', a1, a2, a3, a4, a5, a6⟩ := takeO_run h ho hreal
        rw [← a1] at hvs
        obtain ⟨HO2, f2, i2, b1, b2, b3, b4, b5, b6, b7⟩ := lents_run a6 hvs
        obtain ⟨HO3, st3, G3, f3, i3, c1, c2, c3, c4, c5, c6, c7, c8, c9, c10⟩ := lendO_run hnd.2 b6 hr
        have eg : ghd (G.set o g') o = g' := by simp [ghd, List.getD_eq_getElem?_getD, hG]
        have e3 : ghd G3 o = g' := by
          have := (c9 o hnd.1).2
          rw [← eg]
          simp only [ghd, List.getD_eq_getElem?_getD, this]
        refine ⟨HO2 ++ HO3, st3, G3, f3, i3, ?_, c2, a5.trans (b5.trans c3), ?_, b7.trans c5, ⟨?_, by simp; omega, ?_⟩, ?_, fun i x y => ?_, fun x hx => ?_, fun x hx => ?_⟩
        · rw [List.map_append, b1]; exact c1
        · rw [List.append_assoc]
          refine c4.perm ?_
          rw [← List.append_assoc, ← List.append_assoc]
          exact List.Perm.append_right H List.perm_append_comm
        · obtain ⟨b, e, q1, q2⟩ := a4
          refine ⟨b, e, by rw [e3]; exact q1, ?_⟩
          rw [List.take_append_of_le_length (by omega), List.take_of_length_le (by omega), b2]
          exact q2
        · rw [List.drop_append, List.drop_of_length_le (by omega), List.nil_append]
          have : ss.length - HO2.length = 0 := by omega
          rw [this, List.drop_zero]
          exact c6
        · simp only [List.length_append, flat2]; omega
        · by_cases hi : i < ss.length
          · have := b4 i hi (by omega)
            simp only [flat2, List.getElem_append_left hi, List.getElem_append_left (show i < HO2.length by omega)]
            exact this
          · have hx : i - ss.length < (flat2 sss).length := by simp only [flat2, List.length_append] at x; omega
            have := c8 (i - ss.length) hx (by omega)
            simp only [flat2, List.getElem_append_right (show ss.length ≤ i by omega), List.getElem_append_right (show HO2.length ≤ i by omega), b3]
            exact this
        · obtain ⟨q1, q2⟩ := c9 x (fun k => hx (List.mem_cons_of_mem _ k))
          have hne : o ≠ x := fun k => hx (by rw [k]; exact List.mem_cons_self)
          rw [q1, q2]
          exact ⟨List.getElem?_set_ne hne, List.getElem?_set_ne hne⟩
        · rcases List.mem_cons.1 hx with rfl | hx
          · have q1 := (c9 x hnd.1).1
            have : (st.objs.set x ⟨true, List.replicate st.objs[x].cells.length .dead, st.objs[x].rv + 1, st.objs[x].nv + 1⟩)[x]? = some ⟨true, List.replicate st.objs[x].cells.length .dead, st.objs[x].rv + 1, st.objs[x].nv + 1⟩ := by simp [ho]
            have q1 : st3.objs[x]? = _ := q1.trans this
            exact ⟨(List.getElem?_eq_some_iff.1 q1).1, ⟨_, _, _, q1⟩, by rw [e3]; exact a2⟩
          · exact c10 x hx
      · cases hr
    · cases hr
  | [], _ :: _, _, _, _, _, _, _, _, _, _, hr => by cases hr
  | _ :: _, [], _, _, _, _, _, _, _, _, _, hr => by cases hr

/-- What an object's slice reads as, and whose its blocks are. -/
theorem sr_own {β : Type} {st : St} {w : World} {tm : Array Value} {G : List Gh} {H : List Hd} {frz imm : Nat → Prop} {o c : Nat} {pth : Option (Int × Nat)} {rv nv : Nat} {rng : Option (Int × Int)} {v : Value}
    {K : Ob → Md → TypeId → (κ : Kd) → List κ.T → Prg β} {r : β × St} (h : Rep W st w tm G H frz imm) (hr : (content o c pth rv nv K).run st = some r) (hv : SrR (ctx st G w frz imm) o c pth rv nv rng v) :
    ∃ (ob : Ob) (m : Md) (e : TypeId) (κ : Kd) (l : List κ.T) (fp : List Nat), (K ob m e κ l).run st = some r ∧ RdS w false (Rd w false κ) κ.n e v (cutR l rng) fp ∧ (∀ y ∈ fp, imm y ∨ y ∈ (ghd G o).own) ∧
      o < G.length ∧ ∃ m e κ l, (st.objs.getD o Ob.none).cells.getD c .dead = .sl m e κ l := by
  obtain ⟨ho, m, e, κ, l, c1, c2, c3⟩ := content_run hr
  have hG : o < G.length := by rw [h.len]; exact ho
  have eg : ghd G o = G[o] := by simp [ghd, List.getD_eq_getElem?_getD, List.getElem?_eq_getElem hG]
  have eo : st.objs.getD o Ob.none = st.objs[o] := by rw [List.getD_eq_getElem?_getD, List.getElem?_eq_getElem ho]; rfl
  obtain ⟨hcl, hce⟩ := getD_some c2 (by simp)
  obtain ⟨r1, r2, r3, r4, r5⟩ := h.objs o ho hG
  have hh : c < G[o].hd.length := by rw [r1]; exact hcl
  have hf : c < G[o].fps.length := by rw [r2]; exact hcl
  have rc := r3 c hcl hh hf
  rw [hce] at rc
  obtain ⟨_, ob, g, s1, s2, s3, s4, s5⟩ := hv
  have e1 : ob = st.objs[o] := by simp only at s1; rw [List.getElem?_eq_getElem ho] at s1; injection s1 with s1; exact s1.symm
  have e2 : g = G[o] := by simp only at s2; rw [List.getElem?_eq_getElem hG] at s2; injection s2 with s2; exact s2.symm
  subst e1 e2
  have hrd : ∃ fp0 on, RdS w false (Rd w on κ) κ.n e G[o].hd[c] l fp0 ∧ ∀ y ∈ fp0, imm y ∨ y ∈ G[o].own := by
    have hin : ∀ y ∈ G[o].fps[c], y ∈ G[o].own := fun y hy => Gh.mem_fps hf hy
    cases m with
    | own => exact ⟨_, false, RdS.weak rc, fun y hy => .inr (hin y hy)⟩
    | mix b =>
      obtain ⟨fp0, h1, h2, h3⟩ := rc
      refine ⟨fp0, false, h1.weak, fun y hy => ?_⟩
      rw [← List.take_append_drop 1 fp0] at hy
      rcases List.mem_append.1 hy with hy | hy
      · exact .inr (hin y (by rw [h2]; exact hy))
      · exact .inl (CLe.imm h.cle (h3 y hy))
    | imm b =>
      obtain ⟨_, fp0, h1, h2⟩ := rc
      exact ⟨fp0, false, h1, fun y hy => .inl (CLe.imm h.cle (h2 y hy))⟩
  obtain ⟨fp0, on, q1, q2⟩ := hrd
  cases pth with
  | none =>
    obtain ⟨m', e', κ', l', hv, t1, t2, t3⟩ := s5 c1
    rw [c2] at t1
    injection t1 with u1 u2 u3 u4
    subst u1 u2 u3
    have u4 := eq_of_heq u4
    subst u4
    rw [List.getElem?_eq_getElem hh] at t2
    injection t2 with t2
    subst t2
    obtain ⟨fp', d1, d2, _⟩ := q1.weak.cut t3
    exact ⟨st.objs[o], m, e, κ, l, fp', c3, d1, fun y hy => by rw [eg]; exact q2 y (List.count_pos_iff.1 (by have := d2 y; have := List.count_pos_iff.2 hy; omega)), hG, m, e, κ, l, by rw [eo]; exact c2⟩
  | some p =>
    obtain ⟨i, k⟩ := p
    obtain ⟨c4, s, c5, c6⟩ := c3
    obtain ⟨m', e', κ', l', s', b, off, len, cap, hv, t1, t2, t3, t4, t5, t6, t7⟩ := s5 c1 c4
    rw [c2] at t1
    injection t1 with u1 u2 u3 u4
    subst u1 u2 u3
    have u4 := eq_of_heq u4
    subst u4
    rw [c5] at t2
    injection t2 with t2
    subst t2
    rw [List.getElem?_eq_getElem hh] at t3
    injection t3 with t3
    obtain ⟨hv1, fp1, z1, z2, z3, _⟩ := RdS.nested q1 t4 t5 c5 t3
    rw [t6] at z1
    injection z1 with z1
    subst z1
    obtain ⟨fp', d1, d2, _⟩ := z2.weak.cut t7
    exact ⟨st.objs[o], m.nest, s.e, s.κ', _, fp', c6, d1, fun y hy => by rw [eg]; exact q2 y (List.mem_of_mem_drop (z3 y (List.count_pos_iff.1 (by have := d2 y; have := List.count_pos_iff.2 hy; omega)))), hG, m, e, κ, l, by rw [eo]; exact c2⟩

def lentTo (G : List Gh) (imm : Nat → Prop) (ids : List Nat) (y : Nat) : Prop := imm y ∨ ∃ o, o < G.length ∧ o ∉ ids ∧ y ∈ (ghd G o).own

def resB (w : World) (imm0 : Nat → Prop) (s : Sc) (h : Hd) (a : AV) : Prop :=
  match s with
  | .sl (.imm true) _ _ => ∃ e κ l fp, a = .sl (.imm true) e κ l ∧ RdS w false (Rd w false κ) κ.n e h.v l fp ∧ ∀ y ∈ fp, imm0 y
  | _ => a = h.a

theorem resB1_run {β : Type} {st : St} {w : World} {tm : Array Value} {G : List Gh} {H : List Hd} {frz imm : Nat → Prop} {s : Sc} {x : Hd} {K : AV → Prg β} {r : β × St} (h : Rep W st w tm G H frz imm) (hx : RC (ctx st G w frz imm) x.a x.v x.fp) {ids : List Nat} (hd : ∀ o ∈ ids, o < st.objs.length ∧ deadAt st G o)
    (hr : (resB1 s x.a K).run st = some r) : ∃ a, (K a).run st = some r ∧ resB w (lentTo G imm ids) s x a := by
  have rest : (∀ e κ, s ≠ .sl (.imm true) e κ) → ∀ a, a = x.a → resB w (lentTo G imm ids) s x a := fun hs a ha => by
    unfold resB
    split
    · exact absurd rfl (hs _ _)
    · exact ha
  unfold resB1 at hr
  split at hr
  · rename_i e0 κ0 b e κ l hxa
    rw [hxa] at hx
    obtain ⟨_, fp, h1, h2⟩ := hx
    exact ⟨_, hr, e, κ, l, fp, rfl, h1, fun y hy => .inl (CLe.imm h.cle (h2 y hy))⟩
  · rename_i e0 κ0 o c pth rv nv rng hxa
    rw [hxa] at hx
    obtain ⟨_, hx⟩ := hx
    obtain ⟨ob, m, e, κ, l, fp, q1, q2, q3, q4, m1, e1, κ1, l1, q5⟩ := sr_own h hr hx
    refine ⟨_, q1, e, κ, _, fp, rfl, q2, fun y hy => ?_⟩
    rcases q3 y hy with q | q
    · exact .inl q
    · refine .inr ⟨o, q4, fun k => ?_, q⟩
      obtain ⟨_, ⟨n, rv', nv', d2⟩, _⟩ := hd o k
      have : st.objs.getD o Ob.none = ⟨true, List.replicate n .dead, rv', nv'⟩ := by rw [List.getD_eq_getElem?_getD, d2]; rfl
      rw [this] at q5
      simp only [List.getD_eq_getElem?_getD, List.getElem?_replicate] at q5
      split at q5 <;> cases q5
  · rename_i e κ hxa
    rw [hxa] at hx
    have hx : x.v = .slice none 0 0 := hx.2
    exact ⟨_, hr, e, κ, [], [], rfl, .inl ⟨rfl, rfl, none, 0, hx, fun k => by cases k⟩, fun y hy => by cases hy⟩
  · cases hr
  · rename_i hs1 hs2 hs3 hs4
    exact ⟨_, hr, rest (fun e κ q => by first | exact hs1 e κ q | exact hs2 e κ q | exact hs3 e κ q | exact hs4 e κ q) _ rfl⟩

theorem resBs_run {β : Type} {st : St} {w : World} {tm : Array Value} {G : List Gh} {H : List Hd} {frz imm : Nat → Prop} (h : Rep W st w tm G H frz imm) {ids : List Nat} (hd : ∀ o ∈ ids, o < st.objs.length ∧ deadAt st G o) : ∀ {ss : List Sc} {HA : List Hd} {K : List AV → Prg β} {r : β × St},
    (∀ x ∈ HA, RC (ctx st G w frz imm) x.a x.v x.fp) → (resBs ss (HA.map (·.a)) K).run st = some r →
    ∃ cs, (K cs).run st = some r ∧ cs.length = ss.length ∧ HA.length = ss.length ∧ ∀ i (h : i < ss.length) (h1 : i < HA.length) (h2 : i < cs.length), resB w (lentTo G imm ids) ss[i] HA[i] cs[i]
  | [], [], K, r, _, hr => ⟨[], hr, rfl, rfl, fun i x => by simp at x⟩
  | s :: ss, x :: HA, K, r, hx, hr => by
    simp only [resBs, List.map_cons] at hr
    obtain ⟨a, q1, q2⟩ := resB1_run h (hx x List.mem_cons_self) hd hr
    obtain ⟨cs, p1, p2, p3, p4⟩ := resBs_run h hd (HA := HA) (fun y hy => hx y (List.mem_cons_of_mem _ hy)) q1
    refine ⟨a :: cs, p1, by simp [p2], by simp [p3], fun i a1 a2 a3 => ?_⟩
    cases i with
    | zero => exact q2
    | succ i => exact p4 i (by simpa using a1) (by simpa using a2) (by simpa using a3)
  | [], _ :: _, _, _, _, hr => by cases hr
  | _ :: _, [], _, _, _, hr => by cases hr

/-! ### Values as data -/
def tsRel : Sc → AV → AV → Prop
  | .int _, v, a => a = v ∧ ∃ k n, a = .int k n
  | .bool, v, a => a = v ∧ ∃ b, a = .bool b
  | .str, v, a => a = v ∧ ∃ s, a = .str s
  | .sl m e κ, v, a => ∃ m0 l, v = .sl m0 e κ l ∧ a = .sl m e κ l
  | .ep _ _ _, _, _ => True
  | .ptr j c, v, a => (∃ o c', v = .ptr o c') ∧ a = .ptr j c
  | .fn f caps, v, a => (∃ g caps', v = .fn g caps') ∧ a = .fn f caps
  | .nilp, v, a => v = .nilp ∧ a = .nilp
theorem toTs_run {β : Type} {st : St} : ∀ {ss : List Sc} {vs : List AV} {K : Ts ss → Prg β} {r : β × St}, (toTs ss vs K).run st = some r →
    ∃ x, (K x).run st = some r ∧ vs.length = ss.length ∧ ∀ i (h : i < ss.length) (h1 : i < vs.length) (h2 : i < (ofTs ss x).length), tsRel ss[i] vs[i] (ofTs ss x)[i]
  | [], [], K, r, hr => ⟨(), hr, rfl, fun i x => by simp at x⟩
  | [], _ :: _, K, r, hr => by cases hr
  | s :: ss, [], K, r, hr => by cases s <;> cases hr
  | s :: ss, v :: vs, K, r, hr => by
    have step : ∀ (c : s.T) (a : AV) (ho : ∀ x : Ts ss, ofTs (s :: ss) (c, x) = a :: ofTs ss x), tsRel s v a → (toTs ss vs fun x => K (c, x)).run st = some r →
        ∃ x, (K x).run st = some r ∧ (v :: vs).length = (s :: ss).length ∧ ∀ i (h : i < (s :: ss).length) (h1 : i < (v :: vs).length) (h2 : i < (ofTs (s :: ss) x).length), tsRel (s :: ss)[i] (v :: vs)[i] (ofTs (s :: ss) x)[i] := fun c a ho ha hr => by
      obtain ⟨x, q1, q2, q3⟩ := toTs_run hr
      refine ⟨(c, x), q1, by simp [q2], fun i h1 h2 h3 => ?_⟩
      have e : (ofTs (s :: ss) (c, x))[i] = (a :: ofTs ss x)[i]'(by rw [← ho]; exact h3) := by simp only [ho]
      rw [e]
      cases i with
      | zero => exact ha
      | succ i => exact q3 i (by simpa using h1) (by simpa using h2) (by rw [ho] at h3; simpa using h3)
    cases s with
    | int k =>
      cases v <;> simp only [toTs] at hr <;> try cases hr
      split at hr
      · rename_i k' n hk
        subst hk
        exact step n _ (fun _ => rfl) ⟨rfl, _, _, rfl⟩ hr
      · cases hr
    | bool =>
      cases v <;> simp only [toTs] at hr <;> try cases hr
      exact step _ _ (fun _ => rfl) ⟨rfl, _, rfl⟩ hr
    | str =>
      cases v <;> simp only [toTs] at hr <;> try cases hr
      exact step _ _ (fun _ => rfl) ⟨rfl, _, rfl⟩ hr
    | sl m e κ =>
      cases v <;> simp only [toTs] at hr <;> try cases hr
      split at hr
      · rename_i m0 e' κ' l he
        subst he
        split at hr
        · rename_i hκ
          subst hκ
          exact step l _ (fun _ => rfl) ⟨_, _, rfl, rfl⟩ hr
        · cases hr
      · cases hr
    | ep j c k =>
      cases v <;> simp only [toTs] at hr <;> try cases hr
      exact step _ (.ep j c none 0 0 _ k) (fun _ => rfl) True.intro hr
    | ptr j c =>
      cases v <;> simp only [toTs] at hr <;> try cases hr
      exact step () _ (fun _ => rfl) ⟨⟨_, _, rfl⟩, rfl⟩ hr
    | fn f caps =>
      cases v <;> simp only [toTs] at hr <;> try cases hr
      exact step () _ (fun _ => rfl) ⟨⟨_, _, rfl⟩, rfl⟩ hr
    | nilp =>
      cases v <;> simp only [toTs] at hr <;> try cases hr
      exact step () _ (fun _ => rfl) ⟨rfl, rfl⟩ hr
end Go.Eva
end
section
/- A call's beginning. -/
namespace Go.Eva
set_option linter.unusedVariables false
set_option linter.unusedSimpArgs false
variable {P : Program} {W : Root} {T : Tab} {Γ : Gam}

/-- The values of arguments, by their cells. -/
def shV : List Shp → List Value → List Value
  | [], _ => []
  | .one _ :: r, us => us.getD 0 undef :: shV r (us.drop 1)
  | .agg ss :: r, us => .agg (us.take ss.length).toArray :: shV r (us.drop ss.length)

theorem R1.R2 {C : Ctx} {a : AV} {v : Value} (h : R1 C a v) : R2 C a v := by
  cases a with
  | tup => exact (show False from h).elim
  | _ => exact h

theorem flatA_run {β : Type} {C : Ctx} {st : St} : ∀ {shps : List Shp} {avs : List AV} {vs : List Value} {K : List AV → Prg β} {r : β × St}, (flatA shps avs K).run st = some r → vs.length = avs.length → (∀ i (h : i < avs.length) (h' : i < vs.length), R2 C avs[i] vs[i]) →
    ∃ (cs : List AV) (us : List Value), (K cs).run st = some r ∧ us.length = cs.length ∧ cs.length = (flats shps).length ∧ vs = shV shps us ∧ ∀ i (h : i < cs.length) (h' : i < us.length), R2 C cs[i] us[i]
  | [], [], vs, K, r, hr, hl, hv => by
    have : vs = [] := List.eq_nil_of_length_eq_zero hl
    subst this
    exact ⟨[], [], hr, rfl, rfl, rfl, fun i x => by simp at x⟩
  | .one s :: shps, v :: avs, u :: vs, K, r, hr, hl, hv => by
    obtain ⟨cs, us, q1, q2, q3, q4, q5⟩ := flatA_run (vs := vs) (shps := shps) hr (by simpa using hl) (fun i x y => hv (i + 1) (by simpa using x) (by simpa using y))
    refine ⟨v :: cs, u :: us, q1, by simp [q2], by simp [flats, Shp.fl, q3], by simp [shV, q4], fun i x y => ?_⟩
    cases i with
    | zero => exact hv 0 (by simp) (by simp)
    | succ i => exact q5 i (by simpa using x) (by simpa using y)
  | .agg ss :: shps, v :: avs, u :: vs, K, r, hr, hl, hv => by
    cases v with
    | agg cs0 =>
      simp only [flatA] at hr
      split at hr
      · rename_i hlen
        obtain ⟨us0, e1, e2, e3⟩ : R2 C (.agg cs0) u := hv 0 (by simp) (by simp)
        obtain ⟨cs, us, q1, q2, q3, q4, q5⟩ := flatA_run (vs := vs) (shps := shps) hr (by simpa using hl) (fun i x y => hv (i + 1) (by simpa using x) (by simpa using y))
        refine ⟨cs0 ++ cs, us0 ++ us, q1, by simp [q2, e2], by simp [flats, Shp.fl, q3, hlen], ?_, fun i x y => ?_⟩
        · simp only [shV]
          rw [List.take_append_of_le_length (by omega), List.take_of_length_le (by omega), List.drop_append, List.drop_of_length_le (by omega), List.nil_append, show ss.length - us0.length = 0 by omega, List.drop_zero, e1, q4]
        · by_cases hi : i < cs0.length
          · simp only [List.getElem_append_left hi, List.getElem_append_left (show i < us0.length by omega)]
            exact (R0.R1 (e3 i hi (by omega))).R2
          · simp only [List.getElem_append_right (show cs0.length ≤ i by omega), List.getElem_append_right (show us0.length ≤ i by omega), e2]
            exact q5 _ (by simp only [List.length_append] at x; omega) (by simp only [List.length_append] at y; omega)
      · cases hr
    | _ => cases hr
  | [], _ :: _, _, _, _, hr, _, _ => by cases hr
  | .one _ :: _, [], _, _, _, hr, _, _ => by cases hr
  | .agg _ :: _, [], _, _, _, hr, _, _ => by cases hr
  | .one _ :: _, _ :: _, [], _, _, _, hl, _ => by cases hl
  | .agg _ :: _, _ :: _, [], _, _, _, hl, _ => by cases hl

def idRel (ids : List Nat) : Sc → AV → Prop
  | .ptr j c, .ptr o c' => c = c' ∧ ids[j]? = some o
  | .fn f caps, .fn f' caps' => f = f' ∧ caps.length = caps'.length ∧ ∀ i (h : i < caps.length) (h' : i < caps'.length), (caps[i]).2 = (caps'[i]).2 ∧ ids[(caps[i]).1]? = some (caps'[i]).1
  | _, _ => True
theorem seeId_spec {j o : Nat} {ids ids' : List Nat} (h : seeId j o ids = some ids') : (∃ t, ids' = ids ++ t) ∧ ids'[j]? = some o := by
  unfold seeId at h
  split at h
  · rename_i hj
    split at h
    · rename_i ho
      injection h with h
      subst h
      refine ⟨⟨[], by simp⟩, ?_⟩
      rw [List.getD_eq_getElem?_getD, List.getElem?_eq_getElem hj] at ho
      rw [List.getElem?_eq_getElem hj]
      exact congrArg some ho
    · cases h
  · split at h
    · rename_i hj
      injection h with h
      subst h hj
      exact ⟨⟨[o], rfl⟩, by simp⟩
    · cases h
theorem seeIds_spec : ∀ {caps caps' : List (Nat × Nat)} {ids ids' : List Nat}, seeIds caps caps' ids = some ids' → (∃ t, ids' = ids ++ t) ∧ caps.length = caps'.length ∧ ∀ i (h : i < caps.length) (h' : i < caps'.length), (caps[i]).2 = (caps'[i]).2 ∧ ids'[(caps[i]).1]? = some (caps'[i]).1
  | [], [], ids, ids', h => by
    injection h with h
    exact ⟨⟨[], by simp [h]⟩, rfl, fun i x => by simp at x⟩
  | (j, c) :: caps, (o, c') :: caps', ids, ids', h => by
    simp only [seeIds] at h
    split at h
    · rename_i hc
      split at h
      · rename_i ids1 h1
        obtain ⟨⟨t1, q1⟩, q2⟩ := seeId_spec h1
        obtain ⟨⟨t2, q3⟩, q4, q5⟩ := seeIds_spec h
        refine ⟨⟨t1 ++ t2, by rw [q3, q1, List.append_assoc]⟩, by simp [q4], fun i x y => ?_⟩
        cases i with
        | zero =>
          refine ⟨hc, ?_⟩
          simp only [List.getElem_cons_zero]
          rw [q3, List.getElem?_append_left (List.getElem?_eq_some_iff.1 q2).1]; exact q2
        | succ i => exact q5 i (by simpa using x) (by simpa using y)
      · cases h
    · cases h
  | [], _ :: _, _, _, h => by cases h
  | (_, _) :: _, [], _, _, h => by cases h
theorem idRel_app {ids t : List Nat} {s : Sc} {v : AV} (h : idRel ids s v) : idRel (ids ++ t) s v := by
  cases s with
  | ptr j c =>
    cases v with
    | ptr o c' => exact ⟨h.1, by rw [List.getElem?_append_left (List.getElem?_eq_some_iff.1 h.2).1]; exact h.2⟩
    | _ => trivial
  | fn f caps =>
    cases v with
    | fn f' caps' => exact ⟨h.1, h.2.1, fun i x y => ⟨(h.2.2 i x y).1, by rw [List.getElem?_append_left (List.getElem?_eq_some_iff.1 (h.2.2 i x y).2).1]; exact (h.2.2 i x y).2⟩⟩
    | _ => trivial
  | _ => trivial
theorem idsOf_spec : ∀ {ss : List Sc} {vs : List AV} {ids ids' : List Nat}, idsOf ss vs ids = some ids' → (∃ t, ids' = ids ++ t) ∧ ∀ i (h : i < ss.length) (h' : i < vs.length), idRel ids' ss[i] vs[i]
  | [], [], ids, ids', h => by
    injection h with h
    exact ⟨⟨[], by simp [h]⟩, fun i x => by simp at x⟩
  | [], _ :: _, _, _, h => by cases h
  | s :: ss, [], _, _, h => by cases s <;> cases h
  | s :: ss, v :: vs, ids, ids', h => by
    have skip : ∀ {ids : List Nat}, idsOf ss vs ids = some ids' → (∀ {t : List Nat}, ids' = ids ++ t → idRel ids' s v) → (∃ t, ids' = ids ++ t) ∧ ∀ i (h : i < (s :: ss).length) (h' : i < (v :: vs).length), idRel ids' (s :: ss)[i] (v :: vs)[i] := fun h0 h1 => by
      obtain ⟨⟨t, q1⟩, q2⟩ := idsOf_spec h0
      refine ⟨⟨t, q1⟩, fun i x y => ?_⟩
      cases i with
      | zero => exact h1 q1
      | succ i => exact q2 i (by simpa using x) (by simpa using y)
    cases s with
    | ptr j c =>
      cases v with
      | ptr o c' =>
        simp only [idsOf] at h
        split at h
        · rename_i hc
          split at h
          · rename_i ids1 h1
            obtain ⟨⟨t1, q1⟩, q2⟩ := seeId_spec h1
            obtain ⟨⟨t2, q3⟩, q4⟩ := skip h (fun {t} e => ⟨hc, by rw [e, List.getElem?_append_left (List.getElem?_eq_some_iff.1 q2).1]; exact q2⟩)
            exact ⟨⟨t1 ++ t2, by rw [q3, q1, List.append_assoc]⟩, q4⟩
          · cases h
        · cases h
      | _ => exact skip h (fun _ => True.intro)
    | ep j c k =>
      cases v with
      | ep o c' pth rv nv i k' =>
        cases pth with
        | none =>
          simp only [idsOf] at h
          split at h
          · split at h
            · rename_i ids1 h1
              obtain ⟨⟨t1, q1⟩, q2⟩ := seeId_spec h1
              obtain ⟨⟨t2, q3⟩, q4⟩ := skip h (fun {t} e => True.intro)
              exact ⟨⟨t1 ++ t2, by rw [q3, q1, List.append_assoc]⟩, q4⟩
            · cases h
          · cases h
        | some p => exact skip h (fun _ => True.intro)
      | _ => exact skip h (fun _ => True.intro)
    | fn f caps =>
      cases v with
      | fn f' caps' =>
        simp only [idsOf] at h
        split at h
        · rename_i hc
          split at h
          · rename_i ids1 h1
            obtain ⟨⟨t1, q1⟩, q0, q2⟩ := seeIds_spec h1
            obtain ⟨⟨t2, q3⟩, q4⟩ := skip h (fun {t} e => ⟨hc, q0, fun i x y => ⟨(q2 i x y).1, by rw [e, List.getElem?_append_left (List.getElem?_eq_some_iff.1 (q2 i x y).2).1]; exact (q2 i x y).2⟩⟩)
            exact ⟨⟨t1 ++ t2, by rw [q3, q1, List.append_assoc]⟩, q4⟩
          · cases h
        · cases h
      | _ => exact skip h (fun _ => True.intro)
    | _ => exact skip h (fun _ => True.intro)

/-! ### Contracts -/
def scArg : Sc → Bool
  | .ep _ _ _ => false
  | .sl (.mix true) _ _ => false
  | _ => true
def scRet (n : Nat) : Sc → Bool
  | .ptr j _ => decide (j < n)
  | .nilp => true
  | s => scPlain s
def conOk (con : Con) : Bool := (flats con.args).all scArg && ((flat2 con.objs).all scPlain && ((flat2 con.outs).all scPlain && ((flats con.rets).all (scRet con.outs.length) && (decide (con.objs.length ≤ con.outs.length) && decide (con.outs.length ≤ con.objs.length + 1)))))
def Ifc (W : World) (sss : List (List Sc)) (cells : List AV) (w : World) (G : List Gh) (H : List Hd) (frz imm : Nat → Prop) : Prop := Rep ⟨W, []⟩ ⟨[], begO sss cells⟩ w #[] G H frz imm
def retVal (vs : List Value) : Value :=
  match vs with
  | [v] => v
  | vs => .tuple vs.toArray
def Post (W : World) (con : Con) (r : Ts (flats con.rets ++ flat2 con.outs)) (w : World) (G : List Gh) (frz imm : Nat → Prop) : Ending → World → Prop := fun e w' =>
  ∃ v, e = .returned v ∧ ∃ G' H' frz' imm', Ifc W con.outs ((ofTs _ r).drop (flats con.rets).length) w' G' H' frz' imm' ∧ H'.map (·.a) = (ofTs _ r).take (flats con.rets).length ∧ v = retVal (shV con.rets (H'.map (·.v))) ∧
    (∀ (j : Nat) (g : Gh), j < con.objs.length → G[j]? = some g → ∃ g' : Gh, G'[j]? = some g' ∧ g'.addr = g.addr) ∧ Ext w frz imm w' frz' imm'
/-- A function does what its contract says. -/
structure Good (P : Program) (W : World) (f : FuncId) (con : Con) : Prop where
  ok : conOk con = true
  fn : ∃ fn, P.funcs[f]? = some fn ∧ fn.body.isNone = false ∧ (fn.name == "runtime.NumGoroutine") = false
  run : ∀ x r, con.f x = some r → ∀ w G H frz imm, Ifc W con.objs ((ofTs _ x).drop (flats con.args).length) w G H frz imm → H.map (·.a) = (ofTs _ x).take (flats con.args).length →
    Calls P f (shV con.args (H.map (·.v))).toArray w (Post W con r w G frz imm)

section
variable {st : St} {w : World} {tm : Array Value} {G : List Gh} {H : List Hd} {frz imm : Nat → Prop}

/-- An argument as the callee sees it. -/
theorem arg_rel {C C' : Ctx} {ids : List Nat} {s : Sc} {cs v a : AV} {x : Hd} (hsc : scArg s = true) (hid : idRel ids s v) (hres : resOk s v x.a) {imm0 : Nat → Prop} (hb : resB C.w imm0 s x cs) (ht : tsRel s cs a) (hrc : RC C x.a x.v x.fp)
    (hw : C'.w = C.w) (hS : ∀ t b, C.S t b → C'.S t b) (h0 : ∀ b, imm0 b → C'.imm b) (hG : ∀ (j o : Nat) (g : Gh), ids[j]? = some o → C.G[o]? = some g → ∃ g' : Gh, C'.G[j]? = some g' ∧ g'.addr = g.addr) : RC C' a x.v x.fp := by
  have mv : avLoose a = true → RC C a x.v x.fp → RC C' a x.v x.fp := fun hl h => RC.move h hl (by rw [hw]; exact Nat.le_refl _) (fun _ _ => by rw [hw]) (fun t b _ hb => ⟨hS t b hb, by rw [hw]⟩)
  have ptr : ∀ j o c v, ids[j]? = some o → PtR C.G o c v → PtR C'.G j c v := fun j o c v hj hp => by
    obtain ⟨g, b, p1, p2, p3⟩ := hp
    obtain ⟨g', q1, q2⟩ := hG j o g hj p1
    exact ⟨g', b, q1, q2.trans p2, p3⟩
  cases s with
  | int k =>
    obtain ⟨k', n, e⟩ := hres
    have hb : cs = x.a := hb
    obtain ⟨t1, _⟩ := ht
    rw [t1, hb]
    rw [t1, hb] at mv
    exact mv (by rw [e]; rfl) hrc
  | bool =>
    obtain ⟨n, e⟩ := hres
    have hb : cs = x.a := hb
    obtain ⟨t1, _⟩ := ht
    rw [t1, hb]
    rw [t1, hb] at mv
    exact mv (by rw [e]; rfl) hrc
  | str =>
    obtain ⟨n, e⟩ := hres
    have hb : cs = x.a := hb
    obtain ⟨t1, _⟩ := ht
    rw [t1, hb]
    rw [t1, hb] at mv
    exact mv (by rw [e]; rfl) hrc
  | nilp =>
    have e : x.a = .nilp := hres
    obtain ⟨t1, t2⟩ := ht
    rw [t2]
    rw [t2] at mv
    rw [e] at hrc
    exact mv rfl hrc
  | ptr j c =>
    obtain ⟨e, o, c', e2⟩ := hres
    obtain ⟨_, t2⟩ := ht
    rw [t2]
    subst e2
    rw [e] at hrc
    obtain ⟨q1, q2⟩ := hid
    subst q1
    exact ⟨hrc.1, ptr _ _ _ _ q2 hrc.2⟩
  | fn f caps =>
    obtain ⟨e, f', caps', e2⟩ := hres
    obtain ⟨_, t2⟩ := ht
    rw [t2]
    subst e2
    rw [e] at hrc
    obtain ⟨q1, q2, q3⟩ := hid
    subst q1
    obtain ⟨h1, cv, h2, h3, h4⟩ := hrc
    refine ⟨h1, cv, h2, by omega, fun i a b => ?_⟩
    obtain ⟨z1, z2⟩ := q3 i a (by omega)
    rw [z1]
    exact ptr _ _ _ _ z2 (h4 i (by omega) b)
  | ep j c k => cases hsc
  | sl m e κ =>
    obtain ⟨m0, l, t1, t2⟩ := ht
    rw [t2]
    rw [t2] at mv
    have same : (∃ e κ l, x.a = .sl m e κ l) → cs = x.a → RC C' (.sl m e κ l) x.v x.fp := fun hx hc => by
      obtain ⟨e', κ', l', hx⟩ := hx
      rw [hx, t1] at hc
      injection hc with u1 u2 u3 u4
      subst u1 u2 u3
      have u4 := eq_of_heq u4
      subst u4
      rw [hx] at hrc
      exact mv rfl hrc
    cases m with
    | own => exact same hres hb
    | mix b =>
      cases b with
      | false => exact same hres hb
      | true => cases hsc
    | imm b =>
      cases b with
      | false => exact same hres hb
      | true =>
        obtain ⟨e1, κ1, l1, fp, b1, b2, b3⟩ := hb
        rw [b1] at t1
        injection t1 with u1 u2 u3 u4
        subst u2 u3
        have u4 := eq_of_heq u4
        subst u4
        have hfp : x.fp = [] := by
          rcases hres with ⟨o, c, p, rv, nv, rng, q⟩ | ⟨b', e', κ', l', q⟩ | q <;> rw [q] at hrc <;> exact hrc.1
        exact ⟨hfp, fp, by rw [hw]; exact b2, fun y hy => h0 y (b3 y hy)⟩
end
end Go.Eva
end
section
/- A call's beginning, whole; objects given back. -/
namespace Go.Eva
set_option linter.unusedVariables false
set_option linter.unusedSimpArgs false
variable {P : Program} {W : Root} {T : Tab} {Γ : Gam}

theorem ghd_get {G : List Gh} {o : Nat} {g : Gh} (h : G[o]? = some g) : ghd G o = g := by simp [ghd, List.getD_eq_getElem?_getD, h]

section
variable {st : St} {w : World} {tm : Array Value} {G : List Gh} {H : List Hd} {frz imm : Nat → Prop}

theorem conP_run {con : Con} {avs : List AV} {d : Option Tmp} {r : Unit × St} {vs : List Value} (h : Rep W st w tm G [] frz imm) (hr : (conP con avs d).run st = some r) (hl : vs.length = avs.length)
    (hv : ∀ i (h : i < avs.length) (h' : i < vs.length), R2 (ctx st G w frz imm) avs[i] vs[i]) (hok : conOk con = true) :
    ∃ (x : _) (rr : _) (st3 : St) (G3 : List Gh) (HA HO HA' : List Hd) (f3 i3 : Nat → Prop) (ids : List Nat), con.f x = some rr ∧ (retP con ids d rr).run st3 = some r ∧ vs = shV con.args (HA'.map (·.v)) ∧ HA'.map (·.a) = (ofTs _ x).take (flats con.args).length ∧
      st3.slots = st.slots ∧ CLe (ctx st G w frz imm) (ctx st3 G3 w f3 i3) ∧ Rep W st3 w tm G3 (HA ++ HO) f3 i3 ∧ Ext w frz imm w f3 i3 ∧ ids.Nodup ∧ ids.length = con.objs.length ∧ (∀ o ∈ ids, o < st3.objs.length ∧ deadAt st3 G3 o) ∧
      LentAt G3 w ids con.objs HO ∧ Ifc W con.objs ((ofTs _ x).drop (flats con.args).length) w (ghO G3 ids con.objs HO) HA' f3 (lentTo G3 i3 ids) := by
  unfold conP at hr
  obtain ⟨cs, us, a1, a2, a3, a4, a5⟩ := flatA_run (C := ctx st G w frz imm) hr hl hv
  split at a1
  · cases a1
  rename_i ids hids
  split at a1
  · rename_i hcond
    obtain ⟨hil, hnd⟩ := hcond
    obtain ⟨_, hid⟩ := idsOf_spec hids
    obtain ⟨H1, st1, G1, f1, i1, b1, b2, b3, b4, b5, b6, b7, b8, b9⟩ := resAs_run h a1 a2 a5
    obtain ⟨HO, st2, G2, f2, i2, c1, c2, c3, c4, c5, c6, c7, c8, c9, c10⟩ := lendO_run hnd b8 b1
    have hRC : ∀ x ∈ H1, RC (ctx st2 G2 w f2 i2) x.a x.v x.fp := fun x hx => c4.held x (List.mem_append_right _ (List.mem_append_left _ hx))
    obtain ⟨cs2, d1, d2, d3, d4⟩ := resBs_run c4 c10 hRC c1
    obtain ⟨x, e1, e2, e3⟩ := toTs_run d1
    have e1 : ((con.f x).bind fun a => (retP con ids d a).run st2) = some r := e1
    cases hf : con.f x with
    | none => rw [hf] at e1; cases e1
    | some rr =>
      rw [hf] at e1
      have hxl := ofTs_len _ x
      simp only [conOk, Bool.and_eq_true, List.all_eq_true] at hok
      obtain ⟨o1, o2, o3, o4, o5⟩ := hok
      have hn : (flats con.args).length = cs2.length := d2.symm
      have hcl : (flats con.args ++ flat2 con.objs).length = (cs2 ++ HO.map (·.a)).length := e2.symm
      -- the objects' cells
      have hHOe : ∀ i (hi : i < (flat2 con.objs).length) (h1 : i < HO.length), ∃ a, (ofTs _ x)[(flats con.args).length + i]? = some a ∧ HO[i].a = a ∧ avPlain a = true := fun i hi h1 => by
        have hlt : (flats con.args).length + i < (flats con.args ++ flat2 con.objs).length := by simp; omega
        have t := e3 ((flats con.args).length + i) hlt (by simp; omega) (by rw [hxl]; exact hlt)
        simp only [List.getElem_append_right (show (flats con.args).length ≤ (flats con.args).length + i by omega), Nat.add_sub_cancel_left] at t
        rw [List.getElem_append_right (by omega)] at t
        simp only [List.getElem_map, show (flats con.args).length + i - cs2.length = i by omega] at t
        refine ⟨_, List.getElem?_eq_getElem (by rw [hxl]; exact hlt), ?_⟩
        have hp := o2 _ (List.getElem_mem hi)
        have hlk := c8 i hi h1
        generalize (flat2 con.objs)[i] = s at t hp hlk
        generalize (ofTs (flats con.args ++ flat2 con.objs) x)[(flats con.args).length + i]'_ = a at t
        cases s with
        | int k => obtain ⟨t1, k', n, t2⟩ := t; exact ⟨t1.symm, by rw [t2]; rfl⟩
        | bool => obtain ⟨t1, n, t2⟩ := t; exact ⟨t1.symm, by rw [t2]; rfl⟩
        | str => obtain ⟨t1, n, t2⟩ := t; exact ⟨t1.symm, by rw [t2]; rfl⟩
        | sl m e κ =>
          obtain ⟨m0, l, t1, t2⟩ := t
          obtain ⟨q0, e', κ', l', q⟩ := hlk
          rw [t1] at q
          injection q with u1 u2 u3 u4
          subst u1 u2 u3
          exact ⟨by rw [t1, t2], by rw [t2, ← t1]; exact q0⟩
        | _ => cases hp
      have hdrop : HO.map (·.a) = (ofTs _ x).drop (flats con.args).length := by
        apply List.ext_getElem?
        intro i
        rw [List.getElem?_drop]
        by_cases hi : i < HO.length
        · obtain ⟨a, q1, q2, _⟩ := hHOe i (by omega) hi
          rw [q1, List.getElem?_map, List.getElem?_eq_getElem hi]
          simp [q2]
        · rw [List.getElem?_eq_none (by simp; omega), List.getElem?_eq_none (by rw [hxl]; simp; omega)]
      have hplain : ∀ y ∈ HO, avPlain y.a = true := fun y hy => by
        obtain ⟨i, hi, rfl⟩ := List.getElem_of_mem hy
        obtain ⟨a, _, q2, q3⟩ := hHOe i (by omega) hi
        rw [q2]; exact q3
      let HA' : List Hd := List.zipWith (fun a (y : Hd) => (⟨a, y.v, y.fp⟩ : Hd)) ((ofTs _ x).take (flats con.args).length) H1
      have hlA : HA'.length = H1.length := by simp [HA', hxl]; omega
      have hgA : ∀ i (y : i < HA'.length) (z : i < H1.length) (z2 : i < (ofTs _ x).length), HA'[i] = ⟨(ofTs _ x)[i], H1[i].v, H1[i].fp⟩ := fun i y z z2 => by simp [HA']
      have hperm : (HO ++ (H1 ++ [])).Perm (H1 ++ HO) := by rw [List.append_nil]; exact List.perm_append_comm
      have c4' := c4.perm hperm
      have hA : ∀ i (z : i < H1.length) (y : i < HA'.length), (HA'[i]).fp = (H1[i]).fp ∧ RC ⟨begO con.objs (HO.map (·.a)), ghO G2 ids con.objs HO, w, f2, lentTo G2 i2 ids⟩ HA'[i].a HA'[i].v HA'[i].fp := fun i z y => by
        have z2 : i < (ofTs _ x).length := by rw [hxl]; simp; omega
        rw [hgA i y z z2]
        refine ⟨rfl, ?_⟩
        have hi : i < (flats con.args).length := by omega
        have t := e3 i (by simp; omega) (by simp; omega) z2
        rw [List.getElem_append_left hi, List.getElem_append_left (show i < cs2.length by omega)] at t
        refine arg_rel (C := ctx st2 G2 w f2 i2) (x := H1[i]) (a := (ofTs _ x)[i]) (ids := ids) (imm0 := lentTo G2 i2 ids) (o1 _ (List.getElem_mem hi)) (hid i hi (by omega)) (b5 i hi (by omega) z) (d4 i hi z (by omega)) t (hRC _ (List.getElem_mem z)) rfl (fun t b hb => ?_) (fun b hb => hb) (fun j o g hj hg => ?_)
        · cases t
          · exact hb
          · exact .inl hb
        · obtain ⟨hj1, hj2⟩ := List.getElem?_eq_some_iff.1 hj
          obtain ⟨g', q1, q2⟩ := ghO_addr G2 w ids con.objs HO c6 j hj1
          have hg : G2[o]? = some g := hg
          exact ⟨g', q1, by rw [q2, hj2, ghd_get hg]⟩
      have hlen2 : G2.length = st2.objs.length := c4.len
      have hand := Rep.hand (ids := ids) (sss := con.objs) (HA' := HA') (imm0 := lentTo G2 i2 ids) c4' hnd (fun o ho => by rw [hlen2]; exact (c10 o ho).1) c6 hplain (fun b hb => .inl hb) (fun b hb => hb) hlA hA ⟨W.toWorld, []⟩ rfl (fun p hp => by cases hp)
      refine ⟨x, rr, st2, G2, H1, HO, HA', f2, i2, ids, hf, e1, ?_, ?_, c2.trans b6, b7.trans c3, c4', b9.trans c5, hnd, hil, c10, c6, ?_⟩
      · have : HA'.map (·.v) = us := by
          rw [← b2]
          apply List.ext_getElem (by simp [hlA])
          intro i q1 q2
          simp only [List.getElem_map]
          rw [hgA i (by simpa using q1) (by simpa using q2) (by rw [hxl]; simp at q2 ⊢; omega)]
        rw [this]; exact a4
      · apply List.ext_getElem (by simp [hlA, hxl]; omega)
        intro i q1 q2
        simp only [List.getElem_map, List.getElem_take]
        rw [hgA i (by simpa using q1) (by simp at q1; omega) (by rw [hxl]; simp at q1 ⊢; omega)]
      · unfold Ifc
        rw [← hdrop]
        exact hand
  · cases a1
end

/-! ### Some places of a list are given -/
def updL {α β : Type} (f : α → β → α) (d : α) : List α → List Nat → List β → List α
  | xs, i :: is, y :: ys => updL f d (xs.set i (f (xs.getD i d) y)) is ys
  | xs, _, _ => xs
theorem updL_len {α β : Type} (f : α → β → α) (d : α) : ∀ (xs : List α) (is : List Nat) (ys : List β), (updL f d xs is ys).length = xs.length
  | xs, [], _ => rfl
  | xs, _ :: _, [] => rfl
  | xs, i :: is, y :: ys => by rw [updL, updL_len f d]; simp
theorem updL_out {α β : Type} (f : α → β → α) (d : α) : ∀ (xs : List α) (is : List Nat) (ys : List β) (k : Nat), k ∉ is → (updL f d xs is ys)[k]? = xs[k]?
  | xs, [], _, k, _ => rfl
  | xs, _ :: _, [], k, _ => rfl
  | xs, i :: is, y :: ys, k, h => by
    rw [updL, updL_out f d _ is ys k (fun q => h (List.mem_cons_of_mem _ q)), List.getElem?_set_ne (fun q => h (by rw [q]; exact List.mem_cons_self))]
theorem updL_in {α β : Type} (f : α → β → α) (d : α) : ∀ (xs : List α) (is : List Nat) (ys : List β), is.Nodup → ∀ j (h : j < is.length) (h' : j < ys.length) (hx : is[j] < xs.length), (updL f d xs is ys)[is[j]]? = some (f xs[is[j]] ys[j])
  | xs, [], _, _, j, h, _, _ => by cases h
  | xs, _ :: _, [], _, j, _, h, _ => by cases h
  | xs, i :: is, y :: ys, hnd, j, h, h', hx => by
    rw [List.nodup_cons] at hnd
    cases j with
    | zero =>
      simp only [List.getElem_cons_zero] at hx ⊢
      rw [updL, updL_out f d _ is ys i hnd.1, List.getD_eq_getElem?_getD, List.getElem?_eq_getElem hx]
      simp [hx]
    | succ j =>
      simp only [List.getElem_cons_succ] at hx ⊢
      have hj : j < is.length := by simpa using h
      have hne : i ≠ is[j] := fun q => hnd.1 (by rw [q]; exact List.getElem_mem hj)
      rw [updL, updL_in f d _ is ys hnd.2 j hj (by simpa using h') (by simpa using hx)]
      congr 2
      exact List.getElem_set_ne hne _

def mapPtr (ids : List Nat) (d : Nat) : AV → AV
  | .ptr j c => .ptr (ids.getD j d) c
  | a => a
def backOb : Ob → Ob → Ob := fun ob n => ⟨true, n.cells, ob.rv + 1, ob.nv + 1⟩
def gh0 : Gh := ⟨none, [], []⟩

theorem backO_run {β : Type} : ∀ {ids : List Nat} {sss : List (List Sc)} {vs : List AV} {K : List (List Sc) → List AV → Prg β} {st : St} {r : β × St}, (backO ids sss vs K).run st = some r →
    ∃ sss' vs', (K sss' vs').run ⟨st.slots, updL backOb Ob.none st.objs ids (begO sss vs)⟩ = some r ∧ sss'.length + ids.length = sss.length ∧ (∃ l, l.length = ids.length ∧ begO sss vs = l ++ begO sss' vs') ∧ (vs.length = (flat2 sss).length → vs'.length = (flat2 sss').length)
  | [], sss, vs, K, st, r, hr => ⟨sss, vs, hr, by simp, ⟨[], rfl, rfl⟩, fun h => h⟩
  | o :: os, ss :: sss, vs, K, st, r, hr => by
    simp only [backO] at hr
    rw [run_obj, run_setObj] at hr
    obtain ⟨s', v', q1, q2, ⟨l, q3, q4⟩, q5⟩ := backO_run hr
    exact ⟨s', v', q1, by simp; omega, ⟨⟨true, vs.take ss.length, 0, 0⟩ :: l, by simp [q3], by simp only [begO, q4, List.cons_append]⟩, fun h => q5 (by simp only [flat2, List.length_append] at h; simp; omega)⟩
  | _ :: _, [], _, _, _, _, hr => by cases hr
theorem updL_app {α β : Type} (f : α → β → α) (d : α) : ∀ (xs : List α) (is : List Nat) (i : Nat) (ys : List β) (y : β), ys.length = is.length → updL f d xs (is ++ [i]) (ys ++ [y]) = (updL f d xs is (ys ++ [y])).set i (f ((updL f d xs is (ys ++ [y])).getD i d) y)
  | xs, [], i, [], y, _ => rfl
  | xs, k :: is, i, z :: ys, y, h => updL_app f d _ is i ys y (by simpa using h)
  | xs, [], i, _ :: _, y, h => by cases h
  | xs, _ :: _, i, [], y, h => by cases h
end Go.Eva
end
