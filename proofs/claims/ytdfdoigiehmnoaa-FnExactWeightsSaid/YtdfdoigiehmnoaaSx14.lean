/- Stores and appends. No condition. -/
import Derived.Test.YtdfdoigiehmnoaaSx13
namespace Go.SX
open Go.RowKit
set_option linter.unusedVariables false
set_option linter.unusedSimpArgs false

section
variable {P : Program} {T : Tab} {base : Nat} {M : LM} {w0 : World} {V : Vl} {hp : Nat → Ent} {w : World} {a : Act} {next : Act → World → Prop} {Q : Exit → Act → World → Prop}

theorem setRow_other' (w : World) (g k : Nat) (cs : Array Value) (h : k ≠ g) : (w.setRow g cs).heap[k]? = w.heap[k]? := by
  simp only [World.setRow, Array.getElem?_modify]
  rw [if_neg (fun e => h e.symm)]

theorem setRow_size (w : World) (g : Nat) (cs : Array Value) : (w.setRow g cs).heap.size = w.heap.size := by simp [World.setRow]

/-- A write into the block of name 'm': what is known of the rest. -/
structure Wr (V : Vl) (hp : Nat → Ent) (w : World) (m : Nat) (hp' : Nat → Ent) (w' : World) : Prop where
  oth : ∀ n, n ≠ m → hp' n = hp n
  blk : ∀ b, b ≠ V.blk m → w'.heap[b]? = w.heap[b]?
  has : V.has m
  kind : (∃ cs cs', hp m = .bx cs ∧ hp' m = .bx cs') ∨
    (∃ fr fr' e, ∃ xs xs' : List e.den, hp m = .row fr e xs ∧ hp' m = .row fr' e xs' ∧ xs.length = xs'.length ∧
      ∃ vals vals' el el', w.heap[V.blk m]? = some (.cells vals el (0, 0)) ∧ w'.heap[V.blk m]? = some (.cells vals' el' (0, 0)) ∧ vals.size = vals'.size)

theorem Wr.z {hp' : Nat → Ent} {w' : World} {m : Nat} (k : Wr V hp w m hp' w') (mm : Mem base M w0 V hp w) {fr : Bool} {b : Nat} (h : V.Z fr b) : w'.heap[b]? = w.heap[b]? := by
  have hl : (hp m).live = true := by rcases k.kind with ⟨cs, _, h, _⟩ | ⟨_, _, _, _, _, h, _⟩ <;> rw [h] <;> rfl
  exact k.blk b fun e => by subst e; exact (mm.own m hl k.has).2.2 (Vl.Z_all h)

theorem Wr.row {hp' : Nat → Ent} {w' : World} {m : Nat} (k : Wr V hp w m hp' w') (mm : Mem base M w0 V hp w) {n h : Nat} {fr : Bool} {e : Ty} {xs : List e.den} {v : Value} (hn : hp n = .row fr e xs) (hr : hasRow V w n e h v) :
    ∃ fr', ∃ xs' : List e.den, hp' n = .row fr' e xs' ∧ xs'.length = xs.length ∧ hasRow V w' n e h v := by
  by_cases hnm : n = m
  · subst hnm
    rcases k.kind with ⟨cs, _, h1, _⟩ | ⟨fr1, fr2, e', xs1, xs2, h1, h2, h3, vals, vals', el, elB, h4, h5, h6⟩
    · rw [hn] at h1; cases h1
    · rw [hn] at h1
      injection h1 with e1 e2 e3
      subst e1; subst e2; cases e3
      refine ⟨fr2, xs2, h2, h3.symm, ?_⟩
      rcases hr with ⟨q1, q2, q3⟩ | ⟨q1, cap, v1, el1, q2, q3, q4, q5⟩
      · exact .inl ⟨q1, q2, q3⟩
      · rw [h4] at q3
        injection q3 with q3
        injection q3 with g1 g2 g3
        subst g1
        exact .inr ⟨q1, cap, vals', elB, q2, h5, by rw [← h6]; exact q4, q5⟩
  · refine ⟨fr, xs, (k.oth n hnm).trans hn, rfl, ?_⟩
    rcases hr with ⟨q1, q2, q3⟩ | ⟨q1, cap, v1, el1, q2, q3, q4, q5⟩
    · exact .inl ⟨q1, q2, q3⟩
    · have hl : (hp m).live = true := by rcases k.kind with ⟨cs, _, h, _⟩ | ⟨_, _, _, _, _, h, _⟩ <;> rw [h] <;> rfl
      exact .inr ⟨q1, cap, v1, el1, q2, by rw [k.blk _ (fun e => hnm (mm.dist n m (by rw [hn]; rfl) hl q1 k.has e))]; exact q3, q4, q5⟩

theorem Wr.ok {hp' : Nat → Ent} {w' : World} {m : Nat} (k : Wr V hp w m hp' w') (mm : Mem base M w0 V hp w) {c : C} {v : Value} (h : C.ok V hp w c v) (hb : ∀ e xs, c ≠ .brw m e xs) : C.ok V hp' w' c v := by
  have hl : (hp m).live = true := by rcases k.kind with ⟨cs, _, h, _⟩ | ⟨_, _, _, _, _, h, _⟩ <;> rw [h] <;> rfl
  have hrd : ∀ {fr : Bool} {t : Ty} {cs : List Value} {d : t.den}, RdC (V.Z fr) w t cs d → RdC (V.Z fr) w' t cs d := fun h => h.mono (fun _ h => h) (fun b hb => k.z mm hb)
  have hbx : ∀ {n cs}, hp n = .bx cs → ∃ cs', hp' n = .bx cs' := by
    intro n cs h
    by_cases hn : n = m
    · subst hn
      rcases k.kind with ⟨_, cs', _, h2⟩ | ⟨_, _, _, _, _, h1, _⟩
      · exact ⟨cs', h2⟩
      · rw [h] at h1; cases h1
    · exact ⟨cs, (k.oth n hn).trans h⟩
  cases c with
  | val u => exact h
  | tru => exact h
  | fls => exact h
  | any => exact h
  | rd fr e xs => exact hrd (t := .sl e) h
  | clo fr f t d => exact hrd (t := .clo f t) h
  | own n =>
    obtain ⟨fr, e, xs, h1, h2⟩ := h
    obtain ⟨fr', xs', h3, h4, h5⟩ := k.row mm h1 h2
    exact ⟨fr', e, xs', h3, by rw [h4]; exact h5⟩
  | pre n j =>
    obtain ⟨fr, e, xs, h1, h6, h2⟩ := h
    obtain ⟨fr', xs', h3, h4, h5⟩ := k.row mm h1 h2
    exact ⟨fr', e, xs', h3, by rw [h4]; exact h6, h5⟩
  | brw n e xs =>
    obtain ⟨⟨fr, e', ys, h1⟩, h2⟩ := h
    have hn : n ≠ m := fun e' => by subst e'; exact hb e xs rfl
    refine ⟨⟨fr, e', ys, (k.oth n hn).trans h1⟩, h2.mono (fun _ h => h) (fun b hb' => ?_)⟩
    rcases hb' with hz | ⟨q1, q2⟩
    · exact k.z mm hz
    · exact k.blk b fun e => hn (mm.dist n m (by rw [h1]; rfl) hl q1 k.has (by rw [← q2, e]))
  | box n off => obtain ⟨h1, h2, cs, h3⟩ := h; exact ⟨h1, h2, hbx h3⟩
  | at_ fr t d off =>
    obtain ⟨b, o, h1, h2, es, h3, h4, h5⟩ := h
    exact ⟨b, o, h1, h2, es, h3, cellsAt_agree (k.z mm h2) h4, hrd h5⟩
  | elt n i off =>
    obtain ⟨h0, fr, e, xs, h1, h2, h3⟩ := h
    by_cases hn : n = m
    · subst hn
      rcases k.kind with ⟨cs, _, q1, _⟩ | ⟨fr1, fr2, e', xs1, xs2, q1, q2, q3, _⟩
      · rw [h1] at q1; cases q1
      · rw [h1] at q1
        injection q1 with e1 e2 e3
        subst e1; subst e2; cases e3
        exact ⟨h0, fr2, e, xs2, q2, by rw [← q3]; exact h2, h3⟩
    · exact ⟨h0, fr, e, xs, (k.oth n hn).trans h1, h2, h3⟩
  | fn f caps => exact ⟨h.1, fun n hn => ⟨(h.2 n hn).1, let ⟨_, cs, h3⟩ := h.2 n hn; hbx h3⟩⟩

/-- No word of 'brw m' in the state. -/
def NoB (m : Nat) (c : C) : Prop := ∀ e xs, c ≠ .brw m e xs

theorem okAll_wr {hp' : Nat → Ent} {w' : World} {m : Nat} (k : Wr V hp w m hp' w') (mm : Mem base M w0 V hp w) {cs : List C} {vs : List Value} (h : okAll V hp w cs vs) (hb : ∀ c ∈ cs, NoB m c) : okAll V hp' w' cs vs :=
  ⟨h.1, fun j c v hc hv => k.ok mm (h.2 j c v hc hv) (hb c (List.mem_of_getElem? hc))⟩

theorem s_wr {hp' : Nat → Ent} {w' : World} {m : Nat} (k : Wr V hp w m hp' w') (mm : Mem base M w0 V hp w) {s : S} {v : Value} (h : S.ok V hp w (S.map (killB m) s) v) : S.ok V hp' w' (S.map (killB m) s) v := by
  have hk : ∀ c, NoB m (killB m c) := by
    intro c e xs he
    cases c <;> simp only [killB] at he <;> first | (cases he; done) | skip
    split at he
    · cases he
    · rename_i hn; injection he with h1; exact hn h1
  have hcs : ∀ cs : List C, ∀ c ∈ lmap (killB m) cs, NoB m c := by
    intro cs c hc
    rw [lmap_eq, List.mem_map] at hc
    obtain ⟨x, _, rfl⟩ := hc
    exact hk x
  cases s with
  | c x => exact k.ok mm h (hk x)
  | agg cs => obtain ⟨vs, h1, h2⟩ := h; exact ⟨vs, h1, okAll_wr k mm h2 (hcs cs)⟩
  | tup xs =>
    obtain ⟨vs, h1, h2, h3⟩ := h
    refine ⟨vs, h1, h2, fun j y v hy hv => ?_⟩
    have h4 := h3 j y v hy hv
    rw [lmap_eq, List.getElem?_map] at hy
    cases hx : xs[j]? with
    | none => rw [hx] at hy; cases hy
    | some x =>
      rw [hx] at hy
      simp only [Option.map_some, Option.some.injEq] at hy
      subst hy
      unfold okTop at h4 ⊢
      simp only at h4 ⊢
      split
      · rename_i hb; rw [if_pos hb] at h4; obtain ⟨us, k1, k2⟩ := h4; exact ⟨us, k1, okAll_wr k mm k2 (hcs x.2)⟩
      · rename_i hb; rw [if_neg hb] at h4; exact okAll_wr k mm h4 (hcs x.2)
  | und => exact h
  | any => trivial
  | arr e xs => exact S.arr_ext h

/-- The state behind a write into name 'm', which has been freed of words that borrow from it. -/
theorem rel_write {st : St} {ts : Array Value} (r : Rel base M w0 V st ts w) {m : Nat} {e' : Ent} {w' : World} (k : Wr V st.ent w m (hpSet st.ent m e') w') (hlive : e'.live = true)
    (hk' : Kept base M w0 w') (hsz : w'.heap.size = w.heap.size) (hok : e'.ok V (hpSet (hpMap (killB m) st.ent) m e') w' m) (hmine : ∀ e xs, e' = .row true e xs → base ≤ V.blk m) (hbx : ∀ cs, e' = .bx cs → V.has m) (hlent : e'.lentish → M.nm (V.blk m) m) :
    Rel base M w0 V { (st.map (killB m)) with hp := lset (st.map (killB m)).hp m e' } ts w' := by
  have r1 := r.kill (kills_killB m)
  have mm := r1.mem
  have hl : (st.ent m).live = true := by rcases k.kind with ⟨cs, _, h, _⟩ | ⟨_, _, _, _, _, h, _⟩ <;> rw [h] <;> rfl
  have hlt : m < st.hp.length := ent_lt hl
  have hent : (St.mk (st.map (killB m)).ts (lset (st.map (killB m)).hp m e')).ent = hpSet (hpMap (killB m) st.ent) m e' := by
    rw [ent_set (by show m < (lmap _ _).length; rw [lmap_eq, List.length_map]; exact hlt)]
    congr 1
    exact ent_map st _
  rw [ent_map] at mm
  have k' : Wr V (hpMap (killB m) st.ent) w m (hpSet (hpMap (killB m) st.ent) m e') w' := by
    refine ⟨fun n hn => by simp only [hpSet, if_neg hn], k.blk, k.has, ?_⟩
    rcases k.kind with ⟨cs, cs', h1, h2⟩ | ⟨fr, fr', e, xs, xs', h1, h2, h3⟩
    · refine .inl ⟨lmap (killB m) cs, cs', by show (st.ent m).map _ = _; rw [h1]; rfl, ?_⟩
      simp only [hpSet, if_true] at h2 ⊢; exact h2
    · refine .inr ⟨fr, fr', e, xs, xs', by show (st.ent m).map _ = _; rw [h1]; rfl, ?_, h3⟩
      simp only [hpSet, if_true] at h2 ⊢; exact h2
  have hcases : ∀ n, (hpSet (hpMap (killB m) st.ent) m e' n).live = true → (hpMap (killB m) st.ent n).live = true := by
    intro n h
    by_cases hn : n = m
    · subst hn; show ((st.ent n).map _).live = true; rw [map_live]; exact hl
    · simp only [hpSet, if_neg hn] at h; exact h
  refine ⟨r1.len, fun i s v hs hv => ?_, ?_⟩
  · rw [hent]
    have h0 := r1.slots i s v hs hv
    rw [ent_map] at h0
    have hs' : (lmap (S.map (killB m)) st.ts)[i]? = some s := hs
    rw [lmap_eq, List.getElem?_map] at hs'
    cases hx : st.ts[i]? with
    | none => rw [hx] at hs'; cases hs'
    | some x =>
      rw [hx] at hs'
      simp only [Option.map_some, Option.some.injEq] at hs'
      subst hs'
      exact s_wr k' mm h0
  · rw [hent]
    refine ⟨fun n => ?_, fun n cs h => ?_, fun n hl' hh => ?_, fun n e xs h hh => ?_, fun n n' h1 h2 hh hh' he => mm.dist n n' (hcases n h1) (hcases n' h2) hh hh' he, mm.z0, fun b hb => ?_, hk', fun n hl' hh => ?_⟩
    · by_cases hn : n = m
      · subst hn
        have : hpSet (hpMap (killB n) st.ent) n e' n = e' := by simp only [hpSet, if_true]
        rw [this]; exact hok
      · have hv : hpSet (hpMap (killB m) st.ent) m e' n = (st.ent n).map (killB m) := by simp only [hpSet, if_neg hn]; rfl
        have h1 := mm.ents n
        rw [hv]
        have h1' : ((st.ent n).map (killB m)).ok V (hpMap (killB m) st.ent) w n := h1
        cases hne : st.ent n with
        | dead => trivial
        | bx cs =>
          rw [hne] at h1'
          obtain ⟨vals, el, h2, h3⟩ := h1'
          have hhas : V.has n := r.mem.box n cs hne
          refine ⟨vals, el, ?_, ?_⟩
          · rw [k.blk _ (fun e => hn (r.mem.dist n m (by rw [hne]; rfl) hl hhas k.has e))]; exact h2
          · refine okAll_wr k' mm h3 (fun c hc => ?_)
            rw [lmap_eq, List.mem_map] at hc
            obtain ⟨x, _, rfl⟩ := hc
            intro e xs he
            cases x <;> simp only [killB] at he <;> first | (cases he; done) | skip
            split at he
            · cases he
            · rename_i hn'; injection he with h1; exact hn' h1
        | row fr e xs =>
          rw [hne] at h1'
          rcases h1' with h2 | ⟨h2, vals, el, h3, h4, h5⟩
          · exact .inl h2
          · refine .inr ⟨h2, vals, el, ?_, h4, fun i hi => ?_⟩
            · rw [k.blk _ (fun e => hn (r.mem.dist n m (by rw [hne]; rfl) hl h2 k.has e))]; exact h3
            · obtain ⟨es, q1, q2, q3⟩ := h5 i hi
              exact ⟨es, q1, q2, q3.mono (fun _ h => h) (fun b hb => k'.z mm hb)⟩
    · by_cases hn : n = m
      · subst hn
        have : hpSet (hpMap (killB n) st.ent) n e' n = e' := by simp only [hpSet, if_true]
        rw [this] at h
        exact hbx cs h
      · simp only [hpSet, if_neg hn] at h
        exact mm.box n cs h
    · rw [hsz]
      exact mm.own n (hcases n hl') hh
    · by_cases hn : n = m
      · subst hn
        have : hpSet (hpMap (killB n) st.ent) n e' n = e' := by simp only [hpSet, if_true]
        rw [this] at h
        exact hmine e xs h
      · simp only [hpSet, if_neg hn] at h
        exact mm.mine n e xs h hh
    · rw [hsz]; exact mm.z1 b hb
    · by_cases hn : n = m
      · subst hn
        simp only [hpSet, if_true] at hl'
        exact hlent hl'
      · simp only [hpSet, if_neg hn] at hl'
        exact mm.lent n hl' hh

theorem kept_setRow (k : Kept base M w0 w) {g : Nat} (hg : base ≤ g ∨ M g) (cs : Array Value) (hs : ∀ vals el, w.heap[g]? = some (.cells vals el (0, 0)) → cs.size = vals.size) : Kept base M w0 (w.setRow g cs) where
  os := k.os
  tape := k.tape
  output := k.output
  size := by rw [setRow_size]; exact k.size
  block b hb hm := by
    rw [setRow_other' w g b cs (fun e => by subst e; rcases hg with h | h; exact absurd hb (by omega); exact hm h)]
    exact k.block b hb hm
  shape b vals el hb hm hv := by
    obtain ⟨vals', el', h1, h2⟩ := k.shape b vals el hb hm hv
    by_cases hbg : b = g
    · subst hbg
      exact ⟨cs, el', setRow_heap w b vals' cs el' (0, 0) h1, by rw [hs _ _ h1, h2]⟩
    · exact ⟨vals', el', by rw [setRow_other' w g b cs hbg]; exact h1, h2⟩
end
end Go.SX
