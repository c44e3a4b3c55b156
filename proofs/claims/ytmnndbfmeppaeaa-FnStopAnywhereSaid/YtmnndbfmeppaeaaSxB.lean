/- A verified symbolic executor and its contracts (part SxB). No condition. -/
import Derived.Test.YtmnndbfmeppaeaaSxA
import Derived.Orders
/- What a write leaves of the symbolic values; rows that are not written any more. No condition. -/
namespace Go.SX
open Go.RowKit
set_option linter.unusedVariables false
set_option linter.unusedSimpArgs false

def hpMap (f : C → C) (hp : Nat → Ent) (n : Nat) : Ent := (hp n).map f
def hpSet (hp : Nat → Ent) (m : Nat) (e : Ent) (n : Nat) : Ent := if n = m then e else hp n

theorem ent_map (st : St) (f : C → C) : (st.map f).ent = hpMap f st.ent := by
  funext n
  show nth .dead (lmap (Ent.map f) st.hp) n = (nth .dead st.hp n).map f
  rw [nth_eq, nth_eq, lmap_eq, List.getElem?_map]
  cases st.hp[n]? <;> rfl

theorem ent_set {hp : List Ent} {m : Nat} (hm : m < hp.length) (e : Ent) (ts : List S) : (St.mk ts (lset hp m e)).ent = hpSet (fun n => nth .dead hp n) m e := by
  funext n
  show nth .dead (lset hp m e) n = if n = m then e else nth .dead hp n
  rw [nth_eq, nth_eq, lset_eq, List.getElem?_set]
  by_cases h : m = n
  · subst h; simp [hm]
  · rw [if_neg h, if_neg (fun h' => h h'.symm)]

theorem ent_lt {st : St} {n : Nat} (h : (st.ent n).live = true) : n < st.hp.length := by
  have h' : (nth .dead st.hp n).live = true := h
  rw [nth_eq] at h'
  cases hn : st.hp[n]? with
  | none => rw [hn] at h'; cases h'
  | some e => exact (List.getElem?_eq_some_iff.1 hn).1

section
variable {V V' : Vl} {hp hp' : Nat → Ent} {w w' : World} {f : C → C}

/-- What holds of a cell holds of its turned word. -/
def Turns (V : Vl) (hp : Nat → Ent) (w : World) (f : C → C) (V' : Vl) (hp' : Nat → Ent) (w' : World) : Prop := ∀ c v, C.ok V hp w c v → C.ok V' hp' w' (f c) v

theorem Turns.all (t : Turns V hp w f V' hp' w') {cs : List C} {vs : List Value} (h : okAll V hp w cs vs) : okAll V' hp' w' (lmap f cs) vs := by
  rw [lmap_eq]
  refine ⟨by simp [h.1], fun j c v hc hv => ?_⟩
  rw [List.getElem?_map] at hc
  cases hx : cs[j]? with
  | none => rw [hx] at hc; cases hc
  | some x => rw [hx] at hc; simp only [Option.map_some, Option.some.injEq] at hc; subst hc; exact t _ _ (h.2 j x v hx hv)

theorem Turns.s (t : Turns V hp w f V' hp' w') {s : S} {v : Value} (h : S.ok V hp w s v) : S.ok V' hp' w' (S.map f s) v := by
  cases s with
  | c x => exact t _ _ h
  | agg cs => obtain ⟨vs, h1, h2⟩ := h; exact ⟨vs, h1, t.all h2⟩
  | tup xs =>
    obtain ⟨vs, h1, h2, h3⟩ := h
    refine ⟨vs, h1, by rw [lmap_eq, List.length_map]; exact h2, fun j x v hx hv => ?_⟩
    rw [lmap_eq, List.getElem?_map] at hx
    cases hy : xs[j]? with
    | none => rw [hy] at hx; cases hx
    | some y =>
      rw [hy] at hx
      simp only [Option.map_some, Option.some.injEq] at hx
      subst hx
      have := h3 j y v hy hv
      unfold okTop at this ⊢
      simp only
      split
      · rename_i hb; rw [if_pos hb] at this; obtain ⟨us, k1, k2⟩ := this; exact ⟨us, k1, t.all k2⟩
      · rename_i hb; rw [if_neg hb] at this; exact t.all this
  | und => exact h
  | arr e xs => exact S.arr_ext h
  | any => trivial

theorem lentish_map {f : C → C} {e : Ent} (h : (e.map f).lentish) : e.lentish := by
  cases e with
  | row fr e xs => exact h
  | _ => exact h.elim

theorem lentish_flat {fr : Bool} {e : Ty} {xs : List e.den} (h : (Ent.row fr e xs).lentish) : (e.flat || e.hasG) = true := by
  cases fr with
  | false => exact h
  | true => exact h.elim

theorem lentish_live {e : Ent} (h : e.lentish) : e.live = true := by
  cases e with
  | row fr e xs => rfl
  | _ => exact h.elim

theorem lids_map {f : C → C} (e : Ent) : (e.map f).lids = e.lids := by cases e <;> rfl

theorem map_isBx {f : C → C} (e : Ent) : (e.map f).isBx = e.isBx := by cases e <;> rfl
theorem isBx_live {e : Ent} (h : e.isBx = true) : e.live = true := by
  cases e <;> first | rfl | cases h
theorem map_live (e : Ent) : (e.map f).live = e.live := by cases e <;> rfl

/-- The kills: a word is kept, or nothing is known any more. -/
def Kills (f : C → C) : Prop := ∀ c, f c = c ∨ f c = .any

theorem C.ok_kill (hf : Kills f) {c : C} {v : Value} (h : C.ok V hp w c v) : C.ok V (hpMap f hp) w (f c) v := by
  rcases hf c with e | e
  · rw [e]
    have hrow : ∀ {n fr e xs}, hp n = .row fr e xs → hpMap f hp n = .row fr e xs := fun {n fr e xs} h => by show (hp n).map f = _; rw [h]; rfl
    have hbx : ∀ {n cs}, hp n = .bx cs → ∃ cs', hpMap f hp n = .bx cs' := fun {n cs} h => ⟨lmap f cs, by show (hp n).map f = _; rw [h]; rfl⟩
    cases c with
    | own n => obtain ⟨fr, e, xs, h1, h2⟩ := h; exact ⟨fr, e, xs, hrow h1, h2⟩
    | pre n k => obtain ⟨fr, e, xs, h1, h2⟩ := h; exact ⟨fr, e, xs, hrow h1, h2⟩
    | brw n e' ys => obtain ⟨⟨fr, e, xs, h1⟩, h2⟩ := h; exact ⟨⟨fr, e, xs, hrow h1⟩, h2⟩
    | box n off => obtain ⟨h1, h2, cs, h3⟩ := h; exact ⟨h1, h2, hbx h3⟩
    | elt n i off => obtain ⟨h0, fr, e, xs, h1, h2⟩ := h; exact ⟨h0, fr, e, xs, hrow h1, h2⟩
    | fn g caps => exact ⟨h.1, fun n hn => ⟨(h.2 n hn).1, let ⟨_, cs, h3⟩ := h.2 n hn; hbx h3⟩⟩
    | _ => exact h
  · rw [e]; exact C.oneCell h

theorem Ent.ok_kill (hf : Kills f) {n : Nat} {e : Ent} (h : e.ok V hp w n) : (e.map f).ok V (hpMap f hp) w n := by
  cases e with
  | dead => trivial
  | bx cs => obtain ⟨vals, el, h1, h2⟩ := h; exact ⟨vals, el, h1, Turns.all (fun c v hc => C.ok_kill hf hc) h2⟩
  | row fr e xs => exact h

theorem Rel.kill {base : Nat} {M : LM} {w0 : World} {st : St} {ts : Array Value} (hf : Kills f) (r : Rel base M w0 V st ts w) : Rel base M w0 V (st.map f) ts w := by
  have m := r.mem
  refine ⟨by show (lmap _ _).length = _; rw [lmap_eq, List.length_map]; exact r.len, fun i s v hs hv => ?_, ?_⟩
  · rw [ent_map]
    have hs' : (lmap (S.map f) st.ts)[i]? = some s := hs
    rw [lmap_eq, List.getElem?_map] at hs'
    cases hx : st.ts[i]? with
    | none => rw [hx] at hs'; cases hs'
    | some x =>
      rw [hx] at hs'
      simp only [Option.map_some, Option.some.injEq] at hs'
      subst hs'
      exact Turns.s (fun c v hc => C.ok_kill hf hc) (r.slots i x v hx hv)
  · rw [ent_map]
    refine ⟨fun n => Ent.ok_kill hf (m.ents n), fun n cs h => ?_, fun n hl => m.own n (by rw [← map_live (f := f)]; exact hl), fun n e xs h => ?_, fun n n' hl hl' => m.dist n n' (by rw [← map_live (f := f)]; exact hl) (by rw [← map_live (f := f)]; exact hl'), m.z0, m.z1, m.kept, fun n hl hh => m.lent n (lentish_map hl) hh, fun b hb => ⟨by show ((st.ent 0).map f).isBx = true; rw [map_isBx]; exact (m.lentb b hb).1, (m.lentb b hb).2⟩, fun n hh i hi => m.lids n hh i (by rw [← lids_map (f := f)]; exact hi)⟩
    · have h' : (st.ent n).map f = .bx cs := h
      cases hn : st.ent n with
      | bx cs' => exact m.box n cs' hn
      | dead => rw [hn] at h'; cases h'
      | row fr e xs => rw [hn] at h'; cases h'
    · have h' : (st.ent n).map f = .row true e xs := h
      cases hn : st.ent n with
      | row fr e' xs' => rw [hn] at h'; exact m.mine n e xs (by rw [hn]; exact h')
      | dead => rw [hn] at h'; cases h'
      | bx cs => rw [hn] at h'; cases h'

theorem kills_killO (m : Nat) : Kills (killO m) := fun c =>
  match c with
  | .val _ => .inl rfl
  | .tru  => .inl rfl
  | .fls  => .inl rfl
  | .rd _ _ _ => .inl rfl
  | .own n => if h : n = m then .inr (if_pos h) else .inl (if_neg h)
  | .pre n _ => if h : n = m then .inr (if_pos h) else .inl (if_neg h)
  | .brw n _ _ => if h : n = m then .inr (if_pos h) else .inl (if_neg h)
  | .box _ _ => .inl rfl
  | .at_ _ _ _ _ => .inl rfl
  | .elt n _ _ => if h : n = m then .inr (if_pos h) else .inl (if_neg h)
  | .fn _ _ => .inl rfl
  | .clo _ _ _ _ => .inl rfl
  | .rg _ _ _ _ _ => .inl rfl
  | .any  => .inl rfl
theorem kills_killB (m : Nat) : Kills (killB m) := fun c =>
  match c with
  | .val _ => .inl rfl
  | .tru  => .inl rfl
  | .fls  => .inl rfl
  | .rd _ _ _ => .inl rfl
  | .own _ => .inl rfl
  | .pre _ _ => .inl rfl
  | .brw n _ _ => if h : n = m then .inr (if_pos h) else .inl (if_neg h)
  | .box _ _ => .inl rfl
  | .at_ _ _ _ _ => .inl rfl
  | .elt _ _ _ => .inl rfl
  | .fn _ _ => .inl rfl
  | .clo _ _ _ _ => .inl rfl
  | .rg _ _ _ _ _ => .inl rfl
  | .any  => .inl rfl

/-! ### Words that do not name 'm' -/

def C.names (m : Nat) : C → Bool
  | .own n => n == m
  | .pre n _ => n == m
  | .brw n _ _ => n == m
  | .elt n _ _ => n == m
  | .box n _ => n == m
  | .fn _ caps => caps.any (· == m)
  | _ => false

def without (hp : Nat → Ent) (m : Nat) (n : Nat) : Ent := if n = m then .dead else hp n

theorem without_ne {m n : Nat} (h : n ≠ m) : without hp m n = hp n := by unfold without; rw [if_neg h]

theorem C.ok_without {m : Nat} {c : C} {v : Value} (hn : c.names m = false) (h : C.ok V hp w c v) : C.ok V (without hp m) w c v := by
  cases c with
  | own n => obtain ⟨fr, e, xs, h1, h2⟩ := h; exact ⟨fr, e, xs, by rw [without_ne (by simpa [C.names] using hn)]; exact h1, h2⟩
  | pre n k => obtain ⟨fr, e, xs, h1, h2⟩ := h; exact ⟨fr, e, xs, by rw [without_ne (by simpa [C.names] using hn)]; exact h1, h2⟩
  | brw n e' ys => obtain ⟨⟨fr, e, xs, h1⟩, h2⟩ := h; exact ⟨⟨fr, e, xs, by rw [without_ne (by simpa [C.names] using hn)]; exact h1⟩, h2⟩
  | box n off => obtain ⟨h1, h2, cs, h3⟩ := h; exact ⟨h1, h2, cs, by rw [without_ne (by simpa [C.names] using hn)]; exact h3⟩
  | elt n i off => obtain ⟨h0, fr, e, xs, h1, h2⟩ := h; exact ⟨h0, fr, e, xs, by rw [without_ne (by simpa [C.names] using hn)]; exact h1, h2⟩
  | fn g caps =>
    refine ⟨h.1, fun n hm => ⟨(h.2 n hm).1, ?_⟩⟩
    obtain ⟨_, cs, h3⟩ := h.2 n hm
    have hne : n ≠ m := by
      intro e; subst e
      simp [C.names] at hn
      exact hn n hm rfl
    exact ⟨cs, by rw [without_ne hne]; exact h3⟩
  | _ => exact h

/-! ### A row that is not written any more -/

def Vl.freeze (V : Vl) (m base : Nat) : Vl where
  blk := V.blk
  has := V.has
  Z0 b := V.Z0 b ∨ (V.has m ∧ b = V.blk m ∧ b < base)
  Z1 b := V.Z1 b ∨ (V.has m ∧ b = V.blk m ∧ base ≤ b)

theorem Vl.freeze_old {m base : Nat} {fr : Bool} {b : Nat} (h : V.Z fr b) : (V.freeze m base).Z fr b := by
  rcases h with h | ⟨h, k⟩
  · exact .inl (.inl h)
  · exact .inr ⟨h, .inl k⟩

theorem Vl.freeze_new {m base : Nat} (hh : V.has m) : (V.freeze m base).Z false (V.blk m) := by
  rcases Nat.lt_or_ge (V.blk m) base with h | h
  · exact .inr ⟨rfl, .inr ⟨hh, rfl, h⟩⟩
  · exact .inl (.inr ⟨hh, rfl, h⟩)

theorem Vl.freeze_mine {m base : Nat} (hh : V.has m) (h : base ≤ V.blk m) : (V.freeze m base).Z true (V.blk m) := .inl (.inr ⟨hh, rfl, h⟩)

theorem Vl.freeze_cases {m base : Nat} {fr : Bool} {b : Nat} (h : (V.freeze m base).Z fr b) : V.Z fr b ∨ (V.has m ∧ b = V.blk m) := by
  rcases h with (h | ⟨h1, h2, _⟩) | ⟨h, k | ⟨h1, h2, _⟩⟩
  · exact .inl (.inl h)
  · exact .inr ⟨h1, h2⟩
  · exact .inl (.inr ⟨h, k⟩)
  · exact .inr ⟨h1, h2⟩

theorem VX.freeze (m base : Nat) : VX V (without hp m) w (V.freeze m base) (without hp m) w :=
  ⟨fun _ _ => ⟨rfl, Iff.rfl, rfl⟩, fun _ h => .inl h, fun _ h => .inl h, fun _ _ => rfl, fun _ _ _ => rfl⟩

theorem freeze_turns {base m : Nat} {fr : Bool} {e : Ty} {xs : List e.den} (hm : hp m = .row fr e xs) (hok : (Ent.row fr e xs).ok V hp w m) (hmine : fr = true → V.has m → base ≤ V.blk m) :
    Turns V hp w (freezeC m fr e xs) (V.freeze m base) (hpSet (hpMap (freezeC m fr e xs) hp) m .dead) w := by
  have hz : ∀ b, (V.Z fr b ∨ (V.has m ∧ b = V.blk m)) → (V.freeze m base).Z fr b := by
    intro b hb
    rcases hb with hb | ⟨h1, h2⟩
    · exact Vl.freeze_old hb
    · subst h2
      cases fr with
      | false => exact Vl.freeze_new h1
      | true => exact Vl.freeze_mine h1 (hmine rfl h1)
  have hne : ∀ {n}, n ≠ m → ∀ {fr' e' xs'}, hp n = .row fr' e' xs' → hpSet (hpMap (freezeC m fr e xs) hp) m .dead n = .row fr' e' xs' := by
    intro n hn fr' e' xs' h
    show (if n = m then _ else (hp n).map _) = _
    rw [if_neg hn, h]; rfl
  have hbx : ∀ {n cs}, hp n = .bx cs → ∃ cs', hpSet (hpMap (freezeC m fr e xs) hp) m .dead n = .bx cs' := by
    intro n cs h
    have hn : n ≠ m := fun e => by subst e; rw [hm] at h; cases h
    exact ⟨_, by show (if n = m then _ else (hp n).map _) = _; rw [if_neg hn, h]; rfl⟩
  intro c v h
  cases c with
  | own n =>
    obtain ⟨fr', e', xs', h1, h2⟩ := h
    by_cases hn : n = m
    · subst hn
      rw [hm] at h1
      injection h1 with e1 e2 e3
      subst e1; subst e2; cases e3
      simp only [freezeC, if_true]
      have := row_rd hok h2 (Nat.le_refl _)
      rw [List.take_length] at this
      exact this.mono hz (fun _ _ => rfl)
    · simp only [freezeC, if_neg hn]
      exact ⟨fr', e', xs', hne hn h1, h2⟩
  | pre n k =>
    obtain ⟨fr', e', xs', h1, h3, h2⟩ := h
    by_cases hn : n = m
    · subst hn
      rw [hm] at h1
      injection h1 with e1 e2 e3
      subst e1; subst e2; cases e3
      simp only [freezeC, if_true]
      exact (row_rd hok h2 h3).mono hz (fun _ _ => rfl)
    · simp only [freezeC, if_neg hn]
      exact ⟨fr', e', xs', hne hn h1, h3, h2⟩
  | brw n e' ys =>
    obtain ⟨⟨fr', e2, xs', h1⟩, h2⟩ := h
    by_cases hn : n = m
    · subst hn
      simp only [freezeC, if_true]
      exact h2.mono (fun b hb => hb.elim (fun h => Vl.freeze_old h) (fun ⟨k1, k2⟩ => by subst k2; exact Vl.freeze_new k1)) (fun _ _ => rfl)
    · simp only [freezeC, if_neg hn]
      exact ⟨⟨fr', e2, xs', hne hn h1⟩, h2.mono (fun b hb => hb.elim (fun h => .inl (Vl.freeze_old h)) .inr) (fun _ _ => rfl)⟩
  | elt n i off =>
    obtain ⟨h0, fr', e', xs', h1, h2, h3⟩ := h
    by_cases hn : n = m
    · subst hn
      rw [hm] at h1
      injection h1 with e1 e2 e3
      subst e1; subst e2; cases e3
      simp only [freezeC, if_true]
      obtain ⟨es, k1, k2, k3⟩ := row_elem hok h0 h2
      refine ⟨V.blk n, i * e.size, h3, hz _ (.inr ⟨h0, rfl⟩), es, k1, fun j hj => k2 j _ (List.getElem?_eq_getElem hj), k3.mono (fun b hb => hz b (.inl hb)) (fun _ _ => rfl)⟩
    · simp only [freezeC, if_neg hn]
      exact ⟨h0, fr', e', xs', hne hn h1, h2, h3⟩
  | box n off => obtain ⟨h1, h2, cs, h3⟩ := h; exact ⟨h1, h2, hbx h3⟩
  | fn g caps => exact ⟨h.1, fun n hn => ⟨(h.2 n hn).1, let ⟨_, cs, h3⟩ := h.2 n hn; hbx h3⟩⟩
  | rd fr' e' ys =>
    have h' : RdC (V.Z fr') w (.sl e') [v] ys := h
    exact h'.mono (fun b hb => Vl.freeze_old hb) (fun _ _ => rfl)
  | clo fr' f t d =>
    have h' : RdC (V.Z fr') w (.clo f t) [v] d := h
    exact h'.mono (fun b hb => Vl.freeze_old hb) (fun _ _ => rfl)
  | rg fr' wh e' b ys =>
    have h' : RdC (V.Z fr') w (.gs wh e') [v] (b, ys) := h
    exact h'.mono (fun b hb => Vl.freeze_old hb) (fun _ _ => rfl)
  | at_ fr' t d off =>
    obtain ⟨b, o, h1, h2, es, h3, h4, h5⟩ := h
    exact ⟨b, o, h1, Vl.freeze_old h2, es, h3, h4, h5.mono (fun b hb => Vl.freeze_old hb) (fun _ _ => rfl)⟩
  | val u => exact h
  | tru => exact h
  | fls => exact h
  | any => exact h

/-- A row that is not written any more, its words turned. -/
theorem Rel.freezeG {base : Nat} {M : LM} {w0 : World} {st : St} {ts : Array Value} (r : Rel base M w0 V st ts w) {m : Nat} {fr : Bool} {e : Ty} {xs : List e.den} (hm : st.ent m = .row fr e xs) {g : C → C}
    (tn : Turns V st.ent w g (V.freeze m base) (hpSet (hpMap g st.ent) m .dead) w) :
    Rel base M w0 (V.freeze m base) { (st.map g) with hp := lset (st.map g).hp m .dead } ts w := by
  have mm := r.mem
  have hmine : fr = true → V.has m → base ≤ V.blk m := fun hf hh => by subst hf; exact mm.mine m e xs hm hh
  have hlt : m < st.hp.length := ent_lt (by rw [hm]; rfl)
  have hent : (St.mk (st.map (g)).ts (lset (st.map (g)).hp m .dead)).ent = hpSet (hpMap (g) st.ent) m .dead := by
    rw [ent_set (by show m < (lmap _ _).length; rw [lmap_eq, List.length_map]; exact hlt)]
    congr 1
    exact ent_map st _
  have hlive : ∀ n, (hpSet (hpMap (g) st.ent) m .dead n).live = true → n ≠ m ∧ (st.ent n).live = true := by
    intro n hl
    by_cases hn : n = m
    · subst hn; simp [hpSet, Ent.live] at hl
    · refine ⟨hn, ?_⟩
      simp only [hpSet, if_neg hn] at hl
      rw [← map_live (f := g)]; exact hl
  have hval : ∀ n, n ≠ m → hpSet (hpMap (g) st.ent) m .dead n = (st.ent n).map (g) := fun n hn => by simp only [hpSet, if_neg hn]; rfl
  refine ⟨by show (lmap _ _).length = _; rw [lmap_eq, List.length_map]; exact r.len, fun i s v hs hv => ?_, ?_⟩
  · rw [hent]
    have hs' : (lmap (S.map (g)) st.ts)[i]? = some s := hs
    rw [lmap_eq, List.getElem?_map] at hs'
    cases hx : st.ts[i]? with
    | none => rw [hx] at hs'; cases hs'
    | some x =>
      rw [hx] at hs'
      simp only [Option.map_some, Option.some.injEq] at hs'
      subst hs'
      exact tn.s (r.slots i x v hx hv)
  · rw [hent]
    refine ⟨fun n => ?_, fun n cs h => ?_, fun n hl hh => ?_, fun n e' xs' h hh => ?_, fun n n' hl hl' hh hh' he => ?_, fun b hb => ?_, fun b hb => ?_, mm.kept, fun n hl hh => ?_, fun b hb => ?_, fun n hh i hi => ?_⟩
    · by_cases hn : n = m
      · subst hn; simp only [hpSet, if_true]; trivial
      · rw [hval n hn]
        have h1 := mm.ents n
        cases hne : st.ent n with
        | dead => trivial
        | bx cs =>
          rw [hne] at h1
          obtain ⟨vals, el, h2, h3⟩ := h1
          exact ⟨vals, el, h2, tn.all h3⟩
        | row fr' e' xs' =>
          rw [hne] at h1
          rcases h1 with h2 | ⟨h2, vals, el, h3, h4, h5⟩
          · exact .inl h2
          · refine .inr ⟨h2, vals, el, h3, h4, fun i hi => ?_⟩
            obtain ⟨es, k1, k2, k3⟩ := h5 i hi
            exact ⟨es, k1, k2, k3.mono (fun b hb => Vl.freeze_old hb) (fun _ _ => rfl)⟩
    · obtain ⟨hn, _⟩ := hlive n (by rw [h]; rfl)
      rw [hval n hn] at h
      cases hne : st.ent n with
      | bx cs' => exact mm.box n cs' hne
      | dead => rw [hne] at h; cases h
      | row fr' e' xs' => rw [hne] at h; cases h
    · obtain ⟨hn, hl'⟩ := hlive n hl
      obtain ⟨k1, k2, k3⟩ := mm.own n hl' hh
      refine ⟨k1, k2, fun hz => ?_⟩
      rcases Vl.freeze_cases hz with hz | ⟨h1, h2⟩
      · exact k3 hz
      · exact hn (mm.dist n m hl' (by rw [hm]; rfl) hh h1 h2)
    · obtain ⟨hn, _⟩ := hlive n (by rw [h]; rfl)
      rw [hval n hn] at h
      cases hne : st.ent n with
      | row fr' e2 xs2 => rw [hne] at h; exact mm.mine n e' xs' (by rw [hne]; exact h) hh
      | dead => rw [hne] at h; cases h
      | bx cs => rw [hne] at h; cases h
    · exact mm.dist n n' (hlive n hl).2 (hlive n' hl').2 hh hh' he
    · rcases hb with hb | ⟨h1, h2, hb⟩
      · exact mm.z0 b hb
      · refine ⟨hb, ?_⟩
        rcases (mm.own m (by rw [hm]; rfl) h1).1 with h3 | h3
        · omega
        · rw [h2]; exact M.sub _ h3
    · rcases hb with hb | ⟨h1, h2, h3⟩
      · exact mm.z1 b hb
      · exact ⟨h3, by rw [h2]; exact (mm.own m (by rw [hm]; rfl) h1).2.1⟩
    · obtain ⟨hn, _⟩ := hlive n (lentish_live hl)
      rw [hval n hn] at hl
      exact mm.lent n (lentish_map hl) hh
    · obtain ⟨q1, q2⟩ := mm.lentb b hb
      have hn : 0 ≠ m := fun e => by subst e; rw [hm] at q1; cases q1
      rw [hval 0 hn, map_isBx]
      exact ⟨q1, q2⟩
    · by_cases hn : n = m
      · subst hn
        simp only [hpSet, if_true] at hi
        cases hi
      · rw [hval n hn, lids_map] at hi
        exact mm.lids n hh i hi

theorem Rel.freezeX {base : Nat} {M : LM} {w0 : World} {st : St} {ts : Array Value} (r : Rel base M w0 V st ts w) (m : Nat) : ∃ V', Rel base M w0 V' (st.freeze m) ts w ∧ V'.blk = V.blk ∧ V'.has = V.has ∧ ∀ fr b, V.Z fr b → V'.Z fr b := by
  unfold St.freeze
  cases hm : st.ent m with
  | dead => exact ⟨V, r, rfl, rfl, fun _ _ h => h⟩
  | bx cs => exact ⟨V, r, rfl, rfl, fun _ _ h => h⟩
  | row fr e xs =>
    simp only
    have mm := r.mem
    have hok := mm.ents m
    rw [hm] at hok
    have hmine : fr = true → V.has m → base ≤ V.blk m := fun hf hh => by subst hf; exact mm.mine m e xs hm hh
    exact ⟨V.freeze m base, r.freezeG hm (freeze_turns (base := base) hm hok hmine), rfl, rfl, fun _ _ h => Vl.freeze_old h⟩

theorem Rel.freeze {base : Nat} {M : LM} {w0 : World} {st : St} {ts : Array Value} (r : Rel base M w0 V st ts w) (m : Nat) : ∃ V', Rel base M w0 V' (st.freeze m) ts w := by
  obtain ⟨V', h, _⟩ := r.freezeX m
  exact ⟨V', h⟩

theorem Rel.freezesX {base : Nat} {M : LM} {w0 : World} {ts : Array Value} : ∀ (ns : List Nat) {V : Vl} {st : St}, Rel base M w0 V st ts w → ∃ V', Rel base M w0 V' (st.freezes ns) ts w ∧ V'.blk = V.blk ∧ V'.has = V.has ∧ ∀ fr b, V.Z fr b → V'.Z fr b
  | [], V, st, r => ⟨V, r, rfl, rfl, fun _ _ h => h⟩
  | n :: ns, V, st, r => by
    obtain ⟨V1, r1, h1, h2, h3⟩ := r.freezeX n
    obtain ⟨V2, r2, g1, g2, g3⟩ := Rel.freezesX ns r1
    exact ⟨V2, r2, g1.trans h1, g2.trans h2, fun fr b h => g3 fr b (h3 fr b h)⟩

theorem Rel.freezes {base : Nat} {M : LM} {w0 : World} {ts : Array Value} : ∀ (ns : List Nat) {V : Vl} {st : St}, Rel base M w0 V st ts w → ∃ V', Rel base M w0 V' (st.freezes ns) ts w
  | [], V, st, r => ⟨V, r⟩
  | n :: ns, V, st, r => by obtain ⟨V', r'⟩ := r.freeze n; exact Rel.freezes ns r'

end
end Go.SX


/- Stores and appends. No condition. -/
namespace Go.SX
open Go.RowKit
set_option linter.unusedVariables false
set_option linter.unusedSimpArgs false

section
variable {P : Program} {T : Tab} {base : Nat} {M : LM} {w0 : World} {V : Vl} {hp : Nat → Ent} {w : World} {a : Act} {next : Act → World → Prop} {Q : Exit → Act → World → Prop}

theorem setRow_other' (w : World) (g k : Nat) (cs : Array Value) (h : k ≠ g) : (w.setRow g cs).heap[k]? = w.heap[k]? := by
  simp only [World.setRow, Array.getElem?_modify]
  rw [if_neg (fun e => h e.symm)]

theorem setRow_size (w : World) (g : Nat) (cs : Array Value) : (w.setRow g cs).heap.size = w.heap.size := by simp [World.setRow]

/-- A write into the block of name 'm': what is known of the rest. -/
structure Wr (V : Vl) (hp : Nat → Ent) (w : World) (m : Nat) (hp' : Nat → Ent) (w' : World) : Prop where
  oth : ∀ n, n ≠ m → hp' n = hp n
  blk : ∀ b, b ≠ V.blk m → w'.heap[b]? = w.heap[b]?
  has : V.has m
  kind : (∃ cs cs', hp m = .bx cs ∧ hp' m = .bx cs') ∨
    (∃ fr fr' e, ∃ xs xs' : List e.den, hp m = .row fr e xs ∧ hp' m = .row fr' e xs' ∧ xs.length = xs'.length ∧
      ∃ vals vals' el el', w.heap[V.blk m]? = some (.cells vals el (0, 0)) ∧ w'.heap[V.blk m]? = some (.cells vals' el' (0, 0)) ∧ vals.size = vals'.size)

theorem Wr.z {hp' : Nat → Ent} {w' : World} {m : Nat} (k : Wr V hp w m hp' w') (mm : Mem base M w0 V hp w) {fr : Bool} {b : Nat} (h : V.Z fr b) : w'.heap[b]? = w.heap[b]? := by
  have hl : (hp m).live = true := by rcases k.kind with ⟨cs, _, h, _⟩ | ⟨_, _, _, _, _, h, _⟩ <;> rw [h] <;> rfl
  exact k.blk b fun e => by subst e; exact (mm.own m hl k.has).2.2 (Vl.Z_all h)

theorem Wr.row {hp' : Nat → Ent} {w' : World} {m : Nat} (k : Wr V hp w m hp' w') (mm : Mem base M w0 V hp w) {n h : Nat} {fr : Bool} {e : Ty} {xs : List e.den} {v : Value} (hn : hp n = .row fr e xs) (hr : hasRow V w n e h v) :
    ∃ fr', ∃ xs' : List e.den, hp' n = .row fr' e xs' ∧ xs'.length = xs.length ∧ hasRow V w' n e h v := by
  by_cases hnm : n = m
  · subst hnm
    rcases k.kind with ⟨cs, _, h1, _⟩ | ⟨fr1, fr2, e', xs1, xs2, h1, h2, h3, vals, vals', el, elB, h4, h5, h6⟩
    · rw [hn] at h1; cases h1
    · rw [hn] at h1
      injection h1 with e1 e2 e3
      subst e1; subst e2; cases e3
      refine ⟨fr2, xs2, h2, h3.symm, ?_⟩
      rcases hr with ⟨q1, q2, q3⟩ | ⟨q1, cap, v1, el1, q2, q3, q4, q5⟩
      · exact .inl ⟨q1, q2, q3⟩
      · rw [h4] at q3
        injection q3 with q3
        injection q3 with g1 g2 g3
        subst g1
        exact .inr ⟨q1, cap, vals', elB, q2, h5, by rw [← h6]; exact q4, q5⟩
  · refine ⟨fr, xs, (k.oth n hnm).trans hn, rfl, ?_⟩
    rcases hr with ⟨q1, q2, q3⟩ | ⟨q1, cap, v1, el1, q2, q3, q4, q5⟩
    · exact .inl ⟨q1, q2, q3⟩
    · have hl : (hp m).live = true := by rcases k.kind with ⟨cs, _, h, _⟩ | ⟨_, _, _, _, _, h, _⟩ <;> rw [h] <;> rfl
      exact .inr ⟨q1, cap, v1, el1, q2, by rw [k.blk _ (fun e => hnm (mm.dist n m (by rw [hn]; rfl) hl q1 k.has e))]; exact q3, q4, q5⟩

theorem Wr.ok {hp' : Nat → Ent} {w' : World} {m : Nat} (k : Wr V hp w m hp' w') (mm : Mem base M w0 V hp w) {c : C} {v : Value} (h : C.ok V hp w c v) (hb : ∀ e xs, c ≠ .brw m e xs) : C.ok V hp' w' c v := by
  have hl : (hp m).live = true := by rcases k.kind with ⟨cs, _, h, _⟩ | ⟨_, _, _, _, _, h, _⟩ <;> rw [h] <;> rfl
  have hrd : ∀ {fr : Bool} {t : Ty} {cs : List Value} {d : t.den}, RdC (V.Z fr) w t cs d → RdC (V.Z fr) w' t cs d := fun h => h.mono (fun _ h => h) (fun b hb => k.z mm hb)
  have hbx : ∀ {n cs}, hp n = .bx cs → ∃ cs', hp' n = .bx cs' := by
    intro n cs h
    by_cases hn : n = m
    · subst hn
      rcases k.kind with ⟨_, cs', _, h2⟩ | ⟨_, _, _, _, _, h1, _⟩
      · exact ⟨cs', h2⟩
      · rw [h] at h1; cases h1
    · exact ⟨cs, (k.oth n hn).trans h⟩
  cases c with
  | val u => exact h
  | tru => exact h
  | fls => exact h
  | any => exact h
  | rd fr e xs => exact hrd (t := .sl e) h
  | clo fr f t d => exact hrd (t := .clo f t) h
  | rg fr wh e b xs => exact hrd (t := .gs wh e) h
  | own n =>
    obtain ⟨fr, e, xs, h1, h2⟩ := h
    obtain ⟨fr', xs', h3, h4, h5⟩ := k.row mm h1 h2
    exact ⟨fr', e, xs', h3, by rw [h4]; exact h5⟩
  | pre n j =>
    obtain ⟨fr, e, xs, h1, h6, h2⟩ := h
    obtain ⟨fr', xs', h3, h4, h5⟩ := k.row mm h1 h2
    exact ⟨fr', e, xs', h3, by rw [h4]; exact h6, h5⟩
  | brw n e xs =>
    obtain ⟨⟨fr, e', ys, h1⟩, h2⟩ := h
    have hn : n ≠ m := fun e' => by subst e'; exact hb e xs rfl
    refine ⟨⟨fr, e', ys, (k.oth n hn).trans h1⟩, h2.mono (fun _ h => h) (fun b hb' => ?_)⟩
    rcases hb' with hz | ⟨q1, q2⟩
    · exact k.z mm hz
    · exact k.blk b fun e => hn (mm.dist n m (by rw [h1]; rfl) hl q1 k.has (by rw [← q2, e]))
  | box n off => obtain ⟨h1, h2, cs, h3⟩ := h; exact ⟨h1, h2, hbx h3⟩
  | at_ fr t d off =>
    obtain ⟨b, o, h1, h2, es, h3, h4, h5⟩ := h
    exact ⟨b, o, h1, h2, es, h3, cellsAt_agree (k.z mm h2) h4, hrd h5⟩
  | elt n i off =>
    obtain ⟨h0, fr, e, xs, h1, h2, h3⟩ := h
    by_cases hn : n = m
    · subst hn
      rcases k.kind with ⟨cs, _, q1, _⟩ | ⟨fr1, fr2, e', xs1, xs2, q1, q2, q3, _⟩
      · rw [h1] at q1; cases q1
      · rw [h1] at q1
        injection q1 with e1 e2 e3
        subst e1; subst e2; cases e3
        exact ⟨h0, fr2, e, xs2, q2, by rw [← q3]; exact h2, h3⟩
    · exact ⟨h0, fr, e, xs, (k.oth n hn).trans h1, h2, h3⟩
  | fn f caps => exact ⟨h.1, fun n hn => ⟨(h.2 n hn).1, let ⟨_, cs, h3⟩ := h.2 n hn; hbx h3⟩⟩

/-- No word of 'brw m' in the state. -/
def NoB (m : Nat) (c : C) : Prop := ∀ e xs, c ≠ .brw m e xs

theorem okAll_wr {hp' : Nat → Ent} {w' : World} {m : Nat} (k : Wr V hp w m hp' w') (mm : Mem base M w0 V hp w) {cs : List C} {vs : List Value} (h : okAll V hp w cs vs) (hb : ∀ c ∈ cs, NoB m c) : okAll V hp' w' cs vs :=
  ⟨h.1, fun j c v hc hv => k.ok mm (h.2 j c v hc hv) (hb c (List.mem_of_getElem? hc))⟩

theorem s_wr {hp' : Nat → Ent} {w' : World} {m : Nat} (k : Wr V hp w m hp' w') (mm : Mem base M w0 V hp w) {s : S} {v : Value} (h : S.ok V hp w (S.map (killB m) s) v) : S.ok V hp' w' (S.map (killB m) s) v := by
  have hk : ∀ c, NoB m (killB m c) := by
    intro c e xs he
    cases c <;> simp only [killB] at he <;> first | (cases he; done) | skip
    split at he
    · cases he
    · rename_i hn; injection he with h1; exact hn h1
  have hcs : ∀ cs : List C, ∀ c ∈ lmap (killB m) cs, NoB m c := by
    intro cs c hc
    rw [lmap_eq, List.mem_map] at hc
    obtain ⟨x, _, rfl⟩ := hc
    exact hk x
  cases s with
  | c x => exact k.ok mm h (hk x)
  | agg cs => obtain ⟨vs, h1, h2⟩ := h; exact ⟨vs, h1, okAll_wr k mm h2 (hcs cs)⟩
  | tup xs =>
    obtain ⟨vs, h1, h2, h3⟩ := h
    refine ⟨vs, h1, h2, fun j y v hy hv => ?_⟩
    have h4 := h3 j y v hy hv
    rw [lmap_eq, List.getElem?_map] at hy
    cases hx : xs[j]? with
    | none => rw [hx] at hy; cases hy
    | some x =>
      rw [hx] at hy
      simp only [Option.map_some, Option.some.injEq] at hy
      subst hy
      unfold okTop at h4 ⊢
      simp only at h4 ⊢
      split
      · rename_i hb; rw [if_pos hb] at h4; obtain ⟨us, k1, k2⟩ := h4; exact ⟨us, k1, okAll_wr k mm k2 (hcs x.2)⟩
      · rename_i hb; rw [if_neg hb] at h4; exact okAll_wr k mm h4 (hcs x.2)
  | und => exact h
  | any => trivial
  | arr e xs => exact S.arr_ext h

/-- The state behind a write into name 'm', which has been freed of words that borrow from it. -/
theorem rel_write {st : St} {ts : Array Value} (r : Rel base M w0 V st ts w) {m : Nat} {e' : Ent} {w' : World} (k : Wr V st.ent w m (hpSet st.ent m e') w') (hlive : e'.live = true)
    (hk' : Kept base M w0 w') (hsz : w'.heap.size = w.heap.size) (hok : e'.ok V (hpSet (hpMap (killB m) st.ent) m e') w' m) (hmine : ∀ e xs, e' = .row true e xs → base ≤ V.blk m) (hbx : ∀ cs, e' = .bx cs → V.has m) (hlent : e'.lentish → M.nm (V.blk m) m) (hlids : V.has m → ∀ i ∈ e'.lids, m = 0 → M i) :
    Rel base M w0 V { (st.map (killB m)) with hp := lset (st.map (killB m)).hp m e' } ts w' := by
  have r1 := r.kill (kills_killB m)
  have mm := r1.mem
  have hl : (st.ent m).live = true := by rcases k.kind with ⟨cs, _, h, _⟩ | ⟨_, _, _, _, _, h, _⟩ <;> rw [h] <;> rfl
  have hlt : m < st.hp.length := ent_lt hl
  have hent : (St.mk (st.map (killB m)).ts (lset (st.map (killB m)).hp m e')).ent = hpSet (hpMap (killB m) st.ent) m e' := by
    rw [ent_set (by show m < (lmap _ _).length; rw [lmap_eq, List.length_map]; exact hlt)]
    congr 1
    exact ent_map st _
  rw [ent_map] at mm
  have k' : Wr V (hpMap (killB m) st.ent) w m (hpSet (hpMap (killB m) st.ent) m e') w' := by
    refine ⟨fun n hn => by simp only [hpSet, if_neg hn], k.blk, k.has, ?_⟩
    rcases k.kind with ⟨cs, cs', h1, h2⟩ | ⟨fr, fr', e, xs, xs', h1, h2, h3⟩
    · refine .inl ⟨lmap (killB m) cs, cs', by show (st.ent m).map _ = _; rw [h1]; rfl, ?_⟩
      simp only [hpSet, if_true] at h2 ⊢; exact h2
    · refine .inr ⟨fr, fr', e, xs, xs', by show (st.ent m).map _ = _; rw [h1]; rfl, ?_, h3⟩
      simp only [hpSet, if_true] at h2 ⊢; exact h2
  have hcases : ∀ n, (hpSet (hpMap (killB m) st.ent) m e' n).live = true → (hpMap (killB m) st.ent n).live = true := by
    intro n h
    by_cases hn : n = m
    · subst hn; show ((st.ent n).map _).live = true; rw [map_live]; exact hl
    · simp only [hpSet, if_neg hn] at h; exact h
  refine ⟨r1.len, fun i s v hs hv => ?_, ?_⟩
  · rw [hent]
    have h0 := r1.slots i s v hs hv
    rw [ent_map] at h0
    have hs' : (lmap (S.map (killB m)) st.ts)[i]? = some s := hs
    rw [lmap_eq, List.getElem?_map] at hs'
    cases hx : st.ts[i]? with
    | none => rw [hx] at hs'; cases hs'
    | some x =>
      rw [hx] at hs'
      simp only [Option.map_some, Option.some.injEq] at hs'
      subst hs'
      exact s_wr k' mm h0
  · rw [hent]
    refine ⟨fun n => ?_, fun n cs h => ?_, fun n hl' hh => ?_, fun n e xs h hh => ?_, fun n n' h1 h2 hh hh' he => mm.dist n n' (hcases n h1) (hcases n' h2) hh hh' he, mm.z0, fun b hb => ?_, hk', fun n hl' hh => ?_, fun b hb => ?_, fun n hh i hi => ?_⟩
    · by_cases hn : n = m
      · subst hn
        have : hpSet (hpMap (killB n) st.ent) n e' n = e' := by simp only [hpSet, if_true]
        rw [this]; exact hok
      · have hv : hpSet (hpMap (killB m) st.ent) m e' n = (st.ent n).map (killB m) := by simp only [hpSet, if_neg hn]; rfl
        have h1 := mm.ents n
        rw [hv]
        have h1' : ((st.ent n).map (killB m)).ok V (hpMap (killB m) st.ent) w n := h1
        cases hne : st.ent n with
        | dead => trivial
        | bx cs =>
          rw [hne] at h1'
          obtain ⟨vals, el, h2, h3⟩ := h1'
          have hhas : V.has n := r.mem.box n cs hne
          refine ⟨vals, el, ?_, ?_⟩
          · rw [k.blk _ (fun e => hn (r.mem.dist n m (by rw [hne]; rfl) hl hhas k.has e))]; exact h2
          · refine okAll_wr k' mm h3 (fun c hc => ?_)
            rw [lmap_eq, List.mem_map] at hc
            obtain ⟨x, _, rfl⟩ := hc
            intro e xs he
            cases x <;> simp only [killB] at he <;> first | (cases he; done) | skip
            split at he
            · cases he
            · rename_i hn'; injection he with h1; exact hn' h1
        | row fr e xs =>
          rw [hne] at h1'
          rcases h1' with h2 | ⟨h2, vals, el, h3, h4, h5⟩
          · exact .inl h2
          · refine .inr ⟨h2, vals, el, ?_, h4, fun i hi => ?_⟩
            · rw [k.blk _ (fun e => hn (r.mem.dist n m (by rw [hne]; rfl) hl h2 k.has e))]; exact h3
            · obtain ⟨es, q1, q2, q3⟩ := h5 i hi
              exact ⟨es, q1, q2, q3.mono (fun _ h => h) (fun b hb => k'.z mm hb)⟩
    · by_cases hn : n = m
      · subst hn
        have : hpSet (hpMap (killB n) st.ent) n e' n = e' := by simp only [hpSet, if_true]
        rw [this] at h
        exact hbx cs h
      · simp only [hpSet, if_neg hn] at h
        exact mm.box n cs h
    · rw [hsz]
      exact mm.own n (hcases n hl') hh
    · by_cases hn : n = m
      · subst hn
        have : hpSet (hpMap (killB n) st.ent) n e' n = e' := by simp only [hpSet, if_true]
        rw [this] at h
        exact hmine e xs h
      · simp only [hpSet, if_neg hn] at h
        exact mm.mine n e xs h hh
    · rw [hsz]; exact mm.z1 b hb
    · by_cases hn : n = m
      · subst hn
        simp only [hpSet, if_true] at hl'
        exact hlent hl'
      · simp only [hpSet, if_neg hn] at hl'
        exact mm.lent n hl' hh
    · obtain ⟨q1, q2⟩ := mm.lentb b hb
      refine ⟨?_, q2⟩
      by_cases hn : 0 = m
      · subst hn
        simp only [hpSet, if_true]
        rcases k.kind with ⟨cs, cs', h1, h2⟩ | ⟨fr, fr', e, xs, xs', h1, h2, h3⟩
        · simp only [hpSet, if_true] at h2
          rw [h2]; rfl
        · have q1' : ((st.ent 0).map (killB 0)).isBx = true := q1
          rw [map_isBx, h1] at q1'
          cases q1'
      · simp only [hpSet, if_neg hn]
        exact q1
    · by_cases hn : n = m
      · subst hn
        simp only [hpSet, if_true] at hi
        exact hlids hh i hi
      · simp only [hpSet, if_neg hn] at hi
        exact mm.lids n hh i hi

theorem kept_setRow (k : Kept base M w0 w) {g : Nat} (hg : base ≤ g ∨ M g) (cs : Array Value) (hs : ∀ vals el, w.heap[g]? = some (.cells vals el (0, 0)) → cs.size = vals.size) : Kept base M w0 (w.setRow g cs) where
  os := k.os
  tape := k.tape
  output := k.output
  size := by rw [setRow_size]; exact k.size
  block b hb hm := by
    rw [setRow_other' w g b cs (fun e => by subst e; rcases hg with h | h; exact absurd hb (by omega); exact hm h)]
    exact k.block b hb hm
  shape b vals el hb hm hv := by
    obtain ⟨vals', el', h1, h2⟩ := k.shape b vals el hb hm hv
    by_cases hbg : b = g
    · subst hbg
      exact ⟨cs, el', setRow_heap w b vals' cs el' (0, 0) h1, by rw [hs _ _ h1, h2]⟩
    · exact ⟨vals', el', by rw [setRow_other' w g b cs hbg]; exact h1, h2⟩
end
end Go.SX


/- Stores, literals of what the call owns. No condition. -/
namespace Go.SX
open Go.RowKit
set_option linter.unusedVariables false
set_option linter.unusedSimpArgs false

section
variable {P : Program} {T : Tab} {base : Nat} {M : LM} {w0 : World} {V : Vl} {w : World} {a : Act} {next : Act → World → Prop} {Q : Exit → Act → World → Prop}

/-- The state behind a write into box 'm'. -/
theorem rel_write_box {st : St} {ts : Array Value} (r : Rel base M w0 V st ts w) {m : Nat} {cs cs' : List C} {w' : World} (hm : st.ent m = .bx cs) (hblk : ∀ b, b ≠ V.blk m → w'.heap[b]? = w.heap[b]?)
    (hk' : Kept base M w0 w') (hsz : w'.heap.size = w.heap.size) {vals : Array Value} {el : TypeId} (hc : w'.heap[V.blk m]? = some (.cells vals el (0, 0))) (hok : okAll V st.ent w cs' vals.toList) :
    Rel base M w0 V { st with hp := lset st.hp m (.bx cs') } ts w' := by
  have mm := r.mem
  have hl : (st.ent m).live = true := by rw [hm]; rfl
  have hent : (St.mk st.ts (lset st.hp m (.bx cs'))).ent = hpSet st.ent m (.bx cs') := ent_set (ent_lt hl) _ _
  have k : Wr V st.ent w m (hpSet st.ent m (.bx cs')) w' := ⟨fun n hn => by simp only [hpSet, if_neg hn], hblk, mm.box m cs hm, .inl ⟨cs, cs', hm, by simp only [hpSet, if_true]⟩⟩
  have nb : ∀ {c : C} {v : Value}, C.ok V st.ent w c v → NoB m c := by
    intro c v h e xs he
    subst he
    obtain ⟨⟨fr, e', ys, h1⟩, _⟩ := h
    rw [hm] at h1; cases h1
  have nbAll : ∀ {cs : List C} {vs : List Value}, okAll V st.ent w cs vs → okAll V (hpSet st.ent m (.bx cs')) w' cs vs := by
    intro cs vs h
    exact ⟨h.1, fun j c v hc hv => k.ok mm (h.2 j c v hc hv) (nb (h.2 j c v hc hv))⟩
  have hcases : ∀ n, (hpSet st.ent m (.bx cs') n).live = true → (st.ent n).live = true := by
    intro n h
    by_cases hn : n = m
    · subst hn; exact hl
    · simp only [hpSet, if_neg hn] at h; exact h
  refine ⟨r.len, fun i s v hs hv => ?_, ?_⟩
  · rw [hent]
    have h0 := r.slots i s v hs hv
    cases s with
    | c x => exact k.ok mm h0 (nb h0)
    | agg cs => obtain ⟨vs, h1, h2⟩ := h0; exact ⟨vs, h1, nbAll h2⟩
    | tup xs =>
      obtain ⟨vs, h1, h2, h3⟩ := h0
      refine ⟨vs, h1, h2, fun j y v hy hv => ?_⟩
      have h4 := h3 j y v hy hv
      unfold okTop at h4 ⊢
      split
      · rename_i hb; rw [if_pos hb] at h4; obtain ⟨us, k1, k2⟩ := h4; exact ⟨us, k1, nbAll k2⟩
      · rename_i hb; rw [if_neg hb] at h4; exact nbAll h4
    | und => exact h0
    | any => trivial
    | arr e xs => exact S.arr_ext h0
  · rw [hent]
    refine ⟨fun n => ?_, fun n cs2 h => ?_, fun n hl' hh => ?_, fun n e xs h hh => ?_, fun n n' h1 h2 hh hh' he => mm.dist n n' (hcases n h1) (hcases n' h2) hh hh' he, mm.z0, fun b hb => ?_, hk', fun n hl' hh => ?_, fun b hb => ?_, fun n hh i hi => ?_⟩
    · by_cases hn : n = m
      · subst hn
        have : hpSet st.ent n (.bx cs') n = .bx cs' := by simp only [hpSet, if_true]
        rw [this]; exact ⟨vals, el, hc, nbAll hok⟩
      · have hv : hpSet st.ent m (.bx cs') n = st.ent n := by simp only [hpSet, if_neg hn]
        have h1 := mm.ents n
        rw [hv]
        cases hne : st.ent n with
        | dead => trivial
        | bx cs2 =>
          rw [hne] at h1
          obtain ⟨vals2, el2, h2, h3⟩ := h1
          refine ⟨vals2, el2, ?_, nbAll h3⟩
          rw [hblk _ (fun e => hn (mm.dist n m (by rw [hne]; rfl) hl (mm.box n cs2 hne) (mm.box m cs hm) e))]; exact h2
        | row fr e xs =>
          rw [hne] at h1
          rcases h1 with h2 | ⟨h2, vals2, el2, h3, h4, h5⟩
          · exact .inl h2
          · refine .inr ⟨h2, vals2, el2, ?_, h4, fun i hi => ?_⟩
            · rw [hblk _ (fun e => hn (mm.dist n m (by rw [hne]; rfl) hl h2 (mm.box m cs hm) e))]; exact h3
            · obtain ⟨es, q1, q2, q3⟩ := h5 i hi
              exact ⟨es, q1, q2, q3.mono (fun _ h => h) (fun b hb => k.z mm hb)⟩
    · by_cases hn : n = m
      · subst hn; exact mm.box n cs hm
      · simp only [hpSet, if_neg hn] at h
        exact mm.box n cs2 h
    · rw [hsz]
      exact mm.own n (hcases n hl') hh
    · by_cases hn : n = m
      · subst hn
        have : hpSet st.ent n (.bx cs') n = .bx cs' := by simp only [hpSet, if_true]
        rw [this] at h; cases h
      · simp only [hpSet, if_neg hn] at h
        exact mm.mine n e xs h hh
    · rw [hsz]; exact mm.z1 b hb
    · by_cases hn : n = m
      · subst hn
        simp only [hpSet, if_true] at hl'
        exact hl'.elim
      · simp only [hpSet, if_neg hn] at hl'
        exact mm.lent n hl' hh
    · obtain ⟨q1, q2⟩ := mm.lentb b hb
      refine ⟨?_, q2⟩
      by_cases hn : 0 = m
      · simp only [hpSet, if_pos hn]; rfl
      · simp only [hpSet, if_neg hn]; exact q1
    · by_cases hn : n = m
      · subst hn
        simp only [hpSet, if_true] at hi
        cases hi
      · simp only [hpSet, if_neg hn] at hi
        exact mm.lids n hh i hi

theorem cell_ok {hp : Nat → Ent} {v : Value} (h : v.oneCell' = true) : C.ok V hp w (cell v) v := by
  unfold cell
  split
  · exact rfl
  · exact rfl
  · split
    · rename_i hk; exact ⟨rfl, hk⟩
    · exact h
  · split
    · rename_i hk; exact ⟨rfl, hk⟩
    · exact h
  · exact ⟨rfl, rfl, rfl, rfl⟩
  · exact ⟨rfl, trivial⟩
  · exact h

theorem ok_const {hp : Nat → Ent} (v : Value) : S.ok V hp w (S.ofConst v) v := by
  unfold S.ofConst
  split
  · rename_i cs
    split
    · rename_i hc
      rw [lall_eq, List.all_eq_true] at hc
      refine ⟨cs, rfl, ?_⟩
      rw [lmap_eq]
      refine ⟨by simp, fun j c v hj hv => ?_⟩
      rw [List.getElem?_map] at hj
      rw [hv] at hj
      simp only [Option.map_some, Option.some.injEq] at hj
      rw [← hj]
      exact cell_ok (hc v (List.mem_of_getElem? hv))
    · trivial
  · trivial
  · rename_i h1 h2
    refine cell_ok ?_
    cases v <;> first | rfl | exact absurd rfl (h1 _) | exact absurd rfl (h2 _)

theorem Rel.eval {st : St} (r : Rel base M w0 V st a.tmps w) : ∀ x, S.ok V st.ent w (st.eval x) (a.eval x) := by
  intro x
  cases x with
  | tmp t =>
    show S.ok V st.ent w (nth .any st.ts t) (a.tmps.getD t undef)
    rw [nth_eq]
    cases hs : st.ts[t]? with
    | none => trivial
    | some s =>
      have ht : t < a.tmps.size := by have := (List.getElem?_eq_some_iff.1 hs).1; rw [r.len] at this; exact this
      have hv : a.tmps[t]? = some a.tmps[t] := Array.getElem?_eq_getElem ht
      have := r.slots t s _ hs hv
      simpa [Array.getD, ht] using this
  | const v =>
    exact ok_const v
  | global g => trivial
  | func f => exact ⟨rfl, fun n hn => by simp at hn⟩
end
end Go.SX


/- Operations that write: stores, literals of what the call owns. No condition. -/
namespace Go.SX
open Go.RowKit
set_option linter.unusedVariables false
set_option linter.unusedSimpArgs false

theorem ent_alloc (st : St) (es : List Ent) : (st.alloc es).ent = hpNew st.ent (llen st.hp) es := by
  funext n
  show nth .dead (lapp st.hp es) n = hpNew st.ent (llen st.hp) es n
  unfold hpNew
  rw [nth_eq, lapp_eq, llen_eq]
  split
  · rename_i h
    rw [List.getElem?_append_left h]
    show _ = nth .dead st.hp n
    rw [nth_eq]
  · rename_i h
    rw [List.getElem?_append_right (by omega)]
    cases he : es[n - st.hp.length]? with
    | some e => rfl
    | none =>
      show Ent.dead = nth .dead st.hp n
      rw [nth_eq, List.getElem?_eq_none (by omega)]
      rfl

theorem ent_dead (st : St) (j : Nat) : st.ent (llen st.hp + j) = .dead := by
  show nth .dead st.hp _ = _
  rw [nth_eq, llen_eq, List.getElem?_eq_none (by omega)]
  rfl

section
variable {P : Program} {T : Tab} {base : Nat} {M : LM} {w0 : World} {V : Vl} {w : World} {a : Act} {next : Act → World → Prop} {Q : Exit → Act → World → Prop}

theorem rel_good {st : St} {ts : Array Value} (r : Rel base M w0 V st ts w) {res : S} {es : List Ent} {hy : Option Prop} {v : Value} {w' : World} {V' : Vl} (g : Good base M w0 V st.ent w (llen st.hp) res es hy v w' V') :
    Rel base M w0 V' (st.alloc es) ts w' ∧ S.ok V' (st.alloc es).ent w' res v := by
  rw [ent_alloc]
  exact ⟨⟨r.len, fun i s v hs hv => by rw [ent_alloc]; exact S.ok_ext g.vx (r.slots i s v hs hv), by rw [ent_alloc]; exact g.mem⟩, g.res⟩

theorem ent_put (st : St) (d : Option Nat) (s : S) : (st.put d s).ent = st.ent := by
  cases d <;> rfl

theorem rel_put {st : St} (r : Rel base M w0 V st a.tmps w) {s : S} {v : Value} (h : S.ok V st.ent w s v) (dst : Option Nat) : Rel base M w0 V (st.put dst s) (a.put dst v).tmps w := by
  cases dst with
  | none => exact r
  | some d =>
    refine ⟨by show (lset st.ts d s).length = (a.tmps.setIfInBounds d v).size; rw [lset_eq]; simp [r.len], fun i s' v' hs hv => ?_, r.mem⟩
    have hs' : (lset st.ts d s)[i]? = some s' := hs
    have hv' : (a.tmps.setIfInBounds d v)[i]? = some v' := hv
    rw [lset_eq, List.getElem?_set] at hs'
    rw [Array.getElem?_setIfInBounds] at hv'
    split at hs'
    · rename_i hd
      rw [if_pos hd] at hv'
      split at hs'
      · rename_i hlt
        rw [if_pos (by rw [← r.len]; exact hlt)] at hv'
        injection hs' with hs'; injection hv' with hv'
        subst hs'; subst hv'
        exact h
      · cases hs'
    · rename_i hd
      rw [if_neg hd] at hv'
      exact r.slots i s' v' hs' hv'

theorem LkOk.ents {st : St} {ts : Array Value} (r : Rel base M w0 V st ts w) : LkOk V st.ent st.ent w := fun n _ => ⟨rfl, r.mem.ents n⟩

theorem splice_get (l x : List Value) (o k : Nat) (h : o + x.length ≤ l.length) : (l.take o ++ x ++ l.drop (o + x.length))[k]? = if k < o then l[k]? else if k < o + x.length then x[k - o]? else l[k]? := by
  have ht : (l.take o).length = o := by rw [List.length_take]; omega
  rw [List.append_assoc]
  split
  · rename_i hk
    rw [List.getElem?_append_left (by rw [ht]; exact hk), List.getElem?_take, if_pos hk]
  · rename_i hk
    rw [List.getElem?_append_right (by rw [ht]; omega), ht]
    split
    · rename_i hk'
      rw [List.getElem?_append_left (by omega)]
    · rename_i hk'
      rw [List.getElem?_append_right (by omega), List.getElem?_drop]
      congr 1; omega

theorem okAll_splice {hp : Nat → Ent} {cs xs : List C} {vs us : List Value} {off : Nat} (h : okAll V hp w cs vs) (k : okAll V hp w xs us) : okAll V hp w (splice cs off xs) (vs.take off ++ us ++ vs.drop (off + us.length)) := by
  unfold splice
  rw [lapp_eq, lapp_eq, ltake_eq, ldrop_eq, llen_eq, ← List.append_assoc, k.1]
  exact okAll_append (okAll_append (okAll_take h off) k) (okAll_drop h _)

theorem upon_skip {o : Oper} {t : TypeId} {p x : Operand} (ho : o.op = .store t p x) {w' : World} (hr : (Instr.storeAt t (a.eval p) (a.eval x)).run P w = .ok () w') (h : next (a.put o.dst undef) w') : o.wp P a w next Q := by
  unfold Oper.wp execOp
  simp only [ho, Sem.run_bind, hr, Result.andThen_ok, Sem.run_pure]
  exact h

/-! ### The told blocks of what is stored -/

def cellIds : C → List Nat
  | .rg _ wh e b xs => ids (.gs wh e) (b, xs)
  | .rd _ e xs => idsL e xs
  | _ => []

theorem ids_un : ∀ (t : Ty) (d : t.den), ids t.unG (unD t d) = []
  | .gs _ e, d => by
    show (d.2.map (unD e)).flatMap (ids e.unG) = []
    rw [List.flatMap_eq_nil_iff]
    intro x hx
    obtain ⟨y, _, rfl⟩ := List.mem_map.1 hx
    exact ids_un e y
  | .sl e, d => by
    show (List.map (unD e) d).flatMap (ids e.unG) = []
    rw [List.flatMap_eq_nil_iff]
    intro x hx
    obtain ⟨y, _, rfl⟩ := List.mem_map.1 hx
    exact ids_un e y
  | .st t, d => ids_un t d
  | .pr a b, d => by show ids a.unG (unD a d.1) ++ ids b.unG (unD b d.2) = []; rw [ids_un a, ids_un b]; rfl
  | .int _, _ => rfl
  | .bool, _ => rfl
  | .str, _ => rfl
  | .ptr _, _ => rfl
  | .clo _ _, _ => rfl

theorem idsL_un (e : Ty) (xs : List e.den) : idsL e.unG (unL e xs) = [] := ids_un (.sl e) xs

theorem ids_noG : ∀ (t : Ty), t.hasG = false → ∀ d : t.den, ids t d = []
  | .gs _ _, h, _ => by cases h
  | .sl e, h, d => by
    show List.flatMap (ids e) d = []
    rw [List.flatMap_eq_nil_iff]
    intro x _
    exact ids_noG e h x
  | .st t, h, d => ids_noG t h d
  | .pr a b, h, d => by
    have h' : (a.hasG || b.hasG) = false := h
    rw [Bool.or_eq_false_iff] at h'
    show ids a d.1 ++ ids b d.2 = []
    rw [ids_noG a h'.1, ids_noG b h'.2]; rfl
  | .int _, _, _ => rfl
  | .bool, _, _ => rfl
  | .str, _, _ => rfl
  | .ptr _, _, _ => rfl
  | .clo _ _, _, _ => rfl

theorem flat_noG : ∀ {t : Ty}, t.flat = true → t.hasG = false
  | .gs _ _, h => by cases h
  | .sl _, h => by cases h
  | .st t, h => flat_noG (t := t) h
  | .pr a b, h => by
    have h' : (a.flat && b.flat) = true := h
    rw [Bool.and_eq_true] at h'
    show (a.hasG || b.hasG) = false
    rw [flat_noG h'.1, flat_noG h'.2]; rfl
  | .int _, _ => rfl
  | .bool, _ => rfl
  | .str, _ => rfl
  | .ptr _, _ => rfl
  | .clo _ _, _ => rfl

theorem cellIds_noTold {c : C} (h : c.noTold = true) : cellIds c = [] := by
  cases c <;> first | rfl | (cases h; done) | skip
  rename_i fr e xs
  have h' : (!e.hasG) = true := h
  have h2 : e.hasG = false := by simpa using h'
  exact ids_noG (.sl e) h2 xs

theorem asL_ids {e' e : Ty} {xs : List e'.den} {ys : List e.den} (k : asL e' e xs = some ys) : ∀ i ∈ idsL e ys, i ∈ idsL e' xs := by
  unfold asL at k
  split at k
  · rename_i hk; subst hk; injection k with k; subst k; exact fun i h => h
  · split at k
    · rename_i hk; subst hk; injection k with k; subst k
      intro i hi
      have hi' : i ∈ idsL e'.unG (unL e' xs) := hi
      rw [idsL_un] at hi'
      cases hi'
    · cases k

theorem ids_gs_sub {wh wh' : Bool} {e : Ty} {b : Nat} {xs : List e.den} {i : Nat} (h : i ∈ ids (.gs wh e) (b, xs)) : i ∈ ids (.gs wh' e) (b, xs) := by
  cases xs with
  | nil => cases h
  | cons x xr => exact h

theorem ids_gs_in {wh : Bool} {e : Ty} {b : Nat} {xs : List e.den} {i : Nat} (h : i ∈ idsL e xs) : i ∈ ids (.gs wh e) (b, xs) := by
  cases xs with
  | nil => cases h
  | cons x xr => exact List.mem_cons_of_mem _ h

theorem readC_ids {lk : Nat → Ent} : ∀ (t : Ty) {cs : List C} {d : t.den} {rest : List C}, readC lk t cs = some (d, rest) → (∀ c ∈ cs, c.noOwn = true) →
    (∀ i ∈ ids t d, ∃ c ∈ cs, i ∈ cellIds c) ∧ ∀ c ∈ rest, c ∈ cs
  | .int k, cs, d, rest, h, _ => by obtain ⟨c, rfl, _⟩ := head1_some h; exact ⟨fun i hi => (nomatch hi), fun c hc => List.mem_cons_of_mem _ hc⟩
  | .bool, cs, d, rest, h, _ => by obtain ⟨c, rfl, _⟩ := head1_some h; exact ⟨fun i hi => (nomatch hi), fun c hc => List.mem_cons_of_mem _ hc⟩
  | .str, cs, d, rest, h, _ => by obtain ⟨c, rfl, _⟩ := head1_some h; exact ⟨fun i hi => (nomatch hi), fun c hc => List.mem_cons_of_mem _ hc⟩
  | .ptr t, cs, d, rest, h, _ => by obtain ⟨c, rfl, _⟩ := head1_some h; exact ⟨fun i hi => (nomatch hi), fun c hc => List.mem_cons_of_mem _ hc⟩
  | .clo f t, cs, d, rest, h, _ => by obtain ⟨c, rfl, _⟩ := head1_some h; exact ⟨fun i hi => (nomatch hi), fun c hc => List.mem_cons_of_mem _ hc⟩
  | .sl e, cs, d, rest, h, hn => by
    obtain ⟨c, rfl, hc⟩ := head1_some h
    refine ⟨fun i hi => ⟨c, List.mem_cons_self .., ?_⟩, fun c hc => List.mem_cons_of_mem _ hc⟩
    have h0 := hn c (List.mem_cons_self ..)
    have hi : i ∈ idsL e d := hi
    unfold rdSl at hc
    split at hc
    · exact asL_ids hc i hi
    · cases h0
    · cases h0
    · cases h0
    · rename_i wh1 _ _ _; exact ids_gs_in (wh := wh1) (asL_ids hc i hi)
    · injection hc with hc; subst hc; cases hi
    · cases hc
  | .gs wh e, cs, d, rest, h, hn => by
    obtain ⟨c, rfl, hc⟩ := head1_some h
    refine ⟨fun i hi => ⟨c, List.mem_cons_self .., ?_⟩, fun c hc => List.mem_cons_of_mem _ hc⟩
    unfold rdG at hc
    split at hc
    · split at hc
      · rename_i hk
        subst hk
        split at hc
        · cases hc
        · rename_i wh1 _ _ _ _; injection hc with hc; subst hc; exact ids_gs_sub (wh' := wh1) hi
      · cases hc
    · injection hc with hc; subst hc; cases hi
    · cases hc
  | .st t, cs, d, rest, h, hn => readC_ids t h hn
  | .pr a b, cs, d, rest, h, hn => by
    unfold readC at h
    cases ha : readC lk a cs with
    | none => simp [ha] at h
    | some x =>
      obtain ⟨x, r⟩ := x
      simp only [ha] at h
      cases hb : readC lk b r with
      | none => simp [hb] at h
      | some y =>
        obtain ⟨y, r'⟩ := y
        simp only [hb, Option.some.injEq, Prod.mk.injEq] at h
        obtain ⟨rfl, rfl⟩ := h
        obtain ⟨h1, h2⟩ := readC_ids a ha hn
        obtain ⟨h3, h4⟩ := readC_ids b hb (fun c hc => hn c (h2 c hc))
        refine ⟨fun i hi => ?_, fun c hc => h2 c (h4 c hc)⟩
        rcases List.mem_append.1 hi with hi | hi
        · exact h1 i hi
        · obtain ⟨c, hc, hci⟩ := h3 i hi
          exact ⟨c, h2 c hc, hci⟩

theorem readAll_ids {lk : Nat → Ent} {t : Ty} {cs : List C} {d : t.den} (h : readAll lk t cs = some d) (hn : ∀ c ∈ cs, c.noOwn = true) : ∀ i ∈ ids t d, ∃ c ∈ cs, i ∈ cellIds c := by
  unfold readAll at h
  split at h
  · rename_i d' hr
    injection h with h; subst h
    exact (readC_ids t hr hn).1
  · cases h

theorem expand_ids (fr : Bool) : ∀ (t : Ty) (d : t.den), ∀ c ∈ expand fr t d, ∀ i ∈ cellIds c, i ∈ ids t d
  | .int _, _, c, hc, i, hi => by simp [expand] at hc; subst hc; cases hi
  | .bool, _, c, hc, i, hi => by simp [expand] at hc; subst hc; cases hi
  | .str, _, c, hc, i, hi => by simp [expand] at hc; subst hc; cases hi
  | .ptr _, _, c, hc, i, hi => by simp [expand] at hc; subst hc; cases hi
  | .clo _ _, _, c, hc, i, hi => by simp [expand] at hc; subst hc; cases hi
  | .sl e, d, c, hc, i, hi => by simp [expand] at hc; subst hc; exact hi
  | .gs wh e, d, c, hc, i, hi => by simp [expand] at hc; subst hc; exact hi
  | .st t, d, c, hc, i, hi => expand_ids fr t d c hc i hi
  | .pr a b, d, c, hc, i, hi => by
    have hc : c ∈ lapp (expand fr a d.1) (expand fr b d.2) := hc
    rw [lapp_eq] at hc
    rcases List.mem_append.1 hc with hc | hc
    · exact List.mem_append_left _ (expand_ids fr a d.1 c hc i hi)
    · exact List.mem_append_right _ (expand_ids fr b d.2 c hc i hi)

/-- A lent row that is stored to, without slices: no new blocks. -/
theorem store_ids {lk : Nat → Ent} {e : Ty} {ys : List e.den} {i off : Nat} {xs : List C} {y : e.den} (hi : i < ys.length) (hy : readAll lk e (splice (expand false e (ys.getD i e.dflt)) off xs) = some y)
    (hn : ∀ c ∈ xs, c.noOwn = true) (ht : ∀ c ∈ xs, c.noTold = true) : ∀ k ∈ idsL e (ys.set i y), k ∈ idsL e ys := by
  have hmem : ∀ c ∈ splice (expand false e (ys.getD i e.dflt)) off xs, c ∈ expand false e (ys.getD i e.dflt) ∨ c ∈ xs := by
    intro c hc
    unfold splice at hc
    rw [lapp_eq, lapp_eq, ltake_eq, ldrop_eq, List.mem_append, List.mem_append] at hc
    rcases hc with hc | hc | hc
    · exact .inl (List.mem_of_mem_take hc)
    · exact .inr hc
    · exact .inl (List.mem_of_mem_drop hc)
  have hyi : ∀ k ∈ ids e y, k ∈ idsL e ys := by
    intro k hk
    obtain ⟨c, hc, hkc⟩ := readAll_ids hy (fun c hc => by
      rcases hmem c hc with h | h
      · exact (expand_zone false e _ c h).1
      · exact hn c h) k hk
    rcases hmem c hc with h | h
    · have := expand_ids false e _ c h k hkc
      rw [getD_lt _ hi] at this
      exact List.mem_flatMap.2 ⟨_, List.getElem_mem hi, this⟩
    · rw [cellIds_noTold (ht c h)] at hkc
      cases hkc
  intro k hk
  obtain ⟨x, hx, hkx⟩ := List.mem_flatMap.1 hk
  rcases List.mem_or_eq_of_mem_set hx with hx | rfl
  · exact List.mem_flatMap.2 ⟨x, hx, hkx⟩
  · exact hyi k hkx

theorem estore_ok (hT : TabOk P T) {st : St} (r : Rel base M w0 V st a.tmps w) {o : Oper} {t : TypeId} {p x : Operand} (ho : o.op = .store t p x) {er : ER} (h : estore T st t p x = some er) :
    er.ob = none ∧ ((∀ w' V', Rel base M w0 V' er.st a.tmps w' → S.ok V' er.st.ent w' er.res undef → next (a.put o.dst undef) w') → o.wp P a w next Q) := by
  unfold estore at h
  cases hn : sizeT T t with
  | none => rw [hn] at h; simp at h
  | some n =>
    have hti : ∃ ti, T t = some ti ∧ ti.size = n := by
      unfold sizeT at hn; cases hT' : T t with
      | none => rw [hT'] at hn; cases hn
      | some ti => rw [hT'] at hn; simp only [omap, Option.some.injEq] at hn; exact ⟨ti, rfl, hn⟩
    obtain ⟨ti, ht, hts⟩ := hti
    have hb := hT t ti ht
    rw [hn] at h
    split at h
    · rename_i n' m off xs hnn hp1 hx1
      simp only [Option.some.injEq] at hnn
      subst hnn
      split at h
      · rename_i cs hm
        split at h
        · rename_i hc
          injection h with h; subst h
          refine ⟨rfl, fun hnx => ?_⟩
          have hpv := r.eval p
          rw [hp1] at hpv
          obtain ⟨e1, hh, _⟩ := hpv
          have hok := r.mem.ents m
          rw [hm] at hok
          obtain ⟨vals, el, g1, g2⟩ := hok
          have hxs := cells_ok hx1 (r.eval x)
          simp only [llen_eq] at hc
          have hsz : (a.eval x).cells.size = n := by have := hxs.1; rw [hc.1] at this; simpa using this.symm
          have hvs : vals.size = cs.length := by have := g2.1; simpa using this.symm
          have hone : ∀ v ∈ (a.eval x).cells.toList, v.oneCell' = true := by
            intro v hv
            obtain ⟨j, hj, rfl⟩ := List.getElem_of_mem hv
            exact C.oneCell (hxs.2 j (xs[j]'(by rw [hxs.1]; exact hj)) _ (List.getElem?_eq_getElem _) (List.getElem?_eq_getElem _))
          have hrun := run_storeAt hb w (V.blk m) off vals el (a.eval x) (by rw [hsz, hts]) g1 (by omega) hone
          rw [← e1] at hrun
          have hown := r.mem.own m (by rw [hm]; rfl) hh
          refine upon_skip ho hrun (hnx _ V ?_ rfl)
          exact rel_write_box r hm (fun b hb => setRow_other' w _ b _ hb) (kept_setRow r.mem.kept hown.1 _ (fun v2 e2 h2 => by rw [g1] at h2; injection h2 with h2; injection h2 with h2 _ _; subst h2; simp only [List.size_toArray, List.length_append, List.length_take, List.length_drop, Array.length_toList, hsz]; omega)) (setRow_size _ _ _) (setRow_heap w _ vals _ el (0, 0) g1) (by simpa using okAll_splice g2 hxs)
        · cases h
      · cases h
    · rename_i n' m0 i0 off0 xs0 hnn hp0 hx0
      simp only [Option.some.injEq] at hnn
      subst hnn
      simp only at h
      obtain ⟨V1, r1⟩ := r.freezes (ownsOf xs0)
      split at h
      · rename_i m i off xs hp1 hx1
        split at h
        · rename_i fr e ys hm
          split at h
          · rename_i hc
            split at h
            · rename_i y hy
              injection h with h; subst h
              refine ⟨rfl, fun hnx => ?_⟩
              generalize hst1 : st.freezes (ownsOf xs0) = st1 at *
              have hpv := r1.eval p
              rw [hp1] at hpv
              obtain ⟨hh, fr', e', ys', q1, hi, e1⟩ := hpv
              rw [hm] at q1
              injection q1 with q2 q3 q4
              subst q2; subst q3; cases q4
              have hok := r1.mem.ents m
              rw [hm] at hok
              have hxs := cells_ok hx1 (r1.eval x)
              simp only [llen_eq, lall_eq, List.all_eq_true] at hc
              obtain ⟨c1, c2, c3, c4⟩ := hc
              have hsz : (a.eval x).cells.toList.length = n := by rw [← hxs.1, c1]
              have hsz' : (a.eval x).cells.size = n := by simpa using hsz
              have hone : ∀ v ∈ (a.eval x).cells.toList, v.oneCell' = true := by
                intro v hv
                obtain ⟨j, hj, rfl⟩ := List.getElem_of_mem hv
                exact C.oneCell (hxs.2 j (xs[j]'(by rw [hxs.1]; exact hj)) _ (List.getElem?_eq_getElem _) (List.getElem?_eq_getElem _))
              rcases hok with ⟨k1, _⟩ | ⟨_, vals, el, k2, k3, k4⟩
              · exact absurd hh k1
              · obtain ⟨es, g1, g2, g3⟩ := k4 i hi
                have hin : i * e.size + e.size ≤ vals.size := by
                  have hlast := g2 (e.size - 1) (es[e.size - 1]'(by have := e.size_pos; omega)) (List.getElem?_eq_getElem _)
                  have := (Array.getElem?_eq_some_iff.1 hlast).1
                  have := e.size_pos
                  omega
                have hrun := run_storeAt hb w (V1.blk m) (i * e.size + off) vals el (a.eval x) (by rw [hsz', hts]) k2 (by omega) hone
                rw [← e1] at hrun
                have hown := r1.mem.own m (by rw [hm]; rfl) hh
                have hnew := setRow_heap w (V1.blk m) vals (vals.toList.take (i * e.size + off) ++ (a.eval x).cells.toList ++ vals.toList.drop (i * e.size + off + (a.eval x).cells.toList.length)).toArray el (0, 0) k2
                have hvl : (vals.toList.take (i * e.size + off) ++ (a.eval x).cells.toList ++ vals.toList.drop (i * e.size + off + (a.eval x).cells.toList.length)).length = vals.size := by
                  simp only [List.length_append, List.length_take, List.length_drop, Array.length_toList, hsz']; omega
                have hfr : (fr && (e.flat || lall C.isFr xs)) = true → fr = true := fun h => by simp at h; exact h.1
                have kw : Wr V1 st1.ent w m (hpSet st1.ent m (.row (fr && (e.flat || lall C.isFr xs)) e (ys.set i y))) (w.setRow (V1.blk m) (vals.toList.take (i * e.size + off) ++ (a.eval x).cells.toList ++ vals.toList.drop (i * e.size + off + (a.eval x).cells.toList.length)).toArray) :=
                  ⟨fun n hn => by simp only [hpSet, if_neg hn], fun b hb => setRow_other' w _ b _ hb, hh, .inr ⟨fr, fr && (e.flat || lall C.isFr xs), e, ys, ys.set i y, hm, by simp only [hpSet, if_true], by simp, vals, _, el, el, k2, hnew, by simp only [List.size_toArray, hvl]⟩⟩
                refine upon_skip ho hrun (hnx _ V1 ?_ rfl)
                refine rel_write r1 kw rfl (kept_setRow r1.mem.kept hown.1 _ (fun v2 e2 h2 => by rw [k2] at h2; injection h2 with h2; injection h2 with h2 _ _; subst h2; simp only [List.size_toArray, hvl])) (setRow_size _ _ _) ?_ (fun e2 xs2 heq => ?_) (fun cs heq => by cases heq) (fun hlt => ?_) (fun _ q hq => ?_)
                · refine .inr ⟨hh, _, el, hnew, by simpa using k3, fun j hj => ?_⟩
                  have hj' : j < ys.length := by simpa using hj
                  by_cases hji : j = i
                  · subst hji
                    have g3' : RdC (V1.Z fr) w e es (ys.getD j e.dflt) := by rw [getD_lt _ hj']; exact g3
                    have hcells := okAll_splice (off := off) (ok_expand (V := V1) (hp := st1.ent) fr e g3') hxs
                    have hex : ∀ c ∈ expand fr e (ys.getD j e.dflt), c.noOwn = true ∧ (fr = true → c.isFr = true) := expand_zone fr e _
                    have hrd : RdC (V1.Z (fr && lall C.isFr xs)) w e (es.take off ++ (a.eval x).cells.toList ++ es.drop (off + (a.eval x).cells.toList.length)) y := by
                      refine readAll_zone hy hcells (fun c hc' => ?_)
                      unfold splice at hc'
                      rw [lapp_eq, lapp_eq, ltake_eq, ldrop_eq, llen_eq, List.mem_append, List.mem_append] at hc'
                      rcases hc' with hc' | hc' | hc'
                      · obtain ⟨z1, z2⟩ := hex c (List.mem_of_mem_take hc')
                        exact ⟨z1, fun hf => z2 (by simp at hf; exact hf.1)⟩
                      · exact ⟨c3 c hc', fun hf => by simp [lall_eq] at hf; exact hf.2 c hc'⟩
                      · obtain ⟨z1, z2⟩ := hex c (List.mem_of_mem_drop hc')
                        exact ⟨z1, fun hf => z2 (by simp at hf; exact hf.1)⟩
                    have hesl : off + (a.eval x).cells.toList.length ≤ es.length := by rw [hsz, g1]; exact c2
                    refine ⟨_, RdC.length hrd, fun q u hq => ?_, ?_⟩
                    · rw [List.getElem?_toArray, splice_get _ _ _ _ (by simp only [Array.length_toList, hsz']; omega)]
                      rw [splice_get _ _ _ _ hesl] at hq
                      have hql : q < e.size := by
                        rcases Nat.lt_or_ge q e.size with h | h
                        · exact h
                        · rw [if_neg (by omega), if_neg (by rw [hsz]; omega), List.getElem?_eq_none (by rw [g1]; exact h)] at hq; cases hq
                      by_cases q1 : q < off
                      · rw [if_pos q1] at hq
                        rw [if_pos (by omega)]
                        have := g2 q u hq
                        simpa using this
                      · rw [if_neg q1] at hq
                        rw [if_neg (by omega)]
                        by_cases q2 : q < off + (a.eval x).cells.toList.length
                        · rw [if_pos q2] at hq
                          rw [if_pos (by omega), show j * e.size + q - (j * e.size + off) = q - off by omega]
                          exact hq
                        · rw [if_neg q2] at hq
                          rw [if_neg (by omega)]
                          have := g2 q u hq
                          simpa using this
                    · rw [List.getElem_set_self]
                      cases hfl : e.flat with
                      | true => exact hrd.flat hfl
                      | false =>
                        rw [Bool.false_or]
                        exact hrd.mono (fun _ h => h) (fun b hb => kw.z r1.mem hb)
                  · obtain ⟨es', q1, q2, q3⟩ := k4 j hj'
                    refine ⟨es', q1, fun q u hq => ?_, ?_⟩
                    · have hql : q < e.size := by rw [← q1]; exact (List.getElem?_eq_some_iff.1 hq).1
                      rw [List.getElem?_toArray, splice_get _ _ _ _ (by simp only [Array.length_toList, hsz']; omega), hsz]
                      have hne : j * e.size + q < i * e.size + off ∨ i * e.size + off + n ≤ j * e.size + q := by
                        rcases Nat.lt_or_gt_of_ne hji with h | h
                        · left
                          have : (j + 1) * e.size ≤ i * e.size := Nat.mul_le_mul_right _ h
                          rw [Nat.add_mul, Nat.one_mul] at this; omega
                        · right
                          have : (i + 1) * e.size ≤ j * e.size := Nat.mul_le_mul_right _ h
                          rw [Nat.add_mul, Nat.one_mul] at this; omega
                      have := q2 q u hq
                      rcases hne with h | h
                      · rw [if_pos h]; simpa using this
                      · rw [if_neg (by omega), if_neg (by omega)]; simpa using this
                    · rw [List.getElem_set_ne (fun h => hji h.symm)]
                      have hz : ∀ b, V1.Z fr b → V1.Z (fr && (e.flat || lall C.isFr xs)) b ∨ True := fun _ _ => .inr trivial
                      cases hfl : e.flat with
                      | true => exact q3.flat hfl
                      | false =>
                        rw [Bool.false_or]
                        refine q3.mono (fun b hb => castFlag (fun hf => by simp at hf; exact hf.1) hb) (fun b hb => kw.z r1.mem hb)
                · injection heq with h1 h2 h3
                  exact r1.mem.mine m e ys (by rw [hm, hfr h1]) hh
                · refine r1.mem.lent m ?_ hh
                  rw [hm]
                  cases fr with
                  | false => exact (lentish_flat hlt)
                  | true =>
                    have h2 : (e.flat || lall C.isFr xs) = true := by
                      have h9 := lentish_flat hlt
                      cases hf : e.flat with
                      | true => rfl
                      | false =>
                        rw [hf, Bool.false_or] at h9
                        have c4' : (!e.hasG || lall C.isFr xs) = true := c4
                        rw [h9] at c4'
                        exact c4'
                    rw [h2] at hlt
                    exact hlt
                · cases hfv : fr with
                  | true =>
                    subst hfv
                    exfalso
                    have hg : e.hasG = true ∧ (e.flat || lall C.isFr xs) = false := by
                      cases hb' : (e.flat || lall C.isFr xs) with
                      | true => rw [hb'] at hq; cases hq
                      | false =>
                        rw [hb'] at hq
                        have hq' : q ∈ (if e.hasG then idsL e (ys.set i y) else []) := hq
                        split at hq'
                        · rename_i h; exact ⟨h, rfl⟩
                        · cases hq'
                    have c4' : (!e.hasG || lall C.isFr xs) = true := c4
                    rw [hg.1] at c4'
                    have h9 := hg.2
                    rw [Bool.or_eq_false_iff] at h9
                    rw [h9.2] at c4'
                    cases c4'
                  | false =>
                    subst hfv
                    have hq' : q ∈ (if e.hasG then idsL e (ys.set i y) else []) := hq
                    split at hq'
                    · rename_i hg
                      intro e0
                      have c4' : (!e.hasG || (!(Nat.beq m 0) || lall C.noTold xs)) = true := c4
                      rw [hg, show Nat.beq m 0 = true by rw [e0]; rfl, Bool.not_true, Bool.false_or, Bool.false_or, lall_eq, List.all_eq_true] at c4'
                      have h9 := store_ids hi hy c3 c4' q hq'
                      refine r1.mem.lids m hh q ?_ e0
                      rw [hm]
                      show q ∈ (if e.hasG then idsL e ys else [])
                      rw [if_pos hg]
                      exact h9
                    · cases hq'
            · cases h
          · cases h
        · cases h
      · cases h
    · cases h

theorem eastore_ok (hT : TabOk P T) {st : St} (r : Rel base M w0 V st a.tmps w) {o : Oper} {t : TypeId} {p x : Operand} (ho : o.op = .store t p x) {er : ER} (h : eastore T st t p x = some er) (hob : ∀ p, er.ob = some p → p)
    (hnx : ∀ w' V', Rel base M w0 V' er.st a.tmps w' → S.ok V' er.st.ent w' er.res undef → next (a.put o.dst undef) w') : o.wp P a w next Q := by
  unfold eastore at h
  split at h
  case h_2 => cases h
  rename_i len te es n ety sz by' z ty teq m e xs ht hp1 hx1
  split at h
  case h_2 => cases h
  rename_i fr e' ys hm
  split at h
  case isFalse => cases h
  rename_i hee
  subst hee
  injection h with h; subst h
  obtain ⟨hlen, hsz⟩ := hob _ rfl
  have hb := hT t _ ht
  have hpv := r.eval p
  rw [hp1] at hpv
  obtain ⟨hh, fr', e2, ys', q1, hi, e1⟩ := hpv
  rw [hm] at q1
  injection q1 with q2 q3 q4
  subst q2; subst q3; cases q4
  have hxv := r.eval x
  rw [hx1] at hxv
  obtain ⟨hfl, vs, hv, hvs, hch⟩ := hxv
  have hok := r.mem.ents m
  rw [hm] at hok
  rcases hok with ⟨k1, _⟩ | ⟨_, vals, el, k2, k3, k4⟩
  · exact absurd hh k1
  have hpos := e'.size_pos
  have hin : ys.length * e'.size ≤ vals.size := by
    obtain ⟨es', g1, g2, _⟩ := k4 (ys.length - 1) (by omega)
    have := g2 (e'.size - 1) (es'[e'.size - 1]'(by omega)) (List.getElem?_eq_getElem _)
    have h6 := (Array.getElem?_eq_some_iff.1 this).1
    have h7 : ys.length * e'.size = (ys.length - 1) * e'.size + e'.size := by
      conv => lhs; rw [show ys.length = ys.length - 1 + 1 by omega, Nat.add_mul, Nat.one_mul]
    omega
  have hcs : (a.eval x).cells = vs := by rw [hv]; rfl
  have hone : ∀ v ∈ (a.eval x).cells.toList, v.oneCell' = true := by
    intro v hv'
    rw [hcs] at hv'
    obtain ⟨j, hj, rfl⟩ := List.getElem_of_mem hv'
    have hj' : j < xs.length * e'.size := by rw [← hvs]; simpa using hj
    have hd : j / e'.size < xs.length := (Nat.div_lt_iff_lt_mul hpos).2 hj'
    obtain ⟨es', g1, g2, g3⟩ := hch _ hd
    have hmod : j % e'.size < es'.length := by rw [g1]; exact Nat.mod_lt _ hpos
    have := g2 (j % e'.size) _ (List.getElem?_eq_getElem hmod)
    rw [Nat.div_add_mod' j e'.size] at this
    have h8 : vs.toList[j]? = some es'[j % e'.size] := by simpa using this
    rw [List.getElem?_eq_getElem hj] at h8
    injection h8 with h8
    rw [h8]
    exact g3.oneCell _ (List.getElem_mem hmod)
  have hsz' : (a.eval x).cells.size = sz := by rw [hcs, hvs, hsz]
  have hrun := run_storeAt hb w (V.blk m) 0 vals el (a.eval x) (by rw [hsz']) k2 (by rw [hsz', ← hsz, hlen, Nat.zero_add]; exact hin) hone
  have e1' : a.eval p = .pointer (some ⟨V.blk m, 0, none⟩) := by rw [e1, Nat.zero_mul]
  rw [← e1'] at hrun
  have hown := r.mem.own m (by rw [hm]; rfl) hh
  have hvl : (vals.toList.take 0 ++ (a.eval x).cells.toList ++ vals.toList.drop (0 + (a.eval x).cells.toList.length)).length = vals.size := by
    simp only [List.length_append, List.length_take, List.length_drop, Array.length_toList, hsz', List.take_zero, List.length_nil, Nat.zero_add]
    have : sz ≤ vals.size := by rw [← hsz, hlen]; exact hin
    omega
  have hnew := setRow_heap w (V.blk m) vals (vals.toList.take 0 ++ (a.eval x).cells.toList ++ vals.toList.drop (0 + (a.eval x).cells.toList.length)).toArray el (0, 0) k2
  have kw : Wr V st.ent w m (hpSet st.ent m (.row fr e' xs)) (w.setRow (V.blk m) (vals.toList.take 0 ++ (a.eval x).cells.toList ++ vals.toList.drop (0 + (a.eval x).cells.toList.length)).toArray) :=
    ⟨fun n hn => by simp only [hpSet, if_neg hn], fun b hb => setRow_other' w _ b _ hb, hh, .inr ⟨fr, fr, e', ys, xs, hm, by simp only [hpSet, if_true], hlen.symm, vals, _, el, el, k2, hnew, by simp only [List.size_toArray, hvl]⟩⟩
  refine upon_skip ho hrun (hnx _ V ?_ rfl)
  refine rel_write r kw rfl (kept_setRow r.mem.kept hown.1 _ (fun v2 e2 h2 => by rw [k2] at h2; injection h2 with h2; injection h2 with h2 _ _; subst h2; simp only [List.size_toArray, hvl])) (setRow_size _ _ _) ?_ (fun e2 xs2 heq => ?_) (fun cs heq => by cases heq) (fun hlt => ?_) (fun _ q hq => ?_)
  · refine .inr ⟨hh, _, el, hnew, by rw [hlen]; exact k3, fun j hj => ?_⟩
    obtain ⟨es', g1, g2, g3⟩ := hch j hj
    refine ⟨es', g1, fun q u hq => ?_, g3.flat hfl⟩
    have := g2 q u hq
    have hlt := (Array.getElem?_eq_some_iff.1 this).1
    rw [List.take_zero, List.nil_append, List.getElem?_toArray, List.getElem?_append_left (by rw [hcs]; simpa using hlt), hcs]
    simpa using this
  · injection heq with h1 h2 h3
    exact r.mem.mine m e' ys (by rw [hm, h1]) hh
  · refine r.mem.lent m ?_ hh
    rw [hm]
    cases fr with
    | true => exact hlt.elim
    | false => exact hlt
  · exfalso
    have hg : e'.hasG = true := by
      cases fr with
      | true => cases hq
      | false =>
        have hq' : q ∈ (if e'.hasG then idsL e' xs else []) := hq
        split at hq'
        · rename_i h; exact h
        · cases hq'
    rw [flat_noG hfl] at hg
    cases hg
end
end Go.SX


/- Append. No condition. -/
namespace Go.SX
open Go.RowKit
set_option linter.unusedVariables false
set_option linter.unusedSimpArgs false

section
variable {P : Program} {T : Tab} {base : Nat} {M : LM} {w0 : World} {V : Vl} {hp : Nat → Ent} {w : World} {a : Act} {next : Act → World → Prop} {Q : Exit → Act → World → Prop}

theorem cellsOf_block {g : Nat} {vals : Array Value} {el : TypeId} {fr : Nat × Nat} (h : w.heap[g]? = some (.cells vals el fr)) (j : Nat) : w.cell? ⟨g, j, none⟩ = vals[j]? := by
  simp [World.cell?, h]

/-- What an append leaves: 'olds' and behind them 'news'. -/
inductive Appended (w w' : World) (v v' : Value) (sz k : Nat) (all : List Value) : Prop where
  | same (h1 : v' = v) (h2 : w' = w)
  | row (g cap : Nat) (vals : Array Value) (el : TypeId) (h1 : v' = .slice (some ⟨g, 0, none⟩) k cap) (h2 : w'.heap[g]? = some (.cells vals el (0, 0))) (h3 : vals.size = cap * sz) (h4 : k ≤ cap)
      (h5 : vals.toList.take (k * sz) = all) (h6 : (∃ l, v = .slice (some ⟨g, 0, none⟩) l cap ∧ g < w.heap.size ∧ w'.heap.size = w.heap.size) ∨ (g = w.heap.size ∧ w'.heap.size = w.heap.size + 1))
      (h7 : ∀ b, b ≠ g → b < w.heap.size → w'.heap[b]? = w.heap[b]?) (h8 : w'.os = w.os ∧ w'.tape = w.tape ∧ w'.output = w.output)

theorem run_append_zero {t ty te : TypeId} {i : TypeInfo} (ht : P.underlying t = some (.slice te)) (hi : P.info? te = some i) (bs aa : Option Addr) (h cap c : Nat) (hc : h ≤ cap) :
    (Builtin.append_ #[t, t] ty #[.slice bs h cap, .slice aa 0 c]).run P w = .ok (.slice bs h cap) w := by
  cases bs <;> cases aa <;> simp [Builtin.append_, run_underlying ht, sizeOf, typeInfo, hi, Builtin.lenOf, Builtin.firstCells, loadCells, loadCellsFrom, hc, storeCells]

theorem run_append_any {t ty te : TypeId} {i : TypeInfo} {z : Value} (ht : P.underlying t = some (.slice te)) (hi : P.info? te = some i) (hz : i.zero = some z) (hzs : z.cells.size = i.size) (hpos : 0 < i.size)
    {v : Value} {h cap : Nat} {g : Nat} {vals : Array Value} {el : TypeId}
    (hv : (v = .slice none 0 0 ∧ h = 0 ∧ vals = #[]) ∨ (v = .slice (some ⟨g, 0, none⟩) h cap ∧ w.heap[g]? = some (.cells vals el (0, 0)) ∧ vals.size = cap * i.size ∧ h ≤ cap))
    {aa : Option Addr} {m c : Nat} {news : List Value} (hl : news.length = m * i.size) (hnews : 0 < m → ∃ b o, aa = some ⟨b, o, none⟩ ∧ ∀ (j : Nat) u, news[j]? = some u → w.cell? ⟨b, o + j, none⟩ = some u)
    (h1 : ∀ u ∈ news, u.oneCell' = true) (h63 : h + m ≤ 9223372036854775807) (hb : (h + m) * i.bytes ≤ 140737488355328) :
    ∃ v' w', (Builtin.append_ #[t, t] ty #[v, .slice aa m c]).run P w = .ok v' w' ∧ Appended w w' v v' i.size (h + m) (vals.toList.take (h * i.size) ++ news) ∧ (0 < m → ∃ g' cap', v' = .slice (some ⟨g', 0, none⟩) (h + m) cap') ∧ (m = 0 → v' = v ∧ w' = w) := by
  by_cases hm : m = 0
  · subst hm
    have hn : news = [] := List.eq_nil_of_length_eq_zero (by simpa using hl)
    subst hn
    rcases hv with ⟨rfl, rfl, rfl⟩ | ⟨rfl, _, _, h4⟩
    · exact ⟨_, w, run_append_zero ht hi none aa 0 0 c (Nat.le_refl _), .same rfl rfl, fun h => absurd h (by omega), fun _ => ⟨rfl, rfl⟩⟩
    · exact ⟨_, w, run_append_zero ht hi _ aa h cap c h4, .same rfl rfl, fun h => absurd h (by omega), fun _ => ⟨rfl, rfl⟩⟩
  · obtain ⟨b, o, rfl, hn⟩ := hnews (by omega)
    have hn' : ∀ (j : Nat) u, news[j]? = some u → w.cell? ((⟨b, o, none⟩ : Addr).add j) = some u := fun j u hu => by rw [add_mk]; exact hn j u hu
    rcases hv with ⟨rfl, rfl, rfl⟩ | ⟨rfl, k2, k3, k4⟩
    · have hr := run_append_nil (P := P) w t ty te i z ht hi hz ⟨b, o, none⟩ m c news hl hn' (by omega) (by omega) (by simp only [Nat.zero_add] at hb; omega)
      have hge := grownCap_ge w m 0 te
      refine ⟨_, _, hr, .row w.heap.size (grownCap w m 0 te) _ te (by simp) (heap_new w.drew _) ?_ (by omega) ?_ (.inr ⟨rfl, by simp [World.alloc, heap_drew]⟩) (fun q hq hlt => ?_) ⟨rfl, rfl, rfl⟩, fun _ => ⟨w.heap.size, grownCap w m 0 te, by simp⟩, fun h => absurd h hm⟩
      · simp only [Array.size_append, List.size_toArray, size_zeroCells, hzs, hl, ← Nat.add_mul]
        congr 1; omega
      · simp only [Array.toList_append, Nat.zero_add, Nat.zero_mul, List.take_zero, List.nil_append]
        rw [← hl]; exact List.take_left
      · show (w.heap.push _)[q]? = _; rw [Array.getElem?_push, if_neg (by omega)]
    · have hglt : g < w.heap.size := (Array.getElem?_eq_some_iff.1 k2).1
      by_cases hroom : h + m ≤ cap
      · have hfit : h * i.size + news.length ≤ vals.size := by rw [hl, k3, ← Nat.add_mul]; exact Nat.mul_le_mul_right _ hroom
        have hf := run_firstCells_some (P := P) w i.size m ⟨b, o, none⟩ m c news hl hn'
        have hst := run_storeCells_at P g (h * i.size) el news 0 vals w k2 (by simpa using hfit) h1
        simp only [Nat.add_zero] at hst
        have hr : (Builtin.append_ #[t, t] ty #[.slice (some ⟨g, 0, none⟩) h cap, .slice (some ⟨b, o, none⟩) m c]).run P w =
            .ok (.slice (some ⟨g, 0, none⟩) (h + m) cap) (w.setRow g (vals.toList.take (h * i.size) ++ news ++ vals.toList.drop (h * i.size + news.length)).toArray) := by
          simp [Builtin.append_, run_underlying ht, sizeOf, typeInfo, hi, Builtin.lenOf, hroom, hf, Addr.add_lit, hst]
        have hlen : (vals.toList.take (h * i.size) ++ news).length = (h + m) * i.size := by
          rw [List.length_append, List.length_take, Array.length_toList, hl, Nat.add_mul]; omega
        refine ⟨_, _, hr, .row g cap _ el rfl (setRow_heap w g vals _ el (0, 0) k2) ?_ hroom ?_ (.inl ⟨h, rfl, hglt, setRow_size _ _ _⟩) (fun q hq _ => setRow_other' w g q _ hq) ⟨rfl, rfl, rfl⟩, fun _ => ⟨g, cap, rfl⟩, fun h => absurd h hm⟩
        · simp only [List.size_toArray, List.length_append, List.length_take, List.length_drop, Array.length_toList]; omega
        · rw [← hlen]; exact List.take_left
      · have holds : ∀ (j : Nat) u, (vals.toList.take (h * i.size))[j]? = some u → w.cell? ((⟨g, 0, none⟩ : Addr).add j) = some u := by
          intro j u hu
          rw [add_mk, Nat.zero_add, cellsOf_block k2]
          rw [List.getElem?_take] at hu
          split at hu
          · simpa using hu
          · cases hu
        have hlo : (vals.toList.take (h * i.size)).length = h * i.size := by
          rw [List.length_take, Array.length_toList, k3]
          exact Nat.min_eq_left (Nat.mul_le_mul_right _ k4)
        have hr := run_append_grow (P := P) w t ty te i z ht hi hz ⟨g, 0, none⟩ h cap _ hlo holds ⟨b, o, none⟩ m c news hl hn' (by omega) (by omega) (growslice_fits (by omega) hb)
        have hge := grownCap_ge w (h + m) cap te
        have hlen : (vals.toList.take (h * i.size) ++ news).length = (h + m) * i.size := by rw [List.length_append, hlo, hl, Nat.add_mul]
        refine ⟨_, _, hr, .row w.heap.size (grownCap w (h + m) cap te) _ te rfl (heap_new w.drew _) ?_ hge ?_ (.inr ⟨rfl, by simp [World.alloc, heap_drew]⟩) (fun q hq hlt => ?_) ⟨rfl, rfl, rfl⟩, fun _ => ⟨_, _, rfl⟩, fun h => absurd h hm⟩
        · simp only [Array.size_append, List.size_toArray, size_zeroCells, hzs, hlo, hl, ← Nat.add_mul]
          congr 1; omega
        · simp only [Array.toList_append, List.append_assoc]
          rw [← List.append_assoc, ← hlen]
          exact List.take_left
        · show (w.heap.push _)[q]? = _; rw [Array.getElem?_push, if_neg (by omega)]

/-- What is read of a slice: its elements. -/
def Elems (Z : Nat → Prop) (w : World) (e : Ty) (aa : Option Addr) (ys : List e.den) : Prop :=
  ∀ i (h : i < ys.length), ∃ b o, aa = some ⟨b, o, none⟩ ∧ ∃ es, es.length = e.size ∧ cellsAt w b (o + i * e.size) es ∧ RdC Z w e es ys[i]

theorem elems_of_rd {Z : Nat → Prop} {e : Ty} {v : Value} {ys : List e.den} (h : RdC Z w (.sl e) [v] ys) : ∃ aa cap, v = .slice aa ys.length cap ∧ ys.length ≤ cap ∧ ys.length ≤ lenMax ∧ Elems Z w e aa ys := by
  obtain ⟨a, cap, hv, h2, h3, h4⟩ := h
  simp only [List.cons.injEq, and_true] at hv
  refine ⟨a, cap, hv, h2, h3, fun i hi => ?_⟩
  obtain ⟨ad, rfl, h5, h6, es, h7, h8, h9⟩ := h4 i hi
  obtain ⟨b, o, sp⟩ := ad
  simp only at h5
  subst h5
  exact ⟨b, o, rfl, es, h7, h8, h9⟩

theorem elems_of_row {n h : Nat} {fr : Bool} {e : Ty} {xs : List e.den} {v : Value} (he : (Ent.row fr e xs).ok V hp w n) (hr : hasRow V w n e h v) (hh : h ≤ xs.length) :
    ∃ aa cap, v = .slice aa (xs.take h).length cap ∧ (xs.take h).length ≤ cap ∧ (xs.take h).length ≤ lenMax ∧ Elems (V.Z fr) w e aa (xs.take h) := by
  have hlen : (xs.take h).length = h := by rw [List.length_take]; omega
  rcases hr with ⟨h1, rfl, rfl⟩ | ⟨h1, cap, vals, el, rfl, h3, h4, h5⟩
  · exact ⟨none, 0, by simp, by simp, by simp, fun i hi => by simp at hi⟩
  · rcases he with ⟨k1, _⟩ | ⟨_, vals', el', k2, k3, k4⟩
    · exact absurd h1 k1
    · refine ⟨_, cap, by rw [hlen], by omega, by omega, fun i hi => ?_⟩
      rw [hlen] at hi
      obtain ⟨es, q1, q2, q3⟩ := k4 i (by omega)
      refine ⟨V.blk n, 0, rfl, es, q1, fun j hj => ?_, by rw [List.getElem_take]; exact q3⟩
      rw [Nat.zero_add, cellsOf_block k2]
      exact q2 j _ (List.getElem?_eq_getElem hj)

theorem flat_zone {Z Z' : Nat → Prop} {e : Ty} (hf : e.flat = true) {aa : Option Addr} {ys : List e.den} (h : Elems Z w e aa ys) : Elems Z' w e aa ys := fun i hi =>
  let ⟨b, o, h1, es, h2, h3, h4⟩ := h i hi
  ⟨b, o, h1, es, h2, h3, h4.flat hf⟩

theorem Elems.asL {Z : Nat → Prop} {e' e : Ty} {aa : Option Addr} {xs : List e'.den} {ys : List e.den} (h : Elems Z w e' aa xs) (k : SX.asL e' e xs = some ys) : Elems Z w e aa ys := by
  intro i hi
  obtain ⟨b, o, h1, es, h2, h3, h4⟩ := h i (by rw [← asL_len k]; exact hi)
  rw [(asL_size k).1] at h2 h3
  exact ⟨b, o, h1, es, h2, h3, asL_at k hi h4⟩

theorem sl_elems (he : ∀ n, (hp n).ok V hp w n) {e : Ty} {c : C} {ys : List e.den} {f : Bool} {v : Value} (h : rdSl hp e c = some ys) (hf : rowFr hp e c = some f) (ho : C.ok V hp w c v) :
    ∃ aa cap, v = .slice aa ys.length cap ∧ ys.length ≤ lenMax ∧ Elems (V.Z f) w e aa ys := by
  have fix : ∀ {fr : Bool} {aa : Option Addr} {ys : List e.den}, Elems (V.Z fr) w e aa ys → Elems (V.Z (e.flat || fr)) w e aa ys := by
    intro fr aa ys h
    cases hfl : e.flat with
    | true => exact flat_zone hfl h
    | false => rw [Bool.false_or]; exact h
  unfold rdSl at h
  split at h
  · rename_i fr e' xs
    simp only [rowFr, Option.some.injEq] at hf; subst hf
    obtain ⟨aa, cap, h1, _, h3, h4⟩ := elems_of_rd (asL_rd ho h)
    exact ⟨aa, cap, h1, h3, fix h4⟩
  · rename_i n e' xs
    split at h
    · rename_i hk; subst hk; injection h with h; subst h
      simp only [rowFr] at hf
      split at hf
      · rename_i hfl
        injection hf with hf; subst hf
        obtain ⟨aa, cap, h1, _, h3, h4⟩ := elems_of_rd ho.2
        exact ⟨aa, cap, h1, h3, flat_zone hfl h4⟩
      · cases hf
    · cases h
  · rename_i n
    split at h
    · rename_i fr e' xs' hn
      simp only [rowFr, hn, Option.some.injEq] at hf; subst hf
      obtain ⟨fr', e2, xs2, h3, h4⟩ := ho
      rw [hn] at h3
      injection h3 with e1 e2 e3
      subst e1; subst e2; cases e3
      have h5 := he n
      rw [hn] at h5
      obtain ⟨aa, cap, g1, _, g3, g4⟩ := elems_of_row h5 h4 (Nat.le_refl _)
      rw [List.take_length] at g1 g3 g4
      exact ⟨aa, cap, by rw [asL_len h]; exact g1, by rw [asL_len h]; exact g3, fix (g4.asL h)⟩
    · cases h
  · rename_i n mm
    split at h
    · rename_i fr e' xs' hn
      simp only [rowFr, hn, Option.some.injEq] at hf; subst hf
      obtain ⟨fr', e2, xs2, h3, h6, h4⟩ := ho
      rw [hn] at h3
      injection h3 with e1 e2 e3
      subst e1; subst e2; cases e3
      have h5 := he n
      rw [hn] at h5
      obtain ⟨aa, cap, g1, _, g3, g4⟩ := elems_of_row h5 h4 h6
      exact ⟨aa, cap, by rw [asL_len h]; exact g1, by rw [asL_len h]; exact g3, fix (g4.asL h)⟩
    · cases h
  · rename_i fr wh e' b xs
    simp only [rowFr, Option.some.injEq] at hf; subst hf
    obtain ⟨aa, cap, h1, _, h3, h4⟩ := elems_of_rd (asL_rd (gs_sl ho) h)
    exact ⟨aa, cap, h1, h3, fix h4⟩
  · injection h with h; subst h
    rw [ho.1]
    exact ⟨none, 0, rfl, Nat.zero_le _, fun i hi => by simp at hi⟩
  · cases h

/-- The elements' cells, in a row. -/
theorem flat_cells {Z : Nat → Prop} {e : Ty} {aa : Option Addr} {ys : List e.den} (h : Elems Z w e aa ys) : ∃ news : List Value, news.length = ys.length * e.size ∧
    (0 < ys.length → ∃ b o, aa = some ⟨b, o, none⟩ ∧ ∀ (j : Nat) u, news[j]? = some u → w.cell? ⟨b, o + j, none⟩ = some u) ∧ (∀ u ∈ news, u.oneCell' = true) ∧
    ∀ i (h : i < ys.length), ∃ es, es.length = e.size ∧ (∀ (j : Nat) u, es[j]? = some u → news[i * e.size + j]? = some u) ∧ RdC Z w e es ys[i] := by
  cases ys with
  | nil => exact ⟨[], by simp, fun h => by simp at h, fun u hu => by simp at hu, fun i hi => by simp at hi⟩
  | cons y0 yr =>
    generalize hys : y0 :: yr = ys at *
    have hpos : 0 < ys.length := by rw [← hys]; simp
    obtain ⟨b, o, rfl, _⟩ := h 0 hpos
    have hsz := e.size_pos
    have hk : ∀ k, k < ys.length * e.size → ∃ u, w.cell? ⟨b, o + k, none⟩ = some u ∧ u.oneCell' = true := by
      intro k hk
      have hi : k / e.size < ys.length := by rw [Nat.div_lt_iff_lt_mul hsz]; exact hk
      obtain ⟨b', o', hb, es, h1, h2, h3⟩ := h _ hi
      injection hb with hb
      injection hb with hb1 hb2
      subst hb1; subst hb2
      have hj : k % e.size < es.length := by rw [h1]; exact Nat.mod_lt _ hsz
      have := h2 (k % e.size) hj
      have hdm : k / e.size * e.size + k % e.size = k := by rw [Nat.mul_comm]; exact Nat.div_add_mod k e.size
      rw [Nat.add_assoc, hdm] at this
      exact ⟨_, this, RdC.oneCell h3 _ (List.getElem_mem _)⟩
    refine ⟨(List.range (ys.length * e.size)).map (fun k => (w.cell? ⟨b, o + k, none⟩).getD undef), by simp, fun _ => ⟨b, o, rfl, fun j u hu => ?_⟩, fun u hu => ?_, fun i hi => ?_⟩
    · rw [List.getElem?_map] at hu
      cases hj : (List.range (ys.length * e.size))[j]? with
      | none => rw [hj] at hu; cases hu
      | some k =>
        rw [hj] at hu
        have hjl := (List.getElem?_eq_some_iff.1 hj).1
        have hkj : k = j := by have := (List.getElem?_eq_some_iff.1 hj).2; simpa using this.symm
        subst hkj
        simp only [List.length_range] at hjl
        simp only [Option.map_some, Option.some.injEq] at hu
        obtain ⟨u', h1, _⟩ := hk k hjl
        rw [h1] at hu ⊢
        simpa using hu
    · rw [List.mem_map] at hu
      obtain ⟨k, hk', rfl⟩ := hu
      obtain ⟨u', h1, h2⟩ := hk k (List.mem_range.1 hk')
      rw [h1]; exact h2
    · obtain ⟨b', o', hb, es, h1, h2, h3⟩ := h i hi
      injection hb with hb
      injection hb with hb1 hb2
      subst hb1; subst hb2
      refine ⟨es, h1, fun j u hu => ?_, h3⟩
      have hj := (List.getElem?_eq_some_iff.1 hu).1
      have hlt : i * e.size + j < ys.length * e.size := by
        have : (i + 1) * e.size ≤ ys.length * e.size := Nat.mul_le_mul_right _ hi
        rw [Nat.add_mul, Nat.one_mul] at this; omega
      rw [List.getElem?_map, List.getElem?_range hlt]
      have h5 := h2 j hj
      rw [Nat.add_assoc] at h5
      simp only [Option.map_some, h5, Option.getD_some]
      rw [List.getElem?_eq_getElem hj] at hu
      exact hu

end
end Go.SX


/- Append, in the words of the state. No condition. -/
namespace Go.SX
open Go.RowKit
set_option linter.unusedVariables false
set_option linter.unusedSimpArgs false

section
variable {P : Program} {T : Tab} {base : Nat} {M : LM} {w0 : World} {V : Vl} {w : World} {a : Act} {next : Act → World → Prop} {Q : Exit → Act → World → Prop}

/-- Row 'm' lies in block 'g' from here on. -/
def Vl.move (V : Vl) (m g : Nat) : Vl where
  blk n := if n = m then g else V.blk n
  has n := if n = m then True else V.has n
  Z0 := V.Z0
  Z1 := V.Z1

/-- A row of 'keep' elements of row 'm' and 'news' behind them. -/
theorem rowAt_append {Z Z' : Nat → Prop} {w' : World} {e : Ty} {vals vals' : Array Value} {xs ys : List e.den} {news : List Value} (h1 : RowAt Z w e vals xs) (h2 : news.length = ys.length * e.size)
    (h3 : ∀ i (h : i < ys.length), ∃ es, es.length = e.size ∧ (∀ (j : Nat) u, es[j]? = some u → news[i * e.size + j]? = some u) ∧ RdC Z' w e es ys[i])
    (h4 : vals'.toList.take ((xs.length + ys.length) * e.size) = vals.toList.take (xs.length * e.size) ++ news) (h5 : xs.length * e.size ≤ vals.size) {Z2 : Nat → Prop}
    (g1 : ∀ {cs : List Value} {d : e.den}, RdC Z w e cs d → RdC Z2 w' e cs d) (g2 : ∀ {cs : List Value} {d : e.den}, RdC Z' w e cs d → RdC Z2 w' e cs d) : RowAt Z2 w' e vals' (xs ++ ys) := by
  have hget : ∀ k u, k < (xs.length + ys.length) * e.size → (vals.toList.take (xs.length * e.size) ++ news)[k]? = some u → vals'[k]? = some u := by
    intro k u hk hu
    rw [← h4, List.getElem?_take, if_pos hk] at hu
    simpa using hu
  have hl : (vals.toList.take (xs.length * e.size)).length = xs.length * e.size := by
    have hv : vals.toList.length = vals.size := Array.length_toList
    rw [List.length_take, hv]; exact Nat.min_eq_left h5
  intro i hi
  rw [List.length_append] at hi
  rcases Nat.lt_or_ge i xs.length with h | h
  · obtain ⟨es, q1, q2, q3⟩ := h1 i h
    refine ⟨es, q1, fun j u hu => ?_, by rw [List.getElem_append_left h]; exact g1 q3⟩
    have hj : j < e.size := by rw [← q1]; exact (List.getElem?_eq_some_iff.1 hu).1
    have hlt : i * e.size + j < xs.length * e.size := by
      have : (i + 1) * e.size ≤ xs.length * e.size := Nat.mul_le_mul_right _ h
      rw [Nat.add_mul, Nat.one_mul] at this; omega
    refine hget _ u (by rw [Nat.add_mul]; omega) ?_
    rw [List.getElem?_append_left (by rw [hl]; exact hlt), List.getElem?_take, if_pos hlt]
    have := q2 j u hu
    simpa using this
  · obtain ⟨es, q1, q2, q3⟩ := h3 (i - xs.length) (by omega)
    refine ⟨es, q1, fun j u hu => ?_, by rw [List.getElem_append_right h]; exact g2 q3⟩
    have hj : j < e.size := by rw [← q1]; exact (List.getElem?_eq_some_iff.1 hu).1
    have hmul : i * e.size = xs.length * e.size + (i - xs.length) * e.size := by rw [← Nat.add_mul]; congr 1; omega
    have hlt : i * e.size + j < (xs.length + ys.length) * e.size := by
      have : (i + 1) * e.size ≤ (xs.length + ys.length) * e.size := Nat.mul_le_mul_right _ (by omega)
      rw [Nat.add_mul, Nat.one_mul] at this; omega
    refine hget _ u hlt ?_
    rw [List.getElem?_append_right (by rw [hl]; omega), hl, show i * e.size + j - xs.length * e.size = (i - xs.length) * e.size + j by omega]
    exact q2 j u hu

/-- The row behind another one's end: 'm' is turned, no word of it is left. -/
theorem rel_row {st : St} {ts : Array Value} (r : Rel base M w0 V st ts w) {m : Nat} {fr fr' : Bool} {e : Ty} {xs xs' : List e.den} (hm : st.ent m = .row fr e xs) {w' : World} {V' : Vl}
    (hk' : Kept base M w0 w') (hsz : w.heap.size ≤ w'.heap.size) (hblk : ∀ b, b < w.heap.size → (V.has m → b ≠ V.blk m) → w'.heap[b]? = w.heap[b]?)
    (hV : ∀ n, n ≠ m → V'.blk n = V.blk n ∧ (V'.has n ↔ V.has n)) (hz0 : V'.Z0 = V.Z0) (hz1 : V'.Z1 = V.Z1)
    (hok : ∀ hp', hp' m = .row fr' e xs' → (Ent.row fr' e xs').ok V' hp' w' m) (hown : V'.has m → (base ≤ V'.blk m ∨ M (V'.blk m)) ∧ V'.blk m < w'.heap.size ∧ (w.heap.size ≤ V'.blk m ∨ (V.has m ∧ V'.blk m = V.blk m)))
    (hmine : fr' = true → V'.has m → base ≤ V'.blk m) (hlent : (Ent.row fr' e xs').lentish → V'.has m → M.nm (V'.blk m) m) (hlids : V'.has m → ∀ i ∈ (Ent.row fr' e xs').lids, m = 0 → M i) :
    Rel base M w0 V' { (st.map (killO m)) with hp := lset (st.map (killO m)).hp m (.row fr' e xs') } ts w' := by
  have r1 := r.kill (kills_killO m)
  have mm := r1.mem
  have hl : (st.ent m).live = true := by rw [hm]; rfl
  have hlt : m < st.hp.length := ent_lt hl
  have hent : (St.mk (st.map (killO m)).ts (lset (st.map (killO m)).hp m (.row fr' e xs'))).ent = hpSet (hpMap (killO m) st.ent) m (.row fr' e xs') := by
    rw [ent_set (by show m < (lmap _ _).length; rw [lmap_eq, List.length_map]; exact hlt)]
    congr 1
    exact ent_map st _
  rw [ent_map] at mm
  have hm1 : hpMap (killO m) st.ent m = .row fr e xs := by show (st.ent m).map _ = _; rw [hm]; rfl
  have hZ : ∀ {f : Bool} {b : Nat}, V.Z f b → V'.Z f b := by
    intro f b h
    unfold Vl.Z at *
    rw [hz0, hz1]; exact h
  have hZ' : ∀ {f : Bool} {b : Nat}, V'.Z f b → V.Z f b := by
    intro f b h
    unfold Vl.Z at *
    rw [hz0, hz1] at h; exact h
  have x : VX V (without (hpMap (killO m) st.ent) m) w V' (hpSet (hpMap (killO m) st.ent) m (.row fr' e xs')) w' := by
    refine ⟨fun n hn => ?_, fun b h => by rw [hz0]; exact h, fun b h => by rw [hz1]; exact h, fun b h => ?_, fun n hn hh => ?_⟩
    · have hne : n ≠ m := fun e => by subst e; simp [without, Ent.live] at hn
      exact ⟨(hV n hne).1, (hV n hne).2, by simp only [hpSet, without, if_neg hne]⟩
    · exact hblk b (mm.z_lt h) (fun hh e => by subst e; exact (r.mem.own m hl hh).2.2 (Vl.Z_all h))
    · have hne : n ≠ m := fun e => by subst e; simp [without, Ent.live] at hn
      rw [without_ne hne] at hn
      refine hblk _ (mm.own n hn hh).2.1 (fun hhm e => hne (mm.dist n m hn (by rw [hm1]; rfl) hh hhm e))
  have nn : ∀ {c : C} {v : Value}, C.ok V (hpMap (killO m) st.ent) w c v → c ≠ .own m → (∀ h, c ≠ .pre m h) → (∀ e xs, c ≠ .brw m e xs) → (∀ i o, c ≠ .elt m i o) → c.names m = false := by
    intro c v h h1 h2 h3 h4
    cases c with
    | own n => simp only [C.names, beq_eq_false_iff_ne]; exact fun e => h1 (by rw [e])
    | pre n k => simp only [C.names, beq_eq_false_iff_ne]; exact fun e => h2 k (by rw [e])
    | brw n e' ys => simp only [C.names, beq_eq_false_iff_ne]; exact fun e => h3 e' ys (by rw [e])
    | elt n i o => simp only [C.names, beq_eq_false_iff_ne]; exact fun e => h4 i o (by rw [e])
    | box n o =>
      simp only [C.names, beq_eq_false_iff_ne]
      intro e; subst e
      obtain ⟨_, _, cs, h5⟩ := h
      rw [hm1] at h5; cases h5
    | fn f caps =>
      simp only [C.names, List.any_eq_false, beq_iff_eq]
      intro n hn e; subst e
      obtain ⟨_, cs, h5⟩ := h.2 n hn
      rw [hm1] at h5; cases h5
    | _ => rfl
  have hk : ∀ c, killO m c ≠ .own m ∧ (∀ h, killO m c ≠ .pre m h) ∧ (∀ e xs, killO m c ≠ .brw m e xs) ∧ (∀ i o, killO m c ≠ .elt m i o) := by
    intro c
    cases c <;> simp only [killO] <;> (try split) <;> simp_all
  have tn : Turns V st.ent w (killO m) V' (hpSet (hpMap (killO m) st.ent) m (.row fr' e xs')) w' := by
    intro c v h
    have h1 := C.ok_kill (kills_killO m) h
    obtain ⟨k1, k2, k3, k4⟩ := hk c
    exact C.ok_ext x (C.ok_without (nn h1 k1 k2 k3 k4) h1)
  have hcases : ∀ n, n ≠ m → (hpSet (hpMap (killO m) st.ent) m (.row fr' e xs') n).live = true → (st.ent n).live = true := by
    intro n hn h
    simp only [hpSet, if_neg hn] at h
    rw [← map_live (f := killO m)]; exact h
  refine ⟨r1.len, fun i s v hs hv => ?_, ?_⟩
  · rw [hent]
    have hs' : (lmap (S.map (killO m)) st.ts)[i]? = some s := hs
    rw [lmap_eq, List.getElem?_map] at hs'
    cases hx : st.ts[i]? with
    | none => rw [hx] at hs'; cases hs'
    | some y =>
      rw [hx] at hs'
      simp only [Option.map_some, Option.some.injEq] at hs'
      subst hs'
      exact tn.s (r.slots i y v hx hv)
  · rw [hent]
    refine ⟨fun n => ?_, fun n cs h => ?_, fun n hl' hh => ?_, fun n e2 xs2 h hh => ?_, fun n n' h1 h2 hh hh' he => ?_, fun b hb => by rw [hz0] at hb; exact mm.z0 b hb, fun b hb => ?_, hk', fun n hl' hh => ?_, fun b hb => ?_, fun n hh i hi => ?_⟩
    · by_cases hn : n = m
      · subst hn
        have hv : hpSet (hpMap (killO n) st.ent) n (.row fr' e xs') n = .row fr' e xs' := by simp only [hpSet, if_true]
        rw [hv]
        exact hok _ hv
      · have hv : hpSet (hpMap (killO m) st.ent) m (.row fr' e xs') n = (st.ent n).map (killO m) := by simp only [hpSet, if_neg hn]; rfl
        have h0 := r.mem.ents n
        have hvn := hV n hn
        rw [hv]
        cases hne : st.ent n with
        | dead => trivial
        | bx cs =>
          rw [hne] at h0
          obtain ⟨vals, el, h2, h3⟩ := h0
          have hhas := r.mem.box n cs hne
          refine ⟨vals, el, ?_, tn.all h3⟩
          rw [hvn.1, hblk _ (r.mem.own n (by rw [hne]; rfl) hhas).2.1 (fun hhm e => hn (r.mem.dist n m (by rw [hne]; rfl) hl hhas hhm e))]
          exact h2
        | row fr2 e2 xs2 =>
          rw [hne] at h0
          rcases h0 with ⟨h2, h2'⟩ | ⟨h2, vals, el, h3, h4, h5⟩
          · exact .inl ⟨fun h => h2 (hvn.2.1 h), h2'⟩
          · refine .inr ⟨hvn.2.2 h2, vals, el, ?_, h4, fun i hi => ?_⟩
            · rw [hvn.1, hblk _ (r.mem.own n (by rw [hne]; rfl) h2).2.1 (fun hhm e => hn (r.mem.dist n m (by rw [hne]; rfl) hl h2 hhm e))]
              exact h3
            · obtain ⟨es, q1, q2, q3⟩ := h5 i hi
              exact ⟨es, q1, q2, q3.mono (fun b hb => hZ hb) (fun b hb => x.agz b (Vl.Z_all hb))⟩
    · have hn : n ≠ m := fun e => by subst e; simp [hpSet] at h
      simp only [hpSet, if_neg hn] at h
      exact (hV n hn).2.2 (mm.box n cs h)
    · by_cases hn : n = m
      · subst hn
        obtain ⟨k1, k2, k3⟩ := hown hh
        refine ⟨k1, k2, fun hz => ?_⟩
        rcases k3 with k3 | ⟨k3, k4⟩
        · have := mm.z_lt (hZ' hz); omega
        · exact (r.mem.own n hl k3).2.2 (by rw [← k4]; exact hZ' hz)
      · have hl2 := hcases n hn hl'
        have hh2 := (hV n hn).2.1 hh
        obtain ⟨k1, k2, k3⟩ := r.mem.own n hl2 hh2
        rw [(hV n hn).1]
        exact ⟨k1, by omega, fun hz => k3 (hZ' hz)⟩
    · by_cases hn : n = m
      · subst hn
        have hv : hpSet (hpMap (killO n) st.ent) n (.row fr' e xs') n = .row fr' e xs' := by simp only [hpSet, if_true]
        rw [hv] at h
        injection h with h1 h2 h3
        exact hmine h1 hh
      · simp only [hpSet, if_neg hn] at h
        rw [(hV n hn).1]
        exact mm.mine n e2 xs2 h ((hV n hn).2.1 hh)
    · by_cases hn : n = m
      · by_cases hn' : n' = m
        · rw [hn, hn']
        · subst hn
          exfalso
          have hl2 := hcases n' hn' h2
          have hh2 := (hV n' hn').2.1 hh'
          rw [(hV n' hn').1] at he
          rcases (hown hh).2.2 with k3 | ⟨k3, k4⟩
          · have := (r.mem.own n' hl2 hh2).2.1; omega
          · exact hn' (r.mem.dist n' n hl2 hl hh2 k3 (by rw [← he, k4]))
      · by_cases hn' : n' = m
        · subst hn'
          exfalso
          have hl2 := hcases n hn h1
          have hh2 := (hV n hn).2.1 hh
          rw [(hV n hn).1] at he
          rcases (hown hh').2.2 with k3 | ⟨k3, k4⟩
          · have := (r.mem.own n hl2 hh2).2.1; omega
          · exact hn (r.mem.dist n n' hl2 hl hh2 k3 (by rw [he, k4]))
        · rw [(hV n hn).1, (hV n' hn').1] at he
          exact r.mem.dist n n' (hcases n hn h1) (hcases n' hn' h2) ((hV n hn).2.1 hh) ((hV n' hn').2.1 hh') he
    · rw [hz1] at hb; have := mm.z1 b hb; omega
    · by_cases hn : n = m
      · subst hn
        simp only [hpSet, if_true] at hl'
        exact hlent hl' hh
      · simp only [hpSet, if_neg hn] at hl'
        rw [(hV n hn).1]
        exact mm.lent n hl' ((hV n hn).2.1 hh)
    · obtain ⟨q1, q2⟩ := r.mem.lentb b hb
      have hn : 0 ≠ m := fun e => by subst e; rw [hm] at q1; cases q1
      refine ⟨?_, by rw [(hV 0 hn).1]; exact q2⟩
      simp only [hpSet, if_neg hn]
      show ((st.ent 0).map (killO m)).isBx = true
      rw [map_isBx]; exact q1
    · by_cases hn : n = m
      · subst hn
        simp only [hpSet, if_true] at hi
        exact hlids hh i hi
      · simp only [hpSet, if_neg hn] at hi
        exact mm.lids n ((hV n hn).2.1 hh) i hi

end
end Go.SX


/- The operations that write, all. No condition. -/
namespace Go.SX
open Go.RowKit
set_option linter.unusedVariables false
set_option linter.unusedSimpArgs false

section
variable {P : Program} {T : Tab} {base : Nat} {M : LM} {w0 : World} {V : Vl} {hp : Nat → Ent} {w : World} {a : Act} {next : Act → World → Prop} {Q : Exit → Act → World → Prop}

theorem wp_append {o : Oper} {t : TypeId} {s x : Operand} (ho : o.op = .call { callee := .builtin .append, args := #[s, x], argTypes := #[t, t] }) {v' : Value} {w' : World}
    (hr : (Builtin.append_ #[t, t] o.type #[a.eval s, a.eval x]).run P w = .ok v' w') (h : next (a.put o.dst v') w') : o.wp P a w next Q := by
  unfold Oper.wp execOp
  simp only [ho, resolve, invoke, builtin, Sem.run_bind, Sem.run_pure, Result.andThen_ok, List.map_toArray, List.map_cons, List.map_nil, hr]
  exact h

theorem kept_refl (w : World) : Kept w.heap.size noM w w := ⟨rfl, rfl, rfl, Nat.le_refl _, fun _ _ _ => rfl, fun _ _ _ _ h _ => h.elim⟩

theorem move_blk (V : Vl) (m g : Nat) : (V.move m g).blk m = g := by simp [Vl.move]
theorem move_has (V : Vl) (m g : Nat) : (V.move m g).has m := by simp [Vl.move]
theorem move_ne {V : Vl} {m g n : Nat} (h : n ≠ m) : (V.move m g).blk n = V.blk n ∧ ((V.move m g).has n ↔ V.has n) := by simp [Vl.move, h]
theorem move_Z {V : Vl} {m g : Nat} {f : Bool} {b : Nat} : (V.move m g).Z f b ↔ V.Z f b := Iff.rfl

theorem rowFr_flat {lk : Nat → Ent} {e : Ty} {c : C} {f : Bool} (h : rowFr lk e c = some f) (hf : e.flat = true) : f = true := by
  unfold rowFr at h
  split at h
  · injection h with h; subst h; simp [hf]
  · split at h
    · injection h with h; subst h; simp [hf]
    · cases h
  · split at h
    · injection h with h; subst h; simp [hf]
    · cases h
  · rw [if_pos hf] at h; injection h with h; exact h.symm
  · injection h with h; subst h; simp [hf]
  · injection h with h; exact h.symm
  · cases h

theorem lids_lent {e : Ent} {i : Nat} (h : i ∈ e.lids) : e.lentish := Classical.byContradiction fun hn => by rw [lids_nil hn] at h; cases h

theorem rowTy_size (lk : Nat → Ent) (e : Ty) (c : C) : (rowTy lk e c).size = e.size := by
  have one : ∀ e' : Ty, (if e'.unG = e then e' else e).size = e.size := fun e' => by
    split
    · rename_i h; rw [← unG_size e', h]
    · rfl
  unfold rowTy
  split
  · split
    · exact one _
    · rfl
  · split
    · exact one _
    · rfl
  · exact one _
  · rfl

theorem appTy_size (lk : Nat → Ent) (e : Ty) (s x : C) : (appTy lk e s x).size = e.size := by
  unfold appTy
  split <;> exact rowTy_size _ _ _

theorem append_row (hT : TabOk P T) {st : St} (r : Rel base M w0 V st a.tmps w) {o : Oper} {t te : TypeId} {es eb sz by' : Nat} {e e0 : Ty} (hse : e.size = e0.size) {z0 : List Value} {ty : Option Ty} {teq : Option (List Bool)} {s x : Operand}
    (ho : o.op = .call { callee := .builtin .append, args := #[s, x], argTypes := #[t, t] }) (ht : T t = some { k := .sl te es eb e0, size := sz, bytes := by', zero := z0, ty := ty, eq := teq }) (heb : eb ≠ 0)
    {m n : Nat} {fr f : Bool} {xs ys : List e.den} (hm : st.ent m = .row fr e xs) (hn : n ≤ xs.length) (hs : hasRow V w m e n (a.eval s)) {c : C} (hc : C.ok V st.ent w c (a.eval x)) (hys : rdSl st.ent e c = some ys) (hf : rowFr st.ent e c = some f)
    (hob : (n + ys.length) * eb ≤ 140737488355328) (hlf : (e.flat || e.hasG) = true → (fr && f) = true)
    (hnx : ∀ v w' V', Rel base M w0 V' { (st.map (killO m)) with hp := lset (st.map (killO m)).hp m (.row (fr && f) e (xs.take n ++ ys)) } a.tmps w' →
      S.ok V' (St.mk (st.map (killO m)).ts (lset (st.map (killO m)).hp m (.row (fr && f) e (xs.take n ++ ys)))).ent w' (.c (.own m)) v → next (a.put o.dst v) w') : o.wp P a w next Q := by
  obtain ⟨g1, g2, i, z, g3, g4, g5, g6, g7⟩ := slice_ok (ti_ok (hT t _ ht)).2.2
  obtain ⟨aa, cap, hx, hlen, hel⟩ := sl_elems r.mem.ents hys hf hc
  obtain ⟨news, n1, n2, n3, n4⟩ := flat_cells hel
  have hzs : z.cells.size = i.size := by rw [g4, g7]; simpa using zeros_len e0
  rw [← hse] at g4
  have hrow := r.mem.ents m
  rw [hm] at hrow
  have hl : (st.ent m).live = true := by rw [hm]; rfl
  have hlt : m < st.hp.length := ent_lt hl
  have hent : (St.mk (st.map (killO m)).ts (lset (st.map (killO m)).hp m (.row (fr && f) e (xs.take n ++ ys)))).ent m = .row (fr && f) e (xs.take n ++ ys) := by
    rw [ent_set (by show m < (lmap _ _).length; rw [lmap_eq, List.length_map]; exact hlt)]
    simp only [hpSet, if_true]
  have hnlen : (xs.take n).length = n := by rw [List.length_take]; omega
  have hnew : n + ys.length ≤ 140737488355328 := by
    have h1 : 1 ≤ eb := Nat.pos_of_ne_zero heb
    have h2 : (n + ys.length) * 1 ≤ (n + ys.length) * eb := Nat.mul_le_mul_left _ h1
    omega
  -- the row that was
  obtain ⟨vals, g, cap0, el, hv, hva⟩ : ∃ (vals : Array Value) (g cap0 : Nat) (el : TypeId), ((a.eval s = .slice none 0 0 ∧ n = 0 ∧ vals = #[]) ∨ (a.eval s = .slice (some ⟨g, 0, none⟩) n cap0 ∧ w.heap[g]? = some (.cells vals el (0, 0)) ∧ vals.size = cap0 * i.size ∧ n ≤ cap0)) ∧
      ((¬ V.has m ∧ xs = []) ∨ (V.has m ∧ g = V.blk m ∧ w.heap[V.blk m]? = some (.cells vals el (0, 0)) ∧ RowAt (V.Z fr) w e vals xs ∧ xs.length * e.size ≤ vals.size ∨ False)) := by
    rcases hrow with ⟨k1, k2⟩ | ⟨k1, vals, el, k2, k3, k4⟩
    · rcases hs with ⟨h1, h2, h3⟩ | ⟨h1, _⟩
      · exact ⟨#[], 0, 0, 0, .inl ⟨h2, h3, rfl⟩, .inl ⟨k1, k2⟩⟩
      · exact absurd h1 k1
    · rcases hs with ⟨h1, _⟩ | ⟨h1, cap', vals', el', h2, h3, h4, h5⟩
      · exact absurd k1 h1
      · rw [k2] at h3
        injection h3 with h3
        injection h3 with q1 q2 q3
        subst q1
        refine ⟨vals, V.blk m, cap', el, .inr ⟨h2, k2, by rw [g4]; exact h4, h5⟩, .inr (.inl ⟨k1, rfl, k2, k4, ?_⟩)⟩
        rcases Nat.eq_zero_or_pos xs.length with h0 | h0
        · rw [h0]; simp
        · obtain ⟨es', p1, p2, _⟩ := k4 (xs.length - 1) (by omega)
          have hp := e.size_pos
          have := p2 (e.size - 1) (es'[e.size - 1]'(by omega)) (List.getElem?_eq_getElem _)
          have h6 := (Array.getElem?_eq_some_iff.1 this).1
          have h7 : xs.length * e.size = (xs.length - 1) * e.size + e.size := by
            conv => lhs; rw [show xs.length = xs.length - 1 + 1 by omega, Nat.add_mul, Nat.one_mul]
          omega
  obtain ⟨v', w', hrun, happ, hpos, hzero⟩ := run_append_any (ty := o.type) (z := z) g1 g3 g6 hzs (by rw [g4]; exact e.size_pos) (h := n) (cap := cap0) (g := g) (vals := vals) (el := el) hv (aa := aa) (m := ys.length) (c := cap) (news := news) (by rw [g4]; exact n1) n2 n3 (by unfold lenMax at hlen; omega) (by rw [g5]; exact hob)
  rw [← hx] at hrun
  refine wp_append ho hrun ?_
  by_cases hys0 : ys.length = 0
  · obtain ⟨rfl, rfl⟩ := hzero hys0
    have hys' : ys = [] := List.length_eq_zero_iff.1 hys0
    have happ0 : xs.take n ++ ys = xs.take n := by rw [hys', List.append_nil]
    refine hnx _ _ V ?_ ⟨fr && f, e, _, hent, by rw [happ0, hnlen]; exact hs⟩
    refine rel_row r hm r.mem.kept (Nat.le_refl _) (fun _ _ _ => rfl) (fun _ _ => ⟨rfl, Iff.rfl⟩) rfl rfl (fun hp' _ => ?_) (fun hh => ?_) (fun h1 hh => ?_) (fun hlt hh => ?_) (fun hh q hq => ?_)
    · rw [happ0]
      rcases hrow with ⟨k1, k2⟩ | ⟨k1, vals2, el2, k2, k3, k4⟩
      · exact .inl ⟨k1, by rw [k2]; simp⟩
      · refine .inr ⟨k1, vals2, el2, k2, by rw [hnlen]; omega, fun j hj => ?_⟩
        rw [hnlen] at hj
        obtain ⟨es', p1, p2, p3⟩ := k4 j (by omega)
        refine ⟨es', p1, p2, ?_⟩
        rw [List.getElem_take]
        exact p3.mono (fun b hb => castFlag (fun h => by simp at h; exact h.1) hb) (fun _ _ => rfl)
    · obtain ⟨q1, q2, _⟩ := r.mem.own m hl hh
      exact ⟨q1, q2, .inr ⟨hh, rfl⟩⟩
    · exact r.mem.mine m e xs (by simp at h1; rw [hm, h1.1]) hh
    · exfalso
      have hfl := lentish_flat hlt
      rw [hlf hfl] at hlt
      exact hlt
    · exfalso
      have hlt := lids_lent hq
      have hfl := lentish_flat hlt
      rw [hlf hfl] at hlt
      exact hlt
  · obtain ⟨g', cap', hv'⟩ := hpos (by omega)
    subst hv'
    cases happ with
    | same h1 h2 =>
      exfalso
      rcases hv with ⟨h3, _, _⟩ | ⟨h3, _⟩
      · rw [h3] at h1; cases h1
      · rw [h3] at h1; injection h1 with _ h4 _; omega
    | row g2' cap2 vals2 el2 h1 h2 h3 h4 h5 h6 h7 h8 =>
      injection h1 with h1a h1b h1c
      injection h1a with h1a
      injection h1a with h1a
      subst h1a; subst h1c
      -- in place or moved
      have hplace : (V.has m ∧ g' = V.blk m ∧ w'.heap.size = w.heap.size) ∨ (g' = w.heap.size ∧ w'.heap.size = w.heap.size + 1) := by
        rcases h6 with ⟨l0, e1, e2, e3⟩ | h6
        · left
          rcases hv with ⟨h9, _, _⟩ | ⟨h9, _⟩
          · rw [h9] at e1; cases e1
          · rw [h9] at e1
            injection e1 with e1 _ _
            injection e1 with e1
            injection e1 with e1
            rcases hva with ⟨q1, q2⟩ | (⟨q1, q2, _⟩ | hF)
            · rcases hs with ⟨_, q3, _⟩ | ⟨q3, _⟩
              · rw [h9] at q3; cases q3
              · exact absurd q3 q1
            · exact ⟨q1, by rw [← e1, q2], e3⟩
            · exact hF.elim
        · exact .inr h6
      have hglt : g' < w'.heap.size := (Array.getElem?_eq_some_iff.1 h2).1
      have hsz : w.heap.size ≤ w'.heap.size := by rcases hplace with ⟨_, _, h⟩ | ⟨_, h⟩ <;> omega
      have hblk : ∀ b, b < w.heap.size → (V.has m → b ≠ V.blk m) → w'.heap[b]? = w.heap[b]? := by
        intro b hb hne
        refine h7 b (fun e => ?_) hb
        rcases hplace with ⟨q1, q2, _⟩ | ⟨q1, _⟩
        · exact hne q1 (by rw [e, q2])
        · omega
      have hownb : base ≤ g' ∨ M g' := by
        rcases hplace with ⟨q1, q2, _⟩ | ⟨q1, _⟩
        · rw [q2]; exact (r.mem.own m hl q1).1
        · left; have := r.mem.kept.size; omega
      have hkept : Kept base M w0 w' := by
        refine ⟨h8.1.trans r.mem.kept.os, h8.2.1.trans r.mem.kept.tape, h8.2.2.trans r.mem.kept.output, Nat.le_trans r.mem.kept.size hsz, fun b hb hM => ?_, fun b vals0 el0 hb hM hv0 => ?_⟩
        · rw [h7 b (fun e => by subst e; rcases hownb with h | h; omega; exact hM h) (by have := r.mem.kept.size; omega)]
          exact r.mem.kept.block b hb hM
        · by_cases hbg : b = g'
          · subst hbg
            obtain ⟨vals1, el1, j1, j2⟩ := r.mem.kept.shape b vals0 el0 hb hM hv0
            rcases h6 with ⟨l0, e1, _, _⟩ | ⟨h6, _⟩
            · rcases hv with ⟨h9, _, _⟩ | ⟨h9, k9, k10, _⟩
              · rw [h9] at e1; cases e1
              · rw [h9] at e1
                injection e1 with e1 _ e2
                injection e1 with e1
                injection e1 with e1
                subst e1; subst e2
                rw [k9] at j1
                injection j1 with j1
                injection j1 with j1 _ _
                subst j1
                exact ⟨vals2, el2, h2, by rw [h3, ← k10]; exact j2⟩
            · exfalso; have := r.mem.kept.size; omega
          · obtain ⟨vals1, el1, j1, j2⟩ := r.mem.kept.shape b vals0 el0 hb hM hv0
            exact ⟨vals1, el1, by rw [h7 b hbg (by have := r.mem.kept.size; omega)]; exact j1, j2⟩
      have hag : ∀ {f : Bool} {b : Nat}, V.Z f b → w'.heap[b]? = w.heap[b]? := by
        intro f b hb
        exact hblk b (r.mem.z_lt hb) (fun hh e => by subst e; exact (r.mem.own m hl hh).2.2 (Vl.Z_all hb))
      have hrowAt : RowAt ((V.move m g').Z (fr && f)) w' e vals2 (xs.take n ++ ys) := by
        have base' : RowAt (V.Z fr) w e vals (xs.take n) ∧ (xs.take n).length * e.size ≤ vals.size := by
          rcases hva with ⟨q1, q2⟩ | (⟨q1, q2, q3, q4, q5⟩ | hF)
          · refine ⟨fun j hj => ?_, ?_⟩
            · rw [q2] at hj; simp at hj
            · rw [q2]; simp
          · refine ⟨fun j hj => ?_, ?_⟩
            · rw [hnlen] at hj
              obtain ⟨es', p1, p2, p3⟩ := q4 j (by omega)
              exact ⟨es', p1, p2, by rw [List.getElem_take]; exact p3⟩
            · rw [hnlen]
              have : n * e.size ≤ xs.length * e.size := Nat.mul_le_mul_right _ hn
              omega
          · exact hF.elim
        refine rowAt_append base'.1 n1 n4 (by rw [hnlen, ← g4]; exact h5) base'.2 (fun hrd => ?_) (fun hrd => ?_)
        · exact hrd.mono (fun b hb => castFlag (fun h => by simp at h; exact h.1) hb) (fun b hb => hag hb)
        · exact hrd.mono (fun b hb => castFlag (fun h => by simp at h; exact h.2) hb) (fun b hb => hag hb)
      have hal : (xs.take n ++ ys).length = n + ys.length := by rw [List.length_append, hnlen]
      refine hnx _ _ (V.move m g') ?_ ⟨fr && f, e, _, hent, .inr ⟨move_has V m g', cap', vals2, el2, by rw [move_blk, hal], by rw [move_blk]; exact h2, by rw [← g4]; exact h3, by rw [hal]; exact h4⟩⟩
      refine rel_row r hm hkept hsz hblk (fun n hn => move_ne hn) rfl rfl (fun hp' _ => ?_) (fun _ => ?_) (fun h9 _ => ?_) (fun hlt _ => ?_) (fun _ q hq => ?_)
      · exact .inr ⟨move_has V m g', vals2, el2, by rw [move_blk]; exact h2, by rw [hal]; unfold lenMax; omega, hrowAt⟩
      · rw [move_blk]
        refine ⟨hownb, hglt, ?_⟩
        rcases hplace with ⟨q1, q2, _⟩ | ⟨q1, _⟩
        · exact .inr ⟨q1, q2⟩
        · exact .inl (by omega)
      · rw [move_blk]
        rcases hplace with ⟨q1, q2, _⟩ | ⟨q1, _⟩
        · rw [q2]; exact r.mem.mine m e xs (by simp at h9; rw [hm, h9.1]) q1
        · have := r.mem.kept.size; omega
      · exfalso
        have hfl := lentish_flat hlt
        rw [hlf hfl] at hlt
        exact hlt
      · exfalso
        have hlt := lids_lent hq
        have hfl := lentish_flat hlt
        rw [hlf hfl] at hlt
        exact hlt

/-- One new name: a row in a new block, or a nil one. -/
theorem good_one (m : Mem base M w0 V hp w) {w' : World} (k : Kept w.heap.size noM w w') {nx : Nat} (hd : hp nx = .dead) (b : Option Nat) (hb : ∀ g, b = some g → w.heap.size ≤ g ∧ g < w'.heap.size) (e : Ent) (hbx : ∀ cs, e = .bx cs → b.isSome = true) (res : S) (v : Value) (hnl : ¬ e.lentish)
    (he : ∀ V' hp', VX V hp w V' hp' w' → (V'.has nx ↔ b.isSome = true) → (∀ g, b = some g → V'.blk nx = g) → hp' nx = e → e.ok V' hp' w' nx ∧ S.ok V' hp' w' res v) :
    ∃ V', Good base M w0 V hp w nx res [e] none v w' V' := by
  have hd' : ∀ j, j < [e].length → hp (nx + j) = .dead := fun j hj => by
    have : j = 0 := by simp at hj; omega
    subst this; exact hd
  have x := VX.of_kept m k (nx := nx) (es := [e]) (bs := [b]) (Z := fun _ => False) rfl hd'
  have h1 : (V.ext nx [b] (fun _ => False)).has nx ↔ b.isSome = true := Vl.ext_has_new (V := V) (nx := nx) (bs := [b]) (Z := fun _ => False) (j := 0) (b := b) rfl
  have h2 : ∀ g, b = some g → (V.ext nx [b] (fun _ => False)).blk nx = g := fun g hg => Vl.ext_blk_new (nx := nx) (j := 0) (by simp [hg])
  have h3 : hpNew hp nx [e] nx = e := hpNew_new (nx := nx) (j := 0) rfl
  obtain ⟨g1, g2⟩ := he _ _ x h1 h2 h3
  refine ⟨_, ⟨m.grow k rfl hd' (by cases b <;> simp) (fun g hg => ?_) (fun b hb => hb.elim) (fun j cs hj => ?_) (fun j e' hj => ?_) (fun e' he' => by rw [List.mem_singleton.1 he']; exact hnl), x, g2, fun p h => by cases h⟩⟩
  · simp only [List.mem_singleton] at hg
    obtain ⟨k1, k2⟩ := hb g hg.symm
    exact ⟨k1, k2, fun h => h⟩
  · have : j = 0 := by have := (List.getElem?_eq_some_iff.1 hj).1; simp at this; omega
    subst this
    simp only [List.getElem?_cons_zero, Option.some.injEq] at hj
    obtain ⟨g, hg⟩ := Option.isSome_iff_exists.1 (hbx cs hj)
    exact ⟨g, by simp [hg]⟩
  · have : j = 0 := by have := (List.getElem?_eq_some_iff.1 hj).1; simp at this; omega
    subst this
    simp only [List.getElem?_cons_zero, Option.some.injEq] at hj; subst hj
    exact g1

theorem append_nil (hT : TabOk P T) {st : St} (r : Rel base M w0 V st a.tmps w) {o : Oper} {t te : TypeId} {es eb sz by' : Nat} {e e0 : Ty} (hse : e.size = e0.size) {z0 : List Value} {ty : Option Ty} {teq : Option (List Bool)} {s x : Operand}
    (ho : o.op = .call { callee := .builtin .append, args := #[s, x], argTypes := #[t, t] }) (ht : T t = some { k := .sl te es eb e0, size := sz, bytes := by', zero := z0, ty := ty, eq := teq }) (heb : eb ≠ 0)
    {f : Bool} {ys : List e.den} (hs : a.eval s = .slice none 0 0) {c : C} (hc : C.ok V st.ent w c (a.eval x)) (hys : rdSl st.ent e c = some ys) (hf : rowFr st.ent e c = some f)
    (hob : ys.length * eb ≤ 140737488355328) (hgf : e.hasG = true → f = true)
    (hnx : ∀ v w' V', Rel base M w0 V' (st.alloc [.row f e ys]) a.tmps w' → S.ok V' (st.alloc [.row f e ys]).ent w' (.c (.own (llen st.hp))) v → next (a.put o.dst v) w') : o.wp P a w next Q := by
  obtain ⟨g1, g2, i, z, g3, g4, g5, g6, g7⟩ := slice_ok (ti_ok (hT t _ ht)).2.2
  obtain ⟨aa, cap, hx, hlen, hel⟩ := sl_elems r.mem.ents hys hf hc
  obtain ⟨news, n1, n2, n3, n4⟩ := flat_cells hel
  have hzs : z.cells.size = i.size := by rw [g4, g7]; simpa using zeros_len e0
  rw [← hse] at g4
  have hlf : (e.flat || e.hasG) = true → f = true := fun h => by
    cases hfe : e.flat with
    | true => exact rowFr_flat hf hfe
    | false => rw [hfe, Bool.false_or] at h; exact hgf h
  obtain ⟨v', w', hrun, happ, hpos, hzero⟩ := run_append_any (ty := o.type) (z := z) g1 g3 g6 hzs (by rw [g4]; exact e.size_pos) (h := 0) (cap := 0) (g := 0) (vals := #[]) (el := 0) (.inl ⟨hs, rfl, rfl⟩) (aa := aa) (m := ys.length) (c := cap) (news := news) (by rw [g4]; exact n1) n2 n3 (by unfold lenMax at hlen; omega) (by rw [g5, Nat.zero_add]; exact hob)
  rw [← hx] at hrun
  refine wp_append ho hrun ?_
  have hd : st.ent (llen st.hp) = .dead := ent_dead st 0
  by_cases hys0 : ys.length = 0
  · obtain ⟨rfl, rfl⟩ := hzero hys0
    have hys' : ys = [] := List.length_eq_zero_iff.1 hys0
    obtain ⟨V', hg⟩ := good_one r.mem (kept_refl w') hd none (fun g hg => by cases hg) (.row f e ys) (fun cs h => by cases h) (.c (.own (llen st.hp))) (a.eval s) (fun hlt => by rw [hlf (lentish_flat hlt)] at hlt; exact hlt)
      (fun V' hp' _ k1 _ k3 => by
        have hnh : ¬ V'.has (llen st.hp) := fun h => by have := k1.1 h; cases this
        exact ⟨.inl ⟨hnh, hys'⟩, f, e, ys, k3, .inl ⟨hnh, hs, hys0⟩⟩)
    obtain ⟨q1, q2⟩ := rel_good r hg
    exact hnx _ _ V' q1 q2
  · obtain ⟨g', cap', hv'⟩ := hpos (by omega)
    subst hv'
    cases happ with
    | same h1 h2 => rw [hs] at h1; cases h1
    | row g2' cap2 vals2 el2 h1 h2 h3 h4 h5 h6 h7 h8 =>
      injection h1 with h1a h1b h1c
      injection h1a with h1a
      injection h1a with h1a
      subst h1a; subst h1c
      have hplace : g' = w.heap.size ∧ w'.heap.size = w.heap.size + 1 := by
        rcases h6 with ⟨l0, e1, _, _⟩ | h6
        · rw [hs] at e1; cases e1
        · exact h6
      have hk : Kept w.heap.size noM w w' := ⟨h8.1, h8.2.1, h8.2.2, by omega, fun b hb _ => h7 b (by omega) hb, fun _ _ _ _ h _ => h.elim⟩
      have hnew : ys.length ≤ 140737488355328 := by
        have h1 : 1 ≤ eb := Nat.pos_of_ne_zero heb
        have h2 : ys.length * 1 ≤ ys.length * eb := Nat.mul_le_mul_left _ h1
        omega
      obtain ⟨V', hg⟩ := good_one r.mem hk hd (some g') (fun g hg => by injection hg with hg; subst hg; omega) (.row f e ys) (fun cs h => by cases h) (.c (.own (llen st.hp))) (.slice (some ⟨g', 0, none⟩) (0 + ys.length) cap') (fun hlt => by rw [hlf (lentish_flat hlt)] at hlt; exact hlt)
        (fun V' hp' x k1 k2 k3 => by
          have hh : V'.has (llen st.hp) := k1.2 rfl
          have hb := k2 g' rfl
          refine ⟨.inr ⟨hh, vals2, el2, by rw [hb]; exact h2, by unfold lenMax; omega, ?_⟩, f, e, ys, k3, .inr ⟨hh, cap', vals2, el2, by rw [hb, Nat.zero_add], by rw [hb]; exact h2, by rw [← g4]; exact h3, by rw [Nat.zero_add] at h4; exact h4⟩⟩
          have := rowAt_append (Z := V.Z f) (Z' := V.Z f) (Z2 := V'.Z f) (w := w) (w' := w') (e := e) (vals := #[]) (vals' := vals2) (xs := []) (ys := ys) (news := news) (fun j hj => by simp at hj) n1 n4 (by simpa [g4] using h5) (by simp) (fun hrd => x.rd hrd) (fun hrd => x.rd hrd)
          rw [List.nil_append] at this
          exact this)
      obtain ⟨q1, q2⟩ := rel_good r hg
      exact hnx _ _ V' q1 q2

theorem eop_ok (hT : TabOk P T) {st : St} (r : Rel base M w0 V st a.tmps w) {o : Oper} {er : ER} (h : eop T st o.op = some er) (hob : ∀ p, er.ob = some p → p)
    (hnx : ∀ v w' V', Rel base M w0 V' er.st a.tmps w' → S.ok V' er.st.ent w' er.res v → next (a.put o.dst v) w') : o.wp P a w next Q := by
  unfold eop at h
  split at h
  · rename_i t p x ho
    cases he : estore T st t p x with
    | some r0 =>
      rw [he] at h
      injection h with h; subst h
      exact (estore_ok hT r ho he).2 (fun w' V' h1 h2 => hnx _ w' V' h1 h2)
    | none =>
      rw [he] at h
      exact eastore_ok hT r ho h hob (fun w' V' h1 h2 => hnx _ w' V' h1 h2)
  · rename_i t n parts ho
    unfold ebuildSlice at h
    simp only at h
    generalize hns : ownsParts st parts.toList = ns at h
    obtain ⟨V1, r1⟩ := r.freezes ns
    generalize hst1 : st.freezes ns = st1 at *
    rw [lmap_eq] at h
    cases hq : qbuildSlice T st1.ent (llen st1.hp) t n (parts.toList.map fun p => (p.1, st1.eval p.2)) with
    | none => rw [hq] at h; cases h
    | some qr =>
      rw [hq] at h
      injection h with h; subst h
      have hpt := partsOk_map (V := V1) (hp := st1.ent) (w := w) (f := st1.eval) (g := a.eval) r1.eval parts.toList
      obtain ⟨v, w', V', h1, h2⟩ := qbuildSlice_run (qs := parts.map fun (i, x) => (i, a.eval x)) hT r1.mem (ent_dead st1 0) hq (by simpa using hpt)
      obtain ⟨q1, q2⟩ := rel_good r1 h2
      refine wp_value (v := v) (w' := w') ?_ (hnx v w' V' q1 q2)
      simp only [ho, execOp, Sem.run_bind, h1, Result.andThen_ok, Sem.run_pure]
  · rename_i c0 ho
    split at h
    case isFalse => cases h
    case isTrue hb =>
    unfold eappendL at h
    split at h
    case h_2 => cases h
    case h_1 s x t t' hargs hats =>
    split at h
    · rename_i htt
      subst htt
      replace ho : o.op = .call { callee := .builtin .append, args := #[s, x], argTypes := #[t, t] } := by
        rw [ho]
        rcases c0 with ⟨cl, ⟨as⟩, ⟨ats⟩⟩
        simp only at hb hargs hats
        subst hargs; subst hats
        unfold isAppend at hb
        split at hb
        · rfl
        · cases hb
      unfold eappend at h
      split at h
      · rename_i te es eb e0 sz by' z0 ty teq sc xc ht hs hx
        have hsz := appTy_size st.ent e0 sc xc
        generalize appTy st.ent e0 sc xc = e at h hsz
        unfold eappendAt at h
        split at h
        · cases h
        · rename_i heb
          have hsv := r.eval s
          rw [hs] at hsv
          have hxv := r.eval x
          rw [hx] at hxv
          split at h
          · rename_i ys f hys hf
            split at h
            · rename_i m
              split at h
              · rename_i fr e' xs hm
                split at h
                · rename_i he
                  subst he
                  split at h
                  · cases h
                  rename_i hlf0
                  have hlf : (e'.flat || e'.hasG) = true → (fr && f) = true := fun h => by
                    cases hfe : e'.flat with
                    | true =>
                      rw [rowFr_flat hf hfe, Bool.and_true]
                      rw [hfe] at hlf0
                      cases fr <;> simp_all
                    | false =>
                      rw [hfe, Bool.false_or] at h
                      rw [hfe, h] at hlf0
                      simpa using hlf0
                  split at h
                  · cases h
                  · injection h with h; subst h
                    obtain ⟨fr2, e2, xs2, q1, q2⟩ := hsv
                    rw [hm] at q1
                    injection q1 with q3 q4 q5
                    subst q3; subst q4; cases q5
                    refine append_row hT r hsz ho ht heb hm (Nat.le_refl _) q2 hxv hys hf (hob _ rfl) hlf (fun v w' V' h1 h2 => hnx v w' V' ?_ ?_)
                    · rw [List.take_length] at h1; exact h1
                    · rw [List.take_length] at h2; exact h2
                · cases h
              · cases h
            · rename_i m n
              split at h
              · rename_i fr e' xs hm
                split at h
                · rename_i he
                  subst he
                  split at h
                  · cases h
                  rename_i hlf0
                  have hlf : (e'.flat || e'.hasG) = true → (fr && f) = true := fun h => by
                    cases hfe : e'.flat with
                    | true =>
                      rw [rowFr_flat hf hfe, Bool.and_true]
                      rw [hfe] at hlf0
                      cases fr <;> simp_all
                    | false =>
                      rw [hfe, Bool.false_or] at h
                      rw [hfe, h] at hlf0
                      simpa using hlf0
                  split at h
                  · cases h
                  · injection h with h; subst h
                    obtain ⟨fr2, e2, xs2, q1, q6, q2⟩ := hsv
                    rw [hm] at q1
                    injection q1 with q3 q4 q5
                    subst q3; subst q4; cases q5
                    exact append_row hT r hsz ho ht heb hm q6 q2 hxv hys hf (hob _ rfl) hlf (fun v w' V' h1 h2 => hnx v w' V' h1 h2)
                · cases h
              · cases h
            · split at h
              · cases h
              rename_i hgf0
              injection h with h; subst h
              exact append_nil hT r hsz ho ht heb hsv.1 hxv hys hf (hob _ rfl) (fun h => by rw [h] at hgf0; simpa using hgf0) (fun v w' V' h1 h2 => hnx v w' V' h1 h2)
            · cases h
          · cases h
      · cases h
    · cases h
  · cases h
end
end Go.SX


/- Operations in the order of the text. No condition. -/
namespace Go.SX
open Go.RowKit
set_option linter.unusedVariables false
set_option linter.unusedSimpArgs false

/-- A call that writes to what its caller holds. -/
def RuleOk (P : Program) (f : FuncId) (r : Rule) : Prop :=
  ∀ (base : Nat) (M : LM) (w0 : World) (V : Vl) (st : St) (ts : Array Value) (w : World) (ss : List S) (vs : List Value) (K : S → St → Prop),
    Rel base M w0 V st ts w → ss.length = vs.length → (∀ (i : Nat) s v, ss[i]? = some s → vs[i]? = some v → S.ok V st.ent w s v) → r ss st K →
    Calls P f vs.toArray w fun e w' => ∃ v, e = .returned v ∧ ∃ V' s st', K s st' ∧ Rel base M w0 V' st' ts w' ∧ S.ok V' st'.ent w' s v

def RulesOk (P : Program) (R : FuncId → Option Rule) : Prop := ∀ f r, R f = some r → f ≠ tellId → RuleOk P f r ∧ CallOk P f

/-- A frame and a world are as the symbolic state says; nothing is deferred. -/
def Sat (base : Nat) (M : LM) (w0 : World) (st : St) (a : Act) (w : World) : Prop := a.defers = [] ∧ ∃ V, Rel base M w0 V st a.tmps w

section
variable {P : Program} {T : Tab} {Γ : FuncId → Option PC} {R : FuncId → Option Rule} {base : Nat} {M : LM} {w0 : World} {V : Vl} {w : World} {a : Act} {next : Act → World → Prop} {Q : Exit → Act → World → Prop}

theorem put_defers (a : Act) (d : Option Nat) (v : Value) : (a.put d v).defers = a.defers := by cases d <;> rfl

theorem andO_elim {p : Option Prop} {q : Prop} (h : andO p q) : (∀ x, p = some x → x) ∧ q := by
  cases p with
  | none => exact ⟨fun _ h => (nomatch h), h⟩
  | some p => exact ⟨fun x hx => by injection hx with hx; subst hx; exact (show p ∧ q from h).1, (show p ∧ q from h).2⟩

theorem impO_elim {p : Option Prop} {q : Prop} (h : impO p q) (hp : ∀ x, p = some x → x) : q := by
  cases p with
  | none => exact h
  | some p => exact h (hp p rfl)

theorem callOf_ok {st : St} {o : Op} {f : FuncId} {args : List S} (h : callOf st o = some (f, args)) : ∃ c x, o = .call c ∧ c.callee = .value x ∧ st.eval x = .c (.fn f []) ∧ args = c.args.toList.map st.eval := by
  unfold callOf at h
  split at h
  · rename_i c
    split at h
    · rename_i x hx
      split at h
      · rename_i g hg
        injection h with h
        injection h with h1 h2
        subst h1; subst h2
        exact ⟨c, x, rfl, hx, hg, lmap_eq _ _⟩
      · cases h
    · cases h
  · cases h

/-! ### Rows that are laid into others -/

theorem toP_oand' {p q : Option Prop} (h1 : toP p) (h2 : toP q) : toP (oand p q) := by
  cases p with
  | none => exact h2
  | some p =>
    cases q with
    | none => exact h1
    | some q => exact ⟨h1, h2⟩

theorem idsL_in {Z : Nat → Prop} {e : Ty} {xs : List e.den} {w : World} (h : ∀ i (hi : i < xs.length), ∃ es, RdC Z w e es xs[i]) : ∀ i ∈ idsL e xs, Z i := by
  intro i hi
  unfold idsL at hi
  rw [List.mem_flatMap] at hi
  obtain ⟨x, hx, hix⟩ := hi
  obtain ⟨j, hj, rfl⟩ := List.getElem_of_mem hx
  obtain ⟨es, h1⟩ := h j hj
  exact RdC.ids_in e h1 i hix

theorem C.nin_ok {hp : Nat → Ent} {c : C} {v : Value} {b : Nat} (h : C.ok V hp w c v) (hb : ¬ V.Z false b) : toP (c.nin b) := by
  unfold C.nin
  split
  · rename_i fr wh e b' xs
    intro hi
    have h' : RdC (V.Z fr) w (.gs wh e) [v] (b', xs) := h
    exact hb (Vl.Z_all (RdC.ids_in _ h' _ hi))
  · rename_i fr e xs
    split
    · intro hi
      have h' : RdC (V.Z fr) w (.sl e) [v] xs := h
      obtain ⟨a, cap, _, _, _, h4⟩ := h'
      exact hb (Vl.Z_all (idsL_in (Z := V.Z fr) (w := w) (fun i hi => by obtain ⟨ad, _, _, _, es, _, _, h6⟩ := h4 i hi; exact ⟨es, h6⟩) _ hi))
    · trivial
  · rename_i fr t d off
    split
    · intro hi
      obtain ⟨b2, o, _, _, es, _, _, h5⟩ := h
      exact hb (Vl.Z_all (RdC.ids_in t h5 _ hi))
    · trivial
  · trivial

theorem csNin_ok {hp : Nat → Ent} {b : Nat} (hb : ¬ V.Z false b) : ∀ {cs : List C} {vs : List Value}, okAll V hp w cs vs → toP (csNin b cs)
  | [], _, _ => trivial
  | c :: r, vs, h => by
    obtain ⟨v, vs', rfl, h1, h2⟩ := okAll_cons h
    exact toP_oand' (C.nin_ok h1 hb) (csNin_ok hb h2)

theorem Ent.nin_ok {hp : Nat → Ent} {e : Ent} {n b : Nat} (h : e.ok V hp w n) (hb : ¬ V.Z false b) : toP (e.nin b) := by
  cases e with
  | dead => trivial
  | bx cs => obtain ⟨vals, el, _, h2⟩ := h; exact csNin_ok hb h2
  | row fr e xs =>
    unfold Ent.nin
    simp only
    split
    · intro hi
      rcases h with ⟨_, h2⟩ | ⟨_, vals, el, _, _, h4⟩
      · rw [h2] at hi; cases hi
      · exact hb (Vl.Z_all (idsL_in (Z := V.Z fr) (w := w) (fun i hi => by obtain ⟨es, _, _, h6⟩ := h4 i hi; exact ⟨es, h6⟩) _ hi))
    · trivial

theorem hpNin_ok {st : St} {ts : Array Value} (r : Rel base M w0 V st ts w) {b : Nat} (hb : ¬ V.Z false b) : toP (hpNin b st.hp) := by
  have key : ∀ (l : List Ent), (∀ e ∈ l, ∃ n, e.ok V st.ent w n) → toP (hpNin b l) := by
    intro l
    induction l with
    | nil => intro _; trivial
    | cons e l ih =>
      intro h
      obtain ⟨n, hn⟩ := h e (List.mem_cons_self ..)
      exact toP_oand' (Ent.nin_ok hn hb) (ih (fun e' he' => h e' (List.mem_cons_of_mem _ he')))
  refine key st.hp (fun e he => ?_)
  obtain ⟨n, hn, rfl⟩ := List.getElem_of_mem he
  refine ⟨n, ?_⟩
  have := r.mem.ents n
  have e1 : st.ent n = st.hp[n] := by
    show nth .dead st.hp n = _
    rw [nth_eq, List.getElem?_eq_getElem hn]; rfl
  rw [e1] at this
  exact this

theorem neAll_ok {b : Nat} : ∀ {acc : List Nat}, (∀ a ∈ acc, b ≠ a) → toP (neAll b acc)
  | [], _ => trivial
  | a :: r, h => toP_oand' (p := some _) (h a (List.mem_cons_self ..)) (neAll_ok (fun c hc => h c (List.mem_cons_of_mem _ hc)))

theorem seal_turns {base m b : Nat} {hp : Nat → Ent} {fr : Bool} {e : Ty} {xs : List e.den} (hm : hp m = .row fr e xs) (hok : (Ent.row fr e xs).ok V hp w m) (hmine : fr = true → V.has m → base ≤ V.blk m) (hb : V.has m → b = V.blk m) :
    Turns V hp w (sealC m b fr e xs) (V.freeze m base) (hpSet (hpMap (sealC m b fr e xs) hp) m .dead) w := by
  have tn := freeze_turns (base := base) hm hok hmine
  have hrow : ∀ {n fr' e'} {xs' : List e'.den}, hpSet (hpMap (freezeC m fr e xs) hp) m .dead n = .row fr' e' xs' → hpSet (hpMap (sealC m b fr e xs) hp) m .dead n = .row fr' e' xs' := by
    intro n fr' e' xs' h
    by_cases hn : n = m
    · simp only [hpSet, if_pos hn] at h; cases h
    · simp only [hpSet, if_neg hn] at h ⊢
      unfold hpMap at h ⊢
      cases hq : hp n with
      | row a1 a2 a3 => rw [hq] at h; exact h
      | bx cs => rw [hq] at h; cases h
      | dead => rw [hq] at h; cases h
  have hbx : ∀ {n cs}, hpSet (hpMap (freezeC m fr e xs) hp) m .dead n = .bx cs → ∃ cs', hpSet (hpMap (sealC m b fr e xs) hp) m .dead n = .bx cs' := by
    intro n cs h
    by_cases hn : n = m
    · simp only [hpSet, if_pos hn] at h; cases h
    · simp only [hpSet, if_neg hn] at h ⊢
      unfold hpMap at h ⊢
      cases hq : hp n with
      | row a1 a2 a3 => rw [hq] at h; cases h
      | bx cs => exact ⟨_, rfl⟩
      | dead => rw [hq] at h; cases h
  have move : ∀ {c v}, C.ok (V.freeze m base) (hpSet (hpMap (freezeC m fr e xs) hp) m .dead) w c v → C.ok (V.freeze m base) (hpSet (hpMap (sealC m b fr e xs) hp) m .dead) w c v := by
    intro c v h
    cases c with
    | own n => obtain ⟨f1, e1, x1, h1, h2⟩ := h; exact ⟨f1, e1, x1, hrow h1, h2⟩
    | pre n k => obtain ⟨f1, e1, x1, h1, h3, h2⟩ := h; exact ⟨f1, e1, x1, hrow h1, h3, h2⟩
    | brw n e' ys => obtain ⟨⟨f1, e1, x1, h1⟩, h2⟩ := h; exact ⟨⟨f1, e1, x1, hrow h1⟩, h2⟩
    | box n off => obtain ⟨h1, h2, cs, h3⟩ := h; exact ⟨h1, h2, hbx h3⟩
    | elt n i off => obtain ⟨h0, f1, e1, x1, h1, h2⟩ := h; exact ⟨h0, f1, e1, x1, hrow h1, h2⟩
    | fn f caps => exact ⟨h.1, fun n hn => ⟨(h.2 n hn).1, let ⟨_, cs, h3⟩ := h.2 n hn; hbx h3⟩⟩
    | _ => exact h
  intro c v h
  by_cases hc : c = .own m
  · subst hc
    obtain ⟨fr', e', xs', h1, h2⟩ := h
    rw [hm] at h1
    injection h1 with e1 e2 e3
    subst e1; subst e2; cases e3
    show C.ok _ _ w (sealC m b fr e xs (.own m)) v
    simp only [sealC, if_true]
    have hrd := tn (.own m) v ⟨fr, e, xs, hm, h2⟩
    simp only [freezeC, if_true] at hrd
    refine ⟨hrd, fun hp0 => ?_, fun _ hp0 => ?_⟩
    · rcases h2 with ⟨_, _, h3⟩ | ⟨hh, cap, vals, el, h3, h4, h5, h6⟩
      · have hp0' : 0 < xs.length := hp0
        omega
      · exact ⟨0, _, cap, by rw [h3, hb hh]⟩
    · rcases h2 with ⟨_, _, h3⟩ | ⟨hh, cap, vals, el, h3, h4, h5, h6⟩
      · have hp0' : 0 < xs.length := hp0
        omega
      · exact ⟨_, cap, vals, el, by rw [h3, hb hh], by rw [hb hh]; exact h4, h5⟩
  · have e1 : sealC m b fr e xs c = freezeC m fr e xs c := by
      cases c with
      | own n =>
        have hn : n ≠ m := fun e => hc (by rw [e])
        simp only [sealC, freezeC, if_neg hn]
      | _ => rfl
    rw [e1]
    exact move (tn c v h)

theorem Rel.sealB {st : St} {ts : Array Value} (r : Rel base M w0 V st ts w) (m : Nat) {b : Nat} (hb : ∀ fr e xs, st.ent m = .row fr e xs → V.has m → b = V.blk m) :
    ∃ V', Rel base M w0 V' (st.sealB m b) ts w ∧ (∀ c, V.Z false c → V'.Z false c) ∧ (∀ fr e xs, st.ent m = .row fr e xs → V.has m → V'.Z false (V.blk m)) := by
  unfold St.sealB
  cases hm : st.ent m with
  | dead => exact ⟨V, r, fun c h => h, fun fr e xs h => by cases h⟩
  | bx cs => exact ⟨V, r, fun c h => h, fun fr e xs h => by cases h⟩
  | row fr e xs =>
    simp only
    have mm := r.mem
    have hok := mm.ents m
    rw [hm] at hok
    have hmine : fr = true → V.has m → base ≤ V.blk m := fun hf hh => by subst hf; exact mm.mine m e xs hm hh
    exact ⟨V.freeze m base, r.freezeG hm (seal_turns (base := base) hm hok hmine (hb fr e xs hm)), fun c h => Vl.freeze_old h, fun _ _ _ _ hh => Vl.freeze_new hh⟩

theorem max_above (l : List Nat) (n : Nat) : ∃ b, n ≤ b ∧ ∀ a ∈ l, b ≠ a := by
  refine ⟨n + l.foldr (· + ·) 0 + 1, by omega, ?_⟩
  have key : ∀ (l : List Nat) a, a ∈ l → a ≤ l.foldr (· + ·) 0 := by
    intro l
    induction l with
    | nil => intro a h; cases h
    | cons c l ih =>
      intro a h
      rcases List.mem_cons.1 h with h | h
      · subst h; simp only [List.foldr_cons]; omega
      · have := ih a h; simp only [List.foldr_cons]; omega
  intro a ha
  have := key l a ha
  omega

theorem seals_ok {K : St → Prop} {ts : Array Value} : ∀ (ms : List Nat) {acc : List Nat} {V : Vl} {st : St}, Rel base M w0 V st ts w → (∀ a ∈ acc, V.Z false a ∨ w.heap.size ≤ a) → sealsVc acc ms st K → ∃ V' st', Rel base M w0 V' st' ts w ∧ K st'
  | [], acc, V, st, r, _, h => ⟨V, st, r, h⟩
  | m :: ms, acc, V, st, r, ha, h => by
    have mm := r.mem
    by_cases hh : V.has m ∧ ∃ fr e xs, st.ent m = .row fr e xs
    · obtain ⟨hh, fr, e, xs, hm⟩ := hh
      obtain ⟨o1, o2, o3⟩ := mm.own m (by rw [hm]; rfl) hh
      obtain ⟨V', r', hz, hn⟩ := r.sealB m (b := V.blk m) (fun _ _ _ _ _ => rfl)
      have hnin := hpNin_ok r o3
      have hne : toP (neAll (V.blk m) acc) := neAll_ok (fun a haa e => by
        rcases ha a haa with h1 | h1
        · exact o3 (e ▸ h1)
        · omega)
      refine seals_ok ms r' (fun a haa => ?_) (h (V.blk m) (toP_oand' hnin hne))
      rcases List.mem_cons.1 haa with e2 | haa
      · rw [e2]; exact .inl (hn fr e xs hm hh)
      · rcases ha a haa with h1 | h1
        · exact .inl (hz a h1)
        · exact .inr h1
    · obtain ⟨b, hb1, hb2⟩ := max_above acc w.heap.size
      obtain ⟨V', r', hz, _⟩ := r.sealB m (b := b) (fun fr e xs hm h1 => absurd ⟨h1, fr, e, xs, hm⟩ hh)
      have hnb : ¬ V.Z false b := fun hz => by have := mm.z_lt hz; omega
      refine seals_ok ms r' (fun a haa => ?_) (h b (toP_oand' (hpNin_ok r hnb) (neAll_ok hb2)))
      rcases List.mem_cons.1 haa with e2 | haa
      · rw [e2]; exact .inr hb1
      · rcases ha a haa with h1 | h1
        · exact .inl (hz a h1)
        · exact .inr h1

theorem vcOp_ok (hT : TabOk P T) (hΓ : GamOk P Γ) (hR : RulesOk P R) {st : St} (hs : Sat base M w0 st a w) {o : Oper} {K : St → Prop} (h : vcOp T Γ R st.eval st.ent o st K)
    (hK : ∀ st' v w', K st' → Sat base M w0 st' (a.put o.dst v) w' → next (a.put o.dst v) w') : o.wp P a w next Q := by
  obtain ⟨hd, V, r⟩ := hs
  unfold vcOp at h
  split at h
  · rename_i q hq
    obtain ⟨h1, h2⟩ := andO_elim h
    refine qop_ok hT hΓ r.mem (LkOk.ents r) r.eval hq (fun j _ => ent_dead st j) h1 (fun v w' V' g => ?_)
    obtain ⟨q1, q2⟩ := rel_good r g
    exact hK _ v w' (impO_elim h2 g.hy) ⟨by rw [put_defers]; exact hd, V', rel_put q1 q2 _⟩
  · split at h
    · obtain ⟨V1, st1, r1, h⟩ := seals_ok _ r (fun a h => by cases h) h
      split at h
      · rename_i q hq
        obtain ⟨h1, h2⟩ := andO_elim h
        exact eop_ok hT r1 hq h1 (fun v w' V' q1 q2 => hK _ v w' h2 ⟨by rw [put_defers]; exact hd, V', rel_put q1 q2 _⟩)
      · exact h.elim
    split at h
    · rename_i q hq
      obtain ⟨h1, h2⟩ := andO_elim h
      exact eop_ok hT r hq h1 (fun v w' V' q1 q2 => hK _ v w' h2 ⟨by rw [put_defers]; exact hd, V', rel_put q1 q2 _⟩)
    · split at h
      · rename_i f args hc
        split at h
        · rename_i ru hru
          split at h
          · exact h.elim
          rename_i hft
          obtain ⟨c, x, e1, e2, e3, e4⟩ := callOf_ok hc
          obtain ⟨k1, k2⟩ := hR f ru hru (fun e => hft (by rw [e]; rfl))
          have hx := r.eval x
          rw [e3] at hx
          subst e4
          have := k1 base M w0 V st a.tmps w _ (c.args.toList.map a.eval) _ r (by simp) (fun i s v hi hv => by
            rw [List.getElem?_map] at hi hv
            cases hx' : c.args.toList[i]? with
            | none => rw [hx'] at hi; cases hi
            | some y =>
              rw [hx'] at hi hv
              simp only [Option.map_some, Option.some.injEq] at hi hv
              rw [← hi, ← hv]; exact r.eval y) h
          refine wp_call (R := _) e1 e2 hx k2 (by rw [show c.args.map a.eval = (c.args.toList.map a.eval).toArray from Array.ext' (by simp)]; exact this) (fun e w' hr => ?_)
          obtain ⟨v, rfl, V', s, st', h1, h2, h3⟩ := hr
          exact ⟨v, rfl, hK _ v w' h1 ⟨by rw [put_defers]; exact hd, V', rel_put h2 h3 _⟩⟩
        · exact h.elim
      · exact h.elim

theorem rule_ok (hR : RulesOk P R) {st : St} (hs : Sat base M w0 st a w) {o : Oper} {K : St → Prop} {f : FuncId} {args : List S} (hc : callOf st o.op = some (f, args)) {ru : Rule} (hru : R f = some ru) (hft : ¬ Nat.beq f tellId = true) (h : ru args st fun s st' => K (st'.put o.dst s))
    (hK : ∀ st' v w', K st' → Sat base M w0 st' (a.put o.dst v) w' → next (a.put o.dst v) w') : o.wp P a w next Q := by
  obtain ⟨hd, V, r⟩ := hs
  obtain ⟨c, x, e1, e2, e3, e4⟩ := callOf_ok hc
  obtain ⟨k1, k2⟩ := hR f ru hru (fun e => hft (by rw [e]; rfl))
  have hx := r.eval x
  rw [e3] at hx
  subst e4
  have := k1 base M w0 V st a.tmps w _ (c.args.toList.map a.eval) _ r (by simp) (fun i s v hi hv => by
    rw [List.getElem?_map] at hi hv
    cases hx' : c.args.toList[i]? with
    | none => rw [hx'] at hi; cases hi
    | some y =>
      rw [hx'] at hi hv
      simp only [Option.map_some, Option.some.injEq] at hi hv
      rw [← hi, ← hv]; exact r.eval y) h
  refine wp_call (R := _) e1 e2 hx k2 (by rw [show c.args.map a.eval = (c.args.toList.map a.eval).toArray from Array.ext' (by simp)]; exact this) (fun e w' hr => ?_)
  obtain ⟨v, rfl, V', s, st', h1, h2, h3⟩ := hr
  exact ⟨v, rfl, hK _ v w' h1 ⟨by rw [put_defers]; exact hd, V', rel_put h2 h3 _⟩⟩

theorem vcOpR_ok (hT : TabOk P T) (hΓ : GamOk P Γ) (hR : RulesOk P R) {st : St} (hs : Sat base M w0 st a w) {o : Oper} {K : St → Prop} (h : vcOpR T Γ R st.eval st.ent o st K)
    (hK : ∀ st' v w', K st' → Sat base M w0 st' (a.put o.dst v) w' → next (a.put o.dst v) w') : o.wp P a w next Q := by
  unfold vcOpR at h
  split at h
  · split at h
    · rename_i f args hc
      split at h
      · rename_i ru hru
        split at h
        · exact h.elim
        · rename_i hft
          exact rule_ok hR hs hc hru hft h hK
      · exact h.elim
    · exact h.elim
  · exact vcOp_ok hT hΓ hR hs h hK

/-- One temporary is known better. -/
theorem rel_refine {st : St} {ts : Array Value} (r : Rel base M w0 V st ts w) {d : Nat} {v : Value} {s : S} (hv : ts[d]? = some v) (h : S.ok V st.ent w s v) : Rel base M w0 V (st.put (some d) s) ts w := by
  refine ⟨by show (lset st.ts d s).length = ts.size; rw [lset_eq]; simp [r.len], fun i s' v' hs hv' => ?_, r.mem⟩
  have hs' : (lset st.ts d s)[i]? = some s' := hs
  rw [lset_eq, List.getElem?_set] at hs'
  split at hs'
  · rename_i e
    subst e
    split at hs'
    · injection hs' with hs'; subst hs'
      rw [hv] at hv'
      injection hv' with hv'; subst hv'
      exact h
    · cases hs'
  · exact r.slots i s' v' hs' hv'

theorem slot_of {st : St} {ts : Array Value} (r : Rel base M w0 V st ts w) {d : Nat} {s : S} (h : nth .any st.ts d = s) (hs : s ≠ .any) : ∃ v, ts[d]? = some v ∧ S.ok V st.ent w s v := by
  rw [nth_eq] at h
  cases he : st.ts[d]? with
  | none => rw [he] at h; exact absurd h.symm hs
  | some s' =>
    rw [he] at h
    simp only [Option.getD_some] at h
    subst h
    have hlt := (List.getElem?_eq_some_iff.1 he).1
    have hlt' : d < ts.size := by rw [← r.len]; exact hlt
    have hv : ts[d]? = some (ts[d]'hlt') := Array.getElem?_eq_getElem hlt'
    exact ⟨_, hv, r.slots d _ _ he hv⟩

/-- What 'decide?' says. -/
theorem decide_ok {st : St} (r : Rel base M w0 V st a.tmps w) {all : Array Oper} {o : Oper} :
    match decide? all o st with
    | .go => Region.wanted o (yielded all a.tmps) = true
    | .skip => Region.wanted o (yielded all a.tmps) = false
    | .ask d b want => Region.wanted o (yielded all a.tmps) = (b == want) ∧ a.tmps[d]? = some (.bool b)
    | .bad => True := by
  unfold decide? Region.wanted
  cases hg : o.guard with
  | none => simp
  | some g =>
    obtain ⟨j, want⟩ := g
    simp only
    rw [nth?_eq, obind_eq]
    cases hj : (all.toList[j]?).bind (·.dst) with
    | none => simp
    | some d =>
      have hj' : (all[j]?).bind (·.dst) = some d := by rw [← hj]; simp
      have hy : ∀ v, a.tmps[d]? = some v → yielded all a.tmps j = match v with | .bool b => some b | _ => none := by
        intro v hv
        unfold yielded
        rw [hj']
        simp only [Option.bind_some, hv]
        cases v <;> rfl
      simp only
      split
      · rename_i h
        split at h
        · rename_i he
          obtain ⟨v, h1, h2⟩ := slot_of r he (by simp)
          replace h2 : v = .bool true := h2
          rw [hy v h1, h2]
          cases want <;> simp_all
        · rename_i he
          obtain ⟨v, h1, h2⟩ := slot_of r he (by simp)
          replace h2 : v = .bool false := h2
          rw [hy v h1, h2]
          cases want <;> simp_all
        all_goals cases h
      · rename_i h
        split at h
        · rename_i he
          obtain ⟨v, h1, h2⟩ := slot_of r he (by simp)
          replace h2 : v = .bool true := h2
          rw [hy v h1, h2]
          cases want <;> simp_all
        · rename_i he
          obtain ⟨v, h1, h2⟩ := slot_of r he (by simp)
          replace h2 : v = .bool false := h2
          rw [hy v h1, h2]
          cases want <;> simp_all
        · cases h
        · rename_i he
          obtain ⟨v, h1, h2⟩ := slot_of r he (by simp)
          replace h2 : v = undef := h2
          rw [hy v h1, h2]
          simp [undef]
        · cases h
      · rename_i d' b' want' h
        split at h
        · split at h <;> cases h
        · split at h <;> cases h
        · rename_i b he
          obtain ⟨v, h1, h2⟩ := slot_of r he (by simp)
          replace h2 : v = .bool b := h2.1
          injection h with e1 e2 e3
          subst e1; subst e2; subst e3
          rw [hy v h1, h2]
          exact ⟨by cases b <;> cases want <;> rfl, by rw [h1, h2]⟩
        · cases h
        · cases h
      · trivial

theorem sat_skip {st : St} (hs : Sat base M w0 st a w) (dst : Option Nat) : Sat base M w0 (st.put dst .und) (a.put dst undef) w := by
  obtain ⟨hd, V, r⟩ := hs
  exact ⟨by rw [put_defers]; exact hd, V, rel_put r (s := .und) (v := undef) rfl _⟩

theorem vcSeq_ok (hT : TabOk P T) (hΓ : GamOk P Γ) (hR : RulesOk P R) {all : Array Oper} {K : St → Prop} (hK : ∀ st' a' w', K st' → Sat base M w0 st' a' w' → Q .normal a' w') :
    ∀ (l : List Oper) (i : Nat) (_ : all.toList.drop i = l) (st : St) (a : Act) (w : World), Sat base M w0 st a w → vcSeq T Γ R all l st K → wpOps P all Q (List.range' i l.length) a w
  | [], i, _, st, a, w, hs, h => by
    rw [List.length_nil, List.range'_zero]
    exact hK st a w h hs
  | o :: l, i, hl, st, a, w, hs, h => by
    rw [List.length_cons, List.range'_succ, wpOps_cons]
    have hi : all[i]? = some o := by
      have : (all.toList.drop i)[0]? = some o := by rw [hl]; rfl
      rw [List.getElem?_drop] at this
      simpa using this
    have hl' : all.toList.drop (i + 1) = l := by
      rw [← List.drop_drop, hl]; rfl
    unfold wpOp
    simp only [hi]
    have go : ∀ st, Sat base M w0 st a w → vcOpR T Γ R st.eval st.ent o st (fun st' => vcSeq T Γ R all l st' K) → o.wp P a w (wpOps P all Q (List.range' (i + 1) l.length)) Q :=
      fun st hs h => vcOpR_ok hT hΓ hR hs h (fun st' v w' h1 h2 => vcSeq_ok hT hΓ hR hK l (i + 1) hl' st' _ w' h2 h1)
    have skip : ∀ st, Sat base M w0 st a w → vcSeq T Γ R all l (st.put o.dst .und) K → wpOps P all Q (List.range' (i + 1) l.length) (a.put o.dst undef) w :=
      fun st hs h => vcSeq_ok hT hΓ hR hK l (i + 1) hl' _ _ w (sat_skip hs _) h
    obtain ⟨hd, V, r⟩ := hs
    have hdec := decide_ok r (all := all) (o := o)
    unfold vcSeq at h
    split at h
    · rename_i e
      rw [e] at hdec
      rw [if_pos hdec]
      exact .inl (go st ⟨hd, V, r⟩ h)
    · rename_i e
      rw [e] at hdec
      rw [if_neg (by simp [hdec])]
      exact skip st ⟨hd, V, r⟩ h
    · rename_i d b want e
      rw [e] at hdec
      obtain ⟨hw, hv⟩ := hdec
      have hw' : b = want → Region.wanted o (yielded all a.tmps) = true := fun e => by rw [hw, e]; simp
      cases b with
      | true =>
        have h1 := h.1 rfl
        have r1 := rel_refine (s := .c .tru) r hv rfl
        cases want with
        | true => rw [if_pos (hw' rfl)]; exact .inl (go _ ⟨hd, V, r1⟩ h1)
        | false => rw [if_neg (by simp [hw])]; exact skip _ ⟨hd, V, r1⟩ h1
      | false =>
        have h1 := h.2 rfl
        have r1 := rel_refine (s := .c .fls) r hv rfl
        cases want with
        | true => rw [if_neg (by simp [hw])]; exact skip _ ⟨hd, V, r1⟩ h1
        | false => rw [if_pos (hw' rfl)]; exact .inl (go _ ⟨hd, V, r1⟩ h1)
    · exact h.elim

/-- One operation, wherever it comes. -/
theorem vcStep_ok (hT : TabOk P T) (hΓ : GamOk P Γ) (hR : RulesOk P R) {all : Array Oper} {i : Nat} {st : St} {K : St → Prop} (hs : Sat base M w0 st a w) (h : vcStep T Γ R all i st K)
    (hK : ∀ st' a' w', K st' → Sat base M w0 st' a' w' → next a' w') : wpOp P all Q i next a w := by
  unfold vcStep at h
  split at h
  · rename_i o hi
    rw [nth?_eq] at hi
    have hi : all[i]? = some o := by simpa using hi
    unfold wpOp
    simp only [hi]
    have go : ∀ st, Sat base M w0 st a w → vcOp T Γ R st.eval st.ent o st K → o.wp P a w next Q :=
      fun st hs h => vcOp_ok hT hΓ hR hs h (fun st' v w' h1 h2 => hK st' _ w' h1 h2)
    have skip : ∀ st, Sat base M w0 st a w → K (st.put o.dst .und) → next (a.put o.dst undef) w := fun st hs h => hK _ _ w h (sat_skip hs _)
    obtain ⟨hd, V, r⟩ := hs
    have hdec := decide_ok r (all := all) (o := o)
    split at h
    · rename_i e
      rw [e] at hdec
      rw [if_pos hdec]
      exact .inl (go st ⟨hd, V, r⟩ h)
    · rename_i e
      rw [e] at hdec
      rw [if_neg (by simp [hdec])]
      exact skip st ⟨hd, V, r⟩ h
    · rename_i d b want e
      rw [e] at hdec
      obtain ⟨hw, hv⟩ := hdec
      have hw' : b = want → Region.wanted o (yielded all a.tmps) = true := fun e => by rw [hw, e]; simp
      cases b with
      | true =>
        have h1 := h.1 rfl
        have r1 := rel_refine (s := .c .tru) r hv rfl
        cases want with
        | true => rw [if_pos (hw' rfl)]; exact .inl (go _ ⟨hd, V, r1⟩ h1)
        | false => rw [if_neg (by simp [hw])]; exact skip _ ⟨hd, V, r1⟩ h1
      | false =>
        have h1 := h.2 rfl
        have r1 := rel_refine (s := .c .fls) r hv rfl
        cases want with
        | true => rw [if_neg (by simp [hw])]; exact skip _ ⟨hd, V, r1⟩ h1
        | false => rw [if_pos (hw' rfl)]; exact .inl (go _ ⟨hd, V, r1⟩ h1)
    · exact h.elim
  · exact h.elim
end
end Go.SX


/- A region that draws its order: what the text's order tells of each operation. No condition. -/
namespace Go.SX
open Go.RowKit
set_option linter.unusedVariables false
set_option linter.unusedSimpArgs false

section
variable {P : Program} {T : Tab} {Γ : FuncId → Option PC} {R : FuncId → Option Rule}

theorem mask_inner (acc : Array Nat) (j : Nat) (l : List Edge) : ∀ s : Nat, (l.foldl (fun s e => if Region.binds .any e then s ||| 2 ^ e.on ||| acc.getD e.on 0 else s) s).testBit j = true →
    s.testBit j = true ∨ ∃ e ∈ l, Region.binds .any e = true ∧ (j = e.on ∨ (acc.getD e.on 0).testBit j = true) := by
  induction l with
  | nil => intro s h; exact .inl h
  | cons e l ih =>
    intro s h
    rw [List.foldl_cons] at h
    rcases ih _ h with h | ⟨e', h1, h2, h3⟩
    · split at h
      · rename_i hb
        rw [Nat.testBit_or, Nat.testBit_or, Bool.or_eq_true, Bool.or_eq_true] at h
        rcases h with (h | h) | h
        · exact .inl h
        · right
          refine ⟨e, List.mem_cons_self .., hb, .inl ?_⟩
          rw [Nat.testBit_two_pow] at h
          simpa using (of_decide_eq_true h).symm
        · exact .inr ⟨e, List.mem_cons_self .., hb, .inr h⟩
      · exact .inl h
    · exact .inr ⟨e', List.mem_cons_of_mem _ h1, h2, h3⟩

def MaskP (ops : Array Oper) (acc : Array Nat) : Prop := ∀ m j, (acc.getD m 0).testBit j = true → ∃ o, ops[m]? = some o ∧ ∃ e ∈ o.after, Region.binds .any e = true ∧ (j = e.on ∨ (e.on < m ∧ (acc.getD e.on 0).testBit j = true))

theorem mask_spec (ops : Array Oper) : MaskP ops (Region.before ops) := by
  unfold Region.before
  have := Array.foldl_induction (as := ops) (motive := fun i acc => acc.size = i ∧ MaskP ops acc) (init := #[]) (f := fun acc o =>
    acc.push (o.after.foldl (fun s e => if Region.binds .any e then s ||| 2 ^ e.on ||| acc.getD e.on 0 else s) 0)) ⟨rfl, fun m j h => by simp at h⟩ (fun i acc ⟨h1, h2⟩ => by
    refine ⟨by simp [h1], fun m j h => ?_⟩
    rcases Nat.lt_trichotomy m acc.size with hm | hm | hm
    · rw [show (acc.push (ops[i].after.foldl (fun s e => if Region.binds .any e then s ||| 2 ^ e.on ||| acc.getD e.on 0 else s) 0)).getD m 0 = acc.getD m 0 by
        simp [Array.getD, hm, Nat.lt_succ_of_lt hm, Array.getElem_push_lt]] at h
      obtain ⟨o, k1, e, k2, k3, k4⟩ := h2 m j h
      refine ⟨o, k1, e, k2, k3, k4.imp id fun ⟨k5, k6⟩ => ⟨k5, ?_⟩⟩
      have : e.on < acc.size := by omega
      simpa [Array.getD, this, Nat.lt_succ_of_lt this, Array.getElem_push_lt] using k6
    · subst hm
      rw [show (acc.push (ops[i].after.foldl (fun s e => if Region.binds .any e then s ||| 2 ^ e.on ||| acc.getD e.on 0 else s) 0)).getD acc.size 0 = ops[i].after.foldl (fun s e => if Region.binds .any e then s ||| 2 ^ e.on ||| acc.getD e.on 0 else s) 0 by
        simp [Array.getD]] at h
      rw [← Array.foldl_toList] at h
      rcases mask_inner acc j _ 0 h with h | ⟨e, k1, k2, k3⟩
      · simp at h
      · refine ⟨ops[i], by rw [h1]; exact Array.getElem?_eq_getElem _, e, by simpa using k1, k2, k3.imp id fun k4 => ?_⟩
        have hlt : e.on < acc.size := by
          rcases Nat.lt_or_ge e.on acc.size with h | h
          · exact h
          · simp [Array.getD, Nat.not_lt.2 h] at k4
        exact ⟨hlt, by simpa [Array.getD, hlt, Nat.lt_succ_of_lt hlt, Array.getElem_push_lt] using k4⟩
    · simp [Array.getD, show ¬ m < acc.size + 1 by omega] at h)
  exact this.2

/-- What is listed has all it waits for listed. -/
def Closed (all : Array Oper) (listed : Array Bool) : Prop := ∀ j oj, all[j]? = some oj → listed.getD j false = true → ∀ e ∈ oj.after, Region.binds .any e = true → listed.getD e.on false = true

theorem mask_listed {all : Array Oper} {listed : Array Bool} (hc : Closed all listed) : ∀ i, (listed.getD i false = true ∨ i ∈ Region.ready .any all listed) → ∀ j, (maskOf all i).testBit j = true → listed.getD j false = true := by
  intro i
  induction i using Nat.strongRecOn with
  | _ i ih =>
    intro hi j hj
    obtain ⟨o, h1, e, h2, h3, h4⟩ := mask_spec all i j hj
    have he : listed.getD e.on false = true := by
      rcases hi with hi | hi
      · exact hc i o h1 hi e h2 h3
      · obtain ⟨_, o', h5, h6⟩ := mem_ready.1 hi
        rw [h1] at h5; injection h5 with h5; subst h5
        exact h6 e h2 h3
    rcases h4 with rfl | ⟨h4, h5⟩
    · exact he
    · exact ih e.on h4 (.inl he) j h5

/-- One operation of the head, as the text's order meets it. -/
structure HEnt where
  who : List Nat
  st : St
  r : Option QR

def Refined (all : Array Oper) (st : St) (o : Oper) (st1 : St) (g : Bool) : Prop :=
  match decide? all o st with
  | .go => st1 = st ∧ g = true
  | .skip => st1 = st ∧ g = false
  | .ask d b want => st1 = st.put (some d) (.c (if b then .tru else .fls)) ∧ g = (b == want)
  | .bad => False

def Chain (T : Tab) (Γ : FuncId → Option PC) (all : Array Oper) (k nx0 : Nat) : Nat → List Oper → List Nat → St → List HEnt → List Nat → St → Prop
  | _, [], who, st, E, who', st' => E = [] ∧ who' = who ∧ st' = st
  | i, o :: l, who, st, E, who', st' => ∃ e E', E = e :: E' ∧ e.who = who ∧ Refined all st o e.st e.r.isSome ∧
      match e.r with
      | none => Chain T Γ all k nx0 (i + 1) l who (e.st.put o.dst .und) E' who' st'
      | some q => qop T Γ (lkL all i nx0 who e.st) (llen e.st.hp) (evL all k i e.st) o.op = some q ∧ Chain T Γ all k nx0 (i + 1) l (lapp who (lmap (fun _ => i) q.new)) ((e.st.alloc q.new).put o.dst q.res) E' who' st'

def OwedE (E : List HEnt) : Prop := ∀ e ∈ E, ∀ q, e.r = some q → ∀ p, q.ob = some p → p
def HyE (E : List HEnt) : Prop := ∀ e ∈ E, ∀ q, e.r = some q → ∀ p, q.hy = some p → p

theorem vcHead_chain {all : Array Oper} {k nx0 : Nat} : ∀ (l : List Oper) (i : Nat) (who : List Nat) (st : St) (K : St → Prop), vcHead T Γ all k nx0 i l who st K →
    ∃ E who' st', Chain T Γ all k nx0 i l who st E who' st' ∧ OwedE E ∧ (HyE E → K st')
  | [], i, who, st, K, h => ⟨[], who, st, ⟨rfl, rfl, rfl⟩, (fun e he => by cases he), fun _ => h⟩
  | o :: l, i, who, st, K, h => by
    have go : ∀ st1, Refined all st o st1 true → (match qop T Γ (lkL all i nx0 who st1) (llen st1.hp) (evL all k i st1) o.op with
      | some r => andO r.ob (vcHead T Γ all k nx0 (i + 1) l (lapp who (lmap (fun _ => i) r.new)) ((st1.alloc r.new).put o.dst r.res) fun st' => impO r.hy (K st'))
      | none => False) → ∃ E who' st', Chain T Γ all k nx0 i (o :: l) who st E who' st' ∧ OwedE E ∧ (HyE E → K st') := by
      intro st1 hr h
      split at h
      · rename_i q hq
        obtain ⟨h1, h2⟩ := andO_elim h
        obtain ⟨E, who', st', k1, k2, k3⟩ := vcHead_chain l (i + 1) _ _ _ h2
        refine ⟨⟨who, st1, some q⟩ :: E, who', st', ⟨_, E, rfl, rfl, hr, hq, k1⟩, ?_, fun hy => ?_⟩
        · intro e he q' hq' p hp
          rcases List.mem_cons.1 he with rfl | he
          · injection hq' with hq'; subst hq'; exact h1 p hp
          · exact k2 e he q' hq' p hp
        · exact impO_elim (k3 fun e he => hy e (List.mem_cons_of_mem _ he)) (fun p hp => hy _ (List.mem_cons_self ..) q rfl p hp)
      · exact h.elim
    have skip : ∀ st1, Refined all st o st1 false → vcHead T Γ all k nx0 (i + 1) l who (st1.put o.dst .und) K → ∃ E who' st', Chain T Γ all k nx0 i (o :: l) who st E who' st' ∧ OwedE E ∧ (HyE E → K st') := by
      intro st1 hr h
      obtain ⟨E, who', st', k1, k2, k3⟩ := vcHead_chain l (i + 1) _ _ _ h
      refine ⟨⟨who, st1, none⟩ :: E, who', st', ⟨_, E, rfl, rfl, hr, k1⟩, ?_, fun hy => k3 fun e he => hy e (List.mem_cons_of_mem _ he)⟩
      intro e he q' hq' p hp
      rcases List.mem_cons.1 he with rfl | he
      · cases hq'
      · exact k2 e he q' hq' p hp
    unfold vcHead at h
    simp only at h
    split at h
    · rename_i e
      exact go st (by unfold Refined; rw [e]; exact ⟨rfl, rfl⟩) h
    · rename_i e
      exact skip st (by unfold Refined; rw [e]; exact ⟨rfl, rfl⟩) h
    · rename_i d b want e
      have hr : Refined all st o (st.put (some d) (.c (if b then .tru else .fls))) (b == want) := by unfold Refined; rw [e]; exact ⟨rfl, rfl⟩
      cases b with
      | true =>
        have h1 := h.1 rfl
        cases want with
        | true => exact go _ hr h1
        | false => exact skip _ hr h1
      | false =>
        have h1 := h.2 rfl
        cases want with
        | true => exact skip _ hr h1
        | false => exact go _ hr h1
    · exact h.elim

/-! ### What is known before each operation -/

def resE (E : List HEnt) (j : Nat) : S := match E[j]? with | some e => (match e.r with | some q => q.res | none => .und) | none => .any

structure Snap (all : Array Oper) (st0 : St) (E : List HEnt) (i : Nat) (who : List Nat) (st : St) : Prop where
  len : st.ts.length = st0.ts.length
  old : ∀ t, (∀ j o, j < i → all[j]? = some o → o.dst ≠ some t) → st.ts[t]? = st0.ts[t]?
  new : ∀ j o d, j < i → all[j]? = some o → o.dst = some d → ∀ V hp w v, S.ok V hp w (resE E j) v → S.ok V hp w (nth .any st.ts d) v
  names : llen st.hp = llen st0.hp + who.length
  ents : ∀ n, n < llen st0.hp → st.ent n = st0.ent n
  whos : ∀ (m : Nat) j, who[m]? = some j → j < i ∧ ∃ e q x, E[j]? = some e ∧ e.r = some q ∧ llen st0.hp + m = llen e.st.hp + x ∧ x < q.new.length
  news : ∀ j e q, j < i → E[j]? = some e → e.r = some q → llen st0.hp ≤ llen e.st.hp ∧ ∀ (x : Nat) y, q.new[x]? = some y → who[llen e.st.hp + x - llen st0.hp]? = some j ∧ st.ent (llen e.st.hp + x) = y

theorem chkHead_spec {all : Array Oper} {k : Nat} (h : chkHead all k = true) {i : Nat} (hi : i < k) : ∃ o, all[i]? = some o ∧ (∀ j want, o.guard = some (j, want) → j < i ∧ (maskOf all i).testBit j = true) ∧
    ∃ d, o.dst = some d ∧ ∀ j o', j < k → j ≠ i → all[j]? = some o' → o'.dst ≠ some d := by
  have := List.all_eq_true.1 h i (List.mem_range.2 hi)
  split at this
  · rename_i o ho
    rw [Bool.and_eq_true] at this
    obtain ⟨h1, h2⟩ := this
    refine ⟨o, ho, fun j want hg => ?_, ?_⟩
    · rw [hg] at h1
      simp only [Bool.and_eq_true, decide_eq_true_eq] at h1
      exact h1
    · split at h2
      · rename_i d hd
        refine ⟨d, hd, fun j o' hj hne ho' he => ?_⟩
        have := List.all_eq_true.1 h2 j (List.mem_range.2 hj)
        rw [ho'] at this
        simp [hne, he] at this
      · cases h2
  · cases this

theorem nth_set {ts : List S} {d t : Nat} {s : S} : nth .any (lset ts d s) t = if t = d then (if d < ts.length then s else .any) else nth .any ts t := by
  rw [nth_eq, nth_eq, lset_eq, List.getElem?_set]
  by_cases h : d = t
  · subst h
    simp only [if_true]
    split <;> rfl
  · rw [if_neg h, if_neg (fun e => h e.symm)]

/-- A better word for a temporary keeps all. -/
theorem Snap.refine {all : Array Oper} {k : Nat} {st0 st : St} {E : List HEnt} {i : Nat} {who : List Nat} (s : Snap all st0 E i who st) {o : Oper} {st1 : St} {g : Bool} (hch : chkHead all k = true) (hi : i < k) (ho : all[i]? = some o) (hr : Refined all st o st1 g) :
    Snap all st0 E i who st1 := by
  unfold Refined at hr
  split at hr
  · rw [hr.1]; exact s
  · rw [hr.1]; exact s
  · rename_i d b want hd
    rw [hr.1]
    have hslot : nth .any st.ts d = .c (.val (.bool b)) ∧ ∃ j oj, j < i ∧ all[j]? = some oj ∧ oj.dst = some d := by
      unfold decide? at hd
      obtain ⟨o', ho', hg, _⟩ := chkHead_spec hch hi
      rw [ho] at ho'; injection ho' with ho'; subst ho'
      split at hd
      · cases hd
      · rename_i j w2 hgu
        split at hd
        · rename_i d' hd'
          split at hd
          · split at hd <;> cases hd
          · split at hd <;> cases hd
          · rename_i b' hb'
            injection hd with e1 e2 e3
            subst e1; subst e2
            refine ⟨hb', j, ?_⟩
            rw [obind_eq, nth?_eq] at hd'
            cases hj : all.toList[j]? with
            | none => rw [hj] at hd'; cases hd'
            | some oj => rw [hj] at hd'; exact ⟨oj, (hg j w2 hgu).1, by simpa using hj, hd'⟩
          · cases hd
          · cases hd
        · cases hd
    obtain ⟨hb, jd, od, hjd, hod, hdd⟩ := hslot
    refine ⟨by show (lset st.ts d _).length = _; rw [lset_eq, List.length_set]; exact s.len, fun t ht => ?_, fun j o' d' hj ho' hd' V hp w v hv => ?_, s.names, s.ents, s.whos, s.news⟩
    · show (lset st.ts d _)[t]? = _
      rw [lset_eq, List.getElem?_set]
      have hne : d ≠ t := fun e => by subst e; exact ht jd od hjd hod hdd
      rw [if_neg hne]
      exact s.old t ht
    · have h0 := s.new j o' d' hj ho' hd' V hp w v hv
      show S.ok V hp w (nth .any (lset st.ts d _) d') v
      rw [nth_set]
      split
      · rename_i e
        subst e
        split
        · rw [hb] at h0
          replace h0 : v = .bool b := h0.1
          cases b <;> exact h0
        · trivial
      · exact h0
  · exact hr.elim

theorem Snap.skip {all : Array Oper} {k : Nat} {st0 : St} {E : List HEnt} {i : Nat} {e : HEnt} (s : Snap all st0 E i e.who e.st) {o : Oper} (hch : chkHead all k = true) (hi : i < k) (ho : all[i]? = some o) (he : E[i]? = some e) (hr : e.r = none) :
    Snap all st0 E (i + 1) e.who (e.st.put o.dst .und) := by
  obtain ⟨o', ho', _, d, hd, hdist⟩ := chkHead_spec hch hi
  rw [ho] at ho'; injection ho' with ho'; subst ho'
  rw [hd]
  refine ⟨by show (lset e.st.ts d _).length = _; rw [lset_eq, List.length_set]; exact s.len, fun t ht => ?_, fun j o' d' hj ho' hd' V hp w v hv => ?_, s.names, s.ents, fun m j hm => ?_, fun j e' q hj he' hq => ?_⟩
  · show (lset e.st.ts d _)[t]? = _
    rw [lset_eq, List.getElem?_set, if_neg (fun e => by subst e; exact ht i o (by omega) ho hd)]
    exact s.old t fun j o hj => ht j o (by omega)
  · show S.ok V hp w (nth .any (lset e.st.ts d _) d') v
    rw [nth_set]
    by_cases hji : j = i
    · subst hji
      rw [ho] at ho'; injection ho' with ho'; subst ho'
      rw [hd] at hd'; injection hd' with hd'; subst hd'
      rw [if_pos rfl]
      split
      · unfold resE at hv
        rw [he] at hv
        simp only [hr] at hv
        exact hv
      · trivial
    · rw [if_neg (fun e => by subst e; exact hdist j o' (by omega) hji ho' hd')]
      exact s.new j o' d' (by omega) ho' hd' V hp w v hv
  · obtain ⟨h1, h2⟩ := s.whos m j hm
    exact ⟨by omega, h2⟩
  · by_cases hji : j = i
    · subst hji
      rw [he] at he'; injection he' with he'; subst he'
      rw [hr] at hq; cases hq
    · exact s.news j e' q (by omega) he' hq

theorem Snap.step {all : Array Oper} {k : Nat} {st0 : St} {E : List HEnt} {i : Nat} {e : HEnt} (s : Snap all st0 E i e.who e.st) {o : Oper} (hch : chkHead all k = true) (hi : i < k) (ho : all[i]? = some o) (he : E[i]? = some e) {q : QR} (hr : e.r = some q) :
    Snap all st0 E (i + 1) (lapp e.who (lmap (fun _ => i) q.new)) ((e.st.alloc q.new).put o.dst q.res) := by
  obtain ⟨o', ho', _, d, hd, hdist⟩ := chkHead_spec hch hi
  rw [ho] at ho'; injection ho' with ho'; subst ho'
  rw [hd, lapp_eq, lmap_eq]
  have hent : ((e.st.alloc q.new).put (some d) q.res).ent = hpNew e.st.ent (llen e.st.hp) q.new := by rw [ent_put, ent_alloc]
  have hn : llen st0.hp + e.who.length = llen e.st.hp := s.names.symm
  refine ⟨by show (lset e.st.ts d _).length = _; rw [lset_eq, List.length_set]; exact s.len, fun t ht => ?_, fun j o' d' hj ho' hd' V hp w v hv => ?_, ?_, fun n hlt => ?_, fun m j hm => ?_, fun j e' q' hj he' hq => ?_⟩
  · show (lset e.st.ts d _)[t]? = _
    rw [lset_eq, List.getElem?_set, if_neg (fun e => by subst e; exact ht i o (by omega) ho hd)]
    exact s.old t fun j o hj => ht j o (by omega)
  · show S.ok V hp w (nth .any (lset e.st.ts d _) d') v
    rw [nth_set]
    by_cases hji : j = i
    · subst hji
      rw [ho] at ho'; injection ho' with ho'; subst ho'
      rw [hd] at hd'; injection hd' with hd'; subst hd'
      rw [if_pos rfl]
      split
      · unfold resE at hv
        rw [he] at hv
        simp only [hr] at hv
        exact hv
      · trivial
    · rw [if_neg (fun e => by subst e; exact hdist j o' (by omega) hji ho' hd')]
      exact s.new j o' d' (by omega) ho' hd' V hp w v hv
  · show llen (lapp e.st.hp q.new) = _
    rw [llen_eq, lapp_eq, List.length_append, List.length_append, List.length_map, ← llen_eq e.st.hp]
    omega
  · rw [hent]
    unfold hpNew
    rw [if_pos (by omega)]
    exact s.ents n hlt
  · rcases Nat.lt_or_ge m e.who.length with h | h
    · rw [List.getElem?_append_left h] at hm
      obtain ⟨h1, h2⟩ := s.whos m j hm
      exact ⟨by omega, h2⟩
    · rw [List.getElem?_append_right h, List.getElem?_map] at hm
      cases hq : q.new[m - e.who.length]? with
      | none => rw [hq] at hm; cases hm
      | some y =>
        rw [hq] at hm
        simp only [Option.map_some, Option.some.injEq] at hm
        subst hm
        exact ⟨by omega, e, q, m - e.who.length, he, hr, by omega, (List.getElem?_eq_some_iff.1 hq).1⟩
  · by_cases hji : j = i
    · subst hji
      rw [he] at he'; injection he' with he'; subst he'
      rw [hr] at hq; injection hq with hq; subst hq
      refine ⟨by omega, fun x y hx => ⟨?_, ?_⟩⟩
      · rw [List.getElem?_append_right (by omega), List.getElem?_map, show llen e.st.hp + x - llen st0.hp - e.who.length = x by omega, hx]
        rfl
      · rw [hent]
        exact hpNew_new hx
    · obtain ⟨h1, h2⟩ := s.news j e' q' (by omega) he' hq
      refine ⟨h1, fun x y hx => ?_⟩
      obtain ⟨h3, h4⟩ := h2 x y hx
      have hlt := (List.getElem?_eq_some_iff.1 h3).1
      refine ⟨by rw [List.getElem?_append_left hlt]; exact h3, ?_⟩
      rw [hent]
      unfold hpNew
      rw [if_pos (by omega)]
      exact h4
end
end Go.SX


/- A region that draws its order: whatever the order. No condition. -/
namespace Go.SX
open Go.RowKit
set_option linter.unusedVariables false
set_option linter.unusedSimpArgs false

section
variable {P : Program} {T : Tab} {Γ : FuncId → Option PC} {R : FuncId → Option Rule} {all : Array Oper} {k : Nat} {st0 : St} {E : List HEnt} {whoF : List Nat} {stF : St}

def AtFact (T : Tab) (Γ : FuncId → Option PC) (all : Array Oper) (k : Nat) (st0 : St) (E : List HEnt) (i : Nat) : Prop :=
  ∃ e o st, E[i]? = some e ∧ all[i]? = some o ∧ Snap all st0 E i e.who st ∧ Refined all st o e.st e.r.isSome ∧ Snap all st0 E i e.who e.st ∧
    (∀ q, e.r = some q → qop T Γ (lkL all i (llen st0.hp) e.who e.st) (llen e.st.hp) (evL all k i e.st) o.op = some q)

theorem chain_facts (hch : chkHead all k = true) : ∀ (l : List Oper) (i : Nat) (who : List Nat) (st : St) (Er : List HEnt), (all.toList.take k).drop i = l → E.drop i = Er → i + l.length = k →
    Chain T Γ all k (llen st0.hp) i l who st Er whoF stF → Snap all st0 E i who st → (∀ j, i ≤ j → j < k → AtFact T Γ all k st0 E j) ∧ Snap all st0 E k whoF stF
  | [], i, who, st, Er, _, _, hi, hc, s => by
    obtain ⟨_, rfl, rfl⟩ := hc
    have : i = k := by simpa using hi
    subst this
    exact ⟨fun j h1 h2 => by omega, s⟩
  | o :: l, i, who, st, Er, hl, hE, hi, hc, s => by
    obtain ⟨e, E', rfl, rfl, hr, hc⟩ := hc
    have hik : i < k := by simp only [List.length_cons] at hi; omega
    have ho : all[i]? = some o := by
      have : ((all.toList.take k).drop i)[0]? = some o := by rw [hl]; rfl
      rw [List.getElem?_drop, List.getElem?_take] at this
      simpa [hik] using this
    have hl' : (all.toList.take k).drop (i + 1) = l := by rw [← List.drop_drop, hl]; rfl
    have he : E[i]? = some e := by
      have : (E.drop i)[0]? = some e := by rw [hE]; rfl
      rw [List.getElem?_drop] at this
      simpa using this
    have hE' : E.drop (i + 1) = E' := by rw [← List.drop_drop, hE]; rfl
    have s1 := s.refine hch hik ho hr
    have hi' : i + 1 + l.length = k := by simp only [List.length_cons] at hi; omega
    cases hre : e.r with
    | none =>
      rw [hre] at hc
      obtain ⟨k1, k2⟩ := chain_facts hch l (i + 1) _ _ E' hl' hE' hi' hc (s1.skip hch hik ho he hre)
      refine ⟨fun j h1 h2 => ?_, k2⟩
      by_cases hj : j = i
      · subst hj
        exact ⟨e, o, st, he, ho, s, hr, s1, fun q hq => by rw [hre] at hq; cases hq⟩
      · exact k1 j (by omega) h2
    | some q =>
      rw [hre] at hc
      obtain ⟨hq, hc⟩ := hc
      obtain ⟨k1, k2⟩ := chain_facts hch l (i + 1) _ _ E' hl' hE' hi' hc (s1.step hch hik ho he hre)
      refine ⟨fun j h1 h2 => ?_, k2⟩
      by_cases hj : j = i
      · subst hj
        exact ⟨e, o, st, he, ho, s, hr, s1, fun q' hq' => by rw [hre] at hq'; injection hq' with hq'; subst hq'; exact hq⟩
      · exact k1 j (by omega) h2

theorem snap_start (all : Array Oper) (st0 : St) (E : List HEnt) : Snap all st0 E 0 [] st0 :=
  ⟨rfl, fun _ _ => rfl, fun _ _ _ h => absurd h (Nat.not_lt_zero _), rfl, fun _ _ => rfl, (fun m j h => by cases h), fun _ _ _ h => absurd h (Nat.not_lt_zero _)⟩

/-- The names that are so far. -/
def hpS (st0 : St) (whoF : List Nat) (stF : St) (L : Nat → Bool) (n : Nat) : Ent :=
  if n < llen st0.hp then st0.ent n else match whoF[n - llen st0.hp]? with | some j => if L j then stF.ent n else .dead | none => .dead

theorem hpS_old {L : Nat → Bool} {n : Nat} (h : n < llen st0.hp) : hpS st0 whoF stF L n = st0.ent n := by unfold hpS; rw [if_pos h]

theorem hpS_who {L : Nat → Bool} {n j : Nat} (h : llen st0.hp ≤ n) (hw : whoF[n - llen st0.hp]? = some j) : hpS st0 whoF stF L n = if L j then stF.ent n else .dead := by
  unfold hpS; rw [if_neg (by omega), hw]

structure Inv (base : Nat) (M : LM) (w0 : World) (all : Array Oper) (k : Nat) (st0 : St) (E : List HEnt) (whoF : List Nat) (stF : St) (L : Nat → Bool) (a : Act) (w : World) : Prop where
  defers : a.defers = []
  size : st0.ts.length = a.tmps.size
  ex : ∃ V, Mem base M w0 V (hpS st0 whoF stF L) w ∧
    (∀ (t : Nat) s v, (∀ j o, j < k → all[j]? = some o → o.dst ≠ some t) → st0.ts[t]? = some s → a.tmps[t]? = some v → S.ok V (hpS st0 whoF stF L) w s v) ∧
    (∀ j o d v, j < k → L j = true → all[j]? = some o → o.dst = some d → a.tmps[d]? = some v → S.ok V (hpS st0 whoF stF L) w (resE E j) v)
  hy : ∀ j e q, j < k → L j = true → E[j]? = some e → e.r = some q → ∀ p, q.hy = some p → p

variable {base : Nat} {M : LM} {w0 : World} {a : Act} {w : World} {L : Nat → Bool} {next : Act → World → Prop} {Q : Exit → Act → World → Prop}

theorem tmps_put_ne {a : Act} {d t : Nat} {v : Value} (h : d ≠ t) : (a.put (some d) v).tmps[t]? = a.tmps[t]? := by
  show (a.tmps.setIfInBounds d v)[t]? = _
  exact Array.getElem?_setIfInBounds_ne h

theorem tmps_put_eq {a : Act} {d : Nat} {v u : Value} (h : (a.put (some d) v).tmps[d]? = some u) : u = v := by
  have h' : (a.tmps.setIfInBounds d v)[d]? = some u := h
  rw [Array.getElem?_setIfInBounds] at h'
  simp only [if_true] at h'
  split at h'
  · injection h' with h'; exact h'.symm
  · cases h'

def addL (L : Nat → Bool) (i j : Nat) : Bool := if j = i then true else L j

/-- Is it wanted? As the text's order has it. -/
theorem wanted_at {V : Vl} {hp : Nat → Ent} {i : Nat} {who : List Nat} {st : St} {o : Oper} {st1 : St} {g : Bool} (hch : chkHead all k = true) (hi : i < k) (ho : all[i]? = some o) (hr : Refined all st o st1 g) (s : Snap all st0 E i who st)
    (hsz : st0.ts.length = a.tmps.size) (hL : ∀ j, (maskOf all i).testBit j = true → L j = true)
    (hres : ∀ j o d v, j < k → L j = true → all[j]? = some o → o.dst = some d → a.tmps[d]? = some v → S.ok V hp w (resE E j) v) :
    Region.wanted o (yielded all a.tmps) = g := by
  obtain ⟨o', ho', hg, _⟩ := chkHead_spec hch hi
  rw [ho] at ho'; injection ho' with ho'; subst ho'
  unfold Refined decide? at hr
  unfold Region.wanted
  cases hgu : o.guard with
  | none =>
    rw [hgu] at hr
    simp only at hr
    exact hr.2.symm
  | some gw =>
    obtain ⟨j, want⟩ := gw
    obtain ⟨hj1, hj2⟩ := hg j want hgu
    rw [hgu] at hr
    simp only [nth?_eq, obind_eq] at hr
    cases hjo : all[j]? with
    | none =>
      have : all.toList[j]? = none := by simpa using hjo
      rw [this] at hr
      exact hr.elim
    | some oj =>
      have hjo' : all.toList[j]? = some oj := by simpa using hjo
      rw [hjo', Option.bind_some] at hr
      cases hd : oj.dst with
      | none => rw [hd] at hr; exact hr.elim
      | some d =>
        rw [hd] at hr
        simp only at hr
        have slot : ∀ sl, nth .any st.ts d = sl → sl ≠ .any → ∃ v, a.tmps[d]? = some v ∧ S.ok V hp w sl v := by
          intro sl h1 h2
          rw [← h1] at h2 ⊢
          have hlt : d < st.ts.length := by
            rcases Nat.lt_or_ge d st.ts.length with h | h
            · exact h
            · exact absurd (by rw [nth_eq, List.getElem?_eq_none h]; rfl) h2
          have hlt' : d < a.tmps.size := by rw [← hsz, ← s.len]; exact hlt
          have hv : a.tmps[d]? = some (a.tmps[d]'hlt') := Array.getElem?_eq_getElem hlt'
          exact ⟨_, hv, s.new j oj d hj1 hjo hd V hp w _ (hres j oj d _ (by omega) (hL j hj2) hjo hd hv)⟩
        have hy : ∀ v, a.tmps[d]? = some v → yielded all a.tmps j = match v with | .bool b => some b | _ => none := by
          intro v hv
          unfold yielded
          rw [hjo, Option.bind_some, hd, Option.bind_some, hv]
          cases v <;> rfl
        simp only
        split at hr
        · rename_i e
          split at e
          · rename_i he
            obtain ⟨v, h1, h2⟩ := slot _ he (by simp)
            replace h2 : v = .bool true := h2
            rw [hr.2, hy v h1, h2]
            cases want <;> simp_all
          · rename_i he
            obtain ⟨v, h1, h2⟩ := slot _ he (by simp)
            replace h2 : v = .bool false := h2
            rw [hr.2, hy v h1, h2]
            cases want <;> simp_all
          all_goals cases e
        · rename_i e
          split at e
          · rename_i he
            obtain ⟨v, h1, h2⟩ := slot _ he (by simp)
            replace h2 : v = .bool true := h2
            rw [hr.2, hy v h1, h2]
            cases want <;> simp_all
          · rename_i he
            obtain ⟨v, h1, h2⟩ := slot _ he (by simp)
            replace h2 : v = .bool false := h2
            rw [hr.2, hy v h1, h2]
            cases want <;> simp_all
          · cases e
          · rename_i he
            obtain ⟨v, h1, h2⟩ := slot _ he (by simp)
            replace h2 : v = undef := h2
            rw [hr.2, hy v h1, h2]
            simp [undef]
          · cases e
        · rename_i d' b' want' e
          split at e
          · split at e <;> cases e
          · split at e <;> cases e
          · rename_i b he
            obtain ⟨v, h1, h2⟩ := slot _ he (by simp)
            replace h2 : v = .bool b := h2.1
            injection e with e1 e2 e3
            subst e1; subst e2; subst e3
            rw [hr.2, hy v h1, h2]
            cases b <;> cases want <;> rfl
          · cases e
          · cases e
        · exact hr.elim

theorem writerOf_some : ∀ {k t j : Nat}, writerOf all t k = some j → j < k ∧ ∃ o, all[j]? = some o ∧ o.dst = some t
  | 0, t, j, h => by cases h
  | k + 1, t, j, h => by
    unfold writerOf at h
    split at h
    · rename_i o ho
      split at h
      · rename_i hd
        injection h with h; subst h
        exact ⟨by omega, o, ho, hd⟩
      · obtain ⟨h1, h2⟩ := writerOf_some h
        exact ⟨by omega, h2⟩
    · obtain ⟨h1, h2⟩ := writerOf_some h
      exact ⟨by omega, h2⟩

theorem writerOf_none : ∀ {k t : Nat}, writerOf all t k = none → ∀ j o, j < k → all[j]? = some o → o.dst ≠ some t
  | 0, t, _, j, o, hj, _ => absurd hj (Nat.not_lt_zero _)
  | k + 1, t, h, j, o, hj, ho => by
    unfold writerOf at h
    split at h
    · rename_i o' ho'
      split at h
      · cases h
      · rename_i hd
        by_cases hjk : j = k
        · subst hjk
          rw [ho] at ho'; injection ho' with ho'; subst ho'
          exact hd
        · exact writerOf_none h j o (by omega) ho
    · rename_i hn
      by_cases hjk : j = k
      · subst hjk
        exact absurd ho (by rw [hn]; simp)
      · exact writerOf_none h j o (by omega) ho

theorem S.ok_any (V : Vl) (hp : Nat → Ent) (w : World) (v : Value) : S.ok V hp w .any v := trivial

/-- What an operation leans on is so. -/
theorem evL_ok {V : Vl} {hp : Nat → Ent} {i : Nat} {who : List Nat} {st : St} (hi : i ≤ k) (s : Snap all st0 E i who st) (hlt : ∀ j, (maskOf all i).testBit j = true → j < i)
    (hsz : st0.ts.length = a.tmps.size) (hL : ∀ j, (maskOf all i).testBit j = true → L j = true)
    (hold : ∀ (t : Nat) s v, (∀ j o, j < k → all[j]? = some o → o.dst ≠ some t) → st0.ts[t]? = some s → a.tmps[t]? = some v → S.ok V hp w s v)
    (hres : ∀ j o d v, j < k → L j = true → all[j]? = some o → o.dst = some d → a.tmps[d]? = some v → S.ok V hp w (resE E j) v) (x : Operand) :
    S.ok V hp w (evL all k i st x) (a.eval x) := by
  have htmp : ∀ t, (∀ s v, st.ts[t]? = some s → a.tmps[t]? = some v → S.ok V hp w s v) → S.ok V hp w (st.eval (.tmp t)) (a.eval (.tmp t)) := by
    intro t h
    show S.ok V hp w (nth .any st.ts t) (a.tmps.getD t undef)
    rw [nth_eq]
    cases hs : st.ts[t]? with
    | none => trivial
    | some sl =>
      have ht : t < a.tmps.size := by have := (List.getElem?_eq_some_iff.1 hs).1; rw [s.len, hsz] at this; exact this
      have hv : a.tmps[t]? = some a.tmps[t] := Array.getElem?_eq_getElem ht
      have := h sl _ hs hv
      simpa [Array.getD, ht] using this
  cases x with
  | tmp t =>
    unfold evL
    simp only
    split
    · rename_i j hj
      obtain ⟨h1, o, h2, h3⟩ := writerOf_some hj
      split
      · rename_i hm
        refine htmp t fun sl v hs hv => ?_
        have := s.new j o t (hlt j hm) h2 h3 V hp w v (hres j o t v h1 (hL j hm) h2 h3 hv)
        rw [nth_eq, hs] at this
        exact this
      · trivial
    · rename_i hn
      refine htmp t fun sl v hs hv => ?_
      rw [s.old t fun j o hj => writerOf_none hn j o (by omega)] at hs
      exact hold t sl v (writerOf_none hn) hs hv
  | const v => exact ok_const v
  | global g => trivial
  | func f => exact ⟨rfl, fun n hn => by simp at hn⟩

theorem lkL_ok {V : Vl} {i : Nat} {who : List Nat} {st : St} (hi : i < k) (s : Snap all st0 E i who st) (f : Snap all st0 E k whoF stF) (hL : ∀ j, (maskOf all i).testBit j = true → L j = true)
    (m : Mem base M w0 V (hpS st0 whoF stF L) w) : LkOk V (hpS st0 whoF stF L) (lkL all i (llen st0.hp) who st) w := by
  intro n hl
  have he : lkL all i (llen st0.hp) who st n = hpS st0 whoF stF L n := by
    unfold lkL at hl ⊢
    split
    · rename_i hn
      rw [hpS_old hn]
      exact s.ents n hn
    · rename_i hn
      rw [if_neg hn] at hl
      rw [nth?_eq] at hl ⊢
      cases hw : who[n - llen st0.hp]? with
      | none => rw [hw] at hl; cases hl
      | some j =>
        rw [hw] at hl
        simp only at hl ⊢
        split at hl
        · rename_i hm
          rw [if_pos hm]
          obtain ⟨h1, e, q, x, h2, h3, h4, h5⟩ := s.whos _ j hw
          have hx : q.new[x]? = some q.new[x] := List.getElem?_eq_getElem h5
          obtain ⟨h6, h7⟩ := s.news j e q h1 h2 h3
          obtain ⟨h8, h9⟩ := f.news j e q (by omega) h2 h3
          have hn' : n = llen e.st.hp + x := by omega
          rw [hpS_who (j := j) (by omega) (by rw [hn']; exact (h9 x _ hx).1), if_pos (hL j hm), hn', (h7 x _ hx).2, (h9 x _ hx).2]
        · cases hl
  rw [he]
  exact ⟨rfl, m.ents n⟩

/-- One more operation of the head. -/
theorem inv_skip {i : Nat} {e : HEnt} {o : Oper} (hch : chkHead all k = true) (hi : i < k) (he : E[i]? = some e) (ho : all[i]? = some o) (hr : e.r = none) (f : Snap all st0 E k whoF stF)
    (v : Inv base M w0 all k st0 E whoF stF L a w) : Inv base M w0 all k st0 E whoF stF (addL L i) (a.put o.dst undef) w := by
  obtain ⟨o', ho', _, d, hd, hdist⟩ := chkHead_spec hch hi
  rw [ho] at ho'; injection ho' with ho'; subst ho'
  have hhp : hpS st0 whoF stF (addL L i) = hpS st0 whoF stF L := by
    funext n
    unfold hpS
    split
    · rfl
    · split
      · rename_i j hj
        obtain ⟨_, e', q, x, h2, h3, _⟩ := f.whos _ j hj
        have : j ≠ i := fun h => by subst h; rw [he] at h2; injection h2 with h2; subst h2; rw [hr] at h3; cases h3
        unfold addL
        rw [if_neg this]
      · rfl
  obtain ⟨V, h1, h2, h3⟩ := v.ex
  rw [hd]
  refine ⟨by rw [put_defers]; exact v.defers, by rw [v.size]; show _ = (a.tmps.setIfInBounds d undef).size; simp, ⟨V, by rw [hhp]; exact h1, fun t s v' hnd hs hv => ?_, fun j o' d' v' hj hL ho' hd' hv => ?_⟩, fun j e' q hj hL he' hq => ?_⟩
  · rw [hhp]
    rw [tmps_put_ne (fun e => by subst e; exact hnd i o hi ho hd)] at hv
    exact h2 t s v' hnd hs hv
  · rw [hhp]
    by_cases hji : j = i
    · subst hji
      rw [ho] at ho'; injection ho' with ho'; subst ho'
      rw [hd] at hd'; injection hd' with hd'; subst hd'
      rw [tmps_put_eq hv]
      unfold resE
      rw [he]
      simp only [hr]
      rfl
    · rw [tmps_put_ne (fun e => by subst e; exact hdist j o' hj hji ho' hd')] at hv
      exact h3 j o' d' v' hj (by unfold addL at hL; rw [if_neg hji] at hL; exact hL) ho' hd' hv
  · by_cases hji : j = i
    · subst hji
      rw [he] at he'; injection he' with he'; subst he'
      rw [hr] at hq; cases hq
    · exact v.hy j e' q hj (by unfold addL at hL; rw [if_neg hji] at hL; exact hL) he' hq

theorem inv_go (hT : TabOk P T) (hΓ : GamOk P Γ) {i : Nat} {e : HEnt} {o : Oper} (hch : chkHead all k = true) (hi : i < k) (he : E[i]? = some e) (ho : all[i]? = some o) {q : QR} (hr : e.r = some q) (hob : ∀ p, q.ob = some p → p)
    (s : Snap all st0 E i e.who e.st) (f : Snap all st0 E k whoF stF) (hq : qop T Γ (lkL all i (llen st0.hp) e.who e.st) (llen e.st.hp) (evL all k i e.st) o.op = some q)
    (hlt : ∀ j, (maskOf all i).testBit j = true → j < i) (hL : ∀ j, (maskOf all i).testBit j = true → L j = true) (hni : L i = false)
    (v : Inv base M w0 all k st0 E whoF stF L a w) (h : ∀ u w', Inv base M w0 all k st0 E whoF stF (addL L i) (a.put o.dst u) w' → next (a.put o.dst u) w') : o.wp P a w next Q := by
  obtain ⟨o', ho', _, d, hd, hdist⟩ := chkHead_spec hch hi
  rw [ho] at ho'; injection ho' with ho'; subst ho'
  obtain ⟨V, h1, h2, h3⟩ := v.ex
  obtain ⟨n1, n2⟩ := f.news i e q hi he hr
  have hdead : ∀ j, j < q.new.length → hpS st0 whoF stF L (llen e.st.hp + j) = .dead := by
    intro j hj
    have hx : q.new[j]? = some q.new[j] := List.getElem?_eq_getElem hj
    rw [hpS_who (j := i) (by omega) (n2 j _ hx).1, hni]
    rfl
  have hhp : hpNew (hpS st0 whoF stF L) (llen e.st.hp) q.new = hpS st0 whoF stF (addL L i) := by
    funext n
    rcases hpNew_cases (hpS st0 whoF stF L) (llen e.st.hp) q.new n with ⟨j, y, k1, k2, k3⟩ | ⟨k1, k2⟩
    · rw [k3, hpS_who (j := i) (by omega) (by rw [k1]; exact (n2 j y k2).1)]
      unfold addL
      rw [if_pos rfl, k1]
      simp only [if_true]
      exact ((n2 j y k2).2).symm
    · rw [k2]
      unfold hpS
      split
      · rfl
      · rename_i hn
        split
        · rename_i j hj
          have : j ≠ i := fun hji => by
            subst hji
            obtain ⟨_, e', q', x, g2, g3, g4, g5⟩ := f.whos _ j hj
            rw [he] at g2; injection g2 with g2; subst g2
            rw [hr] at g3; injection g3 with g3; subst g3
            omega
          unfold addL
          rw [if_neg this]
        · rfl
  refine qop_ok hT hΓ h1 (lkL_ok hi s f hL h1) (evL_ok (Nat.le_of_lt hi) s hlt v.size hL h2 h3) hq hdead hob (fun u w' V' g => ?_)
  refine h u w' ?_
  rw [hd]
  have gx := g.vx
  have gm := g.mem
  have gr := g.res
  rw [hhp] at gx gm gr
  refine ⟨by rw [put_defers]; exact v.defers, by rw [v.size]; show _ = (a.tmps.setIfInBounds d u).size; simp, ⟨V', gm, fun t s' v' hnd hs hv => ?_, fun j o' d' v' hj hLj ho' hd' hv => ?_⟩, fun j e' q' hj hLj he' hq' => ?_⟩
  · rw [tmps_put_ne (fun e => by subst e; exact hnd i o hi ho hd)] at hv
    exact S.ok_ext gx (h2 t s' v' hnd hs hv)
  · by_cases hji : j = i
    · subst hji
      rw [ho] at ho'; injection ho' with ho'; subst ho'
      rw [hd] at hd'; injection hd' with hd'; subst hd'
      rw [tmps_put_eq hv]
      unfold resE
      rw [he]
      simp only [hr]
      exact gr
    · rw [tmps_put_ne (fun e => by subst e; exact hdist j o' hj hji ho' hd')] at hv
      exact S.ok_ext gx (h3 j o' d' v' hj (by unfold addL at hLj; rw [if_neg hji] at hLj; exact hLj) ho' hd' hv)
  · by_cases hji : j = i
    · subst hji
      rw [he] at he'; injection he' with he'; subst he'
      rw [hr] at hq'; injection hq' with hq'; subst hq'
      exact g.hy
    · exact v.hy j e' q' hj (by unfold addL at hLj; rw [if_neg hji] at hLj; exact hLj) he' hq'

/-- All of the head is done. -/
theorem inv_end (hall : ∀ j, j < k → L j = true) (hE : E.length = k) (f : Snap all st0 E k whoF stF) (v : Inv base M w0 all k st0 E whoF stF L a w) : Sat base M w0 stF a w ∧ HyE E := by
  obtain ⟨V, h1, h2, h3⟩ := v.ex
  have hhp : hpS st0 whoF stF L = stF.ent := by
    funext n
    unfold hpS
    split
    · rename_i hn; exact (f.ents n hn).symm
    · rename_i hn
      split
      · rename_i j hj
        rw [if_pos (hall j (f.whos _ j hj).1)]
      · rename_i hj
        have hge := List.getElem?_eq_none_iff.1 hj
        have hn' := f.names
        show Ent.dead = nth .dead stF.hp n
        rw [nth_eq, List.getElem?_eq_none (by rw [← llen_eq]; omega)]
        rfl
  rw [hhp] at h1 h2 h3
  refine ⟨⟨v.defers, V, ⟨by rw [f.len]; exact v.size, fun t s u hs hu => ?_, h1⟩⟩, fun e he q hq => ?_⟩
  · by_cases hd : ∃ j o, j < k ∧ all[j]? = some o ∧ o.dst = some t
    · obtain ⟨j, o, hj, ho, hd⟩ := hd
      have := f.new j o t hj ho hd V stF.ent w u (h3 j o t u hj (hall j hj) ho hd hu)
      rw [nth_eq, hs] at this
      exact this
    · have hnd : ∀ j o, j < k → all[j]? = some o → o.dst ≠ some t := fun j o hj ho h => hd ⟨j, o, hj, ho, h⟩
      rw [f.old t hnd] at hs
      exact h2 t s u hnd hs hu
  · obtain ⟨j, hj, rfl⟩ := List.mem_iff_getElem.1 he
    exact v.hy j _ q (by omega) (hall j (by omega)) (List.getElem?_eq_getElem hj) hq
end
end Go.SX

