/- What a write leaves of the symbolic values; rows that are not written any more. No condition. -/
import Derived.Test.YtdfdoigiehmnoaaSx12
namespace Go.SX
open Go.RowKit
set_option linter.unusedVariables false
set_option linter.unusedSimpArgs false

def hpMap (f : C → C) (hp : Nat → Ent) (n : Nat) : Ent := (hp n).map f
def hpSet (hp : Nat → Ent) (m : Nat) (e : Ent) (n : Nat) : Ent := if n = m then e else hp n

theorem ent_map (st : St) (f : C → C) : (st.map f).ent = hpMap f st.ent := by
  funext n
  show nth .dead (lmap (Ent.map f) st.hp) n = (nth .dead st.hp n).map f
  rw [nth_eq, nth_eq, lmap_eq, List.getElem?_map]
  cases st.hp[n]? <;> rfl

theorem ent_set {hp : List Ent} {m : Nat} (hm : m < hp.length) (e : Ent) (ts : List S) : (St.mk ts (lset hp m e)).ent = hpSet (fun n => nth .dead hp n) m e := by
  funext n
  show nth .dead (lset hp m e) n = if n = m then e else nth .dead hp n
  rw [nth_eq, nth_eq, lset_eq, List.getElem?_set]
  by_cases h : m = n
  · subst h; simp [hm]
  · rw [if_neg h, if_neg (fun h' => h h'.symm)]

theorem ent_lt {st : St} {n : Nat} (h : (st.ent n).live = true) : n < st.hp.length := by
  have h' : (nth .dead st.hp n).live = true := h
  rw [nth_eq] at h'
  cases hn : st.hp[n]? with
  | none => rw [hn] at h'; cases h'
  | some e => exact (List.getElem?_eq_some_iff.1 hn).1

section
variable {V V' : Vl} {hp hp' : Nat → Ent} {w w' : World} {f : C → C}

/-- What holds of a cell holds of its turned word. -/
def Turns (V : Vl) (hp : Nat → Ent) (w : World) (f : C → C) (V' : Vl) (hp' : Nat → Ent) (w' : World) : Prop := ∀ c v, C.ok V hp w c v → C.ok V' hp' w' (f c) v

theorem Turns.all (t : Turns V hp w f V' hp' w') {cs : List C} {vs : List Value} (h : okAll V hp w cs vs) : okAll V' hp' w' (lmap f cs) vs := by
  rw [lmap_eq]
  refine ⟨by simp [h.1], fun j c v hc hv => ?_⟩
  rw [List.getElem?_map] at hc
  cases hx : cs[j]? with
  | none => rw [hx] at hc; cases hc
  | some x => rw [hx] at hc; simp only [Option.map_some, Option.some.injEq] at hc; subst hc; exact t _ _ (h.2 j x v hx hv)

theorem Turns.s (t : Turns V hp w f V' hp' w') {s : S} {v : Value} (h : S.ok V hp w s v) : S.ok V' hp' w' (S.map f s) v := by
  cases s with
  | c x => exact t _ _ h
  | agg cs => obtain ⟨vs, h1, h2⟩ := h; exact ⟨vs, h1, t.all h2⟩
  | tup xs =>
    obtain ⟨vs, h1, h2, h3⟩ := h
    refine ⟨vs, h1, by rw [lmap_eq, List.length_map]; exact h2, fun j x v hx hv => ?_⟩
    rw [lmap_eq, List.getElem?_map] at hx
    cases hy : xs[j]? with
    | none => rw [hy] at hx; cases hx
    | some y =>
      rw [hy] at hx
      simp only [Option.map_some, Option.some.injEq] at hx
      subst hx
      have := h3 j y v hy hv
      unfold okTop at this ⊢
      simp only
      split
      · rename_i hb; rw [if_pos hb] at this; obtain ⟨us, k1, k2⟩ := this; exact ⟨us, k1, t.all k2⟩
      · rename_i hb; rw [if_neg hb] at this; exact t.all this
  | und => exact h
  | arr e xs => exact S.arr_ext h
  | any => trivial

theorem lentish_map {f : C → C} {e : Ent} (h : (e.map f).lentish) : e.lentish := by
  cases e with
  | row fr e xs => exact h
  | _ => exact h.elim

theorem lentish_flat {fr : Bool} {e : Ty} {xs : List e.den} (h : (Ent.row fr e xs).lentish) : e.flat = true := by
  cases fr with
  | false => exact h
  | true => exact h.elim

theorem lentish_live {e : Ent} (h : e.lentish) : e.live = true := by
  cases e with
  | row fr e xs => rfl
  | _ => exact h.elim

theorem map_live (e : Ent) : (e.map f).live = e.live := by cases e <;> rfl

/-- The kills: a word is kept, or nothing is known any more. -/
def Kills (f : C → C) : Prop := ∀ c, f c = c ∨ f c = .any

theorem C.ok_kill (hf : Kills f) {c : C} {v : Value} (h : C.ok V hp w c v) : C.ok V (hpMap f hp) w (f c) v := by
  rcases hf c with e | e
  · rw [e]
    have hrow : ∀ {n fr e xs}, hp n = .row fr e xs → hpMap f hp n = .row fr e xs := fun {n fr e xs} h => by show (hp n).map f = _; rw [h]; rfl
    have hbx : ∀ {n cs}, hp n = .bx cs → ∃ cs', hpMap f hp n = .bx cs' := fun {n cs} h => ⟨lmap f cs, by show (hp n).map f = _; rw [h]; rfl⟩
    cases c with
    | own n => obtain ⟨fr, e, xs, h1, h2⟩ := h; exact ⟨fr, e, xs, hrow h1, h2⟩
    | pre n k => obtain ⟨fr, e, xs, h1, h2⟩ := h; exact ⟨fr, e, xs, hrow h1, h2⟩
    | brw n e' ys => obtain ⟨⟨fr, e, xs, h1⟩, h2⟩ := h; exact ⟨⟨fr, e, xs, hrow h1⟩, h2⟩
    | box n off => obtain ⟨h1, h2, cs, h3⟩ := h; exact ⟨h1, h2, hbx h3⟩
    | elt n i off => obtain ⟨h0, fr, e, xs, h1, h2⟩ := h; exact ⟨h0, fr, e, xs, hrow h1, h2⟩
    | fn g caps => exact ⟨h.1, fun n hn => ⟨(h.2 n hn).1, let ⟨_, cs, h3⟩ := h.2 n hn; hbx h3⟩⟩
    | _ => exact h
  · rw [e]; exact C.oneCell h

theorem Ent.ok_kill (hf : Kills f) {n : Nat} {e : Ent} (h : e.ok V hp w n) : (e.map f).ok V (hpMap f hp) w n := by
  cases e with
  | dead => trivial
  | bx cs => obtain ⟨vals, el, h1, h2⟩ := h; exact ⟨vals, el, h1, Turns.all (fun c v hc => C.ok_kill hf hc) h2⟩
  | row fr e xs => exact h

theorem Rel.kill {base : Nat} {M : LM} {w0 : World} {st : St} {ts : Array Value} (hf : Kills f) (r : Rel base M w0 V st ts w) : Rel base M w0 V (st.map f) ts w := by
  have m := r.mem
  refine ⟨by show (lmap _ _).length = _; rw [lmap_eq, List.length_map]; exact r.len, fun i s v hs hv => ?_, ?_⟩
  · rw [ent_map]
    have hs' : (lmap (S.map f) st.ts)[i]? = some s := hs
    rw [lmap_eq, List.getElem?_map] at hs'
    cases hx : st.ts[i]? with
    | none => rw [hx] at hs'; cases hs'
    | some x =>
      rw [hx] at hs'
      simp only [Option.map_some, Option.some.injEq] at hs'
      subst hs'
      exact Turns.s (fun c v hc => C.ok_kill hf hc) (r.slots i x v hx hv)
  · rw [ent_map]
    refine ⟨fun n => Ent.ok_kill hf (m.ents n), fun n cs h => ?_, fun n hl => m.own n (by rw [← map_live (f := f)]; exact hl), fun n e xs h => ?_, fun n n' hl hl' => m.dist n n' (by rw [← map_live (f := f)]; exact hl) (by rw [← map_live (f := f)]; exact hl'), m.z0, m.z1, m.kept, fun n hl hh => m.lent n (lentish_map hl) hh⟩
    · have h' : (st.ent n).map f = .bx cs := h
      cases hn : st.ent n with
      | bx cs' => exact m.box n cs' hn
      | dead => rw [hn] at h'; cases h'
      | row fr e xs => rw [hn] at h'; cases h'
    · have h' : (st.ent n).map f = .row true e xs := h
      cases hn : st.ent n with
      | row fr e' xs' => rw [hn] at h'; exact m.mine n e xs (by rw [hn]; exact h')
      | dead => rw [hn] at h'; cases h'
      | bx cs => rw [hn] at h'; cases h'

theorem kills_killO (m : Nat) : Kills (killO m) := fun c =>
  match c with
  | .val _ => .inl rfl
  | .tru  => .inl rfl
  | .fls  => .inl rfl
  | .rd _ _ _ => .inl rfl
  | .own n => if h : n = m then .inr (if_pos h) else .inl (if_neg h)
  | .pre n _ => if h : n = m then .inr (if_pos h) else .inl (if_neg h)
  | .brw n _ _ => if h : n = m then .inr (if_pos h) else .inl (if_neg h)
  | .box _ _ => .inl rfl
  | .at_ _ _ _ _ => .inl rfl
  | .elt n _ _ => if h : n = m then .inr (if_pos h) else .inl (if_neg h)
  | .fn _ _ => .inl rfl
  | .clo _ _ _ _ => .inl rfl
  | .any  => .inl rfl
theorem kills_killB (m : Nat) : Kills (killB m) := fun c =>
  match c with
  | .val _ => .inl rfl
  | .tru  => .inl rfl
  | .fls  => .inl rfl
  | .rd _ _ _ => .inl rfl
  | .own _ => .inl rfl
  | .pre _ _ => .inl rfl
  | .brw n _ _ => if h : n = m then .inr (if_pos h) else .inl (if_neg h)
  | .box _ _ => .inl rfl
  | .at_ _ _ _ _ => .inl rfl
  | .elt _ _ _ => .inl rfl
  | .fn _ _ => .inl rfl
  | .clo _ _ _ _ => .inl rfl
  | .any  => .inl rfl

/-! ### Words that do not name 'm' -/

def C.names (m : Nat) : C → Bool
  | .own n => n == m
  | .pre n _ => n == m
  | .brw n _ _ => n == m
  | .elt n _ _ => n == m
  | .box n _ => n == m
  | .fn _ caps => caps.any (· == m)
  | _ => false

def without (hp : Nat → Ent) (m : Nat) (n : Nat) : Ent := if n = m then .dead else hp n

theorem without_ne {m n : Nat} (h : n ≠ m) : without hp m n = hp n := by unfold without; rw [if_neg h]

theorem C.ok_without {m : Nat} {c : C} {v : Value} (hn : c.names m = false) (h : C.ok V hp w c v) : C.ok V (without hp m) w c v := by
  cases c with
  | own n => obtain ⟨fr, e, xs, h1, h2⟩ := h; exact ⟨fr, e, xs, by rw [without_ne (by simpa [C.names] using hn)]; exact h1, h2⟩
  | pre n k => obtain ⟨fr, e, xs, h1, h2⟩ := h; exact ⟨fr, e, xs, by rw [without_ne (by simpa [C.names] using hn)]; exact h1, h2⟩
  | brw n e' ys => obtain ⟨⟨fr, e, xs, h1⟩, h2⟩ := h; exact ⟨⟨fr, e, xs, by rw [without_ne (by simpa [C.names] using hn)]; exact h1⟩, h2⟩
  | box n off => obtain ⟨h1, h2, cs, h3⟩ := h; exact ⟨h1, h2, cs, by rw [without_ne (by simpa [C.names] using hn)]; exact h3⟩
  | elt n i off => obtain ⟨h0, fr, e, xs, h1, h2⟩ := h; exact ⟨h0, fr, e, xs, by rw [without_ne (by simpa [C.names] using hn)]; exact h1, h2⟩
  | fn g caps =>
    refine ⟨h.1, fun n hm => ⟨(h.2 n hm).1, ?_⟩⟩
    obtain ⟨_, cs, h3⟩ := h.2 n hm
    have hne : n ≠ m := by
      intro e; subst e
      simp [C.names] at hn
      exact hn n hm rfl
    exact ⟨cs, by rw [without_ne hne]; exact h3⟩
  | _ => exact h

/-! ### A row that is not written any more -/

def Vl.freeze (V : Vl) (m base : Nat) : Vl where
  blk := V.blk
  has := V.has
  Z0 b := V.Z0 b ∨ (V.has m ∧ b = V.blk m ∧ b < base)
  Z1 b := V.Z1 b ∨ (V.has m ∧ b = V.blk m ∧ base ≤ b)

theorem Vl.freeze_old {m base : Nat} {fr : Bool} {b : Nat} (h : V.Z fr b) : (V.freeze m base).Z fr b := by
  rcases h with h | ⟨h, k⟩
  · exact .inl (.inl h)
  · exact .inr ⟨h, .inl k⟩

theorem Vl.freeze_new {m base : Nat} (hh : V.has m) : (V.freeze m base).Z false (V.blk m) := by
  rcases Nat.lt_or_ge (V.blk m) base with h | h
  · exact .inr ⟨rfl, .inr ⟨hh, rfl, h⟩⟩
  · exact .inl (.inr ⟨hh, rfl, h⟩)

theorem Vl.freeze_mine {m base : Nat} (hh : V.has m) (h : base ≤ V.blk m) : (V.freeze m base).Z true (V.blk m) := .inl (.inr ⟨hh, rfl, h⟩)

theorem Vl.freeze_cases {m base : Nat} {fr : Bool} {b : Nat} (h : (V.freeze m base).Z fr b) : V.Z fr b ∨ (V.has m ∧ b = V.blk m) := by
  rcases h with (h | ⟨h1, h2, _⟩) | ⟨h, k | ⟨h1, h2, _⟩⟩
  · exact .inl (.inl h)
  · exact .inr ⟨h1, h2⟩
  · exact .inl (.inr ⟨h, k⟩)
  · exact .inr ⟨h1, h2⟩

theorem VX.freeze (m base : Nat) : VX V (without hp m) w (V.freeze m base) (without hp m) w :=
  ⟨fun _ _ => ⟨rfl, Iff.rfl, rfl⟩, fun _ h => .inl h, fun _ h => .inl h, fun _ _ => rfl, fun _ _ _ => rfl⟩

theorem freeze_turns {base m : Nat} {fr : Bool} {e : Ty} {xs : List e.den} (hm : hp m = .row fr e xs) (hok : (Ent.row fr e xs).ok V hp w m) (hmine : fr = true → V.has m → base ≤ V.blk m) :
    Turns V hp w (freezeC m fr e xs) (V.freeze m base) (hpSet (hpMap (freezeC m fr e xs) hp) m .dead) w := by
  have hz : ∀ b, (V.Z fr b ∨ (V.has m ∧ b = V.blk m)) → (V.freeze m base).Z fr b := by
    intro b hb
    rcases hb with hb | ⟨h1, h2⟩
    · exact Vl.freeze_old hb
    · subst h2
      cases fr with
      | false => exact Vl.freeze_new h1
      | true => exact Vl.freeze_mine h1 (hmine rfl h1)
  have hne : ∀ {n}, n ≠ m → ∀ {fr' e' xs'}, hp n = .row fr' e' xs' → hpSet (hpMap (freezeC m fr e xs) hp) m .dead n = .row fr' e' xs' := by
    intro n hn fr' e' xs' h
    show (if n = m then _ else (hp n).map _) = _
    rw [if_neg hn, h]; rfl
  have hbx : ∀ {n cs}, hp n = .bx cs → ∃ cs', hpSet (hpMap (freezeC m fr e xs) hp) m .dead n = .bx cs' := by
    intro n cs h
    have hn : n ≠ m := fun e => by subst e; rw [hm] at h; cases h
    exact ⟨_, by show (if n = m then _ else (hp n).map _) = _; rw [if_neg hn, h]; rfl⟩
  intro c v h
  cases c with
  | own n =>
    obtain ⟨fr', e', xs', h1, h2⟩ := h
    by_cases hn : n = m
    · subst hn
      rw [hm] at h1
      injection h1 with e1 e2 e3
      subst e1; subst e2; cases e3
      simp only [freezeC, if_true]
      have := row_rd hok h2 (Nat.le_refl _)
      rw [List.take_length] at this
      exact this.mono hz (fun _ _ => rfl)
    · simp only [freezeC, if_neg hn]
      exact ⟨fr', e', xs', hne hn h1, h2⟩
  | pre n k =>
    obtain ⟨fr', e', xs', h1, h3, h2⟩ := h
    by_cases hn : n = m
    · subst hn
      rw [hm] at h1
      injection h1 with e1 e2 e3
      subst e1; subst e2; cases e3
      simp only [freezeC, if_true]
      exact (row_rd hok h2 h3).mono hz (fun _ _ => rfl)
    · simp only [freezeC, if_neg hn]
      exact ⟨fr', e', xs', hne hn h1, h3, h2⟩
  | brw n e' ys =>
    obtain ⟨⟨fr', e2, xs', h1⟩, h2⟩ := h
    by_cases hn : n = m
    · subst hn
      simp only [freezeC, if_true]
      exact h2.mono (fun b hb => hb.elim (fun h => Vl.freeze_old h) (fun ⟨k1, k2⟩ => by subst k2; exact Vl.freeze_new k1)) (fun _ _ => rfl)
    · simp only [freezeC, if_neg hn]
      exact ⟨⟨fr', e2, xs', hne hn h1⟩, h2.mono (fun b hb => hb.elim (fun h => .inl (Vl.freeze_old h)) .inr) (fun _ _ => rfl)⟩
  | elt n i off =>
    obtain ⟨h0, fr', e', xs', h1, h2, h3⟩ := h
    by_cases hn : n = m
    · subst hn
      rw [hm] at h1
      injection h1 with e1 e2 e3
      subst e1; subst e2; cases e3
      simp only [freezeC, if_true]
      obtain ⟨es, k1, k2, k3⟩ := row_elem hok h0 h2
      refine ⟨V.blk n, i * e.size, h3, hz _ (.inr ⟨h0, rfl⟩), es, k1, fun j hj => k2 j _ (List.getElem?_eq_getElem hj), k3.mono (fun b hb => hz b (.inl hb)) (fun _ _ => rfl)⟩
    · simp only [freezeC, if_neg hn]
      exact ⟨h0, fr', e', xs', hne hn h1, h2, h3⟩
  | box n off => obtain ⟨h1, h2, cs, h3⟩ := h; exact ⟨h1, h2, hbx h3⟩
  | fn g caps => exact ⟨h.1, fun n hn => ⟨(h.2 n hn).1, let ⟨_, cs, h3⟩ := h.2 n hn; hbx h3⟩⟩
  | rd fr' e' ys =>
    have h' : RdC (V.Z fr') w (.sl e') [v] ys := h
    exact h'.mono (fun b hb => Vl.freeze_old hb) (fun _ _ => rfl)
  | clo fr' f t d =>
    have h' : RdC (V.Z fr') w (.clo f t) [v] d := h
    exact h'.mono (fun b hb => Vl.freeze_old hb) (fun _ _ => rfl)
  | at_ fr' t d off =>
    obtain ⟨b, o, h1, h2, es, h3, h4, h5⟩ := h
    exact ⟨b, o, h1, Vl.freeze_old h2, es, h3, h4, h5.mono (fun b hb => Vl.freeze_old hb) (fun _ _ => rfl)⟩
  | val u => exact h
  | tru => exact h
  | fls => exact h
  | any => exact h

theorem Rel.freeze {base : Nat} {M : LM} {w0 : World} {st : St} {ts : Array Value} (r : Rel base M w0 V st ts w) (m : Nat) : ∃ V', Rel base M w0 V' (st.freeze m) ts w := by
  unfold St.freeze
  cases hm : st.ent m with
  | dead => exact ⟨V, r⟩
  | bx cs => exact ⟨V, r⟩
  | row fr e xs =>
    simp only
    have mm := r.mem
    have hok := mm.ents m
    rw [hm] at hok
    have hmine : fr = true → V.has m → base ≤ V.blk m := fun hf hh => by subst hf; exact mm.mine m e xs hm hh
    have tn := freeze_turns (base := base) hm hok hmine
    have hlt : m < st.hp.length := ent_lt (by rw [hm]; rfl)
    have hent : (St.mk (st.map (freezeC m fr e xs)).ts (lset (st.map (freezeC m fr e xs)).hp m .dead)).ent = hpSet (hpMap (freezeC m fr e xs) st.ent) m .dead := by
      rw [ent_set (by show m < (lmap _ _).length; rw [lmap_eq, List.length_map]; exact hlt)]
      congr 1
      exact ent_map st _
    have hlive : ∀ n, (hpSet (hpMap (freezeC m fr e xs) st.ent) m .dead n).live = true → n ≠ m ∧ (st.ent n).live = true := by
      intro n hl
      by_cases hn : n = m
      · subst hn; simp [hpSet, Ent.live] at hl
      · refine ⟨hn, ?_⟩
        simp only [hpSet, if_neg hn] at hl
        rw [← map_live (f := freezeC m fr e xs)]; exact hl
    have hval : ∀ n, n ≠ m → hpSet (hpMap (freezeC m fr e xs) st.ent) m .dead n = (st.ent n).map (freezeC m fr e xs) := fun n hn => by simp only [hpSet, if_neg hn]; rfl
    refine ⟨V.freeze m base, by show (lmap _ _).length = _; rw [lmap_eq, List.length_map]; exact r.len, fun i s v hs hv => ?_, ?_⟩
    · rw [hent]
      have hs' : (lmap (S.map (freezeC m fr e xs)) st.ts)[i]? = some s := hs
      rw [lmap_eq, List.getElem?_map] at hs'
      cases hx : st.ts[i]? with
      | none => rw [hx] at hs'; cases hs'
      | some x =>
        rw [hx] at hs'
        simp only [Option.map_some, Option.some.injEq] at hs'
        subst hs'
        exact tn.s (r.slots i x v hx hv)
    · rw [hent]
      refine ⟨fun n => ?_, fun n cs h => ?_, fun n hl hh => ?_, fun n e' xs' h hh => ?_, fun n n' hl hl' hh hh' he => ?_, fun b hb => ?_, fun b hb => ?_, mm.kept, fun n hl hh => ?_⟩
      · by_cases hn : n = m
        · subst hn; simp only [hpSet, if_true]; trivial
        · rw [hval n hn]
          have h1 := mm.ents n
          cases hne : st.ent n with
          | dead => trivial
          | bx cs =>
            rw [hne] at h1
            obtain ⟨vals, el, h2, h3⟩ := h1
            exact ⟨vals, el, h2, tn.all h3⟩
          | row fr' e' xs' =>
            rw [hne] at h1
            rcases h1 with h2 | ⟨h2, vals, el, h3, h4, h5⟩
            · exact .inl h2
            · refine .inr ⟨h2, vals, el, h3, h4, fun i hi => ?_⟩
              obtain ⟨es, k1, k2, k3⟩ := h5 i hi
              exact ⟨es, k1, k2, k3.mono (fun b hb => Vl.freeze_old hb) (fun _ _ => rfl)⟩
      · obtain ⟨hn, _⟩ := hlive n (by rw [h]; rfl)
        rw [hval n hn] at h
        cases hne : st.ent n with
        | bx cs' => exact mm.box n cs' hne
        | dead => rw [hne] at h; cases h
        | row fr' e' xs' => rw [hne] at h; cases h
      · obtain ⟨hn, hl'⟩ := hlive n hl
        obtain ⟨k1, k2, k3⟩ := mm.own n hl' hh
        refine ⟨k1, k2, fun hz => ?_⟩
        rcases Vl.freeze_cases hz with hz | ⟨h1, h2⟩
        · exact k3 hz
        · exact hn (mm.dist n m hl' (by rw [hm]; rfl) hh h1 h2)
      · obtain ⟨hn, _⟩ := hlive n (by rw [h]; rfl)
        rw [hval n hn] at h
        cases hne : st.ent n with
        | row fr' e2 xs2 => rw [hne] at h; exact mm.mine n e' xs' (by rw [hne]; exact h) hh
        | dead => rw [hne] at h; cases h
        | bx cs => rw [hne] at h; cases h
      · exact mm.dist n n' (hlive n hl).2 (hlive n' hl').2 hh hh' he
      · rcases hb with hb | ⟨_, _, hb⟩
        · exact mm.z0 b hb
        · exact hb
      · rcases hb with hb | ⟨h1, h2, h3⟩
        · exact mm.z1 b hb
        · exact ⟨h3, by rw [h2]; exact (mm.own m (by rw [hm]; rfl) h1).2.1⟩
      · obtain ⟨hn, _⟩ := hlive n (lentish_live hl)
        rw [hval n hn] at hl
        exact mm.lent n (lentish_map hl) hh

theorem Rel.freezes {base : Nat} {M : LM} {w0 : World} {ts : Array Value} : ∀ (ns : List Nat) {V : Vl} {st : St}, Rel base M w0 V st ts w → ∃ V', Rel base M w0 V' (st.freezes ns) ts w
  | [], V, st, r => ⟨V, r⟩
  | n :: ns, V, st, r => by obtain ⟨V', r'⟩ := r.freeze n; exact Rel.freezes ns r'

end
end Go.SX
