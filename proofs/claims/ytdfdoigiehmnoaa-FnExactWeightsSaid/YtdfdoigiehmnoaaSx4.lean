/- What keeps a symbolic value true: new names, new blocks, more memory that is not written any more. No condition. -/
import Derived.Test.YtdfdoigiehmnoaaSx3
namespace Go.SX
open Go.RowKit
set_option linter.unusedVariables false

theorem Ty.size_pos : ∀ t : Ty, 0 < t.size
  | .int _ => Nat.one_pos
  | .bool => Nat.one_pos
  | .str => Nat.one_pos
  | .sl _ => Nat.one_pos
  | .st t => t.size_pos
  | .pr a _ => Nat.add_pos_left a.size_pos _
  | .ptr _ => Nat.one_pos
  | .clo _ _ => Nat.one_pos

/-- The names, the zones and the memory of the names are as they were; there may be more. -/
structure VX (V : Vl) (hp : Nat → Ent) (w : World) (V' : Vl) (hp' : Nat → Ent) (w' : World) : Prop where
  nm : ∀ n, (hp n).live = true → V'.blk n = V.blk n ∧ (V'.has n ↔ V.has n) ∧ hp' n = hp n
  z0 : ∀ b, V.Z0 b → V'.Z0 b
  z1 : ∀ b, V.Z1 b → V'.Z1 b
  agz : ∀ b, V.Z false b → w'.heap[b]? = w.heap[b]?
  agb : ∀ n, (hp n).live = true → V.has n → w'.heap[V.blk n]? = w.heap[V.blk n]?

section
variable {V V' : Vl} {hp hp' : Nat → Ent} {w w' : World}

theorem VX.zone (x : VX V hp w V' hp' w') {fr : Bool} {b : Nat} (h : V.Z fr b) : V'.Z fr b := by
  rcases h with h | ⟨h, k⟩
  · exact .inl (x.z1 b h)
  · exact .inr ⟨h, x.z0 b k⟩

theorem VX.agree (x : VX V hp w V' hp' w') (fr : Bool) : Agree (V.Z fr) w w' := fun b hb => x.agz b (Vl.Z_all hb)

theorem VX.rd (x : VX V hp w V' hp' w') {fr : Bool} {t : Ty} {cs : List Value} {d : t.den} (h : RdC (V.Z fr) w t cs d) : RdC (V'.Z fr) w' t cs d :=
  h.mono (fun _ hb => x.zone hb) (x.agree fr)

theorem live_bx {cs : List C} : (Ent.bx cs).live = true := rfl
theorem live_row {fr : Bool} {e : Ty} {xs : List e.den} : (Ent.row fr e xs).live = true := rfl

theorem VX.hasRow (x : VX V hp w V' hp' w') {n h : Nat} {e : Ty} {v : Value} (hl : (hp n).live = true) (k : hasRow V w n e h v) : SX.hasRow V' w' n e h v := by
  obtain ⟨hb, hh, _⟩ := x.nm n hl
  rcases k with ⟨h1, h2, h3⟩ | ⟨h1, cap, vals, el, h2, h3, h4, h5⟩
  · exact .inl ⟨fun h => h1 (hh.1 h), h2, h3⟩
  · exact .inr ⟨hh.2 h1, cap, vals, el, by rw [hb]; exact h2, by rw [hb, x.agb n hl h1]; exact h3, h4, h5⟩

theorem C.ok_ext (x : VX V hp w V' hp' w') : ∀ {c : C} {v : Value}, C.ok V hp w c v → C.ok V' hp' w' c v := by
  intro c v h
  cases c with
  | val u => exact h
  | tru => exact h
  | fls => exact h
  | rd fr e xs => exact x.rd h
  | own n =>
    obtain ⟨fr, e, xs, h1, h2⟩ := h
    have hl : (hp n).live = true := by rw [h1]; rfl
    exact ⟨fr, e, xs, (x.nm n hl).2.2.trans h1, x.hasRow hl h2⟩
  | pre n k =>
    obtain ⟨fr, e, xs, h1, h3, h2⟩ := h
    have hl : (hp n).live = true := by rw [h1]; rfl
    exact ⟨fr, e, xs, (x.nm n hl).2.2.trans h1, h3, x.hasRow hl h2⟩
  | brw n e xs =>
    obtain ⟨⟨fr, e', ys, h1⟩, h2⟩ := h
    have hl : (hp n).live = true := by rw [h1]; rfl
    obtain ⟨hb, hh, he⟩ := x.nm n hl
    refine ⟨⟨fr, e', ys, he.trans h1⟩, h2.mono (fun b hb' => ?_) (fun b hb' => ?_)⟩
    · rcases hb' with hz | ⟨h3, h4⟩
      · exact .inl (x.zone hz)
      · exact .inr ⟨hh.2 h3, by rw [hb]; exact h4⟩
    · rcases hb' with hz | ⟨h3, h4⟩
      · exact x.agz b hz
      · rw [h4]; exact x.agb n hl h3
  | box n off =>
    obtain ⟨h1, h2, cs, h3⟩ := h
    have hl : (hp n).live = true := by rw [h3]; rfl
    obtain ⟨hb, hh, he⟩ := x.nm n hl
    exact ⟨by rw [hb]; exact h1, hh.2 h2, cs, he.trans h3⟩
  | at_ fr t d off =>
    obtain ⟨b, o, h1, h2, es, h3, h4, h5⟩ := h
    exact ⟨b, o, h1, x.zone h2, es, h3, cellsAt_agree (x.agz b (Vl.Z_all h2)) h4, x.rd h5⟩
  | elt n i off =>
    obtain ⟨h0, fr, e, xs, h1, h2, h3⟩ := h
    have hl : (hp n).live = true := by rw [h1]; rfl
    obtain ⟨hb, hh, he⟩ := x.nm n hl
    exact ⟨hh.2 h0, fr, e, xs, he.trans h1, h2, by rw [hb]; exact h3⟩
  | fn f caps =>
    obtain ⟨h1, h2⟩ := h
    have hmap : caps.map (fun n => Value.pointer (some ⟨V'.blk n, 0, none⟩)) = caps.map (fun n => Value.pointer (some ⟨V.blk n, 0, none⟩)) := by
      refine List.map_congr_left fun n hn => ?_
      obtain ⟨_, cs, h3⟩ := h2 n hn
      rw [(x.nm n (by rw [h3]; rfl)).1]
    refine ⟨by rw [hmap]; exact h1, fun n hn => ?_⟩
    obtain ⟨h4, cs, h3⟩ := h2 n hn
    obtain ⟨hb, hh, he⟩ := x.nm n (by rw [h3]; rfl)
    exact ⟨hh.2 h4, cs, he.trans h3⟩
  | clo fr f t d => exact x.rd h
  | any => exact h

theorem okAll_ext (x : VX V hp w V' hp' w') {cs : List C} {vs : List Value} (h : okAll V hp w cs vs) : okAll V' hp' w' cs vs :=
  ⟨h.1, fun j c v hc hv => C.ok_ext x (h.2 j c v hc hv)⟩

theorem okTop_ext (x : VX V hp w V' hp' w') {y : Bool × List C} {v : Value} (h : okTop V hp w y v) : okTop V' hp' w' y v := by
  unfold okTop at *
  split
  · rename_i hy
    rw [if_pos hy] at h
    obtain ⟨vs, h1, h2⟩ := h
    exact ⟨vs, h1, okAll_ext x h2⟩
  · rename_i hy
    rw [if_neg hy] at h
    exact okAll_ext x h

theorem S.ok_ext (x : VX V hp w V' hp' w') {s : S} {v : Value} (h : S.ok V hp w s v) : S.ok V' hp' w' s v := by
  cases s with
  | c y => exact C.ok_ext x h
  | agg cs => obtain ⟨vs, h1, h2⟩ := h; exact ⟨vs, h1, okAll_ext x h2⟩
  | tup xs => obtain ⟨vs, h1, h2, h3⟩ := h; exact ⟨vs, h1, h2, fun j y v hy hv => okTop_ext x (h3 j y v hy hv)⟩
  | und => exact h
  | any => exact h
  | arr e xs => obtain ⟨hf, vs, h1, h2, h3⟩ := h; exact ⟨hf, vs, h1, h2, fun i hi => by obtain ⟨es, k1, k2, k3⟩ := h3 i hi; exact ⟨es, k1, k2, k3.flat hf⟩⟩

theorem S.arr_ext {V V' : Vl} {hp hp' : Nat → Ent} {w w' : World} {e : Ty} {xs : List e.den} {v : Value} (h : S.ok V hp w (.arr e xs) v) : S.ok V' hp' w' (.arr e xs) v := by
  obtain ⟨hf, vs, h1, h2, h3⟩ := h
  exact ⟨hf, vs, h1, h2, fun i hi => by obtain ⟨es, k1, k2, k3⟩ := h3 i hi; exact ⟨es, k1, k2, k3.flat hf⟩⟩

theorem Ent.ok_ext (x : VX V hp w V' hp' w') {n : Nat} (h : (hp n).ok V hp w n) (hb : ∀ cs, hp n = .bx cs → V.has n) (hl : (hp n).live = true) : (hp' n).ok V' hp' w' n := by
  obtain ⟨e1, e2, e3⟩ := x.nm n hl
  rw [e3]
  cases he : hp n with
  | dead => trivial
  | bx cs =>
    rw [he] at h
    obtain ⟨vals, el, h1, h2⟩ := h
    exact ⟨vals, el, by rw [e1, x.agb n hl (hb cs he)]; exact h1, okAll_ext x h2⟩
  | row fr e xs =>
    rw [he] at h
    rcases h with ⟨h1, h2⟩ | ⟨h1, vals, el, h2, h3, h4⟩
    · exact .inl ⟨fun h => h1 (e2.1 h), h2⟩
    · refine .inr ⟨e2.2 h1, vals, el, by rw [e1, x.agb n hl h1]; exact h2, h3, fun i hi => ?_⟩
      obtain ⟨es, h5, h6, h7⟩ := h4 i hi
      exact ⟨es, h5, h6, x.rd h7⟩
end

/-! ### A cell holds one cell's value -/

theorem C.oneCell {V : Vl} {hp : Nat → Ent} {w : World} : ∀ {c : C} {v : Value}, C.ok V hp w c v → v.oneCell' = true := by
  intro c v h
  cases c with
  | val u => obtain ⟨rfl, h⟩ := h; cases v <;> first | rfl | exact h.elim
  | tru => rw [show v = _ from h]; rfl
  | fls => rw [show v = _ from h]; rfl
  | rd fr e xs => exact RdC.oneCell (t := .sl e) h v (by simp)
  | own n =>
    obtain ⟨fr, e, xs, h1, h2 | h2⟩ := h
    · rw [h2.2.1]; rfl
    · obtain ⟨_, cap, vals, el, h3, _⟩ := h2; rw [h3]; rfl
  | pre n k =>
    obtain ⟨fr, e, xs, h1, _, h2 | h2⟩ := h
    · rw [h2.2.1]; rfl
    · obtain ⟨_, cap, vals, el, h3, _⟩ := h2; rw [h3]; rfl
  | brw n e xs => exact RdC.oneCell (t := .sl e) h.2 v (by simp)
  | box n off => rw [h.1]; rfl
  | at_ fr t d off => obtain ⟨b, o, h1, _⟩ := h; rw [h1]; rfl
  | elt n i off => obtain ⟨_, fr, e, xs, _, _, h1⟩ := h; rw [h1]; rfl
  | fn f caps => rw [h.1]; rfl
  | clo fr f t d => exact RdC.oneCell (t := .clo f t) h v (by simp)
  | any => exact h

/-! ### Reading cells as data -/

section
variable {V : Vl} {hp : Nat → Ent} {w : World}

theorem castL_eq {a : Ty} (h : a = a) (xs : List a.den) : castL h xs = xs := rfl

theorem okAll_cons {c : C} {cs : List C} {vs : List Value} (h : okAll V hp w (c :: cs) vs) : ∃ v vs', vs = v :: vs' ∧ C.ok V hp w c v ∧ okAll V hp w cs vs' := by
  obtain ⟨h1, h2⟩ := h
  cases vs with
  | nil => simp at h1
  | cons v vs' => exact ⟨v, vs', rfl, h2 0 c v rfl rfl, by simpa using h1, fun j c' v' hc hv => h2 (j + 1) c' v' (by simpa using hc) (by simpa using hv)⟩

theorem okAll_nil : okAll V hp w [] [] := ⟨rfl, fun j c v h => by simp at h⟩

theorem okAll_cons_mk {c : C} {cs : List C} {v : Value} {vs : List Value} (h : C.ok V hp w c v) (k : okAll V hp w cs vs) : okAll V hp w (c :: cs) (v :: vs) := by
  refine ⟨by simp [k.1], fun j c' v' hc hv => ?_⟩
  cases j with
  | zero => simp at hc hv; subst hc; subst hv; exact h
  | succ j => exact k.2 j c' v' (by simpa using hc) (by simpa using hv)

theorem okAll_append {cs ds : List C} {vs us : List Value} (h : okAll V hp w cs vs) (k : okAll V hp w ds us) : okAll V hp w (cs ++ ds) (vs ++ us) := by
  induction cs generalizing vs with
  | nil => obtain ⟨h1, _⟩ := h; cases vs with | nil => exact k | cons v vs => simp at h1
  | cons c cs ih => obtain ⟨v, vs', rfl, h1, h2⟩ := okAll_cons h; exact okAll_cons_mk h1 (ih h2)

theorem okAll_split {cs ds : List C} {vs : List Value} (h : okAll V hp w (cs ++ ds) vs) : ∃ us ws, vs = us ++ ws ∧ okAll V hp w cs us ∧ okAll V hp w ds ws := by
  induction cs generalizing vs with
  | nil => exact ⟨[], vs, rfl, okAll_nil, h⟩
  | cons c cs ih =>
    obtain ⟨v, vs', rfl, h1, h2⟩ := okAll_cons h
    obtain ⟨us, ws, rfl, h3, h4⟩ := ih h2
    exact ⟨v :: us, ws, rfl, okAll_cons_mk h1 h3, h4⟩

theorem okAll_take {cs : List C} {vs : List Value} (h : okAll V hp w cs vs) (n : Nat) : okAll V hp w (cs.take n) (vs.take n) :=
  ⟨by simp [h.1], fun j c v hc hv => by
    rw [List.getElem?_take] at hc hv
    split at hc
    · rename_i hj; rw [if_pos hj] at hv; exact h.2 j c v hc hv
    · cases hc⟩

theorem okAll_drop {cs : List C} {vs : List Value} (h : okAll V hp w cs vs) (n : Nat) : okAll V hp w (cs.drop n) (vs.drop n) :=
  ⟨by simp [h.1], fun j c v hc hv => by
    rw [List.getElem?_drop] at hc hv
    exact h.2 _ c v hc hv⟩

/-- The cells that a datum's reading gives are such. -/
theorem ok_expand (fr : Bool) : ∀ (t : Ty) {d : t.den} {vs : List Value}, RdC (V.Z fr) w t vs d → okAll V hp w (expand fr t d) vs := by
  intro t
  induction t with
  | int k => intro d vs h; rw [h.1]; exact okAll_cons_mk ⟨rfl, h.2⟩ okAll_nil
  | bool => intro d vs h; rw [show vs = _ from h]; exact okAll_cons_mk ⟨rfl, trivial⟩ okAll_nil
  | str => intro d vs h; rw [h.1]; exact okAll_cons_mk ⟨rfl, h.2⟩ okAll_nil
  | sl e ih =>
    intro d vs h
    have h' := h
    obtain ⟨a, cap, h1, _⟩ := h
    subst h1
    exact okAll_cons_mk h' okAll_nil
  | st t ih => exact fun h => ih h
  | pr a b iha ihb =>
    intro d vs h
    obtain ⟨c1, c2, rfl, h2, h3⟩ := h
    show okAll V hp w (lapp _ _) _
    rw [lapp_eq]
    exact okAll_append (iha h2) (ihb h3)
  | ptr t ih =>
    intro d vs h
    obtain ⟨b, o, h1, h2, es, h3, h4, h5⟩ := h
    subst h1
    exact okAll_cons_mk ⟨b, o, rfl, h2, es, h3, h4, h5⟩ okAll_nil
  | clo f t ih =>
    intro d vs h
    have h' := h
    obtain ⟨caps, h1, _⟩ := h
    subst h1
    exact okAll_cons_mk h' okAll_nil

/-- Everything that a symbolic slice may be read by. -/
def anyZ (_ : Nat) : Prop := True

theorem RdC.any {Z : Nat → Prop} {t : Ty} {cs : List Value} {d : t.den} (h : RdC Z w t cs d) : RdC anyZ w t cs d := h.mono (fun _ _ => trivial) (fun _ _ => rfl)

end

/-- What the symbolic executor is told of one type of the program. -/
structure TIok (P : Program) (t : TypeId) (ti : TI) : Prop where
  size : (sizeOf t).run P = fun w => .ok ti.size w
  len : ti.zero.length = ti.size

end Go.SX
