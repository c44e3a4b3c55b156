/- New names, new blocks: what an operation that writes nothing leaves. No condition. -/
import Derived.Test.YtdfdoigiehmnoaaSx6
namespace Go.SX
open Go.RowKit
set_option linter.unusedVariables false

def hpNew (hp : Nat → Ent) (nx : Nat) (es : List Ent) (n : Nat) : Ent := if n < nx then hp n else match es[n - nx]? with | some e => e | none => hp n

theorem hpNew_nil (hp : Nat → Ent) (nx : Nat) : hpNew hp nx [] = hp := by
  funext n; unfold hpNew; split <;> rfl

theorem hpNew_old {hp : Nat → Ent} {nx : Nat} {es : List Ent} (hd : ∀ j, j < es.length → hp (nx + j) = .dead) {n : Nat} (hl : (hp n).live = true) : hpNew hp nx es n = hp n := by
  unfold hpNew
  split
  · rfl
  · rename_i h
    split
    · rename_i e he
      have hlt := (List.getElem?_eq_some_iff.1 he).1
      have := hd (n - nx) hlt
      rw [show nx + (n - nx) = n by omega] at this
      rw [this] at hl; cases hl
    · rfl

theorem hpNew_new {hp : Nat → Ent} {nx : Nat} {es : List Ent} {j : Nat} {e : Ent} (h : es[j]? = some e) : hpNew hp nx es (nx + j) = e := by
  unfold hpNew
  rw [if_neg (by omega), show nx + j - nx = j by omega, h]

theorem hpNew_cases (hp : Nat → Ent) (nx : Nat) (es : List Ent) (n : Nat) : (∃ j e, n = nx + j ∧ es[j]? = some e ∧ hpNew hp nx es n = e) ∨ ((n < nx ∨ nx + es.length ≤ n) ∧ hpNew hp nx es n = hp n) := by
  by_cases h : n < nx
  · exact .inr ⟨.inl h, by unfold hpNew; rw [if_pos h]⟩
  · cases he : es[n - nx]? with
    | some e => exact .inl ⟨n - nx, e, by omega, he, by unfold hpNew; rw [if_neg h, he]⟩
    | none =>
      have := List.getElem?_eq_none_iff.1 he
      exact .inr ⟨.inr (by omega), by unfold hpNew; rw [if_neg h, he]⟩

/-- The names from 'nx' on lie in the blocks 'bs'. -/
def Vl.ext (V : Vl) (nx : Nat) (bs : List (Option Nat)) (Z : Nat → Prop) : Vl where
  blk n := if nx ≤ n ∧ n < nx + bs.length then ((bs[n - nx]?).getD none).getD 0 else V.blk n
  has n := if nx ≤ n ∧ n < nx + bs.length then ((bs[n - nx]?).getD none).isSome = true else V.has n
  Z0 := V.Z0
  Z1 b := V.Z1 b ∨ Z b

section
variable {V : Vl} {nx : Nat} {bs : List (Option Nat)} {Z : Nat → Prop}

theorem Vl.ext_blk_old {n : Nat} (h : n < nx ∨ nx + bs.length ≤ n) : (V.ext nx bs Z).blk n = V.blk n := by
  show (if _ then _ else _) = _; rw [if_neg (by omega)]
theorem Vl.ext_has_old {n : Nat} (h : n < nx ∨ nx + bs.length ≤ n) : (V.ext nx bs Z).has n ↔ V.has n := by
  show (if _ then _ else _) ↔ _; rw [if_neg (by omega)]
theorem Vl.ext_blk_new {j b : Nat} (h : bs[j]? = some (some b)) : (V.ext nx bs Z).blk (nx + j) = b := by
  have hj := (List.getElem?_eq_some_iff.1 h).1
  show (if _ then _ else _) = _; rw [if_pos (by omega), show nx + j - nx = j by omega, h]; rfl
theorem Vl.ext_has_new {j : Nat} {b : Option Nat} (h : bs[j]? = some b) : (V.ext nx bs Z).has (nx + j) ↔ b.isSome = true := by
  have hj := (List.getElem?_eq_some_iff.1 h).1
  show (if _ then _ else _) ↔ _; rw [if_pos (by omega), show nx + j - nx = j by omega, h]; rfl
theorem Vl.ext_Z {fr : Bool} {b : Nat} : (V.ext nx bs Z).Z fr b ↔ V.Z fr b ∨ Z b := by
  unfold Vl.Z Vl.ext
  constructor
  · rintro ((h | h) | h)
    · exact .inl (.inl h)
    · exact .inr h
    · exact .inl (.inr h)
  · rintro ((h | h) | h)
    · exact .inl (.inl h)
    · exact .inr h
    · exact .inl (.inr h)
end

section
variable {base : Nat} {M : LM} {w0 : World} {V : Vl} {hp : Nat → Ent} {w w' : World}

theorem Mem.z_lt (m : Mem base M w0 V hp w) {fr : Bool} {b : Nat} (h : V.Z fr b) : b < w.heap.size := by
  rcases h with h | ⟨_, h⟩
  · exact (m.z1 b h).2
  · exact Nat.lt_of_lt_of_le (m.z0 b h) m.kept.size

theorem Kept.trans (h : Kept base M w0 w) (k : Kept w.heap.size noM w w') : Kept base M w0 w' where
  os := k.os.trans h.os
  tape := k.tape.trans h.tape
  output := k.output.trans h.output
  size := Nat.le_trans h.size k.size
  block b hb hm := (k.block b (Nat.lt_of_lt_of_le hb h.size) (fun x => x)).trans (h.block b hb hm)
  shape b vals el hb hm hv := by
    obtain ⟨vals', el', h1, h2⟩ := h.shape b vals el hb hm hv
    exact ⟨vals', el', (k.block b (Nat.lt_of_lt_of_le hb h.size) (fun x => x)).trans h1, h2⟩

theorem VX.of_kept (m : Mem base M w0 V hp w) (k : Kept w.heap.size noM w w') {nx : Nat} {es : List Ent} {bs : List (Option Nat)} {Z : Nat → Prop} (hlen : bs.length = es.length)
    (hd : ∀ j, j < es.length → hp (nx + j) = .dead) : VX V hp w (V.ext nx bs Z) (hpNew hp nx es) w' where
  nm n hl := by
    have ho : n < nx ∨ nx + bs.length ≤ n := by
      rcases Nat.lt_or_ge n nx with h | h
      · exact .inl h
      · rcases Nat.lt_or_ge n (nx + bs.length) with h' | h'
        · have := hd (n - nx) (by omega)
          rw [show nx + (n - nx) = n by omega] at this
          rw [this] at hl; cases hl
        · exact .inr h'
    exact ⟨Vl.ext_blk_old ho, Vl.ext_has_old ho, hpNew_old hd hl⟩
  z0 b h := h
  z1 b h := .inl h
  agz b h := k.block b (m.z_lt h) (fun x => x)
  agb n hl hh := k.block _ (m.own n hl hh).2.1 (fun x => x)

/-- The memory behind new names: each new entry is owed. -/
theorem Mem.grow (m : Mem base M w0 V hp w) (k : Kept w.heap.size noM w w') {nx : Nat} {es : List Ent} {bs : List (Option Nat)} {Z : Nat → Prop} (hlen : bs.length = es.length)
    (hd : ∀ j, j < es.length → hp (nx + j) = .dead) (hnd : (bs.filterMap id).Nodup) (hb : ∀ b, some b ∈ bs → w.heap.size ≤ b ∧ b < w'.heap.size ∧ ¬ Z b) (hZ : ∀ b, Z b → w.heap.size ≤ b ∧ b < w'.heap.size)
    (hbx : ∀ (j : Nat) cs, es[j]? = some (.bx cs) → ∃ b, bs[j]? = some (some b))
    (hes : ∀ (j : Nat) e, es[j]? = some e → e.ok (V.ext nx bs Z) (hpNew hp nx es) w' (nx + j)) (hnl : ∀ e ∈ es, ¬ e.lentish) :
    Mem base M w0 (V.ext nx bs Z) (hpNew hp nx es) w' := by
  have x := VX.of_kept m k (Z := Z) hlen hd
  have hsz : w.heap.size ≤ w'.heap.size := k.size
  have hnew : ∀ (n : Nat), (hpNew hp nx es n).live = true → (V.ext nx bs Z).has n → (∃ j b, n = nx + j ∧ bs[j]? = some (some b) ∧ (V.ext nx bs Z).blk n = b ∧ w.heap.size ≤ b ∧ b < w'.heap.size ∧ ¬ Z b) ∨
      ((n < nx ∨ nx + es.length ≤ n) ∧ (hp n).live = true ∧ V.has n ∧ (V.ext nx bs Z).blk n = V.blk n) := by
    intro n hl hh
    rcases hpNew_cases hp nx es n with ⟨j, e, rfl, he, h3⟩ | ⟨h1, h2⟩
    · have hj := (List.getElem?_eq_some_iff.1 he).1
      have hbj : bs[j]? = some bs[j] := List.getElem?_eq_getElem (by omega)
      rw [Vl.ext_has_new hbj] at hh
      cases hb' : bs[j] with
      | none => rw [hb'] at hh; cases hh
      | some b =>
        rw [hb'] at hbj
        exact .inl ⟨j, b, rfl, hbj, Vl.ext_blk_new hbj, hb b (List.mem_of_getElem? hbj)⟩
    · rw [h2] at hl
      rw [Vl.ext_has_old (by omega)] at hh
      exact .inr ⟨h1, hl, hh, Vl.ext_blk_old (by omega)⟩
  refine ⟨fun n => ?_, fun n cs h => ?_, fun n hl hh => ?_, fun n e xs h hh => ?_, fun n n' hl hl' hh hh' he => ?_, fun b h => m.z0 b h, fun b h => ?_, m.kept.trans k, fun n hl hh => ?_⟩
  · rcases hpNew_cases hp nx es n with ⟨j, e, rfl, he, h3⟩ | ⟨h1, h2⟩
    · rw [h3]; exact hes j e he
    · cases hl : (hp n).live with
      | true => exact Ent.ok_ext x (m.ents n) (fun cs h => m.box n cs h) hl
      | false =>
        rw [h2]
        cases hn : hp n with
        | dead => trivial
        | bx cs => rw [hn] at hl; cases hl
        | row fr e xs => rw [hn] at hl; cases hl
  · rcases hpNew_cases hp nx es n with ⟨j, e, rfl, he, h3⟩ | ⟨h1, h2⟩
    · rw [h3] at h; subst h
      obtain ⟨b, hb'⟩ := hbx j cs he
      rw [Vl.ext_has_new hb']; rfl
    · rw [h2] at h
      rw [Vl.ext_has_old (by omega)]
      exact m.box n cs h
  · rcases hnew n hl hh with ⟨j, b, rfl, h1, h2, h3, h4, h5⟩ | ⟨h0, h1, h2, h3⟩
    · rw [h2]
      refine ⟨.inl (Nat.le_trans m.kept.size h3), h4, fun h => ?_⟩
      rcases Vl.ext_Z.1 h with h | h
      · have := m.z_lt h; omega
      · exact h5 h
    · rw [h3]
      obtain ⟨k1, k2, k3⟩ := m.own n h1 h2
      refine ⟨k1, by omega, fun h => ?_⟩
      rcases Vl.ext_Z.1 h with h | h
      · exact k3 h
      · have := (hZ _ h).1; omega
  · rcases hnew n (by rw [h]; rfl) hh with ⟨j, b, rfl, h1, h2, h3, h4, h5⟩ | ⟨h0, h1, h2, h3⟩
    · rw [h2]; exact Nat.le_trans m.kept.size h3
    · rw [h3]
      rcases hpNew_cases hp nx es n with ⟨j, e', rfl, he', _⟩ | ⟨_, h4⟩
      · have := (List.getElem?_eq_some_iff.1 he').1; omega
      · exact m.mine n e xs (by rw [← h4]; exact h) h2
  · rcases hnew n hl hh with ⟨j, b, rfl, h1, h2, h3, h4, h5⟩ | ⟨h0, h1, h2, h3⟩
    · rcases hnew n' hl' hh' with ⟨j', b', rfl, g1, g2, g3, g4, g5⟩ | ⟨g0, g1, g2, g3⟩
      · rw [h2, g2] at he
        subst he
        by_cases hjj : j = j'
        · rw [hjj]
        · exfalso
          have hp1 : bs.Pairwise (fun x y => ∀ b, x = some b → y = some b → False) := by
            have h := hnd
            rw [List.Nodup, List.pairwise_filterMap] at h
            refine h.imp fun {x y} hxy b hx hy => ?_
            exact hxy b hx b hy rfl
          have hj1 := (List.getElem?_eq_some_iff.1 h1).1
          have hj2 := (List.getElem?_eq_some_iff.1 g1).1
          rw [List.pairwise_iff_getElem] at hp1
          rw [List.getElem?_eq_getElem hj1] at h1
          rw [List.getElem?_eq_getElem hj2] at g1
          simp only [Option.some.injEq] at h1 g1
          rcases Nat.lt_or_gt_of_ne hjj with hlt | hlt
          · exact hp1 j j' hj1 hj2 hlt b h1 g1
          · exact hp1 j' j hj2 hj1 hlt b g1 h1
      · rw [h2, g3] at he
        have := (m.own n' g1 g2).2.1
        omega
    · rcases hnew n' hl' hh' with ⟨j', b', rfl, g1, g2, g3, g4, g5⟩ | ⟨g0, g1, g2, g3⟩
      · rw [h3, g2] at he
        have := (m.own n h1 h2).2.1
        omega
      · rw [h3, g3] at he
        exact m.dist n n' h1 g1 h2 g2 he
  · rcases h with h | h
    · exact ⟨(m.z1 b h).1, by have := (m.z1 b h).2; omega⟩
    · exact ⟨Nat.le_trans m.kept.size (hZ b h).1, (hZ b h).2⟩
  · rcases hpNew_cases hp nx es n with ⟨j, e, rfl, he, h3⟩ | ⟨h1, h2⟩
    · rw [h3] at hl
      exact absurd hl (hnl e (List.mem_of_getElem? he))
    · rw [h2] at hl
      rw [Vl.ext_has_old (by omega)] at hh
      rw [Vl.ext_blk_old (by omega)]
      exact m.lent n hl hh

/-- What an operation that writes nothing leaves. -/
structure Good (base : Nat) (M : LM) (w0 : World) (V : Vl) (hp : Nat → Ent) (w : World) (nx : Nat) (res : S) (es : List Ent) (hy : Option Prop) (v : Value) (w' : World) (V' : Vl) : Prop where
  mem : Mem base M w0 V' (hpNew hp nx es) w'
  vx : VX V hp w V' (hpNew hp nx es) w'
  res : S.ok V' (hpNew hp nx es) w' res v
  hy : ∀ p, hy = some p → p

theorem VX.refl (V : Vl) (hp : Nat → Ent) (w : World) : VX V hp w V hp w := ⟨fun _ _ => ⟨rfl, Iff.rfl, rfl⟩, fun _ h => h, fun _ h => h, fun _ _ => rfl, fun _ _ _ => rfl⟩

theorem good_same (m : Mem base M w0 V hp w) {nx : Nat} {s : S} {v : Value} (h : S.ok V hp w s v) : Good base M w0 V hp w nx s [] none v w V := by
  refine ⟨?_, ?_, ?_, fun p h => by cases h⟩
  · rw [hpNew_nil]; exact m
  · rw [hpNew_nil]; exact VX.refl _ _ _
  · rw [hpNew_nil]; exact h

theorem heap_drew (w : World) : w.drew.heap = w.heap := rfl

theorem kept_alloc (w : World) (o : Obj) : Kept w.heap.size noM w (w.alloc o) where
  os := rfl
  tape := rfl
  output := rfl
  size := by simp
  block b hb _ := by show (w.heap.push o)[b]? = _; rw [Array.getElem?_push, if_neg (by omega)]
  shape _ _ _ _ h _ := h.elim

theorem heap_new (w : World) (o : Obj) : (w.alloc o).heap[w.heap.size]? = some o := by
  show (w.heap.push o)[w.heap.size]? = _
  rw [Array.getElem?_push, if_pos rfl]

/-- One new block of cells under one new name. -/
theorem good_alloc (m : Mem base M w0 V hp w) {nx : Nat} (hd : hp nx = .dead) (vals : Array Value) (el : TypeId) (e : Ent) (res : S) (v : Value) (hnl : ¬ e.lentish)
    (he : ∀ V' hp' w', VX V hp w V' hp' w' → V'.has nx → V'.blk nx = w.heap.size → hp' nx = e → w'.heap[w.heap.size]? = some (.cells vals el (0, 0)) → e.ok V' hp' w' nx ∧ S.ok V' hp' w' res v) :
    ∃ V', Good base M w0 V hp w nx res [e] none v (w.alloc (.cells vals el)) V' := by
  have k := kept_alloc w (.cells vals el)
  have hd' : ∀ j, j < [e].length → hp (nx + j) = .dead := fun j hj => by
    have : j = 0 := by simp at hj; omega
    subst this; exact hd
  have x := VX.of_kept m k (nx := nx) (es := [e]) (bs := [some w.heap.size]) (Z := fun _ => False) rfl hd'
  have h1 : (V.ext nx [some w.heap.size] (fun _ => False)).has nx := by
    have := Vl.ext_has_new (V := V) (nx := nx) (bs := [some w.heap.size]) (Z := fun _ => False) (j := 0) (b := some w.heap.size) rfl
    exact this.2 rfl
  have h2 : (V.ext nx [some w.heap.size] (fun _ => False)).blk nx = w.heap.size := Vl.ext_blk_new (nx := nx) (j := 0) rfl
  have h3 : hpNew hp nx [e] nx = e := hpNew_new (nx := nx) (j := 0) rfl
  obtain ⟨g1, g2⟩ := he _ _ _ x h1 h2 h3 (heap_new w _)
  refine ⟨_, ⟨m.grow k rfl hd' (by simp) (fun b hb => ?_) (fun b hb => hb.elim) (fun j cs hj => ?_) (fun j e' hj => ?_) (fun e' he' => by rw [List.mem_singleton.1 he']; exact hnl), x, g2, fun p h => by cases h⟩⟩
  · simp at hb; subst hb; exact ⟨Nat.le_refl _, by simp, fun h => h⟩
  · have : j = 0 := by have := (List.getElem?_eq_some_iff.1 hj).1; simp at this; omega
    subst this; exact ⟨_, rfl⟩
  · have : j = 0 := by have := (List.getElem?_eq_some_iff.1 hj).1; simp at this; omega
    subst this
    simp at hj; subst hj
    exact g1
end
end Go.SX
