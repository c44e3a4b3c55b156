/- The operations that write, all. No condition. -/
import Derived.Test.YtdfdoigiehmnoaaSx18
namespace Go.SX
open Go.RowKit
set_option linter.unusedVariables false
set_option linter.unusedSimpArgs false

section
variable {P : Program} {T : Tab} {base : Nat} {M : LM} {w0 : World} {V : Vl} {hp : Nat → Ent} {w : World} {a : Act} {next : Act → World → Prop} {Q : Exit → Act → World → Prop}

theorem wp_append {o : Oper} {t : TypeId} {s x : Operand} (ho : o.op = .call { callee := .builtin .append, args := #[s, x], argTypes := #[t, t] }) {v' : Value} {w' : World}
    (hr : (Builtin.append_ #[t, t] o.type #[a.eval s, a.eval x]).run P w = .ok v' w') (h : next (a.put o.dst v') w') : o.wp P a w next Q := by
  unfold Oper.wp execOp
  simp only [ho, resolve, invoke, builtin, Sem.run_bind, Sem.run_pure, Result.andThen_ok, List.map_toArray, List.map_cons, List.map_nil, hr]
  exact h

theorem kept_refl (w : World) : Kept w.heap.size noM w w := ⟨rfl, rfl, rfl, Nat.le_refl _, fun _ _ _ => rfl, fun _ _ _ _ h _ => h.elim⟩

theorem move_blk (V : Vl) (m g : Nat) : (V.move m g).blk m = g := by simp [Vl.move]
theorem move_has (V : Vl) (m g : Nat) : (V.move m g).has m := by simp [Vl.move]
theorem move_ne {V : Vl} {m g n : Nat} (h : n ≠ m) : (V.move m g).blk n = V.blk n ∧ ((V.move m g).has n ↔ V.has n) := by simp [Vl.move, h]
theorem move_Z {V : Vl} {m g : Nat} {f : Bool} {b : Nat} : (V.move m g).Z f b ↔ V.Z f b := Iff.rfl

theorem rowFr_flat {lk : Nat → Ent} {e : Ty} {c : C} {f : Bool} (h : rowFr lk e c = some f) (hf : e.flat = true) : f = true := by
  unfold rowFr at h
  split at h
  · injection h with h; subst h; simp [hf]
  · split at h
    · injection h with h; subst h; simp [hf]
    · cases h
  · split at h
    · injection h with h; subst h; simp [hf]
    · cases h
  · rw [if_pos hf] at h; injection h with h; exact h.symm
  · injection h with h; exact h.symm
  · cases h

theorem append_row (hT : TabOk P T) {st : St} (r : Rel base M w0 V st a.tmps w) {o : Oper} {t te : TypeId} {es eb sz by' : Nat} {e : Ty} {z0 : List Value} {ty : Option Ty} {teq : Option (List Bool)} {s x : Operand}
    (ho : o.op = .call { callee := .builtin .append, args := #[s, x], argTypes := #[t, t] }) (ht : T t = some { k := .sl te es eb e, size := sz, bytes := by', zero := z0, ty := ty, eq := teq }) (heb : eb ≠ 0)
    {m n : Nat} {fr f : Bool} {xs ys : List e.den} (hm : st.ent m = .row fr e xs) (hn : n ≤ xs.length) (hs : hasRow V w m e n (a.eval s)) {c : C} (hc : C.ok V st.ent w c (a.eval x)) (hys : rdSl st.ent e c = some ys) (hf : rowFr st.ent e c = some f)
    (hob : (n + ys.length) * eb ≤ 140737488355328) (hlf : e.flat = true → fr = true)
    (hnx : ∀ v w' V', Rel base M w0 V' { (st.map (killO m)) with hp := lset (st.map (killO m)).hp m (.row (fr && f) e (xs.take n ++ ys)) } a.tmps w' →
      S.ok V' (St.mk (st.map (killO m)).ts (lset (st.map (killO m)).hp m (.row (fr && f) e (xs.take n ++ ys)))).ent w' (.c (.own m)) v → next (a.put o.dst v) w') : o.wp P a w next Q := by
  obtain ⟨g1, g2, i, z, g3, g4, g5, g6, g7⟩ := slice_ok (ti_ok (hT t _ ht)).2.2
  obtain ⟨aa, cap, hx, hlen, hel⟩ := sl_elems r.mem.ents hys hf hc
  obtain ⟨news, n1, n2, n3, n4⟩ := flat_cells hel
  have hzs : z.cells.size = i.size := by rw [g4, g7]; simpa using zeros_len e
  have hrow := r.mem.ents m
  rw [hm] at hrow
  have hl : (st.ent m).live = true := by rw [hm]; rfl
  have hlt : m < st.hp.length := ent_lt hl
  have hent : (St.mk (st.map (killO m)).ts (lset (st.map (killO m)).hp m (.row (fr && f) e (xs.take n ++ ys)))).ent m = .row (fr && f) e (xs.take n ++ ys) := by
    rw [ent_set (by show m < (lmap _ _).length; rw [lmap_eq, List.length_map]; exact hlt)]
    simp only [hpSet, if_true]
  have hnlen : (xs.take n).length = n := by rw [List.length_take]; omega
  have hnew : n + ys.length ≤ 140737488355328 := by
    have h1 : 1 ≤ eb := Nat.pos_of_ne_zero heb
    have h2 : (n + ys.length) * 1 ≤ (n + ys.length) * eb := Nat.mul_le_mul_left _ h1
    omega
  -- the row that was
  obtain ⟨vals, g, cap0, el, hv, hva⟩ : ∃ (vals : Array Value) (g cap0 : Nat) (el : TypeId), ((a.eval s = .slice none 0 0 ∧ n = 0 ∧ vals = #[]) ∨ (a.eval s = .slice (some ⟨g, 0, none⟩) n cap0 ∧ w.heap[g]? = some (.cells vals el (0, 0)) ∧ vals.size = cap0 * i.size ∧ n ≤ cap0)) ∧
      ((¬ V.has m ∧ xs = []) ∨ (V.has m ∧ g = V.blk m ∧ w.heap[V.blk m]? = some (.cells vals el (0, 0)) ∧ RowAt (V.Z fr) w e vals xs ∧ xs.length * e.size ≤ vals.size ∨ False)) := by
    rcases hrow with ⟨k1, k2⟩ | ⟨k1, vals, el, k2, k3, k4⟩
    · rcases hs with ⟨h1, h2, h3⟩ | ⟨h1, _⟩
      · exact ⟨#[], 0, 0, 0, .inl ⟨h2, h3, rfl⟩, .inl ⟨k1, k2⟩⟩
      · exact absurd h1 k1
    · rcases hs with ⟨h1, _⟩ | ⟨h1, cap', vals', el', h2, h3, h4, h5⟩
      · exact absurd k1 h1
      · rw [k2] at h3
        injection h3 with h3
        injection h3 with q1 q2 q3
        subst q1
        refine ⟨vals, V.blk m, cap', el, .inr ⟨h2, k2, by rw [g4]; exact h4, h5⟩, .inr (.inl ⟨k1, rfl, k2, k4, ?_⟩)⟩
        rcases Nat.eq_zero_or_pos xs.length with h0 | h0
        · rw [h0]; simp
        · obtain ⟨es', p1, p2, _⟩ := k4 (xs.length - 1) (by omega)
          have hp := e.size_pos
          have := p2 (e.size - 1) (es'[e.size - 1]'(by omega)) (List.getElem?_eq_getElem _)
          have h6 := (Array.getElem?_eq_some_iff.1 this).1
          have h7 : xs.length * e.size = (xs.length - 1) * e.size + e.size := by
            conv => lhs; rw [show xs.length = xs.length - 1 + 1 by omega, Nat.add_mul, Nat.one_mul]
          omega
  obtain ⟨v', w', hrun, happ, hpos, hzero⟩ := run_append_any (ty := o.type) (z := z) g1 g3 g6 hzs (by rw [g4]; exact e.size_pos) (h := n) (cap := cap0) (g := g) (vals := vals) (el := el) hv (aa := aa) (m := ys.length) (c := cap) (news := news) (by rw [g4]; exact n1) n2 n3 (by unfold lenMax at hlen; omega) (by rw [g5]; exact hob)
  rw [← hx] at hrun
  refine wp_append ho hrun ?_
  by_cases hys0 : ys.length = 0
  · obtain ⟨rfl, rfl⟩ := hzero hys0
    have hys' : ys = [] := List.length_eq_zero_iff.1 hys0
    have happ0 : xs.take n ++ ys = xs.take n := by rw [hys', List.append_nil]
    refine hnx _ _ V ?_ ⟨fr && f, e, _, hent, by rw [happ0, hnlen]; exact hs⟩
    refine rel_row r hm r.mem.kept (Nat.le_refl _) (fun _ _ _ => rfl) (fun _ _ => ⟨rfl, Iff.rfl⟩) rfl rfl (fun hp' _ => ?_) (fun hh => ?_) (fun h1 hh => ?_) (fun hlt hh => ?_)
    · rw [happ0]
      rcases hrow with ⟨k1, k2⟩ | ⟨k1, vals2, el2, k2, k3, k4⟩
      · exact .inl ⟨k1, by rw [k2]; simp⟩
      · refine .inr ⟨k1, vals2, el2, k2, by rw [hnlen]; omega, fun j hj => ?_⟩
        rw [hnlen] at hj
        obtain ⟨es', p1, p2, p3⟩ := k4 j (by omega)
        refine ⟨es', p1, p2, ?_⟩
        rw [List.getElem_take]
        exact p3.mono (fun b hb => castFlag (fun h => by simp at h; exact h.1) hb) (fun _ _ => rfl)
    · obtain ⟨q1, q2, _⟩ := r.mem.own m hl hh
      exact ⟨q1, q2, .inr ⟨hh, rfl⟩⟩
    · exact r.mem.mine m e xs (by simp at h1; rw [hm, h1.1]) hh
    · exfalso
      have hfl := lentish_flat hlt
      rw [hlf hfl, rowFr_flat hf hfl] at hlt
      exact hlt
  · obtain ⟨g', cap', hv'⟩ := hpos (by omega)
    subst hv'
    cases happ with
    | same h1 h2 =>
      exfalso
      rcases hv with ⟨h3, _, _⟩ | ⟨h3, _⟩
      · rw [h3] at h1; cases h1
      · rw [h3] at h1; injection h1 with _ h4 _; omega
    | row g2' cap2 vals2 el2 h1 h2 h3 h4 h5 h6 h7 h8 =>
      injection h1 with h1a h1b h1c
      injection h1a with h1a
      injection h1a with h1a
      subst h1a; subst h1c
      -- in place or moved
      have hplace : (V.has m ∧ g' = V.blk m ∧ w'.heap.size = w.heap.size) ∨ (g' = w.heap.size ∧ w'.heap.size = w.heap.size + 1) := by
        rcases h6 with ⟨l0, e1, e2, e3⟩ | h6
        · left
          rcases hv with ⟨h9, _, _⟩ | ⟨h9, _⟩
          · rw [h9] at e1; cases e1
          · rw [h9] at e1
            injection e1 with e1 _ _
            injection e1 with e1
            injection e1 with e1
            rcases hva with ⟨q1, q2⟩ | (⟨q1, q2, _⟩ | hF)
            · rcases hs with ⟨_, q3, _⟩ | ⟨q3, _⟩
              · rw [h9] at q3; cases q3
              · exact absurd q3 q1
            · exact ⟨q1, by rw [← e1, q2], e3⟩
            · exact hF.elim
        · exact .inr h6
      have hglt : g' < w'.heap.size := (Array.getElem?_eq_some_iff.1 h2).1
      have hsz : w.heap.size ≤ w'.heap.size := by rcases hplace with ⟨_, _, h⟩ | ⟨_, h⟩ <;> omega
      have hblk : ∀ b, b < w.heap.size → (V.has m → b ≠ V.blk m) → w'.heap[b]? = w.heap[b]? := by
        intro b hb hne
        refine h7 b (fun e => ?_) hb
        rcases hplace with ⟨q1, q2, _⟩ | ⟨q1, _⟩
        · exact hne q1 (by rw [e, q2])
        · omega
      have hownb : base ≤ g' ∨ M g' := by
        rcases hplace with ⟨q1, q2, _⟩ | ⟨q1, _⟩
        · rw [q2]; exact (r.mem.own m hl q1).1
        · left; have := r.mem.kept.size; omega
      have hkept : Kept base M w0 w' := by
        refine ⟨h8.1.trans r.mem.kept.os, h8.2.1.trans r.mem.kept.tape, h8.2.2.trans r.mem.kept.output, Nat.le_trans r.mem.kept.size hsz, fun b hb hM => ?_, fun b vals0 el0 hb hM hv0 => ?_⟩
        · rw [h7 b (fun e => by subst e; rcases hownb with h | h; omega; exact hM h) (by have := r.mem.kept.size; omega)]
          exact r.mem.kept.block b hb hM
        · by_cases hbg : b = g'
          · subst hbg
            obtain ⟨vals1, el1, j1, j2⟩ := r.mem.kept.shape b vals0 el0 hb hM hv0
            rcases h6 with ⟨l0, e1, _, _⟩ | ⟨h6, _⟩
            · rcases hv with ⟨h9, _, _⟩ | ⟨h9, k9, k10, _⟩
              · rw [h9] at e1; cases e1
              · rw [h9] at e1
                injection e1 with e1 _ e2
                injection e1 with e1
                injection e1 with e1
                subst e1; subst e2
                rw [k9] at j1
                injection j1 with j1
                injection j1 with j1 _ _
                subst j1
                exact ⟨vals2, el2, h2, by rw [h3, ← k10]; exact j2⟩
            · exfalso; have := r.mem.kept.size; omega
          · obtain ⟨vals1, el1, j1, j2⟩ := r.mem.kept.shape b vals0 el0 hb hM hv0
            exact ⟨vals1, el1, by rw [h7 b hbg (by have := r.mem.kept.size; omega)]; exact j1, j2⟩
      have hag : ∀ {f : Bool} {b : Nat}, V.Z f b → w'.heap[b]? = w.heap[b]? := by
        intro f b hb
        exact hblk b (r.mem.z_lt hb) (fun hh e => by subst e; exact (r.mem.own m hl hh).2.2 (Vl.Z_all hb))
      have hrowAt : RowAt ((V.move m g').Z (fr && f)) w' e vals2 (xs.take n ++ ys) := by
        have base' : RowAt (V.Z fr) w e vals (xs.take n) ∧ (xs.take n).length * e.size ≤ vals.size := by
          rcases hva with ⟨q1, q2⟩ | (⟨q1, q2, q3, q4, q5⟩ | hF)
          · refine ⟨fun j hj => ?_, ?_⟩
            · rw [q2] at hj; simp at hj
            · rw [q2]; simp
          · refine ⟨fun j hj => ?_, ?_⟩
            · rw [hnlen] at hj
              obtain ⟨es', p1, p2, p3⟩ := q4 j (by omega)
              exact ⟨es', p1, p2, by rw [List.getElem_take]; exact p3⟩
            · rw [hnlen]
              have : n * e.size ≤ xs.length * e.size := Nat.mul_le_mul_right _ hn
              omega
          · exact hF.elim
        refine rowAt_append base'.1 n1 n4 (by rw [hnlen, ← g4]; exact h5) base'.2 (fun hrd => ?_) (fun hrd => ?_)
        · exact hrd.mono (fun b hb => castFlag (fun h => by simp at h; exact h.1) hb) (fun b hb => hag hb)
        · exact hrd.mono (fun b hb => castFlag (fun h => by simp at h; exact h.2) hb) (fun b hb => hag hb)
      have hal : (xs.take n ++ ys).length = n + ys.length := by rw [List.length_append, hnlen]
      refine hnx _ _ (V.move m g') ?_ ⟨fr && f, e, _, hent, .inr ⟨move_has V m g', cap', vals2, el2, by rw [move_blk, hal], by rw [move_blk]; exact h2, by rw [← g4]; exact h3, by rw [hal]; exact h4⟩⟩
      refine rel_row r hm hkept hsz hblk (fun n hn => move_ne hn) rfl rfl (fun hp' _ => ?_) (fun _ => ?_) (fun h9 _ => ?_) (fun hlt _ => ?_)
      · exact .inr ⟨move_has V m g', vals2, el2, by rw [move_blk]; exact h2, by rw [hal]; unfold lenMax; omega, hrowAt⟩
      · rw [move_blk]
        refine ⟨hownb, hglt, ?_⟩
        rcases hplace with ⟨q1, q2, _⟩ | ⟨q1, _⟩
        · exact .inr ⟨q1, q2⟩
        · exact .inl (by omega)
      · rw [move_blk]
        rcases hplace with ⟨q1, q2, _⟩ | ⟨q1, _⟩
        · rw [q2]; exact r.mem.mine m e xs (by simp at h9; rw [hm, h9.1]) q1
        · have := r.mem.kept.size; omega
      · exfalso
        have hfl := lentish_flat hlt
        rw [hlf hfl, rowFr_flat hf hfl] at hlt
        exact hlt

/-- One new name: a row in a new block, or a nil one. -/
theorem good_one (m : Mem base M w0 V hp w) {w' : World} (k : Kept w.heap.size noM w w') {nx : Nat} (hd : hp nx = .dead) (b : Option Nat) (hb : ∀ g, b = some g → w.heap.size ≤ g ∧ g < w'.heap.size) (e : Ent) (hbx : ∀ cs, e = .bx cs → b.isSome = true) (res : S) (v : Value) (hnl : ¬ e.lentish)
    (he : ∀ V' hp', VX V hp w V' hp' w' → (V'.has nx ↔ b.isSome = true) → (∀ g, b = some g → V'.blk nx = g) → hp' nx = e → e.ok V' hp' w' nx ∧ S.ok V' hp' w' res v) :
    ∃ V', Good base M w0 V hp w nx res [e] none v w' V' := by
  have hd' : ∀ j, j < [e].length → hp (nx + j) = .dead := fun j hj => by
    have : j = 0 := by simp at hj; omega
    subst this; exact hd
  have x := VX.of_kept m k (nx := nx) (es := [e]) (bs := [b]) (Z := fun _ => False) rfl hd'
  have h1 : (V.ext nx [b] (fun _ => False)).has nx ↔ b.isSome = true := Vl.ext_has_new (V := V) (nx := nx) (bs := [b]) (Z := fun _ => False) (j := 0) (b := b) rfl
  have h2 : ∀ g, b = some g → (V.ext nx [b] (fun _ => False)).blk nx = g := fun g hg => Vl.ext_blk_new (nx := nx) (j := 0) (by simp [hg])
  have h3 : hpNew hp nx [e] nx = e := hpNew_new (nx := nx) (j := 0) rfl
  obtain ⟨g1, g2⟩ := he _ _ x h1 h2 h3
  refine ⟨_, ⟨m.grow k rfl hd' (by cases b <;> simp) (fun g hg => ?_) (fun b hb => hb.elim) (fun j cs hj => ?_) (fun j e' hj => ?_) (fun e' he' => by rw [List.mem_singleton.1 he']; exact hnl), x, g2, fun p h => by cases h⟩⟩
  · simp only [List.mem_singleton] at hg
    obtain ⟨k1, k2⟩ := hb g hg.symm
    exact ⟨k1, k2, fun h => h⟩
  · have : j = 0 := by have := (List.getElem?_eq_some_iff.1 hj).1; simp at this; omega
    subst this
    simp only [List.getElem?_cons_zero, Option.some.injEq] at hj
    obtain ⟨g, hg⟩ := Option.isSome_iff_exists.1 (hbx cs hj)
    exact ⟨g, by simp [hg]⟩
  · have : j = 0 := by have := (List.getElem?_eq_some_iff.1 hj).1; simp at this; omega
    subst this
    simp only [List.getElem?_cons_zero, Option.some.injEq] at hj; subst hj
    exact g1

theorem append_nil (hT : TabOk P T) {st : St} (r : Rel base M w0 V st a.tmps w) {o : Oper} {t te : TypeId} {es eb sz by' : Nat} {e : Ty} {z0 : List Value} {ty : Option Ty} {teq : Option (List Bool)} {s x : Operand}
    (ho : o.op = .call { callee := .builtin .append, args := #[s, x], argTypes := #[t, t] }) (ht : T t = some { k := .sl te es eb e, size := sz, bytes := by', zero := z0, ty := ty, eq := teq }) (heb : eb ≠ 0)
    {f : Bool} {ys : List e.den} (hs : a.eval s = .slice none 0 0) {c : C} (hc : C.ok V st.ent w c (a.eval x)) (hys : rdSl st.ent e c = some ys) (hf : rowFr st.ent e c = some f)
    (hob : ys.length * eb ≤ 140737488355328)
    (hnx : ∀ v w' V', Rel base M w0 V' (st.alloc [.row f e ys]) a.tmps w' → S.ok V' (st.alloc [.row f e ys]).ent w' (.c (.own (llen st.hp))) v → next (a.put o.dst v) w') : o.wp P a w next Q := by
  obtain ⟨g1, g2, i, z, g3, g4, g5, g6, g7⟩ := slice_ok (ti_ok (hT t _ ht)).2.2
  obtain ⟨aa, cap, hx, hlen, hel⟩ := sl_elems r.mem.ents hys hf hc
  obtain ⟨news, n1, n2, n3, n4⟩ := flat_cells hel
  have hzs : z.cells.size = i.size := by rw [g4, g7]; simpa using zeros_len e
  obtain ⟨v', w', hrun, happ, hpos, hzero⟩ := run_append_any (ty := o.type) (z := z) g1 g3 g6 hzs (by rw [g4]; exact e.size_pos) (h := 0) (cap := 0) (g := 0) (vals := #[]) (el := 0) (.inl ⟨hs, rfl, rfl⟩) (aa := aa) (m := ys.length) (c := cap) (news := news) (by rw [g4]; exact n1) n2 n3 (by unfold lenMax at hlen; omega) (by rw [g5, Nat.zero_add]; exact hob)
  rw [← hx] at hrun
  refine wp_append ho hrun ?_
  have hd : st.ent (llen st.hp) = .dead := ent_dead st 0
  by_cases hys0 : ys.length = 0
  · obtain ⟨rfl, rfl⟩ := hzero hys0
    have hys' : ys = [] := List.length_eq_zero_iff.1 hys0
    obtain ⟨V', hg⟩ := good_one r.mem (kept_refl w') hd none (fun g hg => by cases hg) (.row f e ys) (fun cs h => by cases h) (.c (.own (llen st.hp))) (a.eval s) (fun hlt => by have hfl := lentish_flat hlt; rw [rowFr_flat hf hfl] at hlt; exact hlt)
      (fun V' hp' _ k1 _ k3 => by
        have hnh : ¬ V'.has (llen st.hp) := fun h => by have := k1.1 h; cases this
        exact ⟨.inl ⟨hnh, hys'⟩, f, e, ys, k3, .inl ⟨hnh, hs, hys0⟩⟩)
    obtain ⟨q1, q2⟩ := rel_good r hg
    exact hnx _ _ V' q1 q2
  · obtain ⟨g', cap', hv'⟩ := hpos (by omega)
    subst hv'
    cases happ with
    | same h1 h2 => rw [hs] at h1; cases h1
    | row g2' cap2 vals2 el2 h1 h2 h3 h4 h5 h6 h7 h8 =>
      injection h1 with h1a h1b h1c
      injection h1a with h1a
      injection h1a with h1a
      subst h1a; subst h1c
      have hplace : g' = w.heap.size ∧ w'.heap.size = w.heap.size + 1 := by
        rcases h6 with ⟨l0, e1, _, _⟩ | h6
        · rw [hs] at e1; cases e1
        · exact h6
      have hk : Kept w.heap.size noM w w' := ⟨h8.1, h8.2.1, h8.2.2, by omega, fun b hb _ => h7 b (by omega) hb, fun _ _ _ _ h _ => h.elim⟩
      have hnew : ys.length ≤ 140737488355328 := by
        have h1 : 1 ≤ eb := Nat.pos_of_ne_zero heb
        have h2 : ys.length * 1 ≤ ys.length * eb := Nat.mul_le_mul_left _ h1
        omega
      obtain ⟨V', hg⟩ := good_one r.mem hk hd (some g') (fun g hg => by injection hg with hg; subst hg; omega) (.row f e ys) (fun cs h => by cases h) (.c (.own (llen st.hp))) (.slice (some ⟨g', 0, none⟩) (0 + ys.length) cap') (fun hlt => by have hfl := lentish_flat hlt; rw [rowFr_flat hf hfl] at hlt; exact hlt)
        (fun V' hp' x k1 k2 k3 => by
          have hh : V'.has (llen st.hp) := k1.2 rfl
          have hb := k2 g' rfl
          refine ⟨.inr ⟨hh, vals2, el2, by rw [hb]; exact h2, by unfold lenMax; omega, ?_⟩, f, e, ys, k3, .inr ⟨hh, cap', vals2, el2, by rw [hb, Nat.zero_add], by rw [hb]; exact h2, by rw [← g4]; exact h3, by rw [Nat.zero_add] at h4; exact h4⟩⟩
          have := rowAt_append (Z := V.Z f) (Z' := V.Z f) (Z2 := V'.Z f) (w := w) (w' := w') (e := e) (vals := #[]) (vals' := vals2) (xs := []) (ys := ys) (news := news) (fun j hj => by simp at hj) n1 n4 (by simpa [g4] using h5) (by simp) (fun hrd => x.rd hrd) (fun hrd => x.rd hrd)
          rw [List.nil_append] at this
          exact this)
      obtain ⟨q1, q2⟩ := rel_good r hg
      exact hnx _ _ V' q1 q2

theorem eop_ok (hT : TabOk P T) {st : St} (r : Rel base M w0 V st a.tmps w) {o : Oper} {er : ER} (h : eop T st o.op = some er) (hob : ∀ p, er.ob = some p → p)
    (hnx : ∀ v w' V', Rel base M w0 V' er.st a.tmps w' → S.ok V' er.st.ent w' er.res v → next (a.put o.dst v) w') : o.wp P a w next Q := by
  unfold eop at h
  split at h
  · rename_i t p x ho
    cases he : estore T st t p x with
    | some r0 =>
      rw [he] at h
      injection h with h; subst h
      exact (estore_ok hT r ho he).2 (fun w' V' h1 h2 => hnx _ w' V' h1 h2)
    | none =>
      rw [he] at h
      exact eastore_ok hT r ho h hob (fun w' V' h1 h2 => hnx _ w' V' h1 h2)
  · rename_i t n parts ho
    unfold ebuildSlice at h
    simp only at h
    generalize hns : ownsParts st parts.toList = ns at h
    obtain ⟨V1, r1⟩ := r.freezes ns
    generalize hst1 : st.freezes ns = st1 at *
    rw [lmap_eq] at h
    cases hq : qbuildSlice T st1.ent (llen st1.hp) t n (parts.toList.map fun p => (p.1, st1.eval p.2)) with
    | none => rw [hq] at h; cases h
    | some qr =>
      rw [hq] at h
      injection h with h; subst h
      have hpt := partsOk_map (V := V1) (hp := st1.ent) (w := w) (f := st1.eval) (g := a.eval) r1.eval parts.toList
      obtain ⟨v, w', V', h1, h2⟩ := qbuildSlice_run (qs := parts.map fun (i, x) => (i, a.eval x)) hT r1.mem (ent_dead st1 0) hq (by simpa using hpt)
      obtain ⟨q1, q2⟩ := rel_good r1 h2
      refine wp_value (v := v) (w' := w') ?_ (hnx v w' V' q1 q2)
      simp only [ho, execOp, Sem.run_bind, h1, Result.andThen_ok, Sem.run_pure]
  · rename_i c0 ho
    split at h
    case isFalse => cases h
    case isTrue hb =>
    unfold eappendL at h
    split at h
    case h_2 => cases h
    case h_1 s x t t' hargs hats =>
    split at h
    · rename_i htt
      subst htt
      replace ho : o.op = .call { callee := .builtin .append, args := #[s, x], argTypes := #[t, t] } := by
        rw [ho]
        rcases c0 with ⟨cl, ⟨as⟩, ⟨ats⟩⟩
        simp only at hb hargs hats
        subst hargs; subst hats
        unfold isAppend at hb
        split at hb
        · rfl
        · cases hb
      unfold eappend at h
      split at h
      · rename_i te es eb e sz by' z0 ty sc xc ht hs hx
        split at h
        · cases h
        · rename_i heb
          have hsv := r.eval s
          rw [hs] at hsv
          have hxv := r.eval x
          rw [hx] at hxv
          split at h
          · rename_i ys f hys hf
            split at h
            · rename_i m
              split at h
              · rename_i fr e' xs hm
                split at h
                · rename_i he
                  subst he
                  split at h
                  · cases h
                  rename_i hlf0
                  have hlf : e'.flat = true → fr = true := fun h => by rw [h] at hlf0; simpa using hlf0
                  split at h
                  · cases h
                  · injection h with h; subst h
                    obtain ⟨fr2, e2, xs2, q1, q2⟩ := hsv
                    rw [hm] at q1
                    injection q1 with q3 q4 q5
                    subst q3; subst q4; cases q5
                    refine append_row hT r ho ht heb hm (Nat.le_refl _) q2 hxv hys hf (hob _ rfl) hlf (fun v w' V' h1 h2 => hnx v w' V' ?_ ?_)
                    · rw [List.take_length] at h1; exact h1
                    · rw [List.take_length] at h2; exact h2
                · cases h
              · cases h
            · rename_i m n
              split at h
              · rename_i fr e' xs hm
                split at h
                · rename_i he
                  subst he
                  split at h
                  · cases h
                  rename_i hlf0
                  have hlf : e'.flat = true → fr = true := fun h => by rw [h] at hlf0; simpa using hlf0
                  split at h
                  · cases h
                  · injection h with h; subst h
                    obtain ⟨fr2, e2, xs2, q1, q6, q2⟩ := hsv
                    rw [hm] at q1
                    injection q1 with q3 q4 q5
                    subst q3; subst q4; cases q5
                    exact append_row hT r ho ht heb hm q6 q2 hxv hys hf (hob _ rfl) hlf (fun v w' V' h1 h2 => hnx v w' V' h1 h2)
                · cases h
              · cases h
            · injection h with h; subst h
              exact append_nil hT r ho ht heb hsv.1 hxv hys hf (hob _ rfl) (fun v w' V' h1 h2 => hnx v w' V' h1 h2)
            · cases h
          · cases h
      · cases h
    · cases h
  · cases h
end
end Go.SX
