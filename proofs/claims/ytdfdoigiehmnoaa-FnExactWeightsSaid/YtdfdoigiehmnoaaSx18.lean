/- Append, in the words of the state. No condition. -/
import Derived.Test.YtdfdoigiehmnoaaSx17
namespace Go.SX
open Go.RowKit
set_option linter.unusedVariables false
set_option linter.unusedSimpArgs false

section
variable {P : Program} {T : Tab} {base : Nat} {M : LM} {w0 : World} {V : Vl} {w : World} {a : Act} {next : Act → World → Prop} {Q : Exit → Act → World → Prop}

/-- Row 'm' lies in block 'g' from here on. -/
def Vl.move (V : Vl) (m g : Nat) : Vl where
  blk n := if n = m then g else V.blk n
  has n := if n = m then True else V.has n
  Z0 := V.Z0
  Z1 := V.Z1

/-- A row of 'keep' elements of row 'm' and 'news' behind them. -/
theorem rowAt_append {Z Z' : Nat → Prop} {w' : World} {e : Ty} {vals vals' : Array Value} {xs ys : List e.den} {news : List Value} (h1 : RowAt Z w e vals xs) (h2 : news.length = ys.length * e.size)
    (h3 : ∀ i (h : i < ys.length), ∃ es, es.length = e.size ∧ (∀ (j : Nat) u, es[j]? = some u → news[i * e.size + j]? = some u) ∧ RdC Z' w e es ys[i])
    (h4 : vals'.toList.take ((xs.length + ys.length) * e.size) = vals.toList.take (xs.length * e.size) ++ news) (h5 : xs.length * e.size ≤ vals.size) {Z2 : Nat → Prop}
    (g1 : ∀ {cs : List Value} {d : e.den}, RdC Z w e cs d → RdC Z2 w' e cs d) (g2 : ∀ {cs : List Value} {d : e.den}, RdC Z' w e cs d → RdC Z2 w' e cs d) : RowAt Z2 w' e vals' (xs ++ ys) := by
  have hget : ∀ k u, k < (xs.length + ys.length) * e.size → (vals.toList.take (xs.length * e.size) ++ news)[k]? = some u → vals'[k]? = some u := by
    intro k u hk hu
    rw [← h4, List.getElem?_take, if_pos hk] at hu
    simpa using hu
  have hl : (vals.toList.take (xs.length * e.size)).length = xs.length * e.size := by
    have hv : vals.toList.length = vals.size := Array.length_toList
    rw [List.length_take, hv]; exact Nat.min_eq_left h5
  intro i hi
  rw [List.length_append] at hi
  rcases Nat.lt_or_ge i xs.length with h | h
  · obtain ⟨es, q1, q2, q3⟩ := h1 i h
    refine ⟨es, q1, fun j u hu => ?_, by rw [List.getElem_append_left h]; exact g1 q3⟩
    have hj : j < e.size := by rw [← q1]; exact (List.getElem?_eq_some_iff.1 hu).1
    have hlt : i * e.size + j < xs.length * e.size := by
      have : (i + 1) * e.size ≤ xs.length * e.size := Nat.mul_le_mul_right _ h
      rw [Nat.add_mul, Nat.one_mul] at this; omega
    refine hget _ u (by rw [Nat.add_mul]; omega) ?_
    rw [List.getElem?_append_left (by rw [hl]; exact hlt), List.getElem?_take, if_pos hlt]
    have := q2 j u hu
    simpa using this
  · obtain ⟨es, q1, q2, q3⟩ := h3 (i - xs.length) (by omega)
    refine ⟨es, q1, fun j u hu => ?_, by rw [List.getElem_append_right h]; exact g2 q3⟩
    have hj : j < e.size := by rw [← q1]; exact (List.getElem?_eq_some_iff.1 hu).1
    have hmul : i * e.size = xs.length * e.size + (i - xs.length) * e.size := by rw [← Nat.add_mul]; congr 1; omega
    have hlt : i * e.size + j < (xs.length + ys.length) * e.size := by
      have : (i + 1) * e.size ≤ (xs.length + ys.length) * e.size := Nat.mul_le_mul_right _ (by omega)
      rw [Nat.add_mul, Nat.one_mul] at this; omega
    refine hget _ u hlt ?_
    rw [List.getElem?_append_right (by rw [hl]; omega), hl, show i * e.size + j - xs.length * e.size = (i - xs.length) * e.size + j by omega]
    exact q2 j u hu

/-- The row behind another one's end: 'm' is turned, no word of it is left. -/
theorem rel_row {st : St} {ts : Array Value} (r : Rel base M w0 V st ts w) {m : Nat} {fr fr' : Bool} {e : Ty} {xs xs' : List e.den} (hm : st.ent m = .row fr e xs) {w' : World} {V' : Vl}
    (hk' : Kept base M w0 w') (hsz : w.heap.size ≤ w'.heap.size) (hblk : ∀ b, b < w.heap.size → (V.has m → b ≠ V.blk m) → w'.heap[b]? = w.heap[b]?)
    (hV : ∀ n, n ≠ m → V'.blk n = V.blk n ∧ (V'.has n ↔ V.has n)) (hz0 : V'.Z0 = V.Z0) (hz1 : V'.Z1 = V.Z1)
    (hok : ∀ hp', hp' m = .row fr' e xs' → (Ent.row fr' e xs').ok V' hp' w' m) (hown : V'.has m → (base ≤ V'.blk m ∨ M (V'.blk m)) ∧ V'.blk m < w'.heap.size ∧ (w.heap.size ≤ V'.blk m ∨ (V.has m ∧ V'.blk m = V.blk m)))
    (hmine : fr' = true → V'.has m → base ≤ V'.blk m) (hlent : (Ent.row fr' e xs').lentish → V'.has m → M.nm (V'.blk m) m) :
    Rel base M w0 V' { (st.map (killO m)) with hp := lset (st.map (killO m)).hp m (.row fr' e xs') } ts w' := by
  have r1 := r.kill (kills_killO m)
  have mm := r1.mem
  have hl : (st.ent m).live = true := by rw [hm]; rfl
  have hlt : m < st.hp.length := ent_lt hl
  have hent : (St.mk (st.map (killO m)).ts (lset (st.map (killO m)).hp m (.row fr' e xs'))).ent = hpSet (hpMap (killO m) st.ent) m (.row fr' e xs') := by
    rw [ent_set (by show m < (lmap _ _).length; rw [lmap_eq, List.length_map]; exact hlt)]
    congr 1
    exact ent_map st _
  rw [ent_map] at mm
  have hm1 : hpMap (killO m) st.ent m = .row fr e xs := by show (st.ent m).map _ = _; rw [hm]; rfl
  have hZ : ∀ {f : Bool} {b : Nat}, V.Z f b → V'.Z f b := by
    intro f b h
    unfold Vl.Z at *
    rw [hz0, hz1]; exact h
  have hZ' : ∀ {f : Bool} {b : Nat}, V'.Z f b → V.Z f b := by
    intro f b h
    unfold Vl.Z at *
    rw [hz0, hz1] at h; exact h
  have x : VX V (without (hpMap (killO m) st.ent) m) w V' (hpSet (hpMap (killO m) st.ent) m (.row fr' e xs')) w' := by
    refine ⟨fun n hn => ?_, fun b h => by rw [hz0]; exact h, fun b h => by rw [hz1]; exact h, fun b h => ?_, fun n hn hh => ?_⟩
    · have hne : n ≠ m := fun e => by subst e; simp [without, Ent.live] at hn
      exact ⟨(hV n hne).1, (hV n hne).2, by simp only [hpSet, without, if_neg hne]⟩
    · exact hblk b (mm.z_lt h) (fun hh e => by subst e; exact (r.mem.own m hl hh).2.2 (Vl.Z_all h))
    · have hne : n ≠ m := fun e => by subst e; simp [without, Ent.live] at hn
      rw [without_ne hne] at hn
      refine hblk _ (mm.own n hn hh).2.1 (fun hhm e => hne (mm.dist n m hn (by rw [hm1]; rfl) hh hhm e))
  have nn : ∀ {c : C} {v : Value}, C.ok V (hpMap (killO m) st.ent) w c v → c ≠ .own m → (∀ h, c ≠ .pre m h) → (∀ e xs, c ≠ .brw m e xs) → (∀ i o, c ≠ .elt m i o) → c.names m = false := by
    intro c v h h1 h2 h3 h4
    cases c with
    | own n => simp only [C.names, beq_eq_false_iff_ne]; exact fun e => h1 (by rw [e])
    | pre n k => simp only [C.names, beq_eq_false_iff_ne]; exact fun e => h2 k (by rw [e])
    | brw n e' ys => simp only [C.names, beq_eq_false_iff_ne]; exact fun e => h3 e' ys (by rw [e])
    | elt n i o => simp only [C.names, beq_eq_false_iff_ne]; exact fun e => h4 i o (by rw [e])
    | box n o =>
      simp only [C.names, beq_eq_false_iff_ne]
      intro e; subst e
      obtain ⟨_, _, cs, h5⟩ := h
      rw [hm1] at h5; cases h5
    | fn f caps =>
      simp only [C.names, List.any_eq_false, beq_iff_eq]
      intro n hn e; subst e
      obtain ⟨_, cs, h5⟩ := h.2 n hn
      rw [hm1] at h5; cases h5
    | _ => rfl
  have hk : ∀ c, killO m c ≠ .own m ∧ (∀ h, killO m c ≠ .pre m h) ∧ (∀ e xs, killO m c ≠ .brw m e xs) ∧ (∀ i o, killO m c ≠ .elt m i o) := by
    intro c
    cases c <;> simp only [killO] <;> (try split) <;> simp_all
  have tn : Turns V st.ent w (killO m) V' (hpSet (hpMap (killO m) st.ent) m (.row fr' e xs')) w' := by
    intro c v h
    have h1 := C.ok_kill (kills_killO m) h
    obtain ⟨k1, k2, k3, k4⟩ := hk c
    exact C.ok_ext x (C.ok_without (nn h1 k1 k2 k3 k4) h1)
  have hcases : ∀ n, n ≠ m → (hpSet (hpMap (killO m) st.ent) m (.row fr' e xs') n).live = true → (st.ent n).live = true := by
    intro n hn h
    simp only [hpSet, if_neg hn] at h
    rw [← map_live (f := killO m)]; exact h
  refine ⟨r1.len, fun i s v hs hv => ?_, ?_⟩
  · rw [hent]
    have hs' : (lmap (S.map (killO m)) st.ts)[i]? = some s := hs
    rw [lmap_eq, List.getElem?_map] at hs'
    cases hx : st.ts[i]? with
    | none => rw [hx] at hs'; cases hs'
    | some y =>
      rw [hx] at hs'
      simp only [Option.map_some, Option.some.injEq] at hs'
      subst hs'
      exact tn.s (r.slots i y v hx hv)
  · rw [hent]
    refine ⟨fun n => ?_, fun n cs h => ?_, fun n hl' hh => ?_, fun n e2 xs2 h hh => ?_, fun n n' h1 h2 hh hh' he => ?_, fun b hb => by rw [hz0] at hb; exact mm.z0 b hb, fun b hb => ?_, hk', fun n hl' hh => ?_⟩
    · by_cases hn : n = m
      · subst hn
        have hv : hpSet (hpMap (killO n) st.ent) n (.row fr' e xs') n = .row fr' e xs' := by simp only [hpSet, if_true]
        rw [hv]
        exact hok _ hv
      · have hv : hpSet (hpMap (killO m) st.ent) m (.row fr' e xs') n = (st.ent n).map (killO m) := by simp only [hpSet, if_neg hn]; rfl
        have h0 := r.mem.ents n
        have hvn := hV n hn
        rw [hv]
        cases hne : st.ent n with
        | dead => trivial
        | bx cs =>
          rw [hne] at h0
          obtain ⟨vals, el, h2, h3⟩ := h0
          have hhas := r.mem.box n cs hne
          refine ⟨vals, el, ?_, tn.all h3⟩
          rw [hvn.1, hblk _ (r.mem.own n (by rw [hne]; rfl) hhas).2.1 (fun hhm e => hn (r.mem.dist n m (by rw [hne]; rfl) hl hhas hhm e))]
          exact h2
        | row fr2 e2 xs2 =>
          rw [hne] at h0
          rcases h0 with ⟨h2, h2'⟩ | ⟨h2, vals, el, h3, h4, h5⟩
          · exact .inl ⟨fun h => h2 (hvn.2.1 h), h2'⟩
          · refine .inr ⟨hvn.2.2 h2, vals, el, ?_, h4, fun i hi => ?_⟩
            · rw [hvn.1, hblk _ (r.mem.own n (by rw [hne]; rfl) h2).2.1 (fun hhm e => hn (r.mem.dist n m (by rw [hne]; rfl) hl h2 hhm e))]
              exact h3
            · obtain ⟨es, q1, q2, q3⟩ := h5 i hi
              exact ⟨es, q1, q2, q3.mono (fun b hb => hZ hb) (fun b hb => x.agz b (Vl.Z_all hb))⟩
    · have hn : n ≠ m := fun e => by subst e; simp [hpSet] at h
      simp only [hpSet, if_neg hn] at h
      exact (hV n hn).2.2 (mm.box n cs h)
    · by_cases hn : n = m
      · subst hn
        obtain ⟨k1, k2, k3⟩ := hown hh
        refine ⟨k1, k2, fun hz => ?_⟩
        rcases k3 with k3 | ⟨k3, k4⟩
        · have := mm.z_lt (hZ' hz); omega
        · exact (r.mem.own n hl k3).2.2 (by rw [← k4]; exact hZ' hz)
      · have hl2 := hcases n hn hl'
        have hh2 := (hV n hn).2.1 hh
        obtain ⟨k1, k2, k3⟩ := r.mem.own n hl2 hh2
        rw [(hV n hn).1]
        exact ⟨k1, by omega, fun hz => k3 (hZ' hz)⟩
    · by_cases hn : n = m
      · subst hn
        have hv : hpSet (hpMap (killO n) st.ent) n (.row fr' e xs') n = .row fr' e xs' := by simp only [hpSet, if_true]
        rw [hv] at h
        injection h with h1 h2 h3
        exact hmine h1 hh
      · simp only [hpSet, if_neg hn] at h
        rw [(hV n hn).1]
        exact mm.mine n e2 xs2 h ((hV n hn).2.1 hh)
    · by_cases hn : n = m
      · by_cases hn' : n' = m
        · rw [hn, hn']
        · subst hn
          exfalso
          have hl2 := hcases n' hn' h2
          have hh2 := (hV n' hn').2.1 hh'
          rw [(hV n' hn').1] at he
          rcases (hown hh).2.2 with k3 | ⟨k3, k4⟩
          · have := (r.mem.own n' hl2 hh2).2.1; omega
          · exact hn' (r.mem.dist n' n hl2 hl hh2 k3 (by rw [← he, k4]))
      · by_cases hn' : n' = m
        · subst hn'
          exfalso
          have hl2 := hcases n hn h1
          have hh2 := (hV n hn).2.1 hh
          rw [(hV n hn).1] at he
          rcases (hown hh').2.2 with k3 | ⟨k3, k4⟩
          · have := (r.mem.own n hl2 hh2).2.1; omega
          · exact hn (r.mem.dist n n' hl2 hl hh2 k3 (by rw [he, k4]))
        · rw [(hV n hn).1, (hV n' hn').1] at he
          exact r.mem.dist n n' (hcases n hn h1) (hcases n' hn' h2) ((hV n hn).2.1 hh) ((hV n' hn').2.1 hh') he
    · rw [hz1] at hb; have := mm.z1 b hb; omega
    · by_cases hn : n = m
      · subst hn
        simp only [hpSet, if_true] at hl'
        exact hlent hl' hh
      · simp only [hpSet, if_neg hn] at hl'
        rw [(hV n hn).1]
        exact mm.lent n hl' ((hV n hn).2.1 hh)

end
end Go.SX
