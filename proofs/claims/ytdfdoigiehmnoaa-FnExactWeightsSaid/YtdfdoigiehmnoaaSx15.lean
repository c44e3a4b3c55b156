/- Stores, literals of what the call owns. No condition. -/
import Derived.Test.YtdfdoigiehmnoaaSx14
namespace Go.SX
open Go.RowKit
set_option linter.unusedVariables false
set_option linter.unusedSimpArgs false

section
variable {P : Program} {T : Tab} {base : Nat} {M : LM} {w0 : World} {V : Vl} {w : World} {a : Act} {next : Act → World → Prop} {Q : Exit → Act → World → Prop}

/-- The state behind a write into box 'm'. -/
theorem rel_write_box {st : St} {ts : Array Value} (r : Rel base M w0 V st ts w) {m : Nat} {cs cs' : List C} {w' : World} (hm : st.ent m = .bx cs) (hblk : ∀ b, b ≠ V.blk m → w'.heap[b]? = w.heap[b]?)
    (hk' : Kept base M w0 w') (hsz : w'.heap.size = w.heap.size) {vals : Array Value} {el : TypeId} (hc : w'.heap[V.blk m]? = some (.cells vals el (0, 0))) (hok : okAll V st.ent w cs' vals.toList) :
    Rel base M w0 V { st with hp := lset st.hp m (.bx cs') } ts w' := by
  have mm := r.mem
  have hl : (st.ent m).live = true := by rw [hm]; rfl
  have hent : (St.mk st.ts (lset st.hp m (.bx cs'))).ent = hpSet st.ent m (.bx cs') := ent_set (ent_lt hl) _ _
  have k : Wr V st.ent w m (hpSet st.ent m (.bx cs')) w' := ⟨fun n hn => by simp only [hpSet, if_neg hn], hblk, mm.box m cs hm, .inl ⟨cs, cs', hm, by simp only [hpSet, if_true]⟩⟩
  have nb : ∀ {c : C} {v : Value}, C.ok V st.ent w c v → NoB m c := by
    intro c v h e xs he
    subst he
    obtain ⟨⟨fr, e', ys, h1⟩, _⟩ := h
    rw [hm] at h1; cases h1
  have nbAll : ∀ {cs : List C} {vs : List Value}, okAll V st.ent w cs vs → okAll V (hpSet st.ent m (.bx cs')) w' cs vs := by
    intro cs vs h
    exact ⟨h.1, fun j c v hc hv => k.ok mm (h.2 j c v hc hv) (nb (h.2 j c v hc hv))⟩
  have hcases : ∀ n, (hpSet st.ent m (.bx cs') n).live = true → (st.ent n).live = true := by
    intro n h
    by_cases hn : n = m
    · subst hn; exact hl
    · simp only [hpSet, if_neg hn] at h; exact h
  refine ⟨r.len, fun i s v hs hv => ?_, ?_⟩
  · rw [hent]
    have h0 := r.slots i s v hs hv
    cases s with
    | c x => exact k.ok mm h0 (nb h0)
    | agg cs => obtain ⟨vs, h1, h2⟩ := h0; exact ⟨vs, h1, nbAll h2⟩
    | tup xs =>
      obtain ⟨vs, h1, h2, h3⟩ := h0
      refine ⟨vs, h1, h2, fun j y v hy hv => ?_⟩
      have h4 := h3 j y v hy hv
      unfold okTop at h4 ⊢
      split
      · rename_i hb; rw [if_pos hb] at h4; obtain ⟨us, k1, k2⟩ := h4; exact ⟨us, k1, nbAll k2⟩
      · rename_i hb; rw [if_neg hb] at h4; exact nbAll h4
    | und => exact h0
    | any => trivial
    | arr e xs => exact S.arr_ext h0
  · rw [hent]
    refine ⟨fun n => ?_, fun n cs2 h => ?_, fun n hl' hh => ?_, fun n e xs h hh => ?_, fun n n' h1 h2 hh hh' he => mm.dist n n' (hcases n h1) (hcases n' h2) hh hh' he, mm.z0, fun b hb => ?_, hk', fun n hl' hh => ?_⟩
    · by_cases hn : n = m
      · subst hn
        have : hpSet st.ent n (.bx cs') n = .bx cs' := by simp only [hpSet, if_true]
        rw [this]; exact ⟨vals, el, hc, nbAll hok⟩
      · have hv : hpSet st.ent m (.bx cs') n = st.ent n := by simp only [hpSet, if_neg hn]
        have h1 := mm.ents n
        rw [hv]
        cases hne : st.ent n with
        | dead => trivial
        | bx cs2 =>
          rw [hne] at h1
          obtain ⟨vals2, el2, h2, h3⟩ := h1
          refine ⟨vals2, el2, ?_, nbAll h3⟩
          rw [hblk _ (fun e => hn (mm.dist n m (by rw [hne]; rfl) hl (mm.box n cs2 hne) (mm.box m cs hm) e))]; exact h2
        | row fr e xs =>
          rw [hne] at h1
          rcases h1 with h2 | ⟨h2, vals2, el2, h3, h4, h5⟩
          · exact .inl h2
          · refine .inr ⟨h2, vals2, el2, ?_, h4, fun i hi => ?_⟩
            · rw [hblk _ (fun e => hn (mm.dist n m (by rw [hne]; rfl) hl h2 (mm.box m cs hm) e))]; exact h3
            · obtain ⟨es, q1, q2, q3⟩ := h5 i hi
              exact ⟨es, q1, q2, q3.mono (fun _ h => h) (fun b hb => k.z mm hb)⟩
    · by_cases hn : n = m
      · subst hn; exact mm.box n cs hm
      · simp only [hpSet, if_neg hn] at h
        exact mm.box n cs2 h
    · rw [hsz]
      exact mm.own n (hcases n hl') hh
    · by_cases hn : n = m
      · subst hn
        have : hpSet st.ent n (.bx cs') n = .bx cs' := by simp only [hpSet, if_true]
        rw [this] at h; cases h
      · simp only [hpSet, if_neg hn] at h
        exact mm.mine n e xs h hh
    · rw [hsz]; exact mm.z1 b hb
    · by_cases hn : n = m
      · subst hn
        simp only [hpSet, if_true] at hl'
        exact hl'.elim
      · simp only [hpSet, if_neg hn] at hl'
        exact mm.lent n hl' hh

theorem cell_ok {hp : Nat → Ent} {v : Value} (h : v.oneCell' = true) : C.ok V hp w (cell v) v := by
  unfold cell
  split
  · exact rfl
  · exact rfl
  · split
    · rename_i hk; exact ⟨rfl, hk⟩
    · exact h
  · split
    · rename_i hk; exact ⟨rfl, hk⟩
    · exact h
  · exact ⟨rfl, rfl, rfl, rfl⟩
  · exact ⟨rfl, trivial⟩
  · exact h

theorem ok_const {hp : Nat → Ent} (v : Value) : S.ok V hp w (S.ofConst v) v := by
  unfold S.ofConst
  split
  · rename_i cs
    split
    · rename_i hc
      rw [lall_eq, List.all_eq_true] at hc
      refine ⟨cs, rfl, ?_⟩
      rw [lmap_eq]
      refine ⟨by simp, fun j c v hj hv => ?_⟩
      rw [List.getElem?_map] at hj
      rw [hv] at hj
      simp only [Option.map_some, Option.some.injEq] at hj
      rw [← hj]
      exact cell_ok (hc v (List.mem_of_getElem? hv))
    · trivial
  · trivial
  · rename_i h1 h2
    refine cell_ok ?_
    cases v <;> first | rfl | exact absurd rfl (h1 _) | exact absurd rfl (h2 _)

theorem Rel.eval {st : St} (r : Rel base M w0 V st a.tmps w) : ∀ x, S.ok V st.ent w (st.eval x) (a.eval x) := by
  intro x
  cases x with
  | tmp t =>
    show S.ok V st.ent w (nth .any st.ts t) (a.tmps.getD t undef)
    rw [nth_eq]
    cases hs : st.ts[t]? with
    | none => trivial
    | some s =>
      have ht : t < a.tmps.size := by have := (List.getElem?_eq_some_iff.1 hs).1; rw [r.len] at this; exact this
      have hv : a.tmps[t]? = some a.tmps[t] := Array.getElem?_eq_getElem ht
      have := r.slots t s _ hs hv
      simpa [Array.getD, ht] using this
  | const v =>
    exact ok_const v
  | global g => trivial
  | func f => exact ⟨rfl, fun n hn => by simp at hn⟩
end
end Go.SX
