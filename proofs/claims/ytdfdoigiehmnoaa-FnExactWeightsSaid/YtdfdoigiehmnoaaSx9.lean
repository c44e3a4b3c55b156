/- Loads, addresses, slices, composites. No condition. -/
import Derived.Test.YtdfdoigiehmnoaaSx8
import Derived.Laws.Tables
namespace Go.SX
open Go.RowKit
set_option linter.unusedVariables false

section
variable {P : Program} {T : Tab} {V : Vl} {hp lk : Nat → Ent} {w : World}

theorem getD_lt {α : Type} {xs : List α} {i : Nat} (d : α) (h : i < xs.length) : xs.getD i d = xs[i] := by simp [List.getD, h]

theorem okAll_len {cs : List C} {vs : List Value} (h : okAll V hp w cs vs) : cs.length = vs.length := h.1

/-- A load of cells that are known. -/
theorem load_cells (hT : TabOk P T) {t : TypeId} {n : Nat} {cs : List C} {s : S} (hn : sizeT T t = some n) (hp' : packC T t cs = some s) (hlen : cs.length = n) {b o : Nat} {vs : List Value} (ho : okAll V hp w cs vs)
    (hc : ∀ (j : Nat) v, vs[j]? = some v → w.cell? ⟨b, o + j, none⟩ = some v) :
    ∃ v, (Instr.loadAt t (.pointer (some ⟨b, o, none⟩))).run P w = .ok v w ∧ S.ok V hp w s v := by
  unfold sizeT at hn
  unfold packC at hp'
  cases ht : T t with
  | none => rw [ht] at hn; cases hn
  | some ti =>
    rw [ht] at hn hp'
    have hb := hT t ti ht
    simp only [omap, Option.some.injEq] at hn
    obtain ⟨h1, h2⟩ := run_loadAt hb w b o vs (by rw [← ho.1, hlen, hn]) hc
    split at hp'
    · rename_i fs n' heq
      simp only [Option.some.injEq] at heq
      split at hp'
      · injection hp' with hp'; subst hp'
        exact ⟨_, h1 (by subst heq; rfl), vs.toArray, rfl, by simpa using ho⟩
      · cases hp'
    · cases hp'
    · rename_i ti' hno hna heq
      simp only [Option.some.injEq] at heq
      subst heq
      have hag : ti.agg = false := by
        unfold TI.agg
        split
        · rename_i fs hk
          exact (hno fs ti.size ti.bytes ti.zero ti.ty ti.eq (by cases ti; simp only at hk; subst hk; rfl)).elim
        · rename_i q1 q2 q3 q4 q5 hk
          exact (hna q1 q2 q3 q4 q5 ti.size ti.bytes ti.zero ti.ty ti.eq (by cases ti; simp only at hk; subst hk; rfl)).elim
        · rfl
      split at hp'
      · injection hp' with hp'; subst hp'
        obtain ⟨v, vs', rfl, h3, h4⟩ := okAll_cons ho
        have : vs' = [] := by have := h4.1; simp at this; exact List.length_eq_zero_iff.1 this.symm
        subst this
        exact ⟨v, h2 hag v rfl, h3⟩
      · cases hp'
    · rename_i heq; cases heq

theorem partOf_some {cs r : List C} {off n : Nat} (h : partOf cs off n = some r) : r = (cs.drop off).take n ∧ r.length = n := by
  unfold partOf at h
  simp only [ltake_eq, ldrop_eq, llen_eq] at h
  split at h
  · injection h with h; subst h; exact ⟨rfl, by assumption⟩
  · cases h

/-- A row's element, in memory. -/
theorem row_elem {n i : Nat} {fr : Bool} {e : Ty} {xs : List e.den} (he : (Ent.row fr e xs).ok V hp w n) (hh : V.has n) (hi : i < xs.length) :
    ∃ es, es.length = e.size ∧ (∀ (j : Nat) v, es[j]? = some v → w.cell? ⟨V.blk n, i * e.size + j, none⟩ = some v) ∧ RdC (V.Z fr) w e es (xs.getD i e.dflt) := by
  rcases he with ⟨h1, _⟩ | ⟨_, vals, el, h2, h3, h4⟩
  · exact absurd hh h1
  · obtain ⟨es, h5, h6, h7⟩ := h4 i hi
    refine ⟨es, h5, fun j v hv => ?_, by rw [getD_lt _ hi]; exact h7⟩
    simp only [World.cell?, h2]
    exact h6 j v hv

theorem qload_run (hT : TabOk P T) (hl : LkOk V hp lk w) {t : TypeId} {p : C} {r : QR} {v : Value} (h : qload T lk t p = some r) (hv : C.ok V hp w p v) : PureRun P V hp w r (Instr.loadAt t v) := by
  unfold qload at h
  cases hn : sizeT T t with
  | none => rw [hn] at h; cases h
  | some n =>
    rw [hn] at h
    simp only at h
    generalize hcs : cellsOfPtr lk n p = cs at h
    cases cs with
    | none => cases h
    | some cs =>
      simp only [omap_eq] at h
      cases hs : packC T t cs with
      | none => rw [hs] at h; cases h
      | some s =>
        rw [hs] at h
        simp only [Option.map_some, Option.some.injEq] at h
        subst h
        unfold cellsOfPtr at hcs
        refine ⟨rfl, rfl, ?_⟩
        cases p with
        | at_ fr ty d off =>
          obtain ⟨h1, h2⟩ := partOf_some hcs
          obtain ⟨b, o, rfl, hz, es, h3, h4, h5⟩ := hv
          have ho := okAll_take (okAll_drop (ok_expand (V := V) (hp := hp) fr ty h5) off) n
          rw [← h1] at ho
          exact load_cells hT hn hs h2 ho (fun j v hj => by
            rw [List.getElem?_take] at hj
            split at hj
            · rw [List.getElem?_drop] at hj
              have := h4 (off + j) (List.getElem?_eq_some_iff.1 hj).1
              rw [show o + off + j = o + (off + j) by omega, this]
              exact (List.getElem?_eq_getElem _).symm.trans hj
            · cases hj)
        | box m off =>
          simp only at hcs
          split at hcs
          · rename_i cs' hm
            obtain ⟨h1, h2⟩ := partOf_some hcs
            obtain ⟨rfl, hh, _⟩ := hv
            obtain ⟨e1, e2⟩ := hl m (by rw [hm]; rfl)
            rw [hm] at e2
            obtain ⟨vals, el, h3, h4⟩ := e2
            have ho := okAll_take (okAll_drop h4 off) n
            rw [← h1] at ho
            exact load_cells hT hn hs h2 ho (fun j v hj => by
              rw [List.getElem?_take] at hj
              split at hj
              · rw [List.getElem?_drop] at hj
                simp only [World.cell?, h3]
                simpa using hj
              · cases hj)
          · cases hcs
        | elt m i off =>
          simp only at hcs
          split at hcs
          · rename_i fr e xs hm
            obtain ⟨h1, h2⟩ := partOf_some hcs
            obtain ⟨hh, fr', e', xs', h6, hi, rfl⟩ := hv
            obtain ⟨e1, e2⟩ := hl m (by rw [hm]; rfl)
            rw [hm] at e2
            rw [← e1, hm] at h6
            injection h6 with e3 e4 e5
            subst e3; subst e4; cases e5
            obtain ⟨es, h7, h8, h9⟩ := row_elem e2 hh hi
            have ho := okAll_take (okAll_drop (ok_expand (V := V) (hp := hp) fr e h9) off) n
            rw [← h1] at ho
            exact load_cells hT hn hs h2 ho (fun j v hj => by
              rw [List.getElem?_take] at hj
              split at hj
              · rw [List.getElem?_drop] at hj
                rw [show i * e.size + off + j = i * e.size + (off + j) by omega]
                exact h8 _ v hj
              · cases hj)
          · cases hcs
        | _ => cases hcs

theorem field_ok (hT : TabOk P T) {t : TypeId} {f : Nat} {x : Nat × Nat × Bool} (h : fieldOf T t f = some x) :
    ∃ fields fd j d, P.underlying t = some (.struct fields) ∧ fields[f]? = some fd ∧ fd.offset = x.1 ∧ x.2.1 ≠ 0 ∧ P.info? fd.type = some j ∧ j.size = x.2.1 ∧ P.underlying fd.type = some d ∧ descAgg d = x.2.2 := by
  unfold fieldOf at h
  split at h
  · rename_i fs sz by' z ty teq heq
    have hb := (ti_ok (hT t _ heq)).2.2
    obtain ⟨fields, h1, h2⟩ := struct_ok hb
    rw [nth?_eq] at h
    obtain ⟨fd, j, d, h3, h4⟩ := fieldsB_ok h2 h
    exact ⟨fields, fd, j, d, h1, by simpa using h3, h4⟩
  · cases h

theorem qfieldAddr_run (hT : TabOk P T) {t : TypeId} {p : C} {f : Nat} {r : QR} {v : Value} (h : qfieldAddr T t p f = some r) (hv : C.ok V hp w p v) : PureRun P V hp w r (Instr.fieldAt t v f) := by
  unfold qfieldAddr at h
  cases hf : fieldOf T t f with
  | none => rw [hf] at h; cases h
  | some x =>
    obtain ⟨o, n, ag⟩ := x
    rw [hf] at h
    obtain ⟨fields, fd, j, d, h1, h2, h3, h4, h5, h6, _⟩ := field_ok hT hf
    have run : ∀ b off, (Instr.fieldAt t (.pointer (some ⟨b, off, none⟩)) f).run P w = .ok (.pointer (some ⟨b, off + o, none⟩)) w := by
      intro b off
      have hne : ¬ (j.size = 0) := by rw [h6]; exact h4
      have h3' : fd.offset = o := h3
      simp [Instr.fieldAt, run_underlying h1, h2, Instr.sureAddr, fieldPlace, run_sizeOf h5, hne, h3', add_mk]
    simp only at h
    split at h
    · rename_i fr ty dd off
      injection h with h; subst h
      obtain ⟨b, o', rfl, hz, es, k1, k2, k3⟩ := hv
      exact ⟨rfl, rfl, _, run _ _, b, o', by rw [Nat.add_assoc], hz, es, k1, k2, k3⟩
    · injection h with h; subst h
      obtain ⟨rfl, k1, k2⟩ := hv
      exact ⟨rfl, rfl, _, run _ _, rfl, k1, k2⟩
    · injection h with h; subst h
      obtain ⟨k1, fr, e, xs, k2, k3, rfl⟩ := hv
      exact ⟨rfl, rfl, _, run _ _, k1, fr, e, xs, k2, k3, by rw [Nat.add_assoc]⟩
    · cases h

/-- As 'qfieldAddr_run', in every world. -/
theorem qfieldAddr_all (hT : TabOk P T) {t : TypeId} {p : C} {f : Nat} {r : QR} {v : Value} (h : qfieldAddr T t p f = some r) (hv : C.ok V hp w p v) :
    r.ob = none ∧ r.hy = none ∧ r.new = [] ∧ ∃ u, (∀ w', (Instr.fieldAt t v f).run P w' = .ok u w') ∧ S.ok V hp w r.res u := by
  unfold qfieldAddr at h
  cases hf : fieldOf T t f with
  | none => rw [hf] at h; cases h
  | some x =>
    obtain ⟨o, n, ag⟩ := x
    rw [hf] at h
    obtain ⟨fields, fd, j, d, h1, h2, h3, h4, h5, h6, _⟩ := field_ok hT hf
    have run : ∀ b off w', (Instr.fieldAt t (.pointer (some ⟨b, off, none⟩)) f).run P w' = .ok (.pointer (some ⟨b, off + o, none⟩)) w' := by
      intro b off w'
      have hne : ¬ (j.size = 0) := by rw [h6]; exact h4
      have h3' : fd.offset = o := h3
      simp [Instr.fieldAt, run_underlying h1, h2, Instr.sureAddr, fieldPlace, run_sizeOf h5, hne, h3', add_mk]
    simp only at h
    split at h
    · rename_i fr ty dd off
      injection h with h; subst h
      obtain ⟨b, o', rfl, hz, es, k1, k2, k3⟩ := hv
      exact ⟨rfl, rfl, rfl, _, run _ _, b, o', by rw [Nat.add_assoc], hz, es, k1, k2, k3⟩
    · injection h with h; subst h
      obtain ⟨rfl, k1, k2⟩ := hv
      exact ⟨rfl, rfl, rfl, _, run _ _, rfl, k1, k2⟩
    · injection h with h; subst h
      obtain ⟨k1, fr, e, xs, k2, k3, rfl⟩ := hv
      exact ⟨rfl, rfl, rfl, _, run _ _, k1, fr, e, xs, k2, k3, by rw [Nat.add_assoc]⟩
    · cases h

theorem elemTy_ok (hT : TabOk P T) {t : TypeId} {e : Ty} (h : elemTy T t = some e) :
    ∃ te i z, P.underlying t = some (.slice te) ∧ P.info? te = some i ∧ i.size = e.size ∧ i.zero = some z ∧ z.cells = e.zeros.toArray := by
  unfold elemTy at h
  split at h
  · rename_i te es eb e' sz by' z ty teq heq
    injection h with h; subst h
    obtain ⟨h1, h2, i, z, h3, h4, h5, h6, h7⟩ := slice_ok (ti_ok (hT t _ heq)).2.2
    exact ⟨te, i, z, h1, h3, h4, h6, h7⟩
  · cases h

/-- The address of an element. -/
theorem run_indexAt (hT : TabOk P T) {t : TypeId} {e : Ty} (h : elemTy T t = some e) (ad : Addr) (len cap : Nat) (k : IntKind) (n : Int) (h0 : 0 ≤ n) (h1 : n < (len : Int)) :
    (Instr.indexAt t (.slice (some ad) len cap) (.int k n)).run P w = .ok (.pointer (some (ad.add (n.toNat * e.size)))) w := by
  obtain ⟨te, i, z, h2, h3, h4, _⟩ := elemTy_ok hT h
  simp [Instr.indexAt, run_underlying h2, asIntOf, h0, h1, run_sizeOf h3, h4]

theorem hasRow_index (hT : TabOk P T) {t : TypeId} {e : Ty} (he : elemTy T t = some e) {m h : Nat} {v : Value} {k : IntKind} {n : Int} (hr : hasRow V w m e h v) (h0 : 0 ≤ n) (h1 : n < (h : Int)) :
    V.has m ∧ (Instr.indexAt t v (.int k n)).run P w = .ok (.pointer (some ⟨V.blk m, n.toNat * e.size + 0, none⟩)) w := by
  rcases hr with ⟨_, _, rfl⟩ | ⟨hh, cap, vals, el, rfl, _⟩
  · omega
  · refine ⟨hh, ?_⟩
    rw [run_indexAt hT he _ _ _ _ _ h0 h1, add_mk]
    simp

theorem qindexS_run (hT : TabOk P T) (hl : LkOk V hp lk w) {t : TypeId} {x i : C} {r : QR} {v u : Value} (h : qindexS T lk t x i = some r) (hob : ∀ p, r.ob = some p → p) (hx : C.ok V hp w x v) (hi : C.ok V hp w i u) :
    PureRun P V hp w r (Instr.indexAt t v u) := by
  unfold qindexS at h
  split at h
  · rename_i e' fr e xs k n he
    split at h
    · rename_i hee
      subst hee
      injection h with h; subst h
      obtain ⟨h0, h1⟩ := hob _ rfl
      obtain ⟨rfl, _⟩ := ok_int hi
      obtain ⟨a, cap, hv, h2, h3, h4⟩ := hx
      simp only [List.cons.injEq, and_true] at hv
      subst hv
      have hlt : n.toNat < xs.length := by omega
      obtain ⟨ad, rfl, h5, h6, es, h7, h8, h9⟩ := h4 n.toNat hlt
      obtain ⟨b, o, sp⟩ := ad
      simp only at h5
      subst h5
      refine ⟨rfl, rfl, _, run_indexAt hT he _ _ _ _ _ h0 h1, b, o + n.toNat * e.size, by rw [add_mk]; rfl, h6, es, h7, h8, ?_⟩
      rw [getD_lt _ hlt]
      exact h9
    · cases h
  · rename_i e' m k n he
    split at h
    · rename_i fr e xs hm
      split at h
      · rename_i hee
        subst hee
        injection h with h; subst h
        obtain ⟨h0, h1⟩ := hob _ rfl
        obtain ⟨rfl, _⟩ := ok_int hi
        obtain ⟨fr', e2, xs', h2, h3⟩ := hx
        obtain ⟨e1, _⟩ := hl m (by rw [hm]; rfl)
        rw [← e1, hm] at h2
        injection h2 with e3 e4 e5
        subst e3; subst e4; cases e5
        obtain ⟨h4, h5⟩ := hasRow_index (k := k) hT he h3 h0 h1
        exact ⟨rfl, rfl, _, h5, h4, fr, e, xs, by rw [← e1]; exact hm, by omega, rfl⟩
      · cases h
    · cases h
  · rename_i e' m hh k n he
    split at h
    · rename_i fr e xs hm
      split at h
      · rename_i hee
        subst hee
        injection h with h; subst h
        obtain ⟨h0, h1⟩ := hob _ rfl
        obtain ⟨rfl, _⟩ := ok_int hi
        obtain ⟨fr', e2, xs', h2, h6, h3⟩ := hx
        obtain ⟨e1, _⟩ := hl m (by rw [hm]; rfl)
        rw [← e1, hm] at h2
        injection h2 with e3 e4 e5
        subst e3; subst e4; cases e5
        obtain ⟨h4, h5⟩ := hasRow_index (k := k) hT he h3 h0 h1
        exact ⟨rfl, rfl, _, h5, h4, fr, e, xs, by rw [← e1]; exact hm, by omega, rfl⟩
      · cases h
    · cases h
  · cases h

theorem qindexA_run (hT : TabOk P T) (hl : LkOk V hp lk w) {t : TypeId} {m i0 : Nat} {kk : IntKind} {k : Int} {r : QR} {v : Value} (h : qindexA T lk t m i0 k = some r) (hob : ∀ p, r.ob = some p → p) (hx : C.ok V hp w (.elt m i0 0) v) :
    PureRun P V hp w r (Instr.indexAt t v (.int kk k)) := by
  unfold qindexA at h
  split at h
  · rename_i len te es n ety sz by' z ty teq ht
    split at h
    · rename_i fr e xs hm
      split at h
      · rename_i hee
        subst hee
        injection h with h; subst h
        obtain ⟨h0, h1, h2⟩ := hob _ rfl
        obtain ⟨_, a1, ⟨i, a2, a3⟩, a4, a5, a6, a7, a8⟩ := ti_arr (hT t _ ht) rfl
        obtain ⟨hh, fr', e2, xs', g1, g2, rfl⟩ := hx
        obtain ⟨e1, _⟩ := hl m (by rw [hm]; rfl)
        have hlk : hp m = .row fr e xs := by rw [← e1]; exact hm
        rw [hlk] at g1
        injection g1 with g3 g4 g5
        subst g3; subst g4; cases g5
        have hstep : es / e.size * e.size = es := by
          have := Nat.div_add_mod es e.size
          rw [a7, Nat.add_zero, Nat.mul_comm] at this
          exact this
        have hpos : 0 < es := by
          rcases Nat.eq_zero_or_pos es with h3 | h3
          · exfalso
            rw [h3, Nat.mul_zero] at a6
            have := e.size_pos
            rcases Nat.mul_eq_zero.1 a6 with h4 | h4 <;> omega
          · exact h3
        have hd : 1 ≤ es / e.size := by
          rcases Nat.eq_zero_or_pos (es / e.size) with h3 | h3
          · rw [h3, Nat.zero_mul] at hstep; omega
          · exact h3
        refine ⟨rfl, rfl, .pointer (some ⟨V.blk m, (i0 + k.toNat * (es / e.size)) * e.size + 0, none⟩), ?_, hh, fr, e, xs, hlk, ?_, rfl⟩
        · simp only [Instr.indexAt, asIntOf, Sem.run_bind, Sem.run_pure, Result.andThen_ok, run_underlying a1, Instr.sureAddr]
          rw [if_pos ⟨h0, h1⟩]
          simp only [Sem.run_bind, run_sizeOf a2, a3, Result.andThen_ok, Sem.run_pure, add_mk]
          have hoff : i0 * e.size + 0 + k.toNat * es = (i0 + k.toNat * (es / e.size)) * e.size + 0 := by rw [Nat.add_mul, Nat.mul_assoc, hstep]; omega
          rw [hoff]
        · rw [Nat.add_mul, Nat.one_mul] at h2
          omega
      · cases h
    · cases h
  · cases h

theorem qindexAddr_run (hT : TabOk P T) (hl : LkOk V hp lk w) {t : TypeId} {x i : C} {r : QR} {v u : Value} (h : qindexAddr T lk t x i = some r) (hob : ∀ p, r.ob = some p → p) (hx : C.ok V hp w x v) (hi : C.ok V hp w i u) :
    PureRun P V hp w r (Instr.indexAt t v u) := by
  unfold qindexAddr at h
  split at h
  · obtain ⟨rfl, _⟩ := ok_int hi
    exact qindexA_run hT hl h hob hx
  · exact qindexS_run hT hl h hob hx hi

end
end Go.SX
