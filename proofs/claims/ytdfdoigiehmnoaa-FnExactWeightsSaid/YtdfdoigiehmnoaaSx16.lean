/- Operations that write: stores, literals of what the call owns. No condition. -/
import Derived.Test.YtdfdoigiehmnoaaSx15
namespace Go.SX
open Go.RowKit
set_option linter.unusedVariables false
set_option linter.unusedSimpArgs false

theorem ent_alloc (st : St) (es : List Ent) : (st.alloc es).ent = hpNew st.ent (llen st.hp) es := by
  funext n
  show nth .dead (lapp st.hp es) n = hpNew st.ent (llen st.hp) es n
  unfold hpNew
  rw [nth_eq, lapp_eq, llen_eq]
  split
  · rename_i h
    rw [List.getElem?_append_left h]
    show _ = nth .dead st.hp n
    rw [nth_eq]
  · rename_i h
    rw [List.getElem?_append_right (by omega)]
    cases he : es[n - st.hp.length]? with
    | some e => rfl
    | none =>
      show Ent.dead = nth .dead st.hp n
      rw [nth_eq, List.getElem?_eq_none (by omega)]
      rfl

theorem ent_dead (st : St) (j : Nat) : st.ent (llen st.hp + j) = .dead := by
  show nth .dead st.hp _ = _
  rw [nth_eq, llen_eq, List.getElem?_eq_none (by omega)]
  rfl

section
variable {P : Program} {T : Tab} {base : Nat} {M : LM} {w0 : World} {V : Vl} {w : World} {a : Act} {next : Act → World → Prop} {Q : Exit → Act → World → Prop}

theorem rel_good {st : St} {ts : Array Value} (r : Rel base M w0 V st ts w) {res : S} {es : List Ent} {hy : Option Prop} {v : Value} {w' : World} {V' : Vl} (g : Good base M w0 V st.ent w (llen st.hp) res es hy v w' V') :
    Rel base M w0 V' (st.alloc es) ts w' ∧ S.ok V' (st.alloc es).ent w' res v := by
  rw [ent_alloc]
  exact ⟨⟨r.len, fun i s v hs hv => by rw [ent_alloc]; exact S.ok_ext g.vx (r.slots i s v hs hv), by rw [ent_alloc]; exact g.mem⟩, g.res⟩

theorem ent_put (st : St) (d : Option Nat) (s : S) : (st.put d s).ent = st.ent := by
  cases d <;> rfl

theorem rel_put {st : St} (r : Rel base M w0 V st a.tmps w) {s : S} {v : Value} (h : S.ok V st.ent w s v) (dst : Option Nat) : Rel base M w0 V (st.put dst s) (a.put dst v).tmps w := by
  cases dst with
  | none => exact r
  | some d =>
    refine ⟨by show (lset st.ts d s).length = (a.tmps.setIfInBounds d v).size; rw [lset_eq]; simp [r.len], fun i s' v' hs hv => ?_, r.mem⟩
    have hs' : (lset st.ts d s)[i]? = some s' := hs
    have hv' : (a.tmps.setIfInBounds d v)[i]? = some v' := hv
    rw [lset_eq, List.getElem?_set] at hs'
    rw [Array.getElem?_setIfInBounds] at hv'
    split at hs'
    · rename_i hd
      rw [if_pos hd] at hv'
      split at hs'
      · rename_i hlt
        rw [if_pos (by rw [← r.len]; exact hlt)] at hv'
        injection hs' with hs'; injection hv' with hv'
        subst hs'; subst hv'
        exact h
      · cases hs'
    · rename_i hd
      rw [if_neg hd] at hv'
      exact r.slots i s' v' hs' hv'

theorem LkOk.ents {st : St} {ts : Array Value} (r : Rel base M w0 V st ts w) : LkOk V st.ent st.ent w := fun n _ => ⟨rfl, r.mem.ents n⟩

theorem splice_get (l x : List Value) (o k : Nat) (h : o + x.length ≤ l.length) : (l.take o ++ x ++ l.drop (o + x.length))[k]? = if k < o then l[k]? else if k < o + x.length then x[k - o]? else l[k]? := by
  have ht : (l.take o).length = o := by rw [List.length_take]; omega
  rw [List.append_assoc]
  split
  · rename_i hk
    rw [List.getElem?_append_left (by rw [ht]; exact hk), List.getElem?_take, if_pos hk]
  · rename_i hk
    rw [List.getElem?_append_right (by rw [ht]; omega), ht]
    split
    · rename_i hk'
      rw [List.getElem?_append_left (by omega)]
    · rename_i hk'
      rw [List.getElem?_append_right (by omega), List.getElem?_drop]
      congr 1; omega

theorem okAll_splice {hp : Nat → Ent} {cs xs : List C} {vs us : List Value} {off : Nat} (h : okAll V hp w cs vs) (k : okAll V hp w xs us) : okAll V hp w (splice cs off xs) (vs.take off ++ us ++ vs.drop (off + us.length)) := by
  unfold splice
  rw [lapp_eq, lapp_eq, ltake_eq, ldrop_eq, llen_eq, ← List.append_assoc, k.1]
  exact okAll_append (okAll_append (okAll_take h off) k) (okAll_drop h _)

theorem upon_skip {o : Oper} {t : TypeId} {p x : Operand} (ho : o.op = .store t p x) {w' : World} (hr : (Instr.storeAt t (a.eval p) (a.eval x)).run P w = .ok () w') (h : next (a.put o.dst undef) w') : o.wp P a w next Q := by
  unfold Oper.wp execOp
  simp only [ho, Sem.run_bind, hr, Result.andThen_ok, Sem.run_pure]
  exact h

theorem estore_ok (hT : TabOk P T) {st : St} (r : Rel base M w0 V st a.tmps w) {o : Oper} {t : TypeId} {p x : Operand} (ho : o.op = .store t p x) {er : ER} (h : estore T st t p x = some er) :
    er.ob = none ∧ ((∀ w' V', Rel base M w0 V' er.st a.tmps w' → S.ok V' er.st.ent w' er.res undef → next (a.put o.dst undef) w') → o.wp P a w next Q) := by
  unfold estore at h
  cases hn : sizeT T t with
  | none => rw [hn] at h; simp at h
  | some n =>
    have hti : ∃ ti, T t = some ti ∧ ti.size = n := by
      unfold sizeT at hn; cases hT' : T t with
      | none => rw [hT'] at hn; cases hn
      | some ti => rw [hT'] at hn; simp only [omap, Option.some.injEq] at hn; exact ⟨ti, rfl, hn⟩
    obtain ⟨ti, ht, hts⟩ := hti
    have hb := hT t ti ht
    rw [hn] at h
    split at h
    · rename_i n' m off xs hnn hp1 hx1
      simp only [Option.some.injEq] at hnn
      subst hnn
      split at h
      · rename_i cs hm
        split at h
        · rename_i hc
          injection h with h; subst h
          refine ⟨rfl, fun hnx => ?_⟩
          have hpv := r.eval p
          rw [hp1] at hpv
          obtain ⟨e1, hh, _⟩ := hpv
          have hok := r.mem.ents m
          rw [hm] at hok
          obtain ⟨vals, el, g1, g2⟩ := hok
          have hxs := cells_ok hx1 (r.eval x)
          simp only [llen_eq] at hc
          have hsz : (a.eval x).cells.size = n := by have := hxs.1; rw [hc.1] at this; simpa using this.symm
          have hvs : vals.size = cs.length := by have := g2.1; simpa using this.symm
          have hone : ∀ v ∈ (a.eval x).cells.toList, v.oneCell' = true := by
            intro v hv
            obtain ⟨j, hj, rfl⟩ := List.getElem_of_mem hv
            exact C.oneCell (hxs.2 j (xs[j]'(by rw [hxs.1]; exact hj)) _ (List.getElem?_eq_getElem _) (List.getElem?_eq_getElem _))
          have hrun := run_storeAt hb w (V.blk m) off vals el (a.eval x) (by rw [hsz, hts]) g1 (by omega) hone
          rw [← e1] at hrun
          have hown := r.mem.own m (by rw [hm]; rfl) hh
          refine upon_skip ho hrun (hnx _ V ?_ rfl)
          exact rel_write_box r hm (fun b hb => setRow_other' w _ b _ hb) (kept_setRow r.mem.kept hown.1 _ (fun v2 e2 h2 => by rw [g1] at h2; injection h2 with h2; injection h2 with h2 _ _; subst h2; simp only [List.size_toArray, List.length_append, List.length_take, List.length_drop, Array.length_toList, hsz]; omega)) (setRow_size _ _ _) (setRow_heap w _ vals _ el (0, 0) g1) (by simpa using okAll_splice g2 hxs)
        · cases h
      · cases h
    · rename_i n' m0 i0 off0 xs0 hnn hp0 hx0
      simp only [Option.some.injEq] at hnn
      subst hnn
      simp only at h
      obtain ⟨V1, r1⟩ := r.freezes (ownsOf xs0)
      split at h
      · rename_i m i off xs hp1 hx1
        split at h
        · rename_i fr e ys hm
          split at h
          · rename_i hc
            split at h
            · rename_i y hy
              injection h with h; subst h
              refine ⟨rfl, fun hnx => ?_⟩
              generalize hst1 : st.freezes (ownsOf xs0) = st1 at *
              have hpv := r1.eval p
              rw [hp1] at hpv
              obtain ⟨hh, fr', e', ys', q1, hi, e1⟩ := hpv
              rw [hm] at q1
              injection q1 with q2 q3 q4
              subst q2; subst q3; cases q4
              have hok := r1.mem.ents m
              rw [hm] at hok
              have hxs := cells_ok hx1 (r1.eval x)
              simp only [llen_eq, lall_eq, List.all_eq_true] at hc
              obtain ⟨c1, c2, c3⟩ := hc
              have hsz : (a.eval x).cells.toList.length = n := by rw [← hxs.1, c1]
              have hsz' : (a.eval x).cells.size = n := by simpa using hsz
              have hone : ∀ v ∈ (a.eval x).cells.toList, v.oneCell' = true := by
                intro v hv
                obtain ⟨j, hj, rfl⟩ := List.getElem_of_mem hv
                exact C.oneCell (hxs.2 j (xs[j]'(by rw [hxs.1]; exact hj)) _ (List.getElem?_eq_getElem _) (List.getElem?_eq_getElem _))
              rcases hok with ⟨k1, _⟩ | ⟨_, vals, el, k2, k3, k4⟩
              · exact absurd hh k1
              · obtain ⟨es, g1, g2, g3⟩ := k4 i hi
                have hin : i * e.size + e.size ≤ vals.size := by
                  have hlast := g2 (e.size - 1) (es[e.size - 1]'(by have := e.size_pos; omega)) (List.getElem?_eq_getElem _)
                  have := (Array.getElem?_eq_some_iff.1 hlast).1
                  have := e.size_pos
                  omega
                have hrun := run_storeAt hb w (V1.blk m) (i * e.size + off) vals el (a.eval x) (by rw [hsz', hts]) k2 (by omega) hone
                rw [← e1] at hrun
                have hown := r1.mem.own m (by rw [hm]; rfl) hh
                have hnew := setRow_heap w (V1.blk m) vals (vals.toList.take (i * e.size + off) ++ (a.eval x).cells.toList ++ vals.toList.drop (i * e.size + off + (a.eval x).cells.toList.length)).toArray el (0, 0) k2
                have hvl : (vals.toList.take (i * e.size + off) ++ (a.eval x).cells.toList ++ vals.toList.drop (i * e.size + off + (a.eval x).cells.toList.length)).length = vals.size := by
                  simp only [List.length_append, List.length_take, List.length_drop, Array.length_toList, hsz']; omega
                have hfr : (fr && (e.flat || lall C.isFr xs)) = true → fr = true := fun h => by simp at h; exact h.1
                have kw : Wr V1 st1.ent w m (hpSet st1.ent m (.row (fr && (e.flat || lall C.isFr xs)) e (ys.set i y))) (w.setRow (V1.blk m) (vals.toList.take (i * e.size + off) ++ (a.eval x).cells.toList ++ vals.toList.drop (i * e.size + off + (a.eval x).cells.toList.length)).toArray) :=
                  ⟨fun n hn => by simp only [hpSet, if_neg hn], fun b hb => setRow_other' w _ b _ hb, hh, .inr ⟨fr, fr && (e.flat || lall C.isFr xs), e, ys, ys.set i y, hm, by simp only [hpSet, if_true], by simp, vals, _, el, el, k2, hnew, by simp only [List.size_toArray, hvl]⟩⟩
                refine upon_skip ho hrun (hnx _ V1 ?_ rfl)
                refine rel_write r1 kw rfl (kept_setRow r1.mem.kept hown.1 _ (fun v2 e2 h2 => by rw [k2] at h2; injection h2 with h2; injection h2 with h2 _ _; subst h2; simp only [List.size_toArray, hvl])) (setRow_size _ _ _) ?_ (fun e2 xs2 heq => ?_) (fun cs heq => by cases heq) (fun hlt => ?_)
                · refine .inr ⟨hh, _, el, hnew, by simpa using k3, fun j hj => ?_⟩
                  have hj' : j < ys.length := by simpa using hj
                  by_cases hji : j = i
                  · subst hji
                    have g3' : RdC (V1.Z fr) w e es (ys.getD j e.dflt) := by rw [getD_lt _ hj']; exact g3
                    have hcells := okAll_splice (off := off) (ok_expand (V := V1) (hp := st1.ent) fr e g3') hxs
                    have hex : ∀ c ∈ expand fr e (ys.getD j e.dflt), c.noOwn = true ∧ (fr = true → c.isFr = true) := expand_zone fr e _
                    have hrd : RdC (V1.Z (fr && lall C.isFr xs)) w e (es.take off ++ (a.eval x).cells.toList ++ es.drop (off + (a.eval x).cells.toList.length)) y := by
                      refine readAll_zone hy hcells (fun c hc' => ?_)
                      unfold splice at hc'
                      rw [lapp_eq, lapp_eq, ltake_eq, ldrop_eq, llen_eq, List.mem_append, List.mem_append] at hc'
                      rcases hc' with hc' | hc' | hc'
                      · obtain ⟨z1, z2⟩ := hex c (List.mem_of_mem_take hc')
                        exact ⟨z1, fun hf => z2 (by simp at hf; exact hf.1)⟩
                      · exact ⟨c3 c hc', fun hf => by simp [lall_eq] at hf; exact hf.2 c hc'⟩
                      · obtain ⟨z1, z2⟩ := hex c (List.mem_of_mem_drop hc')
                        exact ⟨z1, fun hf => z2 (by simp at hf; exact hf.1)⟩
                    have hesl : off + (a.eval x).cells.toList.length ≤ es.length := by rw [hsz, g1]; exact c2
                    refine ⟨_, RdC.length hrd, fun q u hq => ?_, ?_⟩
                    · rw [List.getElem?_toArray, splice_get _ _ _ _ (by simp only [Array.length_toList, hsz']; omega)]
                      rw [splice_get _ _ _ _ hesl] at hq
                      have hql : q < e.size := by
                        rcases Nat.lt_or_ge q e.size with h | h
                        · exact h
                        · rw [if_neg (by omega), if_neg (by rw [hsz]; omega), List.getElem?_eq_none (by rw [g1]; exact h)] at hq; cases hq
                      by_cases q1 : q < off
                      · rw [if_pos q1] at hq
                        rw [if_pos (by omega)]
                        have := g2 q u hq
                        simpa using this
                      · rw [if_neg q1] at hq
                        rw [if_neg (by omega)]
                        by_cases q2 : q < off + (a.eval x).cells.toList.length
                        · rw [if_pos q2] at hq
                          rw [if_pos (by omega), show j * e.size + q - (j * e.size + off) = q - off by omega]
                          exact hq
                        · rw [if_neg q2] at hq
                          rw [if_neg (by omega)]
                          have := g2 q u hq
                          simpa using this
                    · rw [List.getElem_set_self]
                      cases hfl : e.flat with
                      | true => exact hrd.flat hfl
                      | false =>
                        rw [Bool.false_or]
                        exact hrd.mono (fun _ h => h) (fun b hb => kw.z r1.mem hb)
                  · obtain ⟨es', q1, q2, q3⟩ := k4 j hj'
                    refine ⟨es', q1, fun q u hq => ?_, ?_⟩
                    · have hql : q < e.size := by rw [← q1]; exact (List.getElem?_eq_some_iff.1 hq).1
                      rw [List.getElem?_toArray, splice_get _ _ _ _ (by simp only [Array.length_toList, hsz']; omega), hsz]
                      have hne : j * e.size + q < i * e.size + off ∨ i * e.size + off + n ≤ j * e.size + q := by
                        rcases Nat.lt_or_gt_of_ne hji with h | h
                        · left
                          have : (j + 1) * e.size ≤ i * e.size := Nat.mul_le_mul_right _ h
                          rw [Nat.add_mul, Nat.one_mul] at this; omega
                        · right
                          have : (i + 1) * e.size ≤ j * e.size := Nat.mul_le_mul_right _ h
                          rw [Nat.add_mul, Nat.one_mul] at this; omega
                      have := q2 q u hq
                      rcases hne with h | h
                      · rw [if_pos h]; simpa using this
                      · rw [if_neg (by omega), if_neg (by omega)]; simpa using this
                    · rw [List.getElem_set_ne (fun h => hji h.symm)]
                      have hz : ∀ b, V1.Z fr b → V1.Z (fr && (e.flat || lall C.isFr xs)) b ∨ True := fun _ _ => .inr trivial
                      cases hfl : e.flat with
                      | true => exact q3.flat hfl
                      | false =>
                        rw [Bool.false_or]
                        refine q3.mono (fun b hb => castFlag (fun hf => by simp at hf; exact hf.1) hb) (fun b hb => kw.z r1.mem hb)
                · injection heq with h1 h2 h3
                  exact r1.mem.mine m e ys (by rw [hm, hfr h1]) hh
                · refine r1.mem.lent m ?_ hh
                  rw [hm]
                  cases fr with
                  | false => exact (lentish_flat hlt)
                  | true =>
                    have hfl : e.flat = true := lentish_flat hlt
                    rw [hfl] at hlt
                    exact hlt
            · cases h
          · cases h
        · cases h
      · cases h
    · cases h

theorem eastore_ok (hT : TabOk P T) {st : St} (r : Rel base M w0 V st a.tmps w) {o : Oper} {t : TypeId} {p x : Operand} (ho : o.op = .store t p x) {er : ER} (h : eastore T st t p x = some er) (hob : ∀ p, er.ob = some p → p)
    (hnx : ∀ w' V', Rel base M w0 V' er.st a.tmps w' → S.ok V' er.st.ent w' er.res undef → next (a.put o.dst undef) w') : o.wp P a w next Q := by
  unfold eastore at h
  split at h
  case h_2 => cases h
  rename_i len te es n ety sz by' z ty teq m e xs ht hp1 hx1
  split at h
  case h_2 => cases h
  rename_i fr e' ys hm
  split at h
  case isFalse => cases h
  rename_i hee
  subst hee
  injection h with h; subst h
  obtain ⟨hlen, hsz⟩ := hob _ rfl
  have hb := hT t _ ht
  have hpv := r.eval p
  rw [hp1] at hpv
  obtain ⟨hh, fr', e2, ys', q1, hi, e1⟩ := hpv
  rw [hm] at q1
  injection q1 with q2 q3 q4
  subst q2; subst q3; cases q4
  have hxv := r.eval x
  rw [hx1] at hxv
  obtain ⟨hfl, vs, hv, hvs, hch⟩ := hxv
  have hok := r.mem.ents m
  rw [hm] at hok
  rcases hok with ⟨k1, _⟩ | ⟨_, vals, el, k2, k3, k4⟩
  · exact absurd hh k1
  have hpos := e'.size_pos
  have hin : ys.length * e'.size ≤ vals.size := by
    obtain ⟨es', g1, g2, _⟩ := k4 (ys.length - 1) (by omega)
    have := g2 (e'.size - 1) (es'[e'.size - 1]'(by omega)) (List.getElem?_eq_getElem _)
    have h6 := (Array.getElem?_eq_some_iff.1 this).1
    have h7 : ys.length * e'.size = (ys.length - 1) * e'.size + e'.size := by
      conv => lhs; rw [show ys.length = ys.length - 1 + 1 by omega, Nat.add_mul, Nat.one_mul]
    omega
  have hcs : (a.eval x).cells = vs := by rw [hv]; rfl
  have hone : ∀ v ∈ (a.eval x).cells.toList, v.oneCell' = true := by
    intro v hv'
    rw [hcs] at hv'
    obtain ⟨j, hj, rfl⟩ := List.getElem_of_mem hv'
    have hj' : j < xs.length * e'.size := by rw [← hvs]; simpa using hj
    have hd : j / e'.size < xs.length := (Nat.div_lt_iff_lt_mul hpos).2 hj'
    obtain ⟨es', g1, g2, g3⟩ := hch _ hd
    have hmod : j % e'.size < es'.length := by rw [g1]; exact Nat.mod_lt _ hpos
    have := g2 (j % e'.size) _ (List.getElem?_eq_getElem hmod)
    rw [Nat.div_add_mod' j e'.size] at this
    have h8 : vs.toList[j]? = some es'[j % e'.size] := by simpa using this
    rw [List.getElem?_eq_getElem hj] at h8
    injection h8 with h8
    rw [h8]
    exact g3.oneCell _ (List.getElem_mem hmod)
  have hsz' : (a.eval x).cells.size = sz := by rw [hcs, hvs, hsz]
  have hrun := run_storeAt hb w (V.blk m) 0 vals el (a.eval x) (by rw [hsz']) k2 (by rw [hsz', ← hsz, hlen, Nat.zero_add]; exact hin) hone
  have e1' : a.eval p = .pointer (some ⟨V.blk m, 0, none⟩) := by rw [e1, Nat.zero_mul]
  rw [← e1'] at hrun
  have hown := r.mem.own m (by rw [hm]; rfl) hh
  have hvl : (vals.toList.take 0 ++ (a.eval x).cells.toList ++ vals.toList.drop (0 + (a.eval x).cells.toList.length)).length = vals.size := by
    simp only [List.length_append, List.length_take, List.length_drop, Array.length_toList, hsz', List.take_zero, List.length_nil, Nat.zero_add]
    have : sz ≤ vals.size := by rw [← hsz, hlen]; exact hin
    omega
  have hnew := setRow_heap w (V.blk m) vals (vals.toList.take 0 ++ (a.eval x).cells.toList ++ vals.toList.drop (0 + (a.eval x).cells.toList.length)).toArray el (0, 0) k2
  have kw : Wr V st.ent w m (hpSet st.ent m (.row fr e' xs)) (w.setRow (V.blk m) (vals.toList.take 0 ++ (a.eval x).cells.toList ++ vals.toList.drop (0 + (a.eval x).cells.toList.length)).toArray) :=
    ⟨fun n hn => by simp only [hpSet, if_neg hn], fun b hb => setRow_other' w _ b _ hb, hh, .inr ⟨fr, fr, e', ys, xs, hm, by simp only [hpSet, if_true], hlen.symm, vals, _, el, el, k2, hnew, by simp only [List.size_toArray, hvl]⟩⟩
  refine upon_skip ho hrun (hnx _ V ?_ rfl)
  refine rel_write r kw rfl (kept_setRow r.mem.kept hown.1 _ (fun v2 e2 h2 => by rw [k2] at h2; injection h2 with h2; injection h2 with h2 _ _; subst h2; simp only [List.size_toArray, hvl])) (setRow_size _ _ _) ?_ (fun e2 xs2 heq => ?_) (fun cs heq => by cases heq) (fun hlt => ?_)
  · refine .inr ⟨hh, _, el, hnew, by rw [hlen]; exact k3, fun j hj => ?_⟩
    obtain ⟨es', g1, g2, g3⟩ := hch j hj
    refine ⟨es', g1, fun q u hq => ?_, g3.flat hfl⟩
    have := g2 q u hq
    have hlt := (Array.getElem?_eq_some_iff.1 this).1
    rw [List.take_zero, List.nil_append, List.getElem?_toArray, List.getElem?_append_left (by rw [hcs]; simpa using hlt), hcs]
    simpa using this
  · injection heq with h1 h2 h3
    exact r.mem.mine m e' ys (by rw [hm, h1]) hh
  · refine r.mem.lent m ?_ hh
    rw [hm]
    cases fr with
    | true => exact hlt.elim
    | false => exact hfl
end
end Go.SX
