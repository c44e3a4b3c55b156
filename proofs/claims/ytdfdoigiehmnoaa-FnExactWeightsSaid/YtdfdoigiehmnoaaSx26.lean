/- What a function hands back. No condition. -/
import Derived.Test.YtdfdoigiehmnoaaSx25
namespace Go.SX
open Go.RowKit
set_option linter.unusedVariables false
set_option linter.unusedSimpArgs false

section
variable {P : Program} {T : Tab} {Γ : FuncId → Option PC} {R : FuncId → Option Rule} {V : Vl} {hp : Nat → Ent} {w : World}

open Classical in
/-- The blocks of names. -/
noncomputable def blksOf (V : Vl) : List Nat → List Nat
  | [] => []
  | n :: r => if V.has n then V.blk n :: blksOf V r else blksOf V r

theorem blksOf_append (a b : List Nat) : blksOf V (a ++ b) = blksOf V a ++ blksOf V b := by
  induction a with
  | nil => rfl
  | cons n a ih =>
    simp only [List.cons_append, blksOf]
    split <;> simp [ih]

theorem mem_blksOf {ns : List Nat} {b : Nat} (h : b ∈ blksOf V ns) : ∃ n ∈ ns, V.has n ∧ V.blk n = b := by
  induction ns with
  | nil => cases h
  | cons n ns ih =>
    unfold blksOf at h
    split at h
    · rename_i hh
      rcases List.mem_cons.1 h with rfl | h
      · exact ⟨n, List.mem_cons_self .., hh, rfl⟩
      · obtain ⟨m, h1, h2⟩ := ih h
        exact ⟨m, List.mem_cons_of_mem _ h1, h2⟩
    · obtain ⟨m, h1, h2⟩ := ih h
      exact ⟨m, List.mem_cons_of_mem _ h1, h2⟩

/-- A row of this call's own. -/
def RowT (hp : Nat → Ent) (n : Nat) : Prop := ∃ e xs, hp n = .row true e xs

theorem row_own {n h : Nat} {e : Ty} {xs : List e.den} {v : Value} (he : (Ent.row true e xs).ok V hp w n) (hr : hasRow V w n e h v) (hh : h ≤ xs.length) :
    ∃ bs, OwnC (V.Z true) w (.sl e) [v] (xs.take h) bs ∧ bs.filterMap id = blksOf V [n] := by
  have hlen : (xs.take h).length = h := by rw [List.length_take]; omega
  rcases hr with ⟨h1, rfl, rfl⟩ | ⟨h1, cap, vals, el, rfl, h3, h4, h5⟩
  · exact ⟨[none], .inl ⟨rfl, by simp, rfl⟩, by simp [blksOf, h1]⟩
  · rcases he with ⟨k1, _⟩ | ⟨_, vals', el', k2, k3, k4⟩
    · exact absurd h1 k1
    · rw [k2] at h3
      injection h3 with h3
      injection h3 with e1 e2 e3
      subst e1
      refine ⟨[some (V.blk n)], .inr ⟨V.blk n, cap, vals', el', by rw [hlen], rfl, k2, h4, by rw [hlen]; exact h5, by rw [hlen]; omega, fun i hi => ?_⟩, by simp [blksOf, h1]⟩
      rw [hlen] at hi
      obtain ⟨es, k5, k6, k7⟩ := k4 i (by omega)
      exact ⟨es, k5, k6, by rw [List.getElem_take]; exact k7⟩

theorem outSl_ok (he : ∀ n, (hp n).ok V hp w n) {e : Ty} {c : C} {xs : List e.den} {ns : List Nat} {v : Value} (h : outSl hp e c = some (xs, ns)) (ho : C.ok V hp w c v) :
    ∃ bs, OwnC (V.Z true) w (.sl e) [v] xs bs ∧ bs.filterMap id = blksOf V ns ∧ ∀ n ∈ ns, RowT hp n := by
  unfold outSl at h
  split at h
  · rename_i n
    split at h
    · rename_i e' xs' hn
      split at h
      · rename_i hk; subst hk; injection h with h; injection h with h1 h2; subst h1; subst h2
        obtain ⟨fr, e2, xs2, h3, h4⟩ := ho
        rw [hn] at h3
        injection h3 with e1 e2 e3
        subst e1; subst e2; cases e3
        have h2 := he n
        rw [hn] at h2
        obtain ⟨bs, k1, k2⟩ := row_own h2 h4 (Nat.le_refl _)
        rw [List.take_length] at k1
        exact ⟨bs, k1, k2, fun m hm => by rw [List.mem_singleton.1 hm]; exact ⟨_, _, hn⟩⟩
      · cases h
    · cases h
  · rename_i n m
    split at h
    · rename_i e' xs' hn
      split at h
      · rename_i hk; subst hk; injection h with h; injection h with h1 h2; subst h1; subst h2
        obtain ⟨fr, e2, xs2, h3, h5, h4⟩ := ho
        rw [hn] at h3
        injection h3 with e1 e2 e3
        subst e1; subst e2; cases e3
        have h2 := he n
        rw [hn] at h2
        obtain ⟨bs, k1, k2⟩ := row_own h2 h4 h5
        exact ⟨bs, k1, k2, fun m hm => by rw [List.mem_singleton.1 hm]; exact ⟨_, _, hn⟩⟩
      · cases h
    · cases h
  · injection h with h; injection h with h1 h2; subst h1; subst h2
    exact ⟨[none], .inl ⟨by rw [ho.1], rfl, rfl⟩, rfl, fun n hn => by cases hn⟩
  · cases h

theorem okAll_cons' {c : C} {r : List C} {vs : List Value} (h : okAll V hp w (c :: r) vs) : ∃ v vs', vs = v :: vs' ∧ C.ok V hp w c v ∧ okAll V hp w r vs' := by
  cases vs with
  | nil => have := h.1; cases this
  | cons v vs => exact ⟨v, vs, rfl, h.2 0 c v rfl rfl, by simpa using h.1, fun j c u hc hu => h.2 (j + 1) c u (by simpa using hc) (by simpa using hu)⟩

theorem outC_ok (he : ∀ n, (hp n).ok V hp w n) : ∀ (t : Ty) {cs : List C} {d : t.den} {ns : List Nat} {rest : List C} {vs : List Value}, outC hp t cs = some (d, ns, rest) → okAll V hp w cs vs →
    ∃ v1 v2 bs, vs = v1 ++ v2 ∧ OwnC (V.Z true) w t v1 d bs ∧ bs.filterMap id = blksOf V ns ∧ (∀ n ∈ ns, RowT hp n) ∧ okAll V hp w rest v2
  | .int k, cs, d, ns, rest, vs, h, ho => by
    unfold outC at h
    split at h
    · rename_i x r hh
      injection h with h; injection h with h1 h2; injection h2 with h2 h3; subst h1; subst h2; subst h3
      obtain ⟨c, rfl, hc⟩ := head1_some hh
      obtain ⟨v, vs', rfl, h1, h2⟩ := okAll_cons' ho
      exact ⟨[v], vs', [], rfl, ⟨by rw [(rdInt_ok hc h1).1]; exact ⟨rfl, (rdInt_ok hc h1).2⟩, rfl⟩, rfl, (fun n hn => by cases hn), h2⟩
    · cases h
  | .bool, cs, d, ns, rest, vs, h, ho => by
    unfold outC at h
    split at h
    · rename_i x r hh
      injection h with h; injection h with h1 h2; injection h2 with h2 h3; subst h1; subst h2; subst h3
      obtain ⟨c, rfl, hc⟩ := head1_some hh
      obtain ⟨v, vs', rfl, h1, h2⟩ := okAll_cons' ho
      exact ⟨[v], vs', [], rfl, ⟨by rw [rdBool_ok hc h1]; rfl, rfl⟩, rfl, (fun n hn => by cases hn), h2⟩
    · cases h
  | .str, cs, d, ns, rest, vs, h, ho => by
    unfold outC at h
    split at h
    · rename_i x r hh
      injection h with h; injection h with h1 h2; injection h2 with h2 h3; subst h1; subst h2; subst h3
      obtain ⟨c, rfl, hc⟩ := head1_some hh
      obtain ⟨v, vs', rfl, h1, h2⟩ := okAll_cons' ho
      exact ⟨[v], vs', [], rfl, ⟨by rw [(rdStr_ok hc h1).1]; exact ⟨rfl, (rdStr_ok hc h1).2⟩, rfl⟩, rfl, (fun n hn => by cases hn), h2⟩
    · cases h
  | .sl e, cs, d, ns, rest, vs, h, ho => by
    unfold outC at h
    split at h
    · rename_i x ns' r hh
      injection h with h; injection h with h1 h2; injection h2 with h2 h3; subst h1; subst h2; subst h3
      obtain ⟨c, rfl, hc⟩ := head1_some hh
      obtain ⟨v, vs', rfl, h1, h2⟩ := okAll_cons' ho
      obtain ⟨bs, k1, k2, k3⟩ := outSl_ok he hc h1
      exact ⟨[v], vs', bs, rfl, k1, k2, k3, h2⟩
    · cases h
  | .st t, cs, d, ns, rest, vs, h, ho => outC_ok he t h ho
  | .ptr t, cs, d, ns, rest, vs, h, ho => by cases h
  | .clo f t, cs, d, ns, rest, vs, h, ho => by cases h
  | .pr a b, cs, d, ns, rest, vs, h, ho => by
    unfold outC at h
    split at h
    · rename_i x ns1 r h1
      split at h
      · rename_i y ms r' h2
        injection h with h; injection h with e1 e2; injection e2 with e2 e3; subst e1; subst e2; subst e3
        obtain ⟨v1, v2, b1, rfl, k2, k3, k4, k5⟩ := outC_ok he a h1 ho
        obtain ⟨u1, u2, b2, rfl, j2, j3, j4, j5⟩ := outC_ok he b h2 k5
        refine ⟨v1 ++ u1, u2, b1 ++ b2, by rw [List.append_assoc], ⟨v1, u1, b1, b2, rfl, rfl, k2, j2⟩, ?_, fun n hn => ?_, j5⟩
        · rw [List.filterMap_append, k3, j3, lapp_eq, blksOf_append]
        · rw [lapp_eq] at hn
          rcases List.mem_append.1 hn with hn | hn
          · exact k4 n hn
          · exact j4 n hn
      · cases h
    · cases h

theorem okAll_nil' {vs : List Value} (h : okAll V hp w [] vs) : vs = [] := by
  have := h.1
  cases vs with
  | nil => rfl
  | cons _ _ => cases this

theorem outS_ok (he : ∀ n, (hp n).ok V hp w n) {t : Ty} {s : S} {d : t.den} {ns : List Nat} {v : Value} (h : outS hp t s = some (d, ns)) (ho : S.ok V hp w s v) :
    ∃ bs, OwnTop (V.Z true) w t v d bs ∧ bs.filterMap id = blksOf V ns ∧ ∀ n ∈ ns, RowT hp n := by
  unfold outS at h
  split at h
  · rename_i x
    split at h
    · cases h
    · rename_i hst
      split at h
      · rename_i d' ns' hh
        injection h with h; injection h with h1 h2; subst h1; subst h2
        obtain ⟨v1, v2, bs, k1, k2, k3, k4, k5⟩ := outC_ok he t (vs := [v]) hh ⟨rfl, fun j c u hc hu => by
          cases j with
          | zero => simp only [List.getElem?_cons_zero, Option.some.injEq] at hc hu; subst hc; subst hu; exact ho
          | succ j => simp at hc⟩
        rw [okAll_nil' k5, List.append_nil] at k1
        refine ⟨bs, ⟨v1, ?_, k2⟩, k3, k4⟩
        unfold topV
        rw [if_neg hst, k1]
      · cases h
  · rename_i cs
    split at h
    · rename_i hst
      split at h
      · rename_i d' ns' hh
        injection h with h; injection h with h1 h2; subst h1; subst h2
        obtain ⟨vs, e1, e2⟩ := ho
        obtain ⟨v1, v2, bs, k1, k2, k3, k4, k5⟩ := outC_ok he t hh e2
        rw [okAll_nil' k5, List.append_nil] at k1
        refine ⟨bs, ⟨v1, ?_, k2⟩, k3, k4⟩
        unfold topV
        rw [if_pos hst, e1, ← k1]
      · cases h
    · cases h
  · cases h

theorem outAll_ok (he : ∀ n, (hp n).ok V hp w n) : ∀ {ts : List Ty} {ss : List S} {d : Tup ts} {ns : List Nat} {vs : List Value}, outAll hp ts ss = some (d, ns) → ss.length = vs.length →
    (∀ (i : Nat) s v, ss[i]? = some s → vs[i]? = some v → S.ok V hp w s v) → ∃ bs, OwnVals (V.Z true) w ts vs d bs ∧ bs.filterMap id = blksOf V ns ∧ ∀ n ∈ ns, RowT hp n
  | [], [], d, ns, vs, h, hl, ho => by
    injection h with h; injection h with h1 h2; subst h2
    have : vs = [] := by cases vs with | nil => rfl | cons _ _ => cases hl
    exact ⟨[], ⟨this, rfl⟩, rfl, fun n hn => by cases hn⟩
  | [], _ :: _, d, ns, vs, h, hl, ho => by cases h
  | [t], [s], d, ns, vs, h, hl, ho => by
    match vs, hl with
    | [v], _ =>
      obtain ⟨bs, k1, k2, k3⟩ := outS_ok he h (ho 0 s v rfl rfl)
      exact ⟨bs, ⟨v, rfl, k1⟩, k2, k3⟩
  | [t], [], d, ns, vs, h, hl, ho => by cases h
  | [t], _ :: _ :: _, d, ns, vs, h, hl, ho => by cases h
  | t :: u :: r, [], d, ns, vs, h, hl, ho => by cases h
  | t :: u :: r, s :: ss, d, ns, vs, h, hl, ho => by
    unfold outAll at h
    split at h
    · rename_i x ns1 h1
      split at h
      · rename_i y ms h2
        injection h with h; injection h with e1 e2; subst e1; subst e2
        match vs, hl with
        | v :: vs', hl =>
          obtain ⟨b1, k1, k2, k3⟩ := outS_ok he h1 (ho 0 s v rfl rfl)
          obtain ⟨b2, j1, j2, j3⟩ := outAll_ok he h2 (vs := vs') (by simpa using hl) (fun i s u hs hu => ho (i + 1) s u (by simpa using hs) (by simpa using hu))
          refine ⟨b1 ++ b2, ⟨v, vs', b1, b2, rfl, rfl, k1, j1⟩, ?_, fun n hn => ?_⟩
          · rw [List.filterMap_append, k2, j2, lapp_eq, blksOf_append]
          · rw [lapp_eq] at hn
            rcases List.mem_append.1 hn with hn | hn
            · exact k3 n hn
            · exact j3 n hn
      · cases h
    · cases h

theorem nodupN_ok : ∀ {ns : List Nat}, nodupN ns = true → ns.Nodup
  | [], _ => List.nodup_nil
  | n :: r, h => by
    simp only [nodupN, Bool.and_eq_true, lany_eq, Bool.not_eq_true', List.any_eq_false] at h
    refine List.nodup_cons.2 ⟨fun hn => ?_, nodupN_ok h.2⟩
    have := h.1 n hn
    simp at this

theorem nodup_blks {base : Nat} {M : LM} {w0 : World} (m : Mem base M w0 V hp w) : ∀ {ns : List Nat}, ns.Nodup → (∀ n ∈ ns, RowT hp n) → (blksOf V ns).Nodup
  | [], _, _ => List.nodup_nil
  | n :: r, h, hr => by
    obtain ⟨h1, h2⟩ := List.nodup_cons.1 h
    have ih := nodup_blks m h2 (fun k hk => hr k (List.mem_cons_of_mem _ hk))
    unfold blksOf
    split
    · rename_i hh
      refine List.nodup_cons.2 ⟨fun hm => ?_, ih⟩
      obtain ⟨k, k1, k2, k3⟩ := mem_blksOf hm
      obtain ⟨_, _, e1⟩ := hr n (List.mem_cons_self ..)
      obtain ⟨_, _, e2⟩ := hr k (List.mem_cons_of_mem _ k1)
      have := m.dist k n (by rw [e2]; rfl) (by rw [e1]; rfl) k2 hh k3
      subst this
      exact h1 k1
    · exact ih

theorem asAddr_run (m o : Nat) (w : World) : (asAddr (.pointer (some ⟨m, o, none⟩))).run P w = .ok ⟨m, o, none⟩ w := by
  simp [asAddr]

theorem resAll_run {base : Nat} {M : LM} {w0 : World} (hT : TabOk P T) {st : St} {a : Act} (r : Rel base M w0 V st a.tmps w) : ∀ {l : List ResultVar} {ss : List S}, resAll T st l = some ss →
    ∃ vs : List Value, ss.length = vs.length ∧ (∀ (i : Nat) s v, ss[i]? = some s → vs[i]? = some v → S.ok V st.ent w s v) ∧
      ∀ f : ResultVar → Sem Value, (∀ t, f (.tmp t) = pure (a.tmps.getD t undef)) → (∀ b t, f (.cell b t) = do loadVar t (← asAddr (a.tmps.getD b undef))) → (l.mapM f).run P w = .ok vs w
  | [], ss, h => by injection h with h; subst h; exact ⟨[], rfl, (fun i s v h => by cases h), fun f _ _ => by simp⟩
  | x :: xs, ss, h => by
    unfold resAll at h
    split at h
    · rename_i s ss' h1 h2
      injection h with h; subst h
      obtain ⟨vs, k1, k2, k3⟩ := resAll_run hT r h2
      have one : ∃ v, S.ok V st.ent w s v ∧ ∀ f : ResultVar → Sem Value, (∀ t, f (.tmp t) = pure (a.tmps.getD t undef)) → (∀ b t, f (.cell b t) = do loadVar t (← asAddr (a.tmps.getD b undef))) → (f x).run P w = .ok v w := by
        cases x with
        | tmp t =>
          injection h1 with h1; subst h1
          exact ⟨_, r.eval (.tmp t), fun f hf _ => by rw [hf, Sem.run_pure]; rfl⟩
        | cell b t =>
          simp only [resS] at h1
          split at h1
          · rename_i m o hb
            have hv := r.eval (.tmp b)
            rw [hb] at hv
            rw [omap_eq] at h1
            cases hq : qload T st.ent t (.box m o) with
            | none => rw [hq] at h1; cases h1
            | some q =>
              rw [hq] at h1
              injection h1 with h1; subst h1
              obtain ⟨_, _, v, e1, e2⟩ := qload_run (v := a.tmps.getD b undef) hT (LkOk.ents r) hq hv
              refine ⟨v, e2, fun f _ hf => ?_⟩
              have hp : a.tmps.getD b undef = .pointer (some ⟨V.blk m, o, none⟩) := hv.1
              rw [hf]
              rw [hp] at e1 ⊢
              rw [← e1]
              unfold Instr.loadAt Instr.sureAddr asAddr
              simp
          · cases h1
      obtain ⟨v, j1, j2⟩ := one
      refine ⟨v :: vs, by simp [k1], fun i s' u hs hu => ?_, fun f hf hc => ?_⟩
      · cases i with
        | zero => simp only [List.getElem?_cons_zero, Option.some.injEq] at hs hu; subst hs; subst hu; exact j1
        | succ i => exact k2 i s' u (by simpa using hs) (by simpa using hu)
      · rw [List.mapM_cons, Sem.run_bind, j2 f hf hc, Result.andThen_ok, Sem.run_bind, k3 f hf hc, Result.andThen_ok, Sem.run_pure]
    · cases h

theorem results_run {fn : Func} {tmps : Array Value} {w : World} {vs : List Value} (h : ∀ f : ResultVar → Sem Value, (∀ t, f (.tmp t) = pure (tmps.getD t undef)) → (∀ b t, f (.cell b t) = do loadVar t (← asAddr (tmps.getD b undef))) → (fn.results.toList.mapM f).run P w = .ok vs w) :
    (results fn tmps).run P w = .ok (oneOr vs) w := by
  have hr : fn.results = fn.results.toList.toArray := by simp
  unfold results
  rw [hr, List.mapM_toArray]
  simp only [Sem.run_bind, map_eq_pure_bind]
  rw [h _ (fun t => rfl) (fun b t => rfl)]
  simp only [Result.andThen_ok, Sem.run_pure]
  congr 1
  match vs with
  | [] => rfl
  | [t] => rfl
  | t :: u :: r => simp [oneOr]

/-- THE CONTRACT: out of what is to be shown of the code. -/
theorem vcFunc_pure (hm : P.follows .mixedOrders = true) (hT : TabOk P T) (hΓ : GamOk P Γ) (hR : RulesOk P R) {f : FuncId} {fn : Func} (hf : P.funcs[f]? = some fn) {c : PC} {A : Tup c.ts → Nat → Option Ann}
    (h : vcFunc T Γ R fn c A) : PureC P f c := by
  intro w args d hargs hpre
  unfold vcFunc at h
  split at h
  · rename_i code hb
    have hv := h d (args_wf hargs) hpre
    refine calls_of_wp hf hb (vc_ok hm hT hΓ hR code (A d) _ _ _ _ w (sat_start hargs fn.ntmps) hv (fun e A' st' a' w' hk hs' => ?_))
    obtain ⟨hd, V, r⟩ := hs'
    have key : e ≠ .normal ∨ e = .normal → vcPost T fn c.rs (c.F d) e st' → (∃ i, e = .exit i) ∨ ∃ v, (results fn a'.tmps).run P w' = .ok v w' ∧ ResOk w w' c.rs v (c.F d) := by
      intro _ hp
      unfold vcPost at hp
      split at hp
      · exact hp.elim
      · right
        split at hp
        · rename_i ss hss
          split at hp
          · rename_i x ns ho
            split at hp
            · rename_i hnd
              obtain ⟨vs, e1, e2, e3⟩ := resAll_run hT r hss
              refine ⟨_, results_run e3, ?_⟩
              obtain ⟨bs, k1, k2, k3⟩ := outAll_ok (vs := vs) r.mem.ents ho e1 e2
              rw [← hp]
              refine ⟨⟨V.Z true, bs, _, rfl, k1, by rw [k2]; exact nodup_blks r.mem (nodupN_ok hnd) k3, fun b hb => ?_, fun b hb => ?_⟩, r.mem.kept⟩
              · have hb' : b ∈ bs.filterMap id := List.mem_filterMap.2 ⟨some b, hb, rfl⟩
                rw [k2] at hb'
                obtain ⟨n, h1, h2, rfl⟩ := mem_blksOf hb'
                obtain ⟨e, xs, h3⟩ := k3 n h1
                obtain ⟨_, h4, h5⟩ := r.mem.own n (by rw [h3]; rfl) h2
                exact ⟨r.mem.mine n e xs h3 h2, h4, fun hz => h5 (Vl.Z_all hz)⟩
              · rcases hb with hb | ⟨hb, _⟩
                · exact r.mem.z1 b hb
                · cases hb
            · exact hp.elim
          · exact hp.elim
        · exact hp.elim
    have hk' := key (Classical.em _ |>.symm) hk
    cases e with
    | normal =>
      rcases hk' with ⟨i, h⟩ | ⟨v, h1, h2⟩
      · cases h
      · exact ⟨hd, v, h1, v, rfl, h2⟩
    | exit i => exact hk.elim
    | ret =>
      rcases hk' with ⟨i, h⟩ | ⟨v, h1, h2⟩
      · cases h
      · exact ⟨hd, v, h1, v, rfl, h2⟩
  · exact h.elim
end
end Go.SX
