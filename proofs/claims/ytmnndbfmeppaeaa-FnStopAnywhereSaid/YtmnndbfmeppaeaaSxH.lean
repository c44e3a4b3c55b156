/- A verified symbolic executor and its contracts (part SxH). No condition. -/
import Derived.Test.YtmnndbfmeppaeaaSxG
/- Contracts that tell of a result no more than that it is one of some. No condition. -/
namespace Go.SX
open Go.RowKit
set_option linter.unusedVariables false
set_option linter.unusedSimpArgs false

/-- A function that writes memory of its own alone: what its results are. -/
structure QC where
  ts : List Ty
  rs : List Ty
  pre : Tup ts → Prop
  Q : Tup ts → Tup rs → Prop

def vcPostQ (T : Tab) (fn : Func) (rs : List Ty) (Q : Tup rs → Prop) (e : Ex) (st : St) : Prop :=
  match e with
  | .exit _ => False
  | _ =>
    match resAll T st fn.results.toList with
    | some ss =>
      match outAll st.ent rs ss with
      | some (r, ns) => if nodupN ns then Q r else False
      | none => False
    | none => False

def vcQ (T : Tab) (Γ : FuncId → Option PC) (R : FuncId → Option Rule) (fn : Func) (c : QC) (A : Tup c.ts → Nat → Option Ann) : Prop :=
  match fn.body with
  | some code => ∀ d, tupWf c.ts d → c.pre d → vc T Γ R code (A d) (St.start c.ts d fn.ntmps) fun e _ st => vcPostQ T fn c.rs (c.Q d) e st
  | none => False

def QOk (P : Program) (f : FuncId) (c : QC) : Prop :=
  ∀ (w : World) (args : List Value) (d : Tup c.ts), RdArgs anyZ w c.ts args d → c.pre d →
    Calls P f args.toArray w fun e w' => ∃ v, e = .returned v ∧ ∃ r : Tup c.rs, c.Q d r ∧ ResOk w w' c.rs v r

def qRule (c : QC) : Rule := fun ss st K =>
  match readArgs st.ent c.ts ss with
  | some d => c.pre d ∧ ∀ r : Tup c.rs, c.Q d r → tupWf c.rs r → K (freshS c.rs r (llen st.hp)).1 (st.alloc (freshS c.rs r (llen st.hp)).2)
  | none => False

/-- A function that writes the box behind its first argument: what its results are, and what it leaves there. -/
structure QB where
  t : Ty
  ts : List Ty
  rs : List Ty
  pre : t.den → Tup ts → Prop
  Q : t.den → Tup ts → t.den → Tup rs → Prop

def boxQ (t : Ty) (Q : t.den → Prop) : Ent → Prop
  | .bx cs => if lall C.noOwn cs then (match readAll (fun _ => .dead) t cs with | some y => Q y | none => False) else False
  | _ => False

def vcPostQB (T : Tab) (fn : Func) (t : Ty) (rs : List Ty) (Q : t.den → Tup rs → Prop) (e : Ex) (st : St) : Prop :=
  match e with
  | .exit _ => False
  | _ =>
    match resAll T st fn.results.toList with
    | some ss =>
      match outAll st.ent rs ss with
      | some (r, ns) => if nodupN ns then boxQ t (fun g => Q g r) (st.ent 0) else False
      | none => False
    | none => False

def vcQB (T : Tab) (Γ : FuncId → Option PC) (R : FuncId → Option Rule) (fn : Func) (bc : QB) (A : bc.t.den → Tup bc.ts → Nat → Option Ann) : Prop :=
  match fn.body with
  | some code => ∀ d x, bc.t.wf d → tupWf bc.ts x → bc.pre d x → vc T Γ R code (A d x) (startBox bc.t d bc.ts x fn.ntmps) fun e _ st => vcPostQB T fn bc.t bc.rs (bc.Q d x) e st
  | none => False

def qbRule (bc : QB) : Rule := fun ss st K =>
  match ss with
  | .c (.box m 0) :: xs =>
    match st.ent m with
    | .bx cs =>
      if lall C.noOwn cs && lall S.noOwn ((St.mk xs st.hp).freezes (ownsS xs)).ts then
        match readAll (fun _ => .dead) bc.t cs with
        | some d =>
          match readArgs (fun _ => .dead) bc.ts ((St.mk xs st.hp).freezes (ownsS xs)).ts with
          | some x =>
            bc.pre d x ∧ ∀ (g : bc.t.den) (r : Tup bc.rs), bc.Q d x g r → bc.t.wf g → tupWf bc.rs r → K (freshS bc.rs r (llen (st.freezes (ownsS xs)).hp)).1 { ((st.freezes (ownsS xs)).alloc (freshS bc.rs r (llen (st.freezes (ownsS xs)).hp)).2) with hp := lset ((st.freezes (ownsS xs)).alloc (freshS bc.rs r (llen (st.freezes (ownsS xs)).hp)).2).hp m (.bx (expand false bc.t g)) }
          | none => False
        | none => False
      else False
    | _ => False
  | _ => False

section
variable {P : Program} {T : Tab} {Γ : FuncId → Option PC} {R : FuncId → Option Rule} {base : Nat} {M : LM} {w0 : World} {V : Vl} {hp : Nat → Ent} {w w' : World}

theorem vcQ_ok (hm : P.follows .mixedOrders = true) (hT : TabOk P T) (hΓ : GamOk P Γ) (hR : RulesOk P R) {f : FuncId} {fn : Func} (hf : P.funcs[f]? = some fn) {c : QC} {A : Tup c.ts → Nat → Option Ann}
    (h : vcQ T Γ R fn c A) : QOk P f c := by
  intro w args d hargs hpre
  unfold vcQ at h
  split at h
  · rename_i code hb
    have hv := h d (args_wf hargs) hpre
    refine calls_of_wp hf hb (vc_ok hm hT hΓ hR code (A d) _ _ _ _ w (sat_start hargs fn.ntmps) hv (fun e A' st' a' w' hk hs' => ?_))
    obtain ⟨hd, V, r⟩ := hs'
    have key : vcPostQ T fn c.rs (c.Q d) e st' → (∃ i, e = .exit i) ∨ ∃ v, (results fn a'.tmps).run P w' = .ok v w' ∧ ∃ x : Tup c.rs, c.Q d x ∧ ResOk w w' c.rs v x := by
      intro hp
      unfold vcPostQ at hp
      split at hp
      · exact hp.elim
      · right
        split at hp
        · rename_i ss hss
          split at hp
          · rename_i x ns ho
            split at hp
            · rename_i hnd
              obtain ⟨vs, e1, e2, e3⟩ := resAll_run hT r hss
              refine ⟨_, results_run e3, x, hp, ?_⟩
              obtain ⟨bs, k1, k2, k3⟩ := outAll_ok (vs := vs) r.mem.ents ho e1 e2
              refine ⟨⟨V.Z true, bs, _, rfl, k1, by rw [k2]; exact nodup_blks r.mem (nodupN_ok hnd) k3, fun b hb => ?_, fun b hb => ?_⟩, r.mem.kept⟩
              · have hb' : b ∈ bs.filterMap id := List.mem_filterMap.2 ⟨some b, hb, rfl⟩
                rw [k2] at hb'
                obtain ⟨n, h1, h2, rfl⟩ := mem_blksOf hb'
                obtain ⟨e, xs, h3⟩ := k3 n h1
                obtain ⟨_, h4, h5⟩ := r.mem.own n (by rw [h3]; rfl) h2
                exact ⟨r.mem.mine n e xs h3 h2, h4, fun hz => h5 (Vl.Z_all hz)⟩
              · rcases hb with hb | ⟨hb, _⟩
                · exact r.mem.z1 b hb
                · cases hb
            · exact hp.elim
          · exact hp.elim
        · exact hp.elim
    have hk' := key
    cases e with
    | normal =>
      rcases hk' hk with ⟨i, h⟩ | ⟨v, h1, h2⟩
      · cases h
      · exact ⟨hd, v, h1, v, rfl, h2⟩
    | exit i => exact hk.elim
    | ret =>
      rcases hk' hk with ⟨i, h⟩ | ⟨v, h1, h2⟩
      · cases h
      · exact ⟨hd, v, h1, v, rfl, h2⟩
  · exact h.elim

theorem q_rule {f : FuncId} {c : QC} (h : QOk P f c) : RuleOk P f (qRule c) := by
  intro base M w0 V st ts w ss vs K r hlen hss hr
  unfold qRule at hr
  split at hr
  · rename_i d hd
    obtain ⟨hpre, hK⟩ := hr
    have hargs := readArgs_ok (LkOk.ents r) c.ts hd hlen hss
    refine (h w vs d hargs hpre).mono ?_
    rintro e w' ⟨v, rfl, r', hu, ⟨Z1, bs, us, rfl, k1, k2, k3, k4⟩, hk⟩
    have g := good_callX r.mem (nx := llen st.hp) k1 k2 k3 k4 hk (fun j _ => ent_dead st j)
    obtain ⟨q1, q2⟩ := rel_good r g
    exact ⟨_, rfl, _, _, _, hK r' hu (ownVals_wf k1), q1, q2⟩
  · exact hr.elim

theorem boxQ_ok {t : Ty} {Q : t.den → Prop} {n : Nat} (h : boxQ t Q (hp n)) (he : (hp n).ok V hp w n) : ∃ cs, hp n = .bx cs ∧ ∃ g, Q g ∧ ∃ vals el, w.heap[V.blk n]? = some (.cells vals el (0, 0)) ∧ RdC (V.Z false) w t vals.toList g := by
  cases hn : hp n with
  | dead => rw [hn] at h; exact h.elim
  | row fr e xs => rw [hn] at h; exact h.elim
  | bx cs =>
    rw [hn] at h he
    obtain ⟨vals, el, h1, h2⟩ := he
    unfold boxQ at h
    simp only at h
    split at h
    · rename_i hno
      split at h
      · rename_i y hy
        rw [lall_eq, List.all_eq_true] at hno
        exact ⟨cs, rfl, y, h, vals, el, h1, readAll_zone hy h2 (fun c hc => ⟨hno c hc, fun h => by cases h⟩)⟩
      · exact h.elim
    · exact h.elim

/-- What its code gives. -/
theorem qb_sem (hm : P.follows .mixedOrders = true) (hT : TabOk P T) (hΓ : GamOk P Γ) (hR : RulesOk P R) {f : FuncId} {fn : Func} (hf : P.funcs[f]? = some fn) {bc : QB} {A : bc.t.den → Tup bc.ts → Nat → Option Ann}
    (h : vcQB T Γ R fn bc A) {B : Nat} {vals : Array Value} {el : TypeId} {Z : Nat → Prop} {d : bc.t.den} {x : Tup bc.ts} {vs : List Value} (hB : w.heap[B]? = some (.cells vals el (0, 0)))
    (hz : ∀ b, Z b → b < w.heap.size) (hZB : ¬ Z B) (hd : RdC Z w bc.t vals.toList d) (hx : RdArgs Z w bc.ts vs x) (hpre : bc.pre d x) :
    Calls P f (Value.pointer (some ⟨B, 0, none⟩) :: vs).toArray w fun e w' => ∃ v, e = .returned v ∧ ∃ (g : bc.t.den) (out : Tup bc.rs), bc.Q d x g out ∧ bc.t.wf g ∧ BoxOk w w' B vals.size Z bc.t bc.rs v out g := by
  unfold vcQB at h
  split at h
  case h_2 => exact h.elim
  rename_i code hb
  have hvc := h d x hd.wf (argsZ_wf hx) hpre
  have hBlt : B < w.heap.size := (Array.getElem?_eq_some_iff.1 hB).1
  let V0 : Vl := ⟨fun _ => B, fun j => j = 0, Z, fun _ => False⟩
  let M0 : LM := ⟨fun b => b = B, fun b j => b = B ∧ j = 0, fun b => Z b ∨ b = B, fun b h => .inr h, fun b => b = B⟩
  have hz0 : ∀ b, Z b → V0.Z false b := fun b hb => .inr ⟨rfl, hb⟩
  have h0 : (startBox bc.t d bc.ts x fn.ntmps).ent 0 = .bx (expand false bc.t d) := rfl
  have hdead : ∀ j, j ≠ 0 → (startBox bc.t d bc.ts x fn.ntmps).ent j = .dead := by
    intro j hj
    cases j with
    | zero => exact absurd rfl hj
    | succ j => rfl
  have hlv : ∀ j, ((startBox bc.t d bc.ts x fn.ntmps).ent j).live = true → j = 0 := by
    intro j hj
    by_cases e : j = 0
    · exact e
    · rw [hdead j e] at hj; cases hj
  have mem0 : Mem w.heap.size M0 w V0 (startBox bc.t d bc.ts x fn.ntmps).ent w := by
    refine ⟨fun j => ?_, fun j cs hj => hlv j (by rw [hj]; rfl), fun j hj hh => ?_, fun j e ys hj => ?_, fun j j' hj hj' _ _ _ => ?_, fun b h => ⟨hz b h, .inl h⟩, fun b h => h.elim, ⟨rfl, rfl, rfl, Nat.le_refl _, fun _ _ _ => rfl, fun b v2 e2 _ _ hv2 => ⟨v2, e2, hv2, rfl⟩⟩, fun j hj hh => ?_, fun b hb => ⟨by rw [h0]; rfl, hb.symm⟩, fun j hh q hq => ?_⟩
    · by_cases e : j = 0
      · subst e
        rw [h0]
        exact ⟨vals, el, hB, ok_expand false bc.t (hd.mono hz0 (fun _ _ => rfl))⟩
      · rw [hdead j e]; trivial
    · refine ⟨.inr rfl, hBlt, fun hzz => ?_⟩
      rcases hzz with hzz | ⟨_, hzz⟩
      · exact hzz
      · exact hZB hzz
    · have := hlv j (by rw [hj]; rfl)
      subst this
      rw [h0] at hj; cases hj
    · rw [hlv j hj, hlv j' hj']
    · have := hlv j (lentish_live hj)
      subst this
      rw [h0] at hj; exact hj.elim
    · have := hlv j (lentish_live (lids_lent hq))
      subst this
      rw [h0] at hq; cases hq
  have hx' : RdArgs (V0.Z false) w bc.ts vs x := by
    have mono : ∀ {ts : List Ty} {vs : List Value} {d : Tup ts}, RdArgs Z w ts vs d → RdArgs (V0.Z false) w ts vs d := by
      intro ts
      induction ts with
      | nil => intro vs d h; exact h
      | cons t r ih =>
        intro vs d h
        cases r with
        | nil => obtain ⟨v, h1, cs, h2, h3⟩ := h; exact ⟨v, h1, cs, h2, h3.mono hz0 (fun _ _ => rfl)⟩
        | cons u r => obtain ⟨v, vs', h1, ⟨cs, h2, h3⟩, h4⟩ := h; exact ⟨v, vs', h1, ⟨cs, h2, h3.mono hz0 (fun _ _ => rfl)⟩, ih h4⟩
    exact mono hx
  obtain ⟨l1, l2, l3⟩ := argsS_zone (hp := (startBox bc.t d bc.ts x fn.ntmps).ent) hx'
  have sat0 : Sat w.heap.size M0 w (startBox bc.t d bc.ts x fn.ntmps) { tmps := (Value.pointer (some ⟨B, 0, none⟩) :: vs).toArray ++ Array.replicate (fn.ntmps - (Value.pointer (some ⟨B, 0, none⟩) :: vs).toArray.size) undef, defers := [] } w := by
    refine ⟨rfl, V0, ⟨?_, fun i s' v' hs' hv' => ?_, mem0⟩⟩
    · show (S.c (.box 0 0) :: lapp (argsS bc.ts x) (lrep S.und (fn.ntmps - (llen bc.ts + 1)))).length = _
      rw [lapp_eq, lrep_eq, llen_eq]; simp [l1, l2]; omega
    · have hs' : (S.c (.box 0 0) :: lapp (argsS bc.ts x) (lrep S.und (fn.ntmps - (llen bc.ts + 1))))[i]? = some s' := hs'
      have hv' : ((Value.pointer (some ⟨B, 0, none⟩) :: vs) ++ List.replicate (fn.ntmps - (vs.length + 1)) undef)[i]? = some v' := by
        rw [← hv']
        simp only [Array.getElem?_append, List.getElem?_append, List.getElem?_toArray, List.size_toArray, Array.getElem?_replicate, List.getElem?_replicate, List.length_cons]
      cases i with
      | zero =>
        simp only [List.getElem?_cons_zero, Option.some.injEq, List.cons_append] at hs' hv'
        subst hs'; subst hv'
        exact ⟨rfl, rfl, _, h0⟩
      | succ i =>
        simp only [List.getElem?_cons_succ, List.cons_append, lapp_eq, lrep_eq, llen_eq] at hs' hv'
        rcases Nat.lt_or_ge i vs.length with hi | hi
        · rw [List.getElem?_append_left (by omega)] at hs'
          rw [List.getElem?_append_left hi] at hv'
          exact l3 i s' v' hs' hv'
        · rw [List.getElem?_append_right (by omega), List.getElem?_replicate] at hs'
          rw [List.getElem?_append_right hi, List.getElem?_replicate] at hv'
          split at hs'
          · injection hs' with hs'; subst hs'
            split at hv'
            · injection hv' with hv'; exact hv'.symm
            · cases hv'
          · cases hs'
  refine calls_of_wp (args := (Value.pointer (some ⟨B, 0, none⟩) :: vs).toArray) hf hb (vc_ok hm hT hΓ hR code (A d x) _ _ _ _ w sat0 hvc (fun e A' st' a' w' hk hs' => ?_))
  obtain ⟨hdf, V1, r⟩ := hs'
  have m1 := r.mem
  have key : vcPostQB T fn bc.t bc.rs (bc.Q d x) e st' → (∃ i, e = .exit i) ∨ ∃ v, (results fn a'.tmps).run P w' = .ok v w' ∧ ∃ (g : bc.t.den) (out : Tup bc.rs), bc.Q d x g out ∧ bc.t.wf g ∧ BoxOk w w' B vals.size Z bc.t bc.rs v out g := by
    intro hp
    unfold vcPostQB at hp
    split at hp
    · exact hp.elim
    · right
      split at hp
      · rename_i ss hss
        split at hp
        · rename_i y ns ho
          split at hp
          · rename_i hnd
            obtain ⟨us, e1, e2, e3⟩ := resAll_run hT r hss
            refine ⟨_, results_run e3, ?_⟩
            obtain ⟨bs, k1, k2, k3⟩ := outAll_ok (vs := us) m1.ents ho e1 e2
            obtain ⟨q1, q2⟩ := m1.lentb B rfl
            obtain ⟨cs, g1, g, hQ, vals', el', g2, g3⟩ := boxQ_ok hp (m1.ents 0)
            rw [q2] at g2
            obtain ⟨vals2, el2, s1, s2⟩ := m1.kept.shape B vals el hBlt rfl hB
            rw [g2] at s1
            injection s1 with s1
            injection s1 with s1 _ _
            refine ⟨g, y, hQ, g3.wf, ⟨V1.Z true, bs, us, rfl, k1, by rw [k2]; exact nodup_blks m1 (nodupN_ok hnd) k3, fun b hb => ?_, fun b hb => ?_, vals', el', g2, by rw [s1]; exact s2, g3.mono (fun b hb => ?_) (fun _ _ => rfl)⟩, ⟨m1.kept.os, m1.kept.tape, m1.kept.output⟩, m1.kept.size, fun b hb hne => m1.kept.block b hb hne⟩
            · have hb' : b ∈ bs.filterMap id := List.mem_filterMap.2 ⟨some b, hb, rfl⟩
              rw [k2] at hb'
              obtain ⟨n, h1, h2, rfl⟩ := mem_blksOf hb'
              obtain ⟨e, xs, h3⟩ := k3 n h1
              obtain ⟨_, h4, h5⟩ := m1.own n (by rw [h3]; rfl) h2
              exact ⟨m1.mine n e xs h3 h2, h4, fun hz => h5 (Vl.Z_all hz)⟩
            · rcases hb with hb | ⟨hb, _⟩
              · exact m1.z1 b hb
              · cases hb
            · rcases hb with hb | ⟨_, hb⟩
              · exact .inr (.inl hb)
              · rcases (m1.z0 b hb).2 with h | h
                · exact .inl h
                · have hown := m1.own 0 (by rw [g1]; rfl) (m1.box 0 cs g1)
                  rw [q2] at hown
                  exact absurd (Or.inr ⟨rfl, by rw [← h]; exact hb⟩) hown.2.2
          · exact hp.elim
        · exact hp.elim
      · exact hp.elim
  have hk' := key
  cases e with
  | normal =>
    rcases hk' hk with ⟨i, h⟩ | ⟨v, h1, h2⟩
    · cases h
    · exact ⟨hdf, v, h1, v, rfl, h2⟩
  | exit i => exact hk.elim
  | ret =>
    rcases hk' hk with ⟨i, h⟩ | ⟨v, h1, h2⟩
    · cases h
    · exact ⟨hdf, v, h1, v, rfl, h2⟩

theorem qb_rule (hm : P.follows .mixedOrders = true) (hT : TabOk P T) (hΓ : GamOk P Γ) (hR : RulesOk P R) {f : FuncId} {fn : Func} (hf : P.funcs[f]? = some fn) {bc : QB} {A : bc.t.den → Tup bc.ts → Nat → Option Ann}
    (h : vcQB T Γ R fn bc A) : RuleOk P f (qbRule bc) := by
  intro base M w0 V st ts w ss vs K r hlen hslots hrule
  unfold qbRule at hrule
  split at hrule
  case h_2 => exact hrule.elim
  rename_i m xs
  split at hrule
  case h_2 => exact hrule.elim
  rename_i cs hme
  split at hrule
  case isFalse => exact hrule.elim
  rename_i hno
  rw [Bool.and_eq_true] at hno
  obtain ⟨hno1, hno2⟩ := hno
  rw [lall_eq, List.all_eq_true] at hno1 hno2
  split at hrule
  case h_2 => exact hrule.elim
  rename_i d hdd
  split at hrule
  case h_2 => exact hrule.elim
  rename_i x hxx
  match vs, hlen with
  | pv :: us, hlen =>
    have hlen' : xs.length = us.length := by simpa using hlen
    obtain ⟨hpv, hhas, cs0, hcs0⟩ := hslots 0 _ pv rfl rfl
    subst hpv
    have mm := r.mem
    have hmok := mm.ents m
    rw [hme] at hmok
    obtain ⟨vals, el, hB, hcells⟩ := hmok
    have hd0 := readAll_zone (fr := false) hdd hcells (fun c hc => ⟨hno1 c hc, fun h => by cases h⟩)
    have r0 : Rel base M w0 V ⟨st.ts ++ xs, st.hp⟩ (ts ++ us.toArray) w := rel_app (a := st.ts) (h := st.hp) r hlen' (fun i s v hs hv => hslots (i + 1) s v (by simpa using hs) (by simpa using hv))
    obtain ⟨V1, r1, hb1, hh1, hz1⟩ := r0.freezesX (ownsS xs)
    obtain ⟨f1, f2⟩ := freezes_app (ownsS xs) st.ts xs st.hp
    rw [f1] at r1
    obtain ⟨g1, g2⟩ := freezes_len (ownsS xs) (St.mk st.ts st.hp)
    obtain ⟨g3, _⟩ := freezes_len (ownsS xs) (St.mk xs st.hp)
    obtain ⟨r2, _, hsl⟩ := rel_unapp (a := ((St.mk st.ts st.hp).freezes (ownsS xs)).ts) (b := ((St.mk xs st.hp).freezes (ownsS xs)).ts) (h := ((St.mk st.ts st.hp).freezes (ownsS xs)).hp) r1 (by rw [g1]; exact r.len)
    have hargs : RdArgs (V1.Z false) w bc.ts us x := readArgs_zone bc.ts hxx (by rw [g3]; exact hlen') hsl hno2
    have hbx1 : ((st.freezes (ownsS xs)).ent m).isBx = true := freezes_bx (ownsS xs) st (by rw [hme]; rfl)
    obtain ⟨cs1, hcs1⟩ : ∃ cs1, (st.freezes (ownsS xs)).ent m = .bx cs1 := by
      cases hq : (st.freezes (ownsS xs)).ent m with
      | bx c => exact ⟨c, rfl⟩
      | dead => rw [hq] at hbx1; cases hbx1
      | row fr e ys => rw [hq] at hbx1; cases hbx1
    have r2' : Rel base M w0 V1 (st.freezes (ownsS xs)) ts w := r2
    have hown := r2'.mem.own m (by rw [hcs1]; rfl) (r2'.mem.box m cs1 hcs1)
    rw [hb1] at hown
    obtain ⟨hpre, hK⟩ := hrule
    refine (qb_sem hm hT hΓ hR hf h hB (fun b hb => r2'.mem.z_lt hb) hown.2.2 (hd0.mono (fun b hb => hz1 false b hb) (fun _ _ => rfl)) hargs hpre).mono (fun e w' hr => ?_)
    obtain ⟨v, rfl, g, out, hQ, hgw, ok⟩ := hr
    have hwf : tupWf bc.rs out := by
      obtain ⟨⟨Z1, bs, vs, _, h1, _⟩, _⟩ := ok
      exact ownVals_wf h1
    rw [← hb1] at ok
    obtain ⟨V', k1, k2, k3⟩ := box_back r2' hcs1 (by rw [hb1]; exact hB) ok (cs' := expand false bc.t g) (fun V' hp' w1 vs' Z1 q1 q2 q3 q4 q5 q6 => by
      refine ok_expand false bc.t (q3.mono (fun b hb => hb.elim (fun h => q2 b h) (fun h => q1 b h)) (fun b hb => q5 b hb (fun e => ?_)))
      rcases hb with hb | hb
      · rw [e, hb1] at hb; exact hown.2.2 hb
      · exact q6 b hb e)
    exact ⟨v, rfl, V', _, _, hK g out hQ hgw hwf, k2, k3⟩
end
end Go.SX


/- Contracts that tell of a new box and results no more than that they are some. No condition. -/
namespace Go.SX
open Go.RowKit
set_option linter.unusedVariables false
set_option linter.unusedSimpArgs false

/-- A function that hands back the address of a new box first: what lies there, and what its other results are. -/
structure QN where
  t : Ty
  ts : List Ty
  rs : List Ty
  pre : Tup ts → Prop
  Q : Tup ts → t.den → Tup rs → Prop

def vcPostQN (T : Tab) (fn : Func) (t : Ty) (rs : List Ty) (Q : t.den → Tup rs → Prop) (e : Ex) (st : St) : Prop :=
  match e with
  | .exit _ => False
  | _ =>
    match resAll T st fn.results.toList with
    | some (.c (.box n 0) :: ss) =>
      match outAll st.ent rs ss with
      | some (r, ns) => if nodupN ns then boxQ t (fun g => Q g r) (st.ent n) else False
      | none => False
    | _ => False

def vcQN (T : Tab) (Γ : FuncId → Option PC) (R : FuncId → Option Rule) (fn : Func) (nc : QN) (A : Tup nc.ts → Nat → Option Ann) : Prop :=
  match fn.body with
  | some code => ∀ x, tupWf nc.ts x → nc.pre x → vc T Γ R code (A x) (St.start nc.ts x fn.ntmps) fun e _ st => vcPostQN T fn nc.t nc.rs (nc.Q x) e st
  | none => False

def qnRule (nc : QN) : Rule := fun xs st K =>
  if lall S.noOwn ((St.mk xs st.hp).freezes (ownsS xs)).ts then
    match readArgs (fun _ => .dead) nc.ts ((St.mk xs st.hp).freezes (ownsS xs)).ts with
    | some x =>
      nc.pre x ∧ ∀ (g : nc.t.den) (r : Tup nc.rs), nc.Q x g r → nc.t.wf g → tupWf nc.rs r → K (boxTup (llen (st.freezes (ownsS xs)).hp) (freshTups nc.rs r (llen (st.freezes (ownsS xs)).hp + 1)).1)
        ((st.freezes (ownsS xs)).alloc (.bx (expand false nc.t g) :: (freshTups nc.rs r (llen (st.freezes (ownsS xs)).hp + 1)).2))
    | none => False
  else False

section
variable {P : Program} {T : Tab} {Γ : FuncId → Option PC} {R : FuncId → Option Rule} {base : Nat} {M : LM} {w0 : World} {V : Vl} {hp : Nat → Ent} {w w' : World}

theorem qn_sem (hm : P.follows .mixedOrders = true) (hT : TabOk P T) (hΓ : GamOk P Γ) (hR : RulesOk P R) {f : FuncId} {fn : Func} (hf : P.funcs[f]? = some fn) {nc : QN} {A : Tup nc.ts → Nat → Option Ann}
    (h : vcQN T Γ R fn nc A) {Z : Nat → Prop} {x : Tup nc.ts} {vs : List Value} (hz : ∀ b, Z b → b < w.heap.size) (hx : RdArgs Z w nc.ts vs x) (hpre : nc.pre x) :
    Calls P f vs.toArray w fun e w' => ∃ v, e = .returned v ∧ ∃ (out : Tup nc.rs) (g : nc.t.den), nc.Q x g out ∧ NewOk w w' Z nc.t nc.rs v out g := by
  unfold vcQN at h
  split at h
  case h_2 => exact h.elim
  rename_i code hb
  have hvc := h x (argsZ_wf hx) hpre
  let V0 : Vl := ⟨fun _ => 0, fun _ => False, Z, fun _ => False⟩
  let M0 : LM := ⟨fun _ => False, fun _ _ => False, Z, fun b h => h.elim, fun _ => False⟩
  have hz0 : ∀ b, Z b → V0.Z false b := fun b hb => .inr ⟨rfl, hb⟩
  have he : (St.start nc.ts x fn.ntmps).ent = fun _ => .dead := by
    funext k
    show nth .dead ([] : List Ent) k = _
    rw [nth_eq]; rfl
  have mem0 : Mem w.heap.size M0 w V0 (St.start nc.ts x fn.ntmps).ent w := by
    rw [he]
    exact ⟨fun _ => trivial, (fun n cs h => by cases h), (fun n h => by cases h), (fun n e xs h => by cases h), (fun n m h => by cases h), fun b h => ⟨hz b h, h⟩, fun b (h : False) => h.elim, ⟨rfl, rfl, rfl, Nat.le_refl _, fun _ _ _ => rfl, fun _ _ _ _ h _ => h.elim⟩, fun n h => h.elim, fun b (h : False) => h.elim, fun n (h : False) => h.elim⟩
  have hx' : RdArgs (V0.Z false) w nc.ts vs x := by
    have mono : ∀ {ts : List Ty} {vs : List Value} {d : Tup ts}, RdArgs Z w ts vs d → RdArgs (V0.Z false) w ts vs d := by
      intro ts
      induction ts with
      | nil => intro vs d h; exact h
      | cons t r ih =>
        intro vs d h
        cases r with
        | nil => obtain ⟨v, h1, cs, h2, h3⟩ := h; exact ⟨v, h1, cs, h2, h3.mono hz0 (fun _ _ => rfl)⟩
        | cons u r => obtain ⟨v, vs', h1, ⟨cs, h2, h3⟩, h4⟩ := h; exact ⟨v, vs', h1, ⟨cs, h2, h3.mono hz0 (fun _ _ => rfl)⟩, ih h4⟩
    exact mono hx
  obtain ⟨l1, l2, l3⟩ := argsS_zone (hp := (St.start nc.ts x fn.ntmps).ent) hx'
  have sat0 : Sat w.heap.size M0 w (St.start nc.ts x fn.ntmps) { tmps := vs.toArray ++ Array.replicate (fn.ntmps - vs.toArray.size) undef, defers := [] } w := by
    refine ⟨rfl, V0, ⟨?_, fun i s' v' hs' hv' => ?_, mem0⟩⟩
    · show (lapp (argsS nc.ts x) (lrep S.und (fn.ntmps - llen nc.ts))).length = _
      rw [lapp_eq, lrep_eq, llen_eq]; simp [l1, l2]
    · have hs' : (lapp (argsS nc.ts x) (lrep S.und (fn.ntmps - llen nc.ts)))[i]? = some s' := hs'
      have hv' : (vs ++ List.replicate (fn.ntmps - vs.length) undef)[i]? = some v' := by
        rw [← hv']
        simp only [Array.getElem?_append, List.getElem?_append, List.getElem?_toArray, List.size_toArray, Array.getElem?_replicate, List.getElem?_replicate]
      rw [lapp_eq, lrep_eq, llen_eq] at hs'
      rcases Nat.lt_or_ge i vs.length with hi | hi
      · rw [List.getElem?_append_left (by omega)] at hs'
        rw [List.getElem?_append_left hi] at hv'
        exact l3 i s' v' hs' hv'
      · rw [List.getElem?_append_right (by omega), List.getElem?_replicate] at hs'
        rw [List.getElem?_append_right hi, List.getElem?_replicate] at hv'
        split at hs'
        · injection hs' with hs'; subst hs'
          split at hv'
          · injection hv' with hv'; exact hv'.symm
          · cases hv'
        · cases hs'
  refine calls_of_wp (args := vs.toArray) hf hb (vc_ok hm hT hΓ hR code (A x) _ _ _ _ w sat0 hvc (fun e A' st' a' w' hk hs' => ?_))
  obtain ⟨hdf, V1, r⟩ := hs'
  have m1 := r.mem
  have hk1 : Kept w.heap.size noM w w' := ⟨m1.kept.os, m1.kept.tape, m1.kept.output, m1.kept.size, fun b hb _ => m1.kept.block b hb (fun h => h), fun _ _ _ _ h _ => h.elim⟩
  have key : vcPostQN T fn nc.t nc.rs (nc.Q x) e st' → (∃ i, e = .exit i) ∨ ∃ v, (results fn a'.tmps).run P w' = .ok v w' ∧ ∃ (out : Tup nc.rs) (g : nc.t.den), nc.Q x g out ∧ NewOk w w' Z nc.t nc.rs v out g := by
    intro hp
    unfold vcPostQN at hp
    split at hp
    · exact hp.elim
    · right
      split at hp
      · rename_i n ss hss
        split at hp
        · rename_i y ns ho
          split at hp
          · rename_i hnd
            obtain ⟨us0, e1, e2, e3⟩ := resAll_run hT r hss
            match us0, e1 with
            | u :: us, e1 =>
              refine ⟨_, results_run e3, ?_⟩
              obtain ⟨hu, hhas, _⟩ := e2 0 _ u rfl rfl
              subst hu
              obtain ⟨bs, k1, k2, k3⟩ := outAll_ok (vs := us) m1.ents ho (by simpa using e1) (fun i s v hs hv => e2 (i + 1) s v (by simpa using hs) (by simpa using hv))
              obtain ⟨cs, g1, g, hQ, vals', el', g2, g3⟩ := boxQ_ok hp (m1.ents n)
              obtain ⟨o1, o2, o3⟩ := m1.own n (by rw [g1]; rfl) hhas
              have o1' : w.heap.size ≤ V1.blk n := by rcases o1 with h | h; exact h; exact h.elim
              refine ⟨y, g, hQ, ⟨V1.blk n, V1.Z true, bs, us, rfl, k1, ?_, fun b hb => ?_, fun b hb => ?_, vals', el', g2, g3.mono (fun b hb => ?_) (fun _ _ => rfl)⟩, hk1⟩
              · rw [show (some (V1.blk n) :: bs).filterMap id = V1.blk n :: bs.filterMap id from rfl, k2]
                refine List.nodup_cons.2 ⟨fun hmem => ?_, nodup_blks m1 (nodupN_ok hnd) k3⟩
                obtain ⟨n', h1, h2, h3⟩ := mem_blksOf hmem
                obtain ⟨e', xs', h4⟩ := k3 n' h1
                have := m1.dist n' n (by rw [h4]; rfl) (by rw [g1]; rfl) h2 hhas h3
                subst this
                rw [g1] at h4; cases h4
              · rcases List.mem_cons.1 hb with hb | hb
                · injection hb with hb
                  subst hb
                  exact ⟨o1', o2, fun hz => o3 (Vl.Z_all hz)⟩
                · have hb' : b ∈ bs.filterMap id := List.mem_filterMap.2 ⟨some b, hb, rfl⟩
                  rw [k2] at hb'
                  obtain ⟨n', h1, h2, rfl⟩ := mem_blksOf hb'
                  obtain ⟨e, xs, h3⟩ := k3 n' h1
                  obtain ⟨_, h4, h5⟩ := m1.own n' (by rw [h3]; rfl) h2
                  exact ⟨m1.mine n' e xs h3 h2, h4, fun hz => h5 (Vl.Z_all hz)⟩
              · rcases hb with hb | ⟨hb, _⟩
                · exact m1.z1 b hb
                · cases hb
              · rcases hb with hb | ⟨_, hb⟩
                · exact .inr (.inl hb)
                · exact .inl (m1.z0 b hb).2
          · exact hp.elim
        · exact hp.elim
      · exact hp.elim
  cases e with
  | normal =>
    rcases key hk with ⟨i, h⟩ | ⟨v, h1, h2⟩
    · cases h
    · exact ⟨hdf, v, h1, v, rfl, h2⟩
  | exit i => exact hk.elim
  | ret =>
    rcases key hk with ⟨i, h⟩ | ⟨v, h1, h2⟩
    · cases h
    · exact ⟨hdf, v, h1, v, rfl, h2⟩

theorem qn_rule (hm : P.follows .mixedOrders = true) (hT : TabOk P T) (hΓ : GamOk P Γ) (hR : RulesOk P R) {f : FuncId} {fn : Func} (hf : P.funcs[f]? = some fn) {nc : QN} {A : Tup nc.ts → Nat → Option Ann}
    (h : vcQN T Γ R fn nc A) : RuleOk P f (qnRule nc) := by
  intro base M w0 V st ts w xs us K r hlen hslots hrule
  unfold qnRule at hrule
  split at hrule
  case isFalse => exact hrule.elim
  rename_i hno
  rw [lall_eq, List.all_eq_true] at hno
  split at hrule
  case h_2 => exact hrule.elim
  rename_i x hxx
  obtain ⟨hpre, hK⟩ := hrule
  have r0 : Rel base M w0 V ⟨st.ts ++ xs, st.hp⟩ (ts ++ us.toArray) w := rel_app (a := st.ts) (h := st.hp) r hlen hslots
  obtain ⟨V1, r1, hb1, hh1, hz1⟩ := r0.freezesX (ownsS xs)
  obtain ⟨f1, f2⟩ := freezes_app (ownsS xs) st.ts xs st.hp
  rw [f1] at r1
  obtain ⟨g1, g2⟩ := freezes_len (ownsS xs) (St.mk st.ts st.hp)
  obtain ⟨g3, _⟩ := freezes_len (ownsS xs) (St.mk xs st.hp)
  obtain ⟨r2, _, hsl⟩ := rel_unapp (a := ((St.mk st.ts st.hp).freezes (ownsS xs)).ts) (b := ((St.mk xs st.hp).freezes (ownsS xs)).ts) (h := ((St.mk st.ts st.hp).freezes (ownsS xs)).hp) r1 (by rw [g1]; exact r.len)
  have hargs : RdArgs (V1.Z false) w nc.ts us x := readArgs_zone nc.ts hxx (by rw [g3]; exact hlen) hsl hno
  have r2' : Rel base M w0 V1 (st.freezes (ownsS xs)) ts w := r2
  generalize hst : st.freezes (ownsS xs) = s2 at *
  refine (qn_sem hm hT hΓ hR hf h (fun b hb => r2'.mem.z_lt hb) hargs hpre).mono (fun e w' hr => ?_)
  obtain ⟨v, rfl, out, g, hQ, ⟨⟨B, Z1, bs, vs, rfl, h1, h2, h3, h4, vals', el', h5, h6⟩, hk⟩⟩ := hr
  generalize hes : C.box (llen s2.hp) 0 = cb
  have mm := r2'.mem
  have e2 := freshTups_S nc.rs out (llen s2.hp + 1)
  have hlen2 : (some B :: bs).length = (Ent.bx (expand false nc.t g) :: (freshTups nc.rs out (llen s2.hp + 1)).2).length := by
    simp [freshTups_len _ h1]
  have hd : ∀ j, j < (Ent.bx (expand false nc.t g) :: (freshTups nc.rs out (llen s2.hp + 1)).2).length → s2.ent (llen s2.hp + j) = .dead := fun j _ => ent_dead s2 j
  have hx := VX.of_kept mm hk (nx := llen s2.hp) (es := Ent.bx (expand false nc.t g) :: (freshTups nc.rs out (llen s2.hp + 1)).2) (bs := some B :: bs) (Z := Z1) hlen2 hd
  generalize hV' : V1.ext (llen s2.hp) (some B :: bs) Z1 = V' at *
  generalize hhp : hpNew s2.ent (llen s2.hp) (Ent.bx (expand false nc.t g) :: (freshTups nc.rs out (llen s2.hp + 1)).2) = hp' at *
  have hl : Lies V' hp' Z1 (llen s2.hp + 1) (freshTups nc.rs out (llen s2.hp + 1)).2 bs := by
    refine ⟨fun j b hb => ?_, fun j b hb => ?_, fun j e he => ?_, fun b hb => by rw [← hV']; exact .inr hb⟩
    · rw [← hV', Nat.add_assoc, Nat.add_comm 1 j]; exact Vl.ext_has_new (by simpa using hb)
    · rw [← hV', Nat.add_assoc, Nat.add_comm 1 j]; exact Vl.ext_blk_new (by simpa using hb)
    · rw [← hhp, Nat.add_assoc, Nat.add_comm 1 j]; exact hpNew_new (by simpa using he)
  obtain ⟨t1, t2, t3⟩ := freshTups_ok h1 hl
  have hb0 : V'.blk (llen s2.hp) = B := by rw [← hV']; exact Vl.ext_blk_new (nx := llen s2.hp) (j := 0) rfl
  have hh0 : V'.has (llen s2.hp) := by
    rw [← hV']
    have := Vl.ext_has_new (V := V1) (nx := llen s2.hp) (bs := some B :: bs) (Z := Z1) (j := 0) (b := some B) rfl
    exact this.2 rfl
  have he0 : hp' (llen s2.hp) = .bx (expand false nc.t g) := by rw [← hhp]; exact hpNew_new (nx := llen s2.hp) (j := 0) rfl
  have hgood : Good base M w0 V1 s2.ent w (llen s2.hp) (boxTup (llen s2.hp) (freshTups nc.rs out (llen s2.hp + 1)).1) (Ent.bx (expand false nc.t g) :: (freshTups nc.rs out (llen s2.hp + 1)).2) (hyOf nc.rs out) (oneOr (.pointer (some ⟨B, 0, none⟩) :: vs)) w' V' := by
    refine ⟨?_, ?_, ?_, fun p hp' => ?_⟩
    · rw [← hV']
      refine mm.grow hk hlen2 hd h2 h3 h4 (fun j cs hj => ?_) (fun j e he => ?_) (fun e he => ?_)
      · cases j with
        | zero => exact ⟨B, rfl⟩
        | succ j =>
          have hj' : (freshTups nc.rs out (llen s2.hp + 1)).2[j]? = some (.bx cs) := by simpa using hj
          rw [e2] at hj'
          exact (freshS_row nc.rs out _ _ (List.mem_of_getElem? hj') cs rfl).elim
      · rw [hV', hhp]
        cases j with
        | zero =>
          simp only [List.getElem?_cons_zero, Option.some.injEq] at he
          subst he
          refine ⟨vals', el', by rw [Nat.add_zero, hb0]; exact h5, ok_expand false nc.t (h6.mono (fun b hb => ?_) (fun _ _ => rfl))⟩
          rw [← hV']
          exact Vl.ext_Z.2 hb
        | succ j =>
          have := t3 j e (by simpa using he)
          rw [Nat.add_assoc, Nat.add_comm 1 j] at this
          exact this
      · rcases List.mem_cons.1 he with he | he
        · subst he; exact fun h => h
        · rw [e2] at he
          exact freshS_true nc.rs out _ e he
    · rw [hhp]; exact hx
    · rw [hhp]
      refine boxTup_ok ⟨by rw [hb0], hh0, _, he0⟩ t1 t2
    · unfold hyOf at hp'
      split at hp'
      · injection hp' with hp'; subst hp'; exact ownVals_wf h1
      · cases hp'
  obtain ⟨q1, q2⟩ := rel_good r2' hgood
  exact ⟨_, rfl, V', _, _, hK g out hQ h6.wf (ownVals_wf h1), q1, q2⟩
end
end Go.SX


/- Contracts whose results are written no more: what they are is told by a law alone. No condition. -/
namespace Go.SX
open Go.RowKit
set_option linter.unusedVariables false
set_option linter.unusedSimpArgs false

def expTups : (ts : List Ty) → Tup ts → List (Bool × List C)
  | [], _ => []
  | [t], d => [(isSt t, expand true t d)]
  | t :: u :: r, d => (isSt t, expand true t d.1) :: expTups (u :: r) d.2

/-- Results that are written no more. -/
def expS (ts : List Ty) (d : Tup ts) : S :=
  match expTups ts d with
  | [x] => topS x
  | xs => .tup xs

def frozen (st : St) (ss : List S) : St := (St.mk ss st.hp).freezes (ownsS ss)

def vcPostQF (T : Tab) (fn : Func) (t : Ty) (rs : List Ty) (Q : t.den → Tup rs → Prop) (e : Ex) (st : St) : Prop :=
  match e with
  | .exit _ => False
  | _ =>
    match resAll T st fn.results.toList with
    | some ss =>
      if lall S.noOwn (frozen st ss).ts && lall S.isFr (frozen st ss).ts then
        match readArgs (fun _ => .dead) rs (frozen st ss).ts with
        | some r => boxQ t (fun g => Q g r) ((frozen st ss).ent 0)
        | none => False
      else False
    | none => False

def vcQF (T : Tab) (Γ : FuncId → Option PC) (R : FuncId → Option Rule) (fn : Func) (bc : QB) (A : bc.t.den → Tup bc.ts → Nat → Option Ann) : Prop :=
  match fn.body with
  | some code => ∀ d x, bc.t.wf d → tupWf bc.ts x → bc.pre d x → vc T Γ R code (A d x) (startBox bc.t d bc.ts x fn.ntmps) fun e _ st => vcPostQF T fn bc.t bc.rs (bc.Q d x) e st
  | none => False

def qfRule (bc : QB) : Rule := fun ss st K =>
  match ss with
  | .c (.box m 0) :: xs =>
    match st.ent m with
    | .bx cs =>
      if lall C.noOwn cs && lall S.noOwn ((St.mk xs st.hp).freezes (ownsS xs)).ts then
        match readAll (fun _ => .dead) bc.t cs with
        | some d =>
          match readArgs (fun _ => .dead) bc.ts ((St.mk xs st.hp).freezes (ownsS xs)).ts with
          | some x =>
            bc.pre d x ∧ ∀ (g : bc.t.den) (r : Tup bc.rs), bc.Q d x g r → bc.t.wf g → tupWf bc.rs r → K (expS bc.rs r) { (st.freezes (ownsS xs)) with hp := lset (st.freezes (ownsS xs)).hp m (.bx (expand false bc.t g)) }
          | none => False
        | none => False
      else False
    | _ => False
  | _ => False

def vcPostQG (T : Tab) (fn : Func) (rs : List Ty) (Q : Tup rs → Prop) (e : Ex) (st : St) : Prop :=
  match e with
  | .exit _ => False
  | _ =>
    match resAll T st fn.results.toList with
    | some ss =>
      if lall S.noOwn (frozen st ss).ts && lall S.isFr (frozen st ss).ts then
        match readArgs (fun _ => .dead) rs (frozen st ss).ts with
        | some r => Q r
        | none => False
      else False
    | none => False

def vcQG (T : Tab) (Γ : FuncId → Option PC) (R : FuncId → Option Rule) (fn : Func) (c : QC) (A : Tup c.ts → Nat → Option Ann) : Prop :=
  match fn.body with
  | some code => ∀ d, tupWf c.ts d → c.pre d → vc T Γ R code (A d) (St.start c.ts d fn.ntmps) fun e _ st => vcPostQG T fn c.rs (c.Q d) e st
  | none => False

structure ResOkF (w w' : World) (ts : List Ty) (v : Value) (d : Tup ts) : Prop where
  ex : ∃ (Z1 : Nat → Prop) (vs : List Value), v = oneOr vs ∧ RdArgs Z1 w' ts vs d ∧ (∀ b, Z1 b → w.heap.size ≤ b ∧ b < w'.heap.size)
  kept : Kept w.heap.size noM w w'

def QGOk (P : Program) (f : FuncId) (c : QC) : Prop :=
  ∀ (w : World) (args : List Value) (d : Tup c.ts), RdArgs anyZ w c.ts args d → c.pre d →
    Calls P f args.toArray w fun e w' => ∃ v, e = .returned v ∧ ∃ r : Tup c.rs, c.Q d r ∧ ResOkF w w' c.rs v r

def qgRule (c : QC) : Rule := fun ss st K =>
  match readArgs st.ent c.ts ss with
  | some d => c.pre d ∧ ∀ r : Tup c.rs, c.Q d r → tupWf c.rs r → K (expS c.rs r) st
  | none => False

structure BoxOkF (w w' : World) (B n : Nat) (Z : Nat → Prop) (t : Ty) (rs : List Ty) (v : Value) (out : Tup rs) (g : t.den) : Prop where
  ex : ∃ (Z1 : Nat → Prop) (vs : List Value), v = oneOr vs ∧ RdArgs Z1 w' rs vs out ∧ (∀ b, Z1 b → w.heap.size ≤ b ∧ b < w'.heap.size) ∧
    ∃ vals' el', w'.heap[B]? = some (.cells vals' el' (0, 0)) ∧ vals'.size = n ∧ RdC (fun b => Z b ∨ Z1 b) w' t vals'.toList g
  os : w'.os = w.os ∧ w'.tape = w.tape ∧ w'.output = w.output
  size : w.heap.size ≤ w'.heap.size
  block : ∀ b, b < w.heap.size → b ≠ B → w'.heap[b]? = w.heap[b]?

section
variable {P : Program} {T : Tab} {Γ : FuncId → Option PC} {R : FuncId → Option Rule} {base : Nat} {M : LM} {w0 : World} {V : Vl} {hp : Nat → Ent} {w w' : World}

theorem readS_topF {lk : Nat → Ent} {t : Ty} {s : S} {d : t.den} {v : Value} (h : readS lk t s = some d) (ho : S.ok V hp w s v) (h1 : s.noOwn = true) (h2 : s.isFr = true) : RdTop (V.Z true) w t v d := by
  unfold readS at h
  split at h
  · rename_i x
    split at h
    · cases h
    · rename_i hst
      refine ⟨[v], by unfold topV; rw [if_neg hst], readAll_zone h (okAll_cons_mk ho okAll_nil) (fun c hc => ?_)⟩
      simp at hc; subst hc
      exact ⟨h1, fun _ => h2⟩
  · rename_i cs
    split at h
    · rename_i hst
      obtain ⟨vs, e1, e2⟩ := ho
      refine ⟨vs.toList, by unfold topV; rw [if_pos hst, e1], readAll_zone h e2 (fun c hc => ⟨?_, fun _ => ?_⟩)⟩
      · have h1' : lall C.noOwn cs = true := h1
        rw [lall_eq, List.all_eq_true] at h1'
        exact h1' c hc
      · have h2' : lall C.isFr cs = true := h2
        rw [lall_eq, List.all_eq_true] at h2'
        exact h2' c hc
    · cases h
  · cases h

theorem readArgs_fr {lk : Nat → Ent} : ∀ (ts : List Ty) {ss : List S} {d : Tup ts} {vs : List Value}, readArgs lk ts ss = some d → ss.length = vs.length →
    (∀ (i : Nat) s v, ss[i]? = some s → vs[i]? = some v → S.ok V hp w s v) → (∀ s ∈ ss, s.noOwn = true) → (∀ s ∈ ss, s.isFr = true) → RdArgs (V.Z true) w ts vs d
  | [], [], d, vs, _, hl, _, _, _ => by cases vs with | nil => rfl | cons _ _ => cases hl
  | [], _ :: _, d, vs, h, _, _, _, _ => by cases h
  | [t], [s], d, vs, h, hl, ho, hn, hf => by
    match vs, hl with
    | [v], _ => exact ⟨v, rfl, readS_topF h (ho 0 s v rfl rfl) (hn s (List.mem_cons_self ..)) (hf s (List.mem_cons_self ..))⟩
  | [t], [], d, vs, h, _, _, _, _ => by cases h
  | [t], _ :: _ :: _, d, vs, h, _, _, _, _ => by cases h
  | t :: u :: r, [], d, vs, h, _, _, _, _ => by cases h
  | t :: u :: r, s :: ss, d, vs, h, hl, ho, hn, hf => by
    unfold readArgs at h
    split at h
    · rename_i x h1
      split at h
      · rename_i y h2
        injection h with h; subst h
        match vs, hl with
        | v :: vs', hl =>
          exact ⟨v, vs', rfl, readS_topF h1 (ho 0 s v rfl rfl) (hn s (List.mem_cons_self ..)) (hf s (List.mem_cons_self ..)),
            readArgs_fr (u :: r) h2 (by simpa using hl) (fun i s v hs hv => ho (i + 1) s v (by simpa using hs) (by simpa using hv)) (fun s hs => hn s (List.mem_cons_of_mem _ hs)) (fun s hs => hf s (List.mem_cons_of_mem _ hs))⟩
      · cases h
    · cases h

theorem rdArgs_mono {Z Z' : Nat → Prop} : ∀ {ts : List Ty} {vs : List Value} {d : Tup ts}, RdArgs Z w ts vs d → (∀ b, Z b → Z' b) → (∀ b, Z b → w'.heap[b]? = w.heap[b]?) → RdArgs Z' w' ts vs d
  | [], _, _, h, _, _ => h
  | [t], _, _, ⟨v, h1, cs, h2, h3⟩, hz, hw => ⟨v, h1, cs, h2, h3.mono hz hw⟩
  | t :: u :: r, _, _, ⟨v, vs', h1, ⟨cs, h2, h3⟩, h4⟩, hz, hw => ⟨v, vs', h1, ⟨cs, h2, h3.mono hz hw⟩, rdArgs_mono h4 hz hw⟩

theorem rdArgs_wf {Z : Nat → Prop} : ∀ {ts : List Ty} {vs : List Value} {d : Tup ts}, RdArgs Z w ts vs d → tupWf ts d
  | [], _, _, _ => trivial
  | [t], _, _, ⟨v, h1, cs, h2, h3⟩ => h3.wf
  | t :: u :: r, _, _, ⟨v, vs', h1, ⟨cs, h2, h3⟩, h4⟩ => ⟨h3.wf, rdArgs_wf h4⟩

theorem expTup_ok {t : Ty} {v : Value} {d : t.den} (h : RdTop (V.Z true) w t v d) : okTop V hp w (isSt t, expand true t d) v := by
  obtain ⟨cs, h1, h2⟩ := h
  have g := ok_expand (hp := hp) true t h2
  unfold topV at h1
  unfold okTop
  simp only
  split
  · rename_i ht; rw [if_pos ht] at h1; exact ⟨_, h1, by simpa using g⟩
  · rename_i ht; rw [if_neg ht] at h1; subst h1; exact g

theorem topS_ok' {x : Bool × List C} {v : Value} (h : okTop V hp w x v) : S.ok V hp w (topS x) v := by
  unfold okTop at h
  unfold topS
  split
  · rename_i ht; rw [if_pos ht] at h; exact h
  · rename_i ht
    rw [if_neg ht] at h
    match hx : x.2, h with
    | [c], h => exact h.2 0 c v rfl rfl
    | [], h => exact trivial
    | _ :: _ :: _, h => exact trivial

theorem expTups_ok : ∀ {ts : List Ty} {vs : List Value} {d : Tup ts}, RdArgs (V.Z true) w ts vs d → (expTups ts d).length = vs.length ∧ ∀ (j : Nat) x v, (expTups ts d)[j]? = some x → vs[j]? = some v → okTop V hp w x v
  | [], _, _, h => by
    have h : _ = [] := h
    subst h
    exact ⟨rfl, fun j x v hx => by cases hx⟩
  | [t], _, _, ⟨v, h1, h2⟩ => by
    subst h1
    refine ⟨rfl, fun j x u hx hu => ?_⟩
    cases j with
    | zero =>
      simp only [expTups, List.getElem?_cons_zero, Option.some.injEq] at hx hu
      subst hx; subst hu
      exact expTup_ok h2
    | succ j => simp [expTups] at hx
  | t :: u :: r, _, _, ⟨v, vs', h1, h2, h4⟩ => by
    subst h1
    obtain ⟨g1, g2⟩ := expTups_ok h4
    refine ⟨by simp [expTups, g1], fun j x y hx hy => ?_⟩
    cases j with
    | zero =>
      simp only [expTups, List.getElem?_cons_zero, Option.some.injEq] at hx hy
      subst hx; subst hy
      exact expTup_ok h2
    | succ j => exact g2 j x y (by simpa [expTups] using hx) (by simpa using hy)

theorem expS_ok {ts : List Ty} {vs : List Value} {d : Tup ts} (h : RdArgs (V.Z true) w ts vs d) : S.ok V hp w (expS ts d) (oneOr vs) := by
  obtain ⟨g1, g2⟩ := expTups_ok (hp := hp) h
  unfold expS
  split
  · rename_i x hx
    rw [hx] at g1 g2
    match vs, g1 with
    | [v], _ => exact topS_ok' (g2 0 x v rfl rfl)
  · rename_i hx
    match vs, g1, g2 with
    | [], g1, g2 => exact ⟨_, rfl, by simpa using g1, fun j x v hx hv => absurd hv (by simp)⟩
    | [v], g1, g2 =>
      match he : expTups ts d, g1 with
      | [x], _ => exact absurd he (hx x)
    | v :: v2 :: r, g1, g2 => exact ⟨_, rfl, by simpa using g1, fun j x v hx hv => g2 j x v hx (by simpa using hv)⟩

theorem good_callF (m : Mem base M w0 V hp w) {nx : Nat} {rs : List Ty} {d : Tup rs} {Z1 : Nat → Prop} {vs : List Value} (h1 : RdArgs Z1 w' rs vs d)
    (h4 : ∀ b, Z1 b → w.heap.size ≤ b ∧ b < w'.heap.size) (hk : Kept w.heap.size noM w w') :
    Good base M w0 V hp w nx (expS rs d) [] (hyOf rs d) (oneOr vs) w' (V.ext nx [] Z1) := by
  have hd' : ∀ j, j < ([] : List Ent).length → hp (nx + j) = .dead := fun j hj => absurd hj (Nat.not_lt_zero _)
  have x := VX.of_kept m hk (nx := nx) (es := []) (bs := []) (Z := Z1) rfl hd'
  have g1 : S.ok (V.ext nx [] Z1) (hpNew hp nx []) w' (expS rs d) (oneOr vs) := expS_ok (rdArgs_mono h1 (fun b hb => .inl (.inr hb)) (fun _ _ => rfl))
  refine ⟨m.grow hk rfl hd' (by simp) (fun b hb => by cases hb) h4 (fun j cs hj => by cases hj) (fun j e he => by cases he) (fun e he => by cases he), x, g1, fun p hp' => ?_⟩
  unfold hyOf at hp'
  split at hp'
  · injection hp' with hp'; subst hp'; exact rdArgs_wf h1
  · cases hp'

/-- Back in the caller: the box is written, new rows have names. -/
theorem box_backF {st : St} {ts : Array Value} (r : Rel base M w0 V st ts w) {m : Nat} {cs : List C} (hm : st.ent m = .bx cs) {vals : Array Value} {el : TypeId} (hB : w.heap[V.blk m]? = some (.cells vals el (0, 0)))
    {Z : Nat → Prop} {t : Ty} {rs : List Ty} {v : Value} {out : Tup rs} {g : t.den} (ok : BoxOkF w w' (V.blk m) vals.size Z t rs v out g) {cs' : List C}
    (hcs : ∀ (V' : Vl) (hp' : Nat → Ent) (w1 : World) (vs' : List Value) (Z1 : Nat → Prop), (∀ b, Z1 b → V'.Z false b) → (∀ b, V.Z false b → V'.Z false b) → RdC (fun b => Z b ∨ Z1 b) w' t vs' g → vs'.length = vals.size → (∀ b, Z b ∨ Z1 b → b ≠ V.blk m → w1.heap[b]? = w'.heap[b]?) → (∀ b, Z1 b → b ≠ V.blk m) → okAll V' hp' w1 cs' vs') :
    ∃ V', (∀ p, hyOf rs out = some p → p) ∧ Rel base M w0 V' { st with hp := lset st.hp m (.bx cs') } ts w' ∧
      S.ok V' (St.mk st.ts (lset st.hp m (.bx cs'))).ent w' (expS rs out) v := by
  have mm := r.mem
  have hhas := mm.box m cs hm
  obtain ⟨o1, o2, o3⟩ := mm.own m (by rw [hm]; rfl) hhas
  obtain ⟨⟨Z1, vs, rfl, h1, h4, vals', el', h5, h6, h7⟩, hos, hsz, hblk⟩ := ok
  generalize hBe : V.blk m = B at *
  let w1 : World := { w' with heap := w'.heap.setIfInBounds B (.cells vals el (0, 0)) }
  have hw1 : ∀ b, b ≠ B → w1.heap[b]? = w'.heap[b]? := fun b hb => by
    show (w'.heap.setIfInBounds B _)[b]? = _
    rw [Array.getElem?_setIfInBounds, if_neg (fun e => hb e.symm)]
  have hw1B : w1.heap[B]? = some (.cells vals el (0, 0)) := by
    show (w'.heap.setIfInBounds B _)[B]? = _
    rw [Array.getElem?_setIfInBounds, if_pos rfl, if_pos (by omega)]
  have hw1s : w1.heap.size = w'.heap.size := by show (w'.heap.setIfInBounds B _).size = _; simp
  have hk1 : Kept w.heap.size noM w w1 := by
    refine ⟨hos.1, hos.2.1, hos.2.2, by rw [hw1s]; exact hsz, fun b hb _ => ?_, fun _ _ _ _ h _ => h.elim⟩
    by_cases e : b = B
    · subst e; rw [hw1B, hB]
    · rw [hw1 b e]; exact hblk b hb e
  have hz1 : ∀ b, Z1 b → b ≠ B := fun b hb e => by have := (h4 b hb).1; omega
  have g := good_callF mm (nx := llen st.hp) (rdArgs_mono (w' := w1) h1 (fun _ h => h) (fun b hb => hw1 b (hz1 b hb))) (fun b hb => by rw [hw1s]; exact h4 b hb) hk1
  obtain ⟨r1, hres⟩ := rel_good r g
  generalize hV' : V.ext (llen st.hp) [] Z1 = V' at *
  have hal : st.alloc [] = st := by show St.mk st.ts (lapp st.hp []) = st; rw [lapp_eq, List.append_nil]
  rw [hal] at r1 hres
  have hnm : m < st.hp.length := ent_lt (by rw [hm]; rfl)
  have hm1 : st.ent m = .bx cs := hm
  have hb1 : V'.blk m = B := by
    rw [← hV', Vl.ext_blk_old (by rw [llen_eq]; omega)]; exact hBe
  have r2 : Rel base M w0 V' ⟨st.ts ++ [(expS rs out)], st.hp⟩ (ts ++ [oneOr vs].toArray) w1 :=
    rel_app (a := st.ts) (h := st.hp) r1 rfl (fun i s v hs hv => by
      cases i with
      | zero =>
        simp only [List.getElem?_cons_zero, Option.some.injEq] at hs hv
        subst hs; subst hv; exact hres
      | succ i => simp at hs)
  have hkw : Kept base M w0 w' := by
    have k := r1.mem.kept
    refine ⟨k.os, k.tape, k.output, by rw [← hw1s]; exact k.size, fun b hb hM => ?_, fun b v2 e2 hb hM hv => ?_⟩
    · rw [← hw1 b (fun e => by subst e; rcases o1 with h | h; omega; exact hM h)]
      exact k.block b hb hM
    · obtain ⟨v3, e3, j1, j2⟩ := k.shape b v2 e2 hb hM hv
      by_cases e : b = B
      · subst e
        rw [hw1B] at j1
        injection j1 with j1
        injection j1 with j1 _ _
        subst j1
        exact ⟨vals', el', h5, by rw [h6]; exact j2⟩
      · exact ⟨v3, e3, by rw [← hw1 b e]; exact j1, j2⟩
  have hZ1' : ∀ b, Z1 b → V'.Z false b := fun b hb => by rw [← hV']; exact Vl.ext_Z.2 (.inr hb)
  have hVZ : ∀ b, V.Z false b → V'.Z false b := fun b hb => by rw [← hV']; exact Vl.ext_Z.2 (.inl hb)
  have hok := hcs V' st.ent w1 vals'.toList Z1 hZ1' hVZ h7 (by simpa using h6) (fun b _ hb => hw1 b hb) hz1
  have r3 := rel_write_box (cs' := cs') r2 (m := m) (cs := cs) hm1 (w' := w') (fun b hb => (hw1 b (by rw [← hb1]; exact hb)).symm) hkw hw1s.symm (by rw [hb1]; exact h5) hok
  obtain ⟨r4, _, r5⟩ := rel_unapp (a := st.ts) (b := [(expS rs out)]) (h := lset (st.hp) m (.bx cs')) (us := [oneOr vs]) r3 r.len
  exact ⟨V', g.hy, r4, r5 0 _ _ rfl rfl⟩

/-- What its code gives. -/
theorem qf_sem (hm : P.follows .mixedOrders = true) (hT : TabOk P T) (hΓ : GamOk P Γ) (hR : RulesOk P R) {f : FuncId} {fn : Func} (hf : P.funcs[f]? = some fn) {bc : QB} {A : bc.t.den → Tup bc.ts → Nat → Option Ann}
    (h : vcQF T Γ R fn bc A) {B : Nat} {vals : Array Value} {el : TypeId} {Z : Nat → Prop} {d : bc.t.den} {x : Tup bc.ts} {vs : List Value} (hB : w.heap[B]? = some (.cells vals el (0, 0)))
    (hz : ∀ b, Z b → b < w.heap.size) (hZB : ¬ Z B) (hd : RdC Z w bc.t vals.toList d) (hx : RdArgs Z w bc.ts vs x) (hpre : bc.pre d x) :
    Calls P f (Value.pointer (some ⟨B, 0, none⟩) :: vs).toArray w fun e w' => ∃ v, e = .returned v ∧ ∃ (g : bc.t.den) (out : Tup bc.rs), bc.Q d x g out ∧ bc.t.wf g ∧ BoxOkF w w' B vals.size Z bc.t bc.rs v out g := by
  unfold vcQF at h
  split at h
  case h_2 => exact h.elim
  rename_i code hb
  have hvc := h d x hd.wf (argsZ_wf hx) hpre
  have hBlt : B < w.heap.size := (Array.getElem?_eq_some_iff.1 hB).1
  let V0 : Vl := ⟨fun _ => B, fun j => j = 0, Z, fun _ => False⟩
  let M0 : LM := ⟨fun b => b = B, fun b j => b = B ∧ j = 0, fun b => Z b ∨ b = B, fun b h => .inr h, fun b => b = B⟩
  have hz0 : ∀ b, Z b → V0.Z false b := fun b hb => .inr ⟨rfl, hb⟩
  have h0 : (startBox bc.t d bc.ts x fn.ntmps).ent 0 = .bx (expand false bc.t d) := rfl
  have hdead : ∀ j, j ≠ 0 → (startBox bc.t d bc.ts x fn.ntmps).ent j = .dead := by
    intro j hj
    cases j with
    | zero => exact absurd rfl hj
    | succ j => rfl
  have hlv : ∀ j, ((startBox bc.t d bc.ts x fn.ntmps).ent j).live = true → j = 0 := by
    intro j hj
    by_cases e : j = 0
    · exact e
    · rw [hdead j e] at hj; cases hj
  have mem0 : Mem w.heap.size M0 w V0 (startBox bc.t d bc.ts x fn.ntmps).ent w := by
    refine ⟨fun j => ?_, fun j cs hj => hlv j (by rw [hj]; rfl), fun j hj hh => ?_, fun j e ys hj => ?_, fun j j' hj hj' _ _ _ => ?_, fun b h => ⟨hz b h, .inl h⟩, fun b h => h.elim, ⟨rfl, rfl, rfl, Nat.le_refl _, fun _ _ _ => rfl, fun b v2 e2 _ _ hv2 => ⟨v2, e2, hv2, rfl⟩⟩, fun j hj hh => ?_, fun b hb => ⟨by rw [h0]; rfl, hb.symm⟩, fun j hh q hq => ?_⟩
    · by_cases e : j = 0
      · subst e
        rw [h0]
        exact ⟨vals, el, hB, ok_expand false bc.t (hd.mono hz0 (fun _ _ => rfl))⟩
      · rw [hdead j e]; trivial
    · refine ⟨.inr rfl, hBlt, fun hzz => ?_⟩
      rcases hzz with hzz | ⟨_, hzz⟩
      · exact hzz
      · exact hZB hzz
    · have := hlv j (by rw [hj]; rfl)
      subst this
      rw [h0] at hj; cases hj
    · rw [hlv j hj, hlv j' hj']
    · have := hlv j (lentish_live hj)
      subst this
      rw [h0] at hj; exact hj.elim
    · have := hlv j (lentish_live (lids_lent hq))
      subst this
      rw [h0] at hq; cases hq
  have hx' : RdArgs (V0.Z false) w bc.ts vs x := by
    have mono : ∀ {ts : List Ty} {vs : List Value} {d : Tup ts}, RdArgs Z w ts vs d → RdArgs (V0.Z false) w ts vs d := by
      intro ts
      induction ts with
      | nil => intro vs d h; exact h
      | cons t r ih =>
        intro vs d h
        cases r with
        | nil => obtain ⟨v, h1, cs, h2, h3⟩ := h; exact ⟨v, h1, cs, h2, h3.mono hz0 (fun _ _ => rfl)⟩
        | cons u r => obtain ⟨v, vs', h1, ⟨cs, h2, h3⟩, h4⟩ := h; exact ⟨v, vs', h1, ⟨cs, h2, h3.mono hz0 (fun _ _ => rfl)⟩, ih h4⟩
    exact mono hx
  obtain ⟨l1, l2, l3⟩ := argsS_zone (hp := (startBox bc.t d bc.ts x fn.ntmps).ent) hx'
  have sat0 : Sat w.heap.size M0 w (startBox bc.t d bc.ts x fn.ntmps) { tmps := (Value.pointer (some ⟨B, 0, none⟩) :: vs).toArray ++ Array.replicate (fn.ntmps - (Value.pointer (some ⟨B, 0, none⟩) :: vs).toArray.size) undef, defers := [] } w := by
    refine ⟨rfl, V0, ⟨?_, fun i s' v' hs' hv' => ?_, mem0⟩⟩
    · show (S.c (.box 0 0) :: lapp (argsS bc.ts x) (lrep S.und (fn.ntmps - (llen bc.ts + 1)))).length = _
      rw [lapp_eq, lrep_eq, llen_eq]; simp [l1, l2]; omega
    · have hs' : (S.c (.box 0 0) :: lapp (argsS bc.ts x) (lrep S.und (fn.ntmps - (llen bc.ts + 1))))[i]? = some s' := hs'
      have hv' : ((Value.pointer (some ⟨B, 0, none⟩) :: vs) ++ List.replicate (fn.ntmps - (vs.length + 1)) undef)[i]? = some v' := by
        rw [← hv']
        simp only [Array.getElem?_append, List.getElem?_append, List.getElem?_toArray, List.size_toArray, Array.getElem?_replicate, List.getElem?_replicate, List.length_cons]
      cases i with
      | zero =>
        simp only [List.getElem?_cons_zero, Option.some.injEq, List.cons_append] at hs' hv'
        subst hs'; subst hv'
        exact ⟨rfl, rfl, _, h0⟩
      | succ i =>
        simp only [List.getElem?_cons_succ, List.cons_append, lapp_eq, lrep_eq, llen_eq] at hs' hv'
        rcases Nat.lt_or_ge i vs.length with hi | hi
        · rw [List.getElem?_append_left (by omega)] at hs'
          rw [List.getElem?_append_left hi] at hv'
          exact l3 i s' v' hs' hv'
        · rw [List.getElem?_append_right (by omega), List.getElem?_replicate] at hs'
          rw [List.getElem?_append_right hi, List.getElem?_replicate] at hv'
          split at hs'
          · injection hs' with hs'; subst hs'
            split at hv'
            · injection hv' with hv'; exact hv'.symm
            · cases hv'
          · cases hs'
  refine calls_of_wp (args := (Value.pointer (some ⟨B, 0, none⟩) :: vs).toArray) hf hb (vc_ok hm hT hΓ hR code (A d x) _ _ _ _ w sat0 hvc (fun e A' st' a' w' hk hs' => ?_))
  obtain ⟨hdf, V1, r⟩ := hs'
  have key : vcPostQF T fn bc.t bc.rs (bc.Q d x) e st' → (∃ i, e = .exit i) ∨ ∃ v, (results fn a'.tmps).run P w' = .ok v w' ∧ ∃ (g : bc.t.den) (out : Tup bc.rs), bc.Q d x g out ∧ bc.t.wf g ∧ BoxOkF w w' B vals.size Z bc.t bc.rs v out g := by
    intro hp
    unfold vcPostQF at hp
    split at hp
    · exact hp.elim
    · right
      split at hp
      · rename_i ss hss
        split at hp
        · rename_i hno
          rw [Bool.and_eq_true] at hno
          obtain ⟨hno1, hno2⟩ := hno
          rw [lall_eq, List.all_eq_true] at hno1 hno2
          split at hp
          · rename_i y ho
            obtain ⟨us, e1, e2, e3⟩ := resAll_run hT r hss
            refine ⟨_, results_run e3, ?_⟩
            have rA := rel_app (a := st'.ts) (h := st'.hp) r e1 e2
            obtain ⟨V2, rB, hb2, hh2, hz2⟩ := rA.freezesX (ownsS ss)
            obtain ⟨f1, f2⟩ := freezes_app (ownsS ss) st'.ts ss st'.hp
            rw [f1] at rB
            obtain ⟨g1, g2⟩ := freezes_len (ownsS ss) (St.mk st'.ts st'.hp)
            obtain ⟨g3, _⟩ := freezes_len (ownsS ss) (St.mk ss st'.hp)
            obtain ⟨rC, _, hsl⟩ := rel_unapp (a := ((St.mk st'.ts st'.hp).freezes (ownsS ss)).ts) (b := ((St.mk ss st'.hp).freezes (ownsS ss)).ts) (h := ((St.mk st'.ts st'.hp).freezes (ownsS ss)).hp) rB (by rw [g1]; exact r.len)
            have hargs := readArgs_fr bc.rs ho (by unfold frozen; rw [g3]; exact e1) hsl hno1 hno2
            have m1 := rC.mem
            have hent : (frozen st' ss).ent = (St.mk ((St.mk st'.ts st'.hp).freezes (ownsS ss)).ts ((St.mk st'.ts st'.hp).freezes (ownsS ss)).hp).ent := by
              unfold frozen St.ent
              rw [f2]
            rw [hent] at hp
            obtain ⟨q1, q2⟩ := m1.lentb B rfl
            obtain ⟨cs, p1, g, hQ, vals', el', p2, p3⟩ := boxQ_ok hp (m1.ents 0)
            rw [q2] at p2
            obtain ⟨vals2, el2, s1, s2⟩ := m1.kept.shape B vals el hBlt rfl hB
            rw [p2] at s1
            injection s1 with s1
            injection s1 with s1 _ _
            refine ⟨g, y, hQ, p3.wf, ⟨V2.Z true, us, rfl, hargs, fun b hb => ?_, vals', el', p2, by rw [s1]; exact s2, p3.mono (fun b hb => ?_) (fun _ _ => rfl)⟩, ⟨m1.kept.os, m1.kept.tape, m1.kept.output⟩, m1.kept.size, fun b hb hne => m1.kept.block b hb hne⟩
            · rcases hb with hb | ⟨hb, _⟩
              · exact m1.z1 b hb
              · cases hb
            · rcases hb with hb | ⟨_, hb⟩
              · exact .inr (.inl hb)
              · rcases (m1.z0 b hb).2 with h | h
                · exact .inl h
                · have hown := m1.own 0 (by rw [p1]; rfl) (m1.box 0 cs p1)
                  rw [q2] at hown
                  exact absurd (Or.inr ⟨rfl, by rw [← h]; exact hb⟩) hown.2.2
          · exact hp.elim
        · exact hp.elim
      · exact hp.elim
  have hk' := key
  cases e with
  | normal =>
    rcases hk' hk with ⟨i, h⟩ | ⟨v, h1, h2⟩
    · cases h
    · exact ⟨hdf, v, h1, v, rfl, h2⟩
  | exit i => exact hk.elim
  | ret =>
    rcases hk' hk with ⟨i, h⟩ | ⟨v, h1, h2⟩
    · cases h
    · exact ⟨hdf, v, h1, v, rfl, h2⟩

theorem qf_rule (hm : P.follows .mixedOrders = true) (hT : TabOk P T) (hΓ : GamOk P Γ) (hR : RulesOk P R) {f : FuncId} {fn : Func} (hf : P.funcs[f]? = some fn) {bc : QB} {A : bc.t.den → Tup bc.ts → Nat → Option Ann}
    (h : vcQF T Γ R fn bc A) : RuleOk P f (qfRule bc) := by
  intro base M w0 V st ts w ss vs K r hlen hslots hrule
  unfold qfRule at hrule
  split at hrule
  case h_2 => exact hrule.elim
  rename_i m xs
  split at hrule
  case h_2 => exact hrule.elim
  rename_i cs hme
  split at hrule
  case isFalse => exact hrule.elim
  rename_i hno
  rw [Bool.and_eq_true] at hno
  obtain ⟨hno1, hno2⟩ := hno
  rw [lall_eq, List.all_eq_true] at hno1 hno2
  split at hrule
  case h_2 => exact hrule.elim
  rename_i d hdd
  split at hrule
  case h_2 => exact hrule.elim
  rename_i x hxx
  match vs, hlen with
  | pv :: us, hlen =>
    have hlen' : xs.length = us.length := by simpa using hlen
    obtain ⟨hpv, hhas, cs0, hcs0⟩ := hslots 0 _ pv rfl rfl
    subst hpv
    have mm := r.mem
    have hmok := mm.ents m
    rw [hme] at hmok
    obtain ⟨vals, el, hB, hcells⟩ := hmok
    have hd0 := readAll_zone (fr := false) hdd hcells (fun c hc => ⟨hno1 c hc, fun h => by cases h⟩)
    have r0 : Rel base M w0 V ⟨st.ts ++ xs, st.hp⟩ (ts ++ us.toArray) w := rel_app (a := st.ts) (h := st.hp) r hlen' (fun i s v hs hv => hslots (i + 1) s v (by simpa using hs) (by simpa using hv))
    obtain ⟨V1, r1, hb1, hh1, hz1⟩ := r0.freezesX (ownsS xs)
    obtain ⟨f1, f2⟩ := freezes_app (ownsS xs) st.ts xs st.hp
    rw [f1] at r1
    obtain ⟨g1, g2⟩ := freezes_len (ownsS xs) (St.mk st.ts st.hp)
    obtain ⟨g3, _⟩ := freezes_len (ownsS xs) (St.mk xs st.hp)
    obtain ⟨r2, _, hsl⟩ := rel_unapp (a := ((St.mk st.ts st.hp).freezes (ownsS xs)).ts) (b := ((St.mk xs st.hp).freezes (ownsS xs)).ts) (h := ((St.mk st.ts st.hp).freezes (ownsS xs)).hp) r1 (by rw [g1]; exact r.len)
    have hargs : RdArgs (V1.Z false) w bc.ts us x := readArgs_zone bc.ts hxx (by rw [g3]; exact hlen') hsl hno2
    have hbx1 : ((st.freezes (ownsS xs)).ent m).isBx = true := freezes_bx (ownsS xs) st (by rw [hme]; rfl)
    obtain ⟨cs1, hcs1⟩ : ∃ cs1, (st.freezes (ownsS xs)).ent m = .bx cs1 := by
      cases hq : (st.freezes (ownsS xs)).ent m with
      | bx c => exact ⟨c, rfl⟩
      | dead => rw [hq] at hbx1; cases hbx1
      | row fr e ys => rw [hq] at hbx1; cases hbx1
    have r2' : Rel base M w0 V1 (st.freezes (ownsS xs)) ts w := r2
    have hown := r2'.mem.own m (by rw [hcs1]; rfl) (r2'.mem.box m cs1 hcs1)
    rw [hb1] at hown
    obtain ⟨hpre, hK⟩ := hrule
    refine (qf_sem hm hT hΓ hR hf h hB (fun b hb => r2'.mem.z_lt hb) hown.2.2 (hd0.mono (fun b hb => hz1 false b hb) (fun _ _ => rfl)) hargs hpre).mono (fun e w' hr => ?_)
    obtain ⟨v, rfl, g, out, hQ, hgw, ok⟩ := hr
    have hwf : tupWf bc.rs out := by
      obtain ⟨⟨Z1, vs, _, h1, _⟩, _⟩ := ok
      exact rdArgs_wf h1
    rw [← hb1] at ok
    obtain ⟨V', k1, k2, k3⟩ := box_backF r2' hcs1 (by rw [hb1]; exact hB) ok (cs' := expand false bc.t g) (fun V' hp' w1 vs' Z1 q1 q2 q3 q4 q5 q6 => by
      refine ok_expand false bc.t (q3.mono (fun b hb => hb.elim (fun h => q2 b h) (fun h => q1 b h)) (fun b hb => q5 b hb (fun e => ?_)))
      rcases hb with hb | hb
      · rw [e, hb1] at hb; exact hown.2.2 hb
      · exact q6 b hb e)
    exact ⟨v, rfl, V', _, _, hK g out hQ hgw hwf, k2, k3⟩
theorem vcQG_ok (hm : P.follows .mixedOrders = true) (hT : TabOk P T) (hΓ : GamOk P Γ) (hR : RulesOk P R) {f : FuncId} {fn : Func} (hf : P.funcs[f]? = some fn) {c : QC} {A : Tup c.ts → Nat → Option Ann}
    (h : vcQG T Γ R fn c A) : QGOk P f c := by
  intro w args d hargs hpre
  unfold vcQG at h
  split at h
  · rename_i code hb
    have hv := h d (args_wf hargs) hpre
    refine calls_of_wp hf hb (vc_ok hm hT hΓ hR code (A d) _ _ _ _ w (sat_start hargs fn.ntmps) hv (fun e A' st' a' w' hk hs' => ?_))
    obtain ⟨hd, V, r⟩ := hs'
    have key : vcPostQG T fn c.rs (c.Q d) e st' → (∃ i, e = .exit i) ∨ ∃ v, (results fn a'.tmps).run P w' = .ok v w' ∧ ∃ x : Tup c.rs, c.Q d x ∧ ResOkF w w' c.rs v x := by
      intro hp
      unfold vcPostQG at hp
      split at hp
      · exact hp.elim
      · right
        split at hp
        · rename_i ss hss
          split at hp
          · rename_i hno
            rw [Bool.and_eq_true] at hno
            obtain ⟨hno1, hno2⟩ := hno
            rw [lall_eq, List.all_eq_true] at hno1 hno2
            split at hp
            · rename_i y ho
              obtain ⟨us, e1, e2, e3⟩ := resAll_run hT r hss
              refine ⟨_, results_run e3, y, hp, ?_⟩
              have rA := rel_app (a := st'.ts) (h := st'.hp) r e1 e2
              obtain ⟨V2, rB, hb2, hh2, hz2⟩ := rA.freezesX (ownsS ss)
              obtain ⟨f1, f2⟩ := freezes_app (ownsS ss) st'.ts ss st'.hp
              rw [f1] at rB
              obtain ⟨g1, g2⟩ := freezes_len (ownsS ss) (St.mk st'.ts st'.hp)
              obtain ⟨g3, _⟩ := freezes_len (ownsS ss) (St.mk ss st'.hp)
              obtain ⟨rC, _, hsl⟩ := rel_unapp (a := ((St.mk st'.ts st'.hp).freezes (ownsS ss)).ts) (b := ((St.mk ss st'.hp).freezes (ownsS ss)).ts) (h := ((St.mk st'.ts st'.hp).freezes (ownsS ss)).hp) rB (by rw [g1]; exact r.len)
              have hargs := readArgs_fr c.rs ho (by unfold frozen; rw [g3]; exact e1) hsl hno1 hno2
              have m1 := rC.mem
              refine ⟨⟨V2.Z true, us, rfl, hargs, fun b hb => ?_⟩, m1.kept⟩
              rcases hb with hb | ⟨hb, _⟩
              · exact m1.z1 b hb
              · cases hb
            · exact hp.elim
          · exact hp.elim
        · exact hp.elim
    have hk' := key
    cases e with
    | normal =>
      rcases hk' hk with ⟨i, h⟩ | ⟨v, h1, h2⟩
      · cases h
      · exact ⟨hd, v, h1, v, rfl, h2⟩
    | exit i => exact hk.elim
    | ret =>
      rcases hk' hk with ⟨i, h⟩ | ⟨v, h1, h2⟩
      · cases h
      · exact ⟨hd, v, h1, v, rfl, h2⟩
  · exact h.elim

theorem qg_rule {f : FuncId} {c : QC} (h : QGOk P f c) : RuleOk P f (qgRule c) := by
  intro base M w0 V st ts w ss vs K r hlen hss hr
  unfold qgRule at hr
  split at hr
  · rename_i d hd
    obtain ⟨hpre, hK⟩ := hr
    have hargs := readArgs_ok (LkOk.ents r) c.ts hd hlen hss
    refine (h w vs d hargs hpre).mono ?_
    rintro e w' ⟨v, rfl, r', hu, ⟨Z1, us, rfl, k1, k4⟩, hk⟩
    have g := good_callF r.mem (nx := llen st.hp) k1 k4 hk
    obtain ⟨q1, q2⟩ := rel_good r g
    have hal : st.alloc [] = st := by show St.mk st.ts (lapp st.hp []) = st; rw [lapp_eq, List.append_nil]
    rw [hal] at q1 q2
    exact ⟨_, rfl, _, _, _, hK r' hu (rdArgs_wf k1), q1, q2⟩
  · exact hr.elim

end
end Go.SX

