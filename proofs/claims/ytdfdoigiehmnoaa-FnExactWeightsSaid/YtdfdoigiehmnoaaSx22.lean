/- A region that draws its order: whatever the order. No condition. -/
import Derived.Test.YtdfdoigiehmnoaaSx21
namespace Go.SX
open Go.RowKit
set_option linter.unusedVariables false
set_option linter.unusedSimpArgs false

section
variable {P : Program} {T : Tab} {Γ : FuncId → Option PC} {R : FuncId → Option Rule} {all : Array Oper} {k : Nat} {st0 : St} {E : List HEnt} {whoF : List Nat} {stF : St}

def AtFact (T : Tab) (Γ : FuncId → Option PC) (all : Array Oper) (k : Nat) (st0 : St) (E : List HEnt) (i : Nat) : Prop :=
  ∃ e o st, E[i]? = some e ∧ all[i]? = some o ∧ Snap all st0 E i e.who st ∧ Refined all st o e.st e.r.isSome ∧ Snap all st0 E i e.who e.st ∧
    (∀ q, e.r = some q → qop T Γ (lkL all i (llen st0.hp) e.who e.st) (llen e.st.hp) (evL all k i e.st) o.op = some q)

theorem chain_facts (hch : chkHead all k = true) : ∀ (l : List Oper) (i : Nat) (who : List Nat) (st : St) (Er : List HEnt), (all.toList.take k).drop i = l → E.drop i = Er → i + l.length = k →
    Chain T Γ all k (llen st0.hp) i l who st Er whoF stF → Snap all st0 E i who st → (∀ j, i ≤ j → j < k → AtFact T Γ all k st0 E j) ∧ Snap all st0 E k whoF stF
  | [], i, who, st, Er, _, _, hi, hc, s => by
    obtain ⟨_, rfl, rfl⟩ := hc
    have : i = k := by simpa using hi
    subst this
    exact ⟨fun j h1 h2 => by omega, s⟩
  | o :: l, i, who, st, Er, hl, hE, hi, hc, s => by
    obtain ⟨e, E', rfl, rfl, hr, hc⟩ := hc
    have hik : i < k := by simp only [List.length_cons] at hi; omega
    have ho : all[i]? = some o := by
      have : ((all.toList.take k).drop i)[0]? = some o := by rw [hl]; rfl
      rw [List.getElem?_drop, List.getElem?_take] at this
      simpa [hik] using this
    have hl' : (all.toList.take k).drop (i + 1) = l := by rw [← List.drop_drop, hl]; rfl
    have he : E[i]? = some e := by
      have : (E.drop i)[0]? = some e := by rw [hE]; rfl
      rw [List.getElem?_drop] at this
      simpa using this
    have hE' : E.drop (i + 1) = E' := by rw [← List.drop_drop, hE]; rfl
    have s1 := s.refine hch hik ho hr
    have hi' : i + 1 + l.length = k := by simp only [List.length_cons] at hi; omega
    cases hre : e.r with
    | none =>
      rw [hre] at hc
      obtain ⟨k1, k2⟩ := chain_facts hch l (i + 1) _ _ E' hl' hE' hi' hc (s1.skip hch hik ho he hre)
      refine ⟨fun j h1 h2 => ?_, k2⟩
      by_cases hj : j = i
      · subst hj
        exact ⟨e, o, st, he, ho, s, hr, s1, fun q hq => by rw [hre] at hq; cases hq⟩
      · exact k1 j (by omega) h2
    | some q =>
      rw [hre] at hc
      obtain ⟨hq, hc⟩ := hc
      obtain ⟨k1, k2⟩ := chain_facts hch l (i + 1) _ _ E' hl' hE' hi' hc (s1.step hch hik ho he hre)
      refine ⟨fun j h1 h2 => ?_, k2⟩
      by_cases hj : j = i
      · subst hj
        exact ⟨e, o, st, he, ho, s, hr, s1, fun q' hq' => by rw [hre] at hq'; injection hq' with hq'; subst hq'; exact hq⟩
      · exact k1 j (by omega) h2

theorem snap_start (all : Array Oper) (st0 : St) (E : List HEnt) : Snap all st0 E 0 [] st0 :=
  ⟨rfl, fun _ _ => rfl, fun _ _ _ h => absurd h (Nat.not_lt_zero _), rfl, fun _ _ => rfl, (fun m j h => by cases h), fun _ _ _ h => absurd h (Nat.not_lt_zero _)⟩

/-- The names that are so far. -/
def hpS (st0 : St) (whoF : List Nat) (stF : St) (L : Nat → Bool) (n : Nat) : Ent :=
  if n < llen st0.hp then st0.ent n else match whoF[n - llen st0.hp]? with | some j => if L j then stF.ent n else .dead | none => .dead

theorem hpS_old {L : Nat → Bool} {n : Nat} (h : n < llen st0.hp) : hpS st0 whoF stF L n = st0.ent n := by unfold hpS; rw [if_pos h]

theorem hpS_who {L : Nat → Bool} {n j : Nat} (h : llen st0.hp ≤ n) (hw : whoF[n - llen st0.hp]? = some j) : hpS st0 whoF stF L n = if L j then stF.ent n else .dead := by
  unfold hpS; rw [if_neg (by omega), hw]

structure Inv (base : Nat) (M : LM) (w0 : World) (all : Array Oper) (k : Nat) (st0 : St) (E : List HEnt) (whoF : List Nat) (stF : St) (L : Nat → Bool) (a : Act) (w : World) : Prop where
  defers : a.defers = []
  size : st0.ts.length = a.tmps.size
  ex : ∃ V, Mem base M w0 V (hpS st0 whoF stF L) w ∧
    (∀ (t : Nat) s v, (∀ j o, j < k → all[j]? = some o → o.dst ≠ some t) → st0.ts[t]? = some s → a.tmps[t]? = some v → S.ok V (hpS st0 whoF stF L) w s v) ∧
    (∀ j o d v, j < k → L j = true → all[j]? = some o → o.dst = some d → a.tmps[d]? = some v → S.ok V (hpS st0 whoF stF L) w (resE E j) v)
  hy : ∀ j e q, j < k → L j = true → E[j]? = some e → e.r = some q → ∀ p, q.hy = some p → p

variable {base : Nat} {M : LM} {w0 : World} {a : Act} {w : World} {L : Nat → Bool} {next : Act → World → Prop} {Q : Exit → Act → World → Prop}

theorem tmps_put_ne {a : Act} {d t : Nat} {v : Value} (h : d ≠ t) : (a.put (some d) v).tmps[t]? = a.tmps[t]? := by
  show (a.tmps.setIfInBounds d v)[t]? = _
  exact Array.getElem?_setIfInBounds_ne h

theorem tmps_put_eq {a : Act} {d : Nat} {v u : Value} (h : (a.put (some d) v).tmps[d]? = some u) : u = v := by
  have h' : (a.tmps.setIfInBounds d v)[d]? = some u := h
  rw [Array.getElem?_setIfInBounds] at h'
  simp only [if_true] at h'
  split at h'
  · injection h' with h'; exact h'.symm
  · cases h'

def addL (L : Nat → Bool) (i j : Nat) : Bool := if j = i then true else L j

/-- Is it wanted? As the text's order has it. -/
theorem wanted_at {V : Vl} {hp : Nat → Ent} {i : Nat} {who : List Nat} {st : St} {o : Oper} {st1 : St} {g : Bool} (hch : chkHead all k = true) (hi : i < k) (ho : all[i]? = some o) (hr : Refined all st o st1 g) (s : Snap all st0 E i who st)
    (hsz : st0.ts.length = a.tmps.size) (hL : ∀ j, (maskOf all i).testBit j = true → L j = true)
    (hres : ∀ j o d v, j < k → L j = true → all[j]? = some o → o.dst = some d → a.tmps[d]? = some v → S.ok V hp w (resE E j) v) :
    Region.wanted o (yielded all a.tmps) = g := by
  obtain ⟨o', ho', hg, _⟩ := chkHead_spec hch hi
  rw [ho] at ho'; injection ho' with ho'; subst ho'
  unfold Refined decide? at hr
  unfold Region.wanted
  cases hgu : o.guard with
  | none =>
    rw [hgu] at hr
    simp only at hr
    exact hr.2.symm
  | some gw =>
    obtain ⟨j, want⟩ := gw
    obtain ⟨hj1, hj2⟩ := hg j want hgu
    rw [hgu] at hr
    simp only [nth?_eq, obind_eq] at hr
    cases hjo : all[j]? with
    | none =>
      have : all.toList[j]? = none := by simpa using hjo
      rw [this] at hr
      exact hr.elim
    | some oj =>
      have hjo' : all.toList[j]? = some oj := by simpa using hjo
      rw [hjo', Option.bind_some] at hr
      cases hd : oj.dst with
      | none => rw [hd] at hr; exact hr.elim
      | some d =>
        rw [hd] at hr
        simp only at hr
        have slot : ∀ sl, nth .any st.ts d = sl → sl ≠ .any → ∃ v, a.tmps[d]? = some v ∧ S.ok V hp w sl v := by
          intro sl h1 h2
          rw [← h1] at h2 ⊢
          have hlt : d < st.ts.length := by
            rcases Nat.lt_or_ge d st.ts.length with h | h
            · exact h
            · exact absurd (by rw [nth_eq, List.getElem?_eq_none h]; rfl) h2
          have hlt' : d < a.tmps.size := by rw [← hsz, ← s.len]; exact hlt
          have hv : a.tmps[d]? = some (a.tmps[d]'hlt') := Array.getElem?_eq_getElem hlt'
          exact ⟨_, hv, s.new j oj d hj1 hjo hd V hp w _ (hres j oj d _ (by omega) (hL j hj2) hjo hd hv)⟩
        have hy : ∀ v, a.tmps[d]? = some v → yielded all a.tmps j = match v with | .bool b => some b | _ => none := by
          intro v hv
          unfold yielded
          rw [hjo, Option.bind_some, hd, Option.bind_some, hv]
          cases v <;> rfl
        simp only
        split at hr
        · rename_i e
          split at e
          · rename_i he
            obtain ⟨v, h1, h2⟩ := slot _ he (by simp)
            replace h2 : v = .bool true := h2
            rw [hr.2, hy v h1, h2]
            cases want <;> simp_all
          · rename_i he
            obtain ⟨v, h1, h2⟩ := slot _ he (by simp)
            replace h2 : v = .bool false := h2
            rw [hr.2, hy v h1, h2]
            cases want <;> simp_all
          all_goals cases e
        · rename_i e
          split at e
          · rename_i he
            obtain ⟨v, h1, h2⟩ := slot _ he (by simp)
            replace h2 : v = .bool true := h2
            rw [hr.2, hy v h1, h2]
            cases want <;> simp_all
          · rename_i he
            obtain ⟨v, h1, h2⟩ := slot _ he (by simp)
            replace h2 : v = .bool false := h2
            rw [hr.2, hy v h1, h2]
            cases want <;> simp_all
          · cases e
          · rename_i he
            obtain ⟨v, h1, h2⟩ := slot _ he (by simp)
            replace h2 : v = undef := h2
            rw [hr.2, hy v h1, h2]
            simp [undef]
          · cases e
        · rename_i d' b' want' e
          split at e
          · split at e <;> cases e
          · split at e <;> cases e
          · rename_i b he
            obtain ⟨v, h1, h2⟩ := slot _ he (by simp)
            replace h2 : v = .bool b := h2.1
            injection e with e1 e2 e3
            subst e1; subst e2; subst e3
            rw [hr.2, hy v h1, h2]
            cases b <;> cases want <;> rfl
          · cases e
          · cases e
        · exact hr.elim

theorem writerOf_some : ∀ {k t j : Nat}, writerOf all t k = some j → j < k ∧ ∃ o, all[j]? = some o ∧ o.dst = some t
  | 0, t, j, h => by cases h
  | k + 1, t, j, h => by
    unfold writerOf at h
    split at h
    · rename_i o ho
      split at h
      · rename_i hd
        injection h with h; subst h
        exact ⟨by omega, o, ho, hd⟩
      · obtain ⟨h1, h2⟩ := writerOf_some h
        exact ⟨by omega, h2⟩
    · obtain ⟨h1, h2⟩ := writerOf_some h
      exact ⟨by omega, h2⟩

theorem writerOf_none : ∀ {k t : Nat}, writerOf all t k = none → ∀ j o, j < k → all[j]? = some o → o.dst ≠ some t
  | 0, t, _, j, o, hj, _ => absurd hj (Nat.not_lt_zero _)
  | k + 1, t, h, j, o, hj, ho => by
    unfold writerOf at h
    split at h
    · rename_i o' ho'
      split at h
      · cases h
      · rename_i hd
        by_cases hjk : j = k
        · subst hjk
          rw [ho] at ho'; injection ho' with ho'; subst ho'
          exact hd
        · exact writerOf_none h j o (by omega) ho
    · rename_i hn
      by_cases hjk : j = k
      · subst hjk
        exact absurd ho (by rw [hn]; simp)
      · exact writerOf_none h j o (by omega) ho

theorem S.ok_any (V : Vl) (hp : Nat → Ent) (w : World) (v : Value) : S.ok V hp w .any v := trivial

/-- What an operation leans on is so. -/
theorem evL_ok {V : Vl} {hp : Nat → Ent} {i : Nat} {who : List Nat} {st : St} (hi : i ≤ k) (s : Snap all st0 E i who st) (hlt : ∀ j, (maskOf all i).testBit j = true → j < i)
    (hsz : st0.ts.length = a.tmps.size) (hL : ∀ j, (maskOf all i).testBit j = true → L j = true)
    (hold : ∀ (t : Nat) s v, (∀ j o, j < k → all[j]? = some o → o.dst ≠ some t) → st0.ts[t]? = some s → a.tmps[t]? = some v → S.ok V hp w s v)
    (hres : ∀ j o d v, j < k → L j = true → all[j]? = some o → o.dst = some d → a.tmps[d]? = some v → S.ok V hp w (resE E j) v) (x : Operand) :
    S.ok V hp w (evL all k i st x) (a.eval x) := by
  have htmp : ∀ t, (∀ s v, st.ts[t]? = some s → a.tmps[t]? = some v → S.ok V hp w s v) → S.ok V hp w (st.eval (.tmp t)) (a.eval (.tmp t)) := by
    intro t h
    show S.ok V hp w (nth .any st.ts t) (a.tmps.getD t undef)
    rw [nth_eq]
    cases hs : st.ts[t]? with
    | none => trivial
    | some sl =>
      have ht : t < a.tmps.size := by have := (List.getElem?_eq_some_iff.1 hs).1; rw [s.len, hsz] at this; exact this
      have hv : a.tmps[t]? = some a.tmps[t] := Array.getElem?_eq_getElem ht
      have := h sl _ hs hv
      simpa [Array.getD, ht] using this
  cases x with
  | tmp t =>
    unfold evL
    simp only
    split
    · rename_i j hj
      obtain ⟨h1, o, h2, h3⟩ := writerOf_some hj
      split
      · rename_i hm
        refine htmp t fun sl v hs hv => ?_
        have := s.new j o t (hlt j hm) h2 h3 V hp w v (hres j o t v h1 (hL j hm) h2 h3 hv)
        rw [nth_eq, hs] at this
        exact this
      · trivial
    · rename_i hn
      refine htmp t fun sl v hs hv => ?_
      rw [s.old t fun j o hj => writerOf_none hn j o (by omega)] at hs
      exact hold t sl v (writerOf_none hn) hs hv
  | const v => exact ok_const v
  | global g => trivial
  | func f => exact ⟨rfl, fun n hn => by simp at hn⟩

theorem lkL_ok {V : Vl} {i : Nat} {who : List Nat} {st : St} (hi : i < k) (s : Snap all st0 E i who st) (f : Snap all st0 E k whoF stF) (hL : ∀ j, (maskOf all i).testBit j = true → L j = true)
    (m : Mem base M w0 V (hpS st0 whoF stF L) w) : LkOk V (hpS st0 whoF stF L) (lkL all i (llen st0.hp) who st) w := by
  intro n hl
  have he : lkL all i (llen st0.hp) who st n = hpS st0 whoF stF L n := by
    unfold lkL at hl ⊢
    split
    · rename_i hn
      rw [hpS_old hn]
      exact s.ents n hn
    · rename_i hn
      rw [if_neg hn] at hl
      rw [nth?_eq] at hl ⊢
      cases hw : who[n - llen st0.hp]? with
      | none => rw [hw] at hl; cases hl
      | some j =>
        rw [hw] at hl
        simp only at hl ⊢
        split at hl
        · rename_i hm
          rw [if_pos hm]
          obtain ⟨h1, e, q, x, h2, h3, h4, h5⟩ := s.whos _ j hw
          have hx : q.new[x]? = some q.new[x] := List.getElem?_eq_getElem h5
          obtain ⟨h6, h7⟩ := s.news j e q h1 h2 h3
          obtain ⟨h8, h9⟩ := f.news j e q (by omega) h2 h3
          have hn' : n = llen e.st.hp + x := by omega
          rw [hpS_who (j := j) (by omega) (by rw [hn']; exact (h9 x _ hx).1), if_pos (hL j hm), hn', (h7 x _ hx).2, (h9 x _ hx).2]
        · cases hl
  rw [he]
  exact ⟨rfl, m.ents n⟩

/-- One more operation of the head. -/
theorem inv_skip {i : Nat} {e : HEnt} {o : Oper} (hch : chkHead all k = true) (hi : i < k) (he : E[i]? = some e) (ho : all[i]? = some o) (hr : e.r = none) (f : Snap all st0 E k whoF stF)
    (v : Inv base M w0 all k st0 E whoF stF L a w) : Inv base M w0 all k st0 E whoF stF (addL L i) (a.put o.dst undef) w := by
  obtain ⟨o', ho', _, d, hd, hdist⟩ := chkHead_spec hch hi
  rw [ho] at ho'; injection ho' with ho'; subst ho'
  have hhp : hpS st0 whoF stF (addL L i) = hpS st0 whoF stF L := by
    funext n
    unfold hpS
    split
    · rfl
    · split
      · rename_i j hj
        obtain ⟨_, e', q, x, h2, h3, _⟩ := f.whos _ j hj
        have : j ≠ i := fun h => by subst h; rw [he] at h2; injection h2 with h2; subst h2; rw [hr] at h3; cases h3
        unfold addL
        rw [if_neg this]
      · rfl
  obtain ⟨V, h1, h2, h3⟩ := v.ex
  rw [hd]
  refine ⟨by rw [put_defers]; exact v.defers, by rw [v.size]; show _ = (a.tmps.setIfInBounds d undef).size; simp, ⟨V, by rw [hhp]; exact h1, fun t s v' hnd hs hv => ?_, fun j o' d' v' hj hL ho' hd' hv => ?_⟩, fun j e' q hj hL he' hq => ?_⟩
  · rw [hhp]
    rw [tmps_put_ne (fun e => by subst e; exact hnd i o hi ho hd)] at hv
    exact h2 t s v' hnd hs hv
  · rw [hhp]
    by_cases hji : j = i
    · subst hji
      rw [ho] at ho'; injection ho' with ho'; subst ho'
      rw [hd] at hd'; injection hd' with hd'; subst hd'
      rw [tmps_put_eq hv]
      unfold resE
      rw [he]
      simp only [hr]
      rfl
    · rw [tmps_put_ne (fun e => by subst e; exact hdist j o' hj hji ho' hd')] at hv
      exact h3 j o' d' v' hj (by unfold addL at hL; rw [if_neg hji] at hL; exact hL) ho' hd' hv
  · by_cases hji : j = i
    · subst hji
      rw [he] at he'; injection he' with he'; subst he'
      rw [hr] at hq; cases hq
    · exact v.hy j e' q hj (by unfold addL at hL; rw [if_neg hji] at hL; exact hL) he' hq

theorem inv_go (hT : TabOk P T) (hΓ : GamOk P Γ) {i : Nat} {e : HEnt} {o : Oper} (hch : chkHead all k = true) (hi : i < k) (he : E[i]? = some e) (ho : all[i]? = some o) {q : QR} (hr : e.r = some q) (hob : ∀ p, q.ob = some p → p)
    (s : Snap all st0 E i e.who e.st) (f : Snap all st0 E k whoF stF) (hq : qop T Γ (lkL all i (llen st0.hp) e.who e.st) (llen e.st.hp) (evL all k i e.st) o.op = some q)
    (hlt : ∀ j, (maskOf all i).testBit j = true → j < i) (hL : ∀ j, (maskOf all i).testBit j = true → L j = true) (hni : L i = false)
    (v : Inv base M w0 all k st0 E whoF stF L a w) (h : ∀ u w', Inv base M w0 all k st0 E whoF stF (addL L i) (a.put o.dst u) w' → next (a.put o.dst u) w') : o.wp P a w next Q := by
  obtain ⟨o', ho', _, d, hd, hdist⟩ := chkHead_spec hch hi
  rw [ho] at ho'; injection ho' with ho'; subst ho'
  obtain ⟨V, h1, h2, h3⟩ := v.ex
  obtain ⟨n1, n2⟩ := f.news i e q hi he hr
  have hdead : ∀ j, j < q.new.length → hpS st0 whoF stF L (llen e.st.hp + j) = .dead := by
    intro j hj
    have hx : q.new[j]? = some q.new[j] := List.getElem?_eq_getElem hj
    rw [hpS_who (j := i) (by omega) (n2 j _ hx).1, hni]
    rfl
  have hhp : hpNew (hpS st0 whoF stF L) (llen e.st.hp) q.new = hpS st0 whoF stF (addL L i) := by
    funext n
    rcases hpNew_cases (hpS st0 whoF stF L) (llen e.st.hp) q.new n with ⟨j, y, k1, k2, k3⟩ | ⟨k1, k2⟩
    · rw [k3, hpS_who (j := i) (by omega) (by rw [k1]; exact (n2 j y k2).1)]
      unfold addL
      rw [if_pos rfl, k1]
      simp only [if_true]
      exact ((n2 j y k2).2).symm
    · rw [k2]
      unfold hpS
      split
      · rfl
      · rename_i hn
        split
        · rename_i j hj
          have : j ≠ i := fun hji => by
            subst hji
            obtain ⟨_, e', q', x, g2, g3, g4, g5⟩ := f.whos _ j hj
            rw [he] at g2; injection g2 with g2; subst g2
            rw [hr] at g3; injection g3 with g3; subst g3
            omega
          unfold addL
          rw [if_neg this]
        · rfl
  refine qop_ok hT hΓ h1 (lkL_ok hi s f hL h1) (evL_ok (Nat.le_of_lt hi) s hlt v.size hL h2 h3) hq hdead hob (fun u w' V' g => ?_)
  refine h u w' ?_
  rw [hd]
  have gx := g.vx
  have gm := g.mem
  have gr := g.res
  rw [hhp] at gx gm gr
  refine ⟨by rw [put_defers]; exact v.defers, by rw [v.size]; show _ = (a.tmps.setIfInBounds d u).size; simp, ⟨V', gm, fun t s' v' hnd hs hv => ?_, fun j o' d' v' hj hLj ho' hd' hv => ?_⟩, fun j e' q' hj hLj he' hq' => ?_⟩
  · rw [tmps_put_ne (fun e => by subst e; exact hnd i o hi ho hd)] at hv
    exact S.ok_ext gx (h2 t s' v' hnd hs hv)
  · by_cases hji : j = i
    · subst hji
      rw [ho] at ho'; injection ho' with ho'; subst ho'
      rw [hd] at hd'; injection hd' with hd'; subst hd'
      rw [tmps_put_eq hv]
      unfold resE
      rw [he]
      simp only [hr]
      exact gr
    · rw [tmps_put_ne (fun e => by subst e; exact hdist j o' hj hji ho' hd')] at hv
      exact S.ok_ext gx (h3 j o' d' v' hj (by unfold addL at hLj; rw [if_neg hji] at hLj; exact hLj) ho' hd' hv)
  · by_cases hji : j = i
    · subst hji
      rw [he] at he'; injection he' with he'; subst he'
      rw [hr] at hq'; injection hq' with hq'; subst hq'
      exact g.hy
    · exact v.hy j e' q' hj (by unfold addL at hLj; rw [if_neg hji] at hLj; exact hLj) he' hq'

/-- All of the head is done. -/
theorem inv_end (hall : ∀ j, j < k → L j = true) (hE : E.length = k) (f : Snap all st0 E k whoF stF) (v : Inv base M w0 all k st0 E whoF stF L a w) : Sat base M w0 stF a w ∧ HyE E := by
  obtain ⟨V, h1, h2, h3⟩ := v.ex
  have hhp : hpS st0 whoF stF L = stF.ent := by
    funext n
    unfold hpS
    split
    · rename_i hn; exact (f.ents n hn).symm
    · rename_i hn
      split
      · rename_i j hj
        rw [if_pos (hall j (f.whos _ j hj).1)]
      · rename_i hj
        have hge := List.getElem?_eq_none_iff.1 hj
        have hn' := f.names
        show Ent.dead = nth .dead stF.hp n
        rw [nth_eq, List.getElem?_eq_none (by rw [← llen_eq]; omega)]
        rfl
  rw [hhp] at h1 h2 h3
  refine ⟨⟨v.defers, V, ⟨by rw [f.len]; exact v.size, fun t s u hs hu => ?_, h1⟩⟩, fun e he q hq => ?_⟩
  · by_cases hd : ∃ j o, j < k ∧ all[j]? = some o ∧ o.dst = some t
    · obtain ⟨j, o, hj, ho, hd⟩ := hd
      have := f.new j o t hj ho hd V stF.ent w u (h3 j o t u hj (hall j hj) ho hd hu)
      rw [nth_eq, hs] at this
      exact this
    · have hnd : ∀ j o, j < k → all[j]? = some o → o.dst ≠ some t := fun j o hj ho h => hd ⟨j, o, hj, ho, h⟩
      rw [f.old t hnd] at hs
      exact h2 t s u hnd hs hu
  · obtain ⟨j, hj, rfl⟩ := List.mem_iff_getElem.1 he
    exact v.hy j _ q (by omega) (hall j (by omega)) (List.getElem?_eq_getElem hj) hq
end
end Go.SX
