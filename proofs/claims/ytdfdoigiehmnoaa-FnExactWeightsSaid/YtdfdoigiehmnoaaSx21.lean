/- A region that draws its order: what the text's order tells of each operation. No condition. -/
import Derived.Test.YtdfdoigiehmnoaaSx20
import Derived.Orders
namespace Go.SX
open Go.RowKit
set_option linter.unusedVariables false
set_option linter.unusedSimpArgs false

section
variable {P : Program} {T : Tab} {Γ : FuncId → Option PC} {R : FuncId → Option Rule}

theorem mask_inner (acc : Array Nat) (j : Nat) (l : List Edge) : ∀ s : Nat, (l.foldl (fun s e => if Region.binds .any e then s ||| 2 ^ e.on ||| acc.getD e.on 0 else s) s).testBit j = true →
    s.testBit j = true ∨ ∃ e ∈ l, Region.binds .any e = true ∧ (j = e.on ∨ (acc.getD e.on 0).testBit j = true) := by
  induction l with
  | nil => intro s h; exact .inl h
  | cons e l ih =>
    intro s h
    rw [List.foldl_cons] at h
    rcases ih _ h with h | ⟨e', h1, h2, h3⟩
    · split at h
      · rename_i hb
        rw [Nat.testBit_or, Nat.testBit_or, Bool.or_eq_true, Bool.or_eq_true] at h
        rcases h with (h | h) | h
        · exact .inl h
        · right
          refine ⟨e, List.mem_cons_self .., hb, .inl ?_⟩
          rw [Nat.testBit_two_pow] at h
          simpa using (of_decide_eq_true h).symm
        · exact .inr ⟨e, List.mem_cons_self .., hb, .inr h⟩
      · exact .inl h
    · exact .inr ⟨e', List.mem_cons_of_mem _ h1, h2, h3⟩

def MaskP (ops : Array Oper) (acc : Array Nat) : Prop := ∀ m j, (acc.getD m 0).testBit j = true → ∃ o, ops[m]? = some o ∧ ∃ e ∈ o.after, Region.binds .any e = true ∧ (j = e.on ∨ (e.on < m ∧ (acc.getD e.on 0).testBit j = true))

theorem mask_spec (ops : Array Oper) : MaskP ops (Region.before ops) := by
  unfold Region.before
  have := Array.foldl_induction (as := ops) (motive := fun i acc => acc.size = i ∧ MaskP ops acc) (init := #[]) (f := fun acc o =>
    acc.push (o.after.foldl (fun s e => if Region.binds .any e then s ||| 2 ^ e.on ||| acc.getD e.on 0 else s) 0)) ⟨rfl, fun m j h => by simp at h⟩ (fun i acc ⟨h1, h2⟩ => by
    refine ⟨by simp [h1], fun m j h => ?_⟩
    rcases Nat.lt_trichotomy m acc.size with hm | hm | hm
    · rw [show (acc.push (ops[i].after.foldl (fun s e => if Region.binds .any e then s ||| 2 ^ e.on ||| acc.getD e.on 0 else s) 0)).getD m 0 = acc.getD m 0 by
        simp [Array.getD, hm, Nat.lt_succ_of_lt hm, Array.getElem_push_lt]] at h
      obtain ⟨o, k1, e, k2, k3, k4⟩ := h2 m j h
      refine ⟨o, k1, e, k2, k3, k4.imp id fun ⟨k5, k6⟩ => ⟨k5, ?_⟩⟩
      have : e.on < acc.size := by omega
      simpa [Array.getD, this, Nat.lt_succ_of_lt this, Array.getElem_push_lt] using k6
    · subst hm
      rw [show (acc.push (ops[i].after.foldl (fun s e => if Region.binds .any e then s ||| 2 ^ e.on ||| acc.getD e.on 0 else s) 0)).getD acc.size 0 = ops[i].after.foldl (fun s e => if Region.binds .any e then s ||| 2 ^ e.on ||| acc.getD e.on 0 else s) 0 by
        simp [Array.getD]] at h
      rw [← Array.foldl_toList] at h
      rcases mask_inner acc j _ 0 h with h | ⟨e, k1, k2, k3⟩
      · simp at h
      · refine ⟨ops[i], by rw [h1]; exact Array.getElem?_eq_getElem _, e, by simpa using k1, k2, k3.imp id fun k4 => ?_⟩
        have hlt : e.on < acc.size := by
          rcases Nat.lt_or_ge e.on acc.size with h | h
          · exact h
          · simp [Array.getD, Nat.not_lt.2 h] at k4
        exact ⟨hlt, by simpa [Array.getD, hlt, Nat.lt_succ_of_lt hlt, Array.getElem_push_lt] using k4⟩
    · simp [Array.getD, show ¬ m < acc.size + 1 by omega] at h)
  exact this.2

/-- What is listed has all it waits for listed. -/
def Closed (all : Array Oper) (listed : Array Bool) : Prop := ∀ j oj, all[j]? = some oj → listed.getD j false = true → ∀ e ∈ oj.after, Region.binds .any e = true → listed.getD e.on false = true

theorem mask_listed {all : Array Oper} {listed : Array Bool} (hc : Closed all listed) : ∀ i, (listed.getD i false = true ∨ i ∈ Region.ready .any all listed) → ∀ j, (maskOf all i).testBit j = true → listed.getD j false = true := by
  intro i
  induction i using Nat.strongRecOn with
  | _ i ih =>
    intro hi j hj
    obtain ⟨o, h1, e, h2, h3, h4⟩ := mask_spec all i j hj
    have he : listed.getD e.on false = true := by
      rcases hi with hi | hi
      · exact hc i o h1 hi e h2 h3
      · obtain ⟨_, o', h5, h6⟩ := mem_ready.1 hi
        rw [h1] at h5; injection h5 with h5; subst h5
        exact h6 e h2 h3
    rcases h4 with rfl | ⟨h4, h5⟩
    · exact he
    · exact ih e.on h4 (.inl he) j h5

/-- One operation of the head, as the text's order meets it. -/
structure HEnt where
  who : List Nat
  st : St
  r : Option QR

def Refined (all : Array Oper) (st : St) (o : Oper) (st1 : St) (g : Bool) : Prop :=
  match decide? all o st with
  | .go => st1 = st ∧ g = true
  | .skip => st1 = st ∧ g = false
  | .ask d b want => st1 = st.put (some d) (.c (if b then .tru else .fls)) ∧ g = (b == want)
  | .bad => False

def Chain (T : Tab) (Γ : FuncId → Option PC) (all : Array Oper) (k nx0 : Nat) : Nat → List Oper → List Nat → St → List HEnt → List Nat → St → Prop
  | _, [], who, st, E, who', st' => E = [] ∧ who' = who ∧ st' = st
  | i, o :: l, who, st, E, who', st' => ∃ e E', E = e :: E' ∧ e.who = who ∧ Refined all st o e.st e.r.isSome ∧
      match e.r with
      | none => Chain T Γ all k nx0 (i + 1) l who (e.st.put o.dst .und) E' who' st'
      | some q => qop T Γ (lkL all i nx0 who e.st) (llen e.st.hp) (evL all k i e.st) o.op = some q ∧ Chain T Γ all k nx0 (i + 1) l (lapp who (lmap (fun _ => i) q.new)) ((e.st.alloc q.new).put o.dst q.res) E' who' st'

def OwedE (E : List HEnt) : Prop := ∀ e ∈ E, ∀ q, e.r = some q → ∀ p, q.ob = some p → p
def HyE (E : List HEnt) : Prop := ∀ e ∈ E, ∀ q, e.r = some q → ∀ p, q.hy = some p → p

theorem vcHead_chain {all : Array Oper} {k nx0 : Nat} : ∀ (l : List Oper) (i : Nat) (who : List Nat) (st : St) (K : St → Prop), vcHead T Γ all k nx0 i l who st K →
    ∃ E who' st', Chain T Γ all k nx0 i l who st E who' st' ∧ OwedE E ∧ (HyE E → K st')
  | [], i, who, st, K, h => ⟨[], who, st, ⟨rfl, rfl, rfl⟩, (fun e he => by cases he), fun _ => h⟩
  | o :: l, i, who, st, K, h => by
    have go : ∀ st1, Refined all st o st1 true → (match qop T Γ (lkL all i nx0 who st1) (llen st1.hp) (evL all k i st1) o.op with
      | some r => andO r.ob (vcHead T Γ all k nx0 (i + 1) l (lapp who (lmap (fun _ => i) r.new)) ((st1.alloc r.new).put o.dst r.res) fun st' => impO r.hy (K st'))
      | none => False) → ∃ E who' st', Chain T Γ all k nx0 i (o :: l) who st E who' st' ∧ OwedE E ∧ (HyE E → K st') := by
      intro st1 hr h
      split at h
      · rename_i q hq
        obtain ⟨h1, h2⟩ := andO_elim h
        obtain ⟨E, who', st', k1, k2, k3⟩ := vcHead_chain l (i + 1) _ _ _ h2
        refine ⟨⟨who, st1, some q⟩ :: E, who', st', ⟨_, E, rfl, rfl, hr, hq, k1⟩, ?_, fun hy => ?_⟩
        · intro e he q' hq' p hp
          rcases List.mem_cons.1 he with rfl | he
          · injection hq' with hq'; subst hq'; exact h1 p hp
          · exact k2 e he q' hq' p hp
        · exact impO_elim (k3 fun e he => hy e (List.mem_cons_of_mem _ he)) (fun p hp => hy _ (List.mem_cons_self ..) q rfl p hp)
      · exact h.elim
    have skip : ∀ st1, Refined all st o st1 false → vcHead T Γ all k nx0 (i + 1) l who (st1.put o.dst .und) K → ∃ E who' st', Chain T Γ all k nx0 i (o :: l) who st E who' st' ∧ OwedE E ∧ (HyE E → K st') := by
      intro st1 hr h
      obtain ⟨E, who', st', k1, k2, k3⟩ := vcHead_chain l (i + 1) _ _ _ h
      refine ⟨⟨who, st1, none⟩ :: E, who', st', ⟨_, E, rfl, rfl, hr, k1⟩, ?_, fun hy => k3 fun e he => hy e (List.mem_cons_of_mem _ he)⟩
      intro e he q' hq' p hp
      rcases List.mem_cons.1 he with rfl | he
      · cases hq'
      · exact k2 e he q' hq' p hp
    unfold vcHead at h
    simp only at h
    split at h
    · rename_i e
      exact go st (by unfold Refined; rw [e]; exact ⟨rfl, rfl⟩) h
    · rename_i e
      exact skip st (by unfold Refined; rw [e]; exact ⟨rfl, rfl⟩) h
    · rename_i d b want e
      have hr : Refined all st o (st.put (some d) (.c (if b then .tru else .fls))) (b == want) := by unfold Refined; rw [e]; exact ⟨rfl, rfl⟩
      cases b with
      | true =>
        have h1 := h.1 rfl
        cases want with
        | true => exact go _ hr h1
        | false => exact skip _ hr h1
      | false =>
        have h1 := h.2 rfl
        cases want with
        | true => exact skip _ hr h1
        | false => exact go _ hr h1
    · exact h.elim

/-! ### What is known before each operation -/

def resE (E : List HEnt) (j : Nat) : S := match E[j]? with | some e => (match e.r with | some q => q.res | none => .und) | none => .any

structure Snap (all : Array Oper) (st0 : St) (E : List HEnt) (i : Nat) (who : List Nat) (st : St) : Prop where
  len : st.ts.length = st0.ts.length
  old : ∀ t, (∀ j o, j < i → all[j]? = some o → o.dst ≠ some t) → st.ts[t]? = st0.ts[t]?
  new : ∀ j o d, j < i → all[j]? = some o → o.dst = some d → ∀ V hp w v, S.ok V hp w (resE E j) v → S.ok V hp w (nth .any st.ts d) v
  names : llen st.hp = llen st0.hp + who.length
  ents : ∀ n, n < llen st0.hp → st.ent n = st0.ent n
  whos : ∀ (m : Nat) j, who[m]? = some j → j < i ∧ ∃ e q x, E[j]? = some e ∧ e.r = some q ∧ llen st0.hp + m = llen e.st.hp + x ∧ x < q.new.length
  news : ∀ j e q, j < i → E[j]? = some e → e.r = some q → llen st0.hp ≤ llen e.st.hp ∧ ∀ (x : Nat) y, q.new[x]? = some y → who[llen e.st.hp + x - llen st0.hp]? = some j ∧ st.ent (llen e.st.hp + x) = y

theorem chkHead_spec {all : Array Oper} {k : Nat} (h : chkHead all k = true) {i : Nat} (hi : i < k) : ∃ o, all[i]? = some o ∧ (∀ j want, o.guard = some (j, want) → j < i ∧ (maskOf all i).testBit j = true) ∧
    ∃ d, o.dst = some d ∧ ∀ j o', j < k → j ≠ i → all[j]? = some o' → o'.dst ≠ some d := by
  have := List.all_eq_true.1 h i (List.mem_range.2 hi)
  split at this
  · rename_i o ho
    rw [Bool.and_eq_true] at this
    obtain ⟨h1, h2⟩ := this
    refine ⟨o, ho, fun j want hg => ?_, ?_⟩
    · rw [hg] at h1
      simp only [Bool.and_eq_true, decide_eq_true_eq] at h1
      exact h1
    · split at h2
      · rename_i d hd
        refine ⟨d, hd, fun j o' hj hne ho' he => ?_⟩
        have := List.all_eq_true.1 h2 j (List.mem_range.2 hj)
        rw [ho'] at this
        simp [hne, he] at this
      · cases h2
  · cases this

theorem nth_set {ts : List S} {d t : Nat} {s : S} : nth .any (lset ts d s) t = if t = d then (if d < ts.length then s else .any) else nth .any ts t := by
  rw [nth_eq, nth_eq, lset_eq, List.getElem?_set]
  by_cases h : d = t
  · subst h
    simp only [if_true]
    split <;> rfl
  · rw [if_neg h, if_neg (fun e => h e.symm)]

/-- A better word for a temporary keeps all. -/
theorem Snap.refine {all : Array Oper} {k : Nat} {st0 st : St} {E : List HEnt} {i : Nat} {who : List Nat} (s : Snap all st0 E i who st) {o : Oper} {st1 : St} {g : Bool} (hch : chkHead all k = true) (hi : i < k) (ho : all[i]? = some o) (hr : Refined all st o st1 g) :
    Snap all st0 E i who st1 := by
  unfold Refined at hr
  split at hr
  · rw [hr.1]; exact s
  · rw [hr.1]; exact s
  · rename_i d b want hd
    rw [hr.1]
    have hslot : nth .any st.ts d = .c (.val (.bool b)) ∧ ∃ j oj, j < i ∧ all[j]? = some oj ∧ oj.dst = some d := by
      unfold decide? at hd
      obtain ⟨o', ho', hg, _⟩ := chkHead_spec hch hi
      rw [ho] at ho'; injection ho' with ho'; subst ho'
      split at hd
      · cases hd
      · rename_i j w2 hgu
        split at hd
        · rename_i d' hd'
          split at hd
          · split at hd <;> cases hd
          · split at hd <;> cases hd
          · rename_i b' hb'
            injection hd with e1 e2 e3
            subst e1; subst e2
            refine ⟨hb', j, ?_⟩
            rw [obind_eq, nth?_eq] at hd'
            cases hj : all.toList[j]? with
            | none => rw [hj] at hd'; cases hd'
            | some oj => rw [hj] at hd'; exact ⟨oj, (hg j w2 hgu).1, by simpa using hj, hd'⟩
          · cases hd
          · cases hd
        · cases hd
    obtain ⟨hb, jd, od, hjd, hod, hdd⟩ := hslot
    refine ⟨by show (lset st.ts d _).length = _; rw [lset_eq, List.length_set]; exact s.len, fun t ht => ?_, fun j o' d' hj ho' hd' V hp w v hv => ?_, s.names, s.ents, s.whos, s.news⟩
    · show (lset st.ts d _)[t]? = _
      rw [lset_eq, List.getElem?_set]
      have hne : d ≠ t := fun e => by subst e; exact ht jd od hjd hod hdd
      rw [if_neg hne]
      exact s.old t ht
    · have h0 := s.new j o' d' hj ho' hd' V hp w v hv
      show S.ok V hp w (nth .any (lset st.ts d _) d') v
      rw [nth_set]
      split
      · rename_i e
        subst e
        split
        · rw [hb] at h0
          replace h0 : v = .bool b := h0.1
          cases b <;> exact h0
        · trivial
      · exact h0
  · exact hr.elim

theorem Snap.skip {all : Array Oper} {k : Nat} {st0 : St} {E : List HEnt} {i : Nat} {e : HEnt} (s : Snap all st0 E i e.who e.st) {o : Oper} (hch : chkHead all k = true) (hi : i < k) (ho : all[i]? = some o) (he : E[i]? = some e) (hr : e.r = none) :
    Snap all st0 E (i + 1) e.who (e.st.put o.dst .und) := by
  obtain ⟨o', ho', _, d, hd, hdist⟩ := chkHead_spec hch hi
  rw [ho] at ho'; injection ho' with ho'; subst ho'
  rw [hd]
  refine ⟨by show (lset e.st.ts d _).length = _; rw [lset_eq, List.length_set]; exact s.len, fun t ht => ?_, fun j o' d' hj ho' hd' V hp w v hv => ?_, s.names, s.ents, fun m j hm => ?_, fun j e' q hj he' hq => ?_⟩
  · show (lset e.st.ts d _)[t]? = _
    rw [lset_eq, List.getElem?_set, if_neg (fun e => by subst e; exact ht i o (by omega) ho hd)]
    exact s.old t fun j o hj => ht j o (by omega)
  · show S.ok V hp w (nth .any (lset e.st.ts d _) d') v
    rw [nth_set]
    by_cases hji : j = i
    · subst hji
      rw [ho] at ho'; injection ho' with ho'; subst ho'
      rw [hd] at hd'; injection hd' with hd'; subst hd'
      rw [if_pos rfl]
      split
      · unfold resE at hv
        rw [he] at hv
        simp only [hr] at hv
        exact hv
      · trivial
    · rw [if_neg (fun e => by subst e; exact hdist j o' (by omega) hji ho' hd')]
      exact s.new j o' d' (by omega) ho' hd' V hp w v hv
  · obtain ⟨h1, h2⟩ := s.whos m j hm
    exact ⟨by omega, h2⟩
  · by_cases hji : j = i
    · subst hji
      rw [he] at he'; injection he' with he'; subst he'
      rw [hr] at hq; cases hq
    · exact s.news j e' q (by omega) he' hq

theorem Snap.step {all : Array Oper} {k : Nat} {st0 : St} {E : List HEnt} {i : Nat} {e : HEnt} (s : Snap all st0 E i e.who e.st) {o : Oper} (hch : chkHead all k = true) (hi : i < k) (ho : all[i]? = some o) (he : E[i]? = some e) {q : QR} (hr : e.r = some q) :
    Snap all st0 E (i + 1) (lapp e.who (lmap (fun _ => i) q.new)) ((e.st.alloc q.new).put o.dst q.res) := by
  obtain ⟨o', ho', _, d, hd, hdist⟩ := chkHead_spec hch hi
  rw [ho] at ho'; injection ho' with ho'; subst ho'
  rw [hd, lapp_eq, lmap_eq]
  have hent : ((e.st.alloc q.new).put (some d) q.res).ent = hpNew e.st.ent (llen e.st.hp) q.new := by rw [ent_put, ent_alloc]
  have hn : llen st0.hp + e.who.length = llen e.st.hp := s.names.symm
  refine ⟨by show (lset e.st.ts d _).length = _; rw [lset_eq, List.length_set]; exact s.len, fun t ht => ?_, fun j o' d' hj ho' hd' V hp w v hv => ?_, ?_, fun n hlt => ?_, fun m j hm => ?_, fun j e' q' hj he' hq => ?_⟩
  · show (lset e.st.ts d _)[t]? = _
    rw [lset_eq, List.getElem?_set, if_neg (fun e => by subst e; exact ht i o (by omega) ho hd)]
    exact s.old t fun j o hj => ht j o (by omega)
  · show S.ok V hp w (nth .any (lset e.st.ts d _) d') v
    rw [nth_set]
    by_cases hji : j = i
    · subst hji
      rw [ho] at ho'; injection ho' with ho'; subst ho'
      rw [hd] at hd'; injection hd' with hd'; subst hd'
      rw [if_pos rfl]
      split
      · unfold resE at hv
        rw [he] at hv
        simp only [hr] at hv
        exact hv
      · trivial
    · rw [if_neg (fun e => by subst e; exact hdist j o' (by omega) hji ho' hd')]
      exact s.new j o' d' (by omega) ho' hd' V hp w v hv
  · show llen (lapp e.st.hp q.new) = _
    rw [llen_eq, lapp_eq, List.length_append, List.length_append, List.length_map, ← llen_eq e.st.hp]
    omega
  · rw [hent]
    unfold hpNew
    rw [if_pos (by omega)]
    exact s.ents n hlt
  · rcases Nat.lt_or_ge m e.who.length with h | h
    · rw [List.getElem?_append_left h] at hm
      obtain ⟨h1, h2⟩ := s.whos m j hm
      exact ⟨by omega, h2⟩
    · rw [List.getElem?_append_right h, List.getElem?_map] at hm
      cases hq : q.new[m - e.who.length]? with
      | none => rw [hq] at hm; cases hm
      | some y =>
        rw [hq] at hm
        simp only [Option.map_some, Option.some.injEq] at hm
        subst hm
        exact ⟨by omega, e, q, m - e.who.length, he, hr, by omega, (List.getElem?_eq_some_iff.1 hq).1⟩
  · by_cases hji : j = i
    · subst hji
      rw [he] at he'; injection he' with he'; subst he'
      rw [hr] at hq; injection hq with hq; subst hq
      refine ⟨by omega, fun x y hx => ⟨?_, ?_⟩⟩
      · rw [List.getElem?_append_right (by omega), List.getElem?_map, show llen e.st.hp + x - llen st0.hp - e.who.length = x by omega, hx]
        rfl
      · rw [hent]
        exact hpNew_new hx
    · obtain ⟨h1, h2⟩ := s.news j e' q' (by omega) he' hq
      refine ⟨h1, fun x y hx => ?_⟩
      obtain ⟨h3, h4⟩ := h2 x y hx
      have hlt := (List.getElem?_eq_some_iff.1 h3).1
      refine ⟨by rw [List.getElem?_append_left hlt]; exact h3, ?_⟩
      rw [hent]
      unfold hpNew
      rw [if_pos (by omega)]
      exact h4
end
end Go.SX
