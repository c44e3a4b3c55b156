/- Operations in the order of the text. No condition. -/
import Derived.Test.YtdfdoigiehmnoaaSx19
namespace Go.SX
open Go.RowKit
set_option linter.unusedVariables false
set_option linter.unusedSimpArgs false

/-- A call that writes to what its caller holds. -/
def RuleOk (P : Program) (f : FuncId) (r : Rule) : Prop :=
  ∀ (base : Nat) (M : LM) (w0 : World) (V : Vl) (st : St) (ts : Array Value) (w : World) (ss : List S) (vs : List Value) (K : S → St → Prop),
    Rel base M w0 V st ts w → ss.length = vs.length → (∀ (i : Nat) s v, ss[i]? = some s → vs[i]? = some v → S.ok V st.ent w s v) → r ss st K →
    Calls P f vs.toArray w fun e w' => ∃ v, e = .returned v ∧ ∃ V' s st', K s st' ∧ Rel base M w0 V' st' ts w' ∧ S.ok V' st'.ent w' s v

def RulesOk (P : Program) (R : FuncId → Option Rule) : Prop := ∀ f r, R f = some r → RuleOk P f r ∧ CallOk P f

/-- A frame and a world are as the symbolic state says; nothing is deferred. -/
def Sat (base : Nat) (M : LM) (w0 : World) (st : St) (a : Act) (w : World) : Prop := a.defers = [] ∧ ∃ V, Rel base M w0 V st a.tmps w

section
variable {P : Program} {T : Tab} {Γ : FuncId → Option PC} {R : FuncId → Option Rule} {base : Nat} {M : LM} {w0 : World} {V : Vl} {w : World} {a : Act} {next : Act → World → Prop} {Q : Exit → Act → World → Prop}

theorem put_defers (a : Act) (d : Option Nat) (v : Value) : (a.put d v).defers = a.defers := by cases d <;> rfl

theorem andO_elim {p : Option Prop} {q : Prop} (h : andO p q) : (∀ x, p = some x → x) ∧ q := by
  cases p with
  | none => exact ⟨fun _ h => (nomatch h), h⟩
  | some p => exact ⟨fun x hx => by injection hx with hx; subst hx; exact (show p ∧ q from h).1, (show p ∧ q from h).2⟩

theorem impO_elim {p : Option Prop} {q : Prop} (h : impO p q) (hp : ∀ x, p = some x → x) : q := by
  cases p with
  | none => exact h
  | some p => exact h (hp p rfl)

theorem callOf_ok {st : St} {o : Op} {f : FuncId} {args : List S} (h : callOf st o = some (f, args)) : ∃ c x, o = .call c ∧ c.callee = .value x ∧ st.eval x = .c (.fn f []) ∧ args = c.args.toList.map st.eval := by
  unfold callOf at h
  split at h
  · rename_i c
    split at h
    · rename_i x hx
      split at h
      · rename_i g hg
        injection h with h
        injection h with h1 h2
        subst h1; subst h2
        exact ⟨c, x, rfl, hx, hg, lmap_eq _ _⟩
      · cases h
    · cases h
  · cases h

theorem vcOp_ok (hT : TabOk P T) (hΓ : GamOk P Γ) (hR : RulesOk P R) {st : St} (hs : Sat base M w0 st a w) {o : Oper} {K : St → Prop} (h : vcOp T Γ R st.eval st.ent o st K)
    (hK : ∀ st' v w', K st' → Sat base M w0 st' (a.put o.dst v) w' → next (a.put o.dst v) w') : o.wp P a w next Q := by
  obtain ⟨hd, V, r⟩ := hs
  unfold vcOp at h
  split at h
  · rename_i q hq
    obtain ⟨h1, h2⟩ := andO_elim h
    refine qop_ok hT hΓ r.mem (LkOk.ents r) r.eval hq (fun j _ => ent_dead st j) h1 (fun v w' V' g => ?_)
    obtain ⟨q1, q2⟩ := rel_good r g
    exact hK _ v w' (impO_elim h2 g.hy) ⟨by rw [put_defers]; exact hd, V', rel_put q1 q2 _⟩
  · split at h
    · rename_i q hq
      obtain ⟨h1, h2⟩ := andO_elim h
      exact eop_ok hT r hq h1 (fun v w' V' q1 q2 => hK _ v w' h2 ⟨by rw [put_defers]; exact hd, V', rel_put q1 q2 _⟩)
    · split at h
      · rename_i f args hc
        split at h
        · rename_i ru hru
          obtain ⟨c, x, e1, e2, e3, e4⟩ := callOf_ok hc
          obtain ⟨k1, k2⟩ := hR f ru hru
          have hx := r.eval x
          rw [e3] at hx
          subst e4
          have := k1 base M w0 V st a.tmps w _ (c.args.toList.map a.eval) _ r (by simp) (fun i s v hi hv => by
            rw [List.getElem?_map] at hi hv
            cases hx' : c.args.toList[i]? with
            | none => rw [hx'] at hi; cases hi
            | some y =>
              rw [hx'] at hi hv
              simp only [Option.map_some, Option.some.injEq] at hi hv
              rw [← hi, ← hv]; exact r.eval y) h
          refine wp_call (R := _) e1 e2 hx k2 (by rw [show c.args.map a.eval = (c.args.toList.map a.eval).toArray from Array.ext' (by simp)]; exact this) (fun e w' hr => ?_)
          obtain ⟨v, rfl, V', s, st', h1, h2, h3⟩ := hr
          exact ⟨v, rfl, hK _ v w' h1 ⟨by rw [put_defers]; exact hd, V', rel_put h2 h3 _⟩⟩
        · exact h.elim
      · exact h.elim

/-- One temporary is known better. -/
theorem rel_refine {st : St} {ts : Array Value} (r : Rel base M w0 V st ts w) {d : Nat} {v : Value} {s : S} (hv : ts[d]? = some v) (h : S.ok V st.ent w s v) : Rel base M w0 V (st.put (some d) s) ts w := by
  refine ⟨by show (lset st.ts d s).length = ts.size; rw [lset_eq]; simp [r.len], fun i s' v' hs hv' => ?_, r.mem⟩
  have hs' : (lset st.ts d s)[i]? = some s' := hs
  rw [lset_eq, List.getElem?_set] at hs'
  split at hs'
  · rename_i e
    subst e
    split at hs'
    · injection hs' with hs'; subst hs'
      rw [hv] at hv'
      injection hv' with hv'; subst hv'
      exact h
    · cases hs'
  · exact r.slots i s' v' hs' hv'

theorem slot_of {st : St} {ts : Array Value} (r : Rel base M w0 V st ts w) {d : Nat} {s : S} (h : nth .any st.ts d = s) (hs : s ≠ .any) : ∃ v, ts[d]? = some v ∧ S.ok V st.ent w s v := by
  rw [nth_eq] at h
  cases he : st.ts[d]? with
  | none => rw [he] at h; exact absurd h.symm hs
  | some s' =>
    rw [he] at h
    simp only [Option.getD_some] at h
    subst h
    have hlt := (List.getElem?_eq_some_iff.1 he).1
    have hlt' : d < ts.size := by rw [← r.len]; exact hlt
    have hv : ts[d]? = some (ts[d]'hlt') := Array.getElem?_eq_getElem hlt'
    exact ⟨_, hv, r.slots d _ _ he hv⟩

/-- What 'decide?' says. -/
theorem decide_ok {st : St} (r : Rel base M w0 V st a.tmps w) {all : Array Oper} {o : Oper} :
    match decide? all o st with
    | .go => Region.wanted o (yielded all a.tmps) = true
    | .skip => Region.wanted o (yielded all a.tmps) = false
    | .ask d b want => Region.wanted o (yielded all a.tmps) = (b == want) ∧ a.tmps[d]? = some (.bool b)
    | .bad => True := by
  unfold decide? Region.wanted
  cases hg : o.guard with
  | none => simp
  | some g =>
    obtain ⟨j, want⟩ := g
    simp only
    rw [nth?_eq, obind_eq]
    cases hj : (all.toList[j]?).bind (·.dst) with
    | none => simp
    | some d =>
      have hj' : (all[j]?).bind (·.dst) = some d := by rw [← hj]; simp
      have hy : ∀ v, a.tmps[d]? = some v → yielded all a.tmps j = match v with | .bool b => some b | _ => none := by
        intro v hv
        unfold yielded
        rw [hj']
        simp only [Option.bind_some, hv]
        cases v <;> rfl
      simp only
      split
      · rename_i h
        split at h
        · rename_i he
          obtain ⟨v, h1, h2⟩ := slot_of r he (by simp)
          replace h2 : v = .bool true := h2
          rw [hy v h1, h2]
          cases want <;> simp_all
        · rename_i he
          obtain ⟨v, h1, h2⟩ := slot_of r he (by simp)
          replace h2 : v = .bool false := h2
          rw [hy v h1, h2]
          cases want <;> simp_all
        all_goals cases h
      · rename_i h
        split at h
        · rename_i he
          obtain ⟨v, h1, h2⟩ := slot_of r he (by simp)
          replace h2 : v = .bool true := h2
          rw [hy v h1, h2]
          cases want <;> simp_all
        · rename_i he
          obtain ⟨v, h1, h2⟩ := slot_of r he (by simp)
          replace h2 : v = .bool false := h2
          rw [hy v h1, h2]
          cases want <;> simp_all
        · cases h
        · rename_i he
          obtain ⟨v, h1, h2⟩ := slot_of r he (by simp)
          replace h2 : v = undef := h2
          rw [hy v h1, h2]
          simp [undef]
        · cases h
      · rename_i d' b' want' h
        split at h
        · split at h <;> cases h
        · split at h <;> cases h
        · rename_i b he
          obtain ⟨v, h1, h2⟩ := slot_of r he (by simp)
          replace h2 : v = .bool b := h2.1
          injection h with e1 e2 e3
          subst e1; subst e2; subst e3
          rw [hy v h1, h2]
          exact ⟨by cases b <;> cases want <;> rfl, by rw [h1, h2]⟩
        · cases h
        · cases h
      · trivial

theorem sat_skip {st : St} (hs : Sat base M w0 st a w) (dst : Option Nat) : Sat base M w0 (st.put dst .und) (a.put dst undef) w := by
  obtain ⟨hd, V, r⟩ := hs
  exact ⟨by rw [put_defers]; exact hd, V, rel_put r (s := .und) (v := undef) rfl _⟩

theorem vcSeq_ok (hT : TabOk P T) (hΓ : GamOk P Γ) (hR : RulesOk P R) {all : Array Oper} {K : St → Prop} (hK : ∀ st' a' w', K st' → Sat base M w0 st' a' w' → Q .normal a' w') :
    ∀ (l : List Oper) (i : Nat) (_ : all.toList.drop i = l) (st : St) (a : Act) (w : World), Sat base M w0 st a w → vcSeq T Γ R all l st K → wpOps P all Q (List.range' i l.length) a w
  | [], i, _, st, a, w, hs, h => by
    rw [List.length_nil, List.range'_zero]
    exact hK st a w h hs
  | o :: l, i, hl, st, a, w, hs, h => by
    rw [List.length_cons, List.range'_succ, wpOps_cons]
    have hi : all[i]? = some o := by
      have : (all.toList.drop i)[0]? = some o := by rw [hl]; rfl
      rw [List.getElem?_drop] at this
      simpa using this
    have hl' : all.toList.drop (i + 1) = l := by
      rw [← List.drop_drop, hl]; rfl
    unfold wpOp
    simp only [hi]
    have go : ∀ st, Sat base M w0 st a w → vcOp T Γ R st.eval st.ent o st (fun st' => vcSeq T Γ R all l st' K) → o.wp P a w (wpOps P all Q (List.range' (i + 1) l.length)) Q :=
      fun st hs h => vcOp_ok hT hΓ hR hs h (fun st' v w' h1 h2 => vcSeq_ok hT hΓ hR hK l (i + 1) hl' st' _ w' h2 h1)
    have skip : ∀ st, Sat base M w0 st a w → vcSeq T Γ R all l (st.put o.dst .und) K → wpOps P all Q (List.range' (i + 1) l.length) (a.put o.dst undef) w :=
      fun st hs h => vcSeq_ok hT hΓ hR hK l (i + 1) hl' _ _ w (sat_skip hs _) h
    obtain ⟨hd, V, r⟩ := hs
    have hdec := decide_ok r (all := all) (o := o)
    unfold vcSeq at h
    split at h
    · rename_i e
      rw [e] at hdec
      rw [if_pos hdec]
      exact .inl (go st ⟨hd, V, r⟩ h)
    · rename_i e
      rw [e] at hdec
      rw [if_neg (by simp [hdec])]
      exact skip st ⟨hd, V, r⟩ h
    · rename_i d b want e
      rw [e] at hdec
      obtain ⟨hw, hv⟩ := hdec
      have hw' : b = want → Region.wanted o (yielded all a.tmps) = true := fun e => by rw [hw, e]; simp
      cases b with
      | true =>
        have h1 := h.1 rfl
        have r1 := rel_refine (s := .c .tru) r hv rfl
        cases want with
        | true => rw [if_pos (hw' rfl)]; exact .inl (go _ ⟨hd, V, r1⟩ h1)
        | false => rw [if_neg (by simp [hw])]; exact skip _ ⟨hd, V, r1⟩ h1
      | false =>
        have h1 := h.2 rfl
        have r1 := rel_refine (s := .c .fls) r hv rfl
        cases want with
        | true => rw [if_neg (by simp [hw])]; exact skip _ ⟨hd, V, r1⟩ h1
        | false => rw [if_pos (hw' rfl)]; exact .inl (go _ ⟨hd, V, r1⟩ h1)
    · exact h.elim

/-- One operation, wherever it comes. -/
theorem vcStep_ok (hT : TabOk P T) (hΓ : GamOk P Γ) (hR : RulesOk P R) {all : Array Oper} {i : Nat} {st : St} {K : St → Prop} (hs : Sat base M w0 st a w) (h : vcStep T Γ R all i st K)
    (hK : ∀ st' a' w', K st' → Sat base M w0 st' a' w' → next a' w') : wpOp P all Q i next a w := by
  unfold vcStep at h
  split at h
  · rename_i o hi
    rw [nth?_eq] at hi
    have hi : all[i]? = some o := by simpa using hi
    unfold wpOp
    simp only [hi]
    have go : ∀ st, Sat base M w0 st a w → vcOp T Γ R st.eval st.ent o st K → o.wp P a w next Q :=
      fun st hs h => vcOp_ok hT hΓ hR hs h (fun st' v w' h1 h2 => hK st' _ w' h1 h2)
    have skip : ∀ st, Sat base M w0 st a w → K (st.put o.dst .und) → next (a.put o.dst undef) w := fun st hs h => hK _ _ w h (sat_skip hs _)
    obtain ⟨hd, V, r⟩ := hs
    have hdec := decide_ok r (all := all) (o := o)
    split at h
    · rename_i e
      rw [e] at hdec
      rw [if_pos hdec]
      exact .inl (go st ⟨hd, V, r⟩ h)
    · rename_i e
      rw [e] at hdec
      rw [if_neg (by simp [hdec])]
      exact skip st ⟨hd, V, r⟩ h
    · rename_i d b want e
      rw [e] at hdec
      obtain ⟨hw, hv⟩ := hdec
      have hw' : b = want → Region.wanted o (yielded all a.tmps) = true := fun e => by rw [hw, e]; simp
      cases b with
      | true =>
        have h1 := h.1 rfl
        have r1 := rel_refine (s := .c .tru) r hv rfl
        cases want with
        | true => rw [if_pos (hw' rfl)]; exact .inl (go _ ⟨hd, V, r1⟩ h1)
        | false => rw [if_neg (by simp [hw])]; exact skip _ ⟨hd, V, r1⟩ h1
      | false =>
        have h1 := h.2 rfl
        have r1 := rel_refine (s := .c .fls) r hv rfl
        cases want with
        | true => rw [if_neg (by simp [hw])]; exact skip _ ⟨hd, V, r1⟩ h1
        | false => rw [if_pos (hw' rfl)]; exact .inl (go _ ⟨hd, V, r1⟩ h1)
    · exact h.elim
  · exact h.elim
end
end Go.SX
