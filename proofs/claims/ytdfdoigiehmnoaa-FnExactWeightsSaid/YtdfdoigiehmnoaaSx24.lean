/- States that a loop meets again. No condition. -/
import Derived.Test.YtdfdoigiehmnoaaSx23
namespace Go.SX
open Go.RowKit
set_option linter.unusedVariables false
set_option linter.unusedSimpArgs false

theorem toP_oand {p q : Option Prop} : toP (oand p q) ↔ toP p ∧ toP q := by
  cases p <;> cases q <;> simp [oand, toP]

theorem toP_owe {b : Bool} : toP (owe b) ↔ b = true := by
  cases b <;> simp [owe, toP]

def srcOf (ren : List Src) (m : Nat) : Src := match ren[m]? with | some s => s | none => .no

def Vl.ren (V : Vl) (ren : List Src) : Vl where
  blk m := match srcOf ren m with | .nm n => V.blk n | _ => 0
  has m := match srcOf ren m with | .nm n => V.has n | _ => False
  Z0 := V.Z0
  Z1 := V.Z1

theorem ren_blk {V : Vl} {ren : List Src} {m n : Nat} (h : srcOf ren m = .nm n) : (V.ren ren).blk m = V.blk n := by unfold Vl.ren; simp only [h]
theorem ren_has {V : Vl} {ren : List Src} {m n : Nat} (h : srcOf ren m = .nm n) : (V.ren ren).has m ↔ V.has n := by unfold Vl.ren; simp only [h]
theorem ren_not {V : Vl} {ren : List Src} {m : Nat} (h : srcOf ren m = .nil) : ¬ (V.ren ren).has m := by unfold Vl.ren; simp only [h]; exact id

/-- What name 'm' of the one is in the other. -/
def EntRel (es : Nat → Ent) (r : Src) (t : Ent) (ren : List Src) : Prop :=
  match t with
  | .dead => True
  | .bx cs => ∃ n cs', r = .nm n ∧ es n = .bx cs' ∧ toP (mCs ren cs' cs)
  | .row fr e xs => (∃ n fr', r = .nm n ∧ es n = .row fr' e xs ∧ (fr = true → fr' = true)) ∨ (r = .nil ∧ xs = [])

theorem mE_ok {ren : List Src} {es : Nat → Ent} {r : Src} {t : Ent} (h : toP (mE ren es r t)) : EntRel es r t ren ∧ (t = .dead → r = .no) := by
  unfold mE at h
  cases t with
  | dead =>
    refine ⟨trivial, fun _ => ?_⟩
    cases r <;> first | rfl | exact h.elim
  | bx cs =>
    refine ⟨?_, fun h => by cases h⟩
    cases r with
    | nm n =>
      simp only at h
      split at h
      · rename_i cs' hcs
        exact ⟨n, cs', rfl, hcs, h⟩
      · exact h.elim
    | nil => exact h.elim
    | no => exact h.elim
  | row fr e xs =>
    refine ⟨?_, fun h => by cases h⟩
    cases r with
    | nm n =>
      simp only at h
      split at h
      · rename_i fr' e' ys hes
        split at h
        · rename_i he
          subst he
          split at h
          · exact h.elim
          · rename_i hfr
            have : ys = xs := h
            subst this
            refine .inl ⟨n, fr', rfl, hes, fun hf => ?_⟩
            subst hf
            cases fr' <;> simp_all
        · exact h.elim
      · exact h.elim
    | nil => exact .inr ⟨rfl, h⟩
    | no => exact h.elim

theorem mEs_ok {ren : List Src} {es : Nat → Ent} : ∀ {rs : List Src} {ts : List Ent}, toP (mEs ren es rs ts) → rs.length = ts.length ∧ ∀ (m : Nat) r t, rs[m]? = some r → ts[m]? = some t → toP (mE ren es r t)
  | [], [], _ => ⟨rfl, fun m r t h => by cases h⟩
  | [], _ :: _, h => h.elim
  | _ :: _, [], h => h.elim
  | r :: rs, t :: ts, h => by
    obtain ⟨h1, h2⟩ := toP_oand.1 h
    obtain ⟨h3, h4⟩ := mEs_ok h2
    refine ⟨by simp [h3], fun m r' t' hr ht => ?_⟩
    cases m with
    | zero => simp at hr ht; subst hr; subst ht; exact h1
    | succ m => exact h4 m r' t' (by simpa using hr) (by simpa using ht)

theorem lentOk_get {es : Nat → Ent} : ∀ {k : Nat} {rs : List Src} {ts : List Ent}, lentOk es k rs ts = true → ∀ {j n : Nat} {e : Ty} {xs : List e.den}, rs[j]? = some (.nm n) → ts[j]? = some (.row false e xs) →
    e.flat = true → n = k + j ∧ ∃ e' xs', es n = .row false e' xs'
  | k, [], _, _, j, n, e, xs, h, _ => by cases h
  | k, _ :: _, [], _, j, n, e, xs, _, h => by cases h
  | k, r :: rs, t :: ts, h, j, n, e, xs, h1, h2 => by
    intro hfl
    unfold lentOk at h
    rw [Bool.and_eq_true] at h
    obtain ⟨g1, g2⟩ := h
    cases j with
    | zero =>
      simp only [List.getElem?_cons_zero, Option.some.injEq] at h1 h2
      subst h1; subst h2
      simp only [hfl, Bool.not_true, Bool.false_or, Bool.and_eq_true, beq_iff_eq] at g1
      obtain ⟨g3, g4⟩ := g1
      refine ⟨g3, ?_⟩
      split at g4
      · rename_i fr e' xs' he
        cases fr with
        | false => exact ⟨e', xs', he⟩
        | true => cases g4
      · cases g4
    | succ j =>
      obtain ⟨a1, a2⟩ := lentOk_get g2 (j := j) (by simpa using h1) (by simpa using h2) hfl
      exact ⟨by omega, a2⟩

theorem nodupSrc_ok : ∀ {ren : List Src}, nodupSrc ren = true → ∀ {m m' n : Nat}, ren[m]? = some (.nm n) → ren[m']? = some (.nm n) → m = m'
  | [], _, m, m', n, h, _ => by cases h
  | r :: rs, h, m, m', n, h1, h2 => by
    have hrest : nodupSrc rs = true := by
      cases r with
      | nm k => simp only [nodupSrc, Bool.and_eq_true] at h; exact h.2
      | nil => exact h
      | no => exact h
    have hnot : ∀ {j : Nat}, r = .nm n → rs[j]? = some (.nm n) → False := by
      intro j hr hj
      subst hr
      simp only [nodupSrc, Bool.and_eq_true, lany_eq, Bool.not_eq_true', List.any_eq_false] at h
      have := h.1 (.nm n) (List.mem_of_getElem? hj)
      simp at this
    cases m with
    | zero =>
      cases m' with
      | zero => rfl
      | succ m' =>
        simp only [List.getElem?_cons_zero, Option.some.injEq] at h1
        exact (hnot (j := m') h1 (by simpa using h2)).elim
    | succ m =>
      cases m' with
      | zero =>
        simp only [List.getElem?_cons_zero, Option.some.injEq] at h2
        exact (hnot (j := m) h2 (by simpa using h1)).elim
      | succ m' =>
        rw [nodupSrc_ok hrest (m := m) (m' := m') (by simpa using h1) (by simpa using h2)]

section
variable {V : Vl} {hp : Nat → Ent} {w : World}

theorem C.ok_one : ∀ {c : C} {v : Value}, C.ok V hp w c v → v.oneCell' = true := by
  intro c v h
  cases c with
  | val u =>
    rw [h.1]
    have := h.2
    cases u <;> first | rfl | exact this.elim
  | tru => rw [show v = _ from h]; rfl
  | fls => rw [show v = _ from h]; rfl
  | rd fr e xs => exact RdC.oneCell h v (List.mem_singleton.2 rfl)
  | own n =>
    obtain ⟨fr, e, xs, _, h2⟩ := h
    rcases h2 with ⟨_, h2, _⟩ | ⟨_, cap, vals, el, h2, _⟩ <;> rw [h2] <;> rfl
  | pre n k =>
    obtain ⟨fr, e, xs, _, _, h2⟩ := h
    rcases h2 with ⟨_, h2, _⟩ | ⟨_, cap, vals, el, h2, _⟩ <;> rw [h2] <;> rfl
  | brw n e xs => exact RdC.oneCell h.2 v (List.mem_singleton.2 rfl)
  | box n off => rw [h.1]; rfl
  | at_ fr t d off => obtain ⟨b, o, h1, _⟩ := h; rw [h1]; rfl
  | elt n i off => obtain ⟨_, fr, e, xs, _, _, h3⟩ := h; rw [h3]; rfl
  | fn f caps => rw [h.1]; rfl
  | clo fr f t d => exact RdC.oneCell (t := .clo f t) h v (List.mem_singleton.2 rfl)
  | any => exact h

variable {hp' : Nat → Ent} {ren : List Src}

theorem castL_rfl {a : Ty} (xs : List a.den) : castL rfl xs = xs := rfl

/-- One cell. 'hp', 'hp'': the names of the one and of the other. -/
theorem mC_ok (hE : ∀ m, EntRel hp (srcOf ren m) (hp' m) ren ∧ (hp' m = .dead → srcOf ren m = .no)) {x y : C} {v : Value} (h : toP (mC ren x y)) (ho : C.ok V hp w x v) : C.ok (V.ren ren) hp' w y v := by
  have own_ok : ∀ {n m : Nat}, srcOf ren m = .nm n → C.ok V hp w (.own n) v → C.ok (V.ren ren) hp' w (.own m) v := by
    intro n m hs ho
    obtain ⟨fr, e, xs, h1, h2⟩ := ho
    obtain ⟨k1, k2⟩ := hE m
    cases ht : hp' m with
    | dead => rw [k2 ht] at hs; cases hs
    | bx cs =>
      rw [ht] at k1
      obtain ⟨n', cs', e1, e2, _⟩ := k1
      rw [hs] at e1; injection e1 with e1; subst e1
      rw [h1] at e2; cases e2
    | row fr' e' ys =>
      rw [ht] at k1
      rcases k1 with ⟨n', fr2, e1, e2, _⟩ | ⟨e1, _⟩
      · rw [hs] at e1; injection e1 with e1; subst e1
        rw [h1] at e2; injection e2 with q1 q2 q3
        subst q1; subst q2; cases q3
        refine ⟨fr', e, xs, ht, ?_⟩
        rcases h2 with ⟨a1, a2⟩ | ⟨a1, a2⟩
        · exact .inl ⟨fun h => a1 ((ren_has hs).1 h), a2⟩
        · exact .inr ⟨(ren_has hs).2 a1, by rw [ren_blk hs]; exact a2⟩
      · rw [hs] at e1; cases e1
  unfold mC at h
  split at h
  · exact C.ok_one ho
  · split at h
    · rename_i hk
      subst hk
      rw [show _ = _ from h] at ho
      exact ho
    · exact h.elim
  · rw [show _ = _ from h] at ho; exact ho
  · rw [show _ = _ from h]; exact ⟨ho, trivial⟩
  · rw [show _ = _ from h]; exact ⟨ho, trivial⟩
  · exact ho
  · exact ho
  · rw [show _ = _ from h] at ho; exact ho
  · rename_i fr e xs fr' e' ys
    split at h
    · rename_i he
      subst he
      split at h
      · exact h.elim
      · rename_i hfr
        have : xs = ys := h
        subst this
        exact RdC.mono (t := .sl e) (fun b hb => by
          cases fr' with
          | false => exact Vl.Z_all (V := V) hb
          | true => have : fr = true := by cases fr <;> simp_all
                    subst this; exact hb) (fun _ _ => rfl) ho
    · exact h.elim
  · rename_i fr e ys
    have : ys = [] := h
    subst this
    rw [ho.1]
    exact RdC.zero (.sl e) rfl
  · rename_i n m
    rw [nth?_eq] at h
    split at h
    · rename_i n' hr
      have hn : n' = n := by simpa using toP_owe.1 h
      subst hn
      exact own_ok (by unfold srcOf; rw [hr]) ho
    · exact h.elim
  · rename_i m
    rw [nth?_eq] at h
    split at h
    · rename_i hr
      have hs : srcOf ren m = .nil := by unfold srcOf; rw [hr]
      obtain ⟨k1, k2⟩ := hE m
      cases ht : hp' m with
      | dead => rw [k2 ht] at hs; cases hs
      | bx cs => rw [ht] at k1; obtain ⟨n', cs', e1, _⟩ := k1; rw [hs] at e1; cases e1
      | row fr' e' ys =>
        rw [ht] at k1
        rcases k1 with ⟨n', fr2, e1, _⟩ | ⟨_, e2⟩
        · rw [hs] at e1; cases e1
        · subst e2
          exact ⟨fr', e', [], ht, .inl ⟨ren_not hs, ho.1, rfl⟩⟩
    · exact h.elim
  · rename_i n k m k'
    rw [nth?_eq] at h
    split at h
    · rename_i n' hr
      obtain ⟨hn, hk⟩ := toP_oand.1 h
      have hn : n' = n := by simpa using toP_owe.1 hn
      have hk : k = k' := hk
      subst hn; subst hk
      have hs : srcOf ren m = .nm n' := by unfold srcOf; rw [hr]
      obtain ⟨fr, e, xs, h1, h2, h3⟩ := ho
      obtain ⟨k1, k2⟩ := hE m
      cases ht : hp' m with
      | dead => rw [k2 ht] at hs; cases hs
      | bx cs =>
        rw [ht] at k1
        obtain ⟨n2, cs', e1, e2, _⟩ := k1
        rw [hs] at e1; injection e1 with e1; subst e1
        rw [h1] at e2; cases e2
      | row fr' e' ys =>
        rw [ht] at k1
        rcases k1 with ⟨n2, fr2, e1, e2, _⟩ | ⟨e1, _⟩
        · rw [hs] at e1; injection e1 with e1; subst e1
          rw [h1] at e2; injection e2 with q1 q2 q3
          subst q1; subst q2; cases q3
          refine ⟨fr', e, xs, ht, h2, ?_⟩
          rcases h3 with ⟨a1, a2⟩ | ⟨a1, a2⟩
          · exact .inl ⟨fun h => a1 ((ren_has hs).1 h), a2⟩
          · exact .inr ⟨(ren_has hs).2 a1, by rw [ren_blk hs]; exact a2⟩
        · rw [hs] at e1; cases e1
    · exact h.elim
  · rename_i n o m o'
    rw [nth?_eq] at h
    split at h
    · rename_i n' hr
      have hh := toP_owe.1 h
      simp only [Bool.and_eq_true, beq_iff_eq] at hh
      obtain ⟨rfl, rfl⟩ := hh
      have hs : srcOf ren m = .nm n' := by unfold srcOf; rw [hr]
      obtain ⟨h1, h2, cs, h3⟩ := ho
      obtain ⟨k1, k2⟩ := hE m
      cases ht : hp' m with
      | dead => rw [k2 ht] at hs; cases hs
      | bx cs' => exact ⟨by rw [ren_blk hs]; exact h1, (ren_has hs).2 h2, cs', ht⟩
      | row fr' e' ys =>
        rw [ht] at k1
        rcases k1 with ⟨n', fr2, e1, e2, _⟩ | ⟨e1, _⟩
        · rw [hs] at e1; injection e1 with e1; subst e1
          rw [h3] at e2; cases e2
        · rw [hs] at e1; cases e1
    · exact h.elim
  · rename_i fr t d o fr' t' d' o'
    split at h
    · rename_i he
      subst he
      split at h
      · exact h.elim
      · rename_i hfr
        obtain ⟨h1, h2⟩ := toP_oand.1 h
        have e1 : o = o' := by simpa using toP_owe.1 h1
        have e2 : d = d' := h2
        subst e1; subst e2
        have hz : ∀ b, V.Z fr b → (V.ren ren).Z fr' b := fun b hb => by
          cases fr' with
          | false => exact Vl.Z_all (V := V) hb
          | true => have : fr = true := by cases fr <;> simp_all
                    subst this; exact hb
        obtain ⟨b, o2, k1, k2, es, k3, k4, k5⟩ := ho
        exact ⟨b, o2, k1, hz b k2, es, k3, k4, k5.mono hz (fun _ _ => rfl)⟩
    · exact h.elim
  · rename_i fr f t d fr' f' t' d'
    split at h
    · rename_i he
      subst he
      split at h
      · exact h.elim
      · rename_i hfr
        obtain ⟨h1, h2⟩ := toP_oand.1 h
        have e1 : f = f' := by simpa using toP_owe.1 h1
        have e2 : d = d' := h2
        subst e1; subst e2
        have hz : ∀ b, V.Z fr b → (V.ren ren).Z fr' b := fun b hb => by
          cases fr' with
          | false => exact Vl.Z_all (V := V) hb
          | true => have : fr = true := by cases fr <;> simp_all
                    subst this; exact hb
        have h' : RdC (V.Z fr) w (.clo f t) [v] d := ho
        exact h'.mono hz (fun _ _ => rfl)
    · exact h.elim
  · rename_i n i o m i' o'
    rw [nth?_eq] at h
    split at h
    · rename_i n' hr
      obtain ⟨h1, h2⟩ := toP_oand.1 h
      have hh := toP_owe.1 h1
      simp only [Bool.and_eq_true, beq_iff_eq] at hh
      obtain ⟨rfl, rfl⟩ := hh
      have hi : i = i' := h2
      subst hi
      have hs : srcOf ren m = .nm n' := by unfold srcOf; rw [hr]
      obtain ⟨a1, fr, e, xs, a2, a3, a4⟩ := ho
      obtain ⟨k1, k2⟩ := hE m
      cases ht : hp' m with
      | dead => rw [k2 ht] at hs; cases hs
      | bx cs' =>
        rw [ht] at k1
        obtain ⟨n', cs', e1, e2, _⟩ := k1
        rw [hs] at e1; injection e1 with e1; subst e1
        rw [a2] at e2; cases e2
      | row fr' e' ys =>
        rw [ht] at k1
        rcases k1 with ⟨n', fr2, e1, e2, _⟩ | ⟨e1, _⟩
        · rw [hs] at e1; injection e1 with e1; subst e1
          rw [a2] at e2; injection e2 with q1 q2 q3
          subst q1; subst q2; cases q3
          exact ⟨(ren_has hs).2 a1, fr', e, xs, ht, a3, by rw [ren_blk hs]; exact a4⟩
        · rw [hs] at e1; cases e1
    · exact h.elim
  · exact h.elim

theorem mCs_ok (hE : ∀ m, EntRel hp (srcOf ren m) (hp' m) ren ∧ (hp' m = .dead → srcOf ren m = .no)) : ∀ {xs ys : List C} {vs : List Value}, toP (mCs ren xs ys) → okAll V hp w xs vs → okAll (V.ren ren) hp' w ys vs
  | [], [], vs, _, ho => ⟨ho.1, fun j c v h => by cases h⟩
  | [], _ :: _, vs, h, _ => h.elim
  | _ :: _, [], vs, h, _ => h.elim
  | x :: xs, y :: ys, vs, h, ho => by
    obtain ⟨h1, h2⟩ := toP_oand.1 h
    cases vs with
    | nil => have := ho.1; cases this
    | cons v vs =>
      have h3 := mCs_ok (vs := vs) hE h2 ⟨by simpa using ho.1, fun j c u hc hu => ho.2 (j + 1) c u (by simpa using hc) (by simpa using hu)⟩
      refine ⟨by simpa using h3.1, fun j c u hc hu => ?_⟩
      cases j with
      | zero =>
        simp only [List.getElem?_cons_zero, Option.some.injEq] at hc hu
        subst hc; subst hu
        exact mC_ok hE h1 (ho.2 0 x v rfl rfl)
      | succ j => exact h3.2 j c u (by simpa using hc) (by simpa using hu)

theorem mS_ok (hE : ∀ m, EntRel hp (srcOf ren m) (hp' m) ren ∧ (hp' m = .dead → srcOf ren m = .no)) {x y : S} {v : Value} (h : toP (mS ren x y)) (ho : S.ok V hp w x v) : S.ok (V.ren ren) hp' w y v := by
  unfold mS at h
  split at h
  · trivial
  · exact mC_ok hE h ho
  · obtain ⟨vs, h1, h2⟩ := ho
    exact ⟨vs, h1, mCs_ok hE h h2⟩
  · exact ho
  · exact h.elim

theorem mSs_ok (hE : ∀ m, EntRel hp (srcOf ren m) (hp' m) ren ∧ (hp' m = .dead → srcOf ren m = .no)) : ∀ {xs ys : List S}, toP (mSs ren xs ys) → xs.length = ys.length ∧ ∀ (j : Nat) x y, xs[j]? = some x → ys[j]? = some y → toP (mS ren x y)
  | [], [], _ => ⟨rfl, fun j x y h => by cases h⟩
  | [], _ :: _, h => h.elim
  | _ :: _, [], h => h.elim
  | x :: xs, y :: ys, h => by
    obtain ⟨h1, h2⟩ := toP_oand.1 h
    obtain ⟨h3, h4⟩ := mSs_ok hE h2
    refine ⟨by simp [h3], fun j x' y' hx hy => ?_⟩
    cases j with
    | zero => simp at hx hy; subst hx; subst hy; exact h1
    | succ j => exact h4 j x' y' (by simpa using hx) (by simpa using hy)
end

/-- A state that matches holds. -/
theorem match_ok {base : Nat} {M : LM} {w0 w : World} {s t : St} {a : Act} {ren : List Src} (h : Match ren s t) (hs : Sat base M w0 s a w) : Sat base M w0 t a w := by
  obtain ⟨hd, V, r⟩ := hs
  obtain ⟨h1, h2⟩ := toP_oand.1 h
  obtain ⟨h2, h3⟩ := toP_oand.1 h2
  have hnd := toP_owe.1 h1
  rw [Bool.and_eq_true] at hnd
  obtain ⟨hnd, hlo⟩ := hnd
  obtain ⟨e1, e2⟩ := mEs_ok h3
  have hE : ∀ m, EntRel s.ent (srcOf ren m) (t.ent m) ren ∧ (t.ent m = .dead → srcOf ren m = .no) := by
    intro m
    cases hr : ren[m]? with
    | none =>
      have hge := List.getElem?_eq_none_iff.1 hr
      have : t.ent m = .dead := by
        show nth .dead t.hp m = _
        rw [nth_eq, List.getElem?_eq_none (by omega)]
        rfl
      rw [this]
      exact ⟨trivial, fun _ => by unfold srcOf; rw [hr]⟩
    | some sr =>
      have hlt := (List.getElem?_eq_some_iff.1 hr).1
      have ht : t.hp[m]? = some (t.hp[m]'(by omega)) := List.getElem?_eq_getElem _
      have hte : t.ent m = t.hp[m]'(by omega) := by
        show nth .dead t.hp m = _
        rw [nth_eq, ht]; rfl
      have hso : srcOf ren m = sr := by unfold srcOf; rw [hr]
      rw [hte, hso]
      exact mE_ok (e2 m sr _ hr ht)
  obtain ⟨f1, f2⟩ := mSs_ok hE h2
  have nm : ∀ m, (t.ent m).live = true → (V.ren ren).has m → ∃ n, srcOf ren m = .nm n ∧ ren[m]? = some (.nm n) ∧ (s.ent n).live = true ∧ V.has n ∧ (V.ren ren).blk m = V.blk n := by
    intro m hl hh
    cases hso : srcOf ren m with
    | no => unfold Vl.ren at hh; simp only [hso] at hh
    | nil => exact absurd hh (ren_not hso)
    | nm n =>
      refine ⟨n, rfl, ?_, ?_, (ren_has hso).1 hh, ren_blk hso⟩
      · unfold srcOf at hso
        split at hso
        · rename_i hh'; rw [hh', hso]
        · cases hso
      · have := (hE m).1
        cases hte : t.ent m with
        | dead => rw [hte] at hl; cases hl
        | bx cs => rw [hte] at this; obtain ⟨n', cs', k1, k2, _⟩ := this; rw [hso] at k1; injection k1 with k1; subst k1; rw [k2]; rfl
        | row fr e xs =>
          rw [hte] at this
          rcases this with ⟨n', fr', k1, k2, _⟩ | ⟨k1, _⟩
          · rw [hso] at k1; injection k1 with k1; subst k1; rw [k2]; rfl
          · rw [hso] at k1; cases k1
  have m := r.mem
  refine ⟨hd, V.ren ren, ⟨by rw [← f1]; exact r.len, fun i y v hy hv => ?_, ?_⟩⟩
  · have hlt := (List.getElem?_eq_some_iff.1 hy).1
    have hx : s.ts[i]? = some (s.ts[i]'(by omega)) := List.getElem?_eq_getElem _
    exact mS_ok hE (f2 i _ y hx hy) (r.slots i _ v hx hv)
  · refine ⟨fun k => ?_, fun k cs hk => ?_, fun k hl hh => ?_, fun k e xs hk hh => ?_, fun k k' hl hl' hh hh' hb => ?_, m.z0, m.z1, m.kept, fun k hl hh => ?_⟩
    · have := (hE k).1
      cases hte : t.ent k with
      | dead => trivial
      | bx cs =>
        rw [hte] at this
        obtain ⟨n, cs', k1, k2, k3⟩ := this
        have h0 := m.ents n
        rw [k2] at h0
        obtain ⟨vals, el, a1, a2⟩ := h0
        exact ⟨vals, el, by rw [ren_blk k1]; exact a1, mCs_ok hE k3 a2⟩
      | row fr e xs =>
        rw [hte] at this
        rcases this with ⟨n, fr', k1, k2, k3⟩ | ⟨k1, k2⟩
        · have h0 := m.ents n
          rw [k2] at h0
          rcases h0 with ⟨a1, a2⟩ | ⟨a1, vals, el, a2, a3, a4⟩
          · exact .inl ⟨fun hh => a1 ((ren_has k1).1 hh), a2⟩
          · refine .inr ⟨(ren_has k1).2 a1, vals, el, by rw [ren_blk k1]; exact a2, a3, fun i hi => ?_⟩
            obtain ⟨es, b1, b2, b3⟩ := a4 i hi
            refine ⟨es, b1, b2, b3.mono (fun b hb => ?_) (fun _ _ => rfl)⟩
            cases fr with
            | false => exact Vl.Z_all (V := V) hb
            | true => rw [k3 rfl] at hb; exact hb
        · exact .inl ⟨ren_not k1, k2⟩
    · have := (hE k).1
      rw [hk] at this
      obtain ⟨n, cs', k1, k2, _⟩ := this
      exact (ren_has k1).2 (m.box n cs' k2)
    · obtain ⟨n, _, _, k1, k2, k3⟩ := nm k hl hh
      rw [k3]
      exact m.own n k1 k2
    · obtain ⟨n, k0, _, _, k2, k3⟩ := nm k (by rw [hk]; rfl) hh
      rw [k3]
      have := (hE k).1
      rw [hk] at this
      rcases this with ⟨n', fr', e1, e2, e3⟩ | ⟨e1, _⟩
      · rw [k0] at e1; injection e1 with e1; subst e1
        rw [e3 rfl] at e2
        exact m.mine n e xs e2 k2
      · rw [k0] at e1; cases e1
    · obtain ⟨n, _, k0, k1, k2, k3⟩ := nm k hl hh
      obtain ⟨n', _, k0', k1', k2', k3'⟩ := nm k' hl' hh'
      have : n = n' := m.dist n n' k1 k1' k2 k2' (by rw [← k3, ← k3']; exact hb)
      subst this
      exact nodupSrc_ok hnd k0 k0'
    · obtain ⟨n, k0, k4, _, k2, k3⟩ := nm k (lentish_live hl) hh
      rw [k3]
      have hE := (hE k).1
      cases hte : t.ent k with
      | dead => rw [hte] at hl; exact hl.elim
      | bx cs => rw [hte] at hl; exact hl.elim
      | row fr e xs =>
        rw [hte] at hE hl
        cases fr with
        | true => exact hl.elim
        | false =>
          have hfl : e.flat = true := hl
          have htk : t.hp[k]? = some (.row false e xs) := by
            have h' : nth .dead t.hp k = .row false e xs := hte
            rw [nth_eq] at h'
            cases hx : t.hp[k]? with
            | none => rw [hx] at h'; cases h'
            | some y => rw [hx] at h'; exact congrArg some h'
          have h9 := lentOk_get hlo k4 htk
          rw [Nat.zero_add, hfl] at h9
          obtain ⟨e1, e2⟩ := h9 rfl
          rcases hE with ⟨n', fr', q1, q2, q3⟩ | ⟨q1, _⟩
          · rw [k0] at q1
            injection q1 with q1
            subst q1
            obtain ⟨e', xs', e2⟩ := e2
            rw [q2] at e2
            injection e2 with e2 _ _
            subst e2
            have := m.lent n (by rw [q2]; exact hfl) k2
            rw [e1] at this ⊢
            exact this
          · rw [k0] at q1; cases q1
end Go.SX
