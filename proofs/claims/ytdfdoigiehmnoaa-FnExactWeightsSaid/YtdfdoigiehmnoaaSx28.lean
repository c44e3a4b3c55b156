/- Functions that write into the rows that their first argument holds. No condition. -/
import Derived.Test.YtdfdoigiehmnoaaSx27
namespace Go.SX
open Go.RowKit
set_option linter.unusedVariables false
set_option linter.unusedSimpArgs false

/-- The contract of a function that writes into the rows of its first argument; its second is a number. -/
structure MC where
  t : Ty
  pre : t.den → Int → Prop
  F : t.den → Int → Int
  G : t.den → Int → t.den

def Ent.old : Ent → Ent
  | .row _ e xs => .row false e xs
  | e => e

/-- Slices of flat elements. -/
def Ty.lendable : Ty → Bool
  | .sl e => e.flat
  | .st t => t.lendable
  | .pr a b => a.lendable && b.lendable
  | .ptr _ => false
  | .clo _ _ => false
  | _ => true

def lendSl (lk : Nat → Ent) (e : Ty) : C → Option (List e.den × Option Nat)
  | .own n =>
    match lk n with
    | .row _ e' xs => if h : e' = e then some (castL h xs, some n) else none
    | _ => none
  | .val (.slice none 0 0) => some ([], none)
  | _ => none

/-- A datum whose rows are lent; the rows' names. -/
def lendC (lk : Nat → Ent) : (t : Ty) → List C → Option (t.den × List (Option Nat) × List C)
  | .int k, cs => match head1 (rdInt k) cs with | some (x, r) => some (x, [], r) | none => none
  | .bool, cs => match head1 rdBool cs with | some (x, r) => some (x, [], r) | none => none
  | .str, cs => match head1 rdStr cs with | some (x, r) => some (x, [], r) | none => none
  | .sl e, cs => match head1 (lendSl lk e) cs with | some ((x, n), r) => some (x, [n], r) | none => none
  | .st t, cs => lendC lk t cs
  | .pr a b, cs =>
    match lendC lk a cs with
    | some (x, ns, r) =>
      match lendC lk b r with
      | some (y, ms, r') => some ((x, y), lapp ns ms, r')
      | none => none
    | none => none
  | .ptr _, _ => none
  | .clo _ _, _ => none

def lendS (lk : Nat → Ent) (t : Ty) (s : S) : Option (t.den × List (Option Nat)) :=
  match s with
  | .c x => if isSt t then none else match lendC lk t [x] with | some (d, ns, []) => some (d, ns) | _ => none
  | .agg cs => if isSt t then match lendC lk t cs with | some (d, ns, []) => some (d, ns) | _ => none else none
  | _ => none

def namesOf : List (Option Nat) → List Nat
  | [] => []
  | some n :: r => n :: namesOf r
  | none :: r => namesOf r

def St.rewr (st : St) (n : Nat) (e : Ent) : St :=
  match st.ent n, e with
  | .row fr _ _, .row _ ty ys => { (st.map (killB n)) with hp := lset (st.map (killB n)).hp n (.row fr ty ys) }
  | _, _ => st

def St.rewrs (st : St) : List (Option Nat) → List Ent → St
  | some n :: ns, e :: es => (st.rewr n e).rewrs ns es
  | none :: ns, _ :: es => st.rewrs ns es
  | _, _ => st

def ruleOf (mc : MC) : Rule := fun ss st K =>
  match ss with
  | [s, .c (.val (.int .i64 k))] =>
    match lendS st.ent mc.t s with
    | some (d, ns) => if nodupN (namesOf ns) then mc.pre d k ∧ K (.c (.val (.int .i64 (mc.F d k)))) (st.rewrs ns (fresh mc.t (mc.G d k) 0).2) else False
    | none => False
  | _ => False

def sameLen : List Ent → List Ent → Option Prop
  | .row _ e xs :: r, .row _ e' ys :: r' => if e' = e then oand (some (ys.length = xs.length)) (sameLen r r') else some False
  | [], [] => none
  | _, _ => some False

def rowsAre (lk : Nat → Ent) : Nat → List Ent → Option Prop
  | _, [] => none
  | k, .row _ e ys :: r => oand (match lk k with | .row false e' xs => (if h : e' = e then some (castL h xs = ys) else some False) | _ => some False) (rowsAre lk (k + 1) r)
  | _, _ :: _ => some False

def startM (t : Ty) (d : t.den) (k : Int) (ntmps : Nat) : St :=
  { ts := topS (isSt t, (fresh t d 0).1) :: .c (.val (.int .i64 k)) :: lrep .und (ntmps - 2), hp := lmap Ent.old (fresh t d 0).2 }

def vcPostM (T : Tab) (fn : Func) (t : Ty) (out : Int) (after : t.den) (e : Ex) (st : St) : Prop :=
  match e with
  | .exit _ => False
  | _ =>
    match resAll T st fn.results.toList with
    | some [.c (.val (.int .i64 r))] => r = out ∧ toP (rowsAre st.ent 0 (fresh t after 0).2)
    | _ => False

/-- What is to be shown of the code of such a function. -/
def vcMut (T : Tab) (Γ : FuncId → Option PC) (R : FuncId → Option Rule) (fn : Func) (mc : MC) (A : mc.t.den → Int → Nat → Option Ann) : Prop :=
  match fn.body with
  | some code => ∀ d k, mc.t.wf d → IntKind.i64.min ≤ k ∧ k ≤ IntKind.i64.max → mc.pre d k →
      toP (sameLen (fresh mc.t d 0).2 (fresh mc.t (mc.G d k) 0).2) ∧ vc T Γ R code (A d k) (startM mc.t d k fn.ntmps) fun e _ st => vcPostM T fn mc.t (mc.F d k) (mc.G d k) e st
  | none => False

section
variable {P : Program} {T : Tab} {Γ : FuncId → Option PC} {R : FuncId → Option Rule} {base : Nat} {M : LM} {w0 : World} {V : Vl} {hp : Nat → Ent} {w w' : World}

theorem fresh_ents : ∀ (t : Ty) (d : t.den) (nx : Nat), (fresh t d nx).2 = (fresh t d 0).2 := by
  intro t
  induction t with
  | int k => intro d nx; rfl
  | bool => intro d nx; rfl
  | str => intro d nx; rfl
  | sl e ih => intro d nx; rfl
  | st t ih => intro d nx; exact ih d nx
  | pr a b iha ihb =>
    intro d nx
    show lapp (fresh a d.1 nx).2 (fresh b d.2 (nx + llen (fresh a d.1 nx).2)).2 = lapp (fresh a d.1 0).2 (fresh b d.2 (0 + llen (fresh a d.1 0).2)).2
    rw [iha d.1 nx, ihb d.2 (nx + _), ihb d.2 (0 + _)]
  | ptr t ih => intro d nx; rfl
  | clo f t ih => intro d nx; rfl

/-- What is lent, name by name. -/
structure Lent (V : Vl) (hp : Nat → Ent) (ns : List (Option Nat)) (es : List Ent) : Prop where
  len : ns.length = es.length
  row : ∀ (j n : Nat), ns[j]? = some (some n) → ∃ fr e xs, hp n = .row fr e xs ∧ e.flat = true ∧ es[j]? = some (.row true e xs)
  nil : ∀ (j : Nat), ns[j]? = some none → ∃ e, e.flat = true ∧ es[j]? = some (.row true e [])

/-- The names from 'nx' on of the one are the lent names of the other. -/
structure Link (V : Vl) (ns : List (Option Nat)) (es : List Ent) (nx : Nat) (V' : Vl) (hp' : Nat → Ent) : Prop where
  ent : ∀ (j : Nat) e xs, es[j]? = some (.row true e xs) → hp' (nx + j) = .row false e xs
  row : ∀ (j n : Nat), ns[j]? = some (some n) → (V'.has (nx + j) ↔ V.has n) ∧ V'.blk (nx + j) = V.blk n
  nil : ∀ (j : Nat), ns[j]? = some none → ¬ V'.has (nx + j)

theorem mem_namesOf : ∀ {ns : List (Option Nat)} {j m : Nat}, ns[j]? = some (some m) → m ∈ namesOf ns
  | [], j, m, h => by cases h
  | x :: ns, j, m, h => by
    cases j with
    | zero => simp only [List.getElem?_cons_zero, Option.some.injEq] at h; subst h; exact List.mem_cons_self ..
    | succ j =>
      have := mem_namesOf (ns := ns) (j := j) (m := m) (by simpa using h)
      cases x with
      | none => exact this
      | some y => exact List.mem_cons_of_mem _ this

theorem namesOf_mem : ∀ {ns : List (Option Nat)} {m : Nat}, m ∈ namesOf ns → ∃ j : Nat, ns[j]? = some (some m)
  | [], m, h => by cases h
  | x :: ns, m, h => by
    cases x with
    | none => obtain ⟨j, hj⟩ := namesOf_mem (ns := ns) h; exact ⟨j + 1, by simpa using hj⟩
    | some y =>
      rcases List.mem_cons.1 (show m ∈ y :: namesOf ns from h) with rfl | h
      · exact ⟨0, rfl⟩
      · obtain ⟨j, hj⟩ := namesOf_mem (ns := ns) h; exact ⟨j + 1, by simpa using hj⟩

theorem namesOf_inj : ∀ {ns : List (Option Nat)}, (namesOf ns).Nodup → ∀ {j j' m : Nat}, ns[j]? = some (some m) → ns[j']? = some (some m) → j = j'
  | [], _, j, j', m, h, _ => by cases h
  | x :: ns, hnd, j, j', m, h, h' => by
    have hr : (namesOf ns).Nodup := by
      cases x with
      | none => exact hnd
      | some y => exact (List.nodup_cons.1 (show (y :: namesOf ns).Nodup from hnd)).2
    have hx : x = some m → m ∉ namesOf ns := by
      intro e; subst e
      exact (List.nodup_cons.1 (show (m :: namesOf ns).Nodup from hnd)).1
    cases j with
    | zero =>
      cases j' with
      | zero => rfl
      | succ j' =>
        simp only [List.getElem?_cons_zero, Option.some.injEq] at h
        exact absurd (mem_namesOf (ns := ns) (j := j') (by simpa using h')) (hx h)
    | succ j =>
      cases j' with
      | zero =>
        simp only [List.getElem?_cons_zero, Option.some.injEq] at h'
        exact absurd (mem_namesOf (ns := ns) (j := j) (by simpa using h)) (hx h')
      | succ j' => rw [namesOf_inj hr (j := j) (j' := j') (m := m) (by simpa using h) (by simpa using h')]

theorem lendC_ok (he : ∀ n, (hp n).ok V hp w n) : ∀ (t : Ty) {cs : List C} {d : t.den} {ns : List (Option Nat)} {rest : List C} {vs : List Value}, t.lendable = true → lendC hp t cs = some (d, ns, rest) → okAll V hp w cs vs →
    ∃ vs1 vs2, vs = vs1 ++ vs2 ∧ okAll V hp w rest vs2 ∧ t.wf d ∧ Lent V hp ns (fresh t d 0).2 ∧
      ∀ nx V' hp', Link V ns (fresh t d 0).2 nx V' hp' → okAll V' hp' w (fresh t d nx).1 vs1 := by
  intro t
  induction t with
  | int k =>
    intro cs d ns rest vs _ h ho
    simp only [lendC] at h
    split at h
    · rename_i x r hh
      injection h with h; injection h with h1 h2; injection h2 with h2 h3; subst h1; subst h2; subst h3
      obtain ⟨c, rfl, hc⟩ := head1_some hh
      obtain ⟨v, vs', rfl, h1, h2⟩ := okAll_cons' ho
      obtain ⟨rfl, h3⟩ := rdInt_ok hc h1
      exact ⟨[_], vs', rfl, h2, h3, ⟨rfl, (fun j n h => by cases h), (fun j h => by cases h)⟩, fun nx V' hp' _ => okAll_cons_mk ⟨rfl, h3⟩ okAll_nil⟩
    · cases h
  | bool =>
    intro cs d ns rest vs _ h ho
    simp only [lendC] at h
    split at h
    · rename_i x r hh
      injection h with h; injection h with h1 h2; injection h2 with h2 h3; subst h1; subst h2; subst h3
      obtain ⟨c, rfl, hc⟩ := head1_some hh
      obtain ⟨v, vs', rfl, h1, h2⟩ := okAll_cons' ho
      have h3 := rdBool_ok hc h1
      subst h3
      exact ⟨[_], vs', rfl, h2, trivial, ⟨rfl, (fun j n h => by cases h), (fun j h => by cases h)⟩, fun nx V' hp' _ => okAll_cons_mk ⟨rfl, trivial⟩ okAll_nil⟩
    · cases h
  | str =>
    intro cs d ns rest vs _ h ho
    simp only [lendC] at h
    split at h
    · rename_i x r hh
      injection h with h; injection h with h1 h2; injection h2 with h2 h3; subst h1; subst h2; subst h3
      obtain ⟨c, rfl, hc⟩ := head1_some hh
      obtain ⟨v, vs', rfl, h1, h2⟩ := okAll_cons' ho
      obtain ⟨rfl, h3⟩ := rdStr_ok hc h1
      exact ⟨[_], vs', rfl, h2, h3, ⟨rfl, (fun j n h => by cases h), (fun j h => by cases h)⟩, fun nx V' hp' _ => okAll_cons_mk ⟨rfl, h3⟩ okAll_nil⟩
    · cases h
  | sl e ih =>
    intro cs d ns rest vs hfl h ho
    have hfl : e.flat = true := hfl
    simp only [lendC] at h
    split at h
    · rename_i x n r hh
      injection h with h; injection h with h1 h2; injection h2 with h2 h3; subst h1; subst h2; subst h3
      obtain ⟨c, rfl, hc⟩ := head1_some hh
      obtain ⟨v, vs', rfl, h1, h2⟩ := okAll_cons' ho
      refine ⟨[v], vs', rfl, h2, ?_⟩
      unfold lendSl at hc
      split at hc
      · rename_i m
        split at hc
        · rename_i e' xs hm
          split at hc
          · rename_i hk; subst hk
            injection hc with hc; injection hc with q1 q2; subst q1; subst q2
            obtain ⟨fr2, e2, xs2, q3, q4⟩ := h1
            rw [hm] at q3
            injection q3 with q5 q6 q7
            subst q5; subst q6; cases q7
            refine ⟨?_, ⟨rfl, fun j n hj => ?_, fun j hj => ?_⟩, fun nx V' hp' hl => ?_⟩
            · have h0 := he m
              rw [hm] at h0
              rcases h0 with ⟨_, rfl⟩ | ⟨_, vals, el, _, k1, k2⟩
              · exact ⟨Nat.zero_le _, fun x hx => by cases hx⟩
              · refine ⟨k1, fun x hx => ?_⟩
                obtain ⟨i, hi, rfl⟩ := List.getElem_of_mem hx
                obtain ⟨es, _, _, k3⟩ := k2 i hi
                exact k3.wf
            · cases j with
              | zero => simp only [List.getElem?_cons_zero, Option.some.injEq] at hj; subst hj; exact ⟨_, _, _, hm, hfl, rfl⟩
              | succ j => simp at hj
            · cases j with
              | zero => simp only [List.getElem?_cons_zero, Option.some.injEq] at hj; cases hj
              | succ j => simp at hj
            · obtain ⟨a1, a2⟩ := hl.row 0 m rfl
              have a3 := hl.ent 0 e' xs rfl
              rw [Nat.add_zero] at a1 a2 a3
              refine okAll_cons_mk ⟨_, _, _, a3, ?_⟩ okAll_nil
              rcases q4 with ⟨b1, b2, b3⟩ | ⟨b1, cap, vals, el, b2, b3, b4, b5⟩
              · exact .inl ⟨fun h => b1 (a1.1 h), b2, b3⟩
              · exact .inr ⟨a1.2 b1, cap, vals, el, by rw [a2]; exact b2, by rw [a2]; exact b3, b4, b5⟩
          · cases hc
        · cases hc
      · injection hc with hc; injection hc with q1 q2; subst q1; subst q2
        refine ⟨⟨Nat.zero_le _, fun x hx => by cases hx⟩, ⟨rfl, fun j n hj => ?_, fun j hj => ?_⟩, fun nx V' hp' hl => ?_⟩
        · cases j with
          | zero => simp only [List.getElem?_cons_zero, Option.some.injEq] at hj; cases hj
          | succ j => simp at hj
        · cases j with
          | zero => exact ⟨e, hfl, rfl⟩
          | succ j => simp at hj
        · have a1 := hl.nil 0 rfl
          have a3 := hl.ent 0 e [] rfl
          rw [Nat.add_zero] at a1 a3
          exact okAll_cons_mk ⟨_, _, _, a3, .inl ⟨a1, h1.1, rfl⟩⟩ okAll_nil
      · cases hc
    · cases h
  | st t ih => exact fun hl h ho => ih hl h ho
  | pr a b iha ihb =>
    intro cs d ns rest vs hfl h ho
    have hfl' : (a.lendable && b.lendable) = true := hfl
    rw [Bool.and_eq_true] at hfl'
    simp only [lendC] at h
    split at h
    · rename_i x ns1 r1 hx
      split at h
      · rename_i y ns2 r2 hy
        injection h with h; injection h with h1 h2; injection h2 with h2 h3; subst h1; subst h2; subst h3
        obtain ⟨u1, u2, rfl, k1, k2, k3, k4⟩ := iha hfl'.1 hx ho
        obtain ⟨u3, u4, rfl, l1, l2, l3, l4⟩ := ihb hfl'.2 hy k1
        have hes : (fresh (.pr a b) (x, y) 0).2 = (fresh a x 0).2 ++ (fresh b y 0).2 := by
          show lapp (fresh a x 0).2 (fresh b y (0 + llen (fresh a x 0).2)).2 = _
          rw [lapp_eq, fresh_ents b]
        rw [lapp_eq, hes]
        refine ⟨u1 ++ u3, u4, by rw [List.append_assoc], l1, ⟨k2, l2⟩, ⟨by simp [k3.len, l3.len], fun j n hj => ?_, fun j hj => ?_⟩, fun nx V' hp' hl => ?_⟩
        · rw [List.getElem?_append] at hj
          split at hj
          · rename_i hlt
            obtain ⟨fr, e, xs, g1, g2, g3⟩ := k3.row j n hj
            exact ⟨fr, e, xs, g1, g2, by rw [List.getElem?_append_left (by rw [← k3.len]; exact hlt)]; exact g3⟩
          · rename_i hlt
            obtain ⟨fr, e, xs, g1, g2, g3⟩ := l3.row (j - ns1.length) n hj
            exact ⟨fr, e, xs, g1, g2, by rw [List.getElem?_append_right (by rw [← k3.len]; omega), ← k3.len]; exact g3⟩
        · rw [List.getElem?_append] at hj
          split at hj
          · rename_i hlt
            obtain ⟨e, g2, g3⟩ := k3.nil j hj
            exact ⟨e, g2, by rw [List.getElem?_append_left (by rw [← k3.len]; exact hlt)]; exact g3⟩
          · rename_i hlt
            obtain ⟨e, g2, g3⟩ := l3.nil (j - ns1.length) hj
            exact ⟨e, g2, by rw [List.getElem?_append_right (by rw [← k3.len]; omega), ← k3.len]; exact g3⟩
        · have c1 : (fresh (.pr a b) (x, y) nx).1 = (fresh a x nx).1 ++ (fresh b y (nx + ns1.length)).1 := by
            show lapp (fresh a x nx).1 (fresh b y (nx + llen (fresh a x nx).2)).1 = _
            rw [lapp_eq, llen_eq, fresh_ents a, k3.len]
          rw [c1]
          refine okAll_append (k4 nx V' hp' ⟨fun j e xs hj => hl.ent j e xs ?_, fun j n hj => hl.row j n ?_, fun j hj => hl.nil j ?_⟩)
            (l4 (nx + ns1.length) V' hp' ⟨fun j e xs hj => ?_, fun j n hj => ?_, fun j hj => ?_⟩)
          · rw [List.getElem?_append_left (List.getElem?_eq_some_iff.1 hj).1]; exact hj
          · rw [List.getElem?_append_left (List.getElem?_eq_some_iff.1 hj).1]; exact hj
          · rw [List.getElem?_append_left (List.getElem?_eq_some_iff.1 hj).1]; exact hj
          · rw [Nat.add_assoc]
            refine hl.ent (ns1.length + j) e xs ?_
            rw [List.getElem?_append_right (by rw [← k3.len]; omega), ← k3.len, Nat.add_sub_cancel_left]; exact hj
          · rw [Nat.add_assoc]
            refine hl.row (ns1.length + j) n ?_
            rw [List.getElem?_append_right (by omega), Nat.add_sub_cancel_left]; exact hj
          · rw [Nat.add_assoc]
            refine hl.nil (ns1.length + j) ?_
            rw [List.getElem?_append_right (by omega), Nat.add_sub_cancel_left]; exact hj
      · cases h
    · cases h
  | ptr t ih => intro cs d ns rest vs h; cases h
  | clo f t ih => intro cs d ns rest vs h; cases h

theorem lendS_ok (he : ∀ n, (hp n).ok V hp w n) {t : Ty} {s : S} {d : t.den} {ns : List (Option Nat)} {v : Value} (hl : t.lendable = true) (h : lendS hp t s = some (d, ns)) (ho : S.ok V hp w s v) :
    t.wf d ∧ Lent V hp ns (fresh t d 0).2 ∧ ∀ V' hp', Link V ns (fresh t d 0).2 0 V' hp' → S.ok V' hp' w (topS (isSt t, (fresh t d 0).1)) v := by
  unfold lendS at h
  split at h
  · rename_i x
    split at h
    · cases h
    · rename_i hst
      split at h
      · rename_i d' ns' hc
        injection h with h; injection h with h1 h2; subst h1; subst h2
        obtain ⟨vs1, vs2, e1, k1, k2, k3, k4⟩ := lendC_ok he t (vs := [v]) hl hc (okAll_cons_mk ho okAll_nil)
        have hv2 : vs2 = [] := by have := k1.1; simpa using this.symm
        subst hv2
        rw [List.append_nil] at e1
        subst e1
        refine ⟨k2, k3, fun V' hp' hk => ?_⟩
        have ho' := k4 0 V' hp' hk
        unfold topS
        rw [if_neg (by simpa using hst)]
        have hl1 := ho'.1
        split
        · rename_i c hcc
          simp only at hcc
          rw [hcc] at ho'
          exact ho'.2 0 c v rfl rfl
        · trivial
      · cases h
  · rename_i cs
    split at h
    · rename_i hst
      split at h
      · rename_i d' ns' hc
        injection h with h; injection h with h1 h2; subst h1; subst h2
        obtain ⟨us, rfl, ho⟩ := ho
        obtain ⟨vs1, vs2, e1, k1, k2, k3, k4⟩ := lendC_ok he t hl hc ho
        have hv2 : vs2 = [] := by have := k1.1; simpa using this.symm
        subst hv2
        rw [List.append_nil] at e1
        refine ⟨k2, k3, fun V' hp' hk => ?_⟩
        have ho' := k4 0 V' hp' hk
        unfold topS
        rw [if_pos hst]
        exact ⟨us, rfl, by rw [e1]; exact ho'⟩
      · cases h
    · cases h
  · cases h

/-- The heap has grown; nothing else. -/
theorem rel_grow {st : St} {ts : Array Value} (r : Rel base M w0 V st ts w) (k : Kept w.heap.size noM w w') : Rel base M w0 V st ts w' := by
  have m := r.mem
  have x : VX V st.ent w V st.ent w' := ⟨fun _ _ => ⟨rfl, Iff.rfl, rfl⟩, fun _ h => h, fun _ h => h, fun b h => k.block b (m.z_lt h) (fun x => x), fun n hl hh => k.block _ (m.own n hl hh).2.1 (fun x => x)⟩
  refine ⟨r.len, fun i s v hs hv => S.ok_ext x (r.slots i s v hs hv), ?_⟩
  have hsz := k.size
  refine ⟨fun n => ?_, m.box, fun n hl hh => ?_, m.mine, m.dist, m.z0, fun b hb => ?_, m.kept.trans k, m.lent⟩
  · cases hl : (st.ent n).live with
    | true => exact Ent.ok_ext x (m.ents n) (fun cs => m.box n cs) hl
    | false =>
      cases he : st.ent n with
      | dead => trivial
      | bx cs => rw [he] at hl; cases hl
      | row fr e xs => rw [he] at hl; cases hl
  · obtain ⟨h1, h2, h3⟩ := m.own n hl hh
    exact ⟨h1, by omega, h3⟩
  · obtain ⟨h1, h2⟩ := m.z1 b hb
    exact ⟨h1, by omega⟩

theorem lset_self (hp : List Ent) (n : Nat) (h : n < hp.length) : lset hp n (nth .dead hp n) = hp := by
  rw [lset_eq, nth_eq, List.getElem?_eq_getElem h]
  simp

/-- A row's content has changed; no word of a part of it is left. -/
theorem rel_rewr {st : St} {ts : Array Value} (r : Rel base M w0 V st ts w) {n : Nat} {fr : Bool} {e : Ty} {xs ys : List e.den} (hn : st.ent n = .row fr e xs) (hfl : e.flat = true) (hlen : ys.length = xs.length)
    (hblk : ∀ b, (V.has n → b ≠ V.blk n) → w'.heap[b]? = w.heap[b]?) (hos : w'.os = w.os ∧ w'.tape = w.tape ∧ w'.output = w.output) (hsz : w'.heap.size = w.heap.size)
    (hc : V.has n → ∃ vals el vals' el', w.heap[V.blk n]? = some (.cells vals el (0, 0)) ∧ w'.heap[V.blk n]? = some (.cells vals' el' (0, 0)) ∧ vals'.size = vals.size ∧ RowAt anyZ w' e vals' ys) :
    Rel base M w0 V { (st.map (killB n)) with hp := lset (st.map (killB n)).hp n (.row fr e ys) } ts w' := by
  have m := r.mem
  have hl : (st.ent n).live = true := by rw [hn]; rfl
  have hok := m.ents n
  rw [hn] at hok
  by_cases hh : V.has n
  · obtain ⟨vals, el, vals', el', k1, k2, k3, k4⟩ := hc hh
    rcases hok with ⟨q, _⟩ | ⟨_, vals0, el0, q1, q2, q3⟩
    · exact absurd hh q
    · have hown := m.own n hl hh
      have kw : Wr V st.ent w n (hpSet st.ent n (.row fr e ys)) w' :=
        ⟨fun k hk => by simp only [hpSet, if_neg hk], fun b hb => hblk b (fun _ => hb), hh, .inr ⟨fr, fr, e, xs, ys, hn, by simp only [hpSet, if_true], hlen.symm, vals, vals', el, el', k1, k2, k3.symm⟩⟩
      have hk' : Kept base M w0 w' := by
        refine ⟨hos.1.trans m.kept.os, hos.2.1.trans m.kept.tape, hos.2.2.trans m.kept.output, by rw [hsz]; exact m.kept.size, fun b hb hM => ?_, fun b v2 e2 hb hM hv => ?_⟩
        · rw [hblk b (fun _ e => by subst e; rcases hown.1 with h | h; omega; exact hM h)]
          exact m.kept.block b hb hM
        · obtain ⟨v3, e3, h3, h4⟩ := m.kept.shape b v2 e2 hb hM hv
          by_cases hbe : b = V.blk n
          · subst hbe
            rw [k1] at h3
            injection h3 with h3
            injection h3 with h3 _ _
            subst h3
            exact ⟨vals', el', k2, by rw [k3]; exact h4⟩
          · exact ⟨v3, e3, by rw [hblk b (fun _ => hbe)]; exact h3, h4⟩
      refine rel_write r kw rfl hk' hsz ?_ (fun e2 xs2 heq => ?_) (fun cs heq => by cases heq) (fun hlt => ?_)
      · refine .inr ⟨hh, vals', el', k2, by rw [hlen]; exact q2, fun i hi => ?_⟩
        obtain ⟨es, a1, a2, a3⟩ := k4 i hi
        exact ⟨es, a1, a2, a3.flat hfl⟩
      · injection heq with h1 h2 h3
        subst h1
        exact m.mine n e xs hn hh
      · refine m.lent n ?_ hh
        rw [hn]
        cases fr with
        | true => exact hlt.elim
        | false => exact hfl
  · rcases hok with ⟨_, q⟩ | ⟨q, _⟩
    · have hy : ys = xs := by rw [q] at hlen ⊢; exact List.length_eq_zero_iff.1 hlen
      rw [hy]
      have r1 := (rel_grow (w' := w') r ⟨hos.1, hos.2.1, hos.2.2, by omega, fun b _ _ => hblk b (fun h => absurd h hh), fun _ _ _ _ h _ => h.elim⟩).kill (kills_killB n)
      have hlt : n < (st.map (killB n)).hp.length := by
        show n < (lmap _ _).length
        rw [lmap_eq, List.length_map]; exact ent_lt hl
      have he : (st.map (killB n)).ent n = .row fr e xs := by
        rw [ent_map]; show (st.ent n).map _ = _; rw [hn]; rfl
      have hs := lset_self (st.map (killB n)).hp n hlt
      rw [show nth .dead (st.map (killB n)).hp n = .row fr e xs from he] at hs
      rw [hs]
      exact r1
    · exact absurd q hh

theorem rewr_ent {st : St} {n m : Nat} {fr fr' : Bool} {e : Ty} {xs : List e.den} {fr2 : Bool} {e2 : Ty} {ys : List e2.den} (hn : st.ent n = .row fr e xs) (hm : m ≠ n) {f3 : Bool} {e3 : Ty} {zs : List e3.den} (h : st.ent m = .row f3 e3 zs) :
    (st.rewr n (.row fr2 e2 ys)).ent m = .row f3 e3 zs := by
  unfold St.rewr
  rw [hn]
  simp only
  have hlt : n < (st.map (killB n)).hp.length := by
    show n < (lmap _ _).length
    rw [lmap_eq, List.length_map]; exact ent_lt (by rw [hn]; rfl)
  rw [ent_set hlt]
  simp only [hpSet, if_neg hm]
  show (st.map (killB n)).ent m = _
  rw [ent_map]
  show (st.ent m).map _ = _
  rw [h]; rfl

/-- Several rows' contents have changed. -/
theorem rel_rewrs {ts : Array Value} : ∀ (ns : List (Option Nat)) (es : List Ent) {st : St} {w : World}, Rel base M w0 V st ts w → (namesOf ns).Nodup → ns.length = es.length →
    (w.heap.size ≤ w'.heap.size ∧ w'.os = w.os ∧ w'.tape = w.tape ∧ w'.output = w.output) → (∀ b, b < w.heap.size → (∀ n ∈ namesOf ns, V.has n → b ≠ V.blk n) → w'.heap[b]? = w.heap[b]?) →
    (∀ (j n : Nat) e, ns[j]? = some (some n) → es[j]? = some e → ∃ fr ty xs ys, st.ent n = .row fr ty xs ∧ ty.flat = true ∧ e = .row true ty ys ∧ ys.length = xs.length ∧
      (V.has n → ∃ vals el vals' el', w.heap[V.blk n]? = some (.cells vals el (0, 0)) ∧ w'.heap[V.blk n]? = some (.cells vals' el' (0, 0)) ∧ vals'.size = vals.size ∧ RowAt anyZ w' ty vals' ys)) →
    Rel base M w0 V (st.rewrs ns es) ts w'
  | [], es, st, w, r, _, _, ho, hb, _ => by
    have : st.rewrs [] es = st := by unfold St.rewrs; rfl
    rw [this]
    exact rel_grow r ⟨ho.2.1, ho.2.2.1, ho.2.2.2, ho.1, fun b hlt _ => hb b hlt (fun n hn => by cases hn), fun _ _ _ _ h _ => h.elim⟩
  | none :: ns, e :: es, st, w, r, hnd, hl, ho, hb, hrow => by
    have : st.rewrs (none :: ns) (e :: es) = st.rewrs ns es := by rw [St.rewrs]
    rw [this]
    exact rel_rewrs ns es r hnd (by simpa using hl) ho hb (fun j n e h1 h2 => hrow (j + 1) n e (by simpa using h1) (by simpa using h2))
  | some n :: ns, e :: es, st, w, r, hnd, hl, ho, hb, hrow => by
    have : st.rewrs (some n :: ns) (e :: es) = (st.rewr n e).rewrs ns es := by rw [St.rewrs]
    rw [this]
    have hnd' : (n :: namesOf ns).Nodup := hnd
    rw [List.nodup_cons] at hnd'
    obtain ⟨fr, ty, xs, ys, h1, h2, h3, h4, h5⟩ := hrow 0 n e rfl rfl
    subst h3
    -- the world in which row n alone has changed
    obtain ⟨w1, hw1⟩ : ∃ w1 : World, w1.os = w.os ∧ w1.tape = w.tape ∧ w1.output = w.output ∧ w1.heap.size = w.heap.size ∧ (∀ b, (V.has n → b ≠ V.blk n) → w1.heap[b]? = w.heap[b]?) ∧ (V.has n → w1.heap[V.blk n]? = w'.heap[V.blk n]?) := by
      by_cases hh : V.has n
      · obtain ⟨vals, el, vals', el', k1, k2, _, _⟩ := h5 hh
        have hlt : V.blk n < w.heap.size := (Array.getElem?_eq_some_iff.1 k1).1
        refine ⟨{ w with heap := w.heap.setIfInBounds (V.blk n) (.cells vals' el' (0, 0)) }, rfl, rfl, rfl, by simp, fun b hb' => ?_, fun _ => ?_⟩
        · show (w.heap.setIfInBounds _ _)[b]? = _
          rw [Array.getElem?_setIfInBounds, if_neg (fun e => hb' hh e.symm)]
        · show (w.heap.setIfInBounds _ _)[V.blk n]? = _
          rw [Array.getElem?_setIfInBounds, if_pos rfl, if_pos hlt, k2]
      · exact ⟨w, rfl, rfl, rfl, rfl, fun _ _ => rfl, fun h => absurd h hh⟩
    obtain ⟨o1, o2, o3, o4, o5, o6⟩ := hw1
    have r1 : Rel base M w0 V (st.rewr n (.row true ty ys)) ts w1 := by
      have hs : st.rewr n (.row true ty ys) = { (st.map (killB n)) with hp := lset (st.map (killB n)).hp n (.row fr ty ys) } := by unfold St.rewr; rw [h1]
      rw [hs]
      refine rel_rewr r h1 h2 h4 o5 ⟨o1, o2, o3⟩ o4 (fun hh => ?_)
      obtain ⟨vals, el, vals', el', k1, k2, k3, k4⟩ := h5 hh
      exact ⟨vals, el, vals', el', k1, by rw [o6 hh]; exact k2, k3, fun i hi => by obtain ⟨es, a1, a2, a3⟩ := k4 i hi; exact ⟨es, a1, a2, a3.flat h2⟩⟩
    refine rel_rewrs ns es r1 hnd'.2 (by simpa using hl) ⟨by rw [o4]; exact ho.1, by rw [o1]; exact ho.2.1, by rw [o2]; exact ho.2.2.1, by rw [o3]; exact ho.2.2.2⟩ (fun b hlt hb' => ?_) (fun j m e' hj he' => ?_)
    · rw [o4] at hlt
      by_cases hbn : V.has n ∧ b = V.blk n
      · rw [hbn.2, o6 hbn.1]
      · rw [o5 b (fun hh e => hbn ⟨hh, e⟩)]
        refine hb b hlt (fun m hm hh e => ?_)
        rcases List.mem_cons.1 (show m ∈ n :: namesOf ns from hm) with rfl | hm
        · exact hbn ⟨hh, e⟩
        · exact hb' m hm hh e
    · obtain ⟨fr2, ty2, xs2, ys2, g1, g2, g3, g4, g5⟩ := hrow (j + 1) m e' (by simpa using hj) (by simpa using he')
      have hmn : m ≠ n := fun e => hnd'.1 (by rw [← e]; exact mem_namesOf hj)
      refine ⟨fr2, ty2, xs2, ys2, rewr_ent (fr' := true) h1 hmn g1, g2, g3, g4, fun hh => ?_⟩
      obtain ⟨vals, el, vals', el', k1, k2, k3, k4⟩ := g5 hh
      refine ⟨vals, el, vals', el', ?_, k2, k3, k4⟩
      rw [o5 _ (fun hhn e => hmn (r.mem.dist m n (by rw [g1]; rfl) (by rw [h1]; rfl) hh hhn e))]
      exact k1
  | some n :: ns, [], st, w, r, hnd, hl, ho, hb, hrow => by simp at hl
  | none :: ns, [], st, w, r, hnd, hl, ho, hb, hrow => by simp at hl

theorem sameLen_get : ∀ {as bs : List Ent}, toP (sameLen as bs) → as.length = bs.length ∧ ∀ (j : Nat) (f : Bool) (e : Ty) (xs : List e.den), as[j]? = some (.row f e xs) → ∃ f' ys, bs[j]? = some (.row f' e ys) ∧ ys.length = xs.length
  | [], [], _ => ⟨rfl, fun j f e xs h => by cases h⟩
  | [], b :: bs, h => by cases b <;> exact h.elim
  | a :: as, [], h => by cases a <;> exact h.elim
  | .dead :: as, b :: bs, h => by cases b <;> exact h.elim
  | .bx cs :: as, b :: bs, h => by cases b <;> exact h.elim
  | .row f e xs :: as, .dead :: bs, h => h.elim
  | .row f e xs :: as, .bx cs :: bs, h => h.elim
  | .row f e xs :: as, .row f' e' ys :: bs, h => by
    unfold sameLen at h
    split at h
    · rename_i he
      subst he
      obtain ⟨h1, h2⟩ := toP_oand.1 h
      have h1 : ys.length = xs.length := h1
      obtain ⟨h3, h4⟩ := sameLen_get h2
      refine ⟨by simp [h3], fun j f2 e2 xs2 hj => ?_⟩
      cases j with
      | zero =>
        simp only [List.getElem?_cons_zero, Option.some.injEq, Ent.row.injEq] at hj
        obtain ⟨q1, q2, q3⟩ := hj
        subst q2; cases q3
        exact ⟨f', ys, rfl, h1⟩
      | succ j => exact h4 j f2 e2 xs2 (by simpa using hj)
    · exact h.elim

theorem rowsAre_get {lk : Nat → Ent} : ∀ {es : List Ent} {k : Nat}, toP (rowsAre lk k es) → ∀ (j : Nat) (f : Bool) (e : Ty) (ys : List e.den), es[j]? = some (.row f e ys) → lk (k + j) = .row false e ys
  | [], k, _, j, f, e, ys, h => by cases h
  | .dead :: es, k, h, _, _, _, _, _ => h.elim
  | .bx cs :: es, k, h, _, _, _, _, _ => h.elim
  | .row f0 e0 ys0 :: es, k, h, j, f, e, ys, hj => by
    unfold rowsAre at h
    obtain ⟨h1, h2⟩ := toP_oand.1 h
    cases j with
    | zero =>
      simp only [List.getElem?_cons_zero, Option.some.injEq, Ent.row.injEq] at hj
      obtain ⟨q1, q2, q3⟩ := hj
      subst q2; cases q3
      split at h1
      · rename_i e' xs hlk
        split at h1
        · rename_i he
          subst he
          have h1 : xs = ys0 := h1
          rw [Nat.add_zero, hlk, h1]
        · exact h1.elim
      · exact h1.elim
    | succ j =>
      have := rowsAre_get h2 j f e ys (by simpa using hj)
      rw [← this]; congr 1; omega

theorem fresh_true : ∀ (t : Ty) (d : t.den) (nx : Nat), ∀ e ∈ (fresh t d nx).2, ∀ f ty xs, e = .row f ty xs → f = true := by
  intro t
  induction t with
  | int k => intro d nx e he; simp [fresh] at he
  | bool => intro d nx e he; simp [fresh] at he
  | str => intro d nx e he; simp [fresh] at he
  | sl e ih => intro d nx e' he f ty xs h; simp [fresh] at he; rw [he] at h; injection h with h; exact h.symm
  | st t ih => exact fun d nx e he => ih d nx e he
  | pr a b iha ihb =>
    intro d nx e he
    unfold fresh at he
    simp only [lapp_eq, List.mem_append] at he
    exact he.elim (iha _ _ e) (ihb _ _ e)
  | ptr t ih => intro d nx e he; simp [fresh] at he
  | clo f t ih => intro d nx e he; simp [fresh] at he

/-- A function that writes into the rows of its first argument keeps its rule. -/
theorem vcMut_rule (hm : P.follows .mixedOrders = true) (hT : TabOk P T) (hΓ : GamOk P Γ) (hR : RulesOk P R) {f : FuncId} {fn : Func} (hf : P.funcs[f]? = some fn) {mc : MC} {A : mc.t.den → Int → Nat → Option Ann}
    (hl : mc.t.lendable = true) (h : vcMut T Γ R fn mc A) : RuleOk P f (ruleOf mc) := by
  intro base M w0 V st ts w ss vs K r hlen hslots hrule
  unfold ruleOf at hrule
  split at hrule
  · rename_i s k
    split at hrule
    · rename_i d ns hlend
      split at hrule
      · rename_i hnd
        obtain ⟨hpre, hK⟩ := hrule
        have hnd := nodupN_ok hnd
        match vs, hlen with
        | [v, u], _ =>
          have hv := hslots 0 s v rfl rfl
          have hu : u = .int .i64 k ∧ IntKind.i64.min ≤ k ∧ k ≤ IntKind.i64.max := ok_int (V := V) (hp := st.ent) (w := w) (hslots 1 _ u rfl rfl)
          obtain ⟨rfl, hkr⟩ := hu
          have mm := r.mem
          obtain ⟨hwf, hL, hslot⟩ := lendS_ok mm.ents hl hlend hv
          unfold vcMut at h
          split at h
          · rename_i code hb
            obtain ⟨hsame, hvc⟩ := h d k hwf hkr hpre
            obtain ⟨sl1, sl2⟩ := sameLen_get hsame
            generalize hes : (fresh mc.t d 0).2 = es at *
            generalize hes' : (fresh mc.t (mc.G d k) 0).2 = es' at *
            -- the callee's names
            let V0 : Vl := ⟨fun j => match ns[j]? with | some (some n) => V.blk n | _ => 0, fun j => match ns[j]? with | some (some n) => V.has n | _ => False, fun _ => False, fun _ => False⟩
            let M0 : LM := ⟨fun b => ∃ (j n : Nat), ns[j]? = some (some n) ∧ V.has n ∧ b = V.blk n, fun b j => ∃ n : Nat, ns[j]? = some (some n) ∧ V.has n ∧ b = V.blk n⟩
            have hrow : ∀ (j n : Nat), ns[j]? = some (some n) → (V0.has j ↔ V.has n) ∧ V0.blk j = V.blk n := by
              intro j n hj
              show ((match ns[j]? with | some (some n) => V.has n | _ => False) ↔ _) ∧ (match ns[j]? with | some (some n) => V.blk n | _ => 0) = _
              rw [hj]; exact ⟨Iff.rfl, rfl⟩
            have hnil : ∀ (j : Nat), (∀ n, ns[j]? ≠ some (some n)) → ¬ V0.has j := by
              intro j hj hh
              have hh : (match ns[j]? with | some (some n) => V.has n | _ => False) := hh
              split at hh
              · rename_i n hn; exact hj n hn
              · exact hh
            have hhas : ∀ (j : Nat), V0.has j → ∃ n, ns[j]? = some (some n) ∧ V.has n ∧ V0.blk j = V.blk n := by
              intro j hh
              by_cases hx : ∃ n, ns[j]? = some (some n)
              · obtain ⟨n, hn⟩ := hx
                exact ⟨n, hn, (hrow j n hn).1.1 hh, (hrow j n hn).2⟩
              · exact absurd hh (hnil j (fun n hn => hx ⟨n, hn⟩))
            have hent0 : ∀ (j : Nat), (startM mc.t d k fn.ntmps).ent j = match es[j]? with | some e => e.old | none => .dead := by
              intro j
              show nth .dead (lmap Ent.old (fresh mc.t d 0).2) j = _
              rw [hes, nth_eq, lmap_eq, List.getElem?_map]
              cases es[j]? <;> rfl
            have hrows : ∀ (j : Nat) e, es[j]? = some e → ∃ ty xs, e = .row true ty xs ∧ ty.flat = true := by
              intro j e hj
              have hlt : j < ns.length := by rw [hL.len]; exact (List.getElem?_eq_some_iff.1 hj).1
              have hn : ns[j]? = some ns[j] := List.getElem?_eq_getElem hlt
              cases hx : ns[j] with
              | none =>
                rw [hx] at hn
                obtain ⟨ty, g1, g2⟩ := hL.nil j hn
                rw [hj] at g2; injection g2 with g2; exact ⟨ty, [], g2, g1⟩
              | some n =>
                rw [hx] at hn
                obtain ⟨fr, ty, xs, _, g1, g2⟩ := hL.row j n hn
                rw [hj] at g2; injection g2 with g2; exact ⟨ty, xs, g2, g1⟩
            have hent1 : ∀ (j : Nat) e xs, (startM mc.t d k fn.ntmps).ent j = .row false e xs → es[j]? = some (.row true e xs) := by
              intro j e xs hj
              rw [hent0] at hj
              cases hx : es[j]? with
              | none => rw [hx] at hj; cases hj
              | some e' =>
                obtain ⟨ty, ys, rfl, _⟩ := hrows j e' hx
                rw [hx] at hj
                have hj' : Ent.row false ty ys = .row false e xs := hj
                injection hj' with _ q1 q2
                subst q1; cases q2; rfl
            have hlive : ∀ j, ((startM mc.t d k fn.ntmps).ent j).live = true → ∃ e xs, (startM mc.t d k fn.ntmps).ent j = .row false e xs ∧ e.flat = true := by
              intro j hj
              rw [hent0] at hj ⊢
              cases hx : es[j]? with
              | none => rw [hx] at hj; cases hj
              | some e' =>
                obtain ⟨ty, ys, rfl, hfl⟩ := hrows j e' hx
                exact ⟨ty, ys, rfl, hfl⟩
            have hnoelse : ∀ j fr e xs, (startM mc.t d k fn.ntmps).ent j = .row fr e xs → fr = false := by
              intro j fr e xs hj
              obtain ⟨e2, xs2, q1, _⟩ := hlive j (by rw [hj]; rfl)
              rw [hj] at q1; injection q1
            have hnobx : ∀ j cs, (startM mc.t d k fn.ntmps).ent j ≠ .bx cs := by
              intro j cs hj
              obtain ⟨e2, xs2, q1, _⟩ := hlive j (by rw [hj]; rfl)
              rw [hj] at q1; cases q1
            have hnames : ∀ (j n : Nat), ns[j]? = some (some n) → (st.ent n).live = true := by
              intro j n hj
              obtain ⟨fr, e, xs, q, _⟩ := hL.row j n hj
              rw [q]; rfl
            have mem0 : Mem w.heap.size M0 w V0 (startM mc.t d k fn.ntmps).ent w := by
              refine ⟨fun j => ?_, fun j cs hj => absurd hj (hnobx j cs), fun j hj hh => ?_, fun j e xs hj => absurd (hnoelse j _ e xs hj) (by simp), fun j j' hj hj' hh hh' hb' => ?_, fun b h => h.elim, fun b h => h.elim, ⟨rfl, rfl, rfl, Nat.le_refl _, fun _ _ _ => rfl, fun b v2 e2 _ _ hv2 => ⟨v2, e2, hv2, rfl⟩⟩, fun j hj hh => ?_⟩
              · cases hlv : ((startM mc.t d k fn.ntmps).ent j).live with
                | false =>
                  cases hx : (startM mc.t d k fn.ntmps).ent j with
                  | dead => trivial
                  | bx cs => exact absurd hx (hnobx j cs)
                  | row fr e xs => rw [hx] at hlv; cases hlv
                | true =>
                  obtain ⟨e, xs, hx, hfl⟩ := hlive j hlv
                  rw [hx]
                  have hj := hent1 j e xs hx
                  by_cases hn : ∃ n, ns[j]? = some (some n)
                  · obtain ⟨n, hn⟩ := hn
                    obtain ⟨fr, e', xs', q1, _, q2⟩ := hL.row j n hn
                    rw [hj] at q2; injection q2 with q2; injection q2 with _ q3 q4
                    subst q3; cases q4
                    have h0 := mm.ents n
                    rw [q1] at h0
                    rcases h0 with ⟨a1, a2⟩ | ⟨a1, vals, el, a2, a3, a4⟩
                    · exact .inl ⟨fun hh => a1 ((hrow j n hn).1.1 hh), a2⟩
                    · refine .inr ⟨(hrow j n hn).1.2 a1, vals, el, by rw [(hrow j n hn).2]; exact a2, a3, fun i hi => ?_⟩
                      obtain ⟨es2, b1, b2, b3⟩ := a4 i hi
                      exact ⟨es2, b1, b2, b3.flat hfl⟩
                  · have hlt : j < ns.length := by rw [hL.len]; exact (List.getElem?_eq_some_iff.1 hj).1
                    have hnn : ns[j]? = some none := by
                      have := List.getElem?_eq_getElem hlt
                      cases hx' : ns[j] with
                      | none => rw [hx'] at this; exact this
                      | some n => rw [hx'] at this; exact absurd ⟨n, this⟩ hn
                    obtain ⟨e', _, q2⟩ := hL.nil j hnn
                    rw [hj] at q2; injection q2 with q2; injection q2 with _ q3 q4
                    subst q3; cases q4
                    exact .inl ⟨hnil j (fun n hn' => hn ⟨n, hn'⟩), rfl⟩
              · obtain ⟨n, hn, h2, h3⟩ := hhas j hh
                rw [h3]
                refine ⟨.inr ⟨j, n, hn, h2, rfl⟩, (mm.own n (hnames j n hn) h2).2.1, fun hz => ?_⟩
                rcases hz with hz | ⟨_, hz⟩ <;> exact hz
              · obtain ⟨n, hn, h2, h3⟩ := hhas j hh
                obtain ⟨n', hn', h2', h3'⟩ := hhas j' hh'
                have : n = n' := mm.dist n n' (hnames j n hn) (hnames j' n' hn') h2 h2' (by rw [← h3, ← h3', hb'])
                subst this
                exact namesOf_inj hnd hn hn'
              · obtain ⟨n, hn, h2, h3⟩ := hhas j hh
                exact ⟨n, hn, h2, h3⟩
            have hlink : Link V ns es 0 V0 (startM mc.t d k fn.ntmps).ent := by
              refine ⟨fun j e xs hj => ?_, fun j n hj => ?_, fun j hj => ?_⟩
              · rw [Nat.zero_add, hent0, hj]; rfl
              · rw [Nat.zero_add]; exact hrow j n hj
              · rw [Nat.zero_add]; exact hnil j (fun n hn => by rw [hj] at hn; cases hn)
            have hs0 := hslot V0 (startM mc.t d k fn.ntmps).ent hlink
            have sat0 : Sat w.heap.size M0 w (startM mc.t d k fn.ntmps) { tmps := #[v, .int .i64 k] ++ Array.replicate (fn.ntmps - 2) undef, defers := [] } w := by
              refine ⟨rfl, V0, ⟨?_, fun i s' v' hs' hv' => ?_, mem0⟩⟩
              · show (topS _ :: .c _ :: lrep S.und (fn.ntmps - 2)).length = _
                rw [lrep_eq]; simp; omega
              · have hs' : (topS (isSt mc.t, (fresh mc.t d 0).1) :: .c (.val (.int .i64 k)) :: lrep S.und (fn.ntmps - 2))[i]? = some s' := hs'
                have hv' : ([v, Value.int .i64 k] ++ List.replicate (fn.ntmps - 2) undef)[i]? = some v' := by
                  rw [← hv']
                  simp only [Array.getElem?_append, List.getElem?_append, List.getElem?_toArray, List.size_toArray, Array.getElem?_replicate, List.getElem?_replicate]
                cases i with
                | zero =>
                  simp only [List.getElem?_cons_zero, Option.some.injEq, List.cons_append] at hs' hv'
                  subst hs'; subst hv'; exact hs0
                | succ i =>
                  cases i with
                  | zero =>
                    simp only [List.getElem?_cons_succ, List.getElem?_cons_zero, Option.some.injEq, List.cons_append] at hs' hv'
                    subst hs'; subst hv'; exact ⟨rfl, hkr⟩
                  | succ i =>
                    simp only [List.getElem?_cons_succ, List.cons_append, List.nil_append, lrep_eq, List.getElem?_replicate] at hs' hv'
                    split at hs'
                    · rename_i hi
                      injection hs' with hs'; subst hs'
                      rw [if_pos hi] at hv'
                      injection hv' with hv'; exact hv'.symm
                    · cases hs'
            refine calls_of_wp (args := #[v, .int .i64 k]) hf hb (vc_ok hm hT hΓ hR code (A d k) _ _ _ _ w sat0 hvc (fun e A' st' a' w' hk hs' => ?_))
            obtain ⟨hd, V1, r1⟩ := hs'
            have key : vcPostM T fn mc.t (mc.F d k) (mc.G d k) e st' → (∃ i, e = .exit i) ∨ ∃ v', (results fn a'.tmps).run P w' = .ok v' w' ∧ v' = .int .i64 (mc.F d k) ∧ (IntKind.i64.min ≤ mc.F d k ∧ mc.F d k ≤ IntKind.i64.max) ∧ toP (rowsAre st'.ent 0 es') := by
              intro hp
              unfold vcPostM at hp
              split at hp
              · exact hp.elim
              · right
                split at hp
                · rename_i rr hss
                  obtain ⟨hp1, hp2⟩ := hp
                  subst hp1
                  rw [hes'] at hp2
                  obtain ⟨vs, e1, e2, e3⟩ := resAll_run hT r1 hss
                  match vs, e1 with
                  | [x], _ =>
                    have h2 := ok_int (V := V1) (hp := st'.ent) (w := w') (e2 0 _ x rfl rfl)
                    exact ⟨_, results_run e3, h2.1, h2.2, hp2⟩
                · exact hp.elim
            have fin : toP (rowsAre st'.ent 0 es') → (IntKind.i64.min ≤ mc.F d k ∧ mc.F d k ≤ IntKind.i64.max) →
                ∃ V' s' st'', K s' st'' ∧ Rel base M w0 V' st'' ts w' ∧ S.ok V' st''.ent w' s' (.int .i64 (mc.F d k)) := by
              intro hp2 hrange
              have hget := rowsAre_get hp2
              have m1 := r1.mem
              refine ⟨V, _, _, hK, rel_rewrs ns es' r hnd (by rw [hL.len]; exact sl1) ⟨m1.kept.size, m1.kept.os, m1.kept.tape, m1.kept.output⟩ (fun b hb' hno => m1.kept.block b hb' (fun hM => ?_)) (fun j n e' hj he' => ?_), ⟨rfl, hrange⟩⟩
              · obtain ⟨j, n, g1, g2, g3⟩ := hM
                exact hno n (mem_namesOf g1) g2 g3
              · obtain ⟨fr, ty, xs, q1, q2, q3⟩ := hL.row j n hj
                obtain ⟨f', ys, q4, q5⟩ := sl2 j true ty xs q3
                have hft := fresh_true mc.t (mc.G d k) 0 e' (by rw [hes']; exact List.mem_of_getElem? he')
                rw [he'] at q4
                injection q4 with q4
                subst q4
                obtain rfl : f' = true := hft f' ty ys rfl
                refine ⟨fr, ty, xs, ys, q1, q2, rfl, q5, fun hh => ?_⟩
                have hrow1 := hget j true ty ys he'
                rw [Nat.zero_add] at hrow1
                have h0 := r.mem.ents n
                rw [q1] at h0
                rcases h0 with ⟨a1, _⟩ | ⟨_, vals, el, a2, a3, a4⟩
                · exact absurd hh a1
                · have hown := r.mem.own n (by rw [q1]; rfl) hh
                  obtain ⟨vals', el', b1, b2⟩ := m1.kept.shape (V.blk n) vals el hown.2.1 ⟨j, n, hj, hh, rfl⟩ a2
                  refine ⟨vals, el, vals', el', a2, b1, b2, ?_⟩
                  have h1 := m1.ents j
                  rw [hrow1] at h1
                  rcases h1 with ⟨c1, c2⟩ | ⟨c1, vals2, el2, c2, c3, c4⟩
                  · rw [c2]; intro i hi; exact absurd hi (Nat.not_lt_zero _)
                  · obtain ⟨n', hn', _, hbl⟩ := m1.lent j (by rw [hrow1]; exact q2) c1
                    rw [hj] at hn'
                    injection hn' with hn'; injection hn' with hn'
                    subst hn'
                    rw [hbl, b1] at c2
                    injection c2 with c2
                    injection c2 with c2 _ _
                    subst c2
                    exact fun i hi => by obtain ⟨es2, d1, d2, d3⟩ := c4 i hi; exact ⟨es2, d1, d2, d3.flat q2⟩
            have hk' := key hk
            cases e with
            | normal =>
              rcases hk' with ⟨i, h⟩ | ⟨v', h1, h2, h3, h4⟩
              · cases h
              · exact ⟨hd, v', h1, v', rfl, by rw [h2]; exact fin h4 h3⟩
            | exit i => exact hk.elim
            | ret =>
              rcases hk' with ⟨i, h⟩ | ⟨v', h1, h2, h3, h4⟩
              · cases h
              · exact ⟨hd, v', h1, v', rfl, by rw [h2]; exact fin h4 h3⟩
          · exact h.elim
      · exact hrule.elim
    · exact hrule.elim
  · exact hrule.elim
end
end Go.SX
