/- Contracts: what a function that writes to memory of its own alone takes and hands back. No condition. -/
import Derived.Test.YtdfdoigiehmnoaaSx4
namespace Go.SX
open Go.RowKit
set_option linter.unusedVariables false

def topV (t : Ty) (cs : List Value) (v : Value) : Prop := if isSt t then v = .agg cs.toArray else cs = [v]

def RdTop (Z : Nat → Prop) (w : World) (t : Ty) (v : Value) (d : t.den) : Prop := ∃ cs, topV t cs v ∧ RdC Z w t cs d

def RdArgs (Z : Nat → Prop) (w : World) : (ts : List Ty) → List Value → Tup ts → Prop
  | [], vs, _ => vs = []
  | [t], vs, d => ∃ v, vs = [v] ∧ RdTop Z w t v d
  | t :: u :: r, vs, d => ∃ v vs', vs = v :: vs' ∧ RdTop Z w t v d.1 ∧ RdArgs Z w (u :: r) vs' d.2

/-- The elements of a row. -/
def RowAt (Z : Nat → Prop) (w : World) (e : Ty) (vals : Array Value) (xs : List e.den) : Prop :=
  ∀ i (h : i < xs.length), ∃ es, es.length = e.size ∧ (∀ j u, es[j]? = some u → vals[i * e.size + j]? = some u) ∧ RdC Z w e es xs[i]

/-- A datum in memory that nobody else holds: the blocks of its slices, none for a nil one. -/
def OwnC (Z : Nat → Prop) (w : World) : (t : Ty) → List Value → t.den → List (Option Nat) → Prop
  | .sl e, cs, xs, bs => (cs = [.slice none 0 0] ∧ xs = [] ∧ bs = [none]) ∨
      ∃ b cap vals el, cs = [.slice (some ⟨b, 0, none⟩) xs.length cap] ∧ bs = [some b] ∧ w.heap[b]? = some (.cells vals el (0, 0)) ∧ vals.size = cap * e.size ∧ xs.length ≤ cap ∧
        xs.length ≤ lenMax ∧ RowAt Z w e vals xs
  | .st t, cs, d, bs => OwnC Z w t cs d bs
  | .pr a b, cs, d, bs => ∃ c1 c2 b1 b2, cs = c1 ++ c2 ∧ bs = b1 ++ b2 ∧ OwnC Z w a c1 d.1 b1 ∧ OwnC Z w b c2 d.2 b2
  | .int k, cs, d, bs => RdC Z w (.int k) cs d ∧ bs = []
  | .bool, cs, d, bs => RdC Z w .bool cs d ∧ bs = []
  | .ptr _, _, _, _ => False
  | .clo _ _, _, _, _ => False
  | .str, cs, d, bs => RdC Z w .str cs d ∧ bs = []

def OwnTop (Z : Nat → Prop) (w : World) (t : Ty) (v : Value) (d : t.den) (bs : List (Option Nat)) : Prop := ∃ cs, topV t cs v ∧ OwnC Z w t cs d bs

def OwnVals (Z : Nat → Prop) (w : World) : (ts : List Ty) → List Value → Tup ts → List (Option Nat) → Prop
  | [], vs, _, bs => vs = [] ∧ bs = []
  | [t], vs, d, bs => ∃ v, vs = [v] ∧ OwnTop Z w t v d bs
  | t :: u :: r, vs, d, bs => ∃ v vs' b1 b2, vs = v :: vs' ∧ bs = b1 ++ b2 ∧ OwnTop Z w t v d.1 b1 ∧ OwnVals Z w (u :: r) vs' d.2 b2

def oneOr (vs : List Value) : Value := match vs with | [v] => v | vs => .tuple vs.toArray

def noM : LM := ⟨fun _ => False, fun _ _ => False⟩

structure ResOk (w w' : World) (ts : List Ty) (v : Value) (d : Tup ts) : Prop where
  ex : ∃ (Z1 : Nat → Prop) (bs : List (Option Nat)) (vs : List Value), v = oneOr vs ∧ OwnVals Z1 w' ts vs d bs ∧ (bs.filterMap id).Nodup ∧
    (∀ b, some b ∈ bs → w.heap.size ≤ b ∧ b < w'.heap.size ∧ ¬ Z1 b) ∧ (∀ b, Z1 b → w.heap.size ≤ b ∧ b < w'.heap.size)
  kept : Kept w.heap.size noM w w'

/-- The contract holds. -/
def PureC (P : Program) (f : FuncId) (c : PC) : Prop :=
  ∀ (w : World) (args : List Value) (d : Tup c.ts), RdArgs anyZ w c.ts args d → c.pre d →
    Calls P f args.toArray w fun e w' => ∃ v, e = .returned v ∧ ResOk w w' c.rs v (c.F d)

/-! ### From a symbolic state to the arguments of a call -/

section
variable {V : Vl} {hp : Nat → Ent} {w : World}

theorem row_rd {n h : Nat} {fr : Bool} {e : Ty} {xs : List e.den} {v : Value} (he : (Ent.row fr e xs).ok V hp w n) (hr : hasRow V w n e h v) (hh : h ≤ xs.length) :
    RdC (fun b => V.Z fr b ∨ (V.has n ∧ b = V.blk n)) w (.sl e) [v] (xs.take h) := by
  have hlen : (xs.take h).length = h := by rw [List.length_take]; omega
  rcases hr with ⟨h1, rfl, rfl⟩ | ⟨h1, cap, vals, el, rfl, h3, h4, h5⟩
  · exact ⟨none, 0, by simp, by simp, by simp, fun i hi => by simp at hi⟩
  · rcases he with ⟨k1, _⟩ | ⟨_, vals', el', k2, k3, k4⟩
    · exact absurd h1 k1
    · rw [k2] at h3
      injection h3 with h3
      injection h3 with e1 e2 e3
      subst e1
      refine ⟨_, cap, by rw [hlen], by rw [hlen]; exact h5, by rw [hlen]; omega, fun i hi => ?_⟩
      rw [hlen] at hi
      obtain ⟨es, k5, k6, k7⟩ := k4 i (by omega)
      refine ⟨_, rfl, rfl, .inr ⟨h1, rfl⟩, es, k5, fun j hj => ?_, ?_⟩
      · simp only [World.cell?, k2, Nat.zero_add]
        exact k6 j _ (List.getElem?_eq_getElem hj)
      · rw [List.getElem_take]
        exact k7.mono (fun b hb => .inl hb) (fun _ _ => rfl)

/-- What the names are looked up by says no more than is so. -/
def LkOk (V : Vl) (hp lk : Nat → Ent) (w : World) : Prop := ∀ n, (lk n).live = true → lk n = hp n ∧ (lk n).ok V hp w n

theorem head1_some {α : Type} {f : C → Option α} {cs r : List C} {x : α} (h : head1 f cs = some (x, r)) : ∃ c, cs = c :: r ∧ f c = some x := by
  cases cs with
  | nil => cases h
  | cons c cs =>
    unfold head1 at h
    cases hf : f c with
    | none => simp [hf] at h
    | some y => simp [hf] at h; exact ⟨c, by rw [h.2], by rw [← h.1]; exact hf⟩

theorem rdInt_ok {k : IntKind} {c : C} {n : Int} {v : Value} (h : rdInt k c = some n) (ho : C.ok V hp w c v) : v = .int k n ∧ k.min ≤ n ∧ n ≤ k.max := by
  unfold rdInt at h
  split at h
  · split at h
    · rename_i hk; injection h with h; subst h; subst hk; exact ⟨ho.1, ho.2⟩
    · cases h
  · cases h

theorem rdBool_ok {c : C} {b : Bool} {v : Value} (h : rdBool c = some b) (ho : C.ok V hp w c v) : v = .bool b := by
  unfold rdBool at h
  split at h <;> first | (injection h with h; subst h; first | exact ho.1 | exact ho) | cases h

theorem rdStr_ok {c : C} {s : ByteArray} {v : Value} (h : rdStr c = some s) (ho : C.ok V hp w c v) : v = .string s ∧ s.size ≤ maxLen := by
  unfold rdStr at h
  split at h
  · injection h with h; subst h; exact ⟨ho.1, ho.2⟩
  · cases h

theorem rdSl_ok {lk : Nat → Ent} (hl : LkOk V hp lk w) {e : Ty} {c : C} {xs : List e.den} {v : Value} (h : rdSl lk e c = some xs) (ho : C.ok V hp w c v) : RdC anyZ w (.sl e) [v] xs := by
  unfold rdSl at h
  split at h
  · split at h
    · rename_i hk; subst hk; injection h with h; subst h; exact ho.any
    · cases h
  · split at h
    · rename_i hk; subst hk; injection h with h; subst h; exact ho.2.any
    · cases h
  · rename_i n
    split at h
    · rename_i e' xs' hn
      split at h
      · rename_i hk; subst hk; injection h with h; subst h
        obtain ⟨h1, h2⟩ := hl n (by rw [hn]; rfl)
        obtain ⟨fr, e2, xs2, h3, h4⟩ := ho
        rw [← h1, hn] at h3
        injection h3 with e1 e2 e3
        subst e1; subst e2; cases e3
        rw [hn] at h2
        have := (row_rd h2 h4 (Nat.le_refl _)).any
        rw [List.take_length] at this
        exact this
      · cases h
    · cases h
  · rename_i n m
    split at h
    · rename_i e' xs' hn
      split at h
      · rename_i hk; subst hk; injection h with h; subst h
        obtain ⟨h1, h2⟩ := hl n (by rw [hn]; rfl)
        obtain ⟨fr, e2, xs2, h3, h5, h4⟩ := ho
        rw [← h1, hn] at h3
        injection h3 with e1 e2 e3
        subst e1; subst e2; cases e3
        rw [hn] at h2
        exact (row_rd h2 h4 h5).any
      · cases h
    · cases h
  · injection h with h; subst h
    rw [ho.1]
    exact RdC.zero (.sl e) rfl
  · cases h

theorem whole_some {α : Type} {o : Option (α × List C)} {d : α} (h : whole o = some d) : o = some (d, []) := by
  unfold whole at h
  split at h
  · injection h with h; subst h; rfl
  · cases h

theorem readC_ok {lk : Nat → Ent} (hl : LkOk V hp lk w) : ∀ (t : Ty) {cs : List C} {d : t.den} {rest : List C} {vs : List Value}, readC lk t cs = some (d, rest) → okAll V hp w cs vs →
    ∃ us ws, vs = us ++ ws ∧ RdC anyZ w t us d ∧ okAll V hp w rest ws := by
  intro t
  induction t with
  | int k =>
    intro cs d rest vs h ho
    obtain ⟨c, rfl, hc⟩ := head1_some h
    obtain ⟨v, vs', rfl, h1, h2⟩ := okAll_cons ho
    obtain ⟨h3, h4⟩ := rdInt_ok hc h1
    exact ⟨[v], vs', rfl, ⟨by rw [h3], h4⟩, h2⟩
  | bool =>
    intro cs d rest vs h ho
    obtain ⟨c, rfl, hc⟩ := head1_some h
    obtain ⟨v, vs', rfl, h1, h2⟩ := okAll_cons ho
    exact ⟨[v], vs', rfl, by rw [rdBool_ok hc h1]; exact rfl, h2⟩
  | str =>
    intro cs d rest vs h ho
    obtain ⟨c, rfl, hc⟩ := head1_some h
    obtain ⟨v, vs', rfl, h1, h2⟩ := okAll_cons ho
    obtain ⟨h3, h4⟩ := rdStr_ok hc h1
    exact ⟨[v], vs', rfl, ⟨by rw [h3], h4⟩, h2⟩
  | sl e ih =>
    intro cs d rest vs h ho
    obtain ⟨c, rfl, hc⟩ := head1_some h
    obtain ⟨v, vs', rfl, h1, h2⟩ := okAll_cons ho
    exact ⟨[v], vs', rfl, rdSl_ok hl hc h1, h2⟩
  | st t ih => exact fun h ho => ih h ho
  | pr a b iha ihb =>
    intro cs d rest vs h ho
    unfold readC at h
    cases ha : readC lk a cs with
    | none => simp [ha] at h
    | some x =>
      obtain ⟨x, r⟩ := x
      simp only [ha] at h
      cases hb : readC lk b r with
      | none => simp [hb] at h
      | some y =>
        obtain ⟨y, r'⟩ := y
        simp only [hb, Option.some.injEq, Prod.mk.injEq] at h
        obtain ⟨rfl, rfl⟩ := h
        obtain ⟨us, ws, rfl, h1, h2⟩ := iha ha ho
        obtain ⟨us', ws', rfl, h3, h4⟩ := ihb hb h2
        exact ⟨us ++ us', ws', by rw [List.append_assoc], ⟨us, us', rfl, h1, h3⟩, h4⟩
  | ptr t ih =>
    intro cs d rest vs h ho
    obtain ⟨c, rfl, hc⟩ := head1_some h
    obtain ⟨v, vs', rfl, h1, h2⟩ := okAll_cons ho
    refine ⟨[v], vs', rfl, ?_, h2⟩
    unfold rdPtr at hc
    split at hc
    · split at hc
      · rename_i hk; subst hk; injection hc with hc; subst hc
        obtain ⟨b, o, e1, e2, es, e3, e4, e5⟩ := h1
        exact ⟨b, o, by rw [e1, Nat.add_zero], trivial, es, e3, e4, e5.any⟩
      · cases hc
    · rename_i n
      split at hc
      · rename_i cs' hn
        obtain ⟨e1, e2⟩ := hl n (by rw [hn]; rfl)
        rw [hn] at e2
        obtain ⟨vals, el, e3, e4⟩ := e2
        obtain ⟨us, ws, e5, e6, e7⟩ := ih (whole_some hc) e4
        have : ws = [] := by
          have := e7.1
          cases ws with
          | nil => rfl
          | cons _ _ => cases this
        subst this
        rw [List.append_nil] at e5
        refine ⟨V.blk n, 0, by rw [h1.1], trivial, us, e6.length, fun j hj => ?_, e6⟩
        simp only [World.cell?, e3, Nat.zero_add]
        have hj' : j < vals.size := by rw [← e5] at hj; simpa using hj
        have hu : us[j] = vals[j] := by simp [← e5]
        rw [hu]
        exact Array.getElem?_eq_getElem hj'
      · cases hc
    · cases hc
  | clo f t ih =>
    intro cs d rest vs h ho
    obtain ⟨c, rfl, hc⟩ := head1_some h
    obtain ⟨v, vs', rfl, h1, h2⟩ := okAll_cons ho
    refine ⟨[v], vs', rfl, ?_, h2⟩
    unfold rdClo at hc
    split at hc
    · split at hc
      · rename_i hf
        split at hc
        · rename_i hk; subst hk; subst hf; injection hc with hc; subst hc
          exact RdC.any (t := .clo _ _) h1
        · cases hc
      · cases hc
    · rename_i f' ns
      split at hc
      · rename_i hf
        subst hf
        obtain ⟨k1, k2⟩ := h1
        have hok : okAll V hp w (lmap (fun n => C.box n 0) ns) (ns.map fun n => Value.pointer (some ⟨V.blk n, 0, none⟩)) := by
          rw [lmap_eq]
          refine ⟨by simp, fun j c u hc hu => ?_⟩
          rw [List.getElem?_map] at hc hu
          cases hn : ns[j]? with
          | none => rw [hn] at hc; cases hc
          | some n =>
            rw [hn] at hc hu
            simp only [Option.map_some, Option.some.injEq] at hc hu
            subst hc; subst hu
            obtain ⟨k3, k4⟩ := k2 n (List.mem_of_getElem? hn)
            exact ⟨rfl, k3, k4⟩
        obtain ⟨us, ws, e5, e6, e7⟩ := ih (whole_some hc) hok
        have : ws = [] := by
          have := e7.1
          cases ws with
          | nil => rfl
          | cons _ _ => cases this
        subst this
        rw [List.append_nil] at e5
        exact ⟨_, by rw [k1], by rw [e5]; exact e6⟩
      · cases hc
    · cases hc

theorem readAll_ok {lk : Nat → Ent} (hl : LkOk V hp lk w) {t : Ty} {cs : List C} {d : t.den} {vs : List Value} (h : readAll lk t cs = some d) (ho : okAll V hp w cs vs) : RdC anyZ w t vs d := by
  unfold readAll at h
  split at h
  · rename_i d' hr
    injection h with h; subst h
    obtain ⟨us, ws, rfl, h1, h2⟩ := readC_ok hl t hr ho
    have : ws = [] := by have := h2.1; simp at this; exact List.length_eq_zero_iff.1 this.symm
    rw [this, List.append_nil]
    exact h1
  · cases h

theorem readS_ok {lk : Nat → Ent} (hl : LkOk V hp lk w) {t : Ty} {s : S} {d : t.den} {v : Value} (h : readS lk t s = some d) (ho : S.ok V hp w s v) : RdTop anyZ w t v d := by
  unfold readS at h
  split at h
  · rename_i x
    split at h
    · cases h
    · rename_i ht
      exact ⟨[v], by simp [topV, ht], readAll_ok hl h (okAll_cons_mk ho okAll_nil)⟩
  · rename_i cs
    split at h
    · rename_i ht
      obtain ⟨vs, rfl, h1⟩ := ho
      exact ⟨vs.toList, by simp [topV, ht], readAll_ok hl h h1⟩
    · cases h
  · cases h

theorem readArgs_ok {lk : Nat → Ent} (hl : LkOk V hp lk w) : ∀ (ts : List Ty) {ss : List S} {d : Tup ts} {vs : List Value}, readArgs lk ts ss = some d → ss.length = vs.length →
    (∀ (i : Nat) s v, ss[i]? = some s → vs[i]? = some v → S.ok V hp w s v) → RdArgs anyZ w ts vs d := by
  intro ts
  induction ts with
  | nil =>
    intro ss d vs h hlen ho
    cases ss with
    | nil => cases vs with | nil => exact rfl | cons v vs => simp at hlen
    | cons s ss => cases h
  | cons t r ih =>
    intro ss d vs h hlen ho
    cases ss with
    | nil => cases r <;> cases h
    | cons s ss =>
      cases vs with
      | nil => simp at hlen
      | cons v vs =>
        have hs := ho 0 s v rfl rfl
        cases r with
        | nil =>
          cases ss with
          | nil =>
            cases vs with
            | nil => exact ⟨v, rfl, readS_ok hl h hs⟩
            | cons v' vs => simp at hlen
          | cons s' ss => cases h
        | cons u r =>
          unfold readArgs at h
          cases h1 : readS lk t s with
          | none => simp [h1] at h
          | some x =>
            simp only [h1] at h
            cases h2 : readArgs lk (u :: r) ss with
            | none => simp [h2] at h
            | some y =>
              simp only [h2, Option.some.injEq] at h
              subst h
              exact ⟨v, vs, rfl, readS_ok hl h1 hs, ih h2 (by simpa using hlen) (fun i s' v' hi hv => ho (i + 1) s' v' (by simpa using hi) (by simpa using hv))⟩

end
end Go.SX
