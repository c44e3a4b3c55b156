/- A verified symbolic executor and its contracts (part SxA). No condition. -/
import Derived.Orders
import Derived.Below
import GoSem.ClaimData
import Derived.Laws.BytesArg
import Derived.Laws.OwnMore
import Derived.Laws.CopyRow
import Derived.Laws.NewFold
import Derived.Laws.Tables
import Derived.Laws.StructEq
/- The data that a Go value of plain types reads as, and what keeps such a reading: types, typed data, readings of cells. No condition. -/
namespace Go.SX
open Go.RowKit
set_option linter.unusedVariables false

/-- Types of data: 'st' a struct (its value is an aggregate), 'pr' two parts, one behind the other; 'ptr' the address of a datum, 'clo' a function that holds captured addresses; 'gs' a slice whose block is told ('wh': it is all of that block). -/
inductive Ty where
  | int (k : IntKind)
  | bool
  | str
  | sl (e : Ty)
  | st (t : Ty)
  | pr (a b : Ty)
  | ptr (t : Ty)
  | clo (f : Nat) (t : Ty)
  | gs (wh : Bool) (e : Ty)
  deriving DecidableEq

@[reducible] def Ty.den : Ty → Type
  | .int _ => Int
  | .bool => Bool
  | .str => ByteArray
  | .sl e => List e.den
  | .st t => t.den
  | .pr a b => a.den × b.den
  | .ptr t => t.den
  | .clo _ t => t.den
  | .gs _ e => Nat × List e.den

def Ty.size : Ty → Nat
  | .st t => t.size
  | .pr a b => a.size + b.size
  | _ => 1

/-- The zero value. -/
def Ty.dflt : (t : Ty) → t.den
  | .int _ => (0 : Int)
  | .bool => false
  | .str => ByteArray.empty
  | .sl _ => []
  | .st t => t.dflt
  | .pr a b => (a.dflt, b.dflt)
  | .ptr t => t.dflt
  | .clo _ t => t.dflt
  | .gs _ _ => (0, [])

/-- A type without slices. -/
def Ty.flat : Ty → Bool
  | .sl _ => false
  | .st t => t.flat
  | .pr a b => a.flat && b.flat
  | .ptr _ => false
  | .clo _ _ => false
  | .gs _ _ => false
  | _ => true

/-- A type that has a zero value here. -/
def Ty.plain : Ty → Bool
  | .st t => t.plain
  | .pr a b => a.plain && b.plain
  | .ptr _ => false
  | .clo _ _ => false
  | _ => true

def lenMax : Nat := 9223372036854775807

/-- The data that some value has. -/
def Ty.wf : (t : Ty) → t.den → Prop
  | .int k, n => k.min ≤ n ∧ n ≤ k.max
  | .bool, _ => True
  | .str, s => s.size ≤ maxLen
  | .sl e, xs => xs.length ≤ lenMax ∧ ∀ x ∈ xs, e.wf x
  | .st t, d => t.wf d
  | .pr a b, d => a.wf d.1 ∧ b.wf d.2
  | .ptr t, d => t.wf d
  | .clo _ t, d => t.wf d
  | .gs _ e, d => d.2.length ≤ lenMax ∧ ∀ x ∈ d.2, e.wf x

/-- The cells from 'off' on in block 'b' are 'cs'. -/
def cellsAt (w : World) (b off : Nat) (cs : List Value) : Prop := ∀ j (h : j < cs.length), w.cell? ⟨b, off + j, none⟩ = some cs[j]

/-- A slice in block 'b'. -/
def AtBlk (b : Nat) (cs : List Value) : Prop := ∃ o n cap, cs = [.slice (some ⟨b, o, none⟩) n cap]

/-- A slice that is all of block 'b'. -/
def WholeAt (w : World) (b : Nat) (cs : List Value) (sz : Nat) : Prop := ∃ n cap vals el, cs = [.slice (some ⟨b, 0, none⟩) n cap] ∧ w.heap[b]? = some (.cells vals el (0, 0)) ∧ vals.size = cap * sz

/-- The cells 'cs' read as 'd', by memory in blocks of 'Z'. -/
def RdC (Z : Nat → Prop) (w : World) : (t : Ty) → List Value → t.den → Prop
  | .int k, cs, n => cs = [.int k n] ∧ k.min ≤ n ∧ n ≤ k.max
  | .bool, cs, b => cs = [.bool b]
  | .str, cs, s => cs = [.string s] ∧ s.size ≤ maxLen
  | .sl e, cs, xs => ∃ a cap, cs = [.slice a xs.length cap] ∧ xs.length ≤ cap ∧ xs.length ≤ lenMax ∧
      ∀ i (h : i < xs.length), ∃ ad : Addr, a = some ad ∧ ad.spot = none ∧ Z ad.block ∧
        ∃ es, es.length = e.size ∧ cellsAt w ad.block (ad.off + i * e.size) es ∧ RdC Z w e es xs[i]
  | .st t, cs, d => RdC Z w t cs d
  | .pr a b, cs, d => ∃ c1 c2, cs = c1 ++ c2 ∧ RdC Z w a c1 d.1 ∧ RdC Z w b c2 d.2
  | .ptr t, cs, d => ∃ b o, cs = [.pointer (some ⟨b, o, none⟩)] ∧ Z b ∧ ∃ es, es.length = t.size ∧ cellsAt w b o es ∧ RdC Z w t es d
  | .clo f t, cs, d => ∃ caps : Array Value, cs = [.func (.func f) #[] caps] ∧ RdC Z w t caps.toList d
  | .gs wh e, cs, d => (∃ a cap, cs = [.slice a d.2.length cap] ∧ d.2.length ≤ cap ∧ d.2.length ≤ lenMax ∧
      ∀ i (h : i < d.2.length), ∃ ad : Addr, a = some ad ∧ ad.spot = none ∧ Z ad.block ∧
        ∃ es, es.length = e.size ∧ cellsAt w ad.block (ad.off + i * e.size) es ∧ RdC Z w e es d.2[i]) ∧ (0 < d.2.length → AtBlk d.1 cs) ∧ (wh = true → 0 < d.2.length → WholeAt w d.1 cs e.size)

/-- Below, 'w' and 'w'' agree on the blocks of Z. -/
def Agree (Z : Nat → Prop) (w w' : World) : Prop := ∀ b, Z b → w'.heap[b]? = w.heap[b]?

theorem Agree.refl (Z : Nat → Prop) (w : World) : Agree Z w w := fun _ _ => rfl
theorem Agree.trans {Z : Nat → Prop} {a b c : World} (h : Agree Z a b) (k : Agree Z b c) : Agree Z a c := fun x hx => (k x hx).trans (h x hx)
theorem Agree.mono {Z Z' : Nat → Prop} {a b : World} (h : Agree Z a b) (hz : ∀ x, Z' x → Z x) : Agree Z' a b := fun x hx => h x (hz x hx)

theorem cellsAt_agree {w w' : World} {b off : Nat} {cs : List Value} (hb : w'.heap[b]? = w.heap[b]?) (h : cellsAt w b off cs) : cellsAt w' b off cs :=
  fun j hj => (World.cell?_of_block hb).trans (h j hj)

theorem RdC.mono {Z Z' : Nat → Prop} {w w' : World} (hz : ∀ b, Z b → Z' b) (ha : Agree Z w w') : ∀ {t : Ty} {cs : List Value} {d : t.den}, RdC Z w t cs d → RdC Z' w' t cs d := by
  intro t
  induction t with
  | int k => exact fun h => h
  | bool => exact fun h => h
  | str => exact fun h => h
  | sl e ih =>
    intro cs xs h
    obtain ⟨a, cap, h1, h2, h3, h4⟩ := h
    refine ⟨a, cap, h1, h2, h3, fun i hi => ?_⟩
    obtain ⟨ad, e1, e2, e3, es, e4, e5, e6⟩ := h4 i hi
    exact ⟨ad, e1, e2, hz _ e3, es, e4, cellsAt_agree (ha _ e3) e5, ih e6⟩
  | st t ih => exact fun h => ih h
  | pr a b iha ihb =>
    intro cs d h
    obtain ⟨c1, c2, h1, h2, h3⟩ := h
    exact ⟨c1, c2, h1, iha h2, ihb h3⟩
  | ptr t ih =>
    intro cs d h
    obtain ⟨b, o, h1, h2, es, h3, h4, h5⟩ := h
    exact ⟨b, o, h1, hz b h2, es, h3, cellsAt_agree (ha b h2) h4, ih h5⟩
  | clo f t ih =>
    intro cs d h
    obtain ⟨caps, h1, h2⟩ := h
    exact ⟨caps, h1, ih h2⟩
  | gs wh e ih =>
    intro cs d h
    obtain ⟨⟨a, cap, h1, h2, h3, h4⟩, h5, h6⟩ := h
    refine ⟨⟨a, cap, h1, h2, h3, fun i hi => ?_⟩, h5, fun hw hp => ?_⟩
    · obtain ⟨ad, e1, e2, e3, es, e4, e5, e6⟩ := h4 i hi
      exact ⟨ad, e1, e2, hz _ e3, es, e4, cellsAt_agree (ha _ e3) e5, ih e6⟩
    · obtain ⟨n, cap', vals, el, k1, k2, k3⟩ := h6 hw hp
      obtain ⟨ad, e1, e2, e3, _⟩ := h4 0 hp
      rw [k1] at h1
      injection h1 with h1 _
      injection h1 with q1 q2 q3
      rw [e1] at q1
      injection q1 with q1
      rw [← q1] at e3
      exact ⟨n, cap', vals, el, k1, by rw [ha _ e3]; exact k2, k3⟩

theorem RdC.length {Z : Nat → Prop} {w : World} : ∀ {t : Ty} {cs : List Value} {d : t.den}, RdC Z w t cs d → cs.length = t.size := by
  intro t
  induction t with
  | int k => intro cs d h; rw [h.1]; rfl
  | bool => intro cs d h; rw [show cs = _ from h]; rfl
  | str => intro cs d h; rw [h.1]; rfl
  | sl e ih => intro cs d h; obtain ⟨a, cap, h1, _⟩ := h; rw [h1]; rfl
  | st t ih => exact fun h => ih h
  | pr a b iha ihb =>
    intro cs d h
    obtain ⟨c1, c2, h1, h2, h3⟩ := h
    rw [h1, List.length_append, iha h2, ihb h3]; rfl
  | ptr t ih => intro cs d h; obtain ⟨b, o, h1, _⟩ := h; rw [h1]; rfl
  | clo f t ih => intro cs d h; obtain ⟨caps, h1, _⟩ := h; rw [h1]; rfl
  | gs wh e ih => intro cs d h; obtain ⟨⟨a, cap, h1, _⟩, _⟩ := h; rw [h1]; rfl

theorem RdC.wf {Z : Nat → Prop} {w : World} : ∀ {t : Ty} {cs : List Value} {d : t.den}, RdC Z w t cs d → t.wf d := by
  intro t
  induction t with
  | int k => exact fun h => h.2
  | bool => exact fun h => trivial
  | str => exact fun h => h.2
  | sl e ih =>
    intro cs xs h
    obtain ⟨a, cap, h1, h2, h3, h4⟩ := h
    refine ⟨h3, fun x hx => ?_⟩
    obtain ⟨i, hi, rfl⟩ := List.getElem_of_mem hx
    obtain ⟨ad, e1, e2, e3, es, e4, e5, e6⟩ := h4 i hi
    exact ih e6
  | st t ih => exact fun h => ih h
  | pr a b iha ihb =>
    intro cs d h
    obtain ⟨c1, c2, h1, h2, h3⟩ := h
    exact ⟨iha h2, ihb h3⟩
  | ptr t ih => intro cs d h; obtain ⟨b, o, h1, h2, es, h3, h4, h5⟩ := h; exact ih h5
  | clo f t ih => intro cs d h; obtain ⟨caps, h1, h2⟩ := h; exact ih h2
  | gs wh e ih =>
    intro cs d h
    obtain ⟨⟨a, cap, h1, h2, h3, h4⟩, _⟩ := h
    refine ⟨h3, fun x hx => ?_⟩
    obtain ⟨i, hi, rfl⟩ := List.getElem_of_mem hx
    obtain ⟨ad, e1, e2, e3, es, e4, e5, e6⟩ := h4 i hi
    exact ih e6

/-- Flat data lies in the cells alone. -/
theorem RdC.flat {Z Z' : Nat → Prop} {w w' : World} : ∀ {t : Ty}, t.flat = true → ∀ {cs : List Value} {d : t.den}, RdC Z w t cs d → RdC Z' w' t cs d := by
  intro t
  induction t with
  | int k => exact fun _ _ _ h => h
  | bool => exact fun _ _ _ h => h
  | str => exact fun _ _ _ h => h
  | sl e ih => intro h; cases h
  | st t ih => exact fun hf _ _ h => ih hf h
  | pr a b iha ihb =>
    intro hf cs d h
    obtain ⟨c1, c2, h1, h2, h3⟩ := h
    have hf' : (a.flat && b.flat) = true := hf
    simp only [Bool.and_eq_true] at hf'
    exact ⟨c1, c2, h1, iha hf'.1 h2, ihb hf'.2 h3⟩
  | ptr t ih => intro h; cases h
  | clo f t ih => intro h; cases h
  | gs wh e ih => intro h; cases h

/-- A cell's value is one cell's. -/
theorem RdC.oneCell {Z : Nat → Prop} {w : World} : ∀ {t : Ty} {cs : List Value} {d : t.den}, RdC Z w t cs d → ∀ v ∈ cs, v.oneCell' = true := by
  intro t
  induction t with
  | int k => intro cs d h; rw [h.1]; simp [Value.oneCell']
  | bool => intro cs d h; rw [show cs = _ from h]; simp [Value.oneCell']
  | str => intro cs d h; rw [h.1]; simp [Value.oneCell']
  | sl e ih => intro cs d h; obtain ⟨a, cap, h1, _⟩ := h; rw [h1]; simp [Value.oneCell']
  | st t ih => exact fun h => ih h
  | pr a b iha ihb =>
    intro cs d h
    obtain ⟨c1, c2, h1, h2, h3⟩ := h
    intro v hv
    rw [h1, List.mem_append] at hv
    exact hv.elim (iha h2 v) (ihb h3 v)
  | ptr t ih => intro cs d h; obtain ⟨b, o, h1, _⟩ := h; rw [h1]; simp [Value.oneCell']
  | clo f t ih => intro cs d h; obtain ⟨caps, h1, _⟩ := h; rw [h1]; simp [Value.oneCell']
  | gs wh e ih => intro cs d h; obtain ⟨⟨a, cap, h1, _⟩, _⟩ := h; rw [h1]; simp [Value.oneCell']

theorem RdC.dflt_int {Z : Nat → Prop} {w : World} (k : IntKind) : RdC Z w (.int k) [.int k 0] (Ty.dflt (.int k)) := ⟨rfl, by cases k <;> decide, by cases k <;> decide⟩

/-- The cells of the zero value. -/
def Ty.zeros : Ty → List Value
  | .int k => [.int k 0]
  | .bool => [.bool false]
  | .str => [.string ByteArray.empty]
  | .sl _ => [.slice none 0 0]
  | .st t => t.zeros
  | .pr a b => a.zeros ++ b.zeros
  | .ptr _ => [.pointer none]
  | .clo _ _ => [.nilFunc]
  | .gs _ _ => [.slice none 0 0]

theorem RdC.zero {Z : Nat → Prop} {w : World} : ∀ (t : Ty), t.plain = true → RdC Z w t t.zeros t.dflt := by
  intro t
  induction t with
  | int k => exact fun _ => RdC.dflt_int k
  | bool => exact fun _ => rfl
  | str => exact fun _ => ⟨rfl, by decide⟩
  | sl e ih => exact fun _ => ⟨none, 0, rfl, Nat.le_refl _, Nat.zero_le _, fun i hi => absurd hi (Nat.not_lt_zero _)⟩
  | st t ih => exact fun h => ih h
  | pr a b iha ihb =>
    intro h
    have h' : (a.plain && b.plain) = true := h
    rw [Bool.and_eq_true] at h'
    exact ⟨_, _, rfl, iha h'.1, ihb h'.2⟩
  | ptr t ih => intro h; cases h
  | clo f t ih => intro h; cases h
  | gs wh e ih => exact fun _ => ⟨⟨none, 0, rfl, Nat.le_refl _, Nat.zero_le _, fun i hi => absurd hi (Nat.not_lt_zero _)⟩, fun hp => absurd hp (Nat.lt_irrefl _), fun _ hp => absurd hp (Nat.lt_irrefl _)⟩

/-! ### Slices whose blocks are told -/

/-- The type with its blocks no more told. -/
def Ty.unG : Ty → Ty
  | .gs _ e => .sl e.unG
  | .sl e => .sl e.unG
  | .st t => .st t.unG
  | .pr a b => .pr a.unG b.unG
  | t => t

def unD : (t : Ty) → t.den → t.unG.den
  | .gs _ e, d => d.2.map (unD e)
  | .sl e, d => d.map (unD e)
  | .st t, d => unD t d
  | .pr a b, d => (unD a d.1, unD b d.2)
  | .int _, d => d
  | .bool, d => d
  | .str, d => d
  | .ptr _, d => d
  | .clo _ _, d => d

def unL (e : Ty) (xs : List e.den) : List e.unG.den := xs.map (unD e)

theorem unG_size : ∀ t : Ty, t.unG.size = t.size
  | .gs _ _ => rfl
  | .st t => unG_size t
  | .pr a b => by show a.unG.size + b.unG.size = a.size + b.size; rw [unG_size a, unG_size b]
  | .int _ => rfl
  | .bool => rfl
  | .str => rfl
  | .sl _ => rfl
  | .ptr _ => rfl
  | .clo _ _ => rfl

theorem unG_flat : ∀ t : Ty, t.unG.flat = t.flat
  | .gs _ _ => rfl
  | .st t => unG_flat t
  | .pr a b => by show (a.unG.flat && b.unG.flat) = (a.flat && b.flat); rw [unG_flat a, unG_flat b]
  | .int _ => rfl
  | .bool => rfl
  | .str => rfl
  | .sl _ => rfl
  | .ptr _ => rfl
  | .clo _ _ => rfl

theorem RdC.un_at {Z : Nat → Prop} {w : World} {e : Ty} {es : List Value} {l : List e.den} {i : Nat} (hi : i < (l.map (unD e)).length) (h : ∀ hi' : i < l.length, RdC Z w e.unG es (unD e (l[i]'hi'))) : RdC Z w e.unG es ((l.map (unD e))[i]'hi) := by
  rw [List.getElem_map]; exact h _

theorem RdC.un {Z : Nat → Prop} {w : World} : ∀ (t : Ty) {cs : List Value} {d : t.den}, RdC Z w t cs d → RdC Z w t.unG cs (unD t d)
  | .gs _ e, _, d, h => by
    obtain ⟨⟨a, cap, h1, h2, h3, h4⟩, _⟩ := h
    refine ⟨a, cap, ?_, ?_, ?_, fun i hi => ?_⟩
    · show _ = [Value.slice a (d.2.map (unD e)).length cap]; rw [List.length_map]; exact h1
    · show (d.2.map (unD e)).length ≤ _; rw [List.length_map]; exact h2
    · show (d.2.map (unD e)).length ≤ _; rw [List.length_map]; exact h3
    · have hi' : i < d.2.length := by have : i < (d.2.map (unD e)).length := hi; rwa [List.length_map] at this
      obtain ⟨ad, e1, e2, e3, es, e4, e5, e6⟩ := h4 i hi'
      refine ⟨ad, e1, e2, e3, es, by rw [unG_size]; exact e4, by rw [unG_size]; exact e5, ?_⟩
      exact RdC.un_at (l := d.2) hi (fun _ => RdC.un e e6)
  | .sl e, _, d, h => by
    obtain ⟨a, cap, h1, h2, h3, h4⟩ := h
    refine ⟨a, cap, ?_, ?_, ?_, fun i hi => ?_⟩
    · show _ = [Value.slice a (List.map (unD e) d).length cap]; rw [List.length_map]; exact h1
    · show (List.map (unD e) d).length ≤ _; rw [List.length_map]; exact h2
    · show (List.map (unD e) d).length ≤ _; rw [List.length_map]; exact h3
    · have hi' : i < List.length d := by have : i < (List.map (unD e) d).length := hi; rwa [List.length_map] at this
      obtain ⟨ad, e1, e2, e3, es, e4, e5, e6⟩ := h4 i hi'
      refine ⟨ad, e1, e2, e3, es, by rw [unG_size]; exact e4, by rw [unG_size]; exact e5, ?_⟩
      exact RdC.un_at (l := d) hi (fun _ => RdC.un e e6)
  | .st t, _, _, h => RdC.un t h
  | .pr a b, _, _, h => by obtain ⟨c1, c2, h1, h2, h3⟩ := h; exact ⟨c1, c2, h1, RdC.un a h2, RdC.un b h3⟩
  | .int _, _, _, h => h
  | .bool, _, _, h => h
  | .str, _, _, h => h
  | .ptr _, _, _, h => h
  | .clo _ _, _, _, h => h

/-- The blocks that are told, of slices that are not empty. -/
def ids : (t : Ty) → t.den → List Nat
  | .gs _ e, d => match d.2 with | [] => [] | x :: r => d.1 :: (x :: r).flatMap (ids e)
  | .sl e, d => d.flatMap (ids e)
  | .st t, d => ids t d
  | .pr a b, d => ids a d.1 ++ ids b d.2
  | _, _ => []

def idsL (e : Ty) (xs : List e.den) : List Nat := xs.flatMap (ids e)

theorem ids_gs {wh : Bool} {e : Ty} {b : Nat} {xs : List e.den} : ids (.gs wh e) (b, xs) = if xs.isEmpty then [] else b :: idsL e xs := by
  cases xs <;> rfl

/-- The block of a told slice that is not empty. -/
theorem gs_block {Z : Nat → Prop} {w : World} {wh : Bool} {e : Ty} {cs : List Value} {d : Nat × List e.den} (h : RdC Z w (.gs wh e) cs d) (hp : 0 < d.2.length) : Z d.1 ∧ ∃ o cap, cs = [.slice (some ⟨d.1, o, none⟩) d.2.length cap] := by
  obtain ⟨⟨a, cap, h1, h2, h3, h4⟩, h5, _⟩ := h
  obtain ⟨o, n, cap', k1⟩ := h5 hp
  obtain ⟨ad, e1, e2, e3, _⟩ := h4 0 hp
  rw [k1] at h1
  injection h1 with h1 _
  injection h1 with q1 q2 q3
  rw [e1] at q1
  injection q1 with q1
  rw [← q1] at e3
  exact ⟨e3, o, cap, by rw [k1, q2, q3]⟩

theorem RdC.ids_in {Z : Nat → Prop} {w : World} : ∀ (t : Ty) {cs : List Value} {d : t.den}, RdC Z w t cs d → ∀ i ∈ ids t d, Z i
  | .gs wh e, cs, (b, xs), h, i, hi => by
    cases xs with
    | nil => cases hi
    | cons x xr =>
      rcases List.mem_cons.1 hi with rfl | hi
      · exact (gs_block h (Nat.succ_pos _)).1
      · obtain ⟨y, hy, hiy⟩ := List.mem_flatMap.1 hi
        obtain ⟨j, hj, rfl⟩ := List.getElem_of_mem hy
        obtain ⟨⟨a, cap, h1, h2, h3, h4⟩, _⟩ := h
        obtain ⟨_, _, _, _, es, _, _, h6⟩ := h4 j hj
        exact RdC.ids_in e h6 i hiy
  | .st t, _, _, h, i, hi => RdC.ids_in t h i hi
  | .pr a b, _, d, h, i, hi => by
    obtain ⟨c1, c2, h1, h2, h3⟩ := h
    rcases List.mem_append.1 hi with hi | hi
    · exact RdC.ids_in a h2 i hi
    · exact RdC.ids_in b h3 i hi
  | .int _, _, _, _, i, hi => by cases hi
  | .bool, _, _, _, i, hi => by cases hi
  | .str, _, _, _, i, hi => by cases hi
  | .sl e, _, d, h, i, hi => by
    obtain ⟨y, hy, hiy⟩ := List.mem_flatMap.1 (show i ∈ List.flatMap (ids e) d from hi)
    obtain ⟨j, hj, rfl⟩ := List.getElem_of_mem hy
    obtain ⟨a, cap, h1, h2, h3, h4⟩ := h
    obtain ⟨_, _, _, _, es, _, _, h6⟩ := h4 j hj
    exact RdC.ids_in e h6 i hiy
  | .ptr _, _, _, _, i, hi => by cases hi
  | .clo _ _, _, _, _, i, hi => by cases hi

/-- All slices within are told. -/
def Ty.gcl : Ty → Bool
  | .gs _ e => e.gcl
  | .st t => t.gcl
  | .pr a b => a.gcl && b.gcl
  | .sl _ => false
  | .ptr _ => false
  | .clo _ _ => false
  | _ => true

/-- Some slice within is told. -/
def Ty.hasG : Ty → Bool
  | .gs _ _ => true
  | .sl e => e.hasG
  | .st t => t.hasG
  | .pr a b => a.hasG || b.hasG
  | _ => false

/-- No slice has elements. -/
def nilD : (t : Ty) → t.unG.den → Prop
  | .gs _ _, d => d = []
  | .sl _, d => d = []
  | .st t, d => nilD t d
  | .pr a b, d => nilD a d.1 ∧ nilD b d.2
  | _, _ => True

def tell0 : (t : Ty) → t.unG.den → t.den
  | .gs _ _, _ => (0, [])
  | .sl _, _ => []
  | .st t, d => tell0 t d
  | .pr a b, d => (tell0 a d.1, tell0 b d.2)
  | .int _, d => d
  | .bool, d => d
  | .str, d => d
  | .ptr _, d => d
  | .clo _ _, d => d

theorem RdC.tell0 {Z : Nat → Prop} {w : World} : ∀ (t : Ty) {cs : List Value} {d : t.unG.den}, RdC Z w t.unG cs d → nilD t d → RdC Z w t cs (SX.tell0 t d)
  | .gs wh e, cs, d, h, hn => by
    have hn : d = [] := hn
    subst hn
    obtain ⟨a, cap, h1, h2, h3, h4⟩ := h
    exact ⟨⟨a, cap, h1, Nat.zero_le _, Nat.zero_le _, fun i hi => absurd hi (Nat.not_lt_zero _)⟩, fun hp => absurd hp (Nat.lt_irrefl _), fun _ hp => absurd hp (Nat.lt_irrefl _)⟩
  | .sl e, cs, d, h, hn => by
    have hn : d = [] := hn
    subst hn
    obtain ⟨a, cap, h1, h2, h3, h4⟩ := h
    exact ⟨a, cap, h1, Nat.zero_le _, Nat.zero_le _, fun i hi => absurd hi (Nat.not_lt_zero _)⟩
  | .st t, _, _, h, hn => RdC.tell0 t h hn
  | .pr a b, _, _, h, hn => by
    obtain ⟨c1, c2, h1, h2, h3⟩ := h
    exact ⟨c1, c2, h1, RdC.tell0 a h2 hn.1, RdC.tell0 b h3 hn.2⟩
  | .int _, _, _, h, _ => h
  | .bool, _, _, h, _ => h
  | .str, _, _, h, _ => h
  | .ptr _, _, _, h, _ => h
  | .clo _ _, _, _, h, _ => h

/-- Such data depends on the told blocks alone. -/
theorem RdC.by_ids {Z Z' : Nat → Prop} {w w' : World} : ∀ (t : Ty), t.gcl = true → ∀ {cs : List Value} {d : t.den}, RdC Z w t cs d → (∀ i ∈ ids t d, Z' i ∧ w'.heap[i]? = w.heap[i]?) → RdC Z' w' t cs d
  | .gs wh e, hg, cs, (b, xs), h, hi => by
    have h' := h
    obtain ⟨⟨a, cap, h1, h2, h3, h4⟩, h5, h6⟩ := h
    cases xs with
    | nil => exact ⟨⟨a, cap, h1, h2, h3, fun i hi => absurd hi (Nat.not_lt_zero _)⟩, fun hp => absurd hp (Nat.lt_irrefl _), fun _ hp => absurd hp (Nat.lt_irrefl _)⟩
    | cons x xr =>
      obtain ⟨hz, hw⟩ := hi b (List.mem_cons_self ..)
      obtain ⟨_, o, cap2, hcs⟩ := gs_block h' (Nat.succ_pos _)
      refine ⟨⟨a, cap, h1, h2, h3, fun i hi' => ?_⟩, h5, fun hwh hp => ?_⟩
      · obtain ⟨ad, e1, e2, e3, es, e4, e5, e6⟩ := h4 i hi'
        have hb : ad.block = b := by
          rw [hcs] at h1
          injection h1 with h1 _
          injection h1 with q1 q2 q3
          rw [e1] at q1
          injection q1 with q1
          rw [← q1]
        refine ⟨ad, e1, e2, by rw [hb]; exact hz, es, e4, cellsAt_agree (by rw [hb]; exact hw) e5, RdC.by_ids e hg e6 (fun j hj => hi j (List.mem_cons_of_mem _ (List.mem_flatMap.2 ⟨_, List.getElem_mem hi', hj⟩)))⟩
      · obtain ⟨n, cap', vals, el, k1, k2, k3⟩ := h6 hwh hp
        exact ⟨n, cap', vals, el, k1, by rw [hw]; exact k2, k3⟩
  | .st t, hg, _, _, h, hi => RdC.by_ids t hg h hi
  | .pr a b, hg, _, d, h, hi => by
    have hg' : (a.gcl && b.gcl) = true := hg
    rw [Bool.and_eq_true] at hg'
    obtain ⟨c1, c2, h1, h2, h3⟩ := h
    exact ⟨c1, c2, h1, RdC.by_ids a hg'.1 h2 (fun i hm => hi i (List.mem_append_left _ hm)), RdC.by_ids b hg'.2 h3 (fun i hm => hi i (List.mem_append_right _ hm))⟩
  | .int _, _, _, _, h, _ => h
  | .bool, _, _, _, h, _ => h
  | .str, _, _, _, h, _ => h
  | .sl _, hg, _, _, _, _ => by cases hg
  | .ptr _, hg, _, _, _, _ => by cases hg
  | .clo _ _, hg, _, _, _, _ => by cases hg

/-! ### Lists of the executor's own (so that lists of data stay as they are when the executor is run) -/

def nth {α : Type} (d : α) : List α → Nat → α
  | [], _ => d
  | x :: _, 0 => x
  | _ :: r, n + 1 => nth d r n

def nth? {α : Type} : List α → Nat → Option α
  | [], _ => none
  | x :: _, 0 => some x
  | _ :: r, n + 1 => nth? r n

def lset {α : Type} : List α → Nat → α → List α
  | [], _, _ => []
  | _ :: r, 0, y => y :: r
  | x :: r, n + 1, y => x :: lset r n y

def ltake {α : Type} : Nat → List α → List α
  | 0, _ => []
  | _ + 1, [] => []
  | n + 1, x :: r => x :: ltake n r

def ldrop {α : Type} : Nat → List α → List α
  | 0, l => l
  | _ + 1, [] => []
  | n + 1, _ :: r => ldrop n r

def lapp {α : Type} : List α → List α → List α
  | [], ys => ys
  | x :: r, ys => x :: lapp r ys

def lmap {α β : Type} (f : α → β) : List α → List β
  | [] => []
  | x :: r => f x :: lmap f r

def llen {α : Type} : List α → Nat
  | [] => 0
  | _ :: r => llen r + 1

def lall {α : Type} (p : α → Bool) : List α → Bool
  | [] => true
  | x :: r => p x && lall p r

def lany {α : Type} (p : α → Bool) : List α → Bool
  | [] => false
  | x :: r => p x || lany p r

def lrep {α : Type} (x : α) : Nat → List α
  | 0 => []
  | n + 1 => x :: lrep x n

def omap {α β : Type} (f : α → β) : Option α → Option β
  | some x => some (f x)
  | none => none

def obind.{u} {α : Type} {β : Type u} (o : Option α) (f : α → Option β) : Option β :=
  match o with
  | some x => f x
  | none => none

def oelse {α : Type} (o p : Option α) : Option α :=
  match o with
  | some x => some x
  | none => p


theorem nth?_eq {α : Type} : ∀ (l : List α) (n : Nat), nth? l n = l[n]?
  | [], _ => rfl
  | _ :: _, 0 => rfl
  | _ :: r, n + 1 => by simp [nth?, nth?_eq r n]
theorem nth_eq {α : Type} (d : α) : ∀ (l : List α) (n : Nat), nth d l n = (l[n]?).getD d
  | [], _ => rfl
  | _ :: _, 0 => rfl
  | _ :: r, n + 1 => by simp [nth, nth_eq d r n]
theorem lset_eq {α : Type} : ∀ (l : List α) (n : Nat) (y : α), lset l n y = l.set n y
  | [], _, _ => rfl
  | _ :: _, 0, _ => rfl
  | x :: r, n + 1, y => by simp [lset, lset_eq r n y]
theorem ltake_eq {α : Type} : ∀ (n : Nat) (l : List α), ltake n l = l.take n
  | 0, _ => rfl
  | _ + 1, [] => rfl
  | n + 1, x :: r => by simp [ltake, ltake_eq n r]
theorem ldrop_eq {α : Type} : ∀ (n : Nat) (l : List α), ldrop n l = l.drop n
  | 0, _ => rfl
  | _ + 1, [] => rfl
  | n + 1, x :: r => by simp [ldrop, ldrop_eq n r]
theorem lapp_eq {α : Type} : ∀ (l k : List α), lapp l k = l ++ k
  | [], _ => rfl
  | x :: r, k => by simp [lapp, lapp_eq r k]
theorem lmap_eq {α β : Type} (f : α → β) : ∀ (l : List α), lmap f l = l.map f
  | [] => rfl
  | x :: r => by simp [lmap, lmap_eq f r]
theorem llen_eq {α : Type} : ∀ (l : List α), llen l = l.length
  | [] => rfl
  | x :: r => by simp [llen, llen_eq r]
theorem lall_eq {α : Type} (p : α → Bool) : ∀ (l : List α), lall p l = l.all p
  | [] => rfl
  | x :: r => by simp [lall, lall_eq p r]
theorem lany_eq {α : Type} (p : α → Bool) : ∀ (l : List α), lany p l = l.any p
  | [] => rfl
  | x :: r => by simp [lany, lany_eq p r]
theorem lrep_eq {α : Type} (x : α) : ∀ n, lrep x n = List.replicate n x
  | 0 => rfl
  | n + 1 => by simp [lrep, lrep_eq x n, List.replicate_succ]
theorem omap_eq {α β : Type} (f : α → β) (o : Option α) : omap f o = o.map f := by cases o <;> rfl
theorem obind_eq.{u} {α : Type} {β : Type u} (o : Option α) (f : α → Option β) : obind o f = o.bind f := by cases o <;> rfl

end Go.SX


/- Symbolic values and states, and when a frame and a world are such. No condition. -/
namespace Go.SX
open Go.RowKit
set_option linter.unusedVariables false

/-- What one cell (or a temporary of one cell) is known to hold. 'fr': in memory of this call's own. -/
inductive C where
  | val (v : Value)
  | tru
  | fls
  /-- a slice that reads as 'xs', by memory that nobody writes any more -/
  | rd (fr : Bool) (e : Ty) (xs : List e.den)
  /-- row 'n', whole -/
  | own (n : Nat)
  /-- the first 'h' elements of row 'n' -/
  | pre (n h : Nat)
  /-- a slice that reads as 'xs', by the memory of row 'n' -/
  | brw (n : Nat) (e : Ty) (xs : List e.den)
  /-- the address of cell 'off' of box 'n' -/
  | box (n off : Nat)
  /-- the address of cell 'off' of a datum 'd' in memory that nobody writes any more -/
  | at_ (fr : Bool) (t : Ty) (d : t.den) (off : Nat)
  /-- the address of cell 'off' of element 'i' of row 'n' -/
  | elt (n i off : Nat)
  /-- a function value that has captured boxes -/
  | fn (f : FuncId) (caps : List Nat)
  /-- a function value whose captured addresses lead to memory that nobody writes any more -/
  | clo (fr : Bool) (f : Nat) (t : Ty) (d : t.den)
  /-- as 'rd'; the slice lies in block 'b' ('wh': it is all of it) -/
  | rg (fr wh : Bool) (e : Ty) (b : Nat) (xs : List e.den)
  | any

/-- What a temporary is known to hold. -/
inductive S where
  | c (x : C)
  | agg (cs : List C)
  | tup (vs : List (Bool × List C))
  | und
  | any
  /-- an array of flat elements -/
  | arr (e : Ty) (xs : List e.den)

/-- What a name of memory stands for. -/
inductive Ent where
  | dead
  | bx (cs : List C)
  | row (fr : Bool) (e : Ty) (xs : List e.den)

structure St where
  ts : List S
  hp : List Ent


def St.ent (st : St) (n : Nat) : Ent := nth .dead st.hp n

def wfV : Value → Prop
  | .int k n => k.min ≤ n ∧ n ≤ k.max
  | .string s => s.size ≤ maxLen
  | .slice a n c => a = none ∧ n = 0 ∧ c = 0
  | .agg _ => False
  | .tuple _ => False
  | _ => True

/-- Where the names lie. 'has n': name 'n' has a block; 'Z0': old memory that is not written; 'Z1': memory of this call's own that is not written any more. -/
structure Vl where
  blk : Nat → Nat
  has : Nat → Prop
  Z0 : Nat → Prop
  Z1 : Nat → Prop

def Vl.Z (V : Vl) (fr : Bool) (b : Nat) : Prop := V.Z1 b ∨ (fr = false ∧ V.Z0 b)

theorem Vl.Z_of_true {V : Vl} {b : Nat} (fr : Bool) (h : V.Z true b) : V.Z fr b := by
  rcases h with h | ⟨h, _⟩
  · exact .inl h
  · cases h
theorem Vl.Z_all {V : Vl} {b : Nat} {fr : Bool} (h : V.Z fr b) : V.Z false b := by
  rcases h with h | ⟨_, h⟩
  · exact .inl h
  · exact .inr ⟨rfl, h⟩

/-- 'v' is the slice of the first 'h' places of row 'n'. -/
def hasRow (V : Vl) (w : World) (n : Nat) (e : Ty) (h : Nat) (v : Value) : Prop :=
  (¬ V.has n ∧ v = .slice none 0 0 ∧ h = 0) ∨
  (V.has n ∧ ∃ cap vals el, v = .slice (some ⟨V.blk n, 0, none⟩) h cap ∧ w.heap[V.blk n]? = some (.cells vals el (0, 0)) ∧ vals.size = cap * e.size ∧ h ≤ cap)

def C.ok (V : Vl) (hp : Nat → Ent) (w : World) : C → Value → Prop
  | .val u, v => v = u ∧ wfV u
  | .tru, v => v = .bool true
  | .fls, v => v = .bool false
  | .rd fr e xs, v => RdC (V.Z fr) w (.sl e) [v] xs
  | .own n, v => ∃ fr e xs, hp n = .row fr e xs ∧ hasRow V w n e xs.length v
  | .pre n h, v => ∃ fr e xs, hp n = .row fr e xs ∧ h ≤ xs.length ∧ hasRow V w n e h v
  | .brw n e xs, v => (∃ fr e' ys, hp n = .row fr e' ys) ∧ RdC (fun b => V.Z false b ∨ (V.has n ∧ b = V.blk n)) w (.sl e) [v] xs
  | .box n off, v => v = .pointer (some ⟨V.blk n, off, none⟩) ∧ V.has n ∧ ∃ cs, hp n = .bx cs
  | .at_ fr t d off, v => ∃ b o, v = .pointer (some ⟨b, o + off, none⟩) ∧ V.Z fr b ∧ ∃ es, es.length = t.size ∧ cellsAt w b o es ∧ RdC (V.Z fr) w t es d
  | .elt n i off, v => V.has n ∧ ∃ fr e xs, hp n = .row fr e xs ∧ i < xs.length ∧ v = .pointer (some ⟨V.blk n, i * e.size + off, none⟩)
  | .fn f caps, v => v = .func (.func f) #[] (caps.map (fun n => Value.pointer (some ⟨V.blk n, 0, none⟩))).toArray ∧ ∀ n ∈ caps, V.has n ∧ ∃ cs, hp n = .bx cs
  | .clo fr f t d, v => RdC (V.Z fr) w (.clo f t) [v] d
  | .rg fr wh e b xs, v => RdC (V.Z fr) w (.gs wh e) [v] (b, xs)
  | .any, v => v.oneCell' = true

/-- Pairwise. -/
def okAll (V : Vl) (hp : Nat → Ent) (w : World) (cs : List C) (vs : List Value) : Prop := cs.length = vs.length ∧ ∀ (j : Nat) c v, cs[j]? = some c → vs[j]? = some v → C.ok V hp w c v

def okTop (V : Vl) (hp : Nat → Ent) (w : World) (x : Bool × List C) (v : Value) : Prop :=
  if x.1 then ∃ vs, v = .agg vs ∧ okAll V hp w x.2 vs.toList else okAll V hp w x.2 [v]

def S.ok (V : Vl) (hp : Nat → Ent) (w : World) : S → Value → Prop
  | .c x, v => C.ok V hp w x v
  | .agg cs, v => ∃ vs, v = .agg vs ∧ okAll V hp w cs vs.toList
  | .tup xs, v => ∃ vs, v = .tuple vs ∧ xs.length = vs.size ∧ ∀ (j : Nat) x v, xs[j]? = some x → vs[j]? = some v → okTop V hp w x v
  | .und, v => v = undef
  | .any, _ => True
  | .arr e xs, v => e.flat = true ∧ ∃ vs, v = .agg vs ∧ vs.size = xs.length * e.size ∧ ∀ i (h : i < xs.length), ∃ es, es.length = e.size ∧ (∀ (j : Nat) u, es[j]? = some u → vs[i * e.size + j]? = some u) ∧ RdC (fun _ => False) w e es xs[i]

def Ent.ok (V : Vl) (hp : Nat → Ent) (w : World) (n : Nat) : Ent → Prop
  | .dead => True
  | .bx cs => ∃ vals el, w.heap[V.blk n]? = some (.cells vals el (0, 0)) ∧ okAll V hp w cs vals.toList
  | .row fr e xs => (¬ V.has n ∧ xs = []) ∨ (V.has n ∧ ∃ vals el, w.heap[V.blk n]? = some (.cells vals el (0, 0)) ∧ xs.length ≤ lenMax ∧
      ∀ i (h : i < xs.length), ∃ es, es.length = e.size ∧ (∀ j u, es[j]? = some u → vals[i * e.size + j]? = some u) ∧ RdC (V.Z fr) w e es xs[i])

def Ent.live : Ent → Bool
  | .dead => false
  | _ => true

/-- The blocks that a caller lends: which, and under which names. -/
structure LM where
  fn : Nat → Prop
  nm : Nat → Nat → Prop
  /-- old memory that the call may still see -/
  old : Nat → Prop
  sub : ∀ b, fn b → old b
  /-- the block of a box that is lent, under name 0 -/
  lb : Nat → Prop

instance : CoeFun LM (fun _ => Nat → Prop) := ⟨LM.fn⟩

def Ent.isBx : Ent → Bool
  | .bx _ => true
  | _ => false

/-- A row that is lent. -/
def Ent.lentish : Ent → Prop
  | .row false e _ => (e.flat || e.hasG) = true
  | _ => False

/-- The told blocks of a row that is lent. -/
def Ent.lids : Ent → List Nat
  | .row false e xs => if e.hasG then idsL e xs else []
  | _ => []

/-- What was there before the call is there still, but for the blocks of M. -/
structure Kept (base : Nat) (M : LM) (w0 w : World) : Prop where
  os : w.os = w0.os
  tape : w.tape = w0.tape
  output : w.output = w0.output
  size : base ≤ w.heap.size
  block : ∀ b, b < base → ¬ M b → w.heap[b]? = w0.heap[b]?
  /-- a block of M keeps its size -/
  shape : ∀ b vals el, b < base → M b → w0.heap[b]? = some (.cells vals el (0, 0)) → ∃ vals' el', w.heap[b]? = some (.cells vals' el' (0, 0)) ∧ vals'.size = vals.size

/-- The memory is as the names say. -/
structure Mem (base : Nat) (M : LM) (w0 : World) (V : Vl) (hp : Nat → Ent) (w : World) : Prop where
  ents : ∀ n, (hp n).ok V hp w n
  box : ∀ n cs, hp n = .bx cs → V.has n
  own : ∀ n, (hp n).live = true → V.has n → (base ≤ V.blk n ∨ M (V.blk n)) ∧ V.blk n < w.heap.size ∧ ¬ V.Z false (V.blk n)
  mine : ∀ n e xs, hp n = .row true e xs → V.has n → base ≤ V.blk n
  dist : ∀ n m, (hp n).live = true → (hp m).live = true → V.has n → V.has m → V.blk n = V.blk m → n = m
  z0 : ∀ b, V.Z0 b → b < base ∧ M.old b
  z1 : ∀ b, V.Z1 b → base ≤ b ∧ b < w.heap.size
  kept : Kept base M w0 w
  lent : ∀ n, (hp n).lentish → V.has n → M.nm (V.blk n) n
  lentb : ∀ b, M.lb b → (hp 0).isBx = true ∧ V.blk 0 = b
  lids : ∀ n, V.has n → ∀ i ∈ (hp n).lids, n = 0 → M i

/-- A frame's temporaries and a world are as the symbolic state says. -/
structure Rel (base : Nat) (M : LM) (w0 : World) (V : Vl) (st : St) (ts : Array Value) (w : World) : Prop where
  len : st.ts.length = ts.size
  slots : ∀ (i : Nat) s v, st.ts[i]? = some s → ts[i]? = some v → S.ok V st.ent w s v
  mem : Mem base M w0 V st.ent w

end Go.SX


/- The symbolic executor: what an operation, a region, a code comes to, as a proposition over numbers and lists. Definitions alone. No condition. -/
namespace Go.SX
open Go.RowKit
set_option linter.unusedVariables false

inductive TK where
  | int (k : IntKind)
  | bool
  | str
  | sl (e : TypeId) (esize ebytes : Nat) (ety : Ty)
  | st (fs : List (Nat × Nat × Bool))
  /-- an array of 'len' elements of 'es' cells each: 'n' flat ones in all -/
  | arr (len : Nat) (te : TypeId) (es n : Nat) (ety : Ty)
  | sc

structure TI where
  k : TK
  size : Nat
  bytes : Nat
  zero : List Value
  ty : Option Ty
  /-- a struct of ints and bools, that '==' compares: is the field a bool? -/
  eq : Option (List Bool)

abbrev Tab := TypeId → Option TI

@[reducible] def Tup : List Ty → Type
  | [] => Unit
  | [t] => t.den
  | t :: u :: r => t.den × Tup (u :: r)

/-- The contract of a function that writes to memory of its own alone. -/
structure PC where
  ts : List Ty
  rs : List Ty
  pre : Tup ts → Prop
  F : Tup ts → Tup rs
  /-- is the result's memory written no more? -/
  fz : Bool := false

/-- Integers as the operations compute them. -/
def ishl (k : IntKind) (a n : Int) : Int := k.wrap (a * 2 ^ min n.toNat k.bits)
def ishr (k : IntKind) (a n : Int) : Int := a.fdiv (2 ^ min n.toNat k.bits)
def iand (k : IntKind) (a b : Int) : Int := k.wrap (BitVec.ofInt k.bits a &&& BitVec.ofInt k.bits b).toNat
def ior (k : IntKind) (a b : Int) : Int := k.wrap (BitVec.ofInt k.bits a ||| BitVec.ofInt k.bits b).toNat
def ixor (k : IntKind) (a b : Int) : Int := k.wrap (BitVec.ofInt k.bits a ^^^ BitVec.ofInt k.bits b).toNat
def imin (a b : Int) : Int := if b < a then b else a
def imax (a b : Int) : Int := if b > a then b else a

def cell (v : Value) : C :=
  match v with
  | .bool true => .tru
  | .bool false => .fls
  | .int k n => if k.min ≤ n ∧ n ≤ k.max then .val (.int k n) else .any
  | .string s => if s.size ≤ maxLen then .val (.string s) else .any
  | .slice none 0 0 => .val (.slice none 0 0)
  | .pointer none => .val (.pointer none)
  | _ => .any

def S.ofConst (v : Value) : S :=
  match v with
  | .agg cs => if lall Value.oneCell' cs.toList then .agg (lmap cell cs.toList) else .any
  | .tuple _ => .any
  | v => .c (cell v)

def St.eval (st : St) : Operand → S
  | .tmp t => nth .any st.ts t
  | .const v => .ofConst v
  | .global _ => .any
  | .func f => .c (.fn f [])

/-- What came of an operation: what is owed, what is known behind it, its value, new names. -/
structure QR where
  ob : Option Prop := none
  hy : Option Prop := none
  res : S
  new : List Ent := []

def S.cells : S → Option (List C)
  | .c x => some [x]
  | .agg cs => some cs
  | _ => none

def castL {a b : Ty} (h : a = b) (xs : List a.den) : List b.den := h ▸ xs

/-- The cells of a datum. -/
def expand (fr : Bool) : (t : Ty) → t.den → List C
  | .int k, n => [.val (.int k n)]
  | .bool, b => [.val (.bool b)]
  | .str, s => [.val (.string s)]
  | .sl e, xs => [.rd fr e xs]
  | .st t, d => expand fr t d
  | .pr a b, d => lapp (expand fr a d.1) (expand fr b d.2)
  | .ptr t, d => [.at_ fr t d 0]
  | .clo f t, d => [.clo fr f t d]
  | .gs wh e, d => [.rg fr wh e d.1 d.2]

def head1 {α : Type} (f : C → Option α) : List C → Option (α × List C)
  | c :: r => match f c with | some x => some (x, r) | none => none
  | [] => none

def rdInt (k : IntKind) : C → Option Int
  | .val (.int k' n) => if k' = k then some n else none
  | _ => none

def rdBool : C → Option Bool
  | .val (.bool b) => some b
  | .tru => some true
  | .fls => some false
  | _ => none

def rdStr : C → Option ByteArray
  | .val (.string s) => some s
  | _ => none

/-- A list of elements, their blocks told or not. -/
def asL (e' e : Ty) (xs : List e'.den) : Option (List e.den) :=
  if h : e' = e then some (castL h xs) else if h : e'.unG = e then some (castL h (unL e' xs)) else none

def rdSl (lk : Nat → Ent) (e : Ty) : C → Option (List e.den)
  | .rd _ e' xs => asL e' e xs
  | .brw _ e' xs => if h : e' = e then some (castL h xs) else none
  | .own n =>
    match lk n with
    | .row _ e' xs => asL e' e xs
    | _ => none
  | .pre n m =>
    match lk n with
    | .row _ e' xs => asL e' e (xs.take m)
    | _ => none
  | .rg _ _ e' _ xs => asL e' e xs
  | .val (.slice none 0 0) => some []
  | _ => none

def rdG (wh : Bool) (e : Ty) : C → Option (Nat × List e.den)
  | .rg _ wh' e' b xs => if h : e' = e then (if wh && !wh' then none else some (b, castL h xs)) else none
  | .val (.slice none 0 0) => some (0, [])
  | _ => none

def castD {a b : Ty} (h : a = b) (d : a.den) : b.den := h ▸ d

/-- All of it, nothing left. -/
def whole {α : Type} : Option (α × List C) → Option α
  | some (d, []) => some d
  | _ => none

def rdPtr (lk : Nat → Ent) (t : Ty) (rc : List C → Option (t.den × List C)) : C → Option t.den
  | .at_ _ t' d 0 => if h : t' = t then some (castD h d) else none
  | .box n 0 => match lk n with | .bx cs => whole (rc cs) | _ => none
  | _ => none

def rdClo (f : Nat) (t : Ty) (rc : List C → Option (t.den × List C)) : C → Option t.den
  | .clo _ f' t' d => if f' = f then (if h : t' = t then some (castD h d) else none) else none
  | .fn f' ns => if f' = f then whole (rc (lmap (fun n => .box n 0) ns)) else none
  | _ => none

/-- The datum that cells read as; the rest of the cells. -/
def readC (lk : Nat → Ent) : (t : Ty) → List C → Option (t.den × List C)
  | .int k, cs => head1 (rdInt k) cs
  | .bool, cs => head1 rdBool cs
  | .str, cs => head1 rdStr cs
  | .sl e, cs => head1 (rdSl lk e) cs
  | .st t, cs => readC lk t cs
  | .pr a b, cs =>
    match readC lk a cs with
    | some (x, r) =>
      match readC lk b r with
      | some (y, r') => some ((x, y), r')
      | none => none
    | none => none
  | .ptr t, cs => head1 (rdPtr lk t (readC lk t)) cs
  | .clo f t, cs => head1 (rdClo f t (readC lk t)) cs
  | .gs wh e, cs => head1 (rdG wh e) cs

def readAll (lk : Nat → Ent) (t : Ty) (cs : List C) : Option t.den :=
  match readC lk t cs with
  | some (d, []) => some d
  | _ => none

def isSt : Ty → Bool
  | .st _ => true
  | _ => false

def readS (lk : Nat → Ent) (t : Ty) : S → Option t.den
  | .c x => if isSt t then none else readAll lk t [x]
  | .agg cs => if isSt t then readAll lk t cs else none
  | _ => none

def readArgs (lk : Nat → Ent) : (ts : List Ty) → List S → Option (Tup ts)
  | [], [] => some ()
  | [t], [s] => readS lk t s
  | t :: u :: r, s :: ss =>
    match readS lk t s with
    | some x =>
      match readArgs lk (u :: r) ss with
      | some y => some (x, y)
      | none => none
    | none => none
  | _, _ => none

/-- A datum that a call hands back: each slice is a new row. -/
def fresh : (t : Ty) → t.den → Nat → List C × List Ent
  | .int k, n, _ => ([.val (.int k n)], [])
  | .bool, b, _ => ([.val (.bool b)], [])
  | .str, s, _ => ([.val (.string s)], [])
  | .sl e, xs, nx => ([.own nx], [.row true e xs])
  | .st t, d, nx => fresh t d nx
  | .pr a b, d, nx =>
    let x := fresh a d.1 nx
    let y := fresh b d.2 (nx + llen x.2)
    (lapp x.1 y.1, lapp x.2 y.2)
  | .ptr _, _, _ => ([.any], [])
  | .clo _ _, _, _ => ([.any], [])
  | .gs _ _, _, _ => ([.any], [])

def freshTop (t : Ty) (d : t.den) (nx : Nat) : (Bool × List C) × List Ent :=
  let x := fresh t d nx
  ((isSt t, x.1), x.2)

def freshTups : (ts : List Ty) → Tup ts → Nat → List (Bool × List C) × List Ent
  | [], _, _ => ([], [])
  | [t], d, nx => let x := freshTop t d nx; ([x.1], x.2)
  | t :: u :: r, d, nx =>
    let x := freshTop t d.1 nx
    let y := freshTups (u :: r) d.2 (nx + llen x.2)
    (x.1 :: y.1, lapp x.2 y.2)

def topS (x : Bool × List C) : S :=
  if x.1 then .agg x.2 else match x.2 with | [c] => .c c | _ => .any

def freshS (ts : List Ty) (d : Tup ts) (nx : Nat) : S × List Ent :=
  match freshTups ts d nx with
  | ([x], es) => (topS x, es)
  | (xs, es) => (.tup xs, es)

/-- A datum of this call's own memory that is written no more. -/
def frz : (t : Ty) → t.den → List C
  | .int k, n => [.val (.int k n)]
  | .bool, b => [.val (.bool b)]
  | .str, s => [.val (.string s)]
  | .sl e, xs => [.rd true e xs]
  | .st t, d => frz t d
  | .pr a b, d => lapp (frz a d.1) (frz b d.2)
  | .ptr _, _ => [.any]
  | .clo _ _, _ => [.any]
  | .gs _ _, _ => [.any]

def frzS : (ts : List Ty) → Tup ts → S
  | [t], d => topS (isSt t, frz t d)
  | _, _ => .any

def callRes (fz : Bool) (ts : List Ty) (d : Tup ts) (nx : Nat) : S × List Ent :=
  match fz with
  | true => (frzS ts d, [])
  | false => freshS ts d nx

def tupWf : (ts : List Ty) → Tup ts → Prop
  | [], _ => True
  | [t], d => t.wf d
  | t :: u :: r, d => t.wf d.1 ∧ tupWf (u :: r) d.2

/-- Do the results tell anything? -/
def hyB : List Ty → Bool
  | [] => false
  | [.bool] => false
  | _ => true

def hyOf (ts : List Ty) (d : Tup ts) : Option Prop := if hyB ts then some (tupWf ts d) else none

def qcall (Γ : FuncId → Option PC) (lk : Nat → Ent) (nx : Nat) (f : FuncId) (args : List S) : Option QR :=
  match Γ f with
  | some c =>
    match readArgs lk c.ts args with
    | some d => let r := callRes c.fz c.rs (c.F d) nx; some { ob := some (c.pre d), hy := hyOf c.rs (c.F d), res := r.1, new := r.2 }
    | none => none
  | none => none

def ibin (op : BinOp) (k : IntKind) (a b : Int) : Option (Option Prop × C) :=
  match op with
  | .add => some (none, .val (.int k (k.wrap (a + b))))
  | .sub => some (none, .val (.int k (k.wrap (a - b))))
  | .mul => some (none, .val (.int k (k.wrap (a * b))))
  | .quo => some (some (b ≠ 0), .val (.int k (k.wrap (a.tdiv b))))
  | .rem => some (some (b ≠ 0), .val (.int k (a.tmod b)))
  | .and => some (none, .val (.int k (iand k a b)))
  | .or => some (none, .val (.int k (ior k a b)))
  | .xor => some (none, .val (.int k (ixor k a b)))
  | .eql => some (none, .val (.bool (decide (a = b))))
  | .neq => some (none, .val (.bool (!decide (a = b))))
  | .lss => some (none, .val (.bool (decide (a < b))))
  | .leq => some (none, .val (.bool (decide (a ≤ b))))
  | .gtr => some (none, .val (.bool (decide (b < a))))
  | .geq => some (none, .val (.bool (decide (b ≤ a))))
  | _ => none

def boolOf : C → Option Bool
  | .val (.bool b) => some b
  | .tru => some true
  | .fls => some false
  | _ => none

def qbin (op : BinOp) (x y : C) : Option QR :=
  match op, x, y with
  | .shl, .val (.int k a), .val (.int _ n) => some { ob := some (0 ≤ n), res := .c (.val (.int k (ishl k a n))) }
  | .shr, .val (.int k a), .val (.int _ n) => some { ob := some (0 ≤ n), res := .c (.val (.int k (ishr k a n))) }
  | op, .val (.int k a), .val (.int k' b) =>
    if k' = k then
      match ibin op k a b with
      | some (p, c) => some { ob := p, res := .c c }
      | none => none
    else none
  | _, _, _ => none

/-- As 'qbin'; besides, two bools compared. -/
def qbinT (T : Tab) (t : TypeId) (op : BinOp) (x y : C) : Option QR :=
  match qbin op x y with
  | some r => some r
  | none =>
    match T t, boolOf x, boolOf y, op with
    | some { k := .bool, .. }, some a, some b, .eql => some { res := .c (.val (.bool (a == b))) }
    | some { k := .bool, .. }, some a, some b, .neq => some { res := .c (.val (.bool (!(a == b)))) }
    | _, _, _, _ =>
      match T t, rdStr x, rdStr y, op with
      | some { k := .str, .. }, some a, some b, .eql => some { res := .c (.val (.bool (decide (a = b)))) }
      | some { k := .str, .. }, some a, some b, .neq => some { res := .c (.val (.bool (!decide (a = b)))) }
      | _, _, _, _ => none

/-- Cells, one by one compared. -/
def eqCs : List Bool → List C → List C → Option Bool
  | [], [], [] => some true
  | false :: ks, .val (.int k a) :: xs, .val (.int k' b) :: ys => if k' = k then omap (fun r => decide (a = b) && r) (eqCs ks xs ys) else none
  | true :: ks, x :: xs, y :: ys =>
    match boolOf x, boolOf y with
    | some a, some b => omap (fun r => (a == b) && r) (eqCs ks xs ys)
    | _, _ => none
  | _, _, _ => none

/-- Two structs compared. -/
def qbinA (T : Tab) (t : TypeId) (op : BinOp) (xs ys : List C) : Option QR :=
  match obind (T t) (fun i => i.eq) with
  | some ks =>
    match eqCs ks xs ys, op with
    | some b, .eql => some { res := .c (.val (.bool b)) }
    | some b, .neq => some { res := .c (.val (.bool (!b))) }
    | _, _ => none
  | none => none

def qun (op : UnOp) (x : C) : Option QR :=
  match op, x with
  | .not, .val (.bool b) => some { res := .c (.val (.bool !b)) }
  | .not, .tru => some { res := .c .fls }
  | .not, .fls => some { res := .c .tru }
  | .neg, .val (.int k n) => some { res := .c (.val (.int k (k.wrap (0 - n)))) }
  | _, _ => none

def qpick (c a b : S) : Option S :=
  match c, a, b with
  | .c .tru, a, _ => some a
  | .c .fls, _, b => some b
  | .c (.val (.bool p)), .c (.val (.int k x)), .c (.val (.int k' y)) => if k' = k then some (.c (.val (.int k (if p then x else y)))) else none
  | .c (.val (.bool p)), .c x, .c y =>
    match boolOf x, boolOf y with
    | some a, some b => some (.c (.val (.bool (if p then a else b))))
    | _, _ => none
  | _, _, _ => none

/-- The length of a slice. -/
def lenC (lk : Nat → Ent) : C → Option Int
  | .rd _ _ xs => some (xs.length : Int)
  | .brw _ _ xs => some (xs.length : Int)
  | .own n => match lk n with | .row _ _ xs => some (xs.length : Int) | _ => none
  | .pre _ h => some (h : Int)
  | .rg _ _ _ _ xs => some (xs.length : Int)
  | .val (.slice none 0 0) => some 0
  | _ => none

/-- The length of a slice or a string, by its type. -/
def lenT (T : Tab) (lk : Nat → Ent) (t : TypeId) (x : C) : Option Int :=
  match T t, x with
  | some { k := .str, .. }, .val (.string s) => some (s.size : Int)
  | some { k := .sl _ _ _ _, .. }, x => lenC lk x
  | _, _ => none

def packC (T : Tab) (t : TypeId) (cs : List C) : Option S :=
  match T t with
  | some { k := .st _, size := n, .. } => if llen cs = n then some (.agg cs) else none
  | some { k := .arr _ _ _ _ _, .. } => none
  | some _ => match cs with | [x] => some (.c x) | _ => none
  | none => none

def sizeT (T : Tab) (t : TypeId) : Option Nat := omap (·.size) (T t)

def partOf (cs : List C) (off n : Nat) : Option (List C) :=
  let r := ltake n (ldrop off cs)
  if llen r = n then some r else none

def bxCells : Ent → Option (List C)
  | .bx cs => some cs
  | _ => none

/-- The cells behind an address. -/
def cellsOfPtr (lk : Nat → Ent) (n : Nat) : C → Option (List C)
  | .at_ fr ty d off => partOf (expand fr ty d) off n
  | .box m off => match lk m with | .bx cs => partOf cs off n | _ => none
  | .elt m i off => match lk m with | .row fr e xs => partOf (expand fr e (xs.getD i e.dflt)) off n | _ => none
  | _ => none

def qload (T : Tab) (lk : Nat → Ent) (t : TypeId) (p : C) : Option QR :=
  match sizeT T t with
  | none => none
  | some n =>
    match cellsOfPtr lk n p with
    | some cs => omap (fun s => { res := s }) (packC T t cs)
    | none => none

def fieldOf (T : Tab) (t : TypeId) (f : Nat) : Option (Nat × Nat × Bool) :=
  match T t with
  | some { k := .st fs, .. } => nth? fs f
  | _ => none

def qfieldAddr (T : Tab) (t : TypeId) (p : C) (f : Nat) : Option QR :=
  match fieldOf T t f with
  | some (o, _, _) =>
    match p with
    | .at_ fr ty d off => some { res := .c (.at_ fr ty d (off + o)) }
    | .box m off => some { res := .c (.box m (off + o)) }
    | .elt m i off => some { res := .c (.elt m i (off + o)) }
    | _ => none
  | none => none

def elemTy (T : Tab) (t : TypeId) : Option Ty :=
  match T t with
  | some { k := .sl _ _ _ e, .. } => some e
  | _ => none

def qindexS (T : Tab) (lk : Nat → Ent) (t : TypeId) (x : C) (i : C) : Option QR :=
  match elemTy T t, x, i with
  | some e', .rd fr e xs, .val (.int _ n) => if e.unG = e' then some { ob := some (0 ≤ n ∧ n < (xs.length : Int)), res := .c (.at_ fr e (xs.getD n.toNat e.dflt) 0) } else none
  | some e', .rg fr _ e _ xs, .val (.int _ n) => if e.unG = e' then some { ob := some (0 ≤ n ∧ n < (xs.length : Int)), res := .c (.at_ fr e (xs.getD n.toNat e.dflt) 0) } else none
  | some e', .own m, .val (.int _ n) =>
    match lk m with
    | .row _ e xs => if e.unG = e' then some { ob := some (0 ≤ n ∧ n < (xs.length : Int)), res := .c (.elt m n.toNat 0) } else none
    | _ => none
  | some e', .pre m h, .val (.int _ n) =>
    match lk m with
    | .row _ e _ => if e.unG = e' then some { ob := some (0 ≤ n ∧ n < (h : Int)), res := .c (.elt m n.toNat 0) } else none
    | _ => none
  | _, _, _ => none

/-- An element of an array that is a row. -/
def qindexA (T : Tab) (lk : Nat → Ent) (t : TypeId) (m i0 : Nat) (k : Int) : Option QR :=
  match T t with
  | some { k := .arr len te es n ety, .. } =>
    match lk m with
    | .row _ e xs => if e = ety then some { ob := some (0 ≤ k ∧ k < (len : Int) ∧ i0 + (k.toNat + 1) * (es / ety.size) ≤ xs.length), res := .c (.elt m (i0 + k.toNat * (es / ety.size)) 0) } else none
    | _ => none
  | _ => none

def qindexAddr (T : Tab) (lk : Nat → Ent) (t : TypeId) (x : C) (i : C) : Option QR :=
  match x, i with
  | .elt m i0 0, .val (.int _ k) => qindexA T lk t m i0 k
  | x, i => qindexS T lk t x i

def boundC (dft : Int) : Option S → Option Int
  | none => some dft
  | some (.c (.val (.int _ n))) => some n
  | _ => none

def qslice (T : Tab) (lk : Nat → Ent) (t : TypeId) (x : C) (lo hi : Option S) : Option QR :=
  match elemTy T t, x with
  | some e', .rd fr e xs =>
    match boundC 0 lo, boundC xs.length hi with
    | some l, some h => if e.unG = e' then some { ob := some (0 ≤ l ∧ l ≤ h ∧ h ≤ (xs.length : Int)), res := .c (.rd fr e ((xs.take h.toNat).drop l.toNat)) } else none
    | _, _ => none
  | some e', .rg fr _ e _ xs =>
    match boundC 0 lo, boundC xs.length hi with
    | some l, some h => if e.unG = e' then some { ob := some (0 ≤ l ∧ l ≤ h ∧ h ≤ (xs.length : Int)), res := .c (.rd fr e ((xs.take h.toNat).drop l.toNat)) } else none
    | _, _ => none
  | some e', .own m =>
    match lk m with
    | .row _ e xs =>
      match lo, boundC xs.length hi with
      | none, some h => if e.unG = e' then some { ob := some (0 ≤ h ∧ h ≤ (xs.length : Int)), res := .c (.pre m h.toNat) } else none
      | some l, some h =>
        match boundC 0 (some l) with
        | some l => if e.unG = e' then some { ob := some (0 ≤ l ∧ l ≤ h ∧ h ≤ (xs.length : Int)), res := .c (.brw m e ((xs.take h.toNat).drop l.toNat)) } else none
        | none => none
      | _, _ => none
    | _ => none
  | some e', .pre m k =>
    match lk m with
    | .row _ e xs =>
      match lo, boundC k hi with
      | none, some h => if e.unG = e' then some { ob := some (0 ≤ h ∧ h ≤ (k : Int)), res := .c (.pre m h.toNat) } else none
      | _, _ => none
    | _ => none
  | _, _ => none

def fillC (fs : List (Nat × Nat × Bool)) (cs : List C) : List (Nat × S) → Option (List C)
  | [] => some cs
  | (i, s) :: r =>
    match nth? fs i, s.cells with
    | some (o, n, _), some xs => if llen xs = n ∧ o + n ≤ llen cs then fillC fs (lapp (ltake o cs) (lapp xs (ldrop (o + n) cs))) r else none
    | _, _ => none

/-- The parts, from 'k' on, none left out. -/
def seqParts (lk : Nat → Ent) (e : Ty) : Nat → List (Nat × S) → Option (List e.den)
  | _, [] => some []
  | k, p :: r =>
    if p.1 = k then
      match readS lk e p.2, seqParts lk e (k + 1) r with
      | some x, some xs => some (x :: xs)
      | _, _ => none
    else none

def C.noOwn : C → Bool
  | .own _ => false
  | .pre _ _ => false
  | .brw _ _ _ => false
  | .box _ _ => false
  | .elt _ _ _ => false
  | .fn _ ns => (match ns with | [] => true | _ => false)
  | _ => true

def S.noOwn : S → Bool
  | .c x => x.noOwn
  | .agg cs => lall C.noOwn cs
  | _ => true

/-- Are all slices among the cells of this call's own memory? -/
def C.isFr : C → Bool
  | .rd fr _ _ => fr
  | .brw _ _ _ => false
  | .at_ fr _ _ _ => fr
  | .clo fr _ _ _ => fr
  | .rg fr _ _ _ _ => fr
  | _ => true
def S.isFr : S → Bool
  | .c x => x.isFr
  | .agg cs => lall C.isFr cs
  | _ => true

/-- An array: of zeros, or of all its elements. -/
def qbuildA (len es n : Nat) (ety : Ty) (parts : List (Nat × S)) : Option QR :=
  match parts with
  | [] => some { res := .arr ety (List.replicate n ety.dflt) }
  | parts => if lall (fun p => p.2.noOwn) parts && decide (llen parts = len) && decide (es = ety.size) then omap (fun xs => { res := .arr ety xs }) (seqParts (fun _ => .dead) ety 0 parts) else none

def qbuild (T : Tab) (t : TypeId) (parts : List (Nat × S)) : Option QR :=
  match T t with
  | some { k := .st fs, zero := z, .. } => omap (fun cs => { res := .agg cs }) (fillC fs (lmap cell z) parts)
  | some { k := .arr len te es n ety, .. } => qbuildA len es n ety parts
  | _ => none

def qalloc (T : Tab) (nx : Nat) (t : TypeId) : Option QR :=
  match T t with
  | some ti =>
    match ti.k with
    | .arr len te es n ety => some { res := .c (.elt nx 0 0), new := [.row true ety (List.replicate n ety.dflt)] }
    | _ => some { res := .c (.box nx 0), new := [.bx (lmap cell ti.zero)] }
  | none => none

/-- Slices of flat elements, their blocks told. -/
def Ty.gsify : Ty → Ty
  | .sl e => if e.flat then .gs true e else .sl e
  | .st t => .st t.gsify
  | .pr a b => .pr a.gsify b.gsify
  | t => t

def C.isG : C → Bool
  | .rg _ wh _ _ _ => wh
  | _ => false

def S.isG : S → Bool
  | .c x => x.isG
  | .agg cs => lany C.isG cs
  | _ => false

/-- The type of the elements of a literal: are blocks told? -/
def litTy (e : Ty) (parts : List (Nat × S)) : Ty := if isSt e && lany (fun p => p.2.isG) parts && decide (e.gsify.unG = e) then e.gsify else e

def qbuildSliceAt (lk : Nat → Ent) (nx : Nat) (e : Ty) (n : Nat) (parts : List (Nat × S)) : Option QR :=
  if lall (fun p => p.2.noOwn) parts && decide (llen parts = n) && decide (n * e.size ≤ 1000) && (!e.hasG || lall (fun p => p.2.isFr) parts) then
    omap (fun xs => { res := .c (.own nx), new := [.row (e.flat || lall (fun p => p.2.isFr) parts) e xs] }) (seqParts lk e 0 parts)
  else none

def qbuildSlice (T : Tab) (lk : Nat → Ent) (nx : Nat) (t : TypeId) (n : Nat) (parts : List (Nat × S)) : Option QR :=
  match elemTy T t with
  | some e => qbuildSliceAt lk nx (litTy e parts) n parts
  | none => none

def qmakeSlice (T : Tab) (nx : Nat) (t : TypeId) (l c : C) : Option QR :=
  match T t, l, c with
  | some { k := .sl _ _ b e, .. }, .val (.int .i64 n), .val (.int .i64 m) =>
    if 1 ≤ b && e.plain then some { ob := some (0 ≤ n ∧ n ≤ m ∧ m * (b : Int) ≤ 140737488355328), res := .c (.own nx), new := [.row true e (List.replicate n.toNat e.dflt)] } else none
  | _, _, _ => none

def intsOf : List S → Option (List (IntKind × Int))
  | [] => some []
  | .c (.val (.int k n)) :: r => omap ((k, n) :: ·) (intsOf r)
  | _ => none

def qbuiltin (T : Tab) (lk : Nat → Ent) (b : Builtin) (ats : List TypeId) (args : List S) : Option QR :=
  match b, ats, args with
  | .len, [t], [.c x] => omap (fun n => { res := .c (.val (.int .i64 n)) }) (lenT T lk t x)
  | .min, _, [.c (.val (.int k x)), .c (.val (.int k' y))] => if k' = k then some { res := .c (.val (.int k (imin x y))) } else none
  | .max, _, [.c (.val (.int k x)), .c (.val (.int k' y))] => if k' = k then some { res := .c (.val (.int k (imax x y))) } else none
  | _, _, _ => none

def capsOf : List S → Option (List Nat)
  | [] => some []
  | .c (.box n 0) :: r => omap (n :: ·) (capsOf r)
  | _ => none

def S.isPtr : S → Bool
  | .c (.box _ _) | .c (.at_ _ _ _ _) | .c (.elt _ _ _) | .c (.fn _ _) => true
  | _ => false

/-- An operation that writes nothing that was there. 'ev': its operands; 'lk': the names; 'nx': the next name. -/
def qop (T : Tab) (Γ : FuncId → Option PC) (lk : Nat → Ent) (nx : Nat) (ev : Operand → S) (o : Op) : Option QR :=
  match o with
  | .move x | .assign x => some { res := ev x }
  | .pick c a b => omap (fun s => { res := s }) (qpick (ev c) (ev a) (ev b))
  | .alloc t => qalloc T nx t
  | .box _ x => match (ev x).cells with | some cs => some { res := .c (.box nx 0), new := [.bx cs] } | none => none
  | .build t parts => qbuild T t (lmap (fun p => (p.1, ev p.2)) parts.toList)
  | .buildSlice t n parts => qbuildSlice T lk nx t n (lmap (fun p => (p.1, ev p.2)) parts.toList)
  | .load t a => match ev a with | .c p => qload T lk t p | _ => none
  | .nilCheck x => if (ev x).isPtr then some { res := ev x } else none
  | .binOp op t x y _ => match ev x, ev y with | .c a, .c b => qbinT T t op a b | .agg a, .agg b => qbinA T t op a b | _, _ => none
  | .unOp op _ x => match ev x with | .c a => qun op a | _ => none
  | .convert s t x =>
    match T s, T t, ev x with
    | some _, some { k := .int k, .. }, .c (.val (.int _ n)) => some { res := .c (.val (.int k (k.wrap n))) }
    | some { k := .sl e _ _ _, .. }, some { k := .str, .. }, .c x =>
      match T e with
      | some { k := .int .u8, .. } => omap (fun xs => { res := .c (.val (.string (strOfNums xs))) }) (rdSl lk (.int .u8) x)
      | _ => none
    | _, _, _ => none
  | .makeSlice t l c => match ev l, ev c with | .c l, .c c => qmakeSlice T nx t l c | _, _ => none
  | .slice t x lo hi none => match ev x with | .c x => qslice T lk t x (omap ev lo) (omap ev hi) | _ => none
  | .fieldAddr t x f => match ev x with | .c p => qfieldAddr T t p f | _ => none
  | .field t x f =>
    match fieldOf T t f, ev x with
    | some (off, n, ag), .agg cs => omap (fun r => { res := topS (ag, r) }) (partOf cs off n)
    | _, _ => none
  | .indexAddr t x i => match ev x, ev i with | .c x, .c i => qindexAddr T lk t x i | _, _ => none
  | .extract x i => match ev x with | .tup vs => omap (fun v => { res := topS v }) (nth? vs i) | _ => none
  | .makeFunc (.func f) first captured => match first.toList with | [] => omap (fun ns => { res := .c (.fn f ns) }) (capsOf (lmap ev captured.toList)) | _ => none
  | .call c =>
    match c.callee with
    | .builtin b => qbuiltin T lk b c.argTypes.toList (lmap ev c.args.toList)
    | .value f =>
      match ev f with
      | .c (.fn g []) => qcall Γ lk nx g (lmap ev c.args.toList)
      | .c (.clo fr g t d) => qcall Γ lk nx g (lapp (lmap ev c.args.toList) (lmap S.c (expand fr t d)))
      | _ => none
    | _ => none
  | _ => none

/-! ### Operations that write, in the order of the text -/

def S.map (f : C → C) : S → S
  | .c x => .c (f x)
  | .agg cs => .agg (lmap f cs)
  | .tup vs => .tup (lmap (fun v => (v.1, lmap f v.2)) vs)
  | .und => .und
  | .any => .any
  | .arr e xs => .arr e xs

def Ent.map (f : C → C) : Ent → Ent
  | .bx cs => .bx (lmap f cs)
  | .row fr e xs => .row fr e xs
  | .dead => .dead

def St.map (st : St) (f : C → C) : St :=
  { ts := lmap (S.map f) st.ts, hp := lmap (Ent.map f) st.hp }

/-- No word of row 'm' any more. -/
def killO (m : Nat) : C → C
  | .own n => if n = m then .any else .own n
  | .pre n h => if n = m then .any else .pre n h
  | .brw n e xs => if n = m then .any else .brw n e xs
  | .elt n i o => if n = m then .any else .elt n i o
  | c => c

def killB (m : Nat) : C → C
  | .brw n e xs => if n = m then .any else .brw n e xs
  | c => c

/-- Row 'm' is not written any more. -/
def freezeC (m : Nat) (fr : Bool) (e : Ty) (xs : List e.den) : C → C
  | .own n => if n = m then .rd fr e xs else .own n
  | .pre n h => if n = m then .rd fr e (xs.take h) else .pre n h
  | .brw n e' ys => if n = m then .rd false e' ys else .brw n e' ys
  | .elt n i o => if n = m then .at_ fr e (xs.getD i e.dflt) o else .elt n i o
  | c => c

def St.freeze (st : St) (m : Nat) : St :=
  match st.ent m with
  | .row fr e xs => { (st.map (freezeC m fr e xs)) with hp := lset ((st.map (freezeC m fr e xs)).hp) m .dead }
  | _ => st

def ownsOf : List C → List Nat
  | [] => []
  | .own n :: r => n :: ownsOf r
  | .pre n _ :: r => n :: ownsOf r
  | .brw n _ _ :: r => n :: ownsOf r
  | _ :: r => ownsOf r

def St.freezes (st : St) : List Nat → St
  | [] => st
  | n :: r => (st.freeze n).freezes r

def St.put (st : St) (dst : Option Nat) (s : S) : St :=
  match dst with
  | some d => { st with ts := lset st.ts d s }
  | none => st

def St.alloc (st : St) (es : List Ent) : St := { st with hp := lapp st.hp es }

structure ER where
  ob : Option Prop := none
  st : St
  res : S

def splice (cs : List C) (off : Nat) (xs : List C) : List C := lapp (ltake off cs) (lapp xs (ldrop (off + llen xs) cs))

/-- Nothing told. -/
def C.noTold : C → Bool
  | .rg _ _ _ _ _ => false
  | .rd _ e _ => !e.hasG
  | .own _ => false
  | .pre _ _ => false
  | .brw _ _ _ => false
  | _ => true

/-- A told row that is lent as name 0 takes no slices; another one only slices of this call's own. -/
def storeB (m : Nat) (fr : Bool) (e : Ty) (xs : List C) : Bool := !e.hasG || (if fr then lall C.isFr xs else (!(Nat.beq m 0) || lall C.noTold xs))

def estore (T : Tab) (st : St) (t : TypeId) (p x : Operand) : Option ER :=
  match sizeT T t, st.eval p, (st.eval x).cells with
  | some n, .c (.box m off), some xs =>
    match st.ent m with
    | .bx cs => if llen xs = n ∧ off + n ≤ llen cs then some { st := { st with hp := lset st.hp m (.bx (splice cs off xs)) }, res := .und } else none
    | _ => none
  | some n, .c (.elt _ _ _), some xs =>
    let st1 := st.freezes (ownsOf xs)
    match st1.eval p, (st1.eval x).cells with
    | .c (.elt m i off), some xs =>
      match st1.ent m with
      | .row fr e ys =>
        if llen xs = n ∧ off + n ≤ e.size ∧ lall C.noOwn xs = true ∧ storeB m fr e xs = true then
          match readAll st1.ent e (splice (expand fr e (ys.getD i e.dflt)) off xs) with
          | some y => some { st := { (st1.map (killB m)) with hp := lset (st1.map (killB m)).hp m (.row (fr && (e.flat || lall C.isFr xs)) e (ys.set i y)) }, res := .und }
          | none => none
        else none
      | _ => none
    | _, _ => none
  | _, _, _ => none

/-- Are the elements of this slice of this call's own memory? -/
def rowFr (lk : Nat → Ent) (e : Ty) : C → Option Bool
  | .rd fr _ _ => some (e.flat || fr)
  | .own n => match lk n with | .row fr _ _ => some (e.flat || fr) | _ => none
  | .pre n _ => match lk n with | .row fr _ _ => some (e.flat || fr) | _ => none
  | .brw _ _ _ => if e.flat then some true else none
  | .rg fr _ _ _ _ => some (e.flat || fr)
  | .val (.slice none 0 0) => some true
  | _ => none

/-- The type of a slice's elements, as it is known. -/
def rowTy (lk : Nat → Ent) (e : Ty) : C → Ty
  | .own n => match lk n with | .row _ e' _ => if e'.unG = e then e' else e | _ => e
  | .pre n _ => match lk n with | .row _ e' _ => if e'.unG = e then e' else e | _ => e
  | .rd _ e' _ => if e'.unG = e then e' else e
  | _ => e

/-- The type of the elements behind an append. -/
def appTy (lk : Nat → Ent) (e : Ty) (s x : C) : Ty :=
  match s with
  | .val _ => rowTy lk e x
  | s => rowTy lk e s

def eappendAt (st : St) (b : Nat) (e : Ty) (s x : C) : Option ER :=
  if b = 0 then none else
  match rdSl st.ent e x, rowFr st.ent e x with
  | some ys, some f =>
    match s with
    | .own m =>
      match st.ent m with
      | .row fr e' xs =>
        if h : e' = e then
          if (e.flat && !fr) || (e.hasG && !(fr && f)) then none else
          if lany (fun k => k == m) (ownsOf [x]) then none else
          some { ob := some ((xs.length + ys.length) * b ≤ 140737488355328),
                 st := { (st.map (killO m)) with hp := lset (st.map (killO m)).hp m (.row (fr && f) e (castL h xs ++ ys)) }, res := .c (.own m) }
        else none
      | _ => none
    | .pre m n =>
      match st.ent m with
      | .row fr e' xs =>
        if h : e' = e then
          if (e.flat && !fr) || (e.hasG && !(fr && f)) then none else
          if lany (fun k => k == m) (ownsOf [x]) then none else
          some { ob := some ((n + ys.length) * b ≤ 140737488355328),
                 st := { (st.map (killO m)) with hp := lset (st.map (killO m)).hp m (.row (fr && f) e ((castL h xs).take n ++ ys)) }, res := .c (.own m) }
        else none
      | _ => none
    | .val (.slice none 0 0) =>
      if e.hasG && !f then none else
      some { ob := some (ys.length * b ≤ 140737488355328), st := st.alloc [.row f e ys], res := .c (.own (llen st.hp)) }
    | _ => none
  | _, _ => none

def eappend (T : Tab) (st : St) (t : TypeId) (s x : Operand) : Option ER :=
  match T t, st.eval s, st.eval x with
  | some { k := .sl _ _ b e0, .. }, .c s, .c x => eappendAt st b (appTy st.ent e0 s x) s x
  | _, _, _ => none

/-- 'buildSlice' of what this call owns: those rows are not written any more. -/
def ownsParts (st : St) : List (Nat × Operand) → List Nat
  | [] => []
  | p :: r => lapp (match (st.eval p.2).cells with | some cs => ownsOf cs | none => []) (ownsParts st r)

def ebuildSlice (T : Tab) (st : St) (t : TypeId) (n : Nat) (parts : List (Nat × Operand)) : Option ER :=
  let ns := ownsParts st parts
  let st1 := st.freezes ns
  match qbuildSlice T st1.ent (llen st1.hp) t n (lmap (fun p => (p.1, st1.eval p.2)) parts) with
  | some r => some { ob := r.ob, st := st1.alloc r.new, res := r.res }
  | none => none

def eappendL (T : Tab) (st : St) (args : List Operand) (ats : List TypeId) : Option ER :=
  match args, ats with
  | [s, x], [t, t'] => if t = t' then eappend T st t s x else none
  | _, _ => none

def isAppend : Callee → Bool
  | .builtin .append => true
  | _ => false

/-- A whole array is stored. -/
def eastore (T : Tab) (st : St) (t : TypeId) (p x : Operand) : Option ER :=
  match T t, st.eval p, st.eval x with
  | some { k := .arr _ _ _ _ _, size := sz, .. }, .c (.elt m 0 0), .arr e xs =>
    match st.ent m with
    | .row fr e' ys =>
      if e' = e then some { ob := some (xs.length = ys.length ∧ xs.length * e.size = sz), st := { (st.map (killB m)) with hp := lset (st.map (killB m)).hp m (.row fr e xs) }, res := .und } else none
    | _ => none
  | _, _, _ => none

def eop (T : Tab) (st : St) (o : Op) : Option ER :=
  match o with
  | .store t a x => match estore T st t a x with | some r => some r | none => eastore T st t a x
  | .buildSlice t n parts => ebuildSlice T st t n parts.toList
  | .call c => if isAppend c.callee then eappendL T st c.args.toList c.argTypes.toList else none
  | _ => none

/-! ### A row that is laid into another: its block is told -/

/-- 'none': nothing is owed. -/
def oand (p q : Option Prop) : Option Prop :=
  match p, q with
  | none, q => q
  | p, none => p
  | some p, some q => some (p ∧ q)

def toP : Option Prop → Prop
  | none => True
  | some p => p

/-- 'b' is none of the told blocks. -/
def C.nin (b : Nat) : C → Option Prop
  | .rg _ wh e b' xs => some (b ∉ ids (.gs wh e) (b', xs))
  | .rd _ e xs => if e.hasG then some (b ∉ idsL e xs) else none
  | .at_ _ t d _ => if t.hasG then some (b ∉ ids t d) else none
  | _ => none

def csNin (b : Nat) : List C → Option Prop
  | [] => none
  | c :: r => oand (c.nin b) (csNin b r)

def Ent.nin (b : Nat) : Ent → Option Prop
  | .row _ e xs => if e.hasG then some (b ∉ idsL e xs) else none
  | .bx cs => csNin b cs
  | .dead => none

def hpNin (b : Nat) : List Ent → Option Prop
  | [] => none
  | e :: r => oand (e.nin b) (hpNin b r)

def neAll (b : Nat) : List Nat → Option Prop
  | [] => none
  | a :: r => oand (some (b ≠ a)) (neAll b r)

def sealC (m b : Nat) (fr : Bool) (e : Ty) (xs : List e.den) : C → C
  | .own n => if n = m then .rg fr true e b xs else .own n
  | .pre n h => if n = m then .rd fr e (xs.take h) else .pre n h
  | .brw n e' ys => if n = m then .rd false e' ys else .brw n e' ys
  | .elt n i o => if n = m then .at_ fr e (xs.getD i e.dflt) o else .elt n i o
  | c => c

def St.sealB (st : St) (m b : Nat) : St :=
  match st.ent m with
  | .row fr e xs => { (st.map (sealC m b fr e xs)) with hp := lset ((st.map (sealC m b fr e xs)).hp) m .dead }
  | _ => st

def sealsVc (acc : List Nat) : List Nat → St → (St → Prop) → Prop
  | [], st, K => K st
  | m :: ms, st, K => ∀ b : Nat, toP (oand (hpNin b st.hp) (neAll b acc)) → sealsVc (b :: acc) ms (st.sealB m b) K

/-- The flat rows of this call's own among cells. -/
def ownFlat (st : St) : List C → List Nat
  | [] => []
  | .own n :: r => match st.ent n with | .row true e _ => if e.flat then n :: ownFlat st r else ownFlat st r | _ => ownFlat st r
  | _ :: r => ownFlat st r

def ownFlatP (st : St) : List (Nat × Operand) → List Nat
  | [] => []
  | p :: r => lapp (match (st.eval p.2).cells with | some cs => ownFlat st cs | none => []) (ownFlatP st r)

/-- Which rows are laid into others. 'tl': literals tell their blocks. -/
def sealOf (T : Tab) (tl : Bool) (st : St) : Op → List Nat
  | .store _ p x =>
    match st.eval p, (st.eval x).cells with
    | .c (.elt m _ _), some cs => (match st.ent m with | .row _ e _ => if e.hasG then ownFlat st cs else [] | _ => [])
    | _, _ => []
  | .buildSlice t _ parts =>
    match elemTy T t with
    | some e => if tl && isSt e then ownFlatP st parts.toList else []
    | none => []
  | _ => []

abbrev Rule := List S → St → (S → St → Prop) → Prop

/-- No function has this number: a rule here says that literals tell their blocks. -/
def tellId : Nat := 1000000

def tellB (R : FuncId → Option Rule) : Bool := (R tellId).isSome

def callOf (st : St) : Op → Option (FuncId × List S)
  | .call c =>
    match c.callee with
    | .value f => match st.eval f with | .c (.fn g []) => some (g, lmap st.eval c.args.toList) | _ => none
    | _ => none
  | _ => none

def andO (p : Option Prop) (q : Prop) : Prop := match p with | none => q | some p => p ∧ q
def impO (p : Option Prop) (q : Prop) : Prop := match p with | none => q | some p => p → q

/-- One operation that is wanted. -/
def vcOp (T : Tab) (Γ : FuncId → Option PC) (R : FuncId → Option Rule) (ev : Operand → S) (lk : Nat → Ent) (o : Oper) (st : St) (K : St → Prop) : Prop :=
  match qop T Γ lk (llen st.hp) ev o.op with
  | some r => andO r.ob (impO r.hy (K ((st.alloc r.new).put o.dst r.res)))
  | none =>
    match sealOf T (tellB R) st o.op with
    | n :: ns => sealsVc [] (n :: ns) st fun st' => match eop T st' o.op with | some r => andO r.ob (K (r.st.put o.dst r.res)) | none => False
    | [] =>
    match eop T st o.op with
    | some r => andO r.ob (K (r.st.put o.dst r.res))
    | none =>
      match callOf st o.op with
      | some (f, args) =>
        match R f with
        | some r => if Nat.beq f tellId then False else r args st fun s st' => K (st'.put o.dst s)
        | none => False
      | none => False

/-- Is there a rule besides the contract? -/
def firstR (Γ : FuncId → Option PC) (R : FuncId → Option Rule) (st : St) (o : Op) : Bool :=
  match callOf st o with
  | some (f, _) => (Γ f).isSome && (R f).isSome
  | none => false

/-- One operation that is wanted, where the order is the text's: rules go first. -/
def vcOpR (T : Tab) (Γ : FuncId → Option PC) (R : FuncId → Option Rule) (ev : Operand → S) (lk : Nat → Ent) (o : Oper) (st : St) (K : St → Prop) : Prop :=
  if firstR Γ R st o.op then
    match callOf st o.op with
    | some (f, args) =>
      match R f with
      | some r => if Nat.beq f tellId then False else r args st fun s st' => K (st'.put o.dst s)
      | none => False
    | none => False
  else vcOp T Γ R ev lk o st K

inductive Dec where
  | go
  | skip
  | ask (d : Nat) (b : Bool) (want : Bool)
  | bad

/-- Is the operation wanted? -/
def decide? (all : Array Oper) (o : Oper) (st : St) : Dec :=
  match o.guard with
  | none => .go
  | some (j, want) =>
    match obind (nth? all.toList j) (·.dst) with
    | some d =>
      match nth .any st.ts d with
      | .c .tru => if want then .go else .skip
      | .c .fls => if want then .skip else .go
      | .c (.val (.bool b)) => .ask d b want
      | .und => .skip
      | _ => .bad
    | none => .bad

def vcSeq (T : Tab) (Γ : FuncId → Option PC) (R : FuncId → Option Rule) (all : Array Oper) : List Oper → St → (St → Prop) → Prop
  | [], st, K => K st
  | o :: rest, st, K =>
    match decide? all o st with
    | .go => vcOpR T Γ R st.eval st.ent o st (fun st' => vcSeq T Γ R all rest st' K)
    | .skip => vcSeq T Γ R all rest (st.put o.dst .und) K
    | .ask d b want =>
      (b = true → if want then vcOpR T Γ R (st.put (some d) (.c .tru)).eval st.ent o (st.put (some d) (.c .tru)) (fun st' => vcSeq T Γ R all rest st' K)
                  else vcSeq T Γ R all rest ((st.put (some d) (.c .tru)).put o.dst .und) K) ∧
      (b = false → if want then vcSeq T Γ R all rest ((st.put (some d) (.c .fls)).put o.dst .und) K
                  else vcOpR T Γ R (st.put (some d) (.c .fls)).eval st.ent o (st.put (some d) (.c .fls)) (fun st' => vcSeq T Γ R all rest st' K))
    | .bad => False

/-! ### A region that draws its order: operations that write nothing, in whatever order; then the rest, in the order of the text -/

def quietB (Γ : FuncId → Option PC) (o : Oper) : Bool :=
  match o.op with
  | .assign _ | .store .. => false
  | .call { callee := .builtin b, .. } => (match b with | .len | .min | .max => true | _ => false)
  | .call { callee := .value (.func f), .. } => (Γ f).isSome
  | .call _ => false
  | _ => true

/-- Which temporaries hold what a call gave? -/
def wrOwn (Γ : FuncId → Option PC) (ws : List Nat) (o : Oper) : List Nat :=
  match o.dst with
  | some d =>
    (match o.op with
     | .call { callee := .value (.func f), .. } => (match Γ f with | some c => if c.fz then ws else d :: ws | none => d :: ws)
     | .call { callee := .value _, .. } => d :: ws
     | .build _ parts => if lany (fun p => match p.2 with | .tmp x => lany (fun y => y == x) ws | _ => false) parts.toList then d :: ws else ws
     | .extract (.tmp x) _ => if lany (fun y => y == x) ws then d :: ws else ws
     | .move (.tmp x) => if lany (fun y => y == x) ws then d :: ws else ws
     | _ => ws)
  | none => ws

/-- A literal of elements that hold rows, made of what a call gave. -/
def bldOwn (T : Tab) (ws : List Nat) (o : Oper) : Bool :=
  match o.op with
  | .buildSlice t _ parts =>
    (match elemTy T t with
     | some e => !e.flat && lany (fun p => match p.2 with | .tmp x => lany (fun y => y == x) ws | _ => false) parts.toList
     | none => false)
  | _ => false

/-- The first operation that is none of the quiet ones. -/
def headLen (T : Tab) (Γ : FuncId → Option PC) (ws : List Nat) : List Oper → Nat
  | [] => 0
  | o :: r => if quietB Γ o && !(bldOwn T ws o) then headLen T Γ (wrOwn Γ ws o) r + 1 else 0

def maskOf (all : Array Oper) (i : Nat) : Nat := (Region.before all).getD i 0

/-- Who of the first 'k' operations writes temporary 't'? -/
def writerOf (all : Array Oper) (t : Nat) : Nat → Option Nat
  | 0 => none
  | k + 1 =>
    match all[k]? with
    | some o => if o.dst = some t then some k else writerOf all t k
    | none => writerOf all t k

/-- What operation 'i' may lean on. -/
def evL (all : Array Oper) (k i : Nat) (st : St) (x : Operand) : S :=
  match x with
  | .tmp t =>
    match writerOf all t k with
    | some j => if (maskOf all i).testBit j then st.eval (.tmp t) else .any
    | none => st.eval (.tmp t)
  | x => st.eval x

def lkL (all : Array Oper) (i nx0 : Nat) (who : List Nat) (st : St) (n : Nat) : Ent :=
  if n < nx0 then st.ent n else
  match nth? who (n - nx0) with
  | some j => if (maskOf all i).testBit j then st.ent n else .dead
  | none => .dead

def chkHead (all : Array Oper) (k : Nat) : Bool :=
  (List.range k).all fun i =>
    match all[i]? with
    | some o =>
      (match o.guard with | some (j, _) => decide (j < i) && (maskOf all i).testBit j | none => true) &&
      (match o.dst with
       | some d => (List.range k).all fun j => j == i || (match all[j]? with | some o' => o'.dst != some d | none => true)
       | none => false)
    | none => false

def chkTail (all : Array Oper) (k : Nat) : Bool :=
  (List.range all.size).all fun i => (decide (i < k) || (List.range i).all fun j => (maskOf all i).testBit j) &&
    (match all[i]? with | some o => o.after.toList.all fun e => !Region.binds .any e || decide (e.on < i) | none => true)

def vcHead (T : Tab) (Γ : FuncId → Option PC) (all : Array Oper) (k nx0 : Nat) : Nat → List Oper → List Nat → St → (St → Prop) → Prop
  | _, [], _, st, K => K st
  | i, o :: rest, who, st, K =>
    let go (st : St) : Prop :=
      match qop T Γ (lkL all i nx0 who st) (llen st.hp) (evL all k i st) o.op with
      | some r => andO r.ob (vcHead T Γ all k nx0 (i + 1) rest (lapp who (lmap (fun _ => i) r.new)) ((st.alloc r.new).put o.dst r.res) fun st' => impO r.hy (K st'))
      | none => False
    let skip (st : St) : Prop := vcHead T Γ all k nx0 (i + 1) rest who (st.put o.dst .und) K
    match decide? all o st with
    | .go => go st
    | .skip => skip st
    | .ask d b want =>
      (b = true → if want then go (st.put (some d) (.c .tru)) else skip (st.put (some d) (.c .tru))) ∧
      (b = false → if want then skip (st.put (some d) (.c .fls)) else go (st.put (some d) (.c .fls)))
    | .bad => False

/-! A region whose orders are gone through one by one. -/

def rdyB (all : List Oper) (listed : List Bool) (i : Nat) : Bool :=
  !(nth true listed i) && (match nth? all i with | some o => lall (fun e => !(Region.binds .any e) || nth false listed e.on) o.after.toList | none => false)

def rdyGo (all : List Oper) (listed : List Bool) : Nat → Nat → List Nat
  | _, 0 => []
  | i, n + 1 => if rdyB all listed i then i :: rdyGo all listed (i + 1) n else rdyGo all listed (i + 1) n

/-- It reads no memory. -/
def silentB (o : Oper) : Bool :=
  match o.guard, o.op with
  | none, .fieldAddr _ _ _ => true
  | none, .move _ => true
  | none, .assign _ => true
  | none, .extract _ _ => true
  | _, _ => false

def freeGo (all : Array Oper) (oi : Oper) (i : Nat) (listed : List Bool) : Nat → List Oper → Bool
  | _, [] => true
  | j, oj :: r => (j == i || nth true listed j || lany (fun e => Region.binds .any e && e.on == i) oj.after.toList || oi.apart all oj) && freeGo all oi i listed (j + 1) r

def noSelB (all : List Oper) : Bool := lall (fun o => match o.op with | .select .. => false | _ => true) all

def takeB (all : Array Oper) (listed : List Bool) (i : Nat) : Bool :=
  match nth? all.toList i with
  | some oi => silentB oi && noSelB all.toList && freeGo all oi i listed 0 all.toList
  | none => false

def firstTake (all : Array Oper) (listed : List Bool) : List Nat → Option Nat
  | [] => none
  | i :: r => if takeB all listed i then some i else firstTake all listed r

def conjL : List Nat → (Nat → Prop) → Prop
  | [], _ => True
  | [i], f => f i
  | i :: r, f => f i ∧ conjL r f

def vcStep (T : Tab) (Γ : FuncId → Option PC) (R : FuncId → Option Rule) (all : Array Oper) (i : Nat) (st : St) (K : St → Prop) : Prop :=
  match nth? all.toList i with
  | some o =>
    match decide? all o st with
    | .go => vcOp T Γ R st.eval st.ent o st K
    | .skip => K (st.put o.dst .und)
    | .ask d b want =>
      (b = true → if want then vcOp T Γ R (st.put (some d) (.c .tru)).eval st.ent o (st.put (some d) (.c .tru)) K
                  else K ((st.put (some d) (.c .tru)).put o.dst .und)) ∧
      (b = false → if want then K ((st.put (some d) (.c .fls)).put o.dst .und)
                  else vcOp T Γ R (st.put (some d) (.c .fls)).eval st.ent o (st.put (some d) (.c .fls)) K)
    | .bad => False
  | none => False

def vcAny (T : Tab) (Γ : FuncId → Option PC) (R : FuncId → Option Rule) (all : Array Oper) : Nat → List Bool → St → (St → Prop) → Prop
  | 0, listed, st, K =>
    match rdyGo all.toList listed 0 (llen all.toList) with
    | [] => K st
    | _ => False
  | n + 1, listed, st, K =>
    match rdyGo all.toList listed 0 (llen all.toList) with
    | [] => K st
    | j :: r =>
      match firstTake all listed (j :: r) with
      | some i => vcStep T Γ R all i st fun st' => vcAny T Γ R all n (lset listed i true) st' K
      | none => conjL (j :: r) fun i => vcStep T Γ R all i st fun st' => vcAny T Γ R all n (lset listed i true) st' K

/-- As 'freeGo', of an operation that has all it waits for. -/
def freeLate (all : Array Oper) (oi : Oper) (i : Nat) : Nat → List Oper → Bool
  | _, [] => true
  | j, oj :: r => (j == i || (maskOf all i).testBit j || lany (fun e => Region.binds .any e && e.on == i) oj.after.toList || oi.apart all oj) && freeLate all oi i (j + 1) r

def lateB (all : Array Oper) (i : Nat) : Bool :=
  match nth? all.toList i with
  | some oi => silentB oi && noSelB all.toList && freeLate all oi i 0 all.toList
  | none => false

/-- What comes behind the first 'k' waits for them, but for those that read no memory. -/
def chkTailL (all : Array Oper) (k : Nat) : Bool :=
  (List.range all.size).all fun i => (decide (i < k) || (List.range k).all fun j => (maskOf all i).testBit j || lateB all j) &&
    (match all[i]? with | some o => o.after.toList.all fun e => !Region.binds .any e || decide (e.on < i) | none => true)

def vcRegion (T : Tab) (Γ : FuncId → Option PC) (R : FuncId → Option Rule) (ops : Array Oper) (draw : Bool) (st : St) (K : St → Prop) : Prop :=
  if draw then
    let k := headLen T Γ [] ops.toList
    if chkHead ops k && chkTail ops k then
      vcHead T Γ ops k (llen st.hp) 0 (ltake k ops.toList) [] st fun st' => vcSeq T Γ R ops (ldrop k ops.toList) st' K
    else if chkHead ops k && chkTailL ops k then
      vcHead T Γ ops k (llen st.hp) 0 (ltake k ops.toList) [] st fun st' => vcAny T Γ R ops (llen (ldrop k ops.toList)) (lapp (lrep true k) (lrep false (llen (ldrop k ops.toList)))) st' K
    else vcAny T Γ R ops (llen ops.toList) (lrep false (llen ops.toList)) st K
  else vcSeq T Γ R ops ops.toList st K

/-! ### States that a loop meets again -/

inductive Src where
  | nm (n : Nat)
  | nil
  | no

def owe (b : Bool) : Option Prop := if b then none else some False

def mC (ren : List Src) : C → C → Option Prop
  | _, .any => none
  | .val (.int k n), .val (.int k' m) => if k = k' then some (n = m) else some False
  | .val (.bool a), .val (.bool b) => some (a = b)
  | .tru, .val (.bool b) => some (b = true)
  | .fls, .val (.bool b) => some (b = false)
  | .tru, .tru => none
  | .fls, .fls => none
  | .val v, .val u => some (v = u)
  | .rd fr e xs, .rd fr' e' ys => if h : e = e' then (if fr' && !fr then some False else some (castL h xs = ys)) else some False
  | .val (.slice none 0 0), .rd _ _ ys => some (ys = [])
  | .own n, .own m =>
    match nth? ren m with
    | some (.nm n') => owe (n' == n)
    | _ => some False
  | .val (.slice none 0 0), .own m =>
    match nth? ren m with
    | some .nil => none
    | _ => some False
  | .pre n k, .pre m k' =>
    match nth? ren m with
    | some (.nm n') => oand (owe (n' == n)) (some (k = k'))
    | _ => some False
  | .box n o, .box m o' =>
    match nth? ren m with
    | some (.nm n') => owe (n' == n && o == o')
    | _ => some False
  | .rg fr wh e b xs, .rg fr' wh' e' b' ys => if h : e = e' then (if (fr' && !fr) || (wh' && !wh) then some False else some (b = b' ∧ castL h xs = ys)) else some False
  | .val (.slice none 0 0), .rg _ _ _ _ ys => some (ys = [])
  | .rg fr _ e _ xs, .rd fr' e' ys => if h : e = e' then (if fr' && !fr then some False else some (castL h xs = ys)) else some False
  | .at_ fr t d o, .at_ fr' t' d' o' => if h : t = t' then (if fr' && !fr then some False else oand (owe (o == o')) (some ((h ▸ d) = d'))) else some False
  | .clo fr f t d, .clo fr' f' t' d' => if h : t = t' then (if fr' && !fr then some False else oand (owe (Nat.beq f f')) (some ((h ▸ d) = d'))) else some False
  | .elt n i o, .elt m i' o' =>
    match nth? ren m with
    | some (.nm n') => oand (owe (n' == n && o == o')) (some (i = i'))
    | _ => some False
  | _, _ => some False

def mCs (ren : List Src) : List C → List C → Option Prop
  | [], [] => none
  | x :: xs, y :: ys => oand (mC ren x y) (mCs ren xs ys)
  | _, _ => some False

def mS (ren : List Src) : S → S → Option Prop
  | _, .any => none
  | .c x, .c y => mC ren x y
  | .agg xs, .agg ys => mCs ren xs ys
  | .und, .und => none
  | _, _ => some False

def mSs (ren : List Src) : List S → List S → Option Prop
  | [], [] => none
  | x :: xs, y :: ys => oand (mS ren x y) (mSs ren xs ys)
  | _, _ => some False

def mE (ren : List Src) (es : Nat → Ent) (r : Src) (t : Ent) : Option Prop :=
  match t with
  | .dead => match r with | .no => none | _ => some False
  | .bx cs => match r with | .nm n => (match es n with | .bx cs' => mCs ren cs' cs | _ => some False) | _ => some False
  | .row fr e xs =>
    match r with
    | .nm n =>
      match es n with
      | .row fr' e' ys =>
        if h : e' = e then (if (fr && !fr') || (e.hasG && fr' && !fr) then some False else some (castL h ys = xs))
        else if h : e' = e.unG then (if fr && fr' then some ((∀ y ∈ castL h ys, nilD e y) ∧ xs = (castL h ys).map (tell0 e)) else some False)
        else some False
      | _ => some False
    | .nil => some (xs = [])
    | .no => some False

def mEs (ren : List Src) (es : Nat → Ent) : List Src → List Ent → Option Prop
  | [], [] => none
  | r :: rs, t :: ts => oand (mE ren es r t) (mEs ren es rs ts)
  | _, _ => some False

def nodupSrc : List Src → Bool
  | [] => true
  | .nm n :: r => !(lany (fun | .nm m => m == n | _ => false) r) && nodupSrc r
  | _ :: r => nodupSrc r

/-- Lent rows keep their names. -/
def lentOk (es : Nat → Ent) : Nat → List Src → List Ent → Bool
  | k, r :: rs, t :: ts =>
    (match t with
     | .row false e _ => !(e.flat || e.hasG) || (match r with | .nm n => n == k && (match es n with | .row fr _ _ => !fr | _ => false) | .nil => true | .no => false)
     | _ => true) && lentOk es (k + 1) rs ts
  | _, _, _ => true

/-- A box that is named 0 keeps its name. -/
def keep0 : Ent → List Src → List Ent → Bool
  | .bx _, .nm 0 :: _, .bx _ :: _ => true
  | .bx _, _, _ => false
  | _, _, _ => true

/-- State 's' is one of those that 't' speaks of; 'ren' says which name of 's' each name of 't' is. -/
def Match (ren : List Src) (s t : St) : Prop :=
  toP (oand (owe (nodupSrc ren && lentOk s.ent 0 ren t.hp && keep0 (s.ent 0) ren t.hp)) (oand (mSs ren s.ts t.ts) (mEs ren s.ent ren t.hp)))

/-- Which name of 's' is name 'n' of 't'? Looked up where 't' speaks of it. -/
def inferC (n : Nat) : C → C → Option Src
  | x, .own m => if m = n then (match x with | .own k => some (.nm k) | .val (.slice none 0 0) => some .nil | _ => none) else none
  | x, .box m _ => if m = n then (match x with | .box k _ => some (.nm k) | _ => none) else none
  | x, .pre m _ => if m = n then (match x with | .pre k _ => some (.nm k) | _ => none) else none
  | _, _ => none

def inferCs (n : Nat) : List C → List C → Option Src
  | x :: xs, y :: ys => oelse (inferC n x y) (inferCs n xs ys)
  | _, _ => none

def inferS (n : Nat) : S → S → Option Src
  | .c x, .c y => inferC n x y
  | .agg xs, .agg ys => inferCs n xs ys
  | _, _ => none

def inferSs (n : Nat) : List S → List S → Option Src
  | x :: xs, y :: ys => oelse (inferS n x y) (inferSs n xs ys)
  | _, _ => none

def inferE (n : Nat) (s : St) : Nat → List Ent → Option Src
  | k, .bx ys :: r => oelse (match s.ent k with | .bx xs => inferCs n xs ys | _ => none) (inferE n s (k + 1) r)
  | k, _ :: r => inferE n s (k + 1) r
  | _, [] => none

def inferN (s t : St) (n : Nat) : Src := (match oelse (inferSs n s.ts t.ts) (inferE n s 0 t.hp) with | some r => r | none => .nm n)

def inferAll (s t : St) : Nat → List Ent → List Src
  | _, [] => []
  | n, .dead :: r => .no :: inferAll s t (n + 1) r
  | n, _ :: r => inferN s t n :: inferAll s t (n + 1) r

/-! ### Code -/

inductive Ex where
  | normal
  | exit (id : Nat)
  | ret

/-- What is told of a loop: what a round begins with (out of the state in which the loop began), what grows less, where it begins; what is told of the loops that come in it and behind it. -/
inductive Ann : Type 1 where
  | mk (X : Type) (J : X → Prop) (I : St → X → St) (m : X → Nat) (x0 : X) (inner : X → Nat → Option Ann)

/-- The first region's number. -/
def keyOf : Code → Option Nat
  | .region id _ _ => some id
  | .seq a b => oelse (keyOf a) (keyOf b)
  | .block _ a => keyOf a
  | .loop a => keyOf a
  | _ => none

/-- The temporaries that a code writes. -/
def dstsOf : List Oper → List Nat
  | [] => []
  | o :: r => match o.dst with | some d => d :: dstsOf r | none => dstsOf r

def writes : Code → List Nat
  | .region _ ops _ => dstsOf ops.toList
  | .seq a b => lapp (writes a) (writes b)
  | .cond _ a b => lapp (writes a) (writes b)
  | .block _ a => writes a
  | .loop a => writes a
  | _ => []

def forget (ts : List S) : List Nat → List S
  | [] => ts
  | d :: r => forget (lset ts d .any) r

def setTs (ts : List S) : List (Nat × S) → List S
  | [] => ts
  | p :: r => setTs (lset ts p.1 p.2) r

def St.sets (st : St) (l : List (Nat × S)) : St := { st with ts := setTs st.ts l }

def setE (hp : List Ent) (p : Nat × Ent) : List Ent := if p.1 < llen hp then lset hp p.1 p.2 else lapp hp [p.2]

def setHp (hp : List Ent) : List (Nat × Ent) → List Ent
  | [] => hp
  | p :: r => setHp (setE hp p) r

def St.setEs (st : St) (l : List (Nat × Ent)) : St := { st with hp := setHp st.hp l }

def keepTs (n : Nat) (l : List Nat) : Nat → List S → List S
  | _, [] => []
  | i, s :: r => (if Nat.ble n i && !(lany (fun m => Nat.beq m i) l) then .any else s) :: keepTs n l (i + 1) r

/-- The temporaries below 'n' and those of 'l'; no word of the others. -/
def St.keep (st : St) (n : Nat) (l : List Nat) : St := { st with ts := keepTs n l 0 st.ts }

/-- The state at a loop's head: what the loop writes is forgotten, but for what is told. -/
def St.head (st : St) (body : Code) : St := { st with ts := forget st.ts (writes body) }

def vc (T : Tab) (Γ : FuncId → Option PC) (R : FuncId → Option Rule) : Code → (Nat → Option Ann) → St → (Ex → (Nat → Option Ann) → St → Prop) → Prop
  | .skip, A, st, Q => Q .normal A st
  | .region id ops draw, A, st, Q =>
    match A (id + 200000) with
    | some (.mk X J I m x0 inner) => vcRegion T Γ R ops draw (st.freeze (m x0)) (Q .normal A)
    | none => vcRegion T Γ R ops draw st (Q .normal A)
  | .seq a b, A, st, Q =>
    match obind (keyOf b) (fun k => A (k + 100000)) with
    | some (.mk X J I m x0 inner) =>
      vc T Γ R a A st (fun e A' st' =>
        match e with
        | .normal => ∃ x' : X, J x' ∧ Match (inferAll st' (I (st.head a) x') 0 (I (st.head a) x').hp) st' (I (st.head a) x')
        | e => Q e A' st') ∧
      ∀ x : X, J x → vc T Γ R b (inner x) (I (st.head a) x) Q
    | none => vc T Γ R a A st fun e A' st' => match e with | .normal => vc T Γ R b A' st' Q | e => Q e A' st'
  | .cond c a b, A, st, Q =>
    match st.eval c with
    | .c .tru => vc T Γ R a A st Q
    | .c .fls => vc T Γ R b A st Q
    | .c (.val (.bool p)) => (p = true → vc T Γ R a A st Q) ∧ (p = false → vc T Γ R b A st Q)
    | _ => False
  | .block id a, A, st, Q => vc T Γ R a A st fun e A' st' => match e with | .exit i => if i = id then Q .normal A' st' else Q (.exit i) A' st' | e => Q e A' st'
  | .loop a, A, st, Q =>
    match obind (keyOf a) A with
    | some (.mk X J I m x0 inner) =>
      J x0 ∧ Match (inferAll st (I (st.head a) x0) 0 (I (st.head a) x0).hp) st (I (st.head a) x0) ∧
      ∀ x : X, J x → vc T Γ R a (inner x) (I (st.head a) x) fun e A' st' =>
        match e with
        | .normal => ∃ x' : X, J x' ∧ m x' < m x ∧ Match (inferAll st' (I (st.head a) x') 0 (I (st.head a) x').hp) st' (I (st.head a) x')
        | e => Q e A' st'
    | none => False
  | .exit id, A, st, Q => Q (.exit id) A st
  | .ret, A, st, Q => Q .ret A st
  | _, _, _, _ => False

/-! ### A function's result -/

/-- A slice that is handed back, and its row. -/
def outSl (lk : Nat → Ent) (e : Ty) : C → Option (List e.den × List Nat)
  | .own n =>
    match lk n with
    | .row true e' xs => omap (fun ys => (ys, [n])) (asL e' e xs)
    | _ => none
  | .pre n m =>
    match lk n with
    | .row true e' xs => omap (fun ys => (ys, [n])) (asL e' e (xs.take m))
    | _ => none
  | .val (.slice none 0 0) => some ([], [])
  | _ => none

/-- The datum that is handed back: its slices are rows of this call's own. -/
def outC (lk : Nat → Ent) : (t : Ty) → List C → Option (t.den × List Nat × List C)
  | .int k, cs => match head1 (rdInt k) cs with | some (x, r) => some (x, [], r) | none => none
  | .bool, cs => match head1 rdBool cs with | some (x, r) => some (x, [], r) | none => none
  | .str, cs => match head1 rdStr cs with | some (x, r) => some (x, [], r) | none => none
  | .sl e, cs => match head1 (outSl lk e) cs with | some ((x, ns), r) => some (x, ns, r) | none => none
  | .st t, cs => outC lk t cs
  | .pr a b, cs =>
    match outC lk a cs with
    | some (x, ns, r) =>
      match outC lk b r with
      | some (y, ms, r') => some ((x, y), lapp ns ms, r')
      | none => none
    | none => none
  | .ptr _, _ => none
  | .clo _ _, _ => none
  | .gs _ _, _ => none

def outS (lk : Nat → Ent) (t : Ty) (s : S) : Option (t.den × List Nat) :=
  match s with
  | .c x => if isSt t then none else match outC lk t [x] with | some (d, ns, []) => some (d, ns) | _ => none
  | .agg cs => if isSt t then match outC lk t cs with | some (d, ns, []) => some (d, ns) | _ => none else none
  | _ => none

def outAll (lk : Nat → Ent) : (ts : List Ty) → List S → Option (Tup ts × List Nat)
  | [], [] => some ((), [])
  | [t], [s] => outS lk t s
  | t :: u :: r, s :: ss =>
    match outS lk t s with
    | some (x, ns) =>
      match outAll lk (u :: r) ss with
      | some (y, ms) => some ((x, y), lapp ns ms)
      | none => none
    | none => none
  | _, _ => none

def resS (T : Tab) (st : St) : ResultVar → Option S
  | .tmp t => some (st.eval (.tmp t))
  | .cell a t =>
    match st.eval (.tmp a) with
    | .c (.box m o) => omap (fun r => r.res) (qload T st.ent t (.box m o))
    | _ => none

def resAll (T : Tab) (st : St) : List ResultVar → Option (List S)
  | [] => some []
  | r :: rs =>
    match resS T st r, resAll T st rs with
    | some s, some ss => some (s :: ss)
    | _, _ => none

def nodupN : List Nat → Bool
  | [] => true
  | n :: r => !(lany (fun m => m == n) r) && nodupN r

def argS (t : Ty) (d : t.den) : S := topS (isSt t, expand false t d)

def argsS : (ts : List Ty) → Tup ts → List S
  | [], _ => []
  | [t], d => [argS t d]
  | t :: u :: r, d => argS t d.1 :: argsS (u :: r) d.2

def St.start (ts : List Ty) (d : Tup ts) (ntmps : Nat) : St := { ts := lapp (argsS ts d) (lrep .und (ntmps - llen ts)), hp := [] }

def vcPost (T : Tab) (fn : Func) (rs : List Ty) (out : Tup rs) (e : Ex) (st : St) : Prop :=
  match e with
  | .exit _ => False
  | _ =>
    match resAll T st fn.results.toList with
    | some ss =>
      match outAll st.ent rs ss with
      | some (r, ns) => if nodupN ns then r = out else False
      | none => False
    | none => False

/-- What is to be shown of a function's code. -/
def vcFunc (T : Tab) (Γ : FuncId → Option PC) (R : FuncId → Option Rule) (fn : Func) (c : PC) (A : Tup c.ts → Nat → Option Ann) : Prop :=
  match fn.body with
  | some code => ∀ d, tupWf c.ts d → c.pre d → vc T Γ R code (A d) (St.start c.ts d fn.ntmps) fun e _ st => vcPost T fn c.rs (c.F d) e st
  | none => False

end Go.SX


/- What keeps a symbolic value true: new names, new blocks, more memory that is not written any more. No condition. -/
namespace Go.SX
open Go.RowKit
set_option linter.unusedVariables false

theorem Ty.size_pos : ∀ t : Ty, 0 < t.size
  | .int _ => Nat.one_pos
  | .bool => Nat.one_pos
  | .str => Nat.one_pos
  | .sl _ => Nat.one_pos
  | .st t => t.size_pos
  | .pr a _ => Nat.add_pos_left a.size_pos _
  | .ptr _ => Nat.one_pos
  | .clo _ _ => Nat.one_pos
  | .gs _ _ => Nat.one_pos

/-- The names, the zones and the memory of the names are as they were; there may be more. -/
structure VX (V : Vl) (hp : Nat → Ent) (w : World) (V' : Vl) (hp' : Nat → Ent) (w' : World) : Prop where
  nm : ∀ n, (hp n).live = true → V'.blk n = V.blk n ∧ (V'.has n ↔ V.has n) ∧ hp' n = hp n
  z0 : ∀ b, V.Z0 b → V'.Z0 b
  z1 : ∀ b, V.Z1 b → V'.Z1 b
  agz : ∀ b, V.Z false b → w'.heap[b]? = w.heap[b]?
  agb : ∀ n, (hp n).live = true → V.has n → w'.heap[V.blk n]? = w.heap[V.blk n]?

section
variable {V V' : Vl} {hp hp' : Nat → Ent} {w w' : World}

theorem VX.zone (x : VX V hp w V' hp' w') {fr : Bool} {b : Nat} (h : V.Z fr b) : V'.Z fr b := by
  rcases h with h | ⟨h, k⟩
  · exact .inl (x.z1 b h)
  · exact .inr ⟨h, x.z0 b k⟩

theorem VX.agree (x : VX V hp w V' hp' w') (fr : Bool) : Agree (V.Z fr) w w' := fun b hb => x.agz b (Vl.Z_all hb)

theorem VX.rd (x : VX V hp w V' hp' w') {fr : Bool} {t : Ty} {cs : List Value} {d : t.den} (h : RdC (V.Z fr) w t cs d) : RdC (V'.Z fr) w' t cs d :=
  h.mono (fun _ hb => x.zone hb) (x.agree fr)

theorem live_bx {cs : List C} : (Ent.bx cs).live = true := rfl
theorem live_row {fr : Bool} {e : Ty} {xs : List e.den} : (Ent.row fr e xs).live = true := rfl

theorem VX.hasRow (x : VX V hp w V' hp' w') {n h : Nat} {e : Ty} {v : Value} (hl : (hp n).live = true) (k : hasRow V w n e h v) : SX.hasRow V' w' n e h v := by
  obtain ⟨hb, hh, _⟩ := x.nm n hl
  rcases k with ⟨h1, h2, h3⟩ | ⟨h1, cap, vals, el, h2, h3, h4, h5⟩
  · exact .inl ⟨fun h => h1 (hh.1 h), h2, h3⟩
  · exact .inr ⟨hh.2 h1, cap, vals, el, by rw [hb]; exact h2, by rw [hb, x.agb n hl h1]; exact h3, h4, h5⟩

theorem C.ok_ext (x : VX V hp w V' hp' w') : ∀ {c : C} {v : Value}, C.ok V hp w c v → C.ok V' hp' w' c v := by
  intro c v h
  cases c with
  | val u => exact h
  | tru => exact h
  | fls => exact h
  | rd fr e xs => exact x.rd h
  | own n =>
    obtain ⟨fr, e, xs, h1, h2⟩ := h
    have hl : (hp n).live = true := by rw [h1]; rfl
    exact ⟨fr, e, xs, (x.nm n hl).2.2.trans h1, x.hasRow hl h2⟩
  | pre n k =>
    obtain ⟨fr, e, xs, h1, h3, h2⟩ := h
    have hl : (hp n).live = true := by rw [h1]; rfl
    exact ⟨fr, e, xs, (x.nm n hl).2.2.trans h1, h3, x.hasRow hl h2⟩
  | brw n e xs =>
    obtain ⟨⟨fr, e', ys, h1⟩, h2⟩ := h
    have hl : (hp n).live = true := by rw [h1]; rfl
    obtain ⟨hb, hh, he⟩ := x.nm n hl
    refine ⟨⟨fr, e', ys, he.trans h1⟩, h2.mono (fun b hb' => ?_) (fun b hb' => ?_)⟩
    · rcases hb' with hz | ⟨h3, h4⟩
      · exact .inl (x.zone hz)
      · exact .inr ⟨hh.2 h3, by rw [hb]; exact h4⟩
    · rcases hb' with hz | ⟨h3, h4⟩
      · exact x.agz b hz
      · rw [h4]; exact x.agb n hl h3
  | box n off =>
    obtain ⟨h1, h2, cs, h3⟩ := h
    have hl : (hp n).live = true := by rw [h3]; rfl
    obtain ⟨hb, hh, he⟩ := x.nm n hl
    exact ⟨by rw [hb]; exact h1, hh.2 h2, cs, he.trans h3⟩
  | at_ fr t d off =>
    obtain ⟨b, o, h1, h2, es, h3, h4, h5⟩ := h
    exact ⟨b, o, h1, x.zone h2, es, h3, cellsAt_agree (x.agz b (Vl.Z_all h2)) h4, x.rd h5⟩
  | elt n i off =>
    obtain ⟨h0, fr, e, xs, h1, h2, h3⟩ := h
    have hl : (hp n).live = true := by rw [h1]; rfl
    obtain ⟨hb, hh, he⟩ := x.nm n hl
    exact ⟨hh.2 h0, fr, e, xs, he.trans h1, h2, by rw [hb]; exact h3⟩
  | fn f caps =>
    obtain ⟨h1, h2⟩ := h
    have hmap : caps.map (fun n => Value.pointer (some ⟨V'.blk n, 0, none⟩)) = caps.map (fun n => Value.pointer (some ⟨V.blk n, 0, none⟩)) := by
      refine List.map_congr_left fun n hn => ?_
      obtain ⟨_, cs, h3⟩ := h2 n hn
      rw [(x.nm n (by rw [h3]; rfl)).1]
    refine ⟨by rw [hmap]; exact h1, fun n hn => ?_⟩
    obtain ⟨h4, cs, h3⟩ := h2 n hn
    obtain ⟨hb, hh, he⟩ := x.nm n (by rw [h3]; rfl)
    exact ⟨hh.2 h4, cs, he.trans h3⟩
  | clo fr f t d => exact x.rd h
  | rg fr wh e b xs => exact x.rd (t := .gs wh e) h
  | any => exact h

theorem okAll_ext (x : VX V hp w V' hp' w') {cs : List C} {vs : List Value} (h : okAll V hp w cs vs) : okAll V' hp' w' cs vs :=
  ⟨h.1, fun j c v hc hv => C.ok_ext x (h.2 j c v hc hv)⟩

theorem okTop_ext (x : VX V hp w V' hp' w') {y : Bool × List C} {v : Value} (h : okTop V hp w y v) : okTop V' hp' w' y v := by
  unfold okTop at *
  split
  · rename_i hy
    rw [if_pos hy] at h
    obtain ⟨vs, h1, h2⟩ := h
    exact ⟨vs, h1, okAll_ext x h2⟩
  · rename_i hy
    rw [if_neg hy] at h
    exact okAll_ext x h

theorem S.ok_ext (x : VX V hp w V' hp' w') {s : S} {v : Value} (h : S.ok V hp w s v) : S.ok V' hp' w' s v := by
  cases s with
  | c y => exact C.ok_ext x h
  | agg cs => obtain ⟨vs, h1, h2⟩ := h; exact ⟨vs, h1, okAll_ext x h2⟩
  | tup xs => obtain ⟨vs, h1, h2, h3⟩ := h; exact ⟨vs, h1, h2, fun j y v hy hv => okTop_ext x (h3 j y v hy hv)⟩
  | und => exact h
  | any => exact h
  | arr e xs => obtain ⟨hf, vs, h1, h2, h3⟩ := h; exact ⟨hf, vs, h1, h2, fun i hi => by obtain ⟨es, k1, k2, k3⟩ := h3 i hi; exact ⟨es, k1, k2, k3.flat hf⟩⟩

theorem S.arr_ext {V V' : Vl} {hp hp' : Nat → Ent} {w w' : World} {e : Ty} {xs : List e.den} {v : Value} (h : S.ok V hp w (.arr e xs) v) : S.ok V' hp' w' (.arr e xs) v := by
  obtain ⟨hf, vs, h1, h2, h3⟩ := h
  exact ⟨hf, vs, h1, h2, fun i hi => by obtain ⟨es, k1, k2, k3⟩ := h3 i hi; exact ⟨es, k1, k2, k3.flat hf⟩⟩

theorem Ent.ok_ext (x : VX V hp w V' hp' w') {n : Nat} (h : (hp n).ok V hp w n) (hb : ∀ cs, hp n = .bx cs → V.has n) (hl : (hp n).live = true) : (hp' n).ok V' hp' w' n := by
  obtain ⟨e1, e2, e3⟩ := x.nm n hl
  rw [e3]
  cases he : hp n with
  | dead => trivial
  | bx cs =>
    rw [he] at h
    obtain ⟨vals, el, h1, h2⟩ := h
    exact ⟨vals, el, by rw [e1, x.agb n hl (hb cs he)]; exact h1, okAll_ext x h2⟩
  | row fr e xs =>
    rw [he] at h
    rcases h with ⟨h1, h2⟩ | ⟨h1, vals, el, h2, h3, h4⟩
    · exact .inl ⟨fun h => h1 (e2.1 h), h2⟩
    · refine .inr ⟨e2.2 h1, vals, el, by rw [e1, x.agb n hl h1]; exact h2, h3, fun i hi => ?_⟩
      obtain ⟨es, h5, h6, h7⟩ := h4 i hi
      exact ⟨es, h5, h6, x.rd h7⟩
end

/-! ### A cell holds one cell's value -/

theorem C.oneCell {V : Vl} {hp : Nat → Ent} {w : World} : ∀ {c : C} {v : Value}, C.ok V hp w c v → v.oneCell' = true := by
  intro c v h
  cases c with
  | val u => obtain ⟨rfl, h⟩ := h; cases v <;> first | rfl | exact h.elim
  | tru => rw [show v = _ from h]; rfl
  | fls => rw [show v = _ from h]; rfl
  | rd fr e xs => exact RdC.oneCell (t := .sl e) h v (by simp)
  | own n =>
    obtain ⟨fr, e, xs, h1, h2 | h2⟩ := h
    · rw [h2.2.1]; rfl
    · obtain ⟨_, cap, vals, el, h3, _⟩ := h2; rw [h3]; rfl
  | pre n k =>
    obtain ⟨fr, e, xs, h1, _, h2 | h2⟩ := h
    · rw [h2.2.1]; rfl
    · obtain ⟨_, cap, vals, el, h3, _⟩ := h2; rw [h3]; rfl
  | brw n e xs => exact RdC.oneCell (t := .sl e) h.2 v (by simp)
  | box n off => rw [h.1]; rfl
  | at_ fr t d off => obtain ⟨b, o, h1, _⟩ := h; rw [h1]; rfl
  | elt n i off => obtain ⟨_, fr, e, xs, _, _, h1⟩ := h; rw [h1]; rfl
  | fn f caps => rw [h.1]; rfl
  | clo fr f t d => exact RdC.oneCell (t := .clo f t) h v (by simp)
  | rg fr wh e b xs => exact RdC.oneCell (t := .gs wh e) h v (by simp)
  | any => exact h

/-! ### Reading cells as data -/

section
variable {V : Vl} {hp : Nat → Ent} {w : World}

theorem castL_eq {a : Ty} (h : a = a) (xs : List a.den) : castL h xs = xs := rfl

theorem okAll_cons {c : C} {cs : List C} {vs : List Value} (h : okAll V hp w (c :: cs) vs) : ∃ v vs', vs = v :: vs' ∧ C.ok V hp w c v ∧ okAll V hp w cs vs' := by
  obtain ⟨h1, h2⟩ := h
  cases vs with
  | nil => simp at h1
  | cons v vs' => exact ⟨v, vs', rfl, h2 0 c v rfl rfl, by simpa using h1, fun j c' v' hc hv => h2 (j + 1) c' v' (by simpa using hc) (by simpa using hv)⟩

theorem okAll_nil : okAll V hp w [] [] := ⟨rfl, fun j c v h => by simp at h⟩

theorem okAll_cons_mk {c : C} {cs : List C} {v : Value} {vs : List Value} (h : C.ok V hp w c v) (k : okAll V hp w cs vs) : okAll V hp w (c :: cs) (v :: vs) := by
  refine ⟨by simp [k.1], fun j c' v' hc hv => ?_⟩
  cases j with
  | zero => simp at hc hv; subst hc; subst hv; exact h
  | succ j => exact k.2 j c' v' (by simpa using hc) (by simpa using hv)

theorem okAll_append {cs ds : List C} {vs us : List Value} (h : okAll V hp w cs vs) (k : okAll V hp w ds us) : okAll V hp w (cs ++ ds) (vs ++ us) := by
  induction cs generalizing vs with
  | nil => obtain ⟨h1, _⟩ := h; cases vs with | nil => exact k | cons v vs => simp at h1
  | cons c cs ih => obtain ⟨v, vs', rfl, h1, h2⟩ := okAll_cons h; exact okAll_cons_mk h1 (ih h2)

theorem okAll_split {cs ds : List C} {vs : List Value} (h : okAll V hp w (cs ++ ds) vs) : ∃ us ws, vs = us ++ ws ∧ okAll V hp w cs us ∧ okAll V hp w ds ws := by
  induction cs generalizing vs with
  | nil => exact ⟨[], vs, rfl, okAll_nil, h⟩
  | cons c cs ih =>
    obtain ⟨v, vs', rfl, h1, h2⟩ := okAll_cons h
    obtain ⟨us, ws, rfl, h3, h4⟩ := ih h2
    exact ⟨v :: us, ws, rfl, okAll_cons_mk h1 h3, h4⟩

theorem okAll_take {cs : List C} {vs : List Value} (h : okAll V hp w cs vs) (n : Nat) : okAll V hp w (cs.take n) (vs.take n) :=
  ⟨by simp [h.1], fun j c v hc hv => by
    rw [List.getElem?_take] at hc hv
    split at hc
    · rename_i hj; rw [if_pos hj] at hv; exact h.2 j c v hc hv
    · cases hc⟩

theorem okAll_drop {cs : List C} {vs : List Value} (h : okAll V hp w cs vs) (n : Nat) : okAll V hp w (cs.drop n) (vs.drop n) :=
  ⟨by simp [h.1], fun j c v hc hv => by
    rw [List.getElem?_drop] at hc hv
    exact h.2 _ c v hc hv⟩

/-- The cells that a datum's reading gives are such. -/
theorem ok_expand (fr : Bool) : ∀ (t : Ty) {d : t.den} {vs : List Value}, RdC (V.Z fr) w t vs d → okAll V hp w (expand fr t d) vs := by
  intro t
  induction t with
  | int k => intro d vs h; rw [h.1]; exact okAll_cons_mk ⟨rfl, h.2⟩ okAll_nil
  | bool => intro d vs h; rw [show vs = _ from h]; exact okAll_cons_mk ⟨rfl, trivial⟩ okAll_nil
  | str => intro d vs h; rw [h.1]; exact okAll_cons_mk ⟨rfl, h.2⟩ okAll_nil
  | sl e ih =>
    intro d vs h
    have h' := h
    obtain ⟨a, cap, h1, _⟩ := h
    subst h1
    exact okAll_cons_mk h' okAll_nil
  | st t ih => exact fun h => ih h
  | pr a b iha ihb =>
    intro d vs h
    obtain ⟨c1, c2, rfl, h2, h3⟩ := h
    show okAll V hp w (lapp _ _) _
    rw [lapp_eq]
    exact okAll_append (iha h2) (ihb h3)
  | ptr t ih =>
    intro d vs h
    obtain ⟨b, o, h1, h2, es, h3, h4, h5⟩ := h
    subst h1
    exact okAll_cons_mk ⟨b, o, rfl, h2, es, h3, h4, h5⟩ okAll_nil
  | clo f t ih =>
    intro d vs h
    have h' := h
    obtain ⟨caps, h1, _⟩ := h
    subst h1
    exact okAll_cons_mk h' okAll_nil
  | gs wh e ih =>
    intro d vs h
    have h' := h
    obtain ⟨⟨a, cap, h1, _⟩, _⟩ := h
    subst h1
    exact okAll_cons_mk (c := .rg fr wh e d.1 d.2) h' okAll_nil

/-! ### Blocks no more told -/

theorem unL_len (e : Ty) (xs : List e.den) : (unL e xs).length = xs.length := by simp [unL]

/-- A told slice, no more told. -/
theorem gs_sl {Z : Nat → Prop} {wh : Bool} {e : Ty} {cs : List Value} {b : Nat} {xs : List e.den} (h : RdC Z w (.gs wh e) cs (b, xs)) : RdC Z w (.sl e) cs xs := h.1

theorem gs_wh {Z : Nat → Prop} {wh wh' : Bool} {e : Ty} {cs : List Value} {d : Nat × List e.den} (hw : wh = true → wh' = true) (h : RdC Z w (.gs wh' e) cs d) : RdC Z w (.gs wh e) cs d := ⟨h.1, h.2.1, fun k => h.2.2 (hw k)⟩

theorem RdC.unL' {Z : Nat → Prop} {e : Ty} {cs : List Value} {xs : List e.den} (h : RdC Z w (.sl e) cs xs) : RdC Z w (.sl e.unG) cs (unL e xs) := RdC.un (.sl e) h

theorem asL_rd {Z : Nat → Prop} {e' e : Ty} {cs : List Value} {xs : List e'.den} {ys : List e.den} (h : RdC Z w (.sl e') cs xs) (k : asL e' e xs = some ys) : RdC Z w (.sl e) cs ys := by
  unfold asL at k
  split at k
  · rename_i hk; subst hk; injection k with k; subst k; exact h
  · split at k
    · rename_i hk; subst hk; injection k with k; subst k; exact h.unL'
    · cases k

theorem asL_len {e' e : Ty} {xs : List e'.den} {ys : List e.den} (k : asL e' e xs = some ys) : ys.length = xs.length := by
  unfold asL at k
  split at k
  · rename_i hk; subst hk; injection k with k; subst k; rfl
  · split at k
    · rename_i hk; subst hk; injection k with k; subst k; exact unL_len e' xs
    · cases k

theorem asL_size {e' e : Ty} {xs : List e'.den} {ys : List e.den} (k : asL e' e xs = some ys) : e'.size = e.size ∧ e'.flat = e.flat := by
  unfold asL at k
  split at k
  · rename_i hk; rw [hk]; exact ⟨rfl, rfl⟩
  · split at k
    · rename_i hk; rw [← hk]; exact ⟨(unG_size e').symm, (unG_flat e').symm⟩
    · cases k

/-- One element of such a list. -/
theorem asL_at {Z : Nat → Prop} {e' e : Ty} {xs : List e'.den} {ys : List e.den} (k : asL e' e xs = some ys) {i : Nat} (hi : i < ys.length) {es : List Value} (h : RdC Z w e' es (xs[i]'(by rw [← asL_len k]; exact hi))) : RdC Z w e es ys[i] := by
  unfold asL at k
  split at k
  · rename_i hk; subst hk; injection k with k; subst k; exact h
  · split at k
    · rename_i hk; subst hk; injection k with k; subst k
      have : (unL e' xs)[i]'hi = unD e' (xs[i]'(by rw [← unL_len e' xs]; exact hi)) := by simp [unL]
      show RdC Z w e'.unG es ((unL e' xs)[i]'hi)
      rw [this]
      exact RdC.un e' h
    · cases k

/-- Everything that a symbolic slice may be read by. -/
def anyZ (_ : Nat) : Prop := True

theorem RdC.any {Z : Nat → Prop} {t : Ty} {cs : List Value} {d : t.den} (h : RdC Z w t cs d) : RdC anyZ w t cs d := h.mono (fun _ _ => trivial) (fun _ _ => rfl)

end

/-- What the symbolic executor is told of one type of the program. -/
structure TIok (P : Program) (t : TypeId) (ti : TI) : Prop where
  size : (sizeOf t).run P = fun w => .ok ti.size w
  len : ti.zero.length = ti.size

end Go.SX


/- Contracts: what a function that writes to memory of its own alone takes and hands back. No condition. -/
namespace Go.SX
open Go.RowKit
set_option linter.unusedVariables false

def topV (t : Ty) (cs : List Value) (v : Value) : Prop := if isSt t then v = .agg cs.toArray else cs = [v]

def RdTop (Z : Nat → Prop) (w : World) (t : Ty) (v : Value) (d : t.den) : Prop := ∃ cs, topV t cs v ∧ RdC Z w t cs d

def RdArgs (Z : Nat → Prop) (w : World) : (ts : List Ty) → List Value → Tup ts → Prop
  | [], vs, _ => vs = []
  | [t], vs, d => ∃ v, vs = [v] ∧ RdTop Z w t v d
  | t :: u :: r, vs, d => ∃ v vs', vs = v :: vs' ∧ RdTop Z w t v d.1 ∧ RdArgs Z w (u :: r) vs' d.2

/-- The elements of a row. -/
def RowAt (Z : Nat → Prop) (w : World) (e : Ty) (vals : Array Value) (xs : List e.den) : Prop :=
  ∀ i (h : i < xs.length), ∃ es, es.length = e.size ∧ (∀ j u, es[j]? = some u → vals[i * e.size + j]? = some u) ∧ RdC Z w e es xs[i]

/-- A datum in memory that nobody else holds: the blocks of its slices, none for a nil one. -/
def OwnC (Z : Nat → Prop) (w : World) : (t : Ty) → List Value → t.den → List (Option Nat) → Prop
  | .sl e, cs, xs, bs => (cs = [.slice none 0 0] ∧ xs = [] ∧ bs = [none]) ∨
      ∃ b cap vals el, cs = [.slice (some ⟨b, 0, none⟩) xs.length cap] ∧ bs = [some b] ∧ w.heap[b]? = some (.cells vals el (0, 0)) ∧ vals.size = cap * e.size ∧ xs.length ≤ cap ∧
        xs.length ≤ lenMax ∧ RowAt Z w e vals xs
  | .st t, cs, d, bs => OwnC Z w t cs d bs
  | .pr a b, cs, d, bs => ∃ c1 c2 b1 b2, cs = c1 ++ c2 ∧ bs = b1 ++ b2 ∧ OwnC Z w a c1 d.1 b1 ∧ OwnC Z w b c2 d.2 b2
  | .int k, cs, d, bs => RdC Z w (.int k) cs d ∧ bs = []
  | .bool, cs, d, bs => RdC Z w .bool cs d ∧ bs = []
  | .ptr _, _, _, _ => False
  | .clo _ _, _, _, _ => False
  | .gs _ _, _, _, _ => False
  | .str, cs, d, bs => RdC Z w .str cs d ∧ bs = []

def OwnTop (Z : Nat → Prop) (w : World) (t : Ty) (v : Value) (d : t.den) (bs : List (Option Nat)) : Prop := ∃ cs, topV t cs v ∧ OwnC Z w t cs d bs

def OwnVals (Z : Nat → Prop) (w : World) : (ts : List Ty) → List Value → Tup ts → List (Option Nat) → Prop
  | [], vs, _, bs => vs = [] ∧ bs = []
  | [t], vs, d, bs => ∃ v, vs = [v] ∧ OwnTop Z w t v d bs
  | t :: u :: r, vs, d, bs => ∃ v vs' b1 b2, vs = v :: vs' ∧ bs = b1 ++ b2 ∧ OwnTop Z w t v d.1 b1 ∧ OwnVals Z w (u :: r) vs' d.2 b2

def oneOr (vs : List Value) : Value := match vs with | [v] => v | vs => .tuple vs.toArray

def noM : LM := ⟨fun _ => False, fun _ _ => False, fun _ => True, fun _ h => h.elim, fun _ => False⟩

structure ResOk (w w' : World) (ts : List Ty) (v : Value) (d : Tup ts) : Prop where
  ex : ∃ (Z1 : Nat → Prop) (bs : List (Option Nat)) (vs : List Value), v = oneOr vs ∧ OwnVals Z1 w' ts vs d bs ∧ (bs.filterMap id).Nodup ∧
    (∀ b, some b ∈ bs → w.heap.size ≤ b ∧ b < w'.heap.size ∧ ¬ Z1 b) ∧ (∀ b, Z1 b → w.heap.size ≤ b ∧ b < w'.heap.size)
  kept : Kept w.heap.size noM w w'

/-- The contract holds. -/
def PureC (P : Program) (f : FuncId) (c : PC) : Prop :=
  ∀ (w : World) (args : List Value) (d : Tup c.ts), RdArgs anyZ w c.ts args d → c.pre d →
    Calls P f args.toArray w fun e w' => ∃ v, e = .returned v ∧ ResOk w w' c.rs v (c.F d)

/-! ### From a symbolic state to the arguments of a call -/

section
variable {V : Vl} {hp : Nat → Ent} {w : World}

theorem row_rd {n h : Nat} {fr : Bool} {e : Ty} {xs : List e.den} {v : Value} (he : (Ent.row fr e xs).ok V hp w n) (hr : hasRow V w n e h v) (hh : h ≤ xs.length) :
    RdC (fun b => V.Z fr b ∨ (V.has n ∧ b = V.blk n)) w (.sl e) [v] (xs.take h) := by
  have hlen : (xs.take h).length = h := by rw [List.length_take]; omega
  rcases hr with ⟨h1, rfl, rfl⟩ | ⟨h1, cap, vals, el, rfl, h3, h4, h5⟩
  · exact ⟨none, 0, by simp, by simp, by simp, fun i hi => by simp at hi⟩
  · rcases he with ⟨k1, _⟩ | ⟨_, vals', el', k2, k3, k4⟩
    · exact absurd h1 k1
    · rw [k2] at h3
      injection h3 with h3
      injection h3 with e1 e2 e3
      subst e1
      refine ⟨_, cap, by rw [hlen], by rw [hlen]; exact h5, by rw [hlen]; omega, fun i hi => ?_⟩
      rw [hlen] at hi
      obtain ⟨es, k5, k6, k7⟩ := k4 i (by omega)
      refine ⟨_, rfl, rfl, .inr ⟨h1, rfl⟩, es, k5, fun j hj => ?_, ?_⟩
      · simp only [World.cell?, k2, Nat.zero_add]
        exact k6 j _ (List.getElem?_eq_getElem hj)
      · rw [List.getElem_take]
        exact k7.mono (fun b hb => .inl hb) (fun _ _ => rfl)

/-- What the names are looked up by says no more than is so. -/
def LkOk (V : Vl) (hp lk : Nat → Ent) (w : World) : Prop := ∀ n, (lk n).live = true → lk n = hp n ∧ (lk n).ok V hp w n

theorem head1_some {α : Type} {f : C → Option α} {cs r : List C} {x : α} (h : head1 f cs = some (x, r)) : ∃ c, cs = c :: r ∧ f c = some x := by
  cases cs with
  | nil => cases h
  | cons c cs =>
    unfold head1 at h
    cases hf : f c with
    | none => simp [hf] at h
    | some y => simp [hf] at h; exact ⟨c, by rw [h.2], by rw [← h.1]; exact hf⟩

theorem rdInt_ok {k : IntKind} {c : C} {n : Int} {v : Value} (h : rdInt k c = some n) (ho : C.ok V hp w c v) : v = .int k n ∧ k.min ≤ n ∧ n ≤ k.max := by
  unfold rdInt at h
  split at h
  · split at h
    · rename_i hk; injection h with h; subst h; subst hk; exact ⟨ho.1, ho.2⟩
    · cases h
  · cases h

theorem rdBool_ok {c : C} {b : Bool} {v : Value} (h : rdBool c = some b) (ho : C.ok V hp w c v) : v = .bool b := by
  unfold rdBool at h
  split at h <;> first | (injection h with h; subst h; first | exact ho.1 | exact ho) | cases h

theorem rdStr_ok {c : C} {s : ByteArray} {v : Value} (h : rdStr c = some s) (ho : C.ok V hp w c v) : v = .string s ∧ s.size ≤ maxLen := by
  unfold rdStr at h
  split at h
  · injection h with h; subst h; exact ⟨ho.1, ho.2⟩
  · cases h

theorem rdSl_ok {lk : Nat → Ent} (hl : LkOk V hp lk w) {e : Ty} {c : C} {xs : List e.den} {v : Value} (h : rdSl lk e c = some xs) (ho : C.ok V hp w c v) : RdC anyZ w (.sl e) [v] xs := by
  unfold rdSl at h
  split at h
  · exact (asL_rd ho h).any
  · split at h
    · rename_i hk; subst hk; injection h with h; subst h; exact ho.2.any
    · cases h
  · rename_i n
    split at h
    · rename_i e' xs' hn
      obtain ⟨h1, h2⟩ := hl n (by rw [hn]; rfl)
      obtain ⟨fr, e2, xs2, h3, h4⟩ := ho
      rw [← h1, hn] at h3
      injection h3 with e1 e2 e3
      subst e1; subst e2; cases e3
      rw [hn] at h2
      have := row_rd h2 h4 (Nat.le_refl _)
      rw [List.take_length] at this
      exact (asL_rd this h).any
    · cases h
  · rename_i n m
    split at h
    · rename_i e' xs' hn
      obtain ⟨h1, h2⟩ := hl n (by rw [hn]; rfl)
      obtain ⟨fr, e2, xs2, h3, h5, h4⟩ := ho
      rw [← h1, hn] at h3
      injection h3 with e1 e2 e3
      subst e1; subst e2; cases e3
      rw [hn] at h2
      exact (asL_rd (row_rd h2 h4 h5) h).any
    · cases h
  · exact (asL_rd (gs_sl ho) h).any
  · injection h with h; subst h
    rw [ho.1]
    exact RdC.zero (.sl e) rfl
  · cases h

theorem rdG_zone {fr wh : Bool} {e : Ty} {c : C} {d : Nat × List e.den} {v : Value} (h : rdG wh e c = some d) (ho : C.ok V hp w c v) (hf : fr = true → c.isFr = true) : RdC (V.Z fr) w (.gs wh e) [v] d := by
  unfold rdG at h
  split at h
  · rename_i fr' wh' e' b xs
    split at h
    · rename_i hk; subst hk
      split at h
      · cases h
      · rename_i hwh
        injection h with h; subst h
        have ho' : RdC (V.Z fr') w (.gs wh' e') [v] (b, xs) := ho
        refine (gs_wh (fun hw => by cases wh' <;> simp_all) ho').mono (fun b' hb => ?_) (fun _ _ => rfl)
        cases fr with
        | false => exact Vl.Z_all hb
        | true => rw [show fr' = true from hf rfl] at hb; exact hb
    · cases h
  · injection h with h; subst h
    rw [ho.1]
    exact RdC.zero (.gs wh e) rfl
  · cases h

theorem rdG_ok {wh : Bool} {e : Ty} {c : C} {d : Nat × List e.den} {v : Value} (h : rdG wh e c = some d) (ho : C.ok V hp w c v) : RdC anyZ w (.gs wh e) [v] d := (rdG_zone (fr := false) h ho (fun h => by cases h)).any

theorem whole_some {α : Type} {o : Option (α × List C)} {d : α} (h : whole o = some d) : o = some (d, []) := by
  unfold whole at h
  split at h
  · injection h with h; subst h; rfl
  · cases h

theorem readC_ok {lk : Nat → Ent} (hl : LkOk V hp lk w) : ∀ (t : Ty) {cs : List C} {d : t.den} {rest : List C} {vs : List Value}, readC lk t cs = some (d, rest) → okAll V hp w cs vs →
    ∃ us ws, vs = us ++ ws ∧ RdC anyZ w t us d ∧ okAll V hp w rest ws := by
  intro t
  induction t with
  | int k =>
    intro cs d rest vs h ho
    obtain ⟨c, rfl, hc⟩ := head1_some h
    obtain ⟨v, vs', rfl, h1, h2⟩ := okAll_cons ho
    obtain ⟨h3, h4⟩ := rdInt_ok hc h1
    exact ⟨[v], vs', rfl, ⟨by rw [h3], h4⟩, h2⟩
  | bool =>
    intro cs d rest vs h ho
    obtain ⟨c, rfl, hc⟩ := head1_some h
    obtain ⟨v, vs', rfl, h1, h2⟩ := okAll_cons ho
    exact ⟨[v], vs', rfl, by rw [rdBool_ok hc h1]; exact rfl, h2⟩
  | str =>
    intro cs d rest vs h ho
    obtain ⟨c, rfl, hc⟩ := head1_some h
    obtain ⟨v, vs', rfl, h1, h2⟩ := okAll_cons ho
    obtain ⟨h3, h4⟩ := rdStr_ok hc h1
    exact ⟨[v], vs', rfl, ⟨by rw [h3], h4⟩, h2⟩
  | sl e ih =>
    intro cs d rest vs h ho
    obtain ⟨c, rfl, hc⟩ := head1_some h
    obtain ⟨v, vs', rfl, h1, h2⟩ := okAll_cons ho
    exact ⟨[v], vs', rfl, rdSl_ok hl hc h1, h2⟩
  | st t ih => exact fun h ho => ih h ho
  | pr a b iha ihb =>
    intro cs d rest vs h ho
    unfold readC at h
    cases ha : readC lk a cs with
    | none => simp [ha] at h
    | some x =>
      obtain ⟨x, r⟩ := x
      simp only [ha] at h
      cases hb : readC lk b r with
      | none => simp [hb] at h
      | some y =>
        obtain ⟨y, r'⟩ := y
        simp only [hb, Option.some.injEq, Prod.mk.injEq] at h
        obtain ⟨rfl, rfl⟩ := h
        obtain ⟨us, ws, rfl, h1, h2⟩ := iha ha ho
        obtain ⟨us', ws', rfl, h3, h4⟩ := ihb hb h2
        exact ⟨us ++ us', ws', by rw [List.append_assoc], ⟨us, us', rfl, h1, h3⟩, h4⟩
  | ptr t ih =>
    intro cs d rest vs h ho
    obtain ⟨c, rfl, hc⟩ := head1_some h
    obtain ⟨v, vs', rfl, h1, h2⟩ := okAll_cons ho
    refine ⟨[v], vs', rfl, ?_, h2⟩
    unfold rdPtr at hc
    split at hc
    · split at hc
      · rename_i hk; subst hk; injection hc with hc; subst hc
        obtain ⟨b, o, e1, e2, es, e3, e4, e5⟩ := h1
        exact ⟨b, o, by rw [e1, Nat.add_zero], trivial, es, e3, e4, e5.any⟩
      · cases hc
    · rename_i n
      split at hc
      · rename_i cs' hn
        obtain ⟨e1, e2⟩ := hl n (by rw [hn]; rfl)
        rw [hn] at e2
        obtain ⟨vals, el, e3, e4⟩ := e2
        obtain ⟨us, ws, e5, e6, e7⟩ := ih (whole_some hc) e4
        have : ws = [] := by
          have := e7.1
          cases ws with
          | nil => rfl
          | cons _ _ => cases this
        subst this
        rw [List.append_nil] at e5
        refine ⟨V.blk n, 0, by rw [h1.1], trivial, us, e6.length, fun j hj => ?_, e6⟩
        simp only [World.cell?, e3, Nat.zero_add]
        have hj' : j < vals.size := by rw [← e5] at hj; simpa using hj
        have hu : us[j] = vals[j] := by simp [← e5]
        rw [hu]
        exact Array.getElem?_eq_getElem hj'
      · cases hc
    · cases hc
  | clo f t ih =>
    intro cs d rest vs h ho
    obtain ⟨c, rfl, hc⟩ := head1_some h
    obtain ⟨v, vs', rfl, h1, h2⟩ := okAll_cons ho
    refine ⟨[v], vs', rfl, ?_, h2⟩
    unfold rdClo at hc
    split at hc
    · split at hc
      · rename_i hf
        split at hc
        · rename_i hk; subst hk; subst hf; injection hc with hc; subst hc
          exact RdC.any (t := .clo _ _) h1
        · cases hc
      · cases hc
    · rename_i f' ns
      split at hc
      · rename_i hf
        subst hf
        obtain ⟨k1, k2⟩ := h1
        have hok : okAll V hp w (lmap (fun n => C.box n 0) ns) (ns.map fun n => Value.pointer (some ⟨V.blk n, 0, none⟩)) := by
          rw [lmap_eq]
          refine ⟨by simp, fun j c u hc hu => ?_⟩
          rw [List.getElem?_map] at hc hu
          cases hn : ns[j]? with
          | none => rw [hn] at hc; cases hc
          | some n =>
            rw [hn] at hc hu
            simp only [Option.map_some, Option.some.injEq] at hc hu
            subst hc; subst hu
            obtain ⟨k3, k4⟩ := k2 n (List.mem_of_getElem? hn)
            exact ⟨rfl, k3, k4⟩
        obtain ⟨us, ws, e5, e6, e7⟩ := ih (whole_some hc) hok
        have : ws = [] := by
          have := e7.1
          cases ws with
          | nil => rfl
          | cons _ _ => cases this
        subst this
        rw [List.append_nil] at e5
        exact ⟨_, by rw [k1], by rw [e5]; exact e6⟩
      · cases hc
    · cases hc
  | gs wh e ih =>
    intro cs d rest vs h ho
    obtain ⟨c, rfl, hc⟩ := head1_some h
    obtain ⟨v, vs', rfl, h1, h2⟩ := okAll_cons ho
    exact ⟨[v], vs', rfl, rdG_ok hc h1, h2⟩

theorem readAll_ok {lk : Nat → Ent} (hl : LkOk V hp lk w) {t : Ty} {cs : List C} {d : t.den} {vs : List Value} (h : readAll lk t cs = some d) (ho : okAll V hp w cs vs) : RdC anyZ w t vs d := by
  unfold readAll at h
  split at h
  · rename_i d' hr
    injection h with h; subst h
    obtain ⟨us, ws, rfl, h1, h2⟩ := readC_ok hl t hr ho
    have : ws = [] := by have := h2.1; simp at this; exact List.length_eq_zero_iff.1 this.symm
    rw [this, List.append_nil]
    exact h1
  · cases h

theorem readS_ok {lk : Nat → Ent} (hl : LkOk V hp lk w) {t : Ty} {s : S} {d : t.den} {v : Value} (h : readS lk t s = some d) (ho : S.ok V hp w s v) : RdTop anyZ w t v d := by
  unfold readS at h
  split at h
  · rename_i x
    split at h
    · cases h
    · rename_i ht
      exact ⟨[v], by simp [topV, ht], readAll_ok hl h (okAll_cons_mk ho okAll_nil)⟩
  · rename_i cs
    split at h
    · rename_i ht
      obtain ⟨vs, rfl, h1⟩ := ho
      exact ⟨vs.toList, by simp [topV, ht], readAll_ok hl h h1⟩
    · cases h
  · cases h

theorem readArgs_ok {lk : Nat → Ent} (hl : LkOk V hp lk w) : ∀ (ts : List Ty) {ss : List S} {d : Tup ts} {vs : List Value}, readArgs lk ts ss = some d → ss.length = vs.length →
    (∀ (i : Nat) s v, ss[i]? = some s → vs[i]? = some v → S.ok V hp w s v) → RdArgs anyZ w ts vs d := by
  intro ts
  induction ts with
  | nil =>
    intro ss d vs h hlen ho
    cases ss with
    | nil => cases vs with | nil => exact rfl | cons v vs => simp at hlen
    | cons s ss => cases h
  | cons t r ih =>
    intro ss d vs h hlen ho
    cases ss with
    | nil => cases r <;> cases h
    | cons s ss =>
      cases vs with
      | nil => simp at hlen
      | cons v vs =>
        have hs := ho 0 s v rfl rfl
        cases r with
        | nil =>
          cases ss with
          | nil =>
            cases vs with
            | nil => exact ⟨v, rfl, readS_ok hl h hs⟩
            | cons v' vs => simp at hlen
          | cons s' ss => cases h
        | cons u r =>
          unfold readArgs at h
          cases h1 : readS lk t s with
          | none => simp [h1] at h
          | some x =>
            simp only [h1] at h
            cases h2 : readArgs lk (u :: r) ss with
            | none => simp [h2] at h
            | some y =>
              simp only [h2, Option.some.injEq] at h
              subst h
              exact ⟨v, vs, rfl, readS_ok hl h1 hs, ih h2 (by simpa using hlen) (fun i s' v' hi hv => ho (i + 1) s' v' (by simpa using hi) (by simpa using hv))⟩

end
end Go.SX


/- What the executor is told of the program's types, held against the program; how the operations on memory run. No condition. -/
namespace Go.SX
open Go.RowKit
set_option linter.unusedVariables false

def descAgg : TypeDesc → Bool
  | .struct _ | .array _ _ => true
  | _ => false

/-- Zero cells that are told apart. -/
def zb : Value → Value → Bool
  | .int k n, .int k' m => k == k' && n == 0 && m == 0
  | .bool a, .bool b => a == false && b == false
  | .string s, .string r => s.size == 0 && r.size == 0
  | .slice none 0 0, .slice none 0 0 => true
  | .pointer none, .pointer none => true
  | _, _ => false

theorem empty_of_size {s : ByteArray} (h : s.size = 0) : s = ByteArray.empty := by
  cases s with
  | mk d =>
    have h' : d.size = 0 := h
    have : d = #[] := Array.eq_empty_of_size_eq_zero h'
    subst this
    rfl

theorem zb_eq {u v : Value} (h : zb u v = true) : u = v := by
  unfold zb at h
  split at h
  · simp only [Bool.and_eq_true, beq_iff_eq] at h; rw [h.1.1, h.1.2, h.2]
  · simp only [Bool.and_eq_true, beq_iff_eq] at h; rw [h.1, h.2]
  · rename_i s r
    simp only [Bool.and_eq_true, beq_iff_eq] at h
    rw [empty_of_size h.1, empty_of_size h.2]
  · rfl
  · rfl
  · cases h

theorem wf_zero (k : IntKind) : k.min ≤ 0 ∧ 0 ≤ k.max := by cases k <;> decide

/-- What a zero cell is known to hold. -/
theorem zb_cell {u v : Value} (h : zb u v = true) (V : Vl) (hp : Nat → Ent) (w : World) : C.ok V hp w (cell v) v := by
  unfold zb at h
  split at h
  · simp only [Bool.and_eq_true, beq_iff_eq] at h
    rw [h.2]
    unfold cell
    simp only
    rw [if_pos (wf_zero _)]
    exact ⟨rfl, wf_zero _⟩
  · simp only [Bool.and_eq_true, beq_iff_eq] at h
    rw [h.2]
    exact rfl
  · rename_i s r
    simp only [Bool.and_eq_true, beq_iff_eq] at h
    have hs : r.size ≤ maxLen := by rw [h.2]; exact Nat.zero_le _
    unfold cell
    simp only
    rw [if_pos hs]
    exact ⟨rfl, hs⟩
  · exact ⟨rfl, rfl, rfl, rfl⟩
  · exact ⟨rfl, trivial⟩
  · cases h

def zbs : List Value → List Value → Bool
  | [], [] => true
  | u :: us, v :: vs => zb u v && zbs us vs
  | _, _ => false

theorem zbs_eq : ∀ {us vs : List Value}, zbs us vs = true → us = vs
  | [], [], _ => rfl
  | u :: us, v :: vs, h => by
    have h' : (zb u v && zbs us vs) = true := h
    simp only [Bool.and_eq_true] at h'
    rw [zb_eq h'.1, zbs_eq h'.2]
  | [], _ :: _, h => by cases h
  | _ :: _, [], h => by cases h

theorem zbs_cells (V : Vl) (hp : Nat → Ent) (w : World) : ∀ {us vs : List Value}, zbs us vs = true → okAll V hp w (lmap cell vs) vs
  | [], [], _ => okAll_nil
  | u :: us, v :: vs, h => by
    have h' : (zb u v && zbs us vs) = true := h
    simp only [Bool.and_eq_true] at h'
    exact okAll_cons_mk (zb_cell h'.1 V hp w) (zbs_cells V hp w h'.2)
  | [], _ :: _, h => by cases h
  | _ :: _, [], h => by cases h

def infoB (P : Program) (t : TypeId) (size bytes : Nat) (zero : List Value) : Bool :=
  match P.info? t with
  | some i => i.size == size && i.bytes == bytes && (match i.zero with | some z => zbs z.cells.toList zero | none => false)
  | none => false

def fieldsB (P : Program) : List Field → List (Nat × Nat × Bool) → Bool
  | [], [] => true
  | f :: fs, x :: xs =>
    f.offset == x.1 && x.2.1 != 0 && (match P.info? f.type with | some i => i.size == x.2.1 | none => false) &&
      (match P.underlying f.type with | some d => descAgg d == x.2.2 | none => false) && fieldsB P fs xs
  | _, _ => false

def kindB (P : Program) (t : TypeId) : TK → Bool
  | .int k => match P.underlying t with | some (.int k') => k' == k | _ => false
  | .bool => match P.underlying t with | some .bool => true | _ => false
  | .str => match P.underlying t with | some .string => true | _ => false
  | .sl e es eb ety => (match P.underlying t with | some (.slice e') => e' == e | _ => false) && es == ety.size && infoB P e es eb ety.zeros
  | .st fs => match P.underlying t with | some (.struct fields) => fieldsB P fields.toList fs | _ => false
  | .arr len te es n ety => (match P.underlying t with | some (.array len' te') => len' == len && te' == te | _ => false) && (match P.info? te with | some i => i.size == es | none => false) &&
      ety.flat && ety.plain && n * ety.size == len * es && es % ety.size == 0 && (n != 0 && Nat.ble n 16777216)
  | .sc => match P.underlying t with | some d => !descAgg d | _ => false

def eqFldB (P : Program) : Nat → List Field → List Bool → Bool
  | _, [], [] => true
  | o, f :: fs, b :: bs =>
    f.name != "_" && f.offset == o && (match P.underlying f.type with | some (.int _) => !b | some .bool => b | _ => false) && eqFldB P (o + 1) fs bs
  | _, _, _ => false

def eqB (P : Program) (t : TypeId) (ks : List Bool) : Bool :=
  match P.underlying t with
  | some (.struct fs) => !P.stoodInHeld t && !P.eqGuardType P.depth t && eqFldB P 0 fs.toList ks
  | _ => false

def zerosN : Nat → Ty → List Value
  | 0, _ => []
  | n + 1, e => e.zeros ++ zerosN n e

def tiB (P : Program) (t : TypeId) (ti : TI) : Bool := (match ti.k with | .arr _ _ _ n ety => zbs ti.zero (zerosN n ety) | _ => true) && (infoB P t ti.size ti.bytes ti.zero && ti.zero.length == ti.size && kindB P t ti.k && (match ti.eq with | some ks => eqB P t ks | none => true))

def tabOf : List (Nat × TI) → Tab
  | [], _ => none
  | (k, v) :: r, t => if k = t then some v else tabOf r t

def tabB (P : Program) : List (Nat × TI) → Bool
  | [] => true
  | p :: r => tiB P p.1 p.2 && tabB P r

def TabOk (P : Program) (T : Tab) : Prop := ∀ t ti, T t = some ti → tiB P t ti = true

theorem tabOk_of {P : Program} : ∀ {l : List (Nat × TI)}, tabB P l = true → TabOk P (tabOf l)
  | [], _ => fun _ _ h => by cases h
  | (k, v) :: r, h => by
    have h' : (tiB P k v && tabB P r) = true := h
    simp only [Bool.and_eq_true] at h'
    intro t ti ht
    unfold tabOf at ht
    split at ht
    · rename_i hk; injection ht with ht; subst hk; subst ht; exact h'.1
    · exact tabOk_of h'.2 t ti ht

section
variable {P : Program}

theorem infoB_ok {t : TypeId} {size bytes : Nat} {zero : List Value} (h : infoB P t size bytes zero = true) :
    ∃ i z, P.info? t = some i ∧ i.size = size ∧ i.bytes = bytes ∧ i.zero = some z ∧ z.cells = zero.toArray ∧ ∀ V hp w, okAll V hp w (lmap cell zero) zero := by
  unfold infoB at h
  split at h
  · rename_i i hi
    simp only [Bool.and_eq_true, beq_iff_eq] at h
    obtain ⟨⟨h1, h2⟩, h3⟩ := h
    split at h3
    · rename_i z hz
      exact ⟨i, z, hi, h1, h2, hz, by rw [← zbs_eq h3], fun V hp w => zbs_cells V hp w h3⟩
    · cases h3
  · cases h

theorem run_sizeOf {t : TypeId} {i : TypeInfo} (h : P.info? t = some i) (w : World) : (sizeOf t).run P w = .ok i.size w := by
  simp [sizeOf, typeInfo, h]

theorem run_zeroValue {t : TypeId} {i : TypeInfo} {z : Value} (h : P.info? t = some i) (hz : i.zero = some z) (w : World) : (zeroValue t).run P w = .ok z w := by
  simp [zeroValue, typeInfo, h, hz]

theorem run_isAgg {t : TypeId} {d : TypeDesc} (h : P.underlying t = some d) (w : World) : (isAgg t).run P w = .ok (descAgg d) w := by
  cases d <;> simp [isAgg, run_underlying h, descAgg]

/-- Is the type one of the table's a struct? -/
def TI.agg (ti : TI) : Bool := match ti.k with | .st _ => true | .arr .. => true | _ => false

theorem ti_ok {t : TypeId} {ti : TI} (h : tiB P t ti = true) :
    (∃ i z, P.info? t = some i ∧ i.size = ti.size ∧ i.bytes = ti.bytes ∧ i.zero = some z ∧ z.cells = ti.zero.toArray ∧ ∀ V hp w, okAll V hp w (lmap cell ti.zero) ti.zero) ∧ ti.zero.length = ti.size ∧ kindB P t ti.k = true := by
  unfold tiB at h
  simp only [Bool.and_eq_true, beq_iff_eq] at h
  exact ⟨infoB_ok h.2.1.1.1, h.2.1.1.2, h.2.1.2⟩

theorem ti_arr {t : TypeId} {ti : TI} (h : tiB P t ti = true) {len te es n : Nat} {ety : Ty} (hk : ti.k = .arr len te es n ety) :
    ti.zero = zerosN n ety ∧ P.underlying t = some (.array len te) ∧ (∃ i, P.info? te = some i ∧ i.size = es) ∧ ety.flat = true ∧ ety.plain = true ∧ n * ety.size = len * es ∧ es % ety.size = 0 ∧ n ≠ 0 ∧ n ≤ 16777216 := by
  have hk2 := (ti_ok h).2.2
  unfold tiB at h
  simp only [Bool.and_eq_true, hk] at h
  rw [hk] at hk2
  unfold kindB at hk2
  simp only [Bool.and_eq_true, beq_iff_eq, bne_iff_ne, ne_eq, Nat.ble_eq] at hk2
  obtain ⟨⟨⟨⟨⟨⟨a1, a2⟩, a3⟩, a4⟩, a5⟩, a6⟩, a7⟩ := hk2
  refine ⟨zbs_eq h.1, ?_, ?_, a3, a4, a5, a6, a7⟩
  · split at a1
    · rename_i l t' he
      simp only [Bool.and_eq_true, beq_iff_eq] at a1
      rw [he, a1.1, a1.2]
    · cases a1
  · split at a2
    · rename_i i he; exact ⟨i, he, by simpa using a2⟩
    · cases a2

theorem ti_eq {t : TypeId} {ti : TI} (h : tiB P t ti = true) {ks : List Bool} (hk : ti.eq = some ks) : eqB P t ks = true := by
  unfold tiB at h
  simp only [Bool.and_eq_true, hk] at h
  exact h.2.2

theorem ti_und {t : TypeId} {ti : TI} (h : tiB P t ti = true) : ∃ d, P.underlying t = some d ∧ descAgg d = ti.agg := by
  have hk := (ti_ok h).2.2
  unfold kindB at hk
  unfold TI.agg
  cases hti : ti.k with
  | int k => rw [hti] at hk; simp only at hk; split at hk <;> first | (rename_i d _; exact ⟨_, ‹_›, rfl⟩) | cases hk
  | bool => rw [hti] at hk; simp only at hk; split at hk <;> first | exact ⟨_, ‹_›, rfl⟩ | cases hk
  | str => rw [hti] at hk; simp only at hk; split at hk <;> first | exact ⟨_, ‹_›, rfl⟩ | cases hk
  | sl e es eb ety =>
    rw [hti] at hk; simp only [Bool.and_eq_true] at hk
    obtain ⟨⟨h1, _⟩, _⟩ := hk
    split at h1 <;> first | exact ⟨_, ‹_›, rfl⟩ | cases h1
  | st fs => rw [hti] at hk; simp only at hk; split at hk <;> first | exact ⟨_, ‹_›, rfl⟩ | cases hk
  | arr len te es n ety =>
    rw [hti] at hk; simp only [Bool.and_eq_true] at hk
    obtain ⟨⟨⟨⟨⟨⟨h1, _⟩, _⟩, _⟩, _⟩, _⟩, _⟩ := hk
    split at h1 <;> first | exact ⟨_, ‹_›, rfl⟩ | cases h1
  | sc =>
    rw [hti] at hk; simp only at hk
    split at hk
    · rename_i d hd; exact ⟨d, hd, by simpa using hk⟩
    · cases hk

theorem fieldsB_ok {fs : List Field} {xs : List (Nat × Nat × Bool)} (h : fieldsB P fs xs = true) : ∀ {i : Nat} {x : Nat × Nat × Bool}, xs[i]? = some x →
    ∃ f j d, fs[i]? = some f ∧ f.offset = x.1 ∧ x.2.1 ≠ 0 ∧ P.info? f.type = some j ∧ j.size = x.2.1 ∧ P.underlying f.type = some d ∧ descAgg d = x.2.2 := by
  induction fs generalizing xs with
  | nil => intro i x hx; cases xs with | nil => simp at hx | cons _ _ => cases h
  | cons f fs ih =>
    intro i x hx
    cases xs with
    | nil => cases h
    | cons y ys =>
      unfold fieldsB at h
      simp only [Bool.and_eq_true, beq_iff_eq, bne_iff_ne, ne_eq] at h
      obtain ⟨⟨⟨⟨h1, h2⟩, h3⟩, h4⟩, h5⟩ := h
      cases i with
      | zero =>
        simp only [List.getElem?_cons_zero, Option.some.injEq] at hx
        subst hx
        split at h3
        · rename_i j hj
          split at h4
          · rename_i d hd
            exact ⟨f, j, d, rfl, h1, h2, hj, by simpa using h3, hd, by simpa using h4⟩
          · cases h4
        · cases h3
      | succ i => exact ih h5 (by simpa using hx)

theorem slice_ok {t e : TypeId} {es eb : Nat} {ety : Ty} (h : kindB P t (.sl e es eb ety) = true) :
    P.underlying t = some (.slice e) ∧ es = ety.size ∧ ∃ i z, P.info? e = some i ∧ i.size = ety.size ∧ i.bytes = eb ∧ i.zero = some z ∧ z.cells = ety.zeros.toArray := by
  unfold kindB at h
  simp only [Bool.and_eq_true, beq_iff_eq] at h
  obtain ⟨⟨h1, h2⟩, h3⟩ := h
  split at h1
  · rename_i e' he
    simp only [beq_iff_eq] at h1
    subst h1
    obtain ⟨i, z, k1, k2, k3, k4, k5, _⟩ := infoB_ok h3
    exact ⟨he, h2, i, z, k1, k2.trans h2, k3, k4, k5⟩
  · cases h1

theorem struct_ok {t : TypeId} {fs : List (Nat × Nat × Bool)} (h : kindB P t (.st fs) = true) : ∃ fields, P.underlying t = some (.struct fields) ∧ fieldsB P fields.toList fs = true := by
  unfold kindB at h
  simp only at h
  split at h
  · exact ⟨_, ‹_›, h⟩
  · cases h

theorem int_ok {t : TypeId} {k : IntKind} (h : kindB P t (.int k) = true) : P.underlying t = some (.int k) := by
  unfold kindB at h
  simp only at h
  split at h
  · rename_i k' hk; simp only [beq_iff_eq] at h; subst h; exact hk
  · cases h

/-! ### Loads and stores -/

theorem add_mk (b o j : Nat) : (⟨b, o, none⟩ : Addr).add j = ⟨b, o + j, none⟩ := by
  unfold Addr.add; split
  · rename_i h; subst h; rfl
  · rfl

/-- A load of so many cells. -/
theorem run_loadAt {t : TypeId} {ti : TI} (h : tiB P t ti = true) (w : World) (b o : Nat) (vs : List Value) (hl : vs.length = ti.size) (hc : ∀ (j : Nat) v, vs[j]? = some v → w.cell? ⟨b, o + j, none⟩ = some v) :
    (ti.agg = true → (Instr.loadAt t (.pointer (some ⟨b, o, none⟩))).run P w = .ok (.agg vs.toArray) w) ∧
    (ti.agg = false → ∀ v, vs = [v] → (Instr.loadAt t (.pointer (some ⟨b, o, none⟩))).run P w = .ok v w) := by
  obtain ⟨⟨i, z, h1, h2, _⟩, _, _⟩ := ti_ok h
  obtain ⟨d, hd, ha⟩ := ti_und h
  have hs := run_sizeOf h1
  have hg := run_isAgg hd
  constructor
  · intro hagg
    rw [hagg] at ha
    have hld := run_loadCells_list (P := P) w ⟨b, o, none⟩ vs (fun j v hv => by rw [add_mk]; exact hc j v hv)
    rw [hl, ← h2] at hld
    simp [Instr.loadAt, Instr.sureAddr, loadVar, hg, ha, hs, hld]
  · intro hagg v hv
    rw [hagg] at ha
    have h0 := hc 0 v (by rw [hv]; rfl)
    simp only [Nat.add_zero] at h0
    simp [Instr.loadAt, Instr.sureAddr, loadVar, hg, ha, h0]

/-- A store of so many cells into one block. -/
theorem run_storeAt {t : TypeId} {ti : TI} (h : tiB P t ti = true) (w : World) (b o : Nat) (cur : Array Value) (el : TypeId) (x : Value) (hx : x.cells.size = ti.size) (hg : w.heap[b]? = some (.cells cur el (0, 0)))
    (hfit : o + x.cells.size ≤ cur.size) (h1 : ∀ v ∈ x.cells.toList, v.oneCell' = true) :
    (Instr.storeAt t (.pointer (some ⟨b, o, none⟩)) x).run P w = .ok () (w.setRow b (cur.toList.take o ++ x.cells.toList ++ cur.toList.drop (o + x.cells.toList.length)).toArray) := by
  obtain ⟨⟨i, z, h2, h3, _⟩, _, _⟩ := ti_ok h
  have hst := run_storeCells_at P b o el x.cells.toList 0 cur w hg (by simpa using hfit) h1
  simp only [Nat.add_zero] at hst
  have hne : ¬ (x.cells.size ≠ i.size) := by rw [hx, h3]; simp
  have hne' : x.cells.size = i.size := by rw [hx, h3]
  simp only [Instr.storeAt, Instr.sureAddr, storeVar, Sem.run_bind, Sem.run_pure, Result.andThen_ok, run_sizeOf h2, hne', ne_eq, not_true_eq_false, if_false]
  first
    | exact hst
    | (simp only [Sem.run_bind, Sem.run_pure, Result.andThen_ok]; exact hst)
    | (simp [hst])

end
end Go.SX


/- New names, new blocks: what an operation that writes nothing leaves. No condition. -/
namespace Go.SX
open Go.RowKit
set_option linter.unusedVariables false

def hpNew (hp : Nat → Ent) (nx : Nat) (es : List Ent) (n : Nat) : Ent := if n < nx then hp n else match es[n - nx]? with | some e => e | none => hp n

theorem hpNew_nil (hp : Nat → Ent) (nx : Nat) : hpNew hp nx [] = hp := by
  funext n; unfold hpNew; split <;> rfl

theorem hpNew_old {hp : Nat → Ent} {nx : Nat} {es : List Ent} (hd : ∀ j, j < es.length → hp (nx + j) = .dead) {n : Nat} (hl : (hp n).live = true) : hpNew hp nx es n = hp n := by
  unfold hpNew
  split
  · rfl
  · rename_i h
    split
    · rename_i e he
      have hlt := (List.getElem?_eq_some_iff.1 he).1
      have := hd (n - nx) hlt
      rw [show nx + (n - nx) = n by omega] at this
      rw [this] at hl; cases hl
    · rfl

theorem hpNew_new {hp : Nat → Ent} {nx : Nat} {es : List Ent} {j : Nat} {e : Ent} (h : es[j]? = some e) : hpNew hp nx es (nx + j) = e := by
  unfold hpNew
  rw [if_neg (by omega), show nx + j - nx = j by omega, h]

theorem hpNew_cases (hp : Nat → Ent) (nx : Nat) (es : List Ent) (n : Nat) : (∃ j e, n = nx + j ∧ es[j]? = some e ∧ hpNew hp nx es n = e) ∨ ((n < nx ∨ nx + es.length ≤ n) ∧ hpNew hp nx es n = hp n) := by
  by_cases h : n < nx
  · exact .inr ⟨.inl h, by unfold hpNew; rw [if_pos h]⟩
  · cases he : es[n - nx]? with
    | some e => exact .inl ⟨n - nx, e, by omega, he, by unfold hpNew; rw [if_neg h, he]⟩
    | none =>
      have := List.getElem?_eq_none_iff.1 he
      exact .inr ⟨.inr (by omega), by unfold hpNew; rw [if_neg h, he]⟩

/-- The names from 'nx' on lie in the blocks 'bs'. -/
def Vl.ext (V : Vl) (nx : Nat) (bs : List (Option Nat)) (Z : Nat → Prop) : Vl where
  blk n := if nx ≤ n ∧ n < nx + bs.length then ((bs[n - nx]?).getD none).getD 0 else V.blk n
  has n := if nx ≤ n ∧ n < nx + bs.length then ((bs[n - nx]?).getD none).isSome = true else V.has n
  Z0 := V.Z0
  Z1 b := V.Z1 b ∨ Z b

section
variable {V : Vl} {nx : Nat} {bs : List (Option Nat)} {Z : Nat → Prop}

theorem Vl.ext_blk_old {n : Nat} (h : n < nx ∨ nx + bs.length ≤ n) : (V.ext nx bs Z).blk n = V.blk n := by
  show (if _ then _ else _) = _; rw [if_neg (by omega)]
theorem Vl.ext_has_old {n : Nat} (h : n < nx ∨ nx + bs.length ≤ n) : (V.ext nx bs Z).has n ↔ V.has n := by
  show (if _ then _ else _) ↔ _; rw [if_neg (by omega)]
theorem Vl.ext_blk_new {j b : Nat} (h : bs[j]? = some (some b)) : (V.ext nx bs Z).blk (nx + j) = b := by
  have hj := (List.getElem?_eq_some_iff.1 h).1
  show (if _ then _ else _) = _; rw [if_pos (by omega), show nx + j - nx = j by omega, h]; rfl
theorem Vl.ext_has_new {j : Nat} {b : Option Nat} (h : bs[j]? = some b) : (V.ext nx bs Z).has (nx + j) ↔ b.isSome = true := by
  have hj := (List.getElem?_eq_some_iff.1 h).1
  show (if _ then _ else _) ↔ _; rw [if_pos (by omega), show nx + j - nx = j by omega, h]; rfl
theorem Vl.ext_Z {fr : Bool} {b : Nat} : (V.ext nx bs Z).Z fr b ↔ V.Z fr b ∨ Z b := by
  unfold Vl.Z Vl.ext
  constructor
  · rintro ((h | h) | h)
    · exact .inl (.inl h)
    · exact .inr h
    · exact .inl (.inr h)
  · rintro ((h | h) | h)
    · exact .inl (.inl h)
    · exact .inr h
    · exact .inl (.inr h)
end

section
variable {base : Nat} {M : LM} {w0 : World} {V : Vl} {hp : Nat → Ent} {w w' : World}

theorem Mem.z_lt (m : Mem base M w0 V hp w) {fr : Bool} {b : Nat} (h : V.Z fr b) : b < w.heap.size := by
  rcases h with h | ⟨_, h⟩
  · exact (m.z1 b h).2
  · exact Nat.lt_of_lt_of_le (m.z0 b h).1 m.kept.size

theorem Kept.trans (h : Kept base M w0 w) (k : Kept w.heap.size noM w w') : Kept base M w0 w' where
  os := k.os.trans h.os
  tape := k.tape.trans h.tape
  output := k.output.trans h.output
  size := Nat.le_trans h.size k.size
  block b hb hm := (k.block b (Nat.lt_of_lt_of_le hb h.size) (fun x => x)).trans (h.block b hb hm)
  shape b vals el hb hm hv := by
    obtain ⟨vals', el', h1, h2⟩ := h.shape b vals el hb hm hv
    exact ⟨vals', el', (k.block b (Nat.lt_of_lt_of_le hb h.size) (fun x => x)).trans h1, h2⟩

theorem VX.of_kept (m : Mem base M w0 V hp w) (k : Kept w.heap.size noM w w') {nx : Nat} {es : List Ent} {bs : List (Option Nat)} {Z : Nat → Prop} (hlen : bs.length = es.length)
    (hd : ∀ j, j < es.length → hp (nx + j) = .dead) : VX V hp w (V.ext nx bs Z) (hpNew hp nx es) w' where
  nm n hl := by
    have ho : n < nx ∨ nx + bs.length ≤ n := by
      rcases Nat.lt_or_ge n nx with h | h
      · exact .inl h
      · rcases Nat.lt_or_ge n (nx + bs.length) with h' | h'
        · have := hd (n - nx) (by omega)
          rw [show nx + (n - nx) = n by omega] at this
          rw [this] at hl; cases hl
        · exact .inr h'
    exact ⟨Vl.ext_blk_old ho, Vl.ext_has_old ho, hpNew_old hd hl⟩
  z0 b h := h
  z1 b h := .inl h
  agz b h := k.block b (m.z_lt h) (fun x => x)
  agb n hl hh := k.block _ (m.own n hl hh).2.1 (fun x => x)

theorem lids_nil {e : Ent} (h : ¬ e.lentish) : e.lids = [] := by
  cases e with
  | dead => rfl
  | bx cs => rfl
  | row fr e xs =>
    cases fr with
    | true => rfl
    | false =>
      have h' : ¬ (e.flat || e.hasG) = true := h
      show (if e.hasG then idsL e xs else []) = []
      rw [if_neg (fun hg => h' (by rw [hg, Bool.or_true]))]

/-- The memory behind new names: each new entry is owed. -/
theorem Mem.grow (m : Mem base M w0 V hp w) (k : Kept w.heap.size noM w w') {nx : Nat} {es : List Ent} {bs : List (Option Nat)} {Z : Nat → Prop} (hlen : bs.length = es.length)
    (hd : ∀ j, j < es.length → hp (nx + j) = .dead) (hnd : (bs.filterMap id).Nodup) (hb : ∀ b, some b ∈ bs → w.heap.size ≤ b ∧ b < w'.heap.size ∧ ¬ Z b) (hZ : ∀ b, Z b → w.heap.size ≤ b ∧ b < w'.heap.size)
    (hbx : ∀ (j : Nat) cs, es[j]? = some (.bx cs) → ∃ b, bs[j]? = some (some b))
    (hes : ∀ (j : Nat) e, es[j]? = some e → e.ok (V.ext nx bs Z) (hpNew hp nx es) w' (nx + j)) (hnl : ∀ e ∈ es, ¬ e.lentish) :
    Mem base M w0 (V.ext nx bs Z) (hpNew hp nx es) w' := by
  have x := VX.of_kept m k (Z := Z) hlen hd
  have hsz : w.heap.size ≤ w'.heap.size := k.size
  have hnew : ∀ (n : Nat), (hpNew hp nx es n).live = true → (V.ext nx bs Z).has n → (∃ j b, n = nx + j ∧ bs[j]? = some (some b) ∧ (V.ext nx bs Z).blk n = b ∧ w.heap.size ≤ b ∧ b < w'.heap.size ∧ ¬ Z b) ∨
      ((n < nx ∨ nx + es.length ≤ n) ∧ (hp n).live = true ∧ V.has n ∧ (V.ext nx bs Z).blk n = V.blk n) := by
    intro n hl hh
    rcases hpNew_cases hp nx es n with ⟨j, e, rfl, he, h3⟩ | ⟨h1, h2⟩
    · have hj := (List.getElem?_eq_some_iff.1 he).1
      have hbj : bs[j]? = some bs[j] := List.getElem?_eq_getElem (by omega)
      rw [Vl.ext_has_new hbj] at hh
      cases hb' : bs[j] with
      | none => rw [hb'] at hh; cases hh
      | some b =>
        rw [hb'] at hbj
        exact .inl ⟨j, b, rfl, hbj, Vl.ext_blk_new hbj, hb b (List.mem_of_getElem? hbj)⟩
    · rw [h2] at hl
      rw [Vl.ext_has_old (by omega)] at hh
      exact .inr ⟨h1, hl, hh, Vl.ext_blk_old (by omega)⟩
  refine ⟨fun n => ?_, fun n cs h => ?_, fun n hl hh => ?_, fun n e xs h hh => ?_, fun n n' hl hl' hh hh' he => ?_, fun b h => m.z0 b h, fun b h => ?_, m.kept.trans k, fun n hl hh => ?_, fun b hb => ?_, fun n hh i hi => ?_⟩
  · rcases hpNew_cases hp nx es n with ⟨j, e, rfl, he, h3⟩ | ⟨h1, h2⟩
    · rw [h3]; exact hes j e he
    · cases hl : (hp n).live with
      | true => exact Ent.ok_ext x (m.ents n) (fun cs h => m.box n cs h) hl
      | false =>
        rw [h2]
        cases hn : hp n with
        | dead => trivial
        | bx cs => rw [hn] at hl; cases hl
        | row fr e xs => rw [hn] at hl; cases hl
  · rcases hpNew_cases hp nx es n with ⟨j, e, rfl, he, h3⟩ | ⟨h1, h2⟩
    · rw [h3] at h; subst h
      obtain ⟨b, hb'⟩ := hbx j cs he
      rw [Vl.ext_has_new hb']; rfl
    · rw [h2] at h
      rw [Vl.ext_has_old (by omega)]
      exact m.box n cs h
  · rcases hnew n hl hh with ⟨j, b, rfl, h1, h2, h3, h4, h5⟩ | ⟨h0, h1, h2, h3⟩
    · rw [h2]
      refine ⟨.inl (Nat.le_trans m.kept.size h3), h4, fun h => ?_⟩
      rcases Vl.ext_Z.1 h with h | h
      · have := m.z_lt h; omega
      · exact h5 h
    · rw [h3]
      obtain ⟨k1, k2, k3⟩ := m.own n h1 h2
      refine ⟨k1, by omega, fun h => ?_⟩
      rcases Vl.ext_Z.1 h with h | h
      · exact k3 h
      · have := (hZ _ h).1; omega
  · rcases hnew n (by rw [h]; rfl) hh with ⟨j, b, rfl, h1, h2, h3, h4, h5⟩ | ⟨h0, h1, h2, h3⟩
    · rw [h2]; exact Nat.le_trans m.kept.size h3
    · rw [h3]
      rcases hpNew_cases hp nx es n with ⟨j, e', rfl, he', _⟩ | ⟨_, h4⟩
      · have := (List.getElem?_eq_some_iff.1 he').1; omega
      · exact m.mine n e xs (by rw [← h4]; exact h) h2
  · rcases hnew n hl hh with ⟨j, b, rfl, h1, h2, h3, h4, h5⟩ | ⟨h0, h1, h2, h3⟩
    · rcases hnew n' hl' hh' with ⟨j', b', rfl, g1, g2, g3, g4, g5⟩ | ⟨g0, g1, g2, g3⟩
      · rw [h2, g2] at he
        subst he
        by_cases hjj : j = j'
        · rw [hjj]
        · exfalso
          have hp1 : bs.Pairwise (fun x y => ∀ b, x = some b → y = some b → False) := by
            have h := hnd
            rw [List.Nodup, List.pairwise_filterMap] at h
            refine h.imp fun {x y} hxy b hx hy => ?_
            exact hxy b hx b hy rfl
          have hj1 := (List.getElem?_eq_some_iff.1 h1).1
          have hj2 := (List.getElem?_eq_some_iff.1 g1).1
          rw [List.pairwise_iff_getElem] at hp1
          rw [List.getElem?_eq_getElem hj1] at h1
          rw [List.getElem?_eq_getElem hj2] at g1
          simp only [Option.some.injEq] at h1 g1
          rcases Nat.lt_or_gt_of_ne hjj with hlt | hlt
          · exact hp1 j j' hj1 hj2 hlt b h1 g1
          · exact hp1 j' j hj2 hj1 hlt b g1 h1
      · rw [h2, g3] at he
        have := (m.own n' g1 g2).2.1
        omega
    · rcases hnew n' hl' hh' with ⟨j', b', rfl, g1, g2, g3, g4, g5⟩ | ⟨g0, g1, g2, g3⟩
      · rw [h3, g2] at he
        have := (m.own n h1 h2).2.1
        omega
      · rw [h3, g3] at he
        exact m.dist n n' h1 g1 h2 g2 he
  · rcases h with h | h
    · exact ⟨(m.z1 b h).1, by have := (m.z1 b h).2; omega⟩
    · exact ⟨Nat.le_trans m.kept.size (hZ b h).1, (hZ b h).2⟩
  · rcases hpNew_cases hp nx es n with ⟨j, e, rfl, he, h3⟩ | ⟨h1, h2⟩
    · rw [h3] at hl
      exact absurd hl (hnl e (List.mem_of_getElem? he))
    · rw [h2] at hl
      rw [Vl.ext_has_old (by omega)] at hh
      rw [Vl.ext_blk_old (by omega)]
      exact m.lent n hl hh
  · obtain ⟨q1, q2⟩ := m.lentb b hb
    rcases hpNew_cases hp nx es 0 with ⟨j, e, h0, he, h3⟩ | ⟨h1, h2⟩
    · have hj := (List.getElem?_eq_some_iff.1 he).1
      have := hd j hj
      rw [← h0] at this
      rw [this] at q1
      cases q1
    · rw [h2]
      exact ⟨q1, by rw [Vl.ext_blk_old (by omega)]; exact q2⟩
  · rcases hpNew_cases hp nx es n with ⟨j, e, rfl, he, h3⟩ | ⟨h1, h2⟩
    · rw [h3, lids_nil (hnl e (List.mem_of_getElem? he))] at hi
      cases hi
    · rw [h2] at hi
      rw [Vl.ext_has_old (by omega)] at hh
      exact m.lids n hh i hi

/-- What an operation that writes nothing leaves. -/
structure Good (base : Nat) (M : LM) (w0 : World) (V : Vl) (hp : Nat → Ent) (w : World) (nx : Nat) (res : S) (es : List Ent) (hy : Option Prop) (v : Value) (w' : World) (V' : Vl) : Prop where
  mem : Mem base M w0 V' (hpNew hp nx es) w'
  vx : VX V hp w V' (hpNew hp nx es) w'
  res : S.ok V' (hpNew hp nx es) w' res v
  hy : ∀ p, hy = some p → p

theorem VX.refl (V : Vl) (hp : Nat → Ent) (w : World) : VX V hp w V hp w := ⟨fun _ _ => ⟨rfl, Iff.rfl, rfl⟩, fun _ h => h, fun _ h => h, fun _ _ => rfl, fun _ _ _ => rfl⟩

theorem good_same (m : Mem base M w0 V hp w) {nx : Nat} {s : S} {v : Value} (h : S.ok V hp w s v) : Good base M w0 V hp w nx s [] none v w V := by
  refine ⟨?_, ?_, ?_, fun p h => by cases h⟩
  · rw [hpNew_nil]; exact m
  · rw [hpNew_nil]; exact VX.refl _ _ _
  · rw [hpNew_nil]; exact h

theorem heap_drew (w : World) : w.drew.heap = w.heap := rfl

theorem kept_alloc (w : World) (o : Obj) : Kept w.heap.size noM w (w.alloc o) where
  os := rfl
  tape := rfl
  output := rfl
  size := by simp
  block b hb _ := by show (w.heap.push o)[b]? = _; rw [Array.getElem?_push, if_neg (by omega)]
  shape _ _ _ _ h _ := h.elim

theorem heap_new (w : World) (o : Obj) : (w.alloc o).heap[w.heap.size]? = some o := by
  show (w.heap.push o)[w.heap.size]? = _
  rw [Array.getElem?_push, if_pos rfl]

/-- One new block of cells under one new name. -/
theorem good_alloc (m : Mem base M w0 V hp w) {nx : Nat} (hd : hp nx = .dead) (vals : Array Value) (el : TypeId) (e : Ent) (res : S) (v : Value) (hnl : ¬ e.lentish)
    (he : ∀ V' hp' w', VX V hp w V' hp' w' → V'.has nx → V'.blk nx = w.heap.size → hp' nx = e → w'.heap[w.heap.size]? = some (.cells vals el (0, 0)) → e.ok V' hp' w' nx ∧ S.ok V' hp' w' res v) :
    ∃ V', Good base M w0 V hp w nx res [e] none v (w.alloc (.cells vals el)) V' := by
  have k := kept_alloc w (.cells vals el)
  have hd' : ∀ j, j < [e].length → hp (nx + j) = .dead := fun j hj => by
    have : j = 0 := by simp at hj; omega
    subst this; exact hd
  have x := VX.of_kept m k (nx := nx) (es := [e]) (bs := [some w.heap.size]) (Z := fun _ => False) rfl hd'
  have h1 : (V.ext nx [some w.heap.size] (fun _ => False)).has nx := by
    have := Vl.ext_has_new (V := V) (nx := nx) (bs := [some w.heap.size]) (Z := fun _ => False) (j := 0) (b := some w.heap.size) rfl
    exact this.2 rfl
  have h2 : (V.ext nx [some w.heap.size] (fun _ => False)).blk nx = w.heap.size := Vl.ext_blk_new (nx := nx) (j := 0) rfl
  have h3 : hpNew hp nx [e] nx = e := hpNew_new (nx := nx) (j := 0) rfl
  obtain ⟨g1, g2⟩ := he _ _ _ x h1 h2 h3 (heap_new w _)
  refine ⟨_, ⟨m.grow k rfl hd' (by simp) (fun b hb => ?_) (fun b hb => hb.elim) (fun j cs hj => ?_) (fun j e' hj => ?_) (fun e' he' => by rw [List.mem_singleton.1 he']; exact hnl), x, g2, fun p h => by cases h⟩⟩
  · simp at hb; subst hb; exact ⟨Nat.le_refl _, by simp, fun h => h⟩
  · have : j = 0 := by have := (List.getElem?_eq_some_iff.1 hj).1; simp at this; omega
    subst this; exact ⟨_, rfl⟩
  · have : j = 0 := by have := (List.getElem?_eq_some_iff.1 hj).1; simp at this; omega
    subst this
    simp at hj; subst hj
    exact g1
end
end Go.SX


/- Arithmetic and choices: the symbolic value is the run's. No condition. -/
namespace Go.SX
open Go.RowKit
set_option linter.unusedVariables false

theorem wrap_range (k : IntKind) (n : Int) : k.min ≤ k.wrap n ∧ k.wrap n ≤ k.max := by
  cases k <;> simp only [IntKind.wrap, IntKind.min, IntKind.max, IntKind.signed, IntKind.bits] <;> simp <;> (try split) <;> omega

section
variable {P : Program} {V : Vl} {hp : Nat → Ent} {w : World}

theorem ok_int {k : IntKind} {n : Int} {v : Value} (h : C.ok V hp w (.val (.int k n)) v) : v = .int k n ∧ k.min ≤ n ∧ n ≤ k.max := h
theorem ok_bool {b : Bool} {v : Value} (h : C.ok V hp w (.val (.bool b)) v) : v = .bool b := h.1
theorem ok_int_mk {k : IntKind} {n : Int} (h : k.min ≤ n ∧ n ≤ k.max) : C.ok V hp w (.val (.int k n)) (.int k n) := ⟨rfl, h⟩
theorem ok_bool_mk (b : Bool) : C.ok V hp w (.val (.bool b)) (.bool b) := ⟨rfl, trivial⟩

theorem tmod_range {k : IntKind} {a b : Int} (ha : k.min ≤ a ∧ a ≤ k.max) : k.min ≤ a.tmod b ∧ a.tmod b ≤ k.max := by
  have hmin : k.min ≤ 0 := (wf_zero k).1
  have hmax : 0 ≤ k.max := (wf_zero k).2
  rcases Int.le_total 0 a with h | h
  · have h1 := Int.tmod_nonneg b h
    have h2 : a.tmod b ≤ a := by
      have := Int.natAbs_tmod a b
      have h3 : (a.tmod b).natAbs ≤ a.natAbs := by rw [this]; exact Nat.mod_le _ _
      omega
    omega
  · have h2 : (a.tmod b).natAbs ≤ a.natAbs := by rw [Int.natAbs_tmod]; exact Nat.mod_le _ _
    have h1 : a.tmod b ≤ 0 := by
      have := Int.tmod_nonneg b (show 0 ≤ -a by omega)
      rw [Int.neg_tmod] at this
      omega
    omega

theorem run_eqGuard_int (op : BinOp) (t : TypeId) (x y : Operand) (k k' : IntKind) (a b : Int) : (eqGuard op t x y (.int k a) (.int k' b)).run P w = .ok () w := by
  unfold eqGuard
  simp only [Sem.run_ite]
  split <;> rfl

theorem beq_dec (a b : Int) : (a == b) = decide (a = b) := by rw [Bool.eq_iff_iff]; simp

theorem ibin_run {op : BinOp} {k : IntKind} {a b : Int} {p : Option Prop} {c : C} (h : ibin op k a b = some (p, c)) (hp' : ∀ q, p = some q → q) (ha : k.min ≤ a ∧ a ≤ k.max) (t : TypeId) :
    ∃ v, (binOp op t (.int k a) (.int k b)).run P w = .ok v w ∧ C.ok V hp w c v := by
  cases op <;> simp only [ibin, Option.some.injEq, Prod.mk.injEq, reduceCtorEq] at h <;> obtain ⟨rfl, rfl⟩ := h
  case add => exact ⟨_, by simp [binOp, Op.intArith], ok_int_mk (wrap_range _ _)⟩
  case sub => exact ⟨_, by simp [binOp, Op.intArith], ok_int_mk (wrap_range _ _)⟩
  case mul => exact ⟨_, by simp [binOp, Op.intArith], ok_int_mk (wrap_range _ _)⟩
  case quo => exact ⟨_, by simp [binOp, Op.intDiv, hp' _ rfl], ok_int_mk (wrap_range _ _)⟩
  case rem => exact ⟨_, by simp [binOp, Op.intDiv, hp' _ rfl], ok_int_mk (tmod_range ha)⟩
  case and => exact ⟨_, by simp [binOp, Op.intBits, iand], ok_int_mk (wrap_range _ _)⟩
  case or => exact ⟨_, by simp [binOp, Op.intBits, ior], ok_int_mk (wrap_range _ _)⟩
  case xor => exact ⟨_, by simp [binOp, Op.intBits, ixor], ok_int_mk (wrap_range _ _)⟩
  case eql => exact ⟨.bool (decide (a = b)), by simp [binOp, Op.intCmp, beq_dec], ok_bool_mk _⟩
  case neq => exact ⟨.bool (!decide (a = b)), by simp [binOp, Op.intCmp, bne, beq_dec], ok_bool_mk _⟩
  case lss => exact ⟨_, by simp [binOp, Op.intCmp], ok_bool_mk _⟩
  case leq => exact ⟨_, by simp [binOp, Op.intCmp], ok_bool_mk _⟩
  case gtr => exact ⟨_, by simp [binOp, Op.intCmp], ok_bool_mk _⟩
  case geq => exact ⟨_, by simp [binOp, Op.intCmp], ok_bool_mk _⟩

/-- What an operation on values alone comes to. -/
def PureRun (P : Program) (V : Vl) (hp : Nat → Ent) (w : World) (r : QR) (e : Sem Value) : Prop := r.new = [] ∧ r.hy = none ∧ ∃ v, e.run P w = .ok v w ∧ S.ok V hp w r.res v

theorem qbin_run {op : BinOp} {x y : C} {r : QR} {u v : Value} (h : qbin op x y = some r) (hob : ∀ p, r.ob = some p → p) (hx : C.ok V hp w x u) (hy : C.ok V hp w y v) (t : TypeId) (ox oy : Operand) :
    PureRun P V hp w r (do eqGuard op t ox oy u v; binOp op t u v) := by
  unfold qbin at h
  split at h
  · injection h with h; subst h
    obtain ⟨rfl, ha⟩ := ok_int hx
    obtain ⟨rfl, hb⟩ := ok_int hy
    have h0 := hob _ rfl
    rename_i k a k' n
    refine ⟨rfl, rfl, .int k (ishl k a n), ?_, ⟨rfl, wrap_range _ _⟩⟩
    simp [run_eqGuard_int, binOp, Op.shift, ishl, show ¬ (n < (0 : Int)) from by omega]
  · injection h with h; subst h
    obtain ⟨rfl, ha⟩ := ok_int hx
    obtain ⟨rfl, hb⟩ := ok_int hy
    have h0 := hob _ rfl
    rename_i k a k' n
    refine ⟨rfl, rfl, .int k (ishr k a n), ?_, ⟨rfl, ?_⟩⟩
    · simp [run_eqGuard_int, binOp, Op.shift, ishr, show ¬ (n < (0 : Int)) from by omega]
    · have hmin := (wf_zero k).1
      have hmax := (wf_zero k).2
      unfold ishr
      have hpos : (0 : Int) < 2 ^ min n.toNat k.bits := Int.pow_pos (by decide)
      generalize (2 : Int) ^ min n.toNat k.bits = d at hpos
      rw [Int.fdiv_eq_ediv_of_nonneg _ (by omega)]
      constructor
      · have h1 : k.min ≤ a := ha.1
        rcases Int.le_total 0 a with h | h
        · have := Int.ediv_nonneg h (show (0 : Int) ≤ d by omega); omega
        · have h2 : a ≤ a / d := by
            have h3 := Int.le_ediv_of_mul_le (a := a) (b := a) (c := d) hpos (by
              have : a * d ≤ a * 1 := Int.mul_le_mul_of_nonpos_left h (show (1 : Int) ≤ d by omega)
              omega)
            exact h3
          omega
      · rcases Int.le_total 0 a with h | h
        · have := Int.ediv_le_self d h; omega
        · have : a / d ≤ 0 := Int.ediv_le_of_le_mul hpos (by omega)
          omega
  · split at h
    · rename_i op' k a k' b hk
      subst hk
      split at h
      · rename_i p c hi
        injection h with h; subst h
        obtain ⟨rfl, ha⟩ := ok_int hx
        obtain ⟨rfl, hb⟩ := ok_int hy
        obtain ⟨v, h1, h2⟩ := ibin_run (P := P) (V := V) (hp := hp) (w := w) hi hob ha t
        exact ⟨rfl, rfl, v, by simp only [Sem.run_bind, run_eqGuard_int, Result.andThen_ok]; exact h1, h2⟩
      · cases h
    · cases h
  · cases h

theorem qun_run {op : UnOp} {x : C} {r : QR} {u : Value} (h : qun op x = some r) (hx : C.ok V hp w x u) : PureRun P V hp w r (Op.unary op u) := by
  unfold qun at h
  split at h <;> first | (cases h; done) | (injection h with h; subst h)
  · rw [ok_bool hx]; exact ⟨rfl, rfl, _, by unfold Op.unary; rfl, ⟨rfl, trivial⟩⟩
  · rw [show u = _ from hx]; exact ⟨rfl, rfl, .bool false, by simp [Op.unary], rfl⟩
  · rw [show u = _ from hx]; exact ⟨rfl, rfl, .bool true, by simp [Op.unary], rfl⟩
  · obtain ⟨rfl, ha⟩ := ok_int hx
    exact ⟨rfl, rfl, _, by unfold Op.unary Op.intArith; rfl, ⟨rfl, wrap_range _ _⟩⟩

theorem boolOf_ok {c : C} {b : Bool} {v : Value} (h : boolOf c = some b) (hc : C.ok V hp w c v) : v = .bool b := by
  unfold boolOf at h
  split at h <;> first | (injection h with h; subst h; first | exact hc.1 | exact hc) | cases h

theorem qpick_run {c a b s : S} {vc va vb : Value} (h : qpick c a b = some s) (hc : S.ok V hp w c vc) (ha : S.ok V hp w a va) (hb : S.ok V hp w b vb) :
    ∃ p, asBool vc = pure p ∧ S.ok V hp w s (if p then va else vb) := by
  unfold qpick at h
  split at h
  · injection h with h; subst h
    exact ⟨true, by rw [show vc = _ from hc]; rfl, by simpa using ha⟩
  · injection h with h; subst h
    exact ⟨false, by rw [show vc = _ from hc]; rfl, by simpa using hb⟩
  · split at h
    · rename_i p k x k' y hk
      subst hk
      injection h with h; subst h
      obtain ⟨e1, h1⟩ := ok_int (V := V) (hp := hp) (w := w) ha
      obtain ⟨e2, h2⟩ := ok_int (V := V) (hp := hp) (w := w) hb
      refine ⟨p, by rw [ok_bool (V := V) (hp := hp) (w := w) hc]; rfl, ?_⟩
      subst e1; subst e2
      cases p
      · exact ⟨rfl, h2⟩
      · exact ⟨rfl, h1⟩
    · cases h
  · rename_i p x y _
    split at h
    · rename_i a' b' h1 h2
      injection h with h; subst h
      refine ⟨p, by rw [ok_bool (V := V) (hp := hp) (w := w) hc]; rfl, ?_⟩
      have e1 := boolOf_ok (V := V) (hp := hp) (w := w) h1 ha
      have e2 := boolOf_ok (V := V) (hp := hp) (w := w) h2 hb
      subst e1; subst e2
      cases p
      · exact ⟨rfl, trivial⟩
      · exact ⟨rfl, trivial⟩
    · cases h
  · cases h
end
end Go.SX


/- Loads, addresses, slices, composites. No condition. -/
namespace Go.SX
open Go.RowKit
set_option linter.unusedVariables false

section
variable {P : Program} {T : Tab} {V : Vl} {hp lk : Nat → Ent} {w : World}

theorem getD_lt {α : Type} {xs : List α} {i : Nat} (d : α) (h : i < xs.length) : xs.getD i d = xs[i] := by simp [List.getD, h]

theorem okAll_len {cs : List C} {vs : List Value} (h : okAll V hp w cs vs) : cs.length = vs.length := h.1

/-- A load of cells that are known. -/
theorem load_cells (hT : TabOk P T) {t : TypeId} {n : Nat} {cs : List C} {s : S} (hn : sizeT T t = some n) (hp' : packC T t cs = some s) (hlen : cs.length = n) {b o : Nat} {vs : List Value} (ho : okAll V hp w cs vs)
    (hc : ∀ (j : Nat) v, vs[j]? = some v → w.cell? ⟨b, o + j, none⟩ = some v) :
    ∃ v, (Instr.loadAt t (.pointer (some ⟨b, o, none⟩))).run P w = .ok v w ∧ S.ok V hp w s v := by
  unfold sizeT at hn
  unfold packC at hp'
  cases ht : T t with
  | none => rw [ht] at hn; cases hn
  | some ti =>
    rw [ht] at hn hp'
    have hb := hT t ti ht
    simp only [omap, Option.some.injEq] at hn
    obtain ⟨h1, h2⟩ := run_loadAt hb w b o vs (by rw [← ho.1, hlen, hn]) hc
    split at hp'
    · rename_i fs n' heq
      simp only [Option.some.injEq] at heq
      split at hp'
      · injection hp' with hp'; subst hp'
        exact ⟨_, h1 (by subst heq; rfl), vs.toArray, rfl, by simpa using ho⟩
      · cases hp'
    · cases hp'
    · rename_i ti' hno hna heq
      simp only [Option.some.injEq] at heq
      subst heq
      have hag : ti.agg = false := by
        unfold TI.agg
        split
        · rename_i fs hk
          exact (hno fs ti.size ti.bytes ti.zero ti.ty ti.eq (by cases ti; simp only at hk; subst hk; rfl)).elim
        · rename_i q1 q2 q3 q4 q5 hk
          exact (hna q1 q2 q3 q4 q5 ti.size ti.bytes ti.zero ti.ty ti.eq (by cases ti; simp only at hk; subst hk; rfl)).elim
        · rfl
      split at hp'
      · injection hp' with hp'; subst hp'
        obtain ⟨v, vs', rfl, h3, h4⟩ := okAll_cons ho
        have : vs' = [] := by have := h4.1; simp at this; exact List.length_eq_zero_iff.1 this.symm
        subst this
        exact ⟨v, h2 hag v rfl, h3⟩
      · cases hp'
    · rename_i heq; cases heq

theorem partOf_some {cs r : List C} {off n : Nat} (h : partOf cs off n = some r) : r = (cs.drop off).take n ∧ r.length = n := by
  unfold partOf at h
  simp only [ltake_eq, ldrop_eq, llen_eq] at h
  split at h
  · injection h with h; subst h; exact ⟨rfl, by assumption⟩
  · cases h

/-- A row's element, in memory. -/
theorem row_elem {n i : Nat} {fr : Bool} {e : Ty} {xs : List e.den} (he : (Ent.row fr e xs).ok V hp w n) (hh : V.has n) (hi : i < xs.length) :
    ∃ es, es.length = e.size ∧ (∀ (j : Nat) v, es[j]? = some v → w.cell? ⟨V.blk n, i * e.size + j, none⟩ = some v) ∧ RdC (V.Z fr) w e es (xs.getD i e.dflt) := by
  rcases he with ⟨h1, _⟩ | ⟨_, vals, el, h2, h3, h4⟩
  · exact absurd hh h1
  · obtain ⟨es, h5, h6, h7⟩ := h4 i hi
    refine ⟨es, h5, fun j v hv => ?_, by rw [getD_lt _ hi]; exact h7⟩
    simp only [World.cell?, h2]
    exact h6 j v hv

theorem qload_run (hT : TabOk P T) (hl : LkOk V hp lk w) {t : TypeId} {p : C} {r : QR} {v : Value} (h : qload T lk t p = some r) (hv : C.ok V hp w p v) : PureRun P V hp w r (Instr.loadAt t v) := by
  unfold qload at h
  cases hn : sizeT T t with
  | none => rw [hn] at h; cases h
  | some n =>
    rw [hn] at h
    simp only at h
    generalize hcs : cellsOfPtr lk n p = cs at h
    cases cs with
    | none => cases h
    | some cs =>
      simp only [omap_eq] at h
      cases hs : packC T t cs with
      | none => rw [hs] at h; cases h
      | some s =>
        rw [hs] at h
        simp only [Option.map_some, Option.some.injEq] at h
        subst h
        unfold cellsOfPtr at hcs
        refine ⟨rfl, rfl, ?_⟩
        cases p with
        | at_ fr ty d off =>
          obtain ⟨h1, h2⟩ := partOf_some hcs
          obtain ⟨b, o, rfl, hz, es, h3, h4, h5⟩ := hv
          have ho := okAll_take (okAll_drop (ok_expand (V := V) (hp := hp) fr ty h5) off) n
          rw [← h1] at ho
          exact load_cells hT hn hs h2 ho (fun j v hj => by
            rw [List.getElem?_take] at hj
            split at hj
            · rw [List.getElem?_drop] at hj
              have := h4 (off + j) (List.getElem?_eq_some_iff.1 hj).1
              rw [show o + off + j = o + (off + j) by omega, this]
              exact (List.getElem?_eq_getElem _).symm.trans hj
            · cases hj)
        | box m off =>
          simp only at hcs
          split at hcs
          · rename_i cs' hm
            obtain ⟨h1, h2⟩ := partOf_some hcs
            obtain ⟨rfl, hh, _⟩ := hv
            obtain ⟨e1, e2⟩ := hl m (by rw [hm]; rfl)
            rw [hm] at e2
            obtain ⟨vals, el, h3, h4⟩ := e2
            have ho := okAll_take (okAll_drop h4 off) n
            rw [← h1] at ho
            exact load_cells hT hn hs h2 ho (fun j v hj => by
              rw [List.getElem?_take] at hj
              split at hj
              · rw [List.getElem?_drop] at hj
                simp only [World.cell?, h3]
                simpa using hj
              · cases hj)
          · cases hcs
        | elt m i off =>
          simp only at hcs
          split at hcs
          · rename_i fr e xs hm
            obtain ⟨h1, h2⟩ := partOf_some hcs
            obtain ⟨hh, fr', e', xs', h6, hi, rfl⟩ := hv
            obtain ⟨e1, e2⟩ := hl m (by rw [hm]; rfl)
            rw [hm] at e2
            rw [← e1, hm] at h6
            injection h6 with e3 e4 e5
            subst e3; subst e4; cases e5
            obtain ⟨es, h7, h8, h9⟩ := row_elem e2 hh hi
            have ho := okAll_take (okAll_drop (ok_expand (V := V) (hp := hp) fr e h9) off) n
            rw [← h1] at ho
            exact load_cells hT hn hs h2 ho (fun j v hj => by
              rw [List.getElem?_take] at hj
              split at hj
              · rw [List.getElem?_drop] at hj
                rw [show i * e.size + off + j = i * e.size + (off + j) by omega]
                exact h8 _ v hj
              · cases hj)
          · cases hcs
        | _ => cases hcs

theorem field_ok (hT : TabOk P T) {t : TypeId} {f : Nat} {x : Nat × Nat × Bool} (h : fieldOf T t f = some x) :
    ∃ fields fd j d, P.underlying t = some (.struct fields) ∧ fields[f]? = some fd ∧ fd.offset = x.1 ∧ x.2.1 ≠ 0 ∧ P.info? fd.type = some j ∧ j.size = x.2.1 ∧ P.underlying fd.type = some d ∧ descAgg d = x.2.2 := by
  unfold fieldOf at h
  split at h
  · rename_i fs sz by' z ty teq heq
    have hb := (ti_ok (hT t _ heq)).2.2
    obtain ⟨fields, h1, h2⟩ := struct_ok hb
    rw [nth?_eq] at h
    obtain ⟨fd, j, d, h3, h4⟩ := fieldsB_ok h2 h
    exact ⟨fields, fd, j, d, h1, by simpa using h3, h4⟩
  · cases h

theorem qfieldAddr_run (hT : TabOk P T) {t : TypeId} {p : C} {f : Nat} {r : QR} {v : Value} (h : qfieldAddr T t p f = some r) (hv : C.ok V hp w p v) : PureRun P V hp w r (Instr.fieldAt t v f) := by
  unfold qfieldAddr at h
  cases hf : fieldOf T t f with
  | none => rw [hf] at h; cases h
  | some x =>
    obtain ⟨o, n, ag⟩ := x
    rw [hf] at h
    obtain ⟨fields, fd, j, d, h1, h2, h3, h4, h5, h6, _⟩ := field_ok hT hf
    have run : ∀ b off, (Instr.fieldAt t (.pointer (some ⟨b, off, none⟩)) f).run P w = .ok (.pointer (some ⟨b, off + o, none⟩)) w := by
      intro b off
      have hne : ¬ (j.size = 0) := by rw [h6]; exact h4
      have h3' : fd.offset = o := h3
      simp [Instr.fieldAt, run_underlying h1, h2, Instr.sureAddr, fieldPlace, run_sizeOf h5, hne, h3', add_mk]
    simp only at h
    split at h
    · rename_i fr ty dd off
      injection h with h; subst h
      obtain ⟨b, o', rfl, hz, es, k1, k2, k3⟩ := hv
      exact ⟨rfl, rfl, _, run _ _, b, o', by rw [Nat.add_assoc], hz, es, k1, k2, k3⟩
    · injection h with h; subst h
      obtain ⟨rfl, k1, k2⟩ := hv
      exact ⟨rfl, rfl, _, run _ _, rfl, k1, k2⟩
    · injection h with h; subst h
      obtain ⟨k1, fr, e, xs, k2, k3, rfl⟩ := hv
      exact ⟨rfl, rfl, _, run _ _, k1, fr, e, xs, k2, k3, by rw [Nat.add_assoc]⟩
    · cases h

/-- As 'qfieldAddr_run', in every world. -/
theorem qfieldAddr_all (hT : TabOk P T) {t : TypeId} {p : C} {f : Nat} {r : QR} {v : Value} (h : qfieldAddr T t p f = some r) (hv : C.ok V hp w p v) :
    r.ob = none ∧ r.hy = none ∧ r.new = [] ∧ ∃ u, (∀ w', (Instr.fieldAt t v f).run P w' = .ok u w') ∧ S.ok V hp w r.res u := by
  unfold qfieldAddr at h
  cases hf : fieldOf T t f with
  | none => rw [hf] at h; cases h
  | some x =>
    obtain ⟨o, n, ag⟩ := x
    rw [hf] at h
    obtain ⟨fields, fd, j, d, h1, h2, h3, h4, h5, h6, _⟩ := field_ok hT hf
    have run : ∀ b off w', (Instr.fieldAt t (.pointer (some ⟨b, off, none⟩)) f).run P w' = .ok (.pointer (some ⟨b, off + o, none⟩)) w' := by
      intro b off w'
      have hne : ¬ (j.size = 0) := by rw [h6]; exact h4
      have h3' : fd.offset = o := h3
      simp [Instr.fieldAt, run_underlying h1, h2, Instr.sureAddr, fieldPlace, run_sizeOf h5, hne, h3', add_mk]
    simp only at h
    split at h
    · rename_i fr ty dd off
      injection h with h; subst h
      obtain ⟨b, o', rfl, hz, es, k1, k2, k3⟩ := hv
      exact ⟨rfl, rfl, rfl, _, run _ _, b, o', by rw [Nat.add_assoc], hz, es, k1, k2, k3⟩
    · injection h with h; subst h
      obtain ⟨rfl, k1, k2⟩ := hv
      exact ⟨rfl, rfl, rfl, _, run _ _, rfl, k1, k2⟩
    · injection h with h; subst h
      obtain ⟨k1, fr, e, xs, k2, k3, rfl⟩ := hv
      exact ⟨rfl, rfl, rfl, _, run _ _, k1, fr, e, xs, k2, k3, by rw [Nat.add_assoc]⟩
    · cases h

theorem elemTy_ok (hT : TabOk P T) {t : TypeId} {e : Ty} (h : elemTy T t = some e) :
    ∃ te i z, P.underlying t = some (.slice te) ∧ P.info? te = some i ∧ i.size = e.size ∧ i.zero = some z ∧ z.cells = e.zeros.toArray := by
  unfold elemTy at h
  split at h
  · rename_i te es eb e' sz by' z ty teq heq
    injection h with h; subst h
    obtain ⟨h1, h2, i, z, h3, h4, h5, h6, h7⟩ := slice_ok (ti_ok (hT t _ heq)).2.2
    exact ⟨te, i, z, h1, h3, h4, h6, h7⟩
  · cases h

/-- The address of an element. -/
theorem run_indexAt (hT : TabOk P T) {t : TypeId} {e : Ty} (h : elemTy T t = some e) (ad : Addr) (len cap : Nat) (k : IntKind) (n : Int) (h0 : 0 ≤ n) (h1 : n < (len : Int)) :
    (Instr.indexAt t (.slice (some ad) len cap) (.int k n)).run P w = .ok (.pointer (some (ad.add (n.toNat * e.size)))) w := by
  obtain ⟨te, i, z, h2, h3, h4, _⟩ := elemTy_ok hT h
  simp [Instr.indexAt, run_underlying h2, asIntOf, h0, h1, run_sizeOf h3, h4]

theorem hasRow_index (hT : TabOk P T) {t : TypeId} {e : Ty} (he : elemTy T t = some e.unG) {m h : Nat} {v : Value} {k : IntKind} {n : Int} (hr : hasRow V w m e h v) (h0 : 0 ≤ n) (h1 : n < (h : Int)) :
    V.has m ∧ (Instr.indexAt t v (.int k n)).run P w = .ok (.pointer (some ⟨V.blk m, n.toNat * e.size + 0, none⟩)) w := by
  rcases hr with ⟨_, _, rfl⟩ | ⟨hh, cap, vals, el, rfl, _⟩
  · omega
  · refine ⟨hh, ?_⟩
    rw [run_indexAt hT he _ _ _ _ _ h0 h1, add_mk, unG_size]
    simp

theorem qindexS_run (hT : TabOk P T) (hl : LkOk V hp lk w) {t : TypeId} {x i : C} {r : QR} {v u : Value} (h : qindexS T lk t x i = some r) (hob : ∀ p, r.ob = some p → p) (hx : C.ok V hp w x v) (hi : C.ok V hp w i u) :
    PureRun P V hp w r (Instr.indexAt t v u) := by
  unfold qindexS at h
  split at h
  · rename_i e' fr e xs k n he
    split at h
    · rename_i hee
      subst hee
      injection h with h; subst h
      obtain ⟨h0, h1⟩ := hob _ rfl
      obtain ⟨rfl, _⟩ := ok_int hi
      obtain ⟨a, cap, hv, h2, h3, h4⟩ := hx
      simp only [List.cons.injEq, and_true] at hv
      subst hv
      have hlt : n.toNat < xs.length := by omega
      obtain ⟨ad, rfl, h5, h6, es, h7, h8, h9⟩ := h4 n.toNat hlt
      obtain ⟨b, o, sp⟩ := ad
      simp only at h5
      subst h5
      refine ⟨rfl, rfl, _, run_indexAt hT he _ _ _ _ _ h0 h1, b, o + n.toNat * e.size, by rw [add_mk, unG_size]; rfl, h6, es, h7, h8, ?_⟩
      rw [getD_lt _ hlt]
      exact h9
    · cases h
  · rename_i e' fr wh e b0 xs k n he
    split at h
    · rename_i hee
      subst hee
      injection h with h; subst h
      obtain ⟨h0, h1⟩ := hob _ rfl
      obtain ⟨rfl, _⟩ := ok_int hi
      obtain ⟨a, cap, hv, h2, h3, h4⟩ := gs_sl hx
      simp only [List.cons.injEq, and_true] at hv
      subst hv
      have hlt : n.toNat < xs.length := by omega
      obtain ⟨ad, rfl, h5, h6, es, h7, h8, h9⟩ := h4 n.toNat hlt
      obtain ⟨b, o, sp⟩ := ad
      simp only at h5
      subst h5
      refine ⟨rfl, rfl, _, run_indexAt hT he _ _ _ _ _ h0 h1, b, o + n.toNat * e.size, by rw [add_mk, unG_size]; rfl, h6, es, h7, h8, ?_⟩
      rw [getD_lt _ hlt]
      exact h9
    · cases h
  · rename_i e' m k n he
    split at h
    · rename_i fr e xs hm
      split at h
      · rename_i hee
        subst hee
        injection h with h; subst h
        obtain ⟨h0, h1⟩ := hob _ rfl
        obtain ⟨rfl, _⟩ := ok_int hi
        obtain ⟨fr', e2, xs', h2, h3⟩ := hx
        obtain ⟨e1, _⟩ := hl m (by rw [hm]; rfl)
        rw [← e1, hm] at h2
        injection h2 with e3 e4 e5
        subst e3; subst e4; cases e5
        obtain ⟨h4, h5⟩ := hasRow_index (k := k) hT he h3 h0 h1
        exact ⟨rfl, rfl, _, h5, h4, fr, e, xs, by rw [← e1]; exact hm, by omega, rfl⟩
      · cases h
    · cases h
  · rename_i e' m hh k n he
    split at h
    · rename_i fr e xs hm
      split at h
      · rename_i hee
        subst hee
        injection h with h; subst h
        obtain ⟨h0, h1⟩ := hob _ rfl
        obtain ⟨rfl, _⟩ := ok_int hi
        obtain ⟨fr', e2, xs', h2, h6, h3⟩ := hx
        obtain ⟨e1, _⟩ := hl m (by rw [hm]; rfl)
        rw [← e1, hm] at h2
        injection h2 with e3 e4 e5
        subst e3; subst e4; cases e5
        obtain ⟨h4, h5⟩ := hasRow_index (k := k) hT he h3 h0 h1
        exact ⟨rfl, rfl, _, h5, h4, fr, e, xs, by rw [← e1]; exact hm, by omega, rfl⟩
      · cases h
    · cases h
  · cases h

theorem qindexA_run (hT : TabOk P T) (hl : LkOk V hp lk w) {t : TypeId} {m i0 : Nat} {kk : IntKind} {k : Int} {r : QR} {v : Value} (h : qindexA T lk t m i0 k = some r) (hob : ∀ p, r.ob = some p → p) (hx : C.ok V hp w (.elt m i0 0) v) :
    PureRun P V hp w r (Instr.indexAt t v (.int kk k)) := by
  unfold qindexA at h
  split at h
  · rename_i len te es n ety sz by' z ty teq ht
    split at h
    · rename_i fr e xs hm
      split at h
      · rename_i hee
        subst hee
        injection h with h; subst h
        obtain ⟨h0, h1, h2⟩ := hob _ rfl
        obtain ⟨_, a1, ⟨i, a2, a3⟩, a4, a5, a6, a7, a8⟩ := ti_arr (hT t _ ht) rfl
        obtain ⟨hh, fr', e2, xs', g1, g2, rfl⟩ := hx
        obtain ⟨e1, _⟩ := hl m (by rw [hm]; rfl)
        have hlk : hp m = .row fr e xs := by rw [← e1]; exact hm
        rw [hlk] at g1
        injection g1 with g3 g4 g5
        subst g3; subst g4; cases g5
        have hstep : es / e.size * e.size = es := by
          have := Nat.div_add_mod es e.size
          rw [a7, Nat.add_zero, Nat.mul_comm] at this
          exact this
        have hpos : 0 < es := by
          rcases Nat.eq_zero_or_pos es with h3 | h3
          · exfalso
            rw [h3, Nat.mul_zero] at a6
            have := e.size_pos
            rcases Nat.mul_eq_zero.1 a6 with h4 | h4 <;> omega
          · exact h3
        have hd : 1 ≤ es / e.size := by
          rcases Nat.eq_zero_or_pos (es / e.size) with h3 | h3
          · rw [h3, Nat.zero_mul] at hstep; omega
          · exact h3
        refine ⟨rfl, rfl, .pointer (some ⟨V.blk m, (i0 + k.toNat * (es / e.size)) * e.size + 0, none⟩), ?_, hh, fr, e, xs, hlk, ?_, rfl⟩
        · simp only [Instr.indexAt, asIntOf, Sem.run_bind, Sem.run_pure, Result.andThen_ok, run_underlying a1, Instr.sureAddr]
          rw [if_pos ⟨h0, h1⟩]
          simp only [Sem.run_bind, run_sizeOf a2, a3, Result.andThen_ok, Sem.run_pure, add_mk]
          have hoff : i0 * e.size + 0 + k.toNat * es = (i0 + k.toNat * (es / e.size)) * e.size + 0 := by rw [Nat.add_mul, Nat.mul_assoc, hstep]; omega
          rw [hoff]
        · rw [Nat.add_mul, Nat.one_mul] at h2
          omega
      · cases h
    · cases h
  · cases h

theorem qindexAddr_run (hT : TabOk P T) (hl : LkOk V hp lk w) {t : TypeId} {x i : C} {r : QR} {v u : Value} (h : qindexAddr T lk t x i = some r) (hob : ∀ p, r.ob = some p → p) (hx : C.ok V hp w x v) (hi : C.ok V hp w i u) :
    PureRun P V hp w r (Instr.indexAt t v u) := by
  unfold qindexAddr at h
  split at h
  · obtain ⟨rfl, _⟩ := ok_int hi
    exact qindexA_run hT hl h hob hx
  · exact qindexS_run hT hl h hob hx hi

end
end Go.SX


/- Cuts, composites, lengths. No condition. -/
namespace Go.SX
open Go.RowKit
set_option linter.unusedVariables false
set_option linter.unusedSimpArgs false

section
variable {P : Program} {T : Tab} {V : Vl} {hp lk : Nat → Ent} {w : World}

/-- A cut of a slice that is read. -/
theorem cut_rd {Z : Nat → Prop} {e : Ty} {v : Value} {xs : List e.den} (h : RdC Z w (.sl e) [v] xs) {l h' : Nat} (h0 : l ≤ h') (h1 : h' ≤ xs.length) :
    ∃ a cap, v = .slice a xs.length cap ∧ xs.length ≤ cap ∧ RdC Z w (.sl e) [.slice (if cap = l then a else a.map (·.add (l * e.size))) (h' - l) (cap - l)] ((xs.take h').drop l) := by
  obtain ⟨a, cap, hv, h2, h3, h4⟩ := h
  simp only [List.cons.injEq, and_true] at hv
  have hlen : ((xs.take h').drop l).length = h' - l := by rw [List.length_drop, List.length_take]; omega
  refine ⟨a, cap, hv, h2, _, cap - l, by rw [hlen], by rw [hlen]; omega, by rw [hlen]; omega, fun i hi => ?_⟩
  rw [hlen] at hi
  obtain ⟨ad, rfl, h5, h6, es, h7, h8, h9⟩ := h4 (l + i) (by omega)
  obtain ⟨b, o, sp⟩ := ad
  simp only at h5
  subst h5
  rw [if_neg (by omega)]
  refine ⟨⟨b, o + l * e.size, none⟩, by rw [Option.map_some, add_mk], rfl, h6, es, h7, ?_, ?_⟩
  · rw [Nat.add_mul] at h8
    rw [Nat.add_assoc]; exact h8
  · simp only [List.getElem_drop, List.getElem_take]
    exact h9

/-- The run of a cut. -/
theorem run_cut (hT : TabOk P T) {t : TypeId} {e : Ty} (he : elemTy T t = some e) (a : Option Addr) (len cap : Nat) (lo hi : Option Value) {l h' : Nat}
    (hl : lo = none ∧ l = 0 ∨ ∃ k, lo = some (.int k (l : Int))) (hh : hi = none ∧ h' = len ∨ ∃ k, hi = some (.int k (h' : Int))) (h0 : l ≤ h') (h1 : h' ≤ cap) :
    (Instr.sliceAt t (.slice a len cap) lo hi none).run P w = .ok (.slice (if cap = l then a else a.map (·.add (l * e.size))) (h' - l) (cap - l)) w := by
  obtain ⟨te, i, z, h2, h3, h4, _⟩ := elemTy_ok hT he
  have c1 : (h' : Int) ≤ (cap : Int) := by omega
  have c2 : (l : Int) ≤ (h' : Int) := by omega
  have c3 : (0 : Int) ≤ (h' : Int) := by omega
  have c4 : (0 : Int) ≤ (l : Int) := by omega
  rcases hl with ⟨rfl, rfl⟩ | ⟨k, rfl⟩ <;> rcases hh with ⟨rfl, rfl⟩ | ⟨k', rfl⟩ <;>
    simp [Instr.sliceAt, Instr.slice, Instr.sliceBounds, Instr.sliceBound, run_underlying h2, asIntOf, run_sizeOf h3, h4, c1, c2, c3, c4, h0, h1] <;> first | done | (intros; omega) | omega

theorem boundC_ok {dft : Int} {o : Option S} {n : Int} (h : boundC dft o = some n) {ov : Option Value} (ho : ∀ s v, o = some s → ov = some v → S.ok V hp w s v) (hov : o = none ↔ ov = none) :
    (o = none ∧ ov = none ∧ n = dft) ∨ (∃ k, ov = some (.int k n)) := by
  unfold boundC at h
  split at h
  · injection h with h; exact .inl ⟨rfl, hov.1 rfl, h.symm⟩
  · rename_i k m
    injection h with h; subst h
    cases ov with
    | none => exact absurd (hov.2 rfl) (by simp)
    | some v => exact .inr ⟨k, by rw [(ok_int (V := V) (hp := hp) (w := w) (ho _ _ rfl rfl)).1]⟩
  · cases h

theorem hasRow_cap {m h : Nat} {e : Ty} {v : Value} (hr : hasRow V w m e h v) : ∃ a cap, v = .slice a h cap ∧ h ≤ cap ∧ ∀ h', h' ≤ h → hasRow V w m e h' (.slice (if cap = 0 then a else a.map (·.add (0 * e.size))) (h' - 0) (cap - 0)) := by
  rcases hr with ⟨h1, rfl, rfl⟩ | ⟨h1, cap, vals, el, rfl, h3, h4, h5⟩
  · exact ⟨none, 0, rfl, Nat.le_refl _, fun h' hh => by have : h' = 0 := by omega
                                                        subst this; exact .inl ⟨h1, rfl, rfl⟩⟩
  · refine ⟨_, cap, rfl, h5, fun h' hh => .inr ⟨h1, cap, vals, el, ?_, h3, h4, by omega⟩⟩
    have : (if cap = 0 then (some ⟨V.blk m, 0, none⟩ : Option Addr) else (some (⟨V.blk m, 0, none⟩ : Addr)).map (·.add (0 * e.size))) = some ⟨V.blk m, 0, none⟩ := by
      split
      · rfl
      · simp [Addr.add]
    rw [this]; simp

theorem qslice_run (hT : TabOk P T) (hl : LkOk V hp lk w) {t : TypeId} {x : C} {lo hi : Option S} {r : QR} {v : Value} {lv hv : Option Value} (h : qslice T lk t x lo hi = some r) (hob : ∀ p, r.ob = some p → p) (hx : C.ok V hp w x v)
    (hlo : ∀ s v, lo = some s → lv = some v → S.ok V hp w s v) (hlo' : lo = none ↔ lv = none) (hhi : ∀ s v, hi = some s → hv = some v → S.ok V hp w s v) (hhi' : hi = none ↔ hv = none) :
    PureRun P V hp w r (Instr.sliceAt t v lv hv none) := by
  have mk : ∀ {n : Int} {m : Nat} {o : Option S} {ov : Option Value} {d : Nat}, (o = none ∧ ov = none ∧ n = (d : Int)) ∨ (∃ k, ov = some (.int k n)) → 0 ≤ n → m = n.toNat → (ov = none ∧ m = d ∨ ∃ k, ov = some (.int k (m : Int))) := by
    intro n m o ov d hc h0 hm
    rcases hc with ⟨_, h1, h2⟩ | ⟨k, h1⟩
    · exact .inl ⟨h1, by omega⟩
    · exact .inr ⟨k, by rw [h1, hm, Int.toNat_of_nonneg h0]⟩
  unfold qslice at h
  split at h
  · rename_i e' fr e xs he
    split at h
    · rename_i l h' hbl hbh
      split at h
      · rename_i hee
        subst hee
        injection h with h; subst h
        obtain ⟨h0, h1, h2⟩ := hob _ rfl
        have bl := boundC_ok (V := V) (hp := hp) (w := w) hbl hlo hlo'
        have bh := boundC_ok (V := V) (hp := hp) (w := w) hbh hhi hhi'
        obtain ⟨a, cap, rfl, h3, h4⟩ := cut_rd (l := l.toNat) (h' := h'.toNat) hx (by omega) (by omega)
        have hrun := run_cut (P := P) (w := w) (l := l.toNat) (h' := h'.toNat) hT he a _ cap lv hv (mk (d := 0) bl h0 rfl) (mk (d := xs.length) bh (by omega) rfl) (by omega) (by omega)
        rw [unG_size] at hrun
        exact ⟨rfl, rfl, _, hrun, h4⟩
      · cases h
    · cases h
  · rename_i e' fr wh e b0 xs he
    split at h
    · rename_i l h' hbl hbh
      split at h
      · rename_i hee
        subst hee
        injection h with h; subst h
        obtain ⟨h0, h1, h2⟩ := hob _ rfl
        have bl := boundC_ok (V := V) (hp := hp) (w := w) hbl hlo hlo'
        have bh := boundC_ok (V := V) (hp := hp) (w := w) hbh hhi hhi'
        have hx1 : RdC (V.Z fr) w (.sl e) [v] xs := hx.1
        obtain ⟨a, cap, rfl, h3, h4⟩ := cut_rd (l := l.toNat) (h' := h'.toNat) hx1 (by omega) (by omega)
        have hrun := run_cut (P := P) (w := w) (l := l.toNat) (h' := h'.toNat) hT he a _ cap lv hv (mk (d := 0) bl h0 rfl) (mk (d := xs.length) bh (by omega) rfl) (by omega) (by omega)
        rw [unG_size] at hrun
        exact ⟨rfl, rfl, _, hrun, h4⟩
      · cases h
    · cases h
  · rename_i e' m he
    split at h
    · rename_i fr e xs hm
      obtain ⟨e1, e2⟩ := hl m (by rw [hm]; rfl)
      obtain ⟨fr', e3, xs', k2, k3⟩ := hx
      rw [← e1, hm] at k2
      injection k2 with g3 g4 g5
      subst g3; subst g4; cases g5
      rw [hm] at e2
      split at h
      · rename_i h' hbh
        split at h
        · rename_i hee
          subst hee
          injection h with h; subst h
          obtain ⟨h0, h1⟩ := hob _ rfl
          have bh := boundC_ok (V := V) (hp := hp) (w := w) hbh hhi hhi'
          have hlv : lv = none := hlo'.1 rfl
          obtain ⟨a, cap, rfl, h3, h4⟩ := hasRow_cap k3
          have hrun := run_cut (P := P) (w := w) (l := 0) (h' := h'.toNat) hT he a _ cap lv hv (.inl ⟨hlv, rfl⟩) (mk (d := xs.length) bh h0 rfl) (by omega) (by omega)
          rw [unG_size] at hrun
          refine ⟨rfl, rfl, _, hrun, fr, e, xs, by rw [← e1]; exact hm, by omega, h4 _ (by omega)⟩
        · cases h
      · rename_i lo' h' hbh
        split at h
        · rename_i l hbl
          split at h
          · rename_i hee
            subst hee
            injection h with h; subst h
            obtain ⟨h0, h1, h2⟩ := hob _ rfl
            have bl := boundC_ok (V := V) (hp := hp) (w := w) hbl hlo hlo'
            have bh := boundC_ok (V := V) (hp := hp) (w := w) hbh hhi hhi'
            have hrd := row_rd e2 k3 (Nat.le_refl _)
            rw [List.take_length] at hrd
            obtain ⟨a, cap, rfl, h3, h4⟩ := cut_rd (l := l.toNat) (h' := h'.toNat) hrd (by omega) (by omega)
            have hrun := run_cut (P := P) (w := w) (l := l.toNat) (h' := h'.toNat) hT he a _ cap lv hv (mk (d := 0) bl h0 rfl) (mk (d := xs.length) bh (by omega) rfl) (by omega) (by omega)
            rw [unG_size] at hrun
            refine ⟨rfl, rfl, _, hrun, ⟨fr, e, xs, by rw [← e1]; exact hm⟩, ?_⟩
            exact h4.mono (fun b hb => hb.elim (fun h => .inl (Vl.Z_all h)) .inr) (fun _ _ => rfl)
          · cases h
        · cases h
      · cases h
    · cases h
  · rename_i e' m k he
    split at h
    · rename_i fr e xs hm
      obtain ⟨e1, e2⟩ := hl m (by rw [hm]; rfl)
      obtain ⟨fr', e3, xs', k2, k3, k4⟩ := hx
      rw [← e1, hm] at k2
      injection k2 with g3 g4 g5
      subst g3; subst g4; cases g5
      rw [hm] at e2
      split at h
      · rename_i h' hbh
        split at h
        · rename_i hee
          subst hee
          injection h with h; subst h
          obtain ⟨h0, h1⟩ := hob _ rfl
          have bh := boundC_ok (V := V) (hp := hp) (w := w) hbh hhi hhi'
          have hlv : lv = none := hlo'.1 rfl
          obtain ⟨a, cap, rfl, h3, h4⟩ := hasRow_cap k4
          have hrun := run_cut (P := P) (w := w) (l := 0) (h' := h'.toNat) hT he a _ cap lv hv (.inl ⟨hlv, rfl⟩) (mk (d := k) bh h0 rfl) (by omega) (by omega)
          rw [unG_size] at hrun
          refine ⟨rfl, rfl, _, hrun, fr, e, xs, by rw [← e1]; exact hm, by omega, h4 _ (by omega)⟩
        · cases h
      · cases h
    · cases h
  · cases h

theorem len_bound {n : Nat} (h : n ≤ lenMax) : IntKind.i64.min ≤ (n : Int) ∧ (n : Int) ≤ IntKind.i64.max := by
  have h1 : IntKind.i64.min = -9223372036854775808 := by decide
  have h2 : IntKind.i64.max = 9223372036854775807 := by decide
  rw [h1, h2]
  unfold lenMax at h
  omega

theorem rd_len {Z : Nat → Prop} {e : Ty} {v : Value} {xs : List e.den} (h : RdC Z w (.sl e) [v] xs) : ∃ a cap, v = .slice a xs.length cap ∧ xs.length ≤ lenMax := by
  obtain ⟨a, cap, hv, h2, h3, h4⟩ := h
  simp only [List.cons.injEq, and_true] at hv
  exact ⟨a, cap, hv, h3⟩

theorem row_len (he : ∀ n, (hp n).ok V hp w n) {m h : Nat} {fr : Bool} {e : Ty} {xs : List e.den} {v : Value} (hm : hp m = .row fr e xs) (hr : hasRow V w m e h v) (hh : h ≤ xs.length) : ∃ a cap, v = .slice a h cap ∧ h ≤ lenMax := by
  have h1 := he m
  rw [hm] at h1
  rcases hr with ⟨_, rfl, rfl⟩ | ⟨k1, cap, vals, el, rfl, k3, k4, k5⟩
  · exact ⟨none, 0, rfl, Nat.zero_le _⟩
  · rcases h1 with ⟨g1, _⟩ | ⟨_, vals', el', g2, g3, _⟩
    · exact absurd k1 g1
    · exact ⟨_, cap, rfl, by omega⟩

theorem lenC_ok (he : ∀ n, (hp n).ok V hp w n) (hl : LkOk V hp lk w) {x : C} {n : Int} {v : Value} (h : lenC lk x = some n) (hx : C.ok V hp w x v) : ∃ a k cap, v = .slice a k cap ∧ n = (k : Int) ∧ k ≤ lenMax := by
  unfold lenC at h
  split at h
  · injection h with h; subst h
    obtain ⟨a, cap, h1, h2⟩ := rd_len hx
    exact ⟨a, _, cap, h1, rfl, h2⟩
  · injection h with h; subst h
    obtain ⟨a, cap, h1, h2⟩ := rd_len hx.2
    exact ⟨a, _, cap, h1, rfl, h2⟩
  · rename_i m
    split at h
    · rename_i fr e xs hm
      injection h with h; subst h
      obtain ⟨fr', e', xs', h1, h2⟩ := hx
      obtain ⟨e1, _⟩ := hl m (by rw [hm]; rfl)
      rw [← e1, hm] at h1
      injection h1 with g3 g4 g5
      subst g3; subst g4; cases g5
      obtain ⟨a, cap, h3, h4⟩ := row_len he (e1.symm.trans hm) h2 (Nat.le_refl _)
      exact ⟨a, _, cap, h3, rfl, h4⟩
    · cases h
  · rename_i m k
    injection h with h; subst h
    obtain ⟨fr', e', xs', h1, h3, h2⟩ := hx
    obtain ⟨a, cap, h5, h4⟩ := row_len he h1 h2 h3
    exact ⟨a, _, cap, h5, rfl, h4⟩
  · injection h with h; subst h
    obtain ⟨a, cap, h1, h2⟩ := rd_len (gs_sl hx)
    exact ⟨a, _, cap, h1, rfl, h2⟩
  · injection h with h; subst h
    rw [hx.1]
    exact ⟨none, 0, 0, rfl, rfl, Nat.zero_le _⟩
  · cases h

theorem lenT_run (hT : TabOk P T) (he : ∀ n, (hp n).ok V hp w n) (hl : LkOk V hp lk w) {t ty : TypeId} {x : C} {n : Int} {v : Value} (h : lenT T lk t x = some n) (hx : C.ok V hp w x v) :
    (Builtin.len_ #[t] ty #[v]).run P w = .ok (.int .i64 n) w ∧ IntKind.i64.min ≤ n ∧ n ≤ IntKind.i64.max := by
  unfold lenT at h
  split at h
  · rename_i sz by' z ty' teq s heq
    injection h with h; subst h
    have hk := (ti_ok (hT t _ heq)).2.2
    have hu : P.underlying t = some .string := by
      unfold kindB at hk
      simp only at hk
      split at hk
      · assumption
      · cases hk
    obtain ⟨rfl, hs⟩ := hx
    refine ⟨by simp [Builtin.len_, run_underlying hu, goInt], ?_⟩
    have h1 : IntKind.i64.min = -9223372036854775808 := by decide
    have h2 : IntKind.i64.max = 9223372036854775807 := by decide
    have h3 : s.size ≤ maxLen := hs
    unfold maxLen at h3
    rw [h1, h2]
    omega
  · rename_i e es eb ety sz by' z ty' teq heq
    obtain ⟨hu, _⟩ := slice_ok (ti_ok (hT t _ heq)).2.2
    obtain ⟨a, k, cap, rfl, rfl, hk⟩ := lenC_ok he hl h hx
    exact ⟨by simp [Builtin.len_, run_underlying hu, goInt], len_bound hk⟩
  · cases h

theorem equal_bool {t : TypeId} (ht : Program.underlying P t = some .bool) (a b : Bool) (w : World) : (Op.equal t (.bool a) (.bool b)).run P w = .ok (a == b) w := by
  unfold Op.equal Op.maxDepth
  rw [Op.equalIn]
  rw [Sem.run_bind, run_underlying ht, Result.andThen_ok]
  rfl

theorem bytes_beq (a b : ByteArray) : (a.toList == b.toList) = decide (a = b) := by
  rw [ByteArray.toList_eq, ByteArray.toList_eq]
  by_cases h : a = b
  · subst h; simp
  · rw [decide_eq_false h]
    have : ¬ a.data.toList = b.data.toList := fun e => h (by
      cases a; cases b
      simp only [ByteArray.mk.injEq]
      exact Array.toList_inj.1 e)
    simpa using this

theorem qbinT_run (hT : TabOk P T) {t : TypeId} {op : BinOp} {x y : C} {r : QR} {u v : Value} (h : qbinT T t op x y = some r) (hob : ∀ p, r.ob = some p → p) (hx : C.ok V hp w x u) (hy : C.ok V hp w y v) (ox oy : Operand) :
    PureRun P V hp w r (do eqGuard op t ox oy u v; binOp op t u v) := by
  unfold qbinT at h
  split at h
  · rename_i r' hr
    injection h with h; subst h
    exact qbin_run hr hob hx hy t ox oy
  · split at h
    · rename_i a b ht ha hb hz
      injection h with h; subst h
      have e1 := (boolOf_ok (by assumption) hx : u = .bool _)
      have e2 := (boolOf_ok (by assumption) hy : v = .bool _)
      subst e1; subst e2
      have hk := (ti_ok (hT t _ (by assumption))).2.2
      have hu : Program.underlying P t = some .bool := by
        unfold kindB at hk
        simp only at hk
        split at hk <;> first | assumption | cases hk
      exact ⟨rfl, rfl, .bool (a == b), by simp [eqGuard, binOp, equal_bool hu], rfl, trivial⟩
    · rename_i a b ht ha hb hz
      injection h with h; subst h
      have e1 := (boolOf_ok (by assumption) hx : u = .bool _)
      have e2 := (boolOf_ok (by assumption) hy : v = .bool _)
      subst e1; subst e2
      have hk := (ti_ok (hT t _ (by assumption))).2.2
      have hu : Program.underlying P t = some .bool := by
        unfold kindB at hk
        simp only at hk
        split at hk <;> first | assumption | cases hk
      exact ⟨rfl, rfl, .bool (!(a == b)), by simp [eqGuard, binOp, equal_bool hu], rfl, trivial⟩
    · split at h
      · rename_i sa sb g1 g2 g3 g4 g5 g6
        injection h with h; subst h
        obtain ⟨e1, _⟩ := rdStr_ok (V := V) (hp := hp) (w := w) (by assumption) hx
        obtain ⟨e2, _⟩ := rdStr_ok (V := V) (hp := hp) (w := w) (by assumption) hy
        subst e1; subst e2
        exact ⟨rfl, rfl, .bool (decide (sa = sb)), by simp only [eqGuard, binOp, Op.stringOp, bytes_beq]; rfl, rfl, trivial⟩
      · rename_i sa sb g1 g2 g3 g4 g5 g6
        injection h with h; subst h
        obtain ⟨e1, _⟩ := rdStr_ok (V := V) (hp := hp) (w := w) (by assumption) hx
        obtain ⟨e2, _⟩ := rdStr_ok (V := V) (hp := hp) (w := w) (by assumption) hy
        subst e1; subst e2
        exact ⟨rfl, rfl, .bool (!decide (sa = sb)), by simp only [eqGuard, binOp, Op.stringOp, bytes_beq]; rfl, rfl, trivial⟩
      · cases h

theorem eqFlds_run {us vs : Array Value} (d : Nat) : ∀ (fs : List Field) (o : Nat) (ks : List Bool) (xs ys : List C) (b : Bool), eqFldB P o fs ks = true → eqCs ks xs ys = some b →
    (∀ (j : Nat) c, xs[j]? = some c → ∃ u, us[o + j]? = some u ∧ C.ok V hp w c u) → (∀ (j : Nat) c, ys[j]? = some c → ∃ u, vs[o + j]? = some u ∧ C.ok V hp w c u) →
    (Op.eqFields (d + 1) us vs fs).run P w = .ok b w := by
  intro fs
  induction fs with
  | nil =>
    intro o ks xs ys b h hq _ _
    cases ks with
    | nil =>
      unfold eqCs at hq
      split at hq <;> first | (rename_i h0 _ _; cases h0; done) | (rename_i h0; cases h0; done) | skip
      · injection hq with hq; subst hq; rfl
      all_goals first | (cases hq; done) | (simp_all; done)
    | cons k ks => cases h
  | cons f fs ih =>
    intro o ks xs ys b h hq hx hy
    cases ks with
    | nil => cases h
    | cons k ks =>
      unfold eqFldB at h
      simp only [Bool.and_eq_true, bne_iff_ne, ne_eq, beq_iff_eq] at h
      obtain ⟨⟨⟨h1, h2⟩, h3⟩, h4⟩ := h
      have get : ∀ {zs : List C} {ws : Array Value} {z : C} {zr : List C}, zs = z :: zr → (∀ (j : Nat) c, zs[j]? = some c → ∃ u, ws[o + j]? = some u ∧ C.ok V hp w c u) →
          (∃ u, ws[f.offset]? = some u ∧ C.ok V hp w z u) ∧ ∀ (j : Nat) c, zr[j]? = some c → ∃ u, ws[o + 1 + j]? = some u ∧ C.ok V hp w c u := by
        intro zs ws z zr e hz
        subst e
        refine ⟨by rw [h2]; exact hz 0 z rfl, fun j c hj => ?_⟩
        obtain ⟨u, e1, e2⟩ := hz (j + 1) c (by simpa using hj)
        exact ⟨u, by rw [← e1]; congr 1; omega, e2⟩
      have hpart : ∀ {ws : Array Value} {u : Value}, ws[f.offset]? = some u → (part f.type ws f.offset).run P w = .ok u w := by
        intro ws u hu
        split at h3
        · rename_i hf; simp [part, run_isAgg hf, hu, descAgg]
        · rename_i hf; simp [part, run_isAgg hf, hu, descAgg]
        · cases h3
      unfold eqCs at hq
      split at hq
      · rename_i h0; cases h0
      · rename_i ks' kk a xs' kk' b' ys' e1
        injection e1 with e1 e1'
        subst e1; subst e1'; 
        split at hq
        · rename_i hk
          subst hk
          rw [omap_eq] at hq
          cases hr : eqCs ks xs' ys' with
          | none => rw [hr] at hq; cases hq
          | some r =>
            rw [hr] at hq
            injection hq with hq
            obtain ⟨⟨u, g1, g2⟩, g3⟩ := get rfl hx
            obtain ⟨⟨v, g4, g5⟩, g6⟩ := get rfl hy
            obtain ⟨rfl, _⟩ := ok_int g2
            obtain ⟨rfl, _⟩ := ok_int g5
            have hrec := ih (o + 1) ks xs' ys' r h4 hr g3 g6
            have hu : ∃ k, P.underlying f.type = some (.int k) := by
              split at h3
              · exact ⟨_, ‹_›⟩
              · cases h3
              · cases h3
            obtain ⟨k0, hu⟩ := hu
            simp only [Op.eqFields]
            rw [if_pos h1]
            simp only [Sem.run_bind, hpart g1, hpart g4, Result.andThen_ok, Op.equalIn, run_underlying hu, if_true, Sem.run_pure, Sem.run_ite]
            subst hq
            by_cases hab : a = b'
            · simp [hab, hrec]
            · simp [hab]
        · cases hq
      · rename_i ks' x xs' y ys' e1
        injection e1 with e1 e1'
        subst e1; subst e1'
        split at hq
        · rename_i a b' ha hb
          rw [omap_eq] at hq
          cases hr : eqCs ks xs' ys' with
          | none => rw [hr] at hq; cases hq
          | some r =>
            rw [hr] at hq
            injection hq with hq
            obtain ⟨⟨u, g1, g2⟩, g3⟩ := get rfl hx
            obtain ⟨⟨v, g4, g5⟩, g6⟩ := get rfl hy
            obtain rfl := boolOf_ok ha g2
            obtain rfl := boolOf_ok hb g5
            have hrec := ih (o + 1) ks xs' ys' r h4 hr g3 g6
            have hu : P.underlying f.type = some .bool := by
              split at h3
              · cases h3
              · assumption
              · cases h3
            simp only [Op.eqFields]
            rw [if_pos h1]
            simp only [Sem.run_bind, hpart g1, hpart g4, Result.andThen_ok, Op.equalIn, run_underlying hu, Sem.run_pure, Sem.run_ite]
            subst hq
            by_cases hab : a = b'
            · simp [hab, hrec]
            · simp [hab]
        · cases hq
      · cases hq

theorem qbinA_run (hT : TabOk P T) {t : TypeId} {op : BinOp} {xs ys : List C} {r : QR} {us vs : Array Value} (h : qbinA T t op xs ys = some r) (hx : okAll V hp w xs us.toList) (hy : okAll V hp w ys vs.toList) (ox oy : Operand) :
    PureRun P V hp w r (do eqGuard op t ox oy (.agg us) (.agg vs); binOp op t (.agg us) (.agg vs)) := by
  unfold qbinA at h
  rw [obind_eq] at h
  cases ht : T t with
  | none => rw [ht] at h; cases h
  | some ti =>
    rw [ht] at h
    simp only [Option.bind_some] at h
    cases hk : ti.eq with
    | none => rw [hk] at h; cases h
    | some ks =>
      rw [hk] at h
      simp only at h
      have he := ti_eq (hT t _ ht) hk
      unfold eqB at he
      split at he
      · rename_i fs hu
        simp only [Bool.and_eq_true, Bool.not_eq_true'] at he
        obtain ⟨⟨h1, h2⟩, h3⟩ := he
        have hfo : P.fieldsOf t = fs := by unfold Program.fieldsOf; rw [hu]
        have each : ∀ {zs : List C} {ws : Array Value}, okAll V hp w zs ws.toList → ∀ (j : Nat) c, zs[j]? = some c → ∃ u, ws[0 + j]? = some u ∧ C.ok V hp w c u := by
          intro zs ws ho j c hj
          have hlt := (List.getElem?_eq_some_iff.1 hj).1
          have hlt' : j < ws.size := by have := ho.1; simp at this; omega
          have hv : ws[j]? = some ws[j] := Array.getElem?_eq_getElem hlt'
          exact ⟨ws[j], by rw [Nat.zero_add]; exact hv, ho.2 j c _ hj (by simp)⟩
        have key : ∀ b, eqCs ks xs ys = some b → (Op.equalIn 10000 t (.agg us) (.agg vs)).run P w = .ok b w := by
          intro b hb
          rw [show (10000 : Nat) = 9999 + 1 from rfl, run_equalIn_agg w 9999 t us vs (by rw [hfo]; exact hu) h1, hfo]
          exact eqFlds_run 9998 fs.toList 0 ks xs ys b h3 hb (each hx) (each hy)
        split at h
        · rename_i b hb
          injection h with h; subst h
          exact ⟨rfl, rfl, .bool b, by rw [Sem.run_bind, run_eqGuard_agg w _ t ox oy us vs h2, Result.andThen_ok, run_eql_struct, key b hb]; rfl, rfl, trivial⟩
        · rename_i b hb
          injection h with h; subst h
          exact ⟨rfl, rfl, .bool (!b), by rw [Sem.run_bind, run_eqGuard_agg w _ t ox oy us vs h2, Result.andThen_ok, run_neq_struct, key b hb]; rfl, rfl, trivial⟩
        · cases h
      · cases he

theorem zeros_len : ∀ e : Ty, e.zeros.length = e.size
  | .int _ => rfl
  | .bool => rfl
  | .str => rfl
  | .sl _ => rfl
  | .st t => zeros_len t
  | .pr a b => by
    show (a.zeros ++ b.zeros).length = a.size + b.size
    rw [List.length_append, zeros_len a, zeros_len b]
  | .ptr _ => rfl
  | .clo _ _ => rfl
  | .gs _ _ => rfl

theorem made_get (z : Array Value) (n k : Nat) (h : k < n) : (madeCells z n)[k]? = some z[k % z.size]! := by
  unfold madeCells
  rw [Array.getElem?_map]
  have : (Array.range n)[k]? = some k := by rw [Array.getElem?_range]; simp [h]
  rw [this]; rfl

theorem qmakeSlice_run (hT : TabOk P T) {base : Nat} {M : LM} {w0 : World} (m : Mem base M w0 V hp w) {nx : Nat} (hd : hp nx = .dead) {t : TypeId} {l c : C} {r : QR} {u v : Value} (h : qmakeSlice T nx t l c = some r) (hob : ∀ p, r.ob = some p → p)
    (hu : C.ok V hp w l u) (hv : C.ok V hp w c v) : ∃ x w' V', (Instr.makeSlice t u v).run P w = .ok x w' ∧ Good base M w0 V hp w nx r.res r.new r.hy x w' V' := by
  unfold qmakeSlice at h
  split at h
  · rename_i te es eb e sz by' z0 ty' teq n mm heq
    split at h
    · rename_i hb1
      rw [Bool.and_eq_true] at hb1
      obtain ⟨hb1, hpl⟩ := hb1
      replace hb1 := of_decide_eq_true hb1
      injection h with h; subst h
      obtain ⟨h0, h1, h2⟩ := hob _ rfl
      obtain ⟨rfl, _⟩ := ok_int hu
      obtain ⟨rfl, hv2⟩ := ok_int hv
      obtain ⟨g1, g2, i, z, g3, g4, g5, g6, g7⟩ := slice_ok (ti_ok (hT t _ heq)).2.2
      have hb : (i.bytes : Int) * mm ≤ 281474976710656 := by rw [g5, Int.mul_comm]; omega
      have h63 : mm ≤ 9223372036854775807 := hv2.2
      have hm47 : mm ≤ 140737488355328 := by
        have : mm * 1 ≤ mm * (eb : Int) := Int.mul_le_mul_of_nonneg_left (by omega) (by omega)
        omega
      have hrun := run_make (P := P) w t te i z g1 g3 g6 .i64 .i64 n mm h0 h1 hb h63
      rw [g4] at hrun
      have hzs : z.cells.size = e.size := by rw [g7]; simpa using zeros_len e
      obtain ⟨V', hg⟩ := good_alloc m hd (madeCells z.cells (mm.toNat * e.size)) te (.row true e (List.replicate n.toNat e.dflt)) (.c (.own nx)) (.slice (some ⟨w.heap.size, 0, none⟩) n.toNat mm.toNat) (fun h => h)
        (fun V' hp' w' x k1 k2 k3 k4 => by
          constructor
          · refine .inr ⟨k1, _, te, by rw [k2]; exact k4, by rw [List.length_replicate]; unfold lenMax; omega, fun j hj => ?_⟩
            rw [List.length_replicate] at hj
            refine ⟨e.zeros, zeros_len e, fun q u hq => ?_, by rw [List.getElem_replicate]; exact RdC.zero e hpl⟩
            have hq' := (List.getElem?_eq_some_iff.1 hq).1
            rw [zeros_len e] at hq'
            have hlt : j * e.size + q < mm.toNat * e.size := by
              have : (j + 1) * e.size ≤ mm.toNat * e.size := Nat.mul_le_mul_right _ (by omega)
              rw [Nat.add_mul] at this; omega
            rw [made_get _ _ _ hlt, hzs]
            have hmod : (j * e.size + q) % e.size = q := by rw [Nat.mul_comm, Nat.mul_add_mod]; exact Nat.mod_eq_of_lt hq'
            rw [hmod, g7]
            have hq'' : q < e.zeros.length := by rw [zeros_len e]; exact hq'
            rw [List.getElem?_eq_getElem hq''] at hq
            simp only [Option.some.injEq] at hq
            rw [← hq]
            simp [hq'']
          · refine ⟨true, e, _, k3, .inr ⟨k1, mm.toNat, _, te, by rw [k2, List.length_replicate], by rw [k2]; exact k4, size_madeCells _ _, by rw [List.length_replicate]; omega⟩⟩)
      exact ⟨_, _, V', hrun, hg⟩
    · cases h
  · cases h

/-! ### Composites -/

theorem fold_set (off : Nat) : ∀ (l : List Value) (k : Nat) (a : Array Value), off + k + l.length ≤ a.size →
    ((l.zipIdx k).foldl (fun cs (x : Value × Nat) => cs.setIfInBounds (off + x.2) x.1) a).toList = a.toList.take (off + k) ++ l ++ a.toList.drop (off + k + l.length)
  | [], k, a, _ => by simp
  | v :: l, k, a, h => by
    simp only [List.zipIdx_cons, List.foldl_cons]
    rw [fold_set off l (k + 1) _ (by simp at h ⊢; omega)]
    have hlt : off + k < a.toList.length := by simp at h ⊢; omega
    simp only [Array.toList_setIfInBounds, List.length_cons]
    rw [show off + (k + 1) = off + k + 1 by omega, List.take_set, List.drop_set, if_pos (by omega)]
    rw [show off + k + (l.length + 1) = off + k + 1 + l.length by omega]
    have hm : (a.toList.take (off + k)).length = off + k := by rw [List.length_take]; omega
    rw [List.take_succ_eq_append_getElem hlt, List.set_append_right _ _ (by rw [hm]; exact Nat.le_refl _), hm]
    simp

theorem fill_step (place : Nat → Option (Nat × Nat)) (cells : Array Value) (i off size : Nat) (v : Value) (rest : List (Nat × Value)) (hp' : place i = some (off, size)) (h1 : v.cells.size = size) (h2 : off + size ≤ cells.size) :
    Instr.fill place cells ((i, v) :: rest) = Instr.fill place ((cells.toList.take off ++ v.cells.toList ++ cells.toList.drop (off + size)).toArray) rest := by
  have := fold_set off v.cells.toList 0 cells (by simp [h1]; exact h2)
  simp only [Nat.add_zero, Array.length_toList, h1] at this
  have e : v.cells.zipIdx.foldl (fun cs (x : Value × Nat) => cs.setIfInBounds (off + x.2) x.1) cells = (cells.toList.take off ++ v.cells.toList ++ cells.toList.drop (off + size)).toArray := by
    apply Array.ext'
    rw [← this, ← Array.foldl_toList]
    simp [Array.toList_zipIdx]
  rw [← e]
  simp only [Instr.fill, hp']
  rw [if_neg (by simp [h1]; omega)]

theorem cells_ok {s : S} {cs : List C} {v : Value} (h : s.cells = some cs) (ho : S.ok V hp w s v) : okAll V hp w cs v.cells.toList := by
  cases s with
  | c x =>
    simp only [S.cells, Option.some.injEq] at h; subst h
    have h1 := C.oneCell ho
    have : v.cells = #[v] := by cases v <;> first | rfl | (simp [Value.oneCell'] at h1)
    rw [this]
    exact okAll_cons_mk ho okAll_nil
  | agg xs =>
    simp only [S.cells, Option.some.injEq] at h; subst h
    obtain ⟨vs, rfl, h1⟩ := ho
    exact h1
  | _ => cases h

/-- Pairs, part by part. -/
def PartsOk (V : Vl) (hp : Nat → Ent) (w : World) : List (Nat × S) → List (Nat × Value) → Prop
  | [], [] => True
  | p :: ps, q :: qs => p.1 = q.1 ∧ S.ok V hp w p.2 q.2 ∧ PartsOk V hp w ps qs
  | _, _ => False

theorem fillC_ok {fs : List (Nat × Nat × Bool)} {place : Nat → Option (Nat × Nat)} (hpl : ∀ (i : Nat) x, fs[i]? = some x → place i = some (x.1, x.2.1)) :
    ∀ {ps : List (Nat × S)} {qs : List (Nat × Value)} {cs cs' : List C} {cells : Array Value}, fillC fs cs ps = some cs' → PartsOk V hp w ps qs → okAll V hp w cs cells.toList →
      ∃ cells', Instr.fill place cells qs = some cells' ∧ okAll V hp w cs' cells'.toList
  | [], [], cs, cs', cells, h, _, ho => by
    simp only [fillC, Option.some.injEq] at h; subst h
    exact ⟨cells, rfl, ho⟩
  | (i, s) :: ps, (j, v) :: qs, cs, cs', cells, h, hq, ho => by
    obtain ⟨h1, h2, h3⟩ := hq
    simp only at h1 h2
    subst h1
    unfold fillC at h
    split at h
    · rename_i o n ag xs hi hcs
      rw [nth?_eq] at hi
      simp only [llen_eq, ltake_eq, ldrop_eq, lapp_eq] at h
      split at h
      · rename_i hc
        have hxs := cells_ok hcs h2
        have hlen : v.cells.size = n := by have := hxs.1; rw [hc.1] at this; simpa using this.symm
        have hsz : cells.size = cs.length := by have := ho.1; simpa using this.symm
        rw [fill_step place cells i o n v qs (hpl i _ hi) hlen (by omega)]
        refine fillC_ok hpl h h3 ?_
        have := okAll_append (okAll_append (okAll_take ho o) hxs) (okAll_drop ho (o + n))
        simpa [List.append_assoc] using this
      · cases h
    · cases h
  | [], _ :: _, _, _, _, _, hq, _ => hq.elim
  | _ :: _, [], _, _, _, _, hq, _ => hq.elim

theorem places_ok : ∀ {fl : List Field} {fs : List (Nat × Nat × Bool)}, fieldsB P fl fs = true →
    ∃ places, fl.mapM (fun f => (P.info? f.type).map fun i => (f.offset, i.size)) = some places ∧ ∀ (i : Nat) x, fs[i]? = some x → places[i]? = some (x.1, x.2.1)
  | [], fs, k2 => ⟨[], rfl, fun i x hx => by obtain ⟨f, _, _, h, _⟩ := fieldsB_ok k2 hx; simp at h⟩
  | f :: fl, [], k2 => by cases k2
  | f :: fl, y :: ys, k2 => by
    obtain ⟨f', j, d, e1, e2, e3, e4, e5, _⟩ := fieldsB_ok k2 (i := 0) (x := y) rfl
    simp only [List.getElem?_cons_zero, Option.some.injEq] at e1
    subst e1
    unfold fieldsB at k2
    simp only [Bool.and_eq_true] at k2
    obtain ⟨places, m1, m2⟩ := places_ok k2.2
    refine ⟨(f.offset, j.size) :: places, by simp [e4, m1], fun i x hx => ?_⟩
    cases i with
    | zero => simp only [List.getElem?_cons_zero, Option.some.injEq] at hx; subst hx; simp [e2, e5]
    | succ i => simpa using m2 i x (by simpa using hx)

theorem qbuildS_run (hT : TabOk P T) {t : TypeId} {fs : List (Nat × Nat × Bool)} {sz by' : Nat} {z : List Value} {ty : Option Ty} {teq : Option (List Bool)} (heq : T t = some { k := .st fs, size := sz, bytes := by', zero := z, ty := ty, eq := teq })
    {ps : List (Nat × S)} {qs : Array (Nat × Value)} {r : QR} (h : omap (fun cs => ({ res := .agg cs } : QR)) (fillC fs (lmap cell z) ps) = some r) (hq : PartsOk V hp w ps qs.toList) : PureRun P V hp w r (Instr.build t qs) := by
    simp only [omap_eq] at h
    cases hf : fillC fs (lmap cell z) ps with
    | none => rw [hf] at h; cases h
    | some cs =>
      rw [hf] at h
      simp only [Option.map_some, Option.some.injEq] at h
      subst h
      obtain ⟨⟨i, zv, g1, g2, g3, g4, g5, g6⟩, g7, g8⟩ := ti_ok (hT t _ heq)
      obtain ⟨fields, k1, k2⟩ := struct_ok g8
      have places := places_ok k2
      obtain ⟨places, m1, m2⟩ := places
      obtain ⟨cells', n1, n2⟩ := fillC_ok (place := fun i => places.toArray[i]?) (cells := z.toArray) (fun i x hx => by simpa using m2 i x hx) hf hq (by simpa using g6 V hp w)
      refine ⟨rfl, rfl, .agg cells', ?_, cells', rfl, n2⟩
      refine run_build w t qs cells' ?_
      unfold Program.built
      simp only [g1, k1, g4, m1]
      rw [g5]
      exact n1
end
end Go.SX


/- Literals of slices; calls under a contract; every operation that writes nothing. No condition. -/
namespace Go.SX
open Go.RowKit
set_option linter.unusedVariables false
set_option linter.unusedSimpArgs false

section
variable {P : Program} {T : Tab} {V : Vl} {hp lk : Nat → Ent} {w : World}

theorem castFlag {fr fr' : Bool} (h : fr = true → fr' = true) {b : Nat} (hz : V.Z fr' b) : V.Z fr b := by
  cases fr with
  | false => exact Vl.Z_all hz
  | true => have := h rfl; subst this; exact hz

theorem rdSl_zone {fr : Bool} {e : Ty} {c : C} {xs : List e.den} {v : Value} (h : rdSl lk e c = some xs) (ho : C.ok V hp w c v) (h1 : c.noOwn = true) (h2 : fr = true → c.isFr = true) : RdC (V.Z fr) w (.sl e) [v] xs := by
  unfold rdSl at h
  split at h
  · rename_i fr' e' xs'
    have ho' : RdC (V.Z fr') w (.sl e') [v] xs' := ho
    exact asL_rd (ho'.mono (fun b hb => castFlag h2 hb) (fun _ _ => rfl)) h
  · cases h1
  · cases h1
  · cases h1
  · rename_i fr' wh e' b xs'
    have ho' : RdC (V.Z fr') w (.gs wh e') [v] (b, xs') := ho
    exact asL_rd (gs_sl (ho'.mono (fun b hb => castFlag h2 hb) (fun _ _ => rfl))) h
  · injection h with h; subst h
    rw [ho.1]
    exact RdC.zero (.sl e) rfl
  · cases h

theorem readC_zone {fr : Bool} : ∀ (t : Ty) {cs : List C} {d : t.den} {rest : List C} {vs : List Value}, readC lk t cs = some (d, rest) → okAll V hp w cs vs → (∀ c ∈ cs, c.noOwn = true ∧ (fr = true → c.isFr = true)) →
    ∃ us ws, vs = us ++ ws ∧ RdC (V.Z fr) w t us d ∧ okAll V hp w rest ws ∧ ∃ ps, cs = ps ++ rest := by
  intro t
  induction t with
  | int k =>
    intro cs d rest vs h ho hz
    obtain ⟨c, rfl, hc⟩ := head1_some h
    obtain ⟨v, vs', rfl, h1, h2⟩ := okAll_cons ho
    obtain ⟨h3, h4⟩ := rdInt_ok hc h1
    exact ⟨[v], vs', rfl, ⟨by rw [h3], h4⟩, h2, [c], rfl⟩
  | bool =>
    intro cs d rest vs h ho hz
    obtain ⟨c, rfl, hc⟩ := head1_some h
    obtain ⟨v, vs', rfl, h1, h2⟩ := okAll_cons ho
    exact ⟨[v], vs', rfl, by rw [rdBool_ok hc h1]; exact rfl, h2, [c], rfl⟩
  | str =>
    intro cs d rest vs h ho hz
    obtain ⟨c, rfl, hc⟩ := head1_some h
    obtain ⟨v, vs', rfl, h1, h2⟩ := okAll_cons ho
    obtain ⟨h3, h4⟩ := rdStr_ok hc h1
    exact ⟨[v], vs', rfl, ⟨by rw [h3], h4⟩, h2, [c], rfl⟩
  | sl e ih =>
    intro cs d rest vs h ho hz
    obtain ⟨c, rfl, hc⟩ := head1_some h
    obtain ⟨v, vs', rfl, h1, h2⟩ := okAll_cons ho
    obtain ⟨h3, h4⟩ := hz c (by simp)
    exact ⟨[v], vs', rfl, rdSl_zone hc h1 h3 h4, h2, [c], rfl⟩
  | st t ih => exact fun h ho hz => ih h ho hz
  | pr a b iha ihb =>
    intro cs d rest vs h ho hz
    unfold readC at h
    cases ha : readC lk a cs with
    | none => simp [ha] at h
    | some x =>
      obtain ⟨x, r⟩ := x
      simp only [ha] at h
      cases hb : readC lk b r with
      | none => simp [hb] at h
      | some y =>
        obtain ⟨y, r'⟩ := y
        simp only [hb, Option.some.injEq, Prod.mk.injEq] at h
        obtain ⟨rfl, rfl⟩ := h
        obtain ⟨us, ws, rfl, h1, h2, ps, rfl⟩ := iha ha ho hz
        obtain ⟨us', ws', rfl, h3, h4, ps', rfl⟩ := ihb hb h2 (fun c hc => hz c (List.mem_append_right _ hc))
        exact ⟨us ++ us', ws', by rw [List.append_assoc], ⟨us, us', rfl, h1, h3⟩, h4, ps ++ ps', by rw [List.append_assoc]⟩
  | ptr t ih =>
    intro cs d rest vs h ho hz
    obtain ⟨c, rfl, hc⟩ := head1_some h
    obtain ⟨v, vs', rfl, h1, h2⟩ := okAll_cons ho
    obtain ⟨h3, h4⟩ := hz c (by simp)
    refine ⟨[v], vs', rfl, ?_, h2, [c], rfl⟩
    unfold rdPtr at hc
    split at hc
    · split at hc
      · rename_i hk; subst hk; injection hc with hc; subst hc
        obtain ⟨b, o, e1, e2, es, e3, e4, e5⟩ := h1
        exact ⟨b, o, by rw [e1, Nat.add_zero], castFlag h4 e2, es, e3, e4, e5.mono (fun b hb => castFlag h4 hb) (fun _ _ => rfl)⟩
      · cases hc
    · cases h3
    · cases hc
  | clo f t ih =>
    intro cs d rest vs h ho hz
    obtain ⟨c, rfl, hc⟩ := head1_some h
    obtain ⟨v, vs', rfl, h1, h2⟩ := okAll_cons ho
    obtain ⟨h3, h4⟩ := hz c (by simp)
    refine ⟨[v], vs', rfl, ?_, h2, [c], rfl⟩
    unfold rdClo at hc
    split at hc
    · split at hc
      · rename_i hf
        split at hc
        · rename_i hk; subst hk; subst hf; injection hc with hc; subst hc
          exact RdC.mono (t := .clo _ _) (fun b hb => castFlag h4 hb) (fun _ _ => rfl) h1
        · cases hc
      · cases hc
    · rename_i f' ns
      split at hc
      · rename_i hf
        subst hf
        cases ns with
        | cons n ns => cases h3
        | nil =>
          obtain ⟨us, ws, e5, e6, e7, _⟩ := ih (whole_some hc) (show okAll V hp w [] [] from okAll_nil) (fun c hc => by cases hc)
          have hu : us = [] := (List.append_eq_nil_iff.1 e5.symm).1
          subst hu
          exact ⟨#[], congrArg (fun x => [x]) h1.1, e6⟩
      · cases hc
    · cases hc
  | gs wh e ih =>
    intro cs d rest vs h ho hz
    obtain ⟨c, rfl, hc⟩ := head1_some h
    obtain ⟨v, vs', rfl, h1, h2⟩ := okAll_cons ho
    obtain ⟨h3, h4⟩ := hz c (by simp)
    exact ⟨[v], vs', rfl, rdG_zone hc h1 h4, h2, [c], rfl⟩

theorem readAll_zone {fr : Bool} {t : Ty} {cs : List C} {d : t.den} {vs : List Value} (h : readAll lk t cs = some d) (ho : okAll V hp w cs vs) (hz : ∀ c ∈ cs, c.noOwn = true ∧ (fr = true → c.isFr = true)) : RdC (V.Z fr) w t vs d := by
  unfold readAll at h
  split at h
  · rename_i d' hr
    injection h with h; subst h
    obtain ⟨us, ws, rfl, h1, h2, _⟩ := readC_zone t hr ho hz
    have : ws = [] := by have := h2.1; simp at this; exact List.length_eq_zero_iff.1 this.symm
    rw [this, List.append_nil]
    exact h1
  · cases h

theorem readS_zone {fr : Bool} {t : Ty} {s : S} {d : t.den} {v : Value} (h : readS lk t s = some d) (ho : S.ok V hp w s v) (h1 : s.noOwn = true) (h2 : fr = true → s.isFr = true) : RdC (V.Z fr) w t v.cells.toList d := by
  unfold readS at h
  split at h
  · rename_i x
    split at h
    · cases h
    · have hone := C.oneCell ho
      have hc : v.cells = #[v] := by cases v <;> first | rfl | (simp [Value.oneCell'] at hone)
      rw [hc]
      exact readAll_zone h (okAll_cons_mk ho okAll_nil) (fun c hc => by simp at hc; subst hc; exact ⟨h1, h2⟩)
  · rename_i cs
    split at h
    · obtain ⟨vs, rfl, h3⟩ := ho
      refine readAll_zone h h3 (fun c hc => ⟨?_, fun hf => ?_⟩)
      · have h1' : lall C.noOwn cs = true := h1
        rw [lall_eq, List.all_eq_true] at h1'
        exact h1' c hc
      · have h2' : lall C.isFr cs = true := h2 hf
        rw [lall_eq, List.all_eq_true] at h2'
        exact h2' c hc
    · cases h
  · cases h

theorem expand_zone (fr : Bool) : ∀ (t : Ty) (d : t.den), ∀ c ∈ expand fr t d, c.noOwn = true ∧ (fr = true → c.isFr = true) := by
  intro t
  induction t with
  | int k => intro d c hc; simp [expand] at hc; subst hc; exact ⟨rfl, fun _ => rfl⟩
  | bool => intro d c hc; simp [expand] at hc; subst hc; exact ⟨rfl, fun _ => rfl⟩
  | str => intro d c hc; simp [expand] at hc; subst hc; exact ⟨rfl, fun _ => rfl⟩
  | sl e ih => intro d c hc; simp [expand] at hc; subst hc; exact ⟨rfl, fun h => h⟩
  | st t ih => exact fun d => ih d
  | pr a b iha ihb =>
    intro d c hc
    unfold expand at hc
    rw [lapp_eq, List.mem_append] at hc
    exact hc.elim (iha _ c) (ihb _ c)
  | ptr t ih => intro d c hc; simp [expand] at hc; subst hc; exact ⟨rfl, fun h => h⟩
  | clo f t ih => intro d c hc; simp [expand] at hc; subst hc; exact ⟨rfl, fun h => h⟩
  | gs wh e ih => intro d c hc; simp [expand] at hc; subst hc; exact ⟨rfl, fun h => h⟩

/-- The literal's cells, part by part. -/
theorem seq_fill {fr : Bool} {e : Ty} : ∀ {ps : List (Nat × S)} {qs : List (Nat × Value)} {k : Nat} {xs : List e.den} {cells : Array Value}, seqParts lk e k ps = some xs → PartsOk V hp w ps qs →
    (∀ p ∈ ps, p.2.noOwn = true ∧ (fr = true → p.2.isFr = true)) → (k + ps.length) * e.size ≤ cells.size →
    ∃ cells', Instr.fill (fun i => some (i * e.size, e.size)) cells qs = some cells' ∧ cells'.size = cells.size ∧ (∀ j, j < k * e.size → cells'[j]? = cells[j]?) ∧ xs.length = ps.length ∧
      ∀ i (h : i < xs.length), ∃ es, es.length = e.size ∧ (∀ (j : Nat) u, es[j]? = some u → cells'[(k + i) * e.size + j]? = some u) ∧ RdC (V.Z fr) w e es xs[i]
  | [], [], k, xs, cells, h, _, _, _ => by
    simp only [seqParts, Option.some.injEq] at h; subst h
    exact ⟨cells, rfl, rfl, fun _ _ => rfl, rfl, fun i hi => by simp at hi⟩
  | (i, s) :: ps, (j, v) :: qs, k, xs, cells, h, hq, hz, hsz => by
    obtain ⟨h1, h2, h3⟩ := hq
    simp only at h1 h2
    subst h1
    unfold seqParts at h
    simp only at h
    split at h
    · rename_i hik
      subst hik
      split at h
      · rename_i x xs' hx hxs
        injection h with h; subst h
        obtain ⟨z1, z2⟩ := hz (i, s) (by simp)
        have hrd := readS_zone (fr := fr) hx h2 z1 z2
        have hlen := RdC.length hrd
        simp only [Array.length_toList] at hlen
        have hsz' : i * e.size + e.size ≤ cells.size := by
          have : (i + 1) * e.size ≤ (i + ((i, s) :: ps).length) * e.size := Nat.mul_le_mul_right _ (by simp)
          rw [Nat.add_mul, Nat.one_mul] at this
          omega
        rw [fill_step _ cells i (i * e.size) e.size v qs rfl hlen hsz']
        obtain ⟨cells', g1, g2, g3, g4, g5⟩ := seq_fill (fr := fr) (k := i + 1) hxs h3 (fun p hp' => hz p (by simp [hp'])) (cells := (cells.toList.take (i * e.size) ++ v.cells.toList ++ cells.toList.drop (i * e.size + e.size)).toArray) (by
          have hh : (cells.toList.take (i * e.size) ++ v.cells.toList ++ cells.toList.drop (i * e.size + e.size)).length = cells.size := by
            simp only [List.length_append, List.length_take, List.length_drop, Array.length_toList, hlen]; omega
          simp only [List.size_toArray, hh]
          rw [show i + 1 + ps.length = i + ((i, s) :: ps).length by simp; omega]
          exact hsz)
        have hsize : (cells.toList.take (i * e.size) ++ v.cells.toList ++ cells.toList.drop (i * e.size + e.size)).length = cells.size := by
          simp only [List.length_append, List.length_take, List.length_drop, Array.length_toList, hlen]; omega
        have htk : (cells.toList.take (i * e.size)).length = i * e.size := by rw [List.length_take, Array.length_toList]; omega
        refine ⟨cells', g1, by rw [g2]; simp only [List.size_toArray, hsize], fun j hj => ?_, by simp [g4], fun q hq' => ?_⟩
        · rw [g3 j (by rw [Nat.add_mul]; omega)]
          rw [List.getElem?_toArray, List.append_assoc, List.getElem?_append_left (by rw [htk]; exact hj), List.getElem?_take, if_pos hj]
          simp
        · cases q with
          | zero =>
            refine ⟨v.cells.toList, by simpa using hlen, fun j u hu => ?_, hrd⟩
            have hj := (List.getElem?_eq_some_iff.1 hu).1
            simp only [Array.length_toList, hlen] at hj
            rw [Nat.add_zero, g3 (i * e.size + j) (by rw [Nat.add_mul, Nat.one_mul]; omega)]
            rw [List.getElem?_toArray, List.append_assoc, List.getElem?_append_right (by rw [htk]; omega), htk, show i * e.size + j - i * e.size = j by omega, List.getElem?_append_left (by simp [hlen]; exact hj)]
            exact hu
          | succ q =>
            obtain ⟨es, k1, k2, k3⟩ := g5 q (by simpa using hq')
            refine ⟨es, k1, fun j u hu => ?_, k3⟩
            rw [show i + (q + 1) = i + 1 + q by omega]
            exact k2 j u hu
      · cases h
    · cases h
  | [], _ :: _, _, _, _, _, hq, _, _ => hq.elim
  | _ :: _, [], _, _, _, _, hq, _, _ => hq.elim

theorem zerosN_len (e : Ty) : ∀ n, (zerosN n e).length = n * e.size
  | 0 => by simp [zerosN]
  | n + 1 => by simp only [zerosN, List.length_append, zeros_len, zerosN_len e n, Nat.add_mul, Nat.one_mul]; omega

theorem zerosN_get (e : Ty) : ∀ (n i j : Nat), i < n → j < e.size → (zerosN n e)[i * e.size + j]? = e.zeros[j]?
  | 0, i, j, h, _ => by omega
  | n + 1, 0, j, _, hj => by
    rw [Nat.zero_mul, Nat.zero_add]
    simp only [zerosN]
    rw [List.getElem?_append_left (by rw [zeros_len]; exact hj)]
  | n + 1, i + 1, j, h, hj => by
    simp only [zerosN]
    rw [List.getElem?_append_right (by rw [zeros_len, Nat.add_mul, Nat.one_mul]; omega), zeros_len, show (i + 1) * e.size + j - e.size = i * e.size + j by rw [Nat.add_mul, Nat.one_mul]; omega]
    exact zerosN_get e n i j (by omega) hj

/-- An array of zeros. -/
theorem zeros_arr {e : Ty} (hp' : e.plain = true) (n : Nat) {Z : Nat → Prop} {w' : World} : ∀ i (h : i < (List.replicate n e.dflt).length), ∃ es, es.length = e.size ∧ (∀ (j : Nat) u, es[j]? = some u → (zerosN n e)[i * e.size + j]? = some u) ∧ RdC Z w' e es (List.replicate n e.dflt)[i] := by
  intro i h
  rw [List.length_replicate] at h
  refine ⟨e.zeros, zeros_len e, fun j u hu => ?_, ?_⟩
  · have hj := (List.getElem?_eq_some_iff.1 hu).1
    rw [zeros_len] at hj
    rw [zerosN_get e n i j h hj]; exact hu
  · rw [List.getElem_replicate]
    exact RdC.zero e hp'

theorem qbuildA_run (hT : TabOk P T) {t : TypeId} {len te es n : Nat} {ety : Ty} {sz by' : Nat} {z : List Value} {ty : Option Ty} {teq : Option (List Bool)} (heq : T t = some { k := .arr len te es n ety, size := sz, bytes := by', zero := z, ty := ty, eq := teq })
    {ps : List (Nat × S)} {qs : Array (Nat × Value)} {r : QR} (h : qbuildA len es n ety ps = some r) (hq : PartsOk V hp w ps qs.toList) : PureRun P V hp w r (Instr.build t qs) := by
  obtain ⟨⟨i, zv, g1, g2, g3, g4, g5, g6⟩, g7, g8⟩ := ti_ok (hT t _ heq)
  obtain ⟨a0, a1, ⟨i2, a2, a3⟩, a4, a5, a6, a7, a8⟩ := ti_arr (hT t _ heq) rfl
  simp only at a0 g5
  subst a0
  have hbuild : ∀ cells', Instr.fill (fun i => some (i * es, es)) (zerosN n ety).toArray qs.toList = some cells' → (Instr.build t qs).run P w = .ok (.agg cells') w := by
    intro cells' hf
    simp only [Instr.build, Sem.run_bind, run_zeroValue g1 g4, Result.andThen_ok, run_underlying a1, run_sizeOf a2, a3, g5, hf, Sem.run_pure]
  unfold qbuildA at h
  split at h
  · injection h with h; subst h
    have hq0 : qs.toList = [] := by
      cases hqs : qs.toList with
      | nil => rfl
      | cons q r => rw [hqs] at hq; exact hq.elim
    refine ⟨rfl, rfl, _, hbuild (zerosN n ety).toArray (by rw [hq0]; rfl), a4, _, rfl, by simp [zerosN_len], fun i hi => ?_⟩
    obtain ⟨es', k1, k2, k3⟩ := zeros_arr (Z := fun _ => False) (w' := w) a5 n i hi
    exact ⟨es', k1, fun j u hu => by simpa using k2 j u hu, k3⟩
  · split at h
    case isFalse => cases h
    case isTrue hc =>
    simp only [Bool.and_eq_true, decide_eq_true_eq, lall_eq, List.all_eq_true, llen_eq] at hc
    obtain ⟨⟨c1, c2⟩, c3⟩ := hc
    rw [omap_eq] at h
    cases hx : seqParts (fun _ => .dead) ety 0 ps with
    | none => rw [hx] at h; cases h
    | some xs =>
      rw [hx] at h
      simp only [Option.map_some, Option.some.injEq] at h
      subst h
      have hnl : n = len := by
        rw [c3] at a6
        exact Nat.eq_of_mul_eq_mul_right ety.size_pos a6
      obtain ⟨cells', k1, k2, k3, k4, k5⟩ := seq_fill (fr := false) (k := 0) (cells := (zerosN n ety).toArray) hx hq (fun p hp' => ⟨c1 p hp', fun hf => by cases hf⟩) (by simp [zerosN_len, c2, hnl])
      rw [← c3] at k1
      refine ⟨rfl, rfl, _, hbuild cells' k1, a4, cells', rfl, by rw [k2, k4, c2]; simp [zerosN_len, hnl], fun i hi => ?_⟩
      obtain ⟨es', p1, p2, p3⟩ := k5 i hi
      exact ⟨es', p1, fun j u hu => by have := p2 j u hu; rwa [Nat.zero_add] at this, p3.flat a4⟩

theorem qbuild_run (hT : TabOk P T) {t : TypeId} {ps : List (Nat × S)} {qs : Array (Nat × Value)} {r : QR} (h : qbuild T t ps = some r) (hq : PartsOk V hp w ps qs.toList) : PureRun P V hp w r (Instr.build t qs) := by
  unfold qbuild at h
  split at h
  · rename_i heq; exact qbuildS_run hT heq h hq
  · rename_i heq; exact qbuildA_run hT heq h hq
  · cases h

theorem litTy_size (e : Ty) (ps : List (Nat × S)) : (litTy e ps).size = e.size := by
  unfold litTy
  split
  · rename_i h
    rw [Bool.and_eq_true, decide_eq_true_eq] at h
    rw [← unG_size e.gsify, h.2]
  · rfl

theorem qbuildSlice_run (hT : TabOk P T) {base : Nat} {M : LM} {w0 : World} (m : Mem base M w0 V hp w) {nx : Nat} (hd : hp nx = .dead) {t : TypeId} {n : Nat} {ps : List (Nat × S)} {qs : Array (Nat × Value)} {r : QR}
    (h : qbuildSlice T lk nx t n ps = some r) (hq : PartsOk V hp w ps qs.toList) : ∃ x w' V', (Instr.buildSlice t n qs).run P w = .ok x w' ∧ Good base M w0 V hp w nx r.res r.new r.hy x w' V' := by
  unfold qbuildSlice at h
  cases he : elemTy T t with
  | none => rw [he] at h; cases h
  | some e0 =>
    rw [he] at h
    simp only at h
    have hsz := litTy_size e0 ps
    generalize litTy e0 ps = e at h hsz
    unfold qbuildSliceAt at h
    split at h
    · rename_i hc
      rw [Bool.and_eq_true] at hc
      obtain ⟨hc, c4⟩ := hc
      simp only [Bool.and_eq_true, decide_eq_true_eq, lall_eq, List.all_eq_true, llen_eq] at hc
      obtain ⟨⟨c1, c2⟩, c3⟩ := hc
      rw [omap_eq] at h
      cases hx : seqParts lk e 0 ps with
      | none => rw [hx] at h; cases h
      | some xs =>
        rw [hx] at h
        simp only [Option.map_some, Option.some.injEq] at h
        subst h
        obtain ⟨te, i, z, h2, h3, h4, h5, h6⟩ := elemTy_ok hT he
        rw [← hsz] at h4
        generalize hfl : (e.flat || lall (fun p => p.2.isFr) ps) = fl
        have hzs : z.cells.size = e.size := by rw [h6, hsz]; simpa using zeros_len e0
        generalize hz0 : (if n * e.size = 0 then (#[] : Array Value) else z.cells) = z0
        have hfill := seq_fill (fr := lall (fun p => p.2.isFr) ps) (k := 0) (cells := (Array.range (n * e.size)).map (z0[· % z0.size]!)) hx hq (fun p hp' => ⟨c1 p hp', fun hf => by rw [lall_eq, List.all_eq_true] at hf; exact hf p hp'⟩) (by simp [c2])
        obtain ⟨cells', g1, g2, g3, g4, g5⟩ := hfill
        simp only [Array.size_map, Array.size_range] at g2
        obtain ⟨V', hg⟩ := good_alloc m hd cells' te (.row fl e xs) (.c (.own nx)) (.slice (some ⟨w.heap.size, 0, none⟩) n n)
          (by
            intro hl
            cases fl with
            | true => exact hl
            | false =>
              have hl' : (e.flat || e.hasG) = true := hl
              rw [Bool.or_eq_false_iff] at hfl
              rw [hfl.1, Bool.false_or] at hl'
              rw [hl', hfl.2] at c4
              cases c4)
          (fun V' hp' w' x k1 k2 k3 k4 => by
            constructor
            · refine .inr ⟨k1, _, te, by rw [k2]; exact k4, ?_, fun j hj => ?_⟩
              · rw [g4, c2]
                have : n * 1 ≤ n * e.size := Nat.mul_le_mul_left _ e.size_pos
                unfold lenMax; omega
              · obtain ⟨es, q1, q2, q3⟩ := g5 j hj
                refine ⟨es, q1, fun a u hu => by have := q2 a u hu; rwa [Nat.zero_add] at this, ?_⟩
                cases hfe : e.flat with
                | true => exact q3.flat hfe
                | false =>
                  rw [hfe, Bool.false_or] at hfl
                  rw [← hfl]
                  exact x.rd q3
            · exact ⟨fl, e, xs, k3, .inr ⟨k1, n, _, te, by rw [k2, g4, c2], by rw [k2]; exact k4, g2, by rw [g4, c2]; exact Nat.le_refl _⟩⟩)
        refine ⟨_, _, V', ?_, hg⟩
        have hnb : ¬ (16777216 < n * e.size) := by omega
        simp only [Instr.buildSlice, Sem.run_bind, run_underlying h2, Result.andThen_ok, run_sizeOf h3, h4, Sem.run_ite]
        rw [if_neg (by omega)]
        simp only [Result.andThen_ok, Sem.run_pure, Sem.run_bind]
        by_cases hn : n * e.size = 0
        · rw [if_pos hn] at hz0
          rw [if_pos hn, hz0]
          simp only [Sem.run_pure, Result.andThen_ok, g1, newRow, Sem.run_bind, run_newObj_alloc]
        · rw [if_neg hn] at hz0
          rw [if_neg hn]
          simp only [run_zeroValue h3 h5, Result.andThen_ok, hz0, Sem.run_pure, g1, newRow, Sem.run_bind, run_newObj_alloc]
    · cases h

/-! ### What a call hands back -/

theorem fresh_len : ∀ {t : Ty} {Z : Nat → Prop} {cs : List Value} {d : t.den} {bs : List (Option Nat)} (nx : Nat), OwnC Z w t cs d bs → (fresh t d nx).2.length = bs.length := by
  intro t
  induction t with
  | int k => intro Z cs d bs nx h; rw [h.2]; rfl
  | bool => intro Z cs d bs nx h; rw [h.2]; rfl
  | str => intro Z cs d bs nx h; rw [h.2]; rfl
  | sl e ih =>
    intro Z cs d bs nx h
    rcases h with ⟨_, _, rfl⟩ | ⟨b, cap, vals, el, _, rfl, _⟩ <;> rfl
  | st t ih => exact fun nx h => ih nx h
  | pr a b iha ihb =>
    intro Z cs d bs nx h
    obtain ⟨c1, c2, b1, b2, rfl, rfl, h1, h2⟩ := h
    show (lapp _ _).length = _
    rw [lapp_eq, List.length_append, List.length_append, iha nx h1, ihb _ h2]
  | ptr t ih => intro Z cs d bs nx h; exact h.elim
  | clo f t ih => intro Z cs d bs nx h; exact h.elim
  | gs wh e ih => intro Z cs d bs nx h; exact h.elim

/-- New names that lie where a datum lies. -/
structure Lies (V : Vl) (hp : Nat → Ent) (Z : Nat → Prop) (nx : Nat) (es : List Ent) (bs : List (Option Nat)) : Prop where
  has : ∀ (j : Nat) b, bs[j]? = some b → (V.has (nx + j) ↔ b.isSome = true)
  blk : ∀ (j : Nat) b, bs[j]? = some (some b) → V.blk (nx + j) = b
  ent : ∀ (j : Nat) e, es[j]? = some e → hp (nx + j) = e
  zone : ∀ b, Z b → V.Z1 b

theorem Lies.left {Z : Nat → Prop} {nx : Nat} {e1 e2 : List Ent} {b1 b2 : List (Option Nat)} (h : Lies V hp Z nx (e1 ++ e2) (b1 ++ b2)) : Lies V hp Z nx e1 b1 where
  has j b hb := h.has j b (by rw [List.getElem?_append_left (List.getElem?_eq_some_iff.1 hb).1]; exact hb)
  blk j b hb := h.blk j b (by rw [List.getElem?_append_left (List.getElem?_eq_some_iff.1 hb).1]; exact hb)
  ent j e he := h.ent j e (by rw [List.getElem?_append_left (List.getElem?_eq_some_iff.1 he).1]; exact he)
  zone := h.zone

theorem Lies.right {Z : Nat → Prop} {nx : Nat} {e1 e2 : List Ent} {b1 b2 : List (Option Nat)} (hl : e1.length = b1.length) (h : Lies V hp Z nx (e1 ++ e2) (b1 ++ b2)) : Lies V hp Z (nx + e1.length) e2 b2 where
  has j b hb := by
    rw [Nat.add_assoc]
    exact h.has (e1.length + j) b (by rw [hl, List.getElem?_append_right (by omega)]; rw [show b1.length + j - b1.length = j by omega]; exact hb)
  blk j b hb := by
    rw [Nat.add_assoc]
    exact h.blk (e1.length + j) b (by rw [hl, List.getElem?_append_right (by omega)]; rw [show b1.length + j - b1.length = j by omega]; exact hb)
  ent j e he := by
    rw [Nat.add_assoc]
    exact h.ent (e1.length + j) e (by rw [List.getElem?_append_right (by omega)]; rw [show e1.length + j - e1.length = j by omega]; exact he)
  zone := h.zone

theorem fresh_ok {Z : Nat → Prop} : ∀ {t : Ty} {cs : List Value} {d : t.den} {bs : List (Option Nat)} {nx : Nat}, OwnC Z w t cs d bs → Lies V hp Z nx (fresh t d nx).2 bs →
    okAll V hp w (fresh t d nx).1 cs ∧ ∀ (j : Nat) e, (fresh t d nx).2[j]? = some e → e.ok V hp w (nx + j) := by
  intro t
  induction t with
  | int k => intro cs d bs nx h _; obtain ⟨⟨rfl, h1⟩, _⟩ := h; exact ⟨okAll_cons_mk ⟨rfl, h1⟩ okAll_nil, fun j e he => by simp [fresh] at he⟩
  | bool => intro cs d bs nx h _; obtain ⟨h1, _⟩ := h; rw [show cs = _ from h1]; exact ⟨okAll_cons_mk ⟨rfl, trivial⟩ okAll_nil, fun j e he => by simp [fresh] at he⟩
  | str => intro cs d bs nx h _; obtain ⟨⟨rfl, h1⟩, _⟩ := h; exact ⟨okAll_cons_mk ⟨rfl, h1⟩ okAll_nil, fun j e he => by simp [fresh] at he⟩
  | sl e ih =>
    intro cs d bs nx h hl
    have h0 : hp nx = .row true e d := hl.ent 0 _ rfl
    rcases h with ⟨rfl, rfl, rfl⟩ | ⟨b, cap, vals, el, rfl, rfl, h1, h2, h3, h4, h5⟩
    · have hh : ¬ V.has nx := fun h => by have := (hl.has 0 none rfl).1 h; cases this
      refine ⟨okAll_cons_mk ⟨true, e, [], h0, .inl ⟨hh, rfl, rfl⟩⟩ okAll_nil, fun j e' he => ?_⟩
      cases j with
      | zero => simp only [fresh, List.getElem?_cons_zero, Option.some.injEq] at he; subst he; exact .inl ⟨hh, rfl⟩
      | succ j => simp [fresh] at he
    · have hh : V.has nx := (hl.has 0 (some b) rfl).2 rfl
      have hb : V.blk nx = b := hl.blk 0 b rfl
      refine ⟨okAll_cons_mk ⟨true, e, d, h0, .inr ⟨hh, cap, vals, el, by rw [hb], by rw [hb]; exact h1, h2, h3⟩⟩ okAll_nil, fun j e' he => ?_⟩
      cases j with
      | zero =>
        simp only [fresh, List.getElem?_cons_zero, Option.some.injEq] at he; subst he
        refine .inr ⟨hh, vals, el, by rw [Nat.add_zero, hb]; exact h1, h4, fun i hi => ?_⟩
        obtain ⟨es, g1, g2, g3⟩ := h5 i hi
        exact ⟨es, g1, g2, g3.mono (fun b hb => .inl (hl.zone b hb)) (fun _ _ => rfl)⟩
      | succ j => simp [fresh] at he
  | st t ih => exact fun h hl => ih h hl
  | pr a b iha ihb =>
    intro cs d bs nx h hl
    obtain ⟨c1, c2, b1, b2, rfl, rfl, h1, h2⟩ := h
    have hlen := fresh_len nx h1
    have hl' : Lies V hp Z nx ((fresh a d.1 nx).2 ++ (fresh b d.2 (nx + (fresh a d.1 nx).2.length)).2) (b1 ++ b2) := by
      have := hl
      unfold fresh at this
      simp only [lapp_eq, llen_eq] at this
      exact this
    obtain ⟨g1, g2⟩ := iha h1 hl'.left
    obtain ⟨g3, g4⟩ := ihb h2 (hl'.right hlen)
    unfold fresh
    simp only [lapp_eq, llen_eq]
    refine ⟨okAll_append g1 g3, fun j e he => ?_⟩
    rcases Nat.lt_or_ge j (fresh a d.1 nx).2.length with hj | hj
    · rw [List.getElem?_append_left hj] at he
      exact g2 j e he
    · rw [List.getElem?_append_right hj] at he
      have := g4 _ e he
      rwa [show nx + (fresh a d.1 nx).2.length + (j - (fresh a d.1 nx).2.length) = nx + j by omega] at this
  | ptr t ih => intro cs d bs nx h _; exact h.elim
  | clo f t ih => intro cs d bs nx h _; exact h.elim
  | gs wh e ih => intro cs d bs nx h _; exact h.elim

theorem freshTop_ok {Z : Nat → Prop} {t : Ty} {v : Value} {d : t.den} {bs : List (Option Nat)} {nx : Nat} (h : OwnTop Z w t v d bs) (hl : Lies V hp Z nx (freshTop t d nx).2 bs) :
    okTop V hp w (freshTop t d nx).1 v ∧ ∀ (j : Nat) e, (freshTop t d nx).2[j]? = some e → e.ok V hp w (nx + j) := by
  obtain ⟨cs, h1, h2⟩ := h
  obtain ⟨g1, g2⟩ := fresh_ok h2 hl
  refine ⟨?_, g2⟩
  unfold okTop freshTop
  unfold topV at h1
  simp only
  split
  · rename_i ht; rw [if_pos ht] at h1; exact ⟨_, h1, by simpa using g1⟩
  · rename_i ht; rw [if_neg ht] at h1; rw [← h1]; exact g1

theorem freshTups_len {Z : Nat → Prop} : ∀ {ts : List Ty} {vs : List Value} {d : Tup ts} {bs : List (Option Nat)} (nx : Nat), OwnVals Z w ts vs d bs → (freshTups ts d nx).2.length = bs.length
  | [], vs, d, bs, nx, h => by rw [h.2]; rfl
  | [t], vs, d, bs, nx, h => by obtain ⟨v, _, cs, _, h2⟩ := h; exact fresh_len nx h2
  | t :: u :: r, vs, d, bs, nx, h => by
    obtain ⟨v, vs', b1, b2, rfl, rfl, ⟨cs, _, h2⟩, h3⟩ := h
    show (lapp _ _).length = _
    rw [lapp_eq, List.length_append, List.length_append]
    have e1 : (freshTop t d.1 nx).2.length = b1.length := fresh_len nx h2
    rw [e1, freshTups_len _ h3]

theorem freshTups_ok {Z : Nat → Prop} : ∀ {ts : List Ty} {vs : List Value} {d : Tup ts} {bs : List (Option Nat)} {nx : Nat}, OwnVals Z w ts vs d bs → Lies V hp Z nx (freshTups ts d nx).2 bs →
    (freshTups ts d nx).1.length = vs.length ∧ (∀ (j : Nat) x v, (freshTups ts d nx).1[j]? = some x → vs[j]? = some v → okTop V hp w x v) ∧ ∀ (j : Nat) e, (freshTups ts d nx).2[j]? = some e → e.ok V hp w (nx + j)
  | [], vs, d, bs, nx, h, _ => by rw [h.1]; exact ⟨rfl, fun j x v hx => by simp [freshTups] at hx, fun j e he => by simp [freshTups] at he⟩
  | [t], vs, d, bs, nx, h, hl => by
    obtain ⟨v, rfl, h1⟩ := h
    obtain ⟨g1, g2⟩ := freshTop_ok h1 hl
    refine ⟨rfl, fun j x v' hx hv => ?_, g2⟩
    cases j with
    | zero => simp only [freshTups, List.getElem?_cons_zero, Option.some.injEq] at hx hv; subst hx; subst hv; exact g1
    | succ j => simp at hv
  | t :: u :: r, vs, d, bs, nx, h, hl => by
    obtain ⟨v, vs', b1, b2, rfl, rfl, h1, h3⟩ := h
    have e1 : (freshTop t d.1 nx).2.length = b1.length := by obtain ⟨cs, _, h2⟩ := h1; exact fresh_len nx h2
    have hl' : Lies V hp Z nx ((freshTop t d.1 nx).2 ++ (freshTups (u :: r) d.2 (nx + (freshTop t d.1 nx).2.length)).2) (b1 ++ b2) := by
      have := hl
      unfold freshTups at this
      simp only [lapp_eq, llen_eq] at this
      exact this
    obtain ⟨g1, g2⟩ := freshTop_ok h1 hl'.left
    obtain ⟨k1, k2, k3⟩ := freshTups_ok h3 (hl'.right e1)
    unfold freshTups
    simp only [lapp_eq, llen_eq]
    refine ⟨by simp [k1], fun j x v' hx hv => ?_, fun j e he => ?_⟩
    · cases j with
      | zero => simp only [List.getElem?_cons_zero, Option.some.injEq] at hx hv; subst hx; subst hv; exact g1
      | succ j => exact k2 j x v' (by simpa using hx) (by simpa using hv)
    · rcases Nat.lt_or_ge j (freshTop t d.1 nx).2.length with hj | hj
      · rw [List.getElem?_append_left hj] at he
        exact g2 j e he
      · rw [List.getElem?_append_right hj] at he
        have := k3 _ e he
        rwa [show nx + (freshTop t d.1 nx).2.length + (j - (freshTop t d.1 nx).2.length) = nx + j by omega] at this

theorem topS_ok {x : Bool × List C} {v : Value} (h : okTop V hp w x v) : S.ok V hp w (topS x) v := by
  unfold topS
  unfold okTop at h
  split
  · rename_i hx; rw [if_pos hx] at h; exact h
  · rename_i hx; rw [if_neg hx] at h
    split
    · rename_i c hc
      rw [hc] at h
      exact h.2 0 c v rfl rfl
    · trivial

theorem freshS_ok {Z : Nat → Prop} {ts : List Ty} {vs : List Value} {d : Tup ts} {bs : List (Option Nat)} {nx : Nat} (h : OwnVals Z w ts vs d bs) (hl : Lies V hp Z nx (freshS ts d nx).2 bs) :
    S.ok V hp w (freshS ts d nx).1 (oneOr vs) ∧ ∀ (j : Nat) e, (freshS ts d nx).2[j]? = some e → e.ok V hp w (nx + j) := by
  have e2 : (freshS ts d nx).2 = (freshTups ts d nx).2 := by unfold freshS; split <;> rename_i h <;> rw [h]
  rw [e2] at hl ⊢
  obtain ⟨g1, g2, g3⟩ := freshTups_ok h hl
  refine ⟨?_, g3⟩
  unfold freshS
  split
  · rename_i x es hx
    rw [hx] at g1 g2
    cases vs with
    | nil => simp at g1
    | cons v vs' =>
      have : vs' = [] := by simp at g1; exact g1
      subst this
      exact topS_ok (g2 0 x v rfl rfl)
  · rename_i xs es hno hx
    rw [hx] at g1 g2
    have hv : oneOr vs = .tuple vs.toArray := by
      unfold oneOr
      split
      · rename_i v
        cases xs with
        | nil => simp at g1
        | cons x xs' =>
          have : xs' = [] := by simp at g1; exact g1
          subst this
          exact (hno x rfl).elim
      · rfl
    rw [hv]
    exact ⟨vs.toArray, rfl, by simpa using g1, fun j x v hx' hv' => g2 j x v hx' (by simpa using hv')⟩

theorem freshS_len {Z : Nat → Prop} {ts : List Ty} {vs : List Value} {d : Tup ts} {bs : List (Option Nat)} (nx : Nat) (h : OwnVals Z w ts vs d bs) : (freshS ts d nx).2.length = bs.length := by
  have e2 : (freshS ts d nx).2 = (freshTups ts d nx).2 := by unfold freshS; split <;> rename_i h <;> rw [h]
  rw [e2]; exact freshTups_len nx h

theorem freshS_row (ts : List Ty) (d : Tup ts) (nx : Nat) : ∀ e ∈ (freshS ts d nx).2, ∀ cs, e ≠ .bx cs := by
  have e2 : (freshS ts d nx).2 = (freshTups ts d nx).2 := by unfold freshS; split <;> rename_i h <;> rw [h]
  rw [e2]; clear e2
  have one : ∀ (t : Ty) (d : t.den) (nx : Nat), ∀ e ∈ (fresh t d nx).2, ∀ cs, e ≠ .bx cs := by
    intro t
    induction t with
    | int k => intro d nx e he; simp [fresh] at he
    | bool => intro d nx e he; simp [fresh] at he
    | str => intro d nx e he; simp [fresh] at he
    | sl e ih => intro d nx e' he cs hc; simp [fresh] at he; rw [he] at hc; cases hc
    | st t ih => exact fun d nx e he => ih d nx e he
    | pr a b iha ihb =>
      intro d nx e he
      unfold fresh at he
      simp only [lapp_eq, List.mem_append] at he
      exact he.elim (iha _ _ e) (ihb _ _ e)
    | ptr t ih => intro d nx e he; simp [fresh] at he
    | clo f t ih => intro d nx e he; simp [fresh] at he
    | gs wh e ih => intro d nx e he; simp [fresh] at he
  induction ts generalizing nx with
  | nil => intro e he; simp [freshTups] at he
  | cons t r ih =>
    cases r with
    | nil => exact one t d nx
    | cons u r =>
      intro e he
      unfold freshTups at he
      simp only [lapp_eq, List.mem_append] at he
      exact he.elim (one t d.1 nx e) (ih d.2 _ e)

theorem own_wf {Z : Nat → Prop} : ∀ {t : Ty} {cs : List Value} {d : t.den} {bs : List (Option Nat)}, OwnC Z w t cs d bs → t.wf d := by
  intro t
  induction t with
  | int k => exact fun h => h.1.wf
  | bool => exact fun h => trivial
  | str => exact fun h => h.1.wf
  | sl e ih =>
    intro cs d bs h
    rcases h with ⟨_, rfl, _⟩ | ⟨b, cap, vals, el, _, _, _, _, _, h4, h5⟩
    · exact ⟨Nat.zero_le _, fun x hx => by simp at hx⟩
    · refine ⟨h4, fun x hx => ?_⟩
      obtain ⟨i, hi, rfl⟩ := List.getElem_of_mem hx
      obtain ⟨es, _, _, g3⟩ := h5 i hi
      exact g3.wf
  | st t ih => exact fun h => ih h
  | pr a b iha ihb => intro cs d bs h; obtain ⟨c1, c2, b1, b2, _, _, h1, h2⟩ := h; exact ⟨iha h1, ihb h2⟩
  | ptr t ih => intro cs d bs h; exact h.elim
  | clo f t ih => intro cs d bs h; exact h.elim
  | gs wh e ih => intro cs d bs h; exact h.elim

theorem ownVals_wf {Z : Nat → Prop} : ∀ {ts : List Ty} {vs : List Value} {d : Tup ts} {bs : List (Option Nat)}, OwnVals Z w ts vs d bs → tupWf ts d
  | [], _, _, _, _ => trivial
  | [t], _, _, _, h => by obtain ⟨v, _, cs, _, h2⟩ := h; exact own_wf h2
  | t :: u :: r, _, _, _, h => by obtain ⟨v, vs', b1, b2, _, _, ⟨cs, _, h2⟩, h3⟩ := h; exact ⟨own_wf h2, ownVals_wf h3⟩

theorem freshS_true (ts : List Ty) (d : Tup ts) (nx : Nat) : ∀ e ∈ (freshS ts d nx).2, ¬ e.lentish := by
  have e2 : (freshS ts d nx).2 = (freshTups ts d nx).2 := by unfold freshS; split <;> rename_i h <;> rw [h]
  rw [e2]; clear e2
  have one : ∀ (t : Ty) (d : t.den) (nx : Nat), ∀ e ∈ (fresh t d nx).2, ¬ e.lentish := by
    intro t
    induction t with
    | int k => intro d nx e he; simp [fresh] at he
    | bool => intro d nx e he; simp [fresh] at he
    | str => intro d nx e he; simp [fresh] at he
    | sl e ih => intro d nx e' he hc; simp [fresh] at he; rw [he] at hc; exact hc
    | st t ih => exact fun d nx e he => ih d nx e he
    | pr a b iha ihb =>
      intro d nx e he
      unfold fresh at he
      simp only [lapp_eq, List.mem_append] at he
      exact he.elim (iha _ _ e) (ihb _ _ e)
    | ptr t ih => intro d nx e he; simp [fresh] at he
    | clo f t ih => intro d nx e he; simp [fresh] at he
    | gs wh e ih => intro d nx e he; simp [fresh] at he
  induction ts generalizing nx with
  | nil => intro e he; simp [freshTups] at he
  | cons t ts ih =>
    cases ts with
    | nil => exact fun e he => one t d nx e he
    | cons u r =>
      intro e he
      have he' : e ∈ lapp (freshTop t d.1 nx).2 (freshTups (u :: r) d.2 (nx + llen (freshTop t d.1 nx).2)).2 := he
      rw [lapp_eq, List.mem_append] at he'
      exact he'.elim (one t d.1 nx e) (ih d.2 _ e)

/-- What a call leaves, in the caller's words. -/
theorem good_call {base : Nat} {M : LM} {w0 w' : World} (m : Mem base M w0 V hp w) {nx : Nat} {rs : List Ty} {d : Tup rs} {v : Value} (hr : ResOk w w' rs v d) (hd : ∀ j, j < (freshS rs d nx).2.length → hp (nx + j) = .dead) :
    ∃ V', Good base M w0 V hp w nx (freshS rs d nx).1 (freshS rs d nx).2 (hyOf rs d) v w' V' := by
  obtain ⟨⟨Z1, bs, vs, rfl, h1, h2, h3, h4⟩, hk⟩ := hr
  have hlen := freshS_len nx h1
  have x := VX.of_kept m hk (nx := nx) (es := (freshS rs d nx).2) (bs := bs) (Z := Z1) hlen.symm hd
  have hl : Lies (V.ext nx bs Z1) (hpNew hp nx (freshS rs d nx).2) Z1 nx (freshS rs d nx).2 bs := ⟨fun j b hb => Vl.ext_has_new hb, fun j b hb => Vl.ext_blk_new hb, fun j e he => hpNew_new he, fun b hb => .inr hb⟩
  obtain ⟨g1, g2⟩ := freshS_ok h1 hl
  refine ⟨_, ⟨m.grow hk hlen.symm hd h2 h3 h4 (fun j cs hj => ?_) (fun j e he => g2 j e he) (freshS_true rs d nx), x, g1, fun p hp' => ?_⟩⟩
  · exact (freshS_row rs d nx _ (List.mem_of_getElem? hj) cs rfl).elim
  · unfold hyOf at hp'
    split at hp'
    · injection hp' with hp'; subst hp'; exact ownVals_wf h1
    · cases hp'


theorem frz_ok {Z1 : Nat → Prop} : ∀ {t : Ty} {cs : List Value} {d : t.den} {bs : List (Option Nat)}, OwnC Z1 w t cs d bs → (∀ b, Z1 b → V.Z true b) → (∀ b, some b ∈ bs → V.Z true b) → okAll V hp w (frz t d) cs := by
  intro t
  induction t with
  | int k => intro cs d bs h _ _; obtain ⟨⟨rfl, h1⟩, _⟩ := h; exact okAll_cons_mk ⟨rfl, h1⟩ okAll_nil
  | bool => intro cs d bs h _ _; obtain ⟨h1, _⟩ := h; rw [show cs = _ from h1]; exact okAll_cons_mk ⟨rfl, trivial⟩ okAll_nil
  | str => intro cs d bs h _ _; obtain ⟨⟨rfl, h1⟩, _⟩ := h; exact okAll_cons_mk ⟨rfl, h1⟩ okAll_nil
  | sl e ih =>
    intro cs d bs h hz hb
    rcases h with ⟨rfl, rfl, rfl⟩ | ⟨b, cap, vals, el, rfl, rfl, h1, h2, h3, h4, h5⟩
    · exact okAll_cons_mk ⟨none, 0, rfl, Nat.le_refl _, Nat.zero_le _, fun i hi => absurd hi (Nat.not_lt_zero _)⟩ okAll_nil
    · refine okAll_cons_mk ⟨some ⟨b, 0, none⟩, cap, rfl, h3, h4, fun i hi => ?_⟩ okAll_nil
      obtain ⟨es, g1, g2, g3⟩ := h5 i hi
      refine ⟨⟨b, 0, none⟩, rfl, rfl, hb b (List.mem_singleton.2 rfl), es, g1, fun j hj => ?_, g3.mono (fun b hb => hz b hb) (fun _ _ => rfl)⟩
      rw [Nat.zero_add, show w.cell? ⟨b, i * e.size + j, none⟩ = vals[i * e.size + j]? from by simp [World.cell?, h1]]
      exact g2 j _ (List.getElem?_eq_getElem hj)
  | st t ih => exact fun h hz hb => ih h hz hb
  | pr a b iha ihb =>
    intro cs d bs h hz hb
    obtain ⟨c1, c2, b1, b2, rfl, rfl, h1, h2⟩ := h
    unfold frz
    rw [lapp_eq]
    exact okAll_append (iha h1 hz (fun b h => hb b (List.mem_append_left _ h))) (ihb h2 hz (fun b h => hb b (List.mem_append_right _ h)))
  | ptr t ih => intro cs d bs h _ _; exact h.elim
  | clo f t ih => intro cs d bs h _ _; exact h.elim
  | gs wh e ih => intro cs d bs h _ _; exact h.elim

theorem frzS_ok {Z1 : Nat → Prop} {ts : List Ty} {vs : List Value} {d : Tup ts} {bs : List (Option Nat)} (h : OwnVals Z1 w ts vs d bs) (hz : ∀ b, Z1 b → V.Z true b) (hb : ∀ b, some b ∈ bs → V.Z true b) : S.ok V hp w (frzS ts d) (oneOr vs) := by
  match ts, d, h with
  | [], d, h => exact trivial
  | [t], d, h =>
    obtain ⟨v, rfl, cs, h1, h2⟩ := h
    have g1 := frz_ok (V := V) (hp := hp) h2 hz hb
    show S.ok V hp w (topS (isSt t, frz t d)) v
    unfold topV at h1
    unfold topS
    simp only
    split
    · rename_i ht; rw [if_pos ht] at h1; exact ⟨_, h1, by simpa using g1⟩
    · rename_i ht
      rw [if_neg ht] at h1
      subst h1
      match hf : frz t d, g1 with
      | [c], g1 => exact g1.2 0 c v rfl rfl
      | [], g1 => exact trivial
      | _ :: _ :: _, g1 => exact trivial
  | t :: u :: r, d, h => exact trivial

theorem good_callR {base : Nat} {M : LM} {w0 w' : World} (m : Mem base M w0 V hp w) {nx : Nat} {fz : Bool} {rs : List Ty} {d : Tup rs} {v : Value} (hr : ResOk w w' rs v d) (hd : ∀ j, j < (callRes fz rs d nx).2.length → hp (nx + j) = .dead) :
    ∃ V', Good base M w0 V hp w nx (callRes fz rs d nx).1 (callRes fz rs d nx).2 (hyOf rs d) v w' V' := by
  cases fz with
  | false => exact good_call m hr hd
  | true =>
    obtain ⟨⟨Z1, bs, vs, rfl, h1, h2, h3, h4⟩, hk⟩ := hr
    have hd' : ∀ j, j < ([] : List Ent).length → hp (nx + j) = .dead := fun j hj => absurd hj (Nat.not_lt_zero _)
    have x := VX.of_kept m hk (nx := nx) (es := []) (bs := []) (Z := fun b => w.heap.size ≤ b ∧ b < w'.heap.size) rfl hd'
    have g1 : S.ok (V.ext nx [] (fun b => w.heap.size ≤ b ∧ b < w'.heap.size)) (hpNew hp nx []) w' (frzS rs d) (oneOr vs) := frzS_ok h1 (fun b hb => .inl (.inr (h4 b hb))) (fun b hb => .inl (.inr ⟨(h3 b hb).1, (h3 b hb).2.1⟩))
    refine ⟨_, ⟨m.grow hk rfl hd' (by simp) (fun b hb => by cases hb) (fun b hb => hb) (fun j cs hj => by cases hj) (fun j e he => by cases he) (fun e he => by cases he), x, g1, fun p hp' => ?_⟩⟩
    unfold hyOf at hp'
    split at hp'
    · injection hp' with hp'; subst hp'; exact ownVals_wf h1
    · cases hp'

end
end Go.SX


/- Every operation that writes nothing. No condition. -/
namespace Go.SX
open Go.RowKit
set_option linter.unusedVariables false
set_option linter.unusedSimpArgs false

/-- A function that has a body, and is none that the machine answers by itself. -/
def CallOk (P : Program) (f : FuncId) : Prop := ∃ fn, P.funcs[f]? = some fn ∧ (fn.name == "runtime.NumGoroutine") = false ∧ fn.body.isNone = false

def GamOk (P : Program) (Γ : FuncId → Option PC) : Prop := ∀ f c, Γ f = some c → PureC P f c ∧ CallOk P f

theorem run_callFunc {P : Program} {f : FuncId} (h : CallOk P f) (args : Array Value) (w : World) : (callFunc f args).run P w = .ok (.enter f args) w := by
  obtain ⟨fn, h1, h2, h3⟩ := h
  simp only [callFunc, Sem.run_bind, run_program, Result.andThen_ok, h1]
  rw [if_neg (by rw [h2]; simp)]
  rw [if_neg (by rw [h3]; simp)]
  rfl

section
variable {P : Program} {T : Tab} {Γ : FuncId → Option PC} {base : Nat} {M : LM} {w0 : World} {V : Vl} {hp lk : Nat → Ent} {w : World} {a : Act} {ev : Operand → S}
  {next : Act → World → Prop} {Q : Exit → Act → World → Prop}

theorem wp_value {o : Oper} {v : Value} {w' : World} (hr : (execOp a.eval o).run P w = .ok (.value v) w') (h : next (a.put o.dst v) w') : o.wp P a w next Q := by
  unfold Oper.wp
  rw [hr]
  exact h

theorem wp_pure (m : Mem base M w0 V hp w) {o : Oper} {r : QR} {e : Sem Value} {nx : Nat} (hp' : PureRun P V hp w r e) (he : execOp a.eval o = (do pure (.value (← e))))
    (h : ∀ v w' V', Good base M w0 V hp w nx r.res r.new r.hy v w' V' → next (a.put o.dst v) w') : o.wp P a w next Q := by
  obtain ⟨h1, h2, v, h3, h4⟩ := hp'
  refine wp_value (v := v) (w' := w) ?_ (h v w V ?_)
  · rw [he]; simp [h3]
  · rw [h1, h2]; exact good_same m h4

theorem partsOk_map {f : Operand → S} {g : Operand → Value} (h : ∀ x, S.ok V hp w (f x) (g x)) : ∀ l : List (Nat × Operand), PartsOk V hp w (l.map fun p => (p.1, f p.2)) (l.map fun p => (p.1, g p.2))
  | [] => trivial
  | p :: r => ⟨rfl, h p.2, partsOk_map h r⟩

theorem capsOf_ok (hev : ∀ x, S.ok V hp w (ev x) (a.eval x)) : ∀ {l : List Operand} {ns : List Nat}, capsOf (l.map ev) = some ns →
    l.map a.eval = ns.map (fun n => Value.pointer (some ⟨V.blk n, 0, none⟩)) ∧ ∀ n ∈ ns, V.has n ∧ ∃ cs, hp n = .bx cs
  | [], ns, h => by simp only [List.map_nil, capsOf, Option.some.injEq] at h; subst h; exact ⟨rfl, fun n hn => by simp at hn⟩
  | x :: l, ns, h => by
    simp only [List.map_cons] at h
    unfold capsOf at h
    split at h
    · rename_i heq; cases heq
    · rename_i n r heq
      simp only [List.cons.injEq] at heq
      obtain ⟨e1, e2⟩ := heq
      rw [omap_eq] at h
      cases hc : capsOf r with
      | none => rw [hc] at h; cases h
      | some ms =>
        rw [hc] at h
        simp only [Option.map_some, Option.some.injEq] at h
        subst h
        rw [← e2] at hc
        obtain ⟨g1, g2⟩ := capsOf_ok hev hc
        have hx := hev x
        rw [e1] at hx
        obtain ⟨k1, k2, k3⟩ := hx
        refine ⟨by simp [g1, k1], fun q hq => ?_⟩
        simp only [List.mem_cons] at hq
        rcases hq with rfl | hq
        · exact ⟨k2, k3⟩
        · exact g2 q hq
    · cases h

theorem args_one (hev : ∀ x, S.ok V hp w (ev x) (a.eval x)) {l : Array Operand} {x : C} (h : l.toList.map ev = [.c x]) : ∃ y, l = #[y] ∧ C.ok V hp w x (a.eval y) := by
  cases l with
  | mk l =>
    cases l with
    | nil => cases h
    | cons y l =>
      simp only [List.map_cons, List.cons.injEq, List.map_eq_nil_iff] at h
      obtain ⟨h1, rfl⟩ := h
      have := hev y
      rw [h1] at this
      exact ⟨y, rfl, this⟩

theorem args_two (hev : ∀ x, S.ok V hp w (ev x) (a.eval x)) {l : Array Operand} {x y : C} (h : l.toList.map ev = [.c x, .c y]) : ∃ p q, l = #[p, q] ∧ C.ok V hp w x (a.eval p) ∧ C.ok V hp w y (a.eval q) := by
  cases l with
  | mk l =>
    cases l with
    | nil => cases h
    | cons p l =>
      cases l with
      | nil => simp at h
      | cons q l =>
        simp only [List.map_cons, List.cons.injEq, List.map_eq_nil_iff] at h
        obtain ⟨h1, h2, rfl⟩ := h
        have g1 := hev p
        have g2 := hev q
        rw [h1] at g1
        rw [h2] at g2
        exact ⟨p, q, rfl, g1, g2⟩

theorem wp_callC {o : Oper} {c : Call} {g : FuncId} {x : Operand} {caps : Array Value} (ho : o.op = .call c) (hc : c.callee = .value x) (hv : a.eval x = .func (.func g) #[] caps) (hk : CallOk P g) {R : Ending → World → Prop}
    (hcall : Calls P g (c.args.map a.eval ++ caps) w R) (h : ∀ e w', R e w' → ∃ v, e = .returned v ∧ next (a.put o.dst v) w') : o.wp P a w next Q := by
  unfold Oper.wp execOp
  simp only [ho, resolve, hc, hv, Deferred.ofValue, invoke, Sem.run_bind, Sem.run_pure, Result.andThen_ok, Array.append_empty, Array.empty_append, run_callFunc hk]
  refine Calls.mono hcall fun e w' hr => ?_
  obtain ⟨v, rfl, hn⟩ := h e w' hr
  exact hn

theorem wp_call {o : Oper} {c : Call} {g : FuncId} {x : Operand} (ho : o.op = .call c) (hc : c.callee = .value x) (hx : C.ok V hp w (.fn g []) (a.eval x)) (hk : CallOk P g) {R : Ending → World → Prop}
    (hcall : Calls P g (c.args.map a.eval) w R) (h : ∀ e w', R e w' → ∃ v, e = .returned v ∧ next (a.put o.dst v) w') : o.wp P a w next Q :=
  wp_callC (caps := #[]) ho hc (by rw [hx.1]; rfl) hk (by rw [Array.append_empty]; exact hcall) h

theorem qop_ok (hT : TabOk P T) (hΓ : GamOk P Γ) (m : Mem base M w0 V hp w) (hl : LkOk V hp lk w) (hev : ∀ x, S.ok V hp w (ev x) (a.eval x)) {o : Oper} {r : QR} {nx : Nat}
    (hq : qop T Γ lk nx ev o.op = some r) (hd : ∀ j, j < r.new.length → hp (nx + j) = .dead) (hob : ∀ p, r.ob = some p → p)
    (h : ∀ v w' V', Good base M w0 V hp w nx r.res r.new r.hy v w' V' → next (a.put o.dst v) w') : o.wp P a w next Q := by
  obtain ⟨dst, op, ty, pos, aft, gd⟩ := o
  simp only at hq
  cases op with
  | move x =>
    simp only [qop, Option.some.injEq] at hq; subst hq
    exact wp_value (v := a.eval x) rfl (h _ _ _ (good_same m (hev x)))
  | assign x =>
    simp only [qop, Option.some.injEq] at hq; subst hq
    exact wp_value (v := a.eval x) rfl (h _ _ _ (good_same m (hev x)))
  | pick c x y =>
    simp only [qop, omap_eq] at hq
    cases hs : qpick (ev c) (ev x) (ev y) with
    | none => rw [hs] at hq; cases hq
    | some s =>
      rw [hs] at hq
      simp only [Option.map_some, Option.some.injEq] at hq; subst hq
      obtain ⟨p, h1, h2⟩ := qpick_run hs (hev c) (hev x) (hev y)
      refine wp_value (v := if p then a.eval x else a.eval y) ?_ (h _ _ _ (good_same m h2))
      simp only [execOp, h1, Sem.run_bind, Sem.run_pure, Result.andThen_ok]
  | alloc t =>
    simp only [qop] at hq
    unfold qalloc at hq
    cases ht : T t with
    | none => rw [ht] at hq; cases hq
    | some ti =>
      rw [ht] at hq
      simp only at hq
      obtain ⟨⟨i, z, g1, g2, g3, g4, g5, g6⟩, g7, g8⟩ := ti_ok (hT t ti ht)
      have hd0 : hp nx = .dead := by
        split at hq <;> (simp only [Option.some.injEq] at hq; subst hq; exact hd 0 (by simp))
      split at hq
      · rename_i len te es n ety hk
        simp only [Option.some.injEq] at hq; subst hq
        obtain ⟨a0, a1, ⟨i2, a2, a3⟩, a4, a5, a6, a7, a8, a9⟩ := ti_arr (hT t ti ht) hk
        obtain ⟨V', hg⟩ := good_alloc m hd0 ti.zero.toArray t (.row true ety (List.replicate n ety.dflt)) (.c (.elt nx 0 0)) (.pointer (some ⟨w.heap.size, 0, none⟩)) (fun h => h)
          (fun V' hp' w' x k1 k2 k3 k4 => by
            refine ⟨.inr ⟨k1, _, t, by rw [k2]; exact k4, by rw [List.length_replicate]; unfold lenMax; omega, fun j hj => ?_⟩, k1, true, ety, _, k3, by rw [List.length_replicate]; omega, by rw [k2, Nat.zero_mul]⟩
            obtain ⟨es', q1, q2, q3⟩ := zeros_arr (Z := V'.Z true) (w' := w') a5 n j hj
            exact ⟨es', q1, fun a u hu => by rw [a0]; simpa using q2 a u hu, q3⟩)
        refine wp_value ?_ (h _ _ _ hg)
        simp only [execOp, Instr.alloc, Sem.run_bind, run_zeroValue g1 g4, Result.andThen_ok, newVar, newRow, g5, run_newObj_alloc, Sem.run_pure]
      · simp only [Option.some.injEq] at hq; subst hq
        obtain ⟨V', hg⟩ := good_alloc m hd0 ti.zero.toArray t (.bx (lmap cell ti.zero)) (.c (.box nx 0)) (.pointer (some ⟨w.heap.size, 0, none⟩)) (fun h => h)
          (fun V' hp' w' x k1 k2 k3 k4 => ⟨⟨_, t, by rw [k2]; exact k4, by simpa using g6 V' hp' w'⟩, by rw [← k2]; exact ⟨rfl, k1, _, k3⟩⟩)
        refine wp_value ?_ (h _ _ _ hg)
        simp only [execOp, Instr.alloc, Sem.run_bind, run_zeroValue g1 g4, Result.andThen_ok, newVar, newRow, g5, run_newObj_alloc, Sem.run_pure]
  | box t x =>
    simp only [qop] at hq
    cases hc : (ev x).cells with
    | none => rw [hc] at hq; cases hq
    | some cs =>
      rw [hc] at hq
      simp only [Option.some.injEq] at hq; subst hq
      have ho := cells_ok hc (hev x)
      have hd0 : hp nx = .dead := hd 0 (by simp)
      obtain ⟨V', hg⟩ := good_alloc m hd0 (a.eval x).cells t (.bx cs) (.c (.box nx 0)) (.pointer (some ⟨w.heap.size, 0, none⟩)) (fun h => h)
        (fun V' hp' w' x k1 k2 k3 k4 => ⟨⟨_, t, by rw [k2]; exact k4, okAll_ext x ho⟩, by rw [← k2]; exact ⟨rfl, k1, _, k3⟩⟩)
      refine wp_value ?_ (h _ _ _ hg)
      simp only [execOp, Instr.box, Sem.run_bind, newVar, newRow, run_newObj_alloc, Result.andThen_ok, Sem.run_pure]
  | build t parts =>
    simp only [qop, lmap_eq] at hq
    have hpt := partsOk_map hev parts.toList
    exact wp_pure m (qbuild_run (qs := parts.map fun (i, x) => (i, a.eval x)) hT hq (by simpa using hpt)) rfl h
  | buildSlice t n parts =>
    simp only [qop, lmap_eq] at hq
    have hpt := partsOk_map hev parts.toList
    have hnew : hp nx = .dead := by
      have hne : 0 < r.new.length := by
        unfold qbuildSlice at hq
        cases he : elemTy T t with
        | none => rw [he] at hq; cases hq
        | some e =>
          rw [he] at hq
          simp only at hq
          unfold qbuildSliceAt at hq
          split at hq
          · rw [omap_eq] at hq
            cases hs : seqParts lk (litTy e (parts.toList.map fun p => (p.1, ev p.2))) 0 (parts.toList.map fun p => (p.1, ev p.2)) with
            | none => rw [hs] at hq; cases hq
            | some xs => rw [hs] at hq; simp only [Option.map_some, Option.some.injEq] at hq; subst hq; simp
          · cases hq
      exact hd 0 hne
    obtain ⟨v, w', V', h1, h2⟩ := qbuildSlice_run (qs := parts.map fun (i, x) => (i, a.eval x)) hT m hnew hq (by simpa using hpt)
    refine wp_value (v := v) (w' := w') ?_ (h _ _ _ h2)
    simp only [execOp, Sem.run_bind, h1, Result.andThen_ok, Sem.run_pure]
  | load t p =>
    simp only [qop] at hq
    have hp1 := hev p
    cases hc : ev p with
    | c x =>
      rw [hc] at hq hp1
      exact wp_pure m (qload_run hT hl hq hp1) rfl h
    | _ => rw [hc] at hq; cases hq
  | nilCheck x =>
    simp only [qop] at hq
    split at hq
    · rename_i hptr
      simp only [Option.some.injEq] at hq; subst hq
      have hx := hev x
      refine wp_value (v := a.eval x) (w' := w) ?_ (h _ _ _ (good_same m hx))
      cases hc : ev x with
      | c y =>
        rw [hc] at hptr hx
        cases y with
        | box n off => simp only [execOp, hx.1, Sem.run_bind, Sem.run_pure]
        | at_ fr t d off => obtain ⟨b, o, e1, _⟩ := hx; simp only [execOp, e1, Sem.run_bind, Sem.run_pure]
        | elt n i off => obtain ⟨_, _, _, _, _, _, e1⟩ := hx; simp only [execOp, e1, Sem.run_bind, Sem.run_pure]
        | fn f caps => simp only [execOp, hx.1, Sem.run_bind, Sem.run_pure]
        | _ => cases hptr
      | _ => rw [hc] at hptr; cases hptr
    · cases hq
  | binOp op xt x y yt =>
    simp only [qop] at hq
    have h1 := hev x
    have h2 := hev y
    cases hc : ev x with
    | c u =>
      cases hc' : ev y with
      | c v => rw [hc, hc'] at hq; rw [hc] at h1; rw [hc'] at h2; exact wp_pure m (qbinT_run hT hq hob h1 h2 x y) rfl h
      | _ => rw [hc, hc'] at hq; cases hq
    | agg u =>
      cases hc' : ev y with
      | agg v =>
        rw [hc, hc'] at hq; rw [hc] at h1; rw [hc'] at h2
        obtain ⟨us, e1, g1⟩ := h1
        obtain ⟨vs, e2, g2⟩ := h2
        have hr := qbinA_run hT hq g1 g2 x y
        rw [← e1, ← e2] at hr
        exact wp_pure m hr rfl h
      | _ => rw [hc, hc'] at hq; cases hq
    | _ => rw [hc] at hq; cases hq
  | unOp op xt x =>
    simp only [qop] at hq
    have h1 := hev x
    cases hc : ev x with
    | c u => rw [hc] at hq h1; exact wp_pure m (qun_run hq h1) rfl h
    | _ => rw [hc] at hq; cases hq
  | convert s t x =>
    simp only [qop] at hq
    have h1 := hev x
    split at hq
    · rename_i ti k sz by' z ty' teq k' n hs heq hx
      simp only [Option.some.injEq] at hq; subst hq
      rw [hx] at h1
      obtain ⟨e1, _⟩ := ok_int (V := V) (hp := hp) (w := w) h1
      have hu := int_ok (ti_ok (hT t _ heq)).2.2
      obtain ⟨d, hd', _⟩ := ti_und (hT s ti hs)
      refine wp_value (v := .int k (k.wrap n)) (w' := w) ?_ (h _ _ _ (good_same m ⟨rfl, wrap_range _ _⟩))
      simp [execOp, convert, run_underlying hd', run_underlying hu, e1, Conv.intToInt]
    · rename_i e es eb ety sz by' z ty' teq sz2 by2 z2 ty2 teq2 c heq1 heq2 hx
      split at hq
      · rename_i sz3 by3 z3 ty3 teq3 heq3
        cases hrd : rdSl lk (.int .u8) c with
        | none => rw [hrd] at hq; cases hq
        | some xs =>
          rw [hrd] at hq
          simp only [omap, Option.some.injEq] at hq; subst hq
          rw [hx] at h1
          obtain ⟨hus, _⟩ := slice_ok (ti_ok (hT s _ heq1)).2.2
          have hue := int_ok (ti_ok (hT e _ heq3)).2.2
          have hut : Program.underlying P t = some .string := by
            have hk := (ti_ok (hT t _ heq2)).2.2
            unfold kindB at hk
            simp only at hk
            split at hk <;> first | assumption | cases hk
          obtain ⟨av, cap, he1, hcap, hlen, hcells⟩ := rdSl_ok hl hrd h1
          have he1 : a.eval x = .slice av xs.length cap := by injection he1
          have hsz : (strOfNums xs).size ≤ maxLen := by
            rw [strOfNums_size]
            unfold lenMax at hlen
            unfold maxLen
            omega
          have hconv : (convert s t (.slice av xs.length cap)).run P w = .ok (.string (strOfNums xs)) w := by
            match xs, hcells with
            | [], _ =>
              show (convert s t (.slice av 0 cap)).run P w = _
              rw [run_convert_bytes_string w s t e av 0 cap hus hue hut]
              cases av <;> simp [Conv.bytesToString, loadCells]
              all_goals rfl
            | y :: ys, hcells =>
              obtain ⟨ad, e5, e6, _, _⟩ := hcells 0 (by simp)
              obtain ⟨b, o, sp⟩ := ad
              simp only at e6
              subst e6; subst e5
              refine run_convert_bytes_arg w s e hus hue b o _ cap (y :: ys) rfl (fun i hi => ?_) t hut
              obtain ⟨ad, f1, f2, _, cs, f3, f4, f5⟩ := hcells i hi
              injection f1 with f1
              subst f1
              obtain ⟨f6, _⟩ := (f5 : cs = [.int .u8 _] ∧ _)
              subst f6
              have f7 := f4 0 (by simp)
              rw [show (Ty.int IntKind.u8).size = 1 from rfl, Nat.mul_one, Nat.add_zero] at f7
              rw [f7, List.getD_eq_getElem?_getD, List.getElem?_eq_getElem hi]
              rfl
          refine wp_value (v := .string (strOfNums xs)) (w' := w) ?_ (h _ _ _ (good_same m ⟨rfl, hsz⟩))
          simp [execOp, he1, hconv]
      · cases hq
    · cases hq
  | makeSlice t l c =>
    simp only [qop] at hq
    have h1 := hev l
    have h2 := hev c
    cases hc : ev l with
    | c u =>
      cases hc' : ev c with
      | c v =>
        rw [hc, hc'] at hq; rw [hc] at h1; rw [hc'] at h2
        have hd0 : hp nx = .dead := by
          have hne : 0 < r.new.length := by
            simp only at hq
            unfold qmakeSlice at hq
            split at hq
            · split at hq
              · injection hq with hq; subst hq; simp
              · cases hq
            · cases hq
          exact hd 0 hne
        obtain ⟨x, w', V', g1, g2⟩ := qmakeSlice_run hT m hd0 hq hob h1 h2
        refine wp_value (v := x) (w' := w') ?_ (h _ _ _ g2)
        simp only [execOp, Sem.run_bind, g1, Result.andThen_ok, Sem.run_pure]
      | _ => rw [hc, hc'] at hq; cases hq
    | _ => rw [hc] at hq; cases hq
  | slice t x lo hi mx =>
    cases mx with
    | some _ => cases hq
    | none =>
      simp only [qop, omap_eq] at hq
      have h1 := hev x
      cases hc : ev x with
      | c u =>
        rw [hc] at hq h1
        refine wp_pure m (qslice_run (lv := lo.map a.eval) (hv := hi.map a.eval) hT hl hq hob h1 ?_ ?_ ?_ ?_) rfl h
        · intro s v hs hv
          cases lo with
          | none => cases hs
          | some y => simp only [Option.map_some, Option.some.injEq] at hs hv; rw [← hs, ← hv]; exact hev y
        · cases lo <;> simp
        · intro s v hs hv
          cases hi with
          | none => cases hs
          | some y => simp only [Option.map_some, Option.some.injEq] at hs hv; rw [← hs, ← hv]; exact hev y
        · cases hi <;> simp
      | _ => rw [hc] at hq; cases hq
  | fieldAddr t x f =>
    simp only [qop] at hq
    have h1 := hev x
    cases hc : ev x with
    | c u => rw [hc] at hq h1; exact wp_pure m (qfieldAddr_run hT hq h1) rfl h
    | _ => rw [hc] at hq; cases hq
  | field t x f =>
    simp only [qop] at hq
    have h1 := hev x
    split at hq
    · rename_i off n ag cs hf hx
      rw [hx] at h1
      rw [omap_eq] at hq
      cases hpo : partOf cs off n with
      | none => rw [hpo] at hq; cases hq
      | some r' =>
        rw [hpo] at hq
        simp only [Option.map_some, Option.some.injEq] at hq; subst hq
        obtain ⟨vs, e1, ho⟩ := h1
        obtain ⟨k1, k2⟩ := partOf_some hpo
        obtain ⟨fields, fd, j, d, g1, g2, g3, g4, g5, g6, g7, g8⟩ := field_ok hT hf
        have ho' := okAll_take (okAll_drop ho off) n
        rw [← k1] at ho'
        simp only at g3 g6 g8
        have hlen : ((vs.toList.drop off).take n).length = n := by rw [← ho'.1, k2]
        have hoff : off + n ≤ vs.size := by
          rw [List.length_take, List.length_drop] at hlen
          have : 0 < n := Nat.pos_of_ne_zero g4
          simp at hlen; omega
        cases ag with
        | true =>
          refine wp_value (v := .agg (vs.extract off (off + n))) (w' := w) ?_ (h _ _ _ (good_same m ⟨vs.extract off (off + n), rfl, ?_⟩))
          · simp only [execOp, Instr.field, part, e1, asAgg, Sem.run_bind, run_underlying g1, Result.andThen_ok, g2, Sem.run_pure, run_isAgg g7, g8, if_true, run_sizeOf g5, g6, g3]
          · rw [Array.toList_extract]
            have : (vs.toList.take (off + n)).drop off = (vs.toList.drop off).take n := by rw [List.drop_take]; simp
            simpa [List.extract_eq_take_drop, this] using ho'
        | false =>
          have hn1 : n = 1 ∨ n ≠ 1 := by omega
          have hvs : ∃ v, vs[off]? = some v := ⟨vs[off]'(by have : 0 < n := Nat.pos_of_ne_zero g4; omega), Array.getElem?_eq_getElem _⟩
          obtain ⟨v, hv⟩ := hvs
          refine wp_value (v := v) (w' := w) ?_ (h _ _ _ (good_same m ?_))
          · simp only [execOp, Instr.field, part, e1, asAgg, Sem.run_bind, run_underlying g1, Result.andThen_ok, g2, Sem.run_pure, run_isAgg g7, g8, Bool.false_eq_true, if_false, g3, hv]
          · show S.ok V hp w (topS (false, r')) v
            unfold topS
            simp only [Bool.false_eq_true, if_false]
            split
            · obtain ⟨v', vs', e2, k3, _⟩ := okAll_cons ho'
              have hn : n = 1 := by simpa using k2.symm
              have : ((vs.toList.drop off).take n)[0]? = some v := by
                rw [List.getElem?_take, if_pos (by omega), List.getElem?_drop]
                simpa using hv
              rw [e2] at this
              simp only [List.getElem?_cons_zero, Option.some.injEq] at this
              rw [← this]; exact k3
            · trivial
    · cases hq
  | indexAddr t x i =>
    simp only [qop] at hq
    have h1 := hev x
    have h2 := hev i
    cases hc : ev x with
    | c u =>
      cases hc' : ev i with
      | c v => rw [hc, hc'] at hq; rw [hc] at h1; rw [hc'] at h2; exact wp_pure m (qindexAddr_run hT hl hq hob h1 h2) rfl h
      | _ => rw [hc, hc'] at hq; cases hq
    | _ => rw [hc] at hq; cases hq
  | extract x i =>
    simp only [qop] at hq
    have h1 := hev x
    cases hc : ev x with
    | tup vs =>
      rw [hc] at hq h1
      simp only [omap_eq, nth?_eq] at hq
      cases hv : vs[i]? with
      | none => rw [hv] at hq; cases hq
      | some y =>
        rw [hv] at hq
        simp only [Option.map_some, Option.some.injEq] at hq; subst hq
        obtain ⟨us, e1, e2, e3⟩ := h1
        have hlt := (List.getElem?_eq_some_iff.1 hv).1
        have hu : us[i]? = some (us[i]'(by omega)) := Array.getElem?_eq_getElem _
        refine wp_value (v := us[i]'(by omega)) (w' := w) ?_ (h _ _ _ (good_same m (topS_ok (e3 i y _ hv hu))))
        simp only [execOp, Instr.extract, e1, hu, Sem.run_bind, Sem.run_pure, Result.andThen_ok]
    | _ => rw [hc] at hq; cases hq
  | makeFunc fn first captured =>
    cases fn with
    | func f =>
      simp only [qop] at hq
      split at hq
      · rename_i hfirst
        rw [omap_eq, lmap_eq] at hq
        cases hc : capsOf (captured.toList.map ev) with
        | none => rw [hc] at hq; cases hq
        | some ns =>
          rw [hc] at hq
          simp only [Option.map_some, Option.some.injEq] at hq; subst hq
          obtain ⟨g1, g2⟩ := capsOf_ok hev hc
          refine wp_value (v := .func (.func f) #[] (captured.map a.eval)) (w' := w) ?_ (h _ _ _ (good_same m ⟨?_, g2⟩))
          · have : first = #[] := by cases first; simp_all
            subst this
            simp [execOp, Instr.makeFunc]
          · congr 1
            apply Array.ext'
            simpa using g1
      · cases hq
    | _ => cases hq
  | call c =>
    simp only [qop] at hq
    split at hq
    · rename_i b hb
      rw [lmap_eq] at hq
      unfold qbuiltin at hq
      split at hq
      · rename_i t x hat har
        rw [omap_eq] at hq
        cases hn : lenT T lk t x with
        | none => rw [hn] at hq; cases hq
        | some n =>
          rw [hn] at hq
          simp only [Option.map_some, Option.some.injEq] at hq; subst hq
          obtain ⟨y, hy, hya⟩ := args_one hev har
          have hat' : c.argTypes = #[t] := by cases hca : c.argTypes; rw [hca] at hat; simp at hat; rw [hat]
          obtain ⟨g1, g2⟩ := lenT_run (ty := ty) hT m.ents hl hn hya
          refine wp_value (v := .int .i64 n) (w' := w) ?_ (h _ _ _ (good_same m ⟨rfl, g2⟩))
          simp only [execOp, resolve, hb, invoke, builtin, hy, hat', Sem.run_bind, Sem.run_pure, Result.andThen_ok, List.map_toArray, List.map_cons, List.map_nil, g1]
      · rename_i k x k' y har
        split at hq
        · rename_i hk
          subst hk
          simp only [Option.some.injEq] at hq; subst hq
          obtain ⟨p, q, hpq, h1, h2⟩ := args_two hev har
          obtain ⟨e1, g1⟩ := ok_int h1
          obtain ⟨e2, g2⟩ := ok_int h2
          refine wp_value (v := .int k' (imin x y)) (w' := w) ?_ (h _ _ _ (good_same m ⟨rfl, ?_⟩))
          · simp [execOp, resolve, hb, invoke, builtin, hpq, e1, e2, Builtin.min_, Builtin.min2, imin]
          · show k'.min ≤ imin x y ∧ imin x y ≤ k'.max
            unfold imin; split <;> assumption
        · cases hq
      · rename_i k x k' y har
        split at hq
        · rename_i hk
          subst hk
          simp only [Option.some.injEq] at hq; subst hq
          obtain ⟨p, q, hpq, h1, h2⟩ := args_two hev har
          obtain ⟨e1, g1⟩ := ok_int h1
          obtain ⟨e2, g2⟩ := ok_int h2
          refine wp_value (v := .int k' (imax x y)) (w' := w) ?_ (h _ _ _ (good_same m ⟨rfl, ?_⟩))
          · simp [execOp, resolve, hb, invoke, builtin, hpq, e1, e2, Builtin.max_, Builtin.max2, imax]
          · show k'.min ≤ imax x y ∧ imax x y ≤ k'.max
            unfold imax; split <;> assumption
        · cases hq
      · cases hq
    · rename_i x hx
      have h1 := hev x
      split at hq
      · rename_i g hg
        rw [hg] at h1
        rw [lmap_eq] at hq
        unfold qcall at hq
        cases hc : Γ g with
        | none => rw [hc] at hq; cases hq
        | some pc =>
          rw [hc] at hq
          simp only at hq
          cases hd' : readArgs lk pc.ts (c.args.toList.map ev) with
          | none => rw [hd'] at hq; cases hq
          | some d =>
            rw [hd'] at hq
            simp only [Option.some.injEq] at hq; subst hq
            obtain ⟨k1, k2⟩ := hΓ g pc hc
            have hargs := readArgs_ok hl pc.ts (vs := c.args.toList.map a.eval) hd' (by simp) (fun i s v hi hv => by
              rw [List.getElem?_map] at hi hv
              cases hx' : c.args.toList[i]? with
              | none => rw [hx'] at hi; cases hi
              | some y =>
                rw [hx'] at hi hv
                simp only [Option.map_some, Option.some.injEq] at hi hv
                rw [← hi, ← hv]; exact hev y)
            have hcall := k1 w _ d hargs (hob _ rfl)
            refine wp_call (R := fun e w' => ∃ v, e = .returned v ∧ ResOk w w' pc.rs v (pc.F d)) rfl hx h1 k2 (by rw [show c.args.map a.eval = (c.args.toList.map a.eval).toArray from Array.ext' (by simp)]; exact hcall) (fun e w' hr => ?_)
            obtain ⟨v, rfl, hr⟩ := hr
            obtain ⟨V', hg'⟩ := good_callR m hr hd
            exact ⟨v, rfl, h v w' V' hg'⟩
      · rename_i fr g t d0 hg
        rw [hg] at h1
        rw [lmap_eq, lmap_eq, lapp_eq] at hq
        unfold qcall at hq
        cases hc : Γ g with
        | none => rw [hc] at hq; cases hq
        | some pc =>
          rw [hc] at hq
          simp only at hq
          cases hd' : readArgs lk pc.ts (c.args.toList.map ev ++ (expand fr t d0).map S.c) with
          | none => rw [hd'] at hq; cases hq
          | some d =>
            rw [hd'] at hq
            simp only [Option.some.injEq] at hq; subst hq
            obtain ⟨k1, k2⟩ := hΓ g pc hc
            have h1' : RdC (V.Z fr) w (.clo g t) [a.eval x] d0 := h1
            obtain ⟨caps, e1, e2⟩ := h1'
            injection e1 with e1 _
            have ho := ok_expand (V := V) (hp := hp) fr t e2
            have hargs := readArgs_ok hl pc.ts (vs := c.args.toList.map a.eval ++ caps.toList) hd' (by simp [ho.1]) (fun i s v hi hv => by
              rcases Nat.lt_or_ge i c.args.toList.length with hlt | hge
              · rw [List.getElem?_append_left (by simpa using hlt), List.getElem?_map] at hi
                rw [List.getElem?_append_left (by simpa using hlt), List.getElem?_map] at hv
                cases hx' : c.args.toList[i]? with
                | none => rw [hx'] at hi; cases hi
                | some y =>
                  rw [hx'] at hi hv
                  simp only [Option.map_some, Option.some.injEq] at hi hv
                  rw [← hi, ← hv]; exact hev y
              · rw [List.getElem?_append_right (by simpa using hge), List.getElem?_map] at hi
                rw [List.getElem?_append_right (by simpa using hge)] at hv
                simp only [List.length_map] at hi hv
                cases hy : (expand fr t d0)[i - c.args.toList.length]? with
                | none => rw [hy] at hi; cases hi
                | some y =>
                  rw [hy] at hi
                  simp only [Option.map_some, Option.some.injEq] at hi
                  rw [← hi]
                  exact ho.2 _ y v hy hv)
            have hcall := k1 w _ d hargs (hob _ rfl)
            refine wp_callC (R := fun e w' => ∃ v, e = .returned v ∧ ResOk w w' pc.rs v (pc.F d)) rfl hx e1 k2 (by rw [show c.args.map a.eval ++ caps = (c.args.toList.map a.eval ++ caps.toList).toArray from Array.ext' (by simp)]; exact hcall) (fun e w' hr => ?_)
            obtain ⟨v, rfl, hr⟩ := hr
            obtain ⟨V', hg'⟩ := good_callR m hr hd
            exact ⟨v, rfl, h v w' V' hg'⟩
      · cases hq
    · cases hq
  | _ => cases hq
end
end Go.SX

