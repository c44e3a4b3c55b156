/- The data that a Go value of plain types reads as, and what keeps such a reading: types, typed data, readings of cells. No condition. -/
import Derived.Orders
import Derived.Below
import GoSem.ClaimData
namespace Go.SX
open Go.RowKit
set_option linter.unusedVariables false

/-- Types of data: 'st' a struct (its value is an aggregate), 'pr' two parts, one behind the other; 'ptr' the address of a datum, 'clo' a function that holds captured addresses. -/
inductive Ty where
  | int (k : IntKind)
  | bool
  | str
  | sl (e : Ty)
  | st (t : Ty)
  | pr (a b : Ty)
  | ptr (t : Ty)
  | clo (f : Nat) (t : Ty)
  deriving DecidableEq

@[reducible] def Ty.den : Ty → Type
  | .int _ => Int
  | .bool => Bool
  | .str => ByteArray
  | .sl e => List e.den
  | .st t => t.den
  | .pr a b => a.den × b.den
  | .ptr t => t.den
  | .clo _ t => t.den

def Ty.size : Ty → Nat
  | .st t => t.size
  | .pr a b => a.size + b.size
  | _ => 1

/-- The zero value. -/
def Ty.dflt : (t : Ty) → t.den
  | .int _ => (0 : Int)
  | .bool => false
  | .str => ByteArray.empty
  | .sl _ => []
  | .st t => t.dflt
  | .pr a b => (a.dflt, b.dflt)
  | .ptr t => t.dflt
  | .clo _ t => t.dflt

/-- A type without slices. -/
def Ty.flat : Ty → Bool
  | .sl _ => false
  | .st t => t.flat
  | .pr a b => a.flat && b.flat
  | .ptr _ => false
  | .clo _ _ => false
  | _ => true

/-- A type that has a zero value here. -/
def Ty.plain : Ty → Bool
  | .st t => t.plain
  | .pr a b => a.plain && b.plain
  | .ptr _ => false
  | .clo _ _ => false
  | _ => true

def lenMax : Nat := 9223372036854775807

/-- The data that some value has. -/
def Ty.wf : (t : Ty) → t.den → Prop
  | .int k, n => k.min ≤ n ∧ n ≤ k.max
  | .bool, _ => True
  | .str, s => s.size ≤ maxLen
  | .sl e, xs => xs.length ≤ lenMax ∧ ∀ x ∈ xs, e.wf x
  | .st t, d => t.wf d
  | .pr a b, d => a.wf d.1 ∧ b.wf d.2
  | .ptr t, d => t.wf d
  | .clo _ t, d => t.wf d

/-- The cells from 'off' on in block 'b' are 'cs'. -/
def cellsAt (w : World) (b off : Nat) (cs : List Value) : Prop := ∀ j (h : j < cs.length), w.cell? ⟨b, off + j, none⟩ = some cs[j]

/-- The cells 'cs' read as 'd', by memory in blocks of 'Z'. -/
def RdC (Z : Nat → Prop) (w : World) : (t : Ty) → List Value → t.den → Prop
  | .int k, cs, n => cs = [.int k n] ∧ k.min ≤ n ∧ n ≤ k.max
  | .bool, cs, b => cs = [.bool b]
  | .str, cs, s => cs = [.string s] ∧ s.size ≤ maxLen
  | .sl e, cs, xs => ∃ a cap, cs = [.slice a xs.length cap] ∧ xs.length ≤ cap ∧ xs.length ≤ lenMax ∧
      ∀ i (h : i < xs.length), ∃ ad : Addr, a = some ad ∧ ad.spot = none ∧ Z ad.block ∧
        ∃ es, es.length = e.size ∧ cellsAt w ad.block (ad.off + i * e.size) es ∧ RdC Z w e es xs[i]
  | .st t, cs, d => RdC Z w t cs d
  | .pr a b, cs, d => ∃ c1 c2, cs = c1 ++ c2 ∧ RdC Z w a c1 d.1 ∧ RdC Z w b c2 d.2
  | .ptr t, cs, d => ∃ b o, cs = [.pointer (some ⟨b, o, none⟩)] ∧ Z b ∧ ∃ es, es.length = t.size ∧ cellsAt w b o es ∧ RdC Z w t es d
  | .clo f t, cs, d => ∃ caps : Array Value, cs = [.func (.func f) #[] caps] ∧ RdC Z w t caps.toList d

/-- Below, 'w' and 'w'' agree on the blocks of Z. -/
def Agree (Z : Nat → Prop) (w w' : World) : Prop := ∀ b, Z b → w'.heap[b]? = w.heap[b]?

theorem Agree.refl (Z : Nat → Prop) (w : World) : Agree Z w w := fun _ _ => rfl
theorem Agree.trans {Z : Nat → Prop} {a b c : World} (h : Agree Z a b) (k : Agree Z b c) : Agree Z a c := fun x hx => (k x hx).trans (h x hx)
theorem Agree.mono {Z Z' : Nat → Prop} {a b : World} (h : Agree Z a b) (hz : ∀ x, Z' x → Z x) : Agree Z' a b := fun x hx => h x (hz x hx)

theorem cellsAt_agree {w w' : World} {b off : Nat} {cs : List Value} (hb : w'.heap[b]? = w.heap[b]?) (h : cellsAt w b off cs) : cellsAt w' b off cs :=
  fun j hj => (World.cell?_of_block hb).trans (h j hj)

theorem RdC.mono {Z Z' : Nat → Prop} {w w' : World} (hz : ∀ b, Z b → Z' b) (ha : Agree Z w w') : ∀ {t : Ty} {cs : List Value} {d : t.den}, RdC Z w t cs d → RdC Z' w' t cs d := by
  intro t
  induction t with
  | int k => exact fun h => h
  | bool => exact fun h => h
  | str => exact fun h => h
  | sl e ih =>
    intro cs xs h
    obtain ⟨a, cap, h1, h2, h3, h4⟩ := h
    refine ⟨a, cap, h1, h2, h3, fun i hi => ?_⟩
    obtain ⟨ad, e1, e2, e3, es, e4, e5, e6⟩ := h4 i hi
    exact ⟨ad, e1, e2, hz _ e3, es, e4, cellsAt_agree (ha _ e3) e5, ih e6⟩
  | st t ih => exact fun h => ih h
  | pr a b iha ihb =>
    intro cs d h
    obtain ⟨c1, c2, h1, h2, h3⟩ := h
    exact ⟨c1, c2, h1, iha h2, ihb h3⟩
  | ptr t ih =>
    intro cs d h
    obtain ⟨b, o, h1, h2, es, h3, h4, h5⟩ := h
    exact ⟨b, o, h1, hz b h2, es, h3, cellsAt_agree (ha b h2) h4, ih h5⟩
  | clo f t ih =>
    intro cs d h
    obtain ⟨caps, h1, h2⟩ := h
    exact ⟨caps, h1, ih h2⟩

theorem RdC.length {Z : Nat → Prop} {w : World} : ∀ {t : Ty} {cs : List Value} {d : t.den}, RdC Z w t cs d → cs.length = t.size := by
  intro t
  induction t with
  | int k => intro cs d h; rw [h.1]; rfl
  | bool => intro cs d h; rw [show cs = _ from h]; rfl
  | str => intro cs d h; rw [h.1]; rfl
  | sl e ih => intro cs d h; obtain ⟨a, cap, h1, _⟩ := h; rw [h1]; rfl
  | st t ih => exact fun h => ih h
  | pr a b iha ihb =>
    intro cs d h
    obtain ⟨c1, c2, h1, h2, h3⟩ := h
    rw [h1, List.length_append, iha h2, ihb h3]; rfl
  | ptr t ih => intro cs d h; obtain ⟨b, o, h1, _⟩ := h; rw [h1]; rfl
  | clo f t ih => intro cs d h; obtain ⟨caps, h1, _⟩ := h; rw [h1]; rfl

theorem RdC.wf {Z : Nat → Prop} {w : World} : ∀ {t : Ty} {cs : List Value} {d : t.den}, RdC Z w t cs d → t.wf d := by
  intro t
  induction t with
  | int k => exact fun h => h.2
  | bool => exact fun h => trivial
  | str => exact fun h => h.2
  | sl e ih =>
    intro cs xs h
    obtain ⟨a, cap, h1, h2, h3, h4⟩ := h
    refine ⟨h3, fun x hx => ?_⟩
    obtain ⟨i, hi, rfl⟩ := List.getElem_of_mem hx
    obtain ⟨ad, e1, e2, e3, es, e4, e5, e6⟩ := h4 i hi
    exact ih e6
  | st t ih => exact fun h => ih h
  | pr a b iha ihb =>
    intro cs d h
    obtain ⟨c1, c2, h1, h2, h3⟩ := h
    exact ⟨iha h2, ihb h3⟩
  | ptr t ih => intro cs d h; obtain ⟨b, o, h1, h2, es, h3, h4, h5⟩ := h; exact ih h5
  | clo f t ih => intro cs d h; obtain ⟨caps, h1, h2⟩ := h; exact ih h2

/-- Flat data lies in the cells alone. -/
theorem RdC.flat {Z Z' : Nat → Prop} {w w' : World} : ∀ {t : Ty}, t.flat = true → ∀ {cs : List Value} {d : t.den}, RdC Z w t cs d → RdC Z' w' t cs d := by
  intro t
  induction t with
  | int k => exact fun _ _ _ h => h
  | bool => exact fun _ _ _ h => h
  | str => exact fun _ _ _ h => h
  | sl e ih => intro h; cases h
  | st t ih => exact fun hf _ _ h => ih hf h
  | pr a b iha ihb =>
    intro hf cs d h
    obtain ⟨c1, c2, h1, h2, h3⟩ := h
    have hf' : (a.flat && b.flat) = true := hf
    simp only [Bool.and_eq_true] at hf'
    exact ⟨c1, c2, h1, iha hf'.1 h2, ihb hf'.2 h3⟩
  | ptr t ih => intro h; cases h
  | clo f t ih => intro h; cases h

/-- A cell's value is one cell's. -/
theorem RdC.oneCell {Z : Nat → Prop} {w : World} : ∀ {t : Ty} {cs : List Value} {d : t.den}, RdC Z w t cs d → ∀ v ∈ cs, v.oneCell' = true := by
  intro t
  induction t with
  | int k => intro cs d h; rw [h.1]; simp [Value.oneCell']
  | bool => intro cs d h; rw [show cs = _ from h]; simp [Value.oneCell']
  | str => intro cs d h; rw [h.1]; simp [Value.oneCell']
  | sl e ih => intro cs d h; obtain ⟨a, cap, h1, _⟩ := h; rw [h1]; simp [Value.oneCell']
  | st t ih => exact fun h => ih h
  | pr a b iha ihb =>
    intro cs d h
    obtain ⟨c1, c2, h1, h2, h3⟩ := h
    intro v hv
    rw [h1, List.mem_append] at hv
    exact hv.elim (iha h2 v) (ihb h3 v)
  | ptr t ih => intro cs d h; obtain ⟨b, o, h1, _⟩ := h; rw [h1]; simp [Value.oneCell']
  | clo f t ih => intro cs d h; obtain ⟨caps, h1, _⟩ := h; rw [h1]; simp [Value.oneCell']

theorem RdC.dflt_int {Z : Nat → Prop} {w : World} (k : IntKind) : RdC Z w (.int k) [.int k 0] (Ty.dflt (.int k)) := ⟨rfl, by cases k <;> decide, by cases k <;> decide⟩

/-- The cells of the zero value. -/
def Ty.zeros : Ty → List Value
  | .int k => [.int k 0]
  | .bool => [.bool false]
  | .str => [.string ByteArray.empty]
  | .sl _ => [.slice none 0 0]
  | .st t => t.zeros
  | .pr a b => a.zeros ++ b.zeros
  | .ptr _ => [.pointer none]
  | .clo _ _ => [.nilFunc]

theorem RdC.zero {Z : Nat → Prop} {w : World} : ∀ (t : Ty), t.plain = true → RdC Z w t t.zeros t.dflt := by
  intro t
  induction t with
  | int k => exact fun _ => RdC.dflt_int k
  | bool => exact fun _ => rfl
  | str => exact fun _ => ⟨rfl, by decide⟩
  | sl e ih => exact fun _ => ⟨none, 0, rfl, Nat.le_refl _, Nat.zero_le _, fun i hi => absurd hi (Nat.not_lt_zero _)⟩
  | st t ih => exact fun h => ih h
  | pr a b iha ihb =>
    intro h
    have h' : (a.plain && b.plain) = true := h
    rw [Bool.and_eq_true] at h'
    exact ⟨_, _, rfl, iha h'.1, ihb h'.2⟩
  | ptr t ih => intro h; cases h
  | clo f t ih => intro h; cases h

/-! ### Lists of the executor's own (so that lists of data stay as they are when the executor is run) -/

def nth {α : Type} (d : α) : List α → Nat → α
  | [], _ => d
  | x :: _, 0 => x
  | _ :: r, n + 1 => nth d r n

def nth? {α : Type} : List α → Nat → Option α
  | [], _ => none
  | x :: _, 0 => some x
  | _ :: r, n + 1 => nth? r n

def lset {α : Type} : List α → Nat → α → List α
  | [], _, _ => []
  | _ :: r, 0, y => y :: r
  | x :: r, n + 1, y => x :: lset r n y

def ltake {α : Type} : Nat → List α → List α
  | 0, _ => []
  | _ + 1, [] => []
  | n + 1, x :: r => x :: ltake n r

def ldrop {α : Type} : Nat → List α → List α
  | 0, l => l
  | _ + 1, [] => []
  | n + 1, _ :: r => ldrop n r

def lapp {α : Type} : List α → List α → List α
  | [], ys => ys
  | x :: r, ys => x :: lapp r ys

def lmap {α β : Type} (f : α → β) : List α → List β
  | [] => []
  | x :: r => f x :: lmap f r

def llen {α : Type} : List α → Nat
  | [] => 0
  | _ :: r => llen r + 1

def lall {α : Type} (p : α → Bool) : List α → Bool
  | [] => true
  | x :: r => p x && lall p r

def lany {α : Type} (p : α → Bool) : List α → Bool
  | [] => false
  | x :: r => p x || lany p r

def lrep {α : Type} (x : α) : Nat → List α
  | 0 => []
  | n + 1 => x :: lrep x n

def omap {α β : Type} (f : α → β) : Option α → Option β
  | some x => some (f x)
  | none => none

def obind.{u} {α : Type} {β : Type u} (o : Option α) (f : α → Option β) : Option β :=
  match o with
  | some x => f x
  | none => none

def oelse {α : Type} (o p : Option α) : Option α :=
  match o with
  | some x => some x
  | none => p


theorem nth?_eq {α : Type} : ∀ (l : List α) (n : Nat), nth? l n = l[n]?
  | [], _ => rfl
  | _ :: _, 0 => rfl
  | _ :: r, n + 1 => by simp [nth?, nth?_eq r n]
theorem nth_eq {α : Type} (d : α) : ∀ (l : List α) (n : Nat), nth d l n = (l[n]?).getD d
  | [], _ => rfl
  | _ :: _, 0 => rfl
  | _ :: r, n + 1 => by simp [nth, nth_eq d r n]
theorem lset_eq {α : Type} : ∀ (l : List α) (n : Nat) (y : α), lset l n y = l.set n y
  | [], _, _ => rfl
  | _ :: _, 0, _ => rfl
  | x :: r, n + 1, y => by simp [lset, lset_eq r n y]
theorem ltake_eq {α : Type} : ∀ (n : Nat) (l : List α), ltake n l = l.take n
  | 0, _ => rfl
  | _ + 1, [] => rfl
  | n + 1, x :: r => by simp [ltake, ltake_eq n r]
theorem ldrop_eq {α : Type} : ∀ (n : Nat) (l : List α), ldrop n l = l.drop n
  | 0, _ => rfl
  | _ + 1, [] => rfl
  | n + 1, x :: r => by simp [ldrop, ldrop_eq n r]
theorem lapp_eq {α : Type} : ∀ (l k : List α), lapp l k = l ++ k
  | [], _ => rfl
  | x :: r, k => by simp [lapp, lapp_eq r k]
theorem lmap_eq {α β : Type} (f : α → β) : ∀ (l : List α), lmap f l = l.map f
  | [] => rfl
  | x :: r => by simp [lmap, lmap_eq f r]
theorem llen_eq {α : Type} : ∀ (l : List α), llen l = l.length
  | [] => rfl
  | x :: r => by simp [llen, llen_eq r]
theorem lall_eq {α : Type} (p : α → Bool) : ∀ (l : List α), lall p l = l.all p
  | [] => rfl
  | x :: r => by simp [lall, lall_eq p r]
theorem lany_eq {α : Type} (p : α → Bool) : ∀ (l : List α), lany p l = l.any p
  | [] => rfl
  | x :: r => by simp [lany, lany_eq p r]
theorem lrep_eq {α : Type} (x : α) : ∀ n, lrep x n = List.replicate n x
  | 0 => rfl
  | n + 1 => by simp [lrep, lrep_eq x n, List.replicate_succ]
theorem omap_eq {α β : Type} (f : α → β) (o : Option α) : omap f o = o.map f := by cases o <;> rfl
theorem obind_eq.{u} {α : Type} {β : Type u} (o : Option α) (f : α → Option β) : obind o f = o.bind f := by cases o <;> rfl

end Go.SX
