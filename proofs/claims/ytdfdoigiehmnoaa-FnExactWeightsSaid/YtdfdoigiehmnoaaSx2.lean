/- Symbolic values and states, and when a frame and a world are such. No condition. -/
import Derived.Test.YtdfdoigiehmnoaaSx1
namespace Go.SX
open Go.RowKit
set_option linter.unusedVariables false

/-- What one cell (or a temporary of one cell) is known to hold. 'fr': in memory of this call's own. -/
inductive C where
  | val (v : Value)
  | tru
  | fls
  /-- a slice that reads as 'xs', by memory that nobody writes any more -/
  | rd (fr : Bool) (e : Ty) (xs : List e.den)
  /-- row 'n', whole -/
  | own (n : Nat)
  /-- the first 'h' elements of row 'n' -/
  | pre (n h : Nat)
  /-- a slice that reads as 'xs', by the memory of row 'n' -/
  | brw (n : Nat) (e : Ty) (xs : List e.den)
  /-- the address of cell 'off' of box 'n' -/
  | box (n off : Nat)
  /-- the address of cell 'off' of a datum 'd' in memory that nobody writes any more -/
  | at_ (fr : Bool) (t : Ty) (d : t.den) (off : Nat)
  /-- the address of cell 'off' of element 'i' of row 'n' -/
  | elt (n i off : Nat)
  /-- a function value that has captured boxes -/
  | fn (f : FuncId) (caps : List Nat)
  /-- a function value whose captured addresses lead to memory that nobody writes any more -/
  | clo (fr : Bool) (f : Nat) (t : Ty) (d : t.den)
  | any

/-- What a temporary is known to hold. -/
inductive S where
  | c (x : C)
  | agg (cs : List C)
  | tup (vs : List (Bool × List C))
  | und
  | any
  /-- an array of flat elements -/
  | arr (e : Ty) (xs : List e.den)

/-- What a name of memory stands for. -/
inductive Ent where
  | dead
  | bx (cs : List C)
  | row (fr : Bool) (e : Ty) (xs : List e.den)

structure St where
  ts : List S
  hp : List Ent


def St.ent (st : St) (n : Nat) : Ent := nth .dead st.hp n

def wfV : Value → Prop
  | .int k n => k.min ≤ n ∧ n ≤ k.max
  | .string s => s.size ≤ maxLen
  | .slice a n c => a = none ∧ n = 0 ∧ c = 0
  | .agg _ => False
  | .tuple _ => False
  | _ => True

/-- Where the names lie. 'has n': name 'n' has a block; 'Z0': old memory that is not written; 'Z1': memory of this call's own that is not written any more. -/
structure Vl where
  blk : Nat → Nat
  has : Nat → Prop
  Z0 : Nat → Prop
  Z1 : Nat → Prop

def Vl.Z (V : Vl) (fr : Bool) (b : Nat) : Prop := V.Z1 b ∨ (fr = false ∧ V.Z0 b)

theorem Vl.Z_of_true {V : Vl} {b : Nat} (fr : Bool) (h : V.Z true b) : V.Z fr b := by
  rcases h with h | ⟨h, _⟩
  · exact .inl h
  · cases h
theorem Vl.Z_all {V : Vl} {b : Nat} {fr : Bool} (h : V.Z fr b) : V.Z false b := by
  rcases h with h | ⟨_, h⟩
  · exact .inl h
  · exact .inr ⟨rfl, h⟩

/-- 'v' is the slice of the first 'h' places of row 'n'. -/
def hasRow (V : Vl) (w : World) (n : Nat) (e : Ty) (h : Nat) (v : Value) : Prop :=
  (¬ V.has n ∧ v = .slice none 0 0 ∧ h = 0) ∨
  (V.has n ∧ ∃ cap vals el, v = .slice (some ⟨V.blk n, 0, none⟩) h cap ∧ w.heap[V.blk n]? = some (.cells vals el (0, 0)) ∧ vals.size = cap * e.size ∧ h ≤ cap)

def C.ok (V : Vl) (hp : Nat → Ent) (w : World) : C → Value → Prop
  | .val u, v => v = u ∧ wfV u
  | .tru, v => v = .bool true
  | .fls, v => v = .bool false
  | .rd fr e xs, v => RdC (V.Z fr) w (.sl e) [v] xs
  | .own n, v => ∃ fr e xs, hp n = .row fr e xs ∧ hasRow V w n e xs.length v
  | .pre n h, v => ∃ fr e xs, hp n = .row fr e xs ∧ h ≤ xs.length ∧ hasRow V w n e h v
  | .brw n e xs, v => (∃ fr e' ys, hp n = .row fr e' ys) ∧ RdC (fun b => V.Z false b ∨ (V.has n ∧ b = V.blk n)) w (.sl e) [v] xs
  | .box n off, v => v = .pointer (some ⟨V.blk n, off, none⟩) ∧ V.has n ∧ ∃ cs, hp n = .bx cs
  | .at_ fr t d off, v => ∃ b o, v = .pointer (some ⟨b, o + off, none⟩) ∧ V.Z fr b ∧ ∃ es, es.length = t.size ∧ cellsAt w b o es ∧ RdC (V.Z fr) w t es d
  | .elt n i off, v => V.has n ∧ ∃ fr e xs, hp n = .row fr e xs ∧ i < xs.length ∧ v = .pointer (some ⟨V.blk n, i * e.size + off, none⟩)
  | .fn f caps, v => v = .func (.func f) #[] (caps.map (fun n => Value.pointer (some ⟨V.blk n, 0, none⟩))).toArray ∧ ∀ n ∈ caps, V.has n ∧ ∃ cs, hp n = .bx cs
  | .clo fr f t d, v => RdC (V.Z fr) w (.clo f t) [v] d
  | .any, v => v.oneCell' = true

/-- Pairwise. -/
def okAll (V : Vl) (hp : Nat → Ent) (w : World) (cs : List C) (vs : List Value) : Prop := cs.length = vs.length ∧ ∀ (j : Nat) c v, cs[j]? = some c → vs[j]? = some v → C.ok V hp w c v

def okTop (V : Vl) (hp : Nat → Ent) (w : World) (x : Bool × List C) (v : Value) : Prop :=
  if x.1 then ∃ vs, v = .agg vs ∧ okAll V hp w x.2 vs.toList else okAll V hp w x.2 [v]

def S.ok (V : Vl) (hp : Nat → Ent) (w : World) : S → Value → Prop
  | .c x, v => C.ok V hp w x v
  | .agg cs, v => ∃ vs, v = .agg vs ∧ okAll V hp w cs vs.toList
  | .tup xs, v => ∃ vs, v = .tuple vs ∧ xs.length = vs.size ∧ ∀ (j : Nat) x v, xs[j]? = some x → vs[j]? = some v → okTop V hp w x v
  | .und, v => v = undef
  | .any, _ => True
  | .arr e xs, v => e.flat = true ∧ ∃ vs, v = .agg vs ∧ vs.size = xs.length * e.size ∧ ∀ i (h : i < xs.length), ∃ es, es.length = e.size ∧ (∀ (j : Nat) u, es[j]? = some u → vs[i * e.size + j]? = some u) ∧ RdC (fun _ => False) w e es xs[i]

def Ent.ok (V : Vl) (hp : Nat → Ent) (w : World) (n : Nat) : Ent → Prop
  | .dead => True
  | .bx cs => ∃ vals el, w.heap[V.blk n]? = some (.cells vals el (0, 0)) ∧ okAll V hp w cs vals.toList
  | .row fr e xs => (¬ V.has n ∧ xs = []) ∨ (V.has n ∧ ∃ vals el, w.heap[V.blk n]? = some (.cells vals el (0, 0)) ∧ xs.length ≤ lenMax ∧
      ∀ i (h : i < xs.length), ∃ es, es.length = e.size ∧ (∀ j u, es[j]? = some u → vals[i * e.size + j]? = some u) ∧ RdC (V.Z fr) w e es xs[i])

def Ent.live : Ent → Bool
  | .dead => false
  | _ => true

/-- The blocks that a caller lends: which, and under which names. -/
structure LM where
  fn : Nat → Prop
  nm : Nat → Nat → Prop

instance : CoeFun LM (fun _ => Nat → Prop) := ⟨LM.fn⟩

/-- A row of flat elements that is lent. -/
def Ent.lentish : Ent → Prop
  | .row false e _ => e.flat = true
  | _ => False

/-- What was there before the call is there still, but for the blocks of M. -/
structure Kept (base : Nat) (M : LM) (w0 w : World) : Prop where
  os : w.os = w0.os
  tape : w.tape = w0.tape
  output : w.output = w0.output
  size : base ≤ w.heap.size
  block : ∀ b, b < base → ¬ M b → w.heap[b]? = w0.heap[b]?
  /-- a block of M keeps its size -/
  shape : ∀ b vals el, b < base → M b → w0.heap[b]? = some (.cells vals el (0, 0)) → ∃ vals' el', w.heap[b]? = some (.cells vals' el' (0, 0)) ∧ vals'.size = vals.size

/-- The memory is as the names say. -/
structure Mem (base : Nat) (M : LM) (w0 : World) (V : Vl) (hp : Nat → Ent) (w : World) : Prop where
  ents : ∀ n, (hp n).ok V hp w n
  box : ∀ n cs, hp n = .bx cs → V.has n
  own : ∀ n, (hp n).live = true → V.has n → (base ≤ V.blk n ∨ M (V.blk n)) ∧ V.blk n < w.heap.size ∧ ¬ V.Z false (V.blk n)
  mine : ∀ n e xs, hp n = .row true e xs → V.has n → base ≤ V.blk n
  dist : ∀ n m, (hp n).live = true → (hp m).live = true → V.has n → V.has m → V.blk n = V.blk m → n = m
  z0 : ∀ b, V.Z0 b → b < base
  z1 : ∀ b, V.Z1 b → base ≤ b ∧ b < w.heap.size
  kept : Kept base M w0 w
  lent : ∀ n, (hp n).lentish → V.has n → M.nm (V.blk n) n

/-- A frame's temporaries and a world are as the symbolic state says. -/
structure Rel (base : Nat) (M : LM) (w0 : World) (V : Vl) (st : St) (ts : Array Value) (w : World) : Prop where
  len : st.ts.length = ts.size
  slots : ∀ (i : Nat) s v, st.ts[i]? = some s → ts[i]? = some v → S.ok V st.ent w s v
  mem : Mem base M w0 V st.ent w

end Go.SX
