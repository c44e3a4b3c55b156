/- The symbolic executor: what an operation, a region, a code comes to, as a proposition over numbers and lists. Definitions alone. No condition. -/
import Derived.Test.YtdfdoigiehmnoaaSx2
namespace Go.SX
open Go.RowKit
set_option linter.unusedVariables false

inductive TK where
  | int (k : IntKind)
  | bool
  | str
  | sl (e : TypeId) (esize ebytes : Nat) (ety : Ty)
  | st (fs : List (Nat × Nat × Bool))
  /-- an array of 'len' elements of 'es' cells each: 'n' flat ones in all -/
  | arr (len : Nat) (te : TypeId) (es n : Nat) (ety : Ty)
  | sc

structure TI where
  k : TK
  size : Nat
  bytes : Nat
  zero : List Value
  ty : Option Ty
  /-- a struct of ints and bools, that '==' compares: is the field a bool? -/
  eq : Option (List Bool)

abbrev Tab := TypeId → Option TI

@[reducible] def Tup : List Ty → Type
  | [] => Unit
  | [t] => t.den
  | t :: u :: r => t.den × Tup (u :: r)

/-- The contract of a function that writes to memory of its own alone. -/
structure PC where
  ts : List Ty
  rs : List Ty
  pre : Tup ts → Prop
  F : Tup ts → Tup rs

/-- Integers as the operations compute them. -/
def ishl (k : IntKind) (a n : Int) : Int := k.wrap (a * 2 ^ min n.toNat k.bits)
def ishr (k : IntKind) (a n : Int) : Int := a.fdiv (2 ^ min n.toNat k.bits)
def iand (k : IntKind) (a b : Int) : Int := k.wrap (BitVec.ofInt k.bits a &&& BitVec.ofInt k.bits b).toNat
def ior (k : IntKind) (a b : Int) : Int := k.wrap (BitVec.ofInt k.bits a ||| BitVec.ofInt k.bits b).toNat
def ixor (k : IntKind) (a b : Int) : Int := k.wrap (BitVec.ofInt k.bits a ^^^ BitVec.ofInt k.bits b).toNat
def imin (a b : Int) : Int := if b < a then b else a
def imax (a b : Int) : Int := if b > a then b else a

def cell (v : Value) : C :=
  match v with
  | .bool true => .tru
  | .bool false => .fls
  | .int k n => if k.min ≤ n ∧ n ≤ k.max then .val (.int k n) else .any
  | .string s => if s.size ≤ maxLen then .val (.string s) else .any
  | .slice none 0 0 => .val (.slice none 0 0)
  | .pointer none => .val (.pointer none)
  | _ => .any

def S.ofConst (v : Value) : S :=
  match v with
  | .agg cs => if lall Value.oneCell' cs.toList then .agg (lmap cell cs.toList) else .any
  | .tuple _ => .any
  | v => .c (cell v)

def St.eval (st : St) : Operand → S
  | .tmp t => nth .any st.ts t
  | .const v => .ofConst v
  | .global _ => .any
  | .func f => .c (.fn f [])

/-- What came of an operation: what is owed, what is known behind it, its value, new names. -/
structure QR where
  ob : Option Prop := none
  hy : Option Prop := none
  res : S
  new : List Ent := []

def S.cells : S → Option (List C)
  | .c x => some [x]
  | .agg cs => some cs
  | _ => none

def castL {a b : Ty} (h : a = b) (xs : List a.den) : List b.den := h ▸ xs

/-- The cells of a datum. -/
def expand (fr : Bool) : (t : Ty) → t.den → List C
  | .int k, n => [.val (.int k n)]
  | .bool, b => [.val (.bool b)]
  | .str, s => [.val (.string s)]
  | .sl e, xs => [.rd fr e xs]
  | .st t, d => expand fr t d
  | .pr a b, d => lapp (expand fr a d.1) (expand fr b d.2)
  | .ptr t, d => [.at_ fr t d 0]
  | .clo f t, d => [.clo fr f t d]

def head1 {α : Type} (f : C → Option α) : List C → Option (α × List C)
  | c :: r => match f c with | some x => some (x, r) | none => none
  | [] => none

def rdInt (k : IntKind) : C → Option Int
  | .val (.int k' n) => if k' = k then some n else none
  | _ => none

def rdBool : C → Option Bool
  | .val (.bool b) => some b
  | .tru => some true
  | .fls => some false
  | _ => none

def rdStr : C → Option ByteArray
  | .val (.string s) => some s
  | _ => none

def rdSl (lk : Nat → Ent) (e : Ty) : C → Option (List e.den)
  | .rd _ e' xs => if h : e' = e then some (castL h xs) else none
  | .brw _ e' xs => if h : e' = e then some (castL h xs) else none
  | .own n =>
    match lk n with
    | .row _ e' xs => if h : e' = e then some (castL h xs) else none
    | _ => none
  | .pre n m =>
    match lk n with
    | .row _ e' xs => if h : e' = e then some ((castL h xs).take m) else none
    | _ => none
  | .val (.slice none 0 0) => some []
  | _ => none

def castD {a b : Ty} (h : a = b) (d : a.den) : b.den := h ▸ d

/-- All of it, nothing left. -/
def whole {α : Type} : Option (α × List C) → Option α
  | some (d, []) => some d
  | _ => none

def rdPtr (lk : Nat → Ent) (t : Ty) (rc : List C → Option (t.den × List C)) : C → Option t.den
  | .at_ _ t' d 0 => if h : t' = t then some (castD h d) else none
  | .box n 0 => match lk n with | .bx cs => whole (rc cs) | _ => none
  | _ => none

def rdClo (f : Nat) (t : Ty) (rc : List C → Option (t.den × List C)) : C → Option t.den
  | .clo _ f' t' d => if f' = f then (if h : t' = t then some (castD h d) else none) else none
  | .fn f' ns => if f' = f then whole (rc (lmap (fun n => .box n 0) ns)) else none
  | _ => none

/-- The datum that cells read as; the rest of the cells. -/
def readC (lk : Nat → Ent) : (t : Ty) → List C → Option (t.den × List C)
  | .int k, cs => head1 (rdInt k) cs
  | .bool, cs => head1 rdBool cs
  | .str, cs => head1 rdStr cs
  | .sl e, cs => head1 (rdSl lk e) cs
  | .st t, cs => readC lk t cs
  | .pr a b, cs =>
    match readC lk a cs with
    | some (x, r) =>
      match readC lk b r with
      | some (y, r') => some ((x, y), r')
      | none => none
    | none => none
  | .ptr t, cs => head1 (rdPtr lk t (readC lk t)) cs
  | .clo f t, cs => head1 (rdClo f t (readC lk t)) cs

def readAll (lk : Nat → Ent) (t : Ty) (cs : List C) : Option t.den :=
  match readC lk t cs with
  | some (d, []) => some d
  | _ => none

def isSt : Ty → Bool
  | .st _ => true
  | _ => false

def readS (lk : Nat → Ent) (t : Ty) : S → Option t.den
  | .c x => if isSt t then none else readAll lk t [x]
  | .agg cs => if isSt t then readAll lk t cs else none
  | _ => none

def readArgs (lk : Nat → Ent) : (ts : List Ty) → List S → Option (Tup ts)
  | [], [] => some ()
  | [t], [s] => readS lk t s
  | t :: u :: r, s :: ss =>
    match readS lk t s with
    | some x =>
      match readArgs lk (u :: r) ss with
      | some y => some (x, y)
      | none => none
    | none => none
  | _, _ => none

/-- A datum that a call hands back: each slice is a new row. -/
def fresh : (t : Ty) → t.den → Nat → List C × List Ent
  | .int k, n, _ => ([.val (.int k n)], [])
  | .bool, b, _ => ([.val (.bool b)], [])
  | .str, s, _ => ([.val (.string s)], [])
  | .sl e, xs, nx => ([.own nx], [.row true e xs])
  | .st t, d, nx => fresh t d nx
  | .pr a b, d, nx =>
    let x := fresh a d.1 nx
    let y := fresh b d.2 (nx + llen x.2)
    (lapp x.1 y.1, lapp x.2 y.2)
  | .ptr _, _, _ => ([.any], [])
  | .clo _ _, _, _ => ([.any], [])

def freshTop (t : Ty) (d : t.den) (nx : Nat) : (Bool × List C) × List Ent :=
  let x := fresh t d nx
  ((isSt t, x.1), x.2)

def freshTups : (ts : List Ty) → Tup ts → Nat → List (Bool × List C) × List Ent
  | [], _, _ => ([], [])
  | [t], d, nx => let x := freshTop t d nx; ([x.1], x.2)
  | t :: u :: r, d, nx =>
    let x := freshTop t d.1 nx
    let y := freshTups (u :: r) d.2 (nx + llen x.2)
    (x.1 :: y.1, lapp x.2 y.2)

def topS (x : Bool × List C) : S :=
  if x.1 then .agg x.2 else match x.2 with | [c] => .c c | _ => .any

def freshS (ts : List Ty) (d : Tup ts) (nx : Nat) : S × List Ent :=
  match freshTups ts d nx with
  | ([x], es) => (topS x, es)
  | (xs, es) => (.tup xs, es)

def tupWf : (ts : List Ty) → Tup ts → Prop
  | [], _ => True
  | [t], d => t.wf d
  | t :: u :: r, d => t.wf d.1 ∧ tupWf (u :: r) d.2

/-- Do the results tell anything? -/
def hyB : List Ty → Bool
  | [] => false
  | [.bool] => false
  | _ => true

def hyOf (ts : List Ty) (d : Tup ts) : Option Prop := if hyB ts then some (tupWf ts d) else none

def qcall (Γ : FuncId → Option PC) (lk : Nat → Ent) (nx : Nat) (f : FuncId) (args : List S) : Option QR :=
  match Γ f with
  | some c =>
    match readArgs lk c.ts args with
    | some d => let r := freshS c.rs (c.F d) nx; some { ob := some (c.pre d), hy := hyOf c.rs (c.F d), res := r.1, new := r.2 }
    | none => none
  | none => none

def ibin (op : BinOp) (k : IntKind) (a b : Int) : Option (Option Prop × C) :=
  match op with
  | .add => some (none, .val (.int k (k.wrap (a + b))))
  | .sub => some (none, .val (.int k (k.wrap (a - b))))
  | .mul => some (none, .val (.int k (k.wrap (a * b))))
  | .quo => some (some (b ≠ 0), .val (.int k (k.wrap (a.tdiv b))))
  | .rem => some (some (b ≠ 0), .val (.int k (a.tmod b)))
  | .and => some (none, .val (.int k (iand k a b)))
  | .or => some (none, .val (.int k (ior k a b)))
  | .xor => some (none, .val (.int k (ixor k a b)))
  | .eql => some (none, .val (.bool (decide (a = b))))
  | .neq => some (none, .val (.bool (!decide (a = b))))
  | .lss => some (none, .val (.bool (decide (a < b))))
  | .leq => some (none, .val (.bool (decide (a ≤ b))))
  | .gtr => some (none, .val (.bool (decide (b < a))))
  | .geq => some (none, .val (.bool (decide (b ≤ a))))
  | _ => none

def boolOf : C → Option Bool
  | .val (.bool b) => some b
  | .tru => some true
  | .fls => some false
  | _ => none

def qbin (op : BinOp) (x y : C) : Option QR :=
  match op, x, y with
  | .shl, .val (.int k a), .val (.int _ n) => some { ob := some (0 ≤ n), res := .c (.val (.int k (ishl k a n))) }
  | .shr, .val (.int k a), .val (.int _ n) => some { ob := some (0 ≤ n), res := .c (.val (.int k (ishr k a n))) }
  | op, .val (.int k a), .val (.int k' b) =>
    if k' = k then
      match ibin op k a b with
      | some (p, c) => some { ob := p, res := .c c }
      | none => none
    else none
  | _, _, _ => none

/-- As 'qbin'; besides, two bools compared. -/
def qbinT (T : Tab) (t : TypeId) (op : BinOp) (x y : C) : Option QR :=
  match qbin op x y with
  | some r => some r
  | none =>
    match T t, boolOf x, boolOf y, op with
    | some { k := .bool, .. }, some a, some b, .eql => some { res := .c (.val (.bool (a == b))) }
    | some { k := .bool, .. }, some a, some b, .neq => some { res := .c (.val (.bool (!(a == b)))) }
    | _, _, _, _ => none

/-- Cells, one by one compared. -/
def eqCs : List Bool → List C → List C → Option Bool
  | [], [], [] => some true
  | false :: ks, .val (.int k a) :: xs, .val (.int k' b) :: ys => if k' = k then omap (fun r => decide (a = b) && r) (eqCs ks xs ys) else none
  | true :: ks, x :: xs, y :: ys =>
    match boolOf x, boolOf y with
    | some a, some b => omap (fun r => (a == b) && r) (eqCs ks xs ys)
    | _, _ => none
  | _, _, _ => none

/-- Two structs compared. -/
def qbinA (T : Tab) (t : TypeId) (op : BinOp) (xs ys : List C) : Option QR :=
  match obind (T t) (fun i => i.eq) with
  | some ks =>
    match eqCs ks xs ys, op with
    | some b, .eql => some { res := .c (.val (.bool b)) }
    | some b, .neq => some { res := .c (.val (.bool (!b))) }
    | _, _ => none
  | none => none

def qun (op : UnOp) (x : C) : Option QR :=
  match op, x with
  | .not, .val (.bool b) => some { res := .c (.val (.bool !b)) }
  | .not, .tru => some { res := .c .fls }
  | .not, .fls => some { res := .c .tru }
  | .neg, .val (.int k n) => some { res := .c (.val (.int k (k.wrap (0 - n)))) }
  | _, _ => none

def qpick (c a b : S) : Option S :=
  match c, a, b with
  | .c .tru, a, _ => some a
  | .c .fls, _, b => some b
  | .c (.val (.bool p)), .c (.val (.int k x)), .c (.val (.int k' y)) => if k' = k then some (.c (.val (.int k (if p then x else y)))) else none
  | .c (.val (.bool p)), .c x, .c y =>
    match boolOf x, boolOf y with
    | some a, some b => some (.c (.val (.bool (if p then a else b))))
    | _, _ => none
  | _, _, _ => none

/-- The length of a slice. -/
def lenC (lk : Nat → Ent) : C → Option Int
  | .rd _ _ xs => some (xs.length : Int)
  | .brw _ _ xs => some (xs.length : Int)
  | .own n => match lk n with | .row _ _ xs => some (xs.length : Int) | _ => none
  | .pre _ h => some (h : Int)
  | .val (.slice none 0 0) => some 0
  | _ => none

/-- The length of a slice or a string, by its type. -/
def lenT (T : Tab) (lk : Nat → Ent) (t : TypeId) (x : C) : Option Int :=
  match T t, x with
  | some { k := .str, .. }, .val (.string s) => some (s.size : Int)
  | some { k := .sl _ _ _ _, .. }, x => lenC lk x
  | _, _ => none

def packC (T : Tab) (t : TypeId) (cs : List C) : Option S :=
  match T t with
  | some { k := .st _, size := n, .. } => if llen cs = n then some (.agg cs) else none
  | some { k := .arr _ _ _ _ _, .. } => none
  | some _ => match cs with | [x] => some (.c x) | _ => none
  | none => none

def sizeT (T : Tab) (t : TypeId) : Option Nat := omap (·.size) (T t)

def partOf (cs : List C) (off n : Nat) : Option (List C) :=
  let r := ltake n (ldrop off cs)
  if llen r = n then some r else none

def bxCells : Ent → Option (List C)
  | .bx cs => some cs
  | _ => none

/-- The cells behind an address. -/
def cellsOfPtr (lk : Nat → Ent) (n : Nat) : C → Option (List C)
  | .at_ fr ty d off => partOf (expand fr ty d) off n
  | .box m off => match lk m with | .bx cs => partOf cs off n | _ => none
  | .elt m i off => match lk m with | .row fr e xs => partOf (expand fr e (xs.getD i e.dflt)) off n | _ => none
  | _ => none

def qload (T : Tab) (lk : Nat → Ent) (t : TypeId) (p : C) : Option QR :=
  match sizeT T t with
  | none => none
  | some n =>
    match cellsOfPtr lk n p with
    | some cs => omap (fun s => { res := s }) (packC T t cs)
    | none => none

def fieldOf (T : Tab) (t : TypeId) (f : Nat) : Option (Nat × Nat × Bool) :=
  match T t with
  | some { k := .st fs, .. } => nth? fs f
  | _ => none

def qfieldAddr (T : Tab) (t : TypeId) (p : C) (f : Nat) : Option QR :=
  match fieldOf T t f with
  | some (o, _, _) =>
    match p with
    | .at_ fr ty d off => some { res := .c (.at_ fr ty d (off + o)) }
    | .box m off => some { res := .c (.box m (off + o)) }
    | .elt m i off => some { res := .c (.elt m i (off + o)) }
    | _ => none
  | none => none

def elemTy (T : Tab) (t : TypeId) : Option Ty :=
  match T t with
  | some { k := .sl _ _ _ e, .. } => some e
  | _ => none

def qindexS (T : Tab) (lk : Nat → Ent) (t : TypeId) (x : C) (i : C) : Option QR :=
  match elemTy T t, x, i with
  | some e', .rd fr e xs, .val (.int _ n) => if e = e' then some { ob := some (0 ≤ n ∧ n < (xs.length : Int)), res := .c (.at_ fr e (xs.getD n.toNat e.dflt) 0) } else none
  | some e', .own m, .val (.int _ n) =>
    match lk m with
    | .row _ e xs => if e = e' then some { ob := some (0 ≤ n ∧ n < (xs.length : Int)), res := .c (.elt m n.toNat 0) } else none
    | _ => none
  | some e', .pre m h, .val (.int _ n) =>
    match lk m with
    | .row _ e _ => if e = e' then some { ob := some (0 ≤ n ∧ n < (h : Int)), res := .c (.elt m n.toNat 0) } else none
    | _ => none
  | _, _, _ => none

/-- An element of an array that is a row. -/
def qindexA (T : Tab) (lk : Nat → Ent) (t : TypeId) (m i0 : Nat) (k : Int) : Option QR :=
  match T t with
  | some { k := .arr len te es n ety, .. } =>
    match lk m with
    | .row _ e xs => if e = ety then some { ob := some (0 ≤ k ∧ k < (len : Int) ∧ i0 + (k.toNat + 1) * (es / ety.size) ≤ xs.length), res := .c (.elt m (i0 + k.toNat * (es / ety.size)) 0) } else none
    | _ => none
  | _ => none

def qindexAddr (T : Tab) (lk : Nat → Ent) (t : TypeId) (x : C) (i : C) : Option QR :=
  match x, i with
  | .elt m i0 0, .val (.int _ k) => qindexA T lk t m i0 k
  | x, i => qindexS T lk t x i

def boundC (dft : Int) : Option S → Option Int
  | none => some dft
  | some (.c (.val (.int _ n))) => some n
  | _ => none

def qslice (T : Tab) (lk : Nat → Ent) (t : TypeId) (x : C) (lo hi : Option S) : Option QR :=
  match elemTy T t, x with
  | some e', .rd fr e xs =>
    match boundC 0 lo, boundC xs.length hi with
    | some l, some h => if e = e' then some { ob := some (0 ≤ l ∧ l ≤ h ∧ h ≤ (xs.length : Int)), res := .c (.rd fr e ((xs.take h.toNat).drop l.toNat)) } else none
    | _, _ => none
  | some e', .own m =>
    match lk m with
    | .row _ e xs =>
      match lo, boundC xs.length hi with
      | none, some h => if e = e' then some { ob := some (0 ≤ h ∧ h ≤ (xs.length : Int)), res := .c (.pre m h.toNat) } else none
      | some l, some h =>
        match boundC 0 (some l) with
        | some l => if e = e' then some { ob := some (0 ≤ l ∧ l ≤ h ∧ h ≤ (xs.length : Int)), res := .c (.brw m e ((xs.take h.toNat).drop l.toNat)) } else none
        | none => none
      | _, _ => none
    | _ => none
  | some e', .pre m k =>
    match lk m with
    | .row _ e xs =>
      match lo, boundC k hi with
      | none, some h => if e = e' then some { ob := some (0 ≤ h ∧ h ≤ (k : Int)), res := .c (.pre m h.toNat) } else none
      | _, _ => none
    | _ => none
  | _, _ => none

def fillC (fs : List (Nat × Nat × Bool)) (cs : List C) : List (Nat × S) → Option (List C)
  | [] => some cs
  | (i, s) :: r =>
    match nth? fs i, s.cells with
    | some (o, n, _), some xs => if llen xs = n ∧ o + n ≤ llen cs then fillC fs (lapp (ltake o cs) (lapp xs (ldrop (o + n) cs))) r else none
    | _, _ => none

/-- The parts, from 'k' on, none left out. -/
def seqParts (lk : Nat → Ent) (e : Ty) : Nat → List (Nat × S) → Option (List e.den)
  | _, [] => some []
  | k, p :: r =>
    if p.1 = k then
      match readS lk e p.2, seqParts lk e (k + 1) r with
      | some x, some xs => some (x :: xs)
      | _, _ => none
    else none

def C.noOwn : C → Bool
  | .own _ => false
  | .pre _ _ => false
  | .brw _ _ _ => false
  | .box _ _ => false
  | .elt _ _ _ => false
  | .fn _ ns => (match ns with | [] => true | _ => false)
  | _ => true

def S.noOwn : S → Bool
  | .c x => x.noOwn
  | .agg cs => lall C.noOwn cs
  | _ => true

/-- Are all slices among the cells of this call's own memory? -/
def C.isFr : C → Bool
  | .rd fr _ _ => fr
  | .brw _ _ _ => false
  | .at_ fr _ _ _ => fr
  | .clo fr _ _ _ => fr
  | _ => true
def S.isFr : S → Bool
  | .c x => x.isFr
  | .agg cs => lall C.isFr cs
  | _ => true

/-- An array: of zeros, or of all its elements. -/
def qbuildA (len es n : Nat) (ety : Ty) (parts : List (Nat × S)) : Option QR :=
  match parts with
  | [] => some { res := .arr ety (List.replicate n ety.dflt) }
  | parts => if lall (fun p => p.2.noOwn) parts && decide (llen parts = len) && decide (es = ety.size) then omap (fun xs => { res := .arr ety xs }) (seqParts (fun _ => .dead) ety 0 parts) else none

def qbuild (T : Tab) (t : TypeId) (parts : List (Nat × S)) : Option QR :=
  match T t with
  | some { k := .st fs, zero := z, .. } => omap (fun cs => { res := .agg cs }) (fillC fs (lmap cell z) parts)
  | some { k := .arr len te es n ety, .. } => qbuildA len es n ety parts
  | _ => none

def qalloc (T : Tab) (nx : Nat) (t : TypeId) : Option QR :=
  match T t with
  | some ti =>
    match ti.k with
    | .arr len te es n ety => some { res := .c (.elt nx 0 0), new := [.row true ety (List.replicate n ety.dflt)] }
    | _ => some { res := .c (.box nx 0), new := [.bx (lmap cell ti.zero)] }
  | none => none

def qbuildSlice (T : Tab) (lk : Nat → Ent) (nx : Nat) (t : TypeId) (n : Nat) (parts : List (Nat × S)) : Option QR :=
  match elemTy T t with
  | some e =>
    if lall (fun p => p.2.noOwn) parts && decide (llen parts = n) && decide (n * e.size ≤ 1000) then
      omap (fun xs => { res := .c (.own nx), new := [.row (e.flat || lall (fun p => p.2.isFr) parts) e xs] }) (seqParts lk e 0 parts)
    else none
  | none => none

def qmakeSlice (T : Tab) (nx : Nat) (t : TypeId) (l c : C) : Option QR :=
  match T t, l, c with
  | some { k := .sl _ _ b e, .. }, .val (.int .i64 n), .val (.int .i64 m) =>
    if 1 ≤ b && e.plain then some { ob := some (0 ≤ n ∧ n ≤ m ∧ m * (b : Int) ≤ 140737488355328), res := .c (.own nx), new := [.row true e (List.replicate n.toNat e.dflt)] } else none
  | _, _, _ => none

def intsOf : List S → Option (List (IntKind × Int))
  | [] => some []
  | .c (.val (.int k n)) :: r => omap ((k, n) :: ·) (intsOf r)
  | _ => none

def qbuiltin (T : Tab) (lk : Nat → Ent) (b : Builtin) (ats : List TypeId) (args : List S) : Option QR :=
  match b, ats, args with
  | .len, [t], [.c x] => omap (fun n => { res := .c (.val (.int .i64 n)) }) (lenT T lk t x)
  | .min, _, [.c (.val (.int k x)), .c (.val (.int k' y))] => if k' = k then some { res := .c (.val (.int k (imin x y))) } else none
  | .max, _, [.c (.val (.int k x)), .c (.val (.int k' y))] => if k' = k then some { res := .c (.val (.int k (imax x y))) } else none
  | _, _, _ => none

def capsOf : List S → Option (List Nat)
  | [] => some []
  | .c (.box n 0) :: r => omap (n :: ·) (capsOf r)
  | _ => none

def S.isPtr : S → Bool
  | .c (.box _ _) | .c (.at_ _ _ _ _) | .c (.elt _ _ _) | .c (.fn _ _) => true
  | _ => false

/-- An operation that writes nothing that was there. 'ev': its operands; 'lk': the names; 'nx': the next name. -/
def qop (T : Tab) (Γ : FuncId → Option PC) (lk : Nat → Ent) (nx : Nat) (ev : Operand → S) (o : Op) : Option QR :=
  match o with
  | .move x | .assign x => some { res := ev x }
  | .pick c a b => omap (fun s => { res := s }) (qpick (ev c) (ev a) (ev b))
  | .alloc t => qalloc T nx t
  | .box _ x => match (ev x).cells with | some cs => some { res := .c (.box nx 0), new := [.bx cs] } | none => none
  | .build t parts => qbuild T t (lmap (fun p => (p.1, ev p.2)) parts.toList)
  | .buildSlice t n parts => qbuildSlice T lk nx t n (lmap (fun p => (p.1, ev p.2)) parts.toList)
  | .load t a => match ev a with | .c p => qload T lk t p | _ => none
  | .nilCheck x => if (ev x).isPtr then some { res := ev x } else none
  | .binOp op t x y _ => match ev x, ev y with | .c a, .c b => qbinT T t op a b | .agg a, .agg b => qbinA T t op a b | _, _ => none
  | .unOp op _ x => match ev x with | .c a => qun op a | _ => none
  | .convert s t x =>
    match T s, T t, ev x with
    | some _, some { k := .int k, .. }, .c (.val (.int _ n)) => some { res := .c (.val (.int k (k.wrap n))) }
    | _, _, _ => none
  | .makeSlice t l c => match ev l, ev c with | .c l, .c c => qmakeSlice T nx t l c | _, _ => none
  | .slice t x lo hi none => match ev x with | .c x => qslice T lk t x (omap ev lo) (omap ev hi) | _ => none
  | .fieldAddr t x f => match ev x with | .c p => qfieldAddr T t p f | _ => none
  | .field t x f =>
    match fieldOf T t f, ev x with
    | some (off, n, ag), .agg cs => omap (fun r => { res := topS (ag, r) }) (partOf cs off n)
    | _, _ => none
  | .indexAddr t x i => match ev x, ev i with | .c x, .c i => qindexAddr T lk t x i | _, _ => none
  | .extract x i => match ev x with | .tup vs => omap (fun v => { res := topS v }) (nth? vs i) | _ => none
  | .makeFunc (.func f) first captured => match first.toList with | [] => omap (fun ns => { res := .c (.fn f ns) }) (capsOf (lmap ev captured.toList)) | _ => none
  | .call c =>
    match c.callee with
    | .builtin b => qbuiltin T lk b c.argTypes.toList (lmap ev c.args.toList)
    | .value f =>
      match ev f with
      | .c (.fn g []) => qcall Γ lk nx g (lmap ev c.args.toList)
      | .c (.clo fr g t d) => qcall Γ lk nx g (lapp (lmap ev c.args.toList) (lmap S.c (expand fr t d)))
      | _ => none
    | _ => none
  | _ => none

/-! ### Operations that write, in the order of the text -/

def S.map (f : C → C) : S → S
  | .c x => .c (f x)
  | .agg cs => .agg (lmap f cs)
  | .tup vs => .tup (lmap (fun v => (v.1, lmap f v.2)) vs)
  | .und => .und
  | .any => .any
  | .arr e xs => .arr e xs

def Ent.map (f : C → C) : Ent → Ent
  | .bx cs => .bx (lmap f cs)
  | .row fr e xs => .row fr e xs
  | .dead => .dead

def St.map (st : St) (f : C → C) : St :=
  { ts := lmap (S.map f) st.ts, hp := lmap (Ent.map f) st.hp }

/-- No word of row 'm' any more. -/
def killO (m : Nat) : C → C
  | .own n => if n = m then .any else .own n
  | .pre n h => if n = m then .any else .pre n h
  | .brw n e xs => if n = m then .any else .brw n e xs
  | .elt n i o => if n = m then .any else .elt n i o
  | c => c

def killB (m : Nat) : C → C
  | .brw n e xs => if n = m then .any else .brw n e xs
  | c => c

/-- Row 'm' is not written any more. -/
def freezeC (m : Nat) (fr : Bool) (e : Ty) (xs : List e.den) : C → C
  | .own n => if n = m then .rd fr e xs else .own n
  | .pre n h => if n = m then .rd fr e (xs.take h) else .pre n h
  | .brw n e' ys => if n = m then .rd false e' ys else .brw n e' ys
  | .elt n i o => if n = m then .at_ fr e (xs.getD i e.dflt) o else .elt n i o
  | c => c

def St.freeze (st : St) (m : Nat) : St :=
  match st.ent m with
  | .row fr e xs => { (st.map (freezeC m fr e xs)) with hp := lset ((st.map (freezeC m fr e xs)).hp) m .dead }
  | _ => st

def ownsOf : List C → List Nat
  | [] => []
  | .own n :: r => n :: ownsOf r
  | .pre n _ :: r => n :: ownsOf r
  | .brw n _ _ :: r => n :: ownsOf r
  | _ :: r => ownsOf r

def St.freezes (st : St) : List Nat → St
  | [] => st
  | n :: r => (st.freeze n).freezes r

def St.put (st : St) (dst : Option Nat) (s : S) : St :=
  match dst with
  | some d => { st with ts := lset st.ts d s }
  | none => st

def St.alloc (st : St) (es : List Ent) : St := { st with hp := lapp st.hp es }

structure ER where
  ob : Option Prop := none
  st : St
  res : S

def splice (cs : List C) (off : Nat) (xs : List C) : List C := lapp (ltake off cs) (lapp xs (ldrop (off + llen xs) cs))

def estore (T : Tab) (st : St) (t : TypeId) (p x : Operand) : Option ER :=
  match sizeT T t, st.eval p, (st.eval x).cells with
  | some n, .c (.box m off), some xs =>
    match st.ent m with
    | .bx cs => if llen xs = n ∧ off + n ≤ llen cs then some { st := { st with hp := lset st.hp m (.bx (splice cs off xs)) }, res := .und } else none
    | _ => none
  | some n, .c (.elt _ _ _), some xs =>
    let st1 := st.freezes (ownsOf xs)
    match st1.eval p, (st1.eval x).cells with
    | .c (.elt m i off), some xs =>
      match st1.ent m with
      | .row fr e ys =>
        if llen xs = n ∧ off + n ≤ e.size ∧ lall C.noOwn xs = true then
          match readAll st1.ent e (splice (expand fr e (ys.getD i e.dflt)) off xs) with
          | some y => some { st := { (st1.map (killB m)) with hp := lset (st1.map (killB m)).hp m (.row (fr && (e.flat || lall C.isFr xs)) e (ys.set i y)) }, res := .und }
          | none => none
        else none
      | _ => none
    | _, _ => none
  | _, _, _ => none

/-- Are the elements of this slice of this call's own memory? -/
def rowFr (lk : Nat → Ent) (e : Ty) : C → Option Bool
  | .rd fr _ _ => some (e.flat || fr)
  | .own n => match lk n with | .row fr _ _ => some (e.flat || fr) | _ => none
  | .pre n _ => match lk n with | .row fr _ _ => some (e.flat || fr) | _ => none
  | .brw _ _ _ => if e.flat then some true else none
  | .val (.slice none 0 0) => some true
  | _ => none

def eappend (T : Tab) (st : St) (t : TypeId) (s x : Operand) : Option ER :=
  match T t, st.eval s, st.eval x with
  | some { k := .sl _ _ b e, .. }, .c s, .c x =>
    if b = 0 then none else
    match rdSl st.ent e x, rowFr st.ent e x with
    | some ys, some f =>
      match s with
      | .own m =>
        match st.ent m with
        | .row fr e' xs =>
          if h : e' = e then
            if e.flat && !fr then none else
            if lany (fun k => k == m) (ownsOf [x]) then none else
            some { ob := some ((xs.length + ys.length) * b ≤ 140737488355328),
                   st := { (st.map (killO m)) with hp := lset (st.map (killO m)).hp m (.row (fr && f) e (castL h xs ++ ys)) }, res := .c (.own m) }
          else none
        | _ => none
      | .pre m n =>
        match st.ent m with
        | .row fr e' xs =>
          if h : e' = e then
            if e.flat && !fr then none else
            if lany (fun k => k == m) (ownsOf [x]) then none else
            some { ob := some ((n + ys.length) * b ≤ 140737488355328),
                   st := { (st.map (killO m)) with hp := lset (st.map (killO m)).hp m (.row (fr && f) e ((castL h xs).take n ++ ys)) }, res := .c (.own m) }
          else none
        | _ => none
      | .val (.slice none 0 0) =>
        some { ob := some (ys.length * b ≤ 140737488355328), st := st.alloc [.row f e ys], res := .c (.own (llen st.hp)) }
      | _ => none
    | _, _ => none
  | _, _, _ => none

/-- 'buildSlice' of what this call owns: those rows are not written any more. -/
def ownsParts (st : St) : List (Nat × Operand) → List Nat
  | [] => []
  | p :: r => lapp (match (st.eval p.2).cells with | some cs => ownsOf cs | none => []) (ownsParts st r)

def ebuildSlice (T : Tab) (st : St) (t : TypeId) (n : Nat) (parts : List (Nat × Operand)) : Option ER :=
  let ns := ownsParts st parts
  let st1 := st.freezes ns
  match qbuildSlice T st1.ent (llen st1.hp) t n (lmap (fun p => (p.1, st1.eval p.2)) parts) with
  | some r => some { ob := r.ob, st := st1.alloc r.new, res := r.res }
  | none => none

def eappendL (T : Tab) (st : St) (args : List Operand) (ats : List TypeId) : Option ER :=
  match args, ats with
  | [s, x], [t, t'] => if t = t' then eappend T st t s x else none
  | _, _ => none

def isAppend : Callee → Bool
  | .builtin .append => true
  | _ => false

/-- A whole array is stored. -/
def eastore (T : Tab) (st : St) (t : TypeId) (p x : Operand) : Option ER :=
  match T t, st.eval p, st.eval x with
  | some { k := .arr _ _ _ _ _, size := sz, .. }, .c (.elt m 0 0), .arr e xs =>
    match st.ent m with
    | .row fr e' ys =>
      if e' = e then some { ob := some (xs.length = ys.length ∧ xs.length * e.size = sz), st := { (st.map (killB m)) with hp := lset (st.map (killB m)).hp m (.row fr e xs) }, res := .und } else none
    | _ => none
  | _, _, _ => none

def eop (T : Tab) (st : St) (o : Op) : Option ER :=
  match o with
  | .store t a x => match estore T st t a x with | some r => some r | none => eastore T st t a x
  | .buildSlice t n parts => ebuildSlice T st t n parts.toList
  | .call c => if isAppend c.callee then eappendL T st c.args.toList c.argTypes.toList else none
  | _ => none

abbrev Rule := List S → St → (S → St → Prop) → Prop

def callOf (st : St) : Op → Option (FuncId × List S)
  | .call c =>
    match c.callee with
    | .value f => match st.eval f with | .c (.fn g []) => some (g, lmap st.eval c.args.toList) | _ => none
    | _ => none
  | _ => none

def andO (p : Option Prop) (q : Prop) : Prop := match p with | none => q | some p => p ∧ q
def impO (p : Option Prop) (q : Prop) : Prop := match p with | none => q | some p => p → q

/-- One operation that is wanted. -/
def vcOp (T : Tab) (Γ : FuncId → Option PC) (R : FuncId → Option Rule) (ev : Operand → S) (lk : Nat → Ent) (o : Oper) (st : St) (K : St → Prop) : Prop :=
  match qop T Γ lk (llen st.hp) ev o.op with
  | some r => andO r.ob (impO r.hy (K ((st.alloc r.new).put o.dst r.res)))
  | none =>
    match eop T st o.op with
    | some r => andO r.ob (K (r.st.put o.dst r.res))
    | none =>
      match callOf st o.op with
      | some (f, args) =>
        match R f with
        | some r => r args st fun s st' => K (st'.put o.dst s)
        | none => False
      | none => False

inductive Dec where
  | go
  | skip
  | ask (d : Nat) (b : Bool) (want : Bool)
  | bad

/-- Is the operation wanted? -/
def decide? (all : Array Oper) (o : Oper) (st : St) : Dec :=
  match o.guard with
  | none => .go
  | some (j, want) =>
    match obind (nth? all.toList j) (·.dst) with
    | some d =>
      match nth .any st.ts d with
      | .c .tru => if want then .go else .skip
      | .c .fls => if want then .skip else .go
      | .c (.val (.bool b)) => .ask d b want
      | .und => .skip
      | _ => .bad
    | none => .bad

def vcSeq (T : Tab) (Γ : FuncId → Option PC) (R : FuncId → Option Rule) (all : Array Oper) : List Oper → St → (St → Prop) → Prop
  | [], st, K => K st
  | o :: rest, st, K =>
    match decide? all o st with
    | .go => vcOp T Γ R st.eval st.ent o st (fun st' => vcSeq T Γ R all rest st' K)
    | .skip => vcSeq T Γ R all rest (st.put o.dst .und) K
    | .ask d b want =>
      (b = true → if want then vcOp T Γ R (st.put (some d) (.c .tru)).eval st.ent o (st.put (some d) (.c .tru)) (fun st' => vcSeq T Γ R all rest st' K)
                  else vcSeq T Γ R all rest ((st.put (some d) (.c .tru)).put o.dst .und) K) ∧
      (b = false → if want then vcSeq T Γ R all rest ((st.put (some d) (.c .fls)).put o.dst .und) K
                  else vcOp T Γ R (st.put (some d) (.c .fls)).eval st.ent o (st.put (some d) (.c .fls)) (fun st' => vcSeq T Γ R all rest st' K))
    | .bad => False

/-! ### A region that draws its order: operations that write nothing, in whatever order; then the rest, in the order of the text -/

def quietB (Γ : FuncId → Option PC) (o : Oper) : Bool :=
  match o.op with
  | .assign _ | .store .. => false
  | .call { callee := .builtin b, .. } => (match b with | .len | .min | .max => true | _ => false)
  | .call { callee := .value (.func f), .. } => (Γ f).isSome
  | .call _ => false
  | _ => true

/-- The first operation that is none of the quiet ones. -/
def headLen (Γ : FuncId → Option PC) : List Oper → Nat
  | [] => 0
  | o :: r => if quietB Γ o then headLen Γ r + 1 else 0

def maskOf (all : Array Oper) (i : Nat) : Nat := (Region.before all).getD i 0

/-- Who of the first 'k' operations writes temporary 't'? -/
def writerOf (all : Array Oper) (t : Nat) : Nat → Option Nat
  | 0 => none
  | k + 1 =>
    match all[k]? with
    | some o => if o.dst = some t then some k else writerOf all t k
    | none => writerOf all t k

/-- What operation 'i' may lean on. -/
def evL (all : Array Oper) (k i : Nat) (st : St) (x : Operand) : S :=
  match x with
  | .tmp t =>
    match writerOf all t k with
    | some j => if (maskOf all i).testBit j then st.eval (.tmp t) else .any
    | none => st.eval (.tmp t)
  | x => st.eval x

def lkL (all : Array Oper) (i nx0 : Nat) (who : List Nat) (st : St) (n : Nat) : Ent :=
  if n < nx0 then st.ent n else
  match nth? who (n - nx0) with
  | some j => if (maskOf all i).testBit j then st.ent n else .dead
  | none => .dead

def chkHead (all : Array Oper) (k : Nat) : Bool :=
  (List.range k).all fun i =>
    match all[i]? with
    | some o =>
      (match o.guard with | some (j, _) => decide (j < i) && (maskOf all i).testBit j | none => true) &&
      (match o.dst with
       | some d => (List.range k).all fun j => j == i || (match all[j]? with | some o' => o'.dst != some d | none => true)
       | none => false)
    | none => false

def chkTail (all : Array Oper) (k : Nat) : Bool :=
  (List.range all.size).all fun i => (decide (i < k) || (List.range i).all fun j => (maskOf all i).testBit j) &&
    (match all[i]? with | some o => o.after.toList.all fun e => !Region.binds .any e || decide (e.on < i) | none => true)

def vcHead (T : Tab) (Γ : FuncId → Option PC) (all : Array Oper) (k nx0 : Nat) : Nat → List Oper → List Nat → St → (St → Prop) → Prop
  | _, [], _, st, K => K st
  | i, o :: rest, who, st, K =>
    let go (st : St) : Prop :=
      match qop T Γ (lkL all i nx0 who st) (llen st.hp) (evL all k i st) o.op with
      | some r => andO r.ob (vcHead T Γ all k nx0 (i + 1) rest (lapp who (lmap (fun _ => i) r.new)) ((st.alloc r.new).put o.dst r.res) fun st' => impO r.hy (K st'))
      | none => False
    let skip (st : St) : Prop := vcHead T Γ all k nx0 (i + 1) rest who (st.put o.dst .und) K
    match decide? all o st with
    | .go => go st
    | .skip => skip st
    | .ask d b want =>
      (b = true → if want then go (st.put (some d) (.c .tru)) else skip (st.put (some d) (.c .tru))) ∧
      (b = false → if want then skip (st.put (some d) (.c .fls)) else go (st.put (some d) (.c .fls)))
    | .bad => False

/-! A region whose orders are gone through one by one. -/

def rdyB (all : List Oper) (listed : List Bool) (i : Nat) : Bool :=
  !(nth true listed i) && (match nth? all i with | some o => lall (fun e => !(Region.binds .any e) || nth false listed e.on) o.after.toList | none => false)

def rdyGo (all : List Oper) (listed : List Bool) : Nat → Nat → List Nat
  | _, 0 => []
  | i, n + 1 => if rdyB all listed i then i :: rdyGo all listed (i + 1) n else rdyGo all listed (i + 1) n

/-- It reads no memory. -/
def silentB (o : Oper) : Bool :=
  match o.guard, o.op with
  | none, .fieldAddr _ _ _ => true
  | none, .move _ => true
  | none, .assign _ => true
  | none, .extract _ _ => true
  | _, _ => false

def freeGo (all : Array Oper) (oi : Oper) (i : Nat) (listed : List Bool) : Nat → List Oper → Bool
  | _, [] => true
  | j, oj :: r => (j == i || nth true listed j || lany (fun e => Region.binds .any e && e.on == i) oj.after.toList || oi.apart all oj) && freeGo all oi i listed (j + 1) r

def noSelB (all : List Oper) : Bool := lall (fun o => match o.op with | .select .. => false | _ => true) all

def takeB (all : Array Oper) (listed : List Bool) (i : Nat) : Bool :=
  match nth? all.toList i with
  | some oi => silentB oi && noSelB all.toList && freeGo all oi i listed 0 all.toList
  | none => false

def firstTake (all : Array Oper) (listed : List Bool) : List Nat → Option Nat
  | [] => none
  | i :: r => if takeB all listed i then some i else firstTake all listed r

def conjL : List Nat → (Nat → Prop) → Prop
  | [], _ => True
  | [i], f => f i
  | i :: r, f => f i ∧ conjL r f

def vcStep (T : Tab) (Γ : FuncId → Option PC) (R : FuncId → Option Rule) (all : Array Oper) (i : Nat) (st : St) (K : St → Prop) : Prop :=
  match nth? all.toList i with
  | some o =>
    match decide? all o st with
    | .go => vcOp T Γ R st.eval st.ent o st K
    | .skip => K (st.put o.dst .und)
    | .ask d b want =>
      (b = true → if want then vcOp T Γ R (st.put (some d) (.c .tru)).eval st.ent o (st.put (some d) (.c .tru)) K
                  else K ((st.put (some d) (.c .tru)).put o.dst .und)) ∧
      (b = false → if want then K ((st.put (some d) (.c .fls)).put o.dst .und)
                  else vcOp T Γ R (st.put (some d) (.c .fls)).eval st.ent o (st.put (some d) (.c .fls)) K)
    | .bad => False
  | none => False

def vcAny (T : Tab) (Γ : FuncId → Option PC) (R : FuncId → Option Rule) (all : Array Oper) : Nat → List Bool → St → (St → Prop) → Prop
  | 0, listed, st, K =>
    match rdyGo all.toList listed 0 (llen all.toList) with
    | [] => K st
    | _ => False
  | n + 1, listed, st, K =>
    match rdyGo all.toList listed 0 (llen all.toList) with
    | [] => K st
    | j :: r =>
      match firstTake all listed (j :: r) with
      | some i => vcStep T Γ R all i st fun st' => vcAny T Γ R all n (lset listed i true) st' K
      | none => conjL (j :: r) fun i => vcStep T Γ R all i st fun st' => vcAny T Γ R all n (lset listed i true) st' K

/-- As 'freeGo', of an operation that has all it waits for. -/
def freeLate (all : Array Oper) (oi : Oper) (i : Nat) : Nat → List Oper → Bool
  | _, [] => true
  | j, oj :: r => (j == i || (maskOf all i).testBit j || lany (fun e => Region.binds .any e && e.on == i) oj.after.toList || oi.apart all oj) && freeLate all oi i (j + 1) r

def lateB (all : Array Oper) (i : Nat) : Bool :=
  match nth? all.toList i with
  | some oi => silentB oi && noSelB all.toList && freeLate all oi i 0 all.toList
  | none => false

/-- What comes behind the first 'k' waits for them, but for those that read no memory. -/
def chkTailL (all : Array Oper) (k : Nat) : Bool :=
  (List.range all.size).all fun i => (decide (i < k) || (List.range k).all fun j => (maskOf all i).testBit j || lateB all j) &&
    (match all[i]? with | some o => o.after.toList.all fun e => !Region.binds .any e || decide (e.on < i) | none => true)

def vcRegion (T : Tab) (Γ : FuncId → Option PC) (R : FuncId → Option Rule) (ops : Array Oper) (draw : Bool) (st : St) (K : St → Prop) : Prop :=
  if draw then
    let k := headLen Γ ops.toList
    if chkHead ops k && chkTail ops k then
      vcHead T Γ ops k (llen st.hp) 0 (ltake k ops.toList) [] st fun st' => vcSeq T Γ R ops (ldrop k ops.toList) st' K
    else if chkHead ops k && chkTailL ops k then
      vcHead T Γ ops k (llen st.hp) 0 (ltake k ops.toList) [] st fun st' => vcAny T Γ R ops (llen (ldrop k ops.toList)) (lapp (lrep true k) (lrep false (llen (ldrop k ops.toList)))) st' K
    else vcAny T Γ R ops (llen ops.toList) (lrep false (llen ops.toList)) st K
  else vcSeq T Γ R ops ops.toList st K

/-! ### States that a loop meets again -/

inductive Src where
  | nm (n : Nat)
  | nil
  | no

/-- 'none': nothing is owed. -/
def oand (p q : Option Prop) : Option Prop :=
  match p, q with
  | none, q => q
  | p, none => p
  | some p, some q => some (p ∧ q)

def owe (b : Bool) : Option Prop := if b then none else some False

def toP : Option Prop → Prop
  | none => True
  | some p => p

def mC (ren : List Src) : C → C → Option Prop
  | _, .any => none
  | .val (.int k n), .val (.int k' m) => if k = k' then some (n = m) else some False
  | .val (.bool a), .val (.bool b) => some (a = b)
  | .tru, .val (.bool b) => some (b = true)
  | .fls, .val (.bool b) => some (b = false)
  | .tru, .tru => none
  | .fls, .fls => none
  | .val v, .val u => some (v = u)
  | .rd fr e xs, .rd fr' e' ys => if h : e = e' then (if fr' && !fr then some False else some (castL h xs = ys)) else some False
  | .val (.slice none 0 0), .rd _ _ ys => some (ys = [])
  | .own n, .own m =>
    match nth? ren m with
    | some (.nm n') => owe (n' == n)
    | _ => some False
  | .val (.slice none 0 0), .own m =>
    match nth? ren m with
    | some .nil => none
    | _ => some False
  | .pre n k, .pre m k' =>
    match nth? ren m with
    | some (.nm n') => oand (owe (n' == n)) (some (k = k'))
    | _ => some False
  | .box n o, .box m o' =>
    match nth? ren m with
    | some (.nm n') => owe (n' == n && o == o')
    | _ => some False
  | .at_ fr t d o, .at_ fr' t' d' o' => if h : t = t' then (if fr' && !fr then some False else oand (owe (o == o')) (some ((h ▸ d) = d'))) else some False
  | .clo fr f t d, .clo fr' f' t' d' => if h : t = t' then (if fr' && !fr then some False else oand (owe (Nat.beq f f')) (some ((h ▸ d) = d'))) else some False
  | .elt n i o, .elt m i' o' =>
    match nth? ren m with
    | some (.nm n') => oand (owe (n' == n && o == o')) (some (i = i'))
    | _ => some False
  | _, _ => some False

def mCs (ren : List Src) : List C → List C → Option Prop
  | [], [] => none
  | x :: xs, y :: ys => oand (mC ren x y) (mCs ren xs ys)
  | _, _ => some False

def mS (ren : List Src) : S → S → Option Prop
  | _, .any => none
  | .c x, .c y => mC ren x y
  | .agg xs, .agg ys => mCs ren xs ys
  | .und, .und => none
  | _, _ => some False

def mSs (ren : List Src) : List S → List S → Option Prop
  | [], [] => none
  | x :: xs, y :: ys => oand (mS ren x y) (mSs ren xs ys)
  | _, _ => some False

def mE (ren : List Src) (es : Nat → Ent) (r : Src) (t : Ent) : Option Prop :=
  match t with
  | .dead => match r with | .no => none | _ => some False
  | .bx cs => match r with | .nm n => (match es n with | .bx cs' => mCs ren cs' cs | _ => some False) | _ => some False
  | .row fr e xs =>
    match r with
    | .nm n => (match es n with | .row fr' e' ys => if h : e' = e then (if fr && !fr' then some False else some (castL h ys = xs)) else some False | _ => some False)
    | .nil => some (xs = [])
    | .no => some False

def mEs (ren : List Src) (es : Nat → Ent) : List Src → List Ent → Option Prop
  | [], [] => none
  | r :: rs, t :: ts => oand (mE ren es r t) (mEs ren es rs ts)
  | _, _ => some False

def nodupSrc : List Src → Bool
  | [] => true
  | .nm n :: r => !(lany (fun | .nm m => m == n | _ => false) r) && nodupSrc r
  | _ :: r => nodupSrc r

/-- Lent rows keep their names. -/
def lentOk (es : Nat → Ent) : Nat → List Src → List Ent → Bool
  | k, r :: rs, t :: ts =>
    (match t with
     | .row false e _ => !e.flat || (match r with | .nm n => n == k && (match es n with | .row fr _ _ => !fr | _ => false) | .nil => true | .no => false)
     | _ => true) && lentOk es (k + 1) rs ts
  | _, _, _ => true

/-- State 's' is one of those that 't' speaks of; 'ren' says which name of 's' each name of 't' is. -/
def Match (ren : List Src) (s t : St) : Prop :=
  toP (oand (owe (nodupSrc ren && lentOk s.ent 0 ren t.hp)) (oand (mSs ren s.ts t.ts) (mEs ren s.ent ren t.hp)))

/-- Which name of 's' is name 'n' of 't'? Looked up where 't' speaks of it. -/
def inferC (n : Nat) : C → C → Option Src
  | x, .own m => if m = n then (match x with | .own k => some (.nm k) | .val (.slice none 0 0) => some .nil | _ => none) else none
  | x, .box m _ => if m = n then (match x with | .box k _ => some (.nm k) | _ => none) else none
  | x, .pre m _ => if m = n then (match x with | .pre k _ => some (.nm k) | _ => none) else none
  | _, _ => none

def inferCs (n : Nat) : List C → List C → Option Src
  | x :: xs, y :: ys => oelse (inferC n x y) (inferCs n xs ys)
  | _, _ => none

def inferS (n : Nat) : S → S → Option Src
  | .c x, .c y => inferC n x y
  | .agg xs, .agg ys => inferCs n xs ys
  | _, _ => none

def inferSs (n : Nat) : List S → List S → Option Src
  | x :: xs, y :: ys => oelse (inferS n x y) (inferSs n xs ys)
  | _, _ => none

def inferE (n : Nat) (s : St) : Nat → List Ent → Option Src
  | k, .bx ys :: r => oelse (match s.ent k with | .bx xs => inferCs n xs ys | _ => none) (inferE n s (k + 1) r)
  | k, _ :: r => inferE n s (k + 1) r
  | _, [] => none

def inferN (s t : St) (n : Nat) : Src := (match oelse (inferSs n s.ts t.ts) (inferE n s 0 t.hp) with | some r => r | none => .nm n)

def inferAll (s t : St) : Nat → List Ent → List Src
  | _, [] => []
  | n, .dead :: r => .no :: inferAll s t (n + 1) r
  | n, _ :: r => inferN s t n :: inferAll s t (n + 1) r

/-! ### Code -/

inductive Ex where
  | normal
  | exit (id : Nat)
  | ret

/-- What is told of a loop: what a round begins with (out of the state in which the loop began), what grows less, where it begins; what is told of the loops that come in it and behind it. -/
inductive Ann : Type 1 where
  | mk (X : Type) (J : X → Prop) (I : St → X → St) (m : X → Nat) (x0 : X) (inner : X → Nat → Option Ann)

/-- The first region's number. -/
def keyOf : Code → Option Nat
  | .region id _ _ => some id
  | .seq a b => oelse (keyOf a) (keyOf b)
  | .block _ a => keyOf a
  | .loop a => keyOf a
  | _ => none

/-- The temporaries that a code writes. -/
def dstsOf : List Oper → List Nat
  | [] => []
  | o :: r => match o.dst with | some d => d :: dstsOf r | none => dstsOf r

def writes : Code → List Nat
  | .region _ ops _ => dstsOf ops.toList
  | .seq a b => lapp (writes a) (writes b)
  | .cond _ a b => lapp (writes a) (writes b)
  | .block _ a => writes a
  | .loop a => writes a
  | _ => []

def forget (ts : List S) : List Nat → List S
  | [] => ts
  | d :: r => forget (lset ts d .any) r

def setTs (ts : List S) : List (Nat × S) → List S
  | [] => ts
  | p :: r => setTs (lset ts p.1 p.2) r

def St.sets (st : St) (l : List (Nat × S)) : St := { st with ts := setTs st.ts l }

def setE (hp : List Ent) (p : Nat × Ent) : List Ent := if p.1 < llen hp then lset hp p.1 p.2 else lapp hp [p.2]

def setHp (hp : List Ent) : List (Nat × Ent) → List Ent
  | [] => hp
  | p :: r => setHp (setE hp p) r

def St.setEs (st : St) (l : List (Nat × Ent)) : St := { st with hp := setHp st.hp l }

def keepTs (n : Nat) (l : List Nat) : Nat → List S → List S
  | _, [] => []
  | i, s :: r => (if Nat.ble n i && !(lany (fun m => Nat.beq m i) l) then .any else s) :: keepTs n l (i + 1) r

/-- The temporaries below 'n' and those of 'l'; no word of the others. -/
def St.keep (st : St) (n : Nat) (l : List Nat) : St := { st with ts := keepTs n l 0 st.ts }

/-- The state at a loop's head: what the loop writes is forgotten, but for what is told. -/
def St.head (st : St) (body : Code) : St := { st with ts := forget st.ts (writes body) }

def vc (T : Tab) (Γ : FuncId → Option PC) (R : FuncId → Option Rule) : Code → (Nat → Option Ann) → St → (Ex → (Nat → Option Ann) → St → Prop) → Prop
  | .skip, A, st, Q => Q .normal A st
  | .region _ ops draw, A, st, Q => vcRegion T Γ R ops draw st (Q .normal A)
  | .seq a b, A, st, Q =>
    match obind (keyOf b) (fun k => A (k + 100000)) with
    | some (.mk X J I m x0 inner) =>
      vc T Γ R a A st (fun e A' st' =>
        match e with
        | .normal => ∃ x' : X, J x' ∧ Match (inferAll st' (I (st.head a) x') 0 (I (st.head a) x').hp) st' (I (st.head a) x')
        | e => Q e A' st') ∧
      ∀ x : X, J x → vc T Γ R b (inner x) (I (st.head a) x) Q
    | none => vc T Γ R a A st fun e A' st' => match e with | .normal => vc T Γ R b A' st' Q | e => Q e A' st'
  | .cond c a b, A, st, Q =>
    match st.eval c with
    | .c .tru => vc T Γ R a A st Q
    | .c .fls => vc T Γ R b A st Q
    | .c (.val (.bool p)) => (p = true → vc T Γ R a A st Q) ∧ (p = false → vc T Γ R b A st Q)
    | _ => False
  | .block id a, A, st, Q => vc T Γ R a A st fun e A' st' => match e with | .exit i => if i = id then Q .normal A' st' else Q (.exit i) A' st' | e => Q e A' st'
  | .loop a, A, st, Q =>
    match obind (keyOf a) A with
    | some (.mk X J I m x0 inner) =>
      J x0 ∧ Match (inferAll st (I (st.head a) x0) 0 (I (st.head a) x0).hp) st (I (st.head a) x0) ∧
      ∀ x : X, J x → vc T Γ R a (inner x) (I (st.head a) x) fun e A' st' =>
        match e with
        | .normal => ∃ x' : X, J x' ∧ m x' < m x ∧ Match (inferAll st' (I (st.head a) x') 0 (I (st.head a) x').hp) st' (I (st.head a) x')
        | e => Q e A' st'
    | none => False
  | .exit id, A, st, Q => Q (.exit id) A st
  | .ret, A, st, Q => Q .ret A st
  | _, _, _, _ => False

/-! ### A function's result -/

/-- A slice that is handed back, and its row. -/
def outSl (lk : Nat → Ent) (e : Ty) : C → Option (List e.den × List Nat)
  | .own n =>
    match lk n with
    | .row true e' xs => if h : e' = e then some (castL h xs, [n]) else none
    | _ => none
  | .pre n m =>
    match lk n with
    | .row true e' xs => if h : e' = e then some ((castL h xs).take m, [n]) else none
    | _ => none
  | .val (.slice none 0 0) => some ([], [])
  | _ => none

/-- The datum that is handed back: its slices are rows of this call's own. -/
def outC (lk : Nat → Ent) : (t : Ty) → List C → Option (t.den × List Nat × List C)
  | .int k, cs => match head1 (rdInt k) cs with | some (x, r) => some (x, [], r) | none => none
  | .bool, cs => match head1 rdBool cs with | some (x, r) => some (x, [], r) | none => none
  | .str, cs => match head1 rdStr cs with | some (x, r) => some (x, [], r) | none => none
  | .sl e, cs => match head1 (outSl lk e) cs with | some ((x, ns), r) => some (x, ns, r) | none => none
  | .st t, cs => outC lk t cs
  | .pr a b, cs =>
    match outC lk a cs with
    | some (x, ns, r) =>
      match outC lk b r with
      | some (y, ms, r') => some ((x, y), lapp ns ms, r')
      | none => none
    | none => none
  | .ptr _, _ => none
  | .clo _ _, _ => none

def outS (lk : Nat → Ent) (t : Ty) (s : S) : Option (t.den × List Nat) :=
  match s with
  | .c x => if isSt t then none else match outC lk t [x] with | some (d, ns, []) => some (d, ns) | _ => none
  | .agg cs => if isSt t then match outC lk t cs with | some (d, ns, []) => some (d, ns) | _ => none else none
  | _ => none

def outAll (lk : Nat → Ent) : (ts : List Ty) → List S → Option (Tup ts × List Nat)
  | [], [] => some ((), [])
  | [t], [s] => outS lk t s
  | t :: u :: r, s :: ss =>
    match outS lk t s with
    | some (x, ns) =>
      match outAll lk (u :: r) ss with
      | some (y, ms) => some ((x, y), lapp ns ms)
      | none => none
    | none => none
  | _, _ => none

def resS (T : Tab) (st : St) : ResultVar → Option S
  | .tmp t => some (st.eval (.tmp t))
  | .cell a t =>
    match st.eval (.tmp a) with
    | .c (.box m o) => omap (fun r => r.res) (qload T st.ent t (.box m o))
    | _ => none

def resAll (T : Tab) (st : St) : List ResultVar → Option (List S)
  | [] => some []
  | r :: rs =>
    match resS T st r, resAll T st rs with
    | some s, some ss => some (s :: ss)
    | _, _ => none

def nodupN : List Nat → Bool
  | [] => true
  | n :: r => !(lany (fun m => m == n) r) && nodupN r

def argS (t : Ty) (d : t.den) : S := topS (isSt t, expand false t d)

def argsS : (ts : List Ty) → Tup ts → List S
  | [], _ => []
  | [t], d => [argS t d]
  | t :: u :: r, d => argS t d.1 :: argsS (u :: r) d.2

def St.start (ts : List Ty) (d : Tup ts) (ntmps : Nat) : St := { ts := lapp (argsS ts d) (lrep .und (ntmps - llen ts)), hp := [] }

def vcPost (T : Tab) (fn : Func) (rs : List Ty) (out : Tup rs) (e : Ex) (st : St) : Prop :=
  match e with
  | .exit _ => False
  | _ =>
    match resAll T st fn.results.toList with
    | some ss =>
      match outAll st.ent rs ss with
      | some (r, ns) => if nodupN ns then r = out else False
      | none => False
    | none => False

/-- What is to be shown of a function's code. -/
def vcFunc (T : Tab) (Γ : FuncId → Option PC) (R : FuncId → Option Rule) (fn : Func) (c : PC) (A : Tup c.ts → Nat → Option Ann) : Prop :=
  match fn.body with
  | some code => ∀ d, tupWf c.ts d → c.pre d → vc T Γ R code (A d) (St.start c.ts d fn.ntmps) fun e _ st => vcPost T fn c.rs (c.F d) e st
  | none => False

end Go.SX
