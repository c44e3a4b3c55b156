/- A verified symbolic executor and its contracts (part SxC). No condition. -/
import Derived.Test.YtobmiihdfklmaaaGreatSxG
import Derived.IntWalk
/- Contracts: what all share. No condition. -/
namespace Go.SF
open Go.SX Go
set_option linter.unusedVariables false
def gOf : List (Nat × PC) → FuncId → Option PC
  | [], _ => none
  | (k, c) :: r, f => if f = k then some c else gOf r f
def rOf : List (Nat × Rule) → FuncId → Option Rule
  | [], _ => none
  | (k, c) :: r, f => if f = k then some c else rOf r f
def tellR : Rule := fun _ _ _ => False
def R0 : FuncId → Option Rule := fun _ => none
def noA {X : Type} : X → Nat → Option Ann := fun _ _ => none
def si (n : Int) : S := .c (.val (.int .i64 n))
abbrev i64T : Ty := .int .i64
def w64 (n : Int) : Int := IntKind.i64.wrap n
def szF (n : Nat) (left : Int) : Int := if w64 (left - n) < 0 then -1 else w64 (left - n)
def copyA {e : Ty} (x : List e.den) (key i out m : Nat) : Nat → Option Ann := fun k =>
  if k = key then some (.mk Nat (fun k => k ≤ x.length) (fun st k => ((st.keep m []).sets [(i, si k), (out, .c (.own 0))]).setEs [(0, .row true e (x.take k ++ List.replicate (x.length - k) e.dflt))]) (fun k => x.length - k) 0 (fun _ _ => none))
  else none
def eqA {e : Ty} (x : List e.den × List e.den) (key i m : Nat) : Nat → Option Ann := fun k =>
  if k = key then some (.mk Nat (fun k => k ≤ x.1.length ∧ x.1.length = x.2.length ∧ x.1.take k = x.2.take k) (fun st k => (st.keep m []).sets [(i, si k)]) (fun k => x.1.length - k) 0 (fun _ _ => none))
  else none
def fS_l01InC : PC := { ts := [i64T, i64T, i64T], rs := [.bool], pre := fun _ => True, F := fun x => decide (x.2.1 ≤ x.1) && decide (x.1 ≤ x.2.2) }
theorem getD_drop_cons {α : Type} {l : List α} {i : Nat} {x : α} (h : i < l.length) : l.drop i = l.getD i x :: l.drop (i + 1) := by
  rw [List.drop_eq_getElem_cons h]; simp [h]
theorem wrap_small {n : Int} (h : -9223372036854775808 ≤ n ∧ n ≤ 9223372036854775807) : IntKind.i64.wrap n = n := by
  rw [IntKind.wrap_i64]; omega
theorem wrap_succ {n : Nat} (h : n < 9223372036854775807) : IntKind.i64.wrap ((n : Int) + 1) = ((n + 1 : Nat) : Int) := by
  rw [wrap_small (by omega)]; rfl
theorem copy_step {α : Type} (l : List α) (z : α) {i : Nat} (h : i < l.length) : (l.take i ++ List.replicate (l.length - i) z).set i (l.getD i z) = l.take (i + 1) ++ List.replicate (l.length - (i + 1)) z := by
  apply List.ext_getElem?
  intro j
  simp only [List.getElem?_set, List.getElem?_append, List.getElem?_take, List.getElem?_replicate, List.length_take, List.length_append, List.length_replicate, List.getD_eq_getElem?_getD]
  grind
theorem take_ext {α : Type} {a b : List α} {z : α} {i : Nat} (hl : a.length = b.length) (hi : i < a.length) (h : a.take i = b.take i) : (a.take (i + 1) = b.take (i + 1) ↔ a.getD i z = b.getD i z) ∧ (a = b → a.getD i z = b.getD i z) := by
  refine ⟨?_, fun e => by rw [e]⟩
  rw [List.take_add_one, List.take_add_one, h, List.append_cancel_left_eq]
  rw [List.getElem?_eq_getElem hi, List.getElem?_eq_getElem (show i < b.length by omega)]
  simp [hi, show i < b.length by omega]
end Go.SF
/- Contracts: fields, and lists of their elements. No condition. -/
namespace Go.SF
open Go.SX Go
set_option linter.unusedVariables false
abbrev fldT : Ty := .st (.pr (.int .i64) (.pr (.int .i64) (.int .i64)))
abbrev listT : Ty := .sl (.int .i64)
abbrev Fd := Int × Int × Int
def fieldTab : List Fd := [(17, 3, 4), (97, 5, 5), (193, 5, 6), (257, 3, 8), (7681, 17, 9), (12289, 11, 12), (998244353, 3, 23), (469762049, 3, 26), (1004535809, 3, 21)]
def fieldF (f : Int) : Fd × Bool := if 0 ≤ f ∧ f < 9 then (fieldTab.getD f.toNat (0, 0, 0), true) else ((0, 0, 0), false)
def modF (f : Int) : Int := (fieldF f).1.1
def twoF (f : Int) : Int := if (fieldF f).2 = true then (fieldF f).1.2.2 else -1
def logGo (n : Int) : Nat → Int
  | 0 => -1
  | k + 1 => if n = 2 ^ (9 - k) then ((9 - k : Nat) : Int) else logGo n k
def logF (n : Int) : Int := logGo n 10
def elemsF (p : Int) (xs : List Int) : Bool := decide (∀ x ∈ xs, 0 ≤ x ∧ x ≤ p - 1)
def specElemsF (f : Int) (xs : List Int) : Bool := decide (modF f ≠ 0) && elemsF (modF f) xs
def vectorOkF (f : Int) (xs : List Int) : Bool := decide (0 ≤ logF xs.length) && decide (logF xs.length ≤ twoF f) && specElemsF f xs
def vecF (f : Int) (xs : List Int) : Fd × Bool := if vectorOkF f xs = true then ((fieldF f).1, true) else ((0, 0, 0), false)
def fI_fieldOfC : PC := { ts := [i64T], rs := [fldT, .bool], pre := fun _ => True, F := fun x => fieldF x }
def fS_ModulusC : PC := { ts := [i64T], rs := [i64T], pre := fun _ => True, F := fun x => modF x }
def fS_TwoPowerC : PC := { ts := [i64T], rs := [i64T], pre := fun _ => True, F := fun x => twoF x }
def fS_LogOfC : PC := { ts := [i64T], rs := [i64T], pre := fun _ => True, F := fun x => logF x }
def fI_logOfC : PC := { ts := [i64T], rs := [i64T], pre := fun _ => True, F := fun x => logF x }
def fS_l03ElementsC : PC := { ts := [i64T, listT], rs := [.bool], pre := fun _ => True, F := fun x => specElemsF x.1 x.2 }
def fI_areElementsC : PC := { ts := [fldT, listT], rs := [.bool], pre := fun _ => True, F := fun x => elemsF x.1.1 x.2 }
def fS_VectorOkC : PC := { ts := [i64T, listT], rs := [.bool], pre := fun _ => True, F := fun x => vectorOkF x.1 x.2 }
def fI_vectorFieldC : PC := { ts := [i64T, .sl listT], rs := [fldT, .bool], pre := fun x => x.2.length = 1, F := fun x => vecF x.1 (x.2.getD 0 []) }
def aS_TwoPower (x : Int) : Nat → Option Ann := fun
  | 6 => some (.mk Nat (fun t => (t : Int) ≤ twoF x) (fun st t => (st.keep 4 []).sets [(4, si t), (5, si ((modF x - 1) / 2 ^ t))]) (fun t => (twoF x).toNat - t) 0 (fun _ _ => none))
  | _ => none
def LogP (n : Int) (k : Nat) : Prop := k ≤ 10 ∧ ∀ j, j < k → n ≠ 2 ^ j
def aS_LogOf (x : Int) : Nat → Option Ann := fun
  | 2 => some (.mk Nat (fun k => LogP x k) (fun st k => (st.keep 3 []).sets [(3, si k)]) (fun k => 10 - k) 0 (fun _ _ => none))
  | _ => none
def aI_logOf (x : Int) : Nat → Option Ann := fun
  | 2 => some (.mk Nat (fun k => LogP x k) (fun st k => (st.keep 3 []).sets [(4, si k)]) (fun k => 10 - k) 0 (fun _ _ => none))
  | _ => none
def ElP (p : Int) (xs : List Int) (k : Nat) : Prop := k ≤ xs.length ∧ elemsF p (xs.take k) = true
def aS_l03Elements (x : Int × List Int) : Nat → Option Ann := fun
  | 5 => some (.mk Nat (fun k => ElP (modF x.1) x.2 k) (fun st k => (st.keep 6 []).sets [(6, si k)]) (fun k => x.2.length - k) 0 (fun _ _ => none))
  | _ => none
def aI_areElements (x : Fd × List Int) : Nat → Option Ann := fun
  | 2 => some (.mk Nat (fun k => ElP x.1.1 x.2 k) (fun st k => (st.keep 5 [7, 8]).sets [(9, si k)]) (fun k => x.2.length - k) 0 (fun _ _ => none))
  | _ => none
def aI_vectorField (x : Int × List (List Int)) : Nat → Option Ann := fun
  | 5 => some (.mk Nat (fun k => k ≤ 1 ∧ (k = 1 → vectorOkF x.1 (x.2.getD 0 []) = true)) (fun st k => (st.keep 8 [19, 20]).sets [(21, si k)]) (fun k => 1 - k) 0 (fun _ _ => none))
  | _ => none
end Go.SF
/- Contracts: arithmetic modulo a number. No condition. -/
namespace Go.SF
open Go.SX Go
set_option linter.unusedVariables false
def addM (p a b : Int) : Int := (a + b) % p
def subM (p a b : Int) : Int := (a - b) % p
def mulM (p a b : Int) : Int := a * b % p
def powM (p a : Int) (e : Nat) : Int := a ^ e % p
def redM (p a : Int) : Int := a % p
def redS (f x : Int) : Int := if modF f = 0 then -1 else x % modF f
def addS (f a b : Int) : Int := if modF f = 0 then -1 else addM (modF f) a b
def subS (f a b : Int) : Int := if modF f = 0 then -1 else subM (modF f) a b
def mulS (f a b : Int) : Int := if modF f = 0 then -1 else mulM (modF f) a b
def powP (p a e : Int) : Int := if a % p = 0 then (if e = 0 then 1 else if e < 0 then -1 else 0) else powM p a (e % (p - 1)).toNat
def powS (f a e : Int) : Int := if modF f = 0 then -1 else powP (modF f) a e
def IsMod (p : Int) : Prop := 17 ≤ p ∧ p ≤ 1004535809
def El (p x : Int) : Prop := 0 ≤ x ∧ x < p
def invM (p a : Int) : Int := powM p a (p - 2).toNat
def fS_ReduceC : PC := { ts := [i64T, i64T], rs := [i64T], pre := fun _ => True, F := fun x => redS x.1 x.2 }
def fS_AddC : PC := { ts := [i64T, i64T, i64T], rs := [i64T], pre := fun _ => True, F := fun x => addS x.1 x.2.1 x.2.2 }
def fS_SubC : PC := { ts := [i64T, i64T, i64T], rs := [i64T], pre := fun _ => True, F := fun x => subS x.1 x.2.1 x.2.2 }
def fS_MulC : PC := { ts := [i64T, i64T, i64T], rs := [i64T], pre := fun _ => True, F := fun x => mulS x.1 x.2.1 x.2.2 }
def fS_PowerC : PC := { ts := [i64T, i64T, i64T], rs := [i64T], pre := fun _ => True, F := fun x => powS x.1 x.2.1 x.2.2 }
def fS_InverseC : PC := { ts := [i64T, i64T], rs := [i64T], pre := fun _ => True, F := fun x => powS x.1 x.2 (-1) }
def fI_addC : PC := { ts := [fldT, i64T, i64T], rs := [i64T], pre := fun x => IsMod x.1.1 ∧ El x.1.1 x.2.1 ∧ El x.1.1 x.2.2, F := fun x => addM x.1.1 x.2.1 x.2.2 }
def fI_subC : PC := { ts := [fldT, i64T, i64T], rs := [i64T], pre := fun x => IsMod x.1.1 ∧ El x.1.1 x.2.1 ∧ El x.1.1 x.2.2, F := fun x => subM x.1.1 x.2.1 x.2.2 }
def fI_mulC : PC := { ts := [fldT, i64T, i64T], rs := [i64T], pre := fun x => IsMod x.1.1 ∧ El x.1.1 x.2.1 ∧ El x.1.1 x.2.2, F := fun x => mulM x.1.1 x.2.1 x.2.2 }
def fI_powerC : PC := { ts := [fldT, i64T, i64T], rs := [i64T], pre := fun x => IsMod x.1.1 ∧ El x.1.1 x.2.1 ∧ 0 ≤ x.2.2, F := fun x => powM x.1.1 x.2.1 x.2.2.toNat }
def fI_inverseC : PC := { ts := [fldT, i64T], rs := [i64T], pre := fun x => IsMod x.1.1 ∧ El x.1.1 x.2, F := fun x => invM x.1.1 x.2 }
def PowJ (p r : Int) (x : Int × Int × Nat) : Prop := El p x.1 ∧ El p x.2.1 ∧ x.2.1 * x.1 ^ x.2.2 % p = r ∧ (x.2.2 : Int) ≤ 9223372036854775807
def aS_Power (x : Int × Int × Int) : Nat → Option Ann := fun
  | 100014 => some (.mk Unit (fun _ => True) (fun st _ => (st.keep 9 []).sets [(9, si (x.2.2 % (modF x.1 - 1)).toNat)]) (fun _ => 0) () (fun _ => fun
    | 15 => some (.mk (Int × Int × Nat) (fun t => PowJ (modF x.1) (powM (modF x.1) x.2.1 (x.2.2 % (modF x.1 - 1)).toNat) t) (fun st t => (st.keep 8 []).sets [(8, si t.1), (9, si t.2.2), (10, si t.2.1)]) (fun t => t.2.2) (x.2.1 % modF x.1, 1, (x.2.2 % (modF x.1 - 1)).toNat) (fun _ _ => none))
    | _ => none))
  | _ => none
def aI_power (x : Fd × Int × Int) : Nat → Option Ann := fun
  | 2 => some (.mk (Int × Int × Nat) (fun t => PowJ x.1.1 (powM x.1.1 x.2.1 x.2.2.toNat) t) (fun st t => (st.keep 8 []).sets [(1, si t.1), (2, si t.2.2), (7, si t.2.1)]) (fun t => t.2.2) (x.2.1, 1, x.2.2.toNat) (fun _ _ => none))
  | _ => none
end Go.SF
/- Contracts: lists of numbers. No condition. -/
namespace Go.SF
open Go.SX Go
set_option linter.unusedVariables false
def fL_eqIntSC : PC := { ts := [.sl i64T, .sl i64T], rs := [.bool], pre := fun _ => True, F := fun x => decide (x.1 = x.2) }
def aL_eqIntS (x : List Int × List Int) := eqA (e := i64T) x 4 5 6
end Go.SF
/- Contracts: lines of tickets. No condition. -/
namespace Go.SF
open Go.SX Go
set_option linter.unusedVariables false
end Go.SF
/- Contracts: points, and their weights. No condition. -/
namespace Go.SF
open Go.SX Go
set_option linter.unusedVariables false
def hasF (l : List Int) (x : Int) : Bool := decide (x ∈ l)
def pointsF (f : Int) (xs : List Int) : Bool := decide (1 ≤ xs.length) && decide (xs.length ≤ 40) && specElemsF f xs && decide xs.Nodup
def ptF (f : Int) (xs : List Int) : Fd × Bool := if pointsF f xs = true then ((fieldF f).1, true) else ((0, 0, 0), false)
def byF (p : Int) (xs : List Int) (i : Nat) : Nat → Int
  | 0 => 1
  | n + 1 => if n = i then byF p xs i n else mulM p (byF p xs i n) (subM p (xs.getD i 0) (xs.getD n 0))
def wtF (p : Int) (xs : List Int) (i : Nat) : Int := invM p (byF p xs i xs.length)
def fS_l01HasC : PC := { ts := [listT, i64T], rs := [.bool], pre := fun _ => True, F := fun x => hasF x.1 x.2 }
def fS_PointsOkC : PC := { ts := [i64T, listT], rs := [.bool], pre := fun _ => True, F := fun x => pointsF x.1 x.2 }
def fI_pointFieldC : PC := { ts := [i64T, listT], rs := [fldT, .bool], pre := fun _ => True, F := fun x => ptF x.1 x.2 }
def fI_weightC : PC := { ts := [fldT, listT, i64T], rs := [i64T], pre := fun x => IsMod x.1.1 ∧ elemsF x.1.1 x.2.1 = true ∧ 0 ≤ x.2.2 ∧ x.2.2 < x.2.1.length, F := fun x => wtF x.1.1 x.2.1 x.2.2.toNat }
def aS_l01Has (x : List Int × Int) : Nat → Option Ann := fun
  | 2 => some (.mk Nat (fun k => k ≤ x.1.length ∧ x.2 ∉ x.1.take k) (fun st k => (st.keep 5 []).sets [(5, si k)]) (fun k => x.1.length - k) 0 (fun _ _ => none))
  | _ => none
def aS_PointsOk (x : Int × List Int) : Nat → Option Ann := fun
  | 4 => some (.mk Nat (fun k => k ≤ x.2.length ∧ (x.2.take k).Nodup) (fun st k => (st.keep 5 []).sets [(5, si k)]) (fun k => x.2.length - k) 0 (fun _ _ => none))
  | _ => none
def aI_pointField (x : Int × List Int) : Nat → Option Ann := fun
  | 5 => some (.mk Nat (fun k => k ≤ x.2.length ∧ (x.2.take k).Nodup) (fun st k => (st.keep 8 [36, 37]).sets [(38, si k)]) (fun k => x.2.length - k) 0 (fun i => fun
    | 8 => some (.mk Nat (fun j => j ≤ i ∧ x.2.getD i 0 ∉ x.2.take j) (fun st j => (st.keep 11 [36, 37, 38, 45, 46]).sets [(47, si j)]) (fun j => i - j) 0 (fun _ _ => none))
    | _ => none))
  | _ => none
def aI_weight (x : Fd × List Int × Int) : Nat → Option Ann := fun
  | 3 => some (.mk Nat (fun j => j ≤ x.2.1.length) (fun st j => (st.keep 7 [10, 11]).sets [(7, si (byF x.1.1 x.2.1 x.2.2.toNat j)), (12, si j)]) (fun j => x.2.1.length - j) 0 (fun _ _ => none))
  | _ => none
end Go.SF
/- Contracts: plans and turners. No condition. -/
namespace Go.SF
open Go.SX Go
set_option linter.unusedVariables false
def fS_l01CopyC : PC := { ts := [listT], rs := [listT], pre := fun x => x.length ≤ 1048576, F := fun x => x }
def fL_szIntSC : PC := { ts := [listT, i64T], rs := [i64T], pre := fun _ => True, F := fun x => szF x.1.length x.2 }
def fL_toIntSC : PC := { ts := [listT], rs := [listT], pre := fun x => x.length ≤ 1048576, F := fun x => x }
def aL_toIntS (x : List Int) := copyA (e := i64T) x 3 4 3 5
def aS_l01Copy (x : List Int) : Nat → Option Ann := fun
  | 3 => some (.mk Nat (fun k => k ≤ x.length) (fun st k => ((st.keep 3 []).sets [(4, si k), (3, .c (.own 0))]).setEs [(0, .row true i64T (x.take k))]) (fun k => x.length - k) 0 (fun _ _ => none))
  | _ => none
end Go.SF
/- Contracts: polynomials as lists of coefficients. No condition. -/
namespace Go.SF
open Go.SX Go
set_option linter.unusedVariables false
def cutN (l : List Int) : Nat → Nat
  | 0 => 0
  | n + 1 => if l.getD n 0 = 0 then cutN l n else n + 1
def cutF (l : List Int) : Nat := cutN l l.length
def trimF (l : List Int) : List Int := l.take (cutF l)
def topB (l : List Int) : Bool := decide (cutF l = l.length)
def polyB (f : Int) (a : List Int) : Bool := decide (a.length ≤ 400) && specElemsF f a && topB a
def atF (l : List Int) (i : Int) : Int := if 0 ≤ i then l.getD i.toNat 0 else 0
def addLn (p : Int) (a b : List Int) (n : Nat) : List Int := (List.range n).map (fun i => addM p (a.getD i 0) (b.getD i 0))
def addP (p : Int) (a b : List Int) : List Int := trimF (addLn p a b (max a.length b.length))
def scLn (p : Int) (a : List Int) (c : Int) (n : Nat) : List Int := (List.range n).map (fun i => mulM p (a.getD i 0) c)
def scaleP (p : Int) (a : List Int) (c : Int) : List Int := trimF (scLn p a c a.length)
def psum (p : Int) (a b : List Int) (i : Nat) : Nat → Int
  | 0 => 0
  | j + 1 => if i - j < b.length then (psum p a b i j + a.getD j 0 * b.getD (i - j) 0) % p else psum p a b i j
def mulLn (p : Int) (a b : List Int) (n : Nat) : List Int := (List.range n).map (fun i => psum p a b i (min (i + 1) a.length))
def mulP (p : Int) (a b : List Int) : List Int := if a.length = 0 ∨ b.length = 0 then [] else trimF (mulLn p a b (a.length + b.length - 1))
def addPS (f : Int) (a b : List Int) : List Int := if (polyB f a && polyB f b) = true then addP (modF f) a b else []
def scalePS (f : Int) (a : List Int) (c : Int) : List Int := if polyB f a = true then scaleP (modF f) a c else []
def fS_l03CutC : PC := { ts := [listT], rs := [listT], pre := fun x => x.length ≤ 1048576, F := fun x => trimF x }
def fS_PolyOkC : PC := { ts := [i64T, listT], rs := [.bool], pre := fun _ => True, F := fun x => polyB x.1 x.2 }
def fS_l03AtC : PC := { ts := [listT, i64T], rs := [i64T], pre := fun _ => True, F := fun x => atF x.1 x.2 }
def fS_AddPolyC : PC := { ts := [i64T, listT, listT], rs := [listT], pre := fun _ => True, F := fun x => addPS x.1 x.2.1 x.2.2 }
def fS_ScalePolyC : PC := { ts := [i64T, listT, i64T], rs := [listT], pre := fun _ => True, F := fun x => scalePS x.1 x.2.1 x.2.2 }
def fS_l03MulC : PC := { ts := [i64T, listT, listT], rs := [listT], pre := fun x => specElemsF x.1 x.2.1 = true ∧ specElemsF x.1 x.2.2 = true ∧ x.2.1.length ≤ 1000 ∧ x.2.2.length ≤ 1000, F := fun x => mulP (modF x.1) x.2.1 x.2.2 }
def fI_trimmedC : CC := { e := i64T, F := fun l => cutF l }
def fI_coefficientC : PC := { ts := [listT, i64T], rs := [i64T], pre := fun x => 0 ≤ x.2, F := fun x => atF x.1 x.2 }
def fI_addPolyC : PC := { ts := [fldT, listT, listT], rs := [listT], pre := fun x => IsMod x.1.1 ∧ elemsF x.1.1 x.2.1 = true ∧ elemsF x.1.1 x.2.2 = true ∧ x.2.1.length ≤ 1000 ∧ x.2.2.length ≤ 1000, F := fun x => addP x.1.1 x.2.1 x.2.2 }
def fI_scalePolyC : PC := { ts := [fldT, listT, i64T], rs := [listT], pre := fun x => IsMod x.1.1 ∧ elemsF x.1.1 x.2.1 = true ∧ El x.1.1 x.2.2 ∧ x.2.1.length ≤ 1000, F := fun x => scaleP x.1.1 x.2.1 x.2.2 }
def fI_mulPolyC : PC := { ts := [fldT, listT, listT], rs := [listT], pre := fun x => IsMod x.1.1 ∧ elemsF x.1.1 x.2.1 = true ∧ elemsF x.1.1 x.2.2 = true ∧ x.2.1.length ≤ 1000 ∧ x.2.2.length ≤ 1000, F := fun x => mulP x.1.1 x.2.1 x.2.2 }
def CutJ (l : List Int) (k : Nat) : Prop := k ≤ l.length ∧ cutN l k = cutF l
def aS_l03Cut (x : List Int) : Nat → Option Ann := fun
  | 2 => some (.mk Nat (fun k => CutJ x k) (fun st k => (st.keep 3 []).sets [(3, si k)]) (fun k => k) x.length (fun _ _ => none))
  | _ => none
def aS_AddPoly (x : Int × List Int × List Int) : Nat → Option Ann := fun
  | 5 => some (.mk Nat (fun k => k ≤ max x.2.1.length x.2.2.length) (fun st k => ((st.keep 7 []).sets [(7, .c (.own 0)), (8, si k)]).setEs [(0, .row true i64T (addLn (modF x.1) x.2.1 x.2.2 k))]) (fun k => max x.2.1.length x.2.2.length - k) 0 (fun _ _ => none))
  | _ => none
def aS_ScalePoly (x : Int × List Int × Int) : Nat → Option Ann := fun
  | 5 => some (.mk Nat (fun k => k ≤ x.2.1.length) (fun st k => ((st.keep 7 []).sets [(7, .c (.own 0)), (8, si k)]).setEs [(0, .row true i64T (scLn (modF x.1) x.2.1 x.2.2 k))]) (fun k => x.2.1.length - k) 0 (fun _ _ => none))
  | _ => none
def aS_l03Mul (x : Int × List Int × List Int) : Nat → Option Ann := fun
  | 6 => some (.mk Nat (fun k => k ≤ x.2.1.length + x.2.2.length - 1) (fun st k => ((st.keep 8 []).sets [(8, .c (.own 0)), (9, si k)]).setEs [(0, .row true i64T (mulLn (modF x.1) x.2.1 x.2.2 k))]) (fun k => x.2.1.length + x.2.2.length - 1 - k) 0 (fun i => fun
    | 10 => some (.mk Nat (fun j => j ≤ min (i + 1) x.2.1.length) (fun st j => (st.keep 10 []).sets [(10, si (psum (modF x.1) x.2.1 x.2.2 i j)), (11, si j)]) (fun j => min (i + 1) x.2.1.length - j) 0 (fun _ _ => none))
    | _ => none))
  | _ => none
def aI_trimmed (x : List Int) : Nat → Option Ann := fun
  | 1 => some (.mk Nat (fun k => CutJ x k) (fun st k => (st.keep 3 []).sets [(0, .c (.pre 0 k))]) (fun k => k) x.length (fun _ _ => none))
  | _ => none
def aI_addPoly (x : Fd × List Int × List Int) : Nat → Option Ann := fun
  | 3 => some (.mk Nat (fun k => k ≤ max x.2.1.length x.2.2.length) (fun st k => ((st.keep 7 [14]).sets [(7, .c (.own 1)), (15, si k)]).setEs [(1, .row true i64T (addLn x.1.1 x.2.1 x.2.2 k))]) (fun k => max x.2.1.length x.2.2.length - k) 0 (fun _ _ => none))
  | _ => none
def aI_scalePoly (x : Fd × List Int × Int) : Nat → Option Ann := fun
  | 3 => some (.mk Nat (fun k => k ≤ x.2.1.length) (fun st k => ((st.keep 7 [11, 12]).sets [(7, .c (.own 1)), (13, si k)]).setEs [(1, .row true i64T (scLn x.1.1 x.2.1 x.2.2 k))]) (fun k => x.2.1.length - k) 0 (fun _ _ => none))
  | _ => none
def mulRow (p : Int) (a b : List Int) (x y : Nat) : List Int := (List.range (a.length + b.length - 1)).map (fun t => if x ≤ t ∧ t < x + y then psum p a b t (x + 1) else psum p a b t (min x (t + 1)))
def aI_mulPoly (x : Fd × List Int × List Int) : Nat → Option Ann := fun
  | 5 => some (.mk Nat (fun k => k ≤ x.2.1.length) (fun st k => ((st.keep 8 [27, 28]).sets [(7, .c (.own 1)), (29, si k)]).setEs [(1, .row true i64T (mulRow x.1.1 x.2.1 x.2.2 k 0))]) (fun k => x.2.1.length - k) 0 (fun i => fun
    | 8 => some (.mk Nat (fun j => j ≤ x.2.2.length) (fun st j => ((st.keep 10 [27, 28, 29, 34, 35]).sets [(7, .c (.own 1)), (36, si j)]).setEs [(1, .row true i64T (mulRow x.1.1 x.2.1 x.2.2 i j))]) (fun j => x.2.2.length - j) 0 (fun _ _ => none))
    | _ => none))
  | _ => none
end Go.SF
/- Contracts: crews of hands. No condition. -/
namespace Go.SF
open Go.SX Go
set_option linter.unusedVariables false
abbrev Hd := Int × Int × Int
def hd0 : Hd := (0, 0, 0)
end Go.SF
/- Contracts: ServedCost. No condition. -/
namespace Go.SF
open Go.SX Go
set_option linter.unusedVariables false
end Go.SF
/- Contracts: marks. No condition. -/
namespace Go.SF
open Go.SX Go
set_option linter.unusedVariables false
def noM0 {X : Type} : X → Int → Nat → Option Ann := fun _ _ _ => none
def mkGo {α : Type} (el : Int → α) (nx : Int → Int) : List α → Int → List α
  | [], _ => []
  | _ :: xs, k => el k :: mkGo el nx xs (nx k)
def mkEnd {α : Type} (nx : Int → Int) : List α → Int → Int
  | [], k => k
  | _ :: xs, k => mkEnd nx xs (nx k)
def heldGo {α : Type} (ok : α → Int → Bool) (nx : Int → Int) : List α → Int → Int
  | [], k => k
  | x :: xs, k => if ok x k then heldGo ok nx xs (nx k) else -1
def n1 (k : Int) : Int := w64 (k + 1)
def n2 (k : Int) : Int := w64 (w64 (k + 1) + 1)
def n3 (k : Int) : Int := w64 (w64 (w64 (k + 1) + 1) + 1)
def el1 (k : Int) : Int := k
def el2 (k : Int) : Int × Int := (k, w64 (k + 1))
def ok1 (x : Int) (k : Int) : Bool := decide (x = k)
def held1 (xs : List Int) (k : Int) : Int := heldGo ok1 n1 xs k
def mark1 (xs : List Int) (k : Int) : List Int := mkGo el1 n1 xs k
def end1 (xs : List Int) (k : Int) : Int := mkEnd n1 xs k
def neg1 (k : Int) : Int := if k < 0 then -1 else k
def markA {e : Ty} (mk : List e.den → Int → List e.den) (en : List e.den → Int → Int) (x : List e.den) (k : Int) : Nat → Option Ann := fun
  | 2 => some (.mk (Nat × Int) (fun j => j.1 ≤ x.length ∧ j.2 = en (x.take j.1) k) (fun st j => ((st.keep 1 []).sets [(5, si j.1), (1, si j.2)]).setEs [(0, .row false e (mk (x.take j.1) k ++ x.drop j.1))]) (fun j => x.length - j.1) (0, k) (fun _ _ => none))
  | _ => none
def heldA {e : Ty} (he : List e.den → Int → Int) (x : List e.den × Int) : Nat → Option Ann := fun
  | 2 => some (.mk (Nat × Int) (fun j => j.1 ≤ x.1.length ∧ he (x.1.drop j.1) j.2 = he x.1 x.2) (fun st j => (st.keep 1 []).sets [(5, si j.1), (1, si j.2)]) (fun j => x.1.length - j.1) (0, x.2) (fun _ _ => none))
  | _ => none
def fL_markIntSC : MC := { t := .sl i64T, pre := fun _ _ => True, F := fun x k => end1 x k, G := fun x k => mark1 x k }
def fL_heldIntSC : PC := { ts := [.sl i64T, i64T], rs := [i64T], pre := fun _ => True, F := fun x => held1 x.1 x.2 }
def aL_markIntS (x : List Int) (k : Int) := markA (e := i64T) mark1 end1 x k
def aL_heldIntS (x : List Int × Int) := heldA (e := i64T) held1 x
end Go.SF
/- Contracts: turners that are begun and done, and their marks. No condition. -/
namespace Go.SF
open Go.SX Go
set_option linter.unusedVariables false
def rev (x : Nat) : Nat → Nat
  | 0 => 0
  | j + 1 => 2 * rev x j + x / 2 ^ j % 2
def permL (v : List Int) (n : Nat) : List Int := (List.range n).map (fun i => v.getD (rev i (logF v.length).toNat) 0)
def permF (v : List Int) : List Int := if 0 ≤ logF v.length then permL v v.length else []
def permM (v : List Int) (n : Nat) : List Int := (List.range v.length).map (fun i => if rev i (logF v.length).toNat < n then v.getD (rev i (logF v.length).toNat) 0 else 0)
def fI_reversedC : PC := { ts := [i64T, i64T], rs := [i64T], pre := fun x => (0 ≤ x.2 ∧ x.2 ≤ 9) ∧ 0 ≤ x.1 ∧ x.1 < 2 ^ x.2.toNat, F := fun x => ((rev x.1.toNat x.2.toNat : Nat) : Int) }
def fI_permutedC : PC := { ts := [listT], rs := [listT], pre := fun x => 0 ≤ logF x.length, F := fun x => permF x }
def aI_permuted (x : List Int) : Nat → Option Ann := fun
  | 4 => some (.mk Nat (fun k => k ≤ x.length) (fun st k => ((st.keep 5 [13, 14]).sets [(15, si k)]).setEs [(0, .row true i64T (permM x k))]) (fun k => x.length - k) 0 (fun _ _ => none))
  | _ => none
def aI_reversed (x : Int × Int) : Nat → Option Ann := fun
  | 3 => some (.mk Nat (fun j => (j : Int) ≤ x.2) (fun st j => (st.keep 5 [6]).sets [(0, si ((x.1.toNat / 2 ^ j : Nat) : Int)), (5, si ((rev x.1.toNat j : Nat) : Int)), (7, si j)]) (fun j => x.2.toNat - j) 0 (fun _ _ => none))
  | _ => none
end Go.SF
/- Contracts: turners that go on. No condition. -/
namespace Go.SF
open Go.SX Go
set_option linter.unusedVariables false
def genF (f : Int) : Int := (fieldF f).1.2.1
def rootS (f k : Int) : Int := if modF f ≠ 0 ∧ 0 ≤ k ∧ k ≤ twoF f then powP (modF f) (genF f) ((modF f - 1) / 2 ^ k.toNat) else -1
def rootI (d : Fd) (k : Int) : Int := powM d.1 d.2.1 ((d.1 - 1) / 2 ^ k.toNat).toNat
def twF (d : Fd) (l j : Nat) : Int := powM d.1 d.2.1 ((d.1 - 1).toNat / 2 ^ (l + 1) * j)
def bOf (l t : Nat) : Nat := t / (2 * 2 ^ l) * 2 ^ l + t % 2 ^ l
def stgAt (d : Fd) (v : List Int) (l t : Nat) : Int :=
  if t % (2 * 2 ^ l) < 2 ^ l then addM d.1 (v.getD t 0) (mulM d.1 (v.getD (t + 2 ^ l) 0) (twF d l (t % 2 ^ l)))
  else subM d.1 (v.getD (t - 2 ^ l) 0) (mulM d.1 (v.getD t 0) (twF d l (t % 2 ^ l)))
def rgL (d : Fd) (v : List Int) (l lo B : Nat) : List Int := (List.range v.length).map (fun t => if lo ≤ bOf l t ∧ bOf l t < B then stgAt d v l t else v.getD t 0)
def fS_GeneratorC : PC := { ts := [i64T], rs := [i64T], pre := fun _ => True, F := fun x => genF x }
def fS_RootOfC : PC := { ts := [i64T, i64T], rs := [i64T], pre := fun _ => True, F := fun x => rootS x.1 x.2 }
def fI_rootC : PC := { ts := [fldT, i64T], rs := [i64T], pre := fun x => IsMod x.1.1 ∧ El x.1.1 x.1.2.1 ∧ 0 ≤ x.2 ∧ x.2 ≤ 30, F := fun x => rootI x.1 x.2 }
end Go.SF
/- Contracts: the transform. No condition. -/
namespace Go.SF
open Go.SX Go
set_option linter.unusedVariables false
def sigN (f : Nat → Int) : Nat → Int
  | 0 => 0
  | n + 1 => sigN f n + f n
def dftT (v : List Int) (w : Int) (i j : Nat) : Int := v.getD j 0 * w ^ (i * j % v.length)
def dftAt (p : Int) (v : List Int) (w : Int) (i : Nat) : Int := sigN (dftT v w i) v.length % p
def dftL (p : Int) (v : List Int) (w : Int) (n : Nat) : List Int := (List.range n).map (fun i => dftAt p v w i)
def powL (p w : Int) (n : Nat) : List Int := (List.range n).map (fun i => w ^ i % p)
def fwdF (f : Int) (v : List Int) : List Int := if vectorOkF f v = true then dftL (modF f) v (rootS f (logF v.length)) v.length else []
def lev (d : Fd) (u : List Int) : Nat → Nat → Int
  | 0, t => u.getD t 0
  | l + 1, t =>
    if t % (2 * 2 ^ l) < 2 ^ l then addM d.1 (lev d u l t) (mulM d.1 (lev d u l (t + 2 ^ l)) (twF d l (t % 2 ^ l)))
    else subM d.1 (lev d u l (t - 2 ^ l)) (mulM d.1 (lev d u l t) (twF d l (t % 2 ^ l)))
def fS_l04SumC : PC := { ts := [i64T, listT, i64T], rs := [listT], pre := fun x => vectorOkF x.1 x.2.1 = true ∧ El (modF x.1) x.2.2, F := fun x => dftL (modF x.1) x.2.1 x.2.2 x.2.1.length }
def fS_ForwardC : PC := { ts := [i64T, listT], rs := [listT], pre := fun _ => True, F := fun x => fwdF x.1 x.2 }
def aS_l04Sum4 (x : Int × List Int × Int) (i : Nat) : Nat → Option Ann := fun
  | 16 => some (.mk Nat (fun j => j ≤ x.2.1.length) (fun st j => (st.keep 14 []).sets [(14, si (sigN (dftT x.2.1 x.2.2 i) j % modF x.1)), (15, si j)]) (fun j => x.2.1.length - j) 0 (fun _ _ => none))
  | _ => none
def aS_l04Sum2 (x : Int × List Int × Int) : Nat → Option Ann := fun
  | 12 => some (.mk Nat (fun i => i ≤ x.2.1.length) (fun st i => ((st.keep 10 []).sets [(12, .c (.own 1)), (13, si i)]).setEs [(1, .row true i64T (dftL (modF x.1) x.2.1 x.2.2 i))]) (fun i => x.2.1.length - i) 0 (fun i => aS_l04Sum4 x i))
  | _ => none
def aS_l04Sum (x : Int × List Int × Int) : Nat → Option Ann := fun
  | 6 => some (.mk Nat (fun i => i ≤ x.2.1.length) (fun st i => ((st.keep 9 []).sets [(9, .c (.own 0)), (10, si (x.2.2 ^ i % modF x.1)), (11, si i)]).setEs [(0, .row true i64T (powL (modF x.1) x.2.2 i))]) (fun i => x.2.1.length - i) 0 (fun _ => aS_l04Sum2 x))
  | _ => none
end Go.SF
/- Contracts: transforms and products of vectors. No condition. -/
namespace Go.SF
open Go.SX Go
set_option linter.unusedVariables false
def vecsB (f : Int) (ls : List (List Int)) : Bool := decide (∀ v ∈ ls, vectorOkF f v = true ∧ v.length = (ls.getD 0 []).length)
def vecsF (f : Int) (ls : List (List Int)) : Fd × Bool := if vecsB f ls = true then ((fieldF f).1, true) else ((0, 0, 0), false)
def twoVF (f : Int) (a b : List Int) : Bool := decide (a.length = b.length) && vectorOkF f a && vectorOkF f b
def bkAt (p w r : Int) (v : List Int) (k : Nat) : Int := mulM p (dftAt p v w ((v.length - k) % v.length)) r
def bkL (p w r : Int) (v : List Int) : List Int := (List.range v.length).map (fun k => bkAt p w r v k)
def backF (f : Int) (v : List Int) : List Int := if vectorOkF f v = true then bkL (modF f) (rootS f (logF v.length)) (invM (modF f) v.length) v else []
def cycAt (p : Int) (a b : List Int) (k : Nat) : Int := sigN (fun j => a.getD j 0 * b.getD ((k + a.length - j) % a.length) 0) a.length % p
def pwL (p : Int) (a b : List Int) : List Int := (List.range a.length).map (fun i => mulM p (a.getD i 0) (b.getD i 0))
def cycF (f : Int) (a b : List Int) : List Int := if twoVF f a b = true then (List.range a.length).map (fun k => cycAt (modF f) a b k) else []
def twA (p : Int) (a b : List Int) (t : Nat) : Nat → Int
  | 0 => 0
  | x + 1 => if x ≤ t then addM p (twA p a b t x) (mulM p (a.getD x 0) (b.getD (t - x) 0)) else subM p (twA p a b t x) (mulM p (a.getD x 0) (b.getD (t + a.length - x) 0))
def twstF (f : Int) (a b : List Int) : List Int := if twoVF f a b = true then (List.range a.length).map (fun t => twA (modF f) a b t a.length) else []
def twRow (p : Int) (a b : List Int) (x y : Nat) : List Int := (List.range a.length).map (fun t => if (t + a.length - x) % a.length < y then twA p a b t (x + 1) else twA p a b t x)
def rgZ (d : Fd) (v : List Int) (l B : Nat) : List Int := (List.range v.length).map (fun t => if bOf l t < B then stgAt d v l t else 0)
def levL (d : Fd) (u : List Int) (l : Nat) : List Int := (List.range u.length).map (fun t => lev d u l t)
def bkP (p w r : Int) (v : List Int) (i : Nat) : List Int := (List.range v.length).map (fun t => if (v.length - t) % v.length < i then bkAt p w r v t else 0)
def fS_BackwardC : PC := { ts := [i64T, listT], rs := [listT], pre := fun _ => True, F := fun x => backF x.1 x.2 }
def fS_l04TwoC : PC := { ts := [i64T, listT, listT], rs := [.bool], pre := fun _ => True, F := fun x => twoVF x.1 x.2.1 x.2.2 }
def fS_CyclicC : PC := { ts := [i64T, listT, listT], rs := [listT], pre := fun _ => True, F := fun x => cycF x.1 x.2.1 x.2.2 }
def fS_TwistedC : PC := { ts := [i64T, listT, listT], rs := [listT], pre := fun _ => True, F := fun x => twstF x.1 x.2.1 x.2.2 }
def fI_vectorField2C : PC := { ts := [i64T, .sl listT], rs := [fldT, .bool], pre := fun x => x.2.length = 2, F := fun x => vecsF x.1 x.2 }
def VecD (d : Fd) (v : List Int) : Prop := ∃ f, vectorOkF f v = true ∧ d = (fieldF f).1
def fI_stageC : PC := { ts := [fldT, listT, i64T], rs := [listT], pre := fun x => VecD x.1 x.2.1 ∧ 0 ≤ x.2.2 ∧ x.2.2 ≤ logF x.2.1.length - 1, F := fun x => rgL x.1 x.2.1 x.2.2.toNat 0 (x.2.1.length / 2) }
def fI_forwardC : PC := { ts := [fldT, listT], rs := [listT], pre := fun x => VecD x.1 x.2, F := fun x => dftL x.1.1 x.2 (rootI x.1 (logF x.2.length)) x.2.length }
def fI_backwardC : PC := { ts := [fldT, listT], rs := [listT], pre := fun x => VecD x.1 x.2, F := fun x => bkL x.1.1 (rootI x.1 (logF x.2.length)) (invM x.1.1 x.2.length) x.2 }
def fI_pointwiseC : PC := { ts := [fldT, listT, listT], rs := [listT], pre := fun x => IsMod x.1.1 ∧ elemsF x.1.1 x.2.1 = true ∧ elemsF x.1.1 x.2.2 = true ∧ x.2.1.length = x.2.2.length ∧ x.2.1.length ≤ 1048576, F := fun x => pwL x.1.1 x.2.1 x.2.2 }
def fI_twistedC : PC := { ts := [fldT, listT, listT], rs := [listT], pre := fun x => IsMod x.1.1 ∧ elemsF x.1.1 x.2.1 = true ∧ elemsF x.1.1 x.2.2 = true ∧ x.2.1.length = x.2.2.length ∧ x.2.1.length ≤ 512, F := fun x => (List.range x.2.1.length).map (fun t => twA x.1.1 x.2.1 x.2.2 t x.2.1.length) }
def fI_VectorOkC : PC := { ts := [i64T, listT], rs := [.bool], pre := fun _ => True, F := fun x => vectorOkF x.1 x.2 }
def fI_ForwardC : PC := { ts := [i64T, listT], rs := [listT], pre := fun _ => True, F := fun x => fwdF x.1 x.2 }
def fI_BackwardC : PC := { ts := [i64T, listT], rs := [listT], pre := fun _ => True, F := fun x => backF x.1 x.2 }
def fI_CyclicC : PC := { ts := [i64T, listT, listT], rs := [listT], pre := fun _ => True, F := fun x => cycF x.1 x.2.1 x.2.2 }
def fI_TwistedC : PC := { ts := [i64T, listT, listT], rs := [listT], pre := fun _ => True, F := fun x => twstF x.1 x.2.1 x.2.2 }
def bkS (p wi r : Int) (v : List Int) (n : Nat) : List Int := (List.range n).map (fun k => mulM p (dftAt p v wi k) r)
def aS_Backward (x : Int × List Int) : Nat → Option Ann := fun
  | 7 => some (.mk Nat (fun i => i ≤ x.2.length) (fun st i => ((st.keep 8 []).sets [(5, .c (.own 0)), (8, si i)]).setEs [(0, .row true i64T (bkS (modF x.1) (powS x.1 (rootS x.1 (logF x.2.length)) (-1)) (powS x.1 x.2.length (-1)) x.2 i))]) (fun i => x.2.length - i) 0 (fun _ _ => none))
  | _ => none
def cycP (p : Int) (a b : List Int) (n : Nat) : List Int := (List.range n).map (fun k => cycAt p a b k)
def aS_Cyclic2 (x : Int × List Int × List Int) (i : Nat) : Nat → Option Ann := fun
  | 11 => some (.mk Nat (fun j => j ≤ x.2.1.length) (fun st j => (st.keep 11 []).sets [(11, si (sigN (fun j => x.2.1.getD j 0 * x.2.2.getD ((i + x.2.1.length - j) % x.2.1.length) 0) j % modF x.1)), (12, si j)]) (fun j => x.2.1.length - j) 0 (fun _ _ => none))
  | _ => none
def aS_Cyclic (x : Int × List Int × List Int) : Nat → Option Ann := fun
  | 7 => some (.mk Nat (fun i => i ≤ x.2.1.length) (fun st i => ((st.keep 10 []).sets [(7, .c (.own 0)), (10, si i)]).setEs [(0, .row true i64T (cycP (modF x.1) x.2.1 x.2.2 i))]) (fun i => x.2.1.length - i) 0 (fun i => aS_Cyclic2 x i))
  | _ => none
def twP (p : Int) (a b : List Int) (n : Nat) : List Int := (List.range n).map (fun t => twA p a b t a.length)
def aS_Twisted2 (x : Int × List Int × List Int) (i : Nat) : Nat → Option Ann := fun
  | 11 => some (.mk Nat (fun j => j ≤ x.2.1.length) (fun st j => (st.keep 11 []).sets [(11, si (twA (modF x.1) x.2.1 x.2.2 i j)), (12, si j)]) (fun j => x.2.1.length - j) 0 (fun _ _ => none))
  | _ => none
def aS_Twisted (x : Int × List Int × List Int) : Nat → Option Ann := fun
  | 7 => some (.mk Nat (fun i => i ≤ x.2.1.length) (fun st i => ((st.keep 10 []).sets [(7, .c (.own 0)), (10, si i)]).setEs [(0, .row true i64T (twP (modF x.1) x.2.1 x.2.2 i))]) (fun i => x.2.1.length - i) 0 (fun i => aS_Twisted2 x i))
  | _ => none
def VecJ (f : Int) (ls : List (List Int)) (k : Nat) : Prop := ∀ i, i < k → vectorOkF f (ls.getD i []) = true ∧ (ls.getD i []).length = (ls.getD 0 []).length
def aI_vectorField2 (x : Int × List (List Int)) : Nat → Option Ann := fun
  | 5 => some (.mk Nat (fun k => k ≤ x.2.length ∧ VecJ x.1 x.2 k) (fun st k => (st.keep 8 [19, 20]).sets [(21, si k)]) (fun k => x.2.length - k) 0 (fun _ _ => none))
  | _ => none
def aI_stage2 (x : Fd × List Int × Int) (c : Nat) : Nat → Option Ann := fun
  | 9 => some (.mk Nat (fun j => j ≤ 2 ^ x.2.2.toNat) (fun st j => ((st.keep 11 [31, 32]).sets [(7, .c (.own 1)), (11, si (powM x.1.1 (rootI x.1 (x.2.2 + 1)) j)), (33, si j)]).setEs [(1, .row true i64T (rgZ x.1 x.2.1 x.2.2.toNat (c * 2 ^ x.2.2.toNat + j)))]) (fun j => 2 ^ x.2.2.toNat - j) 0 (fun _ _ => none))
  | _ => none
def aI_stage (x : Fd × List Int × Int) : Nat → Option Ann := fun
  | 5 => some (.mk Nat (fun c => c * (2 * 2 ^ x.2.2.toNat) ≤ x.2.1.length) (fun st c => ((st.keep 10 []).sets [(7, .c (.own 1)), (10, si ((c * (2 * 2 ^ x.2.2.toNat) : Nat) : Int))]).setEs [(1, .row true i64T (rgZ x.1 x.2.1 x.2.2.toNat (c * 2 ^ x.2.2.toNat)))]) (fun c => x.2.1.length - c) 0 (fun c => aI_stage2 x c))
  | _ => none
def aI_forward (x : Fd × List Int) : Nat → Option Ann := fun
  | 3 => some (.mk Nat (fun s => (s : Int) ≤ logF x.2.length) (fun st s => ((st.keep 5 [11]).sets [(5, .c (.own 1)), (12, si s)]).setEs [(1, .row true i64T (levL x.1 (permF x.2) s))]) (fun s => (logF x.2.length).toNat - s) 0 (fun _ _ => none))
  | _ => none
def aI_backward (x : Fd × List Int) : Nat → Option Ann := fun
  | 5 => some (.mk Nat (fun i => i ≤ x.2.length) (fun st i => ((st.keep 8 [22, 23]).sets [(7, .c (.own 1)), (24, si i)]).setEs [(1, .row true i64T (bkP x.1.1 (rootI x.1 (logF x.2.length)) (invM x.1.1 (redM x.1.1 x.2.length)) x.2 i))]) (fun i => x.2.length - i) 0 (fun _ _ => none))
  | _ => none
def pwP (p : Int) (a b : List Int) (n : Nat) : List Int := (List.range n).map (fun i => mulM p (a.getD i 0) (b.getD i 0))
def aI_pointwise (x : Fd × List Int × List Int) : Nat → Option Ann := fun
  | 3 => some (.mk Nat (fun i => i ≤ x.2.1.length) (fun st i => ((st.keep 7 [11, 12]).sets [(7, .c (.own 1)), (13, si i)]).setEs [(1, .row true i64T (pwP x.1.1 x.2.1 x.2.2 i))]) (fun i => x.2.1.length - i) 0 (fun _ _ => none))
  | _ => none
def aI_twisted (x : Fd × List Int × List Int) : Nat → Option Ann := fun
  | 4 => some (.mk Nat (fun i => i ≤ x.2.1.length) (fun st i => ((st.keep 9 [18, 19]).sets [(8, .c (.own 1)), (20, si i)]).setEs [(1, .row true i64T (twRow x.1.1 x.2.1 x.2.2 i 0))]) (fun i => x.2.1.length - i) 0 (fun i => fun
    | 7 => some (.mk Nat (fun j => j ≤ x.2.2.length) (fun st j => ((st.keep 11 [18, 19, 20, 25, 26]).sets [(8, .c (.own 1)), (27, si j)]).setEs [(1, .row true i64T (twRow x.1.1 x.2.1 x.2.2 i j))]) (fun j => x.2.2.length - j) 0 (fun _ _ => none))
    | _ => none))
  | _ => none
end Go.SF
/- Contracts: polynomials through points, and their values. No condition. -/
namespace Go.SF
open Go.SX Go
set_option linter.unusedVariables false
def vanL (p : Int) (xs : List Int) : Nat → List Int
  | 0 => [1]
  | n + 1 => mulP p (vanL p xs n) [subM p 0 (xs.getD n 0), 1]
def vanF (p : Int) (xs : List Int) : List Int := vanL p xs xs.length
def othL (xs : List Int) (i : Nat) : Nat → List Int
  | 0 => []
  | n + 1 => if n = i then othL xs i n else othL xs i n ++ [xs.getD n 0]
def thrL (p : Int) (xs ys : List Int) : Nat → List Int
  | 0 => []
  | n + 1 => addP p (thrL p xs ys n) (scaleP p (vanF p (othL xs n xs.length)) (mulM p (ys.getD n 0) (wtF p xs n)))
def thrF (p : Int) (xs ys : List Int) : List Int := thrL p xs ys xs.length
def qsF (p r : Int) (a : List Int) : Nat → Int
  | 0 => 0
  | k + 1 => subM p (a.getD (a.length - 1 - k) 0) (mulM p (qsF p r a k) r)
def quoF (p r : Int) (a : List Int) : List Int := (List.range (a.length - 1)).map (fun i => qsF p r a (a.length - 1 - i))
def divF (p : Int) (a b : List Int) : List Int × List Int := (quoF p (b.getD 0 0) a, trimF [qsF p (b.getD 0 0) a a.length])
def interF (f : Int) (xs ys : List Int) : List Int × Bool := if (pointsF f xs && decide (ys.length = xs.length) && specElemsF f ys) = true then (thrF (modF f) xs ys, true) else ([], false)
def evF (p : Int) (a : List Int) (x : Int) : Nat → Int
  | 0 => 0
  | n + 1 => addM p (evF p a x n) (mulM p (a.getD n 0) (powM p x n))
def evP (p : Int) (a : List Int) (x : Int) : Int := evF p a x a.length
def evS (f : Int) (a : List Int) (x : Int) : Int := if polyB f a = true then evP (modF f) a x else -1
def fS_l07VanishC : PC := { ts := [i64T, listT], rs := [listT], pre := fun x => specElemsF x.1 x.2 = true ∧ x.2.length ≤ 40, F := fun x => vanF (modF x.1) x.2 }
def fI_vanishC : PC := { ts := [fldT, listT], rs := [listT], pre := fun x => IsMod x.1.1 ∧ elemsF x.1.1 x.2 = true ∧ x.2.length ≤ 40, F := fun x => vanF x.1.1 x.2 }
def LinB (p : Int) (b : List Int) : Prop := b.length = 2 ∧ b.getD 1 0 = 1 ∧ El p (b.getD 0 0)
def fI_divModC : PC := { ts := [fldT, listT, listT], rs := [listT, listT], pre := fun x => IsMod x.1.1 ∧ elemsF x.1.1 x.2.1 = true ∧ 2 ≤ x.2.1.length ∧ x.2.1.length ≤ 1000 ∧ LinB x.1.1 x.2.2, F := fun x => divF x.1.1 x.2.1 x.2.2 }
def fS_l07ThroughC : PC := { ts := [i64T, listT, listT], rs := [listT], pre := fun x => pointsF x.1 x.2.1 = true ∧ x.2.2.length = x.2.1.length, F := fun x => thrF (modF x.1) x.2.1 x.2.2 }
def fI_throughC : PC := { ts := [fldT, listT, listT], rs := [listT], pre := fun x => (∃ f, pointsF f x.2.1 = true ∧ modF f = x.1.1) ∧ elemsF x.1.1 x.2.2 = true ∧ x.2.2.length = x.2.1.length, F := fun x => thrF x.1.1 x.2.1 x.2.2 }
def fS_InterpolateC : PC := { ts := [i64T, listT, listT], rs := [listT, .bool], pre := fun _ => True, F := fun x => interF x.1 x.2.1 x.2.2 }
def fI_interpolateC : PC := { ts := [i64T, listT, listT], rs := [listT, .bool], pre := fun _ => True, F := fun x => interF x.1 x.2.1 x.2.2 }
def fI_InterpolateC : PC := { ts := [i64T, listT, listT], rs := [listT, .bool], pre := fun _ => True, F := fun x => interF x.1 x.2.1 x.2.2 }
def fS_EvalPolyC : PC := { ts := [i64T, listT, i64T], rs := [i64T], pre := fun _ => True, F := fun x => evS x.1 x.2.1 x.2.2 }
def fI_evalC : PC := { ts := [fldT, listT, i64T], rs := [i64T], pre := fun x => IsMod x.1.1 ∧ elemsF x.1.1 x.2.1 = true ∧ El x.1.1 x.2.2, F := fun x => evP x.1.1 x.2.1 x.2.2 }
def aS_l07Vanish (x : Int × List Int) : Nat → Option Ann := fun
  | 3 => some (.mk Nat (fun k => k ≤ x.2.length) (fun st k => ((st.keep 5 []).sets [(5, .c (.own 0)), (6, si k)]).setEs [(0, .row true i64T (vanL (modF x.1) x.2 k))]) (fun k => x.2.length - k) 0 (fun _ _ => none))
  | _ => none
def aI_vanish (x : Fd × List Int) : Nat → Option Ann := fun
  | 3 => some (.mk Nat (fun k => k ≤ x.2.length) (fun st k => ((st.keep 5 [9, 10]).sets [(5, .c (.own 1)), (11, si k)]).setEs [(1, .row true i64T (vanL x.1.1 x.2 k))]) (fun k => x.2.length - k) 0 (fun _ _ => none))
  | _ => none
def leftL (p r : Int) (a : List Int) (k : Nat) : List Int := (List.range a.length).map (fun t => if t + k < a.length - 1 then a.getD t 0 else if t + k = a.length - 1 then qsF p r a (k + 1) else 0)
def leftJ (p r : Int) (a : List Int) (k j : Nat) : List Int := if j = 0 then leftL p r a k else if j = 1 then (leftL p r a k).set (a.length - 2 - k) (qsF p r a (k + 2)) else leftL p r a (k + 1)
def quoL (p r : Int) (a : List Int) (k : Nat) : List Int := (List.range (a.length - 1)).map (fun t => if a.length - 1 ≤ t + k then qsF p r a (a.length - 1 - t) else 0)
def aI_divMod (x : Fd × List Int × List Int) : Nat → Option Ann := fun
  | 7 => some (.mk Nat (fun k => k ≤ x.2.1.length - 1) (fun st k => ((st.keep 11 []).sets [(11, si ((x.2.1.length : Int) - 2 - k))]).setEs [(1, .row true i64T (leftL x.1.1 (x.2.2.getD 0 0) x.2.1 k)), (2, .row true i64T (quoL x.1.1 (x.2.2.getD 0 0) x.2.1 k))]) (fun k => x.2.1.length - 1 - k) 0 (fun k => fun
    | 13 => some (.mk Nat (fun j => j ≤ 2) (fun st j => ((st.keep 13 [63, 64]).sets [(65, si j)]).setEs [(1, .row true i64T (leftJ x.1.1 (x.2.2.getD 0 0) x.2.1 k j)), (2, .row true i64T (quoL x.1.1 (x.2.2.getD 0 0) x.2.1 (k + 1)))]) (fun j => 2 - j) 0 (fun _ _ => none))
    | _ => none))
  | _ => none
def aS_l07Through (x : Int × List Int × List Int) : Nat → Option Ann := fun
  | 3 => some (.mk Nat (fun k => k ≤ x.2.1.length) (fun st k => ((st.keep 7 []).sets [(7, .c (.own 0)), (8, si k)]).setEs [(0, .row true i64T (thrL (modF x.1) x.2.1 x.2.2 k))]) (fun k => x.2.1.length - k) 0 (fun i => fun
    | 8 => some (.mk Nat (fun j => j ≤ x.2.1.length) (fun st j => ((st.keep 9 []).sets [(9, .c (.own 1)), (10, si (byF (modF x.1) x.2.1 i j)), (11, si j)]).setEs [(1, .row true i64T (othL x.2.1 i j))]) (fun j => x.2.1.length - j) 0 (fun _ _ => none))
    | _ => none))
  | _ => none
def aI_through (x : Fd × List Int × List Int) : Nat → Option Ann := fun
  | 4 => some (.mk Nat (fun k => k ≤ x.2.1.length) (fun st k => ((st.keep 8 [17, 18]).sets [(8, .c (.own 2)), (19, si k)]).setEs [(2, .row true i64T (thrL x.1.1 x.2.1 x.2.2 k))]) (fun k => x.2.1.length - k) 0 (fun _ _ => none))
  | _ => none
def aS_EvalPoly (x : Int × List Int × Int) : Nat → Option Ann := fun
  | 5 => some (.mk Nat (fun k => k ≤ x.2.1.length) (fun st k => (st.keep 7 []).sets [(7, si (evF (modF x.1) x.2.1 x.2.2 k)), (8, si k)]) (fun k => x.2.1.length - k) 0 (fun _ _ => none))
  | _ => none
def HornJ (p : Int) (a : List Int) (x : Int) (t : Nat × Int) : Prop := t.1 ≤ a.length ∧ El p t.2 ∧ (t.2 * x ^ t.1 + evF p a x t.1) % p = evP p a x
def aI_eval (x : Fd × List Int × Int) : Nat → Option Ann := fun
  | 3 => some (.mk (Nat × Int) (fun t => HornJ x.1.1 x.2.1 x.2.2 t) (fun st t => (st.keep 7 []).sets [(7, si t.2), (8, si ((t.1 : Int) - 1))]) (fun t => t.1) (x.2.1.length, 0) (fun _ _ => none))
  | _ => none
end Go.SF
/- Contracts: words of a code, and what they are read as. No condition. -/
namespace Go.SF
open Go.SX Go
set_option linter.unusedVariables false
def codeB (f : Int) (xs : List Int) (k : Int) : Bool := decide (xs.length ≤ 10) && pointsF f xs && decide (1 ≤ k ∧ k ≤ xs.length)
def codF (f : Int) (xs : List Int) (k : Int) : Fd × Bool := if codeB f xs k = true then ((fieldF f).1, true) else ((0, 0, 0), false)
def evM (p : Int) (a xs : List Int) (n : Nat) : List Int := (List.range n).map (fun i => evP p a (xs.getD i 0))
def encS (f : Int) (xs m : List Int) : List Int := if (codeB f xs m.length && specElemsF f m) = true then evM (modF f) (trimF m) xs xs.length else []
def difX (a b : List Int) : Nat → Nat
  | 0 => 0
  | n + 1 => if n < a.length ∧ n < b.length ∧ a.getD n 0 = b.getD n 0 then difX a b n else difX a b n + 1
def difF (a b : List Int) : Int := (difX a b (max a.length b.length) : Nat)
def difS (a b : List Int) : Int := if 4096 < a.length ∨ 4096 < b.length then -1 else difF a b
def subL (l : List Int) (s : Nat) : Nat → List Int
  | 0 => []
  | n + 1 => if s / 2 ^ n % 2 = 1 then subL l s n ++ [l.getD n 0] else subL l s n
def msgF (p : Int) (xs ys : List Int) (s : Nat) : List Int := thrF p (subL xs s xs.length) (subL ys s xs.length)
def errF (p : Int) (xs ys : List Int) (s : Nat) : Nat := difX (evM p (msgF p xs ys s) xs xs.length) ys xs.length
def padF (m : List Int) (k : Nat) : List Int := m ++ List.replicate (k - m.length) 0
def hitB (p : Int) (xs ys : List Int) (k s : Nat) : Bool := decide ((subL xs s xs.length).length = k) && decide (errF p xs ys s ≤ (xs.length - k) / 2)
def findF (h : Nat → Bool) : Nat → Option Nat
  | 0 => none
  | n + 1 => match findF h n with | some s => some s | none => if h n = true then some n else none
def decR (p : Int) (xs ys : List Int) (k : Nat) : Option Nat → List Int × Int × Bool
  | some s => (padF (msgF p xs ys s) k, ((errF p xs ys s : Nat) : Int), true)
  | none => ([], 0, false)
def decF (f : Int) (xs ys : List Int) (k : Int) : List Int × Int × Bool := if (codeB f xs k && decide (ys.length = xs.length) && specElemsF f ys) = true then decR (modF f) xs ys k.toNat (findF (hitB (modF f) xs ys k.toNat) (2 ^ xs.length)) else ([], 0, false)
abbrev decRs : List Ty := [listT, i64T, .bool]
def fS_l07CodeC : PC := { ts := [i64T, listT, i64T], rs := [.bool], pre := fun _ => True, F := fun x => codeB x.1 x.2.1 x.2.2 }
def fI_codeFieldC : PC := { ts := [i64T, listT, i64T], rs := [fldT, .bool], pre := fun _ => True, F := fun x => codF x.1 x.2.1 x.2.2 }
def fS_EncodeWordC : PC := { ts := [i64T, listT, listT], rs := [listT], pre := fun _ => True, F := fun x => encS x.1 x.2.1 x.2.2 }
def fS_DifferC : PC := { ts := [listT, listT], rs := [i64T], pre := fun _ => True, F := fun x => difS x.1 x.2 }
def fI_differC : PC := { ts := [listT, listT], rs := [i64T], pre := fun x => x.1.length ≤ 1048576 ∧ x.2.length ≤ 1048576, F := fun x => difF x.1 x.2 }
def fI_evalManyC : PC := { ts := [fldT, listT, listT], rs := [listT], pre := fun x => IsMod x.1.1 ∧ elemsF x.1.1 x.2.1 = true ∧ elemsF x.1.1 x.2.2 = true ∧ x.2.2.length ≤ 1000, F := fun x => evM x.1.1 x.2.1 x.2.2 x.2.2.length }
def fS_DecodeWordC : PC := { ts := [i64T, listT, listT, i64T], rs := decRs, pre := fun _ => True, F := fun x => decF x.1 x.2.1 x.2.2.1 x.2.2.2 }
def fI_decodeWordC : PC := { ts := [i64T, listT, listT, i64T], rs := decRs, pre := fun _ => True, F := fun x => decF x.1 x.2.1 x.2.2.1 x.2.2.2 }
def aS_EncodeWord (x : Int × List Int × List Int) : Nat → Option Ann := fun
  | 5 => some (.mk Nat (fun k => k ≤ x.2.1.length) (fun st k => ((st.keep 7 []).sets [(7, .c (.own 0)), (8, si k)]).setEs [(0, .row true i64T (evM (modF x.1) (trimF x.2.2) x.2.1 k))]) (fun k => x.2.1.length - k) 0 (fun _ _ => none))
  | _ => none
def aS_Differ (x : List Int × List Int) : Nat → Option Ann := fun
  | 5 => some (.mk Nat (fun k => k ≤ max x.1.length x.2.length) (fun st k => (st.keep 5 []).sets [(5, si (difX x.1 x.2 k)), (6, si k)]) (fun k => max x.1.length x.2.length - k) 0 (fun _ _ => none))
  | _ => none
def aI_differ (x : List Int × List Int) : Nat → Option Ann := fun
  | 3 => some (.mk Nat (fun k => k ≤ min x.1.length x.2.length) (fun st k => (st.keep 5 [22]).sets [(5, si ((max x.1.length x.2.length - min x.1.length x.2.length + difX x.1 x.2 k : Nat) : Int)), (23, si k)]) (fun k => min x.1.length x.2.length - k) 0 (fun _ _ => none))
  | _ => none
def aI_evalMany (x : Fd × List Int × List Int) : Nat → Option Ann := fun
  | 3 => some (.mk Nat (fun k => k ≤ x.2.2.length) (fun st k => ((st.keep 7 [11, 12]).sets [(7, .c (.own 1)), (13, si k)]).setEs [(1, .row true i64T (evM x.1.1 x.2.1 x.2.2 k))]) (fun k => x.2.2.length - k) 0 (fun _ _ => none))
  | _ => none
def SetJ (p : Int) (xs ys : List Int) (k s : Nat) : Prop := s ≤ 2 ^ xs.length ∧ ∀ t, t < s → hitB p xs ys k t = false
def aS_pad (x : Int × List Int × List Int × Int) (s : Nat) : Nat → Option Ann := fun
  | 17 => some (.mk Nat (fun j => (msgF (modF x.1) x.2.1 x.2.2.1 s).length + j ≤ x.2.2.2.toNat) (fun st j => ((st.keep 16 []).sets [(16, .c (.own 2))]).setEs [(2, .row true i64T (msgF (modF x.1) x.2.1 x.2.2.1 s ++ List.replicate j 0))]) (fun j => x.2.2.2.toNat - j) 0 (fun _ _ => none))
  | _ => none
def aS_DecodeWord (x : Int × List Int × List Int × Int) : Nat → Option Ann := fun
  | 5 => some (.mk Nat (fun s => SetJ (modF x.1) x.2.1 x.2.2.1 x.2.2.2.toNat s) (fun st s => (st.keep 12 []).sets [(12, si s)]) (fun s => 2 ^ x.2.1.length - s) 0 (fun s => fun
    | 10 => some (.mk Nat (fun i => i ≤ x.2.1.length) (fun st i => ((st.keep 13 []).sets [(13, .c (.own 0)), (14, .c (.own 1)), (15, si i)]).setEs [(0, .row true i64T (subL x.2.1 s i)), (1, .row true i64T (subL x.2.2.1 s i))]) (fun i => x.2.1.length - i) 0 (fun _ => aS_pad x s))
    | _ => none))
  | _ => none
def aI_pad (x : Int × List Int × List Int × Int) (s : Nat) : Nat → Option Ann := fun
  | 19 => some (.mk Nat (fun j => (msgF (modF x.1) x.2.1 x.2.2.1 s).length + j ≤ x.2.2.2.toNat) (fun st j => ((st.keep 18 [19, 44, 45]).sets [(18, .c (.own 3))]).setEs [(3, .row true i64T (msgF (modF x.1) x.2.1 x.2.2.1 s ++ List.replicate j 0))]) (fun j => x.2.2.2.toNat - j) 0 (fun _ _ => none))
  | _ => none
def aI_decodeWord (x : Int × List Int × List Int × Int) : Nat → Option Ann := fun
  | 5 => some (.mk Nat (fun s => SetJ (modF x.1) x.2.1 x.2.2.1 x.2.2.2.toNat s) (fun st s => (st.keep 13 [44]).sets [(45, si s)]) (fun s => 2 ^ x.2.1.length - s) 0 (fun s => fun
    | 9 => some (.mk Nat (fun i => i ≤ x.2.1.length) (fun st i => ((st.keep 14 [44, 45, 50, 51]).sets [(14, .c (.own 1)), (15, .c (.own 2)), (52, si i)]).setEs [(1, .row true i64T (subL x.2.1 s i)), (2, .row true i64T (subL x.2.2.1 s i))]) (fun i => x.2.1.length - i) 0 (fun _ => aI_pad x s))
    | _ => none))
  | _ => none
end Go.SF
/- Contracts: draws. No condition. -/
namespace Go.SF
open Go.SX Go
set_option linter.unusedVariables false
end Go.SF
/- Contracts: a law's code. No condition. -/
namespace Go.SF
open Go.SX Go
set_option linter.unusedVariables false
end Go.SF
/- Contracts: what the laws of codes call. No condition. -/
namespace Go.SF
open Go.SX Go
set_option linter.unusedVariables false
def polyFd (f : Int) (a : List Int) : Fd × Bool := if polyB f a = true then ((fieldF f).1, true) else ((0, 0, 0), false)
def evMR (f : Int) (a xs : List Int) : List Int := if (polyB f a && decide (xs.length ≤ 40) && specElemsF f xs) = true then evM (modF f) a xs xs.length else []
def fI_polyFieldC : PC := { ts := [i64T, .sl listT], rs := [fldT, .bool], pre := fun x => x.2.length = 1, F := fun x => polyFd x.1 (x.2.getD 0 []) }
def fI_EvalManyC : PC := { ts := [i64T, listT, listT], rs := [listT], pre := fun _ => True, F := fun x => evMR x.1 x.2.1 x.2.2 }
def aI_polyField (x : Int × List (List Int)) : Nat → Option Ann := fun
  | 5 => some (.mk Nat (fun k => k ≤ 1 ∧ (k = 1 → polyB x.1 (x.2.getD 0 []) = true)) (fun st k => (st.keep 8 [18, 19]).sets [(20, si k)]) (fun k => 1 - k) 0 (fun _ _ => none))
  | _ => none
end Go.SF
/- Contracts: division by any polynomial. No condition. -/
namespace Go.SF
open Go.SX Go
set_option linter.unusedVariables false
def dvStep (p : Int) (b L : List Int) (i : Nat) (c : Int) (j : Nat) : List Int := (List.range L.length).map (fun t => if i ≤ t ∧ t < i + j then subM p (L.getD t 0) (mulM p c (b.getD (t - i) 0)) else L.getD t 0)
def dvL (p r : Int) (a b : List Int) : Nat → List Int
  | 0 => a
  | k + 1 => dvStep p b (dvL p r a b k) (a.length - b.length - k) (mulM p ((dvL p r a b k).getD (a.length - 1 - k) 0) r) b.length
def dvC (p r : Int) (a b : List Int) (k : Nat) : Int := mulM p ((dvL p r a b k).getD (a.length - 1 - k) 0) r
def dvQ (p r : Int) (a b : List Int) (n k : Nat) : List Int := (List.range n).map (fun t => if a.length - b.length < t + k ∧ t ≤ a.length - b.length then dvC p r a b (a.length - b.length - t) else 0)
def dvR (p : Int) (b : List Int) : Int := invM p (b.getD (b.length - 1) 0)
def divG (p : Int) (a b : List Int) : List Int × List Int := if a.length < b.length then ([], a) else (dvQ p (dvR p b) a b (a.length - b.length + 1) (a.length - b.length + 1), trimF (dvL p (dvR p b) a b (a.length - b.length + 1)))
def divModF (f : Int) (a b : List Int) : List Int × List Int × Bool := if (polyB f a && polyB f b && decide (b.length ≠ 0)) = true then ((divG (modF f) a b).1, (divG (modF f) a b).2, true) else ([], [], false)
def mulPF (f : Int) (a b : List Int) : List Int × Bool := if (polyB f a && polyB f b && decide (a.length = 0 ∨ b.length = 0 ∨ a.length + b.length - 1 ≤ 400)) = true then (mulP (modF f) a b, true) else ([], false)
end Go.SF
/- Contracts: jobs. No condition. -/
namespace Go.SF
open Go.SX Go
set_option linter.unusedVariables false
def termsB (l : List Int) : Bool := decide (l.length ≤ 200) && decide (∀ x ∈ l, -1000000 ≤ x ∧ x ≤ 1000000)
def cvS (a b : List Int) (i : Nat) : Nat → Int
  | 0 => 0
  | j + 1 => if i - j < b.length then cvS a b i j + a.getD j 0 * b.getD (i - j) 0 else cvS a b i j
def cvL (a b : List Int) (n : Nat) : List Int := (List.range n).map (fun i => cvS a b i (min (i + 1) a.length))
def cvRow (a b : List Int) (x y : Nat) : List Int := (List.range (a.length + b.length - 1)).map (fun t => if x ≤ t ∧ t < x + y then cvS a b t (x + 1) else cvS a b t (min x (t + 1)))
def convXF (a b : List Int) : List Int × Bool := if (termsB a && termsB b) = true then (if a.length = 0 ∨ b.length = 0 then [] else cvL a b (a.length + b.length - 1), true) else ([], false)
def serB (f : Int) (a : List Int) : Bool := decide (1 ≤ a.length) && decide (a.length ≤ 64) && specElemsF f a
def siP (p : Int) (a out : List Int) (i : Nat) : Nat → Int
  | 0 => if i = 0 then 1 else 0
  | j + 1 => subM p (siP p a out i j) (mulM p (a.getD (j + 1) 0) (out.getD (i - (j + 1)) 0))
def siA (p : Int) (a out : List Int) (i : Nat) : Nat → Int
  | 0 => 0
  | j + 1 => addM p (siA p a out i j) (mulM p (a.getD (j + 1) 0) (out.getD (i - (j + 1)) 0))
def siL (p : Int) (a : List Int) : Nat → List Int
  | 0 => []
  | k + 1 => siL p a k ++ [mulM p (siP p a (siL p a k) k k) (invM p (a.getD 0 0))]
def serInvF (f : Int) (a : List Int) : List Int × Bool := if (serB f a && decide (a.getD 0 0 ≠ 0)) = true then (siL (modF f) a a.length, true) else ([], false)
abbrev jobT : Ty := .st (.pr i64T (.pr i64T (.pr listT (.pr listT i64T))))
abbrev Jb := Int × Int × List Int × List Int × Int
abbrev resT2 : Ty := .st (.pr i64T (.pr listT listT))
abbrev RsJ := Int × List Int × List Int
def usesBF (k : Int) : Bool := decide (k = 3 ∨ k = 4 ∨ k = 5 ∨ k = 6 ∨ k = 8 ∨ k = 9 ∨ k = 10 ∨ k = 11)
def wordsB (l : List Int) : Bool := decide (l.length ≤ 400) && decide (∀ x ∈ l, -1099511627776 ≤ x ∧ x ≤ 1099511627776)
def jobOkF (j : Jb) : Bool := (decide (1 ≤ j.1 ∧ j.1 ≤ 11) && decide (modF j.2.1 ≠ 0) && decide (¬ (j.1 = 6 ∧ j.2.1 ≠ 0))) && wordsB j.2.2.1 && wordsB j.2.2.2.1 && decide (0 ≤ j.2.2.2.2 ∧ j.2.2.2.2 ≤ 400) && (usesBF j.1 || decide (j.2.2.2.1.length = 0)) && (decide (j.1 = 11) || decide (j.2.2.2.2 = 0))
def evOkF (f : Int) (a xs : List Int) : Bool := polyB f a && decide (xs.length ≤ 40) && specElemsF f xs
def evManyJ (f : Int) (a xs : List Int) : List Int := if evOkF f a xs = true then evM (modF f) a xs xs.length else []
def mk3 (k : Bool) (o m : List Int) : RsJ := if k = true then (0, o, m) else (2, [], [])
def runJobF (j : Jb) : RsJ :=
  if jobOkF j = true then
    (if j.1 = 1 then mk3 (vectorOkF j.2.1 j.2.2.1) (fwdF j.2.1 j.2.2.1) []
    else if j.1 = 2 then mk3 (vectorOkF j.2.1 j.2.2.1) (backF j.2.1 j.2.2.1) []
    else if j.1 = 3 then mk3 (twoVF j.2.1 j.2.2.1 j.2.2.2.1) (cycF j.2.1 j.2.2.1 j.2.2.2.1) []
    else if j.1 = 4 then mk3 (twoVF j.2.1 j.2.2.1 j.2.2.2.1) (twstF j.2.1 j.2.2.1 j.2.2.2.1) []
    else if j.1 = 5 then mk3 (mulPF j.2.1 j.2.2.1 j.2.2.2.1).2 (mulPF j.2.1 j.2.2.1 j.2.2.2.1).1 []
    else if j.1 = 6 then mk3 (convXF j.2.2.1 j.2.2.2.1).2 (convXF j.2.2.1 j.2.2.2.1).1 []
    else if j.1 = 7 then mk3 (serInvF j.2.1 j.2.2.1).2 (serInvF j.2.1 j.2.2.1).1 []
    else if j.1 = 8 then mk3 (evOkF j.2.1 j.2.2.1 j.2.2.2.1) (evManyJ j.2.1 j.2.2.1 j.2.2.2.1) []
    else if j.1 = 9 then mk3 (interF j.2.1 j.2.2.1 j.2.2.2.1).2 (interF j.2.1 j.2.2.1 j.2.2.2.1).1 []
    else if j.1 = 10 then mk3 (divModF j.2.1 j.2.2.1 j.2.2.2.1).2.2 (divModF j.2.1 j.2.2.1 j.2.2.2.1).1 (divModF j.2.1 j.2.2.1 j.2.2.2.1).2.1
    else mk3 (decF j.2.1 j.2.2.1 j.2.2.2.1 j.2.2.2.2).2.2 (decF j.2.1 j.2.2.1 j.2.2.2.1 j.2.2.2.2).1 [(decF j.2.1 j.2.2.1 j.2.2.2.1 j.2.2.2.2).2.1])
  else (1, [], [])
def szJobF (j : Jb) (n : Int) : Int := if szF j.2.2.1.length n < 0 then -1 else szF j.2.2.2.1.length (szF j.2.2.1.length n)
def fL_szJobC : PC := { ts := [jobT, i64T], rs := [i64T], pre := fun _ => True, F := fun x => szJobF x.1 x.2 }
def fL_toJobC : PC := { ts := [jobT], rs := [jobT], pre := fun x => x.2.2.1.length ≤ 1048576 ∧ x.2.2.2.1.length ≤ 1048576, F := fun x => x }
def fL_eqJobC : PC := { ts := [jobT, jobT], rs := [.bool], pre := fun _ => True, F := fun x => decide (x.1 = x.2) }
def fL_eqResultJC : PC := { ts := [resT2, resT2], rs := [.bool], pre := fun _ => True, F := fun x => decide (x.1 = x.2) }
def heldRs (r : RsJ) (k : Int) : Int := if held1 r.2.1 k < 0 then -1 else neg1 (held1 r.2.2 (held1 r.2.1 k))
def fL_markJobC : MC := { t := jobT, pre := fun _ _ => True, F := fun x k => end1 x.2.2.2.1 (end1 x.2.2.1 k), G := fun x k => (x.1, x.2.1, mark1 x.2.2.1 k, mark1 x.2.2.2.1 (end1 x.2.2.1 k), x.2.2.2.2) }
def fL_markResultJC : MC := { t := resT2, pre := fun _ _ => True, F := fun x k => end1 x.2.2 (end1 x.2.1 k), G := fun x k => (x.1, mark1 x.2.1 k, mark1 x.2.2 (end1 x.2.1 k)) }
def fL_heldResultJC : PC := { ts := [resT2, i64T], rs := [i64T], pre := fun _ => True, F := fun x => heldRs x.1 x.2 }
def fS_l10UsesBC : PC := { ts := [i64T], rs := [.bool], pre := fun _ => True, F := fun x => usesBF x }
def fS_l10WordsC : PC := { ts := [listT], rs := [.bool], pre := fun _ => True, F := fun x => wordsB x }
def fS_JobOkC : PC := { ts := [jobT], rs := [.bool], pre := fun _ => True, F := fun x => jobOkF x }
def usesBI (k : Int) : Bool := decide (k ≠ 1 ∧ k ≠ 2 ∧ k ≠ 7)
def fI_usesBC : PC := { ts := [i64T], rs := [.bool], pre := fun _ => True, F := fun x => usesBI x }
def fI_areWordsC : PC := { ts := [listT], rs := [.bool], pre := fun _ => True, F := fun x => wordsB x }
def fI_isJobC : PC := { ts := [jobT], rs := [.bool], pre := fun _ => True, F := fun x => jobOkF x }
def fS_RunJobC : PC := { ts := [jobT], rs := [resT2], pre := fun _ => True, F := fun x => runJobF x }
def fI_runJobC : PC := { ts := [jobT], rs := [resT2], pre := fun _ => True, F := fun x => runJobF x }
def fI_RunJobC : PC := { ts := [jobT], rs := [resT2], pre := fun _ => True, F := fun x => runJobF x }
def fS_MulPolyC : PC := { ts := [i64T, listT, listT], rs := [listT, .bool], pre := fun _ => True, F := fun x => mulPF x.1 x.2.1 x.2.2 }
def fI_MulPolyC : PC := { ts := [i64T, listT, listT], rs := [listT, .bool], pre := fun _ => True, F := fun x => mulPF x.1 x.2.1 x.2.2 }
def polysF (f : Int) (ls : List (List Int)) : Fd × Bool := if decide (modF f ≠ 0) && decide (∀ v ∈ ls, polyB f v = true) then ((fieldF f).1, true) else ((0, 0, 0), false)
def fI_polyField2C : PC := { ts := [i64T, .sl listT], rs := [fldT, .bool], pre := fun x => x.2.length = 1 ∨ x.2.length = 2, F := fun x => polysF x.1 x.2 }
def fI_PolyOkC : PC := { ts := [i64T, listT], rs := [.bool], pre := fun _ => True, F := fun x => polyB x.1 x.2 }
def fS_l05TermsC : PC := { ts := [listT], rs := [.bool], pre := fun _ => True, F := fun x => termsB x }
def fI_areTermsC : PC := { ts := [listT], rs := [.bool], pre := fun _ => True, F := fun x => termsB x }
def fS_ConvExactC : PC := { ts := [listT, listT], rs := [listT, .bool], pre := fun _ => True, F := fun x => convXF x.1 x.2 }
def fI_ConvExactC : PC := { ts := [listT, listT], rs := [listT, .bool], pre := fun _ => True, F := fun x => convXF x.1 x.2 }
def fS_SeriesOkC : PC := { ts := [i64T, listT], rs := [.bool], pre := fun _ => True, F := fun x => serB x.1 x.2 }
def fS_SeriesInvC : PC := { ts := [i64T, listT], rs := [listT, .bool], pre := fun _ => True, F := fun x => serInvF x.1 x.2 }
def serF (f : Int) (ls : List (List Int)) : Fd × Bool := if serB f (ls.getD 0 []) = true then ((fieldF f).1, true) else ((0, 0, 0), false)
def fI_seriesFieldC : PC := { ts := [i64T, .sl listT], rs := [fldT, .bool], pre := fun x => x.2.length = 1, F := fun x => serF x.1 x.2 }
def fI_seriesInvC : PC := { ts := [fldT, listT], rs := [listT], pre := fun x => IsMod x.1.1 ∧ elemsF x.1.1 x.2 = true ∧ 1 ≤ x.2.length ∧ x.2.length ≤ 64, F := fun x => siL x.1.1 x.2 x.2.length }
def fI_SeriesInvC : PC := { ts := [i64T, listT], rs := [listT, .bool], pre := fun _ => True, F := fun x => serInvF x.1 x.2 }
def fS_EvalManyC : PC := { ts := [i64T, listT, listT], rs := [listT], pre := fun _ => True, F := fun x => evManyJ x.1 x.2.1 x.2.2 }
def DivP (p : Int) (a b : List Int) : Prop := ∃ f, modF f = p ∧ polyB f a = true ∧ polyB f b = true ∧ b.length ≠ 0
def fS_l03DivModC : PC := { ts := [i64T, listT, listT], rs := [listT, listT], pre := fun x => polyB x.1 x.2.1 = true ∧ polyB x.1 x.2.2 = true ∧ x.2.2.length ≠ 0, F := fun x => divG (modF x.1) x.2.1 x.2.2 }
def fI_divModGC : PC := { ts := [fldT, listT, listT], rs := [listT, listT], pre := fun x => DivP x.1.1 x.2.1 x.2.2, F := fun x => divG x.1.1 x.2.1 x.2.2 }
def fS_DivModC : PC := { ts := [i64T, listT, listT], rs := [listT, listT, .bool], pre := fun _ => True, F := fun x => divModF x.1 x.2.1 x.2.2 }
def fI_DivModC : PC := { ts := [i64T, listT, listT], rs := [listT, listT, .bool], pre := fun _ => True, F := fun x => divModF x.1 x.2.1 x.2.2 }
def aS_ConvExact2 (x : List Int × List Int) (i : Nat) : Nat → Option Ann := fun
  | 11 => some (.mk Nat (fun j => j ≤ min (i + 1) x.1.length) (fun st j => (st.keep 8 []).sets [(8, si (cvS x.1 x.2 i j)), (9, si j)]) (fun j => min (i + 1) x.1.length - j) 0 (fun _ _ => none))
  | _ => none
def aS_ConvExact (x : List Int × List Int) : Nat → Option Ann := fun
  | 7 => some (.mk Nat (fun i => i ≤ x.1.length + x.2.length - 1) (fun st i => ((st.keep 6 []).sets [(6, .c (.own 0)), (7, si i)]).setEs [(0, .row true i64T (cvL x.1 x.2 i))]) (fun i => x.1.length + x.2.length - 1 - i) 0 (fun i => aS_ConvExact2 x i))
  | _ => none
def aI_ConvExact (x : List Int × List Int) : Nat → Option Ann := fun
  | 7 => some (.mk Nat (fun i => i ≤ x.1.length) (fun st i => ((st.keep 6 [34, 35]).sets [(6, .c (.own 0)), (36, si i)]).setEs [(0, .row true i64T (cvRow x.1 x.2 i 0))]) (fun i => x.1.length - i) 0 (fun i => fun
    | 10 => some (.mk Nat (fun j => j ≤ x.2.length) (fun st j => ((st.keep 9 [34, 35, 36, 41, 42]).sets [(6, .c (.own 0)), (43, si j)]).setEs [(0, .row true i64T (cvRow x.1 x.2 i j))]) (fun j => x.2.length - j) 0 (fun _ _ => none))
    | _ => none))
  | _ => none
def aS_SeriesInv2 (x : Int × List Int) (i : Nat) : Nat → Option Ann := fun
  | 12 => some (.mk Nat (fun j => j ≤ i) (fun st j => (st.keep 9 []).sets [(9, si (siP (modF x.1) x.2 (siL (modF x.1) x.2 i) i j)), (10, si ((j : Int) + 1))]) (fun j => i - j) 0 (fun _ _ => none))
  | _ => none
def aS_SeriesInv (x : Int × List Int) : Nat → Option Ann := fun
  | 6 => some (.mk Nat (fun i => i ≤ x.2.length) (fun st i => ((st.keep 8 []).sets [(6, .c (.own 0)), (8, si i)]).setEs [(0, .row true i64T (siL (modF x.1) x.2 i))]) (fun i => x.2.length - i) 0 (fun i => aS_SeriesInv2 x i))
  | _ => none
def aI_seriesInv2 (x : Fd × List Int) (i : Nat) : Nat → Option Ann := fun
  | 8 => some (.mk Nat (fun j => j ≤ i) (fun st j => (st.keep 8 []).sets [(8, si (siA x.1.1 x.2 (siL x.1.1 x.2 i) i j)), (9, si ((j : Int) + 1))]) (fun j => i - j) 0 (fun _ _ => none))
  | _ => none
def aI_seriesInv (x : Fd × List Int) : Nat → Option Ann := fun
  | 4 => some (.mk Nat (fun i => 1 ≤ i ∧ i ≤ x.2.length) (fun st i => ((st.keep 6 []).sets [(6, .c (.own 1)), (7, si i)]).setEs [(1, .row true i64T (siL x.1.1 x.2 i))]) (fun i => x.2.length - i) 1 (fun i => aI_seriesInv2 x i))
  | _ => none
def aS_l03DivMod3 (x : Int × List Int × List Int) (k : Nat) : Nat → Option Ann := fun
  | 14 => some (.mk Nat (fun j => j ≤ x.2.2.length) (fun st j => ((st.keep 14 []).sets [(14, si j)]).setEs [(0, .row true i64T (dvStep (modF x.1) x.2.2 (dvL (modF x.1) (dvR (modF x.1) x.2.2) x.2.1 x.2.2 k) (x.2.1.length - x.2.2.length - k) (dvC (modF x.1) (dvR (modF x.1) x.2.2) x.2.1 x.2.2 k) j)), (1, .row true i64T (dvQ (modF x.1) (dvR (modF x.1) x.2.2) x.2.1 x.2.2 x.2.1.length (k + 1)))]) (fun j => x.2.2.length - j) 0 (fun _ _ => none))
  | _ => none
def aS_l03DivMod2 (x : Int × List Int × List Int) : Nat → Option Ann := fun
  | 9 => some (.mk Nat (fun k => k ≤ x.2.1.length + 1 - x.2.2.length) (fun st k => ((st.keep 12 []).sets [(8, .c (.own 0)), (9, .c (.own 1)), (12, si ((x.2.1.length : Int) - k))]).setEs [(0, .row true i64T (dvL (modF x.1) (dvR (modF x.1) x.2.2) x.2.1 x.2.2 k)), (1, .row true i64T (dvQ (modF x.1) (dvR (modF x.1) x.2.2) x.2.1 x.2.2 x.2.1.length k))]) (fun k => x.2.1.length + 1 - x.2.2.length - k) 0 (fun k => aS_l03DivMod3 x k))
  | _ => none
def aS_l03DivMod (x : Int × List Int × List Int) : Nat → Option Ann := fun
  | 4 => some (.mk Nat (fun i => i ≤ x.2.1.length) (fun st i => ((st.keep 9 []).sets [(9, .c (.own 1)), (10, si i)]).setEs [(1, .row true i64T (List.replicate i 0))]) (fun i => x.2.1.length - i) 0 (fun _ => aS_l03DivMod2 x))
  | _ => none
def aI_divModG2 (x : Fd × List Int × List Int) (k : Nat) : Nat → Option Ann := fun
  | 13 => some (.mk Nat (fun j => j ≤ x.2.2.length) (fun st j => ((st.keep 13 [63, 64]).sets [(65, si j)]).setEs [(1, .row true i64T (dvStep x.1.1 x.2.2 (dvL x.1.1 (dvR x.1.1 x.2.2) x.2.1 x.2.2 k) (x.2.1.length - x.2.2.length - k) (dvC x.1.1 (dvR x.1.1 x.2.2) x.2.1 x.2.2 k) j)), (2, .row true i64T (dvQ x.1.1 (dvR x.1.1 x.2.2) x.2.1 x.2.2 (x.2.1.length - x.2.2.length + 1) (k + 1)))]) (fun j => x.2.2.length - j) 0 (fun _ _ => none))
  | _ => none
def aI_divModG (x : Fd × List Int × List Int) : Nat → Option Ann := fun
  | 7 => some (.mk Nat (fun k => k ≤ x.2.1.length - x.2.2.length + 1) (fun st k => ((st.keep 11 []).sets [(11, si ((x.2.1.length : Int) - x.2.2.length - k))]).setEs [(1, .row true i64T (dvL x.1.1 (dvR x.1.1 x.2.2) x.2.1 x.2.2 k)), (2, .row true i64T (dvQ x.1.1 (dvR x.1.1 x.2.2) x.2.1 x.2.2 (x.2.1.length - x.2.2.length + 1) k))]) (fun k => x.2.1.length - x.2.2.length + 1 - k) 0 (fun k => aI_divModG2 x k))
  | _ => none
def RngP (m : Int) (l : List Int) (k : Nat) : Prop := k ≤ l.length ∧ ∀ x ∈ l.take k, -m ≤ x ∧ x ≤ m
def aS_l05Terms (x : List Int) : Nat → Option Ann := fun
  | 4 => some (.mk Nat (fun k => RngP 1000000 x k) (fun st k => (st.keep 3 []).sets [(3, si k)]) (fun k => x.length - k) 0 (fun _ _ => none))
  | _ => none
def aI_areTerms (x : List Int) : Nat → Option Ann := fun
  | 2 => some (.mk Nat (fun k => RngP 1000000 x k) (fun st k => (st.keep 4 [5, 6]).sets [(7, si k)]) (fun k => x.length - k) 0 (fun _ _ => none))
  | _ => none
def aS_l10Words (x : List Int) : Nat → Option Ann := fun
  | 4 => some (.mk Nat (fun k => RngP 1099511627776 x k) (fun st k => (st.keep 3 []).sets [(3, si k)]) (fun k => x.length - k) 0 (fun _ _ => none))
  | _ => none
def aI_areWords (x : List Int) : Nat → Option Ann := fun
  | 2 => some (.mk Nat (fun k => RngP 1099511627776 x k) (fun st k => (st.keep 4 [5, 6]).sets [(7, si k)]) (fun k => x.length - k) 0 (fun _ _ => none))
  | _ => none
def PolyJ (f : Int) (ls : List (List Int)) (k : Nat) : Prop := ∀ i, i < k → polyB f (ls.getD i []) = true
def aI_polyField2 (x : Int × List (List Int)) : Nat → Option Ann := fun
  | 5 => some (.mk Nat (fun k => k ≤ x.2.length ∧ PolyJ x.1 x.2 k) (fun st k => (st.keep 8 [18, 19]).sets [(20, si k)]) (fun k => x.2.length - k) 0 (fun _ _ => none))
  | _ => none
def aI_seriesField (x : Int × List (List Int)) : Nat → Option Ann := fun
  | 5 => some (.mk Nat (fun k => k ≤ 1 ∧ (k = 1 → serB x.1 (x.2.getD 0 []) = true)) (fun st k => (st.keep 8 [18, 19]).sets [(20, si k)]) (fun k => 1 - k) 0 (fun _ _ => none))
  | _ => none
def aS_EvalMany (x : Int × List Int × List Int) : Nat → Option Ann := fun
  | 5 => some (.mk Nat (fun k => k ≤ x.2.2.length) (fun st k => ((st.keep 7 []).sets [(7, .c (.own 0)), (8, si k)]).setEs [(0, .row true i64T (evM (modF x.1) x.2.1 x.2.2 k))]) (fun k => x.2.2.length - k) 0 (fun _ _ => none))
  | _ => none
end Go.SF
