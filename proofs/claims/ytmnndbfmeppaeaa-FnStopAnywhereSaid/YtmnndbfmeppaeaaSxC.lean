/- A verified symbolic executor and its contracts (part SxC). No condition. -/
import Derived.Test.YtmnndbfmeppaeaaSxH
import Derived.IntWalk
import Derived.Test.YtmnndbfmeppaeaaSxG
/- Contracts: what all share. No condition. -/
namespace Go.SF
open Go.SX Go
set_option linter.unusedVariables false
def gOf : List (Nat × PC) → FuncId → Option PC
  | [], _ => none
  | (k, c) :: r, f => if f = k then some c else gOf r f
def rOf : List (Nat × Rule) → FuncId → Option Rule
  | [], _ => none
  | (k, c) :: r, f => if f = k then some c else rOf r f
/-- Literals tell their blocks. -/
def tellR : Rule := fun _ _ _ => False
def R0 : FuncId → Option Rule := fun _ => none
def noB {X Y : Type} : X → Y → Nat → Option Ann := fun _ _ _ => none
def noA {X : Type} : X → Nat → Option Ann := fun _ _ => none
def si (n : Int) : S := .c (.val (.int .i64 n))
abbrev i64T : Ty := .int .i64
def w64 (n : Int) : Int := IntKind.i64.wrap n
def szF (n : Nat) (left : Int) : Int := if w64 (left - n) < 0 then -1 else w64 (left - n)
/-- A copy, element by element. -/
def copyA {e : Ty} (x : List e.den) (key i out m : Nat) : Nat → Option Ann := fun k =>
  if k = key then some (.mk Nat (fun k => k ≤ x.length) (fun st k => ((st.keep m []).sets [(i, si k), (out, .c (.own 0))]).setEs [(0, .row true e (x.take k ++ List.replicate (x.length - k) e.dflt))]) (fun k => x.length - k) 0 (fun _ _ => none))
  else none
/-- Two lists, element by element. -/
def eqA {e : Ty} (x : List e.den × List e.den) (key i m : Nat) : Nat → Option Ann := fun k =>
  if k = key then some (.mk Nat (fun k => k ≤ x.1.length ∧ x.1.length = x.2.length ∧ x.1.take k = x.2.take k) (fun st k => (st.keep m []).sets [(i, si k)]) (fun k => x.1.length - k) 0 (fun _ _ => none))
  else none
def fS_l01InC : PC := { ts := [i64T, i64T, i64T], rs := [.bool], pre := fun _ => True, F := fun x => decide (x.2.1 ≤ x.1) && decide (x.1 ≤ x.2.2) }
theorem getD_drop_cons {α : Type} {l : List α} {i : Nat} {x : α} (h : i < l.length) : l.drop i = l.getD i x :: l.drop (i + 1) := by
  rw [List.drop_eq_getElem_cons h]; simp [h]
theorem wrap_small {n : Int} (h : -9223372036854775808 ≤ n ∧ n ≤ 9223372036854775807) : IntKind.i64.wrap n = n := by
  rw [IntKind.wrap_i64]; omega
theorem wrap_succ {n : Nat} (h : n < 9223372036854775807) : IntKind.i64.wrap ((n : Int) + 1) = ((n + 1 : Nat) : Int) := by
  rw [wrap_small (by omega)]; rfl
theorem copy_step {α : Type} (l : List α) (z : α) {i : Nat} (h : i < l.length) : (l.take i ++ List.replicate (l.length - i) z).set i (l.getD i z) = l.take (i + 1) ++ List.replicate (l.length - (i + 1)) z := by
  apply List.ext_getElem?
  intro j
  simp only [List.getElem?_set, List.getElem?_append, List.getElem?_take, List.getElem?_replicate, List.length_take, List.length_append, List.length_replicate, List.getD_eq_getElem?_getD]
  grind
theorem take_ext {α : Type} {a b : List α} {z : α} {i : Nat} (hl : a.length = b.length) (hi : i < a.length) (h : a.take i = b.take i) : (a.take (i + 1) = b.take (i + 1) ↔ a.getD i z = b.getD i z) ∧ (a = b → a.getD i z = b.getD i z) := by
  refine ⟨?_, fun e => by rw [e]⟩
  rw [List.take_add_one, List.take_add_one, h, List.append_cancel_left_eq]
  rw [List.getElem?_eq_getElem hi, List.getElem?_eq_getElem (show i < b.length by omega)]
  simp [hi, show i < b.length by omega]
end Go.SF


/- Contracts: lines of tickets. No condition. -/
namespace Go.SF
open Go.SX Go
set_option linter.unusedVariables false
abbrev tkT : Ty := .st (.pr (.int .i64) (.int .i64))
abbrev Tk := Int × Int
abbrev lineT : Ty := .st (.sl tkT)
def isTicketF (t : Tk) : Bool := decide (1 ≤ t.1) && decide (t.1 ≤ 1000000000) && decide (1 ≤ t.2) && decide (t.2 ≤ 200000)
/-- The first 'k' tickets: each is one, the numbers rise. -/
def LineP (xs : List Tk) (k : Nat) : Prop := ∀ j, j < k → isTicketF (xs.getD j (0, 0)) = true ∧ (0 < j → (xs.getD (j - 1) (0, 0)).1 < (xs.getD j (0, 0)).1)
instance (xs : List Tk) (k : Nat) : Decidable (LineP xs k) := by unfold LineP; infer_instance
def lineOkF (xs : List Tk) : Bool := decide (xs.length ≤ 40) && decide (LineP xs xs.length)
def costGo : List Tk → Int → Int
  | [], s => s
  | x :: xs, s => costGo xs (w64 (s + x.2))
def lineCostF (xs : List Tk) : Int := if lineOkF xs then costGo xs 0 else -1
def fL_szTicketSC : PC := { ts := [.sl tkT, i64T], rs := [i64T], pre := fun _ => True, F := fun x => szF x.1.length x.2 }
def fL_szLineC : PC := { ts := [lineT, i64T], rs := [i64T], pre := fun _ => True, F := fun x => szF x.1.length x.2 }
def fL_toTicketC : PC := { ts := [tkT], rs := [tkT], pre := fun _ => True, F := fun x => x }
def fL_toTicketSC : PC := { ts := [.sl tkT], rs := [.sl tkT], pre := fun x => x.length ≤ 1048576, F := fun x => x }
def fL_toLineC : PC := { ts := [lineT], rs := [lineT], pre := fun x => x.length ≤ 1048576, F := fun x => x }
def fL_eqTicketC : PC := { ts := [tkT, tkT], rs := [.bool], pre := fun _ => True, F := fun x => decide (x.1 = x.2) }
def fL_eqTicketSC : PC := { ts := [.sl tkT, .sl tkT], rs := [.bool], pre := fun _ => True, F := fun x => decide (x.1 = x.2) }
def fL_eqLineC : PC := { ts := [lineT, lineT], rs := [.bool], pre := fun _ => True, F := fun x => decide (x.1 = x.2) }
def aL_toTicketS (x : List Tk) := copyA (e := tkT) x 3 4 3 5
def aL_eqTicketS (x : List Tk × List Tk) := eqA (e := tkT) x 4 5 6
def fS_l13TicketC : PC := { ts := [tkT], rs := [.bool], pre := fun _ => True, F := fun x => isTicketF x }
def fI_isTicketC : PC := { ts := [tkT], rs := [.bool], pre := fun _ => True, F := fun x => isTicketF x }
def fS_LineOkC : PC := { ts := [lineT], rs := [.bool], pre := fun _ => True, F := fun x => lineOkF x }
def fI_isLineC : PC := { ts := [lineT], rs := [.bool], pre := fun _ => True, F := fun x => lineOkF x }
def fI_costOfC : PC := { ts := [.sl tkT], rs := [i64T], pre := fun _ => True, F := fun x => costGo x 0 }
def fS_LineCostC : PC := { ts := [lineT], rs := [i64T], pre := fun _ => True, F := fun x => lineCostF x }
def fI_LineCostC : PC := { ts := [lineT], rs := [i64T], pre := fun _ => True, F := fun x => lineCostF x }
def aS_LineOk (x : List Tk) : Nat → Option Ann := fun
  | 4 => some (.mk Nat (fun k => k ≤ x.length ∧ LineP x k) (fun st k => (st.keep 3 []).sets [(3, si k)]) (fun k => x.length - k) 0 (fun _ _ => none))
  | _ => none
def aI_isLine (x : List Tk) : Nat → Option Ann := fun
  | 2 => some (.mk Nat (fun k => k ≤ x.length ∧ LineP x k) (fun st k => (st.keep 3 [6, 7]).sets [(8, si k)]) (fun k => x.length - k) 0 (fun _ _ => none))
  | _ => none
def aI_costOf (x : List Tk) : Nat → Option Ann := fun
  | 3 => some (.mk (Nat × Int) (fun k => k.1 ≤ x.length ∧ costGo (x.drop k.1) k.2 = costGo x 0) (fun st k => (st.keep 3 [6, 7]).sets [(8, si k.1), (3, si k.2)]) (fun k => x.length - k.1) (0, 0) (fun _ _ => none))
  | _ => none
def aS_LineCost (x : List Tk) : Nat → Option Ann := fun
  | 5 => some (.mk (Nat × Int) (fun k => k.1 ≤ x.length ∧ costGo (x.drop k.1) k.2 = costGo x 0) (fun st k => (st.keep 3 []).sets [(4, si k.1), (3, si k.2)]) (fun k => x.length - k.1) (0, 0) (fun _ _ => none))
  | _ => none
def idxGo (id : Int) : List Tk → Nat → Int
  | [], _ => -1
  | x :: xs, k => if x.1 = id then (k : Int) else idxGo id xs (k + 1)
def placeF (xs : List Tk) (id : Int) : Int := if lineOkF xs then idxGo id xs 0 else -1
def fI_placeOf1C : PC := { ts := [tkT, .ptr i64T], rs := [.bool], pre := fun _ => True, F := fun x => decide (x.1.1 = x.2) }
def fG_IndexFuncTkC (g : Nat) : PC := { ts := [.sl tkT, .clo g (.ptr i64T)], rs := [i64T], pre := fun _ => True, F := fun x => idxGo x.2 x.1 0 }
def fI_placeOfC : PC := { ts := [lineT, i64T], rs := [i64T], pre := fun _ => True, F := fun x => idxGo x.2 x.1 0 }
def fS_PlaceOfC : PC := { ts := [lineT, i64T], rs := [i64T], pre := fun _ => True, F := fun x => placeF x.1 x.2 }
def fI_PlaceOfC : PC := { ts := [lineT, i64T], rs := [i64T], pre := fun _ => True, F := fun x => placeF x.1 x.2 }
def aG_IndexFuncTk (x : List Tk × Int) : Nat → Option Ann := fun
  | 2 => some (.mk Nat (fun k => k ≤ x.1.length ∧ idxGo x.2 (x.1.drop k) k = idxGo x.2 x.1 0) (fun st k => (st.keep 6 [7]).sets [(8, si k)]) (fun k => x.1.length - k) 0 (fun _ _ => none))
  | _ => none
def aS_PlaceOf (x : List Tk × Int) : Nat → Option Ann := fun
  | 4 => some (.mk Nat (fun k => k ≤ x.1.length ∧ idxGo x.2 (x.1.drop k) k = idxGo x.2 x.1 0) (fun st k => (st.keep 6 []).sets [(5, si k)]) (fun k => x.1.length - k) 0 (fun _ _ => none))
  | _ => none
def aheadF (xs : List Tk) (id : Int) : Int := if lineOkF xs = true ∧ 0 ≤ idxGo id xs 0 then costGo (xs.take (idxGo id xs 0).toNat) 0 else -1
def fS_AheadC : PC := { ts := [lineT, i64T], rs := [i64T], pre := fun _ => True, F := fun x => aheadF x.1 x.2 }
def fI_AheadC : PC := { ts := [lineT, i64T], rs := [i64T], pre := fun _ => True, F := fun x => aheadF x.1 x.2 }
end Go.SF


/- Contracts: lists of numbers. No condition. -/
namespace Go.SF
open Go.SX Go
set_option linter.unusedVariables false
def fL_eqIntSC : PC := { ts := [.sl i64T, .sl i64T], rs := [.bool], pre := fun _ => True, F := fun x => decide (x.1 = x.2) }
def aL_eqIntS (x : List Int × List Int) := eqA (e := i64T) x 4 5 6
end Go.SF


/- Contracts: fields, and lists of their elements. No condition. -/
namespace Go.SF
open Go.SX Go
set_option linter.unusedVariables false
abbrev fldT : Ty := .st (.pr (.int .i64) (.pr (.int .i64) (.int .i64)))
abbrev listT : Ty := .sl (.int .i64)
abbrev Fd := Int × Int × Int
def fieldTab : List Fd := [(17, 3, 4), (97, 5, 5), (193, 5, 6), (257, 3, 8), (7681, 17, 9), (12289, 11, 12), (998244353, 3, 23), (469762049, 3, 26), (1004535809, 3, 21)]
def fieldF (f : Int) : Fd × Bool := if 0 ≤ f ∧ f < 9 then (fieldTab.getD f.toNat (0, 0, 0), true) else ((0, 0, 0), false)
def modF (f : Int) : Int := (fieldF f).1.1
def twoF (f : Int) : Int := if (fieldF f).2 = true then (fieldF f).1.2.2 else -1
def logGo (n : Int) : Nat → Int
  | 0 => -1
  | k + 1 => if n = 2 ^ (9 - k) then ((9 - k : Nat) : Int) else logGo n k
/-- The logarithm of a number up to 512. -/
def logF (n : Int) : Int := logGo n 10
def elemsF (p : Int) (xs : List Int) : Bool := decide (∀ x ∈ xs, 0 ≤ x ∧ x ≤ p - 1)
def specElemsF (f : Int) (xs : List Int) : Bool := decide (modF f ≠ 0) && elemsF (modF f) xs
def vectorOkF (f : Int) (xs : List Int) : Bool := decide (0 ≤ logF xs.length) && decide (logF xs.length ≤ twoF f) && specElemsF f xs
def vecF (f : Int) (xs : List Int) : Fd × Bool := if vectorOkF f xs = true then ((fieldF f).1, true) else ((0, 0, 0), false)
def fI_fieldOfC : PC := { ts := [i64T], rs := [fldT, .bool], pre := fun _ => True, F := fun x => fieldF x }
def fS_ModulusC : PC := { ts := [i64T], rs := [i64T], pre := fun _ => True, F := fun x => modF x }
def fS_TwoPowerC : PC := { ts := [i64T], rs := [i64T], pre := fun _ => True, F := fun x => twoF x }
def fS_LogOfC : PC := { ts := [i64T], rs := [i64T], pre := fun _ => True, F := fun x => logF x }
def fI_logOfC : PC := { ts := [i64T], rs := [i64T], pre := fun _ => True, F := fun x => logF x }
def fS_l03ElementsC : PC := { ts := [i64T, listT], rs := [.bool], pre := fun _ => True, F := fun x => specElemsF x.1 x.2 }
def fI_areElementsC : PC := { ts := [fldT, listT], rs := [.bool], pre := fun _ => True, F := fun x => elemsF x.1.1 x.2 }
def fS_VectorOkC : PC := { ts := [i64T, listT], rs := [.bool], pre := fun _ => True, F := fun x => vectorOkF x.1 x.2 }
def fI_vectorFieldC : PC := { ts := [i64T, .sl listT], rs := [fldT, .bool], pre := fun x => x.2.length = 1, F := fun x => vecF x.1 (x.2.getD 0 []) }
def aS_TwoPower (x : Int) : Nat → Option Ann := fun
  | 6 => some (.mk Nat (fun t => (t : Int) ≤ twoF x) (fun st t => (st.keep 4 []).sets [(4, si t), (5, si ((modF x - 1) / 2 ^ t))]) (fun t => (twoF x).toNat - t) 0 (fun _ _ => none))
  | _ => none
def LogP (n : Int) (k : Nat) : Prop := k ≤ 10 ∧ ∀ j, j < k → n ≠ 2 ^ j
def aS_LogOf (x : Int) : Nat → Option Ann := fun
  | 2 => some (.mk Nat (fun k => LogP x k) (fun st k => (st.keep 3 []).sets [(3, si k)]) (fun k => 10 - k) 0 (fun _ _ => none))
  | _ => none
def aI_logOf (x : Int) : Nat → Option Ann := fun
  | 2 => some (.mk Nat (fun k => LogP x k) (fun st k => (st.keep 3 []).sets [(4, si k)]) (fun k => 10 - k) 0 (fun _ _ => none))
  | _ => none
def ElP (p : Int) (xs : List Int) (k : Nat) : Prop := k ≤ xs.length ∧ elemsF p (xs.take k) = true
def aS_l03Elements (x : Int × List Int) : Nat → Option Ann := fun
  | 5 => some (.mk Nat (fun k => ElP (modF x.1) x.2 k) (fun st k => (st.keep 6 []).sets [(6, si k)]) (fun k => x.2.length - k) 0 (fun _ _ => none))
  | _ => none
def aI_areElements (x : Fd × List Int) : Nat → Option Ann := fun
  | 2 => some (.mk Nat (fun k => ElP x.1.1 x.2 k) (fun st k => (st.keep 5 [7, 8]).sets [(9, si k)]) (fun k => x.2.length - k) 0 (fun _ _ => none))
  | _ => none
def aI_vectorField (x : Int × List (List Int)) : Nat → Option Ann := fun
  | 5 => some (.mk Nat (fun k => k ≤ 1 ∧ (k = 1 → vectorOkF x.1 (x.2.getD 0 []) = true)) (fun st k => (st.keep 8 [19, 20]).sets [(21, si k)]) (fun k => 1 - k) 0 (fun _ _ => none))
  | _ => none
end Go.SF


/- Contracts: arithmetic modulo a number. No condition. -/
namespace Go.SF
open Go.SX Go
set_option linter.unusedVariables false
def addM (p a b : Int) : Int := (a + b) % p
def subM (p a b : Int) : Int := (a - b) % p
def mulM (p a b : Int) : Int := a * b % p
def powM (p a : Int) (e : Nat) : Int := a ^ e % p
def redM (p a : Int) : Int := a % p
def redS (f x : Int) : Int := if modF f = 0 then -1 else x % modF f
def addS (f a b : Int) : Int := if modF f = 0 then -1 else addM (modF f) a b
def subS (f a b : Int) : Int := if modF f = 0 then -1 else subM (modF f) a b
def mulS (f a b : Int) : Int := if modF f = 0 then -1 else mulM (modF f) a b
def powP (p a e : Int) : Int := if a % p = 0 then (if e = 0 then 1 else if e < 0 then -1 else 0) else powM p a (e % (p - 1)).toNat
def powS (f a e : Int) : Int := if modF f = 0 then -1 else powP (modF f) a e
def IsMod (p : Int) : Prop := 17 ≤ p ∧ p ≤ 1004535809
def El (p x : Int) : Prop := 0 ≤ x ∧ x < p
def invM (p a : Int) : Int := powM p a (p - 2).toNat
def fS_ReduceC : PC := { ts := [i64T, i64T], rs := [i64T], pre := fun _ => True, F := fun x => redS x.1 x.2 }
def fS_AddC : PC := { ts := [i64T, i64T, i64T], rs := [i64T], pre := fun _ => True, F := fun x => addS x.1 x.2.1 x.2.2 }
def fS_SubC : PC := { ts := [i64T, i64T, i64T], rs := [i64T], pre := fun _ => True, F := fun x => subS x.1 x.2.1 x.2.2 }
def fS_MulC : PC := { ts := [i64T, i64T, i64T], rs := [i64T], pre := fun _ => True, F := fun x => mulS x.1 x.2.1 x.2.2 }
def fS_PowerC : PC := { ts := [i64T, i64T, i64T], rs := [i64T], pre := fun _ => True, F := fun x => powS x.1 x.2.1 x.2.2 }
def fS_InverseC : PC := { ts := [i64T, i64T], rs := [i64T], pre := fun _ => True, F := fun x => powS x.1 x.2 (-1) }
def fI_reduceC : PC := { ts := [fldT, i64T], rs := [i64T], pre := fun x => IsMod x.1.1, F := fun x => redM x.1.1 x.2 }
def fI_addC : PC := { ts := [fldT, i64T, i64T], rs := [i64T], pre := fun x => IsMod x.1.1 ∧ El x.1.1 x.2.1 ∧ El x.1.1 x.2.2, F := fun x => addM x.1.1 x.2.1 x.2.2 }
def fI_subC : PC := { ts := [fldT, i64T, i64T], rs := [i64T], pre := fun x => IsMod x.1.1 ∧ El x.1.1 x.2.1 ∧ El x.1.1 x.2.2, F := fun x => subM x.1.1 x.2.1 x.2.2 }
def fI_mulC : PC := { ts := [fldT, i64T, i64T], rs := [i64T], pre := fun x => IsMod x.1.1 ∧ El x.1.1 x.2.1 ∧ El x.1.1 x.2.2, F := fun x => mulM x.1.1 x.2.1 x.2.2 }
def fI_powerC : PC := { ts := [fldT, i64T, i64T], rs := [i64T], pre := fun x => IsMod x.1.1 ∧ El x.1.1 x.2.1 ∧ 0 ≤ x.2.2, F := fun x => powM x.1.1 x.2.1 x.2.2.toNat }
def fI_inverseC : PC := { ts := [fldT, i64T], rs := [i64T], pre := fun x => IsMod x.1.1 ∧ El x.1.1 x.2, F := fun x => invM x.1.1 x.2 }
def PowJ (p r : Int) (x : Int × Int × Nat) : Prop := El p x.1 ∧ El p x.2.1 ∧ x.2.1 * x.1 ^ x.2.2 % p = r ∧ (x.2.2 : Int) ≤ 9223372036854775807
def aS_Power (x : Int × Int × Int) : Nat → Option Ann := fun
  | 100014 => some (.mk Unit (fun _ => True) (fun st _ => (st.keep 9 []).sets [(9, si (x.2.2 % (modF x.1 - 1)).toNat)]) (fun _ => 0) () (fun _ => fun
    | 15 => some (.mk (Int × Int × Nat) (fun t => PowJ (modF x.1) (powM (modF x.1) x.2.1 (x.2.2 % (modF x.1 - 1)).toNat) t) (fun st t => (st.keep 8 []).sets [(8, si t.1), (9, si t.2.2), (10, si t.2.1)]) (fun t => t.2.2) (x.2.1 % modF x.1, 1, (x.2.2 % (modF x.1 - 1)).toNat) (fun _ _ => none))
    | _ => none))
  | _ => none
def aI_power (x : Fd × Int × Int) : Nat → Option Ann := fun
  | 2 => some (.mk (Int × Int × Nat) (fun t => PowJ x.1.1 (powM x.1.1 x.2.1 x.2.2.toNat) t) (fun st t => (st.keep 8 []).sets [(1, si t.1), (2, si t.2.2), (7, si t.2.1)]) (fun t => t.2.2) (x.2.1, 1, x.2.2.toNat) (fun _ _ => none))
  | _ => none
end Go.SF


/- Contracts: crews of hands. No condition. -/
namespace Go.SF
open Go.SX Go
set_option linter.unusedVariables false
abbrev hdT : Ty := .st (.pr (.int .i64) (.pr (.int .i64) (.int .i64)))
abbrev Hd := Int × Int × Int
abbrev crewT : Ty := .st (.pr (.int .i64) (.sl hdT))
abbrev Cr := Int × List Hd
def hd0 : Hd := (0, 0, 0)
def idleF (h : Hd) : Bool := decide (h.1 = 0) && (decide (h.2.1 = 0) && decide (h.2.2 = 0))
def handOkF (h : Hd) : Bool := decide (0 ≤ h.1 ∧ h.1 ≤ 99) && isTicketF (h.2.1, h.2.2)
/-- No hand before 'j' has the work of hand 'k'. -/
def ClashP (xs : List Hd) (k j : Nat) : Prop := ∀ i, i < j → ¬ ((xs.getD i (0, 0, 0)).1 = (xs.getD k (0, 0, 0)).1 ∧ (xs.getD i (0, 0, 0)).2.1 = (xs.getD k (0, 0, 0)).2.1)
instance decClashP (xs : List Hd) (k j : Nat) : Decidable (ClashP xs k j) := by unfold ClashP; infer_instance
/-- The first 'k' hands are idle or well. -/
def CrewP (xs : List Hd) (k : Nat) : Prop := ∀ j, j < k → idleF (xs.getD j (0, 0, 0)) = true ∨ (handOkF (xs.getD j (0, 0, 0)) = true ∧ ClashP xs j j)
instance decCrewP (xs : List Hd) (k : Nat) : Decidable (CrewP xs k) := by unfold CrewP; infer_instance
def crewOkF (pace : Int) (xs : List Hd) : Bool := decide (1 ≤ pace ∧ pace ≤ 200000) && decide (1 ≤ xs.length ∧ xs.length ≤ 8) && decide (CrewP xs xs.length)
def hidxGo (t i : Int) : List Hd → Nat → Int
  | [], _ => -1
  | h :: hs, k => if h.2.1 ≠ 0 ∧ h.1 = t ∧ h.2.1 = i then (k : Int) else hidxGo t i hs (k + 1)
def idleGo : List Hd → Nat → Int
  | [], _ => -1
  | h :: hs, k => if idleF h then (k : Int) else idleGo hs (k + 1)
def busyGo : List Hd → Int → Int
  | [], s => s
  | h :: hs, s => busyGo hs (w64 (s + h.2.2))
def tickOf (pace : Int) (h : Hd) : Int := w64 ((w64 (w64 (h.2.2 + pace) - 1)).tdiv pace)
def ticksGo (pace : Int) : List Hd → Int → Int
  | [], m => m
  | h :: hs, m => ticksGo pace hs (imax m (tickOf pace h))
def busyF (c : Cr) : Int := if crewOkF c.1 c.2 then busyGo c.2 0 else -1
def ticksF (c : Cr) : Int := if crewOkF c.1 c.2 then ticksGo c.1 c.2 0 else -1
def idleIdF (c : Cr) : Int := if crewOkF c.1 c.2 then idleGo c.2 0 else -1
def fL_szHandSC : PC := { ts := [.sl hdT, i64T], rs := [i64T], pre := fun _ => True, F := fun x => szF x.1.length x.2 }
def fL_szCrewC : PC := { ts := [crewT, i64T], rs := [i64T], pre := fun _ => True, F := fun x => szF x.1.2.length x.2 }
def fL_toHandC : PC := { ts := [hdT], rs := [hdT], pre := fun _ => True, F := fun x => x }
def fL_toHandSC : PC := { ts := [.sl hdT], rs := [.sl hdT], pre := fun x => x.length ≤ 1048576, F := fun x => x }
def fL_toCrewC : PC := { ts := [crewT], rs := [crewT], pre := fun x => x.2.length ≤ 1048576, F := fun x => x }
def fL_eqHandC : PC := { ts := [hdT, hdT], rs := [.bool], pre := fun _ => True, F := fun x => decide (x.1 = x.2) }
def fL_eqHandSC : PC := { ts := [.sl hdT, .sl hdT], rs := [.bool], pre := fun _ => True, F := fun x => decide (x.1 = x.2) }
def fL_eqCrewC : PC := { ts := [crewT, crewT], rs := [.bool], pre := fun _ => True, F := fun x => decide (x.1 = x.2) }
def aL_toHandS (x : List Hd) := copyA (e := hdT) x 3 4 3 5
def aL_eqHandS (x : List Hd × List Hd) := eqA (e := hdT) x 4 5 6
def fS_l15IdleC : PC := { ts := [hdT], rs := [.bool], pre := fun _ => True, F := fun x => idleF x }
def fS_CrewOkC : PC := { ts := [crewT], rs := [.bool], pre := fun _ => True, F := fun x => crewOkF x.1 x.2 }
def fI_isCrewC : PC := { ts := [crewT], rs := [.bool], pre := fun _ => True, F := fun x => crewOkF x.1 x.2 }
def fI_CrewOkC : PC := { ts := [crewT], rs := [.bool], pre := fun _ => True, F := fun x => crewOkF x.1 x.2 }
def fI_handOf1C : PC := { ts := [hdT, .ptr i64T, .ptr i64T], rs := [.bool], pre := fun _ => True, F := fun x => decide (x.1.2.1 ≠ 0 ∧ x.1.1 = x.2.1 ∧ x.1.2.1 = x.2.2) }
def fG_IndexFuncHdC (g : Nat) : PC := { ts := [.sl hdT, .clo g (.pr (.ptr i64T) (.ptr i64T))], rs := [i64T], pre := fun _ => True, F := fun x => hidxGo x.2.1 x.2.2 x.1 0 }
def fI_handOfC : PC := { ts := [.sl hdT, i64T, i64T], rs := [i64T], pre := fun _ => True, F := fun x => hidxGo x.2.1 x.2.2 x.1 0 }
def fS_BusyUnitsC : PC := { ts := [crewT], rs := [i64T], pre := fun _ => True, F := fun x => busyF x }
def fI_BusyUnitsC : PC := { ts := [crewT], rs := [i64T], pre := fun _ => True, F := fun x => busyF x }
def fS_TicksLeftC : PC := { ts := [crewT], rs := [i64T], pre := fun _ => True, F := fun x => ticksF x }
def fI_TicksLeftC : PC := { ts := [crewT], rs := [i64T], pre := fun _ => True, F := fun x => ticksF x }
def fS_IdleHandC : PC := { ts := [crewT], rs := [i64T], pre := fun _ => True, F := fun x => idleIdF x }
def fI_IdleHandC : PC := { ts := [crewT], rs := [i64T], pre := fun _ => True, F := fun x => idleIdF x }
def fG_IndexHdC : PC := { ts := [.sl hdT, hdT], rs := [i64T], pre := fun x => x.2 = (0, 0, 0), F := fun x => idleGo x.1 0 }
def aS_CrewOk2 (x : Cr) (k : Nat) : Nat → Option Ann := fun
  | 11 => some (.mk Nat (fun j => j ≤ k ∧ ClashP x.2 k j) (fun st j => (st.keep 5 []).sets [(5, si j)]) (fun j => k - j) 0 (fun _ _ => none))
  | _ => none
def aS_CrewOk (x : Cr) : Nat → Option Ann := fun
  | 4 => some (.mk Nat (fun k => k ≤ x.2.length ∧ CrewP x.2 k) (fun st k => (st.keep 3 []).sets [(3, si k)]) (fun k => x.2.length - k) 0 (fun k => aS_CrewOk2 x k))
  | _ => none
def aI_isCrew (x : Cr) : Nat → Option Ann := fun
  | 4 => some (.mk Nat (fun k => k ≤ x.2.length ∧ CrewP x.2 k) (fun st k => (st.keep 3 [26, 27]).sets [(28, si k)]) (fun k => x.2.length - k) 0 (fun _ _ => none))
  | _ => none
def aG_IndexFuncHd (x : List Hd × Int × Int) : Nat → Option Ann := fun
  | 2 => some (.mk Nat (fun k => k ≤ x.1.length ∧ hidxGo x.2.1 x.2.2 (x.1.drop k) k = hidxGo x.2.1 x.2.2 x.1 0) (fun st k => (st.keep 6 [7]).sets [(8, si k)]) (fun k => x.1.length - k) 0 (fun _ _ => none))
  | _ => none
def aI_BusyUnits (x : Cr) : Nat → Option Ann := fun
  | 5 => some (.mk (Nat × Int) (fun k => k.1 ≤ x.2.length ∧ busyGo (x.2.drop k.1) k.2 = busyGo x.2 0) (fun st k => (st.keep 3 [10, 11]).sets [(12, si k.1), (3, si k.2)]) (fun k => x.2.length - k.1) (0, 0) (fun _ _ => none))
  | _ => none
def aS_BusyUnits (x : Cr) : Nat → Option Ann := fun
  | 5 => some (.mk (Nat × Int) (fun k => k.1 ≤ x.2.length ∧ busyGo (x.2.drop k.1) k.2 = busyGo x.2 0) (fun st k => (st.keep 3 []).sets [(4, si k.1), (3, si k.2)]) (fun k => x.2.length - k.1) (0, 0) (fun _ _ => none))
  | _ => none
def aI_TicksLeft (x : Cr) : Nat → Option Ann := fun
  | 5 => some (.mk (Nat × Int) (fun k => k.1 ≤ x.2.length ∧ ticksGo x.1 (x.2.drop k.1) k.2 = ticksGo x.1 x.2 0) (fun st k => (st.keep 3 [10, 11]).sets [(12, si k.1), (3, si k.2)]) (fun k => x.2.length - k.1) (0, 0) (fun _ _ => none))
  | _ => none
def aS_TicksLeft (x : Cr) : Nat → Option Ann := fun
  | 5 => some (.mk (Nat × Int) (fun k => k.1 ≤ x.2.length ∧ ticksGo x.1 (x.2.drop k.1) k.2 = ticksGo x.1 x.2 0) (fun st k => (st.keep 3 []).sets [(4, si k.1), (3, si k.2)]) (fun k => x.2.length - k.1) (0, 0) (fun _ _ => none))
  | _ => none
def aS_IdleHand (x : Cr) : Nat → Option Ann := fun
  | 4 => some (.mk Nat (fun k => k ≤ x.2.length ∧ idleGo (x.2.drop k) k = idleGo x.2 0) (fun st k => (st.keep 3 []).sets [(3, si k)]) (fun k => x.2.length - k) 0 (fun _ _ => none))
  | _ => none
def aG_IndexHd (x : List Hd × Hd) : Nat → Option Ann := fun
  | 2 => some (.mk Nat (fun k => k ≤ x.1.length ∧ idleGo (x.1.drop k) k = idleGo x.1 0) (fun st k => (st.keep 5 [7]).sets [(8, si k)]) (fun k => x.1.length - k) 0 (fun _ _ => none))
  | _ => none
end Go.SF


/- Contracts: ServedCost. No condition. -/
namespace Go.SF
open Go.SX Go
set_option linter.unusedVariables false
abbrev svT : Ty := .st (.pr (.int .i64) (.pr (.int .i64) (.int .i64)))
abbrev Sv := Int × Int × Int
def servedGo (t : Int) : List Sv → Int → Int
  | [], s => s
  | x :: xs, s => if 1 ≤ x.2.2 ∧ x.2.2 ≤ 200000 then servedGo t xs (if x.1 = t then w64 (s + x.2.2) else s) else -1
def servedF (xs : List Sv) (t : Int) : Int := if 4096 < xs.length then -1 else servedGo t xs 0
def fL_toServedC : PC := { ts := [svT], rs := [svT], pre := fun _ => True, F := fun x => x }
def fL_eqServedC : PC := { ts := [svT, svT], rs := [.bool], pre := fun _ => True, F := fun x => decide (x.1 = x.2) }
def fL_szServedSC : PC := { ts := [.sl svT, i64T], rs := [i64T], pre := fun _ => True, F := fun x => szF x.1.length x.2 }
def fL_toServedSC : PC := { ts := [.sl svT], rs := [.sl svT], pre := fun x => x.length ≤ 1048576, F := fun x => x }
def fL_eqServedSC : PC := { ts := [.sl svT, .sl svT], rs := [.bool], pre := fun _ => True, F := fun x => decide (x.1 = x.2) }
def fS_ServedCostC : PC := { ts := [.sl svT, i64T], rs := [i64T], pre := fun _ => True, F := fun x => servedF x.1 x.2 }
def fI_ServedCostC : PC := { ts := [.sl svT, i64T], rs := [i64T], pre := fun _ => True, F := fun x => servedF x.1 x.2 }
def aS_ServedCost (x : List Sv × Int) : Nat → Option Ann := fun
  | 5 => some (.mk (Nat × Int) (fun k => k.1 ≤ x.1.length ∧ servedGo x.2 (x.1.drop k.1) k.2 = servedGo x.2 x.1 0) (fun st k => (st.keep 7 []).sets [(6, si k.1), (5, si k.2)]) (fun k => x.1.length - k.1) (0, 0) (fun _ _ => none))
  | _ => none
def aI_ServedCost (x : List Sv × Int) : Nat → Option Ann := fun
  | 5 => some (.mk (Nat × Int) (fun k => k.1 ≤ x.1.length ∧ servedGo x.2 (x.1.drop k.1) k.2 = servedGo x.2 x.1 0) (fun st k => ((st.keep 7 [11, 12]).sets [(13, si k.1), (5, si k.2)]).setEs [(0, .dead)]) (fun k => x.1.length - k.1) (0, 0) (fun _ _ => none))
  | _ => none
def aL_toServedS (x : List Sv) := copyA (e := svT) x 3 4 3 5
def aL_eqServedS (x : List Sv × List Sv) := eqA (e := svT) x 4 5 6
end Go.SF


/- Contracts: marks. No condition. -/
namespace Go.SF
open Go.SX Go
set_option linter.unusedVariables false
def noM0 {X : Type} : X → Int → Nat → Option Ann := fun _ _ _ => none
/-- Each element is made anew out of the number that it is its turn with. -/
def mkGo {α : Type} (el : Int → α) (nx : Int → Int) : List α → Int → List α
  | [], _ => []
  | _ :: xs, k => el k :: mkGo el nx xs (nx k)
def mkEnd {α : Type} (nx : Int → Int) : List α → Int → Int
  | [], k => k
  | _ :: xs, k => mkEnd nx xs (nx k)
def heldGo {α : Type} (ok : α → Int → Bool) (nx : Int → Int) : List α → Int → Int
  | [], k => k
  | x :: xs, k => if ok x k then heldGo ok nx xs (nx k) else -1
def n1 (k : Int) : Int := w64 (k + 1)
def n2 (k : Int) : Int := w64 (w64 (k + 1) + 1)
def n3 (k : Int) : Int := w64 (w64 (w64 (k + 1) + 1) + 1)
def el1 (k : Int) : Int := k
def el2 (k : Int) : Int × Int := (k, w64 (k + 1))
def el3 (k : Int) : Int × Int × Int := (k, w64 (k + 1), w64 (w64 (k + 1) + 1))
def ok1 (x : Int) (k : Int) : Bool := decide (x = k)
def ok2 (x : Int × Int) (k : Int) : Bool := decide (x.1 = k ∧ x.2 = w64 (k + 1))
def ok3 (x : Int × Int × Int) (k : Int) : Bool := decide (x.1 = k ∧ x.2.1 = w64 (k + 1) ∧ x.2.2 = w64 (w64 (k + 1) + 1))
def held1 (xs : List Int) (k : Int) : Int := heldGo ok1 n1 xs k
def held2 (xs : List (Int × Int)) (k : Int) : Int := heldGo ok2 n2 xs k
def held3 (xs : List (Int × Int × Int)) (k : Int) : Int := heldGo ok3 n3 xs k
def mark1 (xs : List Int) (k : Int) : List Int := mkGo el1 n1 xs k
def mark2 (xs : List (Int × Int)) (k : Int) : List (Int × Int) := mkGo el2 n2 xs k
def mark3 (xs : List (Int × Int × Int)) (k : Int) : List (Int × Int × Int) := mkGo el3 n3 xs k
def end1 (xs : List Int) (k : Int) : Int := mkEnd n1 xs k
def end2 (xs : List (Int × Int)) (k : Int) : Int := mkEnd n2 xs k
def end3 (xs : List (Int × Int × Int)) (k : Int) : Int := mkEnd n3 xs k
def neg1 (k : Int) : Int := if k < 0 then -1 else k
def markA {e : Ty} (mk : List e.den → Int → List e.den) (en : List e.den → Int → Int) (x : List e.den) (k : Int) : Nat → Option Ann := fun
  | 2 => some (.mk (Nat × Int) (fun j => j.1 ≤ x.length ∧ j.2 = en (x.take j.1) k) (fun st j => ((st.keep 1 []).sets [(5, si j.1), (1, si j.2)]).setEs [(0, .row false e (mk (x.take j.1) k ++ x.drop j.1))]) (fun j => x.length - j.1) (0, k) (fun _ _ => none))
  | _ => none
def heldA {e : Ty} (he : List e.den → Int → Int) (x : List e.den × Int) : Nat → Option Ann := fun
  | 2 => some (.mk (Nat × Int) (fun j => j.1 ≤ x.1.length ∧ he (x.1.drop j.1) j.2 = he x.1 x.2) (fun st j => (st.keep 1 []).sets [(5, si j.1), (1, si j.2)]) (fun j => x.1.length - j.1) (0, x.2) (fun _ _ => none))
  | _ => none
def fL_markHandSC : MC := { t := .sl hdT, pre := fun _ _ => True, F := fun x k => end3 x k, G := fun x k => mark3 x k }
def fL_heldHandSC : PC := { ts := [.sl hdT, i64T], rs := [i64T], pre := fun _ => True, F := fun x => held3 x.1 x.2 }
def fL_markCrewC : MC := { t := crewT, pre := fun _ _ => True, F := fun x k => end3 x.2 k, G := fun x k => (x.1, mark3 x.2 k) }
def fL_heldCrewC : PC := { ts := [crewT, i64T], rs := [i64T], pre := fun _ => True, F := fun x => neg1 (held3 x.1.2 x.2) }
def fL_markServedSC : MC := { t := .sl svT, pre := fun _ _ => True, F := fun x k => end3 x k, G := fun x k => mark3 x k }
def fL_heldServedSC : PC := { ts := [.sl svT, i64T], rs := [i64T], pre := fun _ => True, F := fun x => held3 x.1 x.2 }
def fL_markTicketSC : MC := { t := .sl tkT, pre := fun _ _ => True, F := fun x k => end2 x k, G := fun x k => mark2 x k }
def fL_heldTicketSC : PC := { ts := [.sl tkT, i64T], rs := [i64T], pre := fun _ => True, F := fun x => held2 x.1 x.2 }
def fL_markLineC : MC := { t := lineT, pre := fun _ _ => True, F := fun x k => end2 x k, G := fun x k => mark2 x k }
def fL_heldLineC : PC := { ts := [lineT, i64T], rs := [i64T], pre := fun _ => True, F := fun x => neg1 (held2 x.1 x.2) }
def fL_markIntSC : MC := { t := .sl i64T, pre := fun _ _ => True, F := fun x k => end1 x k, G := fun x k => mark1 x k }
def fL_heldIntSC : PC := { ts := [.sl i64T, i64T], rs := [i64T], pre := fun _ => True, F := fun x => held1 x.1 x.2 }
def aL_markHandS (x : List Hd) (k : Int) := markA (e := hdT) mark3 end3 x k
def aL_heldHandS (x : List Hd × Int) := heldA (e := hdT) held3 x
def aL_markServedS (x : List Sv) (k : Int) := markA (e := svT) mark3 end3 x k
def aL_heldServedS (x : List Sv × Int) := heldA (e := svT) held3 x
def aL_markTicketS (x : List Tk) (k : Int) := markA (e := tkT) mark2 end2 x k
def aL_heldTicketS (x : List Tk × Int) := heldA (e := tkT) held2 x
def aL_markIntS (x : List Int) (k : Int) := markA (e := i64T) mark1 end1 x k
def aL_heldIntS (x : List Int × Int) := heldA (e := i64T) held1 x
end Go.SF


/- Contracts: plans and turners. No condition. -/
namespace Go.SF
open Go.SX Go
set_option linter.unusedVariables false
abbrev spT : Ty := .st (.pr (.int .i64) (.pr (.int .i64) (.int .i64)))
abbrev Sp := Int × Int × Int
abbrev planT : Ty := .st (.pr (.int .i64) (.pr (.int .i64) (.sl spT)))
abbrev Pl := Int × Int × List Sp
abbrev turnT : Ty := .st (.pr planT (.pr listT (.int .i64)))
abbrev Tn := Pl × List Int × Int
def halfF (k : Int) : Int := 2 ^ k.toNat / 2
def logOkF (f k : Int) : Bool := decide (0 < modF f) && (decide (0 ≤ k) && decide (k ≤ 9)) && decide (k ≤ twoF f)
def stepOkF (k : Int) (s : Sp) : Bool := decide (0 ≤ s.1) && decide (s.1 ≤ k - 1) && decide (0 ≤ s.2.1) && decide (s.2.1 < s.2.2) && decide (s.2.2 ≤ halfF k)
/-- How many of the steps do the butterfly 'b' of level 'l'. -/
def cnt (xs : List Sp) (l b : Nat) : Nat := xs.countP (fun s => decide (s.1 = (l : Int) ∧ s.2.1 ≤ (b : Int) ∧ (b : Int) < s.2.2))
/-- The first 'j' steps are well, in order. -/
def StepsP (k : Int) (xs : List Sp) (j : Nat) : Prop := ∀ i, i < j → stepOkF k (xs.getD i (0, 0, 0)) = true ∧ (0 < i → (xs.getD (i - 1) (0, 0, 0)).1 ≤ (xs.getD i (0, 0, 0)).1)
instance decStepsP (k : Int) (xs : List Sp) (j : Nat) : Decidable (StepsP k xs j) := by unfold StepsP; infer_instance
def OnceP (xs : List Sp) (h : Nat) (s : Nat) : Prop := ∀ l, l < s → ∀ b, b < h → cnt xs l b = 1
instance decOnceP (xs : List Sp) (h : Nat) (s : Nat) : Decidable (OnceP xs h s) := by unfold OnceP; infer_instance
def planOkF (p : Pl) : Bool := logOkF p.1 p.2.1 && decide (p.2.2.length ≤ 600) && decide (StepsP p.2.1 p.2.2 p.2.2.length) && decide (OnceP p.2.2 (halfF p.2.1).toNat p.2.1.toNat)
def turnOkF (t : Tn) : Bool := planOkF t.1 && vectorOkF t.1.1 t.2.1 && decide ((t.2.1.length : Int) = 2 ^ t.1.2.1.toNat) && (decide (0 ≤ t.2.2) && decide (t.2.2 ≤ (t.1.2.2.length : Int)))
def costF (s : Sp) : Int := if 0 ≤ s.2.1 ∧ s.2.1 < s.2.2 then w64 (s.2.2 - s.2.1) else 0
def leftGo : List Sp → Int → Int
  | [], n => n
  | s :: xs, n => leftGo xs (w64 (n + w64 (s.2.2 - s.2.1)))
def leftF (t : Tn) : Int := if turnOkF t = true then leftGo (t.1.2.2.drop t.2.2.toNat) 0 else -1
def finF (t : Tn) : List Int × Bool := if turnOkF t = true ∧ (t.1.2.2.length : Int) ≤ t.2.2 then (t.2.1, true) else ([], false)
def fS_l09LogC : PC := { ts := [i64T, i64T], rs := [.bool], pre := fun _ => True, F := fun x => logOkF x.1 x.2 }
def fS_l09RunC : PC := { ts := [i64T, spT], rs := [.bool], pre := fun x => 0 ≤ x.1 ∧ x.1 ≤ 9, F := fun x => stepOkF x.1 x.2 }
def fI_isStepC : PC := { ts := [spT, i64T], rs := [.bool], pre := fun x => 0 ≤ x.2 ∧ x.2 ≤ 9, F := fun x => stepOkF x.2 x.1 }
def fS_PlanOkC : PC := { ts := [planT], rs := [.bool], pre := fun _ => True, F := fun x => planOkF x }
def fI_isPlanC : PC := { ts := [planT], rs := [.bool], pre := fun _ => True, F := fun x => planOkF x }
def fS_TurnerOkC : PC := { ts := [turnT], rs := [.bool], pre := fun _ => True, F := fun x => turnOkF x }
def fI_isTurnerC : PC := { ts := [turnT], rs := [.bool], pre := fun _ => True, F := fun x => turnOkF x }
def fI_TurnerOkC : PC := { ts := [turnT], rs := [.bool], pre := fun _ => True, F := fun x => turnOkF x }
def fS_StepCostC : PC := { ts := [spT], rs := [i64T], pre := fun _ => True, F := fun x => costF x }
def fS_LeftUnitsC : PC := { ts := [turnT], rs := [i64T], pre := fun _ => True, F := fun x => leftF x }
def fI_LeftUnitsC : PC := { ts := [turnT], rs := [i64T], pre := fun _ => True, F := fun x => leftF x }
def fS_l01CopyC : PC := { ts := [listT], rs := [listT], pre := fun x => x.length ≤ 1048576, F := fun x => x }
def fS_FinishedC : PC := { ts := [turnT], rs := [listT, .bool], pre := fun x => x.2.1.length ≤ 1048576, F := fun x => finF x }
def fI_FinishedC : PC := { ts := [turnT], rs := [listT, .bool], pre := fun x => x.2.1.length ≤ 1048576, F := fun x => finF x }
def fL_szStepSC : PC := { ts := [.sl spT, i64T], rs := [i64T], pre := fun _ => True, F := fun x => szF x.1.length x.2 }
def fL_szIntSC : PC := { ts := [listT, i64T], rs := [i64T], pre := fun _ => True, F := fun x => szF x.1.length x.2 }
def fL_szPlanC : PC := { ts := [planT, i64T], rs := [i64T], pre := fun _ => True, F := fun x => szF x.1.2.2.length x.2 }
def szTnF (t : Tn) (n : Int) : Int := if szF t.1.2.2.length n < 0 then -1 else szF t.2.1.length (szF t.1.2.2.length n)
def fL_szTurnerC : PC := { ts := [turnT, i64T], rs := [i64T], pre := fun _ => True, F := fun x => szTnF x.1 x.2 }
def fL_toStepC : PC := { ts := [spT], rs := [spT], pre := fun _ => True, F := fun x => x }
def fL_toStepSC : PC := { ts := [.sl spT], rs := [.sl spT], pre := fun x => x.length ≤ 1048576, F := fun x => x }
def fL_toIntSC : PC := { ts := [listT], rs := [listT], pre := fun x => x.length ≤ 1048576, F := fun x => x }
def fL_toPlanC : PC := { ts := [planT], rs := [planT], pre := fun x => x.2.2.length ≤ 1048576, F := fun x => x }
def fL_toTurnerC : PC := { ts := [turnT], rs := [turnT], pre := fun x => x.1.2.2.length ≤ 1048576 ∧ x.2.1.length ≤ 1048576, F := fun x => x }
def fL_eqStepC : PC := { ts := [spT, spT], rs := [.bool], pre := fun _ => True, F := fun x => decide (x.1 = x.2) }
def fL_eqStepSC : PC := { ts := [.sl spT, .sl spT], rs := [.bool], pre := fun _ => True, F := fun x => decide (x.1 = x.2) }
def fL_eqPlanC : PC := { ts := [planT, planT], rs := [.bool], pre := fun _ => True, F := fun x => decide (x.1 = x.2) }
def fL_eqTurnerC : PC := { ts := [turnT, turnT], rs := [.bool], pre := fun _ => True, F := fun x => decide (x.1 = x.2) }
def aL_toStepS (x : List Sp) := copyA (e := spT) x 3 4 3 5
def aL_toIntS (x : List Int) := copyA (e := i64T) x 3 4 3 5
def aL_eqStepS (x : List Sp × List Sp) := eqA (e := spT) x 4 5 6
/-- What is met on level 'l', of the first 'i' steps. -/
def metL (h : Nat) (xs : List Sp) (l i : Nat) : List Int := (List.range h).map (fun b => ((cnt (xs.take i) l b : Nat) : Int))
/-- The same, and the butterflies 'lo' to 'c' - 1 of one step more. -/
def metM (h : Nat) (xs : List Sp) (l i : Nat) (lo : Int) (c : Nat) : List Int := (List.range h).map (fun b => ((cnt (xs.take i) l b : Nat) : Int) + if lo ≤ (b : Int) ∧ b < c then 1 else 0)
def aS_PlanOk5 (x : Pl) (s i : Nat) : Nat → Option Ann := fun
  | 21 => some (.mk Nat (fun c => (x.2.2.getD i (0, 0, 0)).2.1 ≤ (c : Int) ∧ (c : Int) ≤ (x.2.2.getD i (0, 0, 0)).2.2) (fun st c => ((st.keep 8 []).sets [(8, si c)]).setEs [(1, .row true i64T (metM (halfF x.2.1).toNat x.2.2 s i (x.2.2.getD i (0, 0, 0)).2.1 c))]) (fun c => (x.2.2.getD i (0, 0, 0)).2.2.toNat - c) (x.2.2.getD i (0, 0, 0)).2.1.toNat (fun _ _ => none))
  | 25 => some (.mk Nat (fun b => b ≤ (halfF x.2.1).toNat ∧ ∀ a, a < b → cnt x.2.2 s a = 1) (fun st b => (st.keep 6 []).sets [(9, si b)]) (fun b => (halfF x.2.1).toNat - b) 0 (fun _ _ => none))
  | _ => none
def aS_PlanOk4 (x : Pl) (s : Nat) : Nat → Option Ann := fun
  | 17 => some (.mk Nat (fun i => i ≤ x.2.2.length) (fun st i => ((st.keep 6 []).sets [(7, si i)]).setEs [(1, .row true i64T (metL (halfF x.2.1).toNat x.2.2 s i))]) (fun i => x.2.2.length - i) 0 (fun i => aS_PlanOk5 x s i))
  | _ => none
def aS_PlanOk3 (x : Pl) (s : Nat) : Nat → Option Ann := fun
  | 13 => some (.mk Nat (fun k => (k : Int) ≤ halfF x.2.1) (fun st k => ((st.keep 5 []).sets [(6, si k), (5, .c (.own 1))]).setEs [(1, .row true i64T (List.replicate k 0))]) (fun k => (halfF x.2.1).toNat - k) 0 (fun _ => aS_PlanOk4 x s))
  | _ => none
def aS_PlanOk2 (x : Pl) : Nat → Option Ann := fun
  | 9 => some (.mk Nat (fun s => (s : Int) ≤ x.2.1 ∧ OnceP x.2.2 (halfF x.2.1).toNat s) (fun st s => (st.keep 3 []).sets [(4, si s)]) (fun s => x.2.1.toNat - s) 0 (fun s => aS_PlanOk3 x s))
  | _ => none
def aS_PlanOk (x : Pl) : Nat → Option Ann := fun
  | 4 => some (.mk Nat (fun k => k ≤ x.2.2.length ∧ StepsP x.2.1 x.2.2 k) (fun st k => (st.keep 3 []).sets [(3, si k)]) (fun k => x.2.2.length - k) 0 (fun _ => aS_PlanOk2 x))
  | _ => none
def manyF (xs : List Sp) : Int := (xs.map (fun s => s.2.2 - s.2.1)).sum
def doneL (xs : List Sp) (i : Nat) : List Bool := (List.range 4608).map (fun q => decide (1 ≤ cnt (xs.take i) (q / 512) (q % 512)))
def doneM (xs : List Sp) (i c : Nat) : List Bool := (List.range 4608).map (fun q => decide (1 ≤ cnt (xs.take i) (q / 512) (q % 512)) || decide ((xs.getD i (0, 0, 0)).1 = ((q / 512 : Nat) : Int) ∧ (xs.getD i (0, 0, 0)).2.1 ≤ ((q % 512 : Nat) : Int) ∧ q % 512 < c))
def MostP (xs : List Sp) (i : Nat) : Prop := ∀ l b, cnt (xs.take i) l b ≤ 1
def FreeP (xs : List Sp) (i c : Nat) : Prop := ∀ b : Nat, (xs.getD i (0, 0, 0)).2.1 ≤ (b : Int) → b < c → cnt (xs.take i) (xs.getD i (0, 0, 0)).1.toNat b = 0
def aI_isPlan2 (x : Pl) (i : Nat) : Nat → Option Ann := fun
  | 12 => some (.mk Nat (fun c => (x.2.2.getD i (0, 0, 0)).2.1 ≤ (c : Int) ∧ (c : Int) ≤ (x.2.2.getD i (0, 0, 0)).2.2 ∧ FreeP x.2.2 i c) (fun st c => ((st.keep 9 [39, 40, 41]).sets [(9, si c), (6, si (manyF (x.2.2.take i) + ((c : Int) - (x.2.2.getD i (0, 0, 0)).2.1)))]).setEs [(2, .row true .bool (doneM x.2.2 i c))]) (fun c => (x.2.2.getD i (0, 0, 0)).2.2.toNat - c) (x.2.2.getD i (0, 0, 0)).2.1.toNat (fun _ _ => none))
  | _ => none
def aI_isPlan (x : Pl) : Nat → Option Ann := fun
  | 7 => some (.mk Nat (fun i => i ≤ x.2.2.length ∧ StepsP x.2.1 x.2.2 i ∧ MostP x.2.2 i) (fun st i => ((st.keep 6 [39, 40]).sets [(6, si (manyF (x.2.2.take i))), (41, si i)]).setEs [(2, .row true .bool (doneL x.2.2 i))]) (fun i => x.2.2.length - i) 0 (fun i => aI_isPlan2 x i))
  | _ => none
def aS_LeftUnits (x : Tn) : Nat → Option Ann := fun
  | 5 => some (.mk (Nat × Int) (fun k => x.2.2 ≤ (k.1 : Int) ∧ k.1 ≤ x.1.2.2.length ∧ leftGo (x.1.2.2.drop k.1) k.2 = leftGo (x.1.2.2.drop x.2.2.toNat) 0) (fun st k => (st.keep 3 []).sets [(4, si k.1), (3, si k.2)]) (fun k => x.1.2.2.length - k.1) (x.2.2.toNat, 0) (fun _ _ => none))
  | _ => none
def aI_LeftUnits (x : Tn) : Nat → Option Ann := fun
  | 5 => some (.mk (Nat × Int) (fun k => k.1 ≤ (x.1.2.2.drop x.2.2.toNat).length ∧ leftGo ((x.1.2.2.drop x.2.2.toNat).drop k.1) k.2 = leftGo (x.1.2.2.drop x.2.2.toNat) 0) (fun st k => (st.keep 3 [14, 15]).sets [(16, si k.1), (3, si k.2)]) (fun k => (x.1.2.2.drop x.2.2.toNat).length - k.1) (0, 0) (fun _ _ => none))
  | _ => none
def aS_l01Copy (x : List Int) : Nat → Option Ann := fun
  | 3 => some (.mk Nat (fun k => k ≤ x.length) (fun st k => ((st.keep 3 []).sets [(4, si k), (3, .c (.own 0))]).setEs [(0, .row true i64T (x.take k))]) (fun k => x.length - k) 0 (fun _ _ => none))
  | _ => none
end Go.SF


/- Contracts: turners that are begun and done, and their marks. No condition. -/
namespace Go.SF
open Go.SX Go
set_option linter.unusedVariables false
/-- The first 'j' bits of a number, the other way round. -/
def rev (x : Nat) : Nat → Nat
  | 0 => 0
  | j + 1 => 2 * rev x j + x / 2 ^ j % 2
def permL (v : List Int) (n : Nat) : List Int := (List.range n).map (fun i => v.getD (rev i (logF v.length).toNat) 0)
def permF (v : List Int) : List Int := if 0 ≤ logF v.length then permL v v.length else []
def permM (v : List Int) (n : Nat) : List Int := (List.range v.length).map (fun i => if rev i (logF v.length).toNat < n then v.getD (rev i (logF v.length).toNat) 0 else 0)
def startF (p : Pl) (v : List Int) : Tn × Bool := if turnOkF (p, permF v, 0) = true then ((p, permF v, 0), true) else (((0, 0, []), [], 0), false)
def heldTn (t : Tn) (k : Int) : Int := if neg1 (held3 t.1.2.2 k) < 0 then -1 else neg1 (held1 t.2.1 (neg1 (held3 t.1.2.2 k)))
def fS_ReverseC : PC := { ts := [i64T, i64T], rs := [i64T], pre := fun x => (0 ≤ x.2 ∧ x.2 ≤ 9) ∧ 0 ≤ x.1 ∧ x.1 < 2 ^ x.2.toNat, F := fun x => ((rev x.1.toNat x.2.toNat : Nat) : Int) }
def fI_reversedC : PC := { ts := [i64T, i64T], rs := [i64T], pre := fun x => (0 ≤ x.2 ∧ x.2 ≤ 9) ∧ 0 ≤ x.1 ∧ x.1 < 2 ^ x.2.toNat, F := fun x => ((rev x.1.toNat x.2.toNat : Nat) : Int) }
def fS_PermuteC : PC := { ts := [listT], rs := [listT], pre := fun _ => True, F := fun x => permF x }
def fI_permutedC : PC := { ts := [listT], rs := [listT], pre := fun x => 0 ≤ logF x.length, F := fun x => permF x }
def fS_l09StepsC : PC := { ts := [.sl spT], rs := [.sl spT], pre := fun x => x.length ≤ 1048576, F := fun x => x }
def fS_l15PlanC : PC := { ts := [planT], rs := [planT], pre := fun x => x.2.2.length ≤ 1048576, F := fun x => x }
def fI_copyTurnerC : PC := { ts := [turnT], rs := [turnT], pre := fun x => x.1.2.2.length ≤ 1048576 ∧ x.2.1.length ≤ 1048576, F := fun x => x }
def fS_StartTurnerC : PC := { ts := [planT, listT], rs := [turnT, .bool], pre := fun x => x.1.2.2.length ≤ 1048576, F := fun x => startF x.1 x.2 }
def fI_StartTurnerC : PC := { ts := [planT, listT], rs := [turnT, .bool], pre := fun x => x.1.2.2.length ≤ 1048576 ∧ x.2.length ≤ 1048576, F := fun x => startF x.1 x.2 }
def fL_markStepSC : MC := { t := .sl spT, pre := fun _ _ => True, F := fun x k => end3 x k, G := fun x k => mark3 x k }
def fL_heldStepSC : PC := { ts := [.sl spT, i64T], rs := [i64T], pre := fun _ => True, F := fun x => held3 x.1 x.2 }
def fL_markPlanC : MC := { t := planT, pre := fun _ _ => True, F := fun x k => end3 x.2.2 k, G := fun x k => (x.1, x.2.1, mark3 x.2.2 k) }
def fL_heldPlanC : PC := { ts := [planT, i64T], rs := [i64T], pre := fun _ => True, F := fun x => neg1 (held3 x.1.2.2 x.2) }
def fL_markTurnerC : MC := { t := turnT, pre := fun _ _ => True, F := fun x k => end1 x.2.1 (end3 x.1.2.2 k), G := fun x k => ((x.1.1, x.1.2.1, mark3 x.1.2.2 k), mark1 x.2.1 (end3 x.1.2.2 k), x.2.2) }
def fL_heldTurnerC : PC := { ts := [turnT, i64T], rs := [i64T], pre := fun _ => True, F := fun x => heldTn x.1 x.2 }
def aL_markStepS (x : List Sp) (k : Int) := markA (e := spT) mark3 end3 x k
def aL_heldStepS (x : List Sp × Int) := heldA (e := spT) held3 x
def aS_l09Steps (x : List Sp) : Nat → Option Ann := fun
  | 3 => some (.mk Nat (fun k => k ≤ x.length) (fun st k => ((st.keep 3 []).sets [(4, si k), (3, .c (.own 0))]).setEs [(0, .row true spT (x.take k))]) (fun k => x.length - k) 0 (fun _ _ => none))
  | _ => none
def aS_Permute (x : List Int) : Nat → Option Ann := fun
  | 6 => some (.mk Nat (fun k => k ≤ x.length) (fun st k => ((st.keep 5 []).sets [(5, si k), (3, .c (.own 0))]).setEs [(0, .row true i64T (permL x k))]) (fun k => x.length - k) 0 (fun _ _ => none))
  | _ => none
def aI_permuted (x : List Int) : Nat → Option Ann := fun
  | 4 => some (.mk Nat (fun k => k ≤ x.length) (fun st k => ((st.keep 5 [13, 14]).sets [(15, si k)]).setEs [(0, .row true i64T (permM x k))]) (fun k => x.length - k) 0 (fun _ _ => none))
  | _ => none
def aS_Reverse (x : Int × Int) : Nat → Option Ann := fun
  | 5 => some (.mk Nat (fun i => (i : Int) ≤ x.2) (fun st i => (st.keep 5 []).sets [(6, si i), (5, si ((2 ^ (x.2.toNat - i) * rev x.1.toNat i : Nat) : Int))]) (fun i => x.2.toNat - i) 0 (fun _ _ => none))
  | _ => none
def aI_reversed (x : Int × Int) : Nat → Option Ann := fun
  | 3 => some (.mk Nat (fun j => (j : Int) ≤ x.2) (fun st j => (st.keep 5 [6]).sets [(0, si ((x.1.toNat / 2 ^ j : Nat) : Int)), (5, si ((rev x.1.toNat j : Nat) : Int)), (7, si j)]) (fun j => x.2.toNat - j) 0 (fun _ _ => none))
  | _ => none
end Go.SF


/- Contracts: points, and their weights. No condition. -/
namespace Go.SF
open Go.SX Go
set_option linter.unusedVariables false
def hasF (l : List Int) (x : Int) : Bool := decide (x ∈ l)
def pointsF (f : Int) (xs : List Int) : Bool := decide (1 ≤ xs.length) && decide (xs.length ≤ 40) && specElemsF f xs && decide xs.Nodup
def ptF (f : Int) (xs : List Int) : Fd × Bool := if pointsF f xs = true then ((fieldF f).1, true) else ((0, 0, 0), false)
/-- The product of the differences of a point and the first 'n' ones, itself left out. -/
def byF (p : Int) (xs : List Int) (i : Nat) : Nat → Int
  | 0 => 1
  | n + 1 => if n = i then byF p xs i n else mulM p (byF p xs i n) (subM p (xs.getD i 0) (xs.getD n 0))
def wtF (p : Int) (xs : List Int) (i : Nat) : Int := invM p (byF p xs i xs.length)
def wtsL (p : Int) (xs : List Int) (n : Nat) : List Int := (List.range n).map (wtF p xs)
def weightsF (f : Int) (xs : List Int) : List Int := if pointsF f xs = true then wtsL (modF f) xs xs.length else []
def fS_l01HasC : PC := { ts := [listT, i64T], rs := [.bool], pre := fun _ => True, F := fun x => hasF x.1 x.2 }
def fS_PointsOkC : PC := { ts := [i64T, listT], rs := [.bool], pre := fun _ => True, F := fun x => pointsF x.1 x.2 }
def fI_pointFieldC : PC := { ts := [i64T, listT], rs := [fldT, .bool], pre := fun _ => True, F := fun x => ptF x.1 x.2 }
def fI_weightC : PC := { ts := [fldT, listT, i64T], rs := [i64T], pre := fun x => IsMod x.1.1 ∧ elemsF x.1.1 x.2.1 = true ∧ 0 ≤ x.2.2 ∧ x.2.2 < x.2.1.length, F := fun x => wtF x.1.1 x.2.1 x.2.2.toNat }
def fS_WeightsC : PC := { ts := [i64T, listT], rs := [listT], pre := fun _ => True, F := fun x => weightsF x.1 x.2 }
def fI_WeightsC : PC := { ts := [i64T, listT], rs := [listT], pre := fun _ => True, F := fun x => weightsF x.1 x.2 }
def aS_l01Has (x : List Int × Int) : Nat → Option Ann := fun
  | 2 => some (.mk Nat (fun k => k ≤ x.1.length ∧ x.2 ∉ x.1.take k) (fun st k => (st.keep 5 []).sets [(5, si k)]) (fun k => x.1.length - k) 0 (fun _ _ => none))
  | _ => none
def aS_PointsOk (x : Int × List Int) : Nat → Option Ann := fun
  | 4 => some (.mk Nat (fun k => k ≤ x.2.length ∧ (x.2.take k).Nodup) (fun st k => (st.keep 5 []).sets [(5, si k)]) (fun k => x.2.length - k) 0 (fun _ _ => none))
  | _ => none
def aI_pointField (x : Int × List Int) : Nat → Option Ann := fun
  | 5 => some (.mk Nat (fun k => k ≤ x.2.length ∧ (x.2.take k).Nodup) (fun st k => (st.keep 8 [36, 37]).sets [(38, si k)]) (fun k => x.2.length - k) 0 (fun i => fun
    | 8 => some (.mk Nat (fun j => j ≤ i ∧ x.2.getD i 0 ∉ x.2.take j) (fun st j => (st.keep 11 [36, 37, 38, 45, 46]).sets [(47, si j)]) (fun j => i - j) 0 (fun _ _ => none))
    | _ => none))
  | _ => none
def aS_Weights (x : Int × List Int) : Nat → Option Ann := fun
  | 5 => some (.mk Nat (fun k => k ≤ x.2.length) (fun st k => ((st.keep 5 []).sets [(5, .c (.own 0)), (6, si k)]).setEs [(0, .row true i64T (wtsL (modF x.1) x.2 k))]) (fun k => x.2.length - k) 0 (fun i => fun
    | 9 => some (.mk Nat (fun j => j ≤ x.2.length) (fun st j => (st.keep 7 []).sets [(7, si (byF (modF x.1) x.2 i j)), (8, si j)]) (fun j => x.2.length - j) 0 (fun _ _ => none))
    | _ => none))
  | _ => none
def aI_weight (x : Fd × List Int × Int) : Nat → Option Ann := fun
  | 3 => some (.mk Nat (fun j => j ≤ x.2.1.length) (fun st j => (st.keep 7 [10, 11]).sets [(7, si (byF x.1.1 x.2.1 x.2.2.toNat j)), (12, si j)]) (fun j => x.2.1.length - j) 0 (fun _ _ => none))
  | _ => none
def aI_Weights (x : Int × List Int) : Nat → Option Ann := fun
  | 6 => some (.mk Nat (fun k => k ≤ x.2.length) (fun st k => ((st.keep 7 [18, 19]).sets [(7, .c (.own 1)), (20, si k)]).setEs [(1, .row true i64T (wtsL (modF x.1) x.2 k))]) (fun k => x.2.length - k) 0 (fun _ _ => none))
  | _ => none
end Go.SF


/- Contracts: polynomials as lists of coefficients. No condition. -/
namespace Go.SF
open Go.SX Go
set_option linter.unusedVariables false
/-- How many of the first 'n' numbers are left without the zeros at the end. -/
def cutN (l : List Int) : Nat → Nat
  | 0 => 0
  | n + 1 => if l.getD n 0 = 0 then cutN l n else n + 1
def cutF (l : List Int) : Nat := cutN l l.length
def trimF (l : List Int) : List Int := l.take (cutF l)
def topB (l : List Int) : Bool := decide (cutF l = l.length)
def polyB (f : Int) (a : List Int) : Bool := decide (a.length ≤ 400) && specElemsF f a && topB a
def atF (l : List Int) (i : Int) : Int := if 0 ≤ i then l.getD i.toNat 0 else 0
def addLn (p : Int) (a b : List Int) (n : Nat) : List Int := (List.range n).map (fun i => addM p (a.getD i 0) (b.getD i 0))
def addP (p : Int) (a b : List Int) : List Int := trimF (addLn p a b (max a.length b.length))
def scLn (p : Int) (a : List Int) (c : Int) (n : Nat) : List Int := (List.range n).map (fun i => mulM p (a.getD i 0) c)
def scaleP (p : Int) (a : List Int) (c : Int) : List Int := trimF (scLn p a c a.length)
/-- The sum of the first 'j' products of a coefficient. -/
def psum (p : Int) (a b : List Int) (i : Nat) : Nat → Int
  | 0 => 0
  | j + 1 => if i - j < b.length then (psum p a b i j + a.getD j 0 * b.getD (i - j) 0) % p else psum p a b i j
def mulLn (p : Int) (a b : List Int) (n : Nat) : List Int := (List.range n).map (fun i => psum p a b i (min (i + 1) a.length))
def mulP (p : Int) (a b : List Int) : List Int := if a.length = 0 ∨ b.length = 0 then [] else trimF (mulLn p a b (a.length + b.length - 1))
def addPS (f : Int) (a b : List Int) : List Int := if (polyB f a && polyB f b) = true then addP (modF f) a b else []
def scalePS (f : Int) (a : List Int) (c : Int) : List Int := if polyB f a = true then scaleP (modF f) a c else []
def fS_l03CutC : PC := { ts := [listT], rs := [listT], pre := fun x => x.length ≤ 1048576, F := fun x => trimF x }
def fS_PolyOkC : PC := { ts := [i64T, listT], rs := [.bool], pre := fun _ => True, F := fun x => polyB x.1 x.2 }
def fS_l03AtC : PC := { ts := [listT, i64T], rs := [i64T], pre := fun _ => True, F := fun x => atF x.1 x.2 }
def fS_AddPolyC : PC := { ts := [i64T, listT, listT], rs := [listT], pre := fun _ => True, F := fun x => addPS x.1 x.2.1 x.2.2 }
def fS_ScalePolyC : PC := { ts := [i64T, listT, i64T], rs := [listT], pre := fun _ => True, F := fun x => scalePS x.1 x.2.1 x.2.2 }
def fS_l03MulC : PC := { ts := [i64T, listT, listT], rs := [listT], pre := fun x => specElemsF x.1 x.2.1 = true ∧ specElemsF x.1 x.2.2 = true ∧ x.2.1.length ≤ 1000 ∧ x.2.2.length ≤ 1000, F := fun x => mulP (modF x.1) x.2.1 x.2.2 }
def fI_trimmedC : CC := { e := i64T, F := fun l => cutF l }
def fI_coefficientC : PC := { ts := [listT, i64T], rs := [i64T], pre := fun x => 0 ≤ x.2, F := fun x => atF x.1 x.2 }
def fI_addPolyC : PC := { ts := [fldT, listT, listT], rs := [listT], pre := fun x => IsMod x.1.1 ∧ elemsF x.1.1 x.2.1 = true ∧ elemsF x.1.1 x.2.2 = true ∧ x.2.1.length ≤ 1000 ∧ x.2.2.length ≤ 1000, F := fun x => addP x.1.1 x.2.1 x.2.2 }
def fI_scalePolyC : PC := { ts := [fldT, listT, i64T], rs := [listT], pre := fun x => IsMod x.1.1 ∧ elemsF x.1.1 x.2.1 = true ∧ El x.1.1 x.2.2 ∧ x.2.1.length ≤ 1000, F := fun x => scaleP x.1.1 x.2.1 x.2.2 }
def fI_mulPolyC : PC := { ts := [fldT, listT, listT], rs := [listT], pre := fun x => IsMod x.1.1 ∧ elemsF x.1.1 x.2.1 = true ∧ elemsF x.1.1 x.2.2 = true ∧ x.2.1.length ≤ 1000 ∧ x.2.2.length ≤ 1000, F := fun x => mulP x.1.1 x.2.1 x.2.2 }
def CutJ (l : List Int) (k : Nat) : Prop := k ≤ l.length ∧ cutN l k = cutF l
def aS_l03Cut (x : List Int) : Nat → Option Ann := fun
  | 2 => some (.mk Nat (fun k => CutJ x k) (fun st k => (st.keep 3 []).sets [(3, si k)]) (fun k => k) x.length (fun _ _ => none))
  | _ => none
def aS_AddPoly (x : Int × List Int × List Int) : Nat → Option Ann := fun
  | 5 => some (.mk Nat (fun k => k ≤ max x.2.1.length x.2.2.length) (fun st k => ((st.keep 7 []).sets [(7, .c (.own 0)), (8, si k)]).setEs [(0, .row true i64T (addLn (modF x.1) x.2.1 x.2.2 k))]) (fun k => max x.2.1.length x.2.2.length - k) 0 (fun _ _ => none))
  | _ => none
def aS_ScalePoly (x : Int × List Int × Int) : Nat → Option Ann := fun
  | 5 => some (.mk Nat (fun k => k ≤ x.2.1.length) (fun st k => ((st.keep 7 []).sets [(7, .c (.own 0)), (8, si k)]).setEs [(0, .row true i64T (scLn (modF x.1) x.2.1 x.2.2 k))]) (fun k => x.2.1.length - k) 0 (fun _ _ => none))
  | _ => none
def aS_l03Mul (x : Int × List Int × List Int) : Nat → Option Ann := fun
  | 6 => some (.mk Nat (fun k => k ≤ x.2.1.length + x.2.2.length - 1) (fun st k => ((st.keep 8 []).sets [(8, .c (.own 0)), (9, si k)]).setEs [(0, .row true i64T (mulLn (modF x.1) x.2.1 x.2.2 k))]) (fun k => x.2.1.length + x.2.2.length - 1 - k) 0 (fun i => fun
    | 10 => some (.mk Nat (fun j => j ≤ min (i + 1) x.2.1.length) (fun st j => (st.keep 10 []).sets [(10, si (psum (modF x.1) x.2.1 x.2.2 i j)), (11, si j)]) (fun j => min (i + 1) x.2.1.length - j) 0 (fun _ _ => none))
    | _ => none))
  | _ => none
def aI_trimmed (x : List Int) : Nat → Option Ann := fun
  | 1 => some (.mk Nat (fun k => CutJ x k) (fun st k => (st.keep 3 []).sets [(0, .c (.pre 0 k))]) (fun k => k) x.length (fun _ _ => none))
  | _ => none
def aI_addPoly (x : Fd × List Int × List Int) : Nat → Option Ann := fun
  | 3 => some (.mk Nat (fun k => k ≤ max x.2.1.length x.2.2.length) (fun st k => ((st.keep 7 [14]).sets [(7, .c (.own 1)), (15, si k)]).setEs [(1, .row true i64T (addLn x.1.1 x.2.1 x.2.2 k))]) (fun k => max x.2.1.length x.2.2.length - k) 0 (fun _ _ => none))
  | _ => none
def aI_scalePoly (x : Fd × List Int × Int) : Nat → Option Ann := fun
  | 3 => some (.mk Nat (fun k => k ≤ x.2.1.length) (fun st k => ((st.keep 7 [11, 12]).sets [(7, .c (.own 1)), (13, si k)]).setEs [(1, .row true i64T (scLn x.1.1 x.2.1 x.2.2 k))]) (fun k => x.2.1.length - k) 0 (fun _ _ => none))
  | _ => none
/-- A product, its first 'x' rows and 'y' places of the next one done. -/
def mulRow (p : Int) (a b : List Int) (x y : Nat) : List Int := (List.range (a.length + b.length - 1)).map (fun t => if x ≤ t ∧ t < x + y then psum p a b t (x + 1) else psum p a b t (min x (t + 1)))
def aI_mulPoly (x : Fd × List Int × List Int) : Nat → Option Ann := fun
  | 5 => some (.mk Nat (fun k => k ≤ x.2.1.length) (fun st k => ((st.keep 8 [27, 28]).sets [(7, .c (.own 1)), (29, si k)]).setEs [(1, .row true i64T (mulRow x.1.1 x.2.1 x.2.2 k 0))]) (fun k => x.2.1.length - k) 0 (fun i => fun
    | 8 => some (.mk Nat (fun j => j ≤ x.2.2.length) (fun st j => ((st.keep 10 [27, 28, 29, 34, 35]).sets [(7, .c (.own 1)), (36, si j)]).setEs [(1, .row true i64T (mulRow x.1.1 x.2.1 x.2.2 i j))]) (fun j => x.2.2.length - j) 0 (fun _ _ => none))
    | _ => none))
  | _ => none
end Go.SF


/- Contracts: polynomials through points, and their values. No condition. -/
namespace Go.SF
open Go.SX Go
set_option linter.unusedVariables false
/-- The product of the first 'n' linear factors. -/
def vanL (p : Int) (xs : List Int) : Nat → List Int
  | 0 => [1]
  | n + 1 => mulP p (vanL p xs n) [subM p 0 (xs.getD n 0), 1]
def vanF (p : Int) (xs : List Int) : List Int := vanL p xs xs.length
/-- The first 'n' points, but for one. -/
def othL (xs : List Int) (i : Nat) : Nat → List Int
  | 0 => []
  | n + 1 => if n = i then othL xs i n else othL xs i n ++ [xs.getD n 0]
def thrL (p : Int) (xs ys : List Int) : Nat → List Int
  | 0 => []
  | n + 1 => addP p (thrL p xs ys n) (scaleP p (vanF p (othL xs n xs.length)) (mulM p (ys.getD n 0) (wtF p xs n)))
def thrF (p : Int) (xs ys : List Int) : List Int := thrL p xs ys xs.length
/-- The quotient by a linear factor, from the top down. -/
def qsF (p r : Int) (a : List Int) : Nat → Int
  | 0 => 0
  | k + 1 => subM p (a.getD (a.length - 1 - k) 0) (mulM p (qsF p r a k) r)
def quoF (p r : Int) (a : List Int) : List Int := (List.range (a.length - 1)).map (fun i => qsF p r a (a.length - 1 - i))
def divF (p : Int) (a b : List Int) : List Int × List Int := (quoF p (b.getD 0 0) a, trimF [qsF p (b.getD 0 0) a a.length])
def interF (f : Int) (xs ys : List Int) : List Int × Bool := if (pointsF f xs && decide (ys.length = xs.length) && specElemsF f ys) = true then (thrF (modF f) xs ys, true) else ([], false)
def evF (p : Int) (a : List Int) (x : Int) : Nat → Int
  | 0 => 0
  | n + 1 => addM p (evF p a x n) (mulM p (a.getD n 0) (powM p x n))
def evP (p : Int) (a : List Int) (x : Int) : Int := evF p a x a.length
def evS (f : Int) (a : List Int) (x : Int) : Int := if polyB f a = true then evP (modF f) a x else -1
def extF (f : Int) (xs ys : List Int) (x : Int) : Int := if ((interF f xs ys).2 && decide (0 ≤ x ∧ x < modF f)) = true then evP (modF f) (thrF (modF f) xs ys) x else -1
def fS_l07VanishC : PC := { ts := [i64T, listT], rs := [listT], pre := fun x => specElemsF x.1 x.2 = true ∧ x.2.length ≤ 40, F := fun x => vanF (modF x.1) x.2 }
def fI_vanishC : PC := { ts := [fldT, listT], rs := [listT], pre := fun x => IsMod x.1.1 ∧ elemsF x.1.1 x.2 = true ∧ x.2.length ≤ 40, F := fun x => vanF x.1.1 x.2 }
def LinB (p : Int) (b : List Int) : Prop := b.length = 2 ∧ b.getD 1 0 = 1 ∧ El p (b.getD 0 0)
def fI_divModC : PC := { ts := [fldT, listT, listT], rs := [listT, listT], pre := fun x => IsMod x.1.1 ∧ elemsF x.1.1 x.2.1 = true ∧ 2 ≤ x.2.1.length ∧ x.2.1.length ≤ 1000 ∧ LinB x.1.1 x.2.2, F := fun x => divF x.1.1 x.2.1 x.2.2 }
def fS_l07ThroughC : PC := { ts := [i64T, listT, listT], rs := [listT], pre := fun x => pointsF x.1 x.2.1 = true ∧ x.2.2.length = x.2.1.length, F := fun x => thrF (modF x.1) x.2.1 x.2.2 }
def fI_throughC : PC := { ts := [fldT, listT, listT], rs := [listT], pre := fun x => (∃ f, pointsF f x.2.1 = true ∧ modF f = x.1.1) ∧ elemsF x.1.1 x.2.2 = true ∧ x.2.2.length = x.2.1.length, F := fun x => thrF x.1.1 x.2.1 x.2.2 }
def fS_InterpolateC : PC := { ts := [i64T, listT, listT], rs := [listT, .bool], pre := fun _ => True, F := fun x => interF x.1 x.2.1 x.2.2 }
def fI_interpolateC : PC := { ts := [i64T, listT, listT], rs := [listT, .bool], pre := fun _ => True, F := fun x => interF x.1 x.2.1 x.2.2 }
def fI_InterpolateC : PC := { ts := [i64T, listT, listT], rs := [listT, .bool], pre := fun _ => True, F := fun x => interF x.1 x.2.1 x.2.2 }
def fS_EvalPolyC : PC := { ts := [i64T, listT, i64T], rs := [i64T], pre := fun _ => True, F := fun x => evS x.1 x.2.1 x.2.2 }
def fI_evalC : PC := { ts := [fldT, listT, i64T], rs := [i64T], pre := fun x => IsMod x.1.1 ∧ elemsF x.1.1 x.2.1 = true ∧ El x.1.1 x.2.2, F := fun x => evP x.1.1 x.2.1 x.2.2 }
def fS_ExtendC : PC := { ts := [i64T, listT, listT, i64T], rs := [i64T], pre := fun _ => True, F := fun x => extF x.1 x.2.1 x.2.2.1 x.2.2.2 }
def fI_ExtendC : PC := { ts := [i64T, listT, listT, i64T], rs := [i64T], pre := fun _ => True, F := fun x => extF x.1 x.2.1 x.2.2.1 x.2.2.2 }
def aS_l07Vanish (x : Int × List Int) : Nat → Option Ann := fun
  | 3 => some (.mk Nat (fun k => k ≤ x.2.length) (fun st k => ((st.keep 5 []).sets [(5, .c (.own 0)), (6, si k)]).setEs [(0, .row true i64T (vanL (modF x.1) x.2 k))]) (fun k => x.2.length - k) 0 (fun _ _ => none))
  | _ => none
def aI_vanish (x : Fd × List Int) : Nat → Option Ann := fun
  | 3 => some (.mk Nat (fun k => k ≤ x.2.length) (fun st k => ((st.keep 5 [9, 10]).sets [(5, .c (.own 1)), (11, si k)]).setEs [(1, .row true i64T (vanL x.1.1 x.2 k))]) (fun k => x.2.length - k) 0 (fun _ _ => none))
  | _ => none
/-- What is left of the dividend, and the quotient, after 'k' steps. -/
def leftL (p r : Int) (a : List Int) (k : Nat) : List Int := (List.range a.length).map (fun t => if t + k < a.length - 1 then a.getD t 0 else if t + k = a.length - 1 then qsF p r a (k + 1) else 0)
def leftJ (p r : Int) (a : List Int) (k j : Nat) : List Int := if j = 0 then leftL p r a k else if j = 1 then (leftL p r a k).set (a.length - 2 - k) (qsF p r a (k + 2)) else leftL p r a (k + 1)
def quoL (p r : Int) (a : List Int) (k : Nat) : List Int := (List.range (a.length - 1)).map (fun t => if a.length - 1 ≤ t + k then qsF p r a (a.length - 1 - t) else 0)
def aI_divMod (x : Fd × List Int × List Int) : Nat → Option Ann := fun
  | 7 => some (.mk Nat (fun k => k ≤ x.2.1.length - 1) (fun st k => ((st.keep 11 []).sets [(11, si ((x.2.1.length : Int) - 2 - k))]).setEs [(1, .row true i64T (leftL x.1.1 (x.2.2.getD 0 0) x.2.1 k)), (2, .row true i64T (quoL x.1.1 (x.2.2.getD 0 0) x.2.1 k))]) (fun k => x.2.1.length - 1 - k) 0 (fun k => fun
    | 13 => some (.mk Nat (fun j => j ≤ 2) (fun st j => ((st.keep 13 [63, 64]).sets [(65, si j)]).setEs [(1, .row true i64T (leftJ x.1.1 (x.2.2.getD 0 0) x.2.1 k j)), (2, .row true i64T (quoL x.1.1 (x.2.2.getD 0 0) x.2.1 (k + 1)))]) (fun j => 2 - j) 0 (fun _ _ => none))
    | _ => none))
  | _ => none
def aS_l07Through (x : Int × List Int × List Int) : Nat → Option Ann := fun
  | 3 => some (.mk Nat (fun k => k ≤ x.2.1.length) (fun st k => ((st.keep 7 []).sets [(7, .c (.own 0)), (8, si k)]).setEs [(0, .row true i64T (thrL (modF x.1) x.2.1 x.2.2 k))]) (fun k => x.2.1.length - k) 0 (fun i => fun
    | 8 => some (.mk Nat (fun j => j ≤ x.2.1.length) (fun st j => ((st.keep 9 []).sets [(9, .c (.own 1)), (10, si (byF (modF x.1) x.2.1 i j)), (11, si j)]).setEs [(1, .row true i64T (othL x.2.1 i j))]) (fun j => x.2.1.length - j) 0 (fun _ _ => none))
    | _ => none))
  | _ => none
def aI_through (x : Fd × List Int × List Int) : Nat → Option Ann := fun
  | 4 => some (.mk Nat (fun k => k ≤ x.2.1.length) (fun st k => ((st.keep 8 [17, 18]).sets [(8, .c (.own 2)), (19, si k)]).setEs [(2, .row true i64T (thrL x.1.1 x.2.1 x.2.2 k))]) (fun k => x.2.1.length - k) 0 (fun _ _ => none))
  | _ => none
def aS_EvalPoly (x : Int × List Int × Int) : Nat → Option Ann := fun
  | 5 => some (.mk Nat (fun k => k ≤ x.2.1.length) (fun st k => (st.keep 7 []).sets [(7, si (evF (modF x.1) x.2.1 x.2.2 k)), (8, si k)]) (fun k => x.2.1.length - k) 0 (fun _ _ => none))
  | _ => none
def HornJ (p : Int) (a : List Int) (x : Int) (t : Nat × Int) : Prop := t.1 ≤ a.length ∧ El p t.2 ∧ (t.2 * x ^ t.1 + evF p a x t.1) % p = evP p a x
def aI_eval (x : Fd × List Int × Int) : Nat → Option Ann := fun
  | 3 => some (.mk (Nat × Int) (fun t => HornJ x.1.1 x.2.1 x.2.2 t) (fun st t => (st.keep 7 []).sets [(7, si t.2), (8, si ((t.1 : Int) - 1))]) (fun t => t.1) (x.2.1.length, 0) (fun _ _ => none))
  | _ => none
end Go.SF


/- Contracts: turners that go on. No condition. -/
namespace Go.SF
open Go.SX Go
set_option linter.unusedVariables false
def genF (f : Int) : Int := (fieldF f).1.2.1
def rootS (f k : Int) : Int := if modF f ≠ 0 ∧ 0 ≤ k ∧ k ≤ twoF f then powP (modF f) (genF f) ((modF f - 1) / 2 ^ k.toNat) else -1
def rootI (d : Fd) (k : Int) : Int := powM d.1 d.2.1 ((d.1 - 1) / 2 ^ k.toNat).toNat
/-- The power of the root of a level. -/
def twF (d : Fd) (l j : Nat) : Int := powM d.1 d.2.1 ((d.1 - 1).toNat / 2 ^ (l + 1) * j)
def bOf (l t : Nat) : Nat := t / (2 * 2 ^ l) * 2 ^ l + t % 2 ^ l
def stgAt (d : Fd) (v : List Int) (l t : Nat) : Int :=
  if t % (2 * 2 ^ l) < 2 ^ l then addM d.1 (v.getD t 0) (mulM d.1 (v.getD (t + 2 ^ l) 0) (twF d l (t % 2 ^ l)))
  else subM d.1 (v.getD (t - 2 ^ l) 0) (mulM d.1 (v.getD t 0) (twF d l (t % 2 ^ l)))
/-- A vector, its butterflies from 'lo' to 'B' done. -/
def rgL (d : Fd) (v : List Int) (l lo B : Nat) : List Int := (List.range v.length).map (fun t => if lo ≤ bOf l t ∧ bOf l t < B then stgAt d v l t else v.getD t 0)
def stgS (f : Int) (v : List Int) (s : Int) : List Int := if (vectorOkF f v && decide (0 ≤ s ∧ s ≤ logF v.length - 1)) = true then rgL (fieldF f).1 v s.toNat 0 (v.length / 2) else []
def runD (d : Fd) (v : List Int) (s : Sp) : List Int := rgL d v s.1.toNat s.2.1.toNat s.2.2.toNat
def runS (f : Int) (v : List Int) (s : Sp) : List Int × Bool := if (vectorOkF f v && stepOkF (logF v.length) s) = true then (runD (fieldF f).1 v s, true) else ([], false)
def advGo (d : Fd) (xs : List Sp) (units : Int) : Nat → List Int → Nat → Int → List Int × Nat × Int
  | 0, v, n, u => (v, n, u)
  | k + 1, v, n, u => if n < xs.length ∧ (xs.getD n (0, 0, 0)).2.2 - (xs.getD n (0, 0, 0)).2.1 ≤ units - u then advGo d xs units k (runD d v (xs.getD n (0, 0, 0))) (n + 1) (u + ((xs.getD n (0, 0, 0)).2.2 - (xs.getD n (0, 0, 0)).2.1)) else (v, n, u)
def advR (t : Tn) (units : Int) : List Int × Nat × Int := advGo (fieldF t.1.1).1 t.1.2.2 units (t.1.2.2.length - t.2.2.toNat) t.2.1 t.2.2.toNat 0
def advF (t : Tn) (units : Int) : Tn × Int := if (turnOkF t && decide (0 ≤ units)) = true then ((t.1, (advR t units).1, ((advR t units).2.1 : Int)), (advR t units).2.2) else (t, -1)
def fS_GeneratorC : PC := { ts := [i64T], rs := [i64T], pre := fun _ => True, F := fun x => genF x }
def fS_RootOfC : PC := { ts := [i64T, i64T], rs := [i64T], pre := fun _ => True, F := fun x => rootS x.1 x.2 }
def fI_rootC : PC := { ts := [fldT, i64T], rs := [i64T], pre := fun x => IsMod x.1.1 ∧ El x.1.1 x.1.2.1 ∧ 0 ≤ x.2 ∧ x.2 ≤ 30, F := fun x => rootI x.1 x.2 }
def fS_StageC : PC := { ts := [i64T, listT, i64T], rs := [listT], pre := fun x => x.2.1.length ≤ 1048576, F := fun x => stgS x.1 x.2.1 x.2.2 }
def fS_RunStepC : PC := { ts := [i64T, listT, spT], rs := [listT, .bool], pre := fun x => x.2.1.length ≤ 1048576, F := fun x => runS x.1 x.2.1 x.2.2 }
def fI_runStepC : PC := { ts := [fldT, listT, spT], rs := [listT], pre := fun x => (∃ f, vectorOkF f x.2.1 = true ∧ x.1 = (fieldF f).1) ∧ stepOkF (logF x.2.1.length) x.2.2 = true, F := fun x => runD x.1 x.2.1 x.2.2 }
def fS_l15CopyC : PC := { ts := [turnT], rs := [turnT], pre := fun x => x.1.2.2.length ≤ 1048576 ∧ x.2.1.length ≤ 1048576, F := fun x => x }
def fS_AdvanceC : PC := { ts := [turnT, i64T], rs := [turnT, i64T], pre := fun x => x.1.1.2.2.length ≤ 1048576 ∧ x.1.2.1.length ≤ 1048576, F := fun x => advF x.1 x.2 }
def fI_AdvanceC : PC := { ts := [turnT, i64T], rs := [turnT, i64T], pre := fun x => x.1.1.2.2.length ≤ 1048576 ∧ x.1.2.1.length ≤ 1048576, F := fun x => advF x.1 x.2 }
def ci (n : Int) : C := .val (.int .i64 n)
def aS_Stage (x : Int × List Int × Int) : Nat → Option Ann := fun
  | 8 => some (.mk Nat (fun c => c * (2 * 2 ^ x.2.2.toNat) ≤ x.2.1.length) (fun st c => ((st.keep 10 []).sets [(10, .c (.own 0)), (11, si ((c * (2 * 2 ^ x.2.2.toNat) : Nat) : Int))]).setEs [(0, .row true i64T (rgL (fieldF x.1).1 x.2.1 x.2.2.toNat 0 (c * 2 ^ x.2.2.toNat)))]) (fun c => x.2.1.length - c) 0 (fun c => fun
    | 11 => some (.mk Nat (fun j => j ≤ 2 ^ x.2.2.toNat) (fun st j => ((st.keep 12 []).sets [(12, si j)]).setEs [(0, .row true i64T (rgL (fieldF x.1).1 x.2.1 x.2.2.toNat 0 (c * 2 ^ x.2.2.toNat + j)))]) (fun j => 2 ^ x.2.2.toNat - j) 0 (fun _ _ => none))
    | _ => none))
  | _ => none
def aS_RunStep (x : Int × List Int × Sp) : Nat → Option Ann := fun
  | 7 => some (.mk Nat (fun b => x.2.2.2.1.toNat ≤ b ∧ b ≤ x.2.2.2.2.toNat) (fun st b => ((st.keep 11 []).sets [(11, si b)]).setEs [(2, .row true i64T (rgL (fieldF x.1).1 x.2.1 x.2.2.1.toNat x.2.2.2.1.toNat b))]) (fun b => x.2.2.2.2.toNat - b) x.2.2.2.1.toNat (fun _ _ => none))
  | _ => none
def aI_runStep (x : Fd × List Int × Sp) : Nat → Option Ann := fun
  | 5 => some (.mk Nat (fun b => x.2.2.2.1.toNat ≤ b ∧ b ≤ x.2.2.2.2.toNat) (fun st b => ((st.keep 10 []).sets [(10, si b)]).setEs [(2, .row true i64T (rgL x.1 x.2.1 x.2.2.1.toNat x.2.2.2.1.toNat b))]) (fun b => x.2.2.2.2.toNat - b) x.2.2.2.1.toNat (fun _ _ => none))
  | _ => none
def AdvJ (t : Tn) (units : Int) (x : List Int × Nat × Int) : Prop := vectorOkF t.1.1 x.1 = true ∧ x.1.length = t.2.1.length ∧ x.2.1 ≤ t.1.2.2.length ∧ 0 ≤ x.2.2 ∧ x.2.2 ≤ units ∧ advGo (fieldF t.1.1).1 t.1.2.2 units (t.1.2.2.length - x.2.1) x.1 x.2.1 x.2.2 = advR t units
def aS_Advance (x : Tn × Int) : Nat → Option Ann := fun
  | 5 => some (.mk (List Int × Nat × Int) (fun y => AdvJ x.1 x.2 y) (fun st y => ((st.keep 7 []).sets [(7, si y.2.2)]).setEs [(3, .row true i64T y.1), (4, .bx [ci x.1.1.1, ci x.1.1.2.1, .own 2, .own 3, ci y.2.1])]) (fun y => x.1.1.2.2.length - y.2.1) (x.1.2.1, x.1.2.2.toNat, 0) (fun _ _ => none))
  | _ => none
def aI_Advance (x : Tn × Int) : Nat → Option Ann := fun
  | 6 => some (.mk (List Int × Nat × Int) (fun y => AdvJ x.1 x.2 y) (fun st y => ((st.keep 8 []).sets [(8, si y.2.2)]).setEs [(4, .row true i64T y.1), (0, .bx [ci x.1.1.1, ci x.1.1.2.1, .own 3, .own 4, ci y.2.1])]) (fun y => x.1.1.2.2.length - y.2.1) (x.1.2.1, x.1.2.2.toNat, 0) (fun _ _ => none))
  | _ => none
end Go.SF


/- Contracts: a law's code. No condition. -/
namespace Go.SF
open Go.SX Go
set_option linter.unusedVariables false
abbrev codeT : Ty := .sl (.int .u8)
def codeAt (c : List Int) (i : Int) : Int := if i < (c.length : Int) then c.getD i.toNat 0 else (w64 (w64 (i * 13) + w64 ((c.length : Int) * 5))).tmod 256
def bigF (c : List Int) : Bool := decide (1048576 < (c.length : Int))
def fL_bigC : PC := { ts := [codeT], rs := [.bool], pre := fun _ => True, F := fun x => bigF x }
def fL_atC : PC := { ts := [codeT, i64T], rs := [i64T], pre := fun x => 0 ≤ x.2, F := fun x => codeAt x.1 x.2 }
end Go.SF


/- Contracts: words of a code, and what they are read as. No condition. -/
namespace Go.SF
open Go.SX Go
set_option linter.unusedVariables false
def codeB (f : Int) (xs : List Int) (k : Int) : Bool := decide (xs.length ≤ 10) && pointsF f xs && decide (1 ≤ k ∧ k ≤ xs.length)
def codF (f : Int) (xs : List Int) (k : Int) : Fd × Bool := if codeB f xs k = true then ((fieldF f).1, true) else ((0, 0, 0), false)
def evM (p : Int) (a xs : List Int) (n : Nat) : List Int := (List.range n).map (fun i => evP p a (xs.getD i 0))
def encS (f : Int) (xs m : List Int) : List Int := if (codeB f xs m.length && specElemsF f m) = true then evM (modF f) (trimF m) xs xs.length else []
/-- At how many of the first 'n' places two lists differ. -/
def difX (a b : List Int) : Nat → Nat
  | 0 => 0
  | n + 1 => if n < a.length ∧ n < b.length ∧ a.getD n 0 = b.getD n 0 then difX a b n else difX a b n + 1
def difF (a b : List Int) : Int := (difX a b (max a.length b.length) : Nat)
def difS (a b : List Int) : Int := if 4096 < a.length ∨ 4096 < b.length then -1 else difF a b
/-- Of the first 'n' numbers those that the bits of 's' choose. -/
def subL (l : List Int) (s : Nat) : Nat → List Int
  | 0 => []
  | n + 1 => if s / 2 ^ n % 2 = 1 then subL l s n ++ [l.getD n 0] else subL l s n
def msgF (p : Int) (xs ys : List Int) (s : Nat) : List Int := thrF p (subL xs s xs.length) (subL ys s xs.length)
def errF (p : Int) (xs ys : List Int) (s : Nat) : Nat := difX (evM p (msgF p xs ys s) xs xs.length) ys xs.length
def padF (m : List Int) (k : Nat) : List Int := m ++ List.replicate (k - m.length) 0
def hitB (p : Int) (xs ys : List Int) (k s : Nat) : Bool := decide ((subL xs s xs.length).length = k) && decide (errF p xs ys s ≤ (xs.length - k) / 2)
def findF (h : Nat → Bool) : Nat → Option Nat
  | 0 => none
  | n + 1 => match findF h n with | some s => some s | none => if h n = true then some n else none
def decR (p : Int) (xs ys : List Int) (k : Nat) : Option Nat → List Int × Int × Bool
  | some s => (padF (msgF p xs ys s) k, ((errF p xs ys s : Nat) : Int), true)
  | none => ([], 0, false)
def decF (f : Int) (xs ys : List Int) (k : Int) : List Int × Int × Bool := if (codeB f xs k && decide (ys.length = xs.length) && specElemsF f ys) = true then decR (modF f) xs ys k.toNat (findF (hitB (modF f) xs ys k.toNat) (2 ^ xs.length)) else ([], 0, false)
def blmL (w ys : List Int) : Nat → List Int
  | 0 => []
  | n + 1 => if w.getD n 0 = ys.getD n 0 then blmL w ys n else blmL w ys n ++ [(n : Int)]
def blmF (f : Int) (xs ys : List Int) (k : Int) : List Int := if (decF f xs ys k).2.2 = true then blmL (evM (modF f) (decF f xs ys k).1 xs xs.length) ys ys.length else []
def dropL (l gone : List Int) : Nat → List Int
  | 0 => []
  | n + 1 => if (n : Int) ∈ gone then dropL l gone n else dropL l gone n ++ [l.getD n 0]
def GonJ (n : Nat) (gone : List Int) (k : Nat) : Prop := ∀ i, i < k → 0 ≤ gone.getD i 0 ∧ gone.getD i 0 < n ∧ (0 < i → gone.getD (i - 1) 0 < gone.getD i 0)
instance (n : Nat) (gone : List Int) (k : Nat) : Decidable (GonJ n gone k) := by unfold GonJ; infer_instance
def gapF (f : Int) (xs ys : List Int) (k : Int) (gone : List Int) : List Int × Int × Bool := if (codeB f xs k && decide (ys.length = xs.length) && decide (GonJ xs.length gone gone.length)) = true then decF f (dropL xs gone xs.length) (dropL ys gone xs.length) k else ([], 0, false)
abbrev decRs : List Ty := [listT, i64T, .bool]
def fS_l07CodeC : PC := { ts := [i64T, listT, i64T], rs := [.bool], pre := fun _ => True, F := fun x => codeB x.1 x.2.1 x.2.2 }
def fI_codeFieldC : PC := { ts := [i64T, listT, i64T], rs := [fldT, .bool], pre := fun _ => True, F := fun x => codF x.1 x.2.1 x.2.2 }
def fS_EncodeWordC : PC := { ts := [i64T, listT, listT], rs := [listT], pre := fun _ => True, F := fun x => encS x.1 x.2.1 x.2.2 }
def fS_DifferC : PC := { ts := [listT, listT], rs := [i64T], pre := fun _ => True, F := fun x => difS x.1 x.2 }
def fI_differC : PC := { ts := [listT, listT], rs := [i64T], pre := fun x => x.1.length ≤ 1048576 ∧ x.2.length ≤ 1048576, F := fun x => difF x.1 x.2 }
def fI_evalManyC : PC := { ts := [fldT, listT, listT], rs := [listT], pre := fun x => IsMod x.1.1 ∧ elemsF x.1.1 x.2.1 = true ∧ elemsF x.1.1 x.2.2 = true ∧ x.2.2.length ≤ 1000, F := fun x => evM x.1.1 x.2.1 x.2.2 x.2.2.length }
def fS_DecodeWordC : PC := { ts := [i64T, listT, listT, i64T], rs := decRs, pre := fun _ => True, F := fun x => decF x.1 x.2.1 x.2.2.1 x.2.2.2 }
def fI_decodeWordC : PC := { ts := [i64T, listT, listT, i64T], rs := decRs, pre := fun _ => True, F := fun x => decF x.1 x.2.1 x.2.2.1 x.2.2.2 }
def fI_DecodeWordC : PC := { ts := [i64T, listT, listT, i64T], rs := decRs, pre := fun _ => True, F := fun x => decF x.1 x.2.1 x.2.2.1 x.2.2.2 }
def fS_BlameC : PC := { ts := [i64T, listT, listT, i64T], rs := [listT], pre := fun _ => True, F := fun x => blmF x.1 x.2.1 x.2.2.1 x.2.2.2 }
def fI_BlameC : PC := { ts := [i64T, listT, listT, i64T], rs := [listT], pre := fun _ => True, F := fun x => blmF x.1 x.2.1 x.2.2.1 x.2.2.2 }
def fS_DecodeGapsC : PC := { ts := [i64T, listT, listT, i64T, listT], rs := decRs, pre := fun _ => True, F := fun x => gapF x.1 x.2.1 x.2.2.1 x.2.2.2.1 x.2.2.2.2 }
def fI_DecodeGapsC : PC := { ts := [i64T, listT, listT, i64T, listT], rs := decRs, pre := fun _ => True, F := fun x => gapF x.1 x.2.1 x.2.2.1 x.2.2.2.1 x.2.2.2.2 }
def aS_EncodeWord (x : Int × List Int × List Int) : Nat → Option Ann := fun
  | 5 => some (.mk Nat (fun k => k ≤ x.2.1.length) (fun st k => ((st.keep 7 []).sets [(7, .c (.own 0)), (8, si k)]).setEs [(0, .row true i64T (evM (modF x.1) (trimF x.2.2) x.2.1 k))]) (fun k => x.2.1.length - k) 0 (fun _ _ => none))
  | _ => none
def aS_Differ (x : List Int × List Int) : Nat → Option Ann := fun
  | 5 => some (.mk Nat (fun k => k ≤ max x.1.length x.2.length) (fun st k => (st.keep 5 []).sets [(5, si (difX x.1 x.2 k)), (6, si k)]) (fun k => max x.1.length x.2.length - k) 0 (fun _ _ => none))
  | _ => none
def aI_differ (x : List Int × List Int) : Nat → Option Ann := fun
  | 3 => some (.mk Nat (fun k => k ≤ min x.1.length x.2.length) (fun st k => (st.keep 5 [22]).sets [(5, si ((max x.1.length x.2.length - min x.1.length x.2.length + difX x.1 x.2 k : Nat) : Int)), (23, si k)]) (fun k => min x.1.length x.2.length - k) 0 (fun _ _ => none))
  | _ => none
def aI_evalMany (x : Fd × List Int × List Int) : Nat → Option Ann := fun
  | 3 => some (.mk Nat (fun k => k ≤ x.2.2.length) (fun st k => ((st.keep 7 [11, 12]).sets [(7, .c (.own 1)), (13, si k)]).setEs [(1, .row true i64T (evM x.1.1 x.2.1 x.2.2 k))]) (fun k => x.2.2.length - k) 0 (fun _ _ => none))
  | _ => none
def SetJ (p : Int) (xs ys : List Int) (k s : Nat) : Prop := s ≤ 2 ^ xs.length ∧ ∀ t, t < s → hitB p xs ys k t = false
def aS_pad (x : Int × List Int × List Int × Int) (s : Nat) : Nat → Option Ann := fun
  | 17 => some (.mk Nat (fun j => (msgF (modF x.1) x.2.1 x.2.2.1 s).length + j ≤ x.2.2.2.toNat) (fun st j => ((st.keep 16 []).sets [(16, .c (.own 2))]).setEs [(2, .row true i64T (msgF (modF x.1) x.2.1 x.2.2.1 s ++ List.replicate j 0))]) (fun j => x.2.2.2.toNat - j) 0 (fun _ _ => none))
  | _ => none
def aS_DecodeWord (x : Int × List Int × List Int × Int) : Nat → Option Ann := fun
  | 5 => some (.mk Nat (fun s => SetJ (modF x.1) x.2.1 x.2.2.1 x.2.2.2.toNat s) (fun st s => (st.keep 12 []).sets [(12, si s)]) (fun s => 2 ^ x.2.1.length - s) 0 (fun s => fun
    | 10 => some (.mk Nat (fun i => i ≤ x.2.1.length) (fun st i => ((st.keep 13 []).sets [(13, .c (.own 0)), (14, .c (.own 1)), (15, si i)]).setEs [(0, .row true i64T (subL x.2.1 s i)), (1, .row true i64T (subL x.2.2.1 s i))]) (fun i => x.2.1.length - i) 0 (fun _ => aS_pad x s))
    | _ => none))
  | _ => none
def aI_pad (x : Int × List Int × List Int × Int) (s : Nat) : Nat → Option Ann := fun
  | 19 => some (.mk Nat (fun j => (msgF (modF x.1) x.2.1 x.2.2.1 s).length + j ≤ x.2.2.2.toNat) (fun st j => ((st.keep 18 [19, 44, 45]).sets [(18, .c (.own 3))]).setEs [(3, .row true i64T (msgF (modF x.1) x.2.1 x.2.2.1 s ++ List.replicate j 0))]) (fun j => x.2.2.2.toNat - j) 0 (fun _ _ => none))
  | _ => none
def aI_decodeWord (x : Int × List Int × List Int × Int) : Nat → Option Ann := fun
  | 5 => some (.mk Nat (fun s => SetJ (modF x.1) x.2.1 x.2.2.1 x.2.2.2.toNat s) (fun st s => (st.keep 13 [44]).sets [(45, si s)]) (fun s => 2 ^ x.2.1.length - s) 0 (fun s => fun
    | 9 => some (.mk Nat (fun i => i ≤ x.2.1.length) (fun st i => ((st.keep 14 [44, 45, 50, 51]).sets [(14, .c (.own 1)), (15, .c (.own 2)), (52, si i)]).setEs [(1, .row true i64T (subL x.2.1 s i)), (2, .row true i64T (subL x.2.2.1 s i))]) (fun i => x.2.1.length - i) 0 (fun _ => aI_pad x s))
    | _ => none))
  | _ => none
def aS_Blame (x : Int × List Int × List Int × Int) : Nat → Option Ann := fun
  | 7 => some (.mk Nat (fun i => i ≤ x.2.2.1.length) (fun st i => ((st.keep 14 []).sets [(9, .c (.own 0)), (14, si i)]).setEs [(0, .row true i64T (blmL (evM (modF x.1) (decF x.1 x.2.1 x.2.2.1 x.2.2.2).1 x.2.1 x.2.1.length) x.2.2.1 i))]) (fun i => x.2.2.1.length - i) 0 (fun _ _ => none))
  | _ => none
def aI_Blame (x : Int × List Int × List Int × Int) : Nat → Option Ann := fun
  | 7 => some (.mk Nat (fun i => i ≤ x.2.1.length) (fun st i => ((st.keep 15 [37, 38]).sets [(14, .c (.own 2)), (39, si i)]).setEs [(2, .row true i64T (blmL (evM (modF x.1) (decF x.1 x.2.1 x.2.2.1 x.2.2.2).1 x.2.1 x.2.1.length) x.2.2.1 i))]) (fun i => x.2.1.length - i) 0 (fun _ _ => none))
  | _ => none
def aS_drop (x : Int × List Int × List Int × Int × List Int) : Nat → Option Ann := fun
  | 11 => some (.mk Nat (fun i => i ≤ x.2.1.length) (fun st i => ((st.keep 14 []).sets [(14, .c (.own 0)), (15, .c (.own 1)), (16, si i)]).setEs [(0, .row true i64T (dropL x.2.1 x.2.2.2.2 i)), (1, .row true i64T (dropL x.2.2.1 x.2.2.2.2 i))]) (fun i => x.2.1.length - i) 0 (fun _ _ => none))
  | _ => none
def aS_DecodeGaps (x : Int × List Int × List Int × Int × List Int) : Nat → Option Ann := fun
  | 4 => some (.mk Nat (fun i => i ≤ x.2.2.2.2.length ∧ GonJ x.2.1.length x.2.2.2.2 i) (fun st i => (st.keep 13 []).sets [(13, si i)]) (fun i => x.2.2.2.2.length - i) 0 (fun _ => aS_drop x))
  | _ => none
def frG (gone : List Int) (k : Nat) : Nat := if k = 0 then 0 else (gone.getD (k - 1) 0).toNat + 1
def aI_DecodeGaps (x : Int × List Int × List Int × Int × List Int) : Nat → Option Ann := fun
  | 7 => some (.mk Nat (fun k => k ≤ x.2.2.2.2.length ∧ GonJ x.2.1.length x.2.2.2.2 k) (fun st k => ((st.keep 15 [38, 39]).sets [(15, .c (.own 1)), (16, .c (.own 2)), (17, si (frG x.2.2.2.2 k)), (40, si k)]).setEs [(1, .row true i64T (dropL x.2.1 (x.2.2.2.2.take k) (frG x.2.2.2.2 k))), (2, .row true i64T (dropL x.2.2.1 (x.2.2.2.2.take k) (frG x.2.2.2.2 k)))]) (fun k => x.2.2.2.2.length - k) 0 (fun _ _ => none))
  | _ => none
end Go.SF


/- Contracts: draws. No condition. -/
namespace Go.SF
open Go.SX Go
set_option linter.unusedVariables false
abbrev byteL : Ty := .sl (.int .u8)
/-- A cursor: the bytes, the place, the number. -/
abbrev curT : Ty := .pr byteL (.pr i64T i64T)
abbrev Cur := List Int × Int × Int
def CurOk (c : Cur) : Prop := 0 ≤ c.2.1 ∧ c.1.length ≤ 9223372036854775807
def SmallN (n : Int) : Prop := n ≤ 4096
def SmallL (l : List Int) : Prop := l.length ≤ 4096
def aS_cur (c : Cur) : Ent := .bx [.rd false (.int .u8) c.1, .val (.int .i64 c.2.1), .val (.int .i64 c.2.2)]
def drSeed (b : List Int) : Nat → Int
  | 0 => w64 (710710 + b.length)
  | n + 1 => iand .i64 (w64 (w64 (w64 (drSeed b n * 149) + w64 (b.getD n 0)) + 11)) 1073741823
def drNew (b : List Int) : Cur := (b, 0, drSeed b (min b.length 4000))
def drH (c : Cur) : Int := w64 (w64 (c.2.2 * 6364136223846793005) + 1442695040888963407)
def drX (c : Cur) : Int := iand .i64 (ixor .i64 (ishr .i64 (drH c) 33) (ishr .i64 (drH c) 45)) 255
def drB (c : Cur) : Int := if c.2.1 < c.1.length then iand .i64 (w64 (drX c + w64 (c.1.getD c.2.1.toNat 0))) 255 else drX c
def drBc (c : Cur) : Cur := if c.2.1 < c.1.length then (c.1, w64 (c.2.1 + 1), drH c) else (c.1, c.2.1, drH c)
def drN (c : Cur) (n : Int) : Int := if n ≤ 0 then 0 else if n ≤ 256 then (drB c).tmod n else (w64 (w64 (w64 (drB c * 65536) + w64 (drB (drBc c) * 256)) + drB (drBc (drBc c)))).tmod n
def drNc (c : Cur) (n : Int) : Cur := if n ≤ 0 then c else if n ≤ 256 then drBc c else drBc (drBc (drBc c))
def drO (c : Cur) (n : Int) : Bool := decide (drN c n = 0)
def drK (c : Cur) (l : List Int) : Int := l.getD (drN c l.length).toNat 0
def drKc (c : Cur) (l : List Int) : Cur := drNc c l.length
def drF (c : Cur) : Int := if drO c 20 = true then drK (drNc c 20) [-1, 9, 100] else drN (drNc c 20) 9
def drFc (c : Cur) : Cur := if drO c 20 = true then drKc (drNc c 20) [-1, 9, 100] else drNc (drNc c 20) 9
def drE (c : Cur) (f : Int) : Int :=
  if modF f = 0 then drN c 50 else if drN c 6 = 0 then (drN (drNc c 6) 3).tmod (modF f) else if drN c 6 = 1 then w64 (w64 (modF f - 1) - drN (drNc c 6) 3)
  else if drN c 6 = 2 then (w64 (w64 (drN (drNc c 6) 16777216 * 61) + drN (drNc (drNc c 6) 16777216) 256)).tmod (modF f) else (drN (drNc c 6) 30).tmod (modF f)
def drEc (c : Cur) (f : Int) : Cur :=
  if modF f = 0 then drNc c 50 else if drN c 6 = 0 then drNc (drNc c 6) 3 else if drN c 6 = 1 then drNc (drNc c 6) 3
  else if drN c 6 = 2 then drNc (drNc (drNc c 6) 16777216) 256 else drNc (drNc c 6) 30
/-- A list of elements, and the cursor behind it. -/
def drL (c : Cur) (f : Int) : Nat → List Int × Cur
  | 0 => ([], c)
  | n + 1 => ((drL c f n).1 ++ [drE (drL c f n).2 f], drEc (drL c f n).2 f)
def drPs (s : List Int × Cur) (f : Int) : List Int × Cur :=
  if drE s.2 f ∉ s.1 then (s.1 ++ [drE s.2 f], drEc s.2 f) else if drO (drEc s.2 f) 60 = true then (s.1 ++ [drE s.2 f], drNc (drEc s.2 f) 60) else (s.1, drNc (drEc s.2 f) 60)
def drP (c : Cur) (f : Int) : Nat → List Int × Cur
  | 0 => ([], c)
  | n + 1 => drPs (drP c f n) f
def drQ (s : List Int × Cur) (f : Int) : List Int × Cur :=
  if drO s.2 25 = true ∧ 0 < s.1.length then (s.1.set (drN (drNc s.2 25) s.1.length).toNat (drK (drNc (drNc s.2 25) s.1.length) [-1, modF f]), drKc (drNc (drNc s.2 25) s.1.length) [-1, modF f]) else (s.1, drNc s.2 25)
def drPo (c : Cur) (f n : Int) : List Int × Cur := drQ (drP c f n.toNat) f
def sizeF (b : List Int) (most : Int) : Int := if most < w64 (2 + w64 ((b.length : Int).tdiv 16)) then most else w64 (2 + w64 ((b.length : Int).tdiv 16))
-- pairs
def prC1 (b : List Int) : Cur := drFc (drNew b)
def prC2 (b : List Int) : Cur := drNc (prC1 b) (sizeF b 20)
def prN (b : List Int) : Int := if drO (prC2 b) 20 = true then 55 else w64 (1 + drN (prC1 b) (sizeF b 20))
def prX (b : List Int) : List Int × Cur := drPo (drNc (prC2 b) 20) (drF (drNew b)) (prN b)
def prY (b : List Int) : List Int × Cur := drL (prX b).2 (drF (drNew b)) (prX b).1.length
def prYs (b : List Int) : List Int := if drO (prY b).2 15 = true then (prY b).1 ++ [1] else (prY b).1
def pairsF (b : List Int) : Int × List Int × List Int := (drF (drNew b), (prX b).1, prYs b)
def pairsC (b : List Int) : Cur := drNc (prY b).2 15
-- words
def wdX (c : Cur) : List Int × Cur := drPo (drNc (drFc c) 8) (drF c) (w64 (3 + drN (drFc c) 8))
def wdC4 (c : Cur) : Cur := drNc (wdX c).2 (wdX c).1.length
def wdH (c : Cur) : Int := w64 ((w64 ((wdX c).1.length + 1)).tdiv 2)
def wdK (c : Cur) : Int := if drO (wdC4 c) 2 = true then w64 (1 + drN (drNc (wdC4 c) 2) (wdH c)) else w64 (1 + drN (wdX c).2 (wdX c).1.length)
def wdC6 (c : Cur) : Cur := if drO (wdC4 c) 2 = true then drNc (drNc (wdC4 c) 2) (wdH c) else drNc (wdC4 c) 2
def wdM (c : Cur) : List Int × Cur := drL (wdC6 c) (drF c) (wdK c).toNat
def wdE (c : Cur) : List Int := encS (drF c) (wdX c).1 (wdM c).1
def wdY (c : Cur) : List Int × Cur := if (wdE c).length = 0 then drL (wdM c).2 (drF c) (wdX c).1.length else (wdE c, (wdM c).2)
def wdG (c : Cur) : Int := w64 (w64 ((w64 ((wdX c).1.length - wdK c)).tdiv 2) + 2)
def wdC9 (c : Cur) : Cur := drNc (wdY c).2 (wdG c)
def wdL (c : Cur) : Int := w64 ((wdX c).1.length + 1)
def wdB (c : Cur) : Int := if drO (wdC9 c) 5 = true then drN (drNc (wdC9 c) 5) (wdL c) else drN (wdY c).2 (wdG c)
def wdC11 (c : Cur) : Cur := if drO (wdC9 c) 5 = true then drNc (drNc (wdC9 c) 5) (wdL c) else drNc (wdC9 c) 5
def wdW (c : Cur) : Nat → List Int × Cur
  | 0 => ((wdY c).1, wdC11 c)
  | n + 1 => ((wdW c n).1.set (drN (wdW c n).2 (wdW c n).1.length).toNat (drE (drNc (wdW c n).2 (wdW c n).1.length) (drF c)), drEc (drNc (wdW c n).2 (wdW c n).1.length) (drF c))
def wordF (c : Cur) : Int × List Int × List Int × Int × List Int := (drF c, (wdX c).1, (wdW c (wdB c).toNat).1, wdK c, (wdM c).1)
def wordC (c : Cur) : Cur := (wdW c (wdB c).toNat).2
def pickL (c : Cur) (a b : List Int) : List Int := if drN c 3 = 0 then [] else if drN c 3 = 1 then b else a ++ [-1]
def ewM (b : List Int) : List Int := if drO (wordC (drNew b)) 8 = true then pickL (drNc (wordC (drNew b)) 8) (wordF (drNew b)).2.2.2.2 (wordF (drNew b)).2.1 else (wordF (drNew b)).2.2.2.2
def drawEW (b : List Int) : Int × List Int × List Int := ((wordF (drNew b)).1, (wordF (drNew b)).2.1, ewM b)
abbrev curBC (ts rs : List Ty) (pre : Cur → Tup ts → Prop) (F : Cur → Tup ts → Tup rs) (G : Cur → Tup ts → Cur) (drop : Bool) : BC := { t := curT, ts := ts, rs := rs, pre := pre, F := F, G := G, drop := drop }
def fS_l01NewC : NC := { t := curT, ts := [byteL], rs := [], pre := fun _ => True, F := fun _ => (), G := fun x => drNew x }
def fS_l01ByteC : BC := { t := curT, ts := [], rs := [i64T], pre := fun d _ => CurOk d, F := fun d _ => drB d, G := fun d _ => drBc d, drop := false }
def fS_l01BelowC : BC := { t := curT, ts := [i64T], rs := [i64T], pre := fun d _ => CurOk d, F := fun d x => drN d x, G := fun d x => drNc d x, drop := false }
def fS_l01OnceC : BC := { t := curT, ts := [i64T], rs := [.bool], pre := fun d _ => CurOk d, F := fun d x => drO d x, G := fun d x => drNc d x, drop := false }
def fS_l01PickIntC : BC := { t := curT, ts := [listT], rs := [i64T], pre := fun d x => CurOk d ∧ 0 < x.length, F := fun d x => drK d x, G := fun d x => drKc d x, drop := false }
def fS_l01DrawFieldC : BC := { t := curT, ts := [], rs := [i64T], pre := fun d _ => CurOk d, F := fun d _ => drF d, G := fun d _ => drFc d, drop := false }
def fS_l01DrawElementC : BC := { t := curT, ts := [i64T], rs := [i64T], pre := fun d _ => CurOk d, F := fun d x => drE d x, G := fun d x => drEc d x, drop := false }
def fS_l01DrawListC : BC := { t := curT, ts := [i64T, i64T], rs := [listT], pre := fun d x => CurOk d ∧ SmallN x.2, F := fun d x => (drL d x.1 x.2.toNat).1, G := fun d x => (drL d x.1 x.2.toNat).2, drop := false }
def fS_l07DrawPointsC : BC := { t := curT, ts := [i64T, i64T], rs := [listT], pre := fun d x => CurOk d ∧ SmallN x.2, F := fun d x => (drPo d x.1 x.2).1, G := fun d x => (drPo d x.1 x.2).2, drop := false }
def fS_l01SizeC : PC := { ts := [byteL, i64T], rs := [i64T], pre := fun _ => True, F := fun x => sizeF x.1 x.2 }
def fS_l07DrawPairsC : NC := { t := curT, ts := [byteL], rs := [i64T, listT, listT], pre := fun _ => True, F := fun x => pairsF x, G := fun x => pairsC x }
def fS_l07DrawWordC : BC := { t := curT, ts := [], rs := [i64T, listT, listT, i64T, listT], pre := fun d _ => CurOk d, F := fun d _ => wordF d, G := fun d _ => wordC d, drop := false }
def fS_l07PickIntsC : BC := { t := curT, ts := [listT, listT], rs := [listT], pre := fun d x => CurOk d ∧ SmallL x.1 ∧ SmallL x.2, F := fun d x => pickL d x.1 x.2, G := fun d _ => drNc d 3, drop := true }
def fS_DrawInterpolateC : PC := { ts := [byteL], rs := [i64T, listT, listT], pre := fun _ => True, F := fun x => pairsF x }
def fS_DrawEncodeWordC : PC := { ts := [byteL], rs := [i64T, listT, listT], pre := fun _ => True, F := fun x => drawEW x }
def aS_l01New (x : List Int) : Nat → Option Ann := fun
  | 3 => some (.mk Nat (fun k => k ≤ x.length ∧ k ≤ 4000) (fun st k => (st.keep 3 []).sets [(3, si (drSeed x k)), (4, si k)]) (fun k => x.length - k) 0 (fun _ _ => none))
  | _ => none
def aS_l01DrawList (c : Cur) (x : Int × Int) : Nat → Option Ann := fun
  | 3 => some (.mk Nat (fun k => k ≤ x.2.toNat) (fun st k => ((st.keep 7 []).sets [(7, .c (.own 1)), (8, si k)]).setEs [(0, aS_cur (drL c x.1 k).2), (1, .row true i64T (drL c x.1 k).1)]) (fun k => x.2.toNat - k) 0 (fun _ _ => none))
  | _ => none
def aS_l07DrawPoints (c : Cur) (x : Int × Int) : Nat → Option Ann := fun
  | 3 => some (.mk Nat (fun k => k ≤ x.2.toNat) (fun st k => ((st.keep 7 []).sets [(7, .c (.own 1)), (8, si k)]).setEs [(0, aS_cur (drP c x.1 k).2), (1, .row true i64T (drP c x.1 k).1)]) (fun k => x.2.toNat - k) 0 (fun _ _ => none))
  | _ => none
def aS_l07DrawPairs (x : List Int) : Nat → Option Ann := fun
  | 100006 => some (.mk Unit (fun _ => True) (fun st _ => ((st.keep 8 []).sets [(8, si (prN x))]).setEs [(0, aS_cur (drNc (prC2 x) 20))]) (fun _ => 0) () (fun _ _ => none))
  | _ => none
def aS_l07DrawWord (c : Cur) (_ : Unit) : Nat → Option Ann := fun
  | 100006 => some (.mk Unit (fun _ => True) (fun st _ => ((st.keep 9 []).sets [(9, si (wdK c))]).setEs [(0, aS_cur (wdC6 c))]) (fun _ => 0) () (fun _ => fun
    | 100010 => some (.mk Unit (fun _ => True) (fun st _ => ((st.keep 11 []).sets [(11, .c (.own 3))]).setEs [(0, aS_cur (wdY c).2), (3, .row true i64T (wdY c).1)]) (fun _ => 0) () (fun _ => fun
      | 100013 => some (.mk Unit (fun _ => True) (fun st _ => ((st.keep 12 []).sets [(12, si (wdB c))]).setEs [(0, aS_cur (wdC11 c))]) (fun _ => 0) () (fun _ => fun
        | 14 => some (.mk Nat (fun k => k ≤ (wdB c).toNat) (fun st k => ((st.keep 13 []).sets [(13, si k)]).setEs [(0, aS_cur (wdW c k).2), (3, .row true i64T (wdW c k).1)]) (fun k => (wdB c).toNat - k) 0 (fun _ _ => none))
        | _ => none))
      | _ => none))
    | _ => none))
  | _ => none
end Go.SF


/- Contracts: draws, of which no more is told than bounds. No condition. -/
namespace Go.SF
open Go.SX Go
set_option linter.unusedVariables false
/-- A cursor: the bytes, the place, the number. -/
abbrev curQ : Ty := .pr (.sl (.int .u8)) (.pr i64T i64T)
abbrev CurQ := List Int × Int × Int
def CqOk (c : CurQ) : Prop := 0 ≤ c.2.1 ∧ c.1.length ≤ 9223372036854775807
def aS_curQ (c : CurQ) : Ent := .bx [.rd false (.int .u8) c.1, .val (.int .i64 c.2.1), .val (.int .i64 c.2.2)]
def belowQ (n r : Int) : Prop := 0 ≤ r ∧ (0 < n → r < n) ∧ (n ≤ 0 → r = 0)
def fS_l01ByteQC : QB := { t := curQ, ts := [], rs := [i64T], pre := fun d _ => CqOk d, Q := fun d _ g r => CqOk g ∧ (0 : Int) ≤ r ∧ r ≤ (255 : Int) }
def fS_l01BelowQC : QB := { t := curQ, ts := [i64T], rs := [i64T], pre := fun d _ => CqOk d, Q := fun d n g r => CqOk g ∧ belowQ n r }
def fS_l01OnceQC : QB := { t := curQ, ts := [i64T], rs := [.bool], pre := fun d _ => CqOk d, Q := fun d n g r => CqOk g }
def pickQ (l : List Int) (r : Int) : Prop := r ∈ l
def fS_l01PickIntQC : QB := { t := curQ, ts := [.sl i64T], rs := [i64T], pre := fun d l => CqOk d ∧ 0 < (show List Int from l).length, Q := fun d l g r => CqOk g ∧ pickQ l r }
def fS_l01NewQC : QN := { t := curQ, ts := [.sl (.int .u8)], rs := [], pre := fun x => (show List Int from x).length ≤ 9223372036854775807, Q := fun x g _ => CqOk g }
def aS_l01NewQ (x : List Int) : Nat → Option Ann := fun
  | 3 => some (.mk (Nat × Int) (fun k => k.1 ≤ x.length) (fun st k => (st.keep 3 []).sets [(3, si k.2), (4, si k.1)]) (fun k => x.length - k.1) (0, IntKind.i64.wrap (710710 + (x.length : Int))) (fun _ _ => none))
  | _ => none
def sizeQ (most r : Int) : Prop := r ≤ most
def fS_l01SizeQC : QC := { ts := [.sl (.int .u8), i64T], rs := [i64T], pre := fun _ => True, Q := fun x r => sizeQ x.2 r }
end Go.SF


/- Contracts: the transform. No condition. -/
namespace Go.SF
open Go.SX Go
set_option linter.unusedVariables false
def sigN (f : Nat → Int) : Nat → Int
  | 0 => 0
  | n + 1 => sigN f n + f n
/-- The sum at place 'i'. -/
def dftT (v : List Int) (w : Int) (i j : Nat) : Int := v.getD j 0 * w ^ (i * j % v.length)
def dftAt (p : Int) (v : List Int) (w : Int) (i : Nat) : Int := sigN (dftT v w i) v.length % p
def dftL (p : Int) (v : List Int) (w : Int) (n : Nat) : List Int := (List.range n).map (fun i => dftAt p v w i)
def powL (p w : Int) (n : Nat) : List Int := (List.range n).map (fun i => w ^ i % p)
def fwdF (f : Int) (v : List Int) : List Int := if vectorOkF f v = true then dftL (modF f) v (rootS f (logF v.length)) v.length else []
/-- A level of the transform. -/
def lev (d : Fd) (u : List Int) : Nat → Nat → Int
  | 0, t => u.getD t 0
  | l + 1, t =>
    if t % (2 * 2 ^ l) < 2 ^ l then addM d.1 (lev d u l t) (mulM d.1 (lev d u l (t + 2 ^ l)) (twF d l (t % 2 ^ l)))
    else subM d.1 (lev d u l (t - 2 ^ l)) (mulM d.1 (lev d u l t) (twF d l (t % 2 ^ l)))
def fS_l04SumC : PC := { ts := [i64T, listT, i64T], rs := [listT], pre := fun x => vectorOkF x.1 x.2.1 = true ∧ El (modF x.1) x.2.2, F := fun x => dftL (modF x.1) x.2.1 x.2.2 x.2.1.length }
def fS_ForwardC : PC := { ts := [i64T, listT], rs := [listT], pre := fun _ => True, F := fun x => fwdF x.1 x.2 }
def aS_l04Sum4 (x : Int × List Int × Int) (i : Nat) : Nat → Option Ann := fun
  | 16 => some (.mk Nat (fun j => j ≤ x.2.1.length) (fun st j => (st.keep 14 []).sets [(14, si (sigN (dftT x.2.1 x.2.2 i) j % modF x.1)), (15, si j)]) (fun j => x.2.1.length - j) 0 (fun _ _ => none))
  | _ => none
def aS_l04Sum2 (x : Int × List Int × Int) : Nat → Option Ann := fun
  | 12 => some (.mk Nat (fun i => i ≤ x.2.1.length) (fun st i => ((st.keep 10 []).sets [(12, .c (.own 1)), (13, si i)]).setEs [(1, .row true i64T (dftL (modF x.1) x.2.1 x.2.2 i))]) (fun i => x.2.1.length - i) 0 (fun i => aS_l04Sum4 x i))
  | _ => none
def aS_l04Sum (x : Int × List Int × Int) : Nat → Option Ann := fun
  | 6 => some (.mk Nat (fun i => i ≤ x.2.1.length) (fun st i => ((st.keep 9 []).sets [(9, .c (.own 0)), (10, si (x.2.2 ^ i % modF x.1)), (11, si i)]).setEs [(0, .row true i64T (powL (modF x.1) x.2.2 i))]) (fun i => x.2.1.length - i) 0 (fun _ => aS_l04Sum2 x))
  | _ => none
end Go.SF


/- Contracts: what the laws of codes call. No condition. -/
namespace Go.SF
open Go.SX Go
set_option linter.unusedVariables false
def sameF (a b : List Int) : Bool := decide (a = b)
def polyFd (f : Int) (a : List Int) : Fd × Bool := if polyB f a = true then ((fieldF f).1, true) else ((0, 0, 0), false)
def evPR (f : Int) (a : List Int) (x : Int) : Int := if polyB f a = true then evP (modF f) a (redM (modF f) x) else -1
def vanR (f : Int) (xs : List Int) : List Int := if pointsF f xs = true then vanF (modF f) xs else []
def evMR (f : Int) (a xs : List Int) : List Int := if (polyB f a && decide (xs.length ≤ 40) && specElemsF f xs) = true then evM (modF f) a xs xs.length else []
def encR (f : Int) (xs m : List Int) : List Int := if (codeB f xs m.length && specElemsF f m) = true then evM (modF f) m xs xs.length else []
def fL_cpC : PC := { ts := [listT], rs := [listT], pre := fun x => SmallL x, F := fun x => x }
def fL_sameC : PC := { ts := [listT, listT], rs := [.bool], pre := fun _ => True, F := fun x => sameF x.1 x.2 }
def fI_polyFieldC : PC := { ts := [i64T, .sl listT], rs := [fldT, .bool], pre := fun x => x.2.length = 1, F := fun x => polyFd x.1 (x.2.getD 0 []) }
def fI_EvalPolyC : PC := { ts := [i64T, listT, i64T], rs := [i64T], pre := fun _ => True, F := fun x => evPR x.1 x.2.1 x.2.2 }
def fI_VanishC : PC := { ts := [i64T, listT], rs := [listT], pre := fun _ => True, F := fun x => vanR x.1 x.2 }
def fI_EvalManyC : PC := { ts := [i64T, listT, listT], rs := [listT], pre := fun _ => True, F := fun x => evMR x.1 x.2.1 x.2.2 }
def fI_EncodeWordC : PC := { ts := [i64T, listT, listT], rs := [listT], pre := fun _ => True, F := fun x => encR x.1 x.2.1 x.2.2 }
def fI_DifferC : PC := { ts := [listT, listT], rs := [i64T], pre := fun _ => True, F := fun x => difS x.1 x.2 }
def aL_cp (x : List Int) : Nat → Option Ann := fun
  | 3 => some (.mk Nat (fun k => k ≤ x.length) (fun st k => ((st.keep 3 []).sets [(4, si k), (3, .c (.own 0))]).setEs [(0, .row true i64T (x.take k))]) (fun k => x.length - k) 0 (fun _ _ => none))
  | _ => none
def aL_same (x : List Int × List Int) := eqA (e := i64T) x 4 5 6
def aI_polyField (x : Int × List (List Int)) : Nat → Option Ann := fun
  | 5 => some (.mk Nat (fun k => k ≤ 1 ∧ (k = 1 → polyB x.1 (x.2.getD 0 []) = true)) (fun st k => (st.keep 8 [18, 19]).sets [(20, si k)]) (fun k => 1 - k) 0 (fun _ _ => none))
  | _ => none
/-- The sum of the barycentric formula, as the law adds it up. -/
def wSum (f : Int) (xs ys w : List Int) (x : Int) : Nat → Int
  | 0 => 0
  | n + 1 => addS f (wSum f xs ys w x n) (mulS f (mulS f (ys.getD n 0) (w.getD n 0)) (powS f (w64 (x - xs.getD n 0)) (-1)))
def lwX (c : List Int) : Int := (codeAt c 4).tmod (modF (pairsF c).1)
def aL_FnWeights (c : List Int) : Nat → Option Ann := fun
  | 13 => some (.mk Nat (fun k => k ≤ (pairsF c).2.1.length ∧ ∀ j, j < k → (pairsF c).2.1.getD j 0 ≠ lwX c) (fun st k => (st.keep 10 []).sets [(10, si (wSum (pairsF c).1 (pairsF c).2.1 (pairsF c).2.2 (weightsF (pairsF c).1 (pairsF c).2.1) (lwX c) k)), (11, si k)]) (fun k => (pairsF c).2.1.length - k) 0 (fun _ _ => none))
  | _ => none
/-- Which of the first 'n' numbers. -/
def flL (g : Nat → Bool) : Nat → List Int
  | 0 => []
  | n + 1 => if g n = true then flL g n ++ [(n : Int)] else flL g n
/-- A list, changed at some of the first 'n' places. -/
def chW (g : Nat → Bool) (v : Nat → Int) (w : List Int) : Nat → List Int
  | 0 => w
  | n + 1 => if g n = true then (chW g v w n).set n (v n) else chW g v w n
def dbG (c : List Int) (t : Nat) : Bool := decide ((codeAt c t).tmod 2 = 1)
def dbV (c : List Int) (f : Int) (w : List Int) (t : Nat) : Int := addS f (w.getD t 0) (w64 (1 + (codeAt c (w64 ((t : Int) + 1))).tmod (w64 (modF f - 1))))
def gpG (c : List Int) (t : Nat) : Bool := decide ((codeAt c t).tmod 3 = 0)
def gpV (f : Int) (w : List Int) (t : Nat) : Int := addS f (w.getD t 0) 1
def lwW (c : List Int) : List Int := encS (drawEW c).1 (drawEW c).2.1 (drawEW c).2.2
def aL_FnDecodeBent (c : List Int) : Nat → Option Ann := fun
  | 12 => some (.mk Nat (fun k => k ≤ (lwW c).length ∧ (flL (dbG c) k).length ≤ ((drawEW c).2.1.length - (drawEW c).2.2.length) / 2) (fun st k => ((st.keep 7 []).sets [(7, .c (.own 5)), (8, .c (.own 6)), (9, si k)]).setEs [(5, .row true i64T (chW (dbG c) (dbV c (drawEW c).1 (lwW c)) (lwW c) k)), (6, .row true i64T (flL (dbG c) k))]) (fun k => (lwW c).length - k) 0 (fun _ _ => none))
  | _ => none
def aL_FnGaps (c : List Int) : Nat → Option Ann := fun
  | 9 => some (.mk Nat (fun k => k ≤ (lwW c).length ∧ (flL (gpG c) k).length ≤ (drawEW c).2.1.length - (drawEW c).2.2.length) (fun st k => ((st.keep 6 []).sets [(6, .c (.own 2)), (7, .c (.own 3)), (8, si k)]).setEs [(2, .row true i64T (chW (gpG c) (gpV (drawEW c).1 (lwW c)) (lwW c) k)), (3, .row true i64T (flL (gpG c) k))]) (fun k => (lwW c).length - k) 0 (fun _ _ => none))
  | _ => none
end Go.SF


/- Contracts: turners drawn, and stopped anywhere. No condition. -/
namespace Go.SF
open Go.SX Go
set_option linter.unusedVariables false
def fS_l01DrawFieldQC : QB := { t := curQ, ts := [], rs := [i64T], pre := fun d _ => CqOk d, Q := fun d _ g r => CqOk g }
def fS_l01DrawElementQC : QB := { t := curQ, ts := [i64T], rs := [i64T], pre := fun d _ => CqOk d, Q := fun d _ g r => CqOk g }
def fS_l01DrawListQC : QB := { t := curQ, ts := [i64T, i64T], rs := [listT], pre := fun d x => CqOk d ∧ (show Int from x.2) ≤ 1100, Q := fun d x g r => CqOk g ∧ (show List Int from r).length ≤ 1100 }
def aS_l01DrawListQ (c : CurQ) (x : Int × Int) : Nat → Option Ann := fun
  | 3 => some (.mk (Nat × CurQ × List Int) (fun y => y.1 ≤ x.2.toNat ∧ CqOk y.2.1 ∧ y.2.2.length = y.1) (fun st y => ((st.keep 7 []).sets [(7, .c (.own 1)), (8, si y.1)]).setEs [(0, aS_curQ y.2.1), (1, .row true i64T y.2.2)]) (fun y => x.2.toNat - y.1) (0, c, []) (fun _ _ => none))
  | _ => none
def nK (k : Int) : Int := (2 ^ k.toNat / 2 : Nat)
def aS_stQ (l : List Sp) : Ent := .row true spT l
def aS_plQ (f k : Int) : Ent := .bx [ci f, ci k, .own 3]
def fS_l09DrawPlanQC : QB := { t := curQ, ts := [.sl (.int .u8)], rs := [planT], pre := fun d x => CqOk d ∧ (show List Int from x).length ≤ 9223372036854775807, Q := fun d x g r => CqOk g ∧ (show Pl from r).2.2.length ≤ 1000 }
def aS_l09DrawPlan5 : Nat → Option Ann := fun
  | 200045 => some (.mk Nat (fun _ => True) (fun st _ => st) (fun n => n) 3 (fun _ _ => none))
  | _ => none
def aS_l09DrawPlan4 (steps runs : List Sp) : Nat → Option Ann := fun
  | 30 => some (.mk (Nat × List Sp) (fun y => y.1 ≤ runs.length ∧ y.2.length = steps.length + y.1) (fun st y => ((st.keep 10 [11]).sets [(17, si y.1)]).setEs [(3, aS_stQ y.2)]) (fun y => runs.length - y.1) (0, steps) (fun _ _ => none))
  | _ => none
def aS_l09DrawPlan3 (steps runs : List Sp) (c : CurQ) : Nat → Option Ann := fun
  | 23 => some (.mk (Nat × CurQ × List Sp) (fun y => y.1 ≤ runs.length ∧ CqOk y.2.1 ∧ y.2.2.length = runs.length) (fun st y => ((st.keep 10 [11]).sets [(14, si y.1)]).setEs [(0, aS_curQ y.2.1), (4, aS_stQ y.2.2)]) (fun y => runs.length - y.1) (0, c, runs) (fun _ _ => none))
  | 100029 => some (.mk (CurQ × List Sp) (fun y => CqOk y.1 ∧ y.2.length ≤ 64) (fun st y => ((st.keep 10 [11])).setEs [(0, aS_curQ y.1), (4, aS_stQ y.2)]) (fun _ => 0) (([], 0, 0), []) (fun y => aS_l09DrawPlan4 steps y.2))
  | _ => none
def aS_l09DrawPlan2 (f k : Int) (s : Nat) (c : CurQ) (steps : List Sp) : Nat → Option Ann := fun
  | 16 => some (.mk (Nat × CurQ × List Sp) (fun y => (y.1 : Int) ≤ nK k ∧ CqOk y.2.1 ∧ y.2.2.length ≤ y.1) (fun st y => ((st.keep 11 []).sets [(11, .c (.own 4)), (12, si y.1)]).setEs [(0, aS_curQ y.2.1), (4, aS_stQ y.2.2)]) (fun y => (nK k).toNat - y.1) (0, c, []) (fun _ _ => none))
  | 100022 => some (.mk (CurQ × List Sp) (fun y => CqOk y.1 ∧ y.2.length ≤ 64) (fun st y => ((st.keep 10 []).sets [(11, .c (.own 4))]).setEs [(0, aS_curQ y.1), (4, aS_stQ y.2)]) (fun _ => 0) (([], 0, 0), []) (fun y => aS_l09DrawPlan3 steps y.2 y.1))
  | _ => none
def aS_l09DrawPlan1 (f k : Int) (c : CurQ) : Nat → Option Ann := fun
  | 11 => some (.mk (Nat × CurQ × List Sp) (fun y => (y.1 : Int) ≤ k ∧ CqOk y.2.1 ∧ y.2.2.length ≤ 64 * y.1) (fun st y => ((st.keep 9 []).sets [(9, si y.1)]).setEs [(0, aS_curQ y.2.1), (2, aS_plQ f k), (3, aS_stQ y.2.2)]) (fun y => k.toNat - y.1) (0, c, []) (fun y => aS_l09DrawPlan2 f k y.1 y.2.1 y.2.2))
  | 100033 => some (.mk (CurQ × List Sp) (fun y => CqOk y.1 ∧ y.2.length ≤ 400) (fun st y => ((st.keep 9 [])).setEs [(0, aS_curQ y.1), (2, aS_plQ f k), (3, aS_stQ y.2)]) (fun _ => 0) (([], 0, 0), []) (fun _ => aS_l09DrawPlan5))
  | _ => none
def aS_l09DrawPlan0 : Nat → Option Ann := fun
  | 100009 => some (.mk (CurQ × Int × Int) (fun y => CqOk y.1 ∧ 0 ≤ y.2.2 ∧ y.2.2 ≤ 6) (fun st y => ((st.keep 5 []).sets [(5, si y.2.1), (6, si y.2.2)]).setEs [(0, aS_curQ y.1)]) (fun _ => 0) (([], 0, 0), 0, 0) (fun y => aS_l09DrawPlan1 y.2.1 y.2.2 y.1))
  | _ => none
def aS_l09DrawPlan (c : CurQ) (x : List Int) : Nat → Option Ann := fun
  | 100005 => some (.mk (CurQ × Int × Int) (fun y => CqOk y.1 ∧ 0 ≤ y.2.2 ∧ y.2.2 ≤ 6 ∧ 0 ≤ y.2.1 ∧ y.2.1 < 9) (fun st y => ((st.keep 5 []).sets [(5, si y.2.1), (6, si y.2.2)]).setEs [(0, aS_curQ y.1)]) (fun _ => 0) (([], 0, 0), 0, 0) (fun y => aS_l09DrawPlan0))
  | _ => none
def drwQ (r : Pl × List Int) : Prop := r.1.2.2.length ≤ 1000 ∧ r.2.length ≤ 1100
def fS_DrawRunPlanQC : QC := { ts := [.sl (.int .u8)], rs := [planT, listT], pre := fun x => (show List Int from x).length ≤ 9223372036854775807, Q := fun x r => drwQ r }
def fS_DrawStartTurnerQC : QC := { ts := [.sl (.int .u8)], rs := [planT, listT], pre := fun x => (show List Int from x).length ≤ 9223372036854775807, Q := fun x r => drwQ r }
def planCostF (p : Pl) : Int := if planOkF p = true then p.2.1 * halfF p.2.1 else -1
def fS_PlanCostC : PC := { ts := [planT], rs := [i64T], pre := fun _ => True, F := fun x => planCostF x }
def fL_cpPlanC : PC := { ts := [planT], rs := [planT], pre := fun x => x.2.2.length ≤ 1048576, F := fun x => x }
def aL_cpPlan (x : Pl) : Nat → Option Ann := fun
  | 3 => some (.mk Nat (fun k => k ≤ x.2.2.length) (fun st k => ((st.keep 4 []).sets [(4, si k)]).setEs [(2, .bx [ci x.1, ci x.2.1, .own 3]), (3, aS_stQ (x.2.2.take k))]) (fun k => x.2.2.length - k) 0 (fun _ _ => none))
  | _ => none
/-- The levels that are met at each place are the first ones. -/
def StaP (p : Pl) (u v : List Int) (n : Nat) : Prop :=
  ∀ q, q < u.length → ∃ c, c ≤ p.2.1.toNat ∧ (∀ l, l < p.2.1.toNat → (0 < cnt (p.2.2.take n) l (bOf l q) ↔ l < c)) ∧ v.getD q 0 = lev (fieldF p.1).1 u c q
abbrev StX := List Int × Nat × Int
def stopJ (p : Pl) (v : List Int) (x : StX) : Prop := turnOkF (p, x.1, (x.2.1 : Int)) = true ∧ StaP p (permF v) x.1 x.2.1 ∧ x.2.2 = manyF (p.2.2.take x.2.1)
def aL_FnStop2 (d : List Int) (p : Pl) (v : List Int) : Nat → Option Ann := fun
  | 12 => some (.mk (Nat × StX) (fun y => y.1 ≤ 60 ∧ stopJ p v y.2) (fun st y => ((st.keep 9 []).sets [(9, si y.2.2.2), (10, si y.1)]).setEs [(6, .row true spT p.2.2), (7, .row true i64T y.2.1), (8, .bx [ci p.1, ci p.2.1, .own 6, .own 7, ci y.2.2.1])]) (fun y => 60 - y.1) (0, permF v, 0, 0) (fun _ _ => none))
  | _ => none
def aL_FnStop (d : List Int) : Nat → Option Ann := fun
  | 100004 => some (.mk (Pl × List Int) (fun r => drwQ r) (fun st r => ((st.keep 3 []).sets [(3, .c (.box 0 0)), (4, .c (.rd true i64T r.2))]).setEs [(0, .bx [ci r.1.1, ci r.1.2.1, .rd true spT r.1.2.2])]) (fun _ => 0) ((0, 0, []), []) (fun r => aL_FnStop2 d r.1 r.2))
  | _ => none
end Go.SF

