/- A verified symbolic executor and its contracts (part SxC). No condition. -/
import Derived.Test.YtnjihkeflkemdaaSxH
import Derived.IntWalk
import Derived.Test.YtnjihkeflkemdaaSxG
/- Contracts: what all share. No condition. -/
namespace Go.SF
open Go.SX Go
set_option linter.unusedVariables false
def gOf : List (Nat × PC) → FuncId → Option PC
  | [], _ => none
  | (k, c) :: r, f => if f = k then some c else gOf r f
def rOf : List (Nat × Rule) → FuncId → Option Rule
  | [], _ => none
  | (k, c) :: r, f => if f = k then some c else rOf r f
/-- Literals tell their blocks. -/
def tellR : Rule := fun _ _ _ => False
def R0 : FuncId → Option Rule := fun _ => none
def noB {X Y : Type} : X → Y → Nat → Option Ann := fun _ _ _ => none
def noA {X : Type} : X → Nat → Option Ann := fun _ _ => none
def si (n : Int) : S := .c (.val (.int .i64 n))
abbrev i64T : Ty := .int .i64
def w64 (n : Int) : Int := IntKind.i64.wrap n
def szF (n : Nat) (left : Int) : Int := if w64 (left - n) < 0 then -1 else w64 (left - n)
/-- A copy, element by element. -/
def copyA {e : Ty} (x : List e.den) (key i out m : Nat) : Nat → Option Ann := fun k =>
  if k = key then some (.mk Nat (fun k => k ≤ x.length) (fun st k => ((st.keep m []).sets [(i, si k), (out, .c (.own 0))]).setEs [(0, .row true e (x.take k ++ List.replicate (x.length - k) e.dflt))]) (fun k => x.length - k) 0 (fun _ _ => none))
  else none
/-- Two lists, element by element. -/
def eqA {e : Ty} (x : List e.den × List e.den) (key i m : Nat) : Nat → Option Ann := fun k =>
  if k = key then some (.mk Nat (fun k => k ≤ x.1.length ∧ x.1.length = x.2.length ∧ x.1.take k = x.2.take k) (fun st k => (st.keep m []).sets [(i, si k)]) (fun k => x.1.length - k) 0 (fun _ _ => none))
  else none
def fS_l01InC : PC := { ts := [i64T, i64T, i64T], rs := [.bool], pre := fun _ => True, F := fun x => decide (x.2.1 ≤ x.1) && decide (x.1 ≤ x.2.2) }
theorem getD_drop_cons {α : Type} {l : List α} {i : Nat} {x : α} (h : i < l.length) : l.drop i = l.getD i x :: l.drop (i + 1) := by
  rw [List.drop_eq_getElem_cons h]; simp [h]
theorem wrap_small {n : Int} (h : -9223372036854775808 ≤ n ∧ n ≤ 9223372036854775807) : IntKind.i64.wrap n = n := by
  rw [IntKind.wrap_i64]; omega
theorem wrap_succ {n : Nat} (h : n < 9223372036854775807) : IntKind.i64.wrap ((n : Int) + 1) = ((n + 1 : Nat) : Int) := by
  rw [wrap_small (by omega)]; rfl
theorem copy_step {α : Type} (l : List α) (z : α) {i : Nat} (h : i < l.length) : (l.take i ++ List.replicate (l.length - i) z).set i (l.getD i z) = l.take (i + 1) ++ List.replicate (l.length - (i + 1)) z := by
  apply List.ext_getElem?
  intro j
  simp only [List.getElem?_set, List.getElem?_append, List.getElem?_take, List.getElem?_replicate, List.length_take, List.length_append, List.length_replicate, List.getD_eq_getElem?_getD]
  grind
theorem take_ext {α : Type} {a b : List α} {z : α} {i : Nat} (hl : a.length = b.length) (hi : i < a.length) (h : a.take i = b.take i) : (a.take (i + 1) = b.take (i + 1) ↔ a.getD i z = b.getD i z) ∧ (a = b → a.getD i z = b.getD i z) := by
  refine ⟨?_, fun e => by rw [e]⟩
  rw [List.take_add_one, List.take_add_one, h, List.append_cancel_left_eq]
  rw [List.getElem?_eq_getElem hi, List.getElem?_eq_getElem (show i < b.length by omega)]
  simp [hi, show i < b.length by omega]
end Go.SF


/- Contracts: lines of tickets. No condition. -/
namespace Go.SF
open Go.SX Go
set_option linter.unusedVariables false
abbrev tkT : Ty := .st (.pr (.int .i64) (.int .i64))
abbrev Tk := Int × Int
abbrev lineT : Ty := .st (.sl tkT)
def isTicketF (t : Tk) : Bool := decide (1 ≤ t.1) && decide (t.1 ≤ 1000000000) && decide (1 ≤ t.2) && decide (t.2 ≤ 200000)
/-- The first 'k' tickets: each is one, the numbers rise. -/
def LineP (xs : List Tk) (k : Nat) : Prop := ∀ j, j < k → isTicketF (xs.getD j (0, 0)) = true ∧ (0 < j → (xs.getD (j - 1) (0, 0)).1 < (xs.getD j (0, 0)).1)
instance (xs : List Tk) (k : Nat) : Decidable (LineP xs k) := by unfold LineP; infer_instance
def lineOkF (xs : List Tk) : Bool := decide (xs.length ≤ 40) && decide (LineP xs xs.length)
def costGo : List Tk → Int → Int
  | [], s => s
  | x :: xs, s => costGo xs (w64 (s + x.2))
def lineCostF (xs : List Tk) : Int := if lineOkF xs then costGo xs 0 else -1
def fL_szTicketSC : PC := { ts := [.sl tkT, i64T], rs := [i64T], pre := fun _ => True, F := fun x => szF x.1.length x.2 }
def fL_szLineC : PC := { ts := [lineT, i64T], rs := [i64T], pre := fun _ => True, F := fun x => szF x.1.length x.2 }
def fL_toTicketC : PC := { ts := [tkT], rs := [tkT], pre := fun _ => True, F := fun x => x }
def fL_toTicketSC : PC := { ts := [.sl tkT], rs := [.sl tkT], pre := fun x => x.length ≤ 1048576, F := fun x => x }
def fL_toLineC : PC := { ts := [lineT], rs := [lineT], pre := fun x => x.length ≤ 1048576, F := fun x => x }
def fL_eqTicketC : PC := { ts := [tkT, tkT], rs := [.bool], pre := fun _ => True, F := fun x => decide (x.1 = x.2) }
def fL_eqTicketSC : PC := { ts := [.sl tkT, .sl tkT], rs := [.bool], pre := fun _ => True, F := fun x => decide (x.1 = x.2) }
def fL_eqLineC : PC := { ts := [lineT, lineT], rs := [.bool], pre := fun _ => True, F := fun x => decide (x.1 = x.2) }
def aL_toTicketS (x : List Tk) := copyA (e := tkT) x 3 4 3 5
def aL_eqTicketS (x : List Tk × List Tk) := eqA (e := tkT) x 4 5 6
def fS_l13TicketC : PC := { ts := [tkT], rs := [.bool], pre := fun _ => True, F := fun x => isTicketF x }
def fI_isTicketC : PC := { ts := [tkT], rs := [.bool], pre := fun _ => True, F := fun x => isTicketF x }
def fS_LineOkC : PC := { ts := [lineT], rs := [.bool], pre := fun _ => True, F := fun x => lineOkF x }
def fI_isLineC : PC := { ts := [lineT], rs := [.bool], pre := fun _ => True, F := fun x => lineOkF x }
def fI_costOfC : PC := { ts := [.sl tkT], rs := [i64T], pre := fun _ => True, F := fun x => costGo x 0 }
def fS_LineCostC : PC := { ts := [lineT], rs := [i64T], pre := fun _ => True, F := fun x => lineCostF x }
def fI_LineCostC : PC := { ts := [lineT], rs := [i64T], pre := fun _ => True, F := fun x => lineCostF x }
def aS_LineOk (x : List Tk) : Nat → Option Ann := fun
  | 4 => some (.mk Nat (fun k => k ≤ x.length ∧ LineP x k) (fun st k => (st.keep 3 []).sets [(3, si k)]) (fun k => x.length - k) 0 (fun _ _ => none))
  | _ => none
def aI_isLine (x : List Tk) : Nat → Option Ann := fun
  | 2 => some (.mk Nat (fun k => k ≤ x.length ∧ LineP x k) (fun st k => (st.keep 3 [6, 7]).sets [(8, si k)]) (fun k => x.length - k) 0 (fun _ _ => none))
  | _ => none
def aI_costOf (x : List Tk) : Nat → Option Ann := fun
  | 3 => some (.mk (Nat × Int) (fun k => k.1 ≤ x.length ∧ costGo (x.drop k.1) k.2 = costGo x 0) (fun st k => (st.keep 3 [6, 7]).sets [(8, si k.1), (3, si k.2)]) (fun k => x.length - k.1) (0, 0) (fun _ _ => none))
  | _ => none
def aS_LineCost (x : List Tk) : Nat → Option Ann := fun
  | 5 => some (.mk (Nat × Int) (fun k => k.1 ≤ x.length ∧ costGo (x.drop k.1) k.2 = costGo x 0) (fun st k => (st.keep 3 []).sets [(4, si k.1), (3, si k.2)]) (fun k => x.length - k.1) (0, 0) (fun _ _ => none))
  | _ => none
def idxGo (id : Int) : List Tk → Nat → Int
  | [], _ => -1
  | x :: xs, k => if x.1 = id then (k : Int) else idxGo id xs (k + 1)
def placeF (xs : List Tk) (id : Int) : Int := if lineOkF xs then idxGo id xs 0 else -1
def fI_placeOf1C : PC := { ts := [tkT, .ptr i64T], rs := [.bool], pre := fun _ => True, F := fun x => decide (x.1.1 = x.2) }
def fG_IndexFuncTkC (g : Nat) : PC := { ts := [.sl tkT, .clo g (.ptr i64T)], rs := [i64T], pre := fun _ => True, F := fun x => idxGo x.2 x.1 0 }
def fI_placeOfC : PC := { ts := [lineT, i64T], rs := [i64T], pre := fun _ => True, F := fun x => idxGo x.2 x.1 0 }
def fS_PlaceOfC : PC := { ts := [lineT, i64T], rs := [i64T], pre := fun _ => True, F := fun x => placeF x.1 x.2 }
def fI_PlaceOfC : PC := { ts := [lineT, i64T], rs := [i64T], pre := fun _ => True, F := fun x => placeF x.1 x.2 }
def aG_IndexFuncTk (x : List Tk × Int) : Nat → Option Ann := fun
  | 2 => some (.mk Nat (fun k => k ≤ x.1.length ∧ idxGo x.2 (x.1.drop k) k = idxGo x.2 x.1 0) (fun st k => (st.keep 6 [7]).sets [(8, si k)]) (fun k => x.1.length - k) 0 (fun _ _ => none))
  | _ => none
def aS_PlaceOf (x : List Tk × Int) : Nat → Option Ann := fun
  | 4 => some (.mk Nat (fun k => k ≤ x.1.length ∧ idxGo x.2 (x.1.drop k) k = idxGo x.2 x.1 0) (fun st k => (st.keep 6 []).sets [(5, si k)]) (fun k => x.1.length - k) 0 (fun _ _ => none))
  | _ => none
def aheadF (xs : List Tk) (id : Int) : Int := if lineOkF xs = true ∧ 0 ≤ idxGo id xs 0 then costGo (xs.take (idxGo id xs 0).toNat) 0 else -1
def fS_AheadC : PC := { ts := [lineT, i64T], rs := [i64T], pre := fun _ => True, F := fun x => aheadF x.1 x.2 }
def fI_AheadC : PC := { ts := [lineT, i64T], rs := [i64T], pre := fun _ => True, F := fun x => aheadF x.1 x.2 }
end Go.SF


/- Contracts: ServedCost. No condition. -/
namespace Go.SF
open Go.SX Go
set_option linter.unusedVariables false
abbrev svT : Ty := .st (.pr (.int .i64) (.pr (.int .i64) (.int .i64)))
abbrev Sv := Int × Int × Int
def servedGo (t : Int) : List Sv → Int → Int
  | [], s => s
  | x :: xs, s => if 1 ≤ x.2.2 ∧ x.2.2 ≤ 200000 then servedGo t xs (if x.1 = t then w64 (s + x.2.2) else s) else -1
def servedF (xs : List Sv) (t : Int) : Int := if 4096 < xs.length then -1 else servedGo t xs 0
def fL_toServedC : PC := { ts := [svT], rs := [svT], pre := fun _ => True, F := fun x => x }
def fL_eqServedC : PC := { ts := [svT, svT], rs := [.bool], pre := fun _ => True, F := fun x => decide (x.1 = x.2) }
def fL_szServedSC : PC := { ts := [.sl svT, i64T], rs := [i64T], pre := fun _ => True, F := fun x => szF x.1.length x.2 }
def fL_toServedSC : PC := { ts := [.sl svT], rs := [.sl svT], pre := fun x => x.length ≤ 1048576, F := fun x => x }
def fL_eqServedSC : PC := { ts := [.sl svT, .sl svT], rs := [.bool], pre := fun _ => True, F := fun x => decide (x.1 = x.2) }
def fS_ServedCostC : PC := { ts := [.sl svT, i64T], rs := [i64T], pre := fun _ => True, F := fun x => servedF x.1 x.2 }
def fI_ServedCostC : PC := { ts := [.sl svT, i64T], rs := [i64T], pre := fun _ => True, F := fun x => servedF x.1 x.2 }
def aS_ServedCost (x : List Sv × Int) : Nat → Option Ann := fun
  | 5 => some (.mk (Nat × Int) (fun k => k.1 ≤ x.1.length ∧ servedGo x.2 (x.1.drop k.1) k.2 = servedGo x.2 x.1 0) (fun st k => (st.keep 7 []).sets [(6, si k.1), (5, si k.2)]) (fun k => x.1.length - k.1) (0, 0) (fun _ _ => none))
  | _ => none
def aI_ServedCost (x : List Sv × Int) : Nat → Option Ann := fun
  | 5 => some (.mk (Nat × Int) (fun k => k.1 ≤ x.1.length ∧ servedGo x.2 (x.1.drop k.1) k.2 = servedGo x.2 x.1 0) (fun st k => ((st.keep 7 [11, 12]).sets [(13, si k.1), (5, si k.2)]).setEs [(0, .dead)]) (fun k => x.1.length - k.1) (0, 0) (fun _ _ => none))
  | _ => none
def aL_toServedS (x : List Sv) := copyA (e := svT) x 3 4 3 5
def aL_eqServedS (x : List Sv × List Sv) := eqA (e := svT) x 4 5 6
end Go.SF


/- Contracts: lines that are made anew. No condition. -/
namespace Go.SF
open Go.SX Go
set_option linter.unusedVariables false
def pushF (xs : List Tk) (t : Tk) : List Tk × Bool := if lineOkF xs = true ∧ lineOkF (xs ++ [t]) = true then (xs ++ [t], true) else (xs, false)
def ipushF (xs : List Tk) (t : Tk) : List Tk × Bool := if lineOkF (xs ++ [t]) = true then (xs ++ [t], true) else (xs, false)
def goneGo (id : Int) : List Tk → Tk → Tk
  | [], g => g
  | x :: xs, g => goneGo id xs (if x.1 = id then x else g)
def restF (id : Int) (xs : List Tk) : List Tk := xs.filter (fun t => !decide (t.1 = id))
def cancelSF (xs : List Tk) (id : Int) : List Tk × Tk × Bool :=
  if lineOkF xs = true then (restF id xs, goneGo id xs (0, 0), !decide ((goneGo id xs (0, 0)).1 = 0)) else (xs, (0, 0), false)
def popF (xs : List Tk) : List Tk × Tk × Bool := if lineOkF xs = true ∧ xs.length ≠ 0 then (xs.drop 1, xs.getD 0 (0, 0), true) else (xs, (0, 0), false)
def cw (n : Int) : C := .val (.int .i64 n)
def fS_l13CopyC : PC := { ts := [lineT], rs := [lineT], pre := fun x => x.length ≤ 1048576, F := fun x => x }
def fI_copyLineC : PC := { ts := [lineT], rs := [lineT], pre := fun x => x.length ≤ 1048576, F := fun x => x }
def fI_pushC : PC := { ts := [lineT, tkT], rs := [lineT, .bool], pre := fun x => x.1.length ≤ 1048576, F := fun x => ipushF x.1 x.2 }
def fS_PushC : PC := { ts := [lineT, tkT], rs := [lineT, .bool], pre := fun x => x.1.length ≤ 1048576, F := fun x => pushF x.1 x.2 }
def fI_PushC : PC := { ts := [lineT, tkT], rs := [lineT, .bool], pre := fun x => x.1.length ≤ 1048576, F := fun x => pushF x.1 x.2 }
def fS_CancelC : PC := { ts := [lineT, i64T], rs := [lineT, tkT, .bool], pre := fun x => x.1.length ≤ 1048576, F := fun x => cancelSF x.1 x.2 }
def fS_PopC : PC := { ts := [lineT], rs := [lineT, tkT, .bool], pre := fun x => x.length ≤ 1048576, F := fun x => popF x }
def fI_PopC : PC := { ts := [lineT], rs := [lineT, tkT, .bool], pre := fun x => x.length ≤ 1048576, F := fun x => popF x }
def aS_l13Copy (x : List Tk) : Nat → Option Ann := fun
  | 3 => some (.mk Nat (fun k => k ≤ x.length) (fun st k => ((st.keep 4 []).sets [(4, si k)]).setEs [(2, .bx [.own 3]), (3, .row true tkT (x.take k))]) (fun k => x.length - k) 0 (fun _ _ => none))
  | _ => none
def aS_Cancel (x : List Tk × Int) : Nat → Option Ann := fun
  | 6 => some (.mk (Nat × Tk) (fun k => k.1 ≤ x.1.length ∧ k.2 = goneGo x.2 (x.1.take k.1) (0, 0)) (fun st k => ((st.keep 9 []).sets [(9, si k.1)]).setEs [(3, .bx [.own 5]), (4, .bx [cw k.2.1, cw k.2.2]), (5, .row true tkT (restF x.2 (x.1.take k.1)))]) (fun k => x.1.length - k.1) (0, (0, 0)) (fun _ _ => none))
  | _ => none
end Go.SF


/- Contracts: crews of hands. No condition. -/
namespace Go.SF
open Go.SX Go
set_option linter.unusedVariables false
abbrev hdT : Ty := .st (.pr (.int .i64) (.pr (.int .i64) (.int .i64)))
abbrev Hd := Int × Int × Int
abbrev crewT : Ty := .st (.pr (.int .i64) (.sl hdT))
abbrev Cr := Int × List Hd
def hd0 : Hd := (0, 0, 0)
def idleF (h : Hd) : Bool := decide (h.1 = 0) && (decide (h.2.1 = 0) && decide (h.2.2 = 0))
def handOkF (h : Hd) : Bool := decide (0 ≤ h.1 ∧ h.1 ≤ 99) && isTicketF (h.2.1, h.2.2)
/-- No hand before 'j' has the work of hand 'k'. -/
def ClashP (xs : List Hd) (k j : Nat) : Prop := ∀ i, i < j → ¬ ((xs.getD i (0, 0, 0)).1 = (xs.getD k (0, 0, 0)).1 ∧ (xs.getD i (0, 0, 0)).2.1 = (xs.getD k (0, 0, 0)).2.1)
instance decClashP (xs : List Hd) (k j : Nat) : Decidable (ClashP xs k j) := by unfold ClashP; infer_instance
/-- The first 'k' hands are idle or well. -/
def CrewP (xs : List Hd) (k : Nat) : Prop := ∀ j, j < k → idleF (xs.getD j (0, 0, 0)) = true ∨ (handOkF (xs.getD j (0, 0, 0)) = true ∧ ClashP xs j j)
instance decCrewP (xs : List Hd) (k : Nat) : Decidable (CrewP xs k) := by unfold CrewP; infer_instance
def crewOkF (pace : Int) (xs : List Hd) : Bool := decide (1 ≤ pace ∧ pace ≤ 200000) && decide (1 ≤ xs.length ∧ xs.length ≤ 8) && decide (CrewP xs xs.length)
def hidxGo (t i : Int) : List Hd → Nat → Int
  | [], _ => -1
  | h :: hs, k => if h.2.1 ≠ 0 ∧ h.1 = t ∧ h.2.1 = i then (k : Int) else hidxGo t i hs (k + 1)
def idleGo : List Hd → Nat → Int
  | [], _ => -1
  | h :: hs, k => if idleF h then (k : Int) else idleGo hs (k + 1)
def busyGo : List Hd → Int → Int
  | [], s => s
  | h :: hs, s => busyGo hs (w64 (s + h.2.2))
def tickOf (pace : Int) (h : Hd) : Int := w64 ((w64 (w64 (h.2.2 + pace) - 1)).tdiv pace)
def ticksGo (pace : Int) : List Hd → Int → Int
  | [], m => m
  | h :: hs, m => ticksGo pace hs (imax m (tickOf pace h))
def busyF (c : Cr) : Int := if crewOkF c.1 c.2 then busyGo c.2 0 else -1
def ticksF (c : Cr) : Int := if crewOkF c.1 c.2 then ticksGo c.1 c.2 0 else -1
def idleIdF (c : Cr) : Int := if crewOkF c.1 c.2 then idleGo c.2 0 else -1
def fL_szHandSC : PC := { ts := [.sl hdT, i64T], rs := [i64T], pre := fun _ => True, F := fun x => szF x.1.length x.2 }
def fL_szCrewC : PC := { ts := [crewT, i64T], rs := [i64T], pre := fun _ => True, F := fun x => szF x.1.2.length x.2 }
def fL_toHandC : PC := { ts := [hdT], rs := [hdT], pre := fun _ => True, F := fun x => x }
def fL_toHandSC : PC := { ts := [.sl hdT], rs := [.sl hdT], pre := fun x => x.length ≤ 1048576, F := fun x => x }
def fL_toCrewC : PC := { ts := [crewT], rs := [crewT], pre := fun x => x.2.length ≤ 1048576, F := fun x => x }
def fL_eqHandC : PC := { ts := [hdT, hdT], rs := [.bool], pre := fun _ => True, F := fun x => decide (x.1 = x.2) }
def fL_eqHandSC : PC := { ts := [.sl hdT, .sl hdT], rs := [.bool], pre := fun _ => True, F := fun x => decide (x.1 = x.2) }
def fL_eqCrewC : PC := { ts := [crewT, crewT], rs := [.bool], pre := fun _ => True, F := fun x => decide (x.1 = x.2) }
def aL_toHandS (x : List Hd) := copyA (e := hdT) x 3 4 3 5
def aL_eqHandS (x : List Hd × List Hd) := eqA (e := hdT) x 4 5 6
def fS_l15IdleC : PC := { ts := [hdT], rs := [.bool], pre := fun _ => True, F := fun x => idleF x }
def fS_CrewOkC : PC := { ts := [crewT], rs := [.bool], pre := fun _ => True, F := fun x => crewOkF x.1 x.2 }
def fI_isCrewC : PC := { ts := [crewT], rs := [.bool], pre := fun _ => True, F := fun x => crewOkF x.1 x.2 }
def fI_CrewOkC : PC := { ts := [crewT], rs := [.bool], pre := fun _ => True, F := fun x => crewOkF x.1 x.2 }
def fI_handOf1C : PC := { ts := [hdT, .ptr i64T, .ptr i64T], rs := [.bool], pre := fun _ => True, F := fun x => decide (x.1.2.1 ≠ 0 ∧ x.1.1 = x.2.1 ∧ x.1.2.1 = x.2.2) }
def fG_IndexFuncHdC (g : Nat) : PC := { ts := [.sl hdT, .clo g (.pr (.ptr i64T) (.ptr i64T))], rs := [i64T], pre := fun _ => True, F := fun x => hidxGo x.2.1 x.2.2 x.1 0 }
def fI_handOfC : PC := { ts := [.sl hdT, i64T, i64T], rs := [i64T], pre := fun _ => True, F := fun x => hidxGo x.2.1 x.2.2 x.1 0 }
def fS_BusyUnitsC : PC := { ts := [crewT], rs := [i64T], pre := fun _ => True, F := fun x => busyF x }
def fI_BusyUnitsC : PC := { ts := [crewT], rs := [i64T], pre := fun _ => True, F := fun x => busyF x }
def fS_TicksLeftC : PC := { ts := [crewT], rs := [i64T], pre := fun _ => True, F := fun x => ticksF x }
def fI_TicksLeftC : PC := { ts := [crewT], rs := [i64T], pre := fun _ => True, F := fun x => ticksF x }
def fS_IdleHandC : PC := { ts := [crewT], rs := [i64T], pre := fun _ => True, F := fun x => idleIdF x }
def fI_IdleHandC : PC := { ts := [crewT], rs := [i64T], pre := fun _ => True, F := fun x => idleIdF x }
def fG_IndexHdC : PC := { ts := [.sl hdT, hdT], rs := [i64T], pre := fun x => x.2 = (0, 0, 0), F := fun x => idleGo x.1 0 }
def aS_CrewOk2 (x : Cr) (k : Nat) : Nat → Option Ann := fun
  | 11 => some (.mk Nat (fun j => j ≤ k ∧ ClashP x.2 k j) (fun st j => (st.keep 5 []).sets [(5, si j)]) (fun j => k - j) 0 (fun _ _ => none))
  | _ => none
def aS_CrewOk (x : Cr) : Nat → Option Ann := fun
  | 4 => some (.mk Nat (fun k => k ≤ x.2.length ∧ CrewP x.2 k) (fun st k => (st.keep 3 []).sets [(3, si k)]) (fun k => x.2.length - k) 0 (fun k => aS_CrewOk2 x k))
  | _ => none
def aI_isCrew (x : Cr) : Nat → Option Ann := fun
  | 4 => some (.mk Nat (fun k => k ≤ x.2.length ∧ CrewP x.2 k) (fun st k => (st.keep 3 [26, 27]).sets [(28, si k)]) (fun k => x.2.length - k) 0 (fun _ _ => none))
  | _ => none
def aG_IndexFuncHd (x : List Hd × Int × Int) : Nat → Option Ann := fun
  | 2 => some (.mk Nat (fun k => k ≤ x.1.length ∧ hidxGo x.2.1 x.2.2 (x.1.drop k) k = hidxGo x.2.1 x.2.2 x.1 0) (fun st k => (st.keep 6 [7]).sets [(8, si k)]) (fun k => x.1.length - k) 0 (fun _ _ => none))
  | _ => none
def aI_BusyUnits (x : Cr) : Nat → Option Ann := fun
  | 5 => some (.mk (Nat × Int) (fun k => k.1 ≤ x.2.length ∧ busyGo (x.2.drop k.1) k.2 = busyGo x.2 0) (fun st k => (st.keep 3 [10, 11]).sets [(12, si k.1), (3, si k.2)]) (fun k => x.2.length - k.1) (0, 0) (fun _ _ => none))
  | _ => none
def aS_BusyUnits (x : Cr) : Nat → Option Ann := fun
  | 5 => some (.mk (Nat × Int) (fun k => k.1 ≤ x.2.length ∧ busyGo (x.2.drop k.1) k.2 = busyGo x.2 0) (fun st k => (st.keep 3 []).sets [(4, si k.1), (3, si k.2)]) (fun k => x.2.length - k.1) (0, 0) (fun _ _ => none))
  | _ => none
def aI_TicksLeft (x : Cr) : Nat → Option Ann := fun
  | 5 => some (.mk (Nat × Int) (fun k => k.1 ≤ x.2.length ∧ ticksGo x.1 (x.2.drop k.1) k.2 = ticksGo x.1 x.2 0) (fun st k => (st.keep 3 [10, 11]).sets [(12, si k.1), (3, si k.2)]) (fun k => x.2.length - k.1) (0, 0) (fun _ _ => none))
  | _ => none
def aS_TicksLeft (x : Cr) : Nat → Option Ann := fun
  | 5 => some (.mk (Nat × Int) (fun k => k.1 ≤ x.2.length ∧ ticksGo x.1 (x.2.drop k.1) k.2 = ticksGo x.1 x.2 0) (fun st k => (st.keep 3 []).sets [(4, si k.1), (3, si k.2)]) (fun k => x.2.length - k.1) (0, 0) (fun _ _ => none))
  | _ => none
def aS_IdleHand (x : Cr) : Nat → Option Ann := fun
  | 4 => some (.mk Nat (fun k => k ≤ x.2.length ∧ idleGo (x.2.drop k) k = idleGo x.2 0) (fun st k => (st.keep 3 []).sets [(3, si k)]) (fun k => x.2.length - k) 0 (fun _ _ => none))
  | _ => none
def aG_IndexHd (x : List Hd × Hd) : Nat → Option Ann := fun
  | 2 => some (.mk Nat (fun k => k ≤ x.1.length ∧ idleGo (x.1.drop k) k = idleGo x.1 0) (fun st k => (st.keep 5 [7]).sets [(8, si k)]) (fun k => x.1.length - k) 0 (fun _ _ => none))
  | _ => none
end Go.SF


/- Contracts: marks. No condition. -/
namespace Go.SF
open Go.SX Go
set_option linter.unusedVariables false
def noM0 {X : Type} : X → Int → Nat → Option Ann := fun _ _ _ => none
/-- Each element is made anew out of the number that it is its turn with. -/
def mkGo {α : Type} (el : Int → α) (nx : Int → Int) : List α → Int → List α
  | [], _ => []
  | _ :: xs, k => el k :: mkGo el nx xs (nx k)
def mkEnd {α : Type} (nx : Int → Int) : List α → Int → Int
  | [], k => k
  | _ :: xs, k => mkEnd nx xs (nx k)
def heldGo {α : Type} (ok : α → Int → Bool) (nx : Int → Int) : List α → Int → Int
  | [], k => k
  | x :: xs, k => if ok x k then heldGo ok nx xs (nx k) else -1
def n1 (k : Int) : Int := w64 (k + 1)
def n2 (k : Int) : Int := w64 (w64 (k + 1) + 1)
def n3 (k : Int) : Int := w64 (w64 (w64 (k + 1) + 1) + 1)
def el1 (k : Int) : Int := k
def el2 (k : Int) : Int × Int := (k, w64 (k + 1))
def el3 (k : Int) : Int × Int × Int := (k, w64 (k + 1), w64 (w64 (k + 1) + 1))
def ok1 (x : Int) (k : Int) : Bool := decide (x = k)
def ok2 (x : Int × Int) (k : Int) : Bool := decide (x.1 = k ∧ x.2 = w64 (k + 1))
def ok3 (x : Int × Int × Int) (k : Int) : Bool := decide (x.1 = k ∧ x.2.1 = w64 (k + 1) ∧ x.2.2 = w64 (w64 (k + 1) + 1))
def held1 (xs : List Int) (k : Int) : Int := heldGo ok1 n1 xs k
def held2 (xs : List (Int × Int)) (k : Int) : Int := heldGo ok2 n2 xs k
def held3 (xs : List (Int × Int × Int)) (k : Int) : Int := heldGo ok3 n3 xs k
def mark1 (xs : List Int) (k : Int) : List Int := mkGo el1 n1 xs k
def mark2 (xs : List (Int × Int)) (k : Int) : List (Int × Int) := mkGo el2 n2 xs k
def mark3 (xs : List (Int × Int × Int)) (k : Int) : List (Int × Int × Int) := mkGo el3 n3 xs k
def end1 (xs : List Int) (k : Int) : Int := mkEnd n1 xs k
def end2 (xs : List (Int × Int)) (k : Int) : Int := mkEnd n2 xs k
def end3 (xs : List (Int × Int × Int)) (k : Int) : Int := mkEnd n3 xs k
def neg1 (k : Int) : Int := if k < 0 then -1 else k
def markA {e : Ty} (mk : List e.den → Int → List e.den) (en : List e.den → Int → Int) (x : List e.den) (k : Int) : Nat → Option Ann := fun
  | 2 => some (.mk (Nat × Int) (fun j => j.1 ≤ x.length ∧ j.2 = en (x.take j.1) k) (fun st j => ((st.keep 1 []).sets [(5, si j.1), (1, si j.2)]).setEs [(0, .row false e (mk (x.take j.1) k ++ x.drop j.1))]) (fun j => x.length - j.1) (0, k) (fun _ _ => none))
  | _ => none
def heldA {e : Ty} (he : List e.den → Int → Int) (x : List e.den × Int) : Nat → Option Ann := fun
  | 2 => some (.mk (Nat × Int) (fun j => j.1 ≤ x.1.length ∧ he (x.1.drop j.1) j.2 = he x.1 x.2) (fun st j => (st.keep 1 []).sets [(5, si j.1), (1, si j.2)]) (fun j => x.1.length - j.1) (0, x.2) (fun _ _ => none))
  | _ => none
def fL_markHandSC : MC := { t := .sl hdT, pre := fun _ _ => True, F := fun x k => end3 x k, G := fun x k => mark3 x k }
def fL_heldHandSC : PC := { ts := [.sl hdT, i64T], rs := [i64T], pre := fun _ => True, F := fun x => held3 x.1 x.2 }
def fL_markCrewC : MC := { t := crewT, pre := fun _ _ => True, F := fun x k => end3 x.2 k, G := fun x k => (x.1, mark3 x.2 k) }
def fL_heldCrewC : PC := { ts := [crewT, i64T], rs := [i64T], pre := fun _ => True, F := fun x => neg1 (held3 x.1.2 x.2) }
def fL_markServedSC : MC := { t := .sl svT, pre := fun _ _ => True, F := fun x k => end3 x k, G := fun x k => mark3 x k }
def fL_heldServedSC : PC := { ts := [.sl svT, i64T], rs := [i64T], pre := fun _ => True, F := fun x => held3 x.1 x.2 }
def fL_markTicketSC : MC := { t := .sl tkT, pre := fun _ _ => True, F := fun x k => end2 x k, G := fun x k => mark2 x k }
def fL_heldTicketSC : PC := { ts := [.sl tkT, i64T], rs := [i64T], pre := fun _ => True, F := fun x => held2 x.1 x.2 }
def fL_markLineC : MC := { t := lineT, pre := fun _ _ => True, F := fun x k => end2 x k, G := fun x k => mark2 x k }
def fL_heldLineC : PC := { ts := [lineT, i64T], rs := [i64T], pre := fun _ => True, F := fun x => neg1 (held2 x.1 x.2) }
def fL_markIntSC : MC := { t := .sl i64T, pre := fun _ _ => True, F := fun x k => end1 x k, G := fun x k => mark1 x k }
def fL_heldIntSC : PC := { ts := [.sl i64T, i64T], rs := [i64T], pre := fun _ => True, F := fun x => held1 x.1 x.2 }
def aL_markHandS (x : List Hd) (k : Int) := markA (e := hdT) mark3 end3 x k
def aL_heldHandS (x : List Hd × Int) := heldA (e := hdT) held3 x
def aL_markServedS (x : List Sv) (k : Int) := markA (e := svT) mark3 end3 x k
def aL_heldServedS (x : List Sv × Int) := heldA (e := svT) held3 x
def aL_markTicketS (x : List Tk) (k : Int) := markA (e := tkT) mark2 end2 x k
def aL_heldTicketS (x : List Tk × Int) := heldA (e := tkT) held2 x
def aL_markIntS (x : List Int) (k : Int) := markA (e := i64T) mark1 end1 x k
def aL_heldIntS (x : List Int × Int) := heldA (e := i64T) held1 x
end Go.SF


/- Contracts: lists of numbers. No condition. -/
namespace Go.SF
open Go.SX Go
set_option linter.unusedVariables false
def fL_eqIntSC : PC := { ts := [.sl i64T, .sl i64T], rs := [.bool], pre := fun _ => True, F := fun x => decide (x.1 = x.2) }
def aL_eqIntS (x : List Int × List Int) := eqA (e := i64T) x 4 5 6
end Go.SF


/- Contracts: lines out of which tickets are taken, and lines that are played. No condition. -/
namespace Go.SF
open Go.SX Go
set_option linter.unusedVariables false
abbrev opT : Ty := .st (.pr (.int .i64) (.pr (.st (.pr (.int .i64) (.int .i64))) (.int .i64)))
abbrev Op' := Int × (Int × Int) × Int
def delAt {α : Type} (xs : List α) (i : Int) : List α := xs.take i.toNat ++ xs.drop (i + 1).toNat
def icancelF (xs : List Tk) (id : Int) : List Tk × Tk × Bool :=
  if lineOkF xs = true ∧ 0 ≤ idxGo id xs 0 then (delAt xs (idxGo id xs 0), xs.getD (idxGo id xs 0).toNat (0, 0), true) else (xs, (0, 0), false)
def stepF (xs : List Tk) (op : Op') : List Tk × Int :=
  if op.1 = 0 then ((pushF xs op.2.1).1, if (pushF xs op.2.1).2 = true then op.2.1.1 else 0)
  else if op.1 = 1 then ((popF xs).1, (popF xs).2.1.1)
  else if op.1 = 2 then ((cancelSF xs op.2.2).1, (cancelSF xs op.2.2).2.1.1)
  else (xs, 0)
def playGo : List Op' → List Tk → List Int → List Tk × List Int
  | [], xs, told => (xs, told)
  | op :: ops, xs, told => playGo ops (stepF xs op).1 (told ++ [(stepF xs op).2])
def playF (xs : List Tk) (ops : List Op') : List Tk × List Int := if lineOkF xs = true ∧ ops.length ≤ 400 then playGo ops xs [] else ([], [])
def el4 (k : Int) : Op' := (k, (w64 (k + 1), w64 (w64 (k + 1) + 1)), w64 (w64 (w64 (k + 1) + 1) + 1))
def n4 (k : Int) : Int := w64 (w64 (w64 (w64 (k + 1) + 1) + 1) + 1)
def mark4 (xs : List Op') (k : Int) : List Op' := mkGo el4 n4 xs k
def end4 (xs : List Op') (k : Int) : Int := mkEnd n4 xs k
def fI_withoutTicketC : PC := { ts := [lineT, i64T], rs := [lineT], pre := fun x => 0 ≤ x.2 ∧ x.2 < (x.1.length : Int) ∧ x.1.length ≤ 1048576, F := fun x => delAt x.1 x.2 }
def fI_CancelC : PC := { ts := [lineT, i64T], rs := [lineT, tkT, .bool], pre := fun x => x.1.length ≤ 1048576, F := fun x => icancelF x.1 x.2 }
def fL_toLineOpC : PC := { ts := [opT], rs := [opT], pre := fun _ => True, F := fun x => x }
def fL_toLineOpSC : PC := { ts := [.sl opT], rs := [.sl opT], pre := fun x => x.length ≤ 1048576, F := fun x => x }
def fL_szLineOpSC : PC := { ts := [.sl opT, i64T], rs := [i64T], pre := fun _ => True, F := fun x => szF x.1.length x.2 }
def fL_eqLineOpC : PC := { ts := [opT, opT], rs := [.bool], pre := fun _ => True, F := fun x => decide (x.1 = x.2) }
def fL_eqLineOpSC : PC := { ts := [.sl opT, .sl opT], rs := [.bool], pre := fun _ => True, F := fun x => decide (x.1 = x.2) }
def fL_markLineOpSC : MC := { t := .sl opT, pre := fun _ _ => True, F := fun x k => end4 x k, G := fun x k => mark4 x k }
def aL_toLineOpS (x : List Op') := copyA (e := opT) x 3 4 3 5
def aL_eqLineOpS (x : List Op' × List Op') := eqA (e := opT) x 4 5 6
def aL_markLineOpS (x : List Op') (k : Int) := markA (e := opT) mark4 end4 x k
def fS_PlayLineC : PC := { ts := [lineT, .sl opT], rs := [lineT, .sl i64T], pre := fun x => x.1.length ≤ 1048576, F := fun x => playF x.1 x.2 }
def fI_PlayLineC : PC := { ts := [lineT, .sl opT], rs := [lineT, .sl i64T], pre := fun x => x.1.length ≤ 1048576, F := fun x => playF x.1 x.2 }
def PlayP (x : List Tk × List Op') (k : Nat × List Tk × List Int) : Prop := k.1 ≤ x.2.length ∧ playGo (x.2.drop k.1) k.2.1 k.2.2 = playGo x.2 x.1 [] ∧ lineOkF k.2.1 = true ∧ k.2.2.length = k.1
def StepP (x : List Tk × List Op') (k : Nat × List Tk × List Int) (y : List Tk × Int) : Prop := y = stepF k.2.1 (x.2.getD k.1 (0, (0, 0), 0))
def aS_PlayLine1 (x : List Tk × List Op') (k : Nat × List Tk × List Int) : Nat → Option Ann := fun
  | 100023 => some (.mk (List Tk × Int) (fun y => StepP x k y) (fun st y => ((st.keep 9 []).sets [(9, si y.2)]).setEs [(3, .bx [.own 2]), (2, .row true tkT y.1)]) (fun _ => 0) ([], 0) (fun _ _ => none))
  | _ => none
def aS_PlayLine (x : List Tk × List Op') : Nat → Option Ann := fun
  | 6 => some (.mk (Nat × List Tk × List Int) (fun k => PlayP x k) (fun st k => ((st.keep 7 []).sets [(8, si k.1), (7, .c (.own 4))]).setEs [(3, .bx [.own 2]), (2, .row true tkT k.2.1), (4, .row true i64T k.2.2)]) (fun k => x.2.length - k.1) (0, x.1, []) (fun k => aS_PlayLine1 x k))
  | _ => none
def aI_PlayLine1 (x : List Tk × List Op') (k : Nat × List Tk × List Int) : Nat → Option Ann := fun
  | 100024 => some (.mk (List Tk × Int) (fun y => StepP x k y) (fun st y => ((st.keep 9 [25, 26, 27]).sets [(9, si y.2)]).setEs [(0, .bx [.own 2]), (2, .row true tkT y.1)]) (fun _ => 0) ([], 0) (fun _ _ => none))
  | _ => none
def aI_PlayLine (x : List Tk × List Op') : Nat → Option Ann := fun
  | 6 => some (.mk (Nat × List Tk × List Int) (fun k => PlayP x k) (fun st k => ((st.keep 6 [25, 26]).sets [(27, si k.1), (6, .c (.own 3))]).setEs [(0, .bx [.own 2]), (2, .row true tkT k.2.1), (3, .row true i64T k.2.2)]) (fun k => x.2.length - k.1) (0, x.1, []) (fun k => aI_PlayLine1 x k))
  | _ => none
end Go.SF


/- Contracts: rings of flows. No condition. -/
namespace Go.SF
open Go.SX Go
set_option linter.unusedVariables false
abbrev flT : Ty := .st (.pr (.int .i64) (.pr (.int .i64) (.pr (.int .i64) lineT)))
abbrev Fl := Int × Int × Int × List Tk
abbrev ringT : Ty := .st (.pr (.sl flT) (.pr (.int .i64) .bool))
abbrev Rg := List Fl × Int × Bool
instance decLine : DecidableEq (List Tk) := inferInstance
instance decFl : DecidableEq Fl := inferInstance
instance decFls : DecidableEq (List Fl) := @instDecidableEqList Fl decFl
instance decRg : DecidableEq Rg := @instDecidableEqProd (List Fl) (Int × Bool) decFls inferInstance
def eqFl (a b : Fl) : Bool := @decide (a = b) (decFl a b)
def eqFls (a b : List Fl) : Bool := @decide (a = b) (decFls a b)
def eqRg (a b : Rg) : Bool := @decide (a = b) (decRg a b)
def fl0 : Fl := (0, 0, 0, [])
/-- What the sizes leave. -/
def szFlGo : List Fl → Int → Int
  | [], l => l
  | f :: fs, l => if szF f.2.2.2.length l < 0 then -1 else szFlGo fs (szF f.2.2.2.length l)
def szFlF (fs : List Fl) (l : Int) : Int := if w64 (l - fs.length) < 0 then -1 else szFlGo fs (w64 (l - fs.length))
def szRgF (fs : List Fl) (l : Int) : Int := if szFlF fs l < 0 then -1 else szFlF fs l
/-- No list is longer than the law lets through. -/
def FlsP (fs : List Fl) : Prop := fs.length ≤ 1048576 ∧ ∀ f ∈ fs, f.2.2.2.length ≤ 1048576
def fL_szFlowC : PC := { ts := [flT, i64T], rs := [i64T], pre := fun _ => True, F := fun x => szF x.1.2.2.2.length x.2 }
def fL_szFlowSC : PC := { ts := [.sl flT, i64T], rs := [i64T], pre := fun _ => True, F := fun x => szFlF x.1 x.2 }
def fL_szRingC : PC := { ts := [ringT, i64T], rs := [i64T], pre := fun _ => True, F := fun x => szRgF x.1.1 x.2 }
def fL_toFlowC : PC := { ts := [flT], rs := [flT], pre := fun x => x.2.2.2.length ≤ 1048576, F := fun x => x }
def fL_toFlowSC : PC := { ts := [.sl flT], rs := [.sl flT], pre := fun x => FlsP x, F := fun x => x }
def fL_toRingC : PC := { ts := [ringT], rs := [ringT], pre := fun x => FlsP x.1, F := fun x => x }
def fL_eqFlowC : PC := { ts := [flT, flT], rs := [.bool], pre := fun _ => True, F := fun x => eqFl x.1 x.2 }
def fL_eqFlowSC : PC := { ts := [.sl flT, .sl flT], rs := [.bool], pre := fun _ => True, F := fun x => eqFls x.1 x.2 }
def fL_eqRingC : PC := { ts := [ringT, ringT], rs := [.bool], pre := fun _ => True, F := fun x => eqRg x.1 x.2 }
def aL_toFlowS (x : List Fl) := copyA (e := flT) x 3 4 3 5
def aL_eqFlowS (x : List Fl × List Fl) := eqA (e := flT) x 4 5 6
def aL_szFlowS (x : List Fl × Int) : Nat → Option Ann := fun
  | 5 => some (.mk (Nat × Int) (fun k => k.1 ≤ x.1.length ∧ szFlGo (x.1.drop k.1) k.2 = szFlGo x.1 (w64 (x.2 - x.1.length))) (fun st k => (st.keep 6 []).sets [(5, si k.1), (1, si k.2)]) (fun k => x.1.length - k.1) (0, w64 (x.2 - x.1.length)) (fun _ _ => none))
  | _ => none
/-- A flow that is well. -/
def flowOkF (f : Fl) (fresh : Bool) : Bool :=
  decide (0 ≤ f.1 ∧ f.1 ≤ 99) && decide (100 ≤ f.2.1 ∧ f.2.1 ≤ 100000) && lineOkF f.2.2.2 &&
  (if fresh then decide (0 < f.2.2.2.length ∧ 0 ≤ f.2.2.1 ∧ f.2.2.1 ≤ 299999)
   else decide (0 ≤ f.2.2.1 ∧ f.2.2.1 ≤ 199999 ∧ (0 < f.2.2.2.length ∨ f.2.2.1 = 0)))
/-- The first 'k' flows are well, their tenants rise. -/
def RingP (fs : List Fl) (turn : Int) (fresh : Bool) (k : Nat) : Prop :=
  ∀ j, j < k → flowOkF (fs.getD j (0, 0, 0, [])) (fresh && decide ((j : Int) = turn)) = true ∧ (0 < j → (fs.getD (j - 1) (0, 0, 0, [])).1 < (fs.getD j (0, 0, 0, [])).1)
instance decRingP (fs : List Fl) (turn : Int) (fresh : Bool) (k : Nat) : Decidable (RingP fs turn fresh k) := by unfold RingP; infer_instance
def ringOkF (fs : List Fl) (turn : Int) (fresh : Bool) : Bool :=
  decide (fs.length ≤ 12) && (if fs.length = 0 then decide (turn = 0) && !fresh else decide (0 ≤ turn ∧ turn ≤ (fs.length : Int) - 1) && decide (RingP fs turn fresh fs.length))
def waitGo : List Fl → Int → Int
  | [], s => s
  | f :: fs, s => waitGo fs (w64 (s + f.2.2.2.length))
def waitF (r : Rg) : Int := if ringOkF r.1 r.2.1 r.2.2 then waitGo r.1 0 else -1
def fS_l14FlowC : PC := { ts := [flT, .bool], rs := [.bool], pre := fun _ => True, F := fun x => flowOkF x.1 x.2 }
def fS_RingOkC : PC := { ts := [ringT], rs := [.bool], pre := fun _ => True, F := fun x => ringOkF x.1 x.2.1 x.2.2 }
def fI_isRingC : PC := { ts := [ringT], rs := [.bool], pre := fun _ => True, F := fun x => ringOkF x.1 x.2.1 x.2.2 }
def fI_RingOkC : PC := { ts := [ringT], rs := [.bool], pre := fun _ => True, F := fun x => ringOkF x.1 x.2.1 x.2.2 }
def fI_waitingC : PC := { ts := [ringT], rs := [i64T], pre := fun _ => True, F := fun x => waitGo x.1 0 }
def fS_WaitingC : PC := { ts := [ringT], rs := [i64T], pre := fun _ => True, F := fun x => waitF x }
def fI_WaitingC : PC := { ts := [ringT], rs := [i64T], pre := fun _ => True, F := fun x => waitF x }
def aS_RingOk (x : Rg) : Nat → Option Ann := fun
  | 9 => some (.mk Nat (fun k => k ≤ x.1.length ∧ RingP x.1 x.2.1 x.2.2 k) (fun st k => (st.keep 5 []).sets [(4, si k)]) (fun k => x.1.length - k) 0 (fun _ _ => none))
  | _ => none
/-- What is known before the flows are looked at. -/
def RingHd (x : Rg) : Prop := x.1.length ≤ 12 ∧ (x.1.length = 0 → x.2.1 = 0 ∧ x.2.2 = false) ∧ (0 < x.1.length → 0 ≤ x.2.1 ∧ x.2.1 < x.1.length)
/-- The first part of what is asked of a flow. -/
def FlowHd (xs : List Fl) (k : Nat) : Prop := 0 ≤ (xs.getD k (0, 0, 0, [])).1 ∧ (xs.getD k (0, 0, 0, [])).1 ≤ 99 ∧ 100 ≤ (xs.getD k (0, 0, 0, [])).2.1 ∧ (xs.getD k (0, 0, 0, [])).2.1 ≤ 100000 ∧
  lineOkF (xs.getD k (0, 0, 0, [])).2.2.2 = true ∧ (0 < k → (xs.getD (k - 1) (0, 0, 0, [])).1 < (xs.getD k (0, 0, 0, [])).1)
def FlowMost (x : Rg) (k : Nat) (m : Int) : Prop := (x.2.2 = true ∧ (k : Int) = x.2.1 ∧ 0 < (x.1.getD k (0, 0, 0, [])).2.2.2.length ∧ m = 299999) ∨ (¬ (x.2.2 = true ∧ (k : Int) = x.2.1) ∧ m = 199999)
def aI_isRing3 (x : Rg) (k : Nat) : Nat → Option Ann := fun
  | 100015 => some (.mk Int (fun m => FlowMost x k m) (fun st m => (st.keep 8 [42, 43, 44]).sets [(6, si m)]) (fun _ => 0) 0 (fun _ _ => none))
  | _ => none
def aI_isRing2 (x : Rg) (k : Nat) : Nat → Option Ann := fun
  | 100009 => some (.mk Unit (fun _ => FlowHd x.1 k) (fun st _ => st.keep 6 [42, 43, 44]) (fun _ => 0) () (fun _ => aI_isRing3 x k))
  | _ => none
def aI_isRing1 (x : Rg) : Nat → Option Ann := fun
  | 5 => some (.mk Nat (fun k => k ≤ x.1.length ∧ RingP x.1 x.2.1 x.2.2 k) (fun st k => (st.keep 4 [42, 43]).sets [(44, si k)]) (fun k => x.1.length - k) 0 (fun k => aI_isRing2 x k))
  | _ => none
def aI_isRing (x : Rg) : Nat → Option Ann := fun
  | 100004 => some (.mk Unit (fun _ => RingHd x) (fun st _ => st.keep 4 []) (fun _ => 0) () (fun _ => aI_isRing1 x))
  | _ => none
def aI_waiting (x : Rg) : Nat → Option Ann := fun
  | 3 => some (.mk (Nat × Int) (fun k => k.1 ≤ x.1.length ∧ waitGo (x.1.drop k.1) k.2 = waitGo x.1 0) (fun st k => (st.keep 3 [7, 8]).sets [(9, si k.1), (3, si k.2)]) (fun k => x.1.length - k.1) (0, 0) (fun _ _ => none))
  | _ => none
def aS_Waiting (x : Rg) : Nat → Option Ann := fun
  | 5 => some (.mk (Nat × Int) (fun k => k.1 ≤ x.1.length ∧ waitGo (x.1.drop k.1) k.2 = waitGo x.1 0) (fun st k => (st.keep 3 []).sets [(4, si k.1), (3, si k.2)]) (fun k => x.1.length - k.1) (0, 0) (fun _ _ => none))
  | _ => none
end Go.SF


/- Contracts: the gap of two flows. No condition. -/
namespace Go.SF
open Go.SX Go
set_option linter.unusedVariables false
def fidxGo (t : Int) : List Fl → Nat → Int
  | [], _ => -1
  | f :: fs, k => if f.1 = t then (k : Int) else fidxGo t fs (k + 1)
def gapOf (x y : Int) : Int := w64 (w64 (w64 (2 * x) * y) + w64 (200000 * w64 (x + y)))
def gapF (r : Rg) (a b : Int) : Int :=
  if ringOkF r.1 r.2.1 r.2.2 = true ∧ 0 ≤ fidxGo a r.1 0 ∧ 0 ≤ fidxGo b r.1 0 then gapOf (r.1.getD (fidxGo a r.1 0).toNat (0, 0, 0, [])).2.1 (r.1.getD (fidxGo b r.1 0).toNat (0, 0, 0, [])).2.1 else -1
def fS_l14AtC : PC := { ts := [ringT, i64T], rs := [i64T], pre := fun _ => True, F := fun x => fidxGo x.2 x.1.1 0 }
def fI_flowOf1C : PC := { ts := [flT, .ptr i64T], rs := [.bool], pre := fun _ => True, F := fun x => decide (x.1.1 = x.2) }
def fG_IndexFuncFlC (g : Nat) : PC := { ts := [.sl flT, .clo g (.ptr i64T)], rs := [i64T], pre := fun _ => True, F := fun x => fidxGo x.2 x.1 0 }
def fI_flowOfC : PC := { ts := [ringT, i64T], rs := [i64T], pre := fun _ => True, F := fun x => fidxGo x.2 x.1.1 0 }
def fS_FairGapC : PC := { ts := [ringT, i64T, i64T], rs := [i64T], pre := fun _ => True, F := fun x => gapF x.1 x.2.1 x.2.2 }
def fI_FairGapC : PC := { ts := [ringT, i64T, i64T], rs := [i64T], pre := fun _ => True, F := fun x => gapF x.1 x.2.1 x.2.2 }
def aS_l14At (x : Rg × Int) : Nat → Option Ann := fun
  | 2 => some (.mk Nat (fun k => k ≤ x.1.1.length ∧ fidxGo x.2 (x.1.1.drop k) k = fidxGo x.2 x.1.1 0) (fun st k => (st.keep 4 []).sets [(5, si k)]) (fun k => x.1.1.length - k) 0 (fun _ _ => none))
  | _ => none
def aG_IndexFuncFl (x : List Fl × Int) : Nat → Option Ann := fun
  | 2 => some (.mk Nat (fun k => k ≤ x.1.length ∧ fidxGo x.2 (x.1.drop k) k = fidxGo x.2 x.1 0) (fun st k => (st.keep 6 [7]).sets [(8, si k)]) (fun k => x.1.length - k) 0 (fun _ _ => none))
  | _ => none
end Go.SF


/- Contracts: rings whose lines' blocks are told. No condition. -/
namespace Go.SF
open Go.SX Go
set_option linter.unusedVariables false
/-- A line whose block is told. -/
abbrev lnG : Ty := .st (.gs true tkT)
abbrev flG : Ty := .st (.pr (.int .i64) (.pr (.int .i64) (.pr (.int .i64) lnG)))
abbrev FlG := Int × Int × Int × Nat × List Tk
abbrev ringG : Ty := .st (.pr (.sl flG) (.pr (.int .i64) .bool))
abbrev flN : Ty := .st (.pr (.int .i64) (.pr (.int .i64) (.pr (.int .i64) (.st (.gs false tkT)))))
abbrev ringA : Ty := .st (.pr (.gs false flN) (.pr (.int .i64) .bool))
/-- No more told. -/
def unF (f : FlG) : Fl := (f.1, f.2.1, f.2.2.1, f.2.2.2.2)
/-- The blocks of lines that are not empty. -/
def idF (f : FlG) : List Nat := if f.2.2.2.2 = [] then [] else [f.2.2.2.1]
def fg0 : FlG := (0, 0, 0, 0, [])
def fL_toFlowSTC : TC := { ts := [.sl flT], trs := [.sl flG], nd := true, pre := fun x => FlsP x, F := fun x => x }
def fL_toRingTC : TC := { ts := [ringT], trs := [ringG], nd := true, pre := fun x => FlsP x.1, F := fun x => x }
/-- A copy, element by element. -/
def aL_toFlowST (x : List Fl) : Nat → Option Ann := fun k =>
  if k = 3 then some (.mk (Nat × List FlG) (fun k => k.1 ≤ x.length ∧ k.2.length = k.1 ∧ k.2.map unF = x.take k.1 ∧ (k.2.flatMap idF).Nodup)
    (fun st k => ((st.keep 5 []).sets [(4, si k.1), (3, .c (.own 0))]).setEs [(0, .row true flG (k.2 ++ List.replicate (x.length - k.1) fg0))]) (fun k => x.length - k.1) (0, []) (fun _ _ => none))
  else none
def fI_copyRingTC : TC := { ts := [ringT], trs := [ringG], nd := true, pre := fun x => FlsP x.1, F := fun x => x }
def cb (b : Bool) : C := .val (.bool b)
def aI_copyRing (x : Rg) : Nat → Option Ann := fun
  | 3 => some (.mk (Nat × List FlG) (fun k => k.1 ≤ x.1.length ∧ k.2.map unF = x.1.take k.1 ∧ (k.2.flatMap idF).Nodup)
    (fun st k => ((st.keep 15 []).sets [(14, si k.1)]).setEs [(2, .bx [.own 3, cw x.2.1, cb x.2.2]), (3, .row true flG k.2)]) (fun k => x.1.length - k.1) (0, []) (fun _ _ => none))
  | _ => none
def fS_l14CopyC : PC := { ts := [ringT], rs := [ringT], pre := fun x => FlsP x.1, F := fun x => x }
def aS_l14Copy (x : Rg) : Nat → Option Ann := fun
  | 3 => some (.mk Nat (fun k => k ≤ x.1.length)
    (fun st k => ((st.keep 5 []).sets [(4, si k)]).setEs [(2, .bx [.own 3, cw x.2.1, cb x.2.2]), (3, .row true flT (x.1.take k))]) (fun k => x.1.length - k) 0 (fun _ _ => none))
  | _ => none
/-- Marks. -/
def elF (f : FlG) (k : Int) : FlG := (k, w64 (k + 1), w64 (w64 (k + 1) + 1), f.2.2.2.1, mark2 f.2.2.2.2 (n3 k))
def nxF (f : FlG) (k : Int) : Int := end2 f.2.2.2.2 (n3 k)
def markF : List FlG → Int → List FlG
  | [], _ => []
  | f :: fs, k => elF f k :: markF fs (nxF f k)
def endF : List FlG → Int → Int
  | [], k => k
  | f :: fs, k => endF fs (nxF f k)
def okF (f : Fl) (k : Int) : Bool := decide (f.1 = k ∧ f.2.1 = w64 (k + 1) ∧ f.2.2.1 = w64 (w64 (k + 1) + 1))
def heldF : List Fl → Int → Int
  | [], k => k
  | f :: fs, k => if okF f k then (if held2 f.2.2.2 (n3 k) < 0 then -1 else heldF fs (held2 f.2.2.2 (n3 k))) else -1
def fL_markTicketSEC : PC := emptyC tkT fL_markTicketSC.pre fL_markTicketSC.F
def aL_markTicketSE (x : List Tk × Int) : Nat → Option Ann := fun
  | 2 => some (.mk Unit (fun _ => True) (fun st _ => (st.keep 1 []).sets [(5, si 0), (1, si x.2)]) (fun _ => 0) () (fun _ _ => none))
  | _ => none
def fL_markFlowSC : MT := { t := .sl flG, pre := fun _ _ => True, F := fun x k => endF x k, G := fun x k => markF x k }
def fL_markRingC : MT := { t := ringG, pre := fun _ _ => True, F := fun x k => endF x.1 k, G := fun x k => (markF x.1 k, x.2) }
def aL_markFlowS4 (x : List FlG) (k : Int) (j : Nat × Int) : Nat → Option Ann := fun
  | 100010 => some (.mk Unit (fun _ => True) (fun st _ => ((st.keep 1 []).sets [(5, si j.1), (1, si (n3 j.2))]).setEs [(0, .row false flG (markF (x.take j.1) k ++ (j.2, w64 (j.2 + 1), w64 (w64 (j.2 + 1) + 1), (x.getD j.1 fg0).2.2.2) :: x.drop (j.1 + 1)))]) (fun _ => 0) () (fun _ _ => none))
  | _ => none
def aL_markFlowS3 (x : List FlG) (k : Int) (j : Nat × Int) : Nat → Option Ann := fun
  | 100008 => some (.mk Unit (fun _ => True) (fun st _ => ((st.keep 1 []).sets [(5, si j.1), (1, si (w64 (w64 (j.2 + 1) + 1)))]).setEs [(0, .row false flG (markF (x.take j.1) k ++ (j.2, w64 (j.2 + 1), (x.getD j.1 fg0).2.2) :: x.drop (j.1 + 1)))]) (fun _ => 0) () (fun _ => aL_markFlowS4 x k j))
  | _ => none
def aL_markFlowS2 (x : List FlG) (k : Int) (j : Nat × Int) : Nat → Option Ann := fun
  | 100006 => some (.mk Unit (fun _ => True) (fun st _ => ((st.keep 1 []).sets [(5, si j.1), (1, si (w64 (j.2 + 1)))]).setEs [(0, .row false flG (markF (x.take j.1) k ++ (j.2, (x.getD j.1 fg0).2) :: x.drop (j.1 + 1)))]) (fun _ => 0) () (fun _ => aL_markFlowS3 x k j))
  | _ => none
def aL_markFlowS (x : List FlG) (k : Int) : Nat → Option Ann := fun
  | 2 => some (.mk (Nat × Int) (fun j => j.1 ≤ x.length ∧ j.2 = endF (x.take j.1) k) (fun st j => ((st.keep 1 []).sets [(5, si j.1), (1, si j.2)]).setEs [(0, .row false flG (markF (x.take j.1) k ++ x.drop j.1))]) (fun j => x.length - j.1) (0, k) (fun j => aL_markFlowS2 x k j))
  | _ => none
def fL_heldFlowSC : PC := { ts := [.sl flT, i64T], rs := [i64T], pre := fun _ => True, F := fun x => heldF x.1 x.2 }
def fL_heldRingC : PC := { ts := [ringT, i64T], rs := [i64T], pre := fun _ => True, F := fun x => neg1 (heldF x.1.1 x.2) }
def aL_heldFlowS (x : List Fl × Int) : Nat → Option Ann := fun
  | 2 => some (.mk (Nat × Int) (fun j => j.1 ≤ x.1.length ∧ heldF (x.1.drop j.1) j.2 = heldF x.1 x.2) (fun st j => (st.keep 1 []).sets [(5, si j.1), (1, si j.2)]) (fun j => x.1.length - j.1) (0, x.2) (fun _ _ => none))
  | _ => none
/-- A ticket is pushed. -/
def setLine (fs : List Fl) (i : Nat) (l : List Tk) : List Fl := fs.set i ((fs.getD i fl0).1, (fs.getD i fl0).2.1, (fs.getD i fl0).2.2.1, l)
def pushTkF (r : Rg) (tenant : Int) (t : Tk) : Rg × Bool :=
  if ringOkF r.1 r.2.1 r.2.2 = true ∧ 0 ≤ fidxGo tenant r.1 0 then
    ((setLine r.1 (fidxGo tenant r.1 0).toNat (ipushF (r.1.getD (fidxGo tenant r.1 0).toNat fl0).2.2.2 t).1, r.2), (ipushF (r.1.getD (fidxGo tenant r.1 0).toNat fl0).2.2.2 t).2)
  else (r, false)
def fI_PushTicketTC : TC := { ts := [ringT, i64T, tkT], trs := [ringG, .bool], nd := true, pre := fun x => FlsP x.1.1, F := fun x => pushTkF x.1 x.2.1 x.2.2 }
def fS_PushTicketC : PC := { ts := [ringT, i64T, tkT], rs := [ringT, .bool], pre := fun x => FlsP x.1.1, F := fun x => pushTkF x.1 x.2.1 x.2.2 }
end Go.SF


/- Contracts: the laws of rings, where their code is cut. No condition. -/
namespace Go.SF
open Go.SX Go
set_option linter.unusedVariables false
abbrev RA := (Nat × List FlG) × Int × Bool
/-- The argument, its blocks no more told. -/
def unA (a : RA) : Rg := (a.1.2.map unF, a.2)
def idsF (x : List FlG) : List Nat := x.flatMap idF
def idA (a : RA) : List Nat := ids (.gs false flN) a.1
/-- All is small. -/
def totF : List Fl → Nat
  | [] => 0
  | f :: fs => f.2.2.2.length + 1 + totF fs
/-- The wanted ring 'w', told as 'x.1'; a copy of the argument, told as 'x.2'. -/
def RJ1 (w : Rg) (a : RA) (x : List FlG × List FlG) : Prop := totF (unA a).1 ≤ 1048576 ∧ x.1.map unF = w.1 ∧ x.2.map unF = (unA a).1 ∧ (idsF x.2).Nodup ∧ Apart (idsF x.2) (idsF x.1) ∧ Apart (idsF x.2) (idA a)
/-- What the program gave, told as 'g'. -/
def RJ2 (w : Rg) (a : RA) (x : List FlG × List FlG) (g : List FlG) : Prop := g.map unF = w.1 ∧ (idsF g).Nodup ∧ Apart (idsF g) (idsF x.1) ∧ Apart (idsF g) (idsF x.2) ∧ Apart (idsF g) (idA a)
def rowN (x : List FlG) : Ent := .row true flN x
def rowG (x : List FlG) : Ent := .row true flG x
def bxR (n : Nat) (r : Int × Bool) : Ent := .bx [.own n, cw r.1, cb r.2]
def aggR (n : Nat) (r : Int × Bool) : S := .agg [.own n, cw r.1, cb r.2]
abbrev PuD := RA × Int × Tk
def aL_Pu4 (d : PuD) (w : Rg × Bool) : Nat → Option Ann := fun
  | 100025 => some (.mk (List FlG) (fun h => h.map unF = w.1.1) (fun st h => ((st.keep 8 [8, 9, 11, 14]).sets [(16, .c (.box 10 0)), (17, .c (cb w.2)), (90, aggR 9 w.1.2)]).setEs [(9, rowG h), (10, bxR 9 w.1.2)]) (fun _ => 0) [] (fun _ _ => none))
  | _ => none
def aL_Pu3 (d : PuD) (w : Rg × Bool) (x : List FlG × List FlG) (g : List FlG) : Nat → Option Ann := fun
  | 100024 => some (.mk Unit (fun _ => RJ1 w.1 (d.1) x ∧ RJ2 w.1 d.1 x g) (fun st _ => { ts := ((st.keep 8 [8, 9, 11, 12]).sets [(14, si (endF g 1))]).ts, hp := [st.ent 0, st.ent 1, .dead, rowN x.1, bxR 3 w.1.2, .dead, .dead, rowG (markF g 1), bxR 7 w.1.2] }) (fun _ => 0) () (fun _ => aL_Pu4 d w))
  | _ => none
def aL_Pu2 (d : PuD) (w : Rg × Bool) (x : List FlG × List FlG) : Nat → Option Ann := fun
  | 100008 => some (.mk (List FlG) (fun g => RJ2 w.1 d.1 x g) (fun st g => ((st.keep 8 [8, 9, 10]).sets [(11, .c (.box 8 0)), (12, .c (cb w.2)), (40, aggR 7 w.1.2)]).setEs [(7, rowG g), (8, bxR 7 w.1.2)]) (fun _ => 0) [] (fun g => aL_Pu3 d w x g))
  | _ => none
def aL_Pu (d : PuD) : Nat → Option Ann := fun
  | 100007 => some (.mk (List FlG × List FlG) (fun x => RJ1 (pushTkF (unA d.1) d.2.1 d.2.2).1 d.1 x) (fun st x => ((st.keep 8 [8, 9]).sets [(10, .c (.box 6 0))]).setEs [(2, .dead), (3, rowN x.1), (4, bxR 3 (pushTkF (unA d.1) d.2.1 d.2.2).1.2), (5, rowG x.2), (6, bxR 5 d.1.2)]) (fun _ => 0) ([], []) (fun x => aL_Pu2 d (pushTkF (unA d.1) d.2.1 d.2.2) x))
  | _ => none
end Go.SF


/- Contracts: flows dropped, tickets cancelled. No condition. -/
namespace Go.SF
open Go.SX Go
set_option linter.unusedVariables false
def dropTurnF (at' turn n : Int) : Int := if at' < turn then turn - 1 else if turn = n then 0 else turn
def dropFlF (r : Rg) (tenant : Int) : Rg × Bool :=
  if ringOkF r.1 r.2.1 r.2.2 = true ∧ 0 ≤ fidxGo tenant r.1 0 ∧ (r.1.getD (fidxGo tenant r.1 0).toNat fl0).2.2.2 = [] then
    ((delAt r.1 (fidxGo tenant r.1 0), dropTurnF (fidxGo tenant r.1 0) r.2.1 ((r.1.length : Int) - 1), r.2.2), true)
  else (r, false)
def fI_DropFlowTC : TC := { ts := [ringT, i64T], trs := [ringG, .bool], nd := true, pre := fun x => FlsP x.1.1, F := fun x => dropFlF x.1 x.2 }
def fS_DropFlowC : PC := { ts := [ringT, i64T], rs := [ringT, .bool], pre := fun x => FlsP x.1.1, F := fun x => dropFlF x.1 x.2 }
def aS_DropFlow (x : Rg × Int) : Nat → Option Ann := fun
  | 9 => some (.mk Nat (fun k => k ≤ x.1.1.length)
    (fun st k => ((st.keep 9 []).sets [(9, si k)]).setEs [(2, .bx [.own 5, cw x.1.2.1, cb x.1.2.2]), (5, .row true flT ((x.1.1.take k).eraseIdx (fidxGo x.2 x.1.1 0).toNat))]) (fun k => x.1.1.length - k) 0 (fun _ _ => none))
  | _ => none
/-- The law's cuts: temps from 't', entities after 'e'; 'u', 'v' the temps of what the program gave. -/
def ringA4 (w : Rg × Bool) (t e v : Nat) : Nat → Option Ann := fun
  | 100025 => some (.mk (List FlG) (fun h => h.map unF = w.1.1) (fun st h => ((st.keep t [t, t + 1, t + 3, t + 6]).sets [(t + 8, .c (.box (e + 9) 0)), (t + 9, .c (cb w.2)), (v, aggR (e + 8) w.1.2)]).setEs [(e + 8, rowG h), (e + 9, bxR (e + 8) w.1.2)]) (fun _ => 0) [] (fun _ _ => none))
  | _ => none
def ringA3 (a : RA) (w : Rg × Bool) (t e v : Nat) (x : List FlG × List FlG) (g : List FlG) : Nat → Option Ann := fun
  | 100024 => some (.mk Unit (fun _ => RJ1 w.1 a x ∧ RJ2 w.1 a x g) (fun st _ => { ts := ((st.keep t [t, t + 1, t + 3, t + 4]).sets [(t + 6, si (endF g 1))]).ts, hp := (List.range (e + 1)).map st.ent ++ [.dead, rowN x.1, bxR (e + 2) w.1.2, .dead, .dead, rowG (markF g 1), bxR (e + 6) w.1.2] }) (fun _ => 0) () (fun _ => ringA4 w t e v))
  | _ => none
def ringA2 (a : RA) (w : Rg × Bool) (t e u v : Nat) (x : List FlG × List FlG) : Nat → Option Ann := fun
  | 100008 => some (.mk (List FlG) (fun g => RJ2 w.1 a x g) (fun st g => ((st.keep t [t, t + 1, t + 2]).sets [(t + 3, .c (.box (e + 7) 0)), (t + 4, .c (cb w.2)), (u, aggR (e + 6) w.1.2)]).setEs [(e + 6, rowG g), (e + 7, bxR (e + 6) w.1.2)]) (fun _ => 0) [] (fun g => ringA3 a w t e v x g))
  | _ => none
def ringA1 (a : RA) (w : Rg × Bool) (t e u v : Nat) : Nat → Option Ann := fun
  | 100007 => some (.mk (List FlG × List FlG) (fun x => RJ1 w.1 a x) (fun st x => ((st.keep t [t, t + 1]).sets [(t + 2, .c (.box (e + 5) 0))]).setEs [(e + 1, .dead), (e + 2, rowN x.1), (e + 3, bxR (e + 2) w.1.2), (e + 4, rowG x.2), (e + 5, bxR (e + 4) a.2)]) (fun _ => 0) ([], []) (fun x => ringA2 a w t e u v x))
  | _ => none
def aL_Dr (d : RA × Int) : Nat → Option Ann := ringA1 d.1 (dropFlF (unA d.1) d.2) 6 0 34 82
/-- A ticket is cancelled. -/
def setFl (fs : List Fl) (i : Nat) (dz : Bool) (l : List Tk) : List Fl := fs.set i ((fs.getD i fl0).1, (fs.getD i fl0).2.1, if dz = true then 0 else (fs.getD i fl0).2.2.1, l)
def lineAt (r : Rg) (tenant : Int) : List Tk := (r.1.getD (fidxGo tenant r.1 0).toNat fl0).2.2.2
def cancTkF (r : Rg) (tenant id : Int) : Rg × Tk × Bool :=
  if ringOkF r.1 r.2.1 r.2.2 = true ∧ 0 ≤ fidxGo tenant r.1 0 ∧ 0 ≤ idxGo id (lineAt r tenant) 0 then
    ((setFl r.1 (fidxGo tenant r.1 0).toNat (decide (delAt (lineAt r tenant) (idxGo id (lineAt r tenant) 0) = [])) (delAt (lineAt r tenant) (idxGo id (lineAt r tenant) 0)),
      r.2.1, if delAt (lineAt r tenant) (idxGo id (lineAt r tenant) 0) = [] ∧ fidxGo tenant r.1 0 = r.2.1 then false else r.2.2), (lineAt r tenant).getD (idxGo id (lineAt r tenant) 0).toNat (0, 0), true)
  else (r, (0, 0), false)
def fI_CancelTicketTC : TC := { ts := [ringT, i64T, i64T], trs := [ringG, tkT, .bool], nd := true, pre := fun x => FlsP x.1.1, F := fun x => cancTkF x.1 x.2.1 x.2.2 }
def fS_CancelTicketC : PC := { ts := [ringT, i64T, i64T], rs := [ringT, tkT, .bool], pre := fun x => FlsP x.1.1, F := fun x => cancTkF x.1 x.2.1 x.2.2 }
def bxT (k : Tk) : Ent := .bx [cw k.1, cw k.2]
def aI_CancelTicket (x : Rg × Int × Int) : Nat → Option Ann := fun
  | 100015 => some (.mk (List FlG) (fun g => g.map unF = (cancTkF x.1 x.2.1 x.2.2).1.1 ∧ (idsF g).Nodup ∧ (cancTkF x.1 x.2.1 x.2.2).2.2 = true) (fun st g => (st.keep 9 [9, 13]).setEs [(3, .row true flG g), (4, bxR 3 (cancTkF x.1 x.2.1 x.2.2).1.2), (5, bxT (cancTkF x.1 x.2.1 x.2.2).2.1)]) (fun _ => 0) [] (fun _ _ => none))
  | _ => none
def aS_CancelTicket (x : Rg × Int × Int) : Nat → Option Ann := fun
  | 100015 => some (.mk Unit (fun _ => (cancTkF x.1 x.2.1 x.2.2).2.2 = true) (fun st _ => (st.keep 14 []).setEs [(5, bxT (cancTkF x.1 x.2.1 x.2.2).2.1), (6, .row true flT (cancTkF x.1 x.2.1 x.2.2).1.1), (7, bxR 6 (cancTkF x.1 x.2.1 x.2.2).1.2)]) (fun _ => 0) () (fun _ _ => none))
  | _ => none
abbrev RgTk := Rg × Tk × Bool
def cancA4 (w : RgTk) : Nat → Option Ann := fun
  | 100025 => some (.mk (List FlG) (fun h => h.map unF = w.1.1) (fun st h => ((st.keep 8 [8, 9, 10, 12, 13, 16]).sets [(18, .c (.box 11 0)), (19, .c (.box 12 0)), (20, .c (cb w.2.2)), (104, aggR 10 w.1.2)]).setEs [(10, rowG h), (11, bxR 10 w.1.2), (12, bxT w.2.1)]) (fun _ => 0) [] (fun _ _ => none))
  | _ => none
def cancA3 (a : RA) (w : RgTk) (x : List FlG × List FlG) (g : List FlG) : Nat → Option Ann := fun
  | 100024 => some (.mk Unit (fun _ => RJ1 w.1 a x ∧ RJ2 w.1 a x g) (fun st _ => { ts := ((st.keep 8 [8, 9, 10, 12, 13, 14]).sets [(16, si (endF g 1))]).ts, hp := [st.ent 0, .dead, rowN x.1, bxR 2 w.1.2, bxT w.2.1, .dead, .dead, rowG (markF g 1), bxR 7 w.1.2, bxT w.2.1] }) (fun _ => 0) () (fun _ => cancA4 w))
  | _ => none
def cancA2 (a : RA) (w : RgTk) (x : List FlG × List FlG) : Nat → Option Ann := fun
  | 100008 => some (.mk (List FlG) (fun g => RJ2 w.1 a x g) (fun st g => ((st.keep 8 [8, 9, 10, 11]).sets [(12, .c (.box 8 0)), (13, .c (.box 9 0)), (14, .c (cb w.2.2)), (42, aggR 7 w.1.2)]).setEs [(7, rowG g), (8, bxR 7 w.1.2), (9, bxT w.2.1)]) (fun _ => 0) [] (fun g => cancA3 a w x g))
  | _ => none
def aL_Ca (d : RA × Int × Int) : Nat → Option Ann := fun
  | 100007 => some (.mk (List FlG × List FlG) (fun x => RJ1 (cancTkF (unA d.1) d.2.1 d.2.2).1 d.1 x) (fun st x => ((st.keep 8 [8, 9, 10]).sets [(11, .c (.box 6 0))]).setEs [(1, .dead), (2, rowN x.1), (3, bxR 2 (cancTkF (unA d.1) d.2.1 d.2.2).1.2), (4, bxT (cancTkF (unA d.1) d.2.1 d.2.2).2.1), (5, rowG x.2), (6, bxR 5 d.1.2)]) (fun _ => 0) ([], []) (fun x => cancA2 d.1 (cancTkF (unA d.1) d.2.1 d.2.2) x))
  | _ => none
end Go.SF


/- Contracts: flows added. No condition. -/
namespace Go.SF
open Go.SX Go
set_option linter.unusedVariables false
/-- The place of a new flow. -/
def addAtGo (t : Int) : List Fl → Nat
  | [] => 0
  | f :: fs => if f.1 < t then addAtGo t fs + 1 else 0
def insF (xs : List Fl) (a : Nat) (f : Fl) : List Fl := xs.take a ++ [f] ++ xs.drop a
def addOutF (r : Rg) (tenant quantum : Int) : Rg := (insF r.1 (addAtGo tenant r.1) (tenant, quantum, 0, []), if 0 < r.1.length ∧ (addAtGo tenant r.1 : Int) ≤ r.2.1 then r.2.1 + 1 else r.2.1, r.2.2)
def addFlF (r : Rg) (tenant quantum : Int) : Rg × Bool :=
  if ringOkF r.1 r.2.1 r.2.2 = true ∧ fidxGo tenant r.1 0 < 0 ∧ ringOkF (addOutF r tenant quantum).1 (addOutF r tenant quantum).2.1 (addOutF r tenant quantum).2.2 = true then (addOutF r tenant quantum, true) else (r, false)
def fI_AddFlowTC : TC := { ts := [ringT, i64T, i64T], trs := [ringG, .bool], nd := true, pre := fun x => FlsP x.1.1, F := fun x => addFlF x.1 x.2.1 x.2.2 }
def fS_AddFlowC : PC := { ts := [ringT, i64T, i64T], rs := [ringT, .bool], pre := fun x => FlsP x.1.1, F := fun x => addFlF x.1 x.2.1 x.2.2 }
def aI_AddFlow (x : Rg × Int × Int) : Nat → Option Ann := fun
  | 5 => some (.mk Nat (fun k => k ≤ addAtGo x.2.1 x.1.1) (fun st k => (st.keep 9 []).sets [(9, si k)]) (fun k => x.1.1.length - k) 0 (fun _ _ => none))
  | _ => none
/-- The new row and turn, when the first 'k' flows are done. -/
def insK (xs : List Fl) (a : Nat) (f : Fl) (k : Nat) : List Fl := if a < k then xs.take a ++ [f] ++ (xs.take k).drop a else xs.take k
def turnK (a : Nat) (turn : Int) (k : Nat) : Int := if a < k ∧ (a : Int) ≤ turn then turn + 1 else turn
def aS_AddFlow (x : Rg × Int × Int) : Nat → Option Ann := fun
  | 7 => some (.mk Nat (fun k => k ≤ x.1.1.length)
    (fun st k => ((st.keep 9 [10]).sets [(9, .c (cb (decide (addAtGo x.2.1 x.1.1 < k)))), (11, si k)]).setEs [(2, .bx [.own 5, cw (turnK (addAtGo x.2.1 x.1.1) x.1.2.1 k), cb x.1.2.2]), (5, .row true flT (insK x.1.1 (addAtGo x.2.1 x.1.1) (x.2.1, x.2.2, 0, []) k))]) (fun k => x.1.1.length - k) 0 (fun _ _ => none))
  | _ => none
def aL_Af (d : RA × Int × Int) : Nat → Option Ann := ringA1 d.1 (addFlF (unA d.1) d.2.1 d.2.2) 8 0 38 87
end Go.SF


/- Contracts: tickets served. No condition. -/
namespace Go.SF
open Go.SX Go
set_option linter.unusedVariables false
abbrev ringN : Ty := .st (.pr (.sl flN) (.pr (.int .i64) .bool))
/-- The deficit that a flow serves with. -/
def stepDf (f : Fl) (fr : Bool) : Int := if fr = true then f.2.2.1 else f.2.2.1 + f.2.1
/-- Rounds, no more than so many, until a ticket is served. -/
def nxGo : Nat → List Fl → Nat → Bool → Option (Rg × Int × Tk)
  | 0, _, _, _ => none
  | n + 1, fs, t, fr =>
    match (fs.getD t fl0).2.2.2 with
    | [] => nxGo n fs ((t + 1) % fs.length) fr
    | h :: l =>
      if stepDf (fs.getD t fl0) fr < h.2 then nxGo n (fs.set t ((fs.getD t fl0).1, (fs.getD t fl0).2.1, stepDf (fs.getD t fl0) fr, h :: l)) ((t + 1) % fs.length) false
      else if l = [] then some ((fs.set t ((fs.getD t fl0).1, (fs.getD t fl0).2.1, 0, []), (((t + 1) % fs.length : Nat) : Int), false), (fs.getD t fl0).1, h)
      else some ((fs.set t ((fs.getD t fl0).1, (fs.getD t fl0).2.1, stepDf (fs.getD t fl0) fr - h.2, l), (t : Int), true), (fs.getD t fl0).1, h)
/-- What the heads lack. -/
def needF (f : Fl) : Nat := match f.2.2.2 with | [] => 0 | h :: _ => (h.2 - f.2.2.1).toNat
def need : List Fl → Nat
  | [] => 0
  | f :: fs => needF f + need fs
/-- How far the next flow with tickets is. -/
def gapN (fs : List Fl) : Nat → Nat → Nat
  | 0, _ => 0
  | k + 1, t => if (fs.getD t fl0).2.2.2 = [] then gapN fs k ((t + 1) % fs.length) + 1 else 0
def meas (fs : List Fl) (t : Nat) (fr : Bool) : Nat := need fs * (2 * (fs.length + 1)) + (if fr = true then fs.length + 1 else 0) + gapN fs fs.length t
def nxO (r : Rg) : Option (Rg × Int × Tk) := nxGo (meas r.1 r.2.1.toNat r.2.2 + 1) r.1 r.2.1.toNat r.2.2
def nxTk (r : Rg) : Rg × Int × Tk × Bool :=
  if waitGo r.1 0 = 0 then (r, 0, (0, 0), false) else match nxO r with | some x => (x.1, x.2.1, x.2.2, true) | none => (r, 0, (0, 0), false)
def nxR (r : Rg) : Rg := (nxTk r).1
def nxV (r : Rg) : Int × Tk × Bool := (nxTk r).2
def nxV2 (r : Rg) : Int × Tk := ((nxTk r).2.1, (nxTk r).2.2.1)
def fI_nextC : RC := { t := ringG, nd := true, rs := [i64T, tkT, .bool], pre := fun (x : Rg) => ringOkF x.1 x.2.1 x.2.2 = true, F := fun (x : Rg) => nxV x, G := fun (x : Rg) => nxR x }
def fS_l14NextC : RC := { t := ringN, nd := false, rs := [i64T, tkT], pre := fun (x : Rg) => ringOkF x.1 x.2.1 x.2.2 = true ∧ waitGo x.1 0 ≠ 0, F := fun (x : Rg) => nxV2 x, G := fun (x : Rg) => nxR x }
abbrev RgG := List FlG × Int × Bool
abbrev NxX := Nat × List FlG × Nat × Bool
/-- The rounds left come to the same. -/
def nxJ (d : RgG) (x : NxX) : Prop := ringOkF (x.2.1.map unF) x.2.2.1 x.2.2.2 = true ∧ x.2.1.length = d.1.length ∧ 0 < d.1.length ∧ x.2.2.1 < d.1.length ∧ nxGo x.1 (x.2.1.map unF) x.2.2.1 x.2.2.2 = nxO (d.1.map unF, d.2) ∧ (nxGo x.1 (x.2.1.map unF) x.2.2.1 x.2.2.2).isSome = true ∧ waitGo (d.1.map unF) 0 ≠ 0
/-- The flow whose turn it is, with what it serves. -/
def nxFl (x : NxX) : FlG := ((x.2.1.getD x.2.2.1 fg0).1, (x.2.1.getD x.2.2.1 fg0).2.1, stepDf (unF (x.2.1.getD x.2.2.1 fg0)) x.2.2.2, (x.2.1.getD x.2.2.1 fg0).2.2.2)
def nxHd (x : NxX) : Tk := (x.2.1.getD x.2.2.1 fg0).2.2.2.2.getD 0 (0, 0)
def nxE (d : RgG) (x : NxX) (y : RgG) : Prop := nxO (d.1.map unF, d.2) = some ((y.1.map unF, y.2.1, y.2.2), (y.1.getD x.2.2.1 fg0).1, nxHd x) ∧ y.1.length = d.1.length ∧ x.2.2.1 < y.1.length
def aI_next3 (d : RgG) (x : NxX) : Nat → Option Ann := fun
  | 100020 => some (.mk RgG (fun y => nxE d x y ∧ (idsF y.1).Nodup) (fun st y => (st.keep 5 [5, 7]).setEs [(0, .bx [.own 1, cw y.2.1, cb y.2.2]), (1, .row false flG y.1), (3, bxT (nxHd x))]) (fun _ => 0) ([], 0, false) (fun _ _ => none))
  | _ => none
def aI_next2 (d : RgG) (x : NxX) : Nat → Option Ann := fun
  | 100010 => some (.mk Unit (fun _ => (x.2.1.getD x.2.2.1 fg0).2.2.2.2 ≠ []) (fun st _ => (st.keep 5 [5, 6]).setEs [(0, .bx [.own 1, cw x.2.2.1, cb true]), (1, .row false flG (x.2.1.set x.2.2.1 (nxFl x)))]) (fun _ => 0) () (fun _ => aI_next3 d x))
  | _ => none
def aS_l14Next3 (d : RgG) (x : NxX) : Nat → Option Ann := fun
  | 100019 => some (.mk RgG (fun y => nxE d x y) (fun st y => (st.keep 4 [4, 5, 6]).setEs [(0, .bx [.own 1, cw y.2.1, cb y.2.2]), (1, .row false flN y.1), (3, bxT (nxHd x))]) (fun _ => 0) ([], 0, false) (fun _ _ => none))
  | _ => none
def aS_l14Next2 (d : RgG) (x : NxX) : Nat → Option Ann := fun
  | 100008 => some (.mk Unit (fun _ => (x.2.1.getD x.2.2.1 fg0).2.2.2.2 ≠ []) (fun st _ => (st.keep 4 [4, 5]).setEs [(0, .bx [.own 1, cw x.2.2.1, cb true]), (1, .row false flN (x.2.1.set x.2.2.1 (nxFl x)))]) (fun _ => 0) () (fun _ => aS_l14Next3 d x))
  | _ => none
def aI_next (d : RgG) : Nat → Option Ann := fun
  | 3 => some (.mk NxX (fun x => nxJ d x ∧ (idsF x.2.1).Nodup) (fun st x => (st.keep 5 []).setEs [(0, .bx [.own 1, cw x.2.2.1, cb x.2.2.2]), (1, .row false flG x.2.1)]) (fun x => x.1) (meas (d.1.map unF) d.2.1.toNat d.2.2 + 1, d.1, d.2.1.toNat, d.2.2) (fun x => aI_next2 d x))
  | _ => none
def aS_l14Next (d : RgG) : Nat → Option Ann := fun
  | 1 => some (.mk NxX (fun x => nxJ d x) (fun st x => (st.keep 4 []).setEs [(0, .bx [.own 1, cw x.2.2.1, cb x.2.2.2]), (1, .row false flN x.2.1)]) (fun x => x.1) (meas (d.1.map unF) d.2.1.toNat d.2.2 + 1, d.1, d.2.1.toNat, d.2.2) (fun x => aS_l14Next2 d x))
  | _ => none
def fS_l14CopyTC : TC := { ts := [ringT], trs := [ringN], nd := false, pre := fun x => FlsP x.1, F := fun x => x }
/-- One ticket. -/
def nextTkF (r : Rg) : Rg × Int × Tk × Bool := if ringOkF r.1 r.2.1 r.2.2 = true then nxTk r else (r, 0, (0, 0), false)
def fI_NextTicketTC : TC := { ts := [ringT], trs := [ringG, i64T, tkT, .bool], nd := true, pre := fun x => FlsP x.1, F := fun x => nextTkF x }
def fS_NextTicketTC : TC := { ts := [ringT], trs := [ringN, i64T, tkT, .bool], nd := false, pre := fun x => FlsP x.1, F := fun x => nextTkF x }
def fS_NextTicketC : PC := { ts := [ringT], rs := [ringT, i64T, tkT, .bool], pre := fun x => FlsP x.1, F := fun x => nextTkF x }
/-- So many tickets. -/
def drGo : Nat → Rg → Rg × List Sv
  | 0, r => (r, [])
  | n + 1, r => (nxR (drGo n r).1, (drGo n r).2 ++ [((nxV (drGo n r).1).1, (nxV (drGo n r).1).2.1.1, (nxV (drGo n r).1).2.1.2)])
def drainN (r : Rg) (most : Int) : Nat := min (waitGo r.1 0).toNat most.toNat
def drainF (r : Rg) (most : Int) : Rg × List Sv := if ringOkF r.1 r.2.1 r.2.2 = true then drGo (drainN r most) r else (r, [])
def fI_DrainRingTC : TC := { ts := [ringT, i64T], trs := [ringG, .sl svT], nd := true, pre := fun x => FlsP x.1.1, F := fun x => drainF x.1 x.2 }
def fS_DrainRingTC : TC := { ts := [ringT, i64T], trs := [ringN, .sl svT], nd := false, pre := fun x => FlsP x.1.1, F := fun x => drainF x.1 x.2 }
def fS_DrainRingC : PC := { ts := [ringT, i64T], rs := [ringT, .sl svT], pre := fun x => FlsP x.1.1, F := fun x => drainF x.1 x.2 }
def drJ (x : Rg × Int) (k : Nat) (g : List FlG) : Prop := ringOkF x.1.1 x.1.2.1 x.1.2.2 = true ∧ k ≤ drainN x.1 x.2 ∧ g.map unF = (drGo k x.1).1.1
def aI_DrainRing (x : Rg × Int) : Nat → Option Ann := fun
  | 100005 => some (.mk (List FlG) (fun g => drJ x 0 g ∧ (idsF g).Nodup) (fun st g => ((st.keep 7 []).sets [(7, .c (.own 4))]).setEs [(2, .row true flG g), (3, .bx [.own 2, cw x.1.2.1, cb x.1.2.2]), (4, .row true svT [])]) (fun _ => 0) [] (fun g => fun
    | 5 => some (.mk (Nat × List FlG) (fun k => drJ x k.1 k.2 ∧ (idsF k.2).Nodup) (fun st k => ((st.keep 7 []).sets [(7, .c (.own 4))]).setEs [(2, .row true flG k.2), (3, .bx [.own 2, cw (drGo k.1 x.1).1.2.1, cb (drGo k.1 x.1).1.2.2]), (4, .row true svT (drGo k.1 x.1).2)]) (fun k => (waitGo x.1.1 0).toNat + 1 - k.1) (0, g) (fun _ _ => none))
    | _ => none))
  | _ => none
def aS_DrainRing (x : Rg × Int) : Nat → Option Ann := fun
  | 100007 => some (.mk (List FlG) (fun g => drJ x 0 g) (fun st g => ((st.keep 9 []).sets [(7, .c (.own 4)), (9, si 0)]).setEs [(2, .row true flN g), (3, .bx [.own 2, cw x.1.2.1, cb x.1.2.2]), (4, .row true svT [])]) (fun _ => 0) [] (fun g => fun
    | 7 => some (.mk (Nat × List FlG) (fun k => drJ x k.1 k.2) (fun st k => ((st.keep 9 []).sets [(7, .c (.own 4)), (9, si k.1)]).setEs [(2, .row true flN k.2), (3, .bx [.own 2, cw (drGo k.1 x.1).1.2.1, cb (drGo k.1 x.1).1.2.2]), (4, .row true svT (drGo k.1 x.1).2)]) (fun k => (waitGo x.1.1 0).toNat + 1 - k.1) (0, g) (fun _ _ => none))
    | _ => none))
  | _ => none
end Go.SF


/- Contracts: the laws of tickets served, where their code is cut. No condition. -/
namespace Go.SF
open Go.SX Go
set_option linter.unusedVariables false
abbrev NxW := Rg × Int × Tk × Bool
def aL_Nx4 (w : NxW) : Nat → Option Ann := fun
  | 100025 => some (.mk (List FlG) (fun h => h.map unF = w.1.1) (fun st h => ((st.keep 4 [4, 5, 6, 7, 9, 10, 11, 12, 14]).sets [(16, .c (.box 11 0)), (17, si w.2.1), (18, .c (.box 12 0)), (19, .c (cb w.2.2.2)), (109, aggR 10 w.1.2)]).setEs [(10, rowG h), (11, bxR 10 w.1.2), (12, bxT w.2.2.1)]) (fun _ => 0) [] (fun _ _ => none))
  | _ => none
def aL_Nx3 (a : RA) (w : NxW) (x : List FlG × List FlG) (g : List FlG) : Nat → Option Ann := fun
  | 100024 => some (.mk Unit (fun _ => RJ1 w.1 a x ∧ RJ2 w.1 a x g) (fun st _ => { ts := ((st.keep 4 [4, 5, 6, 7, 9, 10, 11, 12]).sets [(14, si (endF g 1))]).ts, hp := [st.ent 0, .dead, rowN x.1, bxR 2 w.1.2, bxT w.2.2.1, .dead, .dead, rowG (markF g 1), bxR 7 w.1.2, bxT w.2.2.1] }) (fun _ => 0) () (fun _ => aL_Nx4 w))
  | _ => none
def aL_Nx2 (a : RA) (w : NxW) (x : List FlG × List FlG) : Nat → Option Ann := fun
  | 100008 => some (.mk (List FlG) (fun g => RJ2 w.1 a x g) (fun st g => ((st.keep 4 [4, 5, 6, 7, 8]).sets [(9, .c (.box 8 0)), (10, si w.2.1), (11, .c (.box 9 0)), (12, .c (cb w.2.2.2)), (38, aggR 7 w.1.2)]).setEs [(7, rowG g), (8, bxR 7 w.1.2), (9, bxT w.2.2.1)]) (fun _ => 0) [] (fun g => aL_Nx3 a w x g))
  | _ => none
def aL_Nx1 (a : RA) (w : NxW) : Nat → Option Ann := fun
  | 100007 => some (.mk (List FlG × List FlG) (fun x => RJ1 w.1 a x) (fun st x => ((st.keep 4 [4, 5, 6, 7]).sets [(8, .c (.box 6 0))]).setEs [(1, .dead), (2, rowN x.1), (3, bxR 2 w.1.2), (4, bxT w.2.2.1), (5, rowG x.2), (6, bxR 5 a.2)]) (fun _ => 0) ([], []) (fun x => aL_Nx2 a w x))
  | _ => none
def aL_Nx (a : RA) : Nat → Option Ann := aL_Nx1 a (nextTkF (unA a))
def aL_rowS (xs : List Sv) : Ent := .row true svT xs
abbrev DnW := Rg × List Sv
def aL_Dn4 (w : DnW) : Nat → Option Ann := fun
  | 100029 => some (.mk (List FlG) (fun h => h.map unF = w.1.1) (fun st h => ((st.keep 6 [6, 7, 9, 10, 12]).sets [(14, .c (.box 12 0)), (15, .c (.own 11)), (92, aggR 10 w.1.2)]).setEs [(10, rowG h), (11, aL_rowS w.2), (12, bxR 10 w.1.2)]) (fun _ => 0) [] (fun _ _ => none))
  | _ => none
def aL_Dn3 (a : RA) (w : DnW) (x : List FlG × List FlG) (g : List FlG) : Nat → Option Ann := fun
  | 100028 => some (.mk Unit (fun _ => RJ1 w.1 a x ∧ RJ2 w.1 a x g) (fun st _ => { ts := ((st.keep 6 [6, 7, 9, 10]).sets [(12, si (end3 w.2 (endF g 1)))]).ts, hp := [st.ent 0, .dead, rowN x.1, aL_rowS w.2, bxR 2 w.1.2, .dead, .dead, rowG (markF g 1), aL_rowS (mark3 w.2 (endF g 1)), bxR 7 w.1.2] }) (fun _ => 0) () (fun _ => aL_Dn4 w))
  | _ => none
def aL_Dn2 (a : RA) (w : DnW) (x : List FlG × List FlG) : Nat → Option Ann := fun
  | 100008 => some (.mk (List FlG) (fun g => RJ2 w.1 a x g) (fun st g => ((st.keep 6 [6, 7, 8]).sets [(9, .c (.box 9 0)), (10, .c (.own 8)), (34, aggR 7 w.1.2)]).setEs [(7, rowG g), (8, aL_rowS w.2), (9, bxR 7 w.1.2)]) (fun _ => 0) [] (fun g => aL_Dn3 a w x g))
  | _ => none
def aL_Dn1 (a : RA) (w : DnW) : Nat → Option Ann := fun
  | 100007 => some (.mk (List FlG × List FlG) (fun x => RJ1 w.1 a x) (fun st x => ((st.keep 6 [6, 7]).sets [(8, .c (.box 6 0))]).setEs [(1, .dead), (2, rowN x.1), (3, aL_rowS w.2), (4, bxR 2 w.1.2), (5, rowG x.2), (6, bxR 5 a.2)]) (fun _ => 0) ([], []) (fun x => aL_Dn2 a w x))
  | _ => none
def aL_Dn (d : RA × Int) : Nat → Option Ann := aL_Dn1 d.1 (drainF (unA d.1) d.2)
end Go.SF


/- Contracts: a law's code. No condition. -/
namespace Go.SF
open Go.SX Go
set_option linter.unusedVariables false
abbrev codeT : Ty := .sl (.int .u8)
def codeAt (c : List Int) (i : Int) : Int := if i < (c.length : Int) then c.getD i.toNat 0 else (w64 (w64 (i * 13) + w64 ((c.length : Int) * 5))).tmod 256
def bigF (c : List Int) : Bool := decide (1048576 < (c.length : Int))
def fL_bigC : PC := { ts := [codeT], rs := [.bool], pre := fun _ => True, F := fun x => bigF x }
def fL_atC : PC := { ts := [codeT, i64T], rs := [i64T], pre := fun x => 0 ≤ x.2, F := fun x => codeAt x.1 x.2 }
end Go.SF


/- Contracts: two flows share. No condition. -/
namespace Go.SF
open Go.SX Go
set_option linter.unusedVariables false
def fI_AddFlowC : PC := { ts := [ringT, i64T, i64T], rs := [ringT, .bool], pre := fun x => FlsP x.1.1, F := fun x => addFlF x.1 x.2.1 x.2.2 }
def fI_PushTicketC : PC := { ts := [ringT, i64T, tkT], rs := [ringT, .bool], pre := fun x => FlsP x.1.1, F := fun x => pushTkF x.1 x.2.1 x.2.2 }
def fI_NextTicketC : PC := { ts := [ringT], rs := [ringT, i64T, tkT, .bool], pre := fun x => FlsP x.1, F := fun x => nextTkF x }
def lnJ (l : List Tk) (id : Int) : Prop := lineOkF l = true ∧ ∀ t ∈ l, t.1 ≤ id
/-- The numbers' bound, and the lines. -/
abbrev FrX := Int × List Tk × List Tk × List Tk
def qaF (d : List Int) : Int := 100 + 7 * codeAt d 0
def qbF (d : List Int) : Int := 100 + 3 * codeAt d 1
def frR (qa qb : Int) (x : FrX) : List Fl := [(2, qb, 0, x.2.1), (4, qa, 0, x.2.2.1), (9, 100, 0, x.2.2.2)]
def frP (i k : Nat) (x : FrX) : Prop := 0 ≤ x.1 ∧ x.1 ≤ 3 * i + k ∧ lnJ x.2.1 x.1 ∧ lnJ x.2.2.1 x.1 ∧ lnJ x.2.2.2 x.1 ∧
  x.2.1.length = (if 1 < k then i + 1 else i) ∧ x.2.2.1.length = (if 0 < k then i + 1 else i) ∧ x.2.2.2.length ≤ (if 2 < k then i + 1 else i)
def tenK (k : Nat) : Int := if k = 0 then 4 else if k = 2 then 9 else 2
/-- What is owed to each of the two. -/
def frV (qa qb dA dB : Int) (t : Nat) (fr : Bool) (a b : Int) : Prop := ∃ X Y : Int, X * qb = Y * qa ∧
  dA = X + (if (t = 1 ∧ fr = false) ∨ (t = 0 ∧ fr = true) then 0 else qa) - a ∧ dB = Y - b ∧ 0 ≤ dA ∧ 0 ≤ dB ∧
  dA ≤ 199999 + (if t = 1 ∧ fr = true then qa else 0) ∧ dB ≤ 199999 + (if t = 0 ∧ fr = true then qb else 0)
abbrev FrY := Rg × Int × Int
def lnA (r : Rg) : Nat := (r.1.getD 1 fl0).2.2.2.length
def lnB (r : Rg) : Nat := (r.1.getD 0 fl0).2.2.2.length
def frH (qa qb : Int) (x : FrY) : Prop := ringOkF x.1.1 x.1.2.1 x.1.2.2 = true ∧ 0 ≤ x.2.1 ∧ 0 ≤ x.2.2 ∧ x.2.1 + 200000 * lnA x.1 ≤ 8000000 ∧ x.2.2 + 200000 * lnB x.1 ≤ 8000000 ∧
  ∃ (lB lA lC : List Tk) (dB dA dC : Int) (t : Nat) (fr : Bool), x.1 = ([(2, qb, dB, lB), (4, qa, dA, lA), (9, 100, dC, lC)], (t : Int), fr) ∧ t < 3 ∧ (lA ≠ [] → lB ≠ [] → frV qa qb dA dB t fr x.2.1 x.2.2)
def aL_frE (qa qb : Int) (x : FrX) : List (Nat × Ent) := [(0, .bx [.own 3, cw 1, cb false]), (1, .dead), (2, .dead), (3, .row true flT (frR qa qb x))]
def aL_FnFair4 (d : List Int) (i k : Nat) (x : FrX) : Nat → Option Ann := fun
  | 100028 => some (.mk Int (fun c => 1 ≤ c ∧ c ≤ 200000) (fun st c => (((st.keep 6 [10, 11]).sets [(9, si (x.1 + 1)), (12, si (tenK k)), (13, si c)]).setEs (aL_frE (qaF d) (qbF d) x))) (fun _ => 0) 0 (fun _ _ => none))
  | _ => none
def aL_FnFair3 (d : List Int) (i : Nat) (k : Nat) (x : FrX) : Nat → Option Ann := fun
  | 100024 => some (.mk Unit (fun _ => k < 3) (fun st _ => (((st.keep 6 [10, 11]).sets [(9, si x.1), (12, si (tenK k))]).setEs (aL_frE (qaF d) (qbF d) x))) (fun _ => 0) () (fun _ => aL_FnFair4 d i k x))
  | _ => none
def aL_FnFair2 (d : List Int) (i : Nat) (x : FrX) : Nat → Option Ann := fun
  | 16 => some (.mk (Nat × FrX) (fun y => y.1 ≤ 3 ∧ frP i y.1 y.2) (fun st y => (((st.keep 6 [10]).sets [(9, si y.2.1), (11, si y.1)]).setEs (aL_frE (qaF d) (qbF d) y.2))) (fun y => 3 - y.1) (0, x) (fun y => aL_FnFair3 d i y.1 y.2))
  | _ => none
def aL_FnFair5 (d : List Int) (x : FrX) : Nat → Option Ann := fun
  | 39 => some (.mk FrY (fun y => frH (qaF d) (qbF d) y) (fun st y => (((st.keep 6 [16]).sets [(17, si y.2.1), (18, si y.2.2), (19, si (lnA y.1)), (20, si (lnB y.1))]).setEs [(0, .bx [.own 3, cw y.1.2.1, cb y.1.2.2]), (3, .row true flT y.1.1)])) (fun y => (waitGo y.1.1 0).toNat) ((frR (qaF d) (qbF d) x, 1, false), 0, 0) (fun _ _ => none))
  | _ => none
def aL_FnFair (d : List Int) : Nat → Option Ann := fun
  | 13 => some (.mk (Nat × FrX) (fun y => y.1 ≤ 40 ∧ frP y.1 0 y.2) (fun st y => (((st.keep 6 []).sets [(9, si y.2.1), (10, si y.1)]).setEs (aL_frE (qaF d) (qbF d) y.2))) (fun y => 40 - y.1) (0, 0, [], [], []) (fun y => aL_FnFair2 d y.1 y.2))
  | 100032 => some (.mk FrX (fun x => frP 40 0 x) (fun st x => ((st.keep 6 []).setEs (aL_frE (qaF d) (qbF d) x))) (fun _ => 0) (0, [], [], []) (fun x => aL_FnFair5 d x))
  | _ => none
end Go.SF

