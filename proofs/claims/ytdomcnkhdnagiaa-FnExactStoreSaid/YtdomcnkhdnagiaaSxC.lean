/- A verified symbolic executor and its contracts (part SxC). No condition. -/
import Derived.Test.YtdomcnkhdnagiaaSxH
import Derived.IntWalk
import Derived.Test.YtdomcnkhdnagiaaSxG
/- Contracts: what all share. No condition. -/
namespace Go.SF
open Go.SX Go
set_option linter.unusedVariables false
def gOf : List (Nat × PC) → FuncId → Option PC
  | [], _ => none
  | (k, c) :: r, f => if f = k then some c else gOf r f
def rOf : List (Nat × Rule) → FuncId → Option Rule
  | [], _ => none
  | (k, c) :: r, f => if f = k then some c else rOf r f
/-- Literals tell their blocks. -/
def tellR : Rule := fun _ _ _ => False
def R0 : FuncId → Option Rule := fun _ => none
def noB {X Y : Type} : X → Y → Nat → Option Ann := fun _ _ _ => none
def noA {X : Type} : X → Nat → Option Ann := fun _ _ => none
def si (n : Int) : S := .c (.val (.int .i64 n))
abbrev i64T : Ty := .int .i64
def w64 (n : Int) : Int := IntKind.i64.wrap n
def szF (n : Nat) (left : Int) : Int := if w64 (left - n) < 0 then -1 else w64 (left - n)
/-- A copy, element by element. -/
def copyA {e : Ty} (x : List e.den) (key i out m : Nat) : Nat → Option Ann := fun k =>
  if k = key then some (.mk Nat (fun k => k ≤ x.length) (fun st k => ((st.keep m []).sets [(i, si k), (out, .c (.own 0))]).setEs [(0, .row true e (x.take k ++ List.replicate (x.length - k) e.dflt))]) (fun k => x.length - k) 0 (fun _ _ => none))
  else none
/-- Two lists, element by element. -/
def eqA {e : Ty} (x : List e.den × List e.den) (key i m : Nat) : Nat → Option Ann := fun k =>
  if k = key then some (.mk Nat (fun k => k ≤ x.1.length ∧ x.1.length = x.2.length ∧ x.1.take k = x.2.take k) (fun st k => (st.keep m []).sets [(i, si k)]) (fun k => x.1.length - k) 0 (fun _ _ => none))
  else none
def fS_l01InC : PC := { ts := [i64T, i64T, i64T], rs := [.bool], pre := fun _ => True, F := fun x => decide (x.2.1 ≤ x.1) && decide (x.1 ≤ x.2.2) }
theorem getD_drop_cons {α : Type} {l : List α} {i : Nat} {x : α} (h : i < l.length) : l.drop i = l.getD i x :: l.drop (i + 1) := by
  rw [List.drop_eq_getElem_cons h]; simp [h]
theorem wrap_small {n : Int} (h : -9223372036854775808 ≤ n ∧ n ≤ 9223372036854775807) : IntKind.i64.wrap n = n := by
  rw [IntKind.wrap_i64]; omega
theorem wrap_succ {n : Nat} (h : n < 9223372036854775807) : IntKind.i64.wrap ((n : Int) + 1) = ((n + 1 : Nat) : Int) := by
  rw [wrap_small (by omega)]; rfl
theorem copy_step {α : Type} (l : List α) (z : α) {i : Nat} (h : i < l.length) : (l.take i ++ List.replicate (l.length - i) z).set i (l.getD i z) = l.take (i + 1) ++ List.replicate (l.length - (i + 1)) z := by
  apply List.ext_getElem?
  intro j
  simp only [List.getElem?_set, List.getElem?_append, List.getElem?_take, List.getElem?_replicate, List.length_take, List.length_append, List.length_replicate, List.getD_eq_getElem?_getD]
  grind
theorem take_ext {α : Type} {a b : List α} {z : α} {i : Nat} (hl : a.length = b.length) (hi : i < a.length) (h : a.take i = b.take i) : (a.take (i + 1) = b.take (i + 1) ↔ a.getD i z = b.getD i z) ∧ (a = b → a.getD i z = b.getD i z) := by
  refine ⟨?_, fun e => by rw [e]⟩
  rw [List.take_add_one, List.take_add_one, h, List.append_cancel_left_eq]
  rw [List.getElem?_eq_getElem hi, List.getElem?_eq_getElem (show i < b.length by omega)]
  simp [hi, show i < b.length by omega]
end Go.SF


/- Contracts: lines of tickets. No condition. -/
namespace Go.SF
open Go.SX Go
set_option linter.unusedVariables false
abbrev tkT : Ty := .st (.pr (.int .i64) (.int .i64))
abbrev Tk := Int × Int
abbrev lineT : Ty := .st (.sl tkT)
def isTicketF (t : Tk) : Bool := decide (1 ≤ t.1) && decide (t.1 ≤ 1000000000) && decide (1 ≤ t.2) && decide (t.2 ≤ 200000)
/-- The first 'k' tickets: each is one, the numbers rise. -/
def LineP (xs : List Tk) (k : Nat) : Prop := ∀ j, j < k → isTicketF (xs.getD j (0, 0)) = true ∧ (0 < j → (xs.getD (j - 1) (0, 0)).1 < (xs.getD j (0, 0)).1)
instance (xs : List Tk) (k : Nat) : Decidable (LineP xs k) := by unfold LineP; infer_instance
def lineOkF (xs : List Tk) : Bool := decide (xs.length ≤ 40) && decide (LineP xs xs.length)
def costGo : List Tk → Int → Int
  | [], s => s
  | x :: xs, s => costGo xs (w64 (s + x.2))
def lineCostF (xs : List Tk) : Int := if lineOkF xs then costGo xs 0 else -1
def fL_szTicketSC : PC := { ts := [.sl tkT, i64T], rs := [i64T], pre := fun _ => True, F := fun x => szF x.1.length x.2 }
def fL_szLineC : PC := { ts := [lineT, i64T], rs := [i64T], pre := fun _ => True, F := fun x => szF x.1.length x.2 }
def fL_toTicketC : PC := { ts := [tkT], rs := [tkT], pre := fun _ => True, F := fun x => x }
def fL_toTicketSC : PC := { ts := [.sl tkT], rs := [.sl tkT], pre := fun x => x.length ≤ 1048576, F := fun x => x }
def fL_toLineC : PC := { ts := [lineT], rs := [lineT], pre := fun x => x.length ≤ 1048576, F := fun x => x }
def fL_eqTicketC : PC := { ts := [tkT, tkT], rs := [.bool], pre := fun _ => True, F := fun x => decide (x.1 = x.2) }
def fL_eqTicketSC : PC := { ts := [.sl tkT, .sl tkT], rs := [.bool], pre := fun _ => True, F := fun x => decide (x.1 = x.2) }
def fL_eqLineC : PC := { ts := [lineT, lineT], rs := [.bool], pre := fun _ => True, F := fun x => decide (x.1 = x.2) }
def aL_toTicketS (x : List Tk) := copyA (e := tkT) x 3 4 3 5
def aL_eqTicketS (x : List Tk × List Tk) := eqA (e := tkT) x 4 5 6
def fS_l13TicketC : PC := { ts := [tkT], rs := [.bool], pre := fun _ => True, F := fun x => isTicketF x }
def fI_isTicketC : PC := { ts := [tkT], rs := [.bool], pre := fun _ => True, F := fun x => isTicketF x }
def fS_LineOkC : PC := { ts := [lineT], rs := [.bool], pre := fun _ => True, F := fun x => lineOkF x }
def fI_isLineC : PC := { ts := [lineT], rs := [.bool], pre := fun _ => True, F := fun x => lineOkF x }
def fI_costOfC : PC := { ts := [.sl tkT], rs := [i64T], pre := fun _ => True, F := fun x => costGo x 0 }
def fS_LineCostC : PC := { ts := [lineT], rs := [i64T], pre := fun _ => True, F := fun x => lineCostF x }
def fI_LineCostC : PC := { ts := [lineT], rs := [i64T], pre := fun _ => True, F := fun x => lineCostF x }
def aS_LineOk (x : List Tk) : Nat → Option Ann := fun
  | 4 => some (.mk Nat (fun k => k ≤ x.length ∧ LineP x k) (fun st k => (st.keep 3 []).sets [(3, si k)]) (fun k => x.length - k) 0 (fun _ _ => none))
  | _ => none
def aI_isLine (x : List Tk) : Nat → Option Ann := fun
  | 2 => some (.mk Nat (fun k => k ≤ x.length ∧ LineP x k) (fun st k => (st.keep 3 [6, 7]).sets [(8, si k)]) (fun k => x.length - k) 0 (fun _ _ => none))
  | _ => none
def aI_costOf (x : List Tk) : Nat → Option Ann := fun
  | 3 => some (.mk (Nat × Int) (fun k => k.1 ≤ x.length ∧ costGo (x.drop k.1) k.2 = costGo x 0) (fun st k => (st.keep 3 [6, 7]).sets [(8, si k.1), (3, si k.2)]) (fun k => x.length - k.1) (0, 0) (fun _ _ => none))
  | _ => none
def aS_LineCost (x : List Tk) : Nat → Option Ann := fun
  | 5 => some (.mk (Nat × Int) (fun k => k.1 ≤ x.length ∧ costGo (x.drop k.1) k.2 = costGo x 0) (fun st k => (st.keep 3 []).sets [(4, si k.1), (3, si k.2)]) (fun k => x.length - k.1) (0, 0) (fun _ _ => none))
  | _ => none
def idxGo (id : Int) : List Tk → Nat → Int
  | [], _ => -1
  | x :: xs, k => if x.1 = id then (k : Int) else idxGo id xs (k + 1)
def placeF (xs : List Tk) (id : Int) : Int := if lineOkF xs then idxGo id xs 0 else -1
def fI_placeOf1C : PC := { ts := [tkT, .ptr i64T], rs := [.bool], pre := fun _ => True, F := fun x => decide (x.1.1 = x.2) }
def fG_IndexFuncTkC (g : Nat) : PC := { ts := [.sl tkT, .clo g (.ptr i64T)], rs := [i64T], pre := fun _ => True, F := fun x => idxGo x.2 x.1 0 }
def fI_placeOfC : PC := { ts := [lineT, i64T], rs := [i64T], pre := fun _ => True, F := fun x => idxGo x.2 x.1 0 }
def fS_PlaceOfC : PC := { ts := [lineT, i64T], rs := [i64T], pre := fun _ => True, F := fun x => placeF x.1 x.2 }
def fI_PlaceOfC : PC := { ts := [lineT, i64T], rs := [i64T], pre := fun _ => True, F := fun x => placeF x.1 x.2 }
def aG_IndexFuncTk (x : List Tk × Int) : Nat → Option Ann := fun
  | 2 => some (.mk Nat (fun k => k ≤ x.1.length ∧ idxGo x.2 (x.1.drop k) k = idxGo x.2 x.1 0) (fun st k => (st.keep 6 [7]).sets [(8, si k)]) (fun k => x.1.length - k) 0 (fun _ _ => none))
  | _ => none
def aS_PlaceOf (x : List Tk × Int) : Nat → Option Ann := fun
  | 4 => some (.mk Nat (fun k => k ≤ x.1.length ∧ idxGo x.2 (x.1.drop k) k = idxGo x.2 x.1 0) (fun st k => (st.keep 6 []).sets [(5, si k)]) (fun k => x.1.length - k) 0 (fun _ _ => none))
  | _ => none
def aheadF (xs : List Tk) (id : Int) : Int := if lineOkF xs = true ∧ 0 ≤ idxGo id xs 0 then costGo (xs.take (idxGo id xs 0).toNat) 0 else -1
def fS_AheadC : PC := { ts := [lineT, i64T], rs := [i64T], pre := fun _ => True, F := fun x => aheadF x.1 x.2 }
def fI_AheadC : PC := { ts := [lineT, i64T], rs := [i64T], pre := fun _ => True, F := fun x => aheadF x.1 x.2 }
end Go.SF


/- Contracts: ServedCost. No condition. -/
namespace Go.SF
open Go.SX Go
set_option linter.unusedVariables false
abbrev svT : Ty := .st (.pr (.int .i64) (.pr (.int .i64) (.int .i64)))
abbrev Sv := Int × Int × Int
def servedGo (t : Int) : List Sv → Int → Int
  | [], s => s
  | x :: xs, s => if 1 ≤ x.2.2 ∧ x.2.2 ≤ 200000 then servedGo t xs (if x.1 = t then w64 (s + x.2.2) else s) else -1
def servedF (xs : List Sv) (t : Int) : Int := if 4096 < xs.length then -1 else servedGo t xs 0
def fL_toServedC : PC := { ts := [svT], rs := [svT], pre := fun _ => True, F := fun x => x }
def fL_eqServedC : PC := { ts := [svT, svT], rs := [.bool], pre := fun _ => True, F := fun x => decide (x.1 = x.2) }
def fL_szServedSC : PC := { ts := [.sl svT, i64T], rs := [i64T], pre := fun _ => True, F := fun x => szF x.1.length x.2 }
def fL_toServedSC : PC := { ts := [.sl svT], rs := [.sl svT], pre := fun x => x.length ≤ 1048576, F := fun x => x }
def fL_eqServedSC : PC := { ts := [.sl svT, .sl svT], rs := [.bool], pre := fun _ => True, F := fun x => decide (x.1 = x.2) }
def fS_ServedCostC : PC := { ts := [.sl svT, i64T], rs := [i64T], pre := fun _ => True, F := fun x => servedF x.1 x.2 }
def fI_ServedCostC : PC := { ts := [.sl svT, i64T], rs := [i64T], pre := fun _ => True, F := fun x => servedF x.1 x.2 }
def aS_ServedCost (x : List Sv × Int) : Nat → Option Ann := fun
  | 5 => some (.mk (Nat × Int) (fun k => k.1 ≤ x.1.length ∧ servedGo x.2 (x.1.drop k.1) k.2 = servedGo x.2 x.1 0) (fun st k => (st.keep 7 []).sets [(6, si k.1), (5, si k.2)]) (fun k => x.1.length - k.1) (0, 0) (fun _ _ => none))
  | _ => none
def aI_ServedCost (x : List Sv × Int) : Nat → Option Ann := fun
  | 5 => some (.mk (Nat × Int) (fun k => k.1 ≤ x.1.length ∧ servedGo x.2 (x.1.drop k.1) k.2 = servedGo x.2 x.1 0) (fun st k => (st.keep 8 [11, 12]).sets [(13, si k.1), (5, si k.2)]) (fun k => x.1.length - k.1) (0, 0) (fun _ _ => none))
  | _ => none
def aL_toServedS (x : List Sv) := copyA (e := svT) x 3 4 3 5
def aL_eqServedS (x : List Sv × List Sv) := eqA (e := svT) x 4 5 6
end Go.SF


/- Contracts: crews of hands. No condition. -/
namespace Go.SF
open Go.SX Go
set_option linter.unusedVariables false
abbrev hdT : Ty := .st (.pr (.int .i64) (.pr (.int .i64) (.int .i64)))
abbrev Hd := Int × Int × Int
abbrev crewT : Ty := .st (.pr (.int .i64) (.sl hdT))
abbrev Cr := Int × List Hd
def hd0 : Hd := (0, 0, 0)
def idleF (h : Hd) : Bool := decide (h.1 = 0) && (decide (h.2.1 = 0) && decide (h.2.2 = 0))
def handOkF (h : Hd) : Bool := decide (0 ≤ h.1 ∧ h.1 ≤ 99) && isTicketF (h.2.1, h.2.2)
/-- No hand before 'j' has the work of hand 'k'. -/
def ClashP (xs : List Hd) (k j : Nat) : Prop := ∀ i, i < j → ¬ ((xs.getD i (0, 0, 0)).1 = (xs.getD k (0, 0, 0)).1 ∧ (xs.getD i (0, 0, 0)).2.1 = (xs.getD k (0, 0, 0)).2.1)
instance decClashP (xs : List Hd) (k j : Nat) : Decidable (ClashP xs k j) := by unfold ClashP; infer_instance
/-- The first 'k' hands are idle or well. -/
def CrewP (xs : List Hd) (k : Nat) : Prop := ∀ j, j < k → idleF (xs.getD j (0, 0, 0)) = true ∨ (handOkF (xs.getD j (0, 0, 0)) = true ∧ ClashP xs j j)
instance decCrewP (xs : List Hd) (k : Nat) : Decidable (CrewP xs k) := by unfold CrewP; infer_instance
def crewOkF (pace : Int) (xs : List Hd) : Bool := decide (1 ≤ pace ∧ pace ≤ 200000) && decide (1 ≤ xs.length ∧ xs.length ≤ 8) && decide (CrewP xs xs.length)
def hidxGo (t i : Int) : List Hd → Nat → Int
  | [], _ => -1
  | h :: hs, k => if h.2.1 ≠ 0 ∧ h.1 = t ∧ h.2.1 = i then (k : Int) else hidxGo t i hs (k + 1)
def idleGo : List Hd → Nat → Int
  | [], _ => -1
  | h :: hs, k => if idleF h then (k : Int) else idleGo hs (k + 1)
def busyGo : List Hd → Int → Int
  | [], s => s
  | h :: hs, s => busyGo hs (w64 (s + h.2.2))
def tickOf (pace : Int) (h : Hd) : Int := w64 ((w64 (w64 (h.2.2 + pace) - 1)).tdiv pace)
def ticksGo (pace : Int) : List Hd → Int → Int
  | [], m => m
  | h :: hs, m => ticksGo pace hs (imax m (tickOf pace h))
def busyF (c : Cr) : Int := if crewOkF c.1 c.2 then busyGo c.2 0 else -1
def ticksF (c : Cr) : Int := if crewOkF c.1 c.2 then ticksGo c.1 c.2 0 else -1
def idleIdF (c : Cr) : Int := if crewOkF c.1 c.2 then idleGo c.2 0 else -1
def fL_szHandSC : PC := { ts := [.sl hdT, i64T], rs := [i64T], pre := fun _ => True, F := fun x => szF x.1.length x.2 }
def fL_szCrewC : PC := { ts := [crewT, i64T], rs := [i64T], pre := fun _ => True, F := fun x => szF x.1.2.length x.2 }
def fL_toHandC : PC := { ts := [hdT], rs := [hdT], pre := fun _ => True, F := fun x => x }
def fL_toHandSC : PC := { ts := [.sl hdT], rs := [.sl hdT], pre := fun x => x.length ≤ 1048576, F := fun x => x }
def fL_toCrewC : PC := { ts := [crewT], rs := [crewT], pre := fun x => x.2.length ≤ 1048576, F := fun x => x }
def fL_eqHandC : PC := { ts := [hdT, hdT], rs := [.bool], pre := fun _ => True, F := fun x => decide (x.1 = x.2) }
def fL_eqHandSC : PC := { ts := [.sl hdT, .sl hdT], rs := [.bool], pre := fun _ => True, F := fun x => decide (x.1 = x.2) }
def fL_eqCrewC : PC := { ts := [crewT, crewT], rs := [.bool], pre := fun _ => True, F := fun x => decide (x.1 = x.2) }
def aL_toHandS (x : List Hd) := copyA (e := hdT) x 3 4 3 5
def aL_eqHandS (x : List Hd × List Hd) := eqA (e := hdT) x 4 5 6
def fS_l15IdleC : PC := { ts := [hdT], rs := [.bool], pre := fun _ => True, F := fun x => idleF x }
def fS_CrewOkC : PC := { ts := [crewT], rs := [.bool], pre := fun _ => True, F := fun x => crewOkF x.1 x.2 }
def fI_isCrewC : PC := { ts := [crewT], rs := [.bool], pre := fun _ => True, F := fun x => crewOkF x.1 x.2 }
def fI_CrewOkC : PC := { ts := [crewT], rs := [.bool], pre := fun _ => True, F := fun x => crewOkF x.1 x.2 }
def fI_handOf1C : PC := { ts := [hdT, .ptr i64T, .ptr i64T], rs := [.bool], pre := fun _ => True, F := fun x => decide (x.1.2.1 ≠ 0 ∧ x.1.1 = x.2.1 ∧ x.1.2.1 = x.2.2) }
def fG_IndexFuncHdC (g : Nat) : PC := { ts := [.sl hdT, .clo g (.pr (.ptr i64T) (.ptr i64T))], rs := [i64T], pre := fun _ => True, F := fun x => hidxGo x.2.1 x.2.2 x.1 0 }
def fI_handOfC : PC := { ts := [.sl hdT, i64T, i64T], rs := [i64T], pre := fun _ => True, F := fun x => hidxGo x.2.1 x.2.2 x.1 0 }
def fS_BusyUnitsC : PC := { ts := [crewT], rs := [i64T], pre := fun _ => True, F := fun x => busyF x }
def fI_BusyUnitsC : PC := { ts := [crewT], rs := [i64T], pre := fun _ => True, F := fun x => busyF x }
def fS_TicksLeftC : PC := { ts := [crewT], rs := [i64T], pre := fun _ => True, F := fun x => ticksF x }
def fI_TicksLeftC : PC := { ts := [crewT], rs := [i64T], pre := fun _ => True, F := fun x => ticksF x }
def fS_IdleHandC : PC := { ts := [crewT], rs := [i64T], pre := fun _ => True, F := fun x => idleIdF x }
def fI_IdleHandC : PC := { ts := [crewT], rs := [i64T], pre := fun _ => True, F := fun x => idleIdF x }
def fG_IndexHdC : PC := { ts := [.sl hdT, hdT], rs := [i64T], pre := fun x => x.2 = (0, 0, 0), F := fun x => idleGo x.1 0 }
def aS_CrewOk2 (x : Cr) (k : Nat) : Nat → Option Ann := fun
  | 11 => some (.mk Nat (fun j => j ≤ k ∧ ClashP x.2 k j) (fun st j => (st.keep 5 []).sets [(5, si j)]) (fun j => k - j) 0 (fun _ _ => none))
  | _ => none
def aS_CrewOk (x : Cr) : Nat → Option Ann := fun
  | 4 => some (.mk Nat (fun k => k ≤ x.2.length ∧ CrewP x.2 k) (fun st k => (st.keep 3 []).sets [(3, si k)]) (fun k => x.2.length - k) 0 (fun k => aS_CrewOk2 x k))
  | _ => none
def aI_isCrew (x : Cr) : Nat → Option Ann := fun
  | 4 => some (.mk Nat (fun k => k ≤ x.2.length ∧ CrewP x.2 k) (fun st k => (st.keep 3 [26, 27]).sets [(28, si k)]) (fun k => x.2.length - k) 0 (fun _ _ => none))
  | _ => none
def aG_IndexFuncHd (x : List Hd × Int × Int) : Nat → Option Ann := fun
  | 2 => some (.mk Nat (fun k => k ≤ x.1.length ∧ hidxGo x.2.1 x.2.2 (x.1.drop k) k = hidxGo x.2.1 x.2.2 x.1 0) (fun st k => (st.keep 6 [7]).sets [(8, si k)]) (fun k => x.1.length - k) 0 (fun _ _ => none))
  | _ => none
def aI_BusyUnits (x : Cr) : Nat → Option Ann := fun
  | 5 => some (.mk (Nat × Int) (fun k => k.1 ≤ x.2.length ∧ busyGo (x.2.drop k.1) k.2 = busyGo x.2 0) (fun st k => (st.keep 3 [10, 11]).sets [(12, si k.1), (3, si k.2)]) (fun k => x.2.length - k.1) (0, 0) (fun _ _ => none))
  | _ => none
def aS_BusyUnits (x : Cr) : Nat → Option Ann := fun
  | 5 => some (.mk (Nat × Int) (fun k => k.1 ≤ x.2.length ∧ busyGo (x.2.drop k.1) k.2 = busyGo x.2 0) (fun st k => (st.keep 3 []).sets [(4, si k.1), (3, si k.2)]) (fun k => x.2.length - k.1) (0, 0) (fun _ _ => none))
  | _ => none
def aI_TicksLeft (x : Cr) : Nat → Option Ann := fun
  | 5 => some (.mk (Nat × Int) (fun k => k.1 ≤ x.2.length ∧ ticksGo x.1 (x.2.drop k.1) k.2 = ticksGo x.1 x.2 0) (fun st k => (st.keep 3 [10, 11]).sets [(12, si k.1), (3, si k.2)]) (fun k => x.2.length - k.1) (0, 0) (fun _ _ => none))
  | _ => none
def aS_TicksLeft (x : Cr) : Nat → Option Ann := fun
  | 5 => some (.mk (Nat × Int) (fun k => k.1 ≤ x.2.length ∧ ticksGo x.1 (x.2.drop k.1) k.2 = ticksGo x.1 x.2 0) (fun st k => (st.keep 3 []).sets [(4, si k.1), (3, si k.2)]) (fun k => x.2.length - k.1) (0, 0) (fun _ _ => none))
  | _ => none
def aS_IdleHand (x : Cr) : Nat → Option Ann := fun
  | 4 => some (.mk Nat (fun k => k ≤ x.2.length ∧ idleGo (x.2.drop k) k = idleGo x.2 0) (fun st k => (st.keep 3 []).sets [(3, si k)]) (fun k => x.2.length - k) 0 (fun _ _ => none))
  | _ => none
def aG_IndexHd (x : List Hd × Hd) : Nat → Option Ann := fun
  | 2 => some (.mk Nat (fun k => k ≤ x.1.length ∧ idleGo (x.1.drop k) k = idleGo x.1 0) (fun st k => (st.keep 5 [7]).sets [(8, si k)]) (fun k => x.1.length - k) 0 (fun _ _ => none))
  | _ => none
end Go.SF


/- Contracts: marks. No condition. -/
namespace Go.SF
open Go.SX Go
set_option linter.unusedVariables false
def noM0 {X : Type} : X → Int → Nat → Option Ann := fun _ _ _ => none
/-- Each element is made anew out of the number that it is its turn with. -/
def mkGo {α : Type} (el : Int → α) (nx : Int → Int) : List α → Int → List α
  | [], _ => []
  | _ :: xs, k => el k :: mkGo el nx xs (nx k)
def mkEnd {α : Type} (nx : Int → Int) : List α → Int → Int
  | [], k => k
  | _ :: xs, k => mkEnd nx xs (nx k)
def heldGo {α : Type} (ok : α → Int → Bool) (nx : Int → Int) : List α → Int → Int
  | [], k => k
  | x :: xs, k => if ok x k then heldGo ok nx xs (nx k) else -1
def n1 (k : Int) : Int := w64 (k + 1)
def n2 (k : Int) : Int := w64 (w64 (k + 1) + 1)
def n3 (k : Int) : Int := w64 (w64 (w64 (k + 1) + 1) + 1)
def el1 (k : Int) : Int := k
def el2 (k : Int) : Int × Int := (k, w64 (k + 1))
def el3 (k : Int) : Int × Int × Int := (k, w64 (k + 1), w64 (w64 (k + 1) + 1))
def ok1 (x : Int) (k : Int) : Bool := decide (x = k)
def ok2 (x : Int × Int) (k : Int) : Bool := decide (x.1 = k ∧ x.2 = w64 (k + 1))
def ok3 (x : Int × Int × Int) (k : Int) : Bool := decide (x.1 = k ∧ x.2.1 = w64 (k + 1) ∧ x.2.2 = w64 (w64 (k + 1) + 1))
def held1 (xs : List Int) (k : Int) : Int := heldGo ok1 n1 xs k
def held2 (xs : List (Int × Int)) (k : Int) : Int := heldGo ok2 n2 xs k
def held3 (xs : List (Int × Int × Int)) (k : Int) : Int := heldGo ok3 n3 xs k
def mark1 (xs : List Int) (k : Int) : List Int := mkGo el1 n1 xs k
def mark2 (xs : List (Int × Int)) (k : Int) : List (Int × Int) := mkGo el2 n2 xs k
def mark3 (xs : List (Int × Int × Int)) (k : Int) : List (Int × Int × Int) := mkGo el3 n3 xs k
def end1 (xs : List Int) (k : Int) : Int := mkEnd n1 xs k
def end2 (xs : List (Int × Int)) (k : Int) : Int := mkEnd n2 xs k
def end3 (xs : List (Int × Int × Int)) (k : Int) : Int := mkEnd n3 xs k
def neg1 (k : Int) : Int := if k < 0 then -1 else k
def markA {e : Ty} (mk : List e.den → Int → List e.den) (en : List e.den → Int → Int) (x : List e.den) (k : Int) : Nat → Option Ann := fun
  | 2 => some (.mk (Nat × Int) (fun j => j.1 ≤ x.length ∧ j.2 = en (x.take j.1) k) (fun st j => ((st.keep 1 []).sets [(5, si j.1), (1, si j.2)]).setEs [(0, .row false e (mk (x.take j.1) k ++ x.drop j.1))]) (fun j => x.length - j.1) (0, k) (fun _ _ => none))
  | _ => none
def heldA {e : Ty} (he : List e.den → Int → Int) (x : List e.den × Int) : Nat → Option Ann := fun
  | 2 => some (.mk (Nat × Int) (fun j => j.1 ≤ x.1.length ∧ he (x.1.drop j.1) j.2 = he x.1 x.2) (fun st j => (st.keep 1 []).sets [(5, si j.1), (1, si j.2)]) (fun j => x.1.length - j.1) (0, x.2) (fun _ _ => none))
  | _ => none
def fL_markHandSC : MC := { t := .sl hdT, pre := fun _ _ => True, F := fun x k => end3 x k, G := fun x k => mark3 x k }
def fL_heldHandSC : PC := { ts := [.sl hdT, i64T], rs := [i64T], pre := fun _ => True, F := fun x => held3 x.1 x.2 }
def fL_markCrewC : MC := { t := crewT, pre := fun _ _ => True, F := fun x k => end3 x.2 k, G := fun x k => (x.1, mark3 x.2 k) }
def fL_heldCrewC : PC := { ts := [crewT, i64T], rs := [i64T], pre := fun _ => True, F := fun x => neg1 (held3 x.1.2 x.2) }
def fL_markServedSC : MC := { t := .sl svT, pre := fun _ _ => True, F := fun x k => end3 x k, G := fun x k => mark3 x k }
def fL_heldServedSC : PC := { ts := [.sl svT, i64T], rs := [i64T], pre := fun _ => True, F := fun x => held3 x.1 x.2 }
def fL_markTicketSC : MC := { t := .sl tkT, pre := fun _ _ => True, F := fun x k => end2 x k, G := fun x k => mark2 x k }
def fL_heldTicketSC : PC := { ts := [.sl tkT, i64T], rs := [i64T], pre := fun _ => True, F := fun x => held2 x.1 x.2 }
def fL_markLineC : MC := { t := lineT, pre := fun _ _ => True, F := fun x k => end2 x k, G := fun x k => mark2 x k }
def fL_heldLineC : PC := { ts := [lineT, i64T], rs := [i64T], pre := fun _ => True, F := fun x => neg1 (held2 x.1 x.2) }
def fL_markIntSC : MC := { t := .sl i64T, pre := fun _ _ => True, F := fun x k => end1 x k, G := fun x k => mark1 x k }
def fL_heldIntSC : PC := { ts := [.sl i64T, i64T], rs := [i64T], pre := fun _ => True, F := fun x => held1 x.1 x.2 }
def aL_markHandS (x : List Hd) (k : Int) := markA (e := hdT) mark3 end3 x k
def aL_heldHandS (x : List Hd × Int) := heldA (e := hdT) held3 x
def aL_markServedS (x : List Sv) (k : Int) := markA (e := svT) mark3 end3 x k
def aL_heldServedS (x : List Sv × Int) := heldA (e := svT) held3 x
def aL_markTicketS (x : List Tk) (k : Int) := markA (e := tkT) mark2 end2 x k
def aL_heldTicketS (x : List Tk × Int) := heldA (e := tkT) held2 x
def aL_markIntS (x : List Int) (k : Int) := markA (e := i64T) mark1 end1 x k
def aL_heldIntS (x : List Int × Int) := heldA (e := i64T) held1 x
end Go.SF


/- Contracts: lines that are made anew. No condition. -/
namespace Go.SF
open Go.SX Go
set_option linter.unusedVariables false
def pushF (xs : List Tk) (t : Tk) : List Tk × Bool := if lineOkF xs = true ∧ lineOkF (xs ++ [t]) = true then (xs ++ [t], true) else (xs, false)
def ipushF (xs : List Tk) (t : Tk) : List Tk × Bool := if lineOkF (xs ++ [t]) = true then (xs ++ [t], true) else (xs, false)
def goneGo (id : Int) : List Tk → Tk → Tk
  | [], g => g
  | x :: xs, g => goneGo id xs (if x.1 = id then x else g)
def restF (id : Int) (xs : List Tk) : List Tk := xs.filter (fun t => !decide (t.1 = id))
def cancelSF (xs : List Tk) (id : Int) : List Tk × Tk × Bool :=
  if lineOkF xs = true then (restF id xs, goneGo id xs (0, 0), !decide ((goneGo id xs (0, 0)).1 = 0)) else (xs, (0, 0), false)
def popF (xs : List Tk) : List Tk × Tk × Bool := if lineOkF xs = true ∧ xs.length ≠ 0 then (xs.drop 1, xs.getD 0 (0, 0), true) else (xs, (0, 0), false)
def cw (n : Int) : C := .val (.int .i64 n)
def fS_l13CopyC : PC := { ts := [lineT], rs := [lineT], pre := fun x => x.length ≤ 1048576, F := fun x => x }
def fI_copyLineC : PC := { ts := [lineT], rs := [lineT], pre := fun x => x.length ≤ 1048576, F := fun x => x }
def fI_pushC : PC := { ts := [lineT, tkT], rs := [lineT, .bool], pre := fun x => x.1.length ≤ 1048576, F := fun x => ipushF x.1 x.2 }
def fS_PushC : PC := { ts := [lineT, tkT], rs := [lineT, .bool], pre := fun x => x.1.length ≤ 1048576, F := fun x => pushF x.1 x.2 }
def fI_PushC : PC := { ts := [lineT, tkT], rs := [lineT, .bool], pre := fun x => x.1.length ≤ 1048576, F := fun x => pushF x.1 x.2 }
def fS_CancelC : PC := { ts := [lineT, i64T], rs := [lineT, tkT, .bool], pre := fun x => x.1.length ≤ 1048576, F := fun x => cancelSF x.1 x.2 }
def fS_PopC : PC := { ts := [lineT], rs := [lineT, tkT, .bool], pre := fun x => x.length ≤ 1048576, F := fun x => popF x }
def fI_PopC : PC := { ts := [lineT], rs := [lineT, tkT, .bool], pre := fun x => x.length ≤ 1048576, F := fun x => popF x }
def aS_l13Copy (x : List Tk) : Nat → Option Ann := fun
  | 3 => some (.mk Nat (fun k => k ≤ x.length) (fun st k => ((st.keep 4 []).sets [(4, si k)]).setEs [(2, .bx [.own 3]), (3, .row true tkT (x.take k))]) (fun k => x.length - k) 0 (fun _ _ => none))
  | _ => none
def aS_Cancel (x : List Tk × Int) : Nat → Option Ann := fun
  | 6 => some (.mk (Nat × Tk) (fun k => k.1 ≤ x.1.length ∧ k.2 = goneGo x.2 (x.1.take k.1) (0, 0)) (fun st k => ((st.keep 9 []).sets [(9, si k.1)]).setEs [(3, .bx [.own 5]), (4, .bx [cw k.2.1, cw k.2.2]), (5, .row true tkT (restF x.2 (x.1.take k.1)))]) (fun k => x.1.length - k.1) (0, (0, 0)) (fun _ _ => none))
  | _ => none
end Go.SF


/- Contracts: lists of numbers. No condition. -/
namespace Go.SF
open Go.SX Go
set_option linter.unusedVariables false
def fL_eqIntSC : PC := { ts := [.sl i64T, .sl i64T], rs := [.bool], pre := fun _ => True, F := fun x => decide (x.1 = x.2) }
def aL_eqIntS (x : List Int × List Int) := eqA (e := i64T) x 4 5 6
end Go.SF


/- Contracts: fields, and lists of their elements. No condition. -/
namespace Go.SF
open Go.SX Go
set_option linter.unusedVariables false
abbrev fldT : Ty := .st (.pr (.int .i64) (.pr (.int .i64) (.int .i64)))
abbrev listT : Ty := .sl (.int .i64)
abbrev Fd := Int × Int × Int
def fieldTab : List Fd := [(17, 3, 4), (97, 5, 5), (193, 5, 6), (257, 3, 8), (7681, 17, 9), (12289, 11, 12), (998244353, 3, 23), (469762049, 3, 26), (1004535809, 3, 21)]
def fieldF (f : Int) : Fd × Bool := if 0 ≤ f ∧ f < 9 then (fieldTab.getD f.toNat (0, 0, 0), true) else ((0, 0, 0), false)
def modF (f : Int) : Int := (fieldF f).1.1
def twoF (f : Int) : Int := if (fieldF f).2 = true then (fieldF f).1.2.2 else -1
def logGo (n : Int) : Nat → Int
  | 0 => -1
  | k + 1 => if n = 2 ^ (9 - k) then ((9 - k : Nat) : Int) else logGo n k
/-- The logarithm of a number up to 512. -/
def logF (n : Int) : Int := logGo n 10
def elemsF (p : Int) (xs : List Int) : Bool := decide (∀ x ∈ xs, 0 ≤ x ∧ x ≤ p - 1)
def specElemsF (f : Int) (xs : List Int) : Bool := decide (modF f ≠ 0) && elemsF (modF f) xs
def vectorOkF (f : Int) (xs : List Int) : Bool := decide (0 ≤ logF xs.length) && decide (logF xs.length ≤ twoF f) && specElemsF f xs
def vecF (f : Int) (xs : List Int) : Fd × Bool := if vectorOkF f xs = true then ((fieldF f).1, true) else ((0, 0, 0), false)
def fI_fieldOfC : PC := { ts := [i64T], rs := [fldT, .bool], pre := fun _ => True, F := fun x => fieldF x }
def fS_ModulusC : PC := { ts := [i64T], rs := [i64T], pre := fun _ => True, F := fun x => modF x }
def fS_TwoPowerC : PC := { ts := [i64T], rs := [i64T], pre := fun _ => True, F := fun x => twoF x }
def fS_LogOfC : PC := { ts := [i64T], rs := [i64T], pre := fun _ => True, F := fun x => logF x }
def fI_logOfC : PC := { ts := [i64T], rs := [i64T], pre := fun _ => True, F := fun x => logF x }
def fS_l03ElementsC : PC := { ts := [i64T, listT], rs := [.bool], pre := fun _ => True, F := fun x => specElemsF x.1 x.2 }
def fI_areElementsC : PC := { ts := [fldT, listT], rs := [.bool], pre := fun _ => True, F := fun x => elemsF x.1.1 x.2 }
def fS_VectorOkC : PC := { ts := [i64T, listT], rs := [.bool], pre := fun _ => True, F := fun x => vectorOkF x.1 x.2 }
def fI_vectorFieldC : PC := { ts := [i64T, .sl listT], rs := [fldT, .bool], pre := fun x => x.2.length = 1, F := fun x => vecF x.1 (x.2.getD 0 []) }
def aS_TwoPower (x : Int) : Nat → Option Ann := fun
  | 6 => some (.mk Nat (fun t => (t : Int) ≤ twoF x) (fun st t => (st.keep 4 []).sets [(4, si t), (5, si ((modF x - 1) / 2 ^ t))]) (fun t => (twoF x).toNat - t) 0 (fun _ _ => none))
  | _ => none
def LogP (n : Int) (k : Nat) : Prop := k ≤ 10 ∧ ∀ j, j < k → n ≠ 2 ^ j
def aS_LogOf (x : Int) : Nat → Option Ann := fun
  | 2 => some (.mk Nat (fun k => LogP x k) (fun st k => (st.keep 3 []).sets [(3, si k)]) (fun k => 10 - k) 0 (fun _ _ => none))
  | _ => none
def aI_logOf (x : Int) : Nat → Option Ann := fun
  | 2 => some (.mk Nat (fun k => LogP x k) (fun st k => (st.keep 3 []).sets [(4, si k)]) (fun k => 10 - k) 0 (fun _ _ => none))
  | _ => none
def ElP (p : Int) (xs : List Int) (k : Nat) : Prop := k ≤ xs.length ∧ elemsF p (xs.take k) = true
def aS_l03Elements (x : Int × List Int) : Nat → Option Ann := fun
  | 5 => some (.mk Nat (fun k => ElP (modF x.1) x.2 k) (fun st k => (st.keep 6 []).sets [(6, si k)]) (fun k => x.2.length - k) 0 (fun _ _ => none))
  | _ => none
def aI_areElements (x : Fd × List Int) : Nat → Option Ann := fun
  | 2 => some (.mk Nat (fun k => ElP x.1.1 x.2 k) (fun st k => (st.keep 5 [7, 8]).sets [(9, si k)]) (fun k => x.2.length - k) 0 (fun _ _ => none))
  | _ => none
def aI_vectorField (x : Int × List (List Int)) : Nat → Option Ann := fun
  | 5 => some (.mk Nat (fun k => k ≤ 1 ∧ (k = 1 → vectorOkF x.1 (x.2.getD 0 []) = true)) (fun st k => (st.keep 8 [19, 20]).sets [(21, si k)]) (fun k => 1 - k) 0 (fun _ _ => none))
  | _ => none
end Go.SF


/- Contracts: plans and turners. No condition. -/
namespace Go.SF
open Go.SX Go
set_option linter.unusedVariables false
abbrev spT : Ty := .st (.pr (.int .i64) (.pr (.int .i64) (.int .i64)))
abbrev Sp := Int × Int × Int
abbrev planT : Ty := .st (.pr (.int .i64) (.pr (.int .i64) (.sl spT)))
abbrev Pl := Int × Int × List Sp
abbrev turnT : Ty := .st (.pr planT (.pr listT (.int .i64)))
abbrev Tn := Pl × List Int × Int
def halfF (k : Int) : Int := 2 ^ k.toNat / 2
def logOkF (f k : Int) : Bool := decide (0 < modF f) && (decide (0 ≤ k) && decide (k ≤ 9)) && decide (k ≤ twoF f)
def stepOkF (k : Int) (s : Sp) : Bool := decide (0 ≤ s.1) && decide (s.1 ≤ k - 1) && decide (0 ≤ s.2.1) && decide (s.2.1 < s.2.2) && decide (s.2.2 ≤ halfF k)
/-- How many of the steps do the butterfly 'b' of level 'l'. -/
def cnt (xs : List Sp) (l b : Nat) : Nat := xs.countP (fun s => decide (s.1 = (l : Int) ∧ s.2.1 ≤ (b : Int) ∧ (b : Int) < s.2.2))
/-- The first 'j' steps are well, in order. -/
def StepsP (k : Int) (xs : List Sp) (j : Nat) : Prop := ∀ i, i < j → stepOkF k (xs.getD i (0, 0, 0)) = true ∧ (0 < i → (xs.getD (i - 1) (0, 0, 0)).1 ≤ (xs.getD i (0, 0, 0)).1)
instance decStepsP (k : Int) (xs : List Sp) (j : Nat) : Decidable (StepsP k xs j) := by unfold StepsP; infer_instance
def OnceP (xs : List Sp) (h : Nat) (s : Nat) : Prop := ∀ l, l < s → ∀ b, b < h → cnt xs l b = 1
instance decOnceP (xs : List Sp) (h : Nat) (s : Nat) : Decidable (OnceP xs h s) := by unfold OnceP; infer_instance
def planOkF (p : Pl) : Bool := logOkF p.1 p.2.1 && decide (p.2.2.length ≤ 600) && decide (StepsP p.2.1 p.2.2 p.2.2.length) && decide (OnceP p.2.2 (halfF p.2.1).toNat p.2.1.toNat)
def turnOkF (t : Tn) : Bool := planOkF t.1 && vectorOkF t.1.1 t.2.1 && decide ((t.2.1.length : Int) = 2 ^ t.1.2.1.toNat) && (decide (0 ≤ t.2.2) && decide (t.2.2 ≤ (t.1.2.2.length : Int)))
def costF (s : Sp) : Int := if 0 ≤ s.2.1 ∧ s.2.1 < s.2.2 then w64 (s.2.2 - s.2.1) else 0
def leftGo : List Sp → Int → Int
  | [], n => n
  | s :: xs, n => leftGo xs (w64 (n + w64 (s.2.2 - s.2.1)))
def leftF (t : Tn) : Int := if turnOkF t = true then leftGo (t.1.2.2.drop t.2.2.toNat) 0 else -1
def finF (t : Tn) : List Int × Bool := if turnOkF t = true ∧ (t.1.2.2.length : Int) ≤ t.2.2 then (t.2.1, true) else ([], false)
def fS_l09LogC : PC := { ts := [i64T, i64T], rs := [.bool], pre := fun _ => True, F := fun x => logOkF x.1 x.2 }
def fS_l09RunC : PC := { ts := [i64T, spT], rs := [.bool], pre := fun x => 0 ≤ x.1 ∧ x.1 ≤ 9, F := fun x => stepOkF x.1 x.2 }
def fI_isStepC : PC := { ts := [spT, i64T], rs := [.bool], pre := fun x => 0 ≤ x.2 ∧ x.2 ≤ 9, F := fun x => stepOkF x.2 x.1 }
def fS_PlanOkC : PC := { ts := [planT], rs := [.bool], pre := fun _ => True, F := fun x => planOkF x }
def fI_isPlanC : PC := { ts := [planT], rs := [.bool], pre := fun _ => True, F := fun x => planOkF x }
def fS_TurnerOkC : PC := { ts := [turnT], rs := [.bool], pre := fun _ => True, F := fun x => turnOkF x }
def fI_isTurnerC : PC := { ts := [turnT], rs := [.bool], pre := fun _ => True, F := fun x => turnOkF x }
def fI_TurnerOkC : PC := { ts := [turnT], rs := [.bool], pre := fun _ => True, F := fun x => turnOkF x }
def fS_StepCostC : PC := { ts := [spT], rs := [i64T], pre := fun _ => True, F := fun x => costF x }
def fS_LeftUnitsC : PC := { ts := [turnT], rs := [i64T], pre := fun _ => True, F := fun x => leftF x }
def fI_LeftUnitsC : PC := { ts := [turnT], rs := [i64T], pre := fun _ => True, F := fun x => leftF x }
def fS_l01CopyC : PC := { ts := [listT], rs := [listT], pre := fun x => x.length ≤ 1048576, F := fun x => x }
def fS_FinishedC : PC := { ts := [turnT], rs := [listT, .bool], pre := fun x => x.2.1.length ≤ 1048576, F := fun x => finF x }
def fI_FinishedC : PC := { ts := [turnT], rs := [listT, .bool], pre := fun x => x.2.1.length ≤ 1048576, F := fun x => finF x }
def fL_szStepSC : PC := { ts := [.sl spT, i64T], rs := [i64T], pre := fun _ => True, F := fun x => szF x.1.length x.2 }
def fL_szIntSC : PC := { ts := [listT, i64T], rs := [i64T], pre := fun _ => True, F := fun x => szF x.1.length x.2 }
def fL_szPlanC : PC := { ts := [planT, i64T], rs := [i64T], pre := fun _ => True, F := fun x => szF x.1.2.2.length x.2 }
def szTnF (t : Tn) (n : Int) : Int := if szF t.1.2.2.length n < 0 then -1 else szF t.2.1.length (szF t.1.2.2.length n)
def fL_szTurnerC : PC := { ts := [turnT, i64T], rs := [i64T], pre := fun _ => True, F := fun x => szTnF x.1 x.2 }
def fL_toStepC : PC := { ts := [spT], rs := [spT], pre := fun _ => True, F := fun x => x }
def fL_toStepSC : PC := { ts := [.sl spT], rs := [.sl spT], pre := fun x => x.length ≤ 1048576, F := fun x => x }
def fL_toIntSC : PC := { ts := [listT], rs := [listT], pre := fun x => x.length ≤ 1048576, F := fun x => x }
def fL_toPlanC : PC := { ts := [planT], rs := [planT], pre := fun x => x.2.2.length ≤ 1048576, F := fun x => x }
def fL_toTurnerC : PC := { ts := [turnT], rs := [turnT], pre := fun x => x.1.2.2.length ≤ 1048576 ∧ x.2.1.length ≤ 1048576, F := fun x => x }
def fL_eqStepC : PC := { ts := [spT, spT], rs := [.bool], pre := fun _ => True, F := fun x => decide (x.1 = x.2) }
def fL_eqStepSC : PC := { ts := [.sl spT, .sl spT], rs := [.bool], pre := fun _ => True, F := fun x => decide (x.1 = x.2) }
def fL_eqPlanC : PC := { ts := [planT, planT], rs := [.bool], pre := fun _ => True, F := fun x => decide (x.1 = x.2) }
def fL_eqTurnerC : PC := { ts := [turnT, turnT], rs := [.bool], pre := fun _ => True, F := fun x => decide (x.1 = x.2) }
def aL_toStepS (x : List Sp) := copyA (e := spT) x 3 4 3 5
def aL_toIntS (x : List Int) := copyA (e := i64T) x 3 4 3 5
def aL_eqStepS (x : List Sp × List Sp) := eqA (e := spT) x 4 5 6
/-- What is met on level 'l', of the first 'i' steps. -/
def metL (h : Nat) (xs : List Sp) (l i : Nat) : List Int := (List.range h).map (fun b => ((cnt (xs.take i) l b : Nat) : Int))
/-- The same, and the butterflies 'lo' to 'c' - 1 of one step more. -/
def metM (h : Nat) (xs : List Sp) (l i : Nat) (lo : Int) (c : Nat) : List Int := (List.range h).map (fun b => ((cnt (xs.take i) l b : Nat) : Int) + if lo ≤ (b : Int) ∧ b < c then 1 else 0)
def aS_PlanOk5 (x : Pl) (s i : Nat) : Nat → Option Ann := fun
  | 21 => some (.mk Nat (fun c => (x.2.2.getD i (0, 0, 0)).2.1 ≤ (c : Int) ∧ (c : Int) ≤ (x.2.2.getD i (0, 0, 0)).2.2) (fun st c => ((st.keep 8 []).sets [(8, si c)]).setEs [(1, .row true i64T (metM (halfF x.2.1).toNat x.2.2 s i (x.2.2.getD i (0, 0, 0)).2.1 c))]) (fun c => (x.2.2.getD i (0, 0, 0)).2.2.toNat - c) (x.2.2.getD i (0, 0, 0)).2.1.toNat (fun _ _ => none))
  | 25 => some (.mk Nat (fun b => b ≤ (halfF x.2.1).toNat ∧ ∀ a, a < b → cnt x.2.2 s a = 1) (fun st b => (st.keep 6 []).sets [(9, si b)]) (fun b => (halfF x.2.1).toNat - b) 0 (fun _ _ => none))
  | _ => none
def aS_PlanOk4 (x : Pl) (s : Nat) : Nat → Option Ann := fun
  | 17 => some (.mk Nat (fun i => i ≤ x.2.2.length) (fun st i => ((st.keep 6 []).sets [(7, si i)]).setEs [(1, .row true i64T (metL (halfF x.2.1).toNat x.2.2 s i))]) (fun i => x.2.2.length - i) 0 (fun i => aS_PlanOk5 x s i))
  | _ => none
def aS_PlanOk3 (x : Pl) (s : Nat) : Nat → Option Ann := fun
  | 13 => some (.mk Nat (fun k => (k : Int) ≤ halfF x.2.1) (fun st k => ((st.keep 5 []).sets [(6, si k), (5, .c (.own 1))]).setEs [(1, .row true i64T (List.replicate k 0))]) (fun k => (halfF x.2.1).toNat - k) 0 (fun _ => aS_PlanOk4 x s))
  | _ => none
def aS_PlanOk2 (x : Pl) : Nat → Option Ann := fun
  | 9 => some (.mk Nat (fun s => (s : Int) ≤ x.2.1 ∧ OnceP x.2.2 (halfF x.2.1).toNat s) (fun st s => (st.keep 3 []).sets [(4, si s)]) (fun s => x.2.1.toNat - s) 0 (fun s => aS_PlanOk3 x s))
  | _ => none
def aS_PlanOk (x : Pl) : Nat → Option Ann := fun
  | 4 => some (.mk Nat (fun k => k ≤ x.2.2.length ∧ StepsP x.2.1 x.2.2 k) (fun st k => (st.keep 3 []).sets [(3, si k)]) (fun k => x.2.2.length - k) 0 (fun _ => aS_PlanOk2 x))
  | _ => none
def manyF (xs : List Sp) : Int := (xs.map (fun s => s.2.2 - s.2.1)).sum
def doneL (xs : List Sp) (i : Nat) : List Bool := (List.range 4608).map (fun q => decide (1 ≤ cnt (xs.take i) (q / 512) (q % 512)))
def doneM (xs : List Sp) (i c : Nat) : List Bool := (List.range 4608).map (fun q => decide (1 ≤ cnt (xs.take i) (q / 512) (q % 512)) || decide ((xs.getD i (0, 0, 0)).1 = ((q / 512 : Nat) : Int) ∧ (xs.getD i (0, 0, 0)).2.1 ≤ ((q % 512 : Nat) : Int) ∧ q % 512 < c))
def MostP (xs : List Sp) (i : Nat) : Prop := ∀ l b, cnt (xs.take i) l b ≤ 1
def FreeP (xs : List Sp) (i c : Nat) : Prop := ∀ b : Nat, (xs.getD i (0, 0, 0)).2.1 ≤ (b : Int) → b < c → cnt (xs.take i) (xs.getD i (0, 0, 0)).1.toNat b = 0
def aI_isPlan2 (x : Pl) (i : Nat) : Nat → Option Ann := fun
  | 12 => some (.mk Nat (fun c => (x.2.2.getD i (0, 0, 0)).2.1 ≤ (c : Int) ∧ (c : Int) ≤ (x.2.2.getD i (0, 0, 0)).2.2 ∧ FreeP x.2.2 i c) (fun st c => ((st.keep 9 [39, 40, 41]).sets [(9, si c), (6, si (manyF (x.2.2.take i) + ((c : Int) - (x.2.2.getD i (0, 0, 0)).2.1)))]).setEs [(2, .row true .bool (doneM x.2.2 i c))]) (fun c => (x.2.2.getD i (0, 0, 0)).2.2.toNat - c) (x.2.2.getD i (0, 0, 0)).2.1.toNat (fun _ _ => none))
  | _ => none
def aI_isPlan (x : Pl) : Nat → Option Ann := fun
  | 7 => some (.mk Nat (fun i => i ≤ x.2.2.length ∧ StepsP x.2.1 x.2.2 i ∧ MostP x.2.2 i) (fun st i => ((st.keep 6 [39, 40]).sets [(6, si (manyF (x.2.2.take i))), (41, si i)]).setEs [(2, .row true .bool (doneL x.2.2 i))]) (fun i => x.2.2.length - i) 0 (fun i => aI_isPlan2 x i))
  | _ => none
def aS_LeftUnits (x : Tn) : Nat → Option Ann := fun
  | 5 => some (.mk (Nat × Int) (fun k => x.2.2 ≤ (k.1 : Int) ∧ k.1 ≤ x.1.2.2.length ∧ leftGo (x.1.2.2.drop k.1) k.2 = leftGo (x.1.2.2.drop x.2.2.toNat) 0) (fun st k => (st.keep 3 []).sets [(4, si k.1), (3, si k.2)]) (fun k => x.1.2.2.length - k.1) (x.2.2.toNat, 0) (fun _ _ => none))
  | _ => none
def aI_LeftUnits (x : Tn) : Nat → Option Ann := fun
  | 5 => some (.mk (Nat × Int) (fun k => k.1 ≤ (x.1.2.2.drop x.2.2.toNat).length ∧ leftGo ((x.1.2.2.drop x.2.2.toNat).drop k.1) k.2 = leftGo (x.1.2.2.drop x.2.2.toNat) 0) (fun st k => (st.keep 3 [14, 15]).sets [(16, si k.1), (3, si k.2)]) (fun k => (x.1.2.2.drop x.2.2.toNat).length - k.1) (0, 0) (fun _ _ => none))
  | _ => none
def aS_l01Copy (x : List Int) : Nat → Option Ann := fun
  | 3 => some (.mk Nat (fun k => k ≤ x.length) (fun st k => ((st.keep 3 []).sets [(4, si k), (3, .c (.own 0))]).setEs [(0, .row true i64T (x.take k))]) (fun k => x.length - k) 0 (fun _ _ => none))
  | _ => none
end Go.SF


/- Contracts: caches, as they are read. No condition. -/
namespace Go.SF
open Go.SX Go
set_option linter.unusedVariables false
abbrev byT : Ty := .int .u8
abbrev bytesT : Ty := .sl byT
abbrev resT : Ty := .st (.pr (.int .i64) (.pr listT listT))
abbrev Rs := Int × List Int × List Int
abbrev entT : Ty := .st (.pr bytesT resT)
abbrev En := List Int × Rs
abbrev cacheT : Ty := .st (.pr (.int .i64) (.sl entT))
abbrev Ca := Int × List En
instance decRs : DecidableEq Rs := inferInstance
instance decEn : DecidableEq En := @instDecidableEqProd (List Int) Rs inferInstance decRs
instance decEns : DecidableEq (List En) := @instDecidableEqList En decEn
instance decCa : DecidableEq Ca := @instDecidableEqProd Int (List En) inferInstance decEns
def eqRs (a b : Rs) : Bool := @decide (a = b) (decRs a b)
def eqEn (a b : En) : Bool := @decide (a = b) (decEn a b)
def eqEns (a b : List En) : Bool := @decide (a = b) (decEns a b)
def eqCa (a b : Ca) : Bool := @decide (a = b) (decCa a b)
def en0 : En := ([], 0, [], [])
/-- What the sizes leave. -/
def szRsF (r : Rs) (l : Int) : Int := if szF r.2.1.length l < 0 then -1 else szF r.2.2.length (szF r.2.1.length l)
def szEnF (e : En) (l : Int) : Int := if szF e.1.length l < 0 then -1 else szRsF e.2 (szF e.1.length l)
def szEnGo : List En → Int → Int
  | [], l => l
  | e :: es, l => if szEnF e l < 0 then -1 else szEnGo es (szEnF e l)
def szEnsF (es : List En) (l : Int) : Int := if w64 (l - es.length) < 0 then -1 else szEnGo es (w64 (l - es.length))
def szCaF (c : Ca) (l : Int) : Int := if szEnsF c.2 l < 0 then -1 else szEnsF c.2 l
def RsP (r : Rs) : Prop := r.2.1.length ≤ 1048576 ∧ r.2.2.length ≤ 1048576
def EnP (e : En) : Prop := e.1.length ≤ 1048576 ∧ RsP e.2
def EnsP (es : List En) : Prop := es.length ≤ 1048576 ∧ ∀ e ∈ es, EnP e
def wtN (r : Rs) : Nat := 1 + r.2.1.length + r.2.2.length
def sumE : List En → Nat
  | [] => 0
  | e :: es => wtN e.2 + sumE es
/-- The first 'k' keys are short, and differ. -/
def KeysP (es : List En) (k : Nat) : Prop := ∀ i, i < k → (es.getD i ([], 0, [], [])).1.length ≤ 5000 ∧ ∀ j, j < i → (es.getD j ([], 0, [], [])).1 ≠ (es.getD i ([], 0, [], [])).1
instance decKeysP (es : List En) (k : Nat) : Decidable (KeysP es k) := by unfold KeysP; infer_instance
def cacheB (c : Ca) : Bool := decide (0 ≤ c.1 ∧ c.1 ≤ 5000) && decide (c.2.length ≤ 30) && decide (KeysP c.2 c.2.length) && decide ((sumE c.2 : Int) ≤ c.1)
def wordsF (c : Ca) : Int := if cacheB c = true then (sumE c.2 : Nat) else -1
def keyGo (key : List Int) : List En → Int → Int
  | [], _ => -1
  | e :: es, k => if e.1 = key then k else keyGo key es (k + 1)
def fL_szByteSC : PC := { ts := [bytesT, i64T], rs := [i64T], pre := fun _ => True, F := fun x => szF x.1.length x.2 }
def fL_toByteSC : PC := { ts := [bytesT], rs := [bytesT], pre := fun x => x.length ≤ 1048576, F := fun x => x }
def fL_eqByteSC : PC := { ts := [bytesT, bytesT], rs := [.bool], pre := fun _ => True, F := fun x => decide (x.1 = x.2) }
def fL_szResultC : PC := { ts := [resT, i64T], rs := [i64T], pre := fun _ => True, F := fun x => szRsF x.1 x.2 }
def fL_szEntryC : PC := { ts := [entT, i64T], rs := [i64T], pre := fun _ => True, F := fun x => szEnF x.1 x.2 }
def fL_szEntrySC : PC := { ts := [.sl entT, i64T], rs := [i64T], pre := fun _ => True, F := fun x => szEnsF x.1 x.2 }
def fL_szCacheC : PC := { ts := [cacheT, i64T], rs := [i64T], pre := fun _ => True, F := fun x => szCaF x.1 x.2 }
def fL_toResultC : PC := { ts := [resT], rs := [resT], pre := fun x => RsP x, F := fun x => x }
def fL_toEntryC : PC := { ts := [entT], rs := [entT], pre := fun x => EnP x, F := fun x => x }
def fL_toEntrySC : PC := { ts := [.sl entT], rs := [.sl entT], pre := fun x => EnsP x, F := fun x => x }
def fL_toCacheC : PC := { ts := [cacheT], rs := [cacheT], pre := fun x => EnsP x.2, F := fun x => x }
def fL_eqResultC : PC := { ts := [resT, resT], rs := [.bool], pre := fun _ => True, F := fun x => eqRs x.1 x.2 }
def fL_eqEntryC : PC := { ts := [entT, entT], rs := [.bool], pre := fun _ => True, F := fun x => eqEn x.1 x.2 }
def fL_eqEntrySC : PC := { ts := [.sl entT, .sl entT], rs := [.bool], pre := fun _ => True, F := fun x => eqEns x.1 x.2 }
def fL_eqCacheC : PC := { ts := [cacheT, cacheT], rs := [.bool], pre := fun _ => True, F := fun x => eqCa x.1 x.2 }
def fS_l01SameC : PC := { ts := [bytesT, bytesT], rs := [.bool], pre := fun _ => True, F := fun x => decide (x.1 = x.2) }
def fG_bytesEqualC : PC := { ts := [bytesT, bytesT], rs := [.bool], pre := fun _ => True, F := fun x => decide (x.1 = x.2) }
def fS_l16WeightC : PC := { ts := [resT], rs := [i64T], pre := fun x => RsP x, F := fun x => ((wtN x : Nat) : Int) }
def fI_weightEC : PC := { ts := [entT], rs := [i64T], pre := fun x => EnP x, F := fun x => ((wtN x.2 : Nat) : Int) }
def fI_weightOfC : PC := { ts := [cacheT], rs := [i64T], pre := fun x => EnsP x.2, F := fun x => ((sumE x.2 : Nat) : Int) }
def fS_l16SumC : PC := { ts := [cacheT], rs := [i64T], pre := fun x => EnsP x.2, F := fun x => ((sumE x.2 : Nat) : Int) }
def fI_entryOf1C : PC := { ts := [entT, .ptr bytesT], rs := [.bool], pre := fun _ => True, F := fun x => decide (x.1.1 = x.2) }
def fG_IndexFuncEnC (g : Nat) : PC := { ts := [.sl entT, .clo g (.ptr bytesT)], rs := [i64T], pre := fun _ => True, F := fun x => keyGo x.2 x.1 0 }
def fI_entryOfC : PC := { ts := [.sl entT, bytesT], rs := [i64T], pre := fun _ => True, F := fun x => keyGo x.2 x.1 0 }
def fS_CacheOkC : PC := { ts := [cacheT], rs := [.bool], pre := fun x => EnsP x.2, F := fun x => cacheB x }
def fI_isCacheC : PC := { ts := [cacheT], rs := [.bool], pre := fun x => EnsP x.2, F := fun x => cacheB x }
def fI_CacheOkC : PC := { ts := [cacheT], rs := [.bool], pre := fun x => EnsP x.2, F := fun x => cacheB x }
def fS_CacheWordsC : PC := { ts := [cacheT], rs := [i64T], pre := fun x => EnsP x.2, F := fun x => wordsF x }
def fI_CacheWordsC : PC := { ts := [cacheT], rs := [i64T], pre := fun x => EnsP x.2, F := fun x => wordsF x }
def aL_toByteS (x : List Int) := copyA (e := byT) x 3 4 3 5
def aL_eqByteS (x : List Int × List Int) := eqA (e := byT) x 4 5 6
def aS_l01Same (x : List Int × List Int) := eqA (e := byT) x 4 5 5
def aL_toEntryS (x : List En) := copyA (e := entT) x 3 4 3 5
def aL_eqEntryS (x : List En × List En) := eqA (e := entT) x 4 5 6
def aL_szEntryS (x : List En × Int) : Nat → Option Ann := fun
  | 5 => some (.mk (Nat × Int) (fun k => k.1 ≤ x.1.length ∧ szEnGo (x.1.drop k.1) k.2 = szEnGo x.1 (w64 (x.2 - x.1.length))) (fun st k => (st.keep 6 []).sets [(5, si k.1), (1, si k.2)]) (fun k => x.1.length - k.1) (0, w64 (x.2 - x.1.length)) (fun _ _ => none))
  | _ => none
def aS_l16Sum (x : Ca) : Nat → Option Ann := fun
  | 3 => some (.mk Nat (fun k => k ≤ x.2.length) (fun st k => (st.keep 3 []).sets [(3, si (sumE (x.2.take k))), (4, si k)]) (fun k => x.2.length - k) 0 (fun _ _ => none))
  | _ => none
def aI_weightOf (x : Ca) : Nat → Option Ann := fun
  | 3 => some (.mk Nat (fun k => k ≤ x.2.length) (fun st k => (st.keep 3 [7, 8]).sets [(3, si (sumE (x.2.take k))), (9, si k)]) (fun k => x.2.length - k) 0 (fun _ _ => none))
  | _ => none
def aG_IndexFuncEn (x : List En × List Int) : Nat → Option Ann := fun
  | 2 => some (.mk Nat (fun k => k ≤ x.1.length ∧ keyGo x.2 (x.1.drop k) k = keyGo x.2 x.1 0) (fun st k => (st.keep 6 [7]).sets [(8, si k)]) (fun k => x.1.length - k) 0 (fun _ _ => none))
  | _ => none
def aS_CacheOk (x : Ca) : Nat → Option Ann := fun
  | 5 => some (.mk Nat (fun k => k ≤ x.2.length ∧ KeysP x.2 k) (fun st k => (st.keep 3 []).sets [(3, si (sumE (x.2.take k))), (4, si k)]) (fun k => x.2.length - k) 0 (fun i => fun
    | 10 => some (.mk Nat (fun j => j ≤ i ∧ ∀ t, t < j → (x.2.getD t ([], 0, [], [])).1 ≠ (x.2.getD i ([], 0, [], [])).1) (fun st j => (st.keep 5 []).sets [(5, si j)]) (fun j => i - j) 0 (fun _ _ => none))
    | _ => none))
  | _ => none
def aI_isCache (x : Ca) : Nat → Option Ann := fun
  | 4 => some (.mk Nat (fun k => k ≤ x.2.length ∧ KeysP x.2 k) (fun st k => (st.keep 3 [27, 28]).sets [(29, si k)]) (fun k => x.2.length - k) 0 (fun _ _ => none))
  | _ => none
end Go.SF


/- Contracts: caches whose entries' blocks are told. No condition. -/
namespace Go.SF
open Go.SX Go
set_option linter.unusedVariables false
abbrev enG : Ty := .st (.pr (.gs true byT) (.st (.pr (.int .i64) (.pr (.gs true i64T) (.gs true i64T)))))
abbrev PG := Nat × List Int
abbrev EnG := PG × Int × PG × PG
abbrev cacheG : Ty := .st (.pr (.int .i64) (.sl enG))
abbrev enN : Ty := .st (.pr (.gs false byT) (.st (.pr (.int .i64) (.pr (.gs false i64T) (.gs false i64T)))))
abbrev cacheA : Ty := .st (.pr (.int .i64) (.gs false enN))
/-- No more told. -/
def unE (e : EnG) : En := (e.1.2, e.2.1, e.2.2.1.2, e.2.2.2.2)
def id1 (p : PG) : List Nat := if p.2 = [] then [] else [p.1]
/-- The blocks of slices that are not empty. -/
def idE (e : EnG) : List Nat := id1 e.1 ++ (id1 e.2.2.1 ++ id1 e.2.2.2)
def eg0 : EnG := ((0, []), 0, (0, []), (0, []))
def fL_toEntrySTC : TC := { ts := [.sl entT], trs := [.sl enG], nd := true, pre := fun x => EnsP x, F := fun x => x }
def fL_toCacheTC : TC := { ts := [cacheT], trs := [cacheG], nd := true, pre := fun x => EnsP x.2, F := fun x => x }
def aL_toEntryST (x : List En) : Nat → Option Ann := fun k =>
  if k = 3 then some (.mk (Nat × List EnG) (fun k => k.1 ≤ x.length ∧ k.2.length = k.1 ∧ k.2.map unE = x.take k.1 ∧ (k.2.flatMap idE).Nodup)
    (fun st k => ((st.keep 5 []).sets [(4, si k.1), (3, .c (.own 0))]).setEs [(0, .row true enG (k.2 ++ List.replicate (x.length - k.1) eg0))]) (fun k => x.length - k.1) (0, []) (fun _ _ => none))
  else none
def fI_copyResultC : PC := { ts := [resT], rs := [resT], pre := fun x => RsP x, F := fun x => x }
def fI_copyEntryC : PC := { ts := [entT], rs := [entT], pre := fun x => EnP x, F := fun x => x }
def fI_copyCacheTC : TC := { ts := [cacheT], trs := [cacheG], nd := true, pre := fun x => EnsP x.2, F := fun x => x }
def aI_copyCache (x : Ca) : Nat → Option Ann := fun
  | 3 => some (.mk (Nat × List EnG) (fun k => k.1 ≤ x.2.length ∧ k.2.map unE = x.2.take k.1 ∧ (k.2.flatMap idE).Nodup)
    (fun st k => ((st.keep 12 []).sets [(12, si k.1)]).setEs [(2, .bx [cw x.1, .own 3]), (3, .row true enG k.2)]) (fun k => x.2.length - k.1) (0, []) (fun _ _ => none))
  | _ => none
def fS_l01BytesC : PC := { ts := [bytesT], rs := [bytesT], pre := fun x => x.length ≤ 1048576, F := fun x => x, fz := true }
def aS_l01Bytes (x : List Int) : Nat → Option Ann := fun
  | 3 => some (.mk Nat (fun k => k ≤ x.length) (fun st k => ((st.keep 3 []).sets [(4, si k), (3, .c (.own 0))]).setEs [(0, .row true byT (x.take k))]) (fun k => x.length - k) 0 (fun _ _ => none))
  | _ => none
def fS_l16CopyResC : PC := { ts := [resT], rs := [resT], pre := fun x => RsP x, F := fun x => x, fz := true }
abbrev cacheNN : Ty := .st (.pr (.int .i64) (.sl enN))
def fS_l16CopyTC : TC := { ts := [cacheT], trs := [cacheNN], nd := false, pre := fun x => EnsP x.2, F := fun x => x }
def fS_l16CopyC : PC := { ts := [cacheT], rs := [cacheT], pre := fun x => EnsP x.2, F := fun x => x }
def aS_l16Copy (x : Ca) : Nat → Option Ann := fun
  | 3 => some (.mk Nat (fun k => k ≤ x.2.length)
    (fun st k => ((st.keep 4 []).sets [(4, si k)]).setEs [(2, .bx [cw x.1, .own 3]), (3, .row true entT (x.2.take k))]) (fun k => x.2.length - k) 0 (fun _ _ => none))
  | _ => none
/-- Marks. -/
def w8 (k : Int) : Int := IntKind.u8.wrap k
def ok8 (x : Int) (k : Int) : Bool := decide (x = w8 k)
def mark8 (xs : List Int) (k : Int) : List Int := mkGo w8 n1 xs k
def end8 (xs : List Int) (k : Int) : Int := mkEnd n1 xs k
def held8 (xs : List Int) (k : Int) : Int := heldGo ok8 n1 xs k
def fL_markByteSC : MC := { t := .sl byT, pre := fun _ _ => True, F := fun x k => end8 x k, G := fun x k => mark8 x k }
def aL_markByteS (x : List Int) (k : Int) := markA (e := byT) mark8 end8 x k
def fL_heldByteSC : PC := { ts := [.sl byT, i64T], rs := [i64T], pre := fun _ => True, F := fun x => held8 x.1 x.2 }
def aL_heldByteS (x : List Int × Int) := heldA (e := byT) held8 x
def fL_markByteSEC : PC := emptyC byT fL_markByteSC.pre fL_markByteSC.F
def aL_markByteSE (x : List Int × Int) : Nat → Option Ann := fun
  | 2 => some (.mk Unit (fun _ => True) (fun st _ => (st.keep 1 []).sets [(5, si 0), (1, si x.2)]) (fun _ => 0) () (fun _ _ => none))
  | _ => none
def fL_markIntSEC : PC := emptyC i64T fL_markIntSC.pre fL_markIntSC.F
def aL_markIntSE (x : List Int × Int) : Nat → Option Ann := fun
  | 2 => some (.mk Unit (fun _ => True) (fun st _ => (st.keep 1 []).sets [(5, si 0), (1, si x.2)]) (fun _ => 0) () (fun _ _ => none))
  | _ => none
/-- The numbers that an entry's code and slices are marked with. -/
def e1F (e : EnG) (k : Int) : Int := end8 e.1.2 k
def e2F (e : EnG) (k : Int) : Int := w64 (e1F e k + 1)
def e3F (e : EnG) (k : Int) : Int := end1 e.2.2.1.2 (e2F e k)
def nxE (e : EnG) (k : Int) : Int := end1 e.2.2.2.2 (e3F e k)
def m1E (e : EnG) (k : Int) : EnG := ((e.1.1, mark8 e.1.2 k), e.2)
def m2E (e : EnG) (k : Int) : EnG := ((e.1.1, mark8 e.1.2 k), e1F e k, e.2.2)
def m3E (e : EnG) (k : Int) : EnG := ((e.1.1, mark8 e.1.2 k), e1F e k, (e.2.2.1.1, mark1 e.2.2.1.2 (e2F e k)), e.2.2.2)
def elE (e : EnG) (k : Int) : EnG := ((e.1.1, mark8 e.1.2 k), e1F e k, (e.2.2.1.1, mark1 e.2.2.1.2 (e2F e k)), (e.2.2.2.1, mark1 e.2.2.2.2 (e3F e k)))
def markE : List EnG → Int → List EnG
  | [], _ => []
  | e :: es, k => elE e k :: markE es (nxE e k)
def endE : List EnG → Int → Int
  | [], k => k
  | e :: es, k => endE es (nxE e k)
def heldE : List En → Int → Int
  | [], k => k
  | e :: es, k =>
    if held8 e.1 k < 0 then -1 else if e.2.1 = held8 e.1 k then
      (if held1 e.2.2.1 (w64 (held8 e.1 k + 1)) < 0 then -1 else if held1 e.2.2.2 (held1 e.2.2.1 (w64 (held8 e.1 k + 1))) < 0 then -1 else heldE es (held1 e.2.2.2 (held1 e.2.2.1 (w64 (held8 e.1 k + 1)))))
    else -1
def fL_markEntrySC : MT := { t := .sl enG, pre := fun _ _ => True, F := fun x k => endE x k, G := fun x k => markE x k }
def fL_markCacheC : MT := { t := cacheG, pre := fun _ _ => True, F := fun x k => endE x.2 k, G := fun x k => (x.1, markE x.2 k) }
def rowE (x : List EnG) (k : Int) (j : Nat) (e : EnG) : List EnG := markE (x.take j) k ++ e :: x.drop (j + 1)
def aL_markEntryS4 (x : List EnG) (k : Int) (j : Nat × Int) : Nat → Option Ann := fun
  | 100008 => some (.mk Unit (fun _ => True) (fun st _ => ((st.keep 1 []).sets [(5, si j.1), (1, si (e3F (x.getD j.1 eg0) j.2))]).setEs [(0, .row false enG (rowE x k j.1 (m3E (x.getD j.1 eg0) j.2)))]) (fun _ => 0) () (fun _ _ => none))
  | _ => none
def aL_markEntryS3 (x : List EnG) (k : Int) (j : Nat × Int) : Nat → Option Ann := fun
  | 100006 => some (.mk Unit (fun _ => True) (fun st _ => ((st.keep 1 []).sets [(5, si j.1), (1, si (e1F (x.getD j.1 eg0) j.2))]).setEs [(0, .row false enG (rowE x k j.1 (m2E (x.getD j.1 eg0) j.2)))]) (fun _ => 0) () (fun _ => aL_markEntryS4 x k j))
  | _ => none
def aL_markEntryS2 (x : List EnG) (k : Int) (j : Nat × Int) : Nat → Option Ann := fun
  | 100005 => some (.mk Unit (fun _ => True) (fun st _ => ((st.keep 1 []).sets [(5, si j.1), (1, si (e1F (x.getD j.1 eg0) j.2))]).setEs [(0, .row false enG (rowE x k j.1 (m1E (x.getD j.1 eg0) j.2)))]) (fun _ => 0) () (fun _ => aL_markEntryS3 x k j))
  | _ => none
def aL_markEntryS (x : List EnG) (k : Int) : Nat → Option Ann := fun
  | 2 => some (.mk (Nat × Int) (fun j => j.1 ≤ x.length ∧ j.2 = endE (x.take j.1) k) (fun st j => ((st.keep 1 []).sets [(5, si j.1), (1, si j.2)]).setEs [(0, .row false enG (markE (x.take j.1) k ++ x.drop j.1))]) (fun j => x.length - j.1) (0, k) (fun j => aL_markEntryS2 x k j))
  | _ => none
def fL_heldEntrySC : PC := { ts := [.sl entT, i64T], rs := [i64T], pre := fun _ => True, F := fun x => heldE x.1 x.2 }
def fL_heldCacheC : PC := { ts := [cacheT, i64T], rs := [i64T], pre := fun _ => True, F := fun x => neg1 (heldE x.1.2 x.2) }
def aL_heldEntryS (x : List En × Int) : Nat → Option Ann := fun
  | 2 => some (.mk (Nat × Int) (fun j => j.1 ≤ x.1.length ∧ heldE (x.1.drop j.1) j.2 = heldE x.1 x.2) (fun st j => (st.keep 1 []).sets [(5, si j.1), (1, si j.2)]) (fun j => x.1.length - j.1) (0, x.2) (fun _ _ => none))
  | _ => none
/-- A cache is trimmed. -/
def trimLen (c : Int) (es : List En) : Nat → Nat
  | 0 => 0
  | n + 1 => if 30 < n + 1 ∨ c < (sumE (es.take (n + 1)) : Int) then trimLen c es n else n + 1
def trimF (c : Ca) : Ca := (c.1, c.2.take (trimLen c.1 c.2 c.2.length))
def fI_trimCacheC : CT := { e := enG, pre := fun c xs => EnsP (xs.map unE) ∧ 0 ≤ c, F := fun c xs => trimLen c (xs.map unE) xs.length }
def aI_trimCache (x : Int × List EnG) : Nat → Option Ann := fun
  | 1 => some (.mk Nat (fun k => k ≤ x.2.length ∧ trimLen x.1 (x.2.map unE) k = trimLen x.1 (x.2.map unE) x.2.length) (fun st k => (st.keep 3 []).setEs [(1, .bx [cw x.1, .pre 0 k])]) (fun k => k) x.2.length (fun _ _ => none))
  | _ => none
def fS_l16TrimC : CT := { e := enN, pre := fun c xs => EnsP (xs.map unE) ∧ 0 ≤ c, F := fun c xs => trimLen c (xs.map unE) xs.length }
def aS_l16Trim (x : Int × List EnG) : Nat → Option Ann := aI_trimCache x
/-- A cache is shrunk. -/
def shrinkF (c : Ca) (room : Int) : Ca × Bool := if cacheB c = true ∧ 0 ≤ room ∧ room ≤ 5000 then (trimF (room, c.2), true) else (c, false)
def fI_ShrinkTC : TC := { ts := [cacheT, i64T], trs := [cacheG, .bool], nd := true, pre := fun x => EnsP x.1.2, F := fun x => shrinkF x.1 x.2 }
def fS_ShrinkTC : TC := { ts := [cacheT, i64T], trs := [cacheNN, .bool], nd := false, pre := fun x => EnsP x.1.2, F := fun x => shrinkF x.1 x.2 }
def fS_ShrinkC : PC := { ts := [cacheT, i64T], rs := [cacheT, .bool], pre := fun x => EnsP x.1.2, F := fun x => shrinkF x.1 x.2 }
end Go.SF


/- Contracts: the laws of caches, where their code is cut. No condition. -/
namespace Go.SF
open Go.SX Go
set_option linter.unusedVariables false
abbrev CA := Int × Nat × List EnG
/-- The argument, its blocks no more told. -/
def unC (a : CA) : Ca := (a.1, a.2.2.map unE)
def idsE (x : List EnG) : List Nat := x.flatMap idE
def idC (a : CA) : List Nat := ids (.gs false enN) a.2
/-- All is small. -/
def totE : List En → Nat
  | [] => 0
  | e :: es => e.1.length + 1 + e.2.2.1.length + e.2.2.2.length + totE es
def CJ1 (w : Ca) (a : CA) (x : List EnG × List EnG) : Prop := totE (unC a).2 ≤ 1048576 ∧ x.1.map unE = w.2 ∧ x.2.map unE = (unC a).2 ∧ (idsE x.2).Nodup ∧ Apart (idsE x.2) (idsE x.1) ∧ Apart (idsE x.2) (idC a)
def CJ2 (w : Ca) (a : CA) (x : List EnG × List EnG) (g : List EnG) : Prop := g.map unE = w.2 ∧ (idsE g).Nodup ∧ Apart (idsE g) (idsE x.1) ∧ Apart (idsE g) (idsE x.2) ∧ Apart (idsE g) (idC a)
def rowNE (x : List EnG) : Ent := .row true enN x
def rowGE (x : List EnG) : Ent := .row true enG x
def bxC (n : Nat) (c : Int) : Ent := .bx [cw c, .own n]
def aggC (n : Nat) (c : Int) : S := .agg [cw c, .own n]
def cbo (n : Bool) : C := .val (.bool n)
/-- The law's cuts: temps from 't', entities after 'e'; 'u', 'v' the temps of what the program gave. -/
def cacheA4 (w : Ca × Bool) (t e v : Nat) : Nat → Option Ann := fun
  | 100025 => some (.mk (List EnG) (fun h => h.map unE = w.1.2) (fun st h => ((st.keep t [t, t + 1, t + 3, t + 6]).sets [(t + 8, .c (.box (e + 9) 0)), (t + 9, .c (.val (.bool w.2))), (v, aggC (e + 8) w.1.1)]).setEs [(e + 8, rowGE h), (e + 9, bxC (e + 8) w.1.1)]) (fun _ => 0) [] (fun _ _ => none))
  | _ => none
def cacheA3 (a : CA) (w : Ca × Bool) (t e v : Nat) (x : List EnG × List EnG) (g : List EnG) : Nat → Option Ann := fun
  | 100024 => some (.mk Unit (fun _ => CJ1 w.1 a x ∧ CJ2 w.1 a x g) (fun st _ => { ts := ((st.keep t [t, t + 1, t + 3, t + 4]).sets [(t + 6, si (endE g 1))]).ts, hp := (List.range (e + 1)).map st.ent ++ [.dead, rowNE x.1, bxC (e + 2) w.1.1, .dead, .dead, rowGE (markE g 1), bxC (e + 6) w.1.1] }) (fun _ => 0) () (fun _ => cacheA4 w t e v))
  | _ => none
def cacheA2 (a : CA) (w : Ca × Bool) (t e u v : Nat) (x : List EnG × List EnG) : Nat → Option Ann := fun
  | 100008 => some (.mk (List EnG) (fun g => CJ2 w.1 a x g) (fun st g => ((st.keep t [t, t + 1, t + 2]).sets [(t + 3, .c (.box (e + 7) 0)), (t + 4, .c (.val (.bool w.2))), (u, aggC (e + 6) w.1.1)]).setEs [(e + 6, rowGE g), (e + 7, bxC (e + 6) w.1.1)]) (fun _ => 0) [] (fun g => cacheA3 a w t e v x g))
  | _ => none
def cacheA1 (a : CA) (w : Ca × Bool) (t e u v : Nat) : Nat → Option Ann := fun
  | 100007 => some (.mk (List EnG × List EnG) (fun x => CJ1 w.1 a x) (fun st x => ((st.keep t [t, t + 1]).sets [(t + 2, .c (.box (e + 5) 0))]).setEs [(e + 1, .dead), (e + 2, rowNE x.1), (e + 3, bxC (e + 2) w.1.1), (e + 4, rowGE x.2), (e + 5, bxC (e + 4) a.1)]) (fun _ => 0) ([], []) (fun x => cacheA2 a w t e u v x))
  | _ => none
def aL_Sh (d : CA × Int) : Nat → Option Ann := cacheA1 d.1 (shrinkF (unC d.1) d.2) 6 0 34 82
end Go.SF


/- Contracts: results looked up and stored. No condition. -/
namespace Go.SF
open Go.SX Go
set_option linter.unusedVariables false
/-- An entry at the front, and no other of its key. -/
def frontF (c : Ca) (e : En) : Ca := (c.1, e :: c.2.filter (fun o => decide (o.1 ≠ e.1)))
def fS_l16FrontC : PC := { ts := [cacheT, entT], rs := [cacheT], pre := fun x => EnsP x.1.2 ∧ EnP x.2, F := fun x => frontF x.1 x.2 }
def fS_l16FrontTC : TC := { ts := [cacheT, entT], trs := [cacheNN], nd := false, pre := fun x => EnsP x.1.2 ∧ EnP x.2, F := fun x => frontF x.1 x.2 }
def aS_l16Front (x : Ca × En) : Nat → Option Ann := fun
  | 4 => some (.mk Nat (fun k => k ≤ x.1.2.length)
    (fun st k => ((st.keep 7 []).sets [(7, si k)]).setEs [(3, .row true entT (frontF (x.1.1, x.1.2.take k) x.2).2), (4, .bx [cw x.1.1, .own 3])]) (fun k => x.1.2.length - k) 0 (fun _ _ => none))
  | _ => none
def fS_l16CopyResNC : PC := { ts := [resT], rs := [resT], pre := fun x => RsP x, F := fun x => x }
def lookF (c : Ca) (key : List Int) : Ca × Rs × Bool :=
  if cacheB c = true ∧ 0 ≤ keyGo key c.2 0 then (frontF c (c.2.getD (keyGo key c.2 0).toNat en0), (c.2.getD (keyGo key c.2 0).toNat en0).2, true) else (c, (0, [], []), false)
def fS_LookupC : PC := { ts := [cacheT, bytesT], rs := [cacheT, resT, .bool], pre := fun x => EnsP x.1.2 ∧ x.2.length ≤ 1048576, F := fun x => lookF x.1 x.2 }
def aS_Lookup (x : Ca × List Int) : Nat → Option Ann := fun
  | 4 => some (.mk Nat (fun k => k ≤ x.1.2.length ∧ keyGo x.2 (x.1.2.drop k) k = keyGo x.2 x.1.2 0) (fun st k => (st.keep 7 []).sets [(7, si k)]) (fun k => x.1.2.length - k) 0 (fun _ _ => none))
  | _ => none
def fI_lookupTC : TC := { ts := [cacheT, bytesT], trs := [cacheG, resT, .bool], nd := true, pre := fun x => EnsP x.1.2 ∧ x.2.length ≤ 1048576, F := fun x => lookF x.1 x.2 }
def fI_LookupTC : TC := { ts := [cacheT, bytesT], trs := [cacheG, resT, .bool], nd := true, pre := fun x => EnsP x.1.2 ∧ x.2.length ≤ 1048576, F := fun x => lookF x.1 x.2 }
def storeF (c : Ca) (key : List Int) (r : Rs) : Ca × Bool :=
  if cacheB c = true ∧ key.length ≤ 5000 ∧ (wtN r : Int) ≤ c.1 then (trimF (frontF c (key, r)), true) else (c, false)
def fS_StoreTC : TC := { ts := [cacheT, bytesT, resT], trs := [cacheNN, .bool], nd := false, pre := fun x => EnsP x.1.2 ∧ x.2.1.length ≤ 1048576 ∧ RsP x.2.2, F := fun x => storeF x.1 x.2.1 x.2.2 }
def fS_StoreC : PC := { ts := [cacheT, bytesT, resT], rs := [cacheT, .bool], pre := fun x => EnsP x.1.2 ∧ x.2.1.length ≤ 1048576 ∧ RsP x.2.2, F := fun x => storeF x.1 x.2.1 x.2.2 }
def fI_storeTC : TC := { ts := [cacheT, bytesT, resT], trs := [cacheG, .bool], nd := true, pre := fun x => EnsP x.1.2 ∧ x.2.1.length ≤ 1048576 ∧ RsP x.2.2, F := fun x => storeF x.1 x.2.1 x.2.2 }
def fI_StoreTC : TC := { ts := [cacheT, bytesT, resT], trs := [cacheG, .bool], nd := true, pre := fun x => EnsP x.1.2 ∧ x.2.1.length ≤ 1048576 ∧ RsP x.2.2, F := fun x => storeF x.1 x.2.1 x.2.2 }
/-- A store's entry is laid in front: the cuts behind the deletion and behind the insertion. -/
def aI_store2 (x : Ca × List Int × Rs) : Nat → Option Ann := fun
  | 100009 => some (.mk (List EnG) (fun g => g.map unE = (frontF x.1 (x.2.1, x.2.2)).2 ∧ (idsE g).Nodup ∧ cacheB x.1 = true ∧ x.2.1.length ≤ 5000 ∧ (wtN x.2.2 : Int) ≤ x.1.1)
    (fun st g => (st.keep 9 []).setEs [(3, .row true enG g), (4, .bx [cw x.1.1, .own 3]), (5, .dead), (6, .dead), (7, .dead), (8, .dead)]) (fun _ => 0) [] (fun _ _ => none))
  | _ => none
def aI_store (x : Ca × List Int × Rs) : Nat → Option Ann := fun
  | 100008 => some (.mk (List EnG) (fun g => g.map unE = x.1.2.filter (fun o => decide (o.1 ≠ x.2.1)) ∧ (idsE g).Nodup ∧ cacheB x.1 = true ∧ x.2.1.length ≤ 5000 ∧ (wtN x.2.2 : Int) ≤ x.1.1)
    (fun st g => (st.keep 10 []).setEs [(3, .row true enG g), (4, .bx [cw x.1.1, .own 3])]) (fun _ => 0) [] (fun _ => aI_store2 x))
  | _ => none
/-- Marks on a result. -/
def markR (r : Rs) (k : Int) : Rs := (r.1, mark1 r.2.1 k, mark1 r.2.2 (end1 r.2.1 k))
def endR (r : Rs) (k : Int) : Int := end1 r.2.2 (end1 r.2.1 k)
def fL_markResultC : MC := { t := resT, pre := fun _ _ => True, F := fun x k => endR x k, G := fun x k => markR x k }
def heldR (r : Rs) (k : Int) : Int := if held1 r.2.1 k < 0 then -1 else if held1 r.2.2 (held1 r.2.1 k) < 0 then -1 else held1 r.2.2 (held1 r.2.1 k)
def fL_heldResultC : PC := { ts := [resT, i64T], rs := [i64T], pre := fun _ => True, F := fun x => heldR x.1 x.2 }
end Go.SF


/- Contracts: the laws of results looked up and stored, where their code is cut. No condition. -/
namespace Go.SF
open Go.SX Go
set_option linter.unusedVariables false
abbrev bytA : Ty := .gs false byT
abbrev intA : Ty := .gs false i64T
abbrev resA : Ty := .st (.pr (.int .i64) (.pr intA intA))
abbrev LkW := Ca × Rs × Bool
abbrev RsA := Int × PG × PG
def aL_rowI (xs : List Int) : Ent := .row true i64T xs
def aL_rowB (xs : List Int) : Ent := .row true byT xs
def aL_bxRs (c : Int) (n m : Nat) : Ent := .bx [cw c, .own n, .own m]
def aL_agRs (c : Int) (n m : Nat) : S := .agg [cw c, .own n, .own m]
def lkJ1 (w : Ca) (a : CA) (k : PG) (x : List EnG × List EnG) : Prop := CJ1 w a x ∧ k.2.length ≤ 1048576 ∧ Apart (idsE x.2) (ids bytA k)
def lkJ2 (w : Ca) (a : CA) (k : PG) (x : List EnG × List EnG) (g : List EnG) : Prop := CJ2 w a x g ∧ Apart (idsE g) (ids bytA k)
def aL_Lk4 (w : LkW) : Nat → Option Ann := fun
  | 100035 => some (.mk (List EnG) (fun h => h.map unE = w.1.2) (fun st h => ((st.keep 6 [6, 7, 8, 11, 12, 13, 15]).sets [(17, .c (.box 21 0)), (18, .c (.box 22 0)), (19, .c (cbo w.2.2)), (123, aggC 18 w.1.1), (124, aL_agRs w.2.1.1 19 20)]).setEs
      [(16, .dead), (17, .dead), (18, rowGE h), (19, aL_rowI w.2.1.2.1), (20, aL_rowI w.2.1.2.2), (21, bxC 18 w.1.1), (22, aL_bxRs w.2.1.1 19 20)]) (fun _ => 0) [] (fun _ _ => none))
  | _ => none
def aL_Lk3 (d : CA × PG) (w : LkW) (x : List EnG × List EnG) (g : List EnG) : Nat → Option Ann := fun
  | 100034 => some (.mk Unit (fun _ => lkJ1 w.1 d.1 d.2 x ∧ lkJ2 w.1 d.1 d.2 x g) (fun st _ => { ts := ((st.keep 6 [6, 7, 8, 11, 12, 13]).sets [(15, si (endR w.2.1 (endE g 1)))]).ts, hp := [st.ent 0, .dead, .dead, rowNE x.1, aL_rowI w.2.1.2.1, aL_rowI w.2.1.2.2, bxC 3 w.1.1, aL_bxRs w.2.1.1 4 5, .dead, .dead, .dead, rowGE (markE g 1), aL_rowI (markR w.2.1 (endE g 1)).2.1, aL_rowI (markR w.2.1 (endE g 1)).2.2, bxC 11 w.1.1, aL_bxRs w.2.1.1 12 13] }) (fun _ => 0) () (fun _ => aL_Lk4 w))
  | _ => none
def aL_Lk2 (d : CA × PG) (w : LkW) (x : List EnG × List EnG) : Nat → Option Ann := fun
  | 100011 => some (.mk (List EnG) (fun g => lkJ2 w.1 d.1 d.2 x g) (fun st g => ((st.keep 6 [6, 7, 8, 9, 10]).sets [(11, .c (.box 14 0)), (12, .c (.box 15 0)), (13, .c (cbo w.2.2)), (45, aggC 11 w.1.1), (46, aL_agRs w.2.1.1 12 13)]).setEs
      [(11, rowGE g), (12, aL_rowI w.2.1.2.1), (13, aL_rowI w.2.1.2.2), (14, bxC 11 w.1.1), (15, aL_bxRs w.2.1.1 12 13)]) (fun _ => 0) [] (fun g => aL_Lk3 d w x g))
  | _ => none
def aL_Lk1 (d : CA × PG) (w : LkW) : Nat → Option Ann := fun
  | 100010 => some (.mk (List EnG × List EnG) (fun x => lkJ1 w.1 d.1 d.2 x) (fun st x => ((st.keep 6 [6, 7, 8, 9]).sets [(10, .c (.own 10))]).setEs
      [(1, .dead), (2, .dead), (3, rowNE x.1), (4, aL_rowI w.2.1.2.1), (5, aL_rowI w.2.1.2.2), (6, bxC 3 w.1.1), (7, aL_bxRs w.2.1.1 4 5), (8, rowGE x.2), (9, bxC 8 d.1.1), (10, aL_rowB d.2.2)]) (fun _ => 0) ([], []) (fun x => aL_Lk2 d w x))
  | _ => none
def aL_Lk (d : CA × PG) : Nat → Option Ann := aL_Lk1 d (lookF (unC d.1) d.2.2)
/-- Store. -/
def unRA (r : RsA) : Rs := (r.1, r.2.1.2, r.2.2.2)
def stJ1 (w : Ca) (a : CA) (k : PG) (r : RsA) (x : List EnG × List EnG) : Prop := CJ1 w a x ∧ k.2.length ≤ 1048576 ∧ RsP (unRA r) ∧ Apart (idsE x.2) (ids bytA k) ∧ Apart (idsE x.2) (ids intA r.2.1) ∧ Apart (idsE x.2) (ids intA r.2.2)
def stJ2 (w : Ca) (a : CA) (k : PG) (r : RsA) (x : List EnG × List EnG) (g : List EnG) : Prop := CJ2 w a x g ∧ Apart (idsE g) (ids bytA k) ∧ Apart (idsE g) (ids intA r.2.1) ∧ Apart (idsE g) (ids intA r.2.2)
def aL_St4 (w : Ca × Bool) : Nat → Option Ann := fun
  | 100038 => some (.mk (List EnG) (fun h => h.map unE = w.1.2) (fun st h => ((st.keep 8 [8, 9, 13, 14, 16]).sets [(18, .c (.box 21 0)), (19, .c (cbo w.2)), (121, aggC 20 w.1.1)]).setEs
      [(16, .dead), (17, .dead), (18, .dead), (19, .dead), (20, rowGE h), (21, bxC 20 w.1.1)]) (fun _ => 0) [] (fun _ _ => none))
  | _ => none
def aL_St3 (d : CA × PG × RsA) (w : Ca × Bool) (x : List EnG × List EnG) (g : List EnG) : Nat → Option Ann := fun
  | 100037 => some (.mk Unit (fun _ => stJ1 w.1 d.1 d.2.1 d.2.2 x ∧ stJ2 w.1 d.1 d.2.1 d.2.2 x g) (fun st _ => { ts := ((st.keep 8 [8, 9, 13, 14]).sets [(16, si (endE g 1))]).ts, hp := [st.ent 0, st.ent 1, .dead, .dead, .dead, .dead, rowNE x.1, bxC 6 w.1.1, .dead, .dead, .dead, .dead, .dead, .dead, rowGE (markE g 1), bxC 14 w.1.1] }) (fun _ => 0) () (fun _ => aL_St4 w))
  | _ => none
def aL_St2 (d : CA × PG × RsA) (w : Ca × Bool) (x : List EnG × List EnG) : Nat → Option Ann := fun
  | 100015 => some (.mk (List EnG) (fun g => stJ2 w.1 d.1 d.2.1 d.2.2 x g) (fun st g => ((st.keep 8 [8, 9, 10, 11, 12]).sets [(13, .c (.box 15 0)), (14, .c (cbo w.2)), (54, aggC 14 w.1.1)]).setEs
      [(14, rowGE g), (15, bxC 14 w.1.1)]) (fun _ => 0) [] (fun g => aL_St3 d w x g))
  | _ => none
def aL_St1 (d : CA × PG × RsA) (w : Ca × Bool) : Nat → Option Ann := fun
  | 100014 => some (.mk (List EnG × List EnG) (fun x => stJ1 w.1 d.1 d.2.1 d.2.2 x) (fun st x => ((st.keep 8 [8, 9, 10, 11]).sets [(12, .c (.box 13 0))]).setEs
      [(2, .dead), (3, .dead), (4, .dead), (5, .dead), (6, rowNE x.1), (7, bxC 6 w.1.1), (8, rowGE x.2), (9, bxC 8 d.1.1), (10, aL_rowB d.2.1.2), (11, aL_rowI d.2.2.2.1.2), (12, aL_rowI d.2.2.2.2.2), (13, aL_bxRs d.2.2.1 11 12)]) (fun _ => 0) ([], []) (fun x => aL_St2 d w x))
  | _ => none
def aL_St (d : CA × PG × RsA) : Nat → Option Ann := aL_St1 d (storeF (unC d.1) d.2.1.2 (unRA d.2.2))
end Go.SF

