/- Contracts: crews of hands. No condition. -/
import Derived.Test.YtdfdoigiehmnoaaSxCLine
import Derived.Test.YtdfdoigiehmnoaaSx28
namespace Go.SF
open Go.SX Go
set_option linter.unusedVariables false
abbrev hdT : Ty := .st (.pr (.int .i64) (.pr (.int .i64) (.int .i64)))
abbrev Hd := Int × Int × Int
abbrev crewT : Ty := .st (.pr (.int .i64) (.sl hdT))
abbrev Cr := Int × List Hd
def hd0 : Hd := (0, 0, 0)
def idleF (h : Hd) : Bool := decide (h.1 = 0) && (decide (h.2.1 = 0) && decide (h.2.2 = 0))
def handOkF (h : Hd) : Bool := decide (0 ≤ h.1 ∧ h.1 ≤ 99) && isTicketF (h.2.1, h.2.2)
/-- No hand before 'j' has the work of hand 'k'. -/
def ClashP (xs : List Hd) (k j : Nat) : Prop := ∀ i, i < j → ¬ ((xs.getD i (0, 0, 0)).1 = (xs.getD k (0, 0, 0)).1 ∧ (xs.getD i (0, 0, 0)).2.1 = (xs.getD k (0, 0, 0)).2.1)
instance decClashP (xs : List Hd) (k j : Nat) : Decidable (ClashP xs k j) := by unfold ClashP; infer_instance
/-- The first 'k' hands are idle or well. -/
def CrewP (xs : List Hd) (k : Nat) : Prop := ∀ j, j < k → idleF (xs.getD j (0, 0, 0)) = true ∨ (handOkF (xs.getD j (0, 0, 0)) = true ∧ ClashP xs j j)
instance decCrewP (xs : List Hd) (k : Nat) : Decidable (CrewP xs k) := by unfold CrewP; infer_instance
def crewOkF (pace : Int) (xs : List Hd) : Bool := decide (1 ≤ pace ∧ pace ≤ 200000) && decide (1 ≤ xs.length ∧ xs.length ≤ 8) && decide (CrewP xs xs.length)
def hidxGo (t i : Int) : List Hd → Nat → Int
  | [], _ => -1
  | h :: hs, k => if h.2.1 ≠ 0 ∧ h.1 = t ∧ h.2.1 = i then (k : Int) else hidxGo t i hs (k + 1)
def idleGo : List Hd → Nat → Int
  | [], _ => -1
  | h :: hs, k => if idleF h then (k : Int) else idleGo hs (k + 1)
def busyGo : List Hd → Int → Int
  | [], s => s
  | h :: hs, s => busyGo hs (w64 (s + h.2.2))
def tickOf (pace : Int) (h : Hd) : Int := w64 ((w64 (w64 (h.2.2 + pace) - 1)).tdiv pace)
def ticksGo (pace : Int) : List Hd → Int → Int
  | [], m => m
  | h :: hs, m => ticksGo pace hs (imax m (tickOf pace h))
def busyF (c : Cr) : Int := if crewOkF c.1 c.2 then busyGo c.2 0 else -1
def ticksF (c : Cr) : Int := if crewOkF c.1 c.2 then ticksGo c.1 c.2 0 else -1
def idleIdF (c : Cr) : Int := if crewOkF c.1 c.2 then idleGo c.2 0 else -1
def fL_szHandSC : PC := { ts := [.sl hdT, i64T], rs := [i64T], pre := fun _ => True, F := fun x => szF x.1.length x.2 }
def fL_szCrewC : PC := { ts := [crewT, i64T], rs := [i64T], pre := fun _ => True, F := fun x => szF x.1.2.length x.2 }
def fL_toHandC : PC := { ts := [hdT], rs := [hdT], pre := fun _ => True, F := fun x => x }
def fL_toHandSC : PC := { ts := [.sl hdT], rs := [.sl hdT], pre := fun x => x.length ≤ 1048576, F := fun x => x }
def fL_toCrewC : PC := { ts := [crewT], rs := [crewT], pre := fun x => x.2.length ≤ 1048576, F := fun x => x }
def fL_eqHandC : PC := { ts := [hdT, hdT], rs := [.bool], pre := fun _ => True, F := fun x => decide (x.1 = x.2) }
def fL_eqHandSC : PC := { ts := [.sl hdT, .sl hdT], rs := [.bool], pre := fun _ => True, F := fun x => decide (x.1 = x.2) }
def fL_eqCrewC : PC := { ts := [crewT, crewT], rs := [.bool], pre := fun _ => True, F := fun x => decide (x.1 = x.2) }
def aL_toHandS (x : List Hd) := copyA (e := hdT) x 3 4 3 5
def aL_eqHandS (x : List Hd × List Hd) := eqA (e := hdT) x 4 5 6
def fS_l15IdleC : PC := { ts := [hdT], rs := [.bool], pre := fun _ => True, F := fun x => idleF x }
def fS_CrewOkC : PC := { ts := [crewT], rs := [.bool], pre := fun _ => True, F := fun x => crewOkF x.1 x.2 }
def fI_isCrewC : PC := { ts := [crewT], rs := [.bool], pre := fun _ => True, F := fun x => crewOkF x.1 x.2 }
def fI_CrewOkC : PC := { ts := [crewT], rs := [.bool], pre := fun _ => True, F := fun x => crewOkF x.1 x.2 }
def fI_handOf1C : PC := { ts := [hdT, .ptr i64T, .ptr i64T], rs := [.bool], pre := fun _ => True, F := fun x => decide (x.1.2.1 ≠ 0 ∧ x.1.1 = x.2.1 ∧ x.1.2.1 = x.2.2) }
def fG_IndexFuncHdC (g : Nat) : PC := { ts := [.sl hdT, .clo g (.pr (.ptr i64T) (.ptr i64T))], rs := [i64T], pre := fun _ => True, F := fun x => hidxGo x.2.1 x.2.2 x.1 0 }
def fI_handOfC : PC := { ts := [.sl hdT, i64T, i64T], rs := [i64T], pre := fun _ => True, F := fun x => hidxGo x.2.1 x.2.2 x.1 0 }
def fS_BusyUnitsC : PC := { ts := [crewT], rs := [i64T], pre := fun _ => True, F := fun x => busyF x }
def fI_BusyUnitsC : PC := { ts := [crewT], rs := [i64T], pre := fun _ => True, F := fun x => busyF x }
def fS_TicksLeftC : PC := { ts := [crewT], rs := [i64T], pre := fun _ => True, F := fun x => ticksF x }
def fI_TicksLeftC : PC := { ts := [crewT], rs := [i64T], pre := fun _ => True, F := fun x => ticksF x }
def fS_IdleHandC : PC := { ts := [crewT], rs := [i64T], pre := fun _ => True, F := fun x => idleIdF x }
def fI_IdleHandC : PC := { ts := [crewT], rs := [i64T], pre := fun _ => True, F := fun x => idleIdF x }
def fG_IndexHdC : PC := { ts := [.sl hdT, hdT], rs := [i64T], pre := fun x => x.2 = (0, 0, 0), F := fun x => idleGo x.1 0 }
def aS_CrewOk2 (x : Cr) (k : Nat) : Nat → Option Ann := fun
  | 11 => some (.mk Nat (fun j => j ≤ k ∧ ClashP x.2 k j) (fun st j => (st.keep 5 []).sets [(5, si j)]) (fun j => k - j) 0 (fun _ _ => none))
  | _ => none
def aS_CrewOk (x : Cr) : Nat → Option Ann := fun
  | 4 => some (.mk Nat (fun k => k ≤ x.2.length ∧ CrewP x.2 k) (fun st k => (st.keep 3 []).sets [(3, si k)]) (fun k => x.2.length - k) 0 (fun k => aS_CrewOk2 x k))
  | _ => none
def aI_isCrew (x : Cr) : Nat → Option Ann := fun
  | 4 => some (.mk Nat (fun k => k ≤ x.2.length ∧ CrewP x.2 k) (fun st k => (st.keep 3 [26, 27]).sets [(28, si k)]) (fun k => x.2.length - k) 0 (fun _ _ => none))
  | _ => none
def aG_IndexFuncHd (x : List Hd × Int × Int) : Nat → Option Ann := fun
  | 2 => some (.mk Nat (fun k => k ≤ x.1.length ∧ hidxGo x.2.1 x.2.2 (x.1.drop k) k = hidxGo x.2.1 x.2.2 x.1 0) (fun st k => (st.keep 6 [7]).sets [(8, si k)]) (fun k => x.1.length - k) 0 (fun _ _ => none))
  | _ => none
def aI_BusyUnits (x : Cr) : Nat → Option Ann := fun
  | 5 => some (.mk (Nat × Int) (fun k => k.1 ≤ x.2.length ∧ busyGo (x.2.drop k.1) k.2 = busyGo x.2 0) (fun st k => (st.keep 3 [10, 11]).sets [(12, si k.1), (3, si k.2)]) (fun k => x.2.length - k.1) (0, 0) (fun _ _ => none))
  | _ => none
def aS_BusyUnits (x : Cr) : Nat → Option Ann := fun
  | 5 => some (.mk (Nat × Int) (fun k => k.1 ≤ x.2.length ∧ busyGo (x.2.drop k.1) k.2 = busyGo x.2 0) (fun st k => (st.keep 3 []).sets [(4, si k.1), (3, si k.2)]) (fun k => x.2.length - k.1) (0, 0) (fun _ _ => none))
  | _ => none
def aI_TicksLeft (x : Cr) : Nat → Option Ann := fun
  | 5 => some (.mk (Nat × Int) (fun k => k.1 ≤ x.2.length ∧ ticksGo x.1 (x.2.drop k.1) k.2 = ticksGo x.1 x.2 0) (fun st k => (st.keep 3 [10, 11]).sets [(12, si k.1), (3, si k.2)]) (fun k => x.2.length - k.1) (0, 0) (fun _ _ => none))
  | _ => none
def aS_TicksLeft (x : Cr) : Nat → Option Ann := fun
  | 5 => some (.mk (Nat × Int) (fun k => k.1 ≤ x.2.length ∧ ticksGo x.1 (x.2.drop k.1) k.2 = ticksGo x.1 x.2 0) (fun st k => (st.keep 3 []).sets [(4, si k.1), (3, si k.2)]) (fun k => x.2.length - k.1) (0, 0) (fun _ _ => none))
  | _ => none
def aS_IdleHand (x : Cr) : Nat → Option Ann := fun
  | 4 => some (.mk Nat (fun k => k ≤ x.2.length ∧ idleGo (x.2.drop k) k = idleGo x.2 0) (fun st k => (st.keep 3 []).sets [(3, si k)]) (fun k => x.2.length - k) 0 (fun _ _ => none))
  | _ => none
def aG_IndexHd (x : List Hd × Hd) : Nat → Option Ann := fun
  | 2 => some (.mk Nat (fun k => k ≤ x.1.length ∧ idleGo (x.1.drop k) k = idleGo x.1 0) (fun st k => (st.keep 5 [7]).sets [(8, si k)]) (fun k => x.1.length - k) 0 (fun _ _ => none))
  | _ => none
end Go.SF
