/- Contracts: the crew's ticks, told of a law's code. No condition. -/
import Derived.Test.YtpoiljbejllmiaaSxCCrew2
import Derived.Test.YtpoiljbejllmiaaSxCCode
namespace Go.SF
open Go.SX Go
set_option linter.unusedVariables false
def tHands (c : List Int) : Int := 1 + (atF c 0).tmod 8
def tPace (c : List Int) : Int := 1 + atF c 1
def tCost (c : List Int) (i : Nat) : Int := 1 + atF c ((i : Int) + 2) * 5
def tDue (c : List Int) (i : Nat) : Int := (tCost c i + tPace c - 1).tdiv (tPace c)
def tMost (c : List Int) : Nat → Int
  | 0 => 0
  | k + 1 => if tMost c k < tDue c k then tDue c k else tMost c k
/-- The crew with the first 'k' tickets. -/
def tA (c : List Int) (k : Nat) : List Hd := (List.range (tHands c).toNat).map (fun i => if i < k then ((i : Int), 100 + (i : Int), tCost c i) else (0, 0, 0))
/-- The crew after 'm' ticks. -/
def tT (c : List Int) (m : Nat) : List Hd := (List.range (tHands c).toNat).map (fun i => if tCost c i ≤ (m : Int) * tPace c then (0, 0, 0) else ((i : Int), 100 + (i : Int), tCost c i - (m : Int) * tPace c))
def tDues (c : List Int) (k : Nat) : List Int := (List.range k).map (fun i => tDue c i)
/-- Who is told at tick 'm + 1', of the first 'h'. -/
def tS (c : List Int) (m : Nat) (h : Nat) : List Sv := (List.range h).flatMap (fun i => if tDue c i = (m : Int) + 1 then [((i : Int), 100 + (i : Int), 0)] else [])
def tTold (c : List Int) (m : Nat) (h : Nat) : Nat := ((List.range h).filter (fun i => decide (tDue c i ≤ (m : Int)))).length
def aL_FnCrewTicks3 (c : List Int) (m : Nat) : Nat → Option Ann := fun
  | 30 => some (.mk Nat (fun j => j ≤ (tS c m (tHands c).toNat).length) (fun st j => (st.keep 17 []).sets [(17, si j), (13, si ((tTold c m (tHands c).toNat : Nat) + (j : Nat) : Int))]) (fun j => (tS c m (tHands c).toNat).length - j) 0 (fun _ _ => none))
  | _ => none
def aL_FnCrewTicks2 (c : List Int) : Nat → Option Ann := fun
  | 25 => some (.mk Nat (fun m => (m : Int) ≤ tMost c (tHands c).toNat) (fun st m => ((st.keep 6 [7, 8]).sets [(14, si ((m : Int) + 1)), (13, si (tTold c m (tHands c).toNat : Nat))]).setEs [(0, .row true hdT (tT c m))]) (fun m => (tMost c (tHands c).toNat).toNat - m) 0 (fun m => aL_FnCrewTicks3 c m))
  | _ => none
def aL_FnCrewTicks (c : List Int) : Nat → Option Ann := fun
  | 11 => some (.mk Nat (fun k => (k : Int) ≤ tHands c) (fun st k => ((st.keep 6 []).sets [(9, si k), (7, si (tMost c k)), (8, .c (.own 2))]).setEs [(0, .row true hdT (tA c k)), (1, .bx [cv (tPace c), .own 0]), (2, .row true i64T (tDues c k))]) (fun k => (tHands c).toNat - k) 0 (fun _ => aL_FnCrewTicks2 c))
  | 100021 => none
  | _ => none
end Go.SF
