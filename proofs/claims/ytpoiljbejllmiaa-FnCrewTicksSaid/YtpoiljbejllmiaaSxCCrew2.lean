/- Contracts: crews that are made anew. No condition. -/
import Derived.Test.YtpoiljbejllmiaaSxCMark
namespace Go.SF
open Go.SX Go
set_option linter.unusedVariables false
def newCrewF (n p : Int) : Cr × Bool := if 1 ≤ n ∧ n ≤ 8 ∧ 1 ≤ p ∧ p ≤ 200000 then ((p, List.replicate n.toNat (0, 0, 0)), true) else ((0, []), false)
def assignF (c : Cr) (tenant : Int) (t : Tk) : Cr × Bool :=
  if crewOkF c.1 c.2 = true ∧ 0 ≤ idleGo c.2 0 then
    (if crewOkF c.1 (c.2.set (idleGo c.2 0).toNat (tenant, t.1, t.2)) = true ∧ idleF (tenant, t.1, t.2) = false then ((c.1, c.2.set (idleGo c.2 0).toNat (tenant, t.1, t.2)), true) else (c, false))
  else (c, false)
def dropF (c : Cr) (tenant id : Int) : Cr × Bool :=
  if crewOkF c.1 c.2 = true ∧ 0 ≤ hidxGo tenant id c.2 0 then ((c.1, c.2.set (hidxGo tenant id c.2 0).toNat (0, 0, 0)), true) else (c, false)
/-- One tick of a hand. -/
def tickH (p : Int) (h : Hd) : Hd := if h.2.1 = 0 then h else if h.2.2 ≤ p then (0, 0, 0) else (h.1, h.2.1, w64 (h.2.2 - p))
def tickS (p : Int) (h : Hd) : List Sv := if h.2.1 = 0 then [] else if h.2.2 ≤ p then [(h.1, h.2.1, 0)] else []
def tickF (c : Cr) : Cr × List Sv := if crewOkF c.1 c.2 = true then ((c.1, c.2.map (tickH c.1)), c.2.flatMap (tickS c.1)) else (c, [])
def fS_l15CopyCrewC : PC := { ts := [crewT], rs := [crewT], pre := fun x => x.2.length ≤ 1048576, F := fun x => x }
def fI_copyCrewC : PC := { ts := [crewT], rs := [crewT], pre := fun x => x.2.length ≤ 1048576, F := fun x => x }
def fS_NewCrewC : PC := { ts := [i64T, i64T], rs := [crewT, .bool], pre := fun _ => True, F := fun x => newCrewF x.1 x.2 }
def fI_NewCrewC : PC := { ts := [i64T, i64T], rs := [crewT, .bool], pre := fun _ => True, F := fun x => newCrewF x.1 x.2 }
def fS_AssignC : PC := { ts := [crewT, i64T, tkT], rs := [crewT, .bool], pre := fun x => x.1.2.length ≤ 1048576, F := fun x => assignF x.1 x.2.1 x.2.2 }
def fI_assignC : PC := { ts := [crewT, i64T, tkT], rs := [crewT, .bool], pre := fun x => x.1.2.length ≤ 1048576, F := fun x => assignF x.1 x.2.1 x.2.2 }
def fI_AssignC : PC := { ts := [crewT, i64T, tkT], rs := [crewT, .bool], pre := fun x => x.1.2.length ≤ 1048576, F := fun x => assignF x.1 x.2.1 x.2.2 }
def fS_DropWorkC : PC := { ts := [crewT, i64T, i64T], rs := [crewT, .bool], pre := fun x => x.1.2.length ≤ 1048576, F := fun x => dropF x.1 x.2.1 x.2.2 }
def fI_dropWorkC : PC := { ts := [crewT, i64T, i64T], rs := [crewT, .bool], pre := fun x => x.1.2.length ≤ 1048576, F := fun x => dropF x.1 x.2.1 x.2.2 }
def fI_DropWorkC : PC := { ts := [crewT, i64T, i64T], rs := [crewT, .bool], pre := fun x => x.1.2.length ≤ 1048576, F := fun x => dropF x.1 x.2.1 x.2.2 }
def fS_TickCrewC : PC := { ts := [crewT], rs := [crewT, .sl svT], pre := fun x => x.2.length ≤ 1048576, F := fun x => tickF x }
def fI_TickCrewC : PC := { ts := [crewT], rs := [crewT, .sl svT], pre := fun x => x.2.length ≤ 1048576, F := fun x => tickF x }
def cv (n : Int) : C := .val (.int .i64 n)
def aS_l15CopyCrew (x : Cr) : Nat → Option Ann := fun
  | 3 => some (.mk Nat (fun k => k ≤ x.2.length) (fun st k => ((st.keep 4 []).sets [(4, si k)]).setEs [(2, .bx [cv x.1, .own 3]), (3, .row true hdT (x.2.take k))]) (fun k => x.2.length - k) 0 (fun _ _ => none))
  | _ => none
def aS_NewCrew (x : Int × Int) : Nat → Option Ann := fun
  | 3 => some (.mk Nat (fun k => (k : Int) ≤ max 0 (min x.1 9)) (fun st k => ((st.keep 7 []).sets [(7, si k)]).setEs [(1, .bx [cv x.2, .own 2]), (2, .row true hdT (List.replicate k (0, 0, 0)))]) (fun k => 9 - k) 0 (fun _ _ => none))
  | _ => none
def aS_DropWork (x : Cr × Int × Int) : Nat → Option Ann := fun
  | 5 => some (.mk Nat (fun k => k ≤ x.1.2.length ∧ hidxGo x.2.1 x.2.2 (x.1.2.drop k) k = hidxGo x.2.1 x.2.2 x.1.2 0) (fun st k => (st.keep 9 []).sets [(9, si k)]) (fun k => x.1.2.length - k) 0 (fun _ _ => none))
  | _ => none
def tickE (x : Cr) (k : Nat) : List (Nat × Ent) := [(2, .row true hdT ((x.2.take k).map (tickH x.1) ++ x.2.drop k)), (4, .row true svT ((x.2.take k).flatMap (tickS x.1)))]
def aS_TickCrew (x : Cr) : Nat → Option Ann := fun
  | 6 => some (.mk Nat (fun k => k ≤ x.2.length) (fun st k => ((st.keep 5 []).sets [(6, si k), (5, .c (.own 4))]).setEs (tickE x k)) (fun k => x.2.length - k) 0 (fun _ _ => none))
  | _ => none
def aI_TickCrew (x : Cr) : Nat → Option Ann := fun
  | 6 => some (.mk Nat (fun k => k ≤ x.2.length) (fun st k => ((st.keep 5 [16, 17]).sets [(18, si k), (5, .c (.own 4))]).setEs (tickE x k)) (fun k => x.2.length - k) 0 (fun _ _ => none))
  | _ => none
end Go.SF
