/- Contracts: ServedCost. No condition. -/
import Derived.Test.YtdfdoigiehmnoaaSxCBase
namespace Go.SF
open Go.SX Go
set_option linter.unusedVariables false
abbrev svT : Ty := .st (.pr (.int .i64) (.pr (.int .i64) (.int .i64)))
abbrev Sv := Int × Int × Int
def servedGo (t : Int) : List Sv → Int → Int
  | [], s => s
  | x :: xs, s => if 1 ≤ x.2.2 ∧ x.2.2 ≤ 200000 then servedGo t xs (if x.1 = t then w64 (s + x.2.2) else s) else -1
def servedF (xs : List Sv) (t : Int) : Int := if 4096 < xs.length then -1 else servedGo t xs 0
def fL_toServedC : PC := { ts := [svT], rs := [svT], pre := fun _ => True, F := fun x => x }
def fL_eqServedC : PC := { ts := [svT, svT], rs := [.bool], pre := fun _ => True, F := fun x => decide (x.1 = x.2) }
def fL_szServedSC : PC := { ts := [.sl svT, i64T], rs := [i64T], pre := fun _ => True, F := fun x => szF x.1.length x.2 }
def fL_toServedSC : PC := { ts := [.sl svT], rs := [.sl svT], pre := fun x => x.length ≤ 1048576, F := fun x => x }
def fL_eqServedSC : PC := { ts := [.sl svT, .sl svT], rs := [.bool], pre := fun _ => True, F := fun x => decide (x.1 = x.2) }
def fS_ServedCostC : PC := { ts := [.sl svT, i64T], rs := [i64T], pre := fun _ => True, F := fun x => servedF x.1 x.2 }
def fI_ServedCostC : PC := { ts := [.sl svT, i64T], rs := [i64T], pre := fun _ => True, F := fun x => servedF x.1 x.2 }
def aS_ServedCost (x : List Sv × Int) : Nat → Option Ann := fun
  | 5 => some (.mk (Nat × Int) (fun k => k.1 ≤ x.1.length ∧ servedGo x.2 (x.1.drop k.1) k.2 = servedGo x.2 x.1 0) (fun st k => (st.keep 7 []).sets [(6, si k.1), (5, si k.2)]) (fun k => x.1.length - k.1) (0, 0) (fun _ _ => none))
  | _ => none
def aI_ServedCost (x : List Sv × Int) : Nat → Option Ann := fun
  | 5 => some (.mk (Nat × Int) (fun k => k.1 ≤ x.1.length ∧ servedGo x.2 (x.1.drop k.1) k.2 = servedGo x.2 x.1 0) (fun st k => (st.keep 8 [11, 12]).sets [(13, si k.1), (5, si k.2)]) (fun k => x.1.length - k.1) (0, 0) (fun _ _ => none))
  | _ => none
def aL_toServedS (x : List Sv) := copyA (e := svT) x 3 4 3 5
def aL_eqServedS (x : List Sv × List Sv) := eqA (e := svT) x 4 5 6
end Go.SF
