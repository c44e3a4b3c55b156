/- Contracts: lines that are made anew. No condition. -/
import Derived.Test.YtoikbmdjancdcaaSxCMark
namespace Go.SF
open Go.SX Go
set_option linter.unusedVariables false
def pushF (xs : List Tk) (t : Tk) : List Tk × Bool := if lineOkF xs = true ∧ lineOkF (xs ++ [t]) = true then (xs ++ [t], true) else (xs, false)
def ipushF (xs : List Tk) (t : Tk) : List Tk × Bool := if lineOkF (xs ++ [t]) = true then (xs ++ [t], true) else (xs, false)
def goneGo (id : Int) : List Tk → Tk → Tk
  | [], g => g
  | x :: xs, g => goneGo id xs (if x.1 = id then x else g)
def restF (id : Int) (xs : List Tk) : List Tk := xs.filter (fun t => !decide (t.1 = id))
def cancelSF (xs : List Tk) (id : Int) : List Tk × Tk × Bool :=
  if lineOkF xs = true then (restF id xs, goneGo id xs (0, 0), !decide ((goneGo id xs (0, 0)).1 = 0)) else (xs, (0, 0), false)
def popF (xs : List Tk) : List Tk × Tk × Bool := if lineOkF xs = true ∧ xs.length ≠ 0 then (xs.drop 1, xs.getD 0 (0, 0), true) else (xs, (0, 0), false)
def cw (n : Int) : C := .val (.int .i64 n)
def fS_l13CopyC : PC := { ts := [lineT], rs := [lineT], pre := fun x => x.length ≤ 1048576, F := fun x => x }
def fI_copyLineC : PC := { ts := [lineT], rs := [lineT], pre := fun x => x.length ≤ 1048576, F := fun x => x }
def fI_pushC : PC := { ts := [lineT, tkT], rs := [lineT, .bool], pre := fun x => x.1.length ≤ 1048576, F := fun x => ipushF x.1 x.2 }
def fS_PushC : PC := { ts := [lineT, tkT], rs := [lineT, .bool], pre := fun x => x.1.length ≤ 1048576, F := fun x => pushF x.1 x.2 }
def fI_PushC : PC := { ts := [lineT, tkT], rs := [lineT, .bool], pre := fun x => x.1.length ≤ 1048576, F := fun x => pushF x.1 x.2 }
def fS_CancelC : PC := { ts := [lineT, i64T], rs := [lineT, tkT, .bool], pre := fun x => x.1.length ≤ 1048576, F := fun x => cancelSF x.1 x.2 }
def fS_PopC : PC := { ts := [lineT], rs := [lineT, tkT, .bool], pre := fun x => x.length ≤ 1048576, F := fun x => popF x }
def fI_PopC : PC := { ts := [lineT], rs := [lineT, tkT, .bool], pre := fun x => x.length ≤ 1048576, F := fun x => popF x }
def aS_l13Copy (x : List Tk) : Nat → Option Ann := fun
  | 3 => some (.mk Nat (fun k => k ≤ x.length) (fun st k => ((st.keep 4 []).sets [(4, si k)]).setEs [(2, .bx [.own 3]), (3, .row true tkT (x.take k))]) (fun k => x.length - k) 0 (fun _ _ => none))
  | _ => none
def aS_Cancel (x : List Tk × Int) : Nat → Option Ann := fun
  | 6 => some (.mk (Nat × Tk) (fun k => k.1 ≤ x.1.length ∧ k.2 = goneGo x.2 (x.1.take k.1) (0, 0)) (fun st k => ((st.keep 9 []).sets [(9, si k.1)]).setEs [(3, .bx [.own 5]), (4, .bx [cw k.2.1, cw k.2.2]), (5, .row true tkT (restF x.2 (x.1.take k.1)))]) (fun k => x.1.length - k.1) (0, (0, 0)) (fun _ _ => none))
  | _ => none
end Go.SF
