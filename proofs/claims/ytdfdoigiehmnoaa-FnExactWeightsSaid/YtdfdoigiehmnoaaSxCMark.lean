/- Contracts: marks. No condition. -/
import Derived.Test.YtdfdoigiehmnoaaSxCCrew
import Derived.Test.YtdfdoigiehmnoaaSxCServed
namespace Go.SF
open Go.SX Go
set_option linter.unusedVariables false
def noM0 {X : Type} : X → Int → Nat → Option Ann := fun _ _ _ => none
/-- Each element is made anew out of the number that it is its turn with. -/
def mkGo {α : Type} (el : Int → α) (nx : Int → Int) : List α → Int → List α
  | [], _ => []
  | _ :: xs, k => el k :: mkGo el nx xs (nx k)
def mkEnd {α : Type} (nx : Int → Int) : List α → Int → Int
  | [], k => k
  | _ :: xs, k => mkEnd nx xs (nx k)
def heldGo {α : Type} (ok : α → Int → Bool) (nx : Int → Int) : List α → Int → Int
  | [], k => k
  | x :: xs, k => if ok x k then heldGo ok nx xs (nx k) else -1
def n1 (k : Int) : Int := w64 (k + 1)
def n2 (k : Int) : Int := w64 (w64 (k + 1) + 1)
def n3 (k : Int) : Int := w64 (w64 (w64 (k + 1) + 1) + 1)
def el1 (k : Int) : Int := k
def el2 (k : Int) : Int × Int := (k, w64 (k + 1))
def el3 (k : Int) : Int × Int × Int := (k, w64 (k + 1), w64 (w64 (k + 1) + 1))
def ok1 (x : Int) (k : Int) : Bool := decide (x = k)
def ok2 (x : Int × Int) (k : Int) : Bool := decide (x.1 = k ∧ x.2 = w64 (k + 1))
def ok3 (x : Int × Int × Int) (k : Int) : Bool := decide (x.1 = k ∧ x.2.1 = w64 (k + 1) ∧ x.2.2 = w64 (w64 (k + 1) + 1))
def held1 (xs : List Int) (k : Int) : Int := heldGo ok1 n1 xs k
def held2 (xs : List (Int × Int)) (k : Int) : Int := heldGo ok2 n2 xs k
def held3 (xs : List (Int × Int × Int)) (k : Int) : Int := heldGo ok3 n3 xs k
def mark1 (xs : List Int) (k : Int) : List Int := mkGo el1 n1 xs k
def mark2 (xs : List (Int × Int)) (k : Int) : List (Int × Int) := mkGo el2 n2 xs k
def mark3 (xs : List (Int × Int × Int)) (k : Int) : List (Int × Int × Int) := mkGo el3 n3 xs k
def end1 (xs : List Int) (k : Int) : Int := mkEnd n1 xs k
def end2 (xs : List (Int × Int)) (k : Int) : Int := mkEnd n2 xs k
def end3 (xs : List (Int × Int × Int)) (k : Int) : Int := mkEnd n3 xs k
def neg1 (k : Int) : Int := if k < 0 then -1 else k
def markA {e : Ty} (mk : List e.den → Int → List e.den) (en : List e.den → Int → Int) (x : List e.den) (k : Int) : Nat → Option Ann := fun
  | 2 => some (.mk (Nat × Int) (fun j => j.1 ≤ x.length ∧ j.2 = en (x.take j.1) k) (fun st j => ((st.keep 1 []).sets [(5, si j.1), (1, si j.2)]).setEs [(0, .row false e (mk (x.take j.1) k ++ x.drop j.1))]) (fun j => x.length - j.1) (0, k) (fun _ _ => none))
  | _ => none
def heldA {e : Ty} (he : List e.den → Int → Int) (x : List e.den × Int) : Nat → Option Ann := fun
  | 2 => some (.mk (Nat × Int) (fun j => j.1 ≤ x.1.length ∧ he (x.1.drop j.1) j.2 = he x.1 x.2) (fun st j => (st.keep 1 []).sets [(5, si j.1), (1, si j.2)]) (fun j => x.1.length - j.1) (0, x.2) (fun _ _ => none))
  | _ => none
def fL_markHandSC : MC := { t := .sl hdT, pre := fun _ _ => True, F := fun x k => end3 x k, G := fun x k => mark3 x k }
def fL_heldHandSC : PC := { ts := [.sl hdT, i64T], rs := [i64T], pre := fun _ => True, F := fun x => held3 x.1 x.2 }
def fL_markCrewC : MC := { t := crewT, pre := fun _ _ => True, F := fun x k => end3 x.2 k, G := fun x k => (x.1, mark3 x.2 k) }
def fL_heldCrewC : PC := { ts := [crewT, i64T], rs := [i64T], pre := fun _ => True, F := fun x => neg1 (held3 x.1.2 x.2) }
def fL_markServedSC : MC := { t := .sl svT, pre := fun _ _ => True, F := fun x k => end3 x k, G := fun x k => mark3 x k }
def fL_heldServedSC : PC := { ts := [.sl svT, i64T], rs := [i64T], pre := fun _ => True, F := fun x => held3 x.1 x.2 }
def fL_markTicketSC : MC := { t := .sl tkT, pre := fun _ _ => True, F := fun x k => end2 x k, G := fun x k => mark2 x k }
def fL_heldTicketSC : PC := { ts := [.sl tkT, i64T], rs := [i64T], pre := fun _ => True, F := fun x => held2 x.1 x.2 }
def fL_markLineC : MC := { t := lineT, pre := fun _ _ => True, F := fun x k => end2 x k, G := fun x k => mark2 x k }
def fL_heldLineC : PC := { ts := [lineT, i64T], rs := [i64T], pre := fun _ => True, F := fun x => neg1 (held2 x.1 x.2) }
def fL_markIntSC : MC := { t := .sl i64T, pre := fun _ _ => True, F := fun x k => end1 x k, G := fun x k => mark1 x k }
def fL_heldIntSC : PC := { ts := [.sl i64T, i64T], rs := [i64T], pre := fun _ => True, F := fun x => held1 x.1 x.2 }
def aL_markHandS (x : List Hd) (k : Int) := markA (e := hdT) mark3 end3 x k
def aL_heldHandS (x : List Hd × Int) := heldA (e := hdT) held3 x
def aL_markServedS (x : List Sv) (k : Int) := markA (e := svT) mark3 end3 x k
def aL_heldServedS (x : List Sv × Int) := heldA (e := svT) held3 x
def aL_markTicketS (x : List Tk) (k : Int) := markA (e := tkT) mark2 end2 x k
def aL_heldTicketS (x : List Tk × Int) := heldA (e := tkT) held2 x
def aL_markIntS (x : List Int) (k : Int) := markA (e := i64T) mark1 end1 x k
def aL_heldIntS (x : List Int × Int) := heldA (e := i64T) held1 x
end Go.SF
