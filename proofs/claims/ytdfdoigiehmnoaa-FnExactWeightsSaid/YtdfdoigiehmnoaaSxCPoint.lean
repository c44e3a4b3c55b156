/- Contracts: points, and their weights. No condition. -/
import Derived.Test.YtdfdoigiehmnoaaSxCMod
namespace Go.SF
open Go.SX Go
set_option linter.unusedVariables false
def hasF (l : List Int) (x : Int) : Bool := decide (x ∈ l)
def pointsF (f : Int) (xs : List Int) : Bool := decide (1 ≤ xs.length) && decide (xs.length ≤ 40) && specElemsF f xs && decide xs.Nodup
def ptF (f : Int) (xs : List Int) : Fd × Bool := if pointsF f xs = true then ((fieldF f).1, true) else ((0, 0, 0), false)
/-- The product of the differences of a point and the first 'n' ones, itself left out. -/
def byF (p : Int) (xs : List Int) (i : Nat) : Nat → Int
  | 0 => 1
  | n + 1 => if n = i then byF p xs i n else mulM p (byF p xs i n) (subM p (xs.getD i 0) (xs.getD n 0))
def wtF (p : Int) (xs : List Int) (i : Nat) : Int := invM p (byF p xs i xs.length)
def wtsL (p : Int) (xs : List Int) (n : Nat) : List Int := (List.range n).map (wtF p xs)
def weightsF (f : Int) (xs : List Int) : List Int := if pointsF f xs = true then wtsL (modF f) xs xs.length else []
def fS_l01HasC : PC := { ts := [listT, i64T], rs := [.bool], pre := fun _ => True, F := fun x => hasF x.1 x.2 }
def fS_PointsOkC : PC := { ts := [i64T, listT], rs := [.bool], pre := fun _ => True, F := fun x => pointsF x.1 x.2 }
def fI_pointFieldC : PC := { ts := [i64T, listT], rs := [fldT, .bool], pre := fun _ => True, F := fun x => ptF x.1 x.2 }
def fI_weightC : PC := { ts := [fldT, listT, i64T], rs := [i64T], pre := fun x => IsMod x.1.1 ∧ elemsF x.1.1 x.2.1 = true ∧ 0 ≤ x.2.2 ∧ x.2.2 < x.2.1.length, F := fun x => wtF x.1.1 x.2.1 x.2.2.toNat }
def fS_WeightsC : PC := { ts := [i64T, listT], rs := [listT], pre := fun _ => True, F := fun x => weightsF x.1 x.2 }
def fI_WeightsC : PC := { ts := [i64T, listT], rs := [listT], pre := fun _ => True, F := fun x => weightsF x.1 x.2 }
def aS_l01Has (x : List Int × Int) : Nat → Option Ann := fun
  | 2 => some (.mk Nat (fun k => k ≤ x.1.length ∧ x.2 ∉ x.1.take k) (fun st k => (st.keep 5 []).sets [(5, si k)]) (fun k => x.1.length - k) 0 (fun _ _ => none))
  | _ => none
def aS_PointsOk (x : Int × List Int) : Nat → Option Ann := fun
  | 4 => some (.mk Nat (fun k => k ≤ x.2.length ∧ (x.2.take k).Nodup) (fun st k => (st.keep 5 []).sets [(5, si k)]) (fun k => x.2.length - k) 0 (fun _ _ => none))
  | _ => none
def aI_pointField (x : Int × List Int) : Nat → Option Ann := fun
  | 5 => some (.mk Nat (fun k => k ≤ x.2.length ∧ (x.2.take k).Nodup) (fun st k => (st.keep 8 [36, 37]).sets [(38, si k)]) (fun k => x.2.length - k) 0 (fun i => fun
    | 8 => some (.mk Nat (fun j => j ≤ i ∧ x.2.getD i 0 ∉ x.2.take j) (fun st j => (st.keep 11 [36, 37, 38, 45, 46]).sets [(47, si j)]) (fun j => i - j) 0 (fun _ _ => none))
    | _ => none))
  | _ => none
def aS_Weights (x : Int × List Int) : Nat → Option Ann := fun
  | 5 => some (.mk Nat (fun k => k ≤ x.2.length) (fun st k => ((st.keep 5 []).sets [(5, .c (.own 0)), (6, si k)]).setEs [(0, .row true i64T (wtsL (modF x.1) x.2 k))]) (fun k => x.2.length - k) 0 (fun i => fun
    | 9 => some (.mk Nat (fun j => j ≤ x.2.length) (fun st j => (st.keep 7 []).sets [(7, si (byF (modF x.1) x.2 i j)), (8, si j)]) (fun j => x.2.length - j) 0 (fun _ _ => none))
    | _ => none))
  | _ => none
def aI_weight (x : Fd × List Int × Int) : Nat → Option Ann := fun
  | 3 => some (.mk Nat (fun j => j ≤ x.2.1.length) (fun st j => (st.keep 7 [10, 11]).sets [(7, si (byF x.1.1 x.2.1 x.2.2.toNat j)), (12, si j)]) (fun j => x.2.1.length - j) 0 (fun _ _ => none))
  | _ => none
def aI_Weights (x : Int × List Int) : Nat → Option Ann := fun
  | 6 => some (.mk Nat (fun k => k ≤ x.2.length) (fun st k => ((st.keep 7 [18, 19]).sets [(7, .c (.own 1)), (20, si k)]).setEs [(1, .row true i64T (wtsL (modF x.1) x.2 k))]) (fun k => x.2.length - k) 0 (fun _ _ => none))
  | _ => none
end Go.SF
