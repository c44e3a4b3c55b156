/- Contracts: fields, and lists of their elements. No condition. -/
import Derived.Test.YtdfdoigiehmnoaaSxCBase
namespace Go.SF
open Go.SX Go
set_option linter.unusedVariables false
abbrev fldT : Ty := .st (.pr (.int .i64) (.pr (.int .i64) (.int .i64)))
abbrev listT : Ty := .sl (.int .i64)
abbrev Fd := Int × Int × Int
def fieldTab : List Fd := [(17, 3, 4), (97, 5, 5), (193, 5, 6), (257, 3, 8), (7681, 17, 9), (12289, 11, 12), (998244353, 3, 23), (469762049, 3, 26), (1004535809, 3, 21)]
def fieldF (f : Int) : Fd × Bool := if 0 ≤ f ∧ f < 9 then (fieldTab.getD f.toNat (0, 0, 0), true) else ((0, 0, 0), false)
def modF (f : Int) : Int := (fieldF f).1.1
def twoF (f : Int) : Int := if (fieldF f).2 = true then (fieldF f).1.2.2 else -1
def logGo (n : Int) : Nat → Int
  | 0 => -1
  | k + 1 => if n = 2 ^ (9 - k) then ((9 - k : Nat) : Int) else logGo n k
/-- The logarithm of a number up to 512. -/
def logF (n : Int) : Int := logGo n 10
def elemsF (p : Int) (xs : List Int) : Bool := decide (∀ x ∈ xs, 0 ≤ x ∧ x ≤ p - 1)
def specElemsF (f : Int) (xs : List Int) : Bool := decide (modF f ≠ 0) && elemsF (modF f) xs
def vectorOkF (f : Int) (xs : List Int) : Bool := decide (0 ≤ logF xs.length) && decide (logF xs.length ≤ twoF f) && specElemsF f xs
def vecF (f : Int) (xs : List Int) : Fd × Bool := if vectorOkF f xs = true then ((fieldF f).1, true) else ((0, 0, 0), false)
def fI_fieldOfC : PC := { ts := [i64T], rs := [fldT, .bool], pre := fun _ => True, F := fun x => fieldF x }
def fS_ModulusC : PC := { ts := [i64T], rs := [i64T], pre := fun _ => True, F := fun x => modF x }
def fS_TwoPowerC : PC := { ts := [i64T], rs := [i64T], pre := fun _ => True, F := fun x => twoF x }
def fS_LogOfC : PC := { ts := [i64T], rs := [i64T], pre := fun _ => True, F := fun x => logF x }
def fI_logOfC : PC := { ts := [i64T], rs := [i64T], pre := fun _ => True, F := fun x => logF x }
def fS_l03ElementsC : PC := { ts := [i64T, listT], rs := [.bool], pre := fun _ => True, F := fun x => specElemsF x.1 x.2 }
def fI_areElementsC : PC := { ts := [fldT, listT], rs := [.bool], pre := fun _ => True, F := fun x => elemsF x.1.1 x.2 }
def fS_VectorOkC : PC := { ts := [i64T, listT], rs := [.bool], pre := fun _ => True, F := fun x => vectorOkF x.1 x.2 }
def fI_vectorFieldC : PC := { ts := [i64T, .sl listT], rs := [fldT, .bool], pre := fun x => x.2.length = 1, F := fun x => vecF x.1 (x.2.getD 0 []) }
def aS_TwoPower (x : Int) : Nat → Option Ann := fun
  | 6 => some (.mk Nat (fun t => (t : Int) ≤ twoF x) (fun st t => (st.keep 4 []).sets [(4, si t), (5, si ((modF x - 1) / 2 ^ t))]) (fun t => (twoF x).toNat - t) 0 (fun _ _ => none))
  | _ => none
def LogP (n : Int) (k : Nat) : Prop := k ≤ 10 ∧ ∀ j, j < k → n ≠ 2 ^ j
def aS_LogOf (x : Int) : Nat → Option Ann := fun
  | 2 => some (.mk Nat (fun k => LogP x k) (fun st k => (st.keep 3 []).sets [(3, si k)]) (fun k => 10 - k) 0 (fun _ _ => none))
  | _ => none
def aI_logOf (x : Int) : Nat → Option Ann := fun
  | 2 => some (.mk Nat (fun k => LogP x k) (fun st k => (st.keep 3 []).sets [(4, si k)]) (fun k => 10 - k) 0 (fun _ _ => none))
  | _ => none
def ElP (p : Int) (xs : List Int) (k : Nat) : Prop := k ≤ xs.length ∧ elemsF p (xs.take k) = true
def aS_l03Elements (x : Int × List Int) : Nat → Option Ann := fun
  | 5 => some (.mk Nat (fun k => ElP (modF x.1) x.2 k) (fun st k => (st.keep 6 []).sets [(6, si k)]) (fun k => x.2.length - k) 0 (fun _ _ => none))
  | _ => none
def aI_areElements (x : Fd × List Int) : Nat → Option Ann := fun
  | 2 => some (.mk Nat (fun k => ElP x.1.1 x.2 k) (fun st k => (st.keep 5 [7, 8]).sets [(9, si k)]) (fun k => x.2.length - k) 0 (fun _ _ => none))
  | _ => none
def aI_vectorField (x : Int × List (List Int)) : Nat → Option Ann := fun
  | 5 => some (.mk Nat (fun k => k ≤ 1 ∧ (k = 1 → vectorOkF x.1 (x.2.getD 0 []) = true)) (fun st k => (st.keep 8 [19, 20]).sets [(21, si k)]) (fun k => 1 - k) 0 (fun _ _ => none))
  | _ => none
end Go.SF
