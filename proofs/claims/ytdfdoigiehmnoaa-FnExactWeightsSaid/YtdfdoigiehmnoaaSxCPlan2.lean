/- Contracts: turners that are begun and done, and their marks. No condition. -/
import Derived.Test.YtdfdoigiehmnoaaSxCPlan
import Derived.Test.YtdfdoigiehmnoaaSxCMark
namespace Go.SF
open Go.SX Go
set_option linter.unusedVariables false
/-- The first 'j' bits of a number, the other way round. -/
def rev (x : Nat) : Nat → Nat
  | 0 => 0
  | j + 1 => 2 * rev x j + x / 2 ^ j % 2
def permL (v : List Int) (n : Nat) : List Int := (List.range n).map (fun i => v.getD (rev i (logF v.length).toNat) 0)
def permF (v : List Int) : List Int := if 0 ≤ logF v.length then permL v v.length else []
def permM (v : List Int) (n : Nat) : List Int := (List.range v.length).map (fun i => if rev i (logF v.length).toNat < n then v.getD (rev i (logF v.length).toNat) 0 else 0)
def startF (p : Pl) (v : List Int) : Tn × Bool := if turnOkF (p, permF v, 0) = true then ((p, permF v, 0), true) else (((0, 0, []), [], 0), false)
def heldTn (t : Tn) (k : Int) : Int := if neg1 (held3 t.1.2.2 k) < 0 then -1 else neg1 (held1 t.2.1 (neg1 (held3 t.1.2.2 k)))
def fS_ReverseC : PC := { ts := [i64T, i64T], rs := [i64T], pre := fun x => (0 ≤ x.2 ∧ x.2 ≤ 9) ∧ 0 ≤ x.1 ∧ x.1 < 2 ^ x.2.toNat, F := fun x => ((rev x.1.toNat x.2.toNat : Nat) : Int) }
def fI_reversedC : PC := { ts := [i64T, i64T], rs := [i64T], pre := fun x => (0 ≤ x.2 ∧ x.2 ≤ 9) ∧ 0 ≤ x.1 ∧ x.1 < 2 ^ x.2.toNat, F := fun x => ((rev x.1.toNat x.2.toNat : Nat) : Int) }
def fS_PermuteC : PC := { ts := [listT], rs := [listT], pre := fun _ => True, F := fun x => permF x }
def fI_permutedC : PC := { ts := [listT], rs := [listT], pre := fun x => 0 ≤ logF x.length, F := fun x => permF x }
def fS_l09StepsC : PC := { ts := [.sl spT], rs := [.sl spT], pre := fun x => x.length ≤ 1048576, F := fun x => x }
def fS_l15PlanC : PC := { ts := [planT], rs := [planT], pre := fun x => x.2.2.length ≤ 1048576, F := fun x => x }
def fI_copyTurnerC : PC := { ts := [turnT], rs := [turnT], pre := fun x => x.1.2.2.length ≤ 1048576 ∧ x.2.1.length ≤ 1048576, F := fun x => x }
def fS_StartTurnerC : PC := { ts := [planT, listT], rs := [turnT, .bool], pre := fun x => x.1.2.2.length ≤ 1048576, F := fun x => startF x.1 x.2 }
def fI_StartTurnerC : PC := { ts := [planT, listT], rs := [turnT, .bool], pre := fun x => x.1.2.2.length ≤ 1048576 ∧ x.2.length ≤ 1048576, F := fun x => startF x.1 x.2 }
def fL_markStepSC : MC := { t := .sl spT, pre := fun _ _ => True, F := fun x k => end3 x k, G := fun x k => mark3 x k }
def fL_heldStepSC : PC := { ts := [.sl spT, i64T], rs := [i64T], pre := fun _ => True, F := fun x => held3 x.1 x.2 }
def fL_markPlanC : MC := { t := planT, pre := fun _ _ => True, F := fun x k => end3 x.2.2 k, G := fun x k => (x.1, x.2.1, mark3 x.2.2 k) }
def fL_heldPlanC : PC := { ts := [planT, i64T], rs := [i64T], pre := fun _ => True, F := fun x => neg1 (held3 x.1.2.2 x.2) }
def fL_markTurnerC : MC := { t := turnT, pre := fun _ _ => True, F := fun x k => end1 x.2.1 (end3 x.1.2.2 k), G := fun x k => ((x.1.1, x.1.2.1, mark3 x.1.2.2 k), mark1 x.2.1 (end3 x.1.2.2 k), x.2.2) }
def fL_heldTurnerC : PC := { ts := [turnT, i64T], rs := [i64T], pre := fun _ => True, F := fun x => heldTn x.1 x.2 }
def aL_markStepS (x : List Sp) (k : Int) := markA (e := spT) mark3 end3 x k
def aL_heldStepS (x : List Sp × Int) := heldA (e := spT) held3 x
def aS_l09Steps (x : List Sp) : Nat → Option Ann := fun
  | 3 => some (.mk Nat (fun k => k ≤ x.length) (fun st k => ((st.keep 3 []).sets [(4, si k), (3, .c (.own 0))]).setEs [(0, .row true spT (x.take k))]) (fun k => x.length - k) 0 (fun _ _ => none))
  | _ => none
def aS_Permute (x : List Int) : Nat → Option Ann := fun
  | 6 => some (.mk Nat (fun k => k ≤ x.length) (fun st k => ((st.keep 5 []).sets [(5, si k), (3, .c (.own 0))]).setEs [(0, .row true i64T (permL x k))]) (fun k => x.length - k) 0 (fun _ _ => none))
  | _ => none
def aI_permuted (x : List Int) : Nat → Option Ann := fun
  | 4 => some (.mk Nat (fun k => k ≤ x.length) (fun st k => ((st.keep 5 [13, 14]).sets [(15, si k)]).setEs [(0, .row true i64T (permM x k))]) (fun k => x.length - k) 0 (fun _ _ => none))
  | _ => none
def aS_Reverse (x : Int × Int) : Nat → Option Ann := fun
  | 5 => some (.mk Nat (fun i => (i : Int) ≤ x.2) (fun st i => (st.keep 5 []).sets [(6, si i), (5, si ((2 ^ (x.2.toNat - i) * rev x.1.toNat i : Nat) : Int))]) (fun i => x.2.toNat - i) 0 (fun _ _ => none))
  | _ => none
def aI_reversed (x : Int × Int) : Nat → Option Ann := fun
  | 3 => some (.mk Nat (fun j => (j : Int) ≤ x.2) (fun st j => (st.keep 5 [6]).sets [(0, si ((x.1.toNat / 2 ^ j : Nat) : Int)), (5, si ((rev x.1.toNat j : Nat) : Int)), (7, si j)]) (fun j => x.2.toNat - j) 0 (fun _ _ => none))
  | _ => none
end Go.SF
