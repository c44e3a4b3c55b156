/- Contracts: lines out of which tickets are taken, and lines that are played. No condition. -/
import Derived.Test.YtoikbmdjancdcaaSxCLine2
namespace Go.SF
open Go.SX Go
set_option linter.unusedVariables false
abbrev opT : Ty := .st (.pr (.int .i64) (.pr (.st (.pr (.int .i64) (.int .i64))) (.int .i64)))
abbrev Op' := Int × (Int × Int) × Int
def delAt {α : Type} (xs : List α) (i : Int) : List α := xs.take i.toNat ++ xs.drop (i + 1).toNat
def icancelF (xs : List Tk) (id : Int) : List Tk × Tk × Bool :=
  if lineOkF xs = true ∧ 0 ≤ idxGo id xs 0 then (delAt xs (idxGo id xs 0), xs.getD (idxGo id xs 0).toNat (0, 0), true) else (xs, (0, 0), false)
def stepF (xs : List Tk) (op : Op') : List Tk × Int :=
  if op.1 = 0 then ((pushF xs op.2.1).1, if (pushF xs op.2.1).2 = true then op.2.1.1 else 0)
  else if op.1 = 1 then ((popF xs).1, (popF xs).2.1.1)
  else if op.1 = 2 then ((cancelSF xs op.2.2).1, (cancelSF xs op.2.2).2.1.1)
  else (xs, 0)
def playGo : List Op' → List Tk → List Int → List Tk × List Int
  | [], xs, told => (xs, told)
  | op :: ops, xs, told => playGo ops (stepF xs op).1 (told ++ [(stepF xs op).2])
def playF (xs : List Tk) (ops : List Op') : List Tk × List Int := if lineOkF xs = true ∧ ops.length ≤ 400 then playGo ops xs [] else ([], [])
def el4 (k : Int) : Op' := (k, (w64 (k + 1), w64 (w64 (k + 1) + 1)), w64 (w64 (w64 (k + 1) + 1) + 1))
def n4 (k : Int) : Int := w64 (w64 (w64 (w64 (k + 1) + 1) + 1) + 1)
def mark4 (xs : List Op') (k : Int) : List Op' := mkGo el4 n4 xs k
def end4 (xs : List Op') (k : Int) : Int := mkEnd n4 xs k
def fI_withoutTicketC : PC := { ts := [lineT, i64T], rs := [lineT], pre := fun x => 0 ≤ x.2 ∧ x.2 < (x.1.length : Int) ∧ x.1.length ≤ 1048576, F := fun x => delAt x.1 x.2 }
def fI_CancelC : PC := { ts := [lineT, i64T], rs := [lineT, tkT, .bool], pre := fun x => x.1.length ≤ 1048576, F := fun x => icancelF x.1 x.2 }
def fL_toLineOpC : PC := { ts := [opT], rs := [opT], pre := fun _ => True, F := fun x => x }
def fL_toLineOpSC : PC := { ts := [.sl opT], rs := [.sl opT], pre := fun x => x.length ≤ 1048576, F := fun x => x }
def fL_szLineOpSC : PC := { ts := [.sl opT, i64T], rs := [i64T], pre := fun _ => True, F := fun x => szF x.1.length x.2 }
def fL_eqLineOpC : PC := { ts := [opT, opT], rs := [.bool], pre := fun _ => True, F := fun x => decide (x.1 = x.2) }
def fL_eqLineOpSC : PC := { ts := [.sl opT, .sl opT], rs := [.bool], pre := fun _ => True, F := fun x => decide (x.1 = x.2) }
def fL_eqIntSC : PC := { ts := [.sl i64T, .sl i64T], rs := [.bool], pre := fun _ => True, F := fun x => decide (x.1 = x.2) }
def fL_markLineOpSC : MC := { t := .sl opT, pre := fun _ _ => True, F := fun x k => end4 x k, G := fun x k => mark4 x k }
def aL_toLineOpS (x : List Op') := copyA (e := opT) x 3 4 3 5
def aL_eqLineOpS (x : List Op' × List Op') := eqA (e := opT) x 4 5 6
def aL_eqIntS (x : List Int × List Int) := eqA (e := i64T) x 4 5 6
def aL_markLineOpS (x : List Op') (k : Int) := markA (e := opT) mark4 end4 x k
def fS_PlayLineC : PC := { ts := [lineT, .sl opT], rs := [lineT, .sl i64T], pre := fun x => x.1.length ≤ 1048576, F := fun x => playF x.1 x.2 }
def fI_PlayLineC : PC := { ts := [lineT, .sl opT], rs := [lineT, .sl i64T], pre := fun x => x.1.length ≤ 1048576, F := fun x => playF x.1 x.2 }
def PlayP (x : List Tk × List Op') (k : Nat × List Tk × List Int) : Prop := k.1 ≤ x.2.length ∧ playGo (x.2.drop k.1) k.2.1 k.2.2 = playGo x.2 x.1 [] ∧ lineOkF k.2.1 = true ∧ k.2.2.length = k.1
def StepP (x : List Tk × List Op') (k : Nat × List Tk × List Int) (y : List Tk × Int) : Prop := y = stepF k.2.1 (x.2.getD k.1 (0, (0, 0), 0))
def aS_PlayLine1 (x : List Tk × List Op') (k : Nat × List Tk × List Int) : Nat → Option Ann := fun
  | 100023 => some (.mk (List Tk × Int) (fun y => StepP x k y) (fun st y => ((st.keep 9 []).sets [(9, si y.2)]).setEs [(3, .bx [.own 2]), (2, .row true tkT y.1)]) (fun _ => 0) ([], 0) (fun _ _ => none))
  | _ => none
def aS_PlayLine (x : List Tk × List Op') : Nat → Option Ann := fun
  | 6 => some (.mk (Nat × List Tk × List Int) (fun k => PlayP x k) (fun st k => ((st.keep 7 []).sets [(8, si k.1), (7, .c (.own 4))]).setEs [(3, .bx [.own 2]), (2, .row true tkT k.2.1), (4, .row true i64T k.2.2)]) (fun k => x.2.length - k.1) (0, x.1, []) (fun k => aS_PlayLine1 x k))
  | _ => none
def aI_PlayLine1 (x : List Tk × List Op') (k : Nat × List Tk × List Int) : Nat → Option Ann := fun
  | 100024 => some (.mk (List Tk × Int) (fun y => StepP x k y) (fun st y => ((st.keep 9 [25, 26, 27]).sets [(9, si y.2)]).setEs [(0, .bx [.own 2]), (2, .row true tkT y.1)]) (fun _ => 0) ([], 0) (fun _ _ => none))
  | _ => none
def aI_PlayLine (x : List Tk × List Op') : Nat → Option Ann := fun
  | 6 => some (.mk (Nat × List Tk × List Int) (fun k => PlayP x k) (fun st k => ((st.keep 6 [25, 26]).sets [(27, si k.1), (6, .c (.own 3))]).setEs [(0, .bx [.own 2]), (2, .row true tkT k.2.1), (3, .row true i64T k.2.2)]) (fun k => x.2.length - k.1) (0, x.1, []) (fun k => aI_PlayLine1 x k))
  | _ => none
end Go.SF
