/- Contracts: rings of flows. No condition. -/
import Derived.Test.YtoikbmdjancdcaaSxCLine
namespace Go.SF
open Go.SX Go
set_option linter.unusedVariables false
abbrev flT : Ty := .st (.pr (.int .i64) (.pr (.int .i64) (.pr (.int .i64) lineT)))
abbrev Fl := Int × Int × Int × List Tk
abbrev ringT : Ty := .st (.pr (.sl flT) (.pr (.int .i64) .bool))
abbrev Rg := List Fl × Int × Bool
instance decLine : DecidableEq (List Tk) := inferInstance
instance decFl : DecidableEq Fl := inferInstance
instance decFls : DecidableEq (List Fl) := @instDecidableEqList Fl decFl
instance decRg : DecidableEq Rg := @instDecidableEqProd (List Fl) (Int × Bool) decFls inferInstance
def eqFl (a b : Fl) : Bool := @decide (a = b) (decFl a b)
def eqFls (a b : List Fl) : Bool := @decide (a = b) (decFls a b)
def eqRg (a b : Rg) : Bool := @decide (a = b) (decRg a b)
def fl0 : Fl := (0, 0, 0, [])
/-- What the sizes leave. -/
def szFlGo : List Fl → Int → Int
  | [], l => l
  | f :: fs, l => if szF f.2.2.2.length l < 0 then -1 else szFlGo fs (szF f.2.2.2.length l)
def szFlF (fs : List Fl) (l : Int) : Int := if w64 (l - fs.length) < 0 then -1 else szFlGo fs (w64 (l - fs.length))
def szRgF (fs : List Fl) (l : Int) : Int := if szFlF fs l < 0 then -1 else szFlF fs l
/-- No list is longer than the law lets through. -/
def FlsP (fs : List Fl) : Prop := fs.length ≤ 1048576 ∧ ∀ f ∈ fs, f.2.2.2.length ≤ 1048576
def fL_szFlowC : PC := { ts := [flT, i64T], rs := [i64T], pre := fun _ => True, F := fun x => szF x.1.2.2.2.length x.2 }
def fL_szFlowSC : PC := { ts := [.sl flT, i64T], rs := [i64T], pre := fun _ => True, F := fun x => szFlF x.1 x.2 }
def fL_szRingC : PC := { ts := [ringT, i64T], rs := [i64T], pre := fun _ => True, F := fun x => szRgF x.1.1 x.2 }
def fL_toFlowC : PC := { ts := [flT], rs := [flT], pre := fun x => x.2.2.2.length ≤ 1048576, F := fun x => x }
def fL_toFlowSC : PC := { ts := [.sl flT], rs := [.sl flT], pre := fun x => FlsP x, F := fun x => x }
def fL_toRingC : PC := { ts := [ringT], rs := [ringT], pre := fun x => FlsP x.1, F := fun x => x }
def fL_eqFlowC : PC := { ts := [flT, flT], rs := [.bool], pre := fun _ => True, F := fun x => eqFl x.1 x.2 }
def fL_eqFlowSC : PC := { ts := [.sl flT, .sl flT], rs := [.bool], pre := fun _ => True, F := fun x => eqFls x.1 x.2 }
def fL_eqRingC : PC := { ts := [ringT, ringT], rs := [.bool], pre := fun _ => True, F := fun x => eqRg x.1 x.2 }
def aL_toFlowS (x : List Fl) := copyA (e := flT) x 3 4 3 5
def aL_eqFlowS (x : List Fl × List Fl) := eqA (e := flT) x 4 5 6
def aL_szFlowS (x : List Fl × Int) : Nat → Option Ann := fun
  | 5 => some (.mk (Nat × Int) (fun k => k.1 ≤ x.1.length ∧ szFlGo (x.1.drop k.1) k.2 = szFlGo x.1 (w64 (x.2 - x.1.length))) (fun st k => (st.keep 6 []).sets [(5, si k.1), (1, si k.2)]) (fun k => x.1.length - k.1) (0, w64 (x.2 - x.1.length)) (fun _ _ => none))
  | _ => none
/-- A flow that is well. -/
def flowOkF (f : Fl) (fresh : Bool) : Bool :=
  decide (0 ≤ f.1 ∧ f.1 ≤ 99) && decide (100 ≤ f.2.1 ∧ f.2.1 ≤ 100000) && lineOkF f.2.2.2 &&
  (if fresh then decide (0 < f.2.2.2.length ∧ 0 ≤ f.2.2.1 ∧ f.2.2.1 ≤ 299999)
   else decide (0 ≤ f.2.2.1 ∧ f.2.2.1 ≤ 199999 ∧ (0 < f.2.2.2.length ∨ f.2.2.1 = 0)))
/-- The first 'k' flows are well, their tenants rise. -/
def RingP (fs : List Fl) (turn : Int) (fresh : Bool) (k : Nat) : Prop :=
  ∀ j, j < k → flowOkF (fs.getD j (0, 0, 0, [])) (fresh && decide ((j : Int) = turn)) = true ∧ (0 < j → (fs.getD (j - 1) (0, 0, 0, [])).1 < (fs.getD j (0, 0, 0, [])).1)
instance decRingP (fs : List Fl) (turn : Int) (fresh : Bool) (k : Nat) : Decidable (RingP fs turn fresh k) := by unfold RingP; infer_instance
def ringOkF (fs : List Fl) (turn : Int) (fresh : Bool) : Bool :=
  decide (fs.length ≤ 12) && (if fs.length = 0 then decide (turn = 0) && !fresh else decide (0 ≤ turn ∧ turn ≤ (fs.length : Int) - 1) && decide (RingP fs turn fresh fs.length))
def waitGo : List Fl → Int → Int
  | [], s => s
  | f :: fs, s => waitGo fs (w64 (s + f.2.2.2.length))
def waitF (r : Rg) : Int := if ringOkF r.1 r.2.1 r.2.2 then waitGo r.1 0 else -1
def fS_l14FlowC : PC := { ts := [flT, .bool], rs := [.bool], pre := fun _ => True, F := fun x => flowOkF x.1 x.2 }
def fS_RingOkC : PC := { ts := [ringT], rs := [.bool], pre := fun _ => True, F := fun x => ringOkF x.1 x.2.1 x.2.2 }
def fI_isRingC : PC := { ts := [ringT], rs := [.bool], pre := fun _ => True, F := fun x => ringOkF x.1 x.2.1 x.2.2 }
def fI_RingOkC : PC := { ts := [ringT], rs := [.bool], pre := fun _ => True, F := fun x => ringOkF x.1 x.2.1 x.2.2 }
def fI_waitingC : PC := { ts := [ringT], rs := [i64T], pre := fun _ => True, F := fun x => waitGo x.1 0 }
def fS_WaitingC : PC := { ts := [ringT], rs := [i64T], pre := fun _ => True, F := fun x => waitF x }
def fI_WaitingC : PC := { ts := [ringT], rs := [i64T], pre := fun _ => True, F := fun x => waitF x }
def aS_RingOk (x : Rg) : Nat → Option Ann := fun
  | 9 => some (.mk Nat (fun k => k ≤ x.1.length ∧ RingP x.1 x.2.1 x.2.2 k) (fun st k => (st.keep 5 []).sets [(4, si k)]) (fun k => x.1.length - k) 0 (fun _ _ => none))
  | _ => none
/-- What is known before the flows are looked at. -/
def RingHd (x : Rg) : Prop := x.1.length ≤ 12 ∧ (x.1.length = 0 → x.2.1 = 0 ∧ x.2.2 = false) ∧ (0 < x.1.length → 0 ≤ x.2.1 ∧ x.2.1 < x.1.length)
/-- The first part of what is asked of a flow. -/
def FlowHd (xs : List Fl) (k : Nat) : Prop := 0 ≤ (xs.getD k (0, 0, 0, [])).1 ∧ (xs.getD k (0, 0, 0, [])).1 ≤ 99 ∧ 100 ≤ (xs.getD k (0, 0, 0, [])).2.1 ∧ (xs.getD k (0, 0, 0, [])).2.1 ≤ 100000 ∧
  lineOkF (xs.getD k (0, 0, 0, [])).2.2.2 = true ∧ (0 < k → (xs.getD (k - 1) (0, 0, 0, [])).1 < (xs.getD k (0, 0, 0, [])).1)
def FlowMost (x : Rg) (k : Nat) (m : Int) : Prop := (x.2.2 = true ∧ (k : Int) = x.2.1 ∧ 0 < (x.1.getD k (0, 0, 0, [])).2.2.2.length ∧ m = 299999) ∨ (¬ (x.2.2 = true ∧ (k : Int) = x.2.1) ∧ m = 199999)
def aI_isRing3 (x : Rg) (k : Nat) : Nat → Option Ann := fun
  | 100015 => some (.mk Int (fun m => FlowMost x k m) (fun st m => (st.keep 8 [42, 43, 44]).sets [(6, si m)]) (fun _ => 0) 0 (fun _ _ => none))
  | _ => none
def aI_isRing2 (x : Rg) (k : Nat) : Nat → Option Ann := fun
  | 100009 => some (.mk Unit (fun _ => FlowHd x.1 k) (fun st _ => st.keep 6 [42, 43, 44]) (fun _ => 0) () (fun _ => aI_isRing3 x k))
  | _ => none
def aI_isRing1 (x : Rg) : Nat → Option Ann := fun
  | 5 => some (.mk Nat (fun k => k ≤ x.1.length ∧ RingP x.1 x.2.1 x.2.2 k) (fun st k => (st.keep 4 [42, 43]).sets [(44, si k)]) (fun k => x.1.length - k) 0 (fun k => aI_isRing2 x k))
  | _ => none
def aI_isRing (x : Rg) : Nat → Option Ann := fun
  | 100004 => some (.mk Unit (fun _ => RingHd x) (fun st _ => st.keep 4 []) (fun _ => 0) () (fun _ => aI_isRing1 x))
  | _ => none
def aI_waiting (x : Rg) : Nat → Option Ann := fun
  | 3 => some (.mk (Nat × Int) (fun k => k.1 ≤ x.1.length ∧ waitGo (x.1.drop k.1) k.2 = waitGo x.1 0) (fun st k => (st.keep 3 [7, 8]).sets [(9, si k.1), (3, si k.2)]) (fun k => x.1.length - k.1) (0, 0) (fun _ _ => none))
  | _ => none
def aS_Waiting (x : Rg) : Nat → Option Ann := fun
  | 5 => some (.mk (Nat × Int) (fun k => k.1 ≤ x.1.length ∧ waitGo (x.1.drop k.1) k.2 = waitGo x.1 0) (fun st k => (st.keep 3 []).sets [(4, si k.1), (3, si k.2)]) (fun k => x.1.length - k.1) (0, 0) (fun _ _ => none))
  | _ => none
end Go.SF
