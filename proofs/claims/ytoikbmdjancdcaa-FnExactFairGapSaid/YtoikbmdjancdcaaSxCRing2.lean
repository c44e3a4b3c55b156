/- Contracts: the gap of two flows. No condition. -/
import Derived.Test.YtoikbmdjancdcaaSxCRing
namespace Go.SF
open Go.SX Go
set_option linter.unusedVariables false
def fidxGo (t : Int) : List Fl → Nat → Int
  | [], _ => -1
  | f :: fs, k => if f.1 = t then (k : Int) else fidxGo t fs (k + 1)
def gapOf (x y : Int) : Int := w64 (w64 (w64 (2 * x) * y) + w64 (200000 * w64 (x + y)))
def gapF (r : Rg) (a b : Int) : Int :=
  if ringOkF r.1 r.2.1 r.2.2 = true ∧ 0 ≤ fidxGo a r.1 0 ∧ 0 ≤ fidxGo b r.1 0 then gapOf (r.1.getD (fidxGo a r.1 0).toNat (0, 0, 0, [])).2.1 (r.1.getD (fidxGo b r.1 0).toNat (0, 0, 0, [])).2.1 else -1
def fS_l14AtC : PC := { ts := [ringT, i64T], rs := [i64T], pre := fun _ => True, F := fun x => fidxGo x.2 x.1.1 0 }
def fI_flowOf1C : PC := { ts := [flT, .ptr i64T], rs := [.bool], pre := fun _ => True, F := fun x => decide (x.1.1 = x.2) }
def fG_IndexFuncFlC (g : Nat) : PC := { ts := [.sl flT, .clo g (.ptr i64T)], rs := [i64T], pre := fun _ => True, F := fun x => fidxGo x.2 x.1 0 }
def fI_flowOfC : PC := { ts := [ringT, i64T], rs := [i64T], pre := fun _ => True, F := fun x => fidxGo x.2 x.1.1 0 }
def fS_FairGapC : PC := { ts := [ringT, i64T, i64T], rs := [i64T], pre := fun _ => True, F := fun x => gapF x.1 x.2.1 x.2.2 }
def fI_FairGapC : PC := { ts := [ringT, i64T, i64T], rs := [i64T], pre := fun _ => True, F := fun x => gapF x.1 x.2.1 x.2.2 }
def aS_l14At (x : Rg × Int) : Nat → Option Ann := fun
  | 2 => some (.mk Nat (fun k => k ≤ x.1.1.length ∧ fidxGo x.2 (x.1.1.drop k) k = fidxGo x.2 x.1.1 0) (fun st k => (st.keep 4 []).sets [(5, si k)]) (fun k => x.1.1.length - k) 0 (fun _ _ => none))
  | _ => none
def aG_IndexFuncFl (x : List Fl × Int) : Nat → Option Ann := fun
  | 2 => some (.mk Nat (fun k => k ≤ x.1.length ∧ fidxGo x.2 (x.1.drop k) k = fidxGo x.2 x.1 0) (fun st k => (st.keep 6 [7]).sets [(8, si k)]) (fun k => x.1.length - k) 0 (fun _ _ => none))
  | _ => none
end Go.SF
