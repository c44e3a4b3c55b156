/- Contracts: lines of tickets. No condition. -/
import Derived.Test.YtdfdoigiehmnoaaSxCBase
namespace Go.SF
open Go.SX Go
set_option linter.unusedVariables false
abbrev tkT : Ty := .st (.pr (.int .i64) (.int .i64))
abbrev Tk := Int × Int
abbrev lineT : Ty := .st (.sl tkT)
def isTicketF (t : Tk) : Bool := decide (1 ≤ t.1) && decide (t.1 ≤ 1000000000) && decide (1 ≤ t.2) && decide (t.2 ≤ 200000)
/-- The first 'k' tickets: each is one, the numbers rise. -/
def LineP (xs : List Tk) (k : Nat) : Prop := ∀ j, j < k → isTicketF (xs.getD j (0, 0)) = true ∧ (0 < j → (xs.getD (j - 1) (0, 0)).1 < (xs.getD j (0, 0)).1)
instance (xs : List Tk) (k : Nat) : Decidable (LineP xs k) := by unfold LineP; infer_instance
def lineOkF (xs : List Tk) : Bool := decide (xs.length ≤ 40) && decide (LineP xs xs.length)
def costGo : List Tk → Int → Int
  | [], s => s
  | x :: xs, s => costGo xs (w64 (s + x.2))
def lineCostF (xs : List Tk) : Int := if lineOkF xs then costGo xs 0 else -1
def fL_szTicketSC : PC := { ts := [.sl tkT, i64T], rs := [i64T], pre := fun _ => True, F := fun x => szF x.1.length x.2 }
def fL_szLineC : PC := { ts := [lineT, i64T], rs := [i64T], pre := fun _ => True, F := fun x => szF x.1.length x.2 }
def fL_toTicketC : PC := { ts := [tkT], rs := [tkT], pre := fun _ => True, F := fun x => x }
def fL_toTicketSC : PC := { ts := [.sl tkT], rs := [.sl tkT], pre := fun x => x.length ≤ 1048576, F := fun x => x }
def fL_toLineC : PC := { ts := [lineT], rs := [lineT], pre := fun x => x.length ≤ 1048576, F := fun x => x }
def fL_eqTicketC : PC := { ts := [tkT, tkT], rs := [.bool], pre := fun _ => True, F := fun x => decide (x.1 = x.2) }
def fL_eqTicketSC : PC := { ts := [.sl tkT, .sl tkT], rs := [.bool], pre := fun _ => True, F := fun x => decide (x.1 = x.2) }
def fL_eqLineC : PC := { ts := [lineT, lineT], rs := [.bool], pre := fun _ => True, F := fun x => decide (x.1 = x.2) }
def aL_toTicketS (x : List Tk) := copyA (e := tkT) x 3 4 3 5
def aL_eqTicketS (x : List Tk × List Tk) := eqA (e := tkT) x 4 5 6
def fS_l13TicketC : PC := { ts := [tkT], rs := [.bool], pre := fun _ => True, F := fun x => isTicketF x }
def fI_isTicketC : PC := { ts := [tkT], rs := [.bool], pre := fun _ => True, F := fun x => isTicketF x }
def fS_LineOkC : PC := { ts := [lineT], rs := [.bool], pre := fun _ => True, F := fun x => lineOkF x }
def fI_isLineC : PC := { ts := [lineT], rs := [.bool], pre := fun _ => True, F := fun x => lineOkF x }
def fI_costOfC : PC := { ts := [.sl tkT], rs := [i64T], pre := fun _ => True, F := fun x => costGo x 0 }
def fS_LineCostC : PC := { ts := [lineT], rs := [i64T], pre := fun _ => True, F := fun x => lineCostF x }
def fI_LineCostC : PC := { ts := [lineT], rs := [i64T], pre := fun _ => True, F := fun x => lineCostF x }
def aS_LineOk (x : List Tk) : Nat → Option Ann := fun
  | 4 => some (.mk Nat (fun k => k ≤ x.length ∧ LineP x k) (fun st k => (st.keep 3 []).sets [(3, si k)]) (fun k => x.length - k) 0 (fun _ _ => none))
  | _ => none
def aI_isLine (x : List Tk) : Nat → Option Ann := fun
  | 2 => some (.mk Nat (fun k => k ≤ x.length ∧ LineP x k) (fun st k => (st.keep 3 [6, 7]).sets [(8, si k)]) (fun k => x.length - k) 0 (fun _ _ => none))
  | _ => none
def aI_costOf (x : List Tk) : Nat → Option Ann := fun
  | 3 => some (.mk (Nat × Int) (fun k => k.1 ≤ x.length ∧ costGo (x.drop k.1) k.2 = costGo x 0) (fun st k => (st.keep 3 [6, 7]).sets [(8, si k.1), (3, si k.2)]) (fun k => x.length - k.1) (0, 0) (fun _ _ => none))
  | _ => none
def aS_LineCost (x : List Tk) : Nat → Option Ann := fun
  | 5 => some (.mk (Nat × Int) (fun k => k.1 ≤ x.length ∧ costGo (x.drop k.1) k.2 = costGo x 0) (fun st k => (st.keep 3 []).sets [(4, si k.1), (3, si k.2)]) (fun k => x.length - k.1) (0, 0) (fun _ _ => none))
  | _ => none
def idxGo (id : Int) : List Tk → Nat → Int
  | [], _ => -1
  | x :: xs, k => if x.1 = id then (k : Int) else idxGo id xs (k + 1)
def placeF (xs : List Tk) (id : Int) : Int := if lineOkF xs then idxGo id xs 0 else -1
def fI_placeOf1C : PC := { ts := [tkT, .ptr i64T], rs := [.bool], pre := fun _ => True, F := fun x => decide (x.1.1 = x.2) }
def fG_IndexFuncTkC (g : Nat) : PC := { ts := [.sl tkT, .clo g (.ptr i64T)], rs := [i64T], pre := fun _ => True, F := fun x => idxGo x.2 x.1 0 }
def fI_placeOfC : PC := { ts := [lineT, i64T], rs := [i64T], pre := fun _ => True, F := fun x => idxGo x.2 x.1 0 }
def fS_PlaceOfC : PC := { ts := [lineT, i64T], rs := [i64T], pre := fun _ => True, F := fun x => placeF x.1 x.2 }
def fI_PlaceOfC : PC := { ts := [lineT, i64T], rs := [i64T], pre := fun _ => True, F := fun x => placeF x.1 x.2 }
def aG_IndexFuncTk (x : List Tk × Int) : Nat → Option Ann := fun
  | 2 => some (.mk Nat (fun k => k ≤ x.1.length ∧ idxGo x.2 (x.1.drop k) k = idxGo x.2 x.1 0) (fun st k => (st.keep 6 [7]).sets [(8, si k)]) (fun k => x.1.length - k) 0 (fun _ _ => none))
  | _ => none
def aS_PlaceOf (x : List Tk × Int) : Nat → Option Ann := fun
  | 4 => some (.mk Nat (fun k => k ≤ x.1.length ∧ idxGo x.2 (x.1.drop k) k = idxGo x.2 x.1 0) (fun st k => (st.keep 6 []).sets [(5, si k)]) (fun k => x.1.length - k) 0 (fun _ _ => none))
  | _ => none
def aheadF (xs : List Tk) (id : Int) : Int := if lineOkF xs = true ∧ 0 ≤ idxGo id xs 0 then costGo (xs.take (idxGo id xs 0).toNat) 0 else -1
def fS_AheadC : PC := { ts := [lineT, i64T], rs := [i64T], pre := fun _ => True, F := fun x => aheadF x.1 x.2 }
def fI_AheadC : PC := { ts := [lineT, i64T], rs := [i64T], pre := fun _ => True, F := fun x => aheadF x.1 x.2 }
end Go.SF
