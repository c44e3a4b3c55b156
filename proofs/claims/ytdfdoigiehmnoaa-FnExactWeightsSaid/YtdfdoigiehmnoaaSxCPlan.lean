/- Contracts: plans and turners. No condition. -/
import Derived.Test.YtdfdoigiehmnoaaSxCField
import Derived.Test.YtdfdoigiehmnoaaSxCIntS
namespace Go.SF
open Go.SX Go
set_option linter.unusedVariables false
abbrev spT : Ty := .st (.pr (.int .i64) (.pr (.int .i64) (.int .i64)))
abbrev Sp := Int × Int × Int
abbrev planT : Ty := .st (.pr (.int .i64) (.pr (.int .i64) (.sl spT)))
abbrev Pl := Int × Int × List Sp
abbrev turnT : Ty := .st (.pr planT (.pr listT (.int .i64)))
abbrev Tn := Pl × List Int × Int
def halfF (k : Int) : Int := 2 ^ k.toNat / 2
def logOkF (f k : Int) : Bool := decide (0 < modF f) && (decide (0 ≤ k) && decide (k ≤ 9)) && decide (k ≤ twoF f)
def stepOkF (k : Int) (s : Sp) : Bool := decide (0 ≤ s.1) && decide (s.1 ≤ k - 1) && decide (0 ≤ s.2.1) && decide (s.2.1 < s.2.2) && decide (s.2.2 ≤ halfF k)
/-- How many of the steps do the butterfly 'b' of level 'l'. -/
def cnt (xs : List Sp) (l b : Nat) : Nat := xs.countP (fun s => decide (s.1 = (l : Int) ∧ s.2.1 ≤ (b : Int) ∧ (b : Int) < s.2.2))
/-- The first 'j' steps are well, in order. -/
def StepsP (k : Int) (xs : List Sp) (j : Nat) : Prop := ∀ i, i < j → stepOkF k (xs.getD i (0, 0, 0)) = true ∧ (0 < i → (xs.getD (i - 1) (0, 0, 0)).1 ≤ (xs.getD i (0, 0, 0)).1)
instance decStepsP (k : Int) (xs : List Sp) (j : Nat) : Decidable (StepsP k xs j) := by unfold StepsP; infer_instance
def OnceP (xs : List Sp) (h : Nat) (s : Nat) : Prop := ∀ l, l < s → ∀ b, b < h → cnt xs l b = 1
instance decOnceP (xs : List Sp) (h : Nat) (s : Nat) : Decidable (OnceP xs h s) := by unfold OnceP; infer_instance
def planOkF (p : Pl) : Bool := logOkF p.1 p.2.1 && decide (p.2.2.length ≤ 600) && decide (StepsP p.2.1 p.2.2 p.2.2.length) && decide (OnceP p.2.2 (halfF p.2.1).toNat p.2.1.toNat)
def turnOkF (t : Tn) : Bool := planOkF t.1 && vectorOkF t.1.1 t.2.1 && decide ((t.2.1.length : Int) = 2 ^ t.1.2.1.toNat) && (decide (0 ≤ t.2.2) && decide (t.2.2 ≤ (t.1.2.2.length : Int)))
def costF (s : Sp) : Int := if 0 ≤ s.2.1 ∧ s.2.1 < s.2.2 then w64 (s.2.2 - s.2.1) else 0
def leftGo : List Sp → Int → Int
  | [], n => n
  | s :: xs, n => leftGo xs (w64 (n + w64 (s.2.2 - s.2.1)))
def leftF (t : Tn) : Int := if turnOkF t = true then leftGo (t.1.2.2.drop t.2.2.toNat) 0 else -1
def finF (t : Tn) : List Int × Bool := if turnOkF t = true ∧ (t.1.2.2.length : Int) ≤ t.2.2 then (t.2.1, true) else ([], false)
def fS_l09LogC : PC := { ts := [i64T, i64T], rs := [.bool], pre := fun _ => True, F := fun x => logOkF x.1 x.2 }
def fS_l09RunC : PC := { ts := [i64T, spT], rs := [.bool], pre := fun x => 0 ≤ x.1 ∧ x.1 ≤ 9, F := fun x => stepOkF x.1 x.2 }
def fI_isStepC : PC := { ts := [spT, i64T], rs := [.bool], pre := fun x => 0 ≤ x.2 ∧ x.2 ≤ 9, F := fun x => stepOkF x.2 x.1 }
def fS_PlanOkC : PC := { ts := [planT], rs := [.bool], pre := fun _ => True, F := fun x => planOkF x }
def fI_isPlanC : PC := { ts := [planT], rs := [.bool], pre := fun _ => True, F := fun x => planOkF x }
def fS_TurnerOkC : PC := { ts := [turnT], rs := [.bool], pre := fun _ => True, F := fun x => turnOkF x }
def fI_isTurnerC : PC := { ts := [turnT], rs := [.bool], pre := fun _ => True, F := fun x => turnOkF x }
def fI_TurnerOkC : PC := { ts := [turnT], rs := [.bool], pre := fun _ => True, F := fun x => turnOkF x }
def fS_StepCostC : PC := { ts := [spT], rs := [i64T], pre := fun _ => True, F := fun x => costF x }
def fS_LeftUnitsC : PC := { ts := [turnT], rs := [i64T], pre := fun _ => True, F := fun x => leftF x }
def fI_LeftUnitsC : PC := { ts := [turnT], rs := [i64T], pre := fun _ => True, F := fun x => leftF x }
def fS_l01CopyC : PC := { ts := [listT], rs := [listT], pre := fun x => x.length ≤ 1048576, F := fun x => x }
def fS_FinishedC : PC := { ts := [turnT], rs := [listT, .bool], pre := fun x => x.2.1.length ≤ 1048576, F := fun x => finF x }
def fI_FinishedC : PC := { ts := [turnT], rs := [listT, .bool], pre := fun x => x.2.1.length ≤ 1048576, F := fun x => finF x }
def fL_szStepSC : PC := { ts := [.sl spT, i64T], rs := [i64T], pre := fun _ => True, F := fun x => szF x.1.length x.2 }
def fL_szIntSC : PC := { ts := [listT, i64T], rs := [i64T], pre := fun _ => True, F := fun x => szF x.1.length x.2 }
def fL_szPlanC : PC := { ts := [planT, i64T], rs := [i64T], pre := fun _ => True, F := fun x => szF x.1.2.2.length x.2 }
def szTnF (t : Tn) (n : Int) : Int := if szF t.1.2.2.length n < 0 then -1 else szF t.2.1.length (szF t.1.2.2.length n)
def fL_szTurnerC : PC := { ts := [turnT, i64T], rs := [i64T], pre := fun _ => True, F := fun x => szTnF x.1 x.2 }
def fL_toStepC : PC := { ts := [spT], rs := [spT], pre := fun _ => True, F := fun x => x }
def fL_toStepSC : PC := { ts := [.sl spT], rs := [.sl spT], pre := fun x => x.length ≤ 1048576, F := fun x => x }
def fL_toIntSC : PC := { ts := [listT], rs := [listT], pre := fun x => x.length ≤ 1048576, F := fun x => x }
def fL_toPlanC : PC := { ts := [planT], rs := [planT], pre := fun x => x.2.2.length ≤ 1048576, F := fun x => x }
def fL_toTurnerC : PC := { ts := [turnT], rs := [turnT], pre := fun x => x.1.2.2.length ≤ 1048576 ∧ x.2.1.length ≤ 1048576, F := fun x => x }
def fL_eqStepC : PC := { ts := [spT, spT], rs := [.bool], pre := fun _ => True, F := fun x => decide (x.1 = x.2) }
def fL_eqStepSC : PC := { ts := [.sl spT, .sl spT], rs := [.bool], pre := fun _ => True, F := fun x => decide (x.1 = x.2) }
def fL_eqPlanC : PC := { ts := [planT, planT], rs := [.bool], pre := fun _ => True, F := fun x => decide (x.1 = x.2) }
def fL_eqTurnerC : PC := { ts := [turnT, turnT], rs := [.bool], pre := fun _ => True, F := fun x => decide (x.1 = x.2) }
def aL_toStepS (x : List Sp) := copyA (e := spT) x 3 4 3 5
def aL_toIntS (x : List Int) := copyA (e := i64T) x 3 4 3 5
def aL_eqStepS (x : List Sp × List Sp) := eqA (e := spT) x 4 5 6
/-- What is met on level 'l', of the first 'i' steps. -/
def metL (h : Nat) (xs : List Sp) (l i : Nat) : List Int := (List.range h).map (fun b => ((cnt (xs.take i) l b : Nat) : Int))
/-- The same, and the butterflies 'lo' to 'c' - 1 of one step more. -/
def metM (h : Nat) (xs : List Sp) (l i : Nat) (lo : Int) (c : Nat) : List Int := (List.range h).map (fun b => ((cnt (xs.take i) l b : Nat) : Int) + if lo ≤ (b : Int) ∧ b < c then 1 else 0)
def aS_PlanOk5 (x : Pl) (s i : Nat) : Nat → Option Ann := fun
  | 21 => some (.mk Nat (fun c => (x.2.2.getD i (0, 0, 0)).2.1 ≤ (c : Int) ∧ (c : Int) ≤ (x.2.2.getD i (0, 0, 0)).2.2) (fun st c => ((st.keep 8 []).sets [(8, si c)]).setEs [(1, .row true i64T (metM (halfF x.2.1).toNat x.2.2 s i (x.2.2.getD i (0, 0, 0)).2.1 c))]) (fun c => (x.2.2.getD i (0, 0, 0)).2.2.toNat - c) (x.2.2.getD i (0, 0, 0)).2.1.toNat (fun _ _ => none))
  | 25 => some (.mk Nat (fun b => b ≤ (halfF x.2.1).toNat ∧ ∀ a, a < b → cnt x.2.2 s a = 1) (fun st b => (st.keep 6 []).sets [(9, si b)]) (fun b => (halfF x.2.1).toNat - b) 0 (fun _ _ => none))
  | _ => none
def aS_PlanOk4 (x : Pl) (s : Nat) : Nat → Option Ann := fun
  | 17 => some (.mk Nat (fun i => i ≤ x.2.2.length) (fun st i => ((st.keep 6 []).sets [(7, si i)]).setEs [(1, .row true i64T (metL (halfF x.2.1).toNat x.2.2 s i))]) (fun i => x.2.2.length - i) 0 (fun i => aS_PlanOk5 x s i))
  | _ => none
def aS_PlanOk3 (x : Pl) (s : Nat) : Nat → Option Ann := fun
  | 13 => some (.mk Nat (fun k => (k : Int) ≤ halfF x.2.1) (fun st k => ((st.keep 5 []).sets [(6, si k), (5, .c (.own 1))]).setEs [(1, .row true i64T (List.replicate k 0))]) (fun k => (halfF x.2.1).toNat - k) 0 (fun _ => aS_PlanOk4 x s))
  | _ => none
def aS_PlanOk2 (x : Pl) : Nat → Option Ann := fun
  | 9 => some (.mk Nat (fun s => (s : Int) ≤ x.2.1 ∧ OnceP x.2.2 (halfF x.2.1).toNat s) (fun st s => (st.keep 3 []).sets [(4, si s)]) (fun s => x.2.1.toNat - s) 0 (fun s => aS_PlanOk3 x s))
  | _ => none
def aS_PlanOk (x : Pl) : Nat → Option Ann := fun
  | 4 => some (.mk Nat (fun k => k ≤ x.2.2.length ∧ StepsP x.2.1 x.2.2 k) (fun st k => (st.keep 3 []).sets [(3, si k)]) (fun k => x.2.2.length - k) 0 (fun _ => aS_PlanOk2 x))
  | _ => none
def manyF (xs : List Sp) : Int := (xs.map (fun s => s.2.2 - s.2.1)).sum
def doneL (xs : List Sp) (i : Nat) : List Bool := (List.range 4608).map (fun q => decide (1 ≤ cnt (xs.take i) (q / 512) (q % 512)))
def doneM (xs : List Sp) (i c : Nat) : List Bool := (List.range 4608).map (fun q => decide (1 ≤ cnt (xs.take i) (q / 512) (q % 512)) || decide ((xs.getD i (0, 0, 0)).1 = ((q / 512 : Nat) : Int) ∧ (xs.getD i (0, 0, 0)).2.1 ≤ ((q % 512 : Nat) : Int) ∧ q % 512 < c))
def MostP (xs : List Sp) (i : Nat) : Prop := ∀ l b, cnt (xs.take i) l b ≤ 1
def FreeP (xs : List Sp) (i c : Nat) : Prop := ∀ b : Nat, (xs.getD i (0, 0, 0)).2.1 ≤ (b : Int) → b < c → cnt (xs.take i) (xs.getD i (0, 0, 0)).1.toNat b = 0
def aI_isPlan2 (x : Pl) (i : Nat) : Nat → Option Ann := fun
  | 12 => some (.mk Nat (fun c => (x.2.2.getD i (0, 0, 0)).2.1 ≤ (c : Int) ∧ (c : Int) ≤ (x.2.2.getD i (0, 0, 0)).2.2 ∧ FreeP x.2.2 i c) (fun st c => ((st.keep 9 [39, 40, 41]).sets [(9, si c), (6, si (manyF (x.2.2.take i) + ((c : Int) - (x.2.2.getD i (0, 0, 0)).2.1)))]).setEs [(2, .row true .bool (doneM x.2.2 i c))]) (fun c => (x.2.2.getD i (0, 0, 0)).2.2.toNat - c) (x.2.2.getD i (0, 0, 0)).2.1.toNat (fun _ _ => none))
  | _ => none
def aI_isPlan (x : Pl) : Nat → Option Ann := fun
  | 7 => some (.mk Nat (fun i => i ≤ x.2.2.length ∧ StepsP x.2.1 x.2.2 i ∧ MostP x.2.2 i) (fun st i => ((st.keep 6 [39, 40]).sets [(6, si (manyF (x.2.2.take i))), (41, si i)]).setEs [(2, .row true .bool (doneL x.2.2 i))]) (fun i => x.2.2.length - i) 0 (fun i => aI_isPlan2 x i))
  | _ => none
def aS_LeftUnits (x : Tn) : Nat → Option Ann := fun
  | 5 => some (.mk (Nat × Int) (fun k => x.2.2 ≤ (k.1 : Int) ∧ k.1 ≤ x.1.2.2.length ∧ leftGo (x.1.2.2.drop k.1) k.2 = leftGo (x.1.2.2.drop x.2.2.toNat) 0) (fun st k => (st.keep 3 []).sets [(4, si k.1), (3, si k.2)]) (fun k => x.1.2.2.length - k.1) (x.2.2.toNat, 0) (fun _ _ => none))
  | _ => none
def aI_LeftUnits (x : Tn) : Nat → Option Ann := fun
  | 5 => some (.mk (Nat × Int) (fun k => k.1 ≤ (x.1.2.2.drop x.2.2.toNat).length ∧ leftGo ((x.1.2.2.drop x.2.2.toNat).drop k.1) k.2 = leftGo (x.1.2.2.drop x.2.2.toNat) 0) (fun st k => (st.keep 3 [14, 15]).sets [(16, si k.1), (3, si k.2)]) (fun k => (x.1.2.2.drop x.2.2.toNat).length - k.1) (0, 0) (fun _ _ => none))
  | _ => none
def aS_l01Copy (x : List Int) : Nat → Option Ann := fun
  | 3 => some (.mk Nat (fun k => k ≤ x.length) (fun st k => ((st.keep 3 []).sets [(4, si k), (3, .c (.own 0))]).setEs [(0, .row true i64T (x.take k))]) (fun k => x.length - k) 0 (fun _ _ => none))
  | _ => none
end Go.SF
