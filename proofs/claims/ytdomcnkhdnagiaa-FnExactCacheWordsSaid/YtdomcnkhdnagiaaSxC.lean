/- A verified symbolic executor and its contracts (part SxC). No condition. -/
import Derived.Test.YtdomcnkhdnagiaaSxG
import Derived.IntWalk
/- Contracts: what all share. No condition. -/
namespace Go.SF
open Go.SX Go
set_option linter.unusedVariables false
def gOf : List (Nat × PC) → FuncId → Option PC
  | [], _ => none
  | (k, c) :: r, f => if f = k then some c else gOf r f
def rOf : List (Nat × Rule) → FuncId → Option Rule
  | [], _ => none
  | (k, c) :: r, f => if f = k then some c else rOf r f
def R0 : FuncId → Option Rule := fun _ => none
def noA {X : Type} : X → Nat → Option Ann := fun _ _ => none
def si (n : Int) : S := .c (.val (.int .i64 n))
abbrev i64T : Ty := .int .i64
def w64 (n : Int) : Int := IntKind.i64.wrap n
def szF (n : Nat) (left : Int) : Int := if w64 (left - n) < 0 then -1 else w64 (left - n)
/-- A copy, element by element. -/
def copyA {e : Ty} (x : List e.den) (key i out m : Nat) : Nat → Option Ann := fun k =>
  if k = key then some (.mk Nat (fun k => k ≤ x.length) (fun st k => ((st.keep m []).sets [(i, si k), (out, .c (.own 0))]).setEs [(0, .row true e (x.take k ++ List.replicate (x.length - k) e.dflt))]) (fun k => x.length - k) 0 (fun _ _ => none))
  else none
/-- Two lists, element by element. -/
def eqA {e : Ty} (x : List e.den × List e.den) (key i m : Nat) : Nat → Option Ann := fun k =>
  if k = key then some (.mk Nat (fun k => k ≤ x.1.length ∧ x.1.length = x.2.length ∧ x.1.take k = x.2.take k) (fun st k => (st.keep m []).sets [(i, si k)]) (fun k => x.1.length - k) 0 (fun _ _ => none))
  else none
def fS_l01InC : PC := { ts := [i64T, i64T, i64T], rs := [.bool], pre := fun _ => True, F := fun x => decide (x.2.1 ≤ x.1) && decide (x.1 ≤ x.2.2) }
theorem getD_drop_cons {α : Type} {l : List α} {i : Nat} {x : α} (h : i < l.length) : l.drop i = l.getD i x :: l.drop (i + 1) := by
  rw [List.drop_eq_getElem_cons h]; simp [h]
theorem wrap_small {n : Int} (h : -9223372036854775808 ≤ n ∧ n ≤ 9223372036854775807) : IntKind.i64.wrap n = n := by
  rw [IntKind.wrap_i64]; omega
theorem wrap_succ {n : Nat} (h : n < 9223372036854775807) : IntKind.i64.wrap ((n : Int) + 1) = ((n + 1 : Nat) : Int) := by
  rw [wrap_small (by omega)]; rfl
theorem copy_step {α : Type} (l : List α) (z : α) {i : Nat} (h : i < l.length) : (l.take i ++ List.replicate (l.length - i) z).set i (l.getD i z) = l.take (i + 1) ++ List.replicate (l.length - (i + 1)) z := by
  apply List.ext_getElem?
  intro j
  simp only [List.getElem?_set, List.getElem?_append, List.getElem?_take, List.getElem?_replicate, List.length_take, List.length_append, List.length_replicate, List.getD_eq_getElem?_getD]
  grind
theorem take_ext {α : Type} {a b : List α} {z : α} {i : Nat} (hl : a.length = b.length) (hi : i < a.length) (h : a.take i = b.take i) : (a.take (i + 1) = b.take (i + 1) ↔ a.getD i z = b.getD i z) ∧ (a = b → a.getD i z = b.getD i z) := by
  refine ⟨?_, fun e => by rw [e]⟩
  rw [List.take_add_one, List.take_add_one, h, List.append_cancel_left_eq]
  rw [List.getElem?_eq_getElem hi, List.getElem?_eq_getElem (show i < b.length by omega)]
  simp [hi, show i < b.length by omega]
end Go.SF


/- Contracts: lines of tickets. No condition. -/
namespace Go.SF
open Go.SX Go
set_option linter.unusedVariables false
abbrev tkT : Ty := .st (.pr (.int .i64) (.int .i64))
abbrev Tk := Int × Int
abbrev lineT : Ty := .st (.sl tkT)
def isTicketF (t : Tk) : Bool := decide (1 ≤ t.1) && decide (t.1 ≤ 1000000000) && decide (1 ≤ t.2) && decide (t.2 ≤ 200000)
/-- The first 'k' tickets: each is one, the numbers rise. -/
def LineP (xs : List Tk) (k : Nat) : Prop := ∀ j, j < k → isTicketF (xs.getD j (0, 0)) = true ∧ (0 < j → (xs.getD (j - 1) (0, 0)).1 < (xs.getD j (0, 0)).1)
instance (xs : List Tk) (k : Nat) : Decidable (LineP xs k) := by unfold LineP; infer_instance
def lineOkF (xs : List Tk) : Bool := decide (xs.length ≤ 40) && decide (LineP xs xs.length)
def costGo : List Tk → Int → Int
  | [], s => s
  | x :: xs, s => costGo xs (w64 (s + x.2))
def lineCostF (xs : List Tk) : Int := if lineOkF xs then costGo xs 0 else -1
def fL_szTicketSC : PC := { ts := [.sl tkT, i64T], rs := [i64T], pre := fun _ => True, F := fun x => szF x.1.length x.2 }
def fL_szLineC : PC := { ts := [lineT, i64T], rs := [i64T], pre := fun _ => True, F := fun x => szF x.1.length x.2 }
def fL_toTicketC : PC := { ts := [tkT], rs := [tkT], pre := fun _ => True, F := fun x => x }
def fL_toTicketSC : PC := { ts := [.sl tkT], rs := [.sl tkT], pre := fun x => x.length ≤ 1048576, F := fun x => x }
def fL_toLineC : PC := { ts := [lineT], rs := [lineT], pre := fun x => x.length ≤ 1048576, F := fun x => x }
def fL_eqTicketC : PC := { ts := [tkT, tkT], rs := [.bool], pre := fun _ => True, F := fun x => decide (x.1 = x.2) }
def fL_eqTicketSC : PC := { ts := [.sl tkT, .sl tkT], rs := [.bool], pre := fun _ => True, F := fun x => decide (x.1 = x.2) }
def fL_eqLineC : PC := { ts := [lineT, lineT], rs := [.bool], pre := fun _ => True, F := fun x => decide (x.1 = x.2) }
def aL_toTicketS (x : List Tk) := copyA (e := tkT) x 3 4 3 5
def aL_eqTicketS (x : List Tk × List Tk) := eqA (e := tkT) x 4 5 6
def fS_l13TicketC : PC := { ts := [tkT], rs := [.bool], pre := fun _ => True, F := fun x => isTicketF x }
def fI_isTicketC : PC := { ts := [tkT], rs := [.bool], pre := fun _ => True, F := fun x => isTicketF x }
def fS_LineOkC : PC := { ts := [lineT], rs := [.bool], pre := fun _ => True, F := fun x => lineOkF x }
def fI_isLineC : PC := { ts := [lineT], rs := [.bool], pre := fun _ => True, F := fun x => lineOkF x }
def fI_costOfC : PC := { ts := [.sl tkT], rs := [i64T], pre := fun _ => True, F := fun x => costGo x 0 }
def fS_LineCostC : PC := { ts := [lineT], rs := [i64T], pre := fun _ => True, F := fun x => lineCostF x }
def fI_LineCostC : PC := { ts := [lineT], rs := [i64T], pre := fun _ => True, F := fun x => lineCostF x }
def aS_LineOk (x : List Tk) : Nat → Option Ann := fun
  | 4 => some (.mk Nat (fun k => k ≤ x.length ∧ LineP x k) (fun st k => (st.keep 3 []).sets [(3, si k)]) (fun k => x.length - k) 0 (fun _ _ => none))
  | _ => none
def aI_isLine (x : List Tk) : Nat → Option Ann := fun
  | 2 => some (.mk Nat (fun k => k ≤ x.length ∧ LineP x k) (fun st k => (st.keep 3 [6, 7]).sets [(8, si k)]) (fun k => x.length - k) 0 (fun _ _ => none))
  | _ => none
def aI_costOf (x : List Tk) : Nat → Option Ann := fun
  | 3 => some (.mk (Nat × Int) (fun k => k.1 ≤ x.length ∧ costGo (x.drop k.1) k.2 = costGo x 0) (fun st k => (st.keep 3 [6, 7]).sets [(8, si k.1), (3, si k.2)]) (fun k => x.length - k.1) (0, 0) (fun _ _ => none))
  | _ => none
def aS_LineCost (x : List Tk) : Nat → Option Ann := fun
  | 5 => some (.mk (Nat × Int) (fun k => k.1 ≤ x.length ∧ costGo (x.drop k.1) k.2 = costGo x 0) (fun st k => (st.keep 3 []).sets [(4, si k.1), (3, si k.2)]) (fun k => x.length - k.1) (0, 0) (fun _ _ => none))
  | _ => none
def idxGo (id : Int) : List Tk → Nat → Int
  | [], _ => -1
  | x :: xs, k => if x.1 = id then (k : Int) else idxGo id xs (k + 1)
def placeF (xs : List Tk) (id : Int) : Int := if lineOkF xs then idxGo id xs 0 else -1
def fI_placeOf1C : PC := { ts := [tkT, .ptr i64T], rs := [.bool], pre := fun _ => True, F := fun x => decide (x.1.1 = x.2) }
def fG_IndexFuncTkC (g : Nat) : PC := { ts := [.sl tkT, .clo g (.ptr i64T)], rs := [i64T], pre := fun _ => True, F := fun x => idxGo x.2 x.1 0 }
def fI_placeOfC : PC := { ts := [lineT, i64T], rs := [i64T], pre := fun _ => True, F := fun x => idxGo x.2 x.1 0 }
def fS_PlaceOfC : PC := { ts := [lineT, i64T], rs := [i64T], pre := fun _ => True, F := fun x => placeF x.1 x.2 }
def fI_PlaceOfC : PC := { ts := [lineT, i64T], rs := [i64T], pre := fun _ => True, F := fun x => placeF x.1 x.2 }
def aG_IndexFuncTk (x : List Tk × Int) : Nat → Option Ann := fun
  | 2 => some (.mk Nat (fun k => k ≤ x.1.length ∧ idxGo x.2 (x.1.drop k) k = idxGo x.2 x.1 0) (fun st k => (st.keep 6 [7]).sets [(8, si k)]) (fun k => x.1.length - k) 0 (fun _ _ => none))
  | _ => none
def aS_PlaceOf (x : List Tk × Int) : Nat → Option Ann := fun
  | 4 => some (.mk Nat (fun k => k ≤ x.1.length ∧ idxGo x.2 (x.1.drop k) k = idxGo x.2 x.1 0) (fun st k => (st.keep 6 []).sets [(5, si k)]) (fun k => x.1.length - k) 0 (fun _ _ => none))
  | _ => none
def aheadF (xs : List Tk) (id : Int) : Int := if lineOkF xs = true ∧ 0 ≤ idxGo id xs 0 then costGo (xs.take (idxGo id xs 0).toNat) 0 else -1
def fS_AheadC : PC := { ts := [lineT, i64T], rs := [i64T], pre := fun _ => True, F := fun x => aheadF x.1 x.2 }
def fI_AheadC : PC := { ts := [lineT, i64T], rs := [i64T], pre := fun _ => True, F := fun x => aheadF x.1 x.2 }
end Go.SF


/- Contracts: ServedCost. No condition. -/
namespace Go.SF
open Go.SX Go
set_option linter.unusedVariables false
abbrev svT : Ty := .st (.pr (.int .i64) (.pr (.int .i64) (.int .i64)))
abbrev Sv := Int × Int × Int
def servedGo (t : Int) : List Sv → Int → Int
  | [], s => s
  | x :: xs, s => if 1 ≤ x.2.2 ∧ x.2.2 ≤ 200000 then servedGo t xs (if x.1 = t then w64 (s + x.2.2) else s) else -1
def servedF (xs : List Sv) (t : Int) : Int := if 4096 < xs.length then -1 else servedGo t xs 0
def fL_toServedC : PC := { ts := [svT], rs := [svT], pre := fun _ => True, F := fun x => x }
def fL_eqServedC : PC := { ts := [svT, svT], rs := [.bool], pre := fun _ => True, F := fun x => decide (x.1 = x.2) }
def fL_szServedSC : PC := { ts := [.sl svT, i64T], rs := [i64T], pre := fun _ => True, F := fun x => szF x.1.length x.2 }
def fL_toServedSC : PC := { ts := [.sl svT], rs := [.sl svT], pre := fun x => x.length ≤ 1048576, F := fun x => x }
def fL_eqServedSC : PC := { ts := [.sl svT, .sl svT], rs := [.bool], pre := fun _ => True, F := fun x => decide (x.1 = x.2) }
def fS_ServedCostC : PC := { ts := [.sl svT, i64T], rs := [i64T], pre := fun _ => True, F := fun x => servedF x.1 x.2 }
def fI_ServedCostC : PC := { ts := [.sl svT, i64T], rs := [i64T], pre := fun _ => True, F := fun x => servedF x.1 x.2 }
def aS_ServedCost (x : List Sv × Int) : Nat → Option Ann := fun
  | 5 => some (.mk (Nat × Int) (fun k => k.1 ≤ x.1.length ∧ servedGo x.2 (x.1.drop k.1) k.2 = servedGo x.2 x.1 0) (fun st k => (st.keep 7 []).sets [(6, si k.1), (5, si k.2)]) (fun k => x.1.length - k.1) (0, 0) (fun _ _ => none))
  | _ => none
def aI_ServedCost (x : List Sv × Int) : Nat → Option Ann := fun
  | 5 => some (.mk (Nat × Int) (fun k => k.1 ≤ x.1.length ∧ servedGo x.2 (x.1.drop k.1) k.2 = servedGo x.2 x.1 0) (fun st k => (st.keep 8 [11, 12]).sets [(13, si k.1), (5, si k.2)]) (fun k => x.1.length - k.1) (0, 0) (fun _ _ => none))
  | _ => none
def aL_toServedS (x : List Sv) := copyA (e := svT) x 3 4 3 5
def aL_eqServedS (x : List Sv × List Sv) := eqA (e := svT) x 4 5 6
end Go.SF


/- Contracts: lists of numbers. No condition. -/
namespace Go.SF
open Go.SX Go
set_option linter.unusedVariables false
def fL_eqIntSC : PC := { ts := [.sl i64T, .sl i64T], rs := [.bool], pre := fun _ => True, F := fun x => decide (x.1 = x.2) }
def aL_eqIntS (x : List Int × List Int) := eqA (e := i64T) x 4 5 6
end Go.SF


/- Contracts: fields, and lists of their elements. No condition. -/
namespace Go.SF
open Go.SX Go
set_option linter.unusedVariables false
abbrev fldT : Ty := .st (.pr (.int .i64) (.pr (.int .i64) (.int .i64)))
abbrev listT : Ty := .sl (.int .i64)
abbrev Fd := Int × Int × Int
def fieldTab : List Fd := [(17, 3, 4), (97, 5, 5), (193, 5, 6), (257, 3, 8), (7681, 17, 9), (12289, 11, 12), (998244353, 3, 23), (469762049, 3, 26), (1004535809, 3, 21)]
def fieldF (f : Int) : Fd × Bool := if 0 ≤ f ∧ f < 9 then (fieldTab.getD f.toNat (0, 0, 0), true) else ((0, 0, 0), false)
def modF (f : Int) : Int := (fieldF f).1.1
def twoF (f : Int) : Int := if (fieldF f).2 = true then (fieldF f).1.2.2 else -1
def logGo (n : Int) : Nat → Int
  | 0 => -1
  | k + 1 => if n = 2 ^ (9 - k) then ((9 - k : Nat) : Int) else logGo n k
/-- The logarithm of a number up to 512. -/
def logF (n : Int) : Int := logGo n 10
def elemsF (p : Int) (xs : List Int) : Bool := decide (∀ x ∈ xs, 0 ≤ x ∧ x ≤ p - 1)
def specElemsF (f : Int) (xs : List Int) : Bool := decide (modF f ≠ 0) && elemsF (modF f) xs
def vectorOkF (f : Int) (xs : List Int) : Bool := decide (0 ≤ logF xs.length) && decide (logF xs.length ≤ twoF f) && specElemsF f xs
def vecF (f : Int) (xs : List Int) : Fd × Bool := if vectorOkF f xs = true then ((fieldF f).1, true) else ((0, 0, 0), false)
def fI_fieldOfC : PC := { ts := [i64T], rs := [fldT, .bool], pre := fun _ => True, F := fun x => fieldF x }
def fS_ModulusC : PC := { ts := [i64T], rs := [i64T], pre := fun _ => True, F := fun x => modF x }
def fS_TwoPowerC : PC := { ts := [i64T], rs := [i64T], pre := fun _ => True, F := fun x => twoF x }
def fS_LogOfC : PC := { ts := [i64T], rs := [i64T], pre := fun _ => True, F := fun x => logF x }
def fI_logOfC : PC := { ts := [i64T], rs := [i64T], pre := fun _ => True, F := fun x => logF x }
def fS_l03ElementsC : PC := { ts := [i64T, listT], rs := [.bool], pre := fun _ => True, F := fun x => specElemsF x.1 x.2 }
def fI_areElementsC : PC := { ts := [fldT, listT], rs := [.bool], pre := fun _ => True, F := fun x => elemsF x.1.1 x.2 }
def fS_VectorOkC : PC := { ts := [i64T, listT], rs := [.bool], pre := fun _ => True, F := fun x => vectorOkF x.1 x.2 }
def fI_vectorFieldC : PC := { ts := [i64T, .sl listT], rs := [fldT, .bool], pre := fun x => x.2.length = 1, F := fun x => vecF x.1 (x.2.getD 0 []) }
def aS_TwoPower (x : Int) : Nat → Option Ann := fun
  | 6 => some (.mk Nat (fun t => (t : Int) ≤ twoF x) (fun st t => (st.keep 4 []).sets [(4, si t), (5, si ((modF x - 1) / 2 ^ t))]) (fun t => (twoF x).toNat - t) 0 (fun _ _ => none))
  | _ => none
def LogP (n : Int) (k : Nat) : Prop := k ≤ 10 ∧ ∀ j, j < k → n ≠ 2 ^ j
def aS_LogOf (x : Int) : Nat → Option Ann := fun
  | 2 => some (.mk Nat (fun k => LogP x k) (fun st k => (st.keep 3 []).sets [(3, si k)]) (fun k => 10 - k) 0 (fun _ _ => none))
  | _ => none
def aI_logOf (x : Int) : Nat → Option Ann := fun
  | 2 => some (.mk Nat (fun k => LogP x k) (fun st k => (st.keep 3 []).sets [(4, si k)]) (fun k => 10 - k) 0 (fun _ _ => none))
  | _ => none
def ElP (p : Int) (xs : List Int) (k : Nat) : Prop := k ≤ xs.length ∧ elemsF p (xs.take k) = true
def aS_l03Elements (x : Int × List Int) : Nat → Option Ann := fun
  | 5 => some (.mk Nat (fun k => ElP (modF x.1) x.2 k) (fun st k => (st.keep 6 []).sets [(6, si k)]) (fun k => x.2.length - k) 0 (fun _ _ => none))
  | _ => none
def aI_areElements (x : Fd × List Int) : Nat → Option Ann := fun
  | 2 => some (.mk Nat (fun k => ElP x.1.1 x.2 k) (fun st k => (st.keep 5 [7, 8]).sets [(9, si k)]) (fun k => x.2.length - k) 0 (fun _ _ => none))
  | _ => none
def aI_vectorField (x : Int × List (List Int)) : Nat → Option Ann := fun
  | 5 => some (.mk Nat (fun k => k ≤ 1 ∧ (k = 1 → vectorOkF x.1 (x.2.getD 0 []) = true)) (fun st k => (st.keep 8 [19, 20]).sets [(21, si k)]) (fun k => 1 - k) 0 (fun _ _ => none))
  | _ => none
end Go.SF


/- Contracts: plans and turners. No condition. -/
namespace Go.SF
open Go.SX Go
set_option linter.unusedVariables false
abbrev spT : Ty := .st (.pr (.int .i64) (.pr (.int .i64) (.int .i64)))
abbrev Sp := Int × Int × Int
abbrev planT : Ty := .st (.pr (.int .i64) (.pr (.int .i64) (.sl spT)))
abbrev Pl := Int × Int × List Sp
abbrev turnT : Ty := .st (.pr planT (.pr listT (.int .i64)))
abbrev Tn := Pl × List Int × Int
def halfF (k : Int) : Int := 2 ^ k.toNat / 2
def logOkF (f k : Int) : Bool := decide (0 < modF f) && (decide (0 ≤ k) && decide (k ≤ 9)) && decide (k ≤ twoF f)
def stepOkF (k : Int) (s : Sp) : Bool := decide (0 ≤ s.1) && decide (s.1 ≤ k - 1) && decide (0 ≤ s.2.1) && decide (s.2.1 < s.2.2) && decide (s.2.2 ≤ halfF k)
/-- How many of the steps do the butterfly 'b' of level 'l'. -/
def cnt (xs : List Sp) (l b : Nat) : Nat := xs.countP (fun s => decide (s.1 = (l : Int) ∧ s.2.1 ≤ (b : Int) ∧ (b : Int) < s.2.2))
/-- The first 'j' steps are well, in order. -/
def StepsP (k : Int) (xs : List Sp) (j : Nat) : Prop := ∀ i, i < j → stepOkF k (xs.getD i (0, 0, 0)) = true ∧ (0 < i → (xs.getD (i - 1) (0, 0, 0)).1 ≤ (xs.getD i (0, 0, 0)).1)
instance decStepsP (k : Int) (xs : List Sp) (j : Nat) : Decidable (StepsP k xs j) := by unfold StepsP; infer_instance
def OnceP (xs : List Sp) (h : Nat) (s : Nat) : Prop := ∀ l, l < s → ∀ b, b < h → cnt xs l b = 1
instance decOnceP (xs : List Sp) (h : Nat) (s : Nat) : Decidable (OnceP xs h s) := by unfold OnceP; infer_instance
def planOkF (p : Pl) : Bool := logOkF p.1 p.2.1 && decide (p.2.2.length ≤ 600) && decide (StepsP p.2.1 p.2.2 p.2.2.length) && decide (OnceP p.2.2 (halfF p.2.1).toNat p.2.1.toNat)
def turnOkF (t : Tn) : Bool := planOkF t.1 && vectorOkF t.1.1 t.2.1 && decide ((t.2.1.length : Int) = 2 ^ t.1.2.1.toNat) && (decide (0 ≤ t.2.2) && decide (t.2.2 ≤ (t.1.2.2.length : Int)))
def costF (s : Sp) : Int := if 0 ≤ s.2.1 ∧ s.2.1 < s.2.2 then w64 (s.2.2 - s.2.1) else 0
def leftGo : List Sp → Int → Int
  | [], n => n
  | s :: xs, n => leftGo xs (w64 (n + w64 (s.2.2 - s.2.1)))
def leftF (t : Tn) : Int := if turnOkF t = true then leftGo (t.1.2.2.drop t.2.2.toNat) 0 else -1
def finF (t : Tn) : List Int × Bool := if turnOkF t = true ∧ (t.1.2.2.length : Int) ≤ t.2.2 then (t.2.1, true) else ([], false)
def fS_l09LogC : PC := { ts := [i64T, i64T], rs := [.bool], pre := fun _ => True, F := fun x => logOkF x.1 x.2 }
def fS_l09RunC : PC := { ts := [i64T, spT], rs := [.bool], pre := fun x => 0 ≤ x.1 ∧ x.1 ≤ 9, F := fun x => stepOkF x.1 x.2 }
def fI_isStepC : PC := { ts := [spT, i64T], rs := [.bool], pre := fun x => 0 ≤ x.2 ∧ x.2 ≤ 9, F := fun x => stepOkF x.2 x.1 }
def fS_PlanOkC : PC := { ts := [planT], rs := [.bool], pre := fun _ => True, F := fun x => planOkF x }
def fI_isPlanC : PC := { ts := [planT], rs := [.bool], pre := fun _ => True, F := fun x => planOkF x }
def fS_TurnerOkC : PC := { ts := [turnT], rs := [.bool], pre := fun _ => True, F := fun x => turnOkF x }
def fI_isTurnerC : PC := { ts := [turnT], rs := [.bool], pre := fun _ => True, F := fun x => turnOkF x }
def fI_TurnerOkC : PC := { ts := [turnT], rs := [.bool], pre := fun _ => True, F := fun x => turnOkF x }
def fS_StepCostC : PC := { ts := [spT], rs := [i64T], pre := fun _ => True, F := fun x => costF x }
def fS_LeftUnitsC : PC := { ts := [turnT], rs := [i64T], pre := fun _ => True, F := fun x => leftF x }
def fI_LeftUnitsC : PC := { ts := [turnT], rs := [i64T], pre := fun _ => True, F := fun x => leftF x }
def fS_l01CopyC : PC := { ts := [listT], rs := [listT], pre := fun x => x.length ≤ 1048576, F := fun x => x }
def fS_FinishedC : PC := { ts := [turnT], rs := [listT, .bool], pre := fun x => x.2.1.length ≤ 1048576, F := fun x => finF x }
def fI_FinishedC : PC := { ts := [turnT], rs := [listT, .bool], pre := fun x => x.2.1.length ≤ 1048576, F := fun x => finF x }
def fL_szStepSC : PC := { ts := [.sl spT, i64T], rs := [i64T], pre := fun _ => True, F := fun x => szF x.1.length x.2 }
def fL_szIntSC : PC := { ts := [listT, i64T], rs := [i64T], pre := fun _ => True, F := fun x => szF x.1.length x.2 }
def fL_szPlanC : PC := { ts := [planT, i64T], rs := [i64T], pre := fun _ => True, F := fun x => szF x.1.2.2.length x.2 }
def szTnF (t : Tn) (n : Int) : Int := if szF t.1.2.2.length n < 0 then -1 else szF t.2.1.length (szF t.1.2.2.length n)
def fL_szTurnerC : PC := { ts := [turnT, i64T], rs := [i64T], pre := fun _ => True, F := fun x => szTnF x.1 x.2 }
def fL_toStepC : PC := { ts := [spT], rs := [spT], pre := fun _ => True, F := fun x => x }
def fL_toStepSC : PC := { ts := [.sl spT], rs := [.sl spT], pre := fun x => x.length ≤ 1048576, F := fun x => x }
def fL_toIntSC : PC := { ts := [listT], rs := [listT], pre := fun x => x.length ≤ 1048576, F := fun x => x }
def fL_toPlanC : PC := { ts := [planT], rs := [planT], pre := fun x => x.2.2.length ≤ 1048576, F := fun x => x }
def fL_toTurnerC : PC := { ts := [turnT], rs := [turnT], pre := fun x => x.1.2.2.length ≤ 1048576 ∧ x.2.1.length ≤ 1048576, F := fun x => x }
def fL_eqStepC : PC := { ts := [spT, spT], rs := [.bool], pre := fun _ => True, F := fun x => decide (x.1 = x.2) }
def fL_eqStepSC : PC := { ts := [.sl spT, .sl spT], rs := [.bool], pre := fun _ => True, F := fun x => decide (x.1 = x.2) }
def fL_eqPlanC : PC := { ts := [planT, planT], rs := [.bool], pre := fun _ => True, F := fun x => decide (x.1 = x.2) }
def fL_eqTurnerC : PC := { ts := [turnT, turnT], rs := [.bool], pre := fun _ => True, F := fun x => decide (x.1 = x.2) }
def aL_toStepS (x : List Sp) := copyA (e := spT) x 3 4 3 5
def aL_toIntS (x : List Int) := copyA (e := i64T) x 3 4 3 5
def aL_eqStepS (x : List Sp × List Sp) := eqA (e := spT) x 4 5 6
/-- What is met on level 'l', of the first 'i' steps. -/
def metL (h : Nat) (xs : List Sp) (l i : Nat) : List Int := (List.range h).map (fun b => ((cnt (xs.take i) l b : Nat) : Int))
/-- The same, and the butterflies 'lo' to 'c' - 1 of one step more. -/
def metM (h : Nat) (xs : List Sp) (l i : Nat) (lo : Int) (c : Nat) : List Int := (List.range h).map (fun b => ((cnt (xs.take i) l b : Nat) : Int) + if lo ≤ (b : Int) ∧ b < c then 1 else 0)
def aS_PlanOk5 (x : Pl) (s i : Nat) : Nat → Option Ann := fun
  | 21 => some (.mk Nat (fun c => (x.2.2.getD i (0, 0, 0)).2.1 ≤ (c : Int) ∧ (c : Int) ≤ (x.2.2.getD i (0, 0, 0)).2.2) (fun st c => ((st.keep 8 []).sets [(8, si c)]).setEs [(1, .row true i64T (metM (halfF x.2.1).toNat x.2.2 s i (x.2.2.getD i (0, 0, 0)).2.1 c))]) (fun c => (x.2.2.getD i (0, 0, 0)).2.2.toNat - c) (x.2.2.getD i (0, 0, 0)).2.1.toNat (fun _ _ => none))
  | 25 => some (.mk Nat (fun b => b ≤ (halfF x.2.1).toNat ∧ ∀ a, a < b → cnt x.2.2 s a = 1) (fun st b => (st.keep 6 []).sets [(9, si b)]) (fun b => (halfF x.2.1).toNat - b) 0 (fun _ _ => none))
  | _ => none
def aS_PlanOk4 (x : Pl) (s : Nat) : Nat → Option Ann := fun
  | 17 => some (.mk Nat (fun i => i ≤ x.2.2.length) (fun st i => ((st.keep 6 []).sets [(7, si i)]).setEs [(1, .row true i64T (metL (halfF x.2.1).toNat x.2.2 s i))]) (fun i => x.2.2.length - i) 0 (fun i => aS_PlanOk5 x s i))
  | _ => none
def aS_PlanOk3 (x : Pl) (s : Nat) : Nat → Option Ann := fun
  | 13 => some (.mk Nat (fun k => (k : Int) ≤ halfF x.2.1) (fun st k => ((st.keep 5 []).sets [(6, si k), (5, .c (.own 1))]).setEs [(1, .row true i64T (List.replicate k 0))]) (fun k => (halfF x.2.1).toNat - k) 0 (fun _ => aS_PlanOk4 x s))
  | _ => none
def aS_PlanOk2 (x : Pl) : Nat → Option Ann := fun
  | 9 => some (.mk Nat (fun s => (s : Int) ≤ x.2.1 ∧ OnceP x.2.2 (halfF x.2.1).toNat s) (fun st s => (st.keep 3 []).sets [(4, si s)]) (fun s => x.2.1.toNat - s) 0 (fun s => aS_PlanOk3 x s))
  | _ => none
def aS_PlanOk (x : Pl) : Nat → Option Ann := fun
  | 4 => some (.mk Nat (fun k => k ≤ x.2.2.length ∧ StepsP x.2.1 x.2.2 k) (fun st k => (st.keep 3 []).sets [(3, si k)]) (fun k => x.2.2.length - k) 0 (fun _ => aS_PlanOk2 x))
  | _ => none
def manyF (xs : List Sp) : Int := (xs.map (fun s => s.2.2 - s.2.1)).sum
def doneL (xs : List Sp) (i : Nat) : List Bool := (List.range 4608).map (fun q => decide (1 ≤ cnt (xs.take i) (q / 512) (q % 512)))
def doneM (xs : List Sp) (i c : Nat) : List Bool := (List.range 4608).map (fun q => decide (1 ≤ cnt (xs.take i) (q / 512) (q % 512)) || decide ((xs.getD i (0, 0, 0)).1 = ((q / 512 : Nat) : Int) ∧ (xs.getD i (0, 0, 0)).2.1 ≤ ((q % 512 : Nat) : Int) ∧ q % 512 < c))
def MostP (xs : List Sp) (i : Nat) : Prop := ∀ l b, cnt (xs.take i) l b ≤ 1
def FreeP (xs : List Sp) (i c : Nat) : Prop := ∀ b : Nat, (xs.getD i (0, 0, 0)).2.1 ≤ (b : Int) → b < c → cnt (xs.take i) (xs.getD i (0, 0, 0)).1.toNat b = 0
def aI_isPlan2 (x : Pl) (i : Nat) : Nat → Option Ann := fun
  | 12 => some (.mk Nat (fun c => (x.2.2.getD i (0, 0, 0)).2.1 ≤ (c : Int) ∧ (c : Int) ≤ (x.2.2.getD i (0, 0, 0)).2.2 ∧ FreeP x.2.2 i c) (fun st c => ((st.keep 9 [39, 40, 41]).sets [(9, si c), (6, si (manyF (x.2.2.take i) + ((c : Int) - (x.2.2.getD i (0, 0, 0)).2.1)))]).setEs [(2, .row true .bool (doneM x.2.2 i c))]) (fun c => (x.2.2.getD i (0, 0, 0)).2.2.toNat - c) (x.2.2.getD i (0, 0, 0)).2.1.toNat (fun _ _ => none))
  | _ => none
def aI_isPlan (x : Pl) : Nat → Option Ann := fun
  | 7 => some (.mk Nat (fun i => i ≤ x.2.2.length ∧ StepsP x.2.1 x.2.2 i ∧ MostP x.2.2 i) (fun st i => ((st.keep 6 [39, 40]).sets [(6, si (manyF (x.2.2.take i))), (41, si i)]).setEs [(2, .row true .bool (doneL x.2.2 i))]) (fun i => x.2.2.length - i) 0 (fun i => aI_isPlan2 x i))
  | _ => none
def aS_LeftUnits (x : Tn) : Nat → Option Ann := fun
  | 5 => some (.mk (Nat × Int) (fun k => x.2.2 ≤ (k.1 : Int) ∧ k.1 ≤ x.1.2.2.length ∧ leftGo (x.1.2.2.drop k.1) k.2 = leftGo (x.1.2.2.drop x.2.2.toNat) 0) (fun st k => (st.keep 3 []).sets [(4, si k.1), (3, si k.2)]) (fun k => x.1.2.2.length - k.1) (x.2.2.toNat, 0) (fun _ _ => none))
  | _ => none
def aI_LeftUnits (x : Tn) : Nat → Option Ann := fun
  | 5 => some (.mk (Nat × Int) (fun k => k.1 ≤ (x.1.2.2.drop x.2.2.toNat).length ∧ leftGo ((x.1.2.2.drop x.2.2.toNat).drop k.1) k.2 = leftGo (x.1.2.2.drop x.2.2.toNat) 0) (fun st k => (st.keep 3 [14, 15]).sets [(16, si k.1), (3, si k.2)]) (fun k => (x.1.2.2.drop x.2.2.toNat).length - k.1) (0, 0) (fun _ _ => none))
  | _ => none
def aS_l01Copy (x : List Int) : Nat → Option Ann := fun
  | 3 => some (.mk Nat (fun k => k ≤ x.length) (fun st k => ((st.keep 3 []).sets [(4, si k), (3, .c (.own 0))]).setEs [(0, .row true i64T (x.take k))]) (fun k => x.length - k) 0 (fun _ _ => none))
  | _ => none
end Go.SF


/- Contracts: caches, as they are read. No condition. -/
namespace Go.SF
open Go.SX Go
set_option linter.unusedVariables false
abbrev byT : Ty := .int .u8
abbrev bytesT : Ty := .sl byT
abbrev resT : Ty := .st (.pr (.int .i64) (.pr listT listT))
abbrev Rs := Int × List Int × List Int
abbrev entT : Ty := .st (.pr bytesT resT)
abbrev En := List Int × Rs
abbrev cacheT : Ty := .st (.pr (.int .i64) (.sl entT))
abbrev Ca := Int × List En
instance decRs : DecidableEq Rs := inferInstance
instance decEn : DecidableEq En := @instDecidableEqProd (List Int) Rs inferInstance decRs
instance decEns : DecidableEq (List En) := @instDecidableEqList En decEn
instance decCa : DecidableEq Ca := @instDecidableEqProd Int (List En) inferInstance decEns
def eqRs (a b : Rs) : Bool := @decide (a = b) (decRs a b)
def eqEn (a b : En) : Bool := @decide (a = b) (decEn a b)
def eqEns (a b : List En) : Bool := @decide (a = b) (decEns a b)
def eqCa (a b : Ca) : Bool := @decide (a = b) (decCa a b)
def en0 : En := ([], 0, [], [])
/-- What the sizes leave. -/
def szRsF (r : Rs) (l : Int) : Int := if szF r.2.1.length l < 0 then -1 else szF r.2.2.length (szF r.2.1.length l)
def szEnF (e : En) (l : Int) : Int := if szF e.1.length l < 0 then -1 else szRsF e.2 (szF e.1.length l)
def szEnGo : List En → Int → Int
  | [], l => l
  | e :: es, l => if szEnF e l < 0 then -1 else szEnGo es (szEnF e l)
def szEnsF (es : List En) (l : Int) : Int := if w64 (l - es.length) < 0 then -1 else szEnGo es (w64 (l - es.length))
def szCaF (c : Ca) (l : Int) : Int := if szEnsF c.2 l < 0 then -1 else szEnsF c.2 l
def RsP (r : Rs) : Prop := r.2.1.length ≤ 1048576 ∧ r.2.2.length ≤ 1048576
def EnP (e : En) : Prop := e.1.length ≤ 1048576 ∧ RsP e.2
def EnsP (es : List En) : Prop := es.length ≤ 1048576 ∧ ∀ e ∈ es, EnP e
def wtN (r : Rs) : Nat := 1 + r.2.1.length + r.2.2.length
def sumE : List En → Nat
  | [] => 0
  | e :: es => wtN e.2 + sumE es
/-- The first 'k' keys are short, and differ. -/
def KeysP (es : List En) (k : Nat) : Prop := ∀ i, i < k → (es.getD i ([], 0, [], [])).1.length ≤ 5000 ∧ ∀ j, j < i → (es.getD j ([], 0, [], [])).1 ≠ (es.getD i ([], 0, [], [])).1
instance decKeysP (es : List En) (k : Nat) : Decidable (KeysP es k) := by unfold KeysP; infer_instance
def cacheB (c : Ca) : Bool := decide (0 ≤ c.1 ∧ c.1 ≤ 5000) && decide (c.2.length ≤ 30) && decide (KeysP c.2 c.2.length) && decide ((sumE c.2 : Int) ≤ c.1)
def wordsF (c : Ca) : Int := if cacheB c = true then (sumE c.2 : Nat) else -1
def keyGo (key : List Int) : List En → Int → Int
  | [], _ => -1
  | e :: es, k => if e.1 = key then k else keyGo key es (k + 1)
def fL_szByteSC : PC := { ts := [bytesT, i64T], rs := [i64T], pre := fun _ => True, F := fun x => szF x.1.length x.2 }
def fL_toByteSC : PC := { ts := [bytesT], rs := [bytesT], pre := fun x => x.length ≤ 1048576, F := fun x => x }
def fL_eqByteSC : PC := { ts := [bytesT, bytesT], rs := [.bool], pre := fun _ => True, F := fun x => decide (x.1 = x.2) }
def fL_szResultC : PC := { ts := [resT, i64T], rs := [i64T], pre := fun _ => True, F := fun x => szRsF x.1 x.2 }
def fL_szEntryC : PC := { ts := [entT, i64T], rs := [i64T], pre := fun _ => True, F := fun x => szEnF x.1 x.2 }
def fL_szEntrySC : PC := { ts := [.sl entT, i64T], rs := [i64T], pre := fun _ => True, F := fun x => szEnsF x.1 x.2 }
def fL_szCacheC : PC := { ts := [cacheT, i64T], rs := [i64T], pre := fun _ => True, F := fun x => szCaF x.1 x.2 }
def fL_toResultC : PC := { ts := [resT], rs := [resT], pre := fun x => RsP x, F := fun x => x }
def fL_toEntryC : PC := { ts := [entT], rs := [entT], pre := fun x => EnP x, F := fun x => x }
def fL_toEntrySC : PC := { ts := [.sl entT], rs := [.sl entT], pre := fun x => EnsP x, F := fun x => x }
def fL_toCacheC : PC := { ts := [cacheT], rs := [cacheT], pre := fun x => EnsP x.2, F := fun x => x }
def fL_eqResultC : PC := { ts := [resT, resT], rs := [.bool], pre := fun _ => True, F := fun x => eqRs x.1 x.2 }
def fL_eqEntryC : PC := { ts := [entT, entT], rs := [.bool], pre := fun _ => True, F := fun x => eqEn x.1 x.2 }
def fL_eqEntrySC : PC := { ts := [.sl entT, .sl entT], rs := [.bool], pre := fun _ => True, F := fun x => eqEns x.1 x.2 }
def fL_eqCacheC : PC := { ts := [cacheT, cacheT], rs := [.bool], pre := fun _ => True, F := fun x => eqCa x.1 x.2 }
def fS_l01SameC : PC := { ts := [bytesT, bytesT], rs := [.bool], pre := fun _ => True, F := fun x => decide (x.1 = x.2) }
def fG_bytesEqualC : PC := { ts := [bytesT, bytesT], rs := [.bool], pre := fun _ => True, F := fun x => decide (x.1 = x.2) }
def fS_l16WeightC : PC := { ts := [resT], rs := [i64T], pre := fun x => RsP x, F := fun x => ((wtN x : Nat) : Int) }
def fI_weightEC : PC := { ts := [entT], rs := [i64T], pre := fun x => EnP x, F := fun x => ((wtN x.2 : Nat) : Int) }
def fI_weightOfC : PC := { ts := [cacheT], rs := [i64T], pre := fun x => EnsP x.2, F := fun x => ((sumE x.2 : Nat) : Int) }
def fS_l16SumC : PC := { ts := [cacheT], rs := [i64T], pre := fun x => EnsP x.2, F := fun x => ((sumE x.2 : Nat) : Int) }
def fI_entryOf1C : PC := { ts := [entT, .ptr bytesT], rs := [.bool], pre := fun _ => True, F := fun x => decide (x.1.1 = x.2) }
def fG_IndexFuncEnC (g : Nat) : PC := { ts := [.sl entT, .clo g (.ptr bytesT)], rs := [i64T], pre := fun _ => True, F := fun x => keyGo x.2 x.1 0 }
def fI_entryOfC : PC := { ts := [.sl entT, bytesT], rs := [i64T], pre := fun _ => True, F := fun x => keyGo x.2 x.1 0 }
def fS_CacheOkC : PC := { ts := [cacheT], rs := [.bool], pre := fun x => EnsP x.2, F := fun x => cacheB x }
def fI_isCacheC : PC := { ts := [cacheT], rs := [.bool], pre := fun x => EnsP x.2, F := fun x => cacheB x }
def fI_CacheOkC : PC := { ts := [cacheT], rs := [.bool], pre := fun x => EnsP x.2, F := fun x => cacheB x }
def fS_CacheWordsC : PC := { ts := [cacheT], rs := [i64T], pre := fun x => EnsP x.2, F := fun x => wordsF x }
def fI_CacheWordsC : PC := { ts := [cacheT], rs := [i64T], pre := fun x => EnsP x.2, F := fun x => wordsF x }
def aL_toByteS (x : List Int) := copyA (e := byT) x 3 4 3 5
def aL_eqByteS (x : List Int × List Int) := eqA (e := byT) x 4 5 6
def aS_l01Same (x : List Int × List Int) := eqA (e := byT) x 4 5 5
def aL_toEntryS (x : List En) := copyA (e := entT) x 3 4 3 5
def aL_eqEntryS (x : List En × List En) := eqA (e := entT) x 4 5 6
def aL_szEntryS (x : List En × Int) : Nat → Option Ann := fun
  | 5 => some (.mk (Nat × Int) (fun k => k.1 ≤ x.1.length ∧ szEnGo (x.1.drop k.1) k.2 = szEnGo x.1 (w64 (x.2 - x.1.length))) (fun st k => (st.keep 6 []).sets [(5, si k.1), (1, si k.2)]) (fun k => x.1.length - k.1) (0, w64 (x.2 - x.1.length)) (fun _ _ => none))
  | _ => none
def aS_l16Sum (x : Ca) : Nat → Option Ann := fun
  | 3 => some (.mk Nat (fun k => k ≤ x.2.length) (fun st k => (st.keep 3 []).sets [(3, si (sumE (x.2.take k))), (4, si k)]) (fun k => x.2.length - k) 0 (fun _ _ => none))
  | _ => none
def aI_weightOf (x : Ca) : Nat → Option Ann := fun
  | 3 => some (.mk Nat (fun k => k ≤ x.2.length) (fun st k => (st.keep 3 [7, 8]).sets [(3, si (sumE (x.2.take k))), (9, si k)]) (fun k => x.2.length - k) 0 (fun _ _ => none))
  | _ => none
def aG_IndexFuncEn (x : List En × List Int) : Nat → Option Ann := fun
  | 2 => some (.mk Nat (fun k => k ≤ x.1.length ∧ keyGo x.2 (x.1.drop k) k = keyGo x.2 x.1 0) (fun st k => (st.keep 6 [7]).sets [(8, si k)]) (fun k => x.1.length - k) 0 (fun _ _ => none))
  | _ => none
def aS_CacheOk (x : Ca) : Nat → Option Ann := fun
  | 5 => some (.mk Nat (fun k => k ≤ x.2.length ∧ KeysP x.2 k) (fun st k => (st.keep 3 []).sets [(3, si (sumE (x.2.take k))), (4, si k)]) (fun k => x.2.length - k) 0 (fun i => fun
    | 10 => some (.mk Nat (fun j => j ≤ i ∧ ∀ t, t < j → (x.2.getD t ([], 0, [], [])).1 ≠ (x.2.getD i ([], 0, [], [])).1) (fun st j => (st.keep 5 []).sets [(5, si j)]) (fun j => i - j) 0 (fun _ _ => none))
    | _ => none))
  | _ => none
def aI_isCache (x : Ca) : Nat → Option Ann := fun
  | 4 => some (.mk Nat (fun k => k ≤ x.2.length ∧ KeysP x.2 k) (fun st k => (st.keep 3 [27, 28]).sets [(29, si k)]) (fun k => x.2.length - k) 0 (fun _ _ => none))
  | _ => none
end Go.SF

