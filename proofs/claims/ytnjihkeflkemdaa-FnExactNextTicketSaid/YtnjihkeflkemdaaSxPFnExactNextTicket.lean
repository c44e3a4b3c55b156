/- The law of NextTicket. No condition. -/
import Derived.Test.YtnjihkeflkemdaaSxC
import Derived.Test.YtnjihkeflkemdaaSxPRingX
namespace Go.SF
open Go.SX Go
set_option linter.unusedVariables false
set_option linter.unusedSimpArgs false
set_option maxRecDepth 100000
set_option maxHeartbeats 0
theorem v_FnExactNextTicket :
  ∀ (d : (Nat × List (Int × Int × Int × Nat × List (Int × Int))) × Int × Bool), Ty.wf ringA d → True → True ∧ (Ty.wf i64T (szRgF (unL flN d.1.2) (1048576 : Int)) → (decide (szRgF (unL flN d.1.2) (1048576 : Int) < (0 :
  Int)) = true → true = true) ∧ (decide (szRgF (unL flN d.1.2) (1048576 : Int) < (0 : Int)) = false → FlsP (unL flN d.1.2) ∧ ∀ (r : List (Int × Int × Int × Nat × List (Int × Int)) × Int × Bool), unD ringG r = (unL flN
  d.1.2, d.2) → List.Nodup (ids ringG r) → Ty.wf ringG r → Apart (ids ringG r) (ids (Ty.gs false flN) d.1) ∧ Apart (ids ringG r) (ids (Ty.gs false flN) d.1) ∧ Apart (ids ringG r) (ids (Ty.gs false flN) d.1) ∧ Apart (ids
  ringG r) (ids (Ty.gs false flN) d.1) → FlsP (unL flG r.1) ∧ (Ty.wf ringT (Prod.fst (nextTkF (unL flG r.1, r.2))) ∧ Ty.wf i64T (Prod.fst (Prod.snd (nextTkF (unL flG r.1, r.2)))) ∧ Ty.wf tkT (Prod.fst (Prod.snd (Prod.snd
  (nextTkF (unL flG r.1, r.2))))) ∧ Ty.wf Ty.bool (Prod.snd (Prod.snd (Prod.snd (nextTkF (unL flG r.1, r.2))))) → (∀ (xs' : List (Int × Int × Int × Nat × List (Int × Int))), unL (Ty.st (Ty.pr (Ty.int IntKind.i64) (Ty.pr
  (Ty.int IntKind.i64) (Ty.pr (Ty.int IntKind.i64) (Ty.st (Ty.gs false (Ty.st (Ty.pr (Ty.int IntKind.i64) (Ty.int IntKind.i64))))))))) xs' = Prod.fst (Prod.fst (nextTkF (unL flG r.1, r.2))) → FlsP (unL flN d.1.2) ∧ ∀
  (r_1 : List (Int × Int × Int × Nat × List (Int × Int)) × Int × Bool), unD ringG r_1 = (unL flN d.1.2, d.2) → List.Nodup (ids ringG r_1) → Ty.wf ringG r_1 → (Apart (ids ringG r_1) (ids (Ty.gs false flN) d.1) ∧ Apart
  (ids ringG r_1) (idsL flG r.1) ∧ Apart (ids ringG r_1) (idsL (Ty.st (Ty.pr (Ty.int IntKind.i64) (Ty.pr (Ty.int IntKind.i64) (Ty.pr (Ty.int IntKind.i64) (Ty.st (Ty.gs false (Ty.st (Ty.pr (Ty.int IntKind.i64) (Ty.int
  IntKind.i64))))))))) xs')) ∧ Apart (ids ringG r_1) (ids (Ty.gs false flN) d.1) ∧ Apart (ids ringG r_1) (ids (Ty.gs false flN) d.1) ∧ Apart (ids ringG r_1) (ids (Ty.gs false flN) d.1) ∧ Apart (ids ringG r_1) (ids (Ty.gs
  false flN) d.1) → ∃ (x' : List (Int × Int × Int × Nat × List (Int × Int)) × List (Int × Int × Int × Nat × List (Int × Int))), RJ1 (Prod.fst (nextTkF (unA d))) d x' ∧ (((d.1.1 = d.1.1 ∧ d.1.2 = d.1.2) ∧ d.2.1 = d.2.1 ∧
  d.2.2 = d.2.2) ∧ szRgF (unL flN d.1.2) (1048576 : Int) = szRgF (unL flN d.1.2) (1048576 : Int) ∧ Prod.fst (Prod.snd (nextTkF (unL flG r.1, r.2))) = Prod.fst (Prod.snd (nextTkF (unL flG r.1, r.2))) ∧ Prod.snd (Prod.snd
  (Prod.snd (nextTkF (unL flG r.1, r.2)))) = Prod.snd (Prod.snd (Prod.snd (nextTkF (unL flG r.1, r.2))))) ∧ ((d.1.1 = d.1.1 ∧ d.1.2 = d.1.2) ∧ d.2.1 = d.2.1 ∧ d.2.2 = d.2.2) ∧ xs' = x'.1 ∧ (Prod.fst (Prod.snd (Prod.fst
  (nextTkF (unL flG r.1, r.2)))) = Prod.fst (Prod.snd (Prod.fst (nextTkF (unA d)))) ∧ Prod.snd (Prod.snd (Prod.fst (nextTkF (unL flG r.1, r.2)))) = Prod.snd (Prod.snd (Prod.fst (nextTkF (unA d))))) ∧ (Prod.fst (Prod.fst
  (Prod.snd (Prod.snd (nextTkF (unL flG r.1, r.2))))) = Prod.fst (Prod.fst (Prod.snd (Prod.snd (nextTkF (unA d))))) ∧ Prod.snd (Prod.fst (Prod.snd (Prod.snd (nextTkF (unL flG r.1, r.2))))) = Prod.snd (Prod.fst (Prod.snd
  (Prod.snd (nextTkF (unA d)))))) ∧ r_1.1 = x'.2 ∧ r_1.2.1 = d.2.1 ∧ r_1.2.2 = d.2.2) ∧ ∀ (x : List (Int × Int × Int × Nat × List (Int × Int)) × List (Int × Int × Int × Nat × List (Int × Int))), RJ1 (Prod.fst (nextTkF
  (unA d))) d x → (FlsP (unL flG x.2) ∧ ∀ (r_1 : (List (Int × Int × Int × Nat × List (Int × Int)) × Int × Bool) × Int × (Int × Int) × Bool), (unD ringG r_1.1, unD i64T r_1.2.1, unD tkT r_1.2.2.1, unD Ty.bool r_1.2.2.2) =
  nextTkF (unL flG x.2, d.2) → List.Nodup (ids ringG r_1.1 ++ (ids i64T r_1.2.1 ++ (ids tkT r_1.2.2.1 ++ ids Ty.bool r_1.2.2.2))) → Ty.wf ringG r_1.1 ∧ Ty.wf i64T r_1.2.1 ∧ Ty.wf tkT r_1.2.2.1 ∧ Ty.wf Ty.bool r_1.2.2.2 →
  (Apart (ids ringG r_1.1 ++ (ids i64T r_1.2.1 ++ (ids tkT r_1.2.2.1 ++ ids Ty.bool r_1.2.2.2))) (ids (Ty.gs false flN) d.1) ∧ Apart (ids ringG r_1.1 ++ (ids i64T r_1.2.1 ++ (ids tkT r_1.2.2.1 ++ ids Ty.bool r_1.2.2.2)))
  (idsL flN x.1) ∧ Apart (ids ringG r_1.1 ++ (ids i64T r_1.2.1 ++ (ids tkT r_1.2.2.1 ++ ids Ty.bool r_1.2.2.2))) (idsL flG x.2)) ∧ Apart (ids ringG r_1.1 ++ (ids i64T r_1.2.1 ++ (ids tkT r_1.2.2.1 ++ ids Ty.bool
  r_1.2.2.2))) (ids (Ty.gs false flN) d.1) → ∃ (x' : List (Int × Int × Int × Nat × List (Int × Int))), RJ2 (Prod.fst (nextTkF (unA d))) d x x' ∧ (((d.1.1 = d.1.1 ∧ d.1.2 = d.1.2) ∧ d.2.1 = d.2.1 ∧ d.2.2 = d.2.2) ∧ szRgF
  (unL flN d.1.2) (1048576 : Int) = szRgF (unL flN d.1.2) (1048576 : Int) ∧ Prod.fst (Prod.snd (nextTkF (unL flG r.1, r.2))) = Prod.fst (Prod.snd (nextTkF (unL flG r.1, r.2))) ∧ Prod.snd (Prod.snd (Prod.snd (nextTkF (unL
  flG r.1, r.2)))) = Prod.snd (Prod.snd (Prod.snd (nextTkF (unL flG r.1, r.2)))) ∧ r_1.2.1 = Prod.fst (Prod.snd (nextTkF (unA d))) ∧ r_1.2.2.2 = Prod.snd (Prod.snd (Prod.snd (nextTkF (unA d)))) ∧ r_1.1.2.1 = Prod.fst
  (Prod.snd (Prod.fst (nextTkF (unA d)))) ∧ r_1.1.2.2 = Prod.snd (Prod.snd (Prod.fst (nextTkF (unA d))))) ∧ ((d.1.1 = d.1.1 ∧ d.1.2 = d.1.2) ∧ d.2.1 = d.2.1 ∧ d.2.2 = d.2.2) ∧ x.1 = x.1 ∧ (Prod.fst (Prod.snd (Prod.fst
  (nextTkF (unA d)))) = Prod.fst (Prod.snd (Prod.fst (nextTkF (unA d)))) ∧ Prod.snd (Prod.snd (Prod.fst (nextTkF (unA d)))) = Prod.snd (Prod.snd (Prod.fst (nextTkF (unA d))))) ∧ (Prod.fst (Prod.fst (Prod.snd (Prod.snd
  (nextTkF (unA d))))) = Prod.fst (Prod.fst (Prod.snd (Prod.snd (nextTkF (unA d))))) ∧ Prod.snd (Prod.fst (Prod.snd (Prod.snd (nextTkF (unA d))))) = Prod.snd (Prod.fst (Prod.snd (Prod.snd (nextTkF (unA d)))))) ∧ x.2 =
  x.2 ∧ (d.2.1 = d.2.1 ∧ d.2.2 = d.2.2) ∧ r_1.1.1 = x' ∧ (r_1.1.2.1 = Prod.fst (Prod.snd (Prod.fst (nextTkF (unA d)))) ∧ r_1.1.2.2 = Prod.snd (Prod.snd (Prod.fst (nextTkF (unA d))))) ∧ r_1.2.2.1.1 = Prod.fst (Prod.fst
  (Prod.snd (Prod.snd (nextTkF (unA d))))) ∧ r_1.2.2.1.2 = Prod.snd (Prod.fst (Prod.snd (Prod.snd (nextTkF (unA d)))))) ∧ ∀ (x_1 : List (Int × Int × Int × Nat × List (Int × Int))), RJ2 (Prod.fst (nextTkF (unA d))) d x
  x_1 → True ∧ ((!eqRg (unL flG x_1, Prod.snd (Prod.fst (nextTkF (unA d)))) (unL flN x.1, Prod.snd (Prod.fst (nextTkF (unA d))))) = true → false = true) ∧ ((!eqRg (unL flG x_1, Prod.snd (Prod.fst (nextTkF (unA d)))) (unL
  flN x.1, Prod.snd (Prod.fst (nextTkF (unA d))))) = false → ((!decide (Prod.fst (Prod.snd (nextTkF (unA d))) = Prod.fst (Prod.snd (nextTkF (unL flG r.1, r.2))))) = true → false = true) ∧ ((!decide (Prod.fst (Prod.snd
  (nextTkF (unA d))) = Prod.fst (Prod.snd (nextTkF (unL flG r.1, r.2))))) = false → True ∧ ((!decide (Prod.fst (Prod.snd (Prod.snd (nextTkF (unA d)))) = Prod.fst (Prod.snd (Prod.snd (nextTkF (unA d)))))) = true → false =
  true) ∧ ((!decide (Prod.fst (Prod.snd (Prod.snd (nextTkF (unA d)))) = Prod.fst (Prod.snd (Prod.snd (nextTkF (unA d)))))) = false → ((!Prod.snd (Prod.snd (Prod.snd (nextTkF (unA d)))) == Prod.snd (Prod.snd (Prod.snd
  (nextTkF (unL flG r.1, r.2))))) = true → false = true) ∧ ((!Prod.snd (Prod.snd (Prod.snd (nextTkF (unA d)))) == Prod.snd (Prod.snd (Prod.snd (nextTkF (unL flG r.1, r.2))))) = false → FlsP (unL flN d.1.2) ∧ True ∧
  (Ty.wf ringT (unL flN d.1.2, d.2) → ((!eqRg (unL flG x.2, d.2) (unL flN d.1.2, d.2)) = true → false = true) ∧ ((!eqRg (unL flG x.2, d.2) (unL flN d.1.2, d.2)) = false → True ∧ List.Nodup (ids ringG (x.2, d.2)) ∧
  ((Apart (ids ringG (x.2, d.2)) (idsL flN x.1) ∧ Apart (ids ringG (x.2, d.2)) (idsL flG x_1)) ∧ (Apart (ids ringG (x.2, d.2)) (ids (Ty.gs false flN) d.1) ∧ Apart (ids ringG (x.2, d.2)) (ids (Ty.gs false flN) d.1)) ∧
  Apart (ids ringG (x.2, d.2)) (ids (Ty.gs false flN) d.1)) ∧ (decide (endF x.2 (1 : Int) < (0 : Int)) = true → false = true) ∧ (decide (endF x.2 (1 : Int) < (0 : Int)) = false → True ∧ ((!eqRg (unL flG x_1, Prod.snd
  (Prod.fst (nextTkF (unA d)))) (unL flN x.1, Prod.snd (Prod.fst (nextTkF (unA d))))) = true → false = true) ∧ ((!eqRg (unL flG x_1, Prod.snd (Prod.fst (nextTkF (unA d)))) (unL flN x.1, Prod.snd (Prod.fst (nextTkF (unA
  d))))) = false → ((!decide (Prod.fst (Prod.snd (nextTkF (unA d))) = Prod.fst (Prod.snd (nextTkF (unL flG r.1, r.2))))) = true → false = true) ∧ ((!decide (Prod.fst (Prod.snd (nextTkF (unA d))) = Prod.fst (Prod.snd
  (nextTkF (unL flG r.1, r.2))))) = false → True ∧ ((!decide (Prod.fst (Prod.snd (Prod.snd (nextTkF (unA d)))) = Prod.fst (Prod.snd (Prod.snd (nextTkF (unA d)))))) = true → false = true) ∧ ((!decide (Prod.fst (Prod.snd
  (Prod.snd (nextTkF (unA d)))) = Prod.fst (Prod.snd (Prod.snd (nextTkF (unA d)))))) = false → ((!Prod.snd (Prod.snd (Prod.snd (nextTkF (unA d)))) == Prod.snd (Prod.snd (Prod.snd (nextTkF (unL flG r.1, r.2))))) = true →
  false = true) ∧ ((!Prod.snd (Prod.snd (Prod.snd (nextTkF (unA d)))) == Prod.snd (Prod.snd (Prod.snd (nextTkF (unL flG r.1, r.2))))) = false → True ∧ List.Nodup (ids ringG (x_1, Prod.snd (Prod.fst (nextTkF (unA d))))) ∧
  ((Apart (ids ringG (x_1, Prod.snd (Prod.fst (nextTkF (unA d))))) (idsL flN x.1) ∧ Apart (ids ringG (x_1, Prod.snd (Prod.fst (nextTkF (unA d))))) (idsL flG (markF x.2 (1 : Int)))) ∧ (Apart (ids ringG (x_1, Prod.snd
  (Prod.fst (nextTkF (unA d))))) (ids (Ty.gs false flN) d.1) ∧ Apart (ids ringG (x_1, Prod.snd (Prod.fst (nextTkF (unA d))))) (ids (Ty.gs false flN) d.1)) ∧ Apart (ids ringG (x_1, Prod.snd (Prod.fst (nextTkF (unA d)))))
  (ids (Ty.gs false flN) d.1)) ∧ True ∧ (Ty.wf i64T (neg1 (heldF (unL flG (markF x_1 (1 : Int))) (1 : Int))) → (decide (neg1 (heldF (unL flG (markF x_1 (1 : Int))) (1 : Int)) < (0 : Int)) = true → false = true) ∧ (decide
  (neg1 (heldF (unL flG (markF x_1 (1 : Int))) (1 : Int)) < (0 : Int)) = false → (((!decide (neg1 (heldF (unL flG (markF x_1 (1 : Int))) (1 : Int)) = endF x_1 (1 : Int))) = true → false = true) ∧ ((!decide (neg1 (heldF
  (unL flG (markF x_1 (1 : Int))) (1 : Int)) = endF x_1 (1 : Int))) = false → ∃ (x' : Unit), (RJ1 (Prod.fst (nextTkF (unA d))) d x ∧ RJ2 (Prod.fst (nextTkF (unA d))) d x x_1) ∧ (((d.1.1 = d.1.1 ∧ d.1.2 = d.1.2) ∧ d.2.1 =
  d.2.1 ∧ d.2.2 = d.2.2) ∧ szRgF (unL flN d.1.2) (1048576 : Int) = szRgF (unL flN d.1.2) (1048576 : Int) ∧ Prod.fst (Prod.snd (nextTkF (unL flG r.1, r.2))) = Prod.fst (Prod.snd (nextTkF (unL flG r.1, r.2))) ∧ Prod.snd
  (Prod.snd (Prod.snd (nextTkF (unL flG r.1, r.2)))) = Prod.snd (Prod.snd (Prod.snd (nextTkF (unL flG r.1, r.2)))) ∧ Prod.fst (Prod.snd (nextTkF (unA d))) = Prod.fst (Prod.snd (nextTkF (unA d))) ∧ Prod.snd (Prod.snd
  (Prod.snd (nextTkF (unA d)))) = Prod.snd (Prod.snd (Prod.snd (nextTkF (unA d)))) ∧ endF x_1 (1 : Int) = endF x_1 (1 : Int)) ∧ ((d.1.1 = d.1.1 ∧ d.1.2 = d.1.2) ∧ d.2.1 = d.2.1 ∧ d.2.2 = d.2.2) ∧ x.1 = x.1 ∧ (Prod.fst
  (Prod.snd (Prod.fst (nextTkF (unA d)))) = Prod.fst (Prod.snd (Prod.fst (nextTkF (unA d)))) ∧ Prod.snd (Prod.snd (Prod.fst (nextTkF (unA d)))) = Prod.snd (Prod.snd (Prod.fst (nextTkF (unA d))))) ∧ (Prod.fst (Prod.fst
  (Prod.snd (Prod.snd (nextTkF (unA d))))) = Prod.fst (Prod.fst (Prod.snd (Prod.snd (nextTkF (unA d))))) ∧ Prod.snd (Prod.fst (Prod.snd (Prod.snd (nextTkF (unA d))))) = Prod.snd (Prod.fst (Prod.snd (Prod.snd (nextTkF
  (unA d)))))) ∧ markF x_1 (1 : Int) = markF x_1 (1 : Int) ∧ (Prod.fst (Prod.snd (Prod.fst (nextTkF (unA d)))) = Prod.fst (Prod.snd (Prod.fst (nextTkF (unA d)))) ∧ Prod.snd (Prod.snd (Prod.fst (nextTkF (unA d)))) =
  Prod.snd (Prod.snd (Prod.fst (nextTkF (unA d))))) ∧ Prod.fst (Prod.fst (Prod.snd (Prod.snd (nextTkF (unA d))))) = Prod.fst (Prod.fst (Prod.snd (Prod.snd (nextTkF (unA d))))) ∧ Prod.snd (Prod.fst (Prod.snd (Prod.snd
  (nextTkF (unA d))))) = Prod.snd (Prod.fst (Prod.snd (Prod.snd (nextTkF (unA d))))))) ∧ ∀ (x_2 : Unit), RJ1 (Prod.fst (nextTkF (unA d))) d x ∧ RJ2 (Prod.fst (nextTkF (unA d))) d x x_1 → (FlsP (unL flN d.1.2) ∧ ∀ (r_1 :
  List (Int × Int × Int × Nat × List (Int × Int)) × Int × Bool), unD ringG r_1 = (unL flN d.1.2, d.2) → List.Nodup (ids ringG r_1) → Ty.wf ringG r_1 → (Apart (ids ringG r_1) (ids (Ty.gs false flN) d.1) ∧ Apart (ids ringG
  r_1) (idsL flN x.1) ∧ Apart (ids ringG r_1) (idsL flG (markF x_1 (1 : Int)))) ∧ Apart (ids ringG r_1) (ids (Ty.gs false flN) d.1) ∧ Apart (ids ringG r_1) (ids (Ty.gs false flN) d.1) → FlsP (unL flG r_1.1) ∧ ∀ (r_2 :
  (List (Int × Int × Int × Nat × List (Int × Int)) × Int × Bool) × Int × (Int × Int) × Bool), (unD ringG r_2.1, unD i64T r_2.2.1, unD tkT r_2.2.2.1, unD Ty.bool r_2.2.2.2) = nextTkF (unL flG r_1.1, r_1.2) → List.Nodup
  (ids ringG r_2.1 ++ (ids i64T r_2.2.1 ++ (ids tkT r_2.2.2.1 ++ ids Ty.bool r_2.2.2.2))) → Ty.wf ringG r_2.1 ∧ Ty.wf i64T r_2.2.1 ∧ Ty.wf tkT r_2.2.2.1 ∧ Ty.wf Ty.bool r_2.2.2.2 → (Apart (ids ringG r_2.1 ++ (ids i64T
  r_2.2.1 ++ (ids tkT r_2.2.2.1 ++ ids Ty.bool r_2.2.2.2))) (ids (Ty.gs false flN) d.1) ∧ Apart (ids ringG r_2.1 ++ (ids i64T r_2.2.1 ++ (ids tkT r_2.2.2.1 ++ ids Ty.bool r_2.2.2.2))) (idsL flN x.1) ∧ Apart (ids ringG
  r_2.1 ++ (ids i64T r_2.2.1 ++ (ids tkT r_2.2.2.1 ++ ids Ty.bool r_2.2.2.2))) (idsL flG (markF x_1 (1 : Int))) ∧ Apart (ids ringG r_2.1 ++ (ids i64T r_2.2.1 ++ (ids tkT r_2.2.2.1 ++ ids Ty.bool r_2.2.2.2))) (idsL flG
  r_1.1)) ∧ Apart (ids ringG r_2.1 ++ (ids i64T r_2.2.1 ++ (ids tkT r_2.2.2.1 ++ ids Ty.bool r_2.2.2.2))) (ids (Ty.gs false flN) d.1) ∧ Apart (ids ringG r_2.1 ++ (ids i64T r_2.2.1 ++ (ids tkT r_2.2.2.1 ++ ids Ty.bool
  r_2.2.2.2))) (ids (Ty.gs false flN) d.1) → ∃ (x' : List (Int × Int × Int × Nat × List (Int × Int))), List.map unF x' = Prod.fst (Prod.fst (nextTkF (unA d))) ∧ (((d.1.1 = d.1.1 ∧ d.1.2 = d.1.2) ∧ d.2.1 = d.2.1 ∧ d.2.2 =
  d.2.2) ∧ szRgF (unL flN d.1.2) (1048576 : Int) = szRgF (unL flN d.1.2) (1048576 : Int) ∧ Prod.fst (Prod.snd (nextTkF (unL flG r.1, r.2))) = Prod.fst (Prod.snd (nextTkF (unL flG r.1, r.2))) ∧ Prod.snd (Prod.snd
  (Prod.snd (nextTkF (unL flG r.1, r.2)))) = Prod.snd (Prod.snd (Prod.snd (nextTkF (unL flG r.1, r.2)))) ∧ Prod.fst (Prod.snd (nextTkF (unA d))) = Prod.fst (Prod.snd (nextTkF (unA d))) ∧ Prod.snd (Prod.snd (Prod.snd
  (nextTkF (unA d)))) = Prod.snd (Prod.snd (Prod.snd (nextTkF (unA d)))) ∧ endF x_1 (1 : Int) = endF x_1 (1 : Int) ∧ r_2.2.1 = Prod.fst (Prod.snd (nextTkF (unA d))) ∧ r_2.2.2.2 = Prod.snd (Prod.snd (Prod.snd (nextTkF
  (unA d)))) ∧ r_2.1.2.1 = Prod.fst (Prod.snd (Prod.fst (nextTkF (unA d)))) ∧ r_2.1.2.2 = Prod.snd (Prod.snd (Prod.fst (nextTkF (unA d))))) ∧ ((d.1.1 = d.1.1 ∧ d.1.2 = d.1.2) ∧ d.2.1 = d.2.1 ∧ d.2.2 = d.2.2) ∧ x.1 = x.1
  ∧ (Prod.fst (Prod.snd (Prod.fst (nextTkF (unA d)))) = Prod.fst (Prod.snd (Prod.fst (nextTkF (unA d)))) ∧ Prod.snd (Prod.snd (Prod.fst (nextTkF (unA d)))) = Prod.snd (Prod.snd (Prod.fst (nextTkF (unA d))))) ∧ (Prod.fst
  (Prod.fst (Prod.snd (Prod.snd (nextTkF (unA d))))) = Prod.fst (Prod.fst (Prod.snd (Prod.snd (nextTkF (unA d))))) ∧ Prod.snd (Prod.fst (Prod.snd (Prod.snd (nextTkF (unA d))))) = Prod.snd (Prod.fst (Prod.snd (Prod.snd
  (nextTkF (unA d)))))) ∧ markF x_1 (1 : Int) = markF x_1 (1 : Int) ∧ (Prod.fst (Prod.snd (Prod.fst (nextTkF (unA d)))) = Prod.fst (Prod.snd (Prod.fst (nextTkF (unA d)))) ∧ Prod.snd (Prod.snd (Prod.fst (nextTkF (unA
  d)))) = Prod.snd (Prod.snd (Prod.fst (nextTkF (unA d))))) ∧ (Prod.fst (Prod.fst (Prod.snd (Prod.snd (nextTkF (unA d))))) = Prod.fst (Prod.fst (Prod.snd (Prod.snd (nextTkF (unA d))))) ∧ Prod.snd (Prod.fst (Prod.snd
  (Prod.snd (nextTkF (unA d))))) = Prod.snd (Prod.fst (Prod.snd (Prod.snd (nextTkF (unA d)))))) ∧ r_2.1.1 = x' ∧ (r_2.1.2.1 = Prod.fst (Prod.snd (Prod.fst (nextTkF (unA d)))) ∧ r_2.1.2.2 = Prod.snd (Prod.snd (Prod.fst
  (nextTkF (unA d))))) ∧ r_2.2.2.1.1 = Prod.fst (Prod.fst (Prod.snd (Prod.snd (nextTkF (unA d))))) ∧ r_2.2.2.1.2 = Prod.snd (Prod.fst (Prod.snd (Prod.snd (nextTkF (unA d)))))) ∧ ∀ (x_3 : List (Int × Int × Int × Nat ×
  List (Int × Int))), List.map unF x_3 = Prod.fst (Prod.fst (nextTkF (unA d))) → True ∧ ((!eqRg (unL flG x_3, Prod.snd (Prod.fst (nextTkF (unA d)))) (unL flN x.1, Prod.snd (Prod.fst (nextTkF (unA d))))) = true → false =
  true) ∧ ((!eqRg (unL flG x_3, Prod.snd (Prod.fst (nextTkF (unA d)))) (unL flN x.1, Prod.snd (Prod.fst (nextTkF (unA d))))) = false → ((!decide (Prod.fst (Prod.snd (nextTkF (unA d))) = Prod.fst (Prod.snd (nextTkF (unL
  flG r.1, r.2))))) = true → false = true) ∧ ((!decide (Prod.fst (Prod.snd (nextTkF (unA d))) = Prod.fst (Prod.snd (nextTkF (unL flG r.1, r.2))))) = false → True ∧ ((!decide (Prod.fst (Prod.snd (Prod.snd (nextTkF (unA
  d)))) = Prod.fst (Prod.snd (Prod.snd (nextTkF (unA d)))))) = true → false = true) ∧ ((!decide (Prod.fst (Prod.snd (Prod.snd (nextTkF (unA d)))) = Prod.fst (Prod.snd (Prod.snd (nextTkF (unA d)))))) = false → ((!Prod.snd
  (Prod.snd (Prod.snd (nextTkF (unA d)))) == Prod.snd (Prod.snd (Prod.snd (nextTkF (unL flG r.1, r.2))))) = true → false = true) ∧ ((!Prod.snd (Prod.snd (Prod.snd (nextTkF (unA d)))) == Prod.snd (Prod.snd (Prod.snd
  (nextTkF (unL flG r.1, r.2))))) = false → True ∧ (Ty.wf i64T (neg1 (heldF (unL flG (markF x_1 (1 : Int))) (1 : Int))) → (decide (neg1 (heldF (unL flG (markF x_1 (1 : Int))) (1 : Int)) < (0 : Int)) = true → false =
  true) ∧ (decide (neg1 (heldF (unL flG (markF x_1 (1 : Int))) (1 : Int)) < (0 : Int)) = false → ((!decide (neg1 (heldF (unL flG (markF x_1 (1 : Int))) (1 : Int)) = endF x_1 (1 : Int))) = true → false = true) ∧ ((!decide
  (neg1 (heldF (unL flG (markF x_1 (1 : Int))) (1 : Int)) = endF x_1 (1 : Int))) = false → true = true))))))))))))))))))))))) := by
  intro d hw _
  simp only [Int.toNat_natCast, exists_const, and_true, true_and, implies_true, decide_eq_true_eq, decide_eq_false_iff_not, Bool.not_eq_true', Bool.not_eq_false', beq_iff_eq, forall_const]
  simp only [unA, unN1, unG1', idN1, idG1', idG3', unG2, idBool, unBool, idTk, unTk1, unI1, idI1, List.append_nil, List.nil_append, true_and, and_true]
  intro e d1
  have hT : totF (d.1.2.map unF) ≤ 1048576 := szRg_tot (ringA_len hw).1 (ringA_len hw).2 d1
  have hF := tot_fls hT
  have hW := next_tot (r := (d.1.2.map unF, d.2)) hT
  refine ⟨hF, fun r hr _ _ _ => ?_⟩
  obtain ⟨q1, q2⟩ := eq1' hr
  simp only [q1, q2, true_and, and_true]
  clear hr q1 q2
  repeat' (first
    | assumption
    | exact trivial
    | exact fls_eq ‹_› hF
    | exact no1 ‹_› ‹_› ‹_› | exact no2 ‹_› ‹_› | exact no3 ‹_› | exact no4 ‹_› ‹_› | exact no5 hW ‹_› ‹_› | exact no6 hW ‹_› ‹_› | exact no7 ‹_› ‹_› ‹_›
    | exact ap1 ‹_› | exact ap2 ‹_› | exact ap3 ‹_› | exact ap4 ‹_› | exact ap5 ‹_› | exact ap6 ‹_› | exact ap7 ‹_› | exact ap8 ‹_›
    | exact RJ1.fls ‹_›
    | with_reducible apply And.intro
    | intro _)
  all_goals (first
    | exact absurd trivial ‹¬True›
    | exact fls_eq (eq1 ‹_›).1 hF
    | (obtain ⟨⟨_, _, _⟩, _⟩ := ‹(_ ∧ _ ∧ _) ∧ _›
       have q := eq1 ‹(List.map unF _, _, _) = _›
       refine ⟨(_, _), ?_, rfl, rfl, q.2.1, q.2.2⟩
       refine ⟨hT, by assumption, q.1, by assumption, ?_, ?_⟩ <;> first | assumption | exact apart_symm ‹_›)
    | (obtain ⟨⟨_, _, _⟩, _⟩ := ‹(_ ∧ _ ∧ _) ∧ _›
       have q := tk4 ‹((List.map unF _, _, _), _, _, _) = _›
       rw [RJ1.arg ‹_›] at q
       refine ⟨_, ?_, ⟨q.2.2.2.1, q.2.2.2.2.2, q.2.1, q.2.2.1⟩, rfl, ⟨q.2.1, q.2.2.1⟩, by rw [q.2.2.2.2.1], by rw [q.2.2.2.2.1]⟩
       refine ⟨q.1, ?_, ?_, ?_, ?_⟩ <;> first | assumption | exact apart_symm ‹_›)
    | (have q := tk4 ‹((List.map unF _, _, _), _, _, _) = nextTkF (List.map unF _, _)›
       have q0 := eq1' ‹(List.map unF _, _, _) = (List.map unF d.1.2, d.2)›
       rw [q0.1, q0.2] at q
       exact ⟨_, q.1, ⟨q.2.2.2.1, q.2.2.2.2.2, q.2.1, q.2.2.1⟩, rfl, ⟨q.2.1, q.2.2.1⟩, by rw [q.2.2.2.2.1], by rw [q.2.2.2.2.1]⟩))
end Go.SF
