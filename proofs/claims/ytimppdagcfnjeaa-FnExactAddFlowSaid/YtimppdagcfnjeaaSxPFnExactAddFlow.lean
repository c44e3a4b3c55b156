/- The law of AddFlow. No condition. -/
import Derived.Test.YtimppdagcfnjeaaSxC
import Derived.Test.YtimppdagcfnjeaaSxPRingV
namespace Go.SF
open Go.SX Go
set_option linter.unusedVariables false
set_option linter.unusedSimpArgs false
set_option maxRecDepth 100000
set_option maxHeartbeats 0
theorem v_FnExactAddFlow :
  ∀ (d : ((Nat × List (Int × Int × Int × Nat × List (Int × Int))) × Int × Bool) × Int × Int), Ty.wf ringA (Prod.fst d) ∧ Ty.wf i64T (Prod.fst (Prod.snd d)) ∧ Ty.wf i64T (Prod.snd (Prod.snd d)) → True → True ∧ (Ty.wf i64T
  (szRgF (unL flN (Prod.snd (Prod.fst (Prod.fst d)))) (1048576 : Int)) → (decide (szRgF (unL flN (Prod.snd (Prod.fst (Prod.fst d)))) (1048576 : Int) < (0 : Int)) = true → true = true) ∧ (decide (szRgF (unL flN (Prod.snd
  (Prod.fst (Prod.fst d)))) (1048576 : Int) < (0 : Int)) = false → FlsP (unL flN (Prod.snd (Prod.fst (Prod.fst d)))) ∧ ∀ (r : List (Int × Int × Int × Nat × List (Int × Int)) × Int × Bool), unD ringG r = (unL flN
  (Prod.snd (Prod.fst (Prod.fst d))), Prod.snd (Prod.fst d)) → List.Nodup (ids ringG r) → Ty.wf ringG r → Apart (ids ringG r) (ids (Ty.gs false flN) (Prod.fst (Prod.fst d))) ∧ Apart (ids ringG r) (ids (Ty.gs false flN)
  (Prod.fst (Prod.fst d))) ∧ Apart (ids ringG r) (ids (Ty.gs false flN) (Prod.fst (Prod.fst d))) ∧ Apart (ids ringG r) (ids (Ty.gs false flN) (Prod.fst (Prod.fst d))) → FlsP (unL flG (Prod.fst r)) ∧ (Ty.wf ringT
  (Prod.fst (addFlF (unL flG (Prod.fst r), Prod.snd r) (Prod.fst (Prod.snd d)) (Prod.snd (Prod.snd d)))) ∧ Ty.wf Ty.bool (Prod.snd (addFlF (unL flG (Prod.fst r), Prod.snd r) (Prod.fst (Prod.snd d)) (Prod.snd (Prod.snd
  d)))) → (∀ (xs' : List (Int × Int × Int × Nat × List (Int × Int))), unL (Ty.st (Ty.pr (Ty.int IntKind.i64) (Ty.pr (Ty.int IntKind.i64) (Ty.pr (Ty.int IntKind.i64) (Ty.st (Ty.gs false (Ty.st (Ty.pr (Ty.int IntKind.i64)
  (Ty.int IntKind.i64))))))))) xs' = Prod.fst (Prod.fst (addFlF (unL flG (Prod.fst r), Prod.snd r) (Prod.fst (Prod.snd d)) (Prod.snd (Prod.snd d)))) → FlsP (unL flN (Prod.snd (Prod.fst (Prod.fst d)))) ∧ ∀ (r_1 : List
  (Int × Int × Int × Nat × List (Int × Int)) × Int × Bool), unD ringG r_1 = (unL flN (Prod.snd (Prod.fst (Prod.fst d))), Prod.snd (Prod.fst d)) → List.Nodup (ids ringG r_1) → Ty.wf ringG r_1 → (Apart (ids ringG r_1) (ids
  (Ty.gs false flN) (Prod.fst (Prod.fst d))) ∧ Apart (ids ringG r_1) (idsL flG (Prod.fst r)) ∧ Apart (ids ringG r_1) (idsL (Ty.st (Ty.pr (Ty.int IntKind.i64) (Ty.pr (Ty.int IntKind.i64) (Ty.pr (Ty.int IntKind.i64) (Ty.st
  (Ty.gs false (Ty.st (Ty.pr (Ty.int IntKind.i64) (Ty.int IntKind.i64))))))))) xs')) ∧ Apart (ids ringG r_1) (ids (Ty.gs false flN) (Prod.fst (Prod.fst d))) ∧ Apart (ids ringG r_1) (ids (Ty.gs false flN) (Prod.fst
  (Prod.fst d))) ∧ Apart (ids ringG r_1) (ids (Ty.gs false flN) (Prod.fst (Prod.fst d))) ∧ Apart (ids ringG r_1) (ids (Ty.gs false flN) (Prod.fst (Prod.fst d))) → ∃ (x' : List (Int × Int × Int × Nat × List (Int × Int)) ×
  List (Int × Int × Int × Nat × List (Int × Int))), RJ1 (Prod.fst (addFlF (unA (Prod.fst d)) (Prod.fst (Prod.snd d)) (Prod.snd (Prod.snd d)))) (Prod.fst d) x' ∧ (((Prod.fst (Prod.fst (Prod.fst d)) = Prod.fst (Prod.fst
  (Prod.fst d)) ∧ Prod.snd (Prod.fst (Prod.fst d)) = Prod.snd (Prod.fst (Prod.fst d))) ∧ Prod.fst (Prod.snd (Prod.fst d)) = Prod.fst (Prod.snd (Prod.fst d)) ∧ Prod.snd (Prod.snd (Prod.fst d)) = Prod.snd (Prod.snd
  (Prod.fst d))) ∧ Prod.fst (Prod.snd d) = Prod.fst (Prod.snd d) ∧ Prod.snd (Prod.snd d) = Prod.snd (Prod.snd d) ∧ szRgF (unL flN (Prod.snd (Prod.fst (Prod.fst d)))) (1048576 : Int) = szRgF (unL flN (Prod.snd (Prod.fst
  (Prod.fst d)))) (1048576 : Int) ∧ Prod.snd (addFlF (unL flG (Prod.fst r), Prod.snd r) (Prod.fst (Prod.snd d)) (Prod.snd (Prod.snd d))) = Prod.snd (addFlF (unL flG (Prod.fst r), Prod.snd r) (Prod.fst (Prod.snd d))
  (Prod.snd (Prod.snd d)))) ∧ ((Prod.fst (Prod.fst (Prod.fst d)) = Prod.fst (Prod.fst (Prod.fst d)) ∧ Prod.snd (Prod.fst (Prod.fst d)) = Prod.snd (Prod.fst (Prod.fst d))) ∧ Prod.fst (Prod.snd (Prod.fst d)) = Prod.fst
  (Prod.snd (Prod.fst d)) ∧ Prod.snd (Prod.snd (Prod.fst d)) = Prod.snd (Prod.snd (Prod.fst d))) ∧ xs' = Prod.fst x' ∧ (Prod.fst (Prod.snd (Prod.fst (addFlF (unL flG (Prod.fst r), Prod.snd r) (Prod.fst (Prod.snd d))
  (Prod.snd (Prod.snd d))))) = Prod.fst (Prod.snd (Prod.fst (addFlF (unA (Prod.fst d)) (Prod.fst (Prod.snd d)) (Prod.snd (Prod.snd d))))) ∧ Prod.snd (Prod.snd (Prod.fst (addFlF (unL flG (Prod.fst r), Prod.snd r)
  (Prod.fst (Prod.snd d)) (Prod.snd (Prod.snd d))))) = Prod.snd (Prod.snd (Prod.fst (addFlF (unA (Prod.fst d)) (Prod.fst (Prod.snd d)) (Prod.snd (Prod.snd d)))))) ∧ Prod.fst r_1 = Prod.snd x' ∧ Prod.fst (Prod.snd r_1) =
  Prod.fst (Prod.snd (Prod.fst d)) ∧ Prod.snd (Prod.snd r_1) = Prod.snd (Prod.snd (Prod.fst d))) ∧ ∀ (x : List (Int × Int × Int × Nat × List (Int × Int)) × List (Int × Int × Int × Nat × List (Int × Int))), RJ1 (Prod.fst
  (addFlF (unA (Prod.fst d)) (Prod.fst (Prod.snd d)) (Prod.snd (Prod.snd d)))) (Prod.fst d) x → (FlsP (unL flG (Prod.snd x)) ∧ ∀ (r_1 : (List (Int × Int × Int × Nat × List (Int × Int)) × Int × Bool) × Bool), (unD ringG
  (Prod.fst r_1), unD Ty.bool (Prod.snd r_1)) = addFlF (unL flG (Prod.snd x), Prod.snd (Prod.fst d)) (Prod.fst (Prod.snd d)) (Prod.snd (Prod.snd d)) → List.Nodup (ids ringG (Prod.fst r_1) ++ ids Ty.bool (Prod.snd r_1)) →
  Ty.wf ringG (Prod.fst r_1) ∧ Ty.wf Ty.bool (Prod.snd r_1) → (Apart (ids ringG (Prod.fst r_1) ++ ids Ty.bool (Prod.snd r_1)) (ids (Ty.gs false flN) (Prod.fst (Prod.fst d))) ∧ Apart (ids ringG (Prod.fst r_1) ++ ids
  Ty.bool (Prod.snd r_1)) (idsL flN (Prod.fst x)) ∧ Apart (ids ringG (Prod.fst r_1) ++ ids Ty.bool (Prod.snd r_1)) (idsL flG (Prod.snd x))) ∧ Apart (ids ringG (Prod.fst r_1) ++ ids Ty.bool (Prod.snd r_1)) (ids (Ty.gs
  false flN) (Prod.fst (Prod.fst d))) → ∃ (x' : List (Int × Int × Int × Nat × List (Int × Int))), RJ2 (Prod.fst (addFlF (unA (Prod.fst d)) (Prod.fst (Prod.snd d)) (Prod.snd (Prod.snd d)))) (Prod.fst d) x x' ∧ (((Prod.fst
  (Prod.fst (Prod.fst d)) = Prod.fst (Prod.fst (Prod.fst d)) ∧ Prod.snd (Prod.fst (Prod.fst d)) = Prod.snd (Prod.fst (Prod.fst d))) ∧ Prod.fst (Prod.snd (Prod.fst d)) = Prod.fst (Prod.snd (Prod.fst d)) ∧ Prod.snd
  (Prod.snd (Prod.fst d)) = Prod.snd (Prod.snd (Prod.fst d))) ∧ Prod.fst (Prod.snd d) = Prod.fst (Prod.snd d) ∧ Prod.snd (Prod.snd d) = Prod.snd (Prod.snd d) ∧ szRgF (unL flN (Prod.snd (Prod.fst (Prod.fst d)))) (1048576
  : Int) = szRgF (unL flN (Prod.snd (Prod.fst (Prod.fst d)))) (1048576 : Int) ∧ Prod.snd (addFlF (unL flG (Prod.fst r), Prod.snd r) (Prod.fst (Prod.snd d)) (Prod.snd (Prod.snd d))) = Prod.snd (addFlF (unL flG (Prod.fst
  r), Prod.snd r) (Prod.fst (Prod.snd d)) (Prod.snd (Prod.snd d))) ∧ Prod.snd r_1 = Prod.snd (addFlF (unA (Prod.fst d)) (Prod.fst (Prod.snd d)) (Prod.snd (Prod.snd d))) ∧ Prod.fst (Prod.snd (Prod.fst r_1)) = Prod.fst
  (Prod.snd (Prod.fst (addFlF (unA (Prod.fst d)) (Prod.fst (Prod.snd d)) (Prod.snd (Prod.snd d))))) ∧ Prod.snd (Prod.snd (Prod.fst r_1)) = Prod.snd (Prod.snd (Prod.fst (addFlF (unA (Prod.fst d)) (Prod.fst (Prod.snd d))
  (Prod.snd (Prod.snd d)))))) ∧ ((Prod.fst (Prod.fst (Prod.fst d)) = Prod.fst (Prod.fst (Prod.fst d)) ∧ Prod.snd (Prod.fst (Prod.fst d)) = Prod.snd (Prod.fst (Prod.fst d))) ∧ Prod.fst (Prod.snd (Prod.fst d)) = Prod.fst
  (Prod.snd (Prod.fst d)) ∧ Prod.snd (Prod.snd (Prod.fst d)) = Prod.snd (Prod.snd (Prod.fst d))) ∧ Prod.fst x = Prod.fst x ∧ (Prod.fst (Prod.snd (Prod.fst (addFlF (unA (Prod.fst d)) (Prod.fst (Prod.snd d)) (Prod.snd
  (Prod.snd d))))) = Prod.fst (Prod.snd (Prod.fst (addFlF (unA (Prod.fst d)) (Prod.fst (Prod.snd d)) (Prod.snd (Prod.snd d))))) ∧ Prod.snd (Prod.snd (Prod.fst (addFlF (unA (Prod.fst d)) (Prod.fst (Prod.snd d)) (Prod.snd
  (Prod.snd d))))) = Prod.snd (Prod.snd (Prod.fst (addFlF (unA (Prod.fst d)) (Prod.fst (Prod.snd d)) (Prod.snd (Prod.snd d)))))) ∧ Prod.snd x = Prod.snd x ∧ (Prod.fst (Prod.snd (Prod.fst d)) = Prod.fst (Prod.snd
  (Prod.fst d)) ∧ Prod.snd (Prod.snd (Prod.fst d)) = Prod.snd (Prod.snd (Prod.fst d))) ∧ Prod.fst (Prod.fst r_1) = x' ∧ Prod.fst (Prod.snd (Prod.fst r_1)) = Prod.fst (Prod.snd (Prod.fst (addFlF (unA (Prod.fst d))
  (Prod.fst (Prod.snd d)) (Prod.snd (Prod.snd d))))) ∧ Prod.snd (Prod.snd (Prod.fst r_1)) = Prod.snd (Prod.snd (Prod.fst (addFlF (unA (Prod.fst d)) (Prod.fst (Prod.snd d)) (Prod.snd (Prod.snd d)))))) ∧ ∀ (x_1 : List (Int
  × Int × Int × Nat × List (Int × Int))), RJ2 (Prod.fst (addFlF (unA (Prod.fst d)) (Prod.fst (Prod.snd d)) (Prod.snd (Prod.snd d)))) (Prod.fst d) x x_1 → True ∧ ((!eqRg (unL flG x_1, Prod.snd (Prod.fst (addFlF (unA
  (Prod.fst d)) (Prod.fst (Prod.snd d)) (Prod.snd (Prod.snd d))))) (unL flN (Prod.fst x), Prod.snd (Prod.fst (addFlF (unA (Prod.fst d)) (Prod.fst (Prod.snd d)) (Prod.snd (Prod.snd d)))))) = true → false = true) ∧ ((!eqRg
  (unL flG x_1, Prod.snd (Prod.fst (addFlF (unA (Prod.fst d)) (Prod.fst (Prod.snd d)) (Prod.snd (Prod.snd d))))) (unL flN (Prod.fst x), Prod.snd (Prod.fst (addFlF (unA (Prod.fst d)) (Prod.fst (Prod.snd d)) (Prod.snd
  (Prod.snd d)))))) = false → ((!Prod.snd (addFlF (unA (Prod.fst d)) (Prod.fst (Prod.snd d)) (Prod.snd (Prod.snd d))) == Prod.snd (addFlF (unL flG (Prod.fst r), Prod.snd r) (Prod.fst (Prod.snd d)) (Prod.snd (Prod.snd
  d)))) = true → false = true) ∧ ((!Prod.snd (addFlF (unA (Prod.fst d)) (Prod.fst (Prod.snd d)) (Prod.snd (Prod.snd d))) == Prod.snd (addFlF (unL flG (Prod.fst r), Prod.snd r) (Prod.fst (Prod.snd d)) (Prod.snd (Prod.snd
  d)))) = false → FlsP (unL flN (Prod.snd (Prod.fst (Prod.fst d)))) ∧ True ∧ (Ty.wf ringT (unL flN (Prod.snd (Prod.fst (Prod.fst d))), Prod.snd (Prod.fst d)) → ((!eqRg (unL flG (Prod.snd x), Prod.snd (Prod.fst d)) (unL
  flN (Prod.snd (Prod.fst (Prod.fst d))), Prod.snd (Prod.fst d))) = true → false = true) ∧ ((!eqRg (unL flG (Prod.snd x), Prod.snd (Prod.fst d)) (unL flN (Prod.snd (Prod.fst (Prod.fst d))), Prod.snd (Prod.fst d))) =
  false → True ∧ List.Nodup (ids ringG (Prod.snd x, Prod.snd (Prod.fst d))) ∧ ((Apart (ids ringG (Prod.snd x, Prod.snd (Prod.fst d))) (idsL flN (Prod.fst x)) ∧ Apart (ids ringG (Prod.snd x, Prod.snd (Prod.fst d))) (idsL
  flG x_1)) ∧ (Apart (ids ringG (Prod.snd x, Prod.snd (Prod.fst d))) (ids (Ty.gs false flN) (Prod.fst (Prod.fst d))) ∧ Apart (ids ringG (Prod.snd x, Prod.snd (Prod.fst d))) (ids (Ty.gs false flN) (Prod.fst (Prod.fst
  d)))) ∧ Apart (ids ringG (Prod.snd x, Prod.snd (Prod.fst d))) (ids (Ty.gs false flN) (Prod.fst (Prod.fst d)))) ∧ (decide (endF (Prod.snd x) (1 : Int) < (0 : Int)) = true → false = true) ∧ (decide (endF (Prod.snd x) (1
  : Int) < (0 : Int)) = false → True ∧ ((!eqRg (unL flG x_1, Prod.snd (Prod.fst (addFlF (unA (Prod.fst d)) (Prod.fst (Prod.snd d)) (Prod.snd (Prod.snd d))))) (unL flN (Prod.fst x), Prod.snd (Prod.fst (addFlF (unA
  (Prod.fst d)) (Prod.fst (Prod.snd d)) (Prod.snd (Prod.snd d)))))) = true → false = true) ∧ ((!eqRg (unL flG x_1, Prod.snd (Prod.fst (addFlF (unA (Prod.fst d)) (Prod.fst (Prod.snd d)) (Prod.snd (Prod.snd d))))) (unL flN
  (Prod.fst x), Prod.snd (Prod.fst (addFlF (unA (Prod.fst d)) (Prod.fst (Prod.snd d)) (Prod.snd (Prod.snd d)))))) = false → ((!Prod.snd (addFlF (unA (Prod.fst d)) (Prod.fst (Prod.snd d)) (Prod.snd (Prod.snd d))) ==
  Prod.snd (addFlF (unL flG (Prod.fst r), Prod.snd r) (Prod.fst (Prod.snd d)) (Prod.snd (Prod.snd d)))) = true → false = true) ∧ ((!Prod.snd (addFlF (unA (Prod.fst d)) (Prod.fst (Prod.snd d)) (Prod.snd (Prod.snd d))) ==
  Prod.snd (addFlF (unL flG (Prod.fst r), Prod.snd r) (Prod.fst (Prod.snd d)) (Prod.snd (Prod.snd d)))) = false → True ∧ List.Nodup (ids ringG (x_1, Prod.snd (Prod.fst (addFlF (unA (Prod.fst d)) (Prod.fst (Prod.snd d))
  (Prod.snd (Prod.snd d)))))) ∧ ((Apart (ids ringG (x_1, Prod.snd (Prod.fst (addFlF (unA (Prod.fst d)) (Prod.fst (Prod.snd d)) (Prod.snd (Prod.snd d)))))) (idsL flN (Prod.fst x)) ∧ Apart (ids ringG (x_1, Prod.snd
  (Prod.fst (addFlF (unA (Prod.fst d)) (Prod.fst (Prod.snd d)) (Prod.snd (Prod.snd d)))))) (idsL flG (markF (Prod.snd x) (1 : Int)))) ∧ (Apart (ids ringG (x_1, Prod.snd (Prod.fst (addFlF (unA (Prod.fst d)) (Prod.fst
  (Prod.snd d)) (Prod.snd (Prod.snd d)))))) (ids (Ty.gs false flN) (Prod.fst (Prod.fst d))) ∧ Apart (ids ringG (x_1, Prod.snd (Prod.fst (addFlF (unA (Prod.fst d)) (Prod.fst (Prod.snd d)) (Prod.snd (Prod.snd d)))))) (ids
  (Ty.gs false flN) (Prod.fst (Prod.fst d)))) ∧ Apart (ids ringG (x_1, Prod.snd (Prod.fst (addFlF (unA (Prod.fst d)) (Prod.fst (Prod.snd d)) (Prod.snd (Prod.snd d)))))) (ids (Ty.gs false flN) (Prod.fst (Prod.fst d)))) ∧
  True ∧ (Ty.wf i64T (neg1 (heldF (unL flG (markF x_1 (1 : Int))) (1 : Int))) → (decide (neg1 (heldF (unL flG (markF x_1 (1 : Int))) (1 : Int)) < (0 : Int)) = true → false = true) ∧ (decide (neg1 (heldF (unL flG (markF
  x_1 (1 : Int))) (1 : Int)) < (0 : Int)) = false → (((!decide (neg1 (heldF (unL flG (markF x_1 (1 : Int))) (1 : Int)) = endF x_1 (1 : Int))) = true → false = true) ∧ ((!decide (neg1 (heldF (unL flG (markF x_1 (1 :
  Int))) (1 : Int)) = endF x_1 (1 : Int))) = false → ∃ (x' : Unit), (RJ1 (Prod.fst (addFlF (unA (Prod.fst d)) (Prod.fst (Prod.snd d)) (Prod.snd (Prod.snd d)))) (Prod.fst d) x ∧ RJ2 (Prod.fst (addFlF (unA (Prod.fst d))
  (Prod.fst (Prod.snd d)) (Prod.snd (Prod.snd d)))) (Prod.fst d) x x_1) ∧ (((Prod.fst (Prod.fst (Prod.fst d)) = Prod.fst (Prod.fst (Prod.fst d)) ∧ Prod.snd (Prod.fst (Prod.fst d)) = Prod.snd (Prod.fst (Prod.fst d))) ∧
  Prod.fst (Prod.snd (Prod.fst d)) = Prod.fst (Prod.snd (Prod.fst d)) ∧ Prod.snd (Prod.snd (Prod.fst d)) = Prod.snd (Prod.snd (Prod.fst d))) ∧ Prod.fst (Prod.snd d) = Prod.fst (Prod.snd d) ∧ Prod.snd (Prod.snd d) =
  Prod.snd (Prod.snd d) ∧ szRgF (unL flN (Prod.snd (Prod.fst (Prod.fst d)))) (1048576 : Int) = szRgF (unL flN (Prod.snd (Prod.fst (Prod.fst d)))) (1048576 : Int) ∧ Prod.snd (addFlF (unL flG (Prod.fst r), Prod.snd r)
  (Prod.fst (Prod.snd d)) (Prod.snd (Prod.snd d))) = Prod.snd (addFlF (unL flG (Prod.fst r), Prod.snd r) (Prod.fst (Prod.snd d)) (Prod.snd (Prod.snd d))) ∧ Prod.snd (addFlF (unA (Prod.fst d)) (Prod.fst (Prod.snd d))
  (Prod.snd (Prod.snd d))) = Prod.snd (addFlF (unA (Prod.fst d)) (Prod.fst (Prod.snd d)) (Prod.snd (Prod.snd d))) ∧ endF x_1 (1 : Int) = endF x_1 (1 : Int)) ∧ ((Prod.fst (Prod.fst (Prod.fst d)) = Prod.fst (Prod.fst
  (Prod.fst d)) ∧ Prod.snd (Prod.fst (Prod.fst d)) = Prod.snd (Prod.fst (Prod.fst d))) ∧ Prod.fst (Prod.snd (Prod.fst d)) = Prod.fst (Prod.snd (Prod.fst d)) ∧ Prod.snd (Prod.snd (Prod.fst d)) = Prod.snd (Prod.snd
  (Prod.fst d))) ∧ Prod.fst x = Prod.fst x ∧ (Prod.fst (Prod.snd (Prod.fst (addFlF (unA (Prod.fst d)) (Prod.fst (Prod.snd d)) (Prod.snd (Prod.snd d))))) = Prod.fst (Prod.snd (Prod.fst (addFlF (unA (Prod.fst d)) (Prod.fst
  (Prod.snd d)) (Prod.snd (Prod.snd d))))) ∧ Prod.snd (Prod.snd (Prod.fst (addFlF (unA (Prod.fst d)) (Prod.fst (Prod.snd d)) (Prod.snd (Prod.snd d))))) = Prod.snd (Prod.snd (Prod.fst (addFlF (unA (Prod.fst d)) (Prod.fst
  (Prod.snd d)) (Prod.snd (Prod.snd d)))))) ∧ markF x_1 (1 : Int) = markF x_1 (1 : Int) ∧ Prod.fst (Prod.snd (Prod.fst (addFlF (unA (Prod.fst d)) (Prod.fst (Prod.snd d)) (Prod.snd (Prod.snd d))))) = Prod.fst (Prod.snd
  (Prod.fst (addFlF (unA (Prod.fst d)) (Prod.fst (Prod.snd d)) (Prod.snd (Prod.snd d))))) ∧ Prod.snd (Prod.snd (Prod.fst (addFlF (unA (Prod.fst d)) (Prod.fst (Prod.snd d)) (Prod.snd (Prod.snd d))))) = Prod.snd (Prod.snd
  (Prod.fst (addFlF (unA (Prod.fst d)) (Prod.fst (Prod.snd d)) (Prod.snd (Prod.snd d))))))) ∧ ∀ (x_2 : Unit), RJ1 (Prod.fst (addFlF (unA (Prod.fst d)) (Prod.fst (Prod.snd d)) (Prod.snd (Prod.snd d)))) (Prod.fst d) x ∧
  RJ2 (Prod.fst (addFlF (unA (Prod.fst d)) (Prod.fst (Prod.snd d)) (Prod.snd (Prod.snd d)))) (Prod.fst d) x x_1 → (FlsP (unL flN (Prod.snd (Prod.fst (Prod.fst d)))) ∧ ∀ (r_1 : List (Int × Int × Int × Nat × List (Int ×
  Int)) × Int × Bool), unD ringG r_1 = (unL flN (Prod.snd (Prod.fst (Prod.fst d))), Prod.snd (Prod.fst d)) → List.Nodup (ids ringG r_1) → Ty.wf ringG r_1 → (Apart (ids ringG r_1) (ids (Ty.gs false flN) (Prod.fst
  (Prod.fst d))) ∧ Apart (ids ringG r_1) (idsL flN (Prod.fst x)) ∧ Apart (ids ringG r_1) (idsL flG (markF x_1 (1 : Int)))) ∧ Apart (ids ringG r_1) (ids (Ty.gs false flN) (Prod.fst (Prod.fst d))) ∧ Apart (ids ringG r_1)
  (ids (Ty.gs false flN) (Prod.fst (Prod.fst d))) → FlsP (unL flG (Prod.fst r_1)) ∧ ∀ (r_2 : (List (Int × Int × Int × Nat × List (Int × Int)) × Int × Bool) × Bool), (unD ringG (Prod.fst r_2), unD Ty.bool (Prod.snd r_2))
  = addFlF (unL flG (Prod.fst r_1), Prod.snd r_1) (Prod.fst (Prod.snd d)) (Prod.snd (Prod.snd d)) → List.Nodup (ids ringG (Prod.fst r_2) ++ ids Ty.bool (Prod.snd r_2)) → Ty.wf ringG (Prod.fst r_2) ∧ Ty.wf Ty.bool
  (Prod.snd r_2) → (Apart (ids ringG (Prod.fst r_2) ++ ids Ty.bool (Prod.snd r_2)) (ids (Ty.gs false flN) (Prod.fst (Prod.fst d))) ∧ Apart (ids ringG (Prod.fst r_2) ++ ids Ty.bool (Prod.snd r_2)) (idsL flN (Prod.fst x))
  ∧ Apart (ids ringG (Prod.fst r_2) ++ ids Ty.bool (Prod.snd r_2)) (idsL flG (markF x_1 (1 : Int))) ∧ Apart (ids ringG (Prod.fst r_2) ++ ids Ty.bool (Prod.snd r_2)) (idsL flG (Prod.fst r_1))) ∧ Apart (ids ringG (Prod.fst
  r_2) ++ ids Ty.bool (Prod.snd r_2)) (ids (Ty.gs false flN) (Prod.fst (Prod.fst d))) ∧ Apart (ids ringG (Prod.fst r_2) ++ ids Ty.bool (Prod.snd r_2)) (ids (Ty.gs false flN) (Prod.fst (Prod.fst d))) → ∃ (x' : List (Int ×
  Int × Int × Nat × List (Int × Int))), List.map unF x' = Prod.fst (Prod.fst (addFlF (unA (Prod.fst d)) (Prod.fst (Prod.snd d)) (Prod.snd (Prod.snd d)))) ∧ (((Prod.fst (Prod.fst (Prod.fst d)) = Prod.fst (Prod.fst
  (Prod.fst d)) ∧ Prod.snd (Prod.fst (Prod.fst d)) = Prod.snd (Prod.fst (Prod.fst d))) ∧ Prod.fst (Prod.snd (Prod.fst d)) = Prod.fst (Prod.snd (Prod.fst d)) ∧ Prod.snd (Prod.snd (Prod.fst d)) = Prod.snd (Prod.snd
  (Prod.fst d))) ∧ Prod.fst (Prod.snd d) = Prod.fst (Prod.snd d) ∧ Prod.snd (Prod.snd d) = Prod.snd (Prod.snd d) ∧ szRgF (unL flN (Prod.snd (Prod.fst (Prod.fst d)))) (1048576 : Int) = szRgF (unL flN (Prod.snd (Prod.fst
  (Prod.fst d)))) (1048576 : Int) ∧ Prod.snd (addFlF (unL flG (Prod.fst r), Prod.snd r) (Prod.fst (Prod.snd d)) (Prod.snd (Prod.snd d))) = Prod.snd (addFlF (unL flG (Prod.fst r), Prod.snd r) (Prod.fst (Prod.snd d))
  (Prod.snd (Prod.snd d))) ∧ endF x_1 (1 : Int) = endF x_1 (1 : Int) ∧ Prod.snd r_2 = Prod.snd (addFlF (unA (Prod.fst d)) (Prod.fst (Prod.snd d)) (Prod.snd (Prod.snd d))) ∧ Prod.fst (Prod.snd (Prod.fst r_2)) = Prod.fst
  (Prod.snd (Prod.fst (addFlF (unA (Prod.fst d)) (Prod.fst (Prod.snd d)) (Prod.snd (Prod.snd d))))) ∧ Prod.snd (Prod.snd (Prod.fst r_2)) = Prod.snd (Prod.snd (Prod.fst (addFlF (unA (Prod.fst d)) (Prod.fst (Prod.snd d))
  (Prod.snd (Prod.snd d)))))) ∧ ((Prod.fst (Prod.fst (Prod.fst d)) = Prod.fst (Prod.fst (Prod.fst d)) ∧ Prod.snd (Prod.fst (Prod.fst d)) = Prod.snd (Prod.fst (Prod.fst d))) ∧ Prod.fst (Prod.snd (Prod.fst d)) = Prod.fst
  (Prod.snd (Prod.fst d)) ∧ Prod.snd (Prod.snd (Prod.fst d)) = Prod.snd (Prod.snd (Prod.fst d))) ∧ Prod.fst x = Prod.fst x ∧ (Prod.fst (Prod.snd (Prod.fst (addFlF (unA (Prod.fst d)) (Prod.fst (Prod.snd d)) (Prod.snd
  (Prod.snd d))))) = Prod.fst (Prod.snd (Prod.fst (addFlF (unA (Prod.fst d)) (Prod.fst (Prod.snd d)) (Prod.snd (Prod.snd d))))) ∧ Prod.snd (Prod.snd (Prod.fst (addFlF (unA (Prod.fst d)) (Prod.fst (Prod.snd d)) (Prod.snd
  (Prod.snd d))))) = Prod.snd (Prod.snd (Prod.fst (addFlF (unA (Prod.fst d)) (Prod.fst (Prod.snd d)) (Prod.snd (Prod.snd d)))))) ∧ markF x_1 (1 : Int) = markF x_1 (1 : Int) ∧ (Prod.fst (Prod.snd (Prod.fst (addFlF (unA
  (Prod.fst d)) (Prod.fst (Prod.snd d)) (Prod.snd (Prod.snd d))))) = Prod.fst (Prod.snd (Prod.fst (addFlF (unA (Prod.fst d)) (Prod.fst (Prod.snd d)) (Prod.snd (Prod.snd d))))) ∧ Prod.snd (Prod.snd (Prod.fst (addFlF (unA
  (Prod.fst d)) (Prod.fst (Prod.snd d)) (Prod.snd (Prod.snd d))))) = Prod.snd (Prod.snd (Prod.fst (addFlF (unA (Prod.fst d)) (Prod.fst (Prod.snd d)) (Prod.snd (Prod.snd d)))))) ∧ Prod.fst (Prod.fst r_2) = x' ∧ Prod.fst
  (Prod.snd (Prod.fst r_2)) = Prod.fst (Prod.snd (Prod.fst (addFlF (unA (Prod.fst d)) (Prod.fst (Prod.snd d)) (Prod.snd (Prod.snd d))))) ∧ Prod.snd (Prod.snd (Prod.fst r_2)) = Prod.snd (Prod.snd (Prod.fst (addFlF (unA
  (Prod.fst d)) (Prod.fst (Prod.snd d)) (Prod.snd (Prod.snd d)))))) ∧ ∀ (x_3 : List (Int × Int × Int × Nat × List (Int × Int))), List.map unF x_3 = Prod.fst (Prod.fst (addFlF (unA (Prod.fst d)) (Prod.fst (Prod.snd d))
  (Prod.snd (Prod.snd d)))) → True ∧ ((!eqRg (unL flG x_3, Prod.snd (Prod.fst (addFlF (unA (Prod.fst d)) (Prod.fst (Prod.snd d)) (Prod.snd (Prod.snd d))))) (unL flN (Prod.fst x), Prod.snd (Prod.fst (addFlF (unA (Prod.fst
  d)) (Prod.fst (Prod.snd d)) (Prod.snd (Prod.snd d)))))) = true → false = true) ∧ ((!eqRg (unL flG x_3, Prod.snd (Prod.fst (addFlF (unA (Prod.fst d)) (Prod.fst (Prod.snd d)) (Prod.snd (Prod.snd d))))) (unL flN (Prod.fst
  x), Prod.snd (Prod.fst (addFlF (unA (Prod.fst d)) (Prod.fst (Prod.snd d)) (Prod.snd (Prod.snd d)))))) = false → ((!Prod.snd (addFlF (unA (Prod.fst d)) (Prod.fst (Prod.snd d)) (Prod.snd (Prod.snd d))) == Prod.snd
  (addFlF (unL flG (Prod.fst r), Prod.snd r) (Prod.fst (Prod.snd d)) (Prod.snd (Prod.snd d)))) = true → false = true) ∧ ((!Prod.snd (addFlF (unA (Prod.fst d)) (Prod.fst (Prod.snd d)) (Prod.snd (Prod.snd d))) == Prod.snd
  (addFlF (unL flG (Prod.fst r), Prod.snd r) (Prod.fst (Prod.snd d)) (Prod.snd (Prod.snd d)))) = false → True ∧ (Ty.wf i64T (neg1 (heldF (unL flG (markF x_1 (1 : Int))) (1 : Int))) → (decide (neg1 (heldF (unL flG (markF
  x_1 (1 : Int))) (1 : Int)) < (0 : Int)) = true → false = true) ∧ (decide (neg1 (heldF (unL flG (markF x_1 (1 : Int))) (1 : Int)) < (0 : Int)) = false → ((!decide (neg1 (heldF (unL flG (markF x_1 (1 : Int))) (1 : Int))
  = endF x_1 (1 : Int))) = true → false = true) ∧ ((!decide (neg1 (heldF (unL flG (markF x_1 (1 : Int))) (1 : Int)) = endF x_1 (1 : Int))) = false → true = true))))))))))))))))) := by
  intro d hw _
  simp only [Int.toNat_natCast, exists_const, and_true, true_and, implies_true, decide_eq_true_eq, decide_eq_false_iff_not, Bool.not_eq_true', Bool.not_eq_false', beq_iff_eq, forall_const]
  simp only [unA, unN1, unG1', idN1, idG1', idG3', unG2, idBool, unBool, List.append_nil, true_and, and_true]
  intro e d1
  have hT : totF (d.1.1.2.map unF) ≤ 1048576 := szRg_tot (ringA_len hw.1).1 (ringA_len hw.1).2 d1
  have hF := tot_fls hT
  have hW := add_tot (y := d.1.2) hT d.2.1 d.2.2
  refine ⟨hF, fun r hr _ _ _ => ?_⟩
  obtain ⟨q1, q2⟩ := eq1' hr
  simp only [q1, q2, true_and, and_true]
  clear hr q1 q2
  repeat' (first
    | assumption
    | exact trivial
    | exact fls_eq ‹_› hF
    | exact no1 ‹_› ‹_› ‹_› | exact no2 ‹_› ‹_› | exact no3 ‹_› | exact no4 ‹_› ‹_› | exact no5 hW ‹_› ‹_› | exact no6 hW ‹_› ‹_› | exact no7 ‹_› ‹_› ‹_›
    | exact ap1 ‹_› | exact ap2 ‹_› | exact ap3 ‹_› | exact ap4 ‹_› | exact ap5 ‹_› | exact ap6 ‹_› | exact ap7 ‹_› | exact ap8 ‹_›
    | exact RJ1.fls ‹_›
    | with_reducible apply And.intro
    | intro _)
  all_goals (try (
    obtain ⟨⟨_, _, _⟩, _⟩ := ‹(_ ∧ _ ∧ _) ∧ _›
    first
      | have q := eq1 ‹(List.map unF _, _, _) = _›
        refine ⟨(_, _), ?_, rfl, rfl, q.2.1, q.2.2⟩
        refine ⟨hT, by assumption, q.1, by assumption, ?_, ?_⟩ <;> first | assumption | exact apart_symm ‹_›
      | have q := eq2 ‹((List.map unF _, _, _), _) = _›
        rw [RJ1.arg ‹_›] at q
        refine ⟨_, ?_, ⟨q.2.2.2, q.2.1, q.2.2.1⟩, rfl, q.2.1, q.2.2.1⟩
        refine ⟨q.1, ?_, ?_, ?_, ?_⟩ <;> first | assumption | exact apart_symm ‹_›))
  all_goals (first
    | exact fls_eq (eq1 ‹_›).1 hF
    | (have q := eq3a ‹((List.map unF _, _, _), _) = addFlF _ _ _› ‹_›
       exact ⟨_, q.1, ⟨q.2.2.2, q.2.1, q.2.2.1⟩, rfl, q.2.1, q.2.2.1⟩))
end Go.SF
