/- The law of DrainRing. No condition. -/
import Derived.Test.YtnjihkeflkemdaaSxC
import Derived.Test.YtnjihkeflkemdaaSxPRingX
namespace Go.SF
open Go.SX Go
set_option linter.unusedVariables false
set_option linter.unusedSimpArgs false
set_option maxRecDepth 100000
set_option maxHeartbeats 0
theorem dnH {w : Rg} {a : RA} {x : List FlG × List FlG} {g : List FlG} {xs : List Sv} (hw : totF w.1 ≤ 4000000) (hS : xs.length ≤ 4000000) (hg : RJ2 w a x g) :
    held3 (mark3 xs (endF g 1)) (neg1 (heldF ((markF g 1).map unF) 1)) = end3 xs (endF g 1) ∧ 0 ≤ end3 xs (endF g 1) := by
  have h1 := held_ok hg.1 hw
  rw [← hg.1] at hw
  have h2 := endF_small g 1 (by omega) (by omega)
  rw [h1.1, held3_mark]
  have := end3_small xs (k := endF g 1) (by omega) (by omega)
  exact ⟨rfl, by omega⟩
theorem dn8 {w : Rg} {a : RA} {x : List FlG × List FlG} {g : List FlG} {xs : List Sv} (hw : totF w.1 ≤ 4000000) (hS : xs.length ≤ 4000000) (hg : RJ2 w a x g) (h : held3 (mark3 xs (endF g 1)) (neg1 (heldF ((markF g 1).map unF) 1)) < 0) : false = true := by
  have := dnH hw hS hg; omega
theorem dn9 {w : Rg} {a : RA} {x : List FlG × List FlG} {g : List FlG} {xs : List Sv} (hw : totF w.1 ≤ 4000000) (hS : xs.length ≤ 4000000) (hg : RJ2 w a x g) (h : ¬ held3 (mark3 xs (endF g 1)) (neg1 (heldF ((markF g 1).map unF) 1)) = end3 xs (endF g 1)) : false = true := absurd (dnH hw hS hg).1 h
theorem v_FnExactDrainRing :
  ∀ (d : ((Nat × List (Int × Int × Int × Nat × List (Int × Int))) × Int × Bool) × Int), Ty.wf ringA d.1 ∧ Ty.wf i64T d.2 → True → True ∧ (Ty.wf i64T (szRgF (unL flN d.1.1.2) (1048576 : Int)) → (decide (szRgF (unL flN
  d.1.1.2) (1048576 : Int) < (0 : Int)) = true → true = true) ∧ (decide (szRgF (unL flN d.1.1.2) (1048576 : Int) < (0 : Int)) = false → FlsP (unL flN d.1.1.2) ∧ ∀ (r : List (Int × Int × Int × Nat × List (Int × Int)) ×
  Int × Bool), unD ringG r = (unL flN d.1.1.2, d.1.2) → List.Nodup (ids ringG r) → Ty.wf ringG r → Apart (ids ringG r) (ids (Ty.gs false flN) d.1.1) ∧ Apart (ids ringG r) (ids (Ty.gs false flN) d.1.1) ∧ Apart (ids ringG
  r) (ids (Ty.gs false flN) d.1.1) ∧ Apart (ids ringG r) (ids (Ty.gs false flN) d.1.1) → FlsP (unL flG r.1) ∧ (Ty.wf ringT (Prod.fst (drainF (unL flG r.1, r.2) d.2)) ∧ Ty.wf (Ty.sl svT) (Prod.snd (drainF (unL flG r.1,
  r.2) d.2)) → (∀ (xs' : List (Int × Int × Int × Nat × List (Int × Int))), unL (Ty.st (Ty.pr (Ty.int IntKind.i64) (Ty.pr (Ty.int IntKind.i64) (Ty.pr (Ty.int IntKind.i64) (Ty.st (Ty.gs false (Ty.st (Ty.pr (Ty.int
  IntKind.i64) (Ty.int IntKind.i64))))))))) xs' = Prod.fst (Prod.fst (drainF (unL flG r.1, r.2) d.2)) → FlsP (unL flN d.1.1.2) ∧ ∀ (r_1 : List (Int × Int × Int × Nat × List (Int × Int)) × Int × Bool), unD ringG r_1 =
  (unL flN d.1.1.2, d.1.2) → List.Nodup (ids ringG r_1) → Ty.wf ringG r_1 → (Apart (ids ringG r_1) (ids (Ty.gs false flN) d.1.1) ∧ Apart (ids ringG r_1) (idsL flG r.1) ∧ Apart (ids ringG r_1) (idsL (Ty.st (Ty.pr (Ty.int
  IntKind.i64) (Ty.pr (Ty.int IntKind.i64) (Ty.pr (Ty.int IntKind.i64) (Ty.st (Ty.gs false (Ty.st (Ty.pr (Ty.int IntKind.i64) (Ty.int IntKind.i64))))))))) xs')) ∧ Apart (ids ringG r_1) (ids (Ty.gs false flN) d.1.1) ∧
  Apart (ids ringG r_1) (ids (Ty.gs false flN) d.1.1) ∧ Apart (ids ringG r_1) (ids (Ty.gs false flN) d.1.1) ∧ Apart (ids ringG r_1) (ids (Ty.gs false flN) d.1.1) → ∃ (x' : List (Int × Int × Int × Nat × List (Int × Int))
  × List (Int × Int × Int × Nat × List (Int × Int))), RJ1 (Prod.fst (drainF (unA d.1) d.2)) d.1 x' ∧ (((d.1.1.1 = d.1.1.1 ∧ d.1.1.2 = d.1.1.2) ∧ d.1.2.1 = d.1.2.1 ∧ d.1.2.2 = d.1.2.2) ∧ d.2 = d.2 ∧ szRgF (unL flN
  d.1.1.2) (1048576 : Int) = szRgF (unL flN d.1.1.2) (1048576 : Int)) ∧ ((d.1.1.1 = d.1.1.1 ∧ d.1.1.2 = d.1.1.2) ∧ d.1.2.1 = d.1.2.1 ∧ d.1.2.2 = d.1.2.2) ∧ xs' = x'.1 ∧ Prod.snd (drainF (unL flG r.1, r.2) d.2) = Prod.snd
  (drainF (unA d.1) d.2) ∧ (Prod.fst (Prod.snd (Prod.fst (drainF (unL flG r.1, r.2) d.2))) = Prod.fst (Prod.snd (Prod.fst (drainF (unA d.1) d.2))) ∧ Prod.snd (Prod.snd (Prod.fst (drainF (unL flG r.1, r.2) d.2))) =
  Prod.snd (Prod.snd (Prod.fst (drainF (unA d.1) d.2)))) ∧ r_1.1 = x'.2 ∧ r_1.2.1 = d.1.2.1 ∧ r_1.2.2 = d.1.2.2) ∧ ∀ (x : List (Int × Int × Int × Nat × List (Int × Int)) × List (Int × Int × Int × Nat × List (Int ×
  Int))), RJ1 (Prod.fst (drainF (unA d.1) d.2)) d.1 x → (FlsP (unL flG x.2) ∧ ∀ (r : (List (Int × Int × Int × Nat × List (Int × Int)) × Int × Bool) × List (Int × Int × Int)), (unD ringG r.1, unD (Ty.sl svT) r.2) = drainF
  (unL flG x.2, d.1.2) d.2 → List.Nodup (ids ringG r.1 ++ ids (Ty.sl svT) r.2) → Ty.wf ringG r.1 ∧ Ty.wf (Ty.sl svT) r.2 → (Apart (ids ringG r.1 ++ ids (Ty.sl svT) r.2) (ids (Ty.gs false flN) d.1.1) ∧ Apart (ids ringG
  r.1 ++ ids (Ty.sl svT) r.2) (idsL flN x.1) ∧ Apart (ids ringG r.1 ++ ids (Ty.sl svT) r.2) (idsL flG x.2)) ∧ Apart (ids ringG r.1 ++ ids (Ty.sl svT) r.2) (ids (Ty.gs false flN) d.1.1) → ∃ (x' : List (Int × Int × Int ×
  Nat × List (Int × Int))), RJ2 (Prod.fst (drainF (unA d.1) d.2)) d.1 x x' ∧ (((d.1.1.1 = d.1.1.1 ∧ d.1.1.2 = d.1.1.2) ∧ d.1.2.1 = d.1.2.1 ∧ d.1.2.2 = d.1.2.2) ∧ d.2 = d.2 ∧ szRgF (unL flN d.1.1.2) (1048576 : Int) =
  szRgF (unL flN d.1.1.2) (1048576 : Int) ∧ r.1.2.1 = Prod.fst (Prod.snd (Prod.fst (drainF (unA d.1) d.2))) ∧ r.1.2.2 = Prod.snd (Prod.snd (Prod.fst (drainF (unA d.1) d.2)))) ∧ ((d.1.1.1 = d.1.1.1 ∧ d.1.1.2 = d.1.1.2) ∧
  d.1.2.1 = d.1.2.1 ∧ d.1.2.2 = d.1.2.2) ∧ x.1 = x.1 ∧ Prod.snd (drainF (unA d.1) d.2) = Prod.snd (drainF (unA d.1) d.2) ∧ (Prod.fst (Prod.snd (Prod.fst (drainF (unA d.1) d.2))) = Prod.fst (Prod.snd (Prod.fst (drainF
  (unA d.1) d.2))) ∧ Prod.snd (Prod.snd (Prod.fst (drainF (unA d.1) d.2))) = Prod.snd (Prod.snd (Prod.fst (drainF (unA d.1) d.2)))) ∧ x.2 = x.2 ∧ (d.1.2.1 = d.1.2.1 ∧ d.1.2.2 = d.1.2.2) ∧ r.1.1 = x' ∧ r.2 = Prod.snd
  (drainF (unA d.1) d.2) ∧ r.1.2.1 = Prod.fst (Prod.snd (Prod.fst (drainF (unA d.1) d.2))) ∧ r.1.2.2 = Prod.snd (Prod.snd (Prod.fst (drainF (unA d.1) d.2)))) ∧ ∀ (x_1 : List (Int × Int × Int × Nat × List (Int × Int))),
  RJ2 (Prod.fst (drainF (unA d.1) d.2)) d.1 x x_1 → True ∧ ((!eqRg (unL flG x_1, Prod.snd (Prod.fst (drainF (unA d.1) d.2))) (unL flN x.1, Prod.snd (Prod.fst (drainF (unA d.1) d.2)))) = true → false = true) ∧ ((!eqRg
  (unL flG x_1, Prod.snd (Prod.fst (drainF (unA d.1) d.2))) (unL flN x.1, Prod.snd (Prod.fst (drainF (unA d.1) d.2)))) = false → True ∧ ((!decide (Prod.snd (drainF (unA d.1) d.2) = Prod.snd (drainF (unA d.1) d.2))) =
  true → false = true) ∧ ((!decide (Prod.snd (drainF (unA d.1) d.2) = Prod.snd (drainF (unA d.1) d.2))) = false → FlsP (unL flN d.1.1.2) ∧ True ∧ (Ty.wf ringT (unL flN d.1.1.2, d.1.2) → ((!eqRg (unL flG x.2, d.1.2) (unL
  flN d.1.1.2, d.1.2)) = true → false = true) ∧ ((!eqRg (unL flG x.2, d.1.2) (unL flN d.1.1.2, d.1.2)) = false → True ∧ List.Nodup (ids ringG (x.2, d.1.2)) ∧ ((Apart (ids ringG (x.2, d.1.2)) (idsL flN x.1) ∧ Apart (ids
  ringG (x.2, d.1.2)) (idsL flG x_1)) ∧ (Apart (ids ringG (x.2, d.1.2)) (ids (Ty.gs false flN) d.1.1) ∧ Apart (ids ringG (x.2, d.1.2)) (ids (Ty.gs false flN) d.1.1)) ∧ Apart (ids ringG (x.2, d.1.2)) (ids (Ty.gs false
  flN) d.1.1)) ∧ (decide (endF x.2 (1 : Int) < (0 : Int)) = true → false = true) ∧ (decide (endF x.2 (1 : Int) < (0 : Int)) = false → True ∧ ((!eqRg (unL flG x_1, Prod.snd (Prod.fst (drainF (unA d.1) d.2))) (unL flN x.1,
  Prod.snd (Prod.fst (drainF (unA d.1) d.2)))) = true → false = true) ∧ ((!eqRg (unL flG x_1, Prod.snd (Prod.fst (drainF (unA d.1) d.2))) (unL flN x.1, Prod.snd (Prod.fst (drainF (unA d.1) d.2)))) = false → True ∧
  ((!decide (Prod.snd (drainF (unA d.1) d.2) = Prod.snd (drainF (unA d.1) d.2))) = true → false = true) ∧ ((!decide (Prod.snd (drainF (unA d.1) d.2) = Prod.snd (drainF (unA d.1) d.2))) = false → True ∧ List.Nodup (ids
  ringG (x_1, Prod.snd (Prod.fst (drainF (unA d.1) d.2)))) ∧ ((Apart (ids ringG (x_1, Prod.snd (Prod.fst (drainF (unA d.1) d.2)))) (idsL flN x.1) ∧ Apart (ids ringG (x_1, Prod.snd (Prod.fst (drainF (unA d.1) d.2))))
  (idsL flG (markF x.2 (1 : Int)))) ∧ (Apart (ids ringG (x_1, Prod.snd (Prod.fst (drainF (unA d.1) d.2)))) (ids (Ty.gs false flN) d.1.1) ∧ Apart (ids ringG (x_1, Prod.snd (Prod.fst (drainF (unA d.1) d.2)))) (ids (Ty.gs
  false flN) d.1.1)) ∧ Apart (ids ringG (x_1, Prod.snd (Prod.fst (drainF (unA d.1) d.2)))) (ids (Ty.gs false flN) d.1.1)) ∧ True ∧ True ∧ (Ty.wf i64T (neg1 (heldF (unL flG (markF x_1 (1 : Int))) (1 : Int))) → (decide
  (neg1 (heldF (unL flG (markF x_1 (1 : Int))) (1 : Int)) < (0 : Int)) = true → false = true) ∧ (decide (neg1 (heldF (unL flG (markF x_1 (1 : Int))) (1 : Int)) < (0 : Int)) = false → True ∧ (Ty.wf i64T (held3 (mark3
  (Prod.snd (drainF (unA d.1) d.2)) (endF x_1 (1 : Int))) (neg1 (heldF (unL flG (markF x_1 (1 : Int))) (1 : Int)))) → (decide (held3 (mark3 (Prod.snd (drainF (unA d.1) d.2)) (endF x_1 (1 : Int))) (neg1 (heldF (unL flG
  (markF x_1 (1 : Int))) (1 : Int))) < (0 : Int)) = true → false = true) ∧ (decide (held3 (mark3 (Prod.snd (drainF (unA d.1) d.2)) (endF x_1 (1 : Int))) (neg1 (heldF (unL flG (markF x_1 (1 : Int))) (1 : Int))) < (0 :
  Int)) = false → (((!decide (held3 (mark3 (Prod.snd (drainF (unA d.1) d.2)) (endF x_1 (1 : Int))) (neg1 (heldF (unL flG (markF x_1 (1 : Int))) (1 : Int))) = end3 (Prod.snd (drainF (unA d.1) d.2)) (endF x_1 (1 : Int))))
  = true → false = true) ∧ ((!decide (held3 (mark3 (Prod.snd (drainF (unA d.1) d.2)) (endF x_1 (1 : Int))) (neg1 (heldF (unL flG (markF x_1 (1 : Int))) (1 : Int))) = end3 (Prod.snd (drainF (unA d.1) d.2)) (endF x_1 (1 :
  Int)))) = false → ∃ (x' : Unit), (RJ1 (Prod.fst (drainF (unA d.1) d.2)) d.1 x ∧ RJ2 (Prod.fst (drainF (unA d.1) d.2)) d.1 x x_1) ∧ (((d.1.1.1 = d.1.1.1 ∧ d.1.1.2 = d.1.1.2) ∧ d.1.2.1 = d.1.2.1 ∧ d.1.2.2 = d.1.2.2) ∧
  d.2 = d.2 ∧ szRgF (unL flN d.1.1.2) (1048576 : Int) = szRgF (unL flN d.1.1.2) (1048576 : Int) ∧ end3 (Prod.snd (drainF (unA d.1) d.2)) (endF x_1 (1 : Int)) = end3 (Prod.snd (drainF (unA d.1) d.2)) (endF x_1 (1 : Int)))
  ∧ ((d.1.1.1 = d.1.1.1 ∧ d.1.1.2 = d.1.1.2) ∧ d.1.2.1 = d.1.2.1 ∧ d.1.2.2 = d.1.2.2) ∧ x.1 = x.1 ∧ Prod.snd (drainF (unA d.1) d.2) = Prod.snd (drainF (unA d.1) d.2) ∧ (Prod.fst (Prod.snd (Prod.fst (drainF (unA d.1)
  d.2))) = Prod.fst (Prod.snd (Prod.fst (drainF (unA d.1) d.2))) ∧ Prod.snd (Prod.snd (Prod.fst (drainF (unA d.1) d.2))) = Prod.snd (Prod.snd (Prod.fst (drainF (unA d.1) d.2)))) ∧ markF x_1 (1 : Int) = markF x_1 (1 :
  Int) ∧ mark3 (Prod.snd (drainF (unA d.1) d.2)) (endF x_1 (1 : Int)) = mark3 (Prod.snd (drainF (unA d.1) d.2)) (endF x_1 (1 : Int)) ∧ Prod.fst (Prod.snd (Prod.fst (drainF (unA d.1) d.2))) = Prod.fst (Prod.snd (Prod.fst
  (drainF (unA d.1) d.2))) ∧ Prod.snd (Prod.snd (Prod.fst (drainF (unA d.1) d.2))) = Prod.snd (Prod.snd (Prod.fst (drainF (unA d.1) d.2))))) ∧ ∀ (x_2 : Unit), RJ1 (Prod.fst (drainF (unA d.1) d.2)) d.1 x ∧ RJ2 (Prod.fst
  (drainF (unA d.1) d.2)) d.1 x x_1 → (FlsP (unL flN d.1.1.2) ∧ ∀ (r : List (Int × Int × Int × Nat × List (Int × Int)) × Int × Bool), unD ringG r = (unL flN d.1.1.2, d.1.2) → List.Nodup (ids ringG r) → Ty.wf ringG r →
  (Apart (ids ringG r) (ids (Ty.gs false flN) d.1.1) ∧ Apart (ids ringG r) (idsL flN x.1) ∧ Apart (ids ringG r) (idsL flG (markF x_1 (1 : Int)))) ∧ Apart (ids ringG r) (ids (Ty.gs false flN) d.1.1) ∧ Apart (ids ringG r)
  (ids (Ty.gs false flN) d.1.1) → FlsP (unL flG r.1) ∧ ∀ (r_1 : (List (Int × Int × Int × Nat × List (Int × Int)) × Int × Bool) × List (Int × Int × Int)), (unD ringG r_1.1, unD (Ty.sl svT) r_1.2) = drainF (unL flG r.1,
  r.2) d.2 → List.Nodup (ids ringG r_1.1 ++ ids (Ty.sl svT) r_1.2) → Ty.wf ringG r_1.1 ∧ Ty.wf (Ty.sl svT) r_1.2 → (Apart (ids ringG r_1.1 ++ ids (Ty.sl svT) r_1.2) (ids (Ty.gs false flN) d.1.1) ∧ Apart (ids ringG r_1.1
  ++ ids (Ty.sl svT) r_1.2) (idsL flN x.1) ∧ Apart (ids ringG r_1.1 ++ ids (Ty.sl svT) r_1.2) (idsL flG (markF x_1 (1 : Int))) ∧ Apart (ids ringG r_1.1 ++ ids (Ty.sl svT) r_1.2) (idsL flG r.1)) ∧ Apart (ids ringG r_1.1
  ++ ids (Ty.sl svT) r_1.2) (ids (Ty.gs false flN) d.1.1) ∧ Apart (ids ringG r_1.1 ++ ids (Ty.sl svT) r_1.2) (ids (Ty.gs false flN) d.1.1) → ∃ (x' : List (Int × Int × Int × Nat × List (Int × Int))), List.map unF x' =
  Prod.fst (Prod.fst (drainF (unA d.1) d.2)) ∧ (((d.1.1.1 = d.1.1.1 ∧ d.1.1.2 = d.1.1.2) ∧ d.1.2.1 = d.1.2.1 ∧ d.1.2.2 = d.1.2.2) ∧ d.2 = d.2 ∧ szRgF (unL flN d.1.1.2) (1048576 : Int) = szRgF (unL flN d.1.1.2) (1048576 :
  Int) ∧ end3 (Prod.snd (drainF (unA d.1) d.2)) (endF x_1 (1 : Int)) = end3 (Prod.snd (drainF (unA d.1) d.2)) (endF x_1 (1 : Int)) ∧ r_1.1.2.1 = Prod.fst (Prod.snd (Prod.fst (drainF (unA d.1) d.2))) ∧ r_1.1.2.2 =
  Prod.snd (Prod.snd (Prod.fst (drainF (unA d.1) d.2)))) ∧ ((d.1.1.1 = d.1.1.1 ∧ d.1.1.2 = d.1.1.2) ∧ d.1.2.1 = d.1.2.1 ∧ d.1.2.2 = d.1.2.2) ∧ x.1 = x.1 ∧ Prod.snd (drainF (unA d.1) d.2) = Prod.snd (drainF (unA d.1) d.2)
  ∧ (Prod.fst (Prod.snd (Prod.fst (drainF (unA d.1) d.2))) = Prod.fst (Prod.snd (Prod.fst (drainF (unA d.1) d.2))) ∧ Prod.snd (Prod.snd (Prod.fst (drainF (unA d.1) d.2))) = Prod.snd (Prod.snd (Prod.fst (drainF (unA d.1)
  d.2)))) ∧ markF x_1 (1 : Int) = markF x_1 (1 : Int) ∧ mark3 (Prod.snd (drainF (unA d.1) d.2)) (endF x_1 (1 : Int)) = mark3 (Prod.snd (drainF (unA d.1) d.2)) (endF x_1 (1 : Int)) ∧ (Prod.fst (Prod.snd (Prod.fst (drainF
  (unA d.1) d.2))) = Prod.fst (Prod.snd (Prod.fst (drainF (unA d.1) d.2))) ∧ Prod.snd (Prod.snd (Prod.fst (drainF (unA d.1) d.2))) = Prod.snd (Prod.snd (Prod.fst (drainF (unA d.1) d.2)))) ∧ r_1.1.1 = x' ∧ r_1.2 =
  Prod.snd (drainF (unA d.1) d.2) ∧ r_1.1.2.1 = Prod.fst (Prod.snd (Prod.fst (drainF (unA d.1) d.2))) ∧ r_1.1.2.2 = Prod.snd (Prod.snd (Prod.fst (drainF (unA d.1) d.2)))) ∧ ∀ (x_3 : List (Int × Int × Int × Nat × List
  (Int × Int))), List.map unF x_3 = Prod.fst (Prod.fst (drainF (unA d.1) d.2)) → True ∧ ((!eqRg (unL flG x_3, Prod.snd (Prod.fst (drainF (unA d.1) d.2))) (unL flN x.1, Prod.snd (Prod.fst (drainF (unA d.1) d.2)))) = true
  → false = true) ∧ ((!eqRg (unL flG x_3, Prod.snd (Prod.fst (drainF (unA d.1) d.2))) (unL flN x.1, Prod.snd (Prod.fst (drainF (unA d.1) d.2)))) = false → True ∧ ((!decide (Prod.snd (drainF (unA d.1) d.2) = Prod.snd
  (drainF (unA d.1) d.2))) = true → false = true) ∧ ((!decide (Prod.snd (drainF (unA d.1) d.2) = Prod.snd (drainF (unA d.1) d.2))) = false → True ∧ (Ty.wf i64T (neg1 (heldF (unL flG (markF x_1 (1 : Int))) (1 : Int))) →
  (decide (neg1 (heldF (unL flG (markF x_1 (1 : Int))) (1 : Int)) < (0 : Int)) = true → false = true) ∧ (decide (neg1 (heldF (unL flG (markF x_1 (1 : Int))) (1 : Int)) < (0 : Int)) = false → True ∧ (Ty.wf i64T (held3
  (mark3 (Prod.snd (drainF (unA d.1) d.2)) (endF x_1 (1 : Int))) (neg1 (heldF (unL flG (markF x_1 (1 : Int))) (1 : Int)))) → (decide (held3 (mark3 (Prod.snd (drainF (unA d.1) d.2)) (endF x_1 (1 : Int))) (neg1 (heldF (unL
  flG (markF x_1 (1 : Int))) (1 : Int))) < (0 : Int)) = true → false = true) ∧ (decide (held3 (mark3 (Prod.snd (drainF (unA d.1) d.2)) (endF x_1 (1 : Int))) (neg1 (heldF (unL flG (markF x_1 (1 : Int))) (1 : Int))) < (0 :
  Int)) = false → ((!decide (held3 (mark3 (Prod.snd (drainF (unA d.1) d.2)) (endF x_1 (1 : Int))) (neg1 (heldF (unL flG (markF x_1 (1 : Int))) (1 : Int))) = end3 (Prod.snd (drainF (unA d.1) d.2)) (endF x_1 (1 : Int)))) =
  true → false = true) ∧ ((!decide (held3 (mark3 (Prod.snd (drainF (unA d.1) d.2)) (endF x_1 (1 : Int))) (neg1 (heldF (unL flG (markF x_1 (1 : Int))) (1 : Int))) = end3 (Prod.snd (drainF (unA d.1) d.2)) (endF x_1 (1 :
  Int)))) = false → true = true))))))))))))))))))))) := by
  intro d hw _
  simp only [Int.toNat_natCast, exists_const, and_true, true_and, implies_true, decide_eq_true_eq, decide_eq_false_iff_not, Bool.not_eq_true', Bool.not_eq_false', beq_iff_eq, forall_const]
  simp only [unA, unN1, unG1', idN1, idG1', idG3', unG2, idBool, unBool, unSv, idSv, held3_mark, List.append_nil, List.nil_append, true_and, and_true]
  intro e d1
  have hT : totF (d.1.1.2.map unF) ≤ 1048576 := szRg_tot (ringA_len hw.1).1 (ringA_len hw.1).2 d1
  have hF := tot_fls hT
  obtain ⟨hW, hS⟩ := drain_tot (r := (d.1.1.2.map unF, d.1.2)) (most := d.2) hT
  refine ⟨hF, fun r hr _ _ _ => ?_⟩
  obtain ⟨q1, q2⟩ := eq1' hr
  simp only [q1, q2, true_and, and_true]
  clear hr q1 q2
  repeat' (first
    | assumption
    | exact trivial
    | exact fls_eq ‹_› hF
    | exact no1 ‹_› ‹_› ‹_› | exact no2 ‹_› ‹_› | exact no3 ‹_› | exact no4 ‹_› ‹_› | exact no5 hW ‹_› ‹_› | exact no6 hW ‹_› ‹_› | exact no7 ‹_› ‹_› ‹_›
    | exact ap1 ‹_› | exact ap2 ‹_› | exact ap3 ‹_› | exact ap4 ‹_› | exact ap5 ‹_› | exact ap6 ‹_› | exact ap7 ‹_› | exact ap8 ‹_›
    | exact RJ1.fls ‹_›
    | with_reducible apply And.intro
    | intro _)
  all_goals (first
    | exact absurd trivial ‹¬True›
    | exact fls_eq (eq1 ‹_›).1 hF
    | exact dn8 hW hS ‹_› ‹_›
    | exact dn9 hW hS ‹_› ‹_›
    | (obtain ⟨⟨_, _, _⟩, _⟩ := ‹(_ ∧ _ ∧ _) ∧ _›
       have q := eq1 ‹(List.map unF _, _, _) = _›
       refine ⟨(_, _), ?_, rfl, rfl, q.2.1, q.2.2⟩
       refine ⟨hT, by assumption, q.1, by assumption, ?_, ?_⟩ <;> first | assumption | exact apart_symm ‹_›)
    | (obtain ⟨⟨_, _, _⟩, _⟩ := ‹(_ ∧ _ ∧ _) ∧ _›
       have q := dn4 ‹((List.map unF _, _, _), _) = _›
       rw [RJ1.arg ‹_›] at q
       refine ⟨_, ?_, ⟨q.2.1, q.2.2.1⟩, rfl, q.2.2.2, q.2.1, q.2.2.1⟩
       refine ⟨q.1, ?_, ?_, ?_, ?_⟩ <;> first | assumption | exact apart_symm ‹_›)
    | (have q := dn4 ‹((List.map unF _, _, _), _) = drainF (List.map unF _, _) _›
       have q0 := eq1' ‹(List.map unF _, _, _) = (List.map unF d.1.1.2, d.1.2)›
       rw [q0.1, q0.2] at q
       exact ⟨_, q.1, ⟨q.2.1, q.2.2.1⟩, rfl, q.2.2.2, q.2.1, q.2.2.1⟩))
end Go.SF
