/- The law of Shrink. No condition. -/
import Derived.Test.YtdomcnkhdnagiaaSxC
import Derived.Test.YtdomcnkhdnagiaaSxPCacheL
namespace Go.SF
open Go.SX Go
set_option linter.unusedVariables false
set_option linter.unusedSimpArgs false
set_option maxRecDepth 100000
set_option maxHeartbeats 0
theorem v_FnExactShrink :
  ∀ (d : (Int × Nat × List ((Nat × List Int) × Int × (Nat × List Int) × Nat × List Int)) × Int), Ty.wf cacheA (Prod.fst d) ∧ Ty.wf i64T (Prod.snd d) → True → True ∧ (Ty.wf i64T (szCaF (Prod.fst (Prod.fst d), unL enN
  (Prod.snd (Prod.snd (Prod.fst d)))) (1048576 : Int)) → (decide (szCaF (Prod.fst (Prod.fst d), unL enN (Prod.snd (Prod.snd (Prod.fst d)))) (1048576 : Int) < (0 : Int)) = true → true = true) ∧ (decide (szCaF (Prod.fst
  (Prod.fst d), unL enN (Prod.snd (Prod.snd (Prod.fst d)))) (1048576 : Int) < (0 : Int)) = false → EnsP (unL enN (Prod.snd (Prod.snd (Prod.fst d)))) ∧ ∀ (r : Int × List ((Nat × List Int) × Int × (Nat × List Int) × Nat ×
  List Int)), unD cacheG r = (Prod.fst (Prod.fst d), unL enN (Prod.snd (Prod.snd (Prod.fst d)))) → List.Nodup (ids cacheG r) → Ty.wf cacheG r → Apart (ids cacheG r) (ids (Ty.gs false enN) (Prod.snd (Prod.fst d))) ∧ Apart
  (ids cacheG r) (ids (Ty.gs false enN) (Prod.snd (Prod.fst d))) ∧ Apart (ids cacheG r) (ids (Ty.gs false enN) (Prod.snd (Prod.fst d))) ∧ Apart (ids cacheG r) (ids (Ty.gs false enN) (Prod.snd (Prod.fst d))) → EnsP (unL
  enG (Prod.snd r)) ∧ (Ty.wf cacheT (Prod.fst (shrinkF (Prod.fst r, unL enG (Prod.snd r)) (Prod.snd d))) ∧ Ty.wf Ty.bool (Prod.snd (shrinkF (Prod.fst r, unL enG (Prod.snd r)) (Prod.snd d))) → (∀ (xs' : List ((Nat × List
  Int) × Int × (Nat × List Int) × Nat × List Int)), unL (Ty.st (Ty.pr (Ty.gs false byT) (Ty.st (Ty.pr (Ty.int IntKind.i64) (Ty.pr (Ty.gs false (Ty.int IntKind.i64)) (Ty.gs false (Ty.int IntKind.i64))))))) xs' = Prod.snd
  (Prod.fst (shrinkF (Prod.fst r, unL enG (Prod.snd r)) (Prod.snd d))) → EnsP (unL enN (Prod.snd (Prod.snd (Prod.fst d)))) ∧ ∀ (r_1 : Int × List ((Nat × List Int) × Int × (Nat × List Int) × Nat × List Int)), unD cacheG
  r_1 = (Prod.fst (Prod.fst d), unL enN (Prod.snd (Prod.snd (Prod.fst d)))) → List.Nodup (ids cacheG r_1) → Ty.wf cacheG r_1 → (Apart (ids cacheG r_1) (ids (Ty.gs false enN) (Prod.snd (Prod.fst d))) ∧ Apart (ids cacheG
  r_1) (idsL enG (Prod.snd r)) ∧ Apart (ids cacheG r_1) (idsL (Ty.st (Ty.pr (Ty.gs false byT) (Ty.st (Ty.pr (Ty.int IntKind.i64) (Ty.pr (Ty.gs false (Ty.int IntKind.i64)) (Ty.gs false (Ty.int IntKind.i64))))))) xs')) ∧
  Apart (ids cacheG r_1) (ids (Ty.gs false enN) (Prod.snd (Prod.fst d))) ∧ Apart (ids cacheG r_1) (ids (Ty.gs false enN) (Prod.snd (Prod.fst d))) ∧ Apart (ids cacheG r_1) (ids (Ty.gs false enN) (Prod.snd (Prod.fst d))) ∧
  Apart (ids cacheG r_1) (ids (Ty.gs false enN) (Prod.snd (Prod.fst d))) → ∃ (x' : List ((Nat × List Int) × Int × (Nat × List Int) × Nat × List Int) × List ((Nat × List Int) × Int × (Nat × List Int) × Nat × List Int)),
  CJ1 (Prod.fst (shrinkF (unC (Prod.fst d)) (Prod.snd d))) (Prod.fst d) x' ∧ ((Prod.fst (Prod.fst d) = Prod.fst (Prod.fst d) ∧ Prod.fst (Prod.snd (Prod.fst d)) = Prod.fst (Prod.snd (Prod.fst d)) ∧ Prod.snd (Prod.snd
  (Prod.fst d)) = Prod.snd (Prod.snd (Prod.fst d))) ∧ Prod.snd d = Prod.snd d ∧ szCaF (Prod.fst (Prod.fst d), unL enN (Prod.snd (Prod.snd (Prod.fst d)))) (1048576 : Int) = szCaF (Prod.fst (Prod.fst d), unL enN (Prod.snd
  (Prod.snd (Prod.fst d)))) (1048576 : Int) ∧ Prod.snd (shrinkF (Prod.fst r, unL enG (Prod.snd r)) (Prod.snd d)) = Prod.snd (shrinkF (Prod.fst r, unL enG (Prod.snd r)) (Prod.snd d))) ∧ (Prod.fst (Prod.fst d) = Prod.fst
  (Prod.fst d) ∧ Prod.fst (Prod.snd (Prod.fst d)) = Prod.fst (Prod.snd (Prod.fst d)) ∧ Prod.snd (Prod.snd (Prod.fst d)) = Prod.snd (Prod.snd (Prod.fst d))) ∧ xs' = Prod.fst x' ∧ Prod.fst (Prod.fst (shrinkF (Prod.fst r,
  unL enG (Prod.snd r)) (Prod.snd d))) = Prod.fst (Prod.fst (shrinkF (unC (Prod.fst d)) (Prod.snd d))) ∧ Prod.snd r_1 = Prod.snd x' ∧ Prod.fst r_1 = Prod.fst (Prod.fst d)) ∧ ∀ (x : List ((Nat × List Int) × Int × (Nat ×
  List Int) × Nat × List Int) × List ((Nat × List Int) × Int × (Nat × List Int) × Nat × List Int)), CJ1 (Prod.fst (shrinkF (unC (Prod.fst d)) (Prod.snd d))) (Prod.fst d) x → (EnsP (unL enG (Prod.snd x)) ∧ ∀ (r_1 : (Int ×
  List ((Nat × List Int) × Int × (Nat × List Int) × Nat × List Int)) × Bool), (unD cacheG (Prod.fst r_1), unD Ty.bool (Prod.snd r_1)) = shrinkF (Prod.fst (Prod.fst d), unL enG (Prod.snd x)) (Prod.snd d) → List.Nodup (ids
  cacheG (Prod.fst r_1) ++ ids Ty.bool (Prod.snd r_1)) → Ty.wf cacheG (Prod.fst r_1) ∧ Ty.wf Ty.bool (Prod.snd r_1) → (Apart (ids cacheG (Prod.fst r_1) ++ ids Ty.bool (Prod.snd r_1)) (ids (Ty.gs false enN) (Prod.snd
  (Prod.fst d))) ∧ Apart (ids cacheG (Prod.fst r_1) ++ ids Ty.bool (Prod.snd r_1)) (idsL enN (Prod.fst x)) ∧ Apart (ids cacheG (Prod.fst r_1) ++ ids Ty.bool (Prod.snd r_1)) (idsL enG (Prod.snd x))) ∧ Apart (ids cacheG
  (Prod.fst r_1) ++ ids Ty.bool (Prod.snd r_1)) (ids (Ty.gs false enN) (Prod.snd (Prod.fst d))) → ∃ (x' : List ((Nat × List Int) × Int × (Nat × List Int) × Nat × List Int)), CJ2 (Prod.fst (shrinkF (unC (Prod.fst d))
  (Prod.snd d))) (Prod.fst d) x x' ∧ ((Prod.fst (Prod.fst d) = Prod.fst (Prod.fst d) ∧ Prod.fst (Prod.snd (Prod.fst d)) = Prod.fst (Prod.snd (Prod.fst d)) ∧ Prod.snd (Prod.snd (Prod.fst d)) = Prod.snd (Prod.snd (Prod.fst
  d))) ∧ Prod.snd d = Prod.snd d ∧ szCaF (Prod.fst (Prod.fst d), unL enN (Prod.snd (Prod.snd (Prod.fst d)))) (1048576 : Int) = szCaF (Prod.fst (Prod.fst d), unL enN (Prod.snd (Prod.snd (Prod.fst d)))) (1048576 : Int) ∧
  Prod.snd (shrinkF (Prod.fst r, unL enG (Prod.snd r)) (Prod.snd d)) = Prod.snd (shrinkF (Prod.fst r, unL enG (Prod.snd r)) (Prod.snd d)) ∧ Prod.snd r_1 = Prod.snd (shrinkF (unC (Prod.fst d)) (Prod.snd d)) ∧ Prod.fst
  (Prod.fst r_1) = Prod.fst (Prod.fst (shrinkF (unC (Prod.fst d)) (Prod.snd d)))) ∧ (Prod.fst (Prod.fst d) = Prod.fst (Prod.fst d) ∧ Prod.fst (Prod.snd (Prod.fst d)) = Prod.fst (Prod.snd (Prod.fst d)) ∧ Prod.snd
  (Prod.snd (Prod.fst d)) = Prod.snd (Prod.snd (Prod.fst d))) ∧ Prod.fst x = Prod.fst x ∧ Prod.fst (Prod.fst (shrinkF (unC (Prod.fst d)) (Prod.snd d))) = Prod.fst (Prod.fst (shrinkF (unC (Prod.fst d)) (Prod.snd d))) ∧
  Prod.snd x = Prod.snd x ∧ Prod.fst (Prod.fst d) = Prod.fst (Prod.fst d) ∧ Prod.snd (Prod.fst r_1) = x' ∧ Prod.fst (Prod.fst r_1) = Prod.fst (Prod.fst (shrinkF (unC (Prod.fst d)) (Prod.snd d)))) ∧ ∀ (x_1 : List ((Nat ×
  List Int) × Int × (Nat × List Int) × Nat × List Int)), CJ2 (Prod.fst (shrinkF (unC (Prod.fst d)) (Prod.snd d))) (Prod.fst d) x x_1 → True ∧ ((!eqCa (Prod.fst (Prod.fst (shrinkF (unC (Prod.fst d)) (Prod.snd d))), unL
  enG x_1) (Prod.fst (Prod.fst (shrinkF (unC (Prod.fst d)) (Prod.snd d))), unL enN (Prod.fst x))) = true → false = true) ∧ ((!eqCa (Prod.fst (Prod.fst (shrinkF (unC (Prod.fst d)) (Prod.snd d))), unL enG x_1) (Prod.fst
  (Prod.fst (shrinkF (unC (Prod.fst d)) (Prod.snd d))), unL enN (Prod.fst x))) = false → ((!Prod.snd (shrinkF (unC (Prod.fst d)) (Prod.snd d)) == Prod.snd (shrinkF (Prod.fst r, unL enG (Prod.snd r)) (Prod.snd d))) = true
  → false = true) ∧ ((!Prod.snd (shrinkF (unC (Prod.fst d)) (Prod.snd d)) == Prod.snd (shrinkF (Prod.fst r, unL enG (Prod.snd r)) (Prod.snd d))) = false → EnsP (unL enN (Prod.snd (Prod.snd (Prod.fst d)))) ∧ True ∧ (Ty.wf
  cacheT (Prod.fst (Prod.fst d), unL enN (Prod.snd (Prod.snd (Prod.fst d)))) → ((!eqCa (Prod.fst (Prod.fst d), unL enG (Prod.snd x)) (Prod.fst (Prod.fst d), unL enN (Prod.snd (Prod.snd (Prod.fst d))))) = true → false =
  true) ∧ ((!eqCa (Prod.fst (Prod.fst d), unL enG (Prod.snd x)) (Prod.fst (Prod.fst d), unL enN (Prod.snd (Prod.snd (Prod.fst d))))) = false → True ∧ List.Nodup (ids cacheG (Prod.fst (Prod.fst d), Prod.snd x)) ∧ ((Apart
  (ids cacheG (Prod.fst (Prod.fst d), Prod.snd x)) (idsL enN (Prod.fst x)) ∧ Apart (ids cacheG (Prod.fst (Prod.fst d), Prod.snd x)) (idsL enG x_1)) ∧ (Apart (ids cacheG (Prod.fst (Prod.fst d), Prod.snd x)) (ids (Ty.gs
  false enN) (Prod.snd (Prod.fst d))) ∧ Apart (ids cacheG (Prod.fst (Prod.fst d), Prod.snd x)) (ids (Ty.gs false enN) (Prod.snd (Prod.fst d)))) ∧ Apart (ids cacheG (Prod.fst (Prod.fst d), Prod.snd x)) (ids (Ty.gs false
  enN) (Prod.snd (Prod.fst d)))) ∧ (decide (endE (Prod.snd x) (1 : Int) < (0 : Int)) = true → false = true) ∧ (decide (endE (Prod.snd x) (1 : Int) < (0 : Int)) = false → True ∧ ((!eqCa (Prod.fst (Prod.fst (shrinkF (unC
  (Prod.fst d)) (Prod.snd d))), unL enG x_1) (Prod.fst (Prod.fst (shrinkF (unC (Prod.fst d)) (Prod.snd d))), unL enN (Prod.fst x))) = true → false = true) ∧ ((!eqCa (Prod.fst (Prod.fst (shrinkF (unC (Prod.fst d))
  (Prod.snd d))), unL enG x_1) (Prod.fst (Prod.fst (shrinkF (unC (Prod.fst d)) (Prod.snd d))), unL enN (Prod.fst x))) = false → ((!Prod.snd (shrinkF (unC (Prod.fst d)) (Prod.snd d)) == Prod.snd (shrinkF (Prod.fst r, unL
  enG (Prod.snd r)) (Prod.snd d))) = true → false = true) ∧ ((!Prod.snd (shrinkF (unC (Prod.fst d)) (Prod.snd d)) == Prod.snd (shrinkF (Prod.fst r, unL enG (Prod.snd r)) (Prod.snd d))) = false → True ∧ List.Nodup (ids
  cacheG (Prod.fst (Prod.fst (shrinkF (unC (Prod.fst d)) (Prod.snd d))), x_1)) ∧ ((Apart (ids cacheG (Prod.fst (Prod.fst (shrinkF (unC (Prod.fst d)) (Prod.snd d))), x_1)) (idsL enN (Prod.fst x)) ∧ Apart (ids cacheG
  (Prod.fst (Prod.fst (shrinkF (unC (Prod.fst d)) (Prod.snd d))), x_1)) (idsL enG (markE (Prod.snd x) (1 : Int)))) ∧ (Apart (ids cacheG (Prod.fst (Prod.fst (shrinkF (unC (Prod.fst d)) (Prod.snd d))), x_1)) (ids (Ty.gs
  false enN) (Prod.snd (Prod.fst d))) ∧ Apart (ids cacheG (Prod.fst (Prod.fst (shrinkF (unC (Prod.fst d)) (Prod.snd d))), x_1)) (ids (Ty.gs false enN) (Prod.snd (Prod.fst d)))) ∧ Apart (ids cacheG (Prod.fst (Prod.fst
  (shrinkF (unC (Prod.fst d)) (Prod.snd d))), x_1)) (ids (Ty.gs false enN) (Prod.snd (Prod.fst d)))) ∧ True ∧ (Ty.wf i64T (neg1 (heldE (unL enG (markE x_1 (1 : Int))) (1 : Int))) → (decide (neg1 (heldE (unL enG (markE
  x_1 (1 : Int))) (1 : Int)) < (0 : Int)) = true → false = true) ∧ (decide (neg1 (heldE (unL enG (markE x_1 (1 : Int))) (1 : Int)) < (0 : Int)) = false → (((!decide (neg1 (heldE (unL enG (markE x_1 (1 : Int))) (1 : Int))
  = endE x_1 (1 : Int))) = true → false = true) ∧ ((!decide (neg1 (heldE (unL enG (markE x_1 (1 : Int))) (1 : Int)) = endE x_1 (1 : Int))) = false → ∃ (x' : Unit), (CJ1 (Prod.fst (shrinkF (unC (Prod.fst d)) (Prod.snd
  d))) (Prod.fst d) x ∧ CJ2 (Prod.fst (shrinkF (unC (Prod.fst d)) (Prod.snd d))) (Prod.fst d) x x_1) ∧ ((Prod.fst (Prod.fst d) = Prod.fst (Prod.fst d) ∧ Prod.fst (Prod.snd (Prod.fst d)) = Prod.fst (Prod.snd (Prod.fst d))
  ∧ Prod.snd (Prod.snd (Prod.fst d)) = Prod.snd (Prod.snd (Prod.fst d))) ∧ Prod.snd d = Prod.snd d ∧ szCaF (Prod.fst (Prod.fst d), unL enN (Prod.snd (Prod.snd (Prod.fst d)))) (1048576 : Int) = szCaF (Prod.fst (Prod.fst
  d), unL enN (Prod.snd (Prod.snd (Prod.fst d)))) (1048576 : Int) ∧ Prod.snd (shrinkF (Prod.fst r, unL enG (Prod.snd r)) (Prod.snd d)) = Prod.snd (shrinkF (Prod.fst r, unL enG (Prod.snd r)) (Prod.snd d)) ∧ Prod.snd
  (shrinkF (unC (Prod.fst d)) (Prod.snd d)) = Prod.snd (shrinkF (unC (Prod.fst d)) (Prod.snd d)) ∧ endE x_1 (1 : Int) = endE x_1 (1 : Int)) ∧ (Prod.fst (Prod.fst d) = Prod.fst (Prod.fst d) ∧ Prod.fst (Prod.snd (Prod.fst
  d)) = Prod.fst (Prod.snd (Prod.fst d)) ∧ Prod.snd (Prod.snd (Prod.fst d)) = Prod.snd (Prod.snd (Prod.fst d))) ∧ Prod.fst x = Prod.fst x ∧ Prod.fst (Prod.fst (shrinkF (unC (Prod.fst d)) (Prod.snd d))) = Prod.fst
  (Prod.fst (shrinkF (unC (Prod.fst d)) (Prod.snd d))) ∧ markE x_1 (1 : Int) = markE x_1 (1 : Int) ∧ Prod.fst (Prod.fst (shrinkF (unC (Prod.fst d)) (Prod.snd d))) = Prod.fst (Prod.fst (shrinkF (unC (Prod.fst d))
  (Prod.snd d))))) ∧ ∀ (x_2 : Unit), CJ1 (Prod.fst (shrinkF (unC (Prod.fst d)) (Prod.snd d))) (Prod.fst d) x ∧ CJ2 (Prod.fst (shrinkF (unC (Prod.fst d)) (Prod.snd d))) (Prod.fst d) x x_1 → (EnsP (unL enN (Prod.snd
  (Prod.snd (Prod.fst d)))) ∧ ∀ (r_1 : Int × List ((Nat × List Int) × Int × (Nat × List Int) × Nat × List Int)), unD cacheG r_1 = (Prod.fst (Prod.fst d), unL enN (Prod.snd (Prod.snd (Prod.fst d)))) → List.Nodup (ids
  cacheG r_1) → Ty.wf cacheG r_1 → (Apart (ids cacheG r_1) (ids (Ty.gs false enN) (Prod.snd (Prod.fst d))) ∧ Apart (ids cacheG r_1) (idsL enN (Prod.fst x)) ∧ Apart (ids cacheG r_1) (idsL enG (markE x_1 (1 : Int)))) ∧
  Apart (ids cacheG r_1) (ids (Ty.gs false enN) (Prod.snd (Prod.fst d))) ∧ Apart (ids cacheG r_1) (ids (Ty.gs false enN) (Prod.snd (Prod.fst d))) → EnsP (unL enG (Prod.snd r_1)) ∧ ∀ (r_2 : (Int × List ((Nat × List Int) ×
  Int × (Nat × List Int) × Nat × List Int)) × Bool), (unD cacheG (Prod.fst r_2), unD Ty.bool (Prod.snd r_2)) = shrinkF (Prod.fst r_1, unL enG (Prod.snd r_1)) (Prod.snd d) → List.Nodup (ids cacheG (Prod.fst r_2) ++ ids
  Ty.bool (Prod.snd r_2)) → Ty.wf cacheG (Prod.fst r_2) ∧ Ty.wf Ty.bool (Prod.snd r_2) → (Apart (ids cacheG (Prod.fst r_2) ++ ids Ty.bool (Prod.snd r_2)) (ids (Ty.gs false enN) (Prod.snd (Prod.fst d))) ∧ Apart (ids
  cacheG (Prod.fst r_2) ++ ids Ty.bool (Prod.snd r_2)) (idsL enN (Prod.fst x)) ∧ Apart (ids cacheG (Prod.fst r_2) ++ ids Ty.bool (Prod.snd r_2)) (idsL enG (markE x_1 (1 : Int))) ∧ Apart (ids cacheG (Prod.fst r_2) ++ ids
  Ty.bool (Prod.snd r_2)) (idsL enG (Prod.snd r_1))) ∧ Apart (ids cacheG (Prod.fst r_2) ++ ids Ty.bool (Prod.snd r_2)) (ids (Ty.gs false enN) (Prod.snd (Prod.fst d))) ∧ Apart (ids cacheG (Prod.fst r_2) ++ ids Ty.bool
  (Prod.snd r_2)) (ids (Ty.gs false enN) (Prod.snd (Prod.fst d))) → ∃ (x' : List ((Nat × List Int) × Int × (Nat × List Int) × Nat × List Int)), List.map unE x' = Prod.snd (Prod.fst (shrinkF (unC (Prod.fst d)) (Prod.snd
  d))) ∧ ((Prod.fst (Prod.fst d) = Prod.fst (Prod.fst d) ∧ Prod.fst (Prod.snd (Prod.fst d)) = Prod.fst (Prod.snd (Prod.fst d)) ∧ Prod.snd (Prod.snd (Prod.fst d)) = Prod.snd (Prod.snd (Prod.fst d))) ∧ Prod.snd d =
  Prod.snd d ∧ szCaF (Prod.fst (Prod.fst d), unL enN (Prod.snd (Prod.snd (Prod.fst d)))) (1048576 : Int) = szCaF (Prod.fst (Prod.fst d), unL enN (Prod.snd (Prod.snd (Prod.fst d)))) (1048576 : Int) ∧ Prod.snd (shrinkF
  (Prod.fst r, unL enG (Prod.snd r)) (Prod.snd d)) = Prod.snd (shrinkF (Prod.fst r, unL enG (Prod.snd r)) (Prod.snd d)) ∧ endE x_1 (1 : Int) = endE x_1 (1 : Int) ∧ Prod.snd r_2 = Prod.snd (shrinkF (unC (Prod.fst d))
  (Prod.snd d)) ∧ Prod.fst (Prod.fst r_2) = Prod.fst (Prod.fst (shrinkF (unC (Prod.fst d)) (Prod.snd d)))) ∧ (Prod.fst (Prod.fst d) = Prod.fst (Prod.fst d) ∧ Prod.fst (Prod.snd (Prod.fst d)) = Prod.fst (Prod.snd
  (Prod.fst d)) ∧ Prod.snd (Prod.snd (Prod.fst d)) = Prod.snd (Prod.snd (Prod.fst d))) ∧ Prod.fst x = Prod.fst x ∧ Prod.fst (Prod.fst (shrinkF (unC (Prod.fst d)) (Prod.snd d))) = Prod.fst (Prod.fst (shrinkF (unC
  (Prod.fst d)) (Prod.snd d))) ∧ markE x_1 (1 : Int) = markE x_1 (1 : Int) ∧ Prod.fst (Prod.fst (shrinkF (unC (Prod.fst d)) (Prod.snd d))) = Prod.fst (Prod.fst (shrinkF (unC (Prod.fst d)) (Prod.snd d))) ∧ Prod.snd
  (Prod.fst r_2) = x' ∧ Prod.fst (Prod.fst r_2) = Prod.fst (Prod.fst (shrinkF (unC (Prod.fst d)) (Prod.snd d)))) ∧ ∀ (x_3 : List ((Nat × List Int) × Int × (Nat × List Int) × Nat × List Int)), List.map unE x_3 = Prod.snd
  (Prod.fst (shrinkF (unC (Prod.fst d)) (Prod.snd d))) → True ∧ ((!eqCa (Prod.fst (Prod.fst (shrinkF (unC (Prod.fst d)) (Prod.snd d))), unL enG x_3) (Prod.fst (Prod.fst (shrinkF (unC (Prod.fst d)) (Prod.snd d))), unL enN
  (Prod.fst x))) = true → false = true) ∧ ((!eqCa (Prod.fst (Prod.fst (shrinkF (unC (Prod.fst d)) (Prod.snd d))), unL enG x_3) (Prod.fst (Prod.fst (shrinkF (unC (Prod.fst d)) (Prod.snd d))), unL enN (Prod.fst x))) =
  false → ((!Prod.snd (shrinkF (unC (Prod.fst d)) (Prod.snd d)) == Prod.snd (shrinkF (Prod.fst r, unL enG (Prod.snd r)) (Prod.snd d))) = true → false = true) ∧ ((!Prod.snd (shrinkF (unC (Prod.fst d)) (Prod.snd d)) ==
  Prod.snd (shrinkF (Prod.fst r, unL enG (Prod.snd r)) (Prod.snd d))) = false → True ∧ (Ty.wf i64T (neg1 (heldE (unL enG (markE x_1 (1 : Int))) (1 : Int))) → (decide (neg1 (heldE (unL enG (markE x_1 (1 : Int))) (1 :
  Int)) < (0 : Int)) = true → false = true) ∧ (decide (neg1 (heldE (unL enG (markE x_1 (1 : Int))) (1 : Int)) < (0 : Int)) = false → ((!decide (neg1 (heldE (unL enG (markE x_1 (1 : Int))) (1 : Int)) = endE x_1 (1 :
  Int))) = true → false = true) ∧ ((!decide (neg1 (heldE (unL enG (markE x_1 (1 : Int))) (1 : Int)) = endE x_1 (1 : Int))) = false → true = true))))))))))))))))) := by
  intro d hw _
  simp only [Int.toNat_natCast, exists_const, and_true, true_and, implies_true, decide_eq_true_eq, decide_eq_false_iff_not, Bool.not_eq_true', Bool.not_eq_false', beq_iff_eq, forall_const]
  simp only [unC, unEN1, unE1, idEN1, idE1', idE3', unE2, idBoolE, unBoolE, List.append_nil, true_and, and_true]
  intro e d1
  have hT : totE (d.1.2.2.map unE) ≤ 1048576 := szCa_tot (cacheA_len hw.1) d1
  have hF := tot_ens hT
  have hW := shrink_tot (c := (d.1.1, d.1.2.2.map unE)) hT d.2
  refine ⟨hF, fun r hr _ _ _ => ?_⟩
  obtain ⟨q1, q2⟩ := ce1 hr
  simp only [q1, q2, true_and, and_true]
  clear hr q1 q2
  repeat' (first
    | assumption
    | exact trivial
    | exact ens_eq ‹_› hF
    | exact cjN1 ‹_› ‹_› ‹_› | exact cjN1 ‹_› (And.left ‹CJ2 _ _ _ _›) ‹_› | exact cjN2 ‹_› ‹_› | exact cjN3 ‹_› | exact cjN4 ‹_› ‹_› | exact cjN5 hW ‹_› ‹_› | exact cjN6 hW ‹_› ‹_›
    | exact cjA1 ‹_› | exact cjA2 ‹_› | exact cjA3 ‹_› | exact cjA4 ‹_› | exact cjA5 ‹_› | exact cjA6 ‹_› | exact cjA7 ‹_› | exact cjA8 ‹_›
    | exact CJ1.ens ‹_›
    | exact ens_eq (ce1 ‹_›).2 hF
    | with_reducible apply And.intro
    | intro _)
  all_goals (first
    | (obtain ⟨⟨_, _, _⟩, _⟩ := ‹(_ ∧ _ ∧ _) ∧ _›
       have q := ce1 ‹(_, List.map unE _) = _›
       refine ⟨(_, _), ?_, rfl, rfl, q.1⟩
       refine ⟨hT, by assumption, q.2, by assumption, ?_, ?_⟩ <;> first | assumption | exact ap_symm ‹_›)
    | (obtain ⟨⟨_, _, _⟩, _⟩ := ‹(_ ∧ _ ∧ _) ∧ _›
       have q := ce2 ‹((_, List.map unE _), _) = _›
       rw [CJ1.arg ‹_›] at q
       refine ⟨_, ?_, ⟨q.2.2, q.2.1⟩, rfl, q.2.1⟩
       refine ⟨q.1, ?_, ?_, ?_, ?_⟩ <;> first | assumption | exact ap_symm ‹_›)
    | (have q := ce3 (F := fun c => shrinkF c d.2) ‹((_, List.map unE _), _) = shrinkF (_, List.map unE _) _› ‹_›
       exact ⟨_, q.1, ⟨q.2.2, q.2.1⟩, rfl, q.2.1⟩))
end Go.SF
