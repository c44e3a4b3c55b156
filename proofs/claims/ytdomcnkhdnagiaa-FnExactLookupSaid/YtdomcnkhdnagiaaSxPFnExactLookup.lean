/- The law of Lookup. No condition. -/
import Derived.Test.YtdomcnkhdnagiaaSxC
import Derived.Test.YtdomcnkhdnagiaaSxPCacheN
namespace Go.SF
open Go.SX Go
set_option linter.unusedVariables false
set_option linter.unusedSimpArgs false
set_option maxRecDepth 100000
set_option maxHeartbeats 0
theorem v_FnExactLookup :
  ∀ (d : (Int × Nat × List ((Nat × List Int) × Int × (Nat × List Int) × Nat × List Int)) × Nat × List Int), Ty.wf cacheA (Prod.fst d) ∧ Ty.wf bytA (Prod.snd d) → True → (decide ((1048576 : Int) < (↑(List.length (Prod.snd
  (Prod.snd d))) : Int)) = true → true = true) ∧ (decide ((1048576 : Int) < (↑(List.length (Prod.snd (Prod.snd d))) : Int)) = false → True ∧ (Ty.wf i64T (szCaF (Prod.fst (Prod.fst d), unL enN (Prod.snd (Prod.snd
  (Prod.fst d)))) (1048576 : Int)) → (decide (szCaF (Prod.fst (Prod.fst d), unL enN (Prod.snd (Prod.snd (Prod.fst d)))) (1048576 : Int) < (0 : Int)) = true → true = true) ∧ (decide (szCaF (Prod.fst (Prod.fst d), unL enN
  (Prod.snd (Prod.snd (Prod.fst d)))) (1048576 : Int) < (0 : Int)) = false → EnsP (unL enN (Prod.snd (Prod.snd (Prod.fst d)))) ∧ ∀ (r : Int × List ((Nat × List Int) × Int × (Nat × List Int) × Nat × List Int)), unD cacheG
  r = (Prod.fst (Prod.fst d), unL enN (Prod.snd (Prod.snd (Prod.fst d)))) → List.Nodup (ids cacheG r) → Ty.wf cacheG r → Apart (ids cacheG r) (ids (Ty.gs false enN) (Prod.snd (Prod.fst d))) ∧ Apart (ids cacheG r) (ids
  (Ty.gs false enN) (Prod.snd (Prod.fst d))) ∧ Apart (ids cacheG r) (ids (Ty.gs false byT) (Prod.snd d)) ∧ Apart (ids cacheG r) (ids (Ty.gs false byT) (Prod.snd d)) ∧ Apart (ids cacheG r) (ids (Ty.gs false enN) (Prod.snd
  (Prod.fst d))) ∧ Apart (ids cacheG r) (ids (Ty.gs false enN) (Prod.snd (Prod.fst d))) → List.length (Prod.snd (Prod.snd d)) ≤ (1048576 : Nat) ∧ (Ty.wf bytesT (Prod.snd (Prod.snd d)) → (EnsP (unL enG (Prod.snd r)) ∧
  List.length (Prod.snd (Prod.snd d)) ≤ (1048576 : Nat)) ∧ (Ty.wf cacheT (Prod.fst (lookF (Prod.fst r, unL enG (Prod.snd r)) (Prod.snd (Prod.snd d)))) ∧ Ty.wf resT (Prod.fst (Prod.snd (lookF (Prod.fst r, unL enG
  (Prod.snd r)) (Prod.snd (Prod.snd d))))) ∧ Ty.wf Ty.bool (Prod.snd (Prod.snd (lookF (Prod.fst r, unL enG (Prod.snd r)) (Prod.snd (Prod.snd d))))) → ∀ (xs' : List ((Nat × List Int) × Int × (Nat × List Int) × Nat × List
  Int)), unL (Ty.st (Ty.pr (Ty.gs false byT) (Ty.st (Ty.pr (Ty.int IntKind.i64) (Ty.pr (Ty.gs false (Ty.int IntKind.i64)) (Ty.gs false (Ty.int IntKind.i64))))))) xs' = Prod.snd (Prod.fst (lookF (Prod.fst r, unL enG
  (Prod.snd r)) (Prod.snd (Prod.snd d)))) → EnsP (unL enN (Prod.snd (Prod.snd (Prod.fst d)))) ∧ ∀ (r_1 : Int × List ((Nat × List Int) × Int × (Nat × List Int) × Nat × List Int)), unD cacheG r_1 = (Prod.fst (Prod.fst d),
  unL enN (Prod.snd (Prod.snd (Prod.fst d)))) → List.Nodup (ids cacheG r_1) → Ty.wf cacheG r_1 → (Apart (ids cacheG r_1) (ids (Ty.gs false enN) (Prod.snd (Prod.fst d))) ∧ Apart (ids cacheG r_1) (idsL enG (Prod.snd r)) ∧
  Apart (ids cacheG r_1) (idsL (Ty.st (Ty.pr (Ty.gs false byT) (Ty.st (Ty.pr (Ty.int IntKind.i64) (Ty.pr (Ty.gs false (Ty.int IntKind.i64)) (Ty.gs false (Ty.int IntKind.i64))))))) xs')) ∧ Apart (ids cacheG r_1) (ids
  (Ty.gs false enN) (Prod.snd (Prod.fst d))) ∧ Apart (ids cacheG r_1) (ids (Ty.gs false byT) (Prod.snd d)) ∧ Apart (ids cacheG r_1) (ids (Ty.gs false byT) (Prod.snd d)) ∧ Apart (ids cacheG r_1) (ids (Ty.gs false enN)
  (Prod.snd (Prod.fst d))) ∧ Apart (ids cacheG r_1) (ids (Ty.gs false enN) (Prod.snd (Prod.fst d))) ∧ Apart (ids cacheG r_1) (ids (Ty.gs false byT) (Prod.snd d)) ∧ Apart (ids cacheG r_1) (ids (Ty.gs false enN) (Prod.snd
  (Prod.fst d))) → (List.length (Prod.snd (Prod.snd d)) ≤ (1048576 : Nat) ∧ (Ty.wf bytesT (Prod.snd (Prod.snd d)) → ∃ (x' : List ((Nat × List Int) × Int × (Nat × List Int) × Nat × List Int) × List ((Nat × List Int) × Int
  × (Nat × List Int) × Nat × List Int)), lkJ1 (Prod.fst (lookF (unC (Prod.fst d)) (Prod.snd (Prod.snd d)))) (Prod.fst d) (Prod.snd d) x' ∧ ((Prod.fst (Prod.fst d) = Prod.fst (Prod.fst d) ∧ Prod.fst (Prod.snd (Prod.fst
  d)) = Prod.fst (Prod.snd (Prod.fst d)) ∧ Prod.snd (Prod.snd (Prod.fst d)) = Prod.snd (Prod.snd (Prod.fst d))) ∧ (Prod.fst (Prod.snd d) = Prod.fst (Prod.snd d) ∧ Prod.snd (Prod.snd d) = Prod.snd (Prod.snd d)) ∧ szCaF
  (Prod.fst (Prod.fst d), unL enN (Prod.snd (Prod.snd (Prod.fst d)))) (1048576 : Int) = szCaF (Prod.fst (Prod.fst d), unL enN (Prod.snd (Prod.snd (Prod.fst d)))) (1048576 : Int) ∧ Prod.snd (Prod.snd (lookF (Prod.fst r,
  unL enG (Prod.snd r)) (Prod.snd (Prod.snd d)))) = Prod.snd (Prod.snd (lookF (Prod.fst r, unL enG (Prod.snd r)) (Prod.snd (Prod.snd d))))) ∧ (Prod.fst (Prod.fst d) = Prod.fst (Prod.fst d) ∧ Prod.fst (Prod.snd (Prod.fst
  d)) = Prod.fst (Prod.snd (Prod.fst d)) ∧ Prod.snd (Prod.snd (Prod.fst d)) = Prod.snd (Prod.snd (Prod.fst d))) ∧ xs' = Prod.fst x' ∧ Prod.fst (Prod.snd (Prod.fst (Prod.snd (lookF (Prod.fst r, unL enG (Prod.snd r))
  (Prod.snd (Prod.snd d)))))) = Prod.fst (Prod.snd (Prod.fst (Prod.snd (lookF (unC (Prod.fst d)) (Prod.snd (Prod.snd d)))))) ∧ Prod.snd (Prod.snd (Prod.fst (Prod.snd (lookF (Prod.fst r, unL enG (Prod.snd r)) (Prod.snd
  (Prod.snd d)))))) = Prod.snd (Prod.snd (Prod.fst (Prod.snd (lookF (unC (Prod.fst d)) (Prod.snd (Prod.snd d)))))) ∧ Prod.fst (Prod.fst (lookF (Prod.fst r, unL enG (Prod.snd r)) (Prod.snd (Prod.snd d)))) = Prod.fst
  (Prod.fst (lookF (unC (Prod.fst d)) (Prod.snd (Prod.snd d)))) ∧ Prod.fst (Prod.fst (Prod.snd (lookF (Prod.fst r, unL enG (Prod.snd r)) (Prod.snd (Prod.snd d))))) = Prod.fst (Prod.fst (Prod.snd (lookF (unC (Prod.fst d))
  (Prod.snd (Prod.snd d))))) ∧ Prod.snd r_1 = Prod.snd x' ∧ Prod.fst r_1 = Prod.fst (Prod.fst d) ∧ Prod.snd (Prod.snd d) = Prod.snd (Prod.snd d))) ∧ ∀ (x : List ((Nat × List Int) × Int × (Nat × List Int) × Nat × List
  Int) × List ((Nat × List Int) × Int × (Nat × List Int) × Nat × List Int)), lkJ1 (Prod.fst (lookF (unC (Prod.fst d)) (Prod.snd (Prod.snd d)))) (Prod.fst d) (Prod.snd d) x → ((EnsP (unL enG (Prod.snd x)) ∧ List.length
  (Prod.snd (Prod.snd d)) ≤ (1048576 : Nat)) ∧ ∀ (r_2 : (Int × List ((Nat × List Int) × Int × (Nat × List Int) × Nat × List Int)) × (Int × List Int × List Int) × Bool), (unD cacheG (Prod.fst r_2), unD resT (Prod.fst
  (Prod.snd r_2)), unD Ty.bool (Prod.snd (Prod.snd r_2))) = lookF (Prod.fst (Prod.fst d), unL enG (Prod.snd x)) (Prod.snd (Prod.snd d)) → List.Nodup (ids cacheG (Prod.fst r_2) ++ (ids resT (Prod.fst (Prod.snd r_2)) ++
  ids Ty.bool (Prod.snd (Prod.snd r_2)))) → Ty.wf cacheG (Prod.fst r_2) ∧ Ty.wf resT (Prod.fst (Prod.snd r_2)) ∧ Ty.wf Ty.bool (Prod.snd (Prod.snd r_2)) → (Apart (ids cacheG (Prod.fst r_2) ++ (ids resT (Prod.fst
  (Prod.snd r_2)) ++ ids Ty.bool (Prod.snd (Prod.snd r_2)))) (ids (Ty.gs false enN) (Prod.snd (Prod.fst d))) ∧ Apart (ids cacheG (Prod.fst r_2) ++ (ids resT (Prod.fst (Prod.snd r_2)) ++ ids Ty.bool (Prod.snd (Prod.snd
  r_2)))) (idsL enN (Prod.fst x)) ∧ Apart (ids cacheG (Prod.fst r_2) ++ (ids resT (Prod.fst (Prod.snd r_2)) ++ ids Ty.bool (Prod.snd (Prod.snd r_2)))) (idsL enG (Prod.snd x))) ∧ Apart (ids cacheG (Prod.fst r_2) ++ (ids
  resT (Prod.fst (Prod.snd r_2)) ++ ids Ty.bool (Prod.snd (Prod.snd r_2)))) (ids (Ty.gs false enN) (Prod.snd (Prod.fst d))) ∧ Apart (ids cacheG (Prod.fst r_2) ++ (ids resT (Prod.fst (Prod.snd r_2)) ++ ids Ty.bool
  (Prod.snd (Prod.snd r_2)))) (ids (Ty.gs false byT) (Prod.snd d)) → ∃ (x' : List ((Nat × List Int) × Int × (Nat × List Int) × Nat × List Int)), lkJ2 (Prod.fst (lookF (unC (Prod.fst d)) (Prod.snd (Prod.snd d))))
  (Prod.fst d) (Prod.snd d) x x' ∧ ((Prod.fst (Prod.fst d) = Prod.fst (Prod.fst d) ∧ Prod.fst (Prod.snd (Prod.fst d)) = Prod.fst (Prod.snd (Prod.fst d)) ∧ Prod.snd (Prod.snd (Prod.fst d)) = Prod.snd (Prod.snd (Prod.fst
  d))) ∧ (Prod.fst (Prod.snd d) = Prod.fst (Prod.snd d) ∧ Prod.snd (Prod.snd d) = Prod.snd (Prod.snd d)) ∧ szCaF (Prod.fst (Prod.fst d), unL enN (Prod.snd (Prod.snd (Prod.fst d)))) (1048576 : Int) = szCaF (Prod.fst
  (Prod.fst d), unL enN (Prod.snd (Prod.snd (Prod.fst d)))) (1048576 : Int) ∧ Prod.snd (Prod.snd (lookF (Prod.fst r, unL enG (Prod.snd r)) (Prod.snd (Prod.snd d)))) = Prod.snd (Prod.snd (lookF (Prod.fst r, unL enG
  (Prod.snd r)) (Prod.snd (Prod.snd d)))) ∧ Prod.snd (Prod.snd r_2) = Prod.snd (Prod.snd (lookF (unC (Prod.fst d)) (Prod.snd (Prod.snd d)))) ∧ Prod.fst (Prod.fst r_2) = Prod.fst (Prod.fst (lookF (unC (Prod.fst d))
  (Prod.snd (Prod.snd d)))) ∧ Prod.fst (Prod.fst (Prod.snd r_2)) = Prod.fst (Prod.fst (Prod.snd (lookF (unC (Prod.fst d)) (Prod.snd (Prod.snd d)))))) ∧ (Prod.fst (Prod.fst d) = Prod.fst (Prod.fst d) ∧ Prod.fst (Prod.snd
  (Prod.fst d)) = Prod.fst (Prod.snd (Prod.fst d)) ∧ Prod.snd (Prod.snd (Prod.fst d)) = Prod.snd (Prod.snd (Prod.fst d))) ∧ Prod.fst x = Prod.fst x ∧ Prod.fst (Prod.snd (Prod.fst (Prod.snd (lookF (unC (Prod.fst d))
  (Prod.snd (Prod.snd d)))))) = Prod.fst (Prod.snd (Prod.fst (Prod.snd (lookF (unC (Prod.fst d)) (Prod.snd (Prod.snd d)))))) ∧ Prod.snd (Prod.snd (Prod.fst (Prod.snd (lookF (unC (Prod.fst d)) (Prod.snd (Prod.snd d))))))
  = Prod.snd (Prod.snd (Prod.fst (Prod.snd (lookF (unC (Prod.fst d)) (Prod.snd (Prod.snd d)))))) ∧ Prod.fst (Prod.fst (lookF (unC (Prod.fst d)) (Prod.snd (Prod.snd d)))) = Prod.fst (Prod.fst (lookF (unC (Prod.fst d))
  (Prod.snd (Prod.snd d)))) ∧ Prod.fst (Prod.fst (Prod.snd (lookF (unC (Prod.fst d)) (Prod.snd (Prod.snd d))))) = Prod.fst (Prod.fst (Prod.snd (lookF (unC (Prod.fst d)) (Prod.snd (Prod.snd d))))) ∧ Prod.snd x = Prod.snd
  x ∧ Prod.fst (Prod.fst d) = Prod.fst (Prod.fst d) ∧ Prod.snd (Prod.snd d) = Prod.snd (Prod.snd d) ∧ Prod.snd (Prod.fst r_2) = x' ∧ Prod.fst (Prod.snd (Prod.fst (Prod.snd r_2))) = Prod.fst (Prod.snd (Prod.fst (Prod.snd
  (lookF (unC (Prod.fst d)) (Prod.snd (Prod.snd d)))))) ∧ Prod.snd (Prod.snd (Prod.fst (Prod.snd r_2))) = Prod.snd (Prod.snd (Prod.fst (Prod.snd (lookF (unC (Prod.fst d)) (Prod.snd (Prod.snd d)))))) ∧ Prod.fst (Prod.fst
  r_2) = Prod.fst (Prod.fst (lookF (unC (Prod.fst d)) (Prod.snd (Prod.snd d)))) ∧ Prod.fst (Prod.fst (Prod.snd r_2)) = Prod.fst (Prod.fst (Prod.snd (lookF (unC (Prod.fst d)) (Prod.snd (Prod.snd d)))))) ∧ ∀ (x_1 : List
  ((Nat × List Int) × Int × (Nat × List Int) × Nat × List Int)), lkJ2 (Prod.fst (lookF (unC (Prod.fst d)) (Prod.snd (Prod.snd d)))) (Prod.fst d) (Prod.snd d) x x_1 → True ∧ ((!eqCa (Prod.fst (Prod.fst (lookF (unC
  (Prod.fst d)) (Prod.snd (Prod.snd d)))), unL enG x_1) (Prod.fst (Prod.fst (lookF (unC (Prod.fst d)) (Prod.snd (Prod.snd d)))), unL enN (Prod.fst x))) = true → false = true) ∧ ((!eqCa (Prod.fst (Prod.fst (lookF (unC
  (Prod.fst d)) (Prod.snd (Prod.snd d)))), unL enG x_1) (Prod.fst (Prod.fst (lookF (unC (Prod.fst d)) (Prod.snd (Prod.snd d)))), unL enN (Prod.fst x))) = false → True ∧ ((!eqRs (Prod.fst (Prod.snd (lookF (unC (Prod.fst
  d)) (Prod.snd (Prod.snd d))))) (Prod.fst (Prod.snd (lookF (unC (Prod.fst d)) (Prod.snd (Prod.snd d)))))) = true → false = true) ∧ ((!eqRs (Prod.fst (Prod.snd (lookF (unC (Prod.fst d)) (Prod.snd (Prod.snd d)))))
  (Prod.fst (Prod.snd (lookF (unC (Prod.fst d)) (Prod.snd (Prod.snd d)))))) = false → ((!Prod.snd (Prod.snd (lookF (unC (Prod.fst d)) (Prod.snd (Prod.snd d)))) == Prod.snd (Prod.snd (lookF (Prod.fst r, unL enG (Prod.snd
  r)) (Prod.snd (Prod.snd d))))) = true → false = true) ∧ ((!Prod.snd (Prod.snd (lookF (unC (Prod.fst d)) (Prod.snd (Prod.snd d)))) == Prod.snd (Prod.snd (lookF (Prod.fst r, unL enG (Prod.snd r)) (Prod.snd (Prod.snd
  d))))) = false → EnsP (unL enN (Prod.snd (Prod.snd (Prod.fst d)))) ∧ True ∧ (Ty.wf cacheT (Prod.fst (Prod.fst d), unL enN (Prod.snd (Prod.snd (Prod.fst d)))) → ((!eqCa (Prod.fst (Prod.fst d), unL enG (Prod.snd x))
  (Prod.fst (Prod.fst d), unL enN (Prod.snd (Prod.snd (Prod.fst d))))) = true → false = true) ∧ ((!eqCa (Prod.fst (Prod.fst d), unL enG (Prod.snd x)) (Prod.fst (Prod.fst d), unL enN (Prod.snd (Prod.snd (Prod.fst d))))) =
  false → List.length (Prod.snd (Prod.snd d)) ≤ (1048576 : Nat) ∧ (Ty.wf bytesT (Prod.snd (Prod.snd d)) → True ∧ ((!decide (Prod.snd (Prod.snd d) = Prod.snd (Prod.snd d))) = true → false = true) ∧ ((!decide (Prod.snd
  (Prod.snd d) = Prod.snd (Prod.snd d))) = false → True ∧ List.Nodup (ids cacheG (Prod.fst (Prod.fst d), Prod.snd x)) ∧ ((Apart (ids cacheG (Prod.fst (Prod.fst d), Prod.snd x)) (idsL enN (Prod.fst x)) ∧ Apart (ids cacheG
  (Prod.fst (Prod.fst d), Prod.snd x)) (idsL enG x_1)) ∧ (Apart (ids cacheG (Prod.fst (Prod.fst d), Prod.snd x)) (ids (Ty.gs false enN) (Prod.snd (Prod.fst d))) ∧ Apart (ids cacheG (Prod.fst (Prod.fst d), Prod.snd x))
  (ids (Ty.gs false byT) (Prod.snd d)) ∧ Apart (ids cacheG (Prod.fst (Prod.fst d), Prod.snd x)) (ids (Ty.gs false enN) (Prod.snd (Prod.fst d))) ∧ Apart (ids cacheG (Prod.fst (Prod.fst d), Prod.snd x)) (ids (Ty.gs false
  byT) (Prod.snd d))) ∧ Apart (ids cacheG (Prod.fst (Prod.fst d), Prod.snd x)) (ids (Ty.gs false enN) (Prod.snd (Prod.fst d)))) ∧ True ∧ (decide (end8 (Prod.snd (Prod.snd d)) (endE (Prod.snd x) (1 : Int)) < (0 : Int)) =
  true → false = true) ∧ (decide (end8 (Prod.snd (Prod.snd d)) (endE (Prod.snd x) (1 : Int)) < (0 : Int)) = false → True ∧ ((!eqCa (Prod.fst (Prod.fst (lookF (unC (Prod.fst d)) (Prod.snd (Prod.snd d)))), unL enG x_1)
  (Prod.fst (Prod.fst (lookF (unC (Prod.fst d)) (Prod.snd (Prod.snd d)))), unL enN (Prod.fst x))) = true → false = true) ∧ ((!eqCa (Prod.fst (Prod.fst (lookF (unC (Prod.fst d)) (Prod.snd (Prod.snd d)))), unL enG x_1)
  (Prod.fst (Prod.fst (lookF (unC (Prod.fst d)) (Prod.snd (Prod.snd d)))), unL enN (Prod.fst x))) = false → True ∧ ((!eqRs (Prod.fst (Prod.snd (lookF (unC (Prod.fst d)) (Prod.snd (Prod.snd d))))) (Prod.fst (Prod.snd
  (lookF (unC (Prod.fst d)) (Prod.snd (Prod.snd d)))))) = true → false = true) ∧ ((!eqRs (Prod.fst (Prod.snd (lookF (unC (Prod.fst d)) (Prod.snd (Prod.snd d))))) (Prod.fst (Prod.snd (lookF (unC (Prod.fst d)) (Prod.snd
  (Prod.snd d)))))) = false → ((!Prod.snd (Prod.snd (lookF (unC (Prod.fst d)) (Prod.snd (Prod.snd d)))) == Prod.snd (Prod.snd (lookF (Prod.fst r, unL enG (Prod.snd r)) (Prod.snd (Prod.snd d))))) = true → false = true) ∧
  ((!Prod.snd (Prod.snd (lookF (unC (Prod.fst d)) (Prod.snd (Prod.snd d)))) == Prod.snd (Prod.snd (lookF (Prod.fst r, unL enG (Prod.snd r)) (Prod.snd (Prod.snd d))))) = false → True ∧ List.Nodup (ids cacheG (Prod.fst
  (Prod.fst (lookF (unC (Prod.fst d)) (Prod.snd (Prod.snd d)))), x_1)) ∧ ((Apart (ids cacheG (Prod.fst (Prod.fst (lookF (unC (Prod.fst d)) (Prod.snd (Prod.snd d)))), x_1)) (idsL enN (Prod.fst x)) ∧ Apart (ids cacheG
  (Prod.fst (Prod.fst (lookF (unC (Prod.fst d)) (Prod.snd (Prod.snd d)))), x_1)) (idsL enG (markE (Prod.snd x) (1 : Int)))) ∧ (Apart (ids cacheG (Prod.fst (Prod.fst (lookF (unC (Prod.fst d)) (Prod.snd (Prod.snd d)))),
  x_1)) (ids (Ty.gs false enN) (Prod.snd (Prod.fst d))) ∧ Apart (ids cacheG (Prod.fst (Prod.fst (lookF (unC (Prod.fst d)) (Prod.snd (Prod.snd d)))), x_1)) (ids (Ty.gs false byT) (Prod.snd d)) ∧ Apart (ids cacheG
  (Prod.fst (Prod.fst (lookF (unC (Prod.fst d)) (Prod.snd (Prod.snd d)))), x_1)) (ids (Ty.gs false enN) (Prod.snd (Prod.fst d))) ∧ Apart (ids cacheG (Prod.fst (Prod.fst (lookF (unC (Prod.fst d)) (Prod.snd (Prod.snd
  d)))), x_1)) (ids (Ty.gs false byT) (Prod.snd d))) ∧ Apart (ids cacheG (Prod.fst (Prod.fst (lookF (unC (Prod.fst d)) (Prod.snd (Prod.snd d)))), x_1)) (ids (Ty.gs false enN) (Prod.snd (Prod.fst d)))) ∧ True ∧ True ∧
  (Ty.wf i64T (neg1 (heldE (unL enG (markE x_1 (1 : Int))) (1 : Int))) → (decide (neg1 (heldE (unL enG (markE x_1 (1 : Int))) (1 : Int)) < (0 : Int)) = true → false = true) ∧ (decide (neg1 (heldE (unL enG (markE x_1 (1 :
  Int))) (1 : Int)) < (0 : Int)) = false → True ∧ (Ty.wf i64T (heldR (Prod.fst (Prod.fst (Prod.snd (lookF (unC (Prod.fst d)) (Prod.snd (Prod.snd d))))), Prod.snd (markR (Prod.fst (Prod.snd (lookF (unC (Prod.fst d))
  (Prod.snd (Prod.snd d))))) (endE x_1 (1 : Int)))) (neg1 (heldE (unL enG (markE x_1 (1 : Int))) (1 : Int)))) → (decide (heldR (Prod.fst (Prod.fst (Prod.snd (lookF (unC (Prod.fst d)) (Prod.snd (Prod.snd d))))), Prod.snd
  (markR (Prod.fst (Prod.snd (lookF (unC (Prod.fst d)) (Prod.snd (Prod.snd d))))) (endE x_1 (1 : Int)))) (neg1 (heldE (unL enG (markE x_1 (1 : Int))) (1 : Int))) < (0 : Int)) = true → false = true) ∧ (decide (heldR
  (Prod.fst (Prod.fst (Prod.snd (lookF (unC (Prod.fst d)) (Prod.snd (Prod.snd d))))), Prod.snd (markR (Prod.fst (Prod.snd (lookF (unC (Prod.fst d)) (Prod.snd (Prod.snd d))))) (endE x_1 (1 : Int)))) (neg1 (heldE (unL enG
  (markE x_1 (1 : Int))) (1 : Int))) < (0 : Int)) = false → (((!decide (heldR (Prod.fst (Prod.fst (Prod.snd (lookF (unC (Prod.fst d)) (Prod.snd (Prod.snd d))))), Prod.snd (markR (Prod.fst (Prod.snd (lookF (unC (Prod.fst
  d)) (Prod.snd (Prod.snd d))))) (endE x_1 (1 : Int)))) (neg1 (heldE (unL enG (markE x_1 (1 : Int))) (1 : Int))) = endR (Prod.fst (Prod.snd (lookF (unC (Prod.fst d)) (Prod.snd (Prod.snd d))))) (endE x_1 (1 : Int)))) =
  true → false = true) ∧ ((!decide (heldR (Prod.fst (Prod.fst (Prod.snd (lookF (unC (Prod.fst d)) (Prod.snd (Prod.snd d))))), Prod.snd (markR (Prod.fst (Prod.snd (lookF (unC (Prod.fst d)) (Prod.snd (Prod.snd d))))) (endE
  x_1 (1 : Int)))) (neg1 (heldE (unL enG (markE x_1 (1 : Int))) (1 : Int))) = endR (Prod.fst (Prod.snd (lookF (unC (Prod.fst d)) (Prod.snd (Prod.snd d))))) (endE x_1 (1 : Int)))) = false → ∃ (x' : Unit), (lkJ1 (Prod.fst
  (lookF (unC (Prod.fst d)) (Prod.snd (Prod.snd d)))) (Prod.fst d) (Prod.snd d) x ∧ lkJ2 (Prod.fst (lookF (unC (Prod.fst d)) (Prod.snd (Prod.snd d)))) (Prod.fst d) (Prod.snd d) x x_1) ∧ ((Prod.fst (Prod.fst d) = Prod.fst
  (Prod.fst d) ∧ Prod.fst (Prod.snd (Prod.fst d)) = Prod.fst (Prod.snd (Prod.fst d)) ∧ Prod.snd (Prod.snd (Prod.fst d)) = Prod.snd (Prod.snd (Prod.fst d))) ∧ (Prod.fst (Prod.snd d) = Prod.fst (Prod.snd d) ∧ Prod.snd
  (Prod.snd d) = Prod.snd (Prod.snd d)) ∧ szCaF (Prod.fst (Prod.fst d), unL enN (Prod.snd (Prod.snd (Prod.fst d)))) (1048576 : Int) = szCaF (Prod.fst (Prod.fst d), unL enN (Prod.snd (Prod.snd (Prod.fst d)))) (1048576 :
  Int) ∧ Prod.snd (Prod.snd (lookF (Prod.fst r, unL enG (Prod.snd r)) (Prod.snd (Prod.snd d)))) = Prod.snd (Prod.snd (lookF (Prod.fst r, unL enG (Prod.snd r)) (Prod.snd (Prod.snd d)))) ∧ Prod.snd (Prod.snd (lookF (unC
  (Prod.fst d)) (Prod.snd (Prod.snd d)))) = Prod.snd (Prod.snd (lookF (unC (Prod.fst d)) (Prod.snd (Prod.snd d)))) ∧ endR (Prod.fst (Prod.snd (lookF (unC (Prod.fst d)) (Prod.snd (Prod.snd d))))) (endE x_1 (1 : Int)) =
  endR (Prod.fst (Prod.snd (lookF (unC (Prod.fst d)) (Prod.snd (Prod.snd d))))) (endE x_1 (1 : Int))) ∧ (Prod.fst (Prod.fst d) = Prod.fst (Prod.fst d) ∧ Prod.fst (Prod.snd (Prod.fst d)) = Prod.fst (Prod.snd (Prod.fst d))
  ∧ Prod.snd (Prod.snd (Prod.fst d)) = Prod.snd (Prod.snd (Prod.fst d))) ∧ Prod.fst x = Prod.fst x ∧ Prod.fst (Prod.snd (Prod.fst (Prod.snd (lookF (unC (Prod.fst d)) (Prod.snd (Prod.snd d)))))) = Prod.fst (Prod.snd
  (Prod.fst (Prod.snd (lookF (unC (Prod.fst d)) (Prod.snd (Prod.snd d)))))) ∧ Prod.snd (Prod.snd (Prod.fst (Prod.snd (lookF (unC (Prod.fst d)) (Prod.snd (Prod.snd d)))))) = Prod.snd (Prod.snd (Prod.fst (Prod.snd (lookF
  (unC (Prod.fst d)) (Prod.snd (Prod.snd d)))))) ∧ Prod.fst (Prod.fst (lookF (unC (Prod.fst d)) (Prod.snd (Prod.snd d)))) = Prod.fst (Prod.fst (lookF (unC (Prod.fst d)) (Prod.snd (Prod.snd d)))) ∧ Prod.fst (Prod.fst
  (Prod.snd (lookF (unC (Prod.fst d)) (Prod.snd (Prod.snd d))))) = Prod.fst (Prod.fst (Prod.snd (lookF (unC (Prod.fst d)) (Prod.snd (Prod.snd d))))) ∧ markE x_1 (1 : Int) = markE x_1 (1 : Int) ∧ Prod.fst (Prod.snd (markR
  (Prod.fst (Prod.snd (lookF (unC (Prod.fst d)) (Prod.snd (Prod.snd d))))) (endE x_1 (1 : Int)))) = Prod.fst (Prod.snd (markR (Prod.fst (Prod.snd (lookF (unC (Prod.fst d)) (Prod.snd (Prod.snd d))))) (endE x_1 (1 :
  Int)))) ∧ Prod.snd (Prod.snd (markR (Prod.fst (Prod.snd (lookF (unC (Prod.fst d)) (Prod.snd (Prod.snd d))))) (endE x_1 (1 : Int)))) = Prod.snd (Prod.snd (markR (Prod.fst (Prod.snd (lookF (unC (Prod.fst d)) (Prod.snd
  (Prod.snd d))))) (endE x_1 (1 : Int)))) ∧ Prod.fst (Prod.fst (lookF (unC (Prod.fst d)) (Prod.snd (Prod.snd d)))) = Prod.fst (Prod.fst (lookF (unC (Prod.fst d)) (Prod.snd (Prod.snd d)))) ∧ Prod.fst (Prod.fst (Prod.snd
  (lookF (unC (Prod.fst d)) (Prod.snd (Prod.snd d))))) = Prod.fst (Prod.fst (Prod.snd (lookF (unC (Prod.fst d)) (Prod.snd (Prod.snd d))))))) ∧ ∀ (x_2 : Unit), lkJ1 (Prod.fst (lookF (unC (Prod.fst d)) (Prod.snd (Prod.snd
  d)))) (Prod.fst d) (Prod.snd d) x ∧ lkJ2 (Prod.fst (lookF (unC (Prod.fst d)) (Prod.snd (Prod.snd d)))) (Prod.fst d) (Prod.snd d) x x_1 → (EnsP (unL enN (Prod.snd (Prod.snd (Prod.fst d)))) ∧ ∀ (r_2 : Int × List ((Nat ×
  List Int) × Int × (Nat × List Int) × Nat × List Int)), unD cacheG r_2 = (Prod.fst (Prod.fst d), unL enN (Prod.snd (Prod.snd (Prod.fst d)))) → List.Nodup (ids cacheG r_2) → Ty.wf cacheG r_2 → (Apart (ids cacheG r_2)
  (ids (Ty.gs false enN) (Prod.snd (Prod.fst d))) ∧ Apart (ids cacheG r_2) (idsL enN (Prod.fst x)) ∧ Apart (ids cacheG r_2) (idsL enG (markE x_1 (1 : Int)))) ∧ Apart (ids cacheG r_2) (ids (Ty.gs false enN) (Prod.snd
  (Prod.fst d))) ∧ Apart (ids cacheG r_2) (ids (Ty.gs false byT) (Prod.snd d)) ∧ Apart (ids cacheG r_2) (ids (Ty.gs false enN) (Prod.snd (Prod.fst d))) → List.length (Prod.snd (Prod.snd d)) ≤ (1048576 : Nat) ∧ (Ty.wf
  bytesT (Prod.snd (Prod.snd d)) → (EnsP (unL enG (Prod.snd r_2)) ∧ List.length (Prod.snd (Prod.snd d)) ≤ (1048576 : Nat)) ∧ ∀ (r_3 : (Int × List ((Nat × List Int) × Int × (Nat × List Int) × Nat × List Int)) × (Int ×
  List Int × List Int) × Bool), (unD cacheG (Prod.fst r_3), unD resT (Prod.fst (Prod.snd r_3)), unD Ty.bool (Prod.snd (Prod.snd r_3))) = lookF (Prod.fst r_2, unL enG (Prod.snd r_2)) (Prod.snd (Prod.snd d)) → List.Nodup
  (ids cacheG (Prod.fst r_3) ++ (ids resT (Prod.fst (Prod.snd r_3)) ++ ids Ty.bool (Prod.snd (Prod.snd r_3)))) → Ty.wf cacheG (Prod.fst r_3) ∧ Ty.wf resT (Prod.fst (Prod.snd r_3)) ∧ Ty.wf Ty.bool (Prod.snd (Prod.snd
  r_3)) → (Apart (ids cacheG (Prod.fst r_3) ++ (ids resT (Prod.fst (Prod.snd r_3)) ++ ids Ty.bool (Prod.snd (Prod.snd r_3)))) (ids (Ty.gs false enN) (Prod.snd (Prod.fst d))) ∧ Apart (ids cacheG (Prod.fst r_3) ++ (ids
  resT (Prod.fst (Prod.snd r_3)) ++ ids Ty.bool (Prod.snd (Prod.snd r_3)))) (idsL enN (Prod.fst x)) ∧ Apart (ids cacheG (Prod.fst r_3) ++ (ids resT (Prod.fst (Prod.snd r_3)) ++ ids Ty.bool (Prod.snd (Prod.snd r_3))))
  (idsL enG (markE x_1 (1 : Int))) ∧ Apart (ids cacheG (Prod.fst r_3) ++ (ids resT (Prod.fst (Prod.snd r_3)) ++ ids Ty.bool (Prod.snd (Prod.snd r_3)))) (idsL enG (Prod.snd r_2))) ∧ Apart (ids cacheG (Prod.fst r_3) ++
  (ids resT (Prod.fst (Prod.snd r_3)) ++ ids Ty.bool (Prod.snd (Prod.snd r_3)))) (ids (Ty.gs false enN) (Prod.snd (Prod.fst d))) ∧ Apart (ids cacheG (Prod.fst r_3) ++ (ids resT (Prod.fst (Prod.snd r_3)) ++ ids Ty.bool
  (Prod.snd (Prod.snd r_3)))) (ids (Ty.gs false byT) (Prod.snd d)) ∧ Apart (ids cacheG (Prod.fst r_3) ++ (ids resT (Prod.fst (Prod.snd r_3)) ++ ids Ty.bool (Prod.snd (Prod.snd r_3)))) (ids (Ty.gs false enN) (Prod.snd
  (Prod.fst d))) ∧ Apart (ids cacheG (Prod.fst r_3) ++ (ids resT (Prod.fst (Prod.snd r_3)) ++ ids Ty.bool (Prod.snd (Prod.snd r_3)))) (ids (Ty.gs false byT) (Prod.snd d)) → ∃ (x' : List ((Nat × List Int) × Int × (Nat ×
  List Int) × Nat × List Int)), List.map unE x' = Prod.snd (Prod.fst (lookF (unC (Prod.fst d)) (Prod.snd (Prod.snd d)))) ∧ ((Prod.fst (Prod.fst d) = Prod.fst (Prod.fst d) ∧ Prod.fst (Prod.snd (Prod.fst d)) = Prod.fst
  (Prod.snd (Prod.fst d)) ∧ Prod.snd (Prod.snd (Prod.fst d)) = Prod.snd (Prod.snd (Prod.fst d))) ∧ (Prod.fst (Prod.snd d) = Prod.fst (Prod.snd d) ∧ Prod.snd (Prod.snd d) = Prod.snd (Prod.snd d)) ∧ szCaF (Prod.fst
  (Prod.fst d), unL enN (Prod.snd (Prod.snd (Prod.fst d)))) (1048576 : Int) = szCaF (Prod.fst (Prod.fst d), unL enN (Prod.snd (Prod.snd (Prod.fst d)))) (1048576 : Int) ∧ Prod.snd (Prod.snd (lookF (Prod.fst r, unL enG
  (Prod.snd r)) (Prod.snd (Prod.snd d)))) = Prod.snd (Prod.snd (lookF (Prod.fst r, unL enG (Prod.snd r)) (Prod.snd (Prod.snd d)))) ∧ Prod.snd (Prod.snd (lookF (unC (Prod.fst d)) (Prod.snd (Prod.snd d)))) = Prod.snd
  (Prod.snd (lookF (unC (Prod.fst d)) (Prod.snd (Prod.snd d)))) ∧ endR (Prod.fst (Prod.snd (lookF (unC (Prod.fst d)) (Prod.snd (Prod.snd d))))) (endE x_1 (1 : Int)) = endR (Prod.fst (Prod.snd (lookF (unC (Prod.fst d))
  (Prod.snd (Prod.snd d))))) (endE x_1 (1 : Int)) ∧ Prod.snd (Prod.snd r_3) = Prod.snd (Prod.snd (lookF (unC (Prod.fst d)) (Prod.snd (Prod.snd d)))) ∧ Prod.fst (Prod.fst r_3) = Prod.fst (Prod.fst (lookF (unC (Prod.fst
  d)) (Prod.snd (Prod.snd d)))) ∧ Prod.fst (Prod.fst (Prod.snd r_3)) = Prod.fst (Prod.fst (Prod.snd (lookF (unC (Prod.fst d)) (Prod.snd (Prod.snd d)))))) ∧ (Prod.fst (Prod.fst d) = Prod.fst (Prod.fst d) ∧ Prod.fst
  (Prod.snd (Prod.fst d)) = Prod.fst (Prod.snd (Prod.fst d)) ∧ Prod.snd (Prod.snd (Prod.fst d)) = Prod.snd (Prod.snd (Prod.fst d))) ∧ Prod.fst x = Prod.fst x ∧ Prod.fst (Prod.snd (Prod.fst (Prod.snd (lookF (unC (Prod.fst
  d)) (Prod.snd (Prod.snd d)))))) = Prod.fst (Prod.snd (Prod.fst (Prod.snd (lookF (unC (Prod.fst d)) (Prod.snd (Prod.snd d)))))) ∧ Prod.snd (Prod.snd (Prod.fst (Prod.snd (lookF (unC (Prod.fst d)) (Prod.snd (Prod.snd
  d)))))) = Prod.snd (Prod.snd (Prod.fst (Prod.snd (lookF (unC (Prod.fst d)) (Prod.snd (Prod.snd d)))))) ∧ Prod.fst (Prod.fst (lookF (unC (Prod.fst d)) (Prod.snd (Prod.snd d)))) = Prod.fst (Prod.fst (lookF (unC (Prod.fst
  d)) (Prod.snd (Prod.snd d)))) ∧ Prod.fst (Prod.fst (Prod.snd (lookF (unC (Prod.fst d)) (Prod.snd (Prod.snd d))))) = Prod.fst (Prod.fst (Prod.snd (lookF (unC (Prod.fst d)) (Prod.snd (Prod.snd d))))) ∧ markE x_1 (1 :
  Int) = markE x_1 (1 : Int) ∧ Prod.fst (Prod.snd (markR (Prod.fst (Prod.snd (lookF (unC (Prod.fst d)) (Prod.snd (Prod.snd d))))) (endE x_1 (1 : Int)))) = Prod.fst (Prod.snd (markR (Prod.fst (Prod.snd (lookF (unC
  (Prod.fst d)) (Prod.snd (Prod.snd d))))) (endE x_1 (1 : Int)))) ∧ Prod.snd (Prod.snd (markR (Prod.fst (Prod.snd (lookF (unC (Prod.fst d)) (Prod.snd (Prod.snd d))))) (endE x_1 (1 : Int)))) = Prod.snd (Prod.snd (markR
  (Prod.fst (Prod.snd (lookF (unC (Prod.fst d)) (Prod.snd (Prod.snd d))))) (endE x_1 (1 : Int)))) ∧ Prod.fst (Prod.fst (lookF (unC (Prod.fst d)) (Prod.snd (Prod.snd d)))) = Prod.fst (Prod.fst (lookF (unC (Prod.fst d))
  (Prod.snd (Prod.snd d)))) ∧ Prod.fst (Prod.fst (Prod.snd (lookF (unC (Prod.fst d)) (Prod.snd (Prod.snd d))))) = Prod.fst (Prod.fst (Prod.snd (lookF (unC (Prod.fst d)) (Prod.snd (Prod.snd d))))) ∧ Prod.snd (Prod.fst
  r_3) = x' ∧ Prod.fst (Prod.snd (Prod.fst (Prod.snd r_3))) = Prod.fst (Prod.snd (Prod.fst (Prod.snd (lookF (unC (Prod.fst d)) (Prod.snd (Prod.snd d)))))) ∧ Prod.snd (Prod.snd (Prod.fst (Prod.snd r_3))) = Prod.snd
  (Prod.snd (Prod.fst (Prod.snd (lookF (unC (Prod.fst d)) (Prod.snd (Prod.snd d)))))) ∧ Prod.fst (Prod.fst r_3) = Prod.fst (Prod.fst (lookF (unC (Prod.fst d)) (Prod.snd (Prod.snd d)))) ∧ Prod.fst (Prod.fst (Prod.snd
  r_3)) = Prod.fst (Prod.fst (Prod.snd (lookF (unC (Prod.fst d)) (Prod.snd (Prod.snd d))))))) ∧ ∀ (x_3 : List ((Nat × List Int) × Int × (Nat × List Int) × Nat × List Int)), List.map unE x_3 = Prod.snd (Prod.fst (lookF
  (unC (Prod.fst d)) (Prod.snd (Prod.snd d)))) → True ∧ ((!eqCa (Prod.fst (Prod.fst (lookF (unC (Prod.fst d)) (Prod.snd (Prod.snd d)))), unL enG x_3) (Prod.fst (Prod.fst (lookF (unC (Prod.fst d)) (Prod.snd (Prod.snd
  d)))), unL enN (Prod.fst x))) = true → false = true) ∧ ((!eqCa (Prod.fst (Prod.fst (lookF (unC (Prod.fst d)) (Prod.snd (Prod.snd d)))), unL enG x_3) (Prod.fst (Prod.fst (lookF (unC (Prod.fst d)) (Prod.snd (Prod.snd
  d)))), unL enN (Prod.fst x))) = false → True ∧ ((!eqRs (Prod.fst (Prod.snd (lookF (unC (Prod.fst d)) (Prod.snd (Prod.snd d))))) (Prod.fst (Prod.snd (lookF (unC (Prod.fst d)) (Prod.snd (Prod.snd d)))))) = true → false =
  true) ∧ ((!eqRs (Prod.fst (Prod.snd (lookF (unC (Prod.fst d)) (Prod.snd (Prod.snd d))))) (Prod.fst (Prod.snd (lookF (unC (Prod.fst d)) (Prod.snd (Prod.snd d)))))) = false → ((!Prod.snd (Prod.snd (lookF (unC (Prod.fst
  d)) (Prod.snd (Prod.snd d)))) == Prod.snd (Prod.snd (lookF (Prod.fst r, unL enG (Prod.snd r)) (Prod.snd (Prod.snd d))))) = true → false = true) ∧ ((!Prod.snd (Prod.snd (lookF (unC (Prod.fst d)) (Prod.snd (Prod.snd
  d)))) == Prod.snd (Prod.snd (lookF (Prod.fst r, unL enG (Prod.snd r)) (Prod.snd (Prod.snd d))))) = false → True ∧ (Ty.wf i64T (neg1 (heldE (unL enG (markE x_1 (1 : Int))) (1 : Int))) → (decide (neg1 (heldE (unL enG
  (markE x_1 (1 : Int))) (1 : Int)) < (0 : Int)) = true → false = true) ∧ (decide (neg1 (heldE (unL enG (markE x_1 (1 : Int))) (1 : Int)) < (0 : Int)) = false → True ∧ (Ty.wf i64T (heldR (Prod.fst (Prod.fst (Prod.snd
  (lookF (unC (Prod.fst d)) (Prod.snd (Prod.snd d))))), Prod.snd (markR (Prod.fst (Prod.snd (lookF (unC (Prod.fst d)) (Prod.snd (Prod.snd d))))) (endE x_1 (1 : Int)))) (neg1 (heldE (unL enG (markE x_1 (1 : Int))) (1 :
  Int)))) → (decide (heldR (Prod.fst (Prod.fst (Prod.snd (lookF (unC (Prod.fst d)) (Prod.snd (Prod.snd d))))), Prod.snd (markR (Prod.fst (Prod.snd (lookF (unC (Prod.fst d)) (Prod.snd (Prod.snd d))))) (endE x_1 (1 :
  Int)))) (neg1 (heldE (unL enG (markE x_1 (1 : Int))) (1 : Int))) < (0 : Int)) = true → false = true) ∧ (decide (heldR (Prod.fst (Prod.fst (Prod.snd (lookF (unC (Prod.fst d)) (Prod.snd (Prod.snd d))))), Prod.snd (markR
  (Prod.fst (Prod.snd (lookF (unC (Prod.fst d)) (Prod.snd (Prod.snd d))))) (endE x_1 (1 : Int)))) (neg1 (heldE (unL enG (markE x_1 (1 : Int))) (1 : Int))) < (0 : Int)) = false → ((!decide (heldR (Prod.fst (Prod.fst
  (Prod.snd (lookF (unC (Prod.fst d)) (Prod.snd (Prod.snd d))))), Prod.snd (markR (Prod.fst (Prod.snd (lookF (unC (Prod.fst d)) (Prod.snd (Prod.snd d))))) (endE x_1 (1 : Int)))) (neg1 (heldE (unL enG (markE x_1 (1 :
  Int))) (1 : Int))) = endR (Prod.fst (Prod.snd (lookF (unC (Prod.fst d)) (Prod.snd (Prod.snd d))))) (endE x_1 (1 : Int)))) = true → false = true) ∧ ((!decide (heldR (Prod.fst (Prod.fst (Prod.snd (lookF (unC (Prod.fst
  d)) (Prod.snd (Prod.snd d))))), Prod.snd (markR (Prod.fst (Prod.snd (lookF (unC (Prod.fst d)) (Prod.snd (Prod.snd d))))) (endE x_1 (1 : Int)))) (neg1 (heldE (unL enG (markE x_1 (1 : Int))) (1 : Int))) = endR (Prod.fst
  (Prod.snd (lookF (unC (Prod.fst d)) (Prod.snd (Prod.snd d))))) (endE x_1 (1 : Int)))) = false → true = true)))))))))))))))))))))))))))) := by
  intro d hw _
  simp only [Int.toNat_natCast, exists_const, and_true, true_and, implies_true, decide_eq_true_eq, decide_eq_false_iff_not, Bool.not_eq_true', Bool.not_eq_false', beq_iff_eq, forall_const]
  simp only [unC, unEN1, unEN1x, unE1, idEN1, idEN1x, idE1', idE3', unE2, idBoolE, unBoolE, unR, idR, List.append_nil, List.nil_append, true_and, and_true]
  intro hk0 _ d1
  have hK : d.2.2.length ≤ 1048576 := by omega
  have hT : totE (d.1.2.2.map unE) ≤ 1048576 := szCa_tot (cacheA_len hw.1) d1
  have hF := tot_ens hT
  obtain ⟨hW, hR⟩ := look_tot (c := (d.1.1, d.1.2.2.map unE)) (key := d.2.2) hT
  refine ⟨hF, fun r hr _ _ _ => ?_⟩
  obtain ⟨q1, q2⟩ := ce1 hr
  simp only [q1, q2, true_and, and_true]
  clear hr q1 q2
  repeat' (first
    | assumption
    | exact trivial
    | exact absurd trivial ‹¬True›
    | exact hF
    | exact lkN1 ‹_› ‹_› ‹_› | exact lkN1' ‹_› ‹_› ‹_› | exact lkN2 ‹_› ‹_› | exact lkR ‹_› | exact cjN3 ‹_› | exact lk8 ‹_› ‹_› | exact lk5 ‹_› hW ‹_› | exact lk6 ‹_› hW hR ‹_› | exact lk7 ‹_› hW hR ‹_›
    | exact cjA1 (And.left ‹lkJ1 _ _ _ _›) | exact cjA2 (And.left ‹lkJ1 _ _ _ _›) | exact cjA3 (And.left ‹lkJ1 _ _ _ _›) | exact cjA4 (And.left ‹lkJ2 _ _ _ _ _›) | exact cjA5 (And.left ‹lkJ2 _ _ _ _ _›) | exact cjA6 (And.left ‹lkJ2 _ _ _ _ _›) | exact lkA7 ‹_› | exact cjA8 (And.left ‹lkJ2 _ _ _ _ _›)
    | exact And.right (And.right ‹lkJ1 _ _ _ _›) | exact And.right ‹lkJ2 _ _ _ _ _›
    | exact CJ1.ens (And.left ‹lkJ1 _ _ _ _›)
    | exact ens_eq (ce1 ‹_›).2 hF
    | with_reducible apply And.intro
    | intro _)
  all_goals (first
    | (obtain ⟨⟨_, _, _⟩, _, _, _⟩ := ‹(_ ∧ _ ∧ _) ∧ _›
       have q := ce1 ‹(_, List.map unE _) = _›
       refine ⟨(_, _), ?_, rfl, rfl, q.1⟩
       refine ⟨⟨hT, by assumption, q.2, by assumption, ?_, ?_⟩, hK, ?_⟩ <;> first | assumption | exact ap_symm ‹_›)
    | (obtain ⟨⟨_, _, _⟩, _, _⟩ := ‹(_ ∧ _ ∧ _) ∧ _›
       have q := lk_tup ‹((_, List.map unE _), _, _) = _›
       rw [CJ1.arg (And.left ‹lkJ1 _ _ _ _›)] at q
       refine ⟨_, ?_, ⟨q.2.2.2, q.2.1, by rw [q.2.2.1]⟩, rfl, by rw [q.2.2.1], by rw [q.2.2.1], q.2.1, by rw [q.2.2.1]⟩
       refine ⟨⟨q.1, ?_, ?_, ?_, ?_⟩, ?_⟩ <;> first | assumption | exact ap_symm ‹_›)
    | (have q := lk_tup ‹((_, List.map unE _), _, _) = lookF (_, List.map unE _) _›
       have q0 := ce1 ‹(_, List.map unE _) = _›
       rw [q0.1, q0.2] at q
       exact ⟨_, q.1, ⟨q.2.2.2, q.2.1, by rw [q.2.2.1]⟩, rfl, by rw [q.2.2.1], by rw [q.2.2.1], q.2.1, by rw [q.2.2.1]⟩))
end Go.SF
