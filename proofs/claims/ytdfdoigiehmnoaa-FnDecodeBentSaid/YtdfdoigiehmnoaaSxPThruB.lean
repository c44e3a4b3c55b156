/- What is owed of the code of the division by a linear factor. No condition. -/
import Derived.Test.YtdfdoigiehmnoaaSxPThru
namespace Go.SF
open Go.SX Go
set_option linter.unusedVariables false
set_option linter.unusedSimpArgs false
set_option maxRecDepth 10000
theorem v_I_divMod :
  ∀ (d : (Int × Int × Int) × List Int × List Int), Ty.wf fldT (Prod.fst d) ∧ Ty.wf listT (Prod.fst (Prod.snd d)) ∧ Ty.wf listT (Prod.snd (Prod.snd d)) → IsMod (Prod.fst (Prod.fst d)) ∧ elemsF (Prod.fst (Prod.fst d))
  (Prod.fst (Prod.snd d)) = true ∧ (2 : Nat) ≤ List.length (Prod.fst (Prod.snd d)) ∧ List.length (Prod.fst (Prod.snd d)) ≤ (1000 : Nat) ∧ LinB (Prod.fst (Prod.fst d)) (Prod.snd (Prod.snd d)) → ((0 : Nat) + List.length
  (Prod.fst (Prod.snd d))) * (8 : Nat) ≤ (140737488355328 : Nat) ∧ (decide ((↑(List.length (Prod.fst (Prod.snd d))) : Int) < (↑(List.length (Prod.snd (Prod.snd d))) : Int)) = true → ([], [] ++ Prod.fst (Prod.snd d)) =
  divF (Prod.fst (Prod.fst d)) (Prod.fst (Prod.snd d)) (Prod.snd (Prod.snd d))) ∧ (decide ((↑(List.length (Prod.fst (Prod.snd d))) : Int) < (↑(List.length (Prod.snd (Prod.snd d))) : Int)) = false → ((0 : Int) ≤
  IntKind.wrap IntKind.i64 (IntKind.wrap IntKind.i64 ((↑(List.length (Prod.fst (Prod.snd d))) : Int) - (↑(List.length (Prod.snd (Prod.snd d))) : Int)) + (1 : Int)) ∧ IntKind.wrap IntKind.i64 (IntKind.wrap IntKind.i64
  ((↑(List.length (Prod.fst (Prod.snd d))) : Int) - (↑(List.length (Prod.snd (Prod.snd d))) : Int)) + (1 : Int)) ≤ IntKind.wrap IntKind.i64 (IntKind.wrap IntKind.i64 ((↑(List.length (Prod.fst (Prod.snd d))) : Int) -
  (↑(List.length (Prod.snd (Prod.snd d))) : Int)) + (1 : Int)) ∧ IntKind.wrap IntKind.i64 (IntKind.wrap IntKind.i64 ((↑(List.length (Prod.fst (Prod.snd d))) : Int) - (↑(List.length (Prod.snd (Prod.snd d))) : Int)) + (1 :
  Int)) * (↑(8 : Nat) : Int) ≤ (140737488355328 : Int)) ∧ ((0 : Int) ≤ IntKind.wrap IntKind.i64 ((↑(List.length (Prod.snd (Prod.snd d))) : Int) - (1 : Int)) ∧ IntKind.wrap IntKind.i64 ((↑(List.length (Prod.snd (Prod.snd
  d))) : Int) - (1 : Int)) < (↑(List.length (Prod.snd (Prod.snd d))) : Int)) ∧ (IsMod (Prod.fst (Prod.fst d)) ∧ El (Prod.fst (Prod.fst d)) (List.getD (Prod.snd (Prod.snd d)) (Int.toNat (IntKind.wrap IntKind.i64
  ((↑(List.length (Prod.snd (Prod.snd d))) : Int) - (1 : Int)))) (0 : Int))) ∧ (Ty.wf i64T (invM (Prod.fst (Prod.fst d)) (List.getD (Prod.snd (Prod.snd d)) (Int.toNat (IntKind.wrap IntKind.i64 ((↑(List.length (Prod.snd
  (Prod.snd d))) : Int) - (1 : Int)))) (0 : Int))) → (0 : Nat) ≤ List.length (Prod.fst (Prod.snd d)) - (1 : Nat) ∧ (((Prod.fst (Prod.fst d) = Prod.fst (Prod.fst d) ∧ Prod.fst (Prod.snd (Prod.fst d)) = Prod.fst (Prod.snd
  (Prod.fst d)) ∧ Prod.snd (Prod.snd (Prod.fst d)) = Prod.snd (Prod.snd (Prod.fst d))) ∧ Prod.fst (Prod.snd d) = Prod.fst (Prod.snd d) ∧ Prod.snd (Prod.snd d) = Prod.snd (Prod.snd d) ∧ Value.slice none (0 : Nat) (0 :
  Nat) = Value.slice none (0 : Nat) (0 : Nat) ∧ Value.slice none (0 : Nat) (0 : Nat) = Value.slice none (0 : Nat) (0 : Nat) ∧ invM (Prod.fst (Prod.fst d)) (List.getD (Prod.snd (Prod.snd d)) (Int.toNat (IntKind.wrap
  IntKind.i64 ((↑(List.length (Prod.snd (Prod.snd d))) : Int) - (1 : Int)))) (0 : Int)) = invM (Prod.fst (Prod.fst d)) (List.getD (Prod.snd (Prod.snd d)) (Int.toNat (IntKind.wrap IntKind.i64 ((↑(List.length (Prod.snd
  (Prod.snd d))) : Int) - (1 : Int)))) (0 : Int)) ∧ IntKind.wrap IntKind.i64 ((↑(List.length (List.replicate (Int.toNat (IntKind.wrap IntKind.i64 (IntKind.wrap IntKind.i64 ((↑(List.length (Prod.fst (Prod.snd d))) : Int)
  - (↑(List.length (Prod.snd (Prod.snd d))) : Int)) + (1 : Int)))) (0 : Int))) : Int) - (1 : Int)) = (↑(List.length (Prod.fst (Prod.snd d))) : Int) - (2 : Int) - (↑(0 : Nat) : Int)) ∧ (Prod.fst (Prod.fst d) = Prod.fst
  (Prod.fst d) ∧ Prod.fst (Prod.snd (Prod.fst d)) = Prod.fst (Prod.snd (Prod.fst d)) ∧ Prod.snd (Prod.snd (Prod.fst d)) = Prod.snd (Prod.snd (Prod.fst d))) ∧ [] ++ Prod.fst (Prod.snd d) = leftL (Prod.fst (Prod.fst d))
  (List.getD (Prod.snd (Prod.snd d)) (0 : Nat) (0 : Int)) (Prod.fst (Prod.snd d)) (0 : Nat) ∧ List.replicate (Int.toNat (IntKind.wrap IntKind.i64 (IntKind.wrap IntKind.i64 ((↑(List.length (Prod.fst (Prod.snd d))) : Int)
  - (↑(List.length (Prod.snd (Prod.snd d))) : Int)) + (1 : Int)))) (0 : Int) = quoL (Prod.fst (Prod.fst d)) (List.getD (Prod.snd (Prod.snd d)) (0 : Nat) (0 : Int)) (Prod.fst (Prod.snd d)) (0 : Nat)) ∧ ∀ (x : Nat), x ≤
  List.length (Prod.fst (Prod.snd d)) - (1 : Nat) → (decide ((0 : Int) ≤ (↑(List.length (Prod.fst (Prod.snd d))) : Int) - (2 : Int) - (↑x : Int)) = true → ((0 : Int) ≤ IntKind.wrap IntKind.i64 (IntKind.wrap IntKind.i64
  ((↑(List.length (Prod.fst (Prod.snd d))) : Int) - (2 : Int) - (↑x : Int) + (↑(List.length (Prod.snd (Prod.snd d))) : Int)) - (1 : Int)) ∧ IntKind.wrap IntKind.i64 (IntKind.wrap IntKind.i64 ((↑(List.length (Prod.fst
  (Prod.snd d))) : Int) - (2 : Int) - (↑x : Int) + (↑(List.length (Prod.snd (Prod.snd d))) : Int)) - (1 : Int)) < (↑(List.length (leftL (Prod.fst (Prod.fst d)) (List.getD (Prod.snd (Prod.snd d)) (0 : Nat) (0 : Int))
  (Prod.fst (Prod.snd d)) x)) : Int)) ∧ (IsMod (Prod.fst (Prod.fst d)) ∧ El (Prod.fst (Prod.fst d)) (List.getD (leftL (Prod.fst (Prod.fst d)) (List.getD (Prod.snd (Prod.snd d)) (0 : Nat) (0 : Int)) (Prod.fst (Prod.snd
  d)) x) (Int.toNat (IntKind.wrap IntKind.i64 (IntKind.wrap IntKind.i64 ((↑(List.length (Prod.fst (Prod.snd d))) : Int) - (2 : Int) - (↑x : Int) + (↑(List.length (Prod.snd (Prod.snd d))) : Int)) - (1 : Int)))) (0 : Int))
  ∧ El (Prod.fst (Prod.fst d)) (invM (Prod.fst (Prod.fst d)) (List.getD (Prod.snd (Prod.snd d)) (Int.toNat (IntKind.wrap IntKind.i64 ((↑(List.length (Prod.snd (Prod.snd d))) : Int) - (1 : Int)))) (0 : Int)))) ∧ (Ty.wf
  i64T (mulM (Prod.fst (Prod.fst d)) (List.getD (leftL (Prod.fst (Prod.fst d)) (List.getD (Prod.snd (Prod.snd d)) (0 : Nat) (0 : Int)) (Prod.fst (Prod.snd d)) x) (Int.toNat (IntKind.wrap IntKind.i64 (IntKind.wrap
  IntKind.i64 ((↑(List.length (Prod.fst (Prod.snd d))) : Int) - (2 : Int) - (↑x : Int) + (↑(List.length (Prod.snd (Prod.snd d))) : Int)) - (1 : Int)))) (0 : Int)) (invM (Prod.fst (Prod.fst d)) (List.getD (Prod.snd
  (Prod.snd d)) (Int.toNat (IntKind.wrap IntKind.i64 ((↑(List.length (Prod.snd (Prod.snd d))) : Int) - (1 : Int)))) (0 : Int)))) → ((0 : Int) ≤ (↑(List.length (Prod.fst (Prod.snd d))) : Int) - (2 : Int) - (↑x : Int) ∧
  (↑(List.length (Prod.fst (Prod.snd d))) : Int) - (2 : Int) - (↑x : Int) < (↑(List.length (quoL (Prod.fst (Prod.fst d)) (List.getD (Prod.snd (Prod.snd d)) (0 : Nat) (0 : Int)) (Prod.fst (Prod.snd d)) x)) : Int)) ∧
  (decide (mulM (Prod.fst (Prod.fst d)) (List.getD (leftL (Prod.fst (Prod.fst d)) (List.getD (Prod.snd (Prod.snd d)) (0 : Nat) (0 : Int)) (Prod.fst (Prod.snd d)) x) (Int.toNat (IntKind.wrap IntKind.i64 (IntKind.wrap
  IntKind.i64 ((↑(List.length (Prod.fst (Prod.snd d))) : Int) - (2 : Int) - (↑x : Int) + (↑(List.length (Prod.snd (Prod.snd d))) : Int)) - (1 : Int)))) (0 : Int)) (invM (Prod.fst (Prod.fst d)) (List.getD (Prod.snd
  (Prod.snd d)) (Int.toNat (IntKind.wrap IntKind.i64 ((↑(List.length (Prod.snd (Prod.snd d))) : Int) - (1 : Int)))) (0 : Int))) = (0 : Int)) = true → ∃ (x' : Nat), x' ≤ List.length (Prod.fst (Prod.snd d)) - (1 : Nat) ∧
  List.length (Prod.fst (Prod.snd d)) - (1 : Nat) - x' < List.length (Prod.fst (Prod.snd d)) - (1 : Nat) - x ∧ ((Prod.fst (Prod.fst d) = Prod.fst (Prod.fst d) ∧ Prod.fst (Prod.snd (Prod.fst d)) = Prod.fst (Prod.snd
  (Prod.fst d)) ∧ Prod.snd (Prod.snd (Prod.fst d)) = Prod.snd (Prod.snd (Prod.fst d))) ∧ Prod.fst (Prod.snd d) = Prod.fst (Prod.snd d) ∧ Prod.snd (Prod.snd d) = Prod.snd (Prod.snd d) ∧ Value.slice none (0 : Nat) (0 :
  Nat) = Value.slice none (0 : Nat) (0 : Nat) ∧ Value.slice none (0 : Nat) (0 : Nat) = Value.slice none (0 : Nat) (0 : Nat) ∧ invM (Prod.fst (Prod.fst d)) (List.getD (Prod.snd (Prod.snd d)) (Int.toNat (IntKind.wrap
  IntKind.i64 ((↑(List.length (Prod.snd (Prod.snd d))) : Int) - (1 : Int)))) (0 : Int)) = invM (Prod.fst (Prod.fst d)) (List.getD (Prod.snd (Prod.snd d)) (Int.toNat (IntKind.wrap IntKind.i64 ((↑(List.length (Prod.snd
  (Prod.snd d))) : Int) - (1 : Int)))) (0 : Int)) ∧ IntKind.wrap IntKind.i64 ((↑(List.length (Prod.fst (Prod.snd d))) : Int) - (2 : Int) - (↑x : Int) - (1 : Int)) = (↑(List.length (Prod.fst (Prod.snd d))) : Int) - (2 :
  Int) - (↑x' : Int)) ∧ (Prod.fst (Prod.fst d) = Prod.fst (Prod.fst d) ∧ Prod.fst (Prod.snd (Prod.fst d)) = Prod.fst (Prod.snd (Prod.fst d)) ∧ Prod.snd (Prod.snd (Prod.fst d)) = Prod.snd (Prod.snd (Prod.fst d))) ∧ leftL
  (Prod.fst (Prod.fst d)) (List.getD (Prod.snd (Prod.snd d)) (0 : Nat) (0 : Int)) (Prod.fst (Prod.snd d)) x = leftL (Prod.fst (Prod.fst d)) (List.getD (Prod.snd (Prod.snd d)) (0 : Nat) (0 : Int)) (Prod.fst (Prod.snd d))
  x' ∧ List.set (quoL (Prod.fst (Prod.fst d)) (List.getD (Prod.snd (Prod.snd d)) (0 : Nat) (0 : Int)) (Prod.fst (Prod.snd d)) x) (Int.toNat ((↑(List.length (Prod.fst (Prod.snd d))) : Int) - (2 : Int) - (↑x : Int))) (mulM
  (Prod.fst (Prod.fst d)) (List.getD (leftL (Prod.fst (Prod.fst d)) (List.getD (Prod.snd (Prod.snd d)) (0 : Nat) (0 : Int)) (Prod.fst (Prod.snd d)) x) (Int.toNat (IntKind.wrap IntKind.i64 (IntKind.wrap IntKind.i64
  ((↑(List.length (Prod.fst (Prod.snd d))) : Int) - (2 : Int) - (↑x : Int) + (↑(List.length (Prod.snd (Prod.snd d))) : Int)) - (1 : Int)))) (0 : Int)) (invM (Prod.fst (Prod.fst d)) (List.getD (Prod.snd (Prod.snd d))
  (Int.toNat (IntKind.wrap IntKind.i64 ((↑(List.length (Prod.snd (Prod.snd d))) : Int) - (1 : Int)))) (0 : Int)))) = quoL (Prod.fst (Prod.fst d)) (List.getD (Prod.snd (Prod.snd d)) (0 : Nat) (0 : Int)) (Prod.fst
  (Prod.snd d)) x') ∧ (decide (mulM (Prod.fst (Prod.fst d)) (List.getD (leftL (Prod.fst (Prod.fst d)) (List.getD (Prod.snd (Prod.snd d)) (0 : Nat) (0 : Int)) (Prod.fst (Prod.snd d)) x) (Int.toNat (IntKind.wrap
  IntKind.i64 (IntKind.wrap IntKind.i64 ((↑(List.length (Prod.fst (Prod.snd d))) : Int) - (2 : Int) - (↑x : Int) + (↑(List.length (Prod.snd (Prod.snd d))) : Int)) - (1 : Int)))) (0 : Int)) (invM (Prod.fst (Prod.fst d))
  (List.getD (Prod.snd (Prod.snd d)) (Int.toNat (IntKind.wrap IntKind.i64 ((↑(List.length (Prod.snd (Prod.snd d))) : Int) - (1 : Int)))) (0 : Int))) = (0 : Int)) = false → (0 : Nat) ≤ (2 : Nat) ∧ (((Prod.fst (Prod.fst d)
  = Prod.fst (Prod.fst d) ∧ Prod.fst (Prod.snd (Prod.fst d)) = Prod.fst (Prod.snd (Prod.fst d)) ∧ Prod.snd (Prod.snd (Prod.fst d)) = Prod.snd (Prod.snd (Prod.fst d))) ∧ Prod.fst (Prod.snd d) = Prod.fst (Prod.snd d) ∧
  Prod.snd (Prod.snd d) = Prod.snd (Prod.snd d) ∧ Value.slice none (0 : Nat) (0 : Nat) = Value.slice none (0 : Nat) (0 : Nat) ∧ Value.slice none (0 : Nat) (0 : Nat) = Value.slice none (0 : Nat) (0 : Nat) ∧ invM (Prod.fst
  (Prod.fst d)) (List.getD (Prod.snd (Prod.snd d)) (Int.toNat (IntKind.wrap IntKind.i64 ((↑(List.length (Prod.snd (Prod.snd d))) : Int) - (1 : Int)))) (0 : Int)) = invM (Prod.fst (Prod.fst d)) (List.getD (Prod.snd
  (Prod.snd d)) (Int.toNat (IntKind.wrap IntKind.i64 ((↑(List.length (Prod.snd (Prod.snd d))) : Int) - (1 : Int)))) (0 : Int)) ∧ (↑(List.length (Prod.fst (Prod.snd d))) : Int) - (2 : Int) - (↑x : Int) = (↑(List.length
  (Prod.fst (Prod.snd d))) : Int) - (2 : Int) - (↑x : Int) ∧ mulM (Prod.fst (Prod.fst d)) (List.getD (leftL (Prod.fst (Prod.fst d)) (List.getD (Prod.snd (Prod.snd d)) (0 : Nat) (0 : Int)) (Prod.fst (Prod.snd d)) x)
  (Int.toNat (IntKind.wrap IntKind.i64 (IntKind.wrap IntKind.i64 ((↑(List.length (Prod.fst (Prod.snd d))) : Int) - (2 : Int) - (↑x : Int) + (↑(List.length (Prod.snd (Prod.snd d))) : Int)) - (1 : Int)))) (0 : Int)) (invM
  (Prod.fst (Prod.fst d)) (List.getD (Prod.snd (Prod.snd d)) (Int.toNat (IntKind.wrap IntKind.i64 ((↑(List.length (Prod.snd (Prod.snd d))) : Int) - (1 : Int)))) (0 : Int))) = mulM (Prod.fst (Prod.fst d)) (List.getD
  (leftL (Prod.fst (Prod.fst d)) (List.getD (Prod.snd (Prod.snd d)) (0 : Nat) (0 : Int)) (Prod.fst (Prod.snd d)) x) (Int.toNat (IntKind.wrap IntKind.i64 (IntKind.wrap IntKind.i64 ((↑(List.length (Prod.fst (Prod.snd d)))
  : Int) - (2 : Int) - (↑x : Int) + (↑(List.length (Prod.snd (Prod.snd d))) : Int)) - (1 : Int)))) (0 : Int)) (invM (Prod.fst (Prod.fst d)) (List.getD (Prod.snd (Prod.snd d)) (Int.toNat (IntKind.wrap IntKind.i64
  ((↑(List.length (Prod.snd (Prod.snd d))) : Int) - (1 : Int)))) (0 : Int))) ∧ Prod.snd (Prod.snd d) = Prod.snd (Prod.snd d) ∧ (↑(List.length (Prod.snd (Prod.snd d))) : Int) = (↑(List.length (Prod.snd (Prod.snd d))) :
  Int) ∧ (0 : Int) = (↑(0 : Nat) : Int)) ∧ (Prod.fst (Prod.fst d) = Prod.fst (Prod.fst d) ∧ Prod.fst (Prod.snd (Prod.fst d)) = Prod.fst (Prod.snd (Prod.fst d)) ∧ Prod.snd (Prod.snd (Prod.fst d)) = Prod.snd (Prod.snd
  (Prod.fst d))) ∧ leftL (Prod.fst (Prod.fst d)) (List.getD (Prod.snd (Prod.snd d)) (0 : Nat) (0 : Int)) (Prod.fst (Prod.snd d)) x = leftJ (Prod.fst (Prod.fst d)) (List.getD (Prod.snd (Prod.snd d)) (0 : Nat) (0 : Int))
  (Prod.fst (Prod.snd d)) x (0 : Nat) ∧ List.set (quoL (Prod.fst (Prod.fst d)) (List.getD (Prod.snd (Prod.snd d)) (0 : Nat) (0 : Int)) (Prod.fst (Prod.snd d)) x) (Int.toNat ((↑(List.length (Prod.fst (Prod.snd d))) : Int)
  - (2 : Int) - (↑x : Int))) (mulM (Prod.fst (Prod.fst d)) (List.getD (leftL (Prod.fst (Prod.fst d)) (List.getD (Prod.snd (Prod.snd d)) (0 : Nat) (0 : Int)) (Prod.fst (Prod.snd d)) x) (Int.toNat (IntKind.wrap IntKind.i64
  (IntKind.wrap IntKind.i64 ((↑(List.length (Prod.fst (Prod.snd d))) : Int) - (2 : Int) - (↑x : Int) + (↑(List.length (Prod.snd (Prod.snd d))) : Int)) - (1 : Int)))) (0 : Int)) (invM (Prod.fst (Prod.fst d)) (List.getD
  (Prod.snd (Prod.snd d)) (Int.toNat (IntKind.wrap IntKind.i64 ((↑(List.length (Prod.snd (Prod.snd d))) : Int) - (1 : Int)))) (0 : Int)))) = quoL (Prod.fst (Prod.fst d)) (List.getD (Prod.snd (Prod.snd d)) (0 : Nat) (0 :
  Int)) (Prod.fst (Prod.snd d)) (x + (1 : Nat))) ∧ ∀ (x_1 : Nat), x_1 ≤ (2 : Nat) → (decide ((↑x_1 : Int) < (↑(List.length (Prod.snd (Prod.snd d))) : Int)) = true → ((0 : Int) ≤ (↑x_1 : Int) ∧ (↑x_1 : Int) <
  (↑(List.length (Prod.snd (Prod.snd d))) : Int)) ∧ ((0 : Int) ≤ IntKind.wrap IntKind.i64 ((↑(List.length (Prod.fst (Prod.snd d))) : Int) - (2 : Int) - (↑x : Int) + (↑x_1 : Int)) ∧ IntKind.wrap IntKind.i64
  ((↑(List.length (Prod.fst (Prod.snd d))) : Int) - (2 : Int) - (↑x : Int) + (↑x_1 : Int)) < (↑(List.length (leftJ (Prod.fst (Prod.fst d)) (List.getD (Prod.snd (Prod.snd d)) (0 : Nat) (0 : Int)) (Prod.fst (Prod.snd d)) x
  x_1)) : Int)) ∧ (IsMod (Prod.fst (Prod.fst d)) ∧ El (Prod.fst (Prod.fst d)) (mulM (Prod.fst (Prod.fst d)) (List.getD (leftL (Prod.fst (Prod.fst d)) (List.getD (Prod.snd (Prod.snd d)) (0 : Nat) (0 : Int)) (Prod.fst
  (Prod.snd d)) x) (Int.toNat (IntKind.wrap IntKind.i64 (IntKind.wrap IntKind.i64 ((↑(List.length (Prod.fst (Prod.snd d))) : Int) - (2 : Int) - (↑x : Int) + (↑(List.length (Prod.snd (Prod.snd d))) : Int)) - (1 : Int))))
  (0 : Int)) (invM (Prod.fst (Prod.fst d)) (List.getD (Prod.snd (Prod.snd d)) (Int.toNat (IntKind.wrap IntKind.i64 ((↑(List.length (Prod.snd (Prod.snd d))) : Int) - (1 : Int)))) (0 : Int)))) ∧ El (Prod.fst (Prod.fst d))
  (List.getD (Prod.snd (Prod.snd d)) (Int.toNat (↑x_1 : Int)) (0 : Int))) ∧ (IsMod (Prod.fst (Prod.fst d)) ∧ El (Prod.fst (Prod.fst d)) (List.getD (leftJ (Prod.fst (Prod.fst d)) (List.getD (Prod.snd (Prod.snd d)) (0 :
  Nat) (0 : Int)) (Prod.fst (Prod.snd d)) x x_1) (Int.toNat (IntKind.wrap IntKind.i64 ((↑(List.length (Prod.fst (Prod.snd d))) : Int) - (2 : Int) - (↑x : Int) + (↑x_1 : Int)))) (0 : Int)) ∧ El (Prod.fst (Prod.fst d))
  (mulM (Prod.fst (Prod.fst d)) (mulM (Prod.fst (Prod.fst d)) (List.getD (leftL (Prod.fst (Prod.fst d)) (List.getD (Prod.snd (Prod.snd d)) (0 : Nat) (0 : Int)) (Prod.fst (Prod.snd d)) x) (Int.toNat (IntKind.wrap
  IntKind.i64 (IntKind.wrap IntKind.i64 ((↑(List.length (Prod.fst (Prod.snd d))) : Int) - (2 : Int) - (↑x : Int) + (↑(List.length (Prod.snd (Prod.snd d))) : Int)) - (1 : Int)))) (0 : Int)) (invM (Prod.fst (Prod.fst d))
  (List.getD (Prod.snd (Prod.snd d)) (Int.toNat (IntKind.wrap IntKind.i64 ((↑(List.length (Prod.snd (Prod.snd d))) : Int) - (1 : Int)))) (0 : Int)))) (List.getD (Prod.snd (Prod.snd d)) (Int.toNat (↑x_1 : Int)) (0 :
  Int)))) ∧ ((0 : Int) ≤ IntKind.wrap IntKind.i64 ((↑(List.length (Prod.fst (Prod.snd d))) : Int) - (2 : Int) - (↑x : Int) + (↑x_1 : Int)) ∧ IntKind.wrap IntKind.i64 ((↑(List.length (Prod.fst (Prod.snd d))) : Int) - (2 :
  Int) - (↑x : Int) + (↑x_1 : Int)) < (↑(List.length (leftJ (Prod.fst (Prod.fst d)) (List.getD (Prod.snd (Prod.snd d)) (0 : Nat) (0 : Int)) (Prod.fst (Prod.snd d)) x x_1)) : Int)) ∧ (Ty.wf i64T (subM (Prod.fst (Prod.fst
  d)) (List.getD (leftJ (Prod.fst (Prod.fst d)) (List.getD (Prod.snd (Prod.snd d)) (0 : Nat) (0 : Int)) (Prod.fst (Prod.snd d)) x x_1) (Int.toNat (IntKind.wrap IntKind.i64 ((↑(List.length (Prod.fst (Prod.snd d))) : Int)
  - (2 : Int) - (↑x : Int) + (↑x_1 : Int)))) (0 : Int)) (mulM (Prod.fst (Prod.fst d)) (mulM (Prod.fst (Prod.fst d)) (List.getD (leftL (Prod.fst (Prod.fst d)) (List.getD (Prod.snd (Prod.snd d)) (0 : Nat) (0 : Int))
  (Prod.fst (Prod.snd d)) x) (Int.toNat (IntKind.wrap IntKind.i64 (IntKind.wrap IntKind.i64 ((↑(List.length (Prod.fst (Prod.snd d))) : Int) - (2 : Int) - (↑x : Int) + (↑(List.length (Prod.snd (Prod.snd d))) : Int)) - (1
  : Int)))) (0 : Int)) (invM (Prod.fst (Prod.fst d)) (List.getD (Prod.snd (Prod.snd d)) (Int.toNat (IntKind.wrap IntKind.i64 ((↑(List.length (Prod.snd (Prod.snd d))) : Int) - (1 : Int)))) (0 : Int)))) (List.getD
  (Prod.snd (Prod.snd d)) (Int.toNat (↑x_1 : Int)) (0 : Int)))) → Ty.wf i64T (mulM (Prod.fst (Prod.fst d)) (mulM (Prod.fst (Prod.fst d)) (List.getD (leftL (Prod.fst (Prod.fst d)) (List.getD (Prod.snd (Prod.snd d)) (0 :
  Nat) (0 : Int)) (Prod.fst (Prod.snd d)) x) (Int.toNat (IntKind.wrap IntKind.i64 (IntKind.wrap IntKind.i64 ((↑(List.length (Prod.fst (Prod.snd d))) : Int) - (2 : Int) - (↑x : Int) + (↑(List.length (Prod.snd (Prod.snd
  d))) : Int)) - (1 : Int)))) (0 : Int)) (invM (Prod.fst (Prod.fst d)) (List.getD (Prod.snd (Prod.snd d)) (Int.toNat (IntKind.wrap IntKind.i64 ((↑(List.length (Prod.snd (Prod.snd d))) : Int) - (1 : Int)))) (0 : Int))))
  (List.getD (Prod.snd (Prod.snd d)) (Int.toNat (↑x_1 : Int)) (0 : Int))) → ∃ (x' : Nat), x' ≤ (2 : Nat) ∧ (2 : Nat) - x' < (2 : Nat) - x_1 ∧ ((Prod.fst (Prod.fst d) = Prod.fst (Prod.fst d) ∧ Prod.fst (Prod.snd (Prod.fst
  d)) = Prod.fst (Prod.snd (Prod.fst d)) ∧ Prod.snd (Prod.snd (Prod.fst d)) = Prod.snd (Prod.snd (Prod.fst d))) ∧ Prod.fst (Prod.snd d) = Prod.fst (Prod.snd d) ∧ Prod.snd (Prod.snd d) = Prod.snd (Prod.snd d) ∧
  Value.slice none (0 : Nat) (0 : Nat) = Value.slice none (0 : Nat) (0 : Nat) ∧ Value.slice none (0 : Nat) (0 : Nat) = Value.slice none (0 : Nat) (0 : Nat) ∧ invM (Prod.fst (Prod.fst d)) (List.getD (Prod.snd (Prod.snd
  d)) (Int.toNat (IntKind.wrap IntKind.i64 ((↑(List.length (Prod.snd (Prod.snd d))) : Int) - (1 : Int)))) (0 : Int)) = invM (Prod.fst (Prod.fst d)) (List.getD (Prod.snd (Prod.snd d)) (Int.toNat (IntKind.wrap IntKind.i64
  ((↑(List.length (Prod.snd (Prod.snd d))) : Int) - (1 : Int)))) (0 : Int)) ∧ (↑(List.length (Prod.fst (Prod.snd d))) : Int) - (2 : Int) - (↑x : Int) = (↑(List.length (Prod.fst (Prod.snd d))) : Int) - (2 : Int) - (↑x :
  Int) ∧ mulM (Prod.fst (Prod.fst d)) (List.getD (leftL (Prod.fst (Prod.fst d)) (List.getD (Prod.snd (Prod.snd d)) (0 : Nat) (0 : Int)) (Prod.fst (Prod.snd d)) x) (Int.toNat (IntKind.wrap IntKind.i64 (IntKind.wrap
  IntKind.i64 ((↑(List.length (Prod.fst (Prod.snd d))) : Int) - (2 : Int) - (↑x : Int) + (↑(List.length (Prod.snd (Prod.snd d))) : Int)) - (1 : Int)))) (0 : Int)) (invM (Prod.fst (Prod.fst d)) (List.getD (Prod.snd
  (Prod.snd d)) (Int.toNat (IntKind.wrap IntKind.i64 ((↑(List.length (Prod.snd (Prod.snd d))) : Int) - (1 : Int)))) (0 : Int))) = mulM (Prod.fst (Prod.fst d)) (List.getD (leftL (Prod.fst (Prod.fst d)) (List.getD
  (Prod.snd (Prod.snd d)) (0 : Nat) (0 : Int)) (Prod.fst (Prod.snd d)) x) (Int.toNat (IntKind.wrap IntKind.i64 (IntKind.wrap IntKind.i64 ((↑(List.length (Prod.fst (Prod.snd d))) : Int) - (2 : Int) - (↑x : Int) +
  (↑(List.length (Prod.snd (Prod.snd d))) : Int)) - (1 : Int)))) (0 : Int)) (invM (Prod.fst (Prod.fst d)) (List.getD (Prod.snd (Prod.snd d)) (Int.toNat (IntKind.wrap IntKind.i64 ((↑(List.length (Prod.snd (Prod.snd d))) :
  Int) - (1 : Int)))) (0 : Int))) ∧ Prod.snd (Prod.snd d) = Prod.snd (Prod.snd d) ∧ (↑(List.length (Prod.snd (Prod.snd d))) : Int) = (↑(List.length (Prod.snd (Prod.snd d))) : Int) ∧ IntKind.wrap IntKind.i64 ((↑x_1 : Int)
  + (1 : Int)) = (↑x' : Int)) ∧ (Prod.fst (Prod.fst d) = Prod.fst (Prod.fst d) ∧ Prod.fst (Prod.snd (Prod.fst d)) = Prod.fst (Prod.snd (Prod.fst d)) ∧ Prod.snd (Prod.snd (Prod.fst d)) = Prod.snd (Prod.snd (Prod.fst d)))
  ∧ List.set (leftJ (Prod.fst (Prod.fst d)) (List.getD (Prod.snd (Prod.snd d)) (0 : Nat) (0 : Int)) (Prod.fst (Prod.snd d)) x x_1) (Int.toNat (IntKind.wrap IntKind.i64 ((↑(List.length (Prod.fst (Prod.snd d))) : Int) - (2
  : Int) - (↑x : Int) + (↑x_1 : Int)))) (subM (Prod.fst (Prod.fst d)) (List.getD (leftJ (Prod.fst (Prod.fst d)) (List.getD (Prod.snd (Prod.snd d)) (0 : Nat) (0 : Int)) (Prod.fst (Prod.snd d)) x x_1) (Int.toNat
  (IntKind.wrap IntKind.i64 ((↑(List.length (Prod.fst (Prod.snd d))) : Int) - (2 : Int) - (↑x : Int) + (↑x_1 : Int)))) (0 : Int)) (mulM (Prod.fst (Prod.fst d)) (mulM (Prod.fst (Prod.fst d)) (List.getD (leftL (Prod.fst
  (Prod.fst d)) (List.getD (Prod.snd (Prod.snd d)) (0 : Nat) (0 : Int)) (Prod.fst (Prod.snd d)) x) (Int.toNat (IntKind.wrap IntKind.i64 (IntKind.wrap IntKind.i64 ((↑(List.length (Prod.fst (Prod.snd d))) : Int) - (2 :
  Int) - (↑x : Int) + (↑(List.length (Prod.snd (Prod.snd d))) : Int)) - (1 : Int)))) (0 : Int)) (invM (Prod.fst (Prod.fst d)) (List.getD (Prod.snd (Prod.snd d)) (Int.toNat (IntKind.wrap IntKind.i64 ((↑(List.length
  (Prod.snd (Prod.snd d))) : Int) - (1 : Int)))) (0 : Int)))) (List.getD (Prod.snd (Prod.snd d)) (Int.toNat (↑x_1 : Int)) (0 : Int)))) = leftJ (Prod.fst (Prod.fst d)) (List.getD (Prod.snd (Prod.snd d)) (0 : Nat) (0 :
  Int)) (Prod.fst (Prod.snd d)) x x' ∧ quoL (Prod.fst (Prod.fst d)) (List.getD (Prod.snd (Prod.snd d)) (0 : Nat) (0 : Int)) (Prod.fst (Prod.snd d)) (x + (1 : Nat)) = quoL (Prod.fst (Prod.fst d)) (List.getD (Prod.snd
  (Prod.snd d)) (0 : Nat) (0 : Int)) (Prod.fst (Prod.snd d)) (x + (1 : Nat)))) ∧ (decide ((↑x_1 : Int) < (↑(List.length (Prod.snd (Prod.snd d))) : Int)) = false → ∃ (x' : Nat), x' ≤ List.length (Prod.fst (Prod.snd d)) -
  (1 : Nat) ∧ List.length (Prod.fst (Prod.snd d)) - (1 : Nat) - x' < List.length (Prod.fst (Prod.snd d)) - (1 : Nat) - x ∧ ((Prod.fst (Prod.fst d) = Prod.fst (Prod.fst d) ∧ Prod.fst (Prod.snd (Prod.fst d)) = Prod.fst
  (Prod.snd (Prod.fst d)) ∧ Prod.snd (Prod.snd (Prod.fst d)) = Prod.snd (Prod.snd (Prod.fst d))) ∧ Prod.fst (Prod.snd d) = Prod.fst (Prod.snd d) ∧ Prod.snd (Prod.snd d) = Prod.snd (Prod.snd d) ∧ Value.slice none (0 :
  Nat) (0 : Nat) = Value.slice none (0 : Nat) (0 : Nat) ∧ Value.slice none (0 : Nat) (0 : Nat) = Value.slice none (0 : Nat) (0 : Nat) ∧ invM (Prod.fst (Prod.fst d)) (List.getD (Prod.snd (Prod.snd d)) (Int.toNat
  (IntKind.wrap IntKind.i64 ((↑(List.length (Prod.snd (Prod.snd d))) : Int) - (1 : Int)))) (0 : Int)) = invM (Prod.fst (Prod.fst d)) (List.getD (Prod.snd (Prod.snd d)) (Int.toNat (IntKind.wrap IntKind.i64 ((↑(List.length
  (Prod.snd (Prod.snd d))) : Int) - (1 : Int)))) (0 : Int)) ∧ IntKind.wrap IntKind.i64 ((↑(List.length (Prod.fst (Prod.snd d))) : Int) - (2 : Int) - (↑x : Int) - (1 : Int)) = (↑(List.length (Prod.fst (Prod.snd d))) :
  Int) - (2 : Int) - (↑x' : Int)) ∧ (Prod.fst (Prod.fst d) = Prod.fst (Prod.fst d) ∧ Prod.fst (Prod.snd (Prod.fst d)) = Prod.fst (Prod.snd (Prod.fst d)) ∧ Prod.snd (Prod.snd (Prod.fst d)) = Prod.snd (Prod.snd (Prod.fst
  d))) ∧ leftJ (Prod.fst (Prod.fst d)) (List.getD (Prod.snd (Prod.snd d)) (0 : Nat) (0 : Int)) (Prod.fst (Prod.snd d)) x x_1 = leftL (Prod.fst (Prod.fst d)) (List.getD (Prod.snd (Prod.snd d)) (0 : Nat) (0 : Int))
  (Prod.fst (Prod.snd d)) x' ∧ quoL (Prod.fst (Prod.fst d)) (List.getD (Prod.snd (Prod.snd d)) (0 : Nat) (0 : Int)) (Prod.fst (Prod.snd d)) (x + (1 : Nat)) = quoL (Prod.fst (Prod.fst d)) (List.getD (Prod.snd (Prod.snd
  d)) (0 : Nat) (0 : Int)) (Prod.fst (Prod.snd d)) x')))) ∧ (decide ((0 : Int) ≤ (↑(List.length (Prod.fst (Prod.snd d))) : Int) - (2 : Int) - (↑x : Int)) = false → ((0 : Int) ≤ IntKind.wrap IntKind.i64 ((↑(List.length
  (Prod.snd (Prod.snd d))) : Int) - (1 : Int)) ∧ IntKind.wrap IntKind.i64 ((↑(List.length (Prod.snd (Prod.snd d))) : Int) - (1 : Int)) ≤ (↑(List.length (leftL (Prod.fst (Prod.fst d)) (List.getD (Prod.snd (Prod.snd d)) (0
  : Nat) (0 : Int)) (Prod.fst (Prod.snd d)) x)) : Int)) ∧ (quoL (Prod.fst (Prod.fst d)) (List.getD (Prod.snd (Prod.snd d)) (0 : Nat) (0 : Int)) (Prod.fst (Prod.snd d)) x, List.take (cutF (List.take (Int.toNat
  (IntKind.wrap IntKind.i64 ((↑(List.length (Prod.snd (Prod.snd d))) : Int) - (1 : Int)))) (leftL (Prod.fst (Prod.fst d)) (List.getD (Prod.snd (Prod.snd d)) (0 : Nat) (0 : Int)) (Prod.fst (Prod.snd d)) x))) (List.take
  (Int.toNat (IntKind.wrap IntKind.i64 ((↑(List.length (Prod.snd (Prod.snd d))) : Int) - (1 : Int)))) (leftL (Prod.fst (Prod.fst d)) (List.getD (Prod.snd (Prod.snd d)) (0 : Nat) (0 : Int)) (Prod.fst (Prod.snd d)) x))) =
  divF (Prod.fst (Prod.fst d)) (Prod.fst (Prod.snd d)) (Prod.snd (Prod.snd d))))) := by
  intro (d : Fd × List Int × List Int) hw hp
  obtain ⟨⟨p, g, t⟩, xs, ys⟩ := d
  replace hp : IsMod p ∧ elemsF p xs = true ∧ 2 ≤ xs.length ∧ xs.length ≤ 1000 ∧ ys.length = 2 ∧ ys.getD 1 0 = 1 ∧ El p (ys.getD 0 0) := hp
  obtain ⟨h0, he, h2, hl, hb1, hb2, hr⟩ := hp
  obtain ⟨r, rfl⟩ : ∃ r, ys = [r, 1] := by
    match ys, hb1, hb2 with
    | [r, o], _, h => exact ⟨r, by rw [show o = 1 from h]⟩
  replace hr : El p r := hr
  simp only [Int.toNat_natCast, exists_const, and_true, true_and, implies_true, decide_eq_true_eq, decide_eq_false_iff_not, Bool.not_eq_true', Bool.not_eq_false', beq_iff_eq, forall_const]
  have e0 : ([r, 1] : List Int).getD 0 0 = r := rfl
  have eL : (([r, 1] : List Int).length : Int) = 2 := rfl
  have w1 : IntKind.i64.wrap (IntKind.i64.wrap ((xs.length : Int) - 2) + 1) = ((xs.length - 1 : Nat) : Int) := by
    rw [wrap_small (n := (xs.length : Int) - 2) (by omega), wrap_small (by omega)]; omega
  have w2 : IntKind.i64.wrap ((2 : Int) - 1) = 1 := wrap_small (by omega)
  have e1 : ([r, 1] : List Int).getD (Int.toNat 1) 0 = 1 := rfl
  have e2 : Int.toNat 1 = 1 := rfl
  simp only [e0, eL, w1, w2, e1, inv_one h0, Int.toNat_natCast, List.length_replicate, List.nil_append, left_len, quoL_len, leftJ_len]
  refine ⟨by omega, fun h => absurd h (by omega), fun _ => ⟨⟨by omega, by omega, by omega⟩, ⟨by omega, by omega⟩, ⟨h0, el_one h0⟩, fun _ => ⟨by omega, ⟨by rw [wrap_small (by omega)]; omega, left_zero h2 he, quoL_zero _ _ _⟩, fun k hk => ⟨fun h => ?_, fun h => ?_⟩⟩⟩⟩
  · have w3 : IntKind.i64.wrap (IntKind.i64.wrap ((xs.length : Int) - 2 - (k : Int) + 2) - 1) = ((xs.length - 1 - k : Nat) : Int) := by
      rw [wrap_small (n := (xs.length : Int) - 2 - (k : Int) + 2) (by omega), wrap_small (by omega)]; omega
    have i1 : (xs.length : Int) - 2 - (k : Int) = ((xs.length - 2 - k : Nat) : Int) := by omega
    have hc : (leftL p r xs k).getD (xs.length - 1 - k) 0 = qsF p r xs (k + 1) := by rw [left_get (by omega), if_neg (by omega), if_pos (by omega)]
    have hm1 : mulM p (qsF p r xs (k + 1)) 1 = qsF p r xs (k + 1) := by
      unfold mulM
      rw [Int.mul_one, el_self (el_qs h0 _ _ _)]
    have w5 : IntKind.i64.wrap (((xs.length - 2 - k : Nat) : Int) - 1) = (xs.length : Int) - 2 - ((k + 1 : Nat) : Int) := by
      rw [wrap_small (by omega)]; omega
    rw [w3]
    simp only [i1, Int.toNat_natCast, hc, hm1]
    refine ⟨⟨by omega, by omega⟩, ⟨h0, el_qs h0 _ _ _, el_one h0⟩, fun _ => ⟨⟨by omega, by omega⟩, fun hz => ?_, fun hnz => ?_⟩⟩
    · exact ⟨k + 1, by omega, by omega, w5, left_same (by omega) he hz, quoL_set (by omega)⟩
    · refine ⟨by omega, ⟨rfl, rfl, quoL_set (by omega)⟩, fun j hj => ⟨fun hj2 => ?_, fun hj2 => ?_⟩⟩
      · have w4 : IntKind.i64.wrap (((xs.length - 2 - k : Nat) : Int) + (j : Int)) = ((xs.length - 2 - k + j : Nat) : Int) := by rw [wrap_small (by omega)]; omega
        rw [w4, Int.toNat_natCast]
        have hlast : (leftL p r xs k).getD (xs.length - 2 - k) 0 = xs.getD (xs.length - 2 - k) 0 := by rw [left_get (by omega), if_pos (by omega)]
        match j, hj2 with
        | 0, _ =>
          have e3 : (leftJ p r xs k 0).getD (xs.length - 2 - k + 0) 0 = xs.getD (xs.length - 2 - k) 0 := hlast
          rw [e3]
          refine ⟨⟨by omega, by omega⟩, ⟨by omega, by omega⟩, ⟨h0, el_qs h0 _ _ _, hr⟩, ⟨h0, el_get h0 he _, el_mulM h0 _ _⟩, ⟨by omega, by omega⟩, fun _ _ => ⟨1, by omega, by omega, wrap_succ (by omega), ?_⟩⟩
          show (leftL p r xs k).set (xs.length - 2 - k) (subM p (xs.getD (xs.length - 2 - k) 0) (mulM p (qsF p r xs (k + 1)) r)) = (leftL p r xs k).set (xs.length - 2 - k) (subM p (xs.getD (xs.length - 1 - (k + 1)) 0) (mulM p (qsF p r xs (k + 1)) r))
          rw [show xs.length - 1 - (k + 1) = xs.length - 2 - k by omega]
        | 1, _ =>
          have e3 : (leftJ p r xs k 1).getD (xs.length - 2 - k + 1) 0 = qsF p r xs (k + 1) := by
            show ((leftL p r xs k).set (xs.length - 2 - k) (qsF p r xs (k + 2))).getD (xs.length - 2 - k + 1) 0 = _
            rw [getD_setI (by rw [left_len]; omega), if_neg (by omega), show xs.length - 2 - k + 1 = xs.length - 1 - k by omega, hc]
          rw [e3]
          have e4 : ([r, 1] : List Int).getD 1 0 = 1 := rfl
          rw [e4, hm1]
          refine ⟨⟨by omega, by omega⟩, ⟨by omega, by omega⟩, ⟨h0, el_qs h0 _ _ _, el_one h0⟩, ⟨h0, el_qs h0 _ _ _, el_qs h0 _ _ _⟩, ⟨by omega, by omega⟩, fun _ _ => ⟨2, by omega, by omega, wrap_succ (by omega), ?_⟩⟩
          show ((leftL p r xs k).set (xs.length - 2 - k) (qsF p r xs (k + 2))).set (xs.length - 2 - k + 1) (subM p (qsF p r xs (k + 1)) (qsF p r xs (k + 1))) = leftL p r xs (k + 1)
          unfold subM
          rw [Int.sub_self, Int.zero_emod, show xs.length - 2 - k + 1 = xs.length - 1 - k by omega]
          exact left_set (by omega)
      · obtain rfl : j = 2 := by omega
        exact ⟨k + 1, by omega, by omega, w5, rfl, rfl⟩
  · obtain rfl : k = xs.length - 1 := by omega
    refine ⟨⟨by omega, by omega⟩, ?_⟩
    rw [quoL_end]
    have ht : (leftL p r xs (xs.length - 1)).take (Int.toNat 1) = [qsF p r xs xs.length] := by
      refine list_ext (by rw [List.length_take, left_len]; simp only [e2, List.length_cons, List.length_nil]; omega) (fun t ht => ?_)
      rw [List.length_take, e2] at ht
      obtain rfl : t = 0 := by omega
      rw [e2, getD_take (by omega), left_get (by omega), if_neg (by omega), if_pos (by omega), show xs.length - 1 + 1 = xs.length by omega]
      rfl
    rw [ht]
    rfl
end Go.SF
