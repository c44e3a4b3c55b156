/- What is owed of the code of the division by a linear factor. No condition. -/
import Derived.Test.YtobmiihdfklmaaaGreatSxPThru
namespace Go.SF
open Go.SX Go
set_option linter.unusedVariables false
set_option linter.unusedSimpArgs false
set_option maxRecDepth 10000
theorem v_I_divMod :
 ∀ (d : (Int × Int × Int) × List Int × List Int), Ty.wf fldT d.1 ∧ Ty.wf listT d.2.1 ∧ Ty.wf listT d.2.2 → IsMod d.1.1 ∧ elemsF d.1.1 d.2.1 = true ∧ (2 : Nat) ≤ d.2.1.length ∧ d.2.1.length ≤ (1000 : Nat) ∧ LinB d.1.1
 d.2.2 → ((0 : Nat) + d.2.1.length) * (8 : Nat) ≤ (140737488355328 : Nat) ∧ (decide ((↑d.2.1.length : Int) < (↑d.2.2.length : Int)) = true → ([], [] ++ d.2.1) = divF d.1.1 d.2.1 d.2.2) ∧ (decide ((↑d.2.1.length : Int) <
 (↑d.2.2.length : Int)) = false → ((0 : Int) ≤ IntKind.wrap IntKind.i64 (IntKind.wrap IntKind.i64 ((↑d.2.1.length : Int) - (↑d.2.2.length : Int)) + (1 : Int)) ∧ IntKind.wrap IntKind.i64 (IntKind.wrap IntKind.i64
 ((↑d.2.1.length : Int) - (↑d.2.2.length : Int)) + (1 : Int)) ≤ IntKind.wrap IntKind.i64 (IntKind.wrap IntKind.i64 ((↑d.2.1.length : Int) - (↑d.2.2.length : Int)) + (1 : Int)) ∧ IntKind.wrap IntKind.i64 (IntKind.wrap
 IntKind.i64 ((↑d.2.1.length : Int) - (↑d.2.2.length : Int)) + (1 : Int)) * (↑(8 : Nat) : Int) ≤ (140737488355328 : Int)) ∧ ((0 : Int) ≤ IntKind.wrap IntKind.i64 ((↑d.2.2.length : Int) - (1 : Int)) ∧ IntKind.wrap
 IntKind.i64 ((↑d.2.2.length : Int) - (1 : Int)) < (↑d.2.2.length : Int)) ∧ (IsMod d.1.1 ∧ El d.1.1 (d.2.2.getD (Int.toNat (IntKind.wrap IntKind.i64 ((↑d.2.2.length : Int) - (1 : Int)))) (0 : Int))) ∧ (Ty.wf i64T (invM
 d.1.1 (d.2.2.getD (Int.toNat (IntKind.wrap IntKind.i64 ((↑d.2.2.length : Int) - (1 : Int)))) (0 : Int))) → (0 : Nat) ≤ d.2.1.length - (1 : Nat) ∧ (((d.1.1 = d.1.1 ∧ d.1.2.1 = d.1.2.1 ∧ d.1.2.2 = d.1.2.2) ∧ d.2.1 = d.2.1
 ∧ d.2.2 = d.2.2 ∧ Value.slice none (0 : Nat) (0 : Nat) = Value.slice none (0 : Nat) (0 : Nat) ∧ Value.slice none (0 : Nat) (0 : Nat) = Value.slice none (0 : Nat) (0 : Nat) ∧ invM d.1.1 (d.2.2.getD (Int.toNat
 (IntKind.wrap IntKind.i64 ((↑d.2.2.length : Int) - (1 : Int)))) (0 : Int)) = invM d.1.1 (d.2.2.getD (Int.toNat (IntKind.wrap IntKind.i64 ((↑d.2.2.length : Int) - (1 : Int)))) (0 : Int)) ∧ IntKind.wrap IntKind.i64
 ((↑(List.length (List.replicate (Int.toNat (IntKind.wrap IntKind.i64 (IntKind.wrap IntKind.i64 ((↑d.2.1.length : Int) - (↑d.2.2.length : Int)) + (1 : Int)))) (0 : Int))) : Int) - (1 : Int)) = (↑d.2.1.length : Int) - (2
 : Int) - (↑(0 : Nat) : Int)) ∧ (d.1.1 = d.1.1 ∧ d.1.2.1 = d.1.2.1 ∧ d.1.2.2 = d.1.2.2) ∧ [] ++ d.2.1 = leftL d.1.1 (d.2.2.getD (0 : Nat) (0 : Int)) d.2.1 (0 : Nat) ∧ List.replicate (Int.toNat (IntKind.wrap IntKind.i64
 (IntKind.wrap IntKind.i64 ((↑d.2.1.length : Int) - (↑d.2.2.length : Int)) + (1 : Int)))) (0 : Int) = quoL d.1.1 (d.2.2.getD (0 : Nat) (0 : Int)) d.2.1 (0 : Nat)) ∧ ∀ (x : Nat), x ≤ d.2.1.length - (1 : Nat) → (decide ((0
 : Int) ≤ (↑d.2.1.length : Int) - (2 : Int) - (↑x : Int)) = true → ((0 : Int) ≤ IntKind.wrap IntKind.i64 (IntKind.wrap IntKind.i64 ((↑d.2.1.length : Int) - (2 : Int) - (↑x : Int) + (↑d.2.2.length : Int)) - (1 : Int)) ∧
 IntKind.wrap IntKind.i64 (IntKind.wrap IntKind.i64 ((↑d.2.1.length : Int) - (2 : Int) - (↑x : Int) + (↑d.2.2.length : Int)) - (1 : Int)) < (↑(List.length (leftL d.1.1 (d.2.2.getD (0 : Nat) (0 : Int)) d.2.1 x)) : Int)) ∧
 (IsMod d.1.1 ∧ El d.1.1 (List.getD (leftL d.1.1 (d.2.2.getD (0 : Nat) (0 : Int)) d.2.1 x) (Int.toNat (IntKind.wrap IntKind.i64 (IntKind.wrap IntKind.i64 ((↑d.2.1.length : Int) - (2 : Int) - (↑x : Int) + (↑d.2.2.length :
 Int)) - (1 : Int)))) (0 : Int)) ∧ El d.1.1 (invM d.1.1 (d.2.2.getD (Int.toNat (IntKind.wrap IntKind.i64 ((↑d.2.2.length : Int) - (1 : Int)))) (0 : Int)))) ∧ (Ty.wf i64T (mulM d.1.1 (List.getD (leftL d.1.1 (d.2.2.getD (0
 : Nat) (0 : Int)) d.2.1 x) (Int.toNat (IntKind.wrap IntKind.i64 (IntKind.wrap IntKind.i64 ((↑d.2.1.length : Int) - (2 : Int) - (↑x : Int) + (↑d.2.2.length : Int)) - (1 : Int)))) (0 : Int)) (invM d.1.1 (d.2.2.getD
 (Int.toNat (IntKind.wrap IntKind.i64 ((↑d.2.2.length : Int) - (1 : Int)))) (0 : Int)))) → ((0 : Int) ≤ (↑d.2.1.length : Int) - (2 : Int) - (↑x : Int) ∧ (↑d.2.1.length : Int) - (2 : Int) - (↑x : Int) < (↑(List.length
 (quoL d.1.1 (d.2.2.getD (0 : Nat) (0 : Int)) d.2.1 x)) : Int)) ∧ (decide (mulM d.1.1 (List.getD (leftL d.1.1 (d.2.2.getD (0 : Nat) (0 : Int)) d.2.1 x) (Int.toNat (IntKind.wrap IntKind.i64 (IntKind.wrap IntKind.i64
 ((↑d.2.1.length : Int) - (2 : Int) - (↑x : Int) + (↑d.2.2.length : Int)) - (1 : Int)))) (0 : Int)) (invM d.1.1 (d.2.2.getD (Int.toNat (IntKind.wrap IntKind.i64 ((↑d.2.2.length : Int) - (1 : Int)))) (0 : Int))) = (0 :
 Int)) = true → ∃ (x' : Nat), x' ≤ d.2.1.length - (1 : Nat) ∧ d.2.1.length - (1 : Nat) - x' < d.2.1.length - (1 : Nat) - x ∧ ((d.1.1 = d.1.1 ∧ d.1.2.1 = d.1.2.1 ∧ d.1.2.2 = d.1.2.2) ∧ d.2.1 = d.2.1 ∧ d.2.2 = d.2.2 ∧
 Value.slice none (0 : Nat) (0 : Nat) = Value.slice none (0 : Nat) (0 : Nat) ∧ Value.slice none (0 : Nat) (0 : Nat) = Value.slice none (0 : Nat) (0 : Nat) ∧ invM d.1.1 (d.2.2.getD (Int.toNat (IntKind.wrap IntKind.i64
 ((↑d.2.2.length : Int) - (1 : Int)))) (0 : Int)) = invM d.1.1 (d.2.2.getD (Int.toNat (IntKind.wrap IntKind.i64 ((↑d.2.2.length : Int) - (1 : Int)))) (0 : Int)) ∧ IntKind.wrap IntKind.i64 ((↑d.2.1.length : Int) - (2 :
 Int) - (↑x : Int) - (1 : Int)) = (↑d.2.1.length : Int) - (2 : Int) - (↑x' : Int)) ∧ (d.1.1 = d.1.1 ∧ d.1.2.1 = d.1.2.1 ∧ d.1.2.2 = d.1.2.2) ∧ leftL d.1.1 (d.2.2.getD (0 : Nat) (0 : Int)) d.2.1 x = leftL d.1.1
 (d.2.2.getD (0 : Nat) (0 : Int)) d.2.1 x' ∧ List.set (quoL d.1.1 (d.2.2.getD (0 : Nat) (0 : Int)) d.2.1 x) (Int.toNat ((↑d.2.1.length : Int) - (2 : Int) - (↑x : Int))) (mulM d.1.1 (List.getD (leftL d.1.1 (d.2.2.getD (0
 : Nat) (0 : Int)) d.2.1 x) (Int.toNat (IntKind.wrap IntKind.i64 (IntKind.wrap IntKind.i64 ((↑d.2.1.length : Int) - (2 : Int) - (↑x : Int) + (↑d.2.2.length : Int)) - (1 : Int)))) (0 : Int)) (invM d.1.1 (d.2.2.getD
 (Int.toNat (IntKind.wrap IntKind.i64 ((↑d.2.2.length : Int) - (1 : Int)))) (0 : Int)))) = quoL d.1.1 (d.2.2.getD (0 : Nat) (0 : Int)) d.2.1 x') ∧ (decide (mulM d.1.1 (List.getD (leftL d.1.1 (d.2.2.getD (0 : Nat) (0 :
 Int)) d.2.1 x) (Int.toNat (IntKind.wrap IntKind.i64 (IntKind.wrap IntKind.i64 ((↑d.2.1.length : Int) - (2 : Int) - (↑x : Int) + (↑d.2.2.length : Int)) - (1 : Int)))) (0 : Int)) (invM d.1.1 (d.2.2.getD (Int.toNat
 (IntKind.wrap IntKind.i64 ((↑d.2.2.length : Int) - (1 : Int)))) (0 : Int))) = (0 : Int)) = false → (0 : Nat) ≤ (2 : Nat) ∧ (((d.1.1 = d.1.1 ∧ d.1.2.1 = d.1.2.1 ∧ d.1.2.2 = d.1.2.2) ∧ d.2.1 = d.2.1 ∧ d.2.2 = d.2.2 ∧
 Value.slice none (0 : Nat) (0 : Nat) = Value.slice none (0 : Nat) (0 : Nat) ∧ Value.slice none (0 : Nat) (0 : Nat) = Value.slice none (0 : Nat) (0 : Nat) ∧ invM d.1.1 (d.2.2.getD (Int.toNat (IntKind.wrap IntKind.i64
 ((↑d.2.2.length : Int) - (1 : Int)))) (0 : Int)) = invM d.1.1 (d.2.2.getD (Int.toNat (IntKind.wrap IntKind.i64 ((↑d.2.2.length : Int) - (1 : Int)))) (0 : Int)) ∧ (↑d.2.1.length : Int) - (2 : Int) - (↑x : Int) =
 (↑d.2.1.length : Int) - (2 : Int) - (↑x : Int) ∧ mulM d.1.1 (List.getD (leftL d.1.1 (d.2.2.getD (0 : Nat) (0 : Int)) d.2.1 x) (Int.toNat (IntKind.wrap IntKind.i64 (IntKind.wrap IntKind.i64 ((↑d.2.1.length : Int) - (2 :
 Int) - (↑x : Int) + (↑d.2.2.length : Int)) - (1 : Int)))) (0 : Int)) (invM d.1.1 (d.2.2.getD (Int.toNat (IntKind.wrap IntKind.i64 ((↑d.2.2.length : Int) - (1 : Int)))) (0 : Int))) = mulM d.1.1 (List.getD (leftL d.1.1
 (d.2.2.getD (0 : Nat) (0 : Int)) d.2.1 x) (Int.toNat (IntKind.wrap IntKind.i64 (IntKind.wrap IntKind.i64 ((↑d.2.1.length : Int) - (2 : Int) - (↑x : Int) + (↑d.2.2.length : Int)) - (1 : Int)))) (0 : Int)) (invM d.1.1
 (d.2.2.getD (Int.toNat (IntKind.wrap IntKind.i64 ((↑d.2.2.length : Int) - (1 : Int)))) (0 : Int))) ∧ d.2.2 = d.2.2 ∧ (↑d.2.2.length : Int) = (↑d.2.2.length : Int) ∧ (0 : Int) = (↑(0 : Nat) : Int)) ∧ (d.1.1 = d.1.1 ∧
 d.1.2.1 = d.1.2.1 ∧ d.1.2.2 = d.1.2.2) ∧ leftL d.1.1 (d.2.2.getD (0 : Nat) (0 : Int)) d.2.1 x = leftJ d.1.1 (d.2.2.getD (0 : Nat) (0 : Int)) d.2.1 x (0 : Nat) ∧ List.set (quoL d.1.1 (d.2.2.getD (0 : Nat) (0 : Int))
 d.2.1 x) (Int.toNat ((↑d.2.1.length : Int) - (2 : Int) - (↑x : Int))) (mulM d.1.1 (List.getD (leftL d.1.1 (d.2.2.getD (0 : Nat) (0 : Int)) d.2.1 x) (Int.toNat (IntKind.wrap IntKind.i64 (IntKind.wrap IntKind.i64
 ((↑d.2.1.length : Int) - (2 : Int) - (↑x : Int) + (↑d.2.2.length : Int)) - (1 : Int)))) (0 : Int)) (invM d.1.1 (d.2.2.getD (Int.toNat (IntKind.wrap IntKind.i64 ((↑d.2.2.length : Int) - (1 : Int)))) (0 : Int)))) = quoL
 d.1.1 (d.2.2.getD (0 : Nat) (0 : Int)) d.2.1 (x + (1 : Nat))) ∧ ∀ (x_1 : Nat), x_1 ≤ (2 : Nat) → (decide ((↑x_1 : Int) < (↑d.2.2.length : Int)) = true → ((0 : Int) ≤ (↑x_1 : Int) ∧ (↑x_1 : Int) < (↑d.2.2.length : Int))
 ∧ ((0 : Int) ≤ IntKind.wrap IntKind.i64 ((↑d.2.1.length : Int) - (2 : Int) - (↑x : Int) + (↑x_1 : Int)) ∧ IntKind.wrap IntKind.i64 ((↑d.2.1.length : Int) - (2 : Int) - (↑x : Int) + (↑x_1 : Int)) < (↑(List.length (leftJ
 d.1.1 (d.2.2.getD (0 : Nat) (0 : Int)) d.2.1 x x_1)) : Int)) ∧ (IsMod d.1.1 ∧ El d.1.1 (mulM d.1.1 (List.getD (leftL d.1.1 (d.2.2.getD (0 : Nat) (0 : Int)) d.2.1 x) (Int.toNat (IntKind.wrap IntKind.i64 (IntKind.wrap
 IntKind.i64 ((↑d.2.1.length : Int) - (2 : Int) - (↑x : Int) + (↑d.2.2.length : Int)) - (1 : Int)))) (0 : Int)) (invM d.1.1 (d.2.2.getD (Int.toNat (IntKind.wrap IntKind.i64 ((↑d.2.2.length : Int) - (1 : Int)))) (0 :
 Int)))) ∧ El d.1.1 (d.2.2.getD (Int.toNat (↑x_1 : Int)) (0 : Int))) ∧ (IsMod d.1.1 ∧ El d.1.1 (List.getD (leftJ d.1.1 (d.2.2.getD (0 : Nat) (0 : Int)) d.2.1 x x_1) (Int.toNat (IntKind.wrap IntKind.i64 ((↑d.2.1.length :
 Int) - (2 : Int) - (↑x : Int) + (↑x_1 : Int)))) (0 : Int)) ∧ El d.1.1 (mulM d.1.1 (mulM d.1.1 (List.getD (leftL d.1.1 (d.2.2.getD (0 : Nat) (0 : Int)) d.2.1 x) (Int.toNat (IntKind.wrap IntKind.i64 (IntKind.wrap
 IntKind.i64 ((↑d.2.1.length : Int) - (2 : Int) - (↑x : Int) + (↑d.2.2.length : Int)) - (1 : Int)))) (0 : Int)) (invM d.1.1 (d.2.2.getD (Int.toNat (IntKind.wrap IntKind.i64 ((↑d.2.2.length : Int) - (1 : Int)))) (0 :
 Int)))) (d.2.2.getD (Int.toNat (↑x_1 : Int)) (0 : Int)))) ∧ ((0 : Int) ≤ IntKind.wrap IntKind.i64 ((↑d.2.1.length : Int) - (2 : Int) - (↑x : Int) + (↑x_1 : Int)) ∧ IntKind.wrap IntKind.i64 ((↑d.2.1.length : Int) - (2 :
 Int) - (↑x : Int) + (↑x_1 : Int)) < (↑(List.length (leftJ d.1.1 (d.2.2.getD (0 : Nat) (0 : Int)) d.2.1 x x_1)) : Int)) ∧ (Ty.wf i64T (subM d.1.1 (List.getD (leftJ d.1.1 (d.2.2.getD (0 : Nat) (0 : Int)) d.2.1 x x_1)
 (Int.toNat (IntKind.wrap IntKind.i64 ((↑d.2.1.length : Int) - (2 : Int) - (↑x : Int) + (↑x_1 : Int)))) (0 : Int)) (mulM d.1.1 (mulM d.1.1 (List.getD (leftL d.1.1 (d.2.2.getD (0 : Nat) (0 : Int)) d.2.1 x) (Int.toNat
 (IntKind.wrap IntKind.i64 (IntKind.wrap IntKind.i64 ((↑d.2.1.length : Int) - (2 : Int) - (↑x : Int) + (↑d.2.2.length : Int)) - (1 : Int)))) (0 : Int)) (invM d.1.1 (d.2.2.getD (Int.toNat (IntKind.wrap IntKind.i64
 ((↑d.2.2.length : Int) - (1 : Int)))) (0 : Int)))) (d.2.2.getD (Int.toNat (↑x_1 : Int)) (0 : Int)))) → Ty.wf i64T (mulM d.1.1 (mulM d.1.1 (List.getD (leftL d.1.1 (d.2.2.getD (0 : Nat) (0 : Int)) d.2.1 x) (Int.toNat
 (IntKind.wrap IntKind.i64 (IntKind.wrap IntKind.i64 ((↑d.2.1.length : Int) - (2 : Int) - (↑x : Int) + (↑d.2.2.length : Int)) - (1 : Int)))) (0 : Int)) (invM d.1.1 (d.2.2.getD (Int.toNat (IntKind.wrap IntKind.i64
 ((↑d.2.2.length : Int) - (1 : Int)))) (0 : Int)))) (d.2.2.getD (Int.toNat (↑x_1 : Int)) (0 : Int))) → ∃ (x' : Nat), x' ≤ (2 : Nat) ∧ (2 : Nat) - x' < (2 : Nat) - x_1 ∧ ((d.1.1 = d.1.1 ∧ d.1.2.1 = d.1.2.1 ∧ d.1.2.2 =
 d.1.2.2) ∧ d.2.1 = d.2.1 ∧ d.2.2 = d.2.2 ∧ Value.slice none (0 : Nat) (0 : Nat) = Value.slice none (0 : Nat) (0 : Nat) ∧ Value.slice none (0 : Nat) (0 : Nat) = Value.slice none (0 : Nat) (0 : Nat) ∧ invM d.1.1
 (d.2.2.getD (Int.toNat (IntKind.wrap IntKind.i64 ((↑d.2.2.length : Int) - (1 : Int)))) (0 : Int)) = invM d.1.1 (d.2.2.getD (Int.toNat (IntKind.wrap IntKind.i64 ((↑d.2.2.length : Int) - (1 : Int)))) (0 : Int)) ∧
 (↑d.2.1.length : Int) - (2 : Int) - (↑x : Int) = (↑d.2.1.length : Int) - (2 : Int) - (↑x : Int) ∧ mulM d.1.1 (List.getD (leftL d.1.1 (d.2.2.getD (0 : Nat) (0 : Int)) d.2.1 x) (Int.toNat (IntKind.wrap IntKind.i64
 (IntKind.wrap IntKind.i64 ((↑d.2.1.length : Int) - (2 : Int) - (↑x : Int) + (↑d.2.2.length : Int)) - (1 : Int)))) (0 : Int)) (invM d.1.1 (d.2.2.getD (Int.toNat (IntKind.wrap IntKind.i64 ((↑d.2.2.length : Int) - (1 :
 Int)))) (0 : Int))) = mulM d.1.1 (List.getD (leftL d.1.1 (d.2.2.getD (0 : Nat) (0 : Int)) d.2.1 x) (Int.toNat (IntKind.wrap IntKind.i64 (IntKind.wrap IntKind.i64 ((↑d.2.1.length : Int) - (2 : Int) - (↑x : Int) +
 (↑d.2.2.length : Int)) - (1 : Int)))) (0 : Int)) (invM d.1.1 (d.2.2.getD (Int.toNat (IntKind.wrap IntKind.i64 ((↑d.2.2.length : Int) - (1 : Int)))) (0 : Int))) ∧ d.2.2 = d.2.2 ∧ (↑d.2.2.length : Int) = (↑d.2.2.length :
 Int) ∧ IntKind.wrap IntKind.i64 ((↑x_1 : Int) + (1 : Int)) = (↑x' : Int)) ∧ (d.1.1 = d.1.1 ∧ d.1.2.1 = d.1.2.1 ∧ d.1.2.2 = d.1.2.2) ∧ List.set (leftJ d.1.1 (d.2.2.getD (0 : Nat) (0 : Int)) d.2.1 x x_1) (Int.toNat
 (IntKind.wrap IntKind.i64 ((↑d.2.1.length : Int) - (2 : Int) - (↑x : Int) + (↑x_1 : Int)))) (subM d.1.1 (List.getD (leftJ d.1.1 (d.2.2.getD (0 : Nat) (0 : Int)) d.2.1 x x_1) (Int.toNat (IntKind.wrap IntKind.i64
 ((↑d.2.1.length : Int) - (2 : Int) - (↑x : Int) + (↑x_1 : Int)))) (0 : Int)) (mulM d.1.1 (mulM d.1.1 (List.getD (leftL d.1.1 (d.2.2.getD (0 : Nat) (0 : Int)) d.2.1 x) (Int.toNat (IntKind.wrap IntKind.i64 (IntKind.wrap
 IntKind.i64 ((↑d.2.1.length : Int) - (2 : Int) - (↑x : Int) + (↑d.2.2.length : Int)) - (1 : Int)))) (0 : Int)) (invM d.1.1 (d.2.2.getD (Int.toNat (IntKind.wrap IntKind.i64 ((↑d.2.2.length : Int) - (1 : Int)))) (0 :
 Int)))) (d.2.2.getD (Int.toNat (↑x_1 : Int)) (0 : Int)))) = leftJ d.1.1 (d.2.2.getD (0 : Nat) (0 : Int)) d.2.1 x x' ∧ quoL d.1.1 (d.2.2.getD (0 : Nat) (0 : Int)) d.2.1 (x + (1 : Nat)) = quoL d.1.1 (d.2.2.getD (0 : Nat)
 (0 : Int)) d.2.1 (x + (1 : Nat)))) ∧ (decide ((↑x_1 : Int) < (↑d.2.2.length : Int)) = false → ∃ (x' : Nat), x' ≤ d.2.1.length - (1 : Nat) ∧ d.2.1.length - (1 : Nat) - x' < d.2.1.length - (1 : Nat) - x ∧ ((d.1.1 = d.1.1
 ∧ d.1.2.1 = d.1.2.1 ∧ d.1.2.2 = d.1.2.2) ∧ d.2.1 = d.2.1 ∧ d.2.2 = d.2.2 ∧ Value.slice none (0 : Nat) (0 : Nat) = Value.slice none (0 : Nat) (0 : Nat) ∧ Value.slice none (0 : Nat) (0 : Nat) = Value.slice none (0 : Nat)
 (0 : Nat) ∧ invM d.1.1 (d.2.2.getD (Int.toNat (IntKind.wrap IntKind.i64 ((↑d.2.2.length : Int) - (1 : Int)))) (0 : Int)) = invM d.1.1 (d.2.2.getD (Int.toNat (IntKind.wrap IntKind.i64 ((↑d.2.2.length : Int) - (1 :
 Int)))) (0 : Int)) ∧ IntKind.wrap IntKind.i64 ((↑d.2.1.length : Int) - (2 : Int) - (↑x : Int) - (1 : Int)) = (↑d.2.1.length : Int) - (2 : Int) - (↑x' : Int)) ∧ (d.1.1 = d.1.1 ∧ d.1.2.1 = d.1.2.1 ∧ d.1.2.2 = d.1.2.2) ∧
 leftJ d.1.1 (d.2.2.getD (0 : Nat) (0 : Int)) d.2.1 x x_1 = leftL d.1.1 (d.2.2.getD (0 : Nat) (0 : Int)) d.2.1 x' ∧ quoL d.1.1 (d.2.2.getD (0 : Nat) (0 : Int)) d.2.1 (x + (1 : Nat)) = quoL d.1.1 (d.2.2.getD (0 : Nat) (0
 : Int)) d.2.1 x')))) ∧ (decide ((0 : Int) ≤ (↑d.2.1.length : Int) - (2 : Int) - (↑x : Int)) = false → ((0 : Int) ≤ IntKind.wrap IntKind.i64 ((↑d.2.2.length : Int) - (1 : Int)) ∧ IntKind.wrap IntKind.i64 ((↑d.2.2.length
 : Int) - (1 : Int)) ≤ (↑(List.length (leftL d.1.1 (d.2.2.getD (0 : Nat) (0 : Int)) d.2.1 x)) : Int)) ∧ (quoL d.1.1 (d.2.2.getD (0 : Nat) (0 : Int)) d.2.1 x, List.take (cutF (List.take (Int.toNat (IntKind.wrap
 IntKind.i64 ((↑d.2.2.length : Int) - (1 : Int)))) (leftL d.1.1 (d.2.2.getD (0 : Nat) (0 : Int)) d.2.1 x))) (List.take (Int.toNat (IntKind.wrap IntKind.i64 ((↑d.2.2.length : Int) - (1 : Int)))) (leftL d.1.1 (d.2.2.getD
 (0 : Nat) (0 : Int)) d.2.1 x))) = divF d.1.1 d.2.1 d.2.2))) := by
  intro (d : Fd × List Int × List Int) hw hp
  obtain ⟨⟨p, g, t⟩, xs, ys⟩ := d
  replace hp : IsMod p ∧ elemsF p xs = true ∧ 2 ≤ xs.length ∧ xs.length ≤ 1000 ∧ ys.length = 2 ∧ ys.getD 1 0 = 1 ∧ El p (ys.getD 0 0) := hp
  obtain ⟨h0, he, h2, hl, hb1, hb2, hr⟩ := hp
  obtain ⟨r, rfl⟩ : ∃ r, ys = [r, 1] := by
    match ys, hb1, hb2 with
    | [r, o], _, h => exact ⟨r, by rw [show o = 1 from h]⟩
  replace hr : El p r := hr
  simp only [Int.toNat_natCast, exists_const, and_true, true_and, implies_true, decide_eq_true_eq, decide_eq_false_iff_not, Bool.not_eq_true', Bool.not_eq_false', beq_iff_eq, forall_const]
  have e0 : ([r, 1] : List Int).getD 0 0 = r := rfl
  have eL : (([r, 1] : List Int).length : Int) = 2 := rfl
  have w1 : IntKind.i64.wrap (IntKind.i64.wrap ((xs.length : Int) - 2) + 1) = ((xs.length - 1 : Nat) : Int) := by
    rw [wrap_small (n := (xs.length : Int) - 2) (by omega), wrap_small (by omega)]; omega
  have w2 : IntKind.i64.wrap ((2 : Int) - 1) = 1 := wrap_small (by omega)
  have e1 : ([r, 1] : List Int).getD (Int.toNat 1) 0 = 1 := rfl
  have e2 : Int.toNat 1 = 1 := rfl
  simp only [e0, eL, w1, w2, e1, inv_one h0, Int.toNat_natCast, List.length_replicate, List.nil_append, left_len, quoL_len, leftJ_len]
  refine ⟨by omega, fun h => absurd h (by omega), fun _ => ⟨⟨by omega, by omega, by omega⟩, ⟨by omega, by omega⟩, ⟨h0, el_one h0⟩, fun _ => ⟨by omega, ⟨by rw [wrap_small (by omega)]; omega, left_zero h2 he, quoL_zero _ _ _⟩, fun k hk => ⟨fun h => ?_, fun h => ?_⟩⟩⟩⟩
  · have w3 : IntKind.i64.wrap (IntKind.i64.wrap ((xs.length : Int) - 2 - (k : Int) + 2) - 1) = ((xs.length - 1 - k : Nat) : Int) := by
      rw [wrap_small (n := (xs.length : Int) - 2 - (k : Int) + 2) (by omega), wrap_small (by omega)]; omega
    have i1 : (xs.length : Int) - 2 - (k : Int) = ((xs.length - 2 - k : Nat) : Int) := by omega
    have hc : (leftL p r xs k).getD (xs.length - 1 - k) 0 = qsF p r xs (k + 1) := by rw [left_get (by omega), if_neg (by omega), if_pos (by omega)]
    have hm1 : mulM p (qsF p r xs (k + 1)) 1 = qsF p r xs (k + 1) := by
      unfold mulM
      rw [Int.mul_one, el_self (el_qs h0 _ _ _)]
    have w5 : IntKind.i64.wrap (((xs.length - 2 - k : Nat) : Int) - 1) = (xs.length : Int) - 2 - ((k + 1 : Nat) : Int) := by
      rw [wrap_small (by omega)]; omega
    rw [w3]
    simp only [i1, Int.toNat_natCast, hc, hm1]
    refine ⟨⟨by omega, by omega⟩, ⟨h0, el_qs h0 _ _ _, el_one h0⟩, fun _ => ⟨⟨by omega, by omega⟩, fun hz => ?_, fun hnz => ?_⟩⟩
    · exact ⟨k + 1, by omega, by omega, w5, left_same (by omega) he hz, quoL_set (by omega)⟩
    · refine ⟨by omega, ⟨rfl, rfl, quoL_set (by omega)⟩, fun j hj => ⟨fun hj2 => ?_, fun hj2 => ?_⟩⟩
      · have w4 : IntKind.i64.wrap (((xs.length - 2 - k : Nat) : Int) + (j : Int)) = ((xs.length - 2 - k + j : Nat) : Int) := by rw [wrap_small (by omega)]; omega
        rw [w4, Int.toNat_natCast]
        have hlast : (leftL p r xs k).getD (xs.length - 2 - k) 0 = xs.getD (xs.length - 2 - k) 0 := by rw [left_get (by omega), if_pos (by omega)]
        match j, hj2 with
        | 0, _ =>
          have e3 : (leftJ p r xs k 0).getD (xs.length - 2 - k + 0) 0 = xs.getD (xs.length - 2 - k) 0 := hlast
          rw [e3]
          refine ⟨⟨by omega, by omega⟩, ⟨by omega, by omega⟩, ⟨h0, el_qs h0 _ _ _, hr⟩, ⟨h0, el_get h0 he _, el_mulM h0 _ _⟩, ⟨by omega, by omega⟩, fun _ _ => ⟨1, by omega, by omega, wrap_succ (by omega), ?_⟩⟩
          show (leftL p r xs k).set (xs.length - 2 - k) (subM p (xs.getD (xs.length - 2 - k) 0) (mulM p (qsF p r xs (k + 1)) r)) = (leftL p r xs k).set (xs.length - 2 - k) (subM p (xs.getD (xs.length - 1 - (k + 1)) 0) (mulM p (qsF p r xs (k + 1)) r))
          rw [show xs.length - 1 - (k + 1) = xs.length - 2 - k by omega]
        | 1, _ =>
          have e3 : (leftJ p r xs k 1).getD (xs.length - 2 - k + 1) 0 = qsF p r xs (k + 1) := by
            show ((leftL p r xs k).set (xs.length - 2 - k) (qsF p r xs (k + 2))).getD (xs.length - 2 - k + 1) 0 = _
            rw [getD_setI (by rw [left_len]; omega), if_neg (by omega), show xs.length - 2 - k + 1 = xs.length - 1 - k by omega, hc]
          rw [e3]
          have e4 : ([r, 1] : List Int).getD 1 0 = 1 := rfl
          rw [e4, hm1]
          refine ⟨⟨by omega, by omega⟩, ⟨by omega, by omega⟩, ⟨h0, el_qs h0 _ _ _, el_one h0⟩, ⟨h0, el_qs h0 _ _ _, el_qs h0 _ _ _⟩, ⟨by omega, by omega⟩, fun _ _ => ⟨2, by omega, by omega, wrap_succ (by omega), ?_⟩⟩
          show ((leftL p r xs k).set (xs.length - 2 - k) (qsF p r xs (k + 2))).set (xs.length - 2 - k + 1) (subM p (qsF p r xs (k + 1)) (qsF p r xs (k + 1))) = leftL p r xs (k + 1)
          unfold subM
          rw [Int.sub_self, Int.zero_emod, show xs.length - 2 - k + 1 = xs.length - 1 - k by omega]
          exact left_set (by omega)
      · obtain rfl : j = 2 := by omega
        exact ⟨k + 1, by omega, by omega, w5, rfl, rfl⟩
  · obtain rfl : k = xs.length - 1 := by omega
    refine ⟨⟨by omega, by omega⟩, ?_⟩
    rw [quoL_end]
    have ht : (leftL p r xs (xs.length - 1)).take (Int.toNat 1) = [qsF p r xs xs.length] := by
      refine list_ext (by rw [List.length_take, left_len]; simp only [e2, List.length_cons, List.length_nil]; omega) (fun t ht => ?_)
      rw [List.length_take, e2] at ht
      obtain rfl : t = 0 := by omega
      rw [e2, getD_take (by omega), left_get (by omega), if_neg (by omega), if_pos (by omega), show xs.length - 1 + 1 = xs.length by omega]
      rfl
    rw [ht]
    rfl
end Go.SF
