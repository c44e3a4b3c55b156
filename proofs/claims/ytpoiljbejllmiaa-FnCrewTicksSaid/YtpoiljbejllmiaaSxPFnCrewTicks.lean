/- What is owed of the law's code: FnCrewTicks. No condition. -/
import Derived.Test.YtpoiljbejllmiaaSxPTicks
namespace Go.SF
open Go.SX Go
set_option linter.unusedVariables false
set_option linter.unusedSimpArgs false
set_option maxRecDepth 10000
theorem v_FnCrewTicks :
  ∀ (d : List Int), Ty.wf (Ty.sl (Ty.int IntKind.u8)) d → True → True ∧ (bigF d = true → true = true) ∧ (bigF d = false → (0 : Tup [i64T]) ≤ (0 : Int) ∧ (Ty.wf i64T (atF d (0 : Int)) → (8 : Int) ≠ (0 : Int) ∧ (0 : Tup
  [i64T]) ≤ (1 : Int) ∧ (Ty.wf i64T (atF d (1 : Int)) → True ∧ (Ty.wf crewT (Prod.fst (newCrewF (IntKind.wrap IntKind.i64 ((1 : Int) + Int.tmod (atF d (0 : Int)) (8 : Int))) (IntKind.wrap IntKind.i64 ((1 : Int) + atF d
  (1 : Int))))) ∧ Ty.wf Ty.bool (Prod.snd (newCrewF (IntKind.wrap IntKind.i64 ((1 : Int) + Int.tmod (atF d (0 : Int)) (8 : Int))) (IntKind.wrap IntKind.i64 ((1 : Int) + atF d (1 : Int))))) → ((!Prod.snd (newCrewF
  (IntKind.wrap IntKind.i64 ((1 : Int) + Int.tmod (atF d (0 : Int)) (8 : Int))) (IntKind.wrap IntKind.i64 ((1 : Int) + atF d (1 : Int))))) = true → false = true) ∧ ((!Prod.snd (newCrewF (IntKind.wrap IntKind.i64 ((1 :
  Int) + Int.tmod (atF d (0 : Int)) (8 : Int))) (IntKind.wrap IntKind.i64 ((1 : Int) + atF d (1 : Int))))) = false → (↑(0 : Nat) : Int) ≤ tHands d ∧ ((d = d ∧ IntKind.wrap IntKind.i64 ((1 : Int) + Int.tmod (atF d (0 :
  Int)) (8 : Int)) = IntKind.wrap IntKind.i64 ((1 : Int) + Int.tmod (atF d (0 : Int)) (8 : Int)) ∧ IntKind.wrap IntKind.i64 ((1 : Int) + atF d (1 : Int)) = IntKind.wrap IntKind.i64 ((1 : Int) + atF d (1 : Int)) ∧ (0 :
  Int) = tMost d (0 : Nat) ∧ (0 : Int) = (↑(0 : Nat) : Int)) ∧ Prod.snd (Prod.fst (newCrewF (IntKind.wrap IntKind.i64 ((1 : Int) + Int.tmod (atF d (0 : Int)) (8 : Int))) (IntKind.wrap IntKind.i64 ((1 : Int) + atF d (1 :
  Int))))) = tA d (0 : Nat) ∧ Prod.fst (Prod.fst (newCrewF (IntKind.wrap IntKind.i64 ((1 : Int) + Int.tmod (atF d (0 : Int)) (8 : Int))) (IntKind.wrap IntKind.i64 ((1 : Int) + atF d (1 : Int))))) = tPace d ∧ [] = tDues d
  (0 : Nat)) ∧ ∀ (x : Nat), (↑x : Int) ≤ tHands d → (decide ((↑x : Int) < IntKind.wrap IntKind.i64 ((1 : Int) + Int.tmod (atF d (0 : Int)) (8 : Int))) = true → (0 : Tup [i64T]) ≤ IntKind.wrap IntKind.i64 ((↑x : Int) + (2
  : Int)) ∧ (Ty.wf i64T (atF d (IntKind.wrap IntKind.i64 ((↑x : Int) + (2 : Int)))) → List.length (tA d x) ≤ (1048576 : Nat) ∧ (Ty.wf crewT (Prod.fst (assignF (tPace d, tA d x) (↑x : Int) (IntKind.wrap IntKind.i64 ((100
  : Int) + (↑x : Int)), IntKind.wrap IntKind.i64 ((1 : Int) + IntKind.wrap IntKind.i64 (atF d (IntKind.wrap IntKind.i64 ((↑x : Int) + (2 : Int))) * (5 : Int)))))) ∧ Ty.wf Ty.bool (Prod.snd (assignF (tPace d, tA d x) (↑x
  : Int) (IntKind.wrap IntKind.i64 ((100 : Int) + (↑x : Int)), IntKind.wrap IntKind.i64 ((1 : Int) + IntKind.wrap IntKind.i64 (atF d (IntKind.wrap IntKind.i64 ((↑x : Int) + (2 : Int))) * (5 : Int)))))) → ((!Prod.snd
  (assignF (tPace d, tA d x) (↑x : Int) (IntKind.wrap IntKind.i64 ((100 : Int) + (↑x : Int)), IntKind.wrap IntKind.i64 ((1 : Int) + IntKind.wrap IntKind.i64 (atF d (IntKind.wrap IntKind.i64 ((↑x : Int) + (2 : Int))) * (5
  : Int)))))) = true → false = true) ∧ ((!Prod.snd (assignF (tPace d, tA d x) (↑x : Int) (IntKind.wrap IntKind.i64 ((100 : Int) + (↑x : Int)), IntKind.wrap IntKind.i64 ((1 : Int) + IntKind.wrap IntKind.i64 (atF d
  (IntKind.wrap IntKind.i64 ((↑x : Int) + (2 : Int))) * (5 : Int)))))) = false → IntKind.wrap IntKind.i64 ((1 : Int) + atF d (1 : Int)) ≠ (0 : Int) ∧ (List.length (tDues d x) + List.length [IntKind.wrap IntKind.i64
  (Int.tdiv (IntKind.wrap IntKind.i64 (IntKind.wrap IntKind.i64 (IntKind.wrap IntKind.i64 ((1 : Int) + IntKind.wrap IntKind.i64 (atF d (IntKind.wrap IntKind.i64 ((↑x : Int) + (2 : Int))) * (5 : Int))) + IntKind.wrap
  IntKind.i64 ((1 : Int) + atF d (1 : Int))) - (1 : Int))) (IntKind.wrap IntKind.i64 ((1 : Int) + atF d (1 : Int))))]) * (8 : Nat) ≤ (140737488355328 : Nat) ∧ ((0 : Int) ≤ (↑x : Int) ∧ (↑x : Int) < (↑(List.length (tDues
  d x ++ [IntKind.wrap IntKind.i64 (Int.tdiv (IntKind.wrap IntKind.i64 (IntKind.wrap IntKind.i64 (IntKind.wrap IntKind.i64 ((1 : Int) + IntKind.wrap IntKind.i64 (atF d (IntKind.wrap IntKind.i64 ((↑x : Int) + (2 : Int)))
  * (5 : Int))) + IntKind.wrap IntKind.i64 ((1 : Int) + atF d (1 : Int))) - (1 : Int))) (IntKind.wrap IntKind.i64 ((1 : Int) + atF d (1 : Int))))])) : Int)) ∧ (decide (tMost d x < List.getD (tDues d x ++ [IntKind.wrap
  IntKind.i64 (Int.tdiv (IntKind.wrap IntKind.i64 (IntKind.wrap IntKind.i64 (IntKind.wrap IntKind.i64 ((1 : Int) + IntKind.wrap IntKind.i64 (atF d (IntKind.wrap IntKind.i64 ((↑x : Int) + (2 : Int))) * (5 : Int))) +
  IntKind.wrap IntKind.i64 ((1 : Int) + atF d (1 : Int))) - (1 : Int))) (IntKind.wrap IntKind.i64 ((1 : Int) + atF d (1 : Int))))]) (Int.toNat (↑x : Int)) (0 : Int)) = true → ((0 : Int) ≤ (↑x : Int) ∧ (↑x : Int) <
  (↑(List.length (tDues d x ++ [IntKind.wrap IntKind.i64 (Int.tdiv (IntKind.wrap IntKind.i64 (IntKind.wrap IntKind.i64 (IntKind.wrap IntKind.i64 ((1 : Int) + IntKind.wrap IntKind.i64 (atF d (IntKind.wrap IntKind.i64 ((↑x
  : Int) + (2 : Int))) * (5 : Int))) + IntKind.wrap IntKind.i64 ((1 : Int) + atF d (1 : Int))) - (1 : Int))) (IntKind.wrap IntKind.i64 ((1 : Int) + atF d (1 : Int))))])) : Int)) ∧ ∃ (x' : Nat), (↑x' : Int) ≤ tHands d ∧
  Int.toNat (tHands d) - x' < Int.toNat (tHands d) - x ∧ (d = d ∧ IntKind.wrap IntKind.i64 ((1 : Int) + Int.tmod (atF d (0 : Int)) (8 : Int)) = IntKind.wrap IntKind.i64 ((1 : Int) + Int.tmod (atF d (0 : Int)) (8 : Int))
  ∧ IntKind.wrap IntKind.i64 ((1 : Int) + atF d (1 : Int)) = IntKind.wrap IntKind.i64 ((1 : Int) + atF d (1 : Int)) ∧ List.getD (tDues d x ++ [IntKind.wrap IntKind.i64 (Int.tdiv (IntKind.wrap IntKind.i64 (IntKind.wrap
  IntKind.i64 (IntKind.wrap IntKind.i64 ((1 : Int) + IntKind.wrap IntKind.i64 (atF d (IntKind.wrap IntKind.i64 ((↑x : Int) + (2 : Int))) * (5 : Int))) + IntKind.wrap IntKind.i64 ((1 : Int) + atF d (1 : Int))) - (1 :
  Int))) (IntKind.wrap IntKind.i64 ((1 : Int) + atF d (1 : Int))))]) (Int.toNat (↑x : Int)) (0 : Int) = tMost d x' ∧ IntKind.wrap IntKind.i64 ((↑x : Int) + (1 : Int)) = (↑x' : Int)) ∧ Prod.snd (Prod.fst (assignF (tPace
  d, tA d x) (↑x : Int) (IntKind.wrap IntKind.i64 ((100 : Int) + (↑x : Int)), IntKind.wrap IntKind.i64 ((1 : Int) + IntKind.wrap IntKind.i64 (atF d (IntKind.wrap IntKind.i64 ((↑x : Int) + (2 : Int))) * (5 : Int)))))) =
  tA d x' ∧ Prod.fst (Prod.fst (assignF (tPace d, tA d x) (↑x : Int) (IntKind.wrap IntKind.i64 ((100 : Int) + (↑x : Int)), IntKind.wrap IntKind.i64 ((1 : Int) + IntKind.wrap IntKind.i64 (atF d (IntKind.wrap IntKind.i64
  ((↑x : Int) + (2 : Int))) * (5 : Int)))))) = tPace d ∧ tDues d x ++ [IntKind.wrap IntKind.i64 (Int.tdiv (IntKind.wrap IntKind.i64 (IntKind.wrap IntKind.i64 (IntKind.wrap IntKind.i64 ((1 : Int) + IntKind.wrap
  IntKind.i64 (atF d (IntKind.wrap IntKind.i64 ((↑x : Int) + (2 : Int))) * (5 : Int))) + IntKind.wrap IntKind.i64 ((1 : Int) + atF d (1 : Int))) - (1 : Int))) (IntKind.wrap IntKind.i64 ((1 : Int) + atF d (1 : Int))))] =
  tDues d x') ∧ (decide (tMost d x < List.getD (tDues d x ++ [IntKind.wrap IntKind.i64 (Int.tdiv (IntKind.wrap IntKind.i64 (IntKind.wrap IntKind.i64 (IntKind.wrap IntKind.i64 ((1 : Int) + IntKind.wrap IntKind.i64 (atF d
  (IntKind.wrap IntKind.i64 ((↑x : Int) + (2 : Int))) * (5 : Int))) + IntKind.wrap IntKind.i64 ((1 : Int) + atF d (1 : Int))) - (1 : Int))) (IntKind.wrap IntKind.i64 ((1 : Int) + atF d (1 : Int))))]) (Int.toNat (↑x :
  Int)) (0 : Int)) = false → ∃ (x' : Nat), (↑x' : Int) ≤ tHands d ∧ Int.toNat (tHands d) - x' < Int.toNat (tHands d) - x ∧ (d = d ∧ IntKind.wrap IntKind.i64 ((1 : Int) + Int.tmod (atF d (0 : Int)) (8 : Int)) =
  IntKind.wrap IntKind.i64 ((1 : Int) + Int.tmod (atF d (0 : Int)) (8 : Int)) ∧ IntKind.wrap IntKind.i64 ((1 : Int) + atF d (1 : Int)) = IntKind.wrap IntKind.i64 ((1 : Int) + atF d (1 : Int)) ∧ tMost d x = tMost d x' ∧
  IntKind.wrap IntKind.i64 ((↑x : Int) + (1 : Int)) = (↑x' : Int)) ∧ Prod.snd (Prod.fst (assignF (tPace d, tA d x) (↑x : Int) (IntKind.wrap IntKind.i64 ((100 : Int) + (↑x : Int)), IntKind.wrap IntKind.i64 ((1 : Int) +
  IntKind.wrap IntKind.i64 (atF d (IntKind.wrap IntKind.i64 ((↑x : Int) + (2 : Int))) * (5 : Int)))))) = tA d x' ∧ Prod.fst (Prod.fst (assignF (tPace d, tA d x) (↑x : Int) (IntKind.wrap IntKind.i64 ((100 : Int) + (↑x :
  Int)), IntKind.wrap IntKind.i64 ((1 : Int) + IntKind.wrap IntKind.i64 (atF d (IntKind.wrap IntKind.i64 ((↑x : Int) + (2 : Int))) * (5 : Int)))))) = tPace d ∧ tDues d x ++ [IntKind.wrap IntKind.i64 (Int.tdiv
  (IntKind.wrap IntKind.i64 (IntKind.wrap IntKind.i64 (IntKind.wrap IntKind.i64 ((1 : Int) + IntKind.wrap IntKind.i64 (atF d (IntKind.wrap IntKind.i64 ((↑x : Int) + (2 : Int))) * (5 : Int))) + IntKind.wrap IntKind.i64
  ((1 : Int) + atF d (1 : Int))) - (1 : Int))) (IntKind.wrap IntKind.i64 ((1 : Int) + atF d (1 : Int))))] = tDues d x'))))) ∧ (decide ((↑x : Int) < IntKind.wrap IntKind.i64 ((1 : Int) + Int.tmod (atF d (0 : Int)) (8 :
  Int))) = false → True ∧ (Ty.wf i64T (idleIdF (tPace d, tA d x)) → ((!decide (idleIdF (tPace d, tA d x) = (-1 : Int))) = true → false = true) ∧ ((!decide (idleIdF (tPace d, tA d x) = (-1 : Int))) = false → True ∧ (Ty.wf
  i64T (ticksF (tPace d, tA d x)) → ((!decide (ticksF (tPace d, tA d x) = tMost d x)) = true → false = true) ∧ ((!decide (ticksF (tPace d, tA d x) = tMost d x)) = false → (↑(0 : Nat) : Int) ≤ tMost d (Int.toNat (tHands
  d)) ∧ ((d = d ∧ IntKind.wrap IntKind.i64 ((1 : Int) + Int.tmod (atF d (0 : Int)) (8 : Int)) = IntKind.wrap IntKind.i64 ((1 : Int) + Int.tmod (atF d (0 : Int)) (8 : Int)) ∧ IntKind.wrap IntKind.i64 ((1 : Int) + atF d (1
  : Int)) = IntKind.wrap IntKind.i64 ((1 : Int) + atF d (1 : Int)) ∧ tMost d x = tMost d x ∧ (0 : Int) = (↑(tTold d (0 : Nat) (Int.toNat (tHands d))) : Int) ∧ (1 : Int) = (↑(0 : Nat) : Int) + (1 : Int)) ∧ tA d x = tT d
  (0 : Nat) ∧ tPace d = tPace d ∧ tDues d x = tDues d x) ∧ ∀ (x_1 : Nat), (↑x_1 : Int) ≤ tMost d (Int.toNat (tHands d)) → (decide ((↑x_1 : Int) + (1 : Int) ≤ tMost d x) = true → List.length (tT d x_1) ≤ (1048576 : Nat) ∧
  (Ty.wf crewT (Prod.fst (tickF (tPace d, tT d x_1))) ∧ Ty.wf (Ty.sl svT) (Prod.snd (tickF (tPace d, tT d x_1))) → (0 : Nat) ≤ List.length (tS d x_1 (Int.toNat (tHands d))) ∧ ((d = d ∧ IntKind.wrap IntKind.i64 ((1 : Int)
  + Int.tmod (atF d (0 : Int)) (8 : Int)) = IntKind.wrap IntKind.i64 ((1 : Int) + Int.tmod (atF d (0 : Int)) (8 : Int)) ∧ IntKind.wrap IntKind.i64 ((1 : Int) + atF d (1 : Int)) = IntKind.wrap IntKind.i64 ((1 : Int) + atF
  d (1 : Int)) ∧ tMost d x = tMost d x ∧ (↑(tTold d x_1 (Int.toNat (tHands d))) : Int) = (↑(tTold d x_1 (Int.toNat (tHands d))) : Int) + (↑(0 : Nat) : Int) ∧ (↑x_1 : Int) + (1 : Int) = (↑x_1 : Int) + (1 : Int) ∧ (0 :
  Int) = (↑(0 : Nat) : Int)) ∧ tT d x_1 = tT d x_1 ∧ Prod.fst (Prod.fst (tickF (tPace d, tT d x_1))) = Prod.fst (Prod.fst (tickF (tPace d, tT d x_1))) ∧ tDues d x = tDues d x ∧ Prod.snd (Prod.fst (tickF (tPace d, tT d
  x_1))) = Prod.snd (Prod.fst (tickF (tPace d, tT d x_1))) ∧ Prod.snd (tickF (tPace d, tT d x_1)) = Prod.snd (tickF (tPace d, tT d x_1)) ∧ Prod.fst (Prod.fst (tickF (tPace d, tT d x_1))) = Prod.fst (Prod.fst (tickF
  (tPace d, tT d x_1)))) ∧ ∀ (x_2 : Nat), x_2 ≤ List.length (tS d x_1 (Int.toNat (tHands d))) → (decide ((↑x_2 : Int) < (↑(List.length (Prod.snd (tickF (tPace d, tT d x_1)))) : Int)) = true → ((0 : Int) ≤ (↑x_2 : Int) ∧
  (↑x_2 : Int) < (↑(List.length (Prod.snd (tickF (tPace d, tT d x_1)))) : Int)) ∧ (decide (Prod.fst (List.getD (Prod.snd (tickF (tPace d, tT d x_1))) (Int.toNat (↑x_2 : Int)) ((0 : Int), (0 : Int), (0 : Int))) < (0 :
  Int)) = true → false = true) ∧ (decide (Prod.fst (List.getD (Prod.snd (tickF (tPace d, tT d x_1))) (Int.toNat (↑x_2 : Int)) ((0 : Int), (0 : Int), (0 : Int))) < (0 : Int)) = false → (decide (IntKind.wrap IntKind.i64
  ((1 : Int) + Int.tmod (atF d (0 : Int)) (8 : Int)) ≤ Prod.fst (List.getD (Prod.snd (tickF (tPace d, tT d x_1))) (Int.toNat (↑x_2 : Int)) ((0 : Int), (0 : Int), (0 : Int)))) = true → false = true) ∧ (decide
  (IntKind.wrap IntKind.i64 ((1 : Int) + Int.tmod (atF d (0 : Int)) (8 : Int)) ≤ Prod.fst (List.getD (Prod.snd (tickF (tPace d, tT d x_1))) (Int.toNat (↑x_2 : Int)) ((0 : Int), (0 : Int), (0 : Int)))) = false → ((0 :
  Int) ≤ Prod.fst (List.getD (Prod.snd (tickF (tPace d, tT d x_1))) (Int.toNat (↑x_2 : Int)) ((0 : Int), (0 : Int), (0 : Int))) ∧ Prod.fst (List.getD (Prod.snd (tickF (tPace d, tT d x_1))) (Int.toNat (↑x_2 : Int)) ((0 :
  Int), (0 : Int), (0 : Int))) < (↑(List.length (tDues d x)) : Int)) ∧ ((!decide (List.getD (tDues d x) (Int.toNat (Prod.fst (List.getD (Prod.snd (tickF (tPace d, tT d x_1))) (Int.toNat (↑x_2 : Int)) ((0 : Int), (0 :
  Int), (0 : Int))))) (0 : Int) = (↑x_1 : Int) + (1 : Int))) = true → false = true) ∧ ((!decide (List.getD (tDues d x) (Int.toNat (Prod.fst (List.getD (Prod.snd (tickF (tPace d, tT d x_1))) (Int.toNat (↑x_2 : Int)) ((0 :
  Int), (0 : Int), (0 : Int))))) (0 : Int) = (↑x_1 : Int) + (1 : Int))) = false → ((0 : Int) ≤ (↑x_2 : Int) ∧ (↑x_2 : Int) < (↑(List.length (Prod.snd (tickF (tPace d, tT d x_1)))) : Int)) ∧ ((!decide (Prod.fst (Prod.snd
  (List.getD (Prod.snd (tickF (tPace d, tT d x_1))) (Int.toNat (↑x_2 : Int)) ((0 : Int), (0 : Int), (0 : Int)))) = IntKind.wrap IntKind.i64 ((100 : Int) + Prod.fst (List.getD (Prod.snd (tickF (tPace d, tT d x_1)))
  (Int.toNat (↑x_2 : Int)) ((0 : Int), (0 : Int), (0 : Int)))))) = true → false = true) ∧ ((!decide (Prod.fst (Prod.snd (List.getD (Prod.snd (tickF (tPace d, tT d x_1))) (Int.toNat (↑x_2 : Int)) ((0 : Int), (0 : Int), (0
  : Int)))) = IntKind.wrap IntKind.i64 ((100 : Int) + Prod.fst (List.getD (Prod.snd (tickF (tPace d, tT d x_1))) (Int.toNat (↑x_2 : Int)) ((0 : Int), (0 : Int), (0 : Int)))))) = false → (decide ((0 : Int) < (↑x_2 : Int))
  = true → ((0 : Int) ≤ IntKind.wrap IntKind.i64 ((↑x_2 : Int) - (1 : Int)) ∧ IntKind.wrap IntKind.i64 ((↑x_2 : Int) - (1 : Int)) < (↑(List.length (Prod.snd (tickF (tPace d, tT d x_1)))) : Int)) ∧ (decide (Prod.fst
  (List.getD (Prod.snd (tickF (tPace d, tT d x_1))) (Int.toNat (↑x_2 : Int)) ((0 : Int), (0 : Int), (0 : Int))) ≤ Prod.fst (List.getD (Prod.snd (tickF (tPace d, tT d x_1))) (Int.toNat (IntKind.wrap IntKind.i64 ((↑x_2 :
  Int) - (1 : Int)))) ((0 : Int), (0 : Int), (0 : Int)))) = true → false = true) ∧ (decide (Prod.fst (List.getD (Prod.snd (tickF (tPace d, tT d x_1))) (Int.toNat (↑x_2 : Int)) ((0 : Int), (0 : Int), (0 : Int))) ≤
  Prod.fst (List.getD (Prod.snd (tickF (tPace d, tT d x_1))) (Int.toNat (IntKind.wrap IntKind.i64 ((↑x_2 : Int) - (1 : Int)))) ((0 : Int), (0 : Int), (0 : Int)))) = false → ∃ (x' : Nat), x' ≤ List.length (tS d x_1
  (Int.toNat (tHands d))) ∧ List.length (tS d x_1 (Int.toNat (tHands d))) - x' < List.length (tS d x_1 (Int.toNat (tHands d))) - x_2 ∧ (d = d ∧ IntKind.wrap IntKind.i64 ((1 : Int) + Int.tmod (atF d (0 : Int)) (8 : Int))
  = IntKind.wrap IntKind.i64 ((1 : Int) + Int.tmod (atF d (0 : Int)) (8 : Int)) ∧ IntKind.wrap IntKind.i64 ((1 : Int) + atF d (1 : Int)) = IntKind.wrap IntKind.i64 ((1 : Int) + atF d (1 : Int)) ∧ tMost d x = tMost d x ∧
  IntKind.wrap IntKind.i64 ((↑(tTold d x_1 (Int.toNat (tHands d))) : Int) + (↑x_2 : Int) + (1 : Int)) = (↑(tTold d x_1 (Int.toNat (tHands d))) : Int) + (↑x' : Int) ∧ (↑x_1 : Int) + (1 : Int) = (↑x_1 : Int) + (1 : Int) ∧
  IntKind.wrap IntKind.i64 ((↑x_2 : Int) + (1 : Int)) = (↑x' : Int)) ∧ tT d x_1 = tT d x_1 ∧ Prod.fst (Prod.fst (tickF (tPace d, tT d x_1))) = Prod.fst (Prod.fst (tickF (tPace d, tT d x_1))) ∧ tDues d x = tDues d x ∧
  Prod.snd (Prod.fst (tickF (tPace d, tT d x_1))) = Prod.snd (Prod.fst (tickF (tPace d, tT d x_1))) ∧ Prod.snd (tickF (tPace d, tT d x_1)) = Prod.snd (tickF (tPace d, tT d x_1)) ∧ Prod.fst (Prod.fst (tickF (tPace d, tT d
  x_1))) = Prod.fst (Prod.fst (tickF (tPace d, tT d x_1))))) ∧ (decide ((0 : Int) < (↑x_2 : Int)) = false → ∃ (x' : Nat), x' ≤ List.length (tS d x_1 (Int.toNat (tHands d))) ∧ List.length (tS d x_1 (Int.toNat (tHands d)))
  - x' < List.length (tS d x_1 (Int.toNat (tHands d))) - x_2 ∧ (d = d ∧ IntKind.wrap IntKind.i64 ((1 : Int) + Int.tmod (atF d (0 : Int)) (8 : Int)) = IntKind.wrap IntKind.i64 ((1 : Int) + Int.tmod (atF d (0 : Int)) (8 :
  Int)) ∧ IntKind.wrap IntKind.i64 ((1 : Int) + atF d (1 : Int)) = IntKind.wrap IntKind.i64 ((1 : Int) + atF d (1 : Int)) ∧ tMost d x = tMost d x ∧ IntKind.wrap IntKind.i64 ((↑(tTold d x_1 (Int.toNat (tHands d))) : Int)
  + (↑x_2 : Int) + (1 : Int)) = (↑(tTold d x_1 (Int.toNat (tHands d))) : Int) + (↑x' : Int) ∧ (↑x_1 : Int) + (1 : Int) = (↑x_1 : Int) + (1 : Int) ∧ IntKind.wrap IntKind.i64 ((↑x_2 : Int) + (1 : Int)) = (↑x' : Int)) ∧ tT
  d x_1 = tT d x_1 ∧ Prod.fst (Prod.fst (tickF (tPace d, tT d x_1))) = Prod.fst (Prod.fst (tickF (tPace d, tT d x_1))) ∧ tDues d x = tDues d x ∧ Prod.snd (Prod.fst (tickF (tPace d, tT d x_1))) = Prod.snd (Prod.fst (tickF
  (tPace d, tT d x_1))) ∧ Prod.snd (tickF (tPace d, tT d x_1)) = Prod.snd (tickF (tPace d, tT d x_1)) ∧ Prod.fst (Prod.fst (tickF (tPace d, tT d x_1))) = Prod.fst (Prod.fst (tickF (tPace d, tT d x_1))))))))) ∧ (decide
  ((↑x_2 : Int) < (↑(List.length (Prod.snd (tickF (tPace d, tT d x_1)))) : Int)) = false → ∃ (x' : Nat), (↑x' : Int) ≤ tMost d (Int.toNat (tHands d)) ∧ Int.toNat (tMost d (Int.toNat (tHands d))) - x' < Int.toNat (tMost d
  (Int.toNat (tHands d))) - x_1 ∧ (d = d ∧ IntKind.wrap IntKind.i64 ((1 : Int) + Int.tmod (atF d (0 : Int)) (8 : Int)) = IntKind.wrap IntKind.i64 ((1 : Int) + Int.tmod (atF d (0 : Int)) (8 : Int)) ∧ IntKind.wrap
  IntKind.i64 ((1 : Int) + atF d (1 : Int)) = IntKind.wrap IntKind.i64 ((1 : Int) + atF d (1 : Int)) ∧ tMost d x = tMost d x ∧ (↑(tTold d x_1 (Int.toNat (tHands d))) : Int) + (↑x_2 : Int) = (↑(tTold d x' (Int.toNat
  (tHands d))) : Int) ∧ IntKind.wrap IntKind.i64 ((↑x_1 : Int) + (1 : Int) + (1 : Int)) = (↑x' : Int) + (1 : Int)) ∧ Prod.snd (Prod.fst (tickF (tPace d, tT d x_1))) = tT d x' ∧ Prod.fst (Prod.fst (tickF (tPace d, tT d
  x_1))) = tPace d ∧ tDues d x = tDues d x))) ∧ (decide ((↑x_1 : Int) + (1 : Int) ≤ tMost d x) = false → (decide ((↑(tTold d x_1 (Int.toNat (tHands d))) : Int) = IntKind.wrap IntKind.i64 ((1 : Int) + Int.tmod (atF d (0 :
  Int)) (8 : Int))) = true → True ∧ (Ty.wf i64T (busyF (tPace d, tT d x_1)) → decide (busyF (tPace d, tT d x_1) = (0 : Int)) = true)) ∧ (decide ((↑(tTold d x_1 (Int.toNat (tHands d))) : Int) = IntKind.wrap IntKind.i64
  ((1 : Int) + Int.tmod (atF d (0 : Int)) (8 : Int))) = false → false = true)))))))))))) := by
  intro (c : List Int) hw _
  simp only [Int.toNat_natCast, exists_const, and_true, true_and, implies_true, decide_eq_true_eq, decide_eq_false_iff_not, Bool.not_eq_true', Bool.not_eq_false', beq_iff_eq, forall_const]
  intro hbig
  have hb : c.length ≤ 1048576 := by
    have := of_decide_eq_false hbig
    omega
  have hh := t_hands hw hb
  have hp := t_pace hw hb
  simp only [t_wrapH hw hb, t_wrapP hw hb, t_new hw hb]
  refine ⟨Int.le_refl 0, fun _ => ⟨by decide, by decide, fun _ _ => ⟨fun h => absurd h (by simp), fun _ => ⟨by simp; omega, ⟨⟨rfl, rfl⟩, trivial, trivial, rfl⟩, ?_⟩⟩⟩⟩
  intro x hx
  have e1 : IntKind.i64.wrap ((x : Int) + 2) = (x : Int) + 2 := wrap_small (by omega)
  have e2 : IntKind.i64.wrap (100 + (x : Int)) = 100 + (x : Int) := wrap_small (by omega)
  have e3 : IntKind.i64.wrap ((x : Int) + 1) = (x : Int) + 1 := wrap_small (by omega)
  simp only [t_wrapC hw hb (x := x) (by omega), t_wrapD hw hb (x := x) (by omega), e1, e2, e3, tD_snoc hw hb, tA_len hw hb, tD_len hw hb, tD_get hw hb (k := x + 1) (i := x) (by omega), List.length_cons, List.length_nil, List.length_append, tD_len hw hb]
  refine ⟨fun hlt => ?_, fun hge => ?_⟩
  · rw [t_assign hw hb hlt]
    have hm : tMost c (x + 1) = if tMost c x < tDue c x then tDue c x else tMost c x := rfl
    refine ⟨show (0 : Int) ≤ (x : Int) + 2 by omega, fun _ => ⟨by omega, fun _ => ⟨fun h => absurd h (by simp), fun _ => ⟨by omega, by omega, by omega, fun h => ⟨by omega, x + 1, by omega, by omega, ⟨?_, by omega⟩, rfl, rfl, rfl⟩, fun h => ⟨x + 1, by omega, by omega, ⟨?_, by omega⟩, rfl, rfl, rfl⟩⟩⟩⟩⟩
    · rw [hm, if_pos h]
    · rw [hm, if_neg h]
  · have hk : tHands c = (x : Int) := by omega
    have hN : (tHands c).toNat = x := by omega
    have hmx := t_most hw hb x (by omega)
    simp only [t_idleId hw hb (k := x) (by omega), t_ticks hw hb hk, hN]
    refine fun _ => ⟨fun h => absurd trivial h, fun _ _ => ⟨fun h => absurd trivial h, fun _ => ⟨by omega, ⟨⟨by rw [t_told0 hw hb (by omega)]; rfl, by omega⟩, tT_zero hw hb hk⟩, ?_⟩⟩⟩
    intro m hm
    have hto := t_told_le hw hb (m := m) (h := x)
    refine ⟨fun hlt => ?_, fun hge => ?_⟩
    · rw [t_tick hw hb m, hN]
      refine ⟨by rw [tT_len hw hb]; omega, fun _ => ⟨Nat.zero_le _, ⟨by omega, by omega⟩, ?_⟩⟩
      intro j hj
      have hts := t_told hw hb m x
      have hto2 := t_told_le hw hb (m := m + 1) (h := x)
      refine ⟨fun hjl => ?_, fun hjg => ?_⟩
      · dsimp only at hjl ⊢
        obtain ⟨i, hi, hd, he⟩ := tS_get hw hb (m := m) (h := x) (j := j) (by omega)
        rw [he]
        dsimp only
        have g1 : (tDues c x).getD (i : Int).toNat 0 = (m : Int) + 1 := by rw [Int.toNat_natCast, tD_get hw hb hi]; exact hd
        have g2 : IntKind.i64.wrap (100 + (i : Int)) = 100 + (i : Int) := wrap_small (by omega)
        have g3 : IntKind.i64.wrap ((j : Int) - 1) = (j : Int) - 1 := wrap_small (by omega)
        have g4 : IntKind.i64.wrap ((j : Int) + 1) = (j : Int) + 1 := wrap_small (by omega)
        have g5 : IntKind.i64.wrap ((tTold c m x : Int) + (j : Int) + 1) = (tTold c m x : Int) + (j : Int) + 1 := wrap_small (by omega)
        rw [g1, g2, g3, g4, g5]
        have hex : ∃ x' : Nat, x' ≤ (tS c m x).length ∧ (tS c m x).length - x' < (tS c m x).length - j ∧ (tTold c m x : Int) + (j : Int) + 1 = (tTold c m x : Int) + (x' : Int) ∧ (j : Int) + 1 = (x' : Int) := ⟨j + 1, by omega, by omega, by omega, by omega⟩
        refine ⟨by omega, by omega, fun _ => ⟨by omega, fun _ => ⟨by omega, by omega, fun _ => ⟨by omega, fun h => absurd rfl h, fun _ => ⟨fun h0 => ⟨by omega, ?_, fun _ => hex⟩, fun _ => hex⟩⟩⟩⟩⟩
        have hlt' := tS_lt hw hb (m := m) (h := x) (j := j) (by omega) (by omega)
        rw [he] at hlt'
        rw [show ((j : Int) - 1).toNat = j - 1 by omega]
        dsimp only at hlt'
        omega
      · dsimp only at hjg ⊢
        refine ⟨m + 1, by omega, by omega, ⟨by omega, ?_⟩, rfl, rfl⟩
        rw [wrap_small (by omega)]; omega
    · have ht := t_toldAll hw hb (m := m) (h := x) (by omega) (by omega)
      refine ⟨fun _ _ => t_busy hw hb (by rw [hN]; omega), fun h => absurd (by omega) h⟩
end Go.SF
