/- What is owed of the law's code: FnExactStartTurner. No condition. -/
import Derived.Test.YtmnndbfmeppaeaaSxPPlan2
namespace Go.SF
open Go.SX Go
set_option linter.unusedVariables false
set_option linter.unusedSimpArgs false
set_option maxRecDepth 10000
theorem start_len (p : Pl) (v : List Int) : (startF p v).1.1.2.2.length ≤ p.2.2.length ∧ (startF p v).1.2.1.length ≤ v.length := by
  unfold startF
  split
  · refine ⟨Nat.le_refl _, ?_⟩
    show (permF v).length ≤ v.length
    unfold permF
    split
    · rw [perm_len]; exact Nat.le_refl _
    · simp
  · exact ⟨by simp, by simp⟩
theorem held_tn {a b n : Int} {xs : List Sp} {v : List Int} (h : xs.length ≤ 1048576) (h1 : v.length ≤ 1048576) : heldTn ((a, b, mark3 xs 1), mark1 v (end3 xs 1), n) 1 = end1 v (end3 xs 1) ∧ 0 ≤ end1 v (end3 xs 1) := by
  have e1 := end3_small xs (k := 1) (by omega) (by omega)
  have e2 := end1_small v (k := end3 xs 1) (by omega) (by omega)
  have n1 : neg1 (end3 xs 1) = end3 xs 1 := by unfold neg1; rw [if_neg (by omega)]
  have n2 : neg1 (end1 v (end3 xs 1)) = end1 v (end3 xs 1) := by unfold neg1; rw [if_neg (by omega)]
  unfold heldTn
  simp only [held3_mark, n1, held1_mark, n2]
  rw [if_neg (by omega)]
  exact ⟨rfl, by omega⟩
theorem v_FnExactStartTurner :
  ∀ (d : (Int × Int × List (Int × Int × Int)) × List Int), Ty.wf planT (Prod.fst d) ∧ Ty.wf listT (Prod.snd d) → True → (decide ((1048576 : Int) < (↑(List.length (Prod.snd d)) : Int)) = true → true = true) ∧ (decide
  ((1048576 : Int) < (↑(List.length (Prod.snd d)) : Int)) = false → True ∧ (Ty.wf i64T (szF (List.length (Prod.snd (Prod.snd (Prod.fst d)))) (1048576 : Int)) → (decide (szF (List.length (Prod.snd (Prod.snd (Prod.fst
  d)))) (1048576 : Int) < (0 : Int)) = true → true = true) ∧ (decide (szF (List.length (Prod.snd (Prod.snd (Prod.fst d)))) (1048576 : Int) < (0 : Int)) = false → List.length (Prod.snd (Prod.snd (Prod.fst d))) ≤ (1048576
  : Nat) ∧ (Ty.wf planT (Prod.fst (Prod.fst d), Prod.fst (Prod.snd (Prod.fst d)), Prod.snd (Prod.snd (Prod.fst d))) → List.length (Prod.snd d) ≤ (1048576 : Nat) ∧ (Ty.wf listT (Prod.snd d) → List.length (Prod.snd
  (Prod.snd (Prod.fst d))) ≤ (1048576 : Nat) ∧ (Ty.wf turnT (Prod.fst (startF (Prod.fst (Prod.fst d), Prod.fst (Prod.snd (Prod.fst d)), Prod.snd (Prod.snd (Prod.fst d))) (Prod.snd d))) ∧ Ty.wf Ty.bool (Prod.snd (startF
  (Prod.fst (Prod.fst d), Prod.fst (Prod.snd (Prod.fst d)), Prod.snd (Prod.snd (Prod.fst d))) (Prod.snd d))) → List.length (Prod.snd (Prod.snd (Prod.fst d))) ≤ (1048576 : Nat) ∧ (Ty.wf planT (Prod.fst (Prod.fst d),
  Prod.fst (Prod.snd (Prod.fst d)), Prod.snd (Prod.snd (Prod.fst d))) → List.length (Prod.snd d) ≤ (1048576 : Nat) ∧ (Ty.wf listT (Prod.snd d) → (List.length (Prod.snd (Prod.snd (Prod.fst d))) ≤ (1048576 : Nat) ∧
  List.length (Prod.snd d) ≤ (1048576 : Nat)) ∧ (Ty.wf turnT (Prod.fst (startF (Prod.fst (Prod.fst d), Prod.fst (Prod.snd (Prod.fst d)), Prod.snd (Prod.snd (Prod.fst d))) (Prod.snd d))) ∧ Ty.wf Ty.bool (Prod.snd (startF
  (Prod.fst (Prod.fst d), Prod.fst (Prod.snd (Prod.fst d)), Prod.snd (Prod.snd (Prod.fst d))) (Prod.snd d))) → True ∧ ((!decide (((Prod.fst (Prod.fst (Prod.fst (startF (Prod.fst (Prod.fst d), Prod.fst (Prod.snd (Prod.fst
  d)), Prod.snd (Prod.snd (Prod.fst d))) (Prod.snd d)))), Prod.fst (Prod.snd (Prod.fst (Prod.fst (startF (Prod.fst (Prod.fst d), Prod.fst (Prod.snd (Prod.fst d)), Prod.snd (Prod.snd (Prod.fst d))) (Prod.snd d))))),
  Prod.snd (Prod.snd (Prod.fst (Prod.fst (startF (Prod.fst (Prod.fst d), Prod.fst (Prod.snd (Prod.fst d)), Prod.snd (Prod.snd (Prod.fst d))) (Prod.snd d)))))), Prod.fst (Prod.snd (Prod.fst (startF (Prod.fst (Prod.fst d),
  Prod.fst (Prod.snd (Prod.fst d)), Prod.snd (Prod.snd (Prod.fst d))) (Prod.snd d)))), Prod.snd (Prod.snd (Prod.fst (startF (Prod.fst (Prod.fst d), Prod.fst (Prod.snd (Prod.fst d)), Prod.snd (Prod.snd (Prod.fst d)))
  (Prod.snd d))))) = ((Prod.fst (Prod.fst (Prod.fst (startF (Prod.fst (Prod.fst d), Prod.fst (Prod.snd (Prod.fst d)), Prod.snd (Prod.snd (Prod.fst d))) (Prod.snd d)))), Prod.fst (Prod.snd (Prod.fst (Prod.fst (startF
  (Prod.fst (Prod.fst d), Prod.fst (Prod.snd (Prod.fst d)), Prod.snd (Prod.snd (Prod.fst d))) (Prod.snd d))))), Prod.snd (Prod.snd (Prod.fst (Prod.fst (startF (Prod.fst (Prod.fst d), Prod.fst (Prod.snd (Prod.fst d)),
  Prod.snd (Prod.snd (Prod.fst d))) (Prod.snd d)))))), Prod.fst (Prod.snd (Prod.fst (startF (Prod.fst (Prod.fst d), Prod.fst (Prod.snd (Prod.fst d)), Prod.snd (Prod.snd (Prod.fst d))) (Prod.snd d)))), Prod.snd (Prod.snd
  (Prod.fst (startF (Prod.fst (Prod.fst d), Prod.fst (Prod.snd (Prod.fst d)), Prod.snd (Prod.snd (Prod.fst d))) (Prod.snd d))))))) = true → false = true) ∧ ((!decide (((Prod.fst (Prod.fst (Prod.fst (startF (Prod.fst
  (Prod.fst d), Prod.fst (Prod.snd (Prod.fst d)), Prod.snd (Prod.snd (Prod.fst d))) (Prod.snd d)))), Prod.fst (Prod.snd (Prod.fst (Prod.fst (startF (Prod.fst (Prod.fst d), Prod.fst (Prod.snd (Prod.fst d)), Prod.snd
  (Prod.snd (Prod.fst d))) (Prod.snd d))))), Prod.snd (Prod.snd (Prod.fst (Prod.fst (startF (Prod.fst (Prod.fst d), Prod.fst (Prod.snd (Prod.fst d)), Prod.snd (Prod.snd (Prod.fst d))) (Prod.snd d)))))), Prod.fst
  (Prod.snd (Prod.fst (startF (Prod.fst (Prod.fst d), Prod.fst (Prod.snd (Prod.fst d)), Prod.snd (Prod.snd (Prod.fst d))) (Prod.snd d)))), Prod.snd (Prod.snd (Prod.fst (startF (Prod.fst (Prod.fst d), Prod.fst (Prod.snd
  (Prod.fst d)), Prod.snd (Prod.snd (Prod.fst d))) (Prod.snd d))))) = ((Prod.fst (Prod.fst (Prod.fst (startF (Prod.fst (Prod.fst d), Prod.fst (Prod.snd (Prod.fst d)), Prod.snd (Prod.snd (Prod.fst d))) (Prod.snd d)))),
  Prod.fst (Prod.snd (Prod.fst (Prod.fst (startF (Prod.fst (Prod.fst d), Prod.fst (Prod.snd (Prod.fst d)), Prod.snd (Prod.snd (Prod.fst d))) (Prod.snd d))))), Prod.snd (Prod.snd (Prod.fst (Prod.fst (startF (Prod.fst
  (Prod.fst d), Prod.fst (Prod.snd (Prod.fst d)), Prod.snd (Prod.snd (Prod.fst d))) (Prod.snd d)))))), Prod.fst (Prod.snd (Prod.fst (startF (Prod.fst (Prod.fst d), Prod.fst (Prod.snd (Prod.fst d)), Prod.snd (Prod.snd
  (Prod.fst d))) (Prod.snd d)))), Prod.snd (Prod.snd (Prod.fst (startF (Prod.fst (Prod.fst d), Prod.fst (Prod.snd (Prod.fst d)), Prod.snd (Prod.snd (Prod.fst d))) (Prod.snd d))))))) = false → ((!Prod.snd (startF
  (Prod.fst (Prod.fst d), Prod.fst (Prod.snd (Prod.fst d)), Prod.snd (Prod.snd (Prod.fst d))) (Prod.snd d)) == Prod.snd (startF (Prod.fst (Prod.fst d), Prod.fst (Prod.snd (Prod.fst d)), Prod.snd (Prod.snd (Prod.fst d)))
  (Prod.snd d))) = true → false = true) ∧ ((!Prod.snd (startF (Prod.fst (Prod.fst d), Prod.fst (Prod.snd (Prod.fst d)), Prod.snd (Prod.snd (Prod.fst d))) (Prod.snd d)) == Prod.snd (startF (Prod.fst (Prod.fst d), Prod.fst
  (Prod.snd (Prod.fst d)), Prod.snd (Prod.snd (Prod.fst d))) (Prod.snd d))) = false → List.length (Prod.snd (Prod.snd (Prod.fst d))) ≤ (1048576 : Nat) ∧ True ∧ (Ty.wf planT (Prod.fst (Prod.fst d), Prod.fst (Prod.snd
  (Prod.fst d)), Prod.snd (Prod.snd (Prod.fst d))) → ((!decide ((Prod.fst (Prod.fst d), Prod.fst (Prod.snd (Prod.fst d)), Prod.snd (Prod.snd (Prod.fst d))) = (Prod.fst (Prod.fst d), Prod.fst (Prod.snd (Prod.fst d)),
  Prod.snd (Prod.snd (Prod.fst d))))) = true → false = true) ∧ ((!decide ((Prod.fst (Prod.fst d), Prod.fst (Prod.snd (Prod.fst d)), Prod.snd (Prod.snd (Prod.fst d))) = (Prod.fst (Prod.fst d), Prod.fst (Prod.snd (Prod.fst
  d)), Prod.snd (Prod.snd (Prod.fst d))))) = false → List.length (Prod.snd d) ≤ (1048576 : Nat) ∧ (Ty.wf listT (Prod.snd d) → True ∧ ((!decide (Prod.snd d = Prod.snd d)) = true → false = true) ∧ ((!decide (Prod.snd d =
  Prod.snd d)) = false → True ∧ True ∧ (decide (end1 (Prod.snd d) (end3 (Prod.snd (Prod.snd (Prod.fst d))) (1 : Int)) < (0 : Int)) = true → false = true) ∧ (decide (end1 (Prod.snd d) (end3 (Prod.snd (Prod.snd (Prod.fst
  d))) (1 : Int)) < (0 : Int)) = false → True ∧ ((!decide (((Prod.fst (Prod.fst (Prod.fst (startF (Prod.fst (Prod.fst d), Prod.fst (Prod.snd (Prod.fst d)), Prod.snd (Prod.snd (Prod.fst d))) (Prod.snd d)))), Prod.fst
  (Prod.snd (Prod.fst (Prod.fst (startF (Prod.fst (Prod.fst d), Prod.fst (Prod.snd (Prod.fst d)), Prod.snd (Prod.snd (Prod.fst d))) (Prod.snd d))))), Prod.snd (Prod.snd (Prod.fst (Prod.fst (startF (Prod.fst (Prod.fst d),
  Prod.fst (Prod.snd (Prod.fst d)), Prod.snd (Prod.snd (Prod.fst d))) (Prod.snd d)))))), Prod.fst (Prod.snd (Prod.fst (startF (Prod.fst (Prod.fst d), Prod.fst (Prod.snd (Prod.fst d)), Prod.snd (Prod.snd (Prod.fst d)))
  (Prod.snd d)))), Prod.snd (Prod.snd (Prod.fst (startF (Prod.fst (Prod.fst d), Prod.fst (Prod.snd (Prod.fst d)), Prod.snd (Prod.snd (Prod.fst d))) (Prod.snd d))))) = ((Prod.fst (Prod.fst (Prod.fst (startF (Prod.fst
  (Prod.fst d), Prod.fst (Prod.snd (Prod.fst d)), Prod.snd (Prod.snd (Prod.fst d))) (Prod.snd d)))), Prod.fst (Prod.snd (Prod.fst (Prod.fst (startF (Prod.fst (Prod.fst d), Prod.fst (Prod.snd (Prod.fst d)), Prod.snd
  (Prod.snd (Prod.fst d))) (Prod.snd d))))), Prod.snd (Prod.snd (Prod.fst (Prod.fst (startF (Prod.fst (Prod.fst d), Prod.fst (Prod.snd (Prod.fst d)), Prod.snd (Prod.snd (Prod.fst d))) (Prod.snd d)))))), Prod.fst
  (Prod.snd (Prod.fst (startF (Prod.fst (Prod.fst d), Prod.fst (Prod.snd (Prod.fst d)), Prod.snd (Prod.snd (Prod.fst d))) (Prod.snd d)))), Prod.snd (Prod.snd (Prod.fst (startF (Prod.fst (Prod.fst d), Prod.fst (Prod.snd
  (Prod.fst d)), Prod.snd (Prod.snd (Prod.fst d))) (Prod.snd d))))))) = true → false = true) ∧ ((!decide (((Prod.fst (Prod.fst (Prod.fst (startF (Prod.fst (Prod.fst d), Prod.fst (Prod.snd (Prod.fst d)), Prod.snd
  (Prod.snd (Prod.fst d))) (Prod.snd d)))), Prod.fst (Prod.snd (Prod.fst (Prod.fst (startF (Prod.fst (Prod.fst d), Prod.fst (Prod.snd (Prod.fst d)), Prod.snd (Prod.snd (Prod.fst d))) (Prod.snd d))))), Prod.snd (Prod.snd
  (Prod.fst (Prod.fst (startF (Prod.fst (Prod.fst d), Prod.fst (Prod.snd (Prod.fst d)), Prod.snd (Prod.snd (Prod.fst d))) (Prod.snd d)))))), Prod.fst (Prod.snd (Prod.fst (startF (Prod.fst (Prod.fst d), Prod.fst (Prod.snd
  (Prod.fst d)), Prod.snd (Prod.snd (Prod.fst d))) (Prod.snd d)))), Prod.snd (Prod.snd (Prod.fst (startF (Prod.fst (Prod.fst d), Prod.fst (Prod.snd (Prod.fst d)), Prod.snd (Prod.snd (Prod.fst d))) (Prod.snd d))))) =
  ((Prod.fst (Prod.fst (Prod.fst (startF (Prod.fst (Prod.fst d), Prod.fst (Prod.snd (Prod.fst d)), Prod.snd (Prod.snd (Prod.fst d))) (Prod.snd d)))), Prod.fst (Prod.snd (Prod.fst (Prod.fst (startF (Prod.fst (Prod.fst d),
  Prod.fst (Prod.snd (Prod.fst d)), Prod.snd (Prod.snd (Prod.fst d))) (Prod.snd d))))), Prod.snd (Prod.snd (Prod.fst (Prod.fst (startF (Prod.fst (Prod.fst d), Prod.fst (Prod.snd (Prod.fst d)), Prod.snd (Prod.snd
  (Prod.fst d))) (Prod.snd d)))))), Prod.fst (Prod.snd (Prod.fst (startF (Prod.fst (Prod.fst d), Prod.fst (Prod.snd (Prod.fst d)), Prod.snd (Prod.snd (Prod.fst d))) (Prod.snd d)))), Prod.snd (Prod.snd (Prod.fst (startF
  (Prod.fst (Prod.fst d), Prod.fst (Prod.snd (Prod.fst d)), Prod.snd (Prod.snd (Prod.fst d))) (Prod.snd d))))))) = false → ((!Prod.snd (startF (Prod.fst (Prod.fst d), Prod.fst (Prod.snd (Prod.fst d)), Prod.snd (Prod.snd
  (Prod.fst d))) (Prod.snd d)) == Prod.snd (startF (Prod.fst (Prod.fst d), Prod.fst (Prod.snd (Prod.fst d)), Prod.snd (Prod.snd (Prod.fst d))) (Prod.snd d))) = true → false = true) ∧ ((!Prod.snd (startF (Prod.fst
  (Prod.fst d), Prod.fst (Prod.snd (Prod.fst d)), Prod.snd (Prod.snd (Prod.fst d))) (Prod.snd d)) == Prod.snd (startF (Prod.fst (Prod.fst d), Prod.fst (Prod.snd (Prod.fst d)), Prod.snd (Prod.snd (Prod.fst d))) (Prod.snd
  d))) = false → True ∧ True ∧ (Ty.wf i64T (heldTn ((Prod.fst (Prod.fst (Prod.fst (startF (Prod.fst (Prod.fst d), Prod.fst (Prod.snd (Prod.fst d)), Prod.snd (Prod.snd (Prod.fst d))) (Prod.snd d)))), Prod.fst (Prod.snd
  (Prod.fst (Prod.fst (startF (Prod.fst (Prod.fst d), Prod.fst (Prod.snd (Prod.fst d)), Prod.snd (Prod.snd (Prod.fst d))) (Prod.snd d))))), mark3 (Prod.snd (Prod.snd (Prod.fst (Prod.fst (startF (Prod.fst (Prod.fst d),
  Prod.fst (Prod.snd (Prod.fst d)), Prod.snd (Prod.snd (Prod.fst d))) (Prod.snd d)))))) (1 : Int)), mark1 (Prod.fst (Prod.snd (Prod.fst (startF (Prod.fst (Prod.fst d), Prod.fst (Prod.snd (Prod.fst d)), Prod.snd (Prod.snd
  (Prod.fst d))) (Prod.snd d))))) (end3 (Prod.snd (Prod.snd (Prod.fst (Prod.fst (startF (Prod.fst (Prod.fst d), Prod.fst (Prod.snd (Prod.fst d)), Prod.snd (Prod.snd (Prod.fst d))) (Prod.snd d)))))) (1 : Int)), Prod.snd
  (Prod.snd (Prod.fst (startF (Prod.fst (Prod.fst d), Prod.fst (Prod.snd (Prod.fst d)), Prod.snd (Prod.snd (Prod.fst d))) (Prod.snd d))))) (1 : Int)) → (decide (heldTn ((Prod.fst (Prod.fst (Prod.fst (startF (Prod.fst
  (Prod.fst d), Prod.fst (Prod.snd (Prod.fst d)), Prod.snd (Prod.snd (Prod.fst d))) (Prod.snd d)))), Prod.fst (Prod.snd (Prod.fst (Prod.fst (startF (Prod.fst (Prod.fst d), Prod.fst (Prod.snd (Prod.fst d)), Prod.snd
  (Prod.snd (Prod.fst d))) (Prod.snd d))))), mark3 (Prod.snd (Prod.snd (Prod.fst (Prod.fst (startF (Prod.fst (Prod.fst d), Prod.fst (Prod.snd (Prod.fst d)), Prod.snd (Prod.snd (Prod.fst d))) (Prod.snd d)))))) (1 : Int)),
  mark1 (Prod.fst (Prod.snd (Prod.fst (startF (Prod.fst (Prod.fst d), Prod.fst (Prod.snd (Prod.fst d)), Prod.snd (Prod.snd (Prod.fst d))) (Prod.snd d))))) (end3 (Prod.snd (Prod.snd (Prod.fst (Prod.fst (startF (Prod.fst
  (Prod.fst d), Prod.fst (Prod.snd (Prod.fst d)), Prod.snd (Prod.snd (Prod.fst d))) (Prod.snd d)))))) (1 : Int)), Prod.snd (Prod.snd (Prod.fst (startF (Prod.fst (Prod.fst d), Prod.fst (Prod.snd (Prod.fst d)), Prod.snd
  (Prod.snd (Prod.fst d))) (Prod.snd d))))) (1 : Int) < (0 : Int)) = true → false = true) ∧ (decide (heldTn ((Prod.fst (Prod.fst (Prod.fst (startF (Prod.fst (Prod.fst d), Prod.fst (Prod.snd (Prod.fst d)), Prod.snd
  (Prod.snd (Prod.fst d))) (Prod.snd d)))), Prod.fst (Prod.snd (Prod.fst (Prod.fst (startF (Prod.fst (Prod.fst d), Prod.fst (Prod.snd (Prod.fst d)), Prod.snd (Prod.snd (Prod.fst d))) (Prod.snd d))))), mark3 (Prod.snd
  (Prod.snd (Prod.fst (Prod.fst (startF (Prod.fst (Prod.fst d), Prod.fst (Prod.snd (Prod.fst d)), Prod.snd (Prod.snd (Prod.fst d))) (Prod.snd d)))))) (1 : Int)), mark1 (Prod.fst (Prod.snd (Prod.fst (startF (Prod.fst
  (Prod.fst d), Prod.fst (Prod.snd (Prod.fst d)), Prod.snd (Prod.snd (Prod.fst d))) (Prod.snd d))))) (end3 (Prod.snd (Prod.snd (Prod.fst (Prod.fst (startF (Prod.fst (Prod.fst d), Prod.fst (Prod.snd (Prod.fst d)),
  Prod.snd (Prod.snd (Prod.fst d))) (Prod.snd d)))))) (1 : Int)), Prod.snd (Prod.snd (Prod.fst (startF (Prod.fst (Prod.fst d), Prod.fst (Prod.snd (Prod.fst d)), Prod.snd (Prod.snd (Prod.fst d))) (Prod.snd d))))) (1 :
  Int) < (0 : Int)) = false → ((!decide (heldTn ((Prod.fst (Prod.fst (Prod.fst (startF (Prod.fst (Prod.fst d), Prod.fst (Prod.snd (Prod.fst d)), Prod.snd (Prod.snd (Prod.fst d))) (Prod.snd d)))), Prod.fst (Prod.snd
  (Prod.fst (Prod.fst (startF (Prod.fst (Prod.fst d), Prod.fst (Prod.snd (Prod.fst d)), Prod.snd (Prod.snd (Prod.fst d))) (Prod.snd d))))), mark3 (Prod.snd (Prod.snd (Prod.fst (Prod.fst (startF (Prod.fst (Prod.fst d),
  Prod.fst (Prod.snd (Prod.fst d)), Prod.snd (Prod.snd (Prod.fst d))) (Prod.snd d)))))) (1 : Int)), mark1 (Prod.fst (Prod.snd (Prod.fst (startF (Prod.fst (Prod.fst d), Prod.fst (Prod.snd (Prod.fst d)), Prod.snd (Prod.snd
  (Prod.fst d))) (Prod.snd d))))) (end3 (Prod.snd (Prod.snd (Prod.fst (Prod.fst (startF (Prod.fst (Prod.fst d), Prod.fst (Prod.snd (Prod.fst d)), Prod.snd (Prod.snd (Prod.fst d))) (Prod.snd d)))))) (1 : Int)), Prod.snd
  (Prod.snd (Prod.fst (startF (Prod.fst (Prod.fst d), Prod.fst (Prod.snd (Prod.fst d)), Prod.snd (Prod.snd (Prod.fst d))) (Prod.snd d))))) (1 : Int) = end1 (Prod.fst (Prod.snd (Prod.fst (startF (Prod.fst (Prod.fst d),
  Prod.fst (Prod.snd (Prod.fst d)), Prod.snd (Prod.snd (Prod.fst d))) (Prod.snd d))))) (end3 (Prod.snd (Prod.snd (Prod.fst (Prod.fst (startF (Prod.fst (Prod.fst d), Prod.fst (Prod.snd (Prod.fst d)), Prod.snd (Prod.snd
  (Prod.fst d))) (Prod.snd d)))))) (1 : Int)))) = true → false = true) ∧ ((!decide (heldTn ((Prod.fst (Prod.fst (Prod.fst (startF (Prod.fst (Prod.fst d), Prod.fst (Prod.snd (Prod.fst d)), Prod.snd (Prod.snd (Prod.fst
  d))) (Prod.snd d)))), Prod.fst (Prod.snd (Prod.fst (Prod.fst (startF (Prod.fst (Prod.fst d), Prod.fst (Prod.snd (Prod.fst d)), Prod.snd (Prod.snd (Prod.fst d))) (Prod.snd d))))), mark3 (Prod.snd (Prod.snd (Prod.fst
  (Prod.fst (startF (Prod.fst (Prod.fst d), Prod.fst (Prod.snd (Prod.fst d)), Prod.snd (Prod.snd (Prod.fst d))) (Prod.snd d)))))) (1 : Int)), mark1 (Prod.fst (Prod.snd (Prod.fst (startF (Prod.fst (Prod.fst d), Prod.fst
  (Prod.snd (Prod.fst d)), Prod.snd (Prod.snd (Prod.fst d))) (Prod.snd d))))) (end3 (Prod.snd (Prod.snd (Prod.fst (Prod.fst (startF (Prod.fst (Prod.fst d), Prod.fst (Prod.snd (Prod.fst d)), Prod.snd (Prod.snd (Prod.fst
  d))) (Prod.snd d)))))) (1 : Int)), Prod.snd (Prod.snd (Prod.fst (startF (Prod.fst (Prod.fst d), Prod.fst (Prod.snd (Prod.fst d)), Prod.snd (Prod.snd (Prod.fst d))) (Prod.snd d))))) (1 : Int) = end1 (Prod.fst (Prod.snd
  (Prod.fst (startF (Prod.fst (Prod.fst d), Prod.fst (Prod.snd (Prod.fst d)), Prod.snd (Prod.snd (Prod.fst d))) (Prod.snd d))))) (end3 (Prod.snd (Prod.snd (Prod.fst (Prod.fst (startF (Prod.fst (Prod.fst d), Prod.fst
  (Prod.snd (Prod.fst d)), Prod.snd (Prod.snd (Prod.fst d))) (Prod.snd d)))))) (1 : Int)))) = false → List.length (Prod.snd (Prod.snd (Prod.fst d))) ≤ (1048576 : Nat) ∧ (Ty.wf planT (Prod.fst (Prod.fst d), Prod.fst
  (Prod.snd (Prod.fst d)), Prod.snd (Prod.snd (Prod.fst d))) → List.length (Prod.snd d) ≤ (1048576 : Nat) ∧ (Ty.wf listT (Prod.snd d) → (List.length (Prod.snd (Prod.snd (Prod.fst d))) ≤ (1048576 : Nat) ∧ List.length
  (Prod.snd d) ≤ (1048576 : Nat)) ∧ (Ty.wf turnT (Prod.fst (startF (Prod.fst (Prod.fst d), Prod.fst (Prod.snd (Prod.fst d)), Prod.snd (Prod.snd (Prod.fst d))) (Prod.snd d))) ∧ Ty.wf Ty.bool (Prod.snd (startF (Prod.fst
  (Prod.fst d), Prod.fst (Prod.snd (Prod.fst d)), Prod.snd (Prod.snd (Prod.fst d))) (Prod.snd d))) → True ∧ ((!decide (((Prod.fst (Prod.fst (Prod.fst (startF (Prod.fst (Prod.fst d), Prod.fst (Prod.snd (Prod.fst d)),
  Prod.snd (Prod.snd (Prod.fst d))) (Prod.snd d)))), Prod.fst (Prod.snd (Prod.fst (Prod.fst (startF (Prod.fst (Prod.fst d), Prod.fst (Prod.snd (Prod.fst d)), Prod.snd (Prod.snd (Prod.fst d))) (Prod.snd d))))), Prod.snd
  (Prod.snd (Prod.fst (Prod.fst (startF (Prod.fst (Prod.fst d), Prod.fst (Prod.snd (Prod.fst d)), Prod.snd (Prod.snd (Prod.fst d))) (Prod.snd d)))))), Prod.fst (Prod.snd (Prod.fst (startF (Prod.fst (Prod.fst d), Prod.fst
  (Prod.snd (Prod.fst d)), Prod.snd (Prod.snd (Prod.fst d))) (Prod.snd d)))), Prod.snd (Prod.snd (Prod.fst (startF (Prod.fst (Prod.fst d), Prod.fst (Prod.snd (Prod.fst d)), Prod.snd (Prod.snd (Prod.fst d))) (Prod.snd
  d))))) = ((Prod.fst (Prod.fst (Prod.fst (startF (Prod.fst (Prod.fst d), Prod.fst (Prod.snd (Prod.fst d)), Prod.snd (Prod.snd (Prod.fst d))) (Prod.snd d)))), Prod.fst (Prod.snd (Prod.fst (Prod.fst (startF (Prod.fst
  (Prod.fst d), Prod.fst (Prod.snd (Prod.fst d)), Prod.snd (Prod.snd (Prod.fst d))) (Prod.snd d))))), Prod.snd (Prod.snd (Prod.fst (Prod.fst (startF (Prod.fst (Prod.fst d), Prod.fst (Prod.snd (Prod.fst d)), Prod.snd
  (Prod.snd (Prod.fst d))) (Prod.snd d)))))), Prod.fst (Prod.snd (Prod.fst (startF (Prod.fst (Prod.fst d), Prod.fst (Prod.snd (Prod.fst d)), Prod.snd (Prod.snd (Prod.fst d))) (Prod.snd d)))), Prod.snd (Prod.snd (Prod.fst
  (startF (Prod.fst (Prod.fst d), Prod.fst (Prod.snd (Prod.fst d)), Prod.snd (Prod.snd (Prod.fst d))) (Prod.snd d))))))) = true → false = true) ∧ ((!decide (((Prod.fst (Prod.fst (Prod.fst (startF (Prod.fst (Prod.fst d),
  Prod.fst (Prod.snd (Prod.fst d)), Prod.snd (Prod.snd (Prod.fst d))) (Prod.snd d)))), Prod.fst (Prod.snd (Prod.fst (Prod.fst (startF (Prod.fst (Prod.fst d), Prod.fst (Prod.snd (Prod.fst d)), Prod.snd (Prod.snd (Prod.fst
  d))) (Prod.snd d))))), Prod.snd (Prod.snd (Prod.fst (Prod.fst (startF (Prod.fst (Prod.fst d), Prod.fst (Prod.snd (Prod.fst d)), Prod.snd (Prod.snd (Prod.fst d))) (Prod.snd d)))))), Prod.fst (Prod.snd (Prod.fst (startF
  (Prod.fst (Prod.fst d), Prod.fst (Prod.snd (Prod.fst d)), Prod.snd (Prod.snd (Prod.fst d))) (Prod.snd d)))), Prod.snd (Prod.snd (Prod.fst (startF (Prod.fst (Prod.fst d), Prod.fst (Prod.snd (Prod.fst d)), Prod.snd
  (Prod.snd (Prod.fst d))) (Prod.snd d))))) = ((Prod.fst (Prod.fst (Prod.fst (startF (Prod.fst (Prod.fst d), Prod.fst (Prod.snd (Prod.fst d)), Prod.snd (Prod.snd (Prod.fst d))) (Prod.snd d)))), Prod.fst (Prod.snd
  (Prod.fst (Prod.fst (startF (Prod.fst (Prod.fst d), Prod.fst (Prod.snd (Prod.fst d)), Prod.snd (Prod.snd (Prod.fst d))) (Prod.snd d))))), Prod.snd (Prod.snd (Prod.fst (Prod.fst (startF (Prod.fst (Prod.fst d), Prod.fst
  (Prod.snd (Prod.fst d)), Prod.snd (Prod.snd (Prod.fst d))) (Prod.snd d)))))), Prod.fst (Prod.snd (Prod.fst (startF (Prod.fst (Prod.fst d), Prod.fst (Prod.snd (Prod.fst d)), Prod.snd (Prod.snd (Prod.fst d))) (Prod.snd
  d)))), Prod.snd (Prod.snd (Prod.fst (startF (Prod.fst (Prod.fst d), Prod.fst (Prod.snd (Prod.fst d)), Prod.snd (Prod.snd (Prod.fst d))) (Prod.snd d))))))) = false → ((!Prod.snd (startF (Prod.fst (Prod.fst d), Prod.fst
  (Prod.snd (Prod.fst d)), Prod.snd (Prod.snd (Prod.fst d))) (Prod.snd d)) == Prod.snd (startF (Prod.fst (Prod.fst d), Prod.fst (Prod.snd (Prod.fst d)), Prod.snd (Prod.snd (Prod.fst d))) (Prod.snd d))) = true → false =
  true) ∧ ((!Prod.snd (startF (Prod.fst (Prod.fst d), Prod.fst (Prod.snd (Prod.fst d)), Prod.snd (Prod.snd (Prod.fst d))) (Prod.snd d)) == Prod.snd (startF (Prod.fst (Prod.fst d), Prod.fst (Prod.snd (Prod.fst d)),
  Prod.snd (Prod.snd (Prod.fst d))) (Prod.snd d))) = false → True ∧ (Ty.wf i64T (heldTn ((Prod.fst (Prod.fst (Prod.fst (startF (Prod.fst (Prod.fst d), Prod.fst (Prod.snd (Prod.fst d)), Prod.snd (Prod.snd (Prod.fst d)))
  (Prod.snd d)))), Prod.fst (Prod.snd (Prod.fst (Prod.fst (startF (Prod.fst (Prod.fst d), Prod.fst (Prod.snd (Prod.fst d)), Prod.snd (Prod.snd (Prod.fst d))) (Prod.snd d))))), mark3 (Prod.snd (Prod.snd (Prod.fst
  (Prod.fst (startF (Prod.fst (Prod.fst d), Prod.fst (Prod.snd (Prod.fst d)), Prod.snd (Prod.snd (Prod.fst d))) (Prod.snd d)))))) (1 : Int)), mark1 (Prod.fst (Prod.snd (Prod.fst (startF (Prod.fst (Prod.fst d), Prod.fst
  (Prod.snd (Prod.fst d)), Prod.snd (Prod.snd (Prod.fst d))) (Prod.snd d))))) (end3 (Prod.snd (Prod.snd (Prod.fst (Prod.fst (startF (Prod.fst (Prod.fst d), Prod.fst (Prod.snd (Prod.fst d)), Prod.snd (Prod.snd (Prod.fst
  d))) (Prod.snd d)))))) (1 : Int)), Prod.snd (Prod.snd (Prod.fst (startF (Prod.fst (Prod.fst d), Prod.fst (Prod.snd (Prod.fst d)), Prod.snd (Prod.snd (Prod.fst d))) (Prod.snd d))))) (1 : Int)) → (decide (heldTn
  ((Prod.fst (Prod.fst (Prod.fst (startF (Prod.fst (Prod.fst d), Prod.fst (Prod.snd (Prod.fst d)), Prod.snd (Prod.snd (Prod.fst d))) (Prod.snd d)))), Prod.fst (Prod.snd (Prod.fst (Prod.fst (startF (Prod.fst (Prod.fst d),
  Prod.fst (Prod.snd (Prod.fst d)), Prod.snd (Prod.snd (Prod.fst d))) (Prod.snd d))))), mark3 (Prod.snd (Prod.snd (Prod.fst (Prod.fst (startF (Prod.fst (Prod.fst d), Prod.fst (Prod.snd (Prod.fst d)), Prod.snd (Prod.snd
  (Prod.fst d))) (Prod.snd d)))))) (1 : Int)), mark1 (Prod.fst (Prod.snd (Prod.fst (startF (Prod.fst (Prod.fst d), Prod.fst (Prod.snd (Prod.fst d)), Prod.snd (Prod.snd (Prod.fst d))) (Prod.snd d))))) (end3 (Prod.snd
  (Prod.snd (Prod.fst (Prod.fst (startF (Prod.fst (Prod.fst d), Prod.fst (Prod.snd (Prod.fst d)), Prod.snd (Prod.snd (Prod.fst d))) (Prod.snd d)))))) (1 : Int)), Prod.snd (Prod.snd (Prod.fst (startF (Prod.fst (Prod.fst
  d), Prod.fst (Prod.snd (Prod.fst d)), Prod.snd (Prod.snd (Prod.fst d))) (Prod.snd d))))) (1 : Int) < (0 : Int)) = true → false = true) ∧ (decide (heldTn ((Prod.fst (Prod.fst (Prod.fst (startF (Prod.fst (Prod.fst d),
  Prod.fst (Prod.snd (Prod.fst d)), Prod.snd (Prod.snd (Prod.fst d))) (Prod.snd d)))), Prod.fst (Prod.snd (Prod.fst (Prod.fst (startF (Prod.fst (Prod.fst d), Prod.fst (Prod.snd (Prod.fst d)), Prod.snd (Prod.snd (Prod.fst
  d))) (Prod.snd d))))), mark3 (Prod.snd (Prod.snd (Prod.fst (Prod.fst (startF (Prod.fst (Prod.fst d), Prod.fst (Prod.snd (Prod.fst d)), Prod.snd (Prod.snd (Prod.fst d))) (Prod.snd d)))))) (1 : Int)), mark1 (Prod.fst
  (Prod.snd (Prod.fst (startF (Prod.fst (Prod.fst d), Prod.fst (Prod.snd (Prod.fst d)), Prod.snd (Prod.snd (Prod.fst d))) (Prod.snd d))))) (end3 (Prod.snd (Prod.snd (Prod.fst (Prod.fst (startF (Prod.fst (Prod.fst d),
  Prod.fst (Prod.snd (Prod.fst d)), Prod.snd (Prod.snd (Prod.fst d))) (Prod.snd d)))))) (1 : Int)), Prod.snd (Prod.snd (Prod.fst (startF (Prod.fst (Prod.fst d), Prod.fst (Prod.snd (Prod.fst d)), Prod.snd (Prod.snd
  (Prod.fst d))) (Prod.snd d))))) (1 : Int) < (0 : Int)) = false → ((!decide (heldTn ((Prod.fst (Prod.fst (Prod.fst (startF (Prod.fst (Prod.fst d), Prod.fst (Prod.snd (Prod.fst d)), Prod.snd (Prod.snd (Prod.fst d)))
  (Prod.snd d)))), Prod.fst (Prod.snd (Prod.fst (Prod.fst (startF (Prod.fst (Prod.fst d), Prod.fst (Prod.snd (Prod.fst d)), Prod.snd (Prod.snd (Prod.fst d))) (Prod.snd d))))), mark3 (Prod.snd (Prod.snd (Prod.fst
  (Prod.fst (startF (Prod.fst (Prod.fst d), Prod.fst (Prod.snd (Prod.fst d)), Prod.snd (Prod.snd (Prod.fst d))) (Prod.snd d)))))) (1 : Int)), mark1 (Prod.fst (Prod.snd (Prod.fst (startF (Prod.fst (Prod.fst d), Prod.fst
  (Prod.snd (Prod.fst d)), Prod.snd (Prod.snd (Prod.fst d))) (Prod.snd d))))) (end3 (Prod.snd (Prod.snd (Prod.fst (Prod.fst (startF (Prod.fst (Prod.fst d), Prod.fst (Prod.snd (Prod.fst d)), Prod.snd (Prod.snd (Prod.fst
  d))) (Prod.snd d)))))) (1 : Int)), Prod.snd (Prod.snd (Prod.fst (startF (Prod.fst (Prod.fst d), Prod.fst (Prod.snd (Prod.fst d)), Prod.snd (Prod.snd (Prod.fst d))) (Prod.snd d))))) (1 : Int) = end1 (Prod.fst (Prod.snd
  (Prod.fst (startF (Prod.fst (Prod.fst d), Prod.fst (Prod.snd (Prod.fst d)), Prod.snd (Prod.snd (Prod.fst d))) (Prod.snd d))))) (end3 (Prod.snd (Prod.snd (Prod.fst (Prod.fst (startF (Prod.fst (Prod.fst d), Prod.fst
  (Prod.snd (Prod.fst d)), Prod.snd (Prod.snd (Prod.fst d))) (Prod.snd d)))))) (1 : Int)))) = true → false = true) ∧ ((!decide (heldTn ((Prod.fst (Prod.fst (Prod.fst (startF (Prod.fst (Prod.fst d), Prod.fst (Prod.snd
  (Prod.fst d)), Prod.snd (Prod.snd (Prod.fst d))) (Prod.snd d)))), Prod.fst (Prod.snd (Prod.fst (Prod.fst (startF (Prod.fst (Prod.fst d), Prod.fst (Prod.snd (Prod.fst d)), Prod.snd (Prod.snd (Prod.fst d))) (Prod.snd
  d))))), mark3 (Prod.snd (Prod.snd (Prod.fst (Prod.fst (startF (Prod.fst (Prod.fst d), Prod.fst (Prod.snd (Prod.fst d)), Prod.snd (Prod.snd (Prod.fst d))) (Prod.snd d)))))) (1 : Int)), mark1 (Prod.fst (Prod.snd
  (Prod.fst (startF (Prod.fst (Prod.fst d), Prod.fst (Prod.snd (Prod.fst d)), Prod.snd (Prod.snd (Prod.fst d))) (Prod.snd d))))) (end3 (Prod.snd (Prod.snd (Prod.fst (Prod.fst (startF (Prod.fst (Prod.fst d), Prod.fst
  (Prod.snd (Prod.fst d)), Prod.snd (Prod.snd (Prod.fst d))) (Prod.snd d)))))) (1 : Int)), Prod.snd (Prod.snd (Prod.fst (startF (Prod.fst (Prod.fst d), Prod.fst (Prod.snd (Prod.fst d)), Prod.snd (Prod.snd (Prod.fst d)))
  (Prod.snd d))))) (1 : Int) = end1 (Prod.fst (Prod.snd (Prod.fst (startF (Prod.fst (Prod.fst d), Prod.fst (Prod.snd (Prod.fst d)), Prod.snd (Prod.snd (Prod.fst d))) (Prod.snd d))))) (end3 (Prod.snd (Prod.snd (Prod.fst
  (Prod.fst (startF (Prod.fst (Prod.fst d), Prod.fst (Prod.snd (Prod.fst d)), Prod.snd (Prod.snd (Prod.fst d))) (Prod.snd d)))))) (1 : Int)))) = false → true = true))))))))))))))))))))))))))))) := by
  intro (d : Pl × List Int) hw hp
  obtain ⟨⟨f, k, xs⟩, v⟩ := d
  have hl1 : xs.length ≤ 9223372036854775807 := hw.1.2.2.1
  have hg := start_len (f, k, xs) v
  simp only [Int.toNat_natCast, exists_const, and_true, true_and, implies_true, decide_eq_true_eq, decide_eq_false_iff_not, Bool.not_eq_true', Bool.not_eq_false', beq_iff_eq, forall_const]
  generalize startF (f, k, xs) v = g at *
  obtain ⟨⟨⟨a, b, ys⟩, u, n⟩, gb⟩ := g
  simp only at *
  simp only [decide_true, Bool.not_true, Bool.true_eq_false, Bool.false_eq_true, false_implies, and_true, true_and, implies_true, beq_self_eq_true, not_true_eq_false]
  intro hv _ hz
  have hx : xs.length ≤ 1048576 := by
    rcases sz_room3 (l := 1048576) hl1 (by omega) (by omega) with h | ⟨h, he⟩ <;> omega
  have hv' : v.length ≤ 1048576 := by omega
  obtain ⟨g1, g2⟩ := held_tn (a := a) (b := b) (n := n) (xs := ys) (v := u) (by omega) (by omega)
  have e1 := end3_small xs (k := 1) (by omega) (by omega)
  have e2 := end1_small v (k := end3 xs 1) (by omega) (by omega)
  rw [g1]
  have k1 : ¬ end1 v (end3 xs 1) < 0 := by omega
  have k2 : ¬ end1 u (end3 ys 1) < 0 := by omega
  simp only [hx, hv', k1, k2, true_and, and_true, implies_true, false_implies, not_true_eq_false, not_false_eq_true, forall_const, true_implies]
end Go.SF
