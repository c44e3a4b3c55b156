/- What is owed of the law's code: FnExactCancel. No condition. -/
import Derived.Test.YtoikbmdjancdcaaSxPLine3
namespace Go.SF
open Go.SX Go
set_option linter.unusedVariables false
set_option linter.unusedSimpArgs false
set_option maxRecDepth 10000
theorem v_FnExactCancel :
  ∀ (d : List (Int × Int) × Int), Ty.wf lineT (Prod.fst d) ∧ Ty.wf i64T (Prod.snd d) → True → True ∧ (Ty.wf i64T (szF (List.length (Prod.fst d)) (1048576 : Int)) → (decide (szF (List.length (Prod.fst d)) (1048576 : Int)
  < (0 : Int)) = true → true = true) ∧ (decide (szF (List.length (Prod.fst d)) (1048576 : Int) < (0 : Int)) = false → List.length (Prod.fst d) ≤ (1048576 : Nat) ∧ (Ty.wf lineT (Prod.fst d) → List.length (Prod.fst d) ≤
  (1048576 : Nat) ∧ (Ty.wf lineT (Prod.fst (cancelSF (Prod.fst d) (Prod.snd d))) ∧ Ty.wf tkT (Prod.fst (Prod.snd (cancelSF (Prod.fst d) (Prod.snd d)))) ∧ Ty.wf Ty.bool (Prod.snd (Prod.snd (cancelSF (Prod.fst d) (Prod.snd
  d)))) → List.length (Prod.fst d) ≤ (1048576 : Nat) ∧ (Ty.wf lineT (Prod.fst d) → List.length (Prod.fst d) ≤ (1048576 : Nat) ∧ (Ty.wf lineT (Prod.fst (icancelF (Prod.fst d) (Prod.snd d))) ∧ Ty.wf tkT (Prod.fst (Prod.snd
  (icancelF (Prod.fst d) (Prod.snd d)))) ∧ Ty.wf Ty.bool (Prod.snd (Prod.snd (icancelF (Prod.fst d) (Prod.snd d)))) → True ∧ ((!decide (Prod.fst (icancelF (Prod.fst d) (Prod.snd d)) = Prod.fst (cancelSF (Prod.fst d)
  (Prod.snd d)))) = true → false = true) ∧ ((!decide (Prod.fst (icancelF (Prod.fst d) (Prod.snd d)) = Prod.fst (cancelSF (Prod.fst d) (Prod.snd d)))) = false → True ∧ ((!decide ((Prod.fst (Prod.fst (Prod.snd (icancelF
  (Prod.fst d) (Prod.snd d)))), Prod.snd (Prod.fst (Prod.snd (icancelF (Prod.fst d) (Prod.snd d))))) = (Prod.fst (Prod.fst (Prod.snd (cancelSF (Prod.fst d) (Prod.snd d)))), Prod.snd (Prod.fst (Prod.snd (cancelSF
  (Prod.fst d) (Prod.snd d))))))) = true → false = true) ∧ ((!decide ((Prod.fst (Prod.fst (Prod.snd (icancelF (Prod.fst d) (Prod.snd d)))), Prod.snd (Prod.fst (Prod.snd (icancelF (Prod.fst d) (Prod.snd d))))) = (Prod.fst
  (Prod.fst (Prod.snd (cancelSF (Prod.fst d) (Prod.snd d)))), Prod.snd (Prod.fst (Prod.snd (cancelSF (Prod.fst d) (Prod.snd d))))))) = false → ((!Prod.snd (Prod.snd (icancelF (Prod.fst d) (Prod.snd d))) == Prod.snd
  (Prod.snd (cancelSF (Prod.fst d) (Prod.snd d)))) = true → false = true) ∧ ((!Prod.snd (Prod.snd (icancelF (Prod.fst d) (Prod.snd d))) == Prod.snd (Prod.snd (cancelSF (Prod.fst d) (Prod.snd d)))) = false → List.length
  (Prod.fst d) ≤ (1048576 : Nat) ∧ True ∧ (Ty.wf lineT (Prod.fst d) → ((!decide (Prod.fst d = Prod.fst d)) = true → false = true) ∧ ((!decide (Prod.fst d = Prod.fst d)) = false → True ∧ (decide (end2 (Prod.fst d) (1 :
  Int) < (0 : Int)) = true → false = true) ∧ (decide (end2 (Prod.fst d) (1 : Int) < (0 : Int)) = false → True ∧ ((!decide (Prod.fst (icancelF (Prod.fst d) (Prod.snd d)) = Prod.fst (cancelSF (Prod.fst d) (Prod.snd d)))) =
  true → false = true) ∧ ((!decide (Prod.fst (icancelF (Prod.fst d) (Prod.snd d)) = Prod.fst (cancelSF (Prod.fst d) (Prod.snd d)))) = false → True ∧ ((!decide ((Prod.fst (Prod.fst (Prod.snd (icancelF (Prod.fst d)
  (Prod.snd d)))), Prod.snd (Prod.fst (Prod.snd (icancelF (Prod.fst d) (Prod.snd d))))) = (Prod.fst (Prod.fst (Prod.snd (cancelSF (Prod.fst d) (Prod.snd d)))), Prod.snd (Prod.fst (Prod.snd (cancelSF (Prod.fst d)
  (Prod.snd d))))))) = true → false = true) ∧ ((!decide ((Prod.fst (Prod.fst (Prod.snd (icancelF (Prod.fst d) (Prod.snd d)))), Prod.snd (Prod.fst (Prod.snd (icancelF (Prod.fst d) (Prod.snd d))))) = (Prod.fst (Prod.fst
  (Prod.snd (cancelSF (Prod.fst d) (Prod.snd d)))), Prod.snd (Prod.fst (Prod.snd (cancelSF (Prod.fst d) (Prod.snd d))))))) = false → ((!Prod.snd (Prod.snd (icancelF (Prod.fst d) (Prod.snd d))) == Prod.snd (Prod.snd
  (cancelSF (Prod.fst d) (Prod.snd d)))) = true → false = true) ∧ ((!Prod.snd (Prod.snd (icancelF (Prod.fst d) (Prod.snd d))) == Prod.snd (Prod.snd (cancelSF (Prod.fst d) (Prod.snd d)))) = false → True ∧ True ∧ (Ty.wf
  i64T (neg1 (held2 (mark2 (Prod.fst (icancelF (Prod.fst d) (Prod.snd d))) (1 : Int)) (1 : Int))) → (decide (neg1 (held2 (mark2 (Prod.fst (icancelF (Prod.fst d) (Prod.snd d))) (1 : Int)) (1 : Int)) < (0 : Int)) = true →
  false = true) ∧ (decide (neg1 (held2 (mark2 (Prod.fst (icancelF (Prod.fst d) (Prod.snd d))) (1 : Int)) (1 : Int)) < (0 : Int)) = false → ((!decide (neg1 (held2 (mark2 (Prod.fst (icancelF (Prod.fst d) (Prod.snd d))) (1
  : Int)) (1 : Int)) = end2 (Prod.fst (icancelF (Prod.fst d) (Prod.snd d))) (1 : Int))) = true → false = true) ∧ ((!decide (neg1 (held2 (mark2 (Prod.fst (icancelF (Prod.fst d) (Prod.snd d))) (1 : Int)) (1 : Int)) = end2
  (Prod.fst (icancelF (Prod.fst d) (Prod.snd d))) (1 : Int))) = false → List.length (Prod.fst d) ≤ (1048576 : Nat) ∧ (Ty.wf lineT (Prod.fst d) → List.length (Prod.fst d) ≤ (1048576 : Nat) ∧ (Ty.wf lineT (Prod.fst
  (icancelF (Prod.fst d) (Prod.snd d))) ∧ Ty.wf tkT (Prod.fst (Prod.snd (icancelF (Prod.fst d) (Prod.snd d)))) ∧ Ty.wf Ty.bool (Prod.snd (Prod.snd (icancelF (Prod.fst d) (Prod.snd d)))) → True ∧ ((!decide (Prod.fst
  (icancelF (Prod.fst d) (Prod.snd d)) = Prod.fst (cancelSF (Prod.fst d) (Prod.snd d)))) = true → false = true) ∧ ((!decide (Prod.fst (icancelF (Prod.fst d) (Prod.snd d)) = Prod.fst (cancelSF (Prod.fst d) (Prod.snd d))))
  = false → True ∧ ((!decide ((Prod.fst (Prod.fst (Prod.snd (icancelF (Prod.fst d) (Prod.snd d)))), Prod.snd (Prod.fst (Prod.snd (icancelF (Prod.fst d) (Prod.snd d))))) = (Prod.fst (Prod.fst (Prod.snd (cancelSF (Prod.fst
  d) (Prod.snd d)))), Prod.snd (Prod.fst (Prod.snd (cancelSF (Prod.fst d) (Prod.snd d))))))) = true → false = true) ∧ ((!decide ((Prod.fst (Prod.fst (Prod.snd (icancelF (Prod.fst d) (Prod.snd d)))), Prod.snd (Prod.fst
  (Prod.snd (icancelF (Prod.fst d) (Prod.snd d))))) = (Prod.fst (Prod.fst (Prod.snd (cancelSF (Prod.fst d) (Prod.snd d)))), Prod.snd (Prod.fst (Prod.snd (cancelSF (Prod.fst d) (Prod.snd d))))))) = false → ((!Prod.snd
  (Prod.snd (icancelF (Prod.fst d) (Prod.snd d))) == Prod.snd (Prod.snd (cancelSF (Prod.fst d) (Prod.snd d)))) = true → false = true) ∧ ((!Prod.snd (Prod.snd (icancelF (Prod.fst d) (Prod.snd d))) == Prod.snd (Prod.snd
  (cancelSF (Prod.fst d) (Prod.snd d)))) = false → True ∧ (Ty.wf i64T (neg1 (held2 (mark2 (Prod.fst (icancelF (Prod.fst d) (Prod.snd d))) (1 : Int)) (1 : Int))) → (decide (neg1 (held2 (mark2 (Prod.fst (icancelF (Prod.fst
  d) (Prod.snd d))) (1 : Int)) (1 : Int)) < (0 : Int)) = true → false = true) ∧ (decide (neg1 (held2 (mark2 (Prod.fst (icancelF (Prod.fst d) (Prod.snd d))) (1 : Int)) (1 : Int)) < (0 : Int)) = false → ((!decide (neg1
  (held2 (mark2 (Prod.fst (icancelF (Prod.fst d) (Prod.snd d))) (1 : Int)) (1 : Int)) = end2 (Prod.fst (icancelF (Prod.fst d) (Prod.snd d))) (1 : Int))) = true → false = true) ∧ ((!decide (neg1 (held2 (mark2 (Prod.fst
  (icancelF (Prod.fst d) (Prod.snd d))) (1 : Int)) (1 : Int)) = end2 (Prod.fst (icancelF (Prod.fst d) (Prod.snd d))) (1 : Int))) = false → true = true)))))))))))))))))))))))))) := by
  intro (d : List Tk × Int) hw hp
  obtain ⟨xs, ops⟩ := d
  have hl : xs.length ≤ 9223372036854775807 := hw.1.1
  have h1 := sz_room hl
  have hg : (cancelSF xs ops).1.length ≤ xs.length + 1 := by
    unfold cancelSF
    split
    · exact Nat.le_trans (List.length_filter_le _ _) (by omega)
    · simp
  simp only [Int.toNat_natCast, exists_const, and_true, true_and, implies_true, decide_eq_true_eq, decide_eq_false_iff_not, Bool.not_eq_true', Bool.not_eq_false', beq_iff_eq, forall_const]
  simp only [icancel_eq]
  generalize cancelSF xs ops = g at *
  obtain ⟨gs, gt, gb⟩ := g
  simp only at *
  simp only [decide_true, Bool.not_true, Bool.true_eq_false, Bool.false_eq_true, false_implies, and_true, true_and, implies_true, beq_self_eq_true, not_true_eq_false]
  intro _ hz
  have hx : xs.length ≤ 1048576 := by omega
  obtain ⟨g1, g2⟩ := held2_pos (xs := gs) (by omega)
  obtain ⟨_, g3⟩ := held2_pos (xs := xs) (by omega)
  rw [g1]
  grind
end Go.SF
