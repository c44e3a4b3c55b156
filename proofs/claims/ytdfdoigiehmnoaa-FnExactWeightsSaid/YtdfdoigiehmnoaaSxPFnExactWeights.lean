/- What is owed of the law's code: FnExactWeights. No condition. -/
import Derived.Test.YtdfdoigiehmnoaaSxPPoint
import Derived.Test.YtdfdoigiehmnoaaSxPMark
import Derived.Test.YtdfdoigiehmnoaaSxPPlan2
namespace Go.SF
open Go.SX Go
set_option linter.unusedVariables false
set_option linter.unusedSimpArgs false
set_option maxRecDepth 10000
theorem weights_len (f : Int) (xs : List Int) : (weightsF f xs).length ≤ xs.length := by
  unfold weightsF
  split
  · rw [wts_len]; exact Nat.le_refl _
  · simp
theorem v_FnExactWeights :
  ∀ (d : Int × List Int), Ty.wf i64T (Prod.fst d) ∧ Ty.wf listT (Prod.snd d) → True → (decide ((1048576 : Int) < (↑(List.length (Prod.snd d)) : Int)) = true → true = true) ∧ (decide ((1048576 : Int) < (↑(List.length
  (Prod.snd d)) : Int)) = false → List.length (Prod.snd d) ≤ (1048576 : Nat) ∧ (Ty.wf listT (Prod.snd d) → True ∧ (Ty.wf listT (weightsF (Prod.fst d) (Prod.snd d)) → List.length (Prod.snd d) ≤ (1048576 : Nat) ∧ (Ty.wf
  listT (Prod.snd d) → True ∧ (Ty.wf listT (weightsF (Prod.fst d) (Prod.snd d)) → True ∧ ((!decide (weightsF (Prod.fst d) (Prod.snd d) = weightsF (Prod.fst d) (Prod.snd d))) = true → false = true) ∧ ((!decide (weightsF
  (Prod.fst d) (Prod.snd d) = weightsF (Prod.fst d) (Prod.snd d))) = false → List.length (Prod.snd d) ≤ (1048576 : Nat) ∧ (Ty.wf listT (Prod.snd d) → True ∧ ((!decide (Prod.snd d = Prod.snd d)) = true → false = true) ∧
  ((!decide (Prod.snd d = Prod.snd d)) = false → True ∧ (decide (end1 (Prod.snd d) (1 : Int) < (0 : Int)) = true → false = true) ∧ (decide (end1 (Prod.snd d) (1 : Int) < (0 : Int)) = false → True ∧ ((!decide (weightsF
  (Prod.fst d) (Prod.snd d) = weightsF (Prod.fst d) (Prod.snd d))) = true → false = true) ∧ ((!decide (weightsF (Prod.fst d) (Prod.snd d) = weightsF (Prod.fst d) (Prod.snd d))) = false → True ∧ True ∧ (Ty.wf i64T (held1
  (mark1 (weightsF (Prod.fst d) (Prod.snd d)) (1 : Int)) (1 : Int)) → (decide (held1 (mark1 (weightsF (Prod.fst d) (Prod.snd d)) (1 : Int)) (1 : Int) < (0 : Int)) = true → false = true) ∧ (decide (held1 (mark1 (weightsF
  (Prod.fst d) (Prod.snd d)) (1 : Int)) (1 : Int) < (0 : Int)) = false → ((!decide (held1 (mark1 (weightsF (Prod.fst d) (Prod.snd d)) (1 : Int)) (1 : Int) = end1 (weightsF (Prod.fst d) (Prod.snd d)) (1 : Int))) = true →
  false = true) ∧ ((!decide (held1 (mark1 (weightsF (Prod.fst d) (Prod.snd d)) (1 : Int)) (1 : Int) = end1 (weightsF (Prod.fst d) (Prod.snd d)) (1 : Int))) = false → List.length (Prod.snd d) ≤ (1048576 : Nat) ∧ (Ty.wf
  listT (Prod.snd d) → True ∧ (Ty.wf listT (weightsF (Prod.fst d) (Prod.snd d)) → True ∧ ((!decide (weightsF (Prod.fst d) (Prod.snd d) = weightsF (Prod.fst d) (Prod.snd d))) = true → false = true) ∧ ((!decide (weightsF
  (Prod.fst d) (Prod.snd d) = weightsF (Prod.fst d) (Prod.snd d))) = false → True ∧ (Ty.wf i64T (held1 (mark1 (weightsF (Prod.fst d) (Prod.snd d)) (1 : Int)) (1 : Int)) → (decide (held1 (mark1 (weightsF (Prod.fst d)
  (Prod.snd d)) (1 : Int)) (1 : Int) < (0 : Int)) = true → false = true) ∧ (decide (held1 (mark1 (weightsF (Prod.fst d) (Prod.snd d)) (1 : Int)) (1 : Int) < (0 : Int)) = false → ((!decide (held1 (mark1 (weightsF
  (Prod.fst d) (Prod.snd d)) (1 : Int)) (1 : Int) = end1 (weightsF (Prod.fst d) (Prod.snd d)) (1 : Int))) = true → false = true) ∧ ((!decide (held1 (mark1 (weightsF (Prod.fst d) (Prod.snd d)) (1 : Int)) (1 : Int) = end1
  (weightsF (Prod.fst d) (Prod.snd d)) (1 : Int))) = false → true = true))))))))))))))))))) := by
  intro (d : Int × List Int) hw hp
  obtain ⟨f, xs⟩ := d
  have hg := weights_len f xs
  simp only [Int.toNat_natCast, exists_const, and_true, true_and, implies_true, decide_eq_true_eq, decide_eq_false_iff_not, Bool.not_eq_true', Bool.not_eq_false', beq_iff_eq, forall_const]
  generalize weightsF f xs = g at *
  intro hz
  have hx : xs.length ≤ 1048576 := by omega
  have e1 := end1_small xs (k := 1) (by omega) (by omega)
  have e2 := end1_small g (k := 1) (by omega) (by omega)
  have k1 : ¬ end1 xs 1 < 0 := by omega
  have k2 : ¬ end1 g 1 < 0 := by omega
  simp only [held1_mark, hx, k1, k2, true_and, and_true, implies_true, false_implies, not_true_eq_false, not_false_eq_true, forall_const, true_implies]
end Go.SF
