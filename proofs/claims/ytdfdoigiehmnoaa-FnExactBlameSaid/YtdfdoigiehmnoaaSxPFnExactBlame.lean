/- What is owed of the law's code: FnExactBlame. No condition. -/
import Derived.Test.YtdfdoigiehmnoaaSxPDec
import Derived.Test.YtdfdoigiehmnoaaSxPMark
import Derived.Test.YtdfdoigiehmnoaaSxPPlan2
namespace Go.SF
open Go.SX Go
set_option linter.unusedVariables false
set_option linter.unusedSimpArgs false
set_option maxRecDepth 10000
theorem blame_len (f : Int) (xs ys : List Int) (k : Int) : (blmF f xs ys k).length ≤ 10 := by
  unfold blmF
  split
  · rename_i h
    obtain ⟨h1, h2, _, _, _⟩ := dec_msg h
    have := (code_ok h1).2.1
    have := blm_len (evM (modF f) (decF f xs ys k).1 xs xs.length) ys ys.length
    omega
  · simp
theorem v_FnExactBlame :
  ∀ (d : Int × List Int × List Int × Int), Ty.wf i64T (Prod.fst d) ∧ Ty.wf listT (Prod.fst (Prod.snd d)) ∧ Ty.wf listT (Prod.fst (Prod.snd (Prod.snd d))) ∧ Ty.wf i64T (Prod.snd (Prod.snd (Prod.snd d))) → True → (decide
  ((1048576 : Int) < (↑(List.length (Prod.fst (Prod.snd d))) : Int)) = true → true = true) ∧ (decide ((1048576 : Int) < (↑(List.length (Prod.fst (Prod.snd d))) : Int)) = false → (decide ((1048576 : Int) < (↑(List.length
  (Prod.fst (Prod.snd (Prod.snd d)))) : Int)) = true → true = true) ∧ (decide ((1048576 : Int) < (↑(List.length (Prod.fst (Prod.snd (Prod.snd d)))) : Int)) = false → List.length (Prod.fst (Prod.snd d)) ≤ (1048576 : Nat)
  ∧ (Ty.wf listT (Prod.fst (Prod.snd d)) → List.length (Prod.fst (Prod.snd (Prod.snd d))) ≤ (1048576 : Nat) ∧ (Ty.wf listT (Prod.fst (Prod.snd (Prod.snd d))) → True ∧ (Ty.wf listT (blmF (Prod.fst d) (Prod.fst (Prod.snd
  d)) (Prod.fst (Prod.snd (Prod.snd d))) (Prod.snd (Prod.snd (Prod.snd d)))) → List.length (Prod.fst (Prod.snd d)) ≤ (1048576 : Nat) ∧ (Ty.wf listT (Prod.fst (Prod.snd d)) → List.length (Prod.fst (Prod.snd (Prod.snd d)))
  ≤ (1048576 : Nat) ∧ (Ty.wf listT (Prod.fst (Prod.snd (Prod.snd d))) → True ∧ (Ty.wf listT (blmF (Prod.fst d) (Prod.fst (Prod.snd d)) (Prod.fst (Prod.snd (Prod.snd d))) (Prod.snd (Prod.snd (Prod.snd d)))) → True ∧
  ((!decide (blmF (Prod.fst d) (Prod.fst (Prod.snd d)) (Prod.fst (Prod.snd (Prod.snd d))) (Prod.snd (Prod.snd (Prod.snd d))) = blmF (Prod.fst d) (Prod.fst (Prod.snd d)) (Prod.fst (Prod.snd (Prod.snd d))) (Prod.snd
  (Prod.snd (Prod.snd d))))) = true → false = true) ∧ ((!decide (blmF (Prod.fst d) (Prod.fst (Prod.snd d)) (Prod.fst (Prod.snd (Prod.snd d))) (Prod.snd (Prod.snd (Prod.snd d))) = blmF (Prod.fst d) (Prod.fst (Prod.snd d))
  (Prod.fst (Prod.snd (Prod.snd d))) (Prod.snd (Prod.snd (Prod.snd d))))) = false → List.length (Prod.fst (Prod.snd d)) ≤ (1048576 : Nat) ∧ (Ty.wf listT (Prod.fst (Prod.snd d)) → True ∧ ((!decide (Prod.fst (Prod.snd d) =
  Prod.fst (Prod.snd d))) = true → false = true) ∧ ((!decide (Prod.fst (Prod.snd d) = Prod.fst (Prod.snd d))) = false → List.length (Prod.fst (Prod.snd (Prod.snd d))) ≤ (1048576 : Nat) ∧ (Ty.wf listT (Prod.fst (Prod.snd
  (Prod.snd d))) → True ∧ ((!decide (Prod.fst (Prod.snd (Prod.snd d)) = Prod.fst (Prod.snd (Prod.snd d)))) = true → false = true) ∧ ((!decide (Prod.fst (Prod.snd (Prod.snd d)) = Prod.fst (Prod.snd (Prod.snd d)))) = false
  → True ∧ True ∧ (decide (end1 (Prod.fst (Prod.snd (Prod.snd d))) (end1 (Prod.fst (Prod.snd d)) (1 : Int)) < (0 : Int)) = true → false = true) ∧ (decide (end1 (Prod.fst (Prod.snd (Prod.snd d))) (end1 (Prod.fst (Prod.snd
  d)) (1 : Int)) < (0 : Int)) = false → True ∧ ((!decide (blmF (Prod.fst d) (Prod.fst (Prod.snd d)) (Prod.fst (Prod.snd (Prod.snd d))) (Prod.snd (Prod.snd (Prod.snd d))) = blmF (Prod.fst d) (Prod.fst (Prod.snd d))
  (Prod.fst (Prod.snd (Prod.snd d))) (Prod.snd (Prod.snd (Prod.snd d))))) = true → false = true) ∧ ((!decide (blmF (Prod.fst d) (Prod.fst (Prod.snd d)) (Prod.fst (Prod.snd (Prod.snd d))) (Prod.snd (Prod.snd (Prod.snd
  d))) = blmF (Prod.fst d) (Prod.fst (Prod.snd d)) (Prod.fst (Prod.snd (Prod.snd d))) (Prod.snd (Prod.snd (Prod.snd d))))) = false → True ∧ True ∧ (Ty.wf i64T (held1 (mark1 (blmF (Prod.fst d) (Prod.fst (Prod.snd d))
  (Prod.fst (Prod.snd (Prod.snd d))) (Prod.snd (Prod.snd (Prod.snd d)))) (1 : Int)) (1 : Int)) → (decide (held1 (mark1 (blmF (Prod.fst d) (Prod.fst (Prod.snd d)) (Prod.fst (Prod.snd (Prod.snd d))) (Prod.snd (Prod.snd
  (Prod.snd d)))) (1 : Int)) (1 : Int) < (0 : Int)) = true → false = true) ∧ (decide (held1 (mark1 (blmF (Prod.fst d) (Prod.fst (Prod.snd d)) (Prod.fst (Prod.snd (Prod.snd d))) (Prod.snd (Prod.snd (Prod.snd d)))) (1 :
  Int)) (1 : Int) < (0 : Int)) = false → ((!decide (held1 (mark1 (blmF (Prod.fst d) (Prod.fst (Prod.snd d)) (Prod.fst (Prod.snd (Prod.snd d))) (Prod.snd (Prod.snd (Prod.snd d)))) (1 : Int)) (1 : Int) = end1 (blmF
  (Prod.fst d) (Prod.fst (Prod.snd d)) (Prod.fst (Prod.snd (Prod.snd d))) (Prod.snd (Prod.snd (Prod.snd d)))) (1 : Int))) = true → false = true) ∧ ((!decide (held1 (mark1 (blmF (Prod.fst d) (Prod.fst (Prod.snd d))
  (Prod.fst (Prod.snd (Prod.snd d))) (Prod.snd (Prod.snd (Prod.snd d)))) (1 : Int)) (1 : Int) = end1 (blmF (Prod.fst d) (Prod.fst (Prod.snd d)) (Prod.fst (Prod.snd (Prod.snd d))) (Prod.snd (Prod.snd (Prod.snd d)))) (1 :
  Int))) = false → List.length (Prod.fst (Prod.snd d)) ≤ (1048576 : Nat) ∧ (Ty.wf listT (Prod.fst (Prod.snd d)) → List.length (Prod.fst (Prod.snd (Prod.snd d))) ≤ (1048576 : Nat) ∧ (Ty.wf listT (Prod.fst (Prod.snd
  (Prod.snd d))) → True ∧ (Ty.wf listT (blmF (Prod.fst d) (Prod.fst (Prod.snd d)) (Prod.fst (Prod.snd (Prod.snd d))) (Prod.snd (Prod.snd (Prod.snd d)))) → True ∧ ((!decide (blmF (Prod.fst d) (Prod.fst (Prod.snd d))
  (Prod.fst (Prod.snd (Prod.snd d))) (Prod.snd (Prod.snd (Prod.snd d))) = blmF (Prod.fst d) (Prod.fst (Prod.snd d)) (Prod.fst (Prod.snd (Prod.snd d))) (Prod.snd (Prod.snd (Prod.snd d))))) = true → false = true) ∧
  ((!decide (blmF (Prod.fst d) (Prod.fst (Prod.snd d)) (Prod.fst (Prod.snd (Prod.snd d))) (Prod.snd (Prod.snd (Prod.snd d))) = blmF (Prod.fst d) (Prod.fst (Prod.snd d)) (Prod.fst (Prod.snd (Prod.snd d))) (Prod.snd
  (Prod.snd (Prod.snd d))))) = false → True ∧ (Ty.wf i64T (held1 (mark1 (blmF (Prod.fst d) (Prod.fst (Prod.snd d)) (Prod.fst (Prod.snd (Prod.snd d))) (Prod.snd (Prod.snd (Prod.snd d)))) (1 : Int)) (1 : Int)) → (decide
  (held1 (mark1 (blmF (Prod.fst d) (Prod.fst (Prod.snd d)) (Prod.fst (Prod.snd (Prod.snd d))) (Prod.snd (Prod.snd (Prod.snd d)))) (1 : Int)) (1 : Int) < (0 : Int)) = true → false = true) ∧ (decide (held1 (mark1 (blmF
  (Prod.fst d) (Prod.fst (Prod.snd d)) (Prod.fst (Prod.snd (Prod.snd d))) (Prod.snd (Prod.snd (Prod.snd d)))) (1 : Int)) (1 : Int) < (0 : Int)) = false → ((!decide (held1 (mark1 (blmF (Prod.fst d) (Prod.fst (Prod.snd d))
  (Prod.fst (Prod.snd (Prod.snd d))) (Prod.snd (Prod.snd (Prod.snd d)))) (1 : Int)) (1 : Int) = end1 (blmF (Prod.fst d) (Prod.fst (Prod.snd d)) (Prod.fst (Prod.snd (Prod.snd d))) (Prod.snd (Prod.snd (Prod.snd d)))) (1 :
  Int))) = true → false = true) ∧ ((!decide (held1 (mark1 (blmF (Prod.fst d) (Prod.fst (Prod.snd d)) (Prod.fst (Prod.snd (Prod.snd d))) (Prod.snd (Prod.snd (Prod.snd d)))) (1 : Int)) (1 : Int) = end1 (blmF (Prod.fst d)
  (Prod.fst (Prod.snd d)) (Prod.fst (Prod.snd (Prod.snd d))) (Prod.snd (Prod.snd (Prod.snd d)))) (1 : Int))) = false → true = true))))))))))))))))))))))))) := by
  intro (d : Int × List Int × List Int × Int) hw hp
  obtain ⟨f, xs, ys, n⟩ := d
  have hg := blame_len f xs ys n
  simp only [Int.toNat_natCast, exists_const, and_true, true_and, implies_true, decide_eq_true_eq, decide_eq_false_iff_not, Bool.not_eq_true', Bool.not_eq_false', beq_iff_eq, forall_const]
  generalize blmF f xs ys n = g at *
  intro hz hz2
  have hx : xs.length ≤ 1048576 := by omega
  have hy : ys.length ≤ 1048576 := by omega
  have e1 := end1_small xs (k := 1) (by omega) (by omega)
  have e3 := end1_small ys (k := end1 xs 1) (by omega) (by omega)
  have e2 := end1_small g (k := 1) (by omega) (by omega)
  have k1 : ¬ end1 ys (end1 xs 1) < 0 := by omega
  have k2 : ¬ end1 g 1 < 0 := by omega
  simp only [held1_mark, hx, hy, k1, k2, decide_true, Bool.not_true, beq_self_eq_true, Bool.true_eq_false, Bool.false_eq_true, true_and, and_true, implies_true, false_implies, not_true_eq_false, not_false_eq_true, forall_const, true_implies]
end Go.SF
