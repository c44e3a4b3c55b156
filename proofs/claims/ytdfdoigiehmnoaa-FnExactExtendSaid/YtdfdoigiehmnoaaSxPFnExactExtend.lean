/- What is owed of the law's code: FnExactExtend. No condition. -/
import Derived.Test.YtdfdoigiehmnoaaSxPThruB
import Derived.Test.YtdfdoigiehmnoaaSxPPlan2
namespace Go.SF
open Go.SX Go
set_option linter.unusedVariables false
set_option linter.unusedSimpArgs false
set_option maxRecDepth 10000
theorem v_FnExactExtend :
  ∀ (d : Int × List Int × List Int × Int), Ty.wf i64T (Prod.fst d) ∧ Ty.wf listT (Prod.fst (Prod.snd d)) ∧ Ty.wf listT (Prod.fst (Prod.snd (Prod.snd d))) ∧ Ty.wf i64T (Prod.snd (Prod.snd (Prod.snd d))) → True → (decide
  ((1048576 : Int) < (↑(List.length (Prod.fst (Prod.snd d))) : Int)) = true → true = true) ∧ (decide ((1048576 : Int) < (↑(List.length (Prod.fst (Prod.snd d))) : Int)) = false → (decide ((1048576 : Int) < (↑(List.length
  (Prod.fst (Prod.snd (Prod.snd d)))) : Int)) = true → true = true) ∧ (decide ((1048576 : Int) < (↑(List.length (Prod.fst (Prod.snd (Prod.snd d)))) : Int)) = false → List.length (Prod.fst (Prod.snd d)) ≤ (1048576 : Nat)
  ∧ (Ty.wf listT (Prod.fst (Prod.snd d)) → List.length (Prod.fst (Prod.snd (Prod.snd d))) ≤ (1048576 : Nat) ∧ (Ty.wf listT (Prod.fst (Prod.snd (Prod.snd d))) → True ∧ (Ty.wf i64T (extF (Prod.fst d) (Prod.fst (Prod.snd
  d)) (Prod.fst (Prod.snd (Prod.snd d))) (Prod.snd (Prod.snd (Prod.snd d)))) → List.length (Prod.fst (Prod.snd d)) ≤ (1048576 : Nat) ∧ (Ty.wf listT (Prod.fst (Prod.snd d)) → List.length (Prod.fst (Prod.snd (Prod.snd d)))
  ≤ (1048576 : Nat) ∧ (Ty.wf listT (Prod.fst (Prod.snd (Prod.snd d))) → True ∧ (Ty.wf i64T (extF (Prod.fst d) (Prod.fst (Prod.snd d)) (Prod.fst (Prod.snd (Prod.snd d))) (Prod.snd (Prod.snd (Prod.snd d)))) → ((!decide
  (extF (Prod.fst d) (Prod.fst (Prod.snd d)) (Prod.fst (Prod.snd (Prod.snd d))) (Prod.snd (Prod.snd (Prod.snd d))) = extF (Prod.fst d) (Prod.fst (Prod.snd d)) (Prod.fst (Prod.snd (Prod.snd d))) (Prod.snd (Prod.snd
  (Prod.snd d))))) = true → false = true) ∧ ((!decide (extF (Prod.fst d) (Prod.fst (Prod.snd d)) (Prod.fst (Prod.snd (Prod.snd d))) (Prod.snd (Prod.snd (Prod.snd d))) = extF (Prod.fst d) (Prod.fst (Prod.snd d)) (Prod.fst
  (Prod.snd (Prod.snd d))) (Prod.snd (Prod.snd (Prod.snd d))))) = false → List.length (Prod.fst (Prod.snd d)) ≤ (1048576 : Nat) ∧ (Ty.wf listT (Prod.fst (Prod.snd d)) → True ∧ ((!decide (Prod.fst (Prod.snd d) = Prod.fst
  (Prod.snd d))) = true → false = true) ∧ ((!decide (Prod.fst (Prod.snd d) = Prod.fst (Prod.snd d))) = false → List.length (Prod.fst (Prod.snd (Prod.snd d))) ≤ (1048576 : Nat) ∧ (Ty.wf listT (Prod.fst (Prod.snd (Prod.snd
  d))) → True ∧ ((!decide (Prod.fst (Prod.snd (Prod.snd d)) = Prod.fst (Prod.snd (Prod.snd d)))) = true → false = true) ∧ ((!decide (Prod.fst (Prod.snd (Prod.snd d)) = Prod.fst (Prod.snd (Prod.snd d)))) = false → true =
  true))))))))))))) := by
  intro (d : Int × List Int × List Int × Int) hw hp
  obtain ⟨f, xs, ys, y⟩ := d
  simp only [Int.toNat_natCast, exists_const, and_true, true_and, implies_true, decide_eq_true_eq, decide_eq_false_iff_not, Bool.not_eq_true', Bool.not_eq_false', beq_iff_eq, forall_const]
  intro hz hz2
  have hx : xs.length ≤ 1048576 := by omega
  have hy : ys.length ≤ 1048576 := by omega
  simp only [hx, hy, true_and, and_true, implies_true, false_implies, not_true_eq_false, not_false_eq_true, forall_const, true_implies]
end Go.SF
