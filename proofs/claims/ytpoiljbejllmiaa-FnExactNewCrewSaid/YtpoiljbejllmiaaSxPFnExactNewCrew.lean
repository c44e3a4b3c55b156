/- What is owed of the law's code: FnExactNewCrew. No condition. -/
import Derived.Test.YtpoiljbejllmiaaSxPCrew2
namespace Go.SF
open Go.SX Go
set_option linter.unusedVariables false
set_option linter.unusedSimpArgs false
theorem v_FnExactNewCrew :
  ∀ (d : Int × Int), Ty.wf i64T (Prod.fst d) ∧ Ty.wf i64T (Prod.snd d) → True → True ∧ (Ty.wf crewT (Prod.fst (newCrewF (Prod.fst d) (Prod.snd d))) ∧ Ty.wf Ty.bool (Prod.snd (newCrewF (Prod.fst d) (Prod.snd d))) → True ∧
  (Ty.wf crewT (Prod.fst (newCrewF (Prod.fst d) (Prod.snd d))) ∧ Ty.wf Ty.bool (Prod.snd (newCrewF (Prod.fst d) (Prod.snd d))) → True ∧ ((!decide ((Prod.fst (Prod.fst (newCrewF (Prod.fst d) (Prod.snd d))), Prod.snd
  (Prod.fst (newCrewF (Prod.fst d) (Prod.snd d)))) = (Prod.fst (Prod.fst (newCrewF (Prod.fst d) (Prod.snd d))), Prod.snd (Prod.fst (newCrewF (Prod.fst d) (Prod.snd d)))))) = true → false = true) ∧ ((!decide ((Prod.fst
  (Prod.fst (newCrewF (Prod.fst d) (Prod.snd d))), Prod.snd (Prod.fst (newCrewF (Prod.fst d) (Prod.snd d)))) = (Prod.fst (Prod.fst (newCrewF (Prod.fst d) (Prod.snd d))), Prod.snd (Prod.fst (newCrewF (Prod.fst d)
  (Prod.snd d)))))) = false → ((!Prod.snd (newCrewF (Prod.fst d) (Prod.snd d)) == Prod.snd (newCrewF (Prod.fst d) (Prod.snd d))) = true → false = true) ∧ ((!Prod.snd (newCrewF (Prod.fst d) (Prod.snd d)) == Prod.snd
  (newCrewF (Prod.fst d) (Prod.snd d))) = false → True ∧ True ∧ (Ty.wf i64T (neg1 (held3 (mark3 (Prod.snd (Prod.fst (newCrewF (Prod.fst d) (Prod.snd d)))) (1 : Int)) (1 : Int))) → (decide (neg1 (held3 (mark3 (Prod.snd
  (Prod.fst (newCrewF (Prod.fst d) (Prod.snd d)))) (1 : Int)) (1 : Int)) < (0 : Int)) = true → false = true) ∧ (decide (neg1 (held3 (mark3 (Prod.snd (Prod.fst (newCrewF (Prod.fst d) (Prod.snd d)))) (1 : Int)) (1 : Int))
  < (0 : Int)) = false → ((!decide (neg1 (held3 (mark3 (Prod.snd (Prod.fst (newCrewF (Prod.fst d) (Prod.snd d)))) (1 : Int)) (1 : Int)) = end3 (Prod.snd (Prod.fst (newCrewF (Prod.fst d) (Prod.snd d)))) (1 : Int))) = true
  → false = true) ∧ ((!decide (neg1 (held3 (mark3 (Prod.snd (Prod.fst (newCrewF (Prod.fst d) (Prod.snd d)))) (1 : Int)) (1 : Int)) = end3 (Prod.snd (Prod.fst (newCrewF (Prod.fst d) (Prod.snd d)))) (1 : Int))) = false →
  True ∧ (Ty.wf crewT (Prod.fst (newCrewF (Prod.fst d) (Prod.snd d))) ∧ Ty.wf Ty.bool (Prod.snd (newCrewF (Prod.fst d) (Prod.snd d))) → True ∧ ((!decide ((Prod.fst (Prod.fst (newCrewF (Prod.fst d) (Prod.snd d))),
  Prod.snd (Prod.fst (newCrewF (Prod.fst d) (Prod.snd d)))) = (Prod.fst (Prod.fst (newCrewF (Prod.fst d) (Prod.snd d))), Prod.snd (Prod.fst (newCrewF (Prod.fst d) (Prod.snd d)))))) = true → false = true) ∧ ((!decide
  ((Prod.fst (Prod.fst (newCrewF (Prod.fst d) (Prod.snd d))), Prod.snd (Prod.fst (newCrewF (Prod.fst d) (Prod.snd d)))) = (Prod.fst (Prod.fst (newCrewF (Prod.fst d) (Prod.snd d))), Prod.snd (Prod.fst (newCrewF (Prod.fst
  d) (Prod.snd d)))))) = false → ((!Prod.snd (newCrewF (Prod.fst d) (Prod.snd d)) == Prod.snd (newCrewF (Prod.fst d) (Prod.snd d))) = true → false = true) ∧ ((!Prod.snd (newCrewF (Prod.fst d) (Prod.snd d)) == Prod.snd
  (newCrewF (Prod.fst d) (Prod.snd d))) = false → True ∧ (Ty.wf i64T (neg1 (held3 (mark3 (Prod.snd (Prod.fst (newCrewF (Prod.fst d) (Prod.snd d)))) (1 : Int)) (1 : Int))) → (decide (neg1 (held3 (mark3 (Prod.snd (Prod.fst
  (newCrewF (Prod.fst d) (Prod.snd d)))) (1 : Int)) (1 : Int)) < (0 : Int)) = true → false = true) ∧ (decide (neg1 (held3 (mark3 (Prod.snd (Prod.fst (newCrewF (Prod.fst d) (Prod.snd d)))) (1 : Int)) (1 : Int)) < (0 :
  Int)) = false → ((!decide (neg1 (held3 (mark3 (Prod.snd (Prod.fst (newCrewF (Prod.fst d) (Prod.snd d)))) (1 : Int)) (1 : Int)) = end3 (Prod.snd (Prod.fst (newCrewF (Prod.fst d) (Prod.snd d)))) (1 : Int))) = true →
  false = true) ∧ ((!decide (neg1 (held3 (mark3 (Prod.snd (Prod.fst (newCrewF (Prod.fst d) (Prod.snd d)))) (1 : Int)) (1 : Int)) = end3 (Prod.snd (Prod.fst (newCrewF (Prod.fst d) (Prod.snd d)))) (1 : Int))) = false →
  true = true))))))))))))) := by
  intro (d : Int × Int) hw hp
  obtain ⟨n, p⟩ := d
  have hg : (newCrewF n p).1.2.length ≤ 4194304 := by
    unfold newCrewF; split
    · simp only [List.length_replicate]; omega
    · simp
  obtain ⟨g1, g2⟩ := held_pos hg
  simp only [Int.toNat_natCast, exists_const, and_true, true_and, implies_true, decide_eq_true_eq, decide_eq_false_iff_not, Bool.not_eq_true', Bool.not_eq_false', beq_iff_eq, forall_const]
  generalize newCrewF n p = g at *
  obtain ⟨⟨gp, gs⟩, gb⟩ := g
  simp only at *
  simp only [g1, decide_true, Bool.not_true, Bool.true_eq_false, Bool.false_eq_true, false_implies, and_true, true_and, implies_true, beq_self_eq_true, not_true_eq_false]
  grind
end Go.SF
