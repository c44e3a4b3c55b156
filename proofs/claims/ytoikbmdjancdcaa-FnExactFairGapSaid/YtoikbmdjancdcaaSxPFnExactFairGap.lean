/- What is owed of the law's code: FnExactFairGap. No condition. -/
import Derived.Test.YtoikbmdjancdcaaSxPRing2
namespace Go.SF
open Go.SX Go
set_option linter.unusedVariables false
set_option linter.unusedSimpArgs false
theorem v_FnExactFairGap :
  ∀ (d : (List (Int × Int × Int × List (Int × Int)) × Int × Bool) × Int × Int), Ty.wf ringT (Prod.fst d) ∧ Ty.wf i64T (Prod.fst (Prod.snd d)) ∧ Ty.wf i64T (Prod.snd (Prod.snd d)) → True → True ∧ (Ty.wf i64T (szRgF
  (Prod.fst (Prod.fst d)) (1048576 : Int)) → (decide (szRgF (Prod.fst (Prod.fst d)) (1048576 : Int) < (0 : Int)) = true → true = true) ∧ (decide (szRgF (Prod.fst (Prod.fst d)) (1048576 : Int) < (0 : Int)) = false → FlsP
  (Prod.fst (Prod.fst d)) ∧ (Ty.wf ringT (Prod.fst (Prod.fst d), Prod.fst (Prod.snd (Prod.fst d)), Prod.snd (Prod.snd (Prod.fst d))) → True ∧ (Ty.wf i64T (gapF (Prod.fst (Prod.fst d), Prod.fst (Prod.snd (Prod.fst d)),
  Prod.snd (Prod.snd (Prod.fst d))) (Prod.fst (Prod.snd d)) (Prod.snd (Prod.snd d))) → FlsP (Prod.fst (Prod.fst d)) ∧ (Ty.wf ringT (Prod.fst (Prod.fst d), Prod.fst (Prod.snd (Prod.fst d)), Prod.snd (Prod.snd (Prod.fst
  d))) → True ∧ (Ty.wf i64T (gapF (Prod.fst (Prod.fst d), Prod.fst (Prod.snd (Prod.fst d)), Prod.snd (Prod.snd (Prod.fst d))) (Prod.fst (Prod.snd d)) (Prod.snd (Prod.snd d))) → ((!decide (gapF (Prod.fst (Prod.fst d),
  Prod.fst (Prod.snd (Prod.fst d)), Prod.snd (Prod.snd (Prod.fst d))) (Prod.fst (Prod.snd d)) (Prod.snd (Prod.snd d)) = gapF (Prod.fst (Prod.fst d), Prod.fst (Prod.snd (Prod.fst d)), Prod.snd (Prod.snd (Prod.fst d)))
  (Prod.fst (Prod.snd d)) (Prod.snd (Prod.snd d)))) = true → false = true) ∧ ((!decide (gapF (Prod.fst (Prod.fst d), Prod.fst (Prod.snd (Prod.fst d)), Prod.snd (Prod.snd (Prod.fst d))) (Prod.fst (Prod.snd d)) (Prod.snd
  (Prod.snd d)) = gapF (Prod.fst (Prod.fst d), Prod.fst (Prod.snd (Prod.fst d)), Prod.snd (Prod.snd (Prod.fst d))) (Prod.fst (Prod.snd d)) (Prod.snd (Prod.snd d)))) = false → FlsP (Prod.fst (Prod.fst d)) ∧ True ∧ (Ty.wf
  ringT (Prod.fst (Prod.fst d), Prod.fst (Prod.snd (Prod.fst d)), Prod.snd (Prod.snd (Prod.fst d))) → ((!eqRg (Prod.fst (Prod.fst d), Prod.fst (Prod.snd (Prod.fst d)), Prod.snd (Prod.snd (Prod.fst d))) (Prod.fst
  (Prod.fst d), Prod.fst (Prod.snd (Prod.fst d)), Prod.snd (Prod.snd (Prod.fst d)))) = true → false = true) ∧ ((!eqRg (Prod.fst (Prod.fst d), Prod.fst (Prod.snd (Prod.fst d)), Prod.snd (Prod.snd (Prod.fst d))) (Prod.fst
  (Prod.fst d), Prod.fst (Prod.snd (Prod.fst d)), Prod.snd (Prod.snd (Prod.fst d)))) = false → true = true))))))))) := by
  intro (d : (List Fl × Int × Bool) × Int × Int) hw hp
  obtain ⟨⟨xs, turn, fresh⟩, a, b⟩ := d
  have hl : xs.length ≤ 9223372036854775807 := hw.1.1.1
  have hr := ring_room hw.1
  have hq : eqRg (xs, turn, fresh) (xs, turn, fresh) = true := eqRg_iff.2 rfl
  simp only [Int.toNat_natCast, exists_const, and_true, true_and, implies_true, decide_eq_true_eq, decide_eq_false_iff_not, Bool.not_eq_true', Bool.not_eq_false', beq_iff_eq, forall_const]
  rw [hq]
  simp only [Bool.true_eq_false, Bool.false_eq_true, false_implies, and_true, true_and, decide_true, Bool.not_true, implies_true, beq_self_eq_true, not_true_eq_false]
  grind
end Go.SF
