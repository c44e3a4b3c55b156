/- What is owed of the law's code: FnExactPop. No condition. -/
import Derived.Test.YtoikbmdjancdcaaSxPLine2
namespace Go.SF
open Go.SX Go
set_option linter.unusedVariables false
set_option linter.unusedSimpArgs false
set_option maxRecDepth 10000
theorem v_FnExactPop :
  ∀ (d : List (Int × Int)), Ty.wf lineT d → True → True ∧ (Ty.wf i64T (szF (List.length d) (1048576 : Int)) → (decide (szF (List.length d) (1048576 : Int) < (0 : Int)) = true → true = true) ∧ (decide (szF (List.length d)
  (1048576 : Int) < (0 : Int)) = false → List.length d ≤ (1048576 : Nat) ∧ (Ty.wf lineT d → List.length d ≤ (1048576 : Nat) ∧ (Ty.wf lineT (Prod.fst (popF d)) ∧ Ty.wf tkT (Prod.fst (Prod.snd (popF d))) ∧ Ty.wf Ty.bool
  (Prod.snd (Prod.snd (popF d))) → List.length d ≤ (1048576 : Nat) ∧ (Ty.wf lineT d → List.length d ≤ (1048576 : Nat) ∧ (Ty.wf lineT (Prod.fst (popF d)) ∧ Ty.wf tkT (Prod.fst (Prod.snd (popF d))) ∧ Ty.wf Ty.bool
  (Prod.snd (Prod.snd (popF d))) → True ∧ ((!decide (Prod.fst (popF d) = Prod.fst (popF d))) = true → false = true) ∧ ((!decide (Prod.fst (popF d) = Prod.fst (popF d))) = false → True ∧ ((!decide ((Prod.fst (Prod.fst
  (Prod.snd (popF d))), Prod.snd (Prod.fst (Prod.snd (popF d)))) = (Prod.fst (Prod.fst (Prod.snd (popF d))), Prod.snd (Prod.fst (Prod.snd (popF d)))))) = true → false = true) ∧ ((!decide ((Prod.fst (Prod.fst (Prod.snd
  (popF d))), Prod.snd (Prod.fst (Prod.snd (popF d)))) = (Prod.fst (Prod.fst (Prod.snd (popF d))), Prod.snd (Prod.fst (Prod.snd (popF d)))))) = false → ((!Prod.snd (Prod.snd (popF d)) == Prod.snd (Prod.snd (popF d))) =
  true → false = true) ∧ ((!Prod.snd (Prod.snd (popF d)) == Prod.snd (Prod.snd (popF d))) = false → List.length d ≤ (1048576 : Nat) ∧ True ∧ (Ty.wf lineT d → ((!decide (d = d)) = true → false = true) ∧ ((!decide (d = d))
  = false → True ∧ (decide (end2 d (1 : Int) < (0 : Int)) = true → false = true) ∧ (decide (end2 d (1 : Int) < (0 : Int)) = false → True ∧ ((!decide (Prod.fst (popF d) = Prod.fst (popF d))) = true → false = true) ∧
  ((!decide (Prod.fst (popF d) = Prod.fst (popF d))) = false → True ∧ ((!decide ((Prod.fst (Prod.fst (Prod.snd (popF d))), Prod.snd (Prod.fst (Prod.snd (popF d)))) = (Prod.fst (Prod.fst (Prod.snd (popF d))), Prod.snd
  (Prod.fst (Prod.snd (popF d)))))) = true → false = true) ∧ ((!decide ((Prod.fst (Prod.fst (Prod.snd (popF d))), Prod.snd (Prod.fst (Prod.snd (popF d)))) = (Prod.fst (Prod.fst (Prod.snd (popF d))), Prod.snd (Prod.fst
  (Prod.snd (popF d)))))) = false → ((!Prod.snd (Prod.snd (popF d)) == Prod.snd (Prod.snd (popF d))) = true → false = true) ∧ ((!Prod.snd (Prod.snd (popF d)) == Prod.snd (Prod.snd (popF d))) = false → True ∧ True ∧
  (Ty.wf i64T (neg1 (held2 (mark2 (Prod.fst (popF d)) (1 : Int)) (1 : Int))) → (decide (neg1 (held2 (mark2 (Prod.fst (popF d)) (1 : Int)) (1 : Int)) < (0 : Int)) = true → false = true) ∧ (decide (neg1 (held2 (mark2
  (Prod.fst (popF d)) (1 : Int)) (1 : Int)) < (0 : Int)) = false → ((!decide (neg1 (held2 (mark2 (Prod.fst (popF d)) (1 : Int)) (1 : Int)) = end2 (Prod.fst (popF d)) (1 : Int))) = true → false = true) ∧ ((!decide (neg1
  (held2 (mark2 (Prod.fst (popF d)) (1 : Int)) (1 : Int)) = end2 (Prod.fst (popF d)) (1 : Int))) = false → List.length d ≤ (1048576 : Nat) ∧ (Ty.wf lineT d → List.length d ≤ (1048576 : Nat) ∧ (Ty.wf lineT (Prod.fst (popF
  d)) ∧ Ty.wf tkT (Prod.fst (Prod.snd (popF d))) ∧ Ty.wf Ty.bool (Prod.snd (Prod.snd (popF d))) → True ∧ ((!decide (Prod.fst (popF d) = Prod.fst (popF d))) = true → false = true) ∧ ((!decide (Prod.fst (popF d) = Prod.fst
  (popF d))) = false → True ∧ ((!decide ((Prod.fst (Prod.fst (Prod.snd (popF d))), Prod.snd (Prod.fst (Prod.snd (popF d)))) = (Prod.fst (Prod.fst (Prod.snd (popF d))), Prod.snd (Prod.fst (Prod.snd (popF d)))))) = true →
  false = true) ∧ ((!decide ((Prod.fst (Prod.fst (Prod.snd (popF d))), Prod.snd (Prod.fst (Prod.snd (popF d)))) = (Prod.fst (Prod.fst (Prod.snd (popF d))), Prod.snd (Prod.fst (Prod.snd (popF d)))))) = false → ((!Prod.snd
  (Prod.snd (popF d)) == Prod.snd (Prod.snd (popF d))) = true → false = true) ∧ ((!Prod.snd (Prod.snd (popF d)) == Prod.snd (Prod.snd (popF d))) = false → True ∧ (Ty.wf i64T (neg1 (held2 (mark2 (Prod.fst (popF d)) (1 :
  Int)) (1 : Int))) → (decide (neg1 (held2 (mark2 (Prod.fst (popF d)) (1 : Int)) (1 : Int)) < (0 : Int)) = true → false = true) ∧ (decide (neg1 (held2 (mark2 (Prod.fst (popF d)) (1 : Int)) (1 : Int)) < (0 : Int)) = false
  → ((!decide (neg1 (held2 (mark2 (Prod.fst (popF d)) (1 : Int)) (1 : Int)) = end2 (Prod.fst (popF d)) (1 : Int))) = true → false = true) ∧ ((!decide (neg1 (held2 (mark2 (Prod.fst (popF d)) (1 : Int)) (1 : Int)) = end2
  (Prod.fst (popF d)) (1 : Int))) = false → true = true)))))))))))))))))))))))))) := by
  intro (xs : List Tk) hw hp
  have hl : xs.length ≤ 9223372036854775807 := hw.1
  have h1 := sz_room hl
  have hg : (popF xs).1.length ≤ xs.length + 1 := by have := pop_len xs; omega
  simp only [Int.toNat_natCast, exists_const, and_true, true_and, implies_true, decide_eq_true_eq, decide_eq_false_iff_not, Bool.not_eq_true', Bool.not_eq_false', beq_iff_eq, forall_const]
  generalize popF xs = g at *
  obtain ⟨gs, gb⟩ := g
  simp only at *
  simp only [decide_true, Bool.not_true, Bool.true_eq_false, Bool.false_eq_true, false_implies, and_true, true_and, implies_true, beq_self_eq_true, not_true_eq_false]
  intro _ hz
  have hx : xs.length ≤ 1048576 := by omega
  obtain ⟨g1, g2⟩ := held2_pos (xs := gs) (by omega)
  obtain ⟨_, g3⟩ := held2_pos (xs := xs) (by omega)
  rw [g1]
  grind
end Go.SF
