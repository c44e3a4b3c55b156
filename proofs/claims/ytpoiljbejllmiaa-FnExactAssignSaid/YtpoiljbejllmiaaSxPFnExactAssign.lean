/- What is owed of the law's code: FnExactAssign. No condition. -/
import Derived.Test.YtpoiljbejllmiaaSxPCrew2
namespace Go.SF
open Go.SX Go
set_option linter.unusedVariables false
set_option linter.unusedSimpArgs false
set_option maxRecDepth 10000
theorem v_FnExactAssign :
  ∀ (d : (Int × List (Int × Int × Int)) × Int × Int × Int), Ty.wf crewT (Prod.fst d) ∧ Ty.wf i64T (Prod.fst (Prod.snd d)) ∧ Ty.wf tkT (Prod.snd (Prod.snd d)) → True → True ∧ (Ty.wf i64T (szF (List.length (Prod.snd
  (Prod.fst d))) (1048576 : Int)) → (decide (szF (List.length (Prod.snd (Prod.fst d))) (1048576 : Int) < (0 : Int)) = true → true = true) ∧ (decide (szF (List.length (Prod.snd (Prod.fst d))) (1048576 : Int) < (0 : Int))
  = false → List.length (Prod.snd (Prod.fst d)) ≤ (1048576 : Nat) ∧ True ∧ List.length (Prod.snd (Prod.fst d)) ≤ (1048576 : Nat) ∧ (Ty.wf crewT (Prod.fst (assignF (Prod.fst (Prod.fst d), Prod.snd (Prod.fst d)) (Prod.fst
  (Prod.snd d)) (Prod.fst (Prod.snd (Prod.snd d)), Prod.snd (Prod.snd (Prod.snd d))))) ∧ Ty.wf Ty.bool (Prod.snd (assignF (Prod.fst (Prod.fst d), Prod.snd (Prod.fst d)) (Prod.fst (Prod.snd d)) (Prod.fst (Prod.snd
  (Prod.snd d)), Prod.snd (Prod.snd (Prod.snd d))))) → Ty.wf tkT (Prod.fst (Prod.snd (Prod.snd d)), Prod.snd (Prod.snd (Prod.snd d))) → Ty.wf crewT (Prod.fst (Prod.fst d), Prod.snd (Prod.fst d)) → List.length (Prod.snd
  (Prod.fst d)) ≤ (1048576 : Nat) ∧ (Ty.wf crewT (Prod.fst (Prod.fst d), Prod.snd (Prod.fst d)) → True ∧ List.length (Prod.snd (Prod.fst d)) ≤ (1048576 : Nat) ∧ (Ty.wf crewT (Prod.fst (assignF (Prod.fst (Prod.fst d),
  Prod.snd (Prod.fst d)) (Prod.fst (Prod.snd d)) (Prod.fst (Prod.snd (Prod.snd d)), Prod.snd (Prod.snd (Prod.snd d))))) ∧ Ty.wf Ty.bool (Prod.snd (assignF (Prod.fst (Prod.fst d), Prod.snd (Prod.fst d)) (Prod.fst
  (Prod.snd d)) (Prod.fst (Prod.snd (Prod.snd d)), Prod.snd (Prod.snd (Prod.snd d))))) → Ty.wf tkT (Prod.fst (Prod.snd (Prod.snd d)), Prod.snd (Prod.snd (Prod.snd d))) → True ∧ ((!decide ((Prod.fst (Prod.fst (assignF
  (Prod.fst (Prod.fst d), Prod.snd (Prod.fst d)) (Prod.fst (Prod.snd d)) (Prod.fst (Prod.snd (Prod.snd d)), Prod.snd (Prod.snd (Prod.snd d))))), Prod.snd (Prod.fst (assignF (Prod.fst (Prod.fst d), Prod.snd (Prod.fst d))
  (Prod.fst (Prod.snd d)) (Prod.fst (Prod.snd (Prod.snd d)), Prod.snd (Prod.snd (Prod.snd d)))))) = (Prod.fst (Prod.fst (assignF (Prod.fst (Prod.fst d), Prod.snd (Prod.fst d)) (Prod.fst (Prod.snd d)) (Prod.fst (Prod.snd
  (Prod.snd d)), Prod.snd (Prod.snd (Prod.snd d))))), Prod.snd (Prod.fst (assignF (Prod.fst (Prod.fst d), Prod.snd (Prod.fst d)) (Prod.fst (Prod.snd d)) (Prod.fst (Prod.snd (Prod.snd d)), Prod.snd (Prod.snd (Prod.snd
  d)))))))) = true → false = true) ∧ ((!decide ((Prod.fst (Prod.fst (assignF (Prod.fst (Prod.fst d), Prod.snd (Prod.fst d)) (Prod.fst (Prod.snd d)) (Prod.fst (Prod.snd (Prod.snd d)), Prod.snd (Prod.snd (Prod.snd d))))),
  Prod.snd (Prod.fst (assignF (Prod.fst (Prod.fst d), Prod.snd (Prod.fst d)) (Prod.fst (Prod.snd d)) (Prod.fst (Prod.snd (Prod.snd d)), Prod.snd (Prod.snd (Prod.snd d)))))) = (Prod.fst (Prod.fst (assignF (Prod.fst
  (Prod.fst d), Prod.snd (Prod.fst d)) (Prod.fst (Prod.snd d)) (Prod.fst (Prod.snd (Prod.snd d)), Prod.snd (Prod.snd (Prod.snd d))))), Prod.snd (Prod.fst (assignF (Prod.fst (Prod.fst d), Prod.snd (Prod.fst d)) (Prod.fst
  (Prod.snd d)) (Prod.fst (Prod.snd (Prod.snd d)), Prod.snd (Prod.snd (Prod.snd d)))))))) = false → ((!Prod.snd (assignF (Prod.fst (Prod.fst d), Prod.snd (Prod.fst d)) (Prod.fst (Prod.snd d)) (Prod.fst (Prod.snd
  (Prod.snd d)), Prod.snd (Prod.snd (Prod.snd d)))) == Prod.snd (assignF (Prod.fst (Prod.fst d), Prod.snd (Prod.fst d)) (Prod.fst (Prod.snd d)) (Prod.fst (Prod.snd (Prod.snd d)), Prod.snd (Prod.snd (Prod.snd d))))) =
  true → false = true) ∧ ((!Prod.snd (assignF (Prod.fst (Prod.fst d), Prod.snd (Prod.fst d)) (Prod.fst (Prod.snd d)) (Prod.fst (Prod.snd (Prod.snd d)), Prod.snd (Prod.snd (Prod.snd d)))) == Prod.snd (assignF (Prod.fst
  (Prod.fst d), Prod.snd (Prod.fst d)) (Prod.fst (Prod.snd d)) (Prod.fst (Prod.snd (Prod.snd d)), Prod.snd (Prod.snd (Prod.snd d))))) = false → List.length (Prod.snd (Prod.fst d)) ≤ (1048576 : Nat) ∧ True ∧ (Ty.wf crewT
  (Prod.fst (Prod.fst d), Prod.snd (Prod.fst d)) → ((!decide ((Prod.fst (Prod.fst d), Prod.snd (Prod.fst d)) = (Prod.fst (Prod.fst d), Prod.snd (Prod.fst d)))) = true → false = true) ∧ ((!decide ((Prod.fst (Prod.fst d),
  Prod.snd (Prod.fst d)) = (Prod.fst (Prod.fst d), Prod.snd (Prod.fst d)))) = false → True ∧ (decide (end3 (Prod.snd (Prod.fst d)) (1 : Int) < (0 : Int)) = true → false = true) ∧ (decide (end3 (Prod.snd (Prod.fst d)) (1
  : Int) < (0 : Int)) = false → True ∧ ((!decide ((Prod.fst (Prod.fst (assignF (Prod.fst (Prod.fst d), Prod.snd (Prod.fst d)) (Prod.fst (Prod.snd d)) (Prod.fst (Prod.snd (Prod.snd d)), Prod.snd (Prod.snd (Prod.snd
  d))))), Prod.snd (Prod.fst (assignF (Prod.fst (Prod.fst d), Prod.snd (Prod.fst d)) (Prod.fst (Prod.snd d)) (Prod.fst (Prod.snd (Prod.snd d)), Prod.snd (Prod.snd (Prod.snd d)))))) = (Prod.fst (Prod.fst (assignF
  (Prod.fst (Prod.fst d), Prod.snd (Prod.fst d)) (Prod.fst (Prod.snd d)) (Prod.fst (Prod.snd (Prod.snd d)), Prod.snd (Prod.snd (Prod.snd d))))), Prod.snd (Prod.fst (assignF (Prod.fst (Prod.fst d), Prod.snd (Prod.fst d))
  (Prod.fst (Prod.snd d)) (Prod.fst (Prod.snd (Prod.snd d)), Prod.snd (Prod.snd (Prod.snd d)))))))) = true → false = true) ∧ ((!decide ((Prod.fst (Prod.fst (assignF (Prod.fst (Prod.fst d), Prod.snd (Prod.fst d))
  (Prod.fst (Prod.snd d)) (Prod.fst (Prod.snd (Prod.snd d)), Prod.snd (Prod.snd (Prod.snd d))))), Prod.snd (Prod.fst (assignF (Prod.fst (Prod.fst d), Prod.snd (Prod.fst d)) (Prod.fst (Prod.snd d)) (Prod.fst (Prod.snd
  (Prod.snd d)), Prod.snd (Prod.snd (Prod.snd d)))))) = (Prod.fst (Prod.fst (assignF (Prod.fst (Prod.fst d), Prod.snd (Prod.fst d)) (Prod.fst (Prod.snd d)) (Prod.fst (Prod.snd (Prod.snd d)), Prod.snd (Prod.snd (Prod.snd
  d))))), Prod.snd (Prod.fst (assignF (Prod.fst (Prod.fst d), Prod.snd (Prod.fst d)) (Prod.fst (Prod.snd d)) (Prod.fst (Prod.snd (Prod.snd d)), Prod.snd (Prod.snd (Prod.snd d)))))))) = false → ((!Prod.snd (assignF
  (Prod.fst (Prod.fst d), Prod.snd (Prod.fst d)) (Prod.fst (Prod.snd d)) (Prod.fst (Prod.snd (Prod.snd d)), Prod.snd (Prod.snd (Prod.snd d)))) == Prod.snd (assignF (Prod.fst (Prod.fst d), Prod.snd (Prod.fst d)) (Prod.fst
  (Prod.snd d)) (Prod.fst (Prod.snd (Prod.snd d)), Prod.snd (Prod.snd (Prod.snd d))))) = true → false = true) ∧ ((!Prod.snd (assignF (Prod.fst (Prod.fst d), Prod.snd (Prod.fst d)) (Prod.fst (Prod.snd d)) (Prod.fst
  (Prod.snd (Prod.snd d)), Prod.snd (Prod.snd (Prod.snd d)))) == Prod.snd (assignF (Prod.fst (Prod.fst d), Prod.snd (Prod.fst d)) (Prod.fst (Prod.snd d)) (Prod.fst (Prod.snd (Prod.snd d)), Prod.snd (Prod.snd (Prod.snd
  d))))) = false → True ∧ True ∧ (Ty.wf i64T (neg1 (held3 (mark3 (Prod.snd (Prod.fst (assignF (Prod.fst (Prod.fst d), Prod.snd (Prod.fst d)) (Prod.fst (Prod.snd d)) (Prod.fst (Prod.snd (Prod.snd d)), Prod.snd (Prod.snd
  (Prod.snd d)))))) (1 : Int)) (1 : Int))) → (decide (neg1 (held3 (mark3 (Prod.snd (Prod.fst (assignF (Prod.fst (Prod.fst d), Prod.snd (Prod.fst d)) (Prod.fst (Prod.snd d)) (Prod.fst (Prod.snd (Prod.snd d)), Prod.snd
  (Prod.snd (Prod.snd d)))))) (1 : Int)) (1 : Int)) < (0 : Int)) = true → false = true) ∧ (decide (neg1 (held3 (mark3 (Prod.snd (Prod.fst (assignF (Prod.fst (Prod.fst d), Prod.snd (Prod.fst d)) (Prod.fst (Prod.snd d))
  (Prod.fst (Prod.snd (Prod.snd d)), Prod.snd (Prod.snd (Prod.snd d)))))) (1 : Int)) (1 : Int)) < (0 : Int)) = false → ((!decide (neg1 (held3 (mark3 (Prod.snd (Prod.fst (assignF (Prod.fst (Prod.fst d), Prod.snd (Prod.fst
  d)) (Prod.fst (Prod.snd d)) (Prod.fst (Prod.snd (Prod.snd d)), Prod.snd (Prod.snd (Prod.snd d)))))) (1 : Int)) (1 : Int)) = end3 (Prod.snd (Prod.fst (assignF (Prod.fst (Prod.fst d), Prod.snd (Prod.fst d)) (Prod.fst
  (Prod.snd d)) (Prod.fst (Prod.snd (Prod.snd d)), Prod.snd (Prod.snd (Prod.snd d)))))) (1 : Int))) = true → false = true) ∧ ((!decide (neg1 (held3 (mark3 (Prod.snd (Prod.fst (assignF (Prod.fst (Prod.fst d), Prod.snd
  (Prod.fst d)) (Prod.fst (Prod.snd d)) (Prod.fst (Prod.snd (Prod.snd d)), Prod.snd (Prod.snd (Prod.snd d)))))) (1 : Int)) (1 : Int)) = end3 (Prod.snd (Prod.fst (assignF (Prod.fst (Prod.fst d), Prod.snd (Prod.fst d))
  (Prod.fst (Prod.snd d)) (Prod.fst (Prod.snd (Prod.snd d)), Prod.snd (Prod.snd (Prod.snd d)))))) (1 : Int))) = false → List.length (Prod.snd (Prod.fst d)) ≤ (1048576 : Nat) ∧ True ∧ List.length (Prod.snd (Prod.fst d)) ≤
  (1048576 : Nat) ∧ (Ty.wf crewT (Prod.fst (assignF (Prod.fst (Prod.fst d), Prod.snd (Prod.fst d)) (Prod.fst (Prod.snd d)) (Prod.fst (Prod.snd (Prod.snd d)), Prod.snd (Prod.snd (Prod.snd d))))) ∧ Ty.wf Ty.bool (Prod.snd
  (assignF (Prod.fst (Prod.fst d), Prod.snd (Prod.fst d)) (Prod.fst (Prod.snd d)) (Prod.fst (Prod.snd (Prod.snd d)), Prod.snd (Prod.snd (Prod.snd d))))) → Ty.wf tkT (Prod.fst (Prod.snd (Prod.snd d)), Prod.snd (Prod.snd
  (Prod.snd d))) → Ty.wf crewT (Prod.fst (Prod.fst d), Prod.snd (Prod.fst d)) → True ∧ ((!decide ((Prod.fst (Prod.fst (assignF (Prod.fst (Prod.fst d), Prod.snd (Prod.fst d)) (Prod.fst (Prod.snd d)) (Prod.fst (Prod.snd
  (Prod.snd d)), Prod.snd (Prod.snd (Prod.snd d))))), Prod.snd (Prod.fst (assignF (Prod.fst (Prod.fst d), Prod.snd (Prod.fst d)) (Prod.fst (Prod.snd d)) (Prod.fst (Prod.snd (Prod.snd d)), Prod.snd (Prod.snd (Prod.snd
  d)))))) = (Prod.fst (Prod.fst (assignF (Prod.fst (Prod.fst d), Prod.snd (Prod.fst d)) (Prod.fst (Prod.snd d)) (Prod.fst (Prod.snd (Prod.snd d)), Prod.snd (Prod.snd (Prod.snd d))))), Prod.snd (Prod.fst (assignF
  (Prod.fst (Prod.fst d), Prod.snd (Prod.fst d)) (Prod.fst (Prod.snd d)) (Prod.fst (Prod.snd (Prod.snd d)), Prod.snd (Prod.snd (Prod.snd d)))))))) = true → false = true) ∧ ((!decide ((Prod.fst (Prod.fst (assignF
  (Prod.fst (Prod.fst d), Prod.snd (Prod.fst d)) (Prod.fst (Prod.snd d)) (Prod.fst (Prod.snd (Prod.snd d)), Prod.snd (Prod.snd (Prod.snd d))))), Prod.snd (Prod.fst (assignF (Prod.fst (Prod.fst d), Prod.snd (Prod.fst d))
  (Prod.fst (Prod.snd d)) (Prod.fst (Prod.snd (Prod.snd d)), Prod.snd (Prod.snd (Prod.snd d)))))) = (Prod.fst (Prod.fst (assignF (Prod.fst (Prod.fst d), Prod.snd (Prod.fst d)) (Prod.fst (Prod.snd d)) (Prod.fst (Prod.snd
  (Prod.snd d)), Prod.snd (Prod.snd (Prod.snd d))))), Prod.snd (Prod.fst (assignF (Prod.fst (Prod.fst d), Prod.snd (Prod.fst d)) (Prod.fst (Prod.snd d)) (Prod.fst (Prod.snd (Prod.snd d)), Prod.snd (Prod.snd (Prod.snd
  d)))))))) = false → ((!Prod.snd (assignF (Prod.fst (Prod.fst d), Prod.snd (Prod.fst d)) (Prod.fst (Prod.snd d)) (Prod.fst (Prod.snd (Prod.snd d)), Prod.snd (Prod.snd (Prod.snd d)))) == Prod.snd (assignF (Prod.fst
  (Prod.fst d), Prod.snd (Prod.fst d)) (Prod.fst (Prod.snd d)) (Prod.fst (Prod.snd (Prod.snd d)), Prod.snd (Prod.snd (Prod.snd d))))) = true → false = true) ∧ ((!Prod.snd (assignF (Prod.fst (Prod.fst d), Prod.snd
  (Prod.fst d)) (Prod.fst (Prod.snd d)) (Prod.fst (Prod.snd (Prod.snd d)), Prod.snd (Prod.snd (Prod.snd d)))) == Prod.snd (assignF (Prod.fst (Prod.fst d), Prod.snd (Prod.fst d)) (Prod.fst (Prod.snd d)) (Prod.fst
  (Prod.snd (Prod.snd d)), Prod.snd (Prod.snd (Prod.snd d))))) = false → True ∧ (Ty.wf i64T (neg1 (held3 (mark3 (Prod.snd (Prod.fst (assignF (Prod.fst (Prod.fst d), Prod.snd (Prod.fst d)) (Prod.fst (Prod.snd d))
  (Prod.fst (Prod.snd (Prod.snd d)), Prod.snd (Prod.snd (Prod.snd d)))))) (1 : Int)) (1 : Int))) → (decide (neg1 (held3 (mark3 (Prod.snd (Prod.fst (assignF (Prod.fst (Prod.fst d), Prod.snd (Prod.fst d)) (Prod.fst
  (Prod.snd d)) (Prod.fst (Prod.snd (Prod.snd d)), Prod.snd (Prod.snd (Prod.snd d)))))) (1 : Int)) (1 : Int)) < (0 : Int)) = true → false = true) ∧ (decide (neg1 (held3 (mark3 (Prod.snd (Prod.fst (assignF (Prod.fst
  (Prod.fst d), Prod.snd (Prod.fst d)) (Prod.fst (Prod.snd d)) (Prod.fst (Prod.snd (Prod.snd d)), Prod.snd (Prod.snd (Prod.snd d)))))) (1 : Int)) (1 : Int)) < (0 : Int)) = false → ((!decide (neg1 (held3 (mark3 (Prod.snd
  (Prod.fst (assignF (Prod.fst (Prod.fst d), Prod.snd (Prod.fst d)) (Prod.fst (Prod.snd d)) (Prod.fst (Prod.snd (Prod.snd d)), Prod.snd (Prod.snd (Prod.snd d)))))) (1 : Int)) (1 : Int)) = end3 (Prod.snd (Prod.fst
  (assignF (Prod.fst (Prod.fst d), Prod.snd (Prod.fst d)) (Prod.fst (Prod.snd d)) (Prod.fst (Prod.snd (Prod.snd d)), Prod.snd (Prod.snd (Prod.snd d)))))) (1 : Int))) = true → false = true) ∧ ((!decide (neg1 (held3 (mark3
  (Prod.snd (Prod.fst (assignF (Prod.fst (Prod.fst d), Prod.snd (Prod.fst d)) (Prod.fst (Prod.snd d)) (Prod.fst (Prod.snd (Prod.snd d)), Prod.snd (Prod.snd (Prod.snd d)))))) (1 : Int)) (1 : Int)) = end3 (Prod.snd
  (Prod.fst (assignF (Prod.fst (Prod.fst d), Prod.snd (Prod.fst d)) (Prod.fst (Prod.snd d)) (Prod.fst (Prod.snd (Prod.snd d)), Prod.snd (Prod.snd (Prod.snd d)))))) (1 : Int))) = false → true = true))))))))))))))))))))) := by
  intro (d : (Int × List Hd) × Int × Int × Int) hw hp
  obtain ⟨⟨p, xs⟩, t, i, c⟩ := d
  have hl : xs.length ≤ 9223372036854775807 := hw.1.2.1
  have h1 := sz_room hl
  have hg : (assignF (p, xs) t (i, c)).1.2.length = xs.length := assign_len (p, xs) t (i, c)
  simp only [Int.toNat_natCast, exists_const, and_true, true_and, implies_true, decide_eq_true_eq, decide_eq_false_iff_not, Bool.not_eq_true', Bool.not_eq_false', beq_iff_eq, forall_const]
  generalize assignF (p, xs) t (i, c) = g at *
  obtain ⟨⟨gp, gs⟩, gb⟩ := g
  simp only at *
  simp only [decide_true, Bool.not_true, Bool.true_eq_false, Bool.false_eq_true, false_implies, and_true, true_and, implies_true, beq_self_eq_true, not_true_eq_false]
  intro _ hz
  have hx : xs.length ≤ 1048576 := by omega
  obtain ⟨g1, g2⟩ := held_pos (xs := gs) (by omega)
  have g3 := end_pos (xs := xs) (by omega)
  rw [g1]
  grind
end Go.SF
