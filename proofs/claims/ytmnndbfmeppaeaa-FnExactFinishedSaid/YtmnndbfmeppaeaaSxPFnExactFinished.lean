/- What is owed of the law's code: FnExactFinished. No condition. -/
import Derived.Test.YtmnndbfmeppaeaaSxPPlan2
namespace Go.SF
open Go.SX Go
set_option linter.unusedVariables false
set_option linter.unusedSimpArgs false
set_option maxRecDepth 10000
theorem v_FnExactFinished :
  ∀ (d : (Int × Int × List (Int × Int × Int)) × List Int × Int), Ty.wf turnT d → True → True ∧ (Ty.wf i64T (szTnF ((Prod.fst (Prod.fst d), Prod.fst (Prod.snd (Prod.fst d)), Prod.snd (Prod.snd (Prod.fst d))), Prod.fst
  (Prod.snd d), Prod.snd (Prod.snd d)) (1048576 : Int)) → (decide (szTnF ((Prod.fst (Prod.fst d), Prod.fst (Prod.snd (Prod.fst d)), Prod.snd (Prod.snd (Prod.fst d))), Prod.fst (Prod.snd d), Prod.snd (Prod.snd d))
  (1048576 : Int) < (0 : Int)) = true → true = true) ∧ (decide (szTnF ((Prod.fst (Prod.fst d), Prod.fst (Prod.snd (Prod.fst d)), Prod.snd (Prod.snd (Prod.fst d))), Prod.fst (Prod.snd d), Prod.snd (Prod.snd d)) (1048576 :
  Int) < (0 : Int)) = false → (List.length (Prod.snd (Prod.snd (Prod.fst d))) ≤ (1048576 : Nat) ∧ List.length (Prod.fst (Prod.snd d)) ≤ (1048576 : Nat)) ∧ (Ty.wf turnT ((Prod.fst (Prod.fst d), Prod.fst (Prod.snd
  (Prod.fst d)), Prod.snd (Prod.snd (Prod.fst d))), Prod.fst (Prod.snd d), Prod.snd (Prod.snd d)) → List.length (Prod.fst (Prod.snd d)) ≤ (1048576 : Nat) ∧ (Ty.wf listT (Prod.fst (finF ((Prod.fst (Prod.fst d), Prod.fst
  (Prod.snd (Prod.fst d)), Prod.snd (Prod.snd (Prod.fst d))), Prod.fst (Prod.snd d), Prod.snd (Prod.snd d)))) ∧ Ty.wf Ty.bool (Prod.snd (finF ((Prod.fst (Prod.fst d), Prod.fst (Prod.snd (Prod.fst d)), Prod.snd (Prod.snd
  (Prod.fst d))), Prod.fst (Prod.snd d), Prod.snd (Prod.snd d)))) → (List.length (Prod.snd (Prod.snd (Prod.fst d))) ≤ (1048576 : Nat) ∧ List.length (Prod.fst (Prod.snd d)) ≤ (1048576 : Nat)) ∧ (Ty.wf turnT ((Prod.fst
  (Prod.fst d), Prod.fst (Prod.snd (Prod.fst d)), Prod.snd (Prod.snd (Prod.fst d))), Prod.fst (Prod.snd d), Prod.snd (Prod.snd d)) → List.length (Prod.fst (Prod.snd d)) ≤ (1048576 : Nat) ∧ (Ty.wf listT (Prod.fst (finF
  ((Prod.fst (Prod.fst d), Prod.fst (Prod.snd (Prod.fst d)), Prod.snd (Prod.snd (Prod.fst d))), Prod.fst (Prod.snd d), Prod.snd (Prod.snd d)))) ∧ Ty.wf Ty.bool (Prod.snd (finF ((Prod.fst (Prod.fst d), Prod.fst (Prod.snd
  (Prod.fst d)), Prod.snd (Prod.snd (Prod.fst d))), Prod.fst (Prod.snd d), Prod.snd (Prod.snd d)))) → True ∧ ((!decide (Prod.fst (finF ((Prod.fst (Prod.fst d), Prod.fst (Prod.snd (Prod.fst d)), Prod.snd (Prod.snd
  (Prod.fst d))), Prod.fst (Prod.snd d), Prod.snd (Prod.snd d))) = Prod.fst (finF ((Prod.fst (Prod.fst d), Prod.fst (Prod.snd (Prod.fst d)), Prod.snd (Prod.snd (Prod.fst d))), Prod.fst (Prod.snd d), Prod.snd (Prod.snd
  d))))) = true → false = true) ∧ ((!decide (Prod.fst (finF ((Prod.fst (Prod.fst d), Prod.fst (Prod.snd (Prod.fst d)), Prod.snd (Prod.snd (Prod.fst d))), Prod.fst (Prod.snd d), Prod.snd (Prod.snd d))) = Prod.fst (finF
  ((Prod.fst (Prod.fst d), Prod.fst (Prod.snd (Prod.fst d)), Prod.snd (Prod.snd (Prod.fst d))), Prod.fst (Prod.snd d), Prod.snd (Prod.snd d))))) = false → ((!Prod.snd (finF ((Prod.fst (Prod.fst d), Prod.fst (Prod.snd
  (Prod.fst d)), Prod.snd (Prod.snd (Prod.fst d))), Prod.fst (Prod.snd d), Prod.snd (Prod.snd d))) == Prod.snd (finF ((Prod.fst (Prod.fst d), Prod.fst (Prod.snd (Prod.fst d)), Prod.snd (Prod.snd (Prod.fst d))), Prod.fst
  (Prod.snd d), Prod.snd (Prod.snd d)))) = true → false = true) ∧ ((!Prod.snd (finF ((Prod.fst (Prod.fst d), Prod.fst (Prod.snd (Prod.fst d)), Prod.snd (Prod.snd (Prod.fst d))), Prod.fst (Prod.snd d), Prod.snd (Prod.snd
  d))) == Prod.snd (finF ((Prod.fst (Prod.fst d), Prod.fst (Prod.snd (Prod.fst d)), Prod.snd (Prod.snd (Prod.fst d))), Prod.fst (Prod.snd d), Prod.snd (Prod.snd d)))) = false → (List.length (Prod.snd (Prod.snd (Prod.fst
  d))) ≤ (1048576 : Nat) ∧ List.length (Prod.fst (Prod.snd d)) ≤ (1048576 : Nat)) ∧ True ∧ (Ty.wf turnT ((Prod.fst (Prod.fst d), Prod.fst (Prod.snd (Prod.fst d)), Prod.snd (Prod.snd (Prod.fst d))), Prod.fst (Prod.snd d),
  Prod.snd (Prod.snd d)) → ((!decide (((Prod.fst (Prod.fst d), Prod.fst (Prod.snd (Prod.fst d)), Prod.snd (Prod.snd (Prod.fst d))), Prod.fst (Prod.snd d), Prod.snd (Prod.snd d)) = ((Prod.fst (Prod.fst d), Prod.fst
  (Prod.snd (Prod.fst d)), Prod.snd (Prod.snd (Prod.fst d))), Prod.fst (Prod.snd d), Prod.snd (Prod.snd d)))) = true → false = true) ∧ ((!decide (((Prod.fst (Prod.fst d), Prod.fst (Prod.snd (Prod.fst d)), Prod.snd
  (Prod.snd (Prod.fst d))), Prod.fst (Prod.snd d), Prod.snd (Prod.snd d)) = ((Prod.fst (Prod.fst d), Prod.fst (Prod.snd (Prod.fst d)), Prod.snd (Prod.snd (Prod.fst d))), Prod.fst (Prod.snd d), Prod.snd (Prod.snd d)))) =
  false → True ∧ (decide (end1 (Prod.fst (Prod.snd d)) (end3 (Prod.snd (Prod.snd (Prod.fst d))) (1 : Int)) < (0 : Int)) = true → false = true) ∧ (decide (end1 (Prod.fst (Prod.snd d)) (end3 (Prod.snd (Prod.snd (Prod.fst
  d))) (1 : Int)) < (0 : Int)) = false → True ∧ ((!decide (Prod.fst (finF ((Prod.fst (Prod.fst d), Prod.fst (Prod.snd (Prod.fst d)), Prod.snd (Prod.snd (Prod.fst d))), Prod.fst (Prod.snd d), Prod.snd (Prod.snd d))) =
  Prod.fst (finF ((Prod.fst (Prod.fst d), Prod.fst (Prod.snd (Prod.fst d)), Prod.snd (Prod.snd (Prod.fst d))), Prod.fst (Prod.snd d), Prod.snd (Prod.snd d))))) = true → false = true) ∧ ((!decide (Prod.fst (finF
  ((Prod.fst (Prod.fst d), Prod.fst (Prod.snd (Prod.fst d)), Prod.snd (Prod.snd (Prod.fst d))), Prod.fst (Prod.snd d), Prod.snd (Prod.snd d))) = Prod.fst (finF ((Prod.fst (Prod.fst d), Prod.fst (Prod.snd (Prod.fst d)),
  Prod.snd (Prod.snd (Prod.fst d))), Prod.fst (Prod.snd d), Prod.snd (Prod.snd d))))) = false → ((!Prod.snd (finF ((Prod.fst (Prod.fst d), Prod.fst (Prod.snd (Prod.fst d)), Prod.snd (Prod.snd (Prod.fst d))), Prod.fst
  (Prod.snd d), Prod.snd (Prod.snd d))) == Prod.snd (finF ((Prod.fst (Prod.fst d), Prod.fst (Prod.snd (Prod.fst d)), Prod.snd (Prod.snd (Prod.fst d))), Prod.fst (Prod.snd d), Prod.snd (Prod.snd d)))) = true → false =
  true) ∧ ((!Prod.snd (finF ((Prod.fst (Prod.fst d), Prod.fst (Prod.snd (Prod.fst d)), Prod.snd (Prod.snd (Prod.fst d))), Prod.fst (Prod.snd d), Prod.snd (Prod.snd d))) == Prod.snd (finF ((Prod.fst (Prod.fst d), Prod.fst
  (Prod.snd (Prod.fst d)), Prod.snd (Prod.snd (Prod.fst d))), Prod.fst (Prod.snd d), Prod.snd (Prod.snd d)))) = false → True ∧ True ∧ (Ty.wf i64T (held1 (mark1 (Prod.fst (finF ((Prod.fst (Prod.fst d), Prod.fst (Prod.snd
  (Prod.fst d)), Prod.snd (Prod.snd (Prod.fst d))), Prod.fst (Prod.snd d), Prod.snd (Prod.snd d)))) (1 : Int)) (1 : Int)) → (decide (held1 (mark1 (Prod.fst (finF ((Prod.fst (Prod.fst d), Prod.fst (Prod.snd (Prod.fst d)),
  Prod.snd (Prod.snd (Prod.fst d))), Prod.fst (Prod.snd d), Prod.snd (Prod.snd d)))) (1 : Int)) (1 : Int) < (0 : Int)) = true → false = true) ∧ (decide (held1 (mark1 (Prod.fst (finF ((Prod.fst (Prod.fst d), Prod.fst
  (Prod.snd (Prod.fst d)), Prod.snd (Prod.snd (Prod.fst d))), Prod.fst (Prod.snd d), Prod.snd (Prod.snd d)))) (1 : Int)) (1 : Int) < (0 : Int)) = false → ((!decide (held1 (mark1 (Prod.fst (finF ((Prod.fst (Prod.fst d),
  Prod.fst (Prod.snd (Prod.fst d)), Prod.snd (Prod.snd (Prod.fst d))), Prod.fst (Prod.snd d), Prod.snd (Prod.snd d)))) (1 : Int)) (1 : Int) = end1 (Prod.fst (finF ((Prod.fst (Prod.fst d), Prod.fst (Prod.snd (Prod.fst
  d)), Prod.snd (Prod.snd (Prod.fst d))), Prod.fst (Prod.snd d), Prod.snd (Prod.snd d)))) (1 : Int))) = true → false = true) ∧ ((!decide (held1 (mark1 (Prod.fst (finF ((Prod.fst (Prod.fst d), Prod.fst (Prod.snd (Prod.fst
  d)), Prod.snd (Prod.snd (Prod.fst d))), Prod.fst (Prod.snd d), Prod.snd (Prod.snd d)))) (1 : Int)) (1 : Int) = end1 (Prod.fst (finF ((Prod.fst (Prod.fst d), Prod.fst (Prod.snd (Prod.fst d)), Prod.snd (Prod.snd
  (Prod.fst d))), Prod.fst (Prod.snd d), Prod.snd (Prod.snd d)))) (1 : Int))) = false → (List.length (Prod.snd (Prod.snd (Prod.fst d))) ≤ (1048576 : Nat) ∧ List.length (Prod.fst (Prod.snd d)) ≤ (1048576 : Nat)) ∧ (Ty.wf
  turnT ((Prod.fst (Prod.fst d), Prod.fst (Prod.snd (Prod.fst d)), Prod.snd (Prod.snd (Prod.fst d))), Prod.fst (Prod.snd d), Prod.snd (Prod.snd d)) → List.length (Prod.fst (Prod.snd d)) ≤ (1048576 : Nat) ∧ (Ty.wf listT
  (Prod.fst (finF ((Prod.fst (Prod.fst d), Prod.fst (Prod.snd (Prod.fst d)), Prod.snd (Prod.snd (Prod.fst d))), Prod.fst (Prod.snd d), Prod.snd (Prod.snd d)))) ∧ Ty.wf Ty.bool (Prod.snd (finF ((Prod.fst (Prod.fst d),
  Prod.fst (Prod.snd (Prod.fst d)), Prod.snd (Prod.snd (Prod.fst d))), Prod.fst (Prod.snd d), Prod.snd (Prod.snd d)))) → True ∧ ((!decide (Prod.fst (finF ((Prod.fst (Prod.fst d), Prod.fst (Prod.snd (Prod.fst d)),
  Prod.snd (Prod.snd (Prod.fst d))), Prod.fst (Prod.snd d), Prod.snd (Prod.snd d))) = Prod.fst (finF ((Prod.fst (Prod.fst d), Prod.fst (Prod.snd (Prod.fst d)), Prod.snd (Prod.snd (Prod.fst d))), Prod.fst (Prod.snd d),
  Prod.snd (Prod.snd d))))) = true → false = true) ∧ ((!decide (Prod.fst (finF ((Prod.fst (Prod.fst d), Prod.fst (Prod.snd (Prod.fst d)), Prod.snd (Prod.snd (Prod.fst d))), Prod.fst (Prod.snd d), Prod.snd (Prod.snd d)))
  = Prod.fst (finF ((Prod.fst (Prod.fst d), Prod.fst (Prod.snd (Prod.fst d)), Prod.snd (Prod.snd (Prod.fst d))), Prod.fst (Prod.snd d), Prod.snd (Prod.snd d))))) = false → ((!Prod.snd (finF ((Prod.fst (Prod.fst d),
  Prod.fst (Prod.snd (Prod.fst d)), Prod.snd (Prod.snd (Prod.fst d))), Prod.fst (Prod.snd d), Prod.snd (Prod.snd d))) == Prod.snd (finF ((Prod.fst (Prod.fst d), Prod.fst (Prod.snd (Prod.fst d)), Prod.snd (Prod.snd
  (Prod.fst d))), Prod.fst (Prod.snd d), Prod.snd (Prod.snd d)))) = true → false = true) ∧ ((!Prod.snd (finF ((Prod.fst (Prod.fst d), Prod.fst (Prod.snd (Prod.fst d)), Prod.snd (Prod.snd (Prod.fst d))), Prod.fst
  (Prod.snd d), Prod.snd (Prod.snd d))) == Prod.snd (finF ((Prod.fst (Prod.fst d), Prod.fst (Prod.snd (Prod.fst d)), Prod.snd (Prod.snd (Prod.fst d))), Prod.fst (Prod.snd d), Prod.snd (Prod.snd d)))) = false → True ∧
  (Ty.wf i64T (held1 (mark1 (Prod.fst (finF ((Prod.fst (Prod.fst d), Prod.fst (Prod.snd (Prod.fst d)), Prod.snd (Prod.snd (Prod.fst d))), Prod.fst (Prod.snd d), Prod.snd (Prod.snd d)))) (1 : Int)) (1 : Int)) → (decide
  (held1 (mark1 (Prod.fst (finF ((Prod.fst (Prod.fst d), Prod.fst (Prod.snd (Prod.fst d)), Prod.snd (Prod.snd (Prod.fst d))), Prod.fst (Prod.snd d), Prod.snd (Prod.snd d)))) (1 : Int)) (1 : Int) < (0 : Int)) = true →
  false = true) ∧ (decide (held1 (mark1 (Prod.fst (finF ((Prod.fst (Prod.fst d), Prod.fst (Prod.snd (Prod.fst d)), Prod.snd (Prod.snd (Prod.fst d))), Prod.fst (Prod.snd d), Prod.snd (Prod.snd d)))) (1 : Int)) (1 : Int) <
  (0 : Int)) = false → ((!decide (held1 (mark1 (Prod.fst (finF ((Prod.fst (Prod.fst d), Prod.fst (Prod.snd (Prod.fst d)), Prod.snd (Prod.snd (Prod.fst d))), Prod.fst (Prod.snd d), Prod.snd (Prod.snd d)))) (1 : Int)) (1 :
  Int) = end1 (Prod.fst (finF ((Prod.fst (Prod.fst d), Prod.fst (Prod.snd (Prod.fst d)), Prod.snd (Prod.snd (Prod.fst d))), Prod.fst (Prod.snd d), Prod.snd (Prod.snd d)))) (1 : Int))) = true → false = true) ∧ ((!decide
  (held1 (mark1 (Prod.fst (finF ((Prod.fst (Prod.fst d), Prod.fst (Prod.snd (Prod.fst d)), Prod.snd (Prod.snd (Prod.fst d))), Prod.fst (Prod.snd d), Prod.snd (Prod.snd d)))) (1 : Int)) (1 : Int) = end1 (Prod.fst (finF
  ((Prod.fst (Prod.fst d), Prod.fst (Prod.snd (Prod.fst d)), Prod.snd (Prod.snd (Prod.fst d))), Prod.fst (Prod.snd d), Prod.snd (Prod.snd d)))) (1 : Int))) = false → true = true))))))))))))))))))))))) := by
  intro (d : Tn) hw hp
  obtain ⟨⟨f, k, xs⟩, v, n⟩ := d
  have hl1 : xs.length ≤ 9223372036854775807 := hw.1.2.2.1
  have hl2 : v.length ≤ 9223372036854775807 := hw.2.1.1
  have hroom := tn_room (t := ((f, k, xs), v, n)) hl1 hl2
  have hg : (finF ((f, k, xs), v, n)).1.length ≤ v.length := by unfold finF; split <;> simp
  simp only [Int.toNat_natCast, exists_const, and_true, true_and, implies_true, decide_eq_true_eq, decide_eq_false_iff_not, Bool.not_eq_true', Bool.not_eq_false', beq_iff_eq, forall_const]
  generalize finF ((f, k, xs), v, n) = g at *
  obtain ⟨gs, gb⟩ := g
  simp only at *
  simp only [decide_true, Bool.not_true, Bool.true_eq_false, Bool.false_eq_true, false_implies, and_true, true_and, implies_true, beq_self_eq_true, not_true_eq_false]
  intro _ hz
  obtain ⟨hx, hv⟩ := hroom hz
  have e1 := end3_small xs (k := 1) (by omega) (by omega)
  have e2 := end1_small v (k := end3 xs 1) (by omega) (by omega)
  have e3 := end1_small gs (k := 1) (by omega) (by omega)
  rw [held1_mark]
  have k1 : ¬ end1 v (end3 xs 1) < 0 := by omega
  have k2 : ¬ end1 gs 1 < 0 := by omega
  simp only [hx, hv, k1, k2, true_and, and_true, implies_true, false_implies, not_true_eq_false, not_false_eq_true, forall_const, true_implies]
end Go.SF
