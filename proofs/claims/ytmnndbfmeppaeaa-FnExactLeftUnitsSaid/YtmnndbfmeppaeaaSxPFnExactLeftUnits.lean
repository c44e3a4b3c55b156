/- What is owed of the law's code: FnExactLeftUnits. No condition. -/
import Derived.Test.YtmnndbfmeppaeaaSxPPlanC
namespace Go.SF
open Go.SX Go
set_option linter.unusedVariables false
set_option linter.unusedSimpArgs false
set_option maxRecDepth 10000
theorem v_FnExactLeftUnits :
  ∀ (d : (Int × Int × List (Int × Int × Int)) × List Int × Int), Ty.wf turnT d → True → True ∧ (Ty.wf i64T (szTnF ((Prod.fst (Prod.fst d), Prod.fst (Prod.snd (Prod.fst d)), Prod.snd (Prod.snd (Prod.fst d))), Prod.fst
  (Prod.snd d), Prod.snd (Prod.snd d)) (1048576 : Int)) → (decide (szTnF ((Prod.fst (Prod.fst d), Prod.fst (Prod.snd (Prod.fst d)), Prod.snd (Prod.snd (Prod.fst d))), Prod.fst (Prod.snd d), Prod.snd (Prod.snd d))
  (1048576 : Int) < (0 : Int)) = true → true = true) ∧ (decide (szTnF ((Prod.fst (Prod.fst d), Prod.fst (Prod.snd (Prod.fst d)), Prod.snd (Prod.snd (Prod.fst d))), Prod.fst (Prod.snd d), Prod.snd (Prod.snd d)) (1048576 :
  Int) < (0 : Int)) = false → (List.length (Prod.snd (Prod.snd (Prod.fst d))) ≤ (1048576 : Nat) ∧ List.length (Prod.fst (Prod.snd d)) ≤ (1048576 : Nat)) ∧ (Ty.wf turnT ((Prod.fst (Prod.fst d), Prod.fst (Prod.snd
  (Prod.fst d)), Prod.snd (Prod.snd (Prod.fst d))), Prod.fst (Prod.snd d), Prod.snd (Prod.snd d)) → True ∧ (Ty.wf i64T (leftF ((Prod.fst (Prod.fst d), Prod.fst (Prod.snd (Prod.fst d)), Prod.snd (Prod.snd (Prod.fst d))),
  Prod.fst (Prod.snd d), Prod.snd (Prod.snd d))) → (List.length (Prod.snd (Prod.snd (Prod.fst d))) ≤ (1048576 : Nat) ∧ List.length (Prod.fst (Prod.snd d)) ≤ (1048576 : Nat)) ∧ (Ty.wf turnT ((Prod.fst (Prod.fst d),
  Prod.fst (Prod.snd (Prod.fst d)), Prod.snd (Prod.snd (Prod.fst d))), Prod.fst (Prod.snd d), Prod.snd (Prod.snd d)) → True ∧ (Ty.wf i64T (leftF ((Prod.fst (Prod.fst d), Prod.fst (Prod.snd (Prod.fst d)), Prod.snd
  (Prod.snd (Prod.fst d))), Prod.fst (Prod.snd d), Prod.snd (Prod.snd d))) → ((!decide (leftF ((Prod.fst (Prod.fst d), Prod.fst (Prod.snd (Prod.fst d)), Prod.snd (Prod.snd (Prod.fst d))), Prod.fst (Prod.snd d), Prod.snd
  (Prod.snd d)) = leftF ((Prod.fst (Prod.fst d), Prod.fst (Prod.snd (Prod.fst d)), Prod.snd (Prod.snd (Prod.fst d))), Prod.fst (Prod.snd d), Prod.snd (Prod.snd d)))) = true → false = true) ∧ ((!decide (leftF ((Prod.fst
  (Prod.fst d), Prod.fst (Prod.snd (Prod.fst d)), Prod.snd (Prod.snd (Prod.fst d))), Prod.fst (Prod.snd d), Prod.snd (Prod.snd d)) = leftF ((Prod.fst (Prod.fst d), Prod.fst (Prod.snd (Prod.fst d)), Prod.snd (Prod.snd
  (Prod.fst d))), Prod.fst (Prod.snd d), Prod.snd (Prod.snd d)))) = false → (List.length (Prod.snd (Prod.snd (Prod.fst d))) ≤ (1048576 : Nat) ∧ List.length (Prod.fst (Prod.snd d)) ≤ (1048576 : Nat)) ∧ True ∧ (Ty.wf turnT
  ((Prod.fst (Prod.fst d), Prod.fst (Prod.snd (Prod.fst d)), Prod.snd (Prod.snd (Prod.fst d))), Prod.fst (Prod.snd d), Prod.snd (Prod.snd d)) → ((!decide (((Prod.fst (Prod.fst d), Prod.fst (Prod.snd (Prod.fst d)),
  Prod.snd (Prod.snd (Prod.fst d))), Prod.fst (Prod.snd d), Prod.snd (Prod.snd d)) = ((Prod.fst (Prod.fst d), Prod.fst (Prod.snd (Prod.fst d)), Prod.snd (Prod.snd (Prod.fst d))), Prod.fst (Prod.snd d), Prod.snd (Prod.snd
  d)))) = true → false = true) ∧ ((!decide (((Prod.fst (Prod.fst d), Prod.fst (Prod.snd (Prod.fst d)), Prod.snd (Prod.snd (Prod.fst d))), Prod.fst (Prod.snd d), Prod.snd (Prod.snd d)) = ((Prod.fst (Prod.fst d), Prod.fst
  (Prod.snd (Prod.fst d)), Prod.snd (Prod.snd (Prod.fst d))), Prod.fst (Prod.snd d), Prod.snd (Prod.snd d)))) = false → true = true))))))))) := by
  intro (d : Tn) hw hp
  have hl1 : d.1.2.2.length ≤ 9223372036854775807 := hw.1.2.2.1
  have hl2 : d.2.1.length ≤ 9223372036854775807 := hw.2.1.1
  simp only [Int.toNat_natCast, exists_const, and_true, true_and, implies_true, decide_eq_true_eq, decide_eq_false_iff_not, Bool.not_eq_true', Bool.not_eq_false', beq_iff_eq, forall_const]
  intro _ hz
  have hr := tn_room hl1 hl2 hz
  simp [hr.1, hr.2]
end Go.SF
