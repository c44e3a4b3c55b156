/- What is owed of the law's code: FnExactTicksLeft. No condition. -/
import Derived.Test.YtpoiljbejllmiaaSxPCrew
namespace Go.SF
open Go.SX Go
set_option linter.unusedVariables false
set_option linter.unusedSimpArgs false
theorem v_FnExactTicksLeft :
  ∀ (d : Int × List (Int × Int × Int)), Ty.wf crewT d → True → True ∧ (Ty.wf i64T (szF (List.length (Prod.snd d)) (1048576 : Int)) → (decide (szF (List.length (Prod.snd d)) (1048576 : Int) < (0 : Int)) = true → true =
  true) ∧ (decide (szF (List.length (Prod.snd d)) (1048576 : Int) < (0 : Int)) = false → List.length (Prod.snd d) ≤ (1048576 : Nat) ∧ (Ty.wf crewT (Prod.fst d, Prod.snd d) → True ∧ (Ty.wf i64T (ticksF (Prod.fst d,
  Prod.snd d)) → List.length (Prod.snd d) ≤ (1048576 : Nat) ∧ (Ty.wf crewT (Prod.fst d, Prod.snd d) → True ∧ (Ty.wf i64T (ticksF (Prod.fst d, Prod.snd d)) → ((!decide (ticksF (Prod.fst d, Prod.snd d) = ticksF (Prod.fst
  d, Prod.snd d))) = true → false = true) ∧ ((!decide (ticksF (Prod.fst d, Prod.snd d) = ticksF (Prod.fst d, Prod.snd d))) = false → List.length (Prod.snd d) ≤ (1048576 : Nat) ∧ True ∧ (Ty.wf crewT (Prod.fst d, Prod.snd
  d) → ((!decide ((Prod.fst d, Prod.snd d) = (Prod.fst d, Prod.snd d))) = true → false = true) ∧ ((!decide ((Prod.fst d, Prod.snd d) = (Prod.fst d, Prod.snd d))) = false → true = true))))))))) := by
  intro (d : Int × List Hd) hw hp
  obtain ⟨p, xs⟩ := d
  have hl : xs.length ≤ 9223372036854775807 := hw.2.1
  have h1 := sz_room hl
  simp only [Int.toNat_natCast, exists_const, and_true, true_and, implies_true, decide_eq_true_eq, decide_eq_false_iff_not, Bool.not_eq_true', Bool.not_eq_false', beq_iff_eq, forall_const]
  simp only [decide_true, Bool.not_true, Bool.true_eq_false, Bool.false_eq_true, false_implies, and_true, true_and, implies_true, beq_self_eq_true, not_true_eq_false]
  grind
end Go.SF
