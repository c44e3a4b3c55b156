/- What is owed of the law's code: FnExactAhead. No condition. -/
import Derived.Test.YtoikbmdjancdcaaSxPLine
namespace Go.SF
open Go.SX Go
set_option linter.unusedVariables false
set_option linter.unusedSimpArgs false
theorem v_FnExactAhead :
  ∀ (d : Ty.den lineT × Tup [i64T]), Ty.wf lineT (Prod.fst d) ∧ Ty.wf i64T (Prod.snd d) → True → True ∧ (Ty.wf i64T (szF (List.length (Prod.fst d)) (1048576 : Int)) → (decide (szF (List.length (Prod.fst d)) (1048576 :
  Int) < (0 : Int)) = true → true = true) ∧ (decide (szF (List.length (Prod.fst d)) (1048576 : Int) < (0 : Int)) = false → List.length (Prod.fst d) ≤ (1048576 : Nat) ∧ (Ty.wf lineT (Prod.fst d) → True ∧ (Ty.wf i64T
  (aheadF (Prod.fst d) (Prod.snd d)) → List.length (Prod.fst d) ≤ (1048576 : Nat) ∧ (Ty.wf lineT (Prod.fst d) → True ∧ (Ty.wf i64T (aheadF (Prod.fst d) (Prod.snd d)) → ((!decide (aheadF (Prod.fst d) (Prod.snd d) = aheadF
  (Prod.fst d) (Prod.snd d))) = true → false = true) ∧ ((!decide (aheadF (Prod.fst d) (Prod.snd d) = aheadF (Prod.fst d) (Prod.snd d))) = false → List.length (Prod.fst d) ≤ (1048576 : Nat) ∧ True ∧ (Ty.wf lineT (Prod.fst
  d) → ((!decide (Prod.fst d = Prod.fst d)) = true → false = true) ∧ ((!decide (Prod.fst d = Prod.fst d)) = false → true = true))))))))) := by
  intro d hw hp
  obtain ⟨xs, id⟩ := d
  have hl : xs.length ≤ 9223372036854775807 := hw.1.1
  have h1 := sz_room hl
  simp only [decide_eq_true_eq, decide_eq_false_iff_not, decide_true, Bool.not_true, true_and, implies_true]
  refine fun _ h => ⟨by omega, fun _ _ => ⟨by omega, fun _ _ => ⟨nofun, fun _ => ⟨by omega, fun _ => ⟨nofun, trivial⟩⟩⟩⟩⟩
end Go.SF
