/- What is owed of the law's code: FnExactLineCost. No condition. -/
import Derived.Test.YtoikbmdjancdcaaSxPLine
namespace Go.SF
open Go.SX Go
set_option linter.unusedVariables false
set_option linter.unusedSimpArgs false
theorem sz_room {n : Nat} (hl : n ≤ 9223372036854775807) : szF n 1048576 < 0 ∨ n ≤ 1048576 := by
  unfold szF w64
  rw [wrap_small (by omega)]
  split <;> omega
theorem v_FnExactLineCost :
  ∀ (d : List (Ty.den tkT)), Ty.wf lineT d → True → True ∧ (Ty.wf i64T (szF (List.length d) (1048576 : Int)) → (decide (szF (List.length d) (1048576 : Int) < (0 : Int)) = true → true = true) ∧ (decide (szF (List.length
  d) (1048576 : Int) < (0 : Int)) = false → List.length d ≤ (1048576 : Nat) ∧ (Ty.wf lineT d → True ∧ (Ty.wf i64T (lineCostF d) → List.length d ≤ (1048576 : Nat) ∧ (Ty.wf lineT d → True ∧ (Ty.wf i64T (lineCostF d) →
  ((!decide (lineCostF d = lineCostF d)) = true → false = true) ∧ ((!decide (lineCostF d = lineCostF d)) = false → List.length d ≤ (1048576 : Nat) ∧ True ∧ (Ty.wf lineT d → ((!decide (d = d)) = true → false = true) ∧
  ((!decide (d = d)) = false → true = true))))))))) := by
  intro d hw hp
  have hl : d.length ≤ 9223372036854775807 := hw.1
  have h1 := sz_room hl
  simp only [decide_eq_true_eq, decide_eq_false_iff_not, decide_true, Bool.not_true, true_and, implies_true]
  refine fun _ h => ⟨by omega, fun _ _ => ⟨by omega, fun _ _ => ⟨nofun, fun _ => ⟨by omega, fun _ => ⟨nofun, trivial⟩⟩⟩⟩⟩
end Go.SF
