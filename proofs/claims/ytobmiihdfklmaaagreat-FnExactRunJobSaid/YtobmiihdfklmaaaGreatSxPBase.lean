/- What is owed of the code of shared functions. No condition. -/
import Derived.Test.YtobmiihdfklmaaaGreatSxC
namespace Go.SF
open Go.SX Go
set_option linter.unusedVariables false
set_option linter.unusedSimpArgs false
theorem v_S_l01In :
 ∀ (d : Ty.den i64T × Tup [i64T, i64T]), Ty.wf i64T d.1 ∧ Ty.wf i64T d.2.1 ∧ Ty.wf i64T d.2.2 → True → (decide (d.2.1 ≤ d.1) = true → decide (d.1 ≤ d.2.2) = (decide (d.2.1 ≤ d.1) && decide (d.1 ≤ d.2.2))) ∧ (decide
 (d.2.1 ≤ d.1) = false → false = (decide (d.2.1 ≤ d.1) && decide (d.1 ≤ d.2.2))) := by
  intro d _ _
  obtain ⟨a, b, c⟩ := d
  grind
end Go.SF
