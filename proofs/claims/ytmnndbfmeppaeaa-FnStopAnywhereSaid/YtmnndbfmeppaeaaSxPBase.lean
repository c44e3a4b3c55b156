/- What is owed of the code of shared functions. No condition. -/
import Derived.Test.YtmnndbfmeppaeaaSxC
namespace Go.SF
open Go.SX Go
set_option linter.unusedVariables false
set_option linter.unusedSimpArgs false
theorem v_S_l01In :
  ∀ (d : Ty.den i64T × Tup [i64T, i64T]), Ty.wf i64T (Prod.fst d) ∧ Ty.wf i64T (Prod.fst (Prod.snd d)) ∧ Ty.wf i64T (Prod.snd (Prod.snd d)) → True → (decide (Prod.fst (Prod.snd d) ≤ Prod.fst d) = true → decide (Prod.fst
  d ≤ Prod.snd (Prod.snd d)) = (decide (Prod.fst (Prod.snd d) ≤ Prod.fst d) && decide (Prod.fst d ≤ Prod.snd (Prod.snd d)))) ∧ (decide (Prod.fst (Prod.snd d) ≤ Prod.fst d) = false → false = (decide (Prod.fst (Prod.snd d)
  ≤ Prod.fst d) && decide (Prod.fst d ≤ Prod.snd (Prod.snd d)))) := by
  intro d _ _
  obtain ⟨a, b, c⟩ := d
  grind
end Go.SF
