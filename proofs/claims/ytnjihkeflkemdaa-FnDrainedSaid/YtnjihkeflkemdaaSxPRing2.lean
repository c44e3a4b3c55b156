/- What is owed of the code of the gap's functions. No condition. -/
import Derived.Test.YtnjihkeflkemdaaSxC
import Derived.Test.YtnjihkeflkemdaaSxPRingB
namespace Go.SF
open Go.SX Go
set_option linter.unusedVariables false
set_option linter.unusedSimpArgs false
set_option maxRecDepth 10000
theorem fidx_range (t : Int) : ∀ (xs : List Fl) (k : Nat), fidxGo t xs k = -1 ∨ ((k : Int) ≤ fidxGo t xs k ∧ fidxGo t xs k < (k : Int) + (xs.length : Int))
  | [], k => .inl rfl
  | x :: xs, k => by
    unfold fidxGo
    split
    · right; simp only [List.length_cons]; omega
    · rcases fidx_range t xs (k + 1) with h | h
      · exact .inl h
      · right; simp only [List.length_cons]; omega
theorem gap_no {r : Rg} {a b : Int} (h : ¬ (ringOkF r.1 r.2.1 r.2.2 = true ∧ 0 ≤ fidxGo a r.1 0 ∧ 0 ≤ fidxGo b r.1 0)) : -1 = gapF r a b := by
  unfold gapF; rw [if_neg h]
end Go.SF
