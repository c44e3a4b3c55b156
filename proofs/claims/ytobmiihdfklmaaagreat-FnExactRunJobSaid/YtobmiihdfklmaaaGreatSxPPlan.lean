/- What is owed of the code of plans. No condition. -/
import Derived.Test.YtobmiihdfklmaaaGreatSxC
import Derived.Test.YtobmiihdfklmaaaGreatSxPField
namespace Go.SF
open Go.SX Go
set_option linter.unusedVariables false
set_option linter.unusedSimpArgs false
set_option maxRecDepth 10000
theorem rgm_len {α : Type} (h : Nat) (f : Nat → α) : ((List.range h).map f).length = h := by simp
theorem rgm_eq {α : Type} {h : Nat} {f g : Nat → α} (e : ∀ b, b < h → f b = g b) : (List.range h).map f = (List.range h).map g :=
  List.map_congr_left (fun b hb => e b (List.mem_range.1 hb))
theorem rgm_set {α : Type} {h c : Nat} {f g : Nat → α} {v : α} (hv : v = g c) (e : ∀ b, b < h → b ≠ c → f b = g b) : ((List.range h).map f).set c v = (List.range h).map g := by
  apply List.ext_getElem
  · simp
  · intro i h1 h2
    rw [rgm_len] at h2
    rw [List.getElem_set]
    by_cases hc : c = i
    · subst hc; rw [if_pos rfl, hv]; simp
    · rw [if_neg hc]; simp only [List.getElem_map, List.getElem_range]; exact e i h2 (fun hh => hc hh.symm)
end Go.SF
