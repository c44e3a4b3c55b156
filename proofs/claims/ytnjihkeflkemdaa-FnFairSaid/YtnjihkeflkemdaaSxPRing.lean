/- What is owed of the code of the rings' functions. No condition. -/
import Derived.Test.YtnjihkeflkemdaaSxC
import Derived.Test.YtnjihkeflkemdaaSxPLine
namespace Go.SF
open Go.SX Go
set_option linter.unusedVariables false
set_option linter.unusedSimpArgs false
set_option maxRecDepth 10000
theorem eqFl_iff {a b : Fl} : eqFl a b = true ↔ a = b := by unfold eqFl; exact decide_eq_true_iff
theorem eqFls_iff {a b : List Fl} : eqFls a b = true ↔ a = b := by unfold eqFls; exact decide_eq_true_iff
theorem eqRg_iff {a b : Rg} : eqRg a b = true ↔ a = b := by unfold eqRg; exact decide_eq_true_iff
theorem eqFl_eq {a b : Fl} : eqFl a b = (decide (a.1 = b.1) && (decide (a.2.1 = b.2.1) && (decide (a.2.2.1 = b.2.2.1) && decide (a.2.2.2 = b.2.2.2)))) := by
  obtain ⟨a1, a2, a3, a4⟩ := a
  obtain ⟨b1, b2, b3, b4⟩ := b
  rw [Bool.eq_iff_iff, eqFl_iff]
  simp
theorem eqRg_eq {a b : Rg} : eqRg a b = (eqFls a.1 b.1 && (decide (a.2.1 = b.2.1) && (a.2.2 == b.2.2))) := by
  obtain ⟨a1, a2, a3⟩ := a
  obtain ⟨b1, b2, b3⟩ := b
  rw [Bool.eq_iff_iff, eqRg_iff]
  simp [eqFls_iff]
theorem szFl_room : ∀ (fs : List Fl) (l : Int), 0 ≤ szFlGo fs l → 0 ≤ l → l ≤ 1048576 → (∀ f ∈ fs, f.2.2.2.length ≤ 9223372036854775807) → ∀ f ∈ fs, f.2.2.2.length ≤ 1048576
  | [], l, _, _, _, _, f, hf => by cases hf
  | g :: fs, l, h, hl0, hl, hw, f, hf => by
    unfold szFlGo at h
    split at h
    · omega
    · rename_i hn
      have hg := hw g (List.mem_cons_self ..)
      have hs : g.2.2.2.length ≤ 1048576 ∧ 0 ≤ szF g.2.2.2.length l ∧ szF g.2.2.2.length l ≤ 1048576 := by
        unfold szF w64 at hn ⊢
        rw [IntKind.wrap_i64] at hn ⊢
        split at hn
        · omega
        · rename_i h2
          rw [if_neg h2]
          have h0 : (0 : Int) ≤ szFlGo fs (szF g.2.2.2.length l) := h
          refine ⟨?_, ?_, ?_⟩ <;> omega
      rcases List.mem_cons.1 hf with rfl | hf
      · exact hs.1
      · exact szFl_room fs _ h hs.2.1 hs.2.2 (fun f hf => hw f (List.mem_cons_of_mem _ hf)) f hf
end Go.SF
