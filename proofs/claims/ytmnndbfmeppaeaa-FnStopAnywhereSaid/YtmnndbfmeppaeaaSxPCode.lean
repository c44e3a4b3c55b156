/- What is owed of the code that reads a law's code. No condition. -/
import Derived.Test.YtmnndbfmeppaeaaSxC
import Derived.Test.YtmnndbfmeppaeaaSxPBase
namespace Go.SF
open Go.SX Go
set_option linter.unusedVariables false
set_option linter.unusedSimpArgs false
theorem code_wf {c : List Int} (h : Ty.wf codeT c) : c.length ≤ 9223372036854775807 ∧ ∀ x ∈ c, 0 ≤ x ∧ x ≤ 255 := by
  refine ⟨h.1, fun x hx => ?_⟩
  have := h.2 x hx
  exact this
theorem at_range {c : List Int} (h : Ty.wf codeT c) (hb : c.length ≤ 1048576) {i : Int} (h0 : 0 ≤ i) (h1 : i ≤ 100000) : 0 ≤ codeAt c i ∧ codeAt c i ≤ 255 := by
  unfold codeAt
  split
  · have hi : i.toNat < c.length := by omega
    rw [List.getD_eq_getElem?_getD, List.getElem?_eq_getElem hi]
    exact (code_wf h).2 _ (List.getElem_mem hi)
  · unfold w64
    rw [wrap_small (n := i * 13) (by omega), wrap_small (n := (c.length : Int) * 5) (by omega), wrap_small (by omega)]
    have h2 := Int.tmod_nonneg (a := i * 13 + (c.length : Int) * 5) 256 (by omega)
    have h3 := Int.tmod_lt_of_pos (i * 13 + (c.length : Int) * 5) (show (0 : Int) < 256 by omega)
    omega
theorem v_L_big :
  ∀ (d : List Int), Ty.wf codeT d → True → decide ((1048576 : Int) < (↑(List.length d) : Int)) = bigF d := by
  intro d _ _; rfl
theorem v_L_at :
  ∀ (d : List Int × Int), Ty.wf codeT (Prod.fst d) ∧ Ty.wf i64T (Prod.snd d) → (0 : Tup [i64T]) ≤ Prod.snd d → (decide (Prod.snd d < (↑(List.length (Prod.fst d)) : Int)) = true → ((0 : Int) ≤ Prod.snd d ∧ Prod.snd d <
  (↑(List.length (Prod.fst d)) : Int)) ∧ IntKind.wrap IntKind.i64 (List.getD (Prod.fst d) (Int.toNat (Prod.snd d)) (0 : Int)) = codeAt (Prod.fst d) (Prod.snd d)) ∧ (decide (Prod.snd d < (↑(List.length (Prod.fst d)) :
  Int)) = false → (256 : Int) ≠ (0 : Int) ∧ Int.tmod (IntKind.wrap IntKind.i64 (IntKind.wrap IntKind.i64 (Prod.snd d * (13 : Int)) + IntKind.wrap IntKind.i64 ((↑(List.length (Prod.fst d)) : Int) * (5 : Int)))) (256 :
  Int) = codeAt (Prod.fst d) (Prod.snd d)) := by
  intro (d : List Int × Int) hw (hp : 0 ≤ d.2)
  obtain ⟨c, i⟩ := d
  have hl : c.length ≤ 9223372036854775807 := hw.1.1
  simp only at hp
  simp only [Int.toNat_natCast, exists_const, and_true, true_and, implies_true, decide_eq_true_eq, decide_eq_false_iff_not, Bool.not_eq_true', Bool.not_eq_false', beq_iff_eq, forall_const]
  refine ⟨fun h => ⟨⟨by omega, by omega⟩, ?_⟩, fun h => ⟨by omega, ?_⟩⟩
  · have hi : i.toNat < c.length := by omega
    have hm := (code_wf hw.1).2 _ (List.getElem_mem hi)
    unfold codeAt
    rw [if_pos h]
    rw [List.getD_eq_getElem?_getD, List.getElem?_eq_getElem hi]
    exact wrap_small (by simp only [Option.getD_some]; omega)
  · unfold codeAt w64
    rw [if_neg h]
end Go.SF
