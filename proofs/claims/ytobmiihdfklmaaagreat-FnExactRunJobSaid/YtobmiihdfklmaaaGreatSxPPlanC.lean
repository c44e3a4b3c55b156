/- What is owed of the code of turners. No condition. -/
import Derived.Test.YtobmiihdfklmaaaGreatSxC
import Derived.Test.YtobmiihdfklmaaaGreatSxPPlanB
namespace Go.SF
open Go.SX Go
set_option linter.unusedVariables false
set_option linter.unusedSimpArgs false
set_option maxRecDepth 10000
theorem vec_ok (f : Int) (xs : List Int) : (vecF f xs).2 = vectorOkF f xs := by
  unfold vecF
  split
  case isTrue h => exact h.symm
  case isFalse h => exact (Bool.not_eq_true _ ▸ h : vectorOkF f xs = false).symm
theorem v_S_l01Copy :
 ∀ (d : List Int), Ty.wf listT d → d.length ≤ (1048576 : Nat) → (0 : Nat) ≤ d.length ∧ ((d = d ∧ Value.slice none (0 : Nat) (0 : Nat) = Value.slice none (0 : Nat) (0 : Nat) ∧ (0 : Int) = (↑(0 : Nat) : Int)) ∧ [] =
 List.take (0 : Nat) d) ∧ ∀ (x : Nat), x ≤ d.length → (decide ((↑x : Int) < (↑d.length : Int)) = true → ((0 : Int) ≤ (↑x : Int) ∧ (↑x : Int) < (↑d.length : Int)) ∧ (List.length (List.take x d) + List.length [d.getD
 (Int.toNat (↑x : Int)) (0 : Int)]) * (8 : Nat) ≤ (140737488355328 : Nat) ∧ ∃ (x' : Nat), x' ≤ d.length ∧ d.length - x' < d.length - x ∧ (d = d ∧ Value.slice none (0 : Nat) (0 : Nat) = Value.slice none (0 : Nat) (0 :
 Nat) ∧ IntKind.wrap IntKind.i64 ((↑x : Int) + (1 : Int)) = (↑x' : Int)) ∧ List.take x d ++ [d.getD (Int.toNat (↑x : Int)) (0 : Int)] = List.take x' d) ∧ (decide ((↑x : Int) < (↑d.length : Int)) = false → List.take x d =
 d) := by
  intro (d : List Int) hw (hp : d.length ≤ 1048576)
  simp only [Int.toNat_natCast, exists_const, and_true, true_and, implies_true, decide_eq_true_eq, decide_eq_false_iff_not, Bool.not_eq_true', Bool.not_eq_false', beq_iff_eq, forall_const]
  refine ⟨Nat.zero_le _, ⟨rfl, rfl⟩, fun x hx => ⟨fun h => ⟨⟨by omega, by omega⟩, ?_, x + 1, by omega, by omega, wrap_succ (by omega), tk_succ (by omega)⟩, fun h => ?_⟩⟩
  · simp; omega
  · rw [List.take_of_length_le (by omega)]
theorem v_L_szIntS :
 ∀ (d : List Int × Int), Ty.wf listT d.1 ∧ Ty.wf i64T d.2 → True → (decide (IntKind.wrap IntKind.i64 (d.2 - (↑d.1.length : Int)) < (0 : Int)) = true → (-1 : Int) = szF d.1.length d.2) ∧ (decide (IntKind.wrap IntKind.i64
 (d.2 - (↑d.1.length : Int)) < (0 : Int)) = false → IntKind.wrap IntKind.i64 (d.2 - (↑d.1.length : Int)) = szF d.1.length d.2) := by
  intro d hw _
  obtain ⟨xs, l⟩ := d
  simp only [szF, w64]
  grind
theorem sz_neg {n : Nat} {l : Int} (h : szF n l < 0) : szF n l = -1 := by
  unfold szF at h ⊢
  by_cases e : w64 (l - n) < 0
  · rw [if_pos e]
  · rw [if_neg e] at h; exact absurd h e
theorem sz_room3 {n : Nat} {l : Int} (h : n ≤ 9223372036854775807) (h0 : 0 ≤ l) (h1 : l ≤ 1048576) : szF n l < 0 ∨ ((n : Int) ≤ l ∧ szF n l = l - n) := by
  unfold szF w64
  rw [wrap_small (by omega)]
  split <;> omega
theorem v_L_toIntS :
 ∀ (d : List Int), Ty.wf listT d → d.length ≤ (1048576 : Nat) → ((0 : Int) ≤ (↑d.length : Int) ∧ (↑d.length : Int) ≤ (↑d.length : Int) ∧ (↑d.length : Int) * (↑(8 : Nat) : Int) ≤ (140737488355328 : Int)) ∧ (0 : Nat) ≤
 d.length ∧ ((d = d ∧ Value.slice none (0 : Nat) (0 : Nat) = Value.slice none (0 : Nat) (0 : Nat) ∧ (0 : Int) = (↑(0 : Nat) : Int)) ∧ List.replicate (Int.toNat (↑d.length : Int)) (0 : Int) = List.take (0 : Nat) d ++
 List.replicate (d.length - (0 : Nat)) (0 : Int)) ∧ ∀ (x : Nat), x ≤ d.length → (decide ((↑x : Int) < (↑d.length : Int)) = true → ((0 : Int) ≤ (↑x : Int) ∧ (↑x : Int) < (↑d.length : Int)) ∧ ((0 : Int) ≤ (↑x : Int) ∧ (↑x
 : Int) < (↑(List.length (List.take x d ++ List.replicate (d.length - x) (0 : Int))) : Int)) ∧ ∃ (x' : Nat), x' ≤ d.length ∧ d.length - x' < d.length - x ∧ (d = d ∧ Value.slice none (0 : Nat) (0 : Nat) = Value.slice none
 (0 : Nat) (0 : Nat) ∧ IntKind.wrap IntKind.i64 ((↑x : Int) + (1 : Int)) = (↑x' : Int)) ∧ List.set (List.take x d ++ List.replicate (d.length - x) (0 : Int)) (Int.toNat (↑x : Int)) (d.getD (Int.toNat (↑x : Int)) (0 :
 Int)) = List.take x' d ++ List.replicate (d.length - x') (0 : Int)) ∧ (decide ((↑x : Int) < (↑d.length : Int)) = false → List.take x d ++ List.replicate (d.length - x) (0 : Int) = d) := by
  intro (d : List Int) hw (hp : d.length ≤ 1048576)
  simp only [Int.toNat_natCast, exists_const, and_true, true_and, implies_true, decide_eq_true_eq, decide_eq_false_iff_not, Bool.not_eq_true', Bool.not_eq_false', beq_iff_eq, forall_const]
  refine ⟨⟨by omega, by omega, by omega⟩, by omega, ⟨rfl, by simp⟩, fun x h1 => ⟨fun h3 => ⟨⟨by omega, by omega⟩, ⟨by omega, ?_⟩, x + 1, by omega, by omega, wrap_succ (by omega), copy_step d _ (by omega)⟩, fun h3 => ?_⟩⟩
  · simp; omega
  · have h4 : x = d.length := by omega
    subst h4
    simp
end Go.SF
