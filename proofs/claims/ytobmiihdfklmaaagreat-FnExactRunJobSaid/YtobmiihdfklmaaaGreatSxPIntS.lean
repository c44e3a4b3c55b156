/- What is owed of the code of lists of numbers. No condition. -/
import Derived.Test.YtobmiihdfklmaaaGreatSxC
import Derived.Test.YtobmiihdfklmaaaGreatSxPBase
import Derived.Test.YtobmiihdfklmaaaGreatSxPLine
namespace Go.SF
open Go.SX Go
set_option linter.unusedVariables false
set_option linter.unusedSimpArgs false
theorem v_L_eqIntS :
 ∀ (d : List Int × List Int), Ty.wf (Ty.sl i64T) d.1 ∧ Ty.wf (Ty.sl i64T) d.2 → True → ((!decide ((↑d.1.length : Int) = (↑d.2.length : Int))) = true → false = decide (d.1 = d.2)) ∧ ((!decide ((↑d.1.length : Int) =
 (↑d.2.length : Int))) = false → ((0 : Nat) ≤ d.1.length ∧ d.1.length = d.2.length ∧ List.take (0 : Nat) d.1 = List.take (0 : Nat) d.2) ∧ (d.1 = d.1 ∧ d.2 = d.2 ∧ (0 : Int) = (↑(0 : Nat) : Int)) ∧ ∀ (x : Nat), x ≤
 d.1.length ∧ d.1.length = d.2.length ∧ List.take x d.1 = List.take x d.2 → (decide ((↑x : Int) < (↑d.1.length : Int)) = true → ((0 : Int) ≤ (↑x : Int) ∧ (↑x : Int) < (↑d.1.length : Int)) ∧ ((0 : Int) ≤ (↑x : Int) ∧ (↑x
 : Int) < (↑d.2.length : Int)) ∧ ((!decide (d.1.getD (Int.toNat (↑x : Int)) (0 : Int) = d.2.getD (Int.toNat (↑x : Int)) (0 : Int))) = true → false = decide (d.1 = d.2)) ∧ ((!decide (d.1.getD (Int.toNat (↑x : Int)) (0 :
 Int) = d.2.getD (Int.toNat (↑x : Int)) (0 : Int))) = false → ∃ (x' : Nat), (x' ≤ d.1.length ∧ d.1.length = d.2.length ∧ List.take x' d.1 = List.take x' d.2) ∧ d.1.length - x' < d.1.length - x ∧ d.1 = d.1 ∧ d.2 = d.2 ∧
 IntKind.wrap IntKind.i64 ((↑x : Int) + (1 : Int)) = (↑x' : Int))) ∧ (decide ((↑x : Int) < (↑d.1.length : Int)) = false → true = decide (d.1 = d.2))) := by
  intro (d : List Int × List Int) hw hp
  obtain ⟨xs, ys⟩ := d
  have hl : xs.length ≤ 9223372036854775807 := hw.1.1
  simp only [Int.toNat_natCast, exists_const, and_true, true_and, implies_true, decide_eq_true_eq, decide_eq_false_iff_not, Bool.not_eq_true', Bool.not_eq_false', beq_iff_eq, forall_const]
  refine ⟨fun h => ?_, fun h => ⟨⟨by omega, by omega, rfl⟩, rfl, fun x ⟨h1, h2, h0⟩ => ⟨fun h3 => ?_, fun h3 => ?_⟩⟩⟩
  · exact (decide_eq_false (fun e => h (by rw [e]))).symm
  · have h4 : x < xs.length := by omega
    obtain ⟨t1, t2⟩ := take_ext (z := (0 : Int)) h2 h4 h0
    rw [wrap_succ (by omega)]
    exact ⟨⟨by omega, by omega⟩, ⟨by omega, by omega⟩, fun h5 => (decide_eq_false (fun e => h5 (t2 e))).symm, fun h5 => ⟨x + 1, ⟨by omega, h2, t1.2 h5⟩, by omega, rfl⟩⟩
  · have h4 : x = xs.length := by omega
    subst h4
    have : xs = ys := by rw [List.take_length, h2, List.take_length] at h0; exact h0
    exact (decide_eq_true this).symm
end Go.SF
