/- What is owed of the code of the served tickets' functions. No condition. -/
import Derived.Test.YtnjihkeflkemdaaSxC
import Derived.Test.YtnjihkeflkemdaaSxPLine
namespace Go.SF
open Go.SX Go
set_option linter.unusedVariables false
set_option linter.unusedSimpArgs false
set_option maxRecDepth 10000
theorem v_L_eqServed :
  ∀ (d : (Int × Int × Int) × Int × Int × Int), Ty.wf svT (Prod.fst d) ∧ Ty.wf svT (Prod.snd d) → True → ((!decide (Prod.fst (Prod.fst d) = Prod.fst (Prod.snd d))) = true → false = decide (Prod.fst d = Prod.snd d)) ∧
  ((!decide (Prod.fst (Prod.fst d) = Prod.fst (Prod.snd d))) = false → ((!decide (Prod.fst (Prod.snd (Prod.fst d)) = Prod.fst (Prod.snd (Prod.snd d)))) = true → false = decide (Prod.fst d = Prod.snd d)) ∧ ((!decide
  (Prod.fst (Prod.snd (Prod.fst d)) = Prod.fst (Prod.snd (Prod.snd d)))) = false → ((!decide (Prod.snd (Prod.snd (Prod.fst d)) = Prod.snd (Prod.snd (Prod.snd d)))) = true → false = decide (Prod.fst d = Prod.snd d)) ∧
  ((!decide (Prod.snd (Prod.snd (Prod.fst d)) = Prod.snd (Prod.snd (Prod.snd d)))) = false → true = decide (Prod.fst d = Prod.snd d)))) := by
  intro d _ _
  obtain ⟨⟨a, b, c⟩, ⟨a', b', c'⟩⟩ := d
  grind
theorem v_L_eqServedS :
  ∀ (d : List (Int × Int × Int) × List (Int × Int × Int)), Ty.wf (Ty.sl svT) (Prod.fst d) ∧ Ty.wf (Ty.sl svT) (Prod.snd d) → True → ((!decide ((↑(List.length (Prod.fst d)) : Int) = (↑(List.length (Prod.snd d)) : Int))) =
  true → false = decide (Prod.fst d = Prod.snd d)) ∧ ((!decide ((↑(List.length (Prod.fst d)) : Int) = (↑(List.length (Prod.snd d)) : Int))) = false → ((0 : Nat) ≤ List.length (Prod.fst d) ∧ List.length (Prod.fst d) =
  List.length (Prod.snd d) ∧ List.take (0 : Nat) (Prod.fst d) = List.take (0 : Nat) (Prod.snd d)) ∧ (Prod.fst d = Prod.fst d ∧ Prod.snd d = Prod.snd d ∧ (0 : Int) = (↑(0 : Nat) : Int)) ∧ ∀ (x : Nat), x ≤ List.length
  (Prod.fst d) ∧ List.length (Prod.fst d) = List.length (Prod.snd d) ∧ List.take x (Prod.fst d) = List.take x (Prod.snd d) → (decide ((↑x : Int) < (↑(List.length (Prod.fst d)) : Int)) = true → ((0 : Int) ≤ (↑x : Int) ∧
  (↑x : Int) < (↑(List.length (Prod.fst d)) : Int)) ∧ ((0 : Int) ≤ (↑x : Int) ∧ (↑x : Int) < (↑(List.length (Prod.snd d)) : Int)) ∧ True ∧ ((!decide ((Prod.fst (List.getD (Prod.fst d) (Int.toNat (↑x : Int)) ((0 : Int),
  (0 : Int), (0 : Int))), Prod.fst (Prod.snd (List.getD (Prod.fst d) (Int.toNat (↑x : Int)) ((0 : Int), (0 : Int), (0 : Int)))), Prod.snd (Prod.snd (List.getD (Prod.fst d) (Int.toNat (↑x : Int)) ((0 : Int), (0 : Int), (0
  : Int))))) = (Prod.fst (List.getD (Prod.snd d) (Int.toNat (↑x : Int)) ((0 : Int), (0 : Int), (0 : Int))), Prod.fst (Prod.snd (List.getD (Prod.snd d) (Int.toNat (↑x : Int)) ((0 : Int), (0 : Int), (0 : Int)))), Prod.snd
  (Prod.snd (List.getD (Prod.snd d) (Int.toNat (↑x : Int)) ((0 : Int), (0 : Int), (0 : Int))))))) = true → false = decide (Prod.fst d = Prod.snd d)) ∧ ((!decide ((Prod.fst (List.getD (Prod.fst d) (Int.toNat (↑x : Int))
  ((0 : Int), (0 : Int), (0 : Int))), Prod.fst (Prod.snd (List.getD (Prod.fst d) (Int.toNat (↑x : Int)) ((0 : Int), (0 : Int), (0 : Int)))), Prod.snd (Prod.snd (List.getD (Prod.fst d) (Int.toNat (↑x : Int)) ((0 : Int),
  (0 : Int), (0 : Int))))) = (Prod.fst (List.getD (Prod.snd d) (Int.toNat (↑x : Int)) ((0 : Int), (0 : Int), (0 : Int))), Prod.fst (Prod.snd (List.getD (Prod.snd d) (Int.toNat (↑x : Int)) ((0 : Int), (0 : Int), (0 :
  Int)))), Prod.snd (Prod.snd (List.getD (Prod.snd d) (Int.toNat (↑x : Int)) ((0 : Int), (0 : Int), (0 : Int))))))) = false → ∃ (x' : Nat), (x' ≤ List.length (Prod.fst d) ∧ List.length (Prod.fst d) = List.length
  (Prod.snd d) ∧ List.take x' (Prod.fst d) = List.take x' (Prod.snd d)) ∧ List.length (Prod.fst d) - x' < List.length (Prod.fst d) - x ∧ Prod.fst d = Prod.fst d ∧ Prod.snd d = Prod.snd d ∧ IntKind.wrap IntKind.i64 ((↑x :
  Int) + (1 : Int)) = (↑x' : Int))) ∧ (decide ((↑x : Int) < (↑(List.length (Prod.fst d)) : Int)) = false → true = decide (Prod.fst d = Prod.snd d))) := by
  intro (d : List Sv × List Sv) hw hp
  obtain ⟨xs, ys⟩ := d
  obtain ⟨⟨hl, _⟩, hl2, _⟩ := hw
  unfold lenMax at hl hl2
  simp only [Int.toNat_natCast, pe] at *
  refine ⟨fun h => ?_, fun h => ⟨⟨by omega, by simp at h; omega, by simp⟩, by simp, fun x ⟨h1, h2, h0⟩ => ⟨fun h3 => ?_, fun h3 => ?_⟩⟩⟩
  · grind
  · have h4 : x < xs.length := by simpa using h3
    obtain ⟨t1, t2⟩ := take_ext (z := ((0 : Int), (0 : Int), (0 : Int))) h2 h4 h0
    rw [wrap_succ (by omega)]
    refine ⟨⟨by omega, by omega⟩, ⟨by omega, by omega⟩, trivial, fun h5 => ?_, fun h5 => ⟨x + 1, ⟨by omega, h2, ?_⟩, by omega, by simp⟩⟩
    · have h6 : xs.getD x (0, 0, 0) ≠ ys.getD x (0, 0, 0) := by intro e; simp only [e] at h5; simp at h5
      have : xs ≠ ys := fun e => h6 (t2 e)
      simp [this]
    · exact t1.2 (by simpa using h5)
  · have h4 : x = xs.length := by simp at h3; omega
    subst h4
    have : xs = ys := by rw [List.take_length, h2, List.take_length] at h0; exact h0
    simp [this]
end Go.SF
