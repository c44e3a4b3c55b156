/- What is owed of the code of the served tickets' functions. No condition. -/
import Derived.Test.YtnjihkeflkemdaaSxC
import Derived.Test.YtnjihkeflkemdaaSxPLine
namespace Go.SF
open Go.SX Go
set_option linter.unusedVariables false
set_option linter.unusedSimpArgs false
set_option maxRecDepth 10000
theorem v_I_ServedCost :
  ∀ (d : List (Int × Int × Int) × Int), Ty.wf (Ty.sl svT) (Prod.fst d) ∧ Ty.wf i64T (Prod.snd d) → True → (decide ((4096 : Int) < (↑(List.length (Prod.fst d)) : Int)) = true → (-1 : Int) = servedF (Prod.fst d) (Prod.snd
  d)) ∧ (decide ((4096 : Int) < (↑(List.length (Prod.fst d)) : Int)) = false → ((0 : Nat) ≤ List.length (Prod.fst d) ∧ servedGo (Prod.snd d) (List.drop (0 : Nat) (Prod.fst d)) (0 : Int) = servedGo (Prod.snd d) (Prod.fst
  d) (0 : Int)) ∧ (Prod.fst d = Prod.fst d ∧ Prod.snd d = Prod.snd d ∧ (0 : Int) = (0 : Int) ∧ Prod.fst d = Prod.fst d ∧ (↑(List.length (Prod.fst d)) : Int) = (↑(List.length (Prod.fst d)) : Int) ∧ (0 : Int) = (↑(0 : Nat)
  : Int)) ∧ ∀ (x : Nat × Int), Prod.fst x ≤ List.length (Prod.fst d) ∧ servedGo (Prod.snd d) (List.drop (Prod.fst x) (Prod.fst d)) (Prod.snd x) = servedGo (Prod.snd d) (Prod.fst d) (0 : Int) → (decide ((↑(Prod.fst x) :
  Int) < (↑(List.length (Prod.fst d)) : Int)) = true → ((0 : Int) ≤ (↑(Prod.fst x) : Int) ∧ (↑(Prod.fst x) : Int) < (↑(List.length (Prod.fst d)) : Int)) ∧ (decide (Prod.snd (Prod.snd (List.getD (Prod.fst d) (Int.toNat
  (↑(Prod.fst x) : Int)) ((0 : Int), (0 : Int), (0 : Int)))) < (1 : Int)) = true → (-1 : Int) = servedF (Prod.fst d) (Prod.snd d)) ∧ (decide (Prod.snd (Prod.snd (List.getD (Prod.fst d) (Int.toNat (↑(Prod.fst x) : Int))
  ((0 : Int), (0 : Int), (0 : Int)))) < (1 : Int)) = false → (decide ((200000 : Int) < Prod.snd (Prod.snd (List.getD (Prod.fst d) (Int.toNat (↑(Prod.fst x) : Int)) ((0 : Int), (0 : Int), (0 : Int))))) = true → (-1 : Int)
  = servedF (Prod.fst d) (Prod.snd d)) ∧ (decide ((200000 : Int) < Prod.snd (Prod.snd (List.getD (Prod.fst d) (Int.toNat (↑(Prod.fst x) : Int)) ((0 : Int), (0 : Int), (0 : Int))))) = false → (decide (Prod.fst (List.getD
  (Prod.fst d) (Int.toNat (↑(Prod.fst x) : Int)) ((0 : Int), (0 : Int), (0 : Int))) = Prod.snd d) = true → ∃ (x' : Nat × Int), (Prod.fst x' ≤ List.length (Prod.fst d) ∧ servedGo (Prod.snd d) (List.drop (Prod.fst x')
  (Prod.fst d)) (Prod.snd x') = servedGo (Prod.snd d) (Prod.fst d) (0 : Int)) ∧ List.length (Prod.fst d) - Prod.fst x' < List.length (Prod.fst d) - Prod.fst x ∧ Prod.fst d = Prod.fst d ∧ Prod.snd d = Prod.snd d ∧
  IntKind.wrap IntKind.i64 (Prod.snd x + Prod.snd (Prod.snd (List.getD (Prod.fst d) (Int.toNat (↑(Prod.fst x) : Int)) ((0 : Int), (0 : Int), (0 : Int))))) = Prod.snd x' ∧ Prod.fst d = Prod.fst d ∧ (↑(List.length
  (Prod.fst d)) : Int) = (↑(List.length (Prod.fst d)) : Int) ∧ IntKind.wrap IntKind.i64 ((↑(Prod.fst x) : Int) + (1 : Int)) = (↑(Prod.fst x') : Int)) ∧ (decide (Prod.fst (List.getD (Prod.fst d) (Int.toNat (↑(Prod.fst x)
  : Int)) ((0 : Int), (0 : Int), (0 : Int))) = Prod.snd d) = false → ∃ (x' : Nat × Int), (Prod.fst x' ≤ List.length (Prod.fst d) ∧ servedGo (Prod.snd d) (List.drop (Prod.fst x') (Prod.fst d)) (Prod.snd x') = servedGo
  (Prod.snd d) (Prod.fst d) (0 : Int)) ∧ List.length (Prod.fst d) - Prod.fst x' < List.length (Prod.fst d) - Prod.fst x ∧ Prod.fst d = Prod.fst d ∧ Prod.snd d = Prod.snd d ∧ Prod.snd x = Prod.snd x' ∧ Prod.fst d =
  Prod.fst d ∧ (↑(List.length (Prod.fst d)) : Int) = (↑(List.length (Prod.fst d)) : Int) ∧ IntKind.wrap IntKind.i64 ((↑(Prod.fst x) : Int) + (1 : Int)) = (↑(Prod.fst x') : Int))))) ∧ (decide ((↑(Prod.fst x) : Int) <
  (↑(List.length (Prod.fst d)) : Int)) = false → Prod.snd x = servedF (Prod.fst d) (Prod.snd d))) := by
  intro d hw _
  obtain ⟨xs, t⟩ := d
  obtain ⟨⟨hl, _⟩, _⟩ := hw
  simp only [servedF] at *
  unfold lenMax at hl
  refine ⟨fun h => ?_, fun h => ⟨⟨Nat.zero_le _, by simp⟩, by simp, fun x ⟨h1, h2⟩ => ⟨fun h3 => ?_, fun h3 => ?_⟩⟩⟩
  · grind
  · have h4 : x.1 < xs.length := by simpa using h3
    rw [getD_drop_cons (x := ((0 : Int), (0 : Int), (0 : Int))) h4, servedGo] at h2
    have hw : IntKind.i64.wrap ((x.1 : Int) + 1) = ((x.1 + 1 : Nat) : Int) := by rw [wrap_small (by omega)]; rfl
    simp only [hw, Int.toNat_natCast]
    refine ⟨⟨by omega, by omega⟩, fun h5 => ?_, fun h5 => ⟨fun h6 => ?_, fun h6 => ⟨fun h7 => ⟨(x.1 + 1, w64 (x.2 + (xs.getD x.1 (0, 0, 0)).2.2)), ?_⟩, fun h7 => ⟨(x.1 + 1, x.2), ?_⟩⟩⟩⟩
    · grind
    · grind
    · refine ⟨⟨by simp only; omega, ?_⟩, by simp only; omega, by simp [w64]⟩
      grind
    · refine ⟨⟨by simp only; omega, ?_⟩, by simp only; omega, by simp [w64]⟩
      grind
  · have h4 : x.1 = xs.length := by simp at h3; omega
    rw [h4, List.drop_length, servedGo] at h2
    grind
end Go.SF
