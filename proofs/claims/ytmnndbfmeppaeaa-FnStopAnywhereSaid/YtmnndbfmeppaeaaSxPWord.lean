/- What the laws of codes call keeps its contracts. No condition. -/
import Derived.Test.YtmnndbfmeppaeaaSxC
import Derived.Test.YtmnndbfmeppaeaaSxPDec
import Derived.Test.YtmnndbfmeppaeaaSxPCode
namespace Go.SF
open Go.SX Go
set_option linter.unusedVariables false
set_option linter.unusedSimpArgs false
set_option maxRecDepth 10000
theorem v_L_cp :
  ∀ (d : List Int), Ty.wf listT d → SmallL d → (0 : Nat) ≤ List.length d ∧ ((d = d ∧ Value.slice none (0 : Nat) (0 : Nat) = Value.slice none (0 : Nat) (0 : Nat) ∧ (0 : Int) = (↑(0 : Nat) : Int)) ∧ [] = List.take (0 :
  Nat) d) ∧ ∀ (x : Nat), x ≤ List.length d → (decide ((↑x : Int) < (↑(List.length d) : Int)) = true → ((0 : Int) ≤ (↑x : Int) ∧ (↑x : Int) < (↑(List.length d) : Int)) ∧ (List.length (List.take x d) + List.length
  [List.getD d (Int.toNat (↑x : Int)) (0 : Int)]) * (8 : Nat) ≤ (140737488355328 : Nat) ∧ ∃ (x' : Nat), x' ≤ List.length d ∧ List.length d - x' < List.length d - x ∧ (d = d ∧ Value.slice none (0 : Nat) (0 : Nat) =
  Value.slice none (0 : Nat) (0 : Nat) ∧ IntKind.wrap IntKind.i64 ((↑x : Int) + (1 : Int)) = (↑x' : Int)) ∧ List.take x d ++ [List.getD d (Int.toNat (↑x : Int)) (0 : Int)] = List.take x' d) ∧ (decide ((↑x : Int) <
  (↑(List.length d) : Int)) = false → List.take x d = d) := by
  intro (d : List Int) hw (hp : d.length ≤ 4096)
  simp only [Int.toNat_natCast, exists_const, and_true, true_and, implies_true, decide_eq_true_eq, decide_eq_false_iff_not, Bool.not_eq_true', Bool.not_eq_false', beq_iff_eq, forall_const]
  refine ⟨Nat.zero_le _, ⟨rfl, rfl⟩, fun x hx => ⟨fun h => ⟨⟨by omega, by omega⟩, ?_, x + 1, by omega, by omega, wrap_succ (by omega), tk_succ (by omega)⟩, fun h => ?_⟩⟩
  · simp; omega
  · rw [List.take_of_length_le (by omega)]
theorem v_L_same :
  ∀ (d : List Int × List Int), Ty.wf listT (Prod.fst d) ∧ Ty.wf listT (Prod.snd d) → True → ((!decide ((↑(List.length (Prod.fst d)) : Int) = (↑(List.length (Prod.snd d)) : Int))) = true → false = sameF (Prod.fst d)
  (Prod.snd d)) ∧ ((!decide ((↑(List.length (Prod.fst d)) : Int) = (↑(List.length (Prod.snd d)) : Int))) = false → ((0 : Nat) ≤ List.length (Prod.fst d) ∧ List.length (Prod.fst d) = List.length (Prod.snd d) ∧ List.take
  (0 : Nat) (Prod.fst d) = List.take (0 : Nat) (Prod.snd d)) ∧ (Prod.fst d = Prod.fst d ∧ Prod.snd d = Prod.snd d ∧ (0 : Int) = (↑(0 : Nat) : Int)) ∧ ∀ (x : Nat), x ≤ List.length (Prod.fst d) ∧ List.length (Prod.fst d) =
  List.length (Prod.snd d) ∧ List.take x (Prod.fst d) = List.take x (Prod.snd d) → (decide ((↑x : Int) < (↑(List.length (Prod.fst d)) : Int)) = true → ((0 : Int) ≤ (↑x : Int) ∧ (↑x : Int) < (↑(List.length (Prod.fst d)) :
  Int)) ∧ ((0 : Int) ≤ (↑x : Int) ∧ (↑x : Int) < (↑(List.length (Prod.snd d)) : Int)) ∧ ((!decide (List.getD (Prod.fst d) (Int.toNat (↑x : Int)) (0 : Int) = List.getD (Prod.snd d) (Int.toNat (↑x : Int)) (0 : Int))) =
  true → false = sameF (Prod.fst d) (Prod.snd d)) ∧ ((!decide (List.getD (Prod.fst d) (Int.toNat (↑x : Int)) (0 : Int) = List.getD (Prod.snd d) (Int.toNat (↑x : Int)) (0 : Int))) = false → ∃ (x' : Nat), (x' ≤ List.length
  (Prod.fst d) ∧ List.length (Prod.fst d) = List.length (Prod.snd d) ∧ List.take x' (Prod.fst d) = List.take x' (Prod.snd d)) ∧ List.length (Prod.fst d) - x' < List.length (Prod.fst d) - x ∧ Prod.fst d = Prod.fst d ∧
  Prod.snd d = Prod.snd d ∧ IntKind.wrap IntKind.i64 ((↑x : Int) + (1 : Int)) = (↑x' : Int))) ∧ (decide ((↑x : Int) < (↑(List.length (Prod.fst d)) : Int)) = false → true = sameF (Prod.fst d) (Prod.snd d))) := by
  intro (d : List Int × List Int) hw hp
  obtain ⟨xs, ys⟩ := d
  have hl : xs.length ≤ 9223372036854775807 := hw.1.1
  simp only [Int.toNat_natCast, exists_const, and_true, true_and, implies_true, decide_eq_true_eq, decide_eq_false_iff_not, Bool.not_eq_true', Bool.not_eq_false', beq_iff_eq, forall_const]
  refine ⟨fun h => ?_, fun h => ⟨⟨by omega, by omega, rfl⟩, rfl, fun x ⟨h1, h2, h0⟩ => ⟨fun h3 => ?_, fun h3 => ?_⟩⟩⟩
  · exact (decide_eq_false (fun e => h (by rw [e]))).symm
  · have h4 : x < xs.length := by omega
    obtain ⟨t1, t2⟩ := take_ext (z := (0 : Int)) h2 h4 h0
    rw [wrap_succ (by omega)]
    exact ⟨⟨by omega, by omega⟩, ⟨by omega, by omega⟩, fun h5 => (decide_eq_false (fun e => h5 (t2 e))).symm, fun h5 => ⟨x + 1, ⟨by omega, h2, t1.2 h5⟩, by omega, rfl⟩⟩
  · have h4 : x = xs.length := by omega
    subst h4
    have : xs = ys := by rw [List.take_length, h2, List.take_length] at h0; exact h0
    exact (decide_eq_true this).symm
theorem polyFd_no {f : Int} {a : List Int} (h : polyB f a = true → False) : ((0, 0, 0), false) = polyFd f a := by
  unfold polyFd; rw [if_neg h]
theorem polyFd_snd {f : Int} {a : List Int} : (polyFd f a).2 = polyB f a := by
  unfold polyFd; split
  · rename_i h; exact h.symm
  · rename_i h; exact (Bool.eq_false_iff.2 h).symm
theorem polyFd_mod {f : Int} {a : List Int} (h : polyB f a = true) : (polyFd f a).1.1 = modF f := by unfold polyFd; rw [if_pos h]; rfl
end Go.SF
