/- What is owed of the code of the gap's functions. No condition. -/
import Derived.Test.YtnjihkeflkemdaaSxC
import Derived.Test.YtnjihkeflkemdaaSxPRingB
namespace Go.SF
open Go.SX Go
set_option linter.unusedVariables false
set_option linter.unusedSimpArgs false
set_option maxRecDepth 10000
theorem fidx_range (t : Int) : ∀ (xs : List Fl) (k : Nat), fidxGo t xs k = -1 ∨ ((k : Int) ≤ fidxGo t xs k ∧ fidxGo t xs k < (k : Int) + (xs.length : Int))
  | [], k => .inl rfl
  | x :: xs, k => by
    unfold fidxGo
    split
    · right; simp only [List.length_cons]; omega
    · rcases fidx_range t xs (k + 1) with h | h
      · exact .inl h
      · right; simp only [List.length_cons]; omega
theorem v_I_flowOf1 :
  ∀ (d : (Int × Int × Int × List (Int × Int)) × Int), Ty.wf flT (Prod.fst d) ∧ Ty.wf (Ty.ptr i64T) (Prod.snd d) → True → decide (Prod.fst (Prod.fst d) = Prod.snd d) = decide (Prod.fst (Prod.fst d) = Prod.snd d) := by
  intro d _ _; rfl
theorem v_G_IndexFuncFl :
  ∀ (d : List (Int × Int × Int × List (Int × Int)) × Int), Ty.wf (Ty.sl flT) (Prod.fst d) ∧ Ty.wf (Ty.clo (0 : Nat) (Ty.ptr i64T)) (Prod.snd d) → True → ((0 : Nat) ≤ List.length (Prod.fst d) ∧ fidxGo (Prod.snd d)
  (List.drop (0 : Nat) (Prod.fst d)) (0 : Nat) = fidxGo (Prod.snd d) (Prod.fst d) (0 : Nat)) ∧ (Prod.fst d = Prod.fst d ∧ Prod.snd d = Prod.snd d ∧ (↑(List.length (Prod.fst d)) : Int) = (↑(List.length (Prod.fst d)) :
  Int) ∧ (0 : Int) = (↑(0 : Nat) : Int)) ∧ ∀ (x : Nat), x ≤ List.length (Prod.fst d) ∧ fidxGo (Prod.snd d) (List.drop x (Prod.fst d)) x = fidxGo (Prod.snd d) (Prod.fst d) (0 : Nat) → (decide ((↑x : Int) < (↑(List.length
  (Prod.fst d)) : Int)) = true → ((0 : Int) ≤ (↑x : Int) ∧ (↑x : Int) < (↑(List.length (Prod.fst d)) : Int)) ∧ True ∧ (decide (Prod.fst (List.getD (Prod.fst d) (Int.toNat (↑x : Int)) ((0 : Int), (0 : Int), (0 : Int),
  [])) = Prod.snd d) = true → (↑x : Int) = fidxGo (Prod.snd d) (Prod.fst d) (0 : Nat)) ∧ (decide (Prod.fst (List.getD (Prod.fst d) (Int.toNat (↑x : Int)) ((0 : Int), (0 : Int), (0 : Int), [])) = Prod.snd d) = false → ∃
  (x' : Nat), (x' ≤ List.length (Prod.fst d) ∧ fidxGo (Prod.snd d) (List.drop x' (Prod.fst d)) x' = fidxGo (Prod.snd d) (Prod.fst d) (0 : Nat)) ∧ List.length (Prod.fst d) - x' < List.length (Prod.fst d) - x ∧ Prod.fst d
  = Prod.fst d ∧ Prod.snd d = Prod.snd d ∧ (↑(List.length (Prod.fst d)) : Int) = (↑(List.length (Prod.fst d)) : Int) ∧ IntKind.wrap IntKind.i64 ((↑x : Int) + (1 : Int)) = (↑x' : Int))) ∧ (decide ((↑x : Int) <
  (↑(List.length (Prod.fst d)) : Int)) = false → (-1 : Int) = fidxGo (Prod.snd d) (Prod.fst d) (0 : Nat)) := by
  intro (d : List Fl × Int) hw _
  obtain ⟨xs, t⟩ := d
  have hl : xs.length ≤ 9223372036854775807 := hw.1.1
  simp only [Int.toNat_natCast, exists_const, and_true, true_and, implies_true, decide_eq_true_eq, decide_eq_false_iff_not, Bool.not_eq_true', Bool.not_eq_false', beq_iff_eq, forall_const]
  refine ⟨⟨by omega, by simp⟩, rfl, fun x ⟨h1, h2⟩ => ⟨fun h3 => ?_, fun h3 => ?_⟩⟩
  · have h4 : x < xs.length := by omega
    rw [getD_drop_cons (x := ((0 : Int), (0 : Int), (0 : Int), ([] : List Tk))) h4, fidxGo] at h2
    rw [wrap_succ (by omega)]
    refine ⟨⟨by omega, by omega⟩, fun h5 => ?_, fun h5 => ⟨x + 1, ⟨by omega, ?_⟩, by omega, rfl⟩⟩
    · rw [if_pos h5] at h2; exact h2
    · rw [if_neg h5] at h2; exact h2
  · have h4 : x = xs.length := by omega
    rw [h4, List.drop_length, fidxGo] at h2
    exact h2
theorem v_I_flowOf :
  ∀ (d : (List (Int × Int × Int × List (Int × Int)) × Int × Bool) × Int), Ty.wf ringT (Prod.fst d) ∧ Ty.wf i64T (Prod.snd d) → True → True ∧ (Ty.wf i64T (fidxGo (Prod.snd d) (Prod.fst (Prod.fst d)) (0 : Nat)) → fidxGo
  (Prod.snd d) (Prod.fst (Prod.fst d)) (0 : Nat) = fidxGo (Prod.snd d) (Prod.fst (Prod.fst d)) (0 : Nat)) := by
  intro d _ _
  exact ⟨trivial, fun _ => rfl⟩
theorem gap_no {r : Rg} {a b : Int} (h : ¬ (ringOkF r.1 r.2.1 r.2.2 = true ∧ 0 ≤ fidxGo a r.1 0 ∧ 0 ≤ fidxGo b r.1 0)) : -1 = gapF r a b := by
  unfold gapF; rw [if_neg h]
theorem v_I_FairGap :
  ∀ (d : (List (Int × Int × Int × List (Int × Int)) × Int × Bool) × Int × Int), Ty.wf ringT (Prod.fst d) ∧ Ty.wf i64T (Prod.fst (Prod.snd d)) ∧ Ty.wf i64T (Prod.snd (Prod.snd d)) → True → True ∧ True ∧ (Ty.wf i64T
  (fidxGo (Prod.snd (Prod.snd d)) (Prod.fst (Prod.fst d)) (0 : Nat)) → Ty.wf i64T (fidxGo (Prod.fst (Prod.snd d)) (Prod.fst (Prod.fst d)) (0 : Nat)) → True ∧ ((!ringOkF (Prod.fst (Prod.fst d)) (Prod.fst (Prod.snd
  (Prod.fst d))) (Prod.snd (Prod.snd (Prod.fst d)))) = true → (-1 : Int) = gapF (Prod.fst d) (Prod.fst (Prod.snd d)) (Prod.snd (Prod.snd d))) ∧ ((!ringOkF (Prod.fst (Prod.fst d)) (Prod.fst (Prod.snd (Prod.fst d)))
  (Prod.snd (Prod.snd (Prod.fst d)))) = false → (decide (fidxGo (Prod.fst (Prod.snd d)) (Prod.fst (Prod.fst d)) (0 : Nat) < (0 : Int)) = true → (-1 : Int) = gapF (Prod.fst d) (Prod.fst (Prod.snd d)) (Prod.snd (Prod.snd
  d))) ∧ (decide (fidxGo (Prod.fst (Prod.snd d)) (Prod.fst (Prod.fst d)) (0 : Nat) < (0 : Int)) = false → (decide (fidxGo (Prod.snd (Prod.snd d)) (Prod.fst (Prod.fst d)) (0 : Nat) < (0 : Int)) = true → (-1 : Int) = gapF
  (Prod.fst d) (Prod.fst (Prod.snd d)) (Prod.snd (Prod.snd d))) ∧ (decide (fidxGo (Prod.snd (Prod.snd d)) (Prod.fst (Prod.fst d)) (0 : Nat) < (0 : Int)) = false → ((((0 : Int) ≤ fidxGo (Prod.fst (Prod.snd d)) (Prod.fst
  (Prod.fst d)) (0 : Nat) ∧ fidxGo (Prod.fst (Prod.snd d)) (Prod.fst (Prod.fst d)) (0 : Nat) < (↑(List.length (Prod.fst (Prod.fst d))) : Int)) ∧ (((0 : Int) ≤ fidxGo (Prod.snd (Prod.snd d)) (Prod.fst (Prod.fst d)) (0 :
  Nat) ∧ fidxGo (Prod.snd (Prod.snd d)) (Prod.fst (Prod.fst d)) (0 : Nat) < (↑(List.length (Prod.fst (Prod.fst d))) : Int)) ∧ IntKind.wrap IntKind.i64 (IntKind.wrap IntKind.i64 (IntKind.wrap IntKind.i64 ((2 : Int) *
  Prod.fst (Prod.snd (List.getD (Prod.fst (Prod.fst d)) (Int.toNat (fidxGo (Prod.fst (Prod.snd d)) (Prod.fst (Prod.fst d)) (0 : Nat))) ((0 : Int), (0 : Int), (0 : Int), [])))) * Prod.fst (Prod.snd (List.getD (Prod.fst
  (Prod.fst d)) (Int.toNat (fidxGo (Prod.snd (Prod.snd d)) (Prod.fst (Prod.fst d)) (0 : Nat))) ((0 : Int), (0 : Int), (0 : Int), [])))) + IntKind.wrap IntKind.i64 ((200000 : Int) * IntKind.wrap IntKind.i64 (Prod.fst
  (Prod.snd (List.getD (Prod.fst (Prod.fst d)) (Int.toNat (fidxGo (Prod.fst (Prod.snd d)) (Prod.fst (Prod.fst d)) (0 : Nat))) ((0 : Int), (0 : Int), (0 : Int), []))) + Prod.fst (Prod.snd (List.getD (Prod.fst (Prod.fst
  d)) (Int.toNat (fidxGo (Prod.snd (Prod.snd d)) (Prod.fst (Prod.fst d)) (0 : Nat))) ((0 : Int), (0 : Int), (0 : Int), [])))))) = gapF (Prod.fst d) (Prod.fst (Prod.snd d)) (Prod.snd (Prod.snd d))) ∧ (((0 : Int) ≤ fidxGo
  (Prod.snd (Prod.snd d)) (Prod.fst (Prod.fst d)) (0 : Nat) ∧ fidxGo (Prod.snd (Prod.snd d)) (Prod.fst (Prod.fst d)) (0 : Nat) < (↑(List.length (Prod.fst (Prod.fst d))) : Int)) ∧ IntKind.wrap IntKind.i64 (IntKind.wrap
  IntKind.i64 (IntKind.wrap IntKind.i64 ((2 : Int) * Prod.fst (Prod.snd (List.getD (Prod.fst (Prod.fst d)) (Int.toNat (fidxGo (Prod.fst (Prod.snd d)) (Prod.fst (Prod.fst d)) (0 : Nat))) ((0 : Int), (0 : Int), (0 : Int),
  [])))) * Prod.fst (Prod.snd (List.getD (Prod.fst (Prod.fst d)) (Int.toNat (fidxGo (Prod.snd (Prod.snd d)) (Prod.fst (Prod.fst d)) (0 : Nat))) ((0 : Int), (0 : Int), (0 : Int), [])))) + IntKind.wrap IntKind.i64 ((200000
  : Int) * IntKind.wrap IntKind.i64 (Prod.fst (Prod.snd (List.getD (Prod.fst (Prod.fst d)) (Int.toNat (fidxGo (Prod.fst (Prod.snd d)) (Prod.fst (Prod.fst d)) (0 : Nat))) ((0 : Int), (0 : Int), (0 : Int), []))) + Prod.fst
  (Prod.snd (List.getD (Prod.fst (Prod.fst d)) (Int.toNat (fidxGo (Prod.snd (Prod.snd d)) (Prod.fst (Prod.fst d)) (0 : Nat))) ((0 : Int), (0 : Int), (0 : Int), [])))))) = gapF (Prod.fst d) (Prod.fst (Prod.snd d))
  (Prod.snd (Prod.snd d))) ∧ ((0 : Int) ≤ fidxGo (Prod.snd (Prod.snd d)) (Prod.fst (Prod.fst d)) (0 : Nat) ∧ fidxGo (Prod.snd (Prod.snd d)) (Prod.fst (Prod.fst d)) (0 : Nat) < (↑(List.length (Prod.fst (Prod.fst d))) :
  Int)) ∧ IntKind.wrap IntKind.i64 (IntKind.wrap IntKind.i64 (IntKind.wrap IntKind.i64 ((2 : Int) * Prod.fst (Prod.snd (List.getD (Prod.fst (Prod.fst d)) (Int.toNat (fidxGo (Prod.fst (Prod.snd d)) (Prod.fst (Prod.fst d))
  (0 : Nat))) ((0 : Int), (0 : Int), (0 : Int), [])))) * Prod.fst (Prod.snd (List.getD (Prod.fst (Prod.fst d)) (Int.toNat (fidxGo (Prod.snd (Prod.snd d)) (Prod.fst (Prod.fst d)) (0 : Nat))) ((0 : Int), (0 : Int), (0 :
  Int), [])))) + IntKind.wrap IntKind.i64 ((200000 : Int) * IntKind.wrap IntKind.i64 (Prod.fst (Prod.snd (List.getD (Prod.fst (Prod.fst d)) (Int.toNat (fidxGo (Prod.fst (Prod.snd d)) (Prod.fst (Prod.fst d)) (0 : Nat)))
  ((0 : Int), (0 : Int), (0 : Int), []))) + Prod.fst (Prod.snd (List.getD (Prod.fst (Prod.fst d)) (Int.toNat (fidxGo (Prod.snd (Prod.snd d)) (Prod.fst (Prod.fst d)) (0 : Nat))) ((0 : Int), (0 : Int), (0 : Int), []))))))
  = gapF (Prod.fst d) (Prod.fst (Prod.snd d)) (Prod.snd (Prod.snd d)) ∧ IntKind.wrap IntKind.i64 (IntKind.wrap IntKind.i64 (IntKind.wrap IntKind.i64 ((2 : Int) * Prod.fst (Prod.snd (List.getD (Prod.fst (Prod.fst d))
  (Int.toNat (fidxGo (Prod.fst (Prod.snd d)) (Prod.fst (Prod.fst d)) (0 : Nat))) ((0 : Int), (0 : Int), (0 : Int), [])))) * Prod.fst (Prod.snd (List.getD (Prod.fst (Prod.fst d)) (Int.toNat (fidxGo (Prod.snd (Prod.snd d))
  (Prod.fst (Prod.fst d)) (0 : Nat))) ((0 : Int), (0 : Int), (0 : Int), [])))) + IntKind.wrap IntKind.i64 ((200000 : Int) * IntKind.wrap IntKind.i64 (Prod.fst (Prod.snd (List.getD (Prod.fst (Prod.fst d)) (Int.toNat
  (fidxGo (Prod.fst (Prod.snd d)) (Prod.fst (Prod.fst d)) (0 : Nat))) ((0 : Int), (0 : Int), (0 : Int), []))) + Prod.fst (Prod.snd (List.getD (Prod.fst (Prod.fst d)) (Int.toNat (fidxGo (Prod.snd (Prod.snd d)) (Prod.fst
  (Prod.fst d)) (0 : Nat))) ((0 : Int), (0 : Int), (0 : Int), [])))))) = gapF (Prod.fst d) (Prod.fst (Prod.snd d)) (Prod.snd (Prod.snd d))) ∧ (((0 : Int) ≤ fidxGo (Prod.fst (Prod.snd d)) (Prod.fst (Prod.fst d)) (0 : Nat)
  ∧ fidxGo (Prod.fst (Prod.snd d)) (Prod.fst (Prod.fst d)) (0 : Nat) < (↑(List.length (Prod.fst (Prod.fst d))) : Int)) ∧ (((0 : Int) ≤ fidxGo (Prod.snd (Prod.snd d)) (Prod.fst (Prod.fst d)) (0 : Nat) ∧ fidxGo (Prod.snd
  (Prod.snd d)) (Prod.fst (Prod.fst d)) (0 : Nat) < (↑(List.length (Prod.fst (Prod.fst d))) : Int)) ∧ IntKind.wrap IntKind.i64 (IntKind.wrap IntKind.i64 (IntKind.wrap IntKind.i64 ((2 : Int) * Prod.fst (Prod.snd
  (List.getD (Prod.fst (Prod.fst d)) (Int.toNat (fidxGo (Prod.fst (Prod.snd d)) (Prod.fst (Prod.fst d)) (0 : Nat))) ((0 : Int), (0 : Int), (0 : Int), [])))) * Prod.fst (Prod.snd (List.getD (Prod.fst (Prod.fst d))
  (Int.toNat (fidxGo (Prod.snd (Prod.snd d)) (Prod.fst (Prod.fst d)) (0 : Nat))) ((0 : Int), (0 : Int), (0 : Int), [])))) + IntKind.wrap IntKind.i64 ((200000 : Int) * IntKind.wrap IntKind.i64 (Prod.fst (Prod.snd
  (List.getD (Prod.fst (Prod.fst d)) (Int.toNat (fidxGo (Prod.fst (Prod.snd d)) (Prod.fst (Prod.fst d)) (0 : Nat))) ((0 : Int), (0 : Int), (0 : Int), []))) + Prod.fst (Prod.snd (List.getD (Prod.fst (Prod.fst d))
  (Int.toNat (fidxGo (Prod.snd (Prod.snd d)) (Prod.fst (Prod.fst d)) (0 : Nat))) ((0 : Int), (0 : Int), (0 : Int), [])))))) = gapF (Prod.fst d) (Prod.fst (Prod.snd d)) (Prod.snd (Prod.snd d))) ∧ ((0 : Int) ≤ fidxGo
  (Prod.snd (Prod.snd d)) (Prod.fst (Prod.fst d)) (0 : Nat) ∧ fidxGo (Prod.snd (Prod.snd d)) (Prod.fst (Prod.fst d)) (0 : Nat) < (↑(List.length (Prod.fst (Prod.fst d))) : Int)) ∧ IntKind.wrap IntKind.i64 (IntKind.wrap
  IntKind.i64 (IntKind.wrap IntKind.i64 ((2 : Int) * Prod.fst (Prod.snd (List.getD (Prod.fst (Prod.fst d)) (Int.toNat (fidxGo (Prod.fst (Prod.snd d)) (Prod.fst (Prod.fst d)) (0 : Nat))) ((0 : Int), (0 : Int), (0 : Int),
  [])))) * Prod.fst (Prod.snd (List.getD (Prod.fst (Prod.fst d)) (Int.toNat (fidxGo (Prod.snd (Prod.snd d)) (Prod.fst (Prod.fst d)) (0 : Nat))) ((0 : Int), (0 : Int), (0 : Int), [])))) + IntKind.wrap IntKind.i64 ((200000
  : Int) * IntKind.wrap IntKind.i64 (Prod.fst (Prod.snd (List.getD (Prod.fst (Prod.fst d)) (Int.toNat (fidxGo (Prod.fst (Prod.snd d)) (Prod.fst (Prod.fst d)) (0 : Nat))) ((0 : Int), (0 : Int), (0 : Int), []))) + Prod.fst
  (Prod.snd (List.getD (Prod.fst (Prod.fst d)) (Int.toNat (fidxGo (Prod.snd (Prod.snd d)) (Prod.fst (Prod.fst d)) (0 : Nat))) ((0 : Int), (0 : Int), (0 : Int), [])))))) = gapF (Prod.fst d) (Prod.fst (Prod.snd d))
  (Prod.snd (Prod.snd d)) ∧ IntKind.wrap IntKind.i64 (IntKind.wrap IntKind.i64 (IntKind.wrap IntKind.i64 ((2 : Int) * Prod.fst (Prod.snd (List.getD (Prod.fst (Prod.fst d)) (Int.toNat (fidxGo (Prod.fst (Prod.snd d))
  (Prod.fst (Prod.fst d)) (0 : Nat))) ((0 : Int), (0 : Int), (0 : Int), [])))) * Prod.fst (Prod.snd (List.getD (Prod.fst (Prod.fst d)) (Int.toNat (fidxGo (Prod.snd (Prod.snd d)) (Prod.fst (Prod.fst d)) (0 : Nat))) ((0 :
  Int), (0 : Int), (0 : Int), [])))) + IntKind.wrap IntKind.i64 ((200000 : Int) * IntKind.wrap IntKind.i64 (Prod.fst (Prod.snd (List.getD (Prod.fst (Prod.fst d)) (Int.toNat (fidxGo (Prod.fst (Prod.snd d)) (Prod.fst
  (Prod.fst d)) (0 : Nat))) ((0 : Int), (0 : Int), (0 : Int), []))) + Prod.fst (Prod.snd (List.getD (Prod.fst (Prod.fst d)) (Int.toNat (fidxGo (Prod.snd (Prod.snd d)) (Prod.fst (Prod.fst d)) (0 : Nat))) ((0 : Int), (0 :
  Int), (0 : Int), [])))))) = gapF (Prod.fst d) (Prod.fst (Prod.snd d)) (Prod.snd (Prod.snd d))) ∧ ((0 : Int) ≤ fidxGo (Prod.snd (Prod.snd d)) (Prod.fst (Prod.fst d)) (0 : Nat) ∧ fidxGo (Prod.snd (Prod.snd d)) (Prod.fst
  (Prod.fst d)) (0 : Nat) < (↑(List.length (Prod.fst (Prod.fst d))) : Int)) ∧ (((0 : Int) ≤ fidxGo (Prod.fst (Prod.snd d)) (Prod.fst (Prod.fst d)) (0 : Nat) ∧ fidxGo (Prod.fst (Prod.snd d)) (Prod.fst (Prod.fst d)) (0 :
  Nat) < (↑(List.length (Prod.fst (Prod.fst d))) : Int)) ∧ IntKind.wrap IntKind.i64 (IntKind.wrap IntKind.i64 (IntKind.wrap IntKind.i64 ((2 : Int) * Prod.fst (Prod.snd (List.getD (Prod.fst (Prod.fst d)) (Int.toNat
  (fidxGo (Prod.fst (Prod.snd d)) (Prod.fst (Prod.fst d)) (0 : Nat))) ((0 : Int), (0 : Int), (0 : Int), [])))) * Prod.fst (Prod.snd (List.getD (Prod.fst (Prod.fst d)) (Int.toNat (fidxGo (Prod.snd (Prod.snd d)) (Prod.fst
  (Prod.fst d)) (0 : Nat))) ((0 : Int), (0 : Int), (0 : Int), [])))) + IntKind.wrap IntKind.i64 ((200000 : Int) * IntKind.wrap IntKind.i64 (Prod.fst (Prod.snd (List.getD (Prod.fst (Prod.fst d)) (Int.toNat (fidxGo
  (Prod.fst (Prod.snd d)) (Prod.fst (Prod.fst d)) (0 : Nat))) ((0 : Int), (0 : Int), (0 : Int), []))) + Prod.fst (Prod.snd (List.getD (Prod.fst (Prod.fst d)) (Int.toNat (fidxGo (Prod.snd (Prod.snd d)) (Prod.fst (Prod.fst
  d)) (0 : Nat))) ((0 : Int), (0 : Int), (0 : Int), [])))))) = gapF (Prod.fst d) (Prod.fst (Prod.snd d)) (Prod.snd (Prod.snd d)) ∧ IntKind.wrap IntKind.i64 (IntKind.wrap IntKind.i64 (IntKind.wrap IntKind.i64 ((2 : Int) *
  Prod.fst (Prod.snd (List.getD (Prod.fst (Prod.fst d)) (Int.toNat (fidxGo (Prod.fst (Prod.snd d)) (Prod.fst (Prod.fst d)) (0 : Nat))) ((0 : Int), (0 : Int), (0 : Int), [])))) * Prod.fst (Prod.snd (List.getD (Prod.fst
  (Prod.fst d)) (Int.toNat (fidxGo (Prod.snd (Prod.snd d)) (Prod.fst (Prod.fst d)) (0 : Nat))) ((0 : Int), (0 : Int), (0 : Int), [])))) + IntKind.wrap IntKind.i64 ((200000 : Int) * IntKind.wrap IntKind.i64 (Prod.fst
  (Prod.snd (List.getD (Prod.fst (Prod.fst d)) (Int.toNat (fidxGo (Prod.fst (Prod.snd d)) (Prod.fst (Prod.fst d)) (0 : Nat))) ((0 : Int), (0 : Int), (0 : Int), []))) + Prod.fst (Prod.snd (List.getD (Prod.fst (Prod.fst
  d)) (Int.toNat (fidxGo (Prod.snd (Prod.snd d)) (Prod.fst (Prod.fst d)) (0 : Nat))) ((0 : Int), (0 : Int), (0 : Int), [])))))) = gapF (Prod.fst d) (Prod.fst (Prod.snd d)) (Prod.snd (Prod.snd d))) ∧ ((0 : Int) ≤ fidxGo
  (Prod.fst (Prod.snd d)) (Prod.fst (Prod.fst d)) (0 : Nat) ∧ fidxGo (Prod.fst (Prod.snd d)) (Prod.fst (Prod.fst d)) (0 : Nat) < (↑(List.length (Prod.fst (Prod.fst d))) : Int)) ∧ IntKind.wrap IntKind.i64 (IntKind.wrap
  IntKind.i64 (IntKind.wrap IntKind.i64 ((2 : Int) * Prod.fst (Prod.snd (List.getD (Prod.fst (Prod.fst d)) (Int.toNat (fidxGo (Prod.fst (Prod.snd d)) (Prod.fst (Prod.fst d)) (0 : Nat))) ((0 : Int), (0 : Int), (0 : Int),
  [])))) * Prod.fst (Prod.snd (List.getD (Prod.fst (Prod.fst d)) (Int.toNat (fidxGo (Prod.snd (Prod.snd d)) (Prod.fst (Prod.fst d)) (0 : Nat))) ((0 : Int), (0 : Int), (0 : Int), [])))) + IntKind.wrap IntKind.i64 ((200000
  : Int) * IntKind.wrap IntKind.i64 (Prod.fst (Prod.snd (List.getD (Prod.fst (Prod.fst d)) (Int.toNat (fidxGo (Prod.fst (Prod.snd d)) (Prod.fst (Prod.fst d)) (0 : Nat))) ((0 : Int), (0 : Int), (0 : Int), []))) + Prod.fst
  (Prod.snd (List.getD (Prod.fst (Prod.fst d)) (Int.toNat (fidxGo (Prod.snd (Prod.snd d)) (Prod.fst (Prod.fst d)) (0 : Nat))) ((0 : Int), (0 : Int), (0 : Int), [])))))) = gapF (Prod.fst d) (Prod.fst (Prod.snd d))
  (Prod.snd (Prod.snd d))) ∧ ((((0 : Int) ≤ fidxGo (Prod.fst (Prod.snd d)) (Prod.fst (Prod.fst d)) (0 : Nat) ∧ fidxGo (Prod.fst (Prod.snd d)) (Prod.fst (Prod.fst d)) (0 : Nat) < (↑(List.length (Prod.fst (Prod.fst d))) :
  Int)) ∧ (((0 : Int) ≤ fidxGo (Prod.snd (Prod.snd d)) (Prod.fst (Prod.fst d)) (0 : Nat) ∧ fidxGo (Prod.snd (Prod.snd d)) (Prod.fst (Prod.fst d)) (0 : Nat) < (↑(List.length (Prod.fst (Prod.fst d))) : Int)) ∧ IntKind.wrap
  IntKind.i64 (IntKind.wrap IntKind.i64 (IntKind.wrap IntKind.i64 ((2 : Int) * Prod.fst (Prod.snd (List.getD (Prod.fst (Prod.fst d)) (Int.toNat (fidxGo (Prod.fst (Prod.snd d)) (Prod.fst (Prod.fst d)) (0 : Nat))) ((0 :
  Int), (0 : Int), (0 : Int), [])))) * Prod.fst (Prod.snd (List.getD (Prod.fst (Prod.fst d)) (Int.toNat (fidxGo (Prod.snd (Prod.snd d)) (Prod.fst (Prod.fst d)) (0 : Nat))) ((0 : Int), (0 : Int), (0 : Int), [])))) +
  IntKind.wrap IntKind.i64 ((200000 : Int) * IntKind.wrap IntKind.i64 (Prod.fst (Prod.snd (List.getD (Prod.fst (Prod.fst d)) (Int.toNat (fidxGo (Prod.fst (Prod.snd d)) (Prod.fst (Prod.fst d)) (0 : Nat))) ((0 : Int), (0 :
  Int), (0 : Int), []))) + Prod.fst (Prod.snd (List.getD (Prod.fst (Prod.fst d)) (Int.toNat (fidxGo (Prod.snd (Prod.snd d)) (Prod.fst (Prod.fst d)) (0 : Nat))) ((0 : Int), (0 : Int), (0 : Int), [])))))) = gapF (Prod.fst
  d) (Prod.fst (Prod.snd d)) (Prod.snd (Prod.snd d))) ∧ ((0 : Int) ≤ fidxGo (Prod.snd (Prod.snd d)) (Prod.fst (Prod.fst d)) (0 : Nat) ∧ fidxGo (Prod.snd (Prod.snd d)) (Prod.fst (Prod.fst d)) (0 : Nat) < (↑(List.length
  (Prod.fst (Prod.fst d))) : Int)) ∧ IntKind.wrap IntKind.i64 (IntKind.wrap IntKind.i64 (IntKind.wrap IntKind.i64 ((2 : Int) * Prod.fst (Prod.snd (List.getD (Prod.fst (Prod.fst d)) (Int.toNat (fidxGo (Prod.fst (Prod.snd
  d)) (Prod.fst (Prod.fst d)) (0 : Nat))) ((0 : Int), (0 : Int), (0 : Int), [])))) * Prod.fst (Prod.snd (List.getD (Prod.fst (Prod.fst d)) (Int.toNat (fidxGo (Prod.snd (Prod.snd d)) (Prod.fst (Prod.fst d)) (0 : Nat)))
  ((0 : Int), (0 : Int), (0 : Int), [])))) + IntKind.wrap IntKind.i64 ((200000 : Int) * IntKind.wrap IntKind.i64 (Prod.fst (Prod.snd (List.getD (Prod.fst (Prod.fst d)) (Int.toNat (fidxGo (Prod.fst (Prod.snd d)) (Prod.fst
  (Prod.fst d)) (0 : Nat))) ((0 : Int), (0 : Int), (0 : Int), []))) + Prod.fst (Prod.snd (List.getD (Prod.fst (Prod.fst d)) (Int.toNat (fidxGo (Prod.snd (Prod.snd d)) (Prod.fst (Prod.fst d)) (0 : Nat))) ((0 : Int), (0 :
  Int), (0 : Int), [])))))) = gapF (Prod.fst d) (Prod.fst (Prod.snd d)) (Prod.snd (Prod.snd d)) ∧ IntKind.wrap IntKind.i64 (IntKind.wrap IntKind.i64 (IntKind.wrap IntKind.i64 ((2 : Int) * Prod.fst (Prod.snd (List.getD
  (Prod.fst (Prod.fst d)) (Int.toNat (fidxGo (Prod.fst (Prod.snd d)) (Prod.fst (Prod.fst d)) (0 : Nat))) ((0 : Int), (0 : Int), (0 : Int), [])))) * Prod.fst (Prod.snd (List.getD (Prod.fst (Prod.fst d)) (Int.toNat (fidxGo
  (Prod.snd (Prod.snd d)) (Prod.fst (Prod.fst d)) (0 : Nat))) ((0 : Int), (0 : Int), (0 : Int), [])))) + IntKind.wrap IntKind.i64 ((200000 : Int) * IntKind.wrap IntKind.i64 (Prod.fst (Prod.snd (List.getD (Prod.fst
  (Prod.fst d)) (Int.toNat (fidxGo (Prod.fst (Prod.snd d)) (Prod.fst (Prod.fst d)) (0 : Nat))) ((0 : Int), (0 : Int), (0 : Int), []))) + Prod.fst (Prod.snd (List.getD (Prod.fst (Prod.fst d)) (Int.toNat (fidxGo (Prod.snd
  (Prod.snd d)) (Prod.fst (Prod.fst d)) (0 : Nat))) ((0 : Int), (0 : Int), (0 : Int), [])))))) = gapF (Prod.fst d) (Prod.fst (Prod.snd d)) (Prod.snd (Prod.snd d))) ∧ ((0 : Int) ≤ fidxGo (Prod.snd (Prod.snd d)) (Prod.fst
  (Prod.fst d)) (0 : Nat) ∧ fidxGo (Prod.snd (Prod.snd d)) (Prod.fst (Prod.fst d)) (0 : Nat) < (↑(List.length (Prod.fst (Prod.fst d))) : Int)) ∧ (((0 : Int) ≤ fidxGo (Prod.fst (Prod.snd d)) (Prod.fst (Prod.fst d)) (0 :
  Nat) ∧ fidxGo (Prod.fst (Prod.snd d)) (Prod.fst (Prod.fst d)) (0 : Nat) < (↑(List.length (Prod.fst (Prod.fst d))) : Int)) ∧ IntKind.wrap IntKind.i64 (IntKind.wrap IntKind.i64 (IntKind.wrap IntKind.i64 ((2 : Int) *
  Prod.fst (Prod.snd (List.getD (Prod.fst (Prod.fst d)) (Int.toNat (fidxGo (Prod.fst (Prod.snd d)) (Prod.fst (Prod.fst d)) (0 : Nat))) ((0 : Int), (0 : Int), (0 : Int), [])))) * Prod.fst (Prod.snd (List.getD (Prod.fst
  (Prod.fst d)) (Int.toNat (fidxGo (Prod.snd (Prod.snd d)) (Prod.fst (Prod.fst d)) (0 : Nat))) ((0 : Int), (0 : Int), (0 : Int), [])))) + IntKind.wrap IntKind.i64 ((200000 : Int) * IntKind.wrap IntKind.i64 (Prod.fst
  (Prod.snd (List.getD (Prod.fst (Prod.fst d)) (Int.toNat (fidxGo (Prod.fst (Prod.snd d)) (Prod.fst (Prod.fst d)) (0 : Nat))) ((0 : Int), (0 : Int), (0 : Int), []))) + Prod.fst (Prod.snd (List.getD (Prod.fst (Prod.fst
  d)) (Int.toNat (fidxGo (Prod.snd (Prod.snd d)) (Prod.fst (Prod.fst d)) (0 : Nat))) ((0 : Int), (0 : Int), (0 : Int), [])))))) = gapF (Prod.fst d) (Prod.fst (Prod.snd d)) (Prod.snd (Prod.snd d)) ∧ IntKind.wrap
  IntKind.i64 (IntKind.wrap IntKind.i64 (IntKind.wrap IntKind.i64 ((2 : Int) * Prod.fst (Prod.snd (List.getD (Prod.fst (Prod.fst d)) (Int.toNat (fidxGo (Prod.fst (Prod.snd d)) (Prod.fst (Prod.fst d)) (0 : Nat))) ((0 :
  Int), (0 : Int), (0 : Int), [])))) * Prod.fst (Prod.snd (List.getD (Prod.fst (Prod.fst d)) (Int.toNat (fidxGo (Prod.snd (Prod.snd d)) (Prod.fst (Prod.fst d)) (0 : Nat))) ((0 : Int), (0 : Int), (0 : Int), [])))) +
  IntKind.wrap IntKind.i64 ((200000 : Int) * IntKind.wrap IntKind.i64 (Prod.fst (Prod.snd (List.getD (Prod.fst (Prod.fst d)) (Int.toNat (fidxGo (Prod.fst (Prod.snd d)) (Prod.fst (Prod.fst d)) (0 : Nat))) ((0 : Int), (0 :
  Int), (0 : Int), []))) + Prod.fst (Prod.snd (List.getD (Prod.fst (Prod.fst d)) (Int.toNat (fidxGo (Prod.snd (Prod.snd d)) (Prod.fst (Prod.fst d)) (0 : Nat))) ((0 : Int), (0 : Int), (0 : Int), [])))))) = gapF (Prod.fst
  d) (Prod.fst (Prod.snd d)) (Prod.snd (Prod.snd d))) ∧ ((0 : Int) ≤ fidxGo (Prod.fst (Prod.snd d)) (Prod.fst (Prod.fst d)) (0 : Nat) ∧ fidxGo (Prod.fst (Prod.snd d)) (Prod.fst (Prod.fst d)) (0 : Nat) < (↑(List.length
  (Prod.fst (Prod.fst d))) : Int)) ∧ IntKind.wrap IntKind.i64 (IntKind.wrap IntKind.i64 (IntKind.wrap IntKind.i64 ((2 : Int) * Prod.fst (Prod.snd (List.getD (Prod.fst (Prod.fst d)) (Int.toNat (fidxGo (Prod.fst (Prod.snd
  d)) (Prod.fst (Prod.fst d)) (0 : Nat))) ((0 : Int), (0 : Int), (0 : Int), [])))) * Prod.fst (Prod.snd (List.getD (Prod.fst (Prod.fst d)) (Int.toNat (fidxGo (Prod.snd (Prod.snd d)) (Prod.fst (Prod.fst d)) (0 : Nat)))
  ((0 : Int), (0 : Int), (0 : Int), [])))) + IntKind.wrap IntKind.i64 ((200000 : Int) * IntKind.wrap IntKind.i64 (Prod.fst (Prod.snd (List.getD (Prod.fst (Prod.fst d)) (Int.toNat (fidxGo (Prod.fst (Prod.snd d)) (Prod.fst
  (Prod.fst d)) (0 : Nat))) ((0 : Int), (0 : Int), (0 : Int), []))) + Prod.fst (Prod.snd (List.getD (Prod.fst (Prod.fst d)) (Int.toNat (fidxGo (Prod.snd (Prod.snd d)) (Prod.fst (Prod.fst d)) (0 : Nat))) ((0 : Int), (0 :
  Int), (0 : Int), [])))))) = gapF (Prod.fst d) (Prod.fst (Prod.snd d)) (Prod.snd (Prod.snd d))) ∧ ((0 : Int) ≤ fidxGo (Prod.snd (Prod.snd d)) (Prod.fst (Prod.fst d)) (0 : Nat) ∧ fidxGo (Prod.snd (Prod.snd d)) (Prod.fst
  (Prod.fst d)) (0 : Nat) < (↑(List.length (Prod.fst (Prod.fst d))) : Int)) ∧ ((((0 : Int) ≤ fidxGo (Prod.fst (Prod.snd d)) (Prod.fst (Prod.fst d)) (0 : Nat) ∧ fidxGo (Prod.fst (Prod.snd d)) (Prod.fst (Prod.fst d)) (0 :
  Nat) < (↑(List.length (Prod.fst (Prod.fst d))) : Int)) ∧ IntKind.wrap IntKind.i64 (IntKind.wrap IntKind.i64 (IntKind.wrap IntKind.i64 ((2 : Int) * Prod.fst (Prod.snd (List.getD (Prod.fst (Prod.fst d)) (Int.toNat
  (fidxGo (Prod.fst (Prod.snd d)) (Prod.fst (Prod.fst d)) (0 : Nat))) ((0 : Int), (0 : Int), (0 : Int), [])))) * Prod.fst (Prod.snd (List.getD (Prod.fst (Prod.fst d)) (Int.toNat (fidxGo (Prod.snd (Prod.snd d)) (Prod.fst
  (Prod.fst d)) (0 : Nat))) ((0 : Int), (0 : Int), (0 : Int), [])))) + IntKind.wrap IntKind.i64 ((200000 : Int) * IntKind.wrap IntKind.i64 (Prod.fst (Prod.snd (List.getD (Prod.fst (Prod.fst d)) (Int.toNat (fidxGo
  (Prod.fst (Prod.snd d)) (Prod.fst (Prod.fst d)) (0 : Nat))) ((0 : Int), (0 : Int), (0 : Int), []))) + Prod.fst (Prod.snd (List.getD (Prod.fst (Prod.fst d)) (Int.toNat (fidxGo (Prod.snd (Prod.snd d)) (Prod.fst (Prod.fst
  d)) (0 : Nat))) ((0 : Int), (0 : Int), (0 : Int), [])))))) = gapF (Prod.fst d) (Prod.fst (Prod.snd d)) (Prod.snd (Prod.snd d)) ∧ IntKind.wrap IntKind.i64 (IntKind.wrap IntKind.i64 (IntKind.wrap IntKind.i64 ((2 : Int) *
  Prod.fst (Prod.snd (List.getD (Prod.fst (Prod.fst d)) (Int.toNat (fidxGo (Prod.fst (Prod.snd d)) (Prod.fst (Prod.fst d)) (0 : Nat))) ((0 : Int), (0 : Int), (0 : Int), [])))) * Prod.fst (Prod.snd (List.getD (Prod.fst
  (Prod.fst d)) (Int.toNat (fidxGo (Prod.snd (Prod.snd d)) (Prod.fst (Prod.fst d)) (0 : Nat))) ((0 : Int), (0 : Int), (0 : Int), [])))) + IntKind.wrap IntKind.i64 ((200000 : Int) * IntKind.wrap IntKind.i64 (Prod.fst
  (Prod.snd (List.getD (Prod.fst (Prod.fst d)) (Int.toNat (fidxGo (Prod.fst (Prod.snd d)) (Prod.fst (Prod.fst d)) (0 : Nat))) ((0 : Int), (0 : Int), (0 : Int), []))) + Prod.fst (Prod.snd (List.getD (Prod.fst (Prod.fst
  d)) (Int.toNat (fidxGo (Prod.snd (Prod.snd d)) (Prod.fst (Prod.fst d)) (0 : Nat))) ((0 : Int), (0 : Int), (0 : Int), [])))))) = gapF (Prod.fst d) (Prod.fst (Prod.snd d)) (Prod.snd (Prod.snd d))) ∧ ((0 : Int) ≤ fidxGo
  (Prod.fst (Prod.snd d)) (Prod.fst (Prod.fst d)) (0 : Nat) ∧ fidxGo (Prod.fst (Prod.snd d)) (Prod.fst (Prod.fst d)) (0 : Nat) < (↑(List.length (Prod.fst (Prod.fst d))) : Int)) ∧ IntKind.wrap IntKind.i64 (IntKind.wrap
  IntKind.i64 (IntKind.wrap IntKind.i64 ((2 : Int) * Prod.fst (Prod.snd (List.getD (Prod.fst (Prod.fst d)) (Int.toNat (fidxGo (Prod.fst (Prod.snd d)) (Prod.fst (Prod.fst d)) (0 : Nat))) ((0 : Int), (0 : Int), (0 : Int),
  [])))) * Prod.fst (Prod.snd (List.getD (Prod.fst (Prod.fst d)) (Int.toNat (fidxGo (Prod.snd (Prod.snd d)) (Prod.fst (Prod.fst d)) (0 : Nat))) ((0 : Int), (0 : Int), (0 : Int), [])))) + IntKind.wrap IntKind.i64 ((200000
  : Int) * IntKind.wrap IntKind.i64 (Prod.fst (Prod.snd (List.getD (Prod.fst (Prod.fst d)) (Int.toNat (fidxGo (Prod.fst (Prod.snd d)) (Prod.fst (Prod.fst d)) (0 : Nat))) ((0 : Int), (0 : Int), (0 : Int), []))) + Prod.fst
  (Prod.snd (List.getD (Prod.fst (Prod.fst d)) (Int.toNat (fidxGo (Prod.snd (Prod.snd d)) (Prod.fst (Prod.fst d)) (0 : Nat))) ((0 : Int), (0 : Int), (0 : Int), [])))))) = gapF (Prod.fst d) (Prod.fst (Prod.snd d))
  (Prod.snd (Prod.snd d))) ∧ ((0 : Int) ≤ fidxGo (Prod.fst (Prod.snd d)) (Prod.fst (Prod.fst d)) (0 : Nat) ∧ fidxGo (Prod.fst (Prod.snd d)) (Prod.fst (Prod.fst d)) (0 : Nat) < (↑(List.length (Prod.fst (Prod.fst d))) :
  Int)) ∧ IntKind.wrap IntKind.i64 (IntKind.wrap IntKind.i64 (IntKind.wrap IntKind.i64 ((2 : Int) * Prod.fst (Prod.snd (List.getD (Prod.fst (Prod.fst d)) (Int.toNat (fidxGo (Prod.fst (Prod.snd d)) (Prod.fst (Prod.fst d))
  (0 : Nat))) ((0 : Int), (0 : Int), (0 : Int), [])))) * Prod.fst (Prod.snd (List.getD (Prod.fst (Prod.fst d)) (Int.toNat (fidxGo (Prod.snd (Prod.snd d)) (Prod.fst (Prod.fst d)) (0 : Nat))) ((0 : Int), (0 : Int), (0 :
  Int), [])))) + IntKind.wrap IntKind.i64 ((200000 : Int) * IntKind.wrap IntKind.i64 (Prod.fst (Prod.snd (List.getD (Prod.fst (Prod.fst d)) (Int.toNat (fidxGo (Prod.fst (Prod.snd d)) (Prod.fst (Prod.fst d)) (0 : Nat)))
  ((0 : Int), (0 : Int), (0 : Int), []))) + Prod.fst (Prod.snd (List.getD (Prod.fst (Prod.fst d)) (Int.toNat (fidxGo (Prod.snd (Prod.snd d)) (Prod.fst (Prod.fst d)) (0 : Nat))) ((0 : Int), (0 : Int), (0 : Int), []))))))
  = gapF (Prod.fst d) (Prod.fst (Prod.snd d)) (Prod.snd (Prod.snd d)))))) := by
  intro (d : (List Fl × Int × Bool) × Int × Int) hw _
  obtain ⟨⟨xs, tn, fr⟩, a, b⟩ := d
  have ra := fidx_range a xs 0
  have rb := fidx_range b xs 0
  have no := @gap_no (xs, tn, fr) a b
  simp only [Int.toNat_natCast, exists_const, and_true, true_and, implies_true, decide_eq_true_eq, decide_eq_false_iff_not, Bool.not_eq_true', Bool.not_eq_false', beq_iff_eq, forall_const]
  refine fun _ _ => ⟨fun h => no (fun hh => by simp only at hh; rw [hh.1] at h; cases h), fun h1 => ⟨fun h => no (fun hh => absurd hh.2.1 (by simp only; omega)), fun h2 => ⟨fun h => no (fun hh => absurd hh.2.2 (by simp only; omega)), fun h3 => ?_⟩⟩⟩
  have hA1 : 0 ≤ fidxGo a xs 0 := by omega
  have hA2 : fidxGo a xs 0 < (xs.length : Int) := by omega
  have hB1 : 0 ≤ fidxGo b xs 0 := by omega
  have hB2 : fidxGo b xs 0 < (xs.length : Int) := by omega
  have hg : gapF (xs, tn, fr) a b = gapOf (xs.getD (fidxGo a xs 0).toNat (0, 0, 0, [])).2.1 (xs.getD (fidxGo b xs 0).toNat (0, 0, 0, [])).2.1 := by
    unfold gapF; rw [if_pos ⟨h1, hA1, hB1⟩]
  rw [hg]
  unfold gapOf w64
  simp only [hA1, hA2, hB1, hB2, and_self, implies_true, true_and]
end Go.SF
