/- What is owed of the law's code: FnExactDecodeGaps. No condition. -/
import Derived.Test.YtdfdoigiehmnoaaSxPDec
import Derived.Test.YtdfdoigiehmnoaaSxPMark
import Derived.Test.YtdfdoigiehmnoaaSxPPlan2
namespace Go.SF
open Go.SX Go
set_option linter.unusedVariables false
set_option linter.unusedSimpArgs false
set_option maxRecDepth 10000
theorem dec_len (f : Int) (xs ys : List Int) (k : Int) : (decF f xs ys k).1.length ≤ 10 := by
  by_cases h : (decF f xs ys k).2.2 = true
  · obtain ⟨h1, h2, h3, s, h4, h5, h6⟩ := dec_inv h
    obtain ⟨hpt, hl, hk1, hk2⟩ := code_ok h1
    obtain ⟨m1, m2⟩ := msg_ok hpt h2 s
    unfold hitB at h5
    rw [Bool.and_eq_true, decide_eq_true_eq] at h5
    rw [h6]
    unfold padF
    rw [List.length_append, List.length_replicate]
    omega
  · unfold decF at h ⊢
    split
    · rename_i hc
      rw [if_pos hc] at h
      cases hf : findF (hitB (modF f) xs ys k.toNat) (2 ^ xs.length) with
      | none => simp [decR]
      | some s => rw [hf] at h; exact absurd rfl h
    · simp
theorem gap_len (f : Int) (xs ys : List Int) (k : Int) (gone : List Int) : (gapF f xs ys k gone).1.length ≤ 10 := by
  unfold gapF
  split
  · exact dec_len _ _ _ _
  · simp
theorem v_FnExactDecodeGaps :
  ∀ (d : Int × List Int × List Int × Int × List Int), Ty.wf i64T (Prod.fst d) ∧ Ty.wf listT (Prod.fst (Prod.snd d)) ∧ Ty.wf listT (Prod.fst (Prod.snd (Prod.snd d))) ∧ Ty.wf i64T (Prod.fst (Prod.snd (Prod.snd (Prod.snd
  d)))) ∧ Ty.wf listT (Prod.snd (Prod.snd (Prod.snd (Prod.snd d)))) → True → (decide ((1048576 : Int) < (↑(List.length (Prod.fst (Prod.snd d))) : Int)) = true → true = true) ∧ (decide ((1048576 : Int) < (↑(List.length
  (Prod.fst (Prod.snd d))) : Int)) = false → (decide ((1048576 : Int) < (↑(List.length (Prod.fst (Prod.snd (Prod.snd d)))) : Int)) = true → true = true) ∧ (decide ((1048576 : Int) < (↑(List.length (Prod.fst (Prod.snd
  (Prod.snd d)))) : Int)) = false → (decide ((1048576 : Int) < (↑(List.length (Prod.snd (Prod.snd (Prod.snd (Prod.snd d))))) : Int)) = true → true = true) ∧ (decide ((1048576 : Int) < (↑(List.length (Prod.snd (Prod.snd
  (Prod.snd (Prod.snd d))))) : Int)) = false → List.length (Prod.fst (Prod.snd d)) ≤ (1048576 : Nat) ∧ (Ty.wf listT (Prod.fst (Prod.snd d)) → List.length (Prod.fst (Prod.snd (Prod.snd d))) ≤ (1048576 : Nat) ∧ (Ty.wf
  listT (Prod.fst (Prod.snd (Prod.snd d))) → List.length (Prod.snd (Prod.snd (Prod.snd (Prod.snd d)))) ≤ (1048576 : Nat) ∧ (Ty.wf listT (Prod.snd (Prod.snd (Prod.snd (Prod.snd d)))) → True ∧ (Ty.wf listT (Prod.fst (gapF
  (Prod.fst d) (Prod.fst (Prod.snd d)) (Prod.fst (Prod.snd (Prod.snd d))) (Prod.fst (Prod.snd (Prod.snd (Prod.snd d)))) (Prod.snd (Prod.snd (Prod.snd (Prod.snd d)))))) ∧ Ty.wf i64T (Prod.fst (Prod.snd (gapF (Prod.fst d)
  (Prod.fst (Prod.snd d)) (Prod.fst (Prod.snd (Prod.snd d))) (Prod.fst (Prod.snd (Prod.snd (Prod.snd d)))) (Prod.snd (Prod.snd (Prod.snd (Prod.snd d))))))) ∧ Ty.wf Ty.bool (Prod.snd (Prod.snd (gapF (Prod.fst d) (Prod.fst
  (Prod.snd d)) (Prod.fst (Prod.snd (Prod.snd d))) (Prod.fst (Prod.snd (Prod.snd (Prod.snd d)))) (Prod.snd (Prod.snd (Prod.snd (Prod.snd d))))))) → List.length (Prod.fst (Prod.snd d)) ≤ (1048576 : Nat) ∧ (Ty.wf listT
  (Prod.fst (Prod.snd d)) → List.length (Prod.fst (Prod.snd (Prod.snd d))) ≤ (1048576 : Nat) ∧ (Ty.wf listT (Prod.fst (Prod.snd (Prod.snd d))) → List.length (Prod.snd (Prod.snd (Prod.snd (Prod.snd d)))) ≤ (1048576 : Nat)
  ∧ (Ty.wf listT (Prod.snd (Prod.snd (Prod.snd (Prod.snd d)))) → True ∧ (Ty.wf listT (Prod.fst (gapF (Prod.fst d) (Prod.fst (Prod.snd d)) (Prod.fst (Prod.snd (Prod.snd d))) (Prod.fst (Prod.snd (Prod.snd (Prod.snd d))))
  (Prod.snd (Prod.snd (Prod.snd (Prod.snd d)))))) ∧ Ty.wf i64T (Prod.fst (Prod.snd (gapF (Prod.fst d) (Prod.fst (Prod.snd d)) (Prod.fst (Prod.snd (Prod.snd d))) (Prod.fst (Prod.snd (Prod.snd (Prod.snd d)))) (Prod.snd
  (Prod.snd (Prod.snd (Prod.snd d))))))) ∧ Ty.wf Ty.bool (Prod.snd (Prod.snd (gapF (Prod.fst d) (Prod.fst (Prod.snd d)) (Prod.fst (Prod.snd (Prod.snd d))) (Prod.fst (Prod.snd (Prod.snd (Prod.snd d)))) (Prod.snd (Prod.snd
  (Prod.snd (Prod.snd d))))))) → True ∧ ((!decide (Prod.fst (gapF (Prod.fst d) (Prod.fst (Prod.snd d)) (Prod.fst (Prod.snd (Prod.snd d))) (Prod.fst (Prod.snd (Prod.snd (Prod.snd d)))) (Prod.snd (Prod.snd (Prod.snd
  (Prod.snd d))))) = Prod.fst (gapF (Prod.fst d) (Prod.fst (Prod.snd d)) (Prod.fst (Prod.snd (Prod.snd d))) (Prod.fst (Prod.snd (Prod.snd (Prod.snd d)))) (Prod.snd (Prod.snd (Prod.snd (Prod.snd d))))))) = true → false =
  true) ∧ ((!decide (Prod.fst (gapF (Prod.fst d) (Prod.fst (Prod.snd d)) (Prod.fst (Prod.snd (Prod.snd d))) (Prod.fst (Prod.snd (Prod.snd (Prod.snd d)))) (Prod.snd (Prod.snd (Prod.snd (Prod.snd d))))) = Prod.fst (gapF
  (Prod.fst d) (Prod.fst (Prod.snd d)) (Prod.fst (Prod.snd (Prod.snd d))) (Prod.fst (Prod.snd (Prod.snd (Prod.snd d)))) (Prod.snd (Prod.snd (Prod.snd (Prod.snd d))))))) = false → ((!decide (Prod.fst (Prod.snd (gapF
  (Prod.fst d) (Prod.fst (Prod.snd d)) (Prod.fst (Prod.snd (Prod.snd d))) (Prod.fst (Prod.snd (Prod.snd (Prod.snd d)))) (Prod.snd (Prod.snd (Prod.snd (Prod.snd d)))))) = Prod.fst (Prod.snd (gapF (Prod.fst d) (Prod.fst
  (Prod.snd d)) (Prod.fst (Prod.snd (Prod.snd d))) (Prod.fst (Prod.snd (Prod.snd (Prod.snd d)))) (Prod.snd (Prod.snd (Prod.snd (Prod.snd d)))))))) = true → false = true) ∧ ((!decide (Prod.fst (Prod.snd (gapF (Prod.fst d)
  (Prod.fst (Prod.snd d)) (Prod.fst (Prod.snd (Prod.snd d))) (Prod.fst (Prod.snd (Prod.snd (Prod.snd d)))) (Prod.snd (Prod.snd (Prod.snd (Prod.snd d)))))) = Prod.fst (Prod.snd (gapF (Prod.fst d) (Prod.fst (Prod.snd d))
  (Prod.fst (Prod.snd (Prod.snd d))) (Prod.fst (Prod.snd (Prod.snd (Prod.snd d)))) (Prod.snd (Prod.snd (Prod.snd (Prod.snd d)))))))) = false → ((!Prod.snd (Prod.snd (gapF (Prod.fst d) (Prod.fst (Prod.snd d)) (Prod.fst
  (Prod.snd (Prod.snd d))) (Prod.fst (Prod.snd (Prod.snd (Prod.snd d)))) (Prod.snd (Prod.snd (Prod.snd (Prod.snd d)))))) == Prod.snd (Prod.snd (gapF (Prod.fst d) (Prod.fst (Prod.snd d)) (Prod.fst (Prod.snd (Prod.snd d)))
  (Prod.fst (Prod.snd (Prod.snd (Prod.snd d)))) (Prod.snd (Prod.snd (Prod.snd (Prod.snd d))))))) = true → false = true) ∧ ((!Prod.snd (Prod.snd (gapF (Prod.fst d) (Prod.fst (Prod.snd d)) (Prod.fst (Prod.snd (Prod.snd
  d))) (Prod.fst (Prod.snd (Prod.snd (Prod.snd d)))) (Prod.snd (Prod.snd (Prod.snd (Prod.snd d)))))) == Prod.snd (Prod.snd (gapF (Prod.fst d) (Prod.fst (Prod.snd d)) (Prod.fst (Prod.snd (Prod.snd d))) (Prod.fst (Prod.snd
  (Prod.snd (Prod.snd d)))) (Prod.snd (Prod.snd (Prod.snd (Prod.snd d))))))) = false → List.length (Prod.fst (Prod.snd d)) ≤ (1048576 : Nat) ∧ (Ty.wf listT (Prod.fst (Prod.snd d)) → True ∧ ((!decide (Prod.fst (Prod.snd
  d) = Prod.fst (Prod.snd d))) = true → false = true) ∧ ((!decide (Prod.fst (Prod.snd d) = Prod.fst (Prod.snd d))) = false → List.length (Prod.fst (Prod.snd (Prod.snd d))) ≤ (1048576 : Nat) ∧ (Ty.wf listT (Prod.fst
  (Prod.snd (Prod.snd d))) → True ∧ ((!decide (Prod.fst (Prod.snd (Prod.snd d)) = Prod.fst (Prod.snd (Prod.snd d)))) = true → false = true) ∧ ((!decide (Prod.fst (Prod.snd (Prod.snd d)) = Prod.fst (Prod.snd (Prod.snd
  d)))) = false → List.length (Prod.snd (Prod.snd (Prod.snd (Prod.snd d)))) ≤ (1048576 : Nat) ∧ (Ty.wf listT (Prod.snd (Prod.snd (Prod.snd (Prod.snd d)))) → True ∧ ((!decide (Prod.snd (Prod.snd (Prod.snd (Prod.snd d))) =
  Prod.snd (Prod.snd (Prod.snd (Prod.snd d))))) = true → false = true) ∧ ((!decide (Prod.snd (Prod.snd (Prod.snd (Prod.snd d))) = Prod.snd (Prod.snd (Prod.snd (Prod.snd d))))) = false → True ∧ True ∧ True ∧ (decide (end1
  (Prod.snd (Prod.snd (Prod.snd (Prod.snd d)))) (end1 (Prod.fst (Prod.snd (Prod.snd d))) (end1 (Prod.fst (Prod.snd d)) (1 : Int))) < (0 : Int)) = true → false = true) ∧ (decide (end1 (Prod.snd (Prod.snd (Prod.snd
  (Prod.snd d)))) (end1 (Prod.fst (Prod.snd (Prod.snd d))) (end1 (Prod.fst (Prod.snd d)) (1 : Int))) < (0 : Int)) = false → True ∧ ((!decide (Prod.fst (gapF (Prod.fst d) (Prod.fst (Prod.snd d)) (Prod.fst (Prod.snd
  (Prod.snd d))) (Prod.fst (Prod.snd (Prod.snd (Prod.snd d)))) (Prod.snd (Prod.snd (Prod.snd (Prod.snd d))))) = Prod.fst (gapF (Prod.fst d) (Prod.fst (Prod.snd d)) (Prod.fst (Prod.snd (Prod.snd d))) (Prod.fst (Prod.snd
  (Prod.snd (Prod.snd d)))) (Prod.snd (Prod.snd (Prod.snd (Prod.snd d))))))) = true → false = true) ∧ ((!decide (Prod.fst (gapF (Prod.fst d) (Prod.fst (Prod.snd d)) (Prod.fst (Prod.snd (Prod.snd d))) (Prod.fst (Prod.snd
  (Prod.snd (Prod.snd d)))) (Prod.snd (Prod.snd (Prod.snd (Prod.snd d))))) = Prod.fst (gapF (Prod.fst d) (Prod.fst (Prod.snd d)) (Prod.fst (Prod.snd (Prod.snd d))) (Prod.fst (Prod.snd (Prod.snd (Prod.snd d)))) (Prod.snd
  (Prod.snd (Prod.snd (Prod.snd d))))))) = false → ((!decide (Prod.fst (Prod.snd (gapF (Prod.fst d) (Prod.fst (Prod.snd d)) (Prod.fst (Prod.snd (Prod.snd d))) (Prod.fst (Prod.snd (Prod.snd (Prod.snd d)))) (Prod.snd
  (Prod.snd (Prod.snd (Prod.snd d)))))) = Prod.fst (Prod.snd (gapF (Prod.fst d) (Prod.fst (Prod.snd d)) (Prod.fst (Prod.snd (Prod.snd d))) (Prod.fst (Prod.snd (Prod.snd (Prod.snd d)))) (Prod.snd (Prod.snd (Prod.snd
  (Prod.snd d)))))))) = true → false = true) ∧ ((!decide (Prod.fst (Prod.snd (gapF (Prod.fst d) (Prod.fst (Prod.snd d)) (Prod.fst (Prod.snd (Prod.snd d))) (Prod.fst (Prod.snd (Prod.snd (Prod.snd d)))) (Prod.snd (Prod.snd
  (Prod.snd (Prod.snd d)))))) = Prod.fst (Prod.snd (gapF (Prod.fst d) (Prod.fst (Prod.snd d)) (Prod.fst (Prod.snd (Prod.snd d))) (Prod.fst (Prod.snd (Prod.snd (Prod.snd d)))) (Prod.snd (Prod.snd (Prod.snd (Prod.snd
  d)))))))) = false → ((!Prod.snd (Prod.snd (gapF (Prod.fst d) (Prod.fst (Prod.snd d)) (Prod.fst (Prod.snd (Prod.snd d))) (Prod.fst (Prod.snd (Prod.snd (Prod.snd d)))) (Prod.snd (Prod.snd (Prod.snd (Prod.snd d)))))) ==
  Prod.snd (Prod.snd (gapF (Prod.fst d) (Prod.fst (Prod.snd d)) (Prod.fst (Prod.snd (Prod.snd d))) (Prod.fst (Prod.snd (Prod.snd (Prod.snd d)))) (Prod.snd (Prod.snd (Prod.snd (Prod.snd d))))))) = true → false = true) ∧
  ((!Prod.snd (Prod.snd (gapF (Prod.fst d) (Prod.fst (Prod.snd d)) (Prod.fst (Prod.snd (Prod.snd d))) (Prod.fst (Prod.snd (Prod.snd (Prod.snd d)))) (Prod.snd (Prod.snd (Prod.snd (Prod.snd d)))))) == Prod.snd (Prod.snd
  (gapF (Prod.fst d) (Prod.fst (Prod.snd d)) (Prod.fst (Prod.snd (Prod.snd d))) (Prod.fst (Prod.snd (Prod.snd (Prod.snd d)))) (Prod.snd (Prod.snd (Prod.snd (Prod.snd d))))))) = false → True ∧ True ∧ (Ty.wf i64T (held1
  (mark1 (Prod.fst (gapF (Prod.fst d) (Prod.fst (Prod.snd d)) (Prod.fst (Prod.snd (Prod.snd d))) (Prod.fst (Prod.snd (Prod.snd (Prod.snd d)))) (Prod.snd (Prod.snd (Prod.snd (Prod.snd d)))))) (1 : Int)) (1 : Int)) →
  (decide (held1 (mark1 (Prod.fst (gapF (Prod.fst d) (Prod.fst (Prod.snd d)) (Prod.fst (Prod.snd (Prod.snd d))) (Prod.fst (Prod.snd (Prod.snd (Prod.snd d)))) (Prod.snd (Prod.snd (Prod.snd (Prod.snd d)))))) (1 : Int)) (1
  : Int) < (0 : Int)) = true → false = true) ∧ (decide (held1 (mark1 (Prod.fst (gapF (Prod.fst d) (Prod.fst (Prod.snd d)) (Prod.fst (Prod.snd (Prod.snd d))) (Prod.fst (Prod.snd (Prod.snd (Prod.snd d)))) (Prod.snd
  (Prod.snd (Prod.snd (Prod.snd d)))))) (1 : Int)) (1 : Int) < (0 : Int)) = false → ((!decide (held1 (mark1 (Prod.fst (gapF (Prod.fst d) (Prod.fst (Prod.snd d)) (Prod.fst (Prod.snd (Prod.snd d))) (Prod.fst (Prod.snd
  (Prod.snd (Prod.snd d)))) (Prod.snd (Prod.snd (Prod.snd (Prod.snd d)))))) (1 : Int)) (1 : Int) = end1 (Prod.fst (gapF (Prod.fst d) (Prod.fst (Prod.snd d)) (Prod.fst (Prod.snd (Prod.snd d))) (Prod.fst (Prod.snd
  (Prod.snd (Prod.snd d)))) (Prod.snd (Prod.snd (Prod.snd (Prod.snd d)))))) (1 : Int))) = true → false = true) ∧ ((!decide (held1 (mark1 (Prod.fst (gapF (Prod.fst d) (Prod.fst (Prod.snd d)) (Prod.fst (Prod.snd (Prod.snd
  d))) (Prod.fst (Prod.snd (Prod.snd (Prod.snd d)))) (Prod.snd (Prod.snd (Prod.snd (Prod.snd d)))))) (1 : Int)) (1 : Int) = end1 (Prod.fst (gapF (Prod.fst d) (Prod.fst (Prod.snd d)) (Prod.fst (Prod.snd (Prod.snd d)))
  (Prod.fst (Prod.snd (Prod.snd (Prod.snd d)))) (Prod.snd (Prod.snd (Prod.snd (Prod.snd d)))))) (1 : Int))) = false → List.length (Prod.fst (Prod.snd d)) ≤ (1048576 : Nat) ∧ (Ty.wf listT (Prod.fst (Prod.snd d)) →
  List.length (Prod.fst (Prod.snd (Prod.snd d))) ≤ (1048576 : Nat) ∧ (Ty.wf listT (Prod.fst (Prod.snd (Prod.snd d))) → List.length (Prod.snd (Prod.snd (Prod.snd (Prod.snd d)))) ≤ (1048576 : Nat) ∧ (Ty.wf listT (Prod.snd
  (Prod.snd (Prod.snd (Prod.snd d)))) → True ∧ (Ty.wf listT (Prod.fst (gapF (Prod.fst d) (Prod.fst (Prod.snd d)) (Prod.fst (Prod.snd (Prod.snd d))) (Prod.fst (Prod.snd (Prod.snd (Prod.snd d)))) (Prod.snd (Prod.snd
  (Prod.snd (Prod.snd d)))))) ∧ Ty.wf i64T (Prod.fst (Prod.snd (gapF (Prod.fst d) (Prod.fst (Prod.snd d)) (Prod.fst (Prod.snd (Prod.snd d))) (Prod.fst (Prod.snd (Prod.snd (Prod.snd d)))) (Prod.snd (Prod.snd (Prod.snd
  (Prod.snd d))))))) ∧ Ty.wf Ty.bool (Prod.snd (Prod.snd (gapF (Prod.fst d) (Prod.fst (Prod.snd d)) (Prod.fst (Prod.snd (Prod.snd d))) (Prod.fst (Prod.snd (Prod.snd (Prod.snd d)))) (Prod.snd (Prod.snd (Prod.snd (Prod.snd
  d))))))) → True ∧ ((!decide (Prod.fst (gapF (Prod.fst d) (Prod.fst (Prod.snd d)) (Prod.fst (Prod.snd (Prod.snd d))) (Prod.fst (Prod.snd (Prod.snd (Prod.snd d)))) (Prod.snd (Prod.snd (Prod.snd (Prod.snd d))))) =
  Prod.fst (gapF (Prod.fst d) (Prod.fst (Prod.snd d)) (Prod.fst (Prod.snd (Prod.snd d))) (Prod.fst (Prod.snd (Prod.snd (Prod.snd d)))) (Prod.snd (Prod.snd (Prod.snd (Prod.snd d))))))) = true → false = true) ∧ ((!decide
  (Prod.fst (gapF (Prod.fst d) (Prod.fst (Prod.snd d)) (Prod.fst (Prod.snd (Prod.snd d))) (Prod.fst (Prod.snd (Prod.snd (Prod.snd d)))) (Prod.snd (Prod.snd (Prod.snd (Prod.snd d))))) = Prod.fst (gapF (Prod.fst d)
  (Prod.fst (Prod.snd d)) (Prod.fst (Prod.snd (Prod.snd d))) (Prod.fst (Prod.snd (Prod.snd (Prod.snd d)))) (Prod.snd (Prod.snd (Prod.snd (Prod.snd d))))))) = false → ((!decide (Prod.fst (Prod.snd (gapF (Prod.fst d)
  (Prod.fst (Prod.snd d)) (Prod.fst (Prod.snd (Prod.snd d))) (Prod.fst (Prod.snd (Prod.snd (Prod.snd d)))) (Prod.snd (Prod.snd (Prod.snd (Prod.snd d)))))) = Prod.fst (Prod.snd (gapF (Prod.fst d) (Prod.fst (Prod.snd d))
  (Prod.fst (Prod.snd (Prod.snd d))) (Prod.fst (Prod.snd (Prod.snd (Prod.snd d)))) (Prod.snd (Prod.snd (Prod.snd (Prod.snd d)))))))) = true → false = true) ∧ ((!decide (Prod.fst (Prod.snd (gapF (Prod.fst d) (Prod.fst
  (Prod.snd d)) (Prod.fst (Prod.snd (Prod.snd d))) (Prod.fst (Prod.snd (Prod.snd (Prod.snd d)))) (Prod.snd (Prod.snd (Prod.snd (Prod.snd d)))))) = Prod.fst (Prod.snd (gapF (Prod.fst d) (Prod.fst (Prod.snd d)) (Prod.fst
  (Prod.snd (Prod.snd d))) (Prod.fst (Prod.snd (Prod.snd (Prod.snd d)))) (Prod.snd (Prod.snd (Prod.snd (Prod.snd d)))))))) = false → ((!Prod.snd (Prod.snd (gapF (Prod.fst d) (Prod.fst (Prod.snd d)) (Prod.fst (Prod.snd
  (Prod.snd d))) (Prod.fst (Prod.snd (Prod.snd (Prod.snd d)))) (Prod.snd (Prod.snd (Prod.snd (Prod.snd d)))))) == Prod.snd (Prod.snd (gapF (Prod.fst d) (Prod.fst (Prod.snd d)) (Prod.fst (Prod.snd (Prod.snd d))) (Prod.fst
  (Prod.snd (Prod.snd (Prod.snd d)))) (Prod.snd (Prod.snd (Prod.snd (Prod.snd d))))))) = true → false = true) ∧ ((!Prod.snd (Prod.snd (gapF (Prod.fst d) (Prod.fst (Prod.snd d)) (Prod.fst (Prod.snd (Prod.snd d)))
  (Prod.fst (Prod.snd (Prod.snd (Prod.snd d)))) (Prod.snd (Prod.snd (Prod.snd (Prod.snd d)))))) == Prod.snd (Prod.snd (gapF (Prod.fst d) (Prod.fst (Prod.snd d)) (Prod.fst (Prod.snd (Prod.snd d))) (Prod.fst (Prod.snd
  (Prod.snd (Prod.snd d)))) (Prod.snd (Prod.snd (Prod.snd (Prod.snd d))))))) = false → True ∧ (Ty.wf i64T (held1 (mark1 (Prod.fst (gapF (Prod.fst d) (Prod.fst (Prod.snd d)) (Prod.fst (Prod.snd (Prod.snd d))) (Prod.fst
  (Prod.snd (Prod.snd (Prod.snd d)))) (Prod.snd (Prod.snd (Prod.snd (Prod.snd d)))))) (1 : Int)) (1 : Int)) → (decide (held1 (mark1 (Prod.fst (gapF (Prod.fst d) (Prod.fst (Prod.snd d)) (Prod.fst (Prod.snd (Prod.snd d)))
  (Prod.fst (Prod.snd (Prod.snd (Prod.snd d)))) (Prod.snd (Prod.snd (Prod.snd (Prod.snd d)))))) (1 : Int)) (1 : Int) < (0 : Int)) = true → false = true) ∧ (decide (held1 (mark1 (Prod.fst (gapF (Prod.fst d) (Prod.fst
  (Prod.snd d)) (Prod.fst (Prod.snd (Prod.snd d))) (Prod.fst (Prod.snd (Prod.snd (Prod.snd d)))) (Prod.snd (Prod.snd (Prod.snd (Prod.snd d)))))) (1 : Int)) (1 : Int) < (0 : Int)) = false → ((!decide (held1 (mark1
  (Prod.fst (gapF (Prod.fst d) (Prod.fst (Prod.snd d)) (Prod.fst (Prod.snd (Prod.snd d))) (Prod.fst (Prod.snd (Prod.snd (Prod.snd d)))) (Prod.snd (Prod.snd (Prod.snd (Prod.snd d)))))) (1 : Int)) (1 : Int) = end1
  (Prod.fst (gapF (Prod.fst d) (Prod.fst (Prod.snd d)) (Prod.fst (Prod.snd (Prod.snd d))) (Prod.fst (Prod.snd (Prod.snd (Prod.snd d)))) (Prod.snd (Prod.snd (Prod.snd (Prod.snd d)))))) (1 : Int))) = true → false = true) ∧
  ((!decide (held1 (mark1 (Prod.fst (gapF (Prod.fst d) (Prod.fst (Prod.snd d)) (Prod.fst (Prod.snd (Prod.snd d))) (Prod.fst (Prod.snd (Prod.snd (Prod.snd d)))) (Prod.snd (Prod.snd (Prod.snd (Prod.snd d)))))) (1 : Int))
  (1 : Int) = end1 (Prod.fst (gapF (Prod.fst d) (Prod.fst (Prod.snd d)) (Prod.fst (Prod.snd (Prod.snd d))) (Prod.fst (Prod.snd (Prod.snd (Prod.snd d)))) (Prod.snd (Prod.snd (Prod.snd (Prod.snd d)))))) (1 : Int))) = false
  → true = true))))))))))))))))))))))))))))))))))))) := by
  intro (d : Int × List Int × List Int × Int × List Int) hw hp
  obtain ⟨f, xs, ys, n, zs⟩ := d
  have hg := gap_len f xs ys n zs
  simp only [Int.toNat_natCast, exists_const, and_true, true_and, implies_true, decide_eq_true_eq, decide_eq_false_iff_not, Bool.not_eq_true', Bool.not_eq_false', beq_iff_eq, forall_const]
  generalize gapF f xs ys n zs = g at *
  obtain ⟨g, c, b⟩ := g
  simp only at *
  intro hz hz2 hz3
  have hx : xs.length ≤ 1048576 := by omega
  have hy : ys.length ≤ 1048576 := by omega
  have hzl : zs.length ≤ 1048576 := by omega
  have e1 := end1_small xs (k := 1) (by omega) (by omega)
  have e3 := end1_small ys (k := end1 xs 1) (by omega) (by omega)
  have e4 := end1_small zs (k := end1 ys (end1 xs 1)) (by omega) (by omega)
  have e2 := end1_small g (k := 1) (by omega) (by omega)
  have k1 : ¬ end1 zs (end1 ys (end1 xs 1)) < 0 := by omega
  have k2 : ¬ end1 g 1 < 0 := by omega
  simp only [held1_mark, hx, hy, hzl, k1, k2, decide_true, Bool.not_true, beq_self_eq_true, Bool.true_eq_false, Bool.false_eq_true, true_and, and_true, implies_true, false_implies, not_true_eq_false, not_false_eq_true, forall_const, true_implies]
end Go.SF
