/- What is owed of the law's code: FnExactTickCrew. No condition. -/
import Derived.Test.YtpoiljbejllmiaaSxPCrew2
import Derived.Test.YtpoiljbejllmiaaSxPServed
namespace Go.SF
open Go.SX Go
set_option linter.unusedVariables false
set_option linter.unusedSimpArgs false
set_option maxRecDepth 10000
theorem tick_len1 (c : Cr) : (tickF c).1.2.length = c.2.length ∧ (tickF c).2.length ≤ c.2.length := by
  unfold tickF; split
  · exact ⟨by simp, tick_srv_len _⟩
  · exact ⟨rfl, by simp⟩
theorem v_FnExactTickCrew :
  ∀ (d : Int × List (Int × Int × Int)), Ty.wf crewT d → True → True ∧ (Ty.wf i64T (szF (List.length (Prod.snd d)) (1048576 : Int)) → (decide (szF (List.length (Prod.snd d)) (1048576 : Int) < (0 : Int)) = true → true =
  true) ∧ (decide (szF (List.length (Prod.snd d)) (1048576 : Int) < (0 : Int)) = false → List.length (Prod.snd d) ≤ (1048576 : Nat) ∧ (Ty.wf crewT (Prod.fst d, Prod.snd d) → List.length (Prod.snd d) ≤ (1048576 : Nat) ∧
  (Ty.wf crewT (Prod.fst (tickF (Prod.fst d, Prod.snd d))) ∧ Ty.wf (Ty.sl svT) (Prod.snd (tickF (Prod.fst d, Prod.snd d))) → List.length (Prod.snd d) ≤ (1048576 : Nat) ∧ (Ty.wf crewT (Prod.fst d, Prod.snd d) →
  List.length (Prod.snd d) ≤ (1048576 : Nat) ∧ (Ty.wf crewT (Prod.fst (tickF (Prod.fst d, Prod.snd d))) ∧ Ty.wf (Ty.sl svT) (Prod.snd (tickF (Prod.fst d, Prod.snd d))) → True ∧ ((!decide ((Prod.fst (Prod.fst (tickF
  (Prod.fst d, Prod.snd d))), Prod.snd (Prod.fst (tickF (Prod.fst d, Prod.snd d)))) = (Prod.fst (Prod.fst (tickF (Prod.fst d, Prod.snd d))), Prod.snd (Prod.fst (tickF (Prod.fst d, Prod.snd d)))))) = true → false = true)
  ∧ ((!decide ((Prod.fst (Prod.fst (tickF (Prod.fst d, Prod.snd d))), Prod.snd (Prod.fst (tickF (Prod.fst d, Prod.snd d)))) = (Prod.fst (Prod.fst (tickF (Prod.fst d, Prod.snd d))), Prod.snd (Prod.fst (tickF (Prod.fst d,
  Prod.snd d)))))) = false → True ∧ ((!decide (Prod.snd (tickF (Prod.fst d, Prod.snd d)) = Prod.snd (tickF (Prod.fst d, Prod.snd d)))) = true → false = true) ∧ ((!decide (Prod.snd (tickF (Prod.fst d, Prod.snd d)) =
  Prod.snd (tickF (Prod.fst d, Prod.snd d)))) = false → List.length (Prod.snd d) ≤ (1048576 : Nat) ∧ True ∧ (Ty.wf crewT (Prod.fst d, Prod.snd d) → ((!decide ((Prod.fst d, Prod.snd d) = (Prod.fst d, Prod.snd d))) = true
  → false = true) ∧ ((!decide ((Prod.fst d, Prod.snd d) = (Prod.fst d, Prod.snd d))) = false → True ∧ (decide (end3 (Prod.snd d) (1 : Int) < (0 : Int)) = true → false = true) ∧ (decide (end3 (Prod.snd d) (1 : Int) < (0 :
  Int)) = false → True ∧ ((!decide ((Prod.fst (Prod.fst (tickF (Prod.fst d, Prod.snd d))), Prod.snd (Prod.fst (tickF (Prod.fst d, Prod.snd d)))) = (Prod.fst (Prod.fst (tickF (Prod.fst d, Prod.snd d))), Prod.snd (Prod.fst
  (tickF (Prod.fst d, Prod.snd d)))))) = true → false = true) ∧ ((!decide ((Prod.fst (Prod.fst (tickF (Prod.fst d, Prod.snd d))), Prod.snd (Prod.fst (tickF (Prod.fst d, Prod.snd d)))) = (Prod.fst (Prod.fst (tickF
  (Prod.fst d, Prod.snd d))), Prod.snd (Prod.fst (tickF (Prod.fst d, Prod.snd d)))))) = false → True ∧ ((!decide (Prod.snd (tickF (Prod.fst d, Prod.snd d)) = Prod.snd (tickF (Prod.fst d, Prod.snd d)))) = true → false =
  true) ∧ ((!decide (Prod.snd (tickF (Prod.fst d, Prod.snd d)) = Prod.snd (tickF (Prod.fst d, Prod.snd d)))) = false → True ∧ True ∧ True ∧ (Ty.wf i64T (neg1 (held3 (mark3 (Prod.snd (Prod.fst (tickF (Prod.fst d, Prod.snd
  d)))) (1 : Int)) (1 : Int))) → (decide (neg1 (held3 (mark3 (Prod.snd (Prod.fst (tickF (Prod.fst d, Prod.snd d)))) (1 : Int)) (1 : Int)) < (0 : Int)) = true → false = true) ∧ (decide (neg1 (held3 (mark3 (Prod.snd
  (Prod.fst (tickF (Prod.fst d, Prod.snd d)))) (1 : Int)) (1 : Int)) < (0 : Int)) = false → True ∧ (Ty.wf i64T (held3 (mark3 (Prod.snd (tickF (Prod.fst d, Prod.snd d))) (end3 (Prod.snd (Prod.fst (tickF (Prod.fst d,
  Prod.snd d)))) (1 : Int))) (neg1 (held3 (mark3 (Prod.snd (Prod.fst (tickF (Prod.fst d, Prod.snd d)))) (1 : Int)) (1 : Int)))) → (decide (held3 (mark3 (Prod.snd (tickF (Prod.fst d, Prod.snd d))) (end3 (Prod.snd
  (Prod.fst (tickF (Prod.fst d, Prod.snd d)))) (1 : Int))) (neg1 (held3 (mark3 (Prod.snd (Prod.fst (tickF (Prod.fst d, Prod.snd d)))) (1 : Int)) (1 : Int))) < (0 : Int)) = true → false = true) ∧ (decide (held3 (mark3
  (Prod.snd (tickF (Prod.fst d, Prod.snd d))) (end3 (Prod.snd (Prod.fst (tickF (Prod.fst d, Prod.snd d)))) (1 : Int))) (neg1 (held3 (mark3 (Prod.snd (Prod.fst (tickF (Prod.fst d, Prod.snd d)))) (1 : Int)) (1 : Int))) <
  (0 : Int)) = false → ((!decide (held3 (mark3 (Prod.snd (tickF (Prod.fst d, Prod.snd d))) (end3 (Prod.snd (Prod.fst (tickF (Prod.fst d, Prod.snd d)))) (1 : Int))) (neg1 (held3 (mark3 (Prod.snd (Prod.fst (tickF (Prod.fst
  d, Prod.snd d)))) (1 : Int)) (1 : Int))) = end3 (Prod.snd (tickF (Prod.fst d, Prod.snd d))) (end3 (Prod.snd (Prod.fst (tickF (Prod.fst d, Prod.snd d)))) (1 : Int)))) = true → false = true) ∧ ((!decide (held3 (mark3
  (Prod.snd (tickF (Prod.fst d, Prod.snd d))) (end3 (Prod.snd (Prod.fst (tickF (Prod.fst d, Prod.snd d)))) (1 : Int))) (neg1 (held3 (mark3 (Prod.snd (Prod.fst (tickF (Prod.fst d, Prod.snd d)))) (1 : Int)) (1 : Int))) =
  end3 (Prod.snd (tickF (Prod.fst d, Prod.snd d))) (end3 (Prod.snd (Prod.fst (tickF (Prod.fst d, Prod.snd d)))) (1 : Int)))) = false → List.length (Prod.snd d) ≤ (1048576 : Nat) ∧ (Ty.wf crewT (Prod.fst d, Prod.snd d) →
  List.length (Prod.snd d) ≤ (1048576 : Nat) ∧ (Ty.wf crewT (Prod.fst (tickF (Prod.fst d, Prod.snd d))) ∧ Ty.wf (Ty.sl svT) (Prod.snd (tickF (Prod.fst d, Prod.snd d))) → True ∧ ((!decide ((Prod.fst (Prod.fst (tickF
  (Prod.fst d, Prod.snd d))), Prod.snd (Prod.fst (tickF (Prod.fst d, Prod.snd d)))) = (Prod.fst (Prod.fst (tickF (Prod.fst d, Prod.snd d))), Prod.snd (Prod.fst (tickF (Prod.fst d, Prod.snd d)))))) = true → false = true)
  ∧ ((!decide ((Prod.fst (Prod.fst (tickF (Prod.fst d, Prod.snd d))), Prod.snd (Prod.fst (tickF (Prod.fst d, Prod.snd d)))) = (Prod.fst (Prod.fst (tickF (Prod.fst d, Prod.snd d))), Prod.snd (Prod.fst (tickF (Prod.fst d,
  Prod.snd d)))))) = false → True ∧ ((!decide (Prod.snd (tickF (Prod.fst d, Prod.snd d)) = Prod.snd (tickF (Prod.fst d, Prod.snd d)))) = true → false = true) ∧ ((!decide (Prod.snd (tickF (Prod.fst d, Prod.snd d)) =
  Prod.snd (tickF (Prod.fst d, Prod.snd d)))) = false → True ∧ (Ty.wf i64T (neg1 (held3 (mark3 (Prod.snd (Prod.fst (tickF (Prod.fst d, Prod.snd d)))) (1 : Int)) (1 : Int))) → (decide (neg1 (held3 (mark3 (Prod.snd
  (Prod.fst (tickF (Prod.fst d, Prod.snd d)))) (1 : Int)) (1 : Int)) < (0 : Int)) = true → false = true) ∧ (decide (neg1 (held3 (mark3 (Prod.snd (Prod.fst (tickF (Prod.fst d, Prod.snd d)))) (1 : Int)) (1 : Int)) < (0 :
  Int)) = false → True ∧ (Ty.wf i64T (held3 (mark3 (Prod.snd (tickF (Prod.fst d, Prod.snd d))) (end3 (Prod.snd (Prod.fst (tickF (Prod.fst d, Prod.snd d)))) (1 : Int))) (neg1 (held3 (mark3 (Prod.snd (Prod.fst (tickF
  (Prod.fst d, Prod.snd d)))) (1 : Int)) (1 : Int)))) → (decide (held3 (mark3 (Prod.snd (tickF (Prod.fst d, Prod.snd d))) (end3 (Prod.snd (Prod.fst (tickF (Prod.fst d, Prod.snd d)))) (1 : Int))) (neg1 (held3 (mark3
  (Prod.snd (Prod.fst (tickF (Prod.fst d, Prod.snd d)))) (1 : Int)) (1 : Int))) < (0 : Int)) = true → false = true) ∧ (decide (held3 (mark3 (Prod.snd (tickF (Prod.fst d, Prod.snd d))) (end3 (Prod.snd (Prod.fst (tickF
  (Prod.fst d, Prod.snd d)))) (1 : Int))) (neg1 (held3 (mark3 (Prod.snd (Prod.fst (tickF (Prod.fst d, Prod.snd d)))) (1 : Int)) (1 : Int))) < (0 : Int)) = false → ((!decide (held3 (mark3 (Prod.snd (tickF (Prod.fst d,
  Prod.snd d))) (end3 (Prod.snd (Prod.fst (tickF (Prod.fst d, Prod.snd d)))) (1 : Int))) (neg1 (held3 (mark3 (Prod.snd (Prod.fst (tickF (Prod.fst d, Prod.snd d)))) (1 : Int)) (1 : Int))) = end3 (Prod.snd (tickF (Prod.fst
  d, Prod.snd d))) (end3 (Prod.snd (Prod.fst (tickF (Prod.fst d, Prod.snd d)))) (1 : Int)))) = true → false = true) ∧ ((!decide (held3 (mark3 (Prod.snd (tickF (Prod.fst d, Prod.snd d))) (end3 (Prod.snd (Prod.fst (tickF
  (Prod.fst d, Prod.snd d)))) (1 : Int))) (neg1 (held3 (mark3 (Prod.snd (Prod.fst (tickF (Prod.fst d, Prod.snd d)))) (1 : Int)) (1 : Int))) = end3 (Prod.snd (tickF (Prod.fst d, Prod.snd d))) (end3 (Prod.snd (Prod.fst
  (tickF (Prod.fst d, Prod.snd d)))) (1 : Int)))) = false → true = true))))))))))))))))))))))))))) := by
  intro (d : Int × List Hd) hw hp
  obtain ⟨p, xs⟩ := d
  have hl : xs.length ≤ 9223372036854775807 := hw.2.1
  have h1 := sz_room hl
  obtain ⟨hg, hs⟩ := tick_len1 (p, xs)
  simp only [Int.toNat_natCast, exists_const, and_true, true_and, implies_true, decide_eq_true_eq, decide_eq_false_iff_not, Bool.not_eq_true', Bool.not_eq_false', beq_iff_eq, forall_const]
  generalize tickF (p, xs) = g at *
  obtain ⟨⟨gp, gs⟩, sv⟩ := g
  simp only at *
  simp only [decide_true, Bool.not_true, Bool.true_eq_false, Bool.false_eq_true, false_implies, and_true, true_and, implies_true, beq_self_eq_true, not_true_eq_false]
  intro _ hz
  have hx : xs.length ≤ 1048576 := by omega
  obtain ⟨g1, g2⟩ := held_pos (xs := gs) (by omega)
  have e1 := end3_small gs (k := 1) (by omega) (by omega)
  have e2 := end3_small sv (k := end3 gs 1) (by omega) (by omega)
  have g3 := end_pos (xs := xs) (by omega)
  rw [g1]
  simp only [held3_mark]
  grind
end Go.SF
