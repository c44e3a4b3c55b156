/- What is owed of the law's code: FnExactPlayLine. No condition. -/
import Derived.Test.YtoikbmdjancdcaaSxPLine3
namespace Go.SF
open Go.SX Go
set_option linter.unusedVariables false
set_option linter.unusedSimpArgs false
set_option maxRecDepth 10000
theorem play_go_len : ∀ (ops : List Op') (xs : List Tk) (told : List Int), lineOkF xs = true → (playGo ops xs told).1.length ≤ 40 ∧ (playGo ops xs told).2.length = told.length + ops.length
  | [], xs, told, h => ⟨line_len h, rfl⟩
  | op :: ops, xs, told, h => by
    obtain ⟨h1, h2⟩ := play_go_len ops (stepF xs op).1 (told ++ [(stepF xs op).2]) (step_ok h op)
    refine ⟨h1, h2.trans ?_⟩
    simp; omega
theorem play_len (xs : List Tk) (ops : List Op') : (playF xs ops).1.length ≤ 40 ∧ (playF xs ops).2.length ≤ 400 := by
  unfold playF
  split
  case isTrue h =>
    obtain ⟨h1, h2⟩ := play_go_len ops xs [] h.1
    refine ⟨h1, ?_⟩
    rw [h2]; simp; omega
  case isFalse => exact ⟨by simp, by simp⟩
theorem sz_room2 {n : Nat} {l : Int} (h : n ≤ 9223372036854775807) (h0 : 0 ≤ l) (h1 : l ≤ 1048576) : szF n l < 0 ∨ ((n : Int) ≤ l ∧ szF n l = l - n) := by
  unfold szF w64
  rw [wrap_small (by omega)]
  split <;> omega
theorem v_FnExactPlayLine :
  ∀ (d : List (Int × Int) × List (Int × (Int × Int) × Int)), Ty.wf lineT (Prod.fst d) ∧ Ty.wf (Ty.sl opT) (Prod.snd d) → True → True ∧ (Ty.wf i64T (szF (List.length (Prod.fst d)) (1048576 : Int)) → (decide (szF
  (List.length (Prod.fst d)) (1048576 : Int) < (0 : Int)) = true → true = true) ∧ (decide (szF (List.length (Prod.fst d)) (1048576 : Int) < (0 : Int)) = false → True ∧ (Ty.wf i64T (szF (List.length (Prod.snd d)) (szF
  (List.length (Prod.fst d)) (1048576 : Int))) → (decide (szF (List.length (Prod.snd d)) (szF (List.length (Prod.fst d)) (1048576 : Int)) < (0 : Int)) = true → true = true) ∧ (decide (szF (List.length (Prod.snd d)) (szF
  (List.length (Prod.fst d)) (1048576 : Int)) < (0 : Int)) = false → List.length (Prod.fst d) ≤ (1048576 : Nat) ∧ (Ty.wf lineT (Prod.fst d) → List.length (Prod.snd d) ≤ (1048576 : Nat) ∧ (Ty.wf (Ty.sl opT) (Prod.snd d) →
  List.length (Prod.fst d) ≤ (1048576 : Nat) ∧ (Ty.wf lineT (Prod.fst (playF (Prod.fst d) (Prod.snd d))) ∧ Ty.wf (Ty.sl i64T) (Prod.snd (playF (Prod.fst d) (Prod.snd d))) → List.length (Prod.fst d) ≤ (1048576 : Nat) ∧
  (Ty.wf lineT (Prod.fst d) → List.length (Prod.snd d) ≤ (1048576 : Nat) ∧ (Ty.wf (Ty.sl opT) (Prod.snd d) → List.length (Prod.fst d) ≤ (1048576 : Nat) ∧ (Ty.wf lineT (Prod.fst (playF (Prod.fst d) (Prod.snd d))) ∧ Ty.wf
  (Ty.sl i64T) (Prod.snd (playF (Prod.fst d) (Prod.snd d))) → True ∧ ((!decide (Prod.fst (playF (Prod.fst d) (Prod.snd d)) = Prod.fst (playF (Prod.fst d) (Prod.snd d)))) = true → false = true) ∧ ((!decide (Prod.fst
  (playF (Prod.fst d) (Prod.snd d)) = Prod.fst (playF (Prod.fst d) (Prod.snd d)))) = false → True ∧ ((!decide (Prod.snd (playF (Prod.fst d) (Prod.snd d)) = Prod.snd (playF (Prod.fst d) (Prod.snd d)))) = true → false =
  true) ∧ ((!decide (Prod.snd (playF (Prod.fst d) (Prod.snd d)) = Prod.snd (playF (Prod.fst d) (Prod.snd d)))) = false → List.length (Prod.fst d) ≤ (1048576 : Nat) ∧ True ∧ (Ty.wf lineT (Prod.fst d) → ((!decide (Prod.fst
  d = Prod.fst d)) = true → false = true) ∧ ((!decide (Prod.fst d = Prod.fst d)) = false → List.length (Prod.snd d) ≤ (1048576 : Nat) ∧ (Ty.wf (Ty.sl opT) (Prod.snd d) → True ∧ ((!decide (Prod.snd d = Prod.snd d)) = true
  → false = true) ∧ ((!decide (Prod.snd d = Prod.snd d)) = false → True ∧ True ∧ (decide (end4 (Prod.snd d) (end2 (Prod.fst d) (1 : Int)) < (0 : Int)) = true → false = true) ∧ (decide (end4 (Prod.snd d) (end2 (Prod.fst
  d) (1 : Int)) < (0 : Int)) = false → True ∧ ((!decide (Prod.fst (playF (Prod.fst d) (Prod.snd d)) = Prod.fst (playF (Prod.fst d) (Prod.snd d)))) = true → false = true) ∧ ((!decide (Prod.fst (playF (Prod.fst d)
  (Prod.snd d)) = Prod.fst (playF (Prod.fst d) (Prod.snd d)))) = false → True ∧ ((!decide (Prod.snd (playF (Prod.fst d) (Prod.snd d)) = Prod.snd (playF (Prod.fst d) (Prod.snd d)))) = true → false = true) ∧ ((!decide
  (Prod.snd (playF (Prod.fst d) (Prod.snd d)) = Prod.snd (playF (Prod.fst d) (Prod.snd d)))) = false → True ∧ True ∧ True ∧ (Ty.wf i64T (neg1 (held2 (mark2 (Prod.fst (playF (Prod.fst d) (Prod.snd d))) (1 : Int)) (1 :
  Int))) → (decide (neg1 (held2 (mark2 (Prod.fst (playF (Prod.fst d) (Prod.snd d))) (1 : Int)) (1 : Int)) < (0 : Int)) = true → false = true) ∧ (decide (neg1 (held2 (mark2 (Prod.fst (playF (Prod.fst d) (Prod.snd d))) (1
  : Int)) (1 : Int)) < (0 : Int)) = false → True ∧ (Ty.wf i64T (held1 (mark1 (Prod.snd (playF (Prod.fst d) (Prod.snd d))) (end2 (Prod.fst (playF (Prod.fst d) (Prod.snd d))) (1 : Int))) (neg1 (held2 (mark2 (Prod.fst
  (playF (Prod.fst d) (Prod.snd d))) (1 : Int)) (1 : Int)))) → (decide (held1 (mark1 (Prod.snd (playF (Prod.fst d) (Prod.snd d))) (end2 (Prod.fst (playF (Prod.fst d) (Prod.snd d))) (1 : Int))) (neg1 (held2 (mark2
  (Prod.fst (playF (Prod.fst d) (Prod.snd d))) (1 : Int)) (1 : Int))) < (0 : Int)) = true → false = true) ∧ (decide (held1 (mark1 (Prod.snd (playF (Prod.fst d) (Prod.snd d))) (end2 (Prod.fst (playF (Prod.fst d) (Prod.snd
  d))) (1 : Int))) (neg1 (held2 (mark2 (Prod.fst (playF (Prod.fst d) (Prod.snd d))) (1 : Int)) (1 : Int))) < (0 : Int)) = false → ((!decide (held1 (mark1 (Prod.snd (playF (Prod.fst d) (Prod.snd d))) (end2 (Prod.fst
  (playF (Prod.fst d) (Prod.snd d))) (1 : Int))) (neg1 (held2 (mark2 (Prod.fst (playF (Prod.fst d) (Prod.snd d))) (1 : Int)) (1 : Int))) = end1 (Prod.snd (playF (Prod.fst d) (Prod.snd d))) (end2 (Prod.fst (playF
  (Prod.fst d) (Prod.snd d))) (1 : Int)))) = true → false = true) ∧ ((!decide (held1 (mark1 (Prod.snd (playF (Prod.fst d) (Prod.snd d))) (end2 (Prod.fst (playF (Prod.fst d) (Prod.snd d))) (1 : Int))) (neg1 (held2 (mark2
  (Prod.fst (playF (Prod.fst d) (Prod.snd d))) (1 : Int)) (1 : Int))) = end1 (Prod.snd (playF (Prod.fst d) (Prod.snd d))) (end2 (Prod.fst (playF (Prod.fst d) (Prod.snd d))) (1 : Int)))) = false → List.length (Prod.fst d)
  ≤ (1048576 : Nat) ∧ (Ty.wf lineT (Prod.fst d) → List.length (Prod.snd d) ≤ (1048576 : Nat) ∧ (Ty.wf (Ty.sl opT) (Prod.snd d) → List.length (Prod.fst d) ≤ (1048576 : Nat) ∧ (Ty.wf lineT (Prod.fst (playF (Prod.fst d)
  (Prod.snd d))) ∧ Ty.wf (Ty.sl i64T) (Prod.snd (playF (Prod.fst d) (Prod.snd d))) → True ∧ ((!decide (Prod.fst (playF (Prod.fst d) (Prod.snd d)) = Prod.fst (playF (Prod.fst d) (Prod.snd d)))) = true → false = true) ∧
  ((!decide (Prod.fst (playF (Prod.fst d) (Prod.snd d)) = Prod.fst (playF (Prod.fst d) (Prod.snd d)))) = false → True ∧ ((!decide (Prod.snd (playF (Prod.fst d) (Prod.snd d)) = Prod.snd (playF (Prod.fst d) (Prod.snd d))))
  = true → false = true) ∧ ((!decide (Prod.snd (playF (Prod.fst d) (Prod.snd d)) = Prod.snd (playF (Prod.fst d) (Prod.snd d)))) = false → True ∧ (Ty.wf i64T (neg1 (held2 (mark2 (Prod.fst (playF (Prod.fst d) (Prod.snd
  d))) (1 : Int)) (1 : Int))) → (decide (neg1 (held2 (mark2 (Prod.fst (playF (Prod.fst d) (Prod.snd d))) (1 : Int)) (1 : Int)) < (0 : Int)) = true → false = true) ∧ (decide (neg1 (held2 (mark2 (Prod.fst (playF (Prod.fst
  d) (Prod.snd d))) (1 : Int)) (1 : Int)) < (0 : Int)) = false → True ∧ (Ty.wf i64T (held1 (mark1 (Prod.snd (playF (Prod.fst d) (Prod.snd d))) (end2 (Prod.fst (playF (Prod.fst d) (Prod.snd d))) (1 : Int))) (neg1 (held2
  (mark2 (Prod.fst (playF (Prod.fst d) (Prod.snd d))) (1 : Int)) (1 : Int)))) → (decide (held1 (mark1 (Prod.snd (playF (Prod.fst d) (Prod.snd d))) (end2 (Prod.fst (playF (Prod.fst d) (Prod.snd d))) (1 : Int))) (neg1
  (held2 (mark2 (Prod.fst (playF (Prod.fst d) (Prod.snd d))) (1 : Int)) (1 : Int))) < (0 : Int)) = true → false = true) ∧ (decide (held1 (mark1 (Prod.snd (playF (Prod.fst d) (Prod.snd d))) (end2 (Prod.fst (playF
  (Prod.fst d) (Prod.snd d))) (1 : Int))) (neg1 (held2 (mark2 (Prod.fst (playF (Prod.fst d) (Prod.snd d))) (1 : Int)) (1 : Int))) < (0 : Int)) = false → ((!decide (held1 (mark1 (Prod.snd (playF (Prod.fst d) (Prod.snd
  d))) (end2 (Prod.fst (playF (Prod.fst d) (Prod.snd d))) (1 : Int))) (neg1 (held2 (mark2 (Prod.fst (playF (Prod.fst d) (Prod.snd d))) (1 : Int)) (1 : Int))) = end1 (Prod.snd (playF (Prod.fst d) (Prod.snd d))) (end2
  (Prod.fst (playF (Prod.fst d) (Prod.snd d))) (1 : Int)))) = true → false = true) ∧ ((!decide (held1 (mark1 (Prod.snd (playF (Prod.fst d) (Prod.snd d))) (end2 (Prod.fst (playF (Prod.fst d) (Prod.snd d))) (1 : Int)))
  (neg1 (held2 (mark2 (Prod.fst (playF (Prod.fst d) (Prod.snd d))) (1 : Int)) (1 : Int))) = end1 (Prod.snd (playF (Prod.fst d) (Prod.snd d))) (end2 (Prod.fst (playF (Prod.fst d) (Prod.snd d))) (1 : Int)))) = false → true
  = true)))))))))))))))))))))))))))))))))) := by
  intro (d : List Tk × List Op') hw hp
  obtain ⟨xs, ops⟩ := d
  have hl : xs.length ≤ 9223372036854775807 := hw.1.1
  have hl2 : ops.length ≤ 9223372036854775807 := hw.2.1
  have hg := play_len xs ops
  simp only [Int.toNat_natCast, exists_const, and_true, true_and, implies_true, decide_eq_true_eq, decide_eq_false_iff_not, Bool.not_eq_true', Bool.not_eq_false', beq_iff_eq, forall_const]
  generalize playF xs ops = g at *
  obtain ⟨gs, gt⟩ := g
  simp only at *
  simp only [decide_true, Bool.not_true, Bool.true_eq_false, Bool.false_eq_true, false_implies, and_true, true_and, implies_true, beq_self_eq_true, not_true_eq_false]
  intro _ hz _ hz2
  have hx : xs.length ≤ 1048576 ∧ ops.length ≤ 1048576 := by
    rcases sz_room2 (l := 1048576) hl (by omega) (by omega) with h | ⟨h, he⟩
    · omega
    · rcases sz_room2 (l := szF xs.length 1048576) hl2 (by omega) (by omega) with h2 | ⟨h2, he2⟩ <;> omega
  obtain ⟨hx, ho⟩ := hx
  obtain ⟨g1, g2⟩ := held2_pos (xs := gs) (by omega)
  obtain ⟨_, g3⟩ := held2_pos (xs := xs) (by omega)
  have e1 := end2_small xs (k := 1) (by omega) (by omega)
  have e2 := end4_small ops (k := end2 xs 1) (by omega) (by omega)
  have e3 := end2_small gs (k := 1) (by omega) (by omega)
  have e4 := end1_small gt (k := end2 gs 1) (by omega) (by omega)
  rw [g1, held1_mark]
  have k1 : ¬ end4 ops (end2 xs 1) < 0 := by omega
  have k2 : ¬ end1 gt (end2 gs 1) < 0 := by omega
  have k3 : ¬ end2 gs 1 < 0 := by omega
  simp only [hx, ho, k1, k2, k3, true_and, and_true, implies_true, false_implies, not_true_eq_false, not_false_eq_true, forall_const, true_implies]
end Go.SF
