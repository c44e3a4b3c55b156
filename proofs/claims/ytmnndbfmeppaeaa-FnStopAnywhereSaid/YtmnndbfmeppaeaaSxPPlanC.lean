/- What is owed of the code of turners. No condition. -/
import Derived.Test.YtmnndbfmeppaeaaSxC
import Derived.Test.YtmnndbfmeppaeaaSxPPlanB
namespace Go.SF
open Go.SX Go
set_option linter.unusedVariables false
set_option linter.unusedSimpArgs false
set_option maxRecDepth 10000
theorem plan_log {p : Pl} (h : planOkF p = true) : (0 ≤ p.2.1 ∧ p.2.1 ≤ 9) ∧ p.2.2.length ≤ 600 ∧ StepsP p.2.1 p.2.2 p.2.2.length := by
  unfold planOkF at h
  simp only [Bool.and_eq_true, decide_eq_true_eq] at h
  have := log_iff.1 h.1.1.1
  exact ⟨⟨this.2.1, this.2.2.1⟩, h.1.1.2, h.1.2⟩
theorem turn_plan {t : Tn} (h : turnOkF t = true) : planOkF t.1 = true ∧ vectorOkF t.1.1 t.2.1 = true ∧ (t.2.1.length : Int) = 2 ^ t.1.2.1.toNat ∧ 0 ≤ t.2.2 ∧ t.2.2 ≤ (t.1.2.2.length : Int) := by
  unfold turnOkF at h
  simp only [Bool.and_eq_true, decide_eq_true_eq] at h
  exact ⟨h.1.1.1, h.1.1.2, h.1.2, h.2.1, h.2.2⟩
theorem vec_ok (f : Int) (xs : List Int) : (vecF f xs).2 = vectorOkF f xs := by
  unfold vecF
  split
  case isTrue h => exact h.symm
  case isFalse h => exact (Bool.not_eq_true _ ▸ h : vectorOkF f xs = false).symm
theorem v_S_TurnerOk :
  ∀ (d : (Int × Int × List (Int × Int × Int)) × List Int × Int), Ty.wf turnT d → True → True ∧ (planOkF (Prod.fst (Prod.fst d), Prod.fst (Prod.snd (Prod.fst d)), Prod.snd (Prod.snd (Prod.fst d))) = true → True ∧
  (vectorOkF (Prod.fst (Prod.fst d)) (Prod.fst (Prod.snd d)) = true → (0 : Int) ≤ IntKind.wrap IntKind.u64 (Prod.fst (Prod.snd (Prod.fst d))) ∧ (decide ((↑(List.length (Prod.fst (Prod.snd d))) : Int) = ishl IntKind.i64
  (1 : Int) (IntKind.wrap IntKind.u64 (Prod.fst (Prod.snd (Prod.fst d))))) = true → True ∧ (decide ((0 : Int) ≤ Prod.snd (Prod.snd d)) && decide (Prod.snd (Prod.snd d) ≤ (↑(List.length (Prod.snd (Prod.snd (Prod.fst d))))
  : Int))) = turnOkF d) ∧ (decide ((↑(List.length (Prod.fst (Prod.snd d))) : Int) = ishl IntKind.i64 (1 : Int) (IntKind.wrap IntKind.u64 (Prod.fst (Prod.snd (Prod.fst d))))) = false → false = turnOkF d)) ∧ (vectorOkF
  (Prod.fst (Prod.fst d)) (Prod.fst (Prod.snd d)) = false → false = turnOkF d)) ∧ (planOkF (Prod.fst (Prod.fst d), Prod.fst (Prod.snd (Prod.fst d)), Prod.snd (Prod.snd (Prod.fst d))) = false → false = turnOkF d) := by
  intro (d : Tn) _ _
  simp only [Int.toNat_natCast, exists_const, and_true, true_and, implies_true, decide_eq_true_eq, decide_eq_false_iff_not, Bool.not_eq_true', Bool.not_eq_false', beq_iff_eq, forall_const]
  refine ⟨fun h => ⟨fun h1 => ?_, fun h1 => ?_⟩, fun h => ?_⟩
  · obtain ⟨hk, _, _⟩ := plan_log h
    obtain ⟨_, _, _, p4, _, p6, _⟩ := half_spec hk
    simp only at p4 p6
    rw [p6]
    refine ⟨p4, fun h2 => ?_, fun h2 => ?_⟩
    · unfold turnOkF
      rw [show planOkF d.1 = true from h, h1, decide_eq_true h2]; rfl
    · unfold turnOkF
      rw [decide_eq_false h2]; simp
  · unfold turnOkF; rw [h1]; simp
  · unfold turnOkF; rw [show planOkF d.1 = false from h]; rfl
theorem v_I_isTurner :
  ∀ (d : (Int × Int × List (Int × Int × Int)) × List Int × Int), Ty.wf turnT d → True → List.length [Prod.fst (Prod.snd d)] = (1 : Nat) ∧ (Ty.wf fldT (Prod.fst (vecF (Prod.fst (Prod.fst d)) (List.getD [Prod.fst (Prod.snd
  d)] (0 : Nat) []))) ∧ Ty.wf Ty.bool (Prod.snd (vecF (Prod.fst (Prod.fst d)) (List.getD [Prod.fst (Prod.snd d)] (0 : Nat) []))) → (Prod.snd (vecF (Prod.fst (Prod.fst d)) (List.getD [Prod.fst (Prod.snd d)] (0 : Nat) []))
  = true → True ∧ (planOkF (Prod.fst (Prod.fst d), Prod.fst (Prod.snd (Prod.fst d)), Prod.snd (Prod.snd (Prod.fst d))) = true → (0 : Int) ≤ Prod.fst (Prod.snd (Prod.fst d)) ∧ (decide ((↑(List.length (Prod.fst (Prod.snd
  d))) : Int) = ishl IntKind.i64 (1 : Int) (Prod.fst (Prod.snd (Prod.fst d)))) = true → (decide ((0 : Int) ≤ Prod.snd (Prod.snd d)) = true → decide (Prod.snd (Prod.snd d) ≤ (↑(List.length (Prod.snd (Prod.snd (Prod.fst
  d)))) : Int)) = turnOkF d) ∧ (decide ((0 : Int) ≤ Prod.snd (Prod.snd d)) = false → false = turnOkF d)) ∧ (decide ((↑(List.length (Prod.fst (Prod.snd d))) : Int) = ishl IntKind.i64 (1 : Int) (Prod.fst (Prod.snd
  (Prod.fst d)))) = false → false = turnOkF d)) ∧ (planOkF (Prod.fst (Prod.fst d), Prod.fst (Prod.snd (Prod.fst d)), Prod.snd (Prod.snd (Prod.fst d))) = false → false = turnOkF d)) ∧ (Prod.snd (vecF (Prod.fst (Prod.fst
  d)) (List.getD [Prod.fst (Prod.snd d)] (0 : Nat) [])) = false → false = turnOkF d)) := by
  intro (d : Tn) _ _
  simp only [Int.toNat_natCast, exists_const, and_true, true_and, implies_true, decide_eq_true_eq, decide_eq_false_iff_not, Bool.not_eq_true', Bool.not_eq_false', beq_iff_eq, forall_const]
  simp only [List.getD_cons_zero, vec_ok]
  refine ⟨rfl, fun _ => ⟨fun h => ⟨fun h1 => ?_, fun h1 => ?_⟩, fun h => ?_⟩⟩
  · obtain ⟨hk, _, _⟩ := plan_log h1
    obtain ⟨_, _, _, p4, _, _, p7, _⟩ := half_spec hk
    simp only at p4 p7
    rw [p7]
    refine ⟨hk.1, fun h2 => ⟨fun h3 => ?_, fun h3 => ?_⟩, fun h2 => ?_⟩
    · unfold turnOkF
      rw [show planOkF d.1 = true from h1, h, decide_eq_true h2, decide_eq_true h3]; rfl
    · unfold turnOkF
      rw [decide_eq_false h3]; simp
    · unfold turnOkF
      rw [decide_eq_false h2]; simp
  · unfold turnOkF; rw [show planOkF d.1 = false from h1]; rfl
  · unfold turnOkF; rw [h]; simp
theorem left_step {xs : List Sp} {i : Nat} {k : Int} (hi : i < xs.length) (n : Int) : leftGo (xs.drop i) n = leftGo (xs.drop (i + 1)) (w64 (n + w64 ((xs.getD i (0, 0, 0)).2.2 - (xs.getD i (0, 0, 0)).2.1))) := by
  rw [getD_drop_cons (x := ((0 : Int), (0 : Int), (0 : Int))) hi]; rfl
theorem left_no {t : Tn} (h : turnOkF t = false) : -1 = leftF t := by unfold leftF; rw [if_neg (by rw [h]; simp)]
theorem left_end {t : Tn} {n : Int} (h : turnOkF t = true) (e : leftGo [] n = leftGo (t.1.2.2.drop t.2.2.toNat) 0) : n = leftF t := by unfold leftF; rw [if_pos h, ← e]; rfl
theorem v_I_LeftUnits :
  ∀ (d : (Int × Int × List (Int × Int × Int)) × List Int × Int), Ty.wf turnT d → True → True ∧ ((!turnOkF ((Prod.fst (Prod.fst d), Prod.fst (Prod.snd (Prod.fst d)), Prod.snd (Prod.snd (Prod.fst d))), Prod.fst (Prod.snd
  d), Prod.snd (Prod.snd d))) = true → (-1 : Int) = leftF d) ∧ ((!turnOkF ((Prod.fst (Prod.fst d), Prod.fst (Prod.snd (Prod.fst d)), Prod.snd (Prod.snd (Prod.fst d))), Prod.fst (Prod.snd d), Prod.snd (Prod.snd d))) =
  false → ((0 : Int) ≤ Prod.snd (Prod.snd d) ∧ Prod.snd (Prod.snd d) ≤ (↑(List.length (Prod.snd (Prod.snd (Prod.fst d)))) : Int) ∧ (↑(List.length (Prod.snd (Prod.snd (Prod.fst d)))) : Int) ≤ (↑(List.length (Prod.snd
  (Prod.snd (Prod.fst d)))) : Int)) ∧ ((0 : Nat) ≤ List.length (List.drop (Int.toNat (Prod.snd (Prod.snd d))) (Prod.snd (Prod.snd (Prod.fst d)))) ∧ leftGo (List.drop (0 : Nat) (List.drop (Int.toNat (Prod.snd (Prod.snd
  d))) (Prod.snd (Prod.snd (Prod.fst d))))) (0 : Int) = leftGo (List.drop (Int.toNat (Prod.snd (Prod.snd d))) (Prod.snd (Prod.snd (Prod.fst d)))) (0 : Int)) ∧ (((Prod.fst (Prod.fst d) = Prod.fst (Prod.fst d) ∧ Prod.fst
  (Prod.snd (Prod.fst d)) = Prod.fst (Prod.snd (Prod.fst d)) ∧ Prod.snd (Prod.snd (Prod.fst d)) = Prod.snd (Prod.snd (Prod.fst d)) ∧ Prod.fst (Prod.snd d) = Prod.fst (Prod.snd d) ∧ Prod.snd (Prod.snd d) = Prod.snd
  (Prod.snd d)) ∧ (0 : Int) = (0 : Int) ∧ (0 : Int) = (0 : Int) ∧ List.drop (Int.toNat (Prod.snd (Prod.snd d))) (List.take (Int.toNat (↑(List.length (Prod.snd (Prod.snd (Prod.fst d)))) : Int)) (Prod.snd (Prod.snd
  (Prod.fst d)))) = List.drop (Int.toNat (Prod.snd (Prod.snd d))) (List.take (Int.toNat (↑(List.length (Prod.snd (Prod.snd (Prod.fst d)))) : Int)) (Prod.snd (Prod.snd (Prod.fst d)))) ∧ (↑(List.length (List.drop
  (Int.toNat (Prod.snd (Prod.snd d))) (List.take (Int.toNat (↑(List.length (Prod.snd (Prod.snd (Prod.fst d)))) : Int)) (Prod.snd (Prod.snd (Prod.fst d)))))) : Int) = (↑(List.length (List.drop (Int.toNat (Prod.snd
  (Prod.snd d))) (List.take (Int.toNat (↑(List.length (Prod.snd (Prod.snd (Prod.fst d)))) : Int)) (Prod.snd (Prod.snd (Prod.fst d)))))) : Int) ∧ (0 : Int) = (↑(0 : Nat) : Int)) ∧ Prod.fst (Prod.fst d) = Prod.fst
  (Prod.fst d) ∧ Prod.fst (Prod.snd (Prod.fst d)) = Prod.fst (Prod.snd (Prod.fst d)) ∧ Prod.snd (Prod.snd (Prod.fst d)) = Prod.snd (Prod.snd (Prod.fst d)) ∧ Prod.fst (Prod.snd d) = Prod.fst (Prod.snd d) ∧ Prod.snd
  (Prod.snd d) = Prod.snd (Prod.snd d)) ∧ ∀ (x : Nat × Int), Prod.fst x ≤ List.length (List.drop (Int.toNat (Prod.snd (Prod.snd d))) (Prod.snd (Prod.snd (Prod.fst d)))) ∧ leftGo (List.drop (Prod.fst x) (List.drop
  (Int.toNat (Prod.snd (Prod.snd d))) (Prod.snd (Prod.snd (Prod.fst d))))) (Prod.snd x) = leftGo (List.drop (Int.toNat (Prod.snd (Prod.snd d))) (Prod.snd (Prod.snd (Prod.fst d)))) (0 : Int) → (decide ((↑(Prod.fst x) :
  Int) < (↑(List.length (List.drop (Int.toNat (Prod.snd (Prod.snd d))) (List.take (Int.toNat (↑(List.length (Prod.snd (Prod.snd (Prod.fst d)))) : Int)) (Prod.snd (Prod.snd (Prod.fst d)))))) : Int)) = true → ((0 : Int) ≤
  (↑(Prod.fst x) : Int) ∧ (↑(Prod.fst x) : Int) < (↑(List.length (List.drop (Int.toNat (Prod.snd (Prod.snd d))) (List.take (Int.toNat (↑(List.length (Prod.snd (Prod.snd (Prod.fst d)))) : Int)) (Prod.snd (Prod.snd
  (Prod.fst d)))))) : Int)) ∧ ∃ (x' : Nat × Int), (Prod.fst x' ≤ List.length (List.drop (Int.toNat (Prod.snd (Prod.snd d))) (Prod.snd (Prod.snd (Prod.fst d)))) ∧ leftGo (List.drop (Prod.fst x') (List.drop (Int.toNat
  (Prod.snd (Prod.snd d))) (Prod.snd (Prod.snd (Prod.fst d))))) (Prod.snd x') = leftGo (List.drop (Int.toNat (Prod.snd (Prod.snd d))) (Prod.snd (Prod.snd (Prod.fst d)))) (0 : Int)) ∧ List.length (List.drop (Int.toNat
  (Prod.snd (Prod.snd d))) (Prod.snd (Prod.snd (Prod.fst d)))) - Prod.fst x' < List.length (List.drop (Int.toNat (Prod.snd (Prod.snd d))) (Prod.snd (Prod.snd (Prod.fst d)))) - Prod.fst x ∧ ((Prod.fst (Prod.fst d) =
  Prod.fst (Prod.fst d) ∧ Prod.fst (Prod.snd (Prod.fst d)) = Prod.fst (Prod.snd (Prod.fst d)) ∧ Prod.snd (Prod.snd (Prod.fst d)) = Prod.snd (Prod.snd (Prod.fst d)) ∧ Prod.fst (Prod.snd d) = Prod.fst (Prod.snd d) ∧
  Prod.snd (Prod.snd d) = Prod.snd (Prod.snd d)) ∧ (0 : Int) = (0 : Int) ∧ IntKind.wrap IntKind.i64 (Prod.snd x + IntKind.wrap IntKind.i64 (Prod.snd (Prod.snd (List.getD (List.drop (Int.toNat (Prod.snd (Prod.snd d)))
  (List.take (Int.toNat (↑(List.length (Prod.snd (Prod.snd (Prod.fst d)))) : Int)) (Prod.snd (Prod.snd (Prod.fst d))))) (Int.toNat (↑(Prod.fst x) : Int)) ((0 : Int), (0 : Int), (0 : Int)))) - Prod.fst (Prod.snd
  (List.getD (List.drop (Int.toNat (Prod.snd (Prod.snd d))) (List.take (Int.toNat (↑(List.length (Prod.snd (Prod.snd (Prod.fst d)))) : Int)) (Prod.snd (Prod.snd (Prod.fst d))))) (Int.toNat (↑(Prod.fst x) : Int)) ((0 :
  Int), (0 : Int), (0 : Int)))))) = Prod.snd x' ∧ List.drop (Int.toNat (Prod.snd (Prod.snd d))) (List.take (Int.toNat (↑(List.length (Prod.snd (Prod.snd (Prod.fst d)))) : Int)) (Prod.snd (Prod.snd (Prod.fst d)))) =
  List.drop (Int.toNat (Prod.snd (Prod.snd d))) (List.take (Int.toNat (↑(List.length (Prod.snd (Prod.snd (Prod.fst d)))) : Int)) (Prod.snd (Prod.snd (Prod.fst d)))) ∧ (↑(List.length (List.drop (Int.toNat (Prod.snd
  (Prod.snd d))) (List.take (Int.toNat (↑(List.length (Prod.snd (Prod.snd (Prod.fst d)))) : Int)) (Prod.snd (Prod.snd (Prod.fst d)))))) : Int) = (↑(List.length (List.drop (Int.toNat (Prod.snd (Prod.snd d))) (List.take
  (Int.toNat (↑(List.length (Prod.snd (Prod.snd (Prod.fst d)))) : Int)) (Prod.snd (Prod.snd (Prod.fst d)))))) : Int) ∧ IntKind.wrap IntKind.i64 ((↑(Prod.fst x) : Int) + (1 : Int)) = (↑(Prod.fst x') : Int)) ∧ Prod.fst
  (Prod.fst d) = Prod.fst (Prod.fst d) ∧ Prod.fst (Prod.snd (Prod.fst d)) = Prod.fst (Prod.snd (Prod.fst d)) ∧ Prod.snd (Prod.snd (Prod.fst d)) = Prod.snd (Prod.snd (Prod.fst d)) ∧ Prod.fst (Prod.snd d) = Prod.fst
  (Prod.snd d) ∧ Prod.snd (Prod.snd d) = Prod.snd (Prod.snd d)) ∧ (decide ((↑(Prod.fst x) : Int) < (↑(List.length (List.drop (Int.toNat (Prod.snd (Prod.snd d))) (List.take (Int.toNat (↑(List.length (Prod.snd (Prod.snd
  (Prod.fst d)))) : Int)) (Prod.snd (Prod.snd (Prod.fst d)))))) : Int)) = false → Prod.snd x = leftF d)) := by
  intro (d : Tn) hw _
  simp only [Int.toNat_natCast, exists_const, and_true, true_and, implies_true, decide_eq_true_eq, decide_eq_false_iff_not, Bool.not_eq_true', Bool.not_eq_false', beq_iff_eq, forall_const]
  refine ⟨fun h => left_no h, fun h => ?_⟩
  have h' : turnOkF d = true := h
  obtain ⟨t1, t2, t3, t4, t5⟩ := turn_plan h'
  obtain ⟨hk, hl, hst⟩ := plan_log t1
  rw [List.take_length]
  have hdl : (d.1.2.2.drop d.2.2.toNat).length ≤ 600 := by rw [List.length_drop]; omega
  generalize hys : d.1.2.2.drop d.2.2.toNat = ys at *
  refine ⟨⟨t4, t5, Int.le_refl _⟩, ⟨Nat.zero_le _, rfl⟩, rfl, fun x hx => ⟨fun hlt => ⟨⟨by omega, by omega⟩, ?_⟩, fun hge => ?_⟩⟩
  · have hi : x.1 < ys.length := by omega
    refine ⟨(x.1 + 1, w64 (x.2 + w64 ((ys.getD x.1 (0, 0, 0)).2.2 - (ys.getD x.1 (0, 0, 0)).2.1))), ⟨by simp only; omega, ?_⟩, by simp only; omega, rfl, wrap_succ (by omega)⟩
    rw [← hx.2, left_step (k := 0) hi]
  · refine left_end h' ?_
    rw [hys, ← hx.2, List.drop_eq_nil_of_le (by omega)]
theorem fin_no {t : Tn} (h : ¬ (turnOkF t = true ∧ (t.1.2.2.length : Int) ≤ t.2.2)) : ([], false) = finF t := by unfold finF; rw [if_neg h]
theorem fin_yes {t : Tn} (h : turnOkF t = true) (h1 : (t.1.2.2.length : Int) ≤ t.2.2) : (t.2.1, true) = finF t := by unfold finF; rw [if_pos ⟨h, h1⟩]
theorem v_I_Finished :
  ∀ (d : (Int × Int × List (Int × Int × Int)) × List Int × Int), Ty.wf turnT d → List.length (Prod.fst (Prod.snd d)) ≤ (1048576 : Nat) → True ∧ ((!turnOkF ((Prod.fst (Prod.fst d), Prod.fst (Prod.snd (Prod.fst d)),
  Prod.snd (Prod.snd (Prod.fst d))), Prod.fst (Prod.snd d), Prod.snd (Prod.snd d))) = true → ([], false) = finF d) ∧ ((!turnOkF ((Prod.fst (Prod.fst d), Prod.fst (Prod.snd (Prod.fst d)), Prod.snd (Prod.snd (Prod.fst
  d))), Prod.fst (Prod.snd d), Prod.snd (Prod.snd d))) = false → (decide (Prod.snd (Prod.snd d) < (↑(List.length (Prod.snd (Prod.snd (Prod.fst d)))) : Int)) = true → ([], false) = finF d) ∧ (decide (Prod.snd (Prod.snd d)
  < (↑(List.length (Prod.snd (Prod.snd (Prod.fst d)))) : Int)) = false → ((0 : Nat) + List.length (Prod.fst (Prod.snd d))) * (8 : Nat) ≤ (140737488355328 : Nat) ∧ ([] ++ Prod.fst (Prod.snd d), true) = finF d)) := by
  intro (d : Tn) hw (hp : d.2.1.length ≤ 1048576)
  simp only [Int.toNat_natCast, exists_const, and_true, true_and, implies_true, decide_eq_true_eq, decide_eq_false_iff_not, Bool.not_eq_true', Bool.not_eq_false', beq_iff_eq, forall_const]
  exact ⟨fun h => fin_no (fun hh => by rw [show turnOkF d = false from h] at hh; cases hh.1), fun h => ⟨fun h1 => fin_no (fun hh => by omega), fun h1 => ⟨by omega, fin_yes h (by omega)⟩⟩⟩
theorem sz_neg {n : Nat} {l : Int} (h : szF n l < 0) : szF n l = -1 := by
  unfold szF at h ⊢
  by_cases e : w64 (l - n) < 0
  · rw [if_pos e]
  · rw [if_neg e] at h; exact absurd h e
theorem sz_room3 {n : Nat} {l : Int} (h : n ≤ 9223372036854775807) (h0 : 0 ≤ l) (h1 : l ≤ 1048576) : szF n l < 0 ∨ ((n : Int) ≤ l ∧ szF n l = l - n) := by
  unfold szF w64
  rw [wrap_small (by omega)]
  split <;> omega
theorem tn_room {t : Tn} (hl1 : t.1.2.2.length ≤ 9223372036854775807) (hl2 : t.2.1.length ≤ 9223372036854775807) (h : ¬ szTnF t 1048576 < 0) : t.1.2.2.length ≤ 1048576 ∧ t.2.1.length ≤ 1048576 := by
  unfold szTnF at h
  rcases sz_room3 (l := 1048576) hl1 (by omega) (by omega) with h1 | ⟨h1, e1⟩
  · rw [if_pos h1] at h; omega
  · rw [if_neg (by omega), e1] at h
    rcases sz_room3 (l := 1048576 - (t.1.2.2.length : Int)) hl2 (by omega) (by omega) with h2 | ⟨h2, e2⟩ <;> omega
end Go.SF
