/- Jobs, from the code. No condition. -/
import Derived.Test.YtobmiihdfklmaaaGreatSxC
import Derived.Test.YtobmiihdfklmaaaGreatSxPTrfC
import Derived.Test.YtobmiihdfklmaaaGreatSxPDivT
import Derived.Test.YtobmiihdfklmaaaGreatSxPMark
import Derived.Test.YtobmiihdfklmaaaGreatSxPPoint
namespace Go.SF
open Go.SX Go
set_option linter.unusedVariables false
set_option linter.unusedSimpArgs false
theorem rng_zero (m : Int) (l : List Int) : RngP m l 0 := ⟨Nat.zero_le _, fun x hx => by simp at hx⟩
theorem rng_succ {m : Int} {l : List Int} {k : Nat} (h : RngP m l k) (hk : k < l.length) (h1 : -m ≤ l.getD k 0) (h2 : l.getD k 0 ≤ m) : RngP m l (k + 1) := by
  refine ⟨hk, fun x hx => ?_⟩
  rw [← tk_succ (z := (0 : Int)) hk] at hx
  rcases List.mem_append.1 hx with h3 | h3
  · exact h.2 x h3
  · rw [List.mem_singleton.1 h3]; exact ⟨h1, h2⟩
theorem rng_no {m : Int} {l : List Int} {k : Nat} (hk : k < l.length) (h : ¬ (-m ≤ l.getD k 0 ∧ l.getD k 0 ≤ m)) : ¬ ∀ x ∈ l, -m ≤ x ∧ x ≤ m := by
  intro hx
  apply h
  refine hx _ ?_
  rw [List.getD_eq_getElem?_getD, List.getElem?_eq_getElem hk]
  exact List.getElem_mem _
theorem rng_end {m : Int} {l : List Int} {k : Nat} (h : RngP m l k) (hk : ¬ k < l.length) : ∀ x ∈ l, -m ≤ x ∧ x ≤ m := by
  have := h.2
  rwa [List.take_of_length_le (by omega)] at this
theorem v_S_l05Terms :
 ∀ (d : List Int), Ty.wf listT d → True → (decide ((200 : Int) < (↑d.length : Int)) = true → false = termsB d) ∧ (decide ((200 : Int) < (↑d.length : Int)) = false → RngP (1000000 : Int) d (0 : Nat) ∧ (d = d ∧ (0 : Int) =
 (↑(0 : Nat) : Int)) ∧ ∀ (x : Nat), RngP (1000000 : Int) d x → (decide ((↑x : Int) < (↑d.length : Int)) = true → ((0 : Int) ≤ (↑x : Int) ∧ (↑x : Int) < (↑d.length : Int)) ∧ True ∧ ((!(decide ((-1000000 : Int) ≤ d.getD
 (Int.toNat (↑x : Int)) (0 : Int)) && decide (d.getD (Int.toNat (↑x : Int)) (0 : Int) ≤ (1000000 : Int)))) = true → false = termsB d) ∧ ((!(decide ((-1000000 : Int) ≤ d.getD (Int.toNat (↑x : Int)) (0 : Int)) && decide
 (d.getD (Int.toNat (↑x : Int)) (0 : Int) ≤ (1000000 : Int)))) = false → ∃ (x' : Nat), RngP (1000000 : Int) d x' ∧ d.length - x' < d.length - x ∧ d = d ∧ IntKind.wrap IntKind.i64 ((↑x : Int) + (1 : Int)) = (↑x' : Int)))
 ∧ (decide ((↑x : Int) < (↑d.length : Int)) = false → true = termsB d)) := by
  intro d hw hp
  replace hw : listT.wf d := hw
  simp only [Int.toNat_natCast, exists_const, and_true, true_and, implies_true, decide_eq_true_eq, decide_eq_false_iff_not, Bool.not_eq_true', Bool.not_eq_false', beq_iff_eq, forall_const]
  unfold termsB
  refine ⟨fun h => by rw [decide_eq_false (show ¬ d.length ≤ 200 by omega)]; rfl, fun h => ⟨rng_zero _ _, rfl, fun x hx => ⟨fun hlt => ⟨⟨by omega, hlt⟩, fun h1 => ?_, fun h1 => ?_⟩, fun hge => ?_⟩⟩⟩
  · rw [decide_eq_false (rng_no (m := 1000000) (show x < d.length by omega) (fun hh => by rw [decide_eq_true hh.1, decide_eq_true hh.2] at h1; cases h1)), Bool.and_false]
  · simp only [Bool.and_eq_true, decide_eq_true_eq] at h1
    exact ⟨x + 1, rng_succ hx (by omega) h1.1 h1.2, by omega, by rw [wrap_small (by omega)]; rfl⟩
  · rw [decide_eq_true (show d.length ≤ 200 by omega), decide_eq_true (rng_end (m := 1000000) hx (by omega))]; rfl
theorem v_I_areTerms :
 ∀ (d : List Int), Ty.wf listT d → True → RngP (1000000 : Int) d (0 : Nat) ∧ (d = d ∧ d = d ∧ (↑d.length : Int) = (↑d.length : Int) ∧ (0 : Int) = (↑(0 : Nat) : Int)) ∧ ∀ (x : Nat), RngP (1000000 : Int) d x → (decide ((↑x
 : Int) < (↑d.length : Int)) = true → ((0 : Int) ≤ (↑x : Int) ∧ (↑x : Int) < (↑d.length : Int)) ∧ (decide (d.getD (Int.toNat (↑x : Int)) (0 : Int) < (-1000000 : Int)) = true → false = termsB d) ∧ (decide (d.getD
 (Int.toNat (↑x : Int)) (0 : Int) < (-1000000 : Int)) = false → (decide ((1000000 : Int) < d.getD (Int.toNat (↑x : Int)) (0 : Int)) = true → false = termsB d) ∧ (decide ((1000000 : Int) < d.getD (Int.toNat (↑x : Int)) (0
 : Int)) = false → ∃ (x' : Nat), RngP (1000000 : Int) d x' ∧ d.length - x' < d.length - x ∧ d = d ∧ d = d ∧ (↑d.length : Int) = (↑d.length : Int) ∧ IntKind.wrap IntKind.i64 ((↑x : Int) + (1 : Int)) = (↑x' : Int)))) ∧
 (decide ((↑x : Int) < (↑d.length : Int)) = false → decide ((↑d.length : Int) ≤ (200 : Int)) = termsB d) := by
  intro d hw hp
  have hl : d.length ≤ 9223372036854775807 := by have := hw.1; unfold lenMax at this; omega
  simp only [Int.toNat_natCast, exists_const, and_true, true_and, implies_true, decide_eq_true_eq, decide_eq_false_iff_not, Bool.not_eq_true', Bool.not_eq_false', beq_iff_eq, forall_const]
  unfold termsB
  refine ⟨rng_zero _ _, rfl, fun x hx => ⟨fun hlt => ⟨⟨by omega, hlt⟩, fun h1 => ?_, fun h1 => ⟨fun h2 => ?_, fun h2 => ?_⟩⟩, fun hge => ?_⟩⟩
  · rw [decide_eq_false (rng_no (m := 1000000) (show x < d.length by omega) (fun hh => by omega)), Bool.and_false]
  · rw [decide_eq_false (rng_no (m := 1000000) (show x < d.length by omega) (fun hh => by omega)), Bool.and_false]
  · exact ⟨x + 1, rng_succ hx (by omega) (by omega) (by omega), by omega, by rw [wrap_small (by omega)]; rfl⟩
  · rw [decide_eq_true (rng_end (m := 1000000) hx (by omega)), Bool.and_true]
    by_cases h : d.length ≤ 200
    · rw [decide_eq_true h, decide_eq_true (show (d.length : Int) ≤ 200 by omega)]
    · rw [decide_eq_false h, decide_eq_false (show ¬ (d.length : Int) ≤ 200 by omega)]
theorem v_S_l10Words :
 ∀ (d : List Int), Ty.wf listT d → True → (decide ((400 : Int) < (↑d.length : Int)) = true → false = wordsB d) ∧ (decide ((400 : Int) < (↑d.length : Int)) = false → RngP (1099511627776 : Int) d (0 : Nat) ∧ (d = d ∧ (0 :
 Int) = (↑(0 : Nat) : Int)) ∧ ∀ (x : Nat), RngP (1099511627776 : Int) d x → (decide ((↑x : Int) < (↑d.length : Int)) = true → ((0 : Int) ≤ (↑x : Int) ∧ (↑x : Int) < (↑d.length : Int)) ∧ True ∧ ((!(decide ((-1099511627776
 : Int) ≤ d.getD (Int.toNat (↑x : Int)) (0 : Int)) && decide (d.getD (Int.toNat (↑x : Int)) (0 : Int) ≤ (1099511627776 : Int)))) = true → false = wordsB d) ∧ ((!(decide ((-1099511627776 : Int) ≤ d.getD (Int.toNat (↑x :
 Int)) (0 : Int)) && decide (d.getD (Int.toNat (↑x : Int)) (0 : Int) ≤ (1099511627776 : Int)))) = false → ∃ (x' : Nat), RngP (1099511627776 : Int) d x' ∧ d.length - x' < d.length - x ∧ d = d ∧ IntKind.wrap IntKind.i64
 ((↑x : Int) + (1 : Int)) = (↑x' : Int))) ∧ (decide ((↑x : Int) < (↑d.length : Int)) = false → true = wordsB d)) := by
  intro d hw hp
  replace hw : listT.wf d := hw
  simp only [Int.toNat_natCast, exists_const, and_true, true_and, implies_true, decide_eq_true_eq, decide_eq_false_iff_not, Bool.not_eq_true', Bool.not_eq_false', beq_iff_eq, forall_const]
  unfold wordsB
  refine ⟨fun h => by rw [decide_eq_false (show ¬ d.length ≤ 400 by omega)]; rfl, fun h => ⟨rng_zero _ _, rfl, fun x hx => ⟨fun hlt => ⟨⟨by omega, hlt⟩, fun h1 => ?_, fun h1 => ?_⟩, fun hge => ?_⟩⟩⟩
  · rw [decide_eq_false (rng_no (m := 1099511627776) (show x < d.length by omega) (fun hh => by rw [decide_eq_true hh.1, decide_eq_true hh.2] at h1; cases h1)), Bool.and_false]
  · simp only [Bool.and_eq_true, decide_eq_true_eq] at h1
    exact ⟨x + 1, rng_succ hx (by omega) h1.1 h1.2, by omega, by rw [wrap_small (by omega)]; rfl⟩
  · rw [decide_eq_true (show d.length ≤ 400 by omega), decide_eq_true (rng_end (m := 1099511627776) hx (by omega))]; rfl
theorem v_I_areWords :
 ∀ (d : List Int), Ty.wf listT d → True → RngP (1099511627776 : Int) d (0 : Nat) ∧ (d = d ∧ d = d ∧ (↑d.length : Int) = (↑d.length : Int) ∧ (0 : Int) = (↑(0 : Nat) : Int)) ∧ ∀ (x : Nat), RngP (1099511627776 : Int) d x →
 (decide ((↑x : Int) < (↑d.length : Int)) = true → ((0 : Int) ≤ (↑x : Int) ∧ (↑x : Int) < (↑d.length : Int)) ∧ (decide (d.getD (Int.toNat (↑x : Int)) (0 : Int) < (-1099511627776 : Int)) = true → false = wordsB d) ∧
 (decide (d.getD (Int.toNat (↑x : Int)) (0 : Int) < (-1099511627776 : Int)) = false → (decide ((1099511627776 : Int) < d.getD (Int.toNat (↑x : Int)) (0 : Int)) = true → false = wordsB d) ∧ (decide ((1099511627776 : Int)
 < d.getD (Int.toNat (↑x : Int)) (0 : Int)) = false → ∃ (x' : Nat), RngP (1099511627776 : Int) d x' ∧ d.length - x' < d.length - x ∧ d = d ∧ d = d ∧ (↑d.length : Int) = (↑d.length : Int) ∧ IntKind.wrap IntKind.i64 ((↑x :
 Int) + (1 : Int)) = (↑x' : Int)))) ∧ (decide ((↑x : Int) < (↑d.length : Int)) = false → decide ((↑d.length : Int) ≤ (400 : Int)) = wordsB d) := by
  intro d hw hp
  have hl : d.length ≤ 9223372036854775807 := by have := hw.1; unfold lenMax at this; omega
  simp only [Int.toNat_natCast, exists_const, and_true, true_and, implies_true, decide_eq_true_eq, decide_eq_false_iff_not, Bool.not_eq_true', Bool.not_eq_false', beq_iff_eq, forall_const]
  unfold wordsB
  refine ⟨rng_zero _ _, rfl, fun x hx => ⟨fun hlt => ⟨⟨by omega, hlt⟩, fun h1 => ?_, fun h1 => ⟨fun h2 => ?_, fun h2 => ?_⟩⟩, fun hge => ?_⟩⟩
  · rw [decide_eq_false (rng_no (m := 1099511627776) (show x < d.length by omega) (fun hh => by omega)), Bool.and_false]
  · rw [decide_eq_false (rng_no (m := 1099511627776) (show x < d.length by omega) (fun hh => by omega)), Bool.and_false]
  · exact ⟨x + 1, rng_succ hx (by omega) (by omega) (by omega), by omega, by rw [wrap_small (by omega)]; rfl⟩
  · rw [decide_eq_true (rng_end (m := 1099511627776) hx (by omega)), Bool.and_true]
    by_cases h : d.length ≤ 400
    · rw [decide_eq_true h, decide_eq_true (show (d.length : Int) ≤ 400 by omega)]
    · rw [decide_eq_false h, decide_eq_false (show ¬ (d.length : Int) ≤ 400 by omega)]
theorem v_S_MulPoly :
 ∀ (d : Int × List Int × List Int), Ty.wf i64T d.1 ∧ Ty.wf listT d.2.1 ∧ Ty.wf listT d.2.2 → True → True ∧ ((!polyB d.1 d.2.1) = true → ([], false) = mulPF d.1 d.2.1 d.2.2) ∧ ((!polyB d.1 d.2.1) = false → True ∧ ((!polyB
 d.1 d.2.2) = true → ([], false) = mulPF d.1 d.2.1 d.2.2) ∧ ((!polyB d.1 d.2.2) = false → (decide ((0 : Int) < (↑d.2.1.length : Int)) = true → (decide ((0 : Int) < (↑d.2.2.length : Int)) = true → (decide ((400 : Int) <
 IntKind.wrap IntKind.i64 (IntKind.wrap IntKind.i64 ((↑d.2.1.length : Int) + (↑d.2.2.length : Int)) - (1 : Int))) = true → ([], false) = mulPF d.1 d.2.1 d.2.2) ∧ (decide ((400 : Int) < IntKind.wrap IntKind.i64
 (IntKind.wrap IntKind.i64 ((↑d.2.1.length : Int) + (↑d.2.2.length : Int)) - (1 : Int))) = false → (specElemsF d.1 d.2.1 = true ∧ specElemsF d.1 d.2.2 = true ∧ d.2.1.length ≤ (1000 : Nat) ∧ d.2.2.length ≤ (1000 : Nat)) ∧
 (Ty.wf listT (mulP (modF d.1) d.2.1 d.2.2) → (mulP (modF d.1) d.2.1 d.2.2, true) = mulPF d.1 d.2.1 d.2.2))) ∧ (decide ((0 : Int) < (↑d.2.2.length : Int)) = false → (specElemsF d.1 d.2.1 = true ∧ specElemsF d.1 d.2.2 =
 true ∧ d.2.1.length ≤ (1000 : Nat) ∧ d.2.2.length ≤ (1000 : Nat)) ∧ (Ty.wf listT (mulP (modF d.1) d.2.1 d.2.2) → (mulP (modF d.1) d.2.1 d.2.2, true) = mulPF d.1 d.2.1 d.2.2))) ∧ (decide ((0 : Int) < (↑d.2.1.length :
 Int)) = false → (specElemsF d.1 d.2.1 = true ∧ specElemsF d.1 d.2.2 = true ∧ d.2.1.length ≤ (1000 : Nat) ∧ d.2.2.length ≤ (1000 : Nat)) ∧ (Ty.wf listT (mulP (modF d.1) d.2.1 d.2.2) → (mulP (modF d.1) d.2.1 d.2.2, true)
 = mulPF d.1 d.2.1 d.2.2)))) := by
  intro d hw hp
  obtain ⟨f, a, b⟩ := d
  simp only [Int.toNat_natCast, exists_const, and_true, true_and, implies_true, decide_eq_true_eq, decide_eq_false_iff_not, Bool.not_eq_true', Bool.not_eq_false', beq_iff_eq, forall_const]
  unfold mulPF
  refine ⟨fun h => by rw [h]; rfl, fun ha => ⟨fun h => by rw [h, Bool.and_false]; rfl, fun hb => ?_⟩⟩
  have ha' := ha
  have hb' := hb
  unfold polyB at ha' hb'
  simp only [Bool.and_eq_true, decide_eq_true_eq] at ha' hb'
  have hpre : specElemsF f a = true ∧ specElemsF f b = true ∧ a.length ≤ 1000 ∧ b.length ≤ 1000 := ⟨ha'.1.2, hb'.1.2, by omega, by omega⟩
  rw [ha, hb]
  have w1 : IntKind.i64.wrap (IntKind.i64.wrap ((a.length : Int) + b.length) - 1) = (a.length : Int) + b.length - 1 := by rw [wrap_small (n := (a.length : Int) + b.length) (by omega), wrap_small (by omega)]
  rw [w1]
  refine ⟨fun h1 => ⟨fun h2 => ⟨fun h3 => ?_, fun h3 => ⟨hpre, fun _ => ?_⟩⟩, fun h2 => ⟨hpre, fun _ => ?_⟩⟩, fun h1 => ⟨hpre, fun _ => ?_⟩⟩
  · rw [decide_eq_false (by omega)]; rfl
  · rw [decide_eq_true (by omega)]; rfl
  · rw [decide_eq_true (by omega)]; rfl
  · rw [decide_eq_true (by omega)]; rfl
theorem v_S_DivMod :
 ∀ (d : Int × List Int × List Int), Ty.wf i64T d.1 ∧ Ty.wf listT d.2.1 ∧ Ty.wf listT d.2.2 → True → True ∧ ((!polyB d.1 d.2.1) = true → ([], [], false) = divModF d.1 d.2.1 d.2.2) ∧ ((!polyB d.1 d.2.1) = false → True ∧
 ((!polyB d.1 d.2.2) = true → ([], [], false) = divModF d.1 d.2.1 d.2.2) ∧ ((!polyB d.1 d.2.2) = false → (decide ((↑d.2.2.length : Int) = (0 : Int)) = true → ([], [], false) = divModF d.1 d.2.1 d.2.2) ∧ (decide
 ((↑d.2.2.length : Int) = (0 : Int)) = false → (polyB d.1 d.2.1 = true ∧ polyB d.1 d.2.2 = true ∧ d.2.2.length ≠ (0 : Nat)) ∧ (Ty.wf listT (Prod.fst (divG (modF d.1) d.2.1 d.2.2)) ∧ Ty.wf listT (Prod.snd (divG (modF d.1)
 d.2.1 d.2.2)) → (Prod.fst (divG (modF d.1) d.2.1 d.2.2), Prod.snd (divG (modF d.1) d.2.1 d.2.2), true) = divModF d.1 d.2.1 d.2.2)))) := by
  intro d hw hp
  obtain ⟨f, a, b⟩ := d
  simp only [Int.toNat_natCast, exists_const, and_true, true_and, implies_true, decide_eq_true_eq, decide_eq_false_iff_not, Bool.not_eq_true', Bool.not_eq_false', beq_iff_eq, forall_const]
  unfold divModF
  refine ⟨fun h => by rw [h]; rfl, fun ha => ⟨fun h => by rw [h, Bool.and_false]; rfl, fun hb => ⟨fun h => ?_, fun h => ⟨⟨ha, hb, by omega⟩, fun _ => ?_⟩⟩⟩⟩
  · rw [decide_eq_false (show ¬ b.length ≠ 0 by omega), Bool.and_false]; rfl
  · rw [ha, hb, decide_eq_true (show b.length ≠ 0 by omega)]; rfl
theorem v_S_SeriesOk :
 ∀ (d : Int × List Int), Ty.wf i64T d.1 ∧ Ty.wf listT d.2 → True → True ∧ ((decide ((1 : Int) ≤ (↑d.2.length : Int)) && decide ((↑d.2.length : Int) ≤ (64 : Int))) = true → True ∧ specElemsF d.1 d.2 = serB d.1 d.2) ∧
 ((decide ((1 : Int) ≤ (↑d.2.length : Int)) && decide ((↑d.2.length : Int) ≤ (64 : Int))) = false → false = serB d.1 d.2) := by
  intro d hw hp
  obtain ⟨f, a⟩ := d
  simp only [Int.toNat_natCast, exists_const, and_true, true_and, implies_true, decide_eq_true_eq, decide_eq_false_iff_not, Bool.not_eq_true', Bool.not_eq_false', beq_iff_eq, forall_const]
  unfold serB
  have e1 : decide ((1 : Int) ≤ a.length) = decide (1 ≤ a.length) := by by_cases h : 1 ≤ a.length <;> simp [h] <;> omega
  have e2 : decide ((a.length : Int) ≤ 64) = decide (a.length ≤ 64) := by by_cases h : a.length ≤ 64 <;> simp [h] <;> omega
  rw [e1, e2]
  exact ⟨fun h => by rw [h]; rfl, fun h => by rw [h]; rfl⟩
theorem v_S_JobOk :
 ∀ (d : Int × Int × List Int × List Int × Int), Ty.wf jobT d → True → True ∧ ((!(decide ((1 : Int) ≤ d.1) && decide (d.1 ≤ (11 : Int)))) = true → false = jobOkF d) ∧ ((!(decide ((1 : Int) ≤ d.1) && decide (d.1 ≤ (11 :
 Int)))) = false → True ∧ (Ty.wf i64T (modF d.2.1) → (decide (modF d.2.1 = (0 : Int)) = true → false = jobOkF d) ∧ (decide (modF d.2.1 = (0 : Int)) = false → (decide (d.1 = (6 : Int)) = true → ((!decide (d.2.1 = (0 :
 Int))) = true → false = jobOkF d) ∧ ((!decide (d.2.1 = (0 : Int))) = false → True ∧ ((!wordsB d.2.2.1) = true → false = jobOkF d) ∧ ((!wordsB d.2.2.1) = false → True ∧ ((!wordsB d.2.2.2.1) = true → false = jobOkF d) ∧
 ((!wordsB d.2.2.2.1) = false → True ∧ ((!(decide ((0 : Int) ≤ d.2.2.2.2) && decide (d.2.2.2.2 ≤ (400 : Int)))) = true → false = jobOkF d) ∧ ((!(decide ((0 : Int) ≤ d.2.2.2.2) && decide (d.2.2.2.2 ≤ (400 : Int)))) =
 false → True ∧ (usesBF d.1 = true → (decide (d.1 = (11 : Int)) = true → true = jobOkF d) ∧ (decide (d.1 = (11 : Int)) = false → decide (d.2.2.2.2 = (0 : Int)) = jobOkF d)) ∧ (usesBF d.1 = false → (decide
 ((↑d.2.2.2.1.length : Int) = (0 : Int)) = true → (decide (d.1 = (11 : Int)) = true → true = jobOkF d) ∧ (decide (d.1 = (11 : Int)) = false → decide (d.2.2.2.2 = (0 : Int)) = jobOkF d)) ∧ (decide ((↑d.2.2.2.1.length :
 Int) = (0 : Int)) = false → false = jobOkF d))))))) ∧ (decide (d.1 = (6 : Int)) = false → True ∧ ((!wordsB d.2.2.1) = true → false = jobOkF d) ∧ ((!wordsB d.2.2.1) = false → True ∧ ((!wordsB d.2.2.2.1) = true → false =
 jobOkF d) ∧ ((!wordsB d.2.2.2.1) = false → True ∧ ((!(decide ((0 : Int) ≤ d.2.2.2.2) && decide (d.2.2.2.2 ≤ (400 : Int)))) = true → false = jobOkF d) ∧ ((!(decide ((0 : Int) ≤ d.2.2.2.2) && decide (d.2.2.2.2 ≤ (400 :
 Int)))) = false → True ∧ (usesBF d.1 = true → (decide (d.1 = (11 : Int)) = true → true = jobOkF d) ∧ (decide (d.1 = (11 : Int)) = false → decide (d.2.2.2.2 = (0 : Int)) = jobOkF d)) ∧ (usesBF d.1 = false → (decide
 ((↑d.2.2.2.1.length : Int) = (0 : Int)) = true → (decide (d.1 = (11 : Int)) = true → true = jobOkF d) ∧ (decide (d.1 = (11 : Int)) = false → decide (d.2.2.2.2 = (0 : Int)) = jobOkF d)) ∧ (decide ((↑d.2.2.2.1.length :
 Int) = (0 : Int)) = false → false = jobOkF d))))))))) := by
  intro d hw hp
  simp only [Int.toNat_natCast, exists_const, and_true, true_and, implies_true, decide_eq_true_eq, decide_eq_false_iff_not, Bool.not_eq_true', Bool.not_eq_false', beq_iff_eq, forall_const]
  unfold jobOkF
  generalize wordsB d.2.2.1 = wa
  generalize wordsB d.2.2.2.1 = wb
  generalize usesBF d.1 = u
  repeat' first
    | apply And.intro
    | intro _
  all_goals (simp_all <;> (intros; omega))
theorem v_L_szJob :
 ∀ (d : (Int × Int × List Int × List Int × Int) × Int), Ty.wf jobT d.1 ∧ Ty.wf i64T d.2 → True → True ∧ (Ty.wf i64T (szF d.1.2.2.1.length d.2) → (decide (szF d.1.2.2.1.length d.2 < (0 : Int)) = true → (-1 : Int) = szJobF
 d.1 d.2) ∧ (decide (szF d.1.2.2.1.length d.2 < (0 : Int)) = false → True ∧ (Ty.wf i64T (szF d.1.2.2.2.1.length (szF d.1.2.2.1.length d.2)) → (decide (szF d.1.2.2.2.1.length (szF d.1.2.2.1.length d.2) < (0 : Int)) = true
 → (-1 : Int) = szJobF d.1 d.2) ∧ (decide (szF d.1.2.2.2.1.length (szF d.1.2.2.1.length d.2) < (0 : Int)) = false → szF d.1.2.2.2.1.length (szF d.1.2.2.1.length d.2) = szJobF d.1 d.2)))) := by
  intro d hw _
  simp only [Int.toNat_natCast, exists_const, and_true, true_and, implies_true, decide_eq_true_eq, decide_eq_false_iff_not, Bool.not_eq_true', Bool.not_eq_false', beq_iff_eq, forall_const]
  intro _
  unfold szJobF
  exact ⟨fun h => by rw [if_pos h], fun h _ => ⟨fun h1 => by rw [if_neg h]; exact (sz_neg h1).symm, fun h1 => by rw [if_neg h]⟩⟩
theorem v_L_toJob :
 ∀ (d : Int × Int × List Int × List Int × Int), Ty.wf jobT d → d.2.2.1.length ≤ (1048576 : Nat) ∧ d.2.2.2.1.length ≤ (1048576 : Nat) → d.2.2.1.length ≤ (1048576 : Nat) ∧ (Ty.wf listT d.2.2.1 → d.2.2.2.1.length ≤ (1048576
 : Nat) ∧ (Ty.wf listT d.2.2.2.1 → d = d)) := by
  intro d hw hp
  exact ⟨hp.1, fun _ => ⟨hp.2, fun _ => rfl⟩⟩
theorem v_L_eqJob :
 ∀ (d : (Int × Int × List Int × List Int × Int) × Int × Int × List Int × List Int × Int), Ty.wf jobT d.1 ∧ Ty.wf jobT d.2 → True → ((!decide (d.1.1 = d.2.1)) = true → false = decide (d.1 = d.2)) ∧ ((!decide (d.1.1 =
 d.2.1)) = false → ((!decide (d.1.2.1 = d.2.2.1)) = true → false = decide (d.1 = d.2)) ∧ ((!decide (d.1.2.1 = d.2.2.1)) = false → True ∧ ((!decide (d.1.2.2.1 = d.2.2.2.1)) = true → false = decide (d.1 = d.2)) ∧ ((!decide
 (d.1.2.2.1 = d.2.2.2.1)) = false → True ∧ ((!decide (d.1.2.2.2.1 = d.2.2.2.2.1)) = true → false = decide (d.1 = d.2)) ∧ ((!decide (d.1.2.2.2.1 = d.2.2.2.2.1)) = false → ((!decide (d.1.2.2.2.2 = d.2.2.2.2.2)) = true →
 false = decide (d.1 = d.2)) ∧ ((!decide (d.1.2.2.2.2 = d.2.2.2.2.2)) = false → true = decide (d.1 = d.2)))))) := by
  intro d _ _
  obtain ⟨⟨a, b, c, e, g⟩, ⟨a', b', c', e', g'⟩⟩ := d
  grind
theorem v_L_eqResultJ :
 ∀ (d : (Int × List Int × List Int) × Int × List Int × List Int), Ty.wf resT2 d.1 ∧ Ty.wf resT2 d.2 → True → ((!decide (d.1.1 = d.2.1)) = true → false = decide (d.1 = d.2)) ∧ ((!decide (d.1.1 = d.2.1)) = false → True ∧
 ((!decide (d.1.2.1 = d.2.2.1)) = true → false = decide (d.1 = d.2)) ∧ ((!decide (d.1.2.1 = d.2.2.1)) = false → True ∧ ((!decide (d.1.2.2 = d.2.2.2)) = true → false = decide (d.1 = d.2)) ∧ ((!decide (d.1.2.2 = d.2.2.2))
 = false → true = decide (d.1 = d.2)))) := by
  intro d _ _
  obtain ⟨⟨a, b, c⟩, ⟨a', b', c'⟩⟩ := d
  grind
theorem v_L_markJob :
 ∀ (d : Int × Int × List Int × List Int × Int) (k : Int), Ty.wf jobT d → IntKind.min IntKind.i64 ≤ k ∧ k ≤ IntKind.max IntKind.i64 → True → (List.length (mark1 d.2.2.1 k) = d.2.2.1.length ∧ List.length (mark1 d.2.2.2.1
 (end1 d.2.2.1 k)) = d.2.2.2.1.length) ∧ True ∧ True ∧ end1 d.2.2.2.1 (end1 d.2.2.1 k) = end1 d.2.2.2.1 (end1 d.2.2.1 k) ∧ mark1 d.2.2.1 k = mark1 d.2.2.1 k ∧ mark1 d.2.2.2.1 (end1 d.2.2.1 k) = mark1 d.2.2.2.1 (end1
 d.2.2.1 k) := by
  intro d k hw hp _
  simp only [Int.toNat_natCast, exists_const, and_true, true_and, implies_true, decide_eq_true_eq, decide_eq_false_iff_not, Bool.not_eq_true', Bool.not_eq_false', beq_iff_eq, forall_const]
  exact ⟨mark1_length _ _, mark1_length _ _⟩
theorem v_L_markResultJ :
 ∀ (d : Int × List Int × List Int) (k : Int), Ty.wf resT2 d → IntKind.min IntKind.i64 ≤ k ∧ k ≤ IntKind.max IntKind.i64 → True → (List.length (mark1 d.2.1 k) = d.2.1.length ∧ List.length (mark1 d.2.2 (end1 d.2.1 k)) =
 d.2.2.length) ∧ True ∧ True ∧ end1 d.2.2 (end1 d.2.1 k) = end1 d.2.2 (end1 d.2.1 k) ∧ mark1 d.2.1 k = mark1 d.2.1 k ∧ mark1 d.2.2 (end1 d.2.1 k) = mark1 d.2.2 (end1 d.2.1 k) := by
  intro d k hw hp _
  simp only [Int.toNat_natCast, exists_const, and_true, true_and, implies_true, decide_eq_true_eq, decide_eq_false_iff_not, Bool.not_eq_true', Bool.not_eq_false', beq_iff_eq, forall_const]
  exact ⟨mark1_length _ _, mark1_length _ _⟩
theorem v_L_heldResultJ :
 ∀ (d : (Int × List Int × List Int) × Int), Ty.wf resT2 d.1 ∧ Ty.wf i64T d.2 → True → True ∧ (Ty.wf i64T (held1 d.1.2.1 d.2) → (decide (held1 d.1.2.1 d.2 < (0 : Int)) = true → (-1 : Int) = heldRs d.1 d.2) ∧ (decide
 (held1 d.1.2.1 d.2 < (0 : Int)) = false → True ∧ (Ty.wf i64T (held1 d.1.2.2 (held1 d.1.2.1 d.2)) → (decide (held1 d.1.2.2 (held1 d.1.2.1 d.2) < (0 : Int)) = true → (-1 : Int) = heldRs d.1 d.2) ∧ (decide (held1 d.1.2.2
 (held1 d.1.2.1 d.2) < (0 : Int)) = false → held1 d.1.2.2 (held1 d.1.2.1 d.2) = heldRs d.1 d.2)))) := by
  intro d hw _
  simp only [Int.toNat_natCast, exists_const, and_true, true_and, implies_true, decide_eq_true_eq, decide_eq_false_iff_not, Bool.not_eq_true', Bool.not_eq_false', beq_iff_eq, forall_const]
  intro _
  unfold heldRs
  refine ⟨fun h => by rw [if_pos h], fun h _ => ⟨fun h1 => ?_, fun h1 => ?_⟩⟩
  · rw [if_neg h]
    generalize held1 d.1.2.2 (held1 d.1.2.1 d.2) = z at *
    unfold neg1; rw [if_pos h1]
  · rw [if_neg h]
    generalize held1 d.1.2.2 (held1 d.1.2.1 d.2) = z at *
    unfold neg1; rw [if_neg h1]
end Go.SF
