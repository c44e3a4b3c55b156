/- Jobs, from the code. No condition. -/
import Derived.Test.YtobmiihdfklmaaaGreatSxPJobC
import Derived.Test.YtobmiihdfklmaaaGreatSxPField
namespace Go.SF
open Go.SX Go
set_option linter.unusedVariables false
set_option linter.unusedSimpArgs false
theorem uses_same {k : Int} (h1 : 1 ≤ k) (h2 : k ≤ 11) : usesBI k = usesBF k := by
  unfold usesBI usesBF
  rw [decide_eq_decide]
  omega
theorem jok_at {k f : Int} {a b : List Int} {c : Int} : jobOkF (k, f, a, b, c) = true ↔ ((1 ≤ k ∧ k ≤ 11) ∧ modF f ≠ 0 ∧ ¬ (k = 6 ∧ f ≠ 0)) ∧ wordsB a = true ∧ wordsB b = true ∧ (0 ≤ c ∧ c ≤ 400) ∧ (usesBF k = true ∨ b.length = 0) ∧ (k = 11 ∨ c = 0) := by
  unfold jobOkF
  simp only [Bool.and_eq_true, Bool.or_eq_true, decide_eq_true_eq]
  constructor
  · rintro ⟨⟨⟨⟨⟨⟨⟨h1, h2⟩, h3⟩, h4⟩, h5⟩, h6⟩, h7⟩, h8⟩; exact ⟨⟨h1, h2, h3⟩, h4, h5, h6, h7, h8⟩
  · rintro ⟨⟨h1, h2, h3⟩, h4, h5, h6, h7, h8⟩; exact ⟨⟨⟨⟨⟨⟨⟨h1, h2⟩, h3⟩, h4⟩, h5⟩, h6⟩, h7⟩, h8⟩
theorem jok_no {k f : Int} {a b : List Int} {c : Int} (h : ¬ (((1 ≤ k ∧ k ≤ 11) ∧ modF f ≠ 0 ∧ ¬ (k = 6 ∧ f ≠ 0)) ∧ wordsB a = true ∧ wordsB b = true ∧ (0 ≤ c ∧ c ≤ 400) ∧ (usesBF k = true ∨ b.length = 0) ∧ (k = 11 ∨ c = 0))) : false = jobOkF (k, f, a, b, c) := by
  cases e : jobOkF (k, f, a, b, c)
  · rfl
  · exact absurd (jok_at.1 e) h
theorem jok_dec {k f : Int} {a b : List Int} {c : Int} {Q : Prop} [Decidable Q] (h : Q ↔ (((1 ≤ k ∧ k ≤ 11) ∧ modF f ≠ 0 ∧ ¬ (k = 6 ∧ f ≠ 0)) ∧ wordsB a = true ∧ wordsB b = true ∧ (0 ≤ c ∧ c ≤ 400) ∧ (usesBF k = true ∨ b.length = 0) ∧ (k = 11 ∨ c = 0))) : decide Q = jobOkF (k, f, a, b, c) := by
  cases e : jobOkF (k, f, a, b, c)
  · rw [decide_eq_false_iff_not]; intro hQ; rw [jok_at.2 (h.1 hQ)] at e; cases e
  · rw [decide_eq_true_eq]; exact h.2 (jok_at.1 e)
theorem jok_true {k f : Int} {a b : List Int} {c : Int} (h : ((1 ≤ k ∧ k ≤ 11) ∧ modF f ≠ 0 ∧ ¬ (k = 6 ∧ f ≠ 0)) ∧ wordsB a = true ∧ wordsB b = true ∧ (0 ≤ c ∧ c ≤ 400) ∧ (usesBF k = true ∨ b.length = 0) ∧ (k = 11 ∨ c = 0)) : true = jobOkF (k, f, a, b, c) := (jok_at.2 h).symm
theorem fld_ok {f : Int} : (fieldF f).2 = true ↔ modF f ≠ 0 := by
  rw [field_ok]
  refine ⟨fun h => ?_, fun h => (mod_is h).2⟩
  have := mod_pos h
  omega
theorem v_S_l10UsesB :
 ∀ (d : Int), Ty.wf i64T d → True → True ∧ hasF [(3 : Int), (4 : Int), (5 : Int), (6 : Int), (8 : Int), (9 : Int), (10 : Int), (11 : Int)] d = usesBF d := by
  intro d hw hp
  simp only [Int.toNat_natCast, exists_const, and_true, true_and, implies_true, decide_eq_true_eq, decide_eq_false_iff_not, Bool.not_eq_true', Bool.not_eq_false', beq_iff_eq, forall_const]
  unfold usesBF
  unfold hasF
  rw [decide_eq_decide]
  simp only [List.mem_cons, List.not_mem_nil, or_false]
theorem v_I_usesB :
 ∀ (d : Int), Ty.wf i64T d → True → ((!decide (d = (1 : Int))) = true → ((!decide (d = (2 : Int))) = true → (!decide (d = (7 : Int))) = usesBI d) ∧ ((!decide (d = (2 : Int))) = false → false = usesBI d)) ∧ ((!decide (d =
 (1 : Int))) = false → false = usesBI d) := by
  intro d hw hp
  simp only [Int.toNat_natCast, exists_const, and_true, true_and, implies_true, decide_eq_true_eq, decide_eq_false_iff_not, Bool.not_eq_true', Bool.not_eq_false', beq_iff_eq, forall_const]
  unfold usesBI
  refine ⟨fun h1 => ⟨fun h2 => ?_, fun h2 => ?_⟩, fun h1 => ?_⟩
  · by_cases h : d = 7 <;> simp [h, h1, h2]
  · simp [h2]
  · simp [h1]
theorem v_I_isJob :
 ∀ (d : Int × Int × List Int × List Int × Int), Ty.wf jobT d → True → True ∧ (Ty.wf fldT (Prod.fst (fieldF d.2.1)) ∧ Ty.wf Ty.bool (Prod.snd (fieldF d.2.1)) → ((!Prod.snd (fieldF d.2.1)) = true → false = jobOkF d) ∧
 ((!Prod.snd (fieldF d.2.1)) = false → (decide (d.1 < (1 : Int)) = true → false = jobOkF d) ∧ (decide (d.1 < (1 : Int)) = false → (decide ((11 : Int) < d.1) = true → false = jobOkF d) ∧ (decide ((11 : Int) < d.1) = false
 → (decide (d.1 = (6 : Int)) = true → ((!decide (d.2.1 = (0 : Int))) = true → false = jobOkF d) ∧ ((!decide (d.2.1 = (0 : Int))) = false → True ∧ ((!wordsB d.2.2.1) = true → false = jobOkF d) ∧ ((!wordsB d.2.2.1) = false
 → True ∧ ((!wordsB d.2.2.2.1) = true → false = jobOkF d) ∧ ((!wordsB d.2.2.2.1) = false → (decide (d.2.2.2.2 < (0 : Int)) = true → false = jobOkF d) ∧ (decide (d.2.2.2.2 < (0 : Int)) = false → (decide ((400 : Int) <
 d.2.2.2.2) = true → false = jobOkF d) ∧ (decide ((400 : Int) < d.2.2.2.2) = false → True ∧ (usesBI d.1 = true → (decide (d.1 = (11 : Int)) = true → true = jobOkF d) ∧ (decide (d.1 = (11 : Int)) = false → decide
 (d.2.2.2.2 = (0 : Int)) = jobOkF d)) ∧ (usesBI d.1 = false → (decide ((↑d.2.2.2.1.length : Int) = (0 : Int)) = true → (decide (d.1 = (11 : Int)) = true → true = jobOkF d) ∧ (decide (d.1 = (11 : Int)) = false → decide
 (d.2.2.2.2 = (0 : Int)) = jobOkF d)) ∧ (decide ((↑d.2.2.2.1.length : Int) = (0 : Int)) = false → false = jobOkF d)))))))) ∧ (decide (d.1 = (6 : Int)) = false → True ∧ ((!wordsB d.2.2.1) = true → false = jobOkF d) ∧
 ((!wordsB d.2.2.1) = false → True ∧ ((!wordsB d.2.2.2.1) = true → false = jobOkF d) ∧ ((!wordsB d.2.2.2.1) = false → (decide (d.2.2.2.2 < (0 : Int)) = true → false = jobOkF d) ∧ (decide (d.2.2.2.2 < (0 : Int)) = false →
 (decide ((400 : Int) < d.2.2.2.2) = true → false = jobOkF d) ∧ (decide ((400 : Int) < d.2.2.2.2) = false → True ∧ (usesBI d.1 = true → (decide (d.1 = (11 : Int)) = true → true = jobOkF d) ∧ (decide (d.1 = (11 : Int)) =
 false → decide (d.2.2.2.2 = (0 : Int)) = jobOkF d)) ∧ (usesBI d.1 = false → (decide ((↑d.2.2.2.1.length : Int) = (0 : Int)) = true → (decide (d.1 = (11 : Int)) = true → true = jobOkF d) ∧ (decide (d.1 = (11 : Int)) =
 false → decide (d.2.2.2.2 = (0 : Int)) = jobOkF d)) ∧ (decide ((↑d.2.2.2.1.length : Int) = (0 : Int)) = false → false = jobOkF d))))))))))) := by
  intro d hw hp
  obtain ⟨k, f, a, b, c⟩ := d
  simp only [Int.toNat_natCast, exists_const, and_true, true_and, implies_true, decide_eq_true_eq, decide_eq_false_iff_not, Bool.not_eq_true', Bool.not_eq_false', beq_iff_eq, forall_const]
  intro _
  have e : ¬ (fieldF f).2 = true ↔ modF f = 0 := by rw [fld_ok]; exact Classical.not_not
  refine ⟨fun h => jok_no (fun hh => hh.1.2.1 (e.1 (by rw [h]; decide))), fun h => ?_⟩
  have hm := fld_ok.1 h
  refine ⟨fun h => jok_no (by omega), fun h1 => ⟨fun h => jok_no (by omega), fun h2 => ?_⟩⟩
  have hu := uses_same (k := k) (by omega) (by omega)
  rw [hu]
  have T : (¬ (k = 6 ∧ f ≠ 0)) → (wordsB a = false → false = jobOkF (k, f, a, b, c)) ∧
                      (wordsB a = true →
                        (wordsB b = false → false = jobOkF (k, f, a, b, c)) ∧
                          (wordsB b = true →
                            (c < 0 → false = jobOkF (k, f, a, b, c)) ∧
                              (¬c < 0 →
                                (400 < c → false = jobOkF (k, f, a, b, c)) ∧
                                  (¬400 < c →
                                    (usesBF k = true →
                                        (k = 11 → true = jobOkF (k, f, a, b, c)) ∧
                                          (¬k = 11 → decide (c = 0) = jobOkF (k, f, a, b, c))) ∧
                                      (usesBF k = false →
                                        ((b.length : Int) = 0 →
                                            (k = 11 → true = jobOkF (k, f, a, b, c)) ∧
                                              (¬k = 11 → decide (c = 0) = jobOkF (k, f, a, b, c))) ∧
                                          (¬(b.length : Int) = 0 → false = jobOkF (k, f, a, b, c))))))) := by
    intro h6
    refine ⟨fun h => jok_no (by simp [h]), fun ha => ⟨fun h => jok_no (by simp [h]), fun hb => ⟨fun h => jok_no (by omega), fun h3 => ⟨fun h => jok_no (by omega), fun h4 => ?_⟩⟩⟩⟩
    have go : usesBF k = true ∨ b.length = 0 → (k = 11 → true = jobOkF (k, f, a, b, c)) ∧ (¬k = 11 → decide (c = 0) = jobOkF (k, f, a, b, c)) := fun hx =>
      ⟨fun h => jok_true ⟨⟨⟨by omega, by omega⟩, hm, h6⟩, ha, hb, ⟨by omega, by omega⟩, hx, Or.inl h⟩,
       fun h => jok_dec ⟨fun hc => ⟨⟨⟨by omega, by omega⟩, hm, h6⟩, ha, hb, ⟨by omega, by omega⟩, hx, Or.inr hc⟩, fun hh => by rcases hh.2.2.2.2.2 with h7 | h7; exact absurd h7 h; exact h7⟩⟩
    refine ⟨fun h => go (Or.inl h), fun h => ⟨fun h5 => go (Or.inr (by omega)), fun h5 => jok_no (fun hh => ?_)⟩⟩
    rcases hh.2.2.2.2.1 with h7 | h7
    · rw [h] at h7; cases h7
    · omega
  exact ⟨fun h => ⟨fun h0 => jok_no (fun hh => hh.1.2.2 ⟨h, h0⟩), fun h0 => T (fun hh => hh.2 h0)⟩, fun h => T (fun hh => h hh.1)⟩
end Go.SF
