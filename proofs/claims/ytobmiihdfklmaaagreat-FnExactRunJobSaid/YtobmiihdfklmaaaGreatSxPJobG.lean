/- Running a job, from the code. No condition. -/
import Derived.Test.YtobmiihdfklmaaaGreatSxPJobF
import Derived.Test.YtobmiihdfklmaaaGreatSxPTrfC
namespace Go.SF
open Go.SX Go
set_option linter.unusedVariables false
set_option linter.unusedSimpArgs false
theorem two_same (f : Int) (a b : List Int) : (vecsF f [a, b]).2 = twoVF f a b := by
  have h : vecsB f [a, b] = twoVF f a b := by
    rw [Bool.eq_iff_iff]
    unfold vecsB twoVF
    simp only [decide_eq_true_eq, Bool.and_eq_true, List.getD_cons_zero]
    constructor
    · intro h
      have h1 := h a (List.mem_cons_self ..)
      have h2 := h b (List.mem_cons_of_mem _ (List.mem_cons_self ..))
      exact ⟨⟨h2.2.symm, h1.1⟩, h2.1⟩
    · rintro ⟨⟨h1, h2⟩, h3⟩ v hv
      rcases List.mem_cons.1 hv with h4 | h4
      · rw [h4]; exact ⟨h2, rfl⟩
      · rw [List.mem_singleton.1 h4]; exact ⟨h3, h1.symm⟩
  unfold vecsF
  rw [← h]
  cases vecsB f [a, b] <;> rfl
theorem mk_n {k : Bool} {o m : List Int} (h : k = false) : mk3 k o m = (2, [], []) := by rw [h]; rfl
theorem mk_y {k : Bool} {o m : List Int} (h : k = true) : mk3 k o m = (0, o, m) := by rw [h]; rfl
theorem rj_no {k f : Int} {a b : List Int} {c : Int} (h : jobOkF (k, f, a, b, c) = false) : (1, [], []) = runJobF (k, f, a, b, c) := by
  unfold runJobF; rw [if_neg (by rw [h]; decide)]
theorem rj1 {f : Int} {a b : List Int} {c : Int} (h : jobOkF (1, f, a, b, c) = true) : runJobF (1, f, a, b, c) = mk3 (vectorOkF f a) (fwdF f a) [] := by unfold runJobF; rw [if_pos h]; rfl
theorem rj2 {f : Int} {a b : List Int} {c : Int} (h : jobOkF (2, f, a, b, c) = true) : runJobF (2, f, a, b, c) = mk3 (vectorOkF f a) (backF f a) [] := by unfold runJobF; rw [if_pos h]; rfl
theorem rj3 {f : Int} {a b : List Int} {c : Int} (h : jobOkF (3, f, a, b, c) = true) : runJobF (3, f, a, b, c) = mk3 (twoVF f a b) (cycF f a b) [] := by unfold runJobF; rw [if_pos h]; rfl
theorem rj4 {f : Int} {a b : List Int} {c : Int} (h : jobOkF (4, f, a, b, c) = true) : runJobF (4, f, a, b, c) = mk3 (twoVF f a b) (twstF f a b) [] := by unfold runJobF; rw [if_pos h]; rfl
theorem rj5 {f : Int} {a b : List Int} {c : Int} (h : jobOkF (5, f, a, b, c) = true) : runJobF (5, f, a, b, c) = mk3 (mulPF f a b).2 (mulPF f a b).1 [] := by unfold runJobF; rw [if_pos h]; rfl
theorem rj6 {f : Int} {a b : List Int} {c : Int} (h : jobOkF (6, f, a, b, c) = true) : runJobF (6, f, a, b, c) = mk3 (convXF a b).2 (convXF a b).1 [] := by unfold runJobF; rw [if_pos h]; rfl
theorem rj7 {f : Int} {a b : List Int} {c : Int} (h : jobOkF (7, f, a, b, c) = true) : runJobF (7, f, a, b, c) = mk3 (serInvF f a).2 (serInvF f a).1 [] := by unfold runJobF; rw [if_pos h]; rfl
theorem rj8 {f : Int} {a b : List Int} {c : Int} (h : jobOkF (8, f, a, b, c) = true) : runJobF (8, f, a, b, c) = mk3 (evOkF f a b) (evManyJ f a b) [] := by unfold runJobF; rw [if_pos h]; rfl
theorem rj9 {f : Int} {a b : List Int} {c : Int} (h : jobOkF (9, f, a, b, c) = true) : runJobF (9, f, a, b, c) = mk3 (interF f a b).2 (interF f a b).1 [] := by unfold runJobF; rw [if_pos h]; rfl
theorem rj10 {f : Int} {a b : List Int} {c : Int} (h : jobOkF (10, f, a, b, c) = true) : runJobF (10, f, a, b, c) = mk3 (divModF f a b).2.2 (divModF f a b).1 (divModF f a b).2.1 := by unfold runJobF; rw [if_pos h]; rfl
theorem rj11 {f : Int} {a b : List Int} {c : Int} (h : jobOkF (11, f, a, b, c) = true) : runJobF (11, f, a, b, c) = mk3 (decF f a b c).2.2 (decF f a b c).1 [(decF f a b c).2.1] := by unfold runJobF; rw [if_pos h]; rfl
theorem ev_same (f : Int) (a b : List Int) : evMR f a b = evManyJ f a b := rfl
theorem evj_no {f : Int} {a b : List Int} (h : evOkF f a b = false) : evManyJ f a b = [] := by unfold evManyJ; rw [if_neg (by rw [h]; decide)]
theorem evj_len {f : Int} {a b : List Int} (h : evOkF f a b = true) : (evManyJ f a b).length = b.length := by unfold evManyJ; rw [if_pos h, evM_len]
theorem ev_ok {f : Int} {a b : List Int} : evOkF f a b = true ↔ polyB f a = true ∧ b.length ≤ 40 ∧ specElemsF f b = true := by
  unfold evOkF
  simp only [Bool.and_eq_true, decide_eq_true_eq]
  exact ⟨fun h => ⟨h.1.1, h.1.2, h.2⟩, fun h => ⟨⟨h.1, h.2.1⟩, h.2.2⟩⟩
theorem ev_bad {f : Int} {a b : List Int} (h : ¬ (polyB f a = true ∧ b.length ≤ 40 ∧ specElemsF f b = true)) : evOkF f a b = false := by
  cases e : evOkF f a b
  · rfl
  · exact absurd (ev_ok.1 e) h
theorem rj_none {k f : Int} {a b : List Int} {c : Int} (h : jobOkF (k, f, a, b, c) = true) (h1 : ¬ k = 1) (h2 : ¬ k = 2) (h3 : ¬ k = 3) (h4 : ¬ k = 4) (h5 : ¬ k = 5) (h6 : ¬ k = 6) (h7 : ¬ k = 7) (h8 : ¬ k = 8) (h9 : ¬ k = 9) (h10 : ¬ k = 10) (h11 : ¬ k = 11) : False := by
  have := (jok_at.1 h).1.1
  omega
theorem v_I_RunJob :
 ∀ (d : Int × Int × List Int × List Int × Int), Ty.wf jobT d → True → True ∧ (Ty.wf resT2 (runJobF d) → runJobF d = runJobF d) := by
  intro d hw hp
  simp only [Int.toNat_natCast, exists_const, and_true, true_and, implies_true, decide_eq_true_eq, decide_eq_false_iff_not, Bool.not_eq_true', Bool.not_eq_false', beq_iff_eq, forall_const]
theorem v_I_runJob :
 ∀ (d : Int × Int × List Int × List Int × Int), Ty.wf jobT d → True → True ∧ ((!jobOkF d) = true → ((1 : Int), [], []) = runJobF d) ∧ ((!jobOkF d) = false → (decide (d.1 = (1 : Int)) = true → True ∧ (Ty.wf listT (fwdF
 d.2.1 d.2.2.1) → True ∧ ((!vectorOkF d.2.1 d.2.2.1) = true → ((2 : Int), [], []) = runJobF d) ∧ ((!vectorOkF d.2.1 d.2.2.1) = false → ((0 : Int), fwdF d.2.1 d.2.2.1, []) = runJobF d))) ∧ (decide (d.1 = (1 : Int)) =
 false → (decide (d.1 = (2 : Int)) = true → True ∧ (Ty.wf listT (backF d.2.1 d.2.2.1) → True ∧ ((!vectorOkF d.2.1 d.2.2.1) = true → ((2 : Int), [], []) = runJobF d) ∧ ((!vectorOkF d.2.1 d.2.2.1) = false → ((0 : Int),
 backF d.2.1 d.2.2.1, []) = runJobF d))) ∧ (decide (d.1 = (2 : Int)) = false → (decide (d.1 = (3 : Int)) = true → True ∧ (Ty.wf listT (cycF d.2.1 d.2.2.1 d.2.2.2.1) → List.length [d.2.2.1, d.2.2.2.1] = (2 : Nat) ∧ (Ty.wf
 fldT (Prod.fst (vecsF d.2.1 [d.2.2.1, d.2.2.2.1])) ∧ Ty.wf Ty.bool (Prod.snd (vecsF d.2.1 [d.2.2.1, d.2.2.2.1])) → ((!Prod.snd (vecsF d.2.1 [d.2.2.1, d.2.2.2.1])) = true → ((2 : Int), [], []) = runJobF d) ∧ ((!Prod.snd
 (vecsF d.2.1 [d.2.2.1, d.2.2.2.1])) = false → ((0 : Int), cycF d.2.1 d.2.2.1 d.2.2.2.1, []) = runJobF d)))) ∧ (decide (d.1 = (3 : Int)) = false → (decide (d.1 = (4 : Int)) = true → True ∧ (Ty.wf listT (twstF d.2.1
 d.2.2.1 d.2.2.2.1) → List.length [d.2.2.1, d.2.2.2.1] = (2 : Nat) ∧ (Ty.wf fldT (Prod.fst (vecsF d.2.1 [d.2.2.1, d.2.2.2.1])) ∧ Ty.wf Ty.bool (Prod.snd (vecsF d.2.1 [d.2.2.1, d.2.2.2.1])) → ((!Prod.snd (vecsF d.2.1
 [d.2.2.1, d.2.2.2.1])) = true → ((2 : Int), [], []) = runJobF d) ∧ ((!Prod.snd (vecsF d.2.1 [d.2.2.1, d.2.2.2.1])) = false → ((0 : Int), twstF d.2.1 d.2.2.1 d.2.2.2.1, []) = runJobF d)))) ∧ (decide (d.1 = (4 : Int)) =
 false → (decide (d.1 = (5 : Int)) = true → True ∧ (Ty.wf listT (Prod.fst (mulPF d.2.1 d.2.2.1 d.2.2.2.1)) ∧ Ty.wf Ty.bool (Prod.snd (mulPF d.2.1 d.2.2.1 d.2.2.2.1)) → ((!Prod.snd (mulPF d.2.1 d.2.2.1 d.2.2.2.1)) = true
 → ((2 : Int), [], []) = runJobF d) ∧ ((!Prod.snd (mulPF d.2.1 d.2.2.1 d.2.2.2.1)) = false → ((0 : Int), Prod.fst (mulPF d.2.1 d.2.2.1 d.2.2.2.1), []) = runJobF d))) ∧ (decide (d.1 = (5 : Int)) = false → (decide (d.1 =
 (6 : Int)) = true → True ∧ (Ty.wf listT (Prod.fst (convXF d.2.2.1 d.2.2.2.1)) ∧ Ty.wf Ty.bool (Prod.snd (convXF d.2.2.1 d.2.2.2.1)) → ((!Prod.snd (convXF d.2.2.1 d.2.2.2.1)) = true → ((2 : Int), [], []) = runJobF d) ∧
 ((!Prod.snd (convXF d.2.2.1 d.2.2.2.1)) = false → ((0 : Int), Prod.fst (convXF d.2.2.1 d.2.2.2.1), []) = runJobF d))) ∧ (decide (d.1 = (6 : Int)) = false → (decide (d.1 = (7 : Int)) = true → True ∧ (Ty.wf listT
 (Prod.fst (serInvF d.2.1 d.2.2.1)) ∧ Ty.wf Ty.bool (Prod.snd (serInvF d.2.1 d.2.2.1)) → ((!Prod.snd (serInvF d.2.1 d.2.2.1)) = true → ((2 : Int), [], []) = runJobF d) ∧ ((!Prod.snd (serInvF d.2.1 d.2.2.1)) = false → ((0
 : Int), Prod.fst (serInvF d.2.1 d.2.2.1), []) = runJobF d))) ∧ (decide (d.1 = (7 : Int)) = false → (decide (d.1 = (8 : Int)) = true → True ∧ (Ty.wf listT (evMR d.2.1 d.2.2.1 d.2.2.2.1) → (decide ((↑d.2.2.2.1.length :
 Int) = (0 : Int)) = true → True ∧ (polyB d.2.1 d.2.2.1 = true → ((0 : Int), evMR d.2.1 d.2.2.1 d.2.2.2.1, []) = runJobF d) ∧ (polyB d.2.1 d.2.2.1 = false → ((!decide ((0 : Int) < (↑(List.length (evMR d.2.1 d.2.2.1
 d.2.2.2.1)) : Int))) = true → ((2 : Int), [], []) = runJobF d) ∧ ((!decide ((0 : Int) < (↑(List.length (evMR d.2.1 d.2.2.1 d.2.2.2.1)) : Int))) = false → ((0 : Int), evMR d.2.1 d.2.2.1 d.2.2.2.1, []) = runJobF d))) ∧
 (decide ((↑d.2.2.2.1.length : Int) = (0 : Int)) = false → ((!decide ((0 : Int) < (↑(List.length (evMR d.2.1 d.2.2.1 d.2.2.2.1)) : Int))) = true → ((2 : Int), [], []) = runJobF d) ∧ ((!decide ((0 : Int) < (↑(List.length
 (evMR d.2.1 d.2.2.1 d.2.2.2.1)) : Int))) = false → ((0 : Int), evMR d.2.1 d.2.2.1 d.2.2.2.1, []) = runJobF d)))) ∧ (decide (d.1 = (8 : Int)) = false → (decide (d.1 = (9 : Int)) = true → True ∧ (Ty.wf listT (Prod.fst
 (interF d.2.1 d.2.2.1 d.2.2.2.1)) ∧ Ty.wf Ty.bool (Prod.snd (interF d.2.1 d.2.2.1 d.2.2.2.1)) → ((!Prod.snd (interF d.2.1 d.2.2.1 d.2.2.2.1)) = true → ((2 : Int), [], []) = runJobF d) ∧ ((!Prod.snd (interF d.2.1 d.2.2.1
 d.2.2.2.1)) = false → ((0 : Int), Prod.fst (interF d.2.1 d.2.2.1 d.2.2.2.1), []) = runJobF d))) ∧ (decide (d.1 = (9 : Int)) = false → (decide (d.1 = (10 : Int)) = true → True ∧ (Ty.wf listT (Prod.fst (divModF d.2.1
 d.2.2.1 d.2.2.2.1)) ∧ Ty.wf listT (Prod.fst (Prod.snd (divModF d.2.1 d.2.2.1 d.2.2.2.1))) ∧ Ty.wf Ty.bool (Prod.snd (Prod.snd (divModF d.2.1 d.2.2.1 d.2.2.2.1))) → ((!Prod.snd (Prod.snd (divModF d.2.1 d.2.2.1
 d.2.2.2.1))) = true → ((2 : Int), [], []) = runJobF d) ∧ ((!Prod.snd (Prod.snd (divModF d.2.1 d.2.2.1 d.2.2.2.1))) = false → ((0 : Int), Prod.fst (divModF d.2.1 d.2.2.1 d.2.2.2.1), Prod.fst (Prod.snd (divModF d.2.1
 d.2.2.1 d.2.2.2.1))) = runJobF d))) ∧ (decide (d.1 = (10 : Int)) = false → (decide (d.1 = (11 : Int)) = true → True ∧ (Ty.wf listT (Prod.fst (decF d.2.1 d.2.2.1 d.2.2.2.1 d.2.2.2.2)) ∧ Ty.wf i64T (Prod.fst (Prod.snd
 (decF d.2.1 d.2.2.1 d.2.2.2.1 d.2.2.2.2))) ∧ Ty.wf Ty.bool (Prod.snd (Prod.snd (decF d.2.1 d.2.2.1 d.2.2.2.1 d.2.2.2.2))) → ((!Prod.snd (Prod.snd (decF d.2.1 d.2.2.1 d.2.2.2.1 d.2.2.2.2))) = true → ((2 : Int), [], []) =
 runJobF d) ∧ ((!Prod.snd (Prod.snd (decF d.2.1 d.2.2.1 d.2.2.2.1 d.2.2.2.2))) = false → ((0 : Int), Prod.fst (decF d.2.1 d.2.2.1 d.2.2.2.1 d.2.2.2.2), [Prod.fst (Prod.snd (decF d.2.1 d.2.2.1 d.2.2.2.1 d.2.2.2.2))]) =
 runJobF d))) ∧ (decide (d.1 = (11 : Int)) = false → ((0 : Int), [], []) = runJobF d)))))))))))) := by
  intro (d : Int × Int × List Int × List Int × Int) hw hp
  obtain ⟨k, f, a, b, c⟩ := d
  simp only [Int.toNat_natCast, exists_const, and_true, true_and, implies_true, decide_eq_true_eq, decide_eq_false_iff_not, Bool.not_eq_true', Bool.not_eq_false', beq_iff_eq, forall_const]
  rw [two_same, ev_same]
  refine ⟨rj_no, fun hj => ⟨?_, fun h1 => ⟨?_, fun h2 => ⟨?_, fun h3 => ⟨?_, fun h4 => ⟨?_, fun h5 => ⟨?_, fun h6 => ⟨?_, fun h7 => ⟨?_, fun h8 => ⟨?_, fun h9 => ⟨?_, fun h10 => ⟨?_, fun h11 => (rj_none hj h1 h2 h3 h4 h5 h6 h7 h8 h9 h10 h11).elim⟩⟩⟩⟩⟩⟩⟩⟩⟩⟩⟩⟩
  · rintro rfl _; rw [rj1 hj]; exact ⟨fun h => (mk_n h).symm, fun h => (mk_y h).symm⟩
  · rintro rfl _; rw [rj2 hj]; exact ⟨fun h => (mk_n h).symm, fun h => (mk_y h).symm⟩
  · rintro rfl _; rw [rj3 hj]; exact ⟨rfl, fun _ => ⟨fun h => (mk_n h).symm, fun h => (mk_y h).symm⟩⟩
  · rintro rfl _; rw [rj4 hj]; exact ⟨rfl, fun _ => ⟨fun h => (mk_n h).symm, fun h => (mk_y h).symm⟩⟩
  · rintro rfl _; rw [rj5 hj]; exact ⟨fun h => (mk_n h).symm, fun h => (mk_y h).symm⟩
  · rintro rfl _; rw [rj6 hj]; exact ⟨fun h => (mk_n h).symm, fun h => (mk_y h).symm⟩
  · rintro rfl _; rw [rj7 hj]; exact ⟨fun h => (mk_n h).symm, fun h => (mk_y h).symm⟩
  · rintro rfl _
    rw [rj8 hj]
    cases e : evOkF f a b
    · rw [evj_no e]
      have he : ∀ x : evOkF f a b = true, False := fun x => by rw [e] at x; cases x
      refine ⟨fun hb => ⟨fun hp => (he (ev_ok.2 ⟨hp, by omega, ?_⟩)).elim, fun _ => ⟨fun _ => rfl, fun h => by simp at h⟩⟩, fun hb => ⟨fun _ => rfl, fun h => by simp at h⟩⟩
      have hb0 : b = [] := List.eq_nil_of_length_eq_zero (by omega)
      rw [hb0]
      exact spec_of (poly_ok hp).1 (by unfold elemsF; simp)
    · rw [evj_len e]
      have hk := ev_ok.1 e
      refine ⟨fun hb => ⟨fun _ => rfl, fun h => by rw [hk.1] at h; cases h⟩, fun hb => ⟨fun h => by omega, fun _ => rfl⟩⟩
  · rintro rfl _; rw [rj9 hj]; exact ⟨fun h => (mk_n h).symm, fun h => (mk_y h).symm⟩
  · rintro rfl _; rw [rj10 hj]; exact ⟨fun h => (mk_n h).symm, fun h => (mk_y h).symm⟩
  · rintro rfl _; rw [rj11 hj]; exact ⟨fun h => (mk_n h).symm, fun h => (mk_y h).symm⟩
theorem v_S_RunJob :
 ∀ (d : Int × Int × List Int × List Int × Int), Ty.wf jobT d → True → True ∧ ((!jobOkF d) = true → ((1 : Int), [], []) = runJobF d) ∧ ((!jobOkF d) = false → (decide (d.1 = (1 : Int)) = true → True ∧ True ∧ (Ty.wf listT
 (fwdF d.2.1 d.2.2.1) → ((!vectorOkF d.2.1 d.2.2.1) = true → ((2 : Int), [], []) = runJobF d) ∧ ((!vectorOkF d.2.1 d.2.2.1) = false → ((0 : Int), fwdF d.2.1 d.2.2.1, []) = runJobF d))) ∧ (decide (d.1 = (1 : Int)) = false
 → (decide (d.1 = (2 : Int)) = true → True ∧ True ∧ (Ty.wf listT (backF d.2.1 d.2.2.1) → ((!vectorOkF d.2.1 d.2.2.1) = true → ((2 : Int), [], []) = runJobF d) ∧ ((!vectorOkF d.2.1 d.2.2.1) = false → ((0 : Int), backF
 d.2.1 d.2.2.1, []) = runJobF d))) ∧ (decide (d.1 = (2 : Int)) = false → (decide (d.1 = (3 : Int)) = true → True ∧ True ∧ (Ty.wf listT (cycF d.2.1 d.2.2.1 d.2.2.2.1) → ((!twoVF d.2.1 d.2.2.1 d.2.2.2.1) = true → ((2 :
 Int), [], []) = runJobF d) ∧ ((!twoVF d.2.1 d.2.2.1 d.2.2.2.1) = false → ((0 : Int), cycF d.2.1 d.2.2.1 d.2.2.2.1, []) = runJobF d))) ∧ (decide (d.1 = (3 : Int)) = false → (decide (d.1 = (4 : Int)) = true → True ∧ True
 ∧ (Ty.wf listT (twstF d.2.1 d.2.2.1 d.2.2.2.1) → ((!twoVF d.2.1 d.2.2.1 d.2.2.2.1) = true → ((2 : Int), [], []) = runJobF d) ∧ ((!twoVF d.2.1 d.2.2.1 d.2.2.2.1) = false → ((0 : Int), twstF d.2.1 d.2.2.1 d.2.2.2.1, []) =
 runJobF d))) ∧ (decide (d.1 = (4 : Int)) = false → (decide (d.1 = (5 : Int)) = true → True ∧ (Ty.wf listT (Prod.fst (mulPF d.2.1 d.2.2.1 d.2.2.2.1)) ∧ Ty.wf Ty.bool (Prod.snd (mulPF d.2.1 d.2.2.1 d.2.2.2.1)) →
 ((!Prod.snd (mulPF d.2.1 d.2.2.1 d.2.2.2.1)) = true → ((2 : Int), [], []) = runJobF d) ∧ ((!Prod.snd (mulPF d.2.1 d.2.2.1 d.2.2.2.1)) = false → ((0 : Int), Prod.fst (mulPF d.2.1 d.2.2.1 d.2.2.2.1), []) = runJobF d))) ∧
 (decide (d.1 = (5 : Int)) = false → (decide (d.1 = (6 : Int)) = true → True ∧ (Ty.wf listT (Prod.fst (convXF d.2.2.1 d.2.2.2.1)) ∧ Ty.wf Ty.bool (Prod.snd (convXF d.2.2.1 d.2.2.2.1)) → ((!Prod.snd (convXF d.2.2.1
 d.2.2.2.1)) = true → ((2 : Int), [], []) = runJobF d) ∧ ((!Prod.snd (convXF d.2.2.1 d.2.2.2.1)) = false → ((0 : Int), Prod.fst (convXF d.2.2.1 d.2.2.2.1), []) = runJobF d))) ∧ (decide (d.1 = (6 : Int)) = false → (decide
 (d.1 = (7 : Int)) = true → True ∧ (Ty.wf listT (Prod.fst (serInvF d.2.1 d.2.2.1)) ∧ Ty.wf Ty.bool (Prod.snd (serInvF d.2.1 d.2.2.1)) → ((!Prod.snd (serInvF d.2.1 d.2.2.1)) = true → ((2 : Int), [], []) = runJobF d) ∧
 ((!Prod.snd (serInvF d.2.1 d.2.2.1)) = false → ((0 : Int), Prod.fst (serInvF d.2.1 d.2.2.1), []) = runJobF d))) ∧ (decide (d.1 = (7 : Int)) = false → (decide (d.1 = (8 : Int)) = true → True ∧ (polyB d.2.1 d.2.2.1 = true
 → (decide ((↑d.2.2.2.1.length : Int) ≤ (40 : Int)) = true → True ∧ True ∧ (Ty.wf listT (evManyJ d.2.1 d.2.2.1 d.2.2.2.1) → ((!specElemsF d.2.1 d.2.2.2.1) = true → ((2 : Int), [], []) = runJobF d) ∧ ((!specElemsF d.2.1
 d.2.2.2.1) = false → ((0 : Int), evManyJ d.2.1 d.2.2.1 d.2.2.2.1, []) = runJobF d))) ∧ (decide ((↑d.2.2.2.1.length : Int) ≤ (40 : Int)) = false → True ∧ (Ty.wf listT (evManyJ d.2.1 d.2.2.1 d.2.2.2.1) → ((2 : Int), [],
 []) = runJobF d))) ∧ (polyB d.2.1 d.2.2.1 = false → True ∧ (Ty.wf listT (evManyJ d.2.1 d.2.2.1 d.2.2.2.1) → ((2 : Int), [], []) = runJobF d))) ∧ (decide (d.1 = (8 : Int)) = false → (decide (d.1 = (9 : Int)) = true →
 True ∧ (Ty.wf listT (Prod.fst (interF d.2.1 d.2.2.1 d.2.2.2.1)) ∧ Ty.wf Ty.bool (Prod.snd (interF d.2.1 d.2.2.1 d.2.2.2.1)) → ((!Prod.snd (interF d.2.1 d.2.2.1 d.2.2.2.1)) = true → ((2 : Int), [], []) = runJobF d) ∧
 ((!Prod.snd (interF d.2.1 d.2.2.1 d.2.2.2.1)) = false → ((0 : Int), Prod.fst (interF d.2.1 d.2.2.1 d.2.2.2.1), []) = runJobF d))) ∧ (decide (d.1 = (9 : Int)) = false → (decide (d.1 = (10 : Int)) = true → True ∧ (Ty.wf
 listT (Prod.fst (divModF d.2.1 d.2.2.1 d.2.2.2.1)) ∧ Ty.wf listT (Prod.fst (Prod.snd (divModF d.2.1 d.2.2.1 d.2.2.2.1))) ∧ Ty.wf Ty.bool (Prod.snd (Prod.snd (divModF d.2.1 d.2.2.1 d.2.2.2.1))) → ((!Prod.snd (Prod.snd
 (divModF d.2.1 d.2.2.1 d.2.2.2.1))) = true → ((2 : Int), [], []) = runJobF d) ∧ ((!Prod.snd (Prod.snd (divModF d.2.1 d.2.2.1 d.2.2.2.1))) = false → ((0 : Int), Prod.fst (divModF d.2.1 d.2.2.1 d.2.2.2.1), Prod.fst
 (Prod.snd (divModF d.2.1 d.2.2.1 d.2.2.2.1))) = runJobF d))) ∧ (decide (d.1 = (10 : Int)) = false → (decide (d.1 = (11 : Int)) = true → True ∧ (Ty.wf listT (Prod.fst (decF d.2.1 d.2.2.1 d.2.2.2.1 d.2.2.2.2)) ∧ Ty.wf
 i64T (Prod.fst (Prod.snd (decF d.2.1 d.2.2.1 d.2.2.2.1 d.2.2.2.2))) ∧ Ty.wf Ty.bool (Prod.snd (Prod.snd (decF d.2.1 d.2.2.1 d.2.2.2.1 d.2.2.2.2))) → ((!Prod.snd (Prod.snd (decF d.2.1 d.2.2.1 d.2.2.2.1 d.2.2.2.2))) =
 true → ((2 : Int), [], []) = runJobF d) ∧ ((!Prod.snd (Prod.snd (decF d.2.1 d.2.2.1 d.2.2.2.1 d.2.2.2.2))) = false → ((0 : Int), Prod.fst (decF d.2.1 d.2.2.1 d.2.2.2.1 d.2.2.2.2), [Prod.fst (Prod.snd (decF d.2.1 d.2.2.1
 d.2.2.2.1 d.2.2.2.2))]) = runJobF d))) ∧ (decide (d.1 = (11 : Int)) = false → ((0 : Int), [], []) = runJobF d)))))))))))) := by
  intro (d : Int × Int × List Int × List Int × Int) hw hp
  obtain ⟨k, f, a, b, c⟩ := d
  simp only [Int.toNat_natCast, exists_const, and_true, true_and, implies_true, decide_eq_true_eq, decide_eq_false_iff_not, Bool.not_eq_true', Bool.not_eq_false', beq_iff_eq, forall_const]
  refine ⟨rj_no, fun hj => ⟨?_, fun h1 => ⟨?_, fun h2 => ⟨?_, fun h3 => ⟨?_, fun h4 => ⟨?_, fun h5 => ⟨?_, fun h6 => ⟨?_, fun h7 => ⟨?_, fun h8 => ⟨?_, fun h9 => ⟨?_, fun h10 => ⟨?_, fun h11 => (rj_none hj h1 h2 h3 h4 h5 h6 h7 h8 h9 h10 h11).elim⟩⟩⟩⟩⟩⟩⟩⟩⟩⟩⟩⟩
  · rintro rfl _; rw [rj1 hj]; exact ⟨fun h => (mk_n h).symm, fun h => (mk_y h).symm⟩
  · rintro rfl _; rw [rj2 hj]; exact ⟨fun h => (mk_n h).symm, fun h => (mk_y h).symm⟩
  · rintro rfl _; rw [rj3 hj]; exact ⟨fun h => (mk_n h).symm, fun h => (mk_y h).symm⟩
  · rintro rfl _; rw [rj4 hj]; exact ⟨fun h => (mk_n h).symm, fun h => (mk_y h).symm⟩
  · rintro rfl _; rw [rj5 hj]; exact ⟨fun h => (mk_n h).symm, fun h => (mk_y h).symm⟩
  · rintro rfl _; rw [rj6 hj]; exact ⟨fun h => (mk_n h).symm, fun h => (mk_y h).symm⟩
  · rintro rfl _; rw [rj7 hj]; exact ⟨fun h => (mk_n h).symm, fun h => (mk_y h).symm⟩
  · rintro rfl
    rw [rj8 hj]
    exact ⟨fun hp => ⟨fun hl _ => ⟨fun h => (mk_n (ev_bad (by simp [h]))).symm, fun h => (mk_y (ev_ok.2 ⟨hp, by omega, h⟩)).symm⟩, fun hl _ => (mk_n (ev_bad (by omega))).symm⟩, fun hp _ => (mk_n (ev_bad (by simp [hp]))).symm⟩
  · rintro rfl _; rw [rj9 hj]; exact ⟨fun h => (mk_n h).symm, fun h => (mk_y h).symm⟩
  · rintro rfl _; rw [rj10 hj]; exact ⟨fun h => (mk_n h).symm, fun h => (mk_y h).symm⟩
  · rintro rfl _; rw [rj11 hj]; exact ⟨fun h => (mk_n h).symm, fun h => (mk_y h).symm⟩
end Go.SF
