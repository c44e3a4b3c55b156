/- What is owed of the law's code: FnExactRunJob. No condition. -/
import Derived.Test.YtobmiihdfklmaaaGreatSxPJobI
import Derived.Test.YtobmiihdfklmaaaGreatSxPDec
import Derived.Test.YtobmiihdfklmaaaGreatSxPPlan2
namespace Go.SF
open Go.SX Go
set_option linter.unusedVariables false
set_option linter.unusedSimpArgs false
set_option maxRecDepth 10000
theorem dec_len (f : Int) (xs ys : List Int) (k : Int) : (decF f xs ys k).1.length ≤ 10 := by
  by_cases h : (decF f xs ys k).2.2 = true
  · obtain ⟨h1, h2, h3, s, h4, h5, h6⟩ := dec_inv h
    obtain ⟨hpt, hl, hk1, hk2⟩ := code_ok h1
    obtain ⟨m1, m2⟩ := msg_ok hpt h2 s
    unfold hitB at h5
    rw [Bool.and_eq_true, decide_eq_true_eq] at h5
    rw [h6]
    unfold padF
    rw [List.length_append, List.length_replicate]
    omega
  · unfold decF at h ⊢
    split
    · rename_i hc
      rw [if_pos hc] at h
      cases hf : findF (hitB (modF f) xs ys k.toNat) (2 ^ xs.length) with
      | none => simp [decR]
      | some s => rw [hf] at h; exact absurd rfl h
    · simp
theorem inter_len (f : Int) (xs ys : List Int) : (interF f xs ys).1.length ≤ 41 := by
  by_cases h : (interF f xs ys).2 = true
  · obtain ⟨h1, h2, h3, h4⟩ := inter_inv h
    obtain ⟨hm, _, hl, _, _⟩ := pt_ok h1
    rw [h4]
    exact (thr_ok (mod_pr hm).mod ys hl _).2.1
  · unfold interF at h ⊢
    split
    · rename_i hc; rw [if_pos hc] at h; exact absurd rfl h
    · simp
theorem trim_lenle (l : List Int) : (trimF l).length ≤ l.length := by rw [trim_len]; exact cutF_le l
theorem vec_len (f : Int) (v : List Int) : (fwdF f v).length ≤ v.length ∧ (backF f v).length ≤ v.length := by
  unfold fwdF backF
  constructor
  · split
    · simp [dftL]
    · simp
  · split
    · simp [bkL]
    · simp
theorem cyc_len (f : Int) (a b : List Int) : (cycF f a b).length ≤ a.length ∧ (twstF f a b).length ≤ a.length := by
  unfold cycF twstF
  constructor
  · split <;> simp
  · split <;> simp
theorem mulPF_len (f : Int) (a b : List Int) : (mulPF f a b).1.length ≤ a.length + b.length := by
  unfold mulPF
  split
  · show (mulP _ a b).length ≤ _
    unfold mulP
    split
    · simp
    · have := trim_lenle (mulLn (modF f) a b (a.length + b.length - 1))
      rw [mulLn_len] at this
      omega
  · simp
theorem conv_len (a b : List Int) : (convXF a b).1.length ≤ a.length + b.length := by
  unfold convXF
  split
  · show (if _ then _ else _ : List Int).length ≤ _
    split
    · simp
    · rw [cvL_len]; omega
  · simp
theorem ser_len (f : Int) (a : List Int) : (serInvF f a).1.length ≤ a.length := by
  unfold serInvF
  split
  · show (siL _ a _).length ≤ _
    rw [siL_len]; exact Nat.le_refl _
  · simp
theorem evj_le (f : Int) (a b : List Int) : (evManyJ f a b).length ≤ b.length := by
  unfold evManyJ
  split
  · rw [evM_len]; exact Nat.le_refl _
  · simp
theorem div_len (f : Int) (a b : List Int) : (divModF f a b).1.length ≤ a.length + 1 ∧ (divModF f a b).2.1.length ≤ a.length := by
  unfold divModF
  split
  · show (divG _ a b).1.length ≤ _ ∧ (divG _ a b).2.length ≤ _
    unfold divG
    split
    · simp
    · refine ⟨?_, ?_⟩
      · show (dvQ _ _ _ _ _ _).length ≤ _
        rw [dvQ_len]; omega
      · have := trim_lenle (dvL (modF f) (dvR (modF f) b) a b (a.length - b.length + 1))
        rw [dvL_len] at this
        exact this
  · simp
theorem mk_len {k : Bool} {o m : List Int} {n : Nat} (h1 : o.length ≤ n) (h2 : m.length ≤ n) : (mk3 k o m).2.1.length ≤ n ∧ (mk3 k o m).2.2.length ≤ n := by
  unfold mk3
  split
  · exact ⟨h1, h2⟩
  · simp
theorem rj_len (j : Jb) : (runJobF j).2.1.length ≤ j.2.2.1.length + j.2.2.2.1.length + 100 ∧ (runJobF j).2.2.length ≤ j.2.2.1.length + j.2.2.2.1.length + 100 := by
  obtain ⟨k, f, a, b, c⟩ := j
  show _ ≤ a.length + b.length + 100 ∧ _ ≤ a.length + b.length + 100
  have h1 := vec_len f a
  have h2 := cyc_len f a b
  have h3 := mulPF_len f a b
  have h4 := conv_len a b
  have h5 := ser_len f a
  have h6 := evj_le f a b
  have h7 := div_len f a b
  have h8 := inter_len f a b
  have h9 := dec_len f a b c
  cases h : jobOkF (k, f, a, b, c)
  · rw [← rj_no h]; simp
  · have hk := (jok_at.1 h).1.1
    rcases (show k = 1 ∨ k = 2 ∨ k = 3 ∨ k = 4 ∨ k = 5 ∨ k = 6 ∨ k = 7 ∨ k = 8 ∨ k = 9 ∨ k = 10 ∨ k = 11 by omega) with rfl | rfl | rfl | rfl | rfl | rfl | rfl | rfl | rfl | rfl | rfl
    · rw [rj1 h]; exact mk_len (by omega) (by simp)
    · rw [rj2 h]; exact mk_len (by omega) (by simp)
    · rw [rj3 h]; exact mk_len (by omega) (by simp)
    · rw [rj4 h]; exact mk_len (by omega) (by simp)
    · rw [rj5 h]; exact mk_len (by omega) (by simp)
    · rw [rj6 h]; exact mk_len (by omega) (by simp)
    · rw [rj7 h]; exact mk_len (by omega) (by simp)
    · rw [rj8 h]; exact mk_len (by omega) (by simp)
    · rw [rj9 h]; exact mk_len (by omega) (by simp)
    · rw [rj10 h]; exact mk_len (by omega) (by omega)
    · rw [rj11 h]; exact mk_len (by omega) (by simp)
theorem held_rs {s : Int} {u v : List Int} (h : u.length ≤ 4194304) (h1 : v.length ≤ 4194304) : heldRs (s, mark1 u 1, mark1 v (end1 u 1)) 1 = end1 v (end1 u 1) ∧ 0 ≤ end1 v (end1 u 1) := by
  have e1 := end1_small u (k := 1) (by omega) (by omega)
  have e2 := end1_small v (k := end1 u 1) (by omega) (by omega)
  have n2 : neg1 (end1 v (end1 u 1)) = end1 v (end1 u 1) := by unfold neg1; rw [if_neg (by omega)]
  unfold heldRs
  simp only [held1_mark, n2]
  rw [if_neg (by omega)]
  exact ⟨rfl, by omega⟩
theorem v_FnExactRunJob :
 ∀ (d : Int × Int × List Int × List Int × Int), Ty.wf jobT d → True → True ∧ (Ty.wf i64T (szJobF d (1048576 : Int)) → (decide (szJobF d (1048576 : Int) < (0 : Int)) = true → true = true) ∧ (decide (szJobF d (1048576 :
 Int) < (0 : Int)) = false → (d.2.2.1.length ≤ (1048576 : Nat) ∧ d.2.2.2.1.length ≤ (1048576 : Nat)) ∧ (Ty.wf jobT d → True ∧ (Ty.wf resT2 (runJobF d) → (d.2.2.1.length ≤ (1048576 : Nat) ∧ d.2.2.2.1.length ≤ (1048576 :
 Nat)) ∧ (Ty.wf jobT d → True ∧ (Ty.wf resT2 (runJobF d) → True ∧ ((!decide (runJobF d = runJobF d)) = true → false = true) ∧ ((!decide (runJobF d = runJobF d)) = false → (d.2.2.1.length ≤ (1048576 : Nat) ∧
 d.2.2.2.1.length ≤ (1048576 : Nat)) ∧ True ∧ (Ty.wf jobT d → ((!decide (d = d)) = true → false = true) ∧ ((!decide (d = d)) = false → True ∧ (decide (end1 d.2.2.2.1 (end1 d.2.2.1 (1 : Int)) < (0 : Int)) = true → false =
 true) ∧ (decide (end1 d.2.2.2.1 (end1 d.2.2.1 (1 : Int)) < (0 : Int)) = false → True ∧ ((!decide (runJobF d = runJobF d)) = true → false = true) ∧ ((!decide (runJobF d = runJobF d)) = false → True ∧ True ∧ (Ty.wf i64T
 (heldRs (Prod.fst (runJobF d), mark1 (Prod.fst (Prod.snd (runJobF d))) (1 : Int), mark1 (Prod.snd (Prod.snd (runJobF d))) (end1 (Prod.fst (Prod.snd (runJobF d))) (1 : Int))) (1 : Int)) → (decide (heldRs (Prod.fst
 (runJobF d), mark1 (Prod.fst (Prod.snd (runJobF d))) (1 : Int), mark1 (Prod.snd (Prod.snd (runJobF d))) (end1 (Prod.fst (Prod.snd (runJobF d))) (1 : Int))) (1 : Int) < (0 : Int)) = true → false = true) ∧ (decide (heldRs
 (Prod.fst (runJobF d), mark1 (Prod.fst (Prod.snd (runJobF d))) (1 : Int), mark1 (Prod.snd (Prod.snd (runJobF d))) (end1 (Prod.fst (Prod.snd (runJobF d))) (1 : Int))) (1 : Int) < (0 : Int)) = false → ((!decide (heldRs
 (Prod.fst (runJobF d), mark1 (Prod.fst (Prod.snd (runJobF d))) (1 : Int), mark1 (Prod.snd (Prod.snd (runJobF d))) (end1 (Prod.fst (Prod.snd (runJobF d))) (1 : Int))) (1 : Int) = end1 (Prod.snd (Prod.snd (runJobF d)))
 (end1 (Prod.fst (Prod.snd (runJobF d))) (1 : Int)))) = true → false = true) ∧ ((!decide (heldRs (Prod.fst (runJobF d), mark1 (Prod.fst (Prod.snd (runJobF d))) (1 : Int), mark1 (Prod.snd (Prod.snd (runJobF d))) (end1
 (Prod.fst (Prod.snd (runJobF d))) (1 : Int))) (1 : Int) = end1 (Prod.snd (Prod.snd (runJobF d))) (end1 (Prod.fst (Prod.snd (runJobF d))) (1 : Int)))) = false → (d.2.2.1.length ≤ (1048576 : Nat) ∧ d.2.2.2.1.length ≤
 (1048576 : Nat)) ∧ (Ty.wf jobT d → True ∧ (Ty.wf resT2 (runJobF d) → True ∧ ((!decide (runJobF d = runJobF d)) = true → false = true) ∧ ((!decide (runJobF d = runJobF d)) = false → True ∧ (Ty.wf i64T (heldRs (Prod.fst
 (runJobF d), mark1 (Prod.fst (Prod.snd (runJobF d))) (1 : Int), mark1 (Prod.snd (Prod.snd (runJobF d))) (end1 (Prod.fst (Prod.snd (runJobF d))) (1 : Int))) (1 : Int)) → (decide (heldRs (Prod.fst (runJobF d), mark1
 (Prod.fst (Prod.snd (runJobF d))) (1 : Int), mark1 (Prod.snd (Prod.snd (runJobF d))) (end1 (Prod.fst (Prod.snd (runJobF d))) (1 : Int))) (1 : Int) < (0 : Int)) = true → false = true) ∧ (decide (heldRs (Prod.fst (runJobF
 d), mark1 (Prod.fst (Prod.snd (runJobF d))) (1 : Int), mark1 (Prod.snd (Prod.snd (runJobF d))) (end1 (Prod.fst (Prod.snd (runJobF d))) (1 : Int))) (1 : Int) < (0 : Int)) = false → ((!decide (heldRs (Prod.fst (runJobF
 d), mark1 (Prod.fst (Prod.snd (runJobF d))) (1 : Int), mark1 (Prod.snd (Prod.snd (runJobF d))) (end1 (Prod.fst (Prod.snd (runJobF d))) (1 : Int))) (1 : Int) = end1 (Prod.snd (Prod.snd (runJobF d))) (end1 (Prod.fst
 (Prod.snd (runJobF d))) (1 : Int)))) = true → false = true) ∧ ((!decide (heldRs (Prod.fst (runJobF d), mark1 (Prod.fst (Prod.snd (runJobF d))) (1 : Int), mark1 (Prod.snd (Prod.snd (runJobF d))) (end1 (Prod.fst (Prod.snd
 (runJobF d))) (1 : Int))) (1 : Int) = end1 (Prod.snd (Prod.snd (runJobF d))) (end1 (Prod.fst (Prod.snd (runJobF d))) (1 : Int)))) = false → true = true)))))))))))))))))))) := by
  intro d hw hp
  obtain ⟨k, f, a, b, c⟩ := d
  have la : a.length ≤ 9223372036854775807 := hw.2.2.1.1
  have lb : b.length ≤ 9223372036854775807 := hw.2.2.2.1.1
  have hg := rj_len (k, f, a, b, c)
  simp only [Int.toNat_natCast, exists_const, and_true, true_and, implies_true, decide_eq_true_eq, decide_eq_false_iff_not, Bool.not_eq_true', Bool.not_eq_false', beq_iff_eq, forall_const]
  replace hg : (runJobF (k, f, a, b, c)).2.1.length ≤ a.length + b.length + 100 ∧ (runJobF (k, f, a, b, c)).2.2.length ≤ a.length + b.length + 100 := hg
  generalize runJobF (k, f, a, b, c) = g at *
  obtain ⟨s, u, v⟩ := g
  simp only [not_true_eq_false, false_implies, true_and, and_true] at *
  intro _ hz
  have hab : a.length ≤ 1048576 ∧ b.length ≤ 1048576 := by
    unfold szJobF at hz
    by_cases h1 : szF a.length 1048576 < 0
    · rw [if_pos h1] at hz; omega
    · rw [if_neg h1] at hz
      replace hz : ¬ szF b.length (szF a.length 1048576) < 0 := hz
      rcases sz_room3 (l := 1048576) la (by omega) (by omega) with r1 | ⟨r1, r2⟩
      · omega
      · rcases sz_room3 (l := szF a.length 1048576) lb (by omega) (by omega) with r3 | ⟨r3, r4⟩
        · omega
        · omega
  obtain ⟨g1, g2⟩ := held_rs (s := s) (u := u) (v := v) (by omega) (by omega)
  have e1 := end1_small a (k := 1) (by omega) (by omega)
  have e2 := end1_small b (k := end1 a 1) (by omega) (by omega)
  rw [g1]
  have k1 : ¬ end1 b (end1 a 1) < 0 := by omega
  have k2 : ¬ end1 v (end1 u 1) < 0 := by omega
  simp only [hab, k1, k2, true_and, and_true, implies_true, false_implies, not_true_eq_false, not_false_eq_true, forall_const, true_implies]
end Go.SF
