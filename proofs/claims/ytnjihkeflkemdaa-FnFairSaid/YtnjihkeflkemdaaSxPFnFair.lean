/- The law FnFair. No condition. -/
import Derived.Test.YtnjihkeflkemdaaSxPFair
namespace Go.SF
open Go.SX Go
set_option linter.unusedVariables false
set_option linter.unusedSimpArgs false
theorem cost_ok {A B : Int} (hA : 0 ≤ A ∧ A ≤ 255) (hB : 0 ≤ B ∧ B ≤ 255) : 1 ≤ IntKind.i64.wrap (1 + IntKind.i64.wrap (A * IntKind.i64.wrap (1 + B.tmod 20))) ∧ IntKind.i64.wrap (1 + IntKind.i64.wrap (A * IntKind.i64.wrap (1 + B.tmod 20))) ≤ 5101 := by
  rw [Int.tmod_eq_emod_of_nonneg hB.1, wrap_small (n := 1 + B % 20) (by omega)]
  have h0 : 0 ≤ A * (1 + B % 20) := Int.mul_nonneg hA.1 (by omega)
  have h1 : A * (1 + B % 20) ≤ 255 * 20 := Int.le_trans (Int.mul_le_mul_of_nonneg_right hA.2 (by omega)) (Int.mul_le_mul_of_nonneg_left (by omega) (by omega))
  rw [wrap_small (n := A * (1 + B % 20)) (by omega), wrap_small (by omega)]
  omega
theorem cost_ok2 {z : Int} (h : 1 ≤ z ∧ z ≤ 5101) : 1 ≤ IntKind.i64.wrap (1 + IntKind.i64.wrap (z * 37)) ∧ IntKind.i64.wrap (1 + IntKind.i64.wrap (z * 37)) ≤ 200000 := by
  rw [wrap_small (n := z * 37) (by omega), wrap_small (by omega)]
  omega
theorem fr_fls {qa qb : Int} {i k : Nat} {x : FrX} (h : frP i k x) : FlsP (frR qa qb x) := by
  obtain ⟨h1, h2, h3, h4, h5, h6, h7, h8⟩ := h
  have l1 := (line_iff.1 h3.1).1
  have l2 := (line_iff.1 h4.1).1
  have l3 := (line_iff.1 h5.1).1
  refine ⟨by simp [frR], fun f hf => ?_⟩
  unfold frR at hf
  simp only [List.mem_cons, List.mem_nil_iff, or_false] at hf
  rcases hf with e | e | e <;> subst e <;> simp only <;> omega
theorem frPu_1 (k : Nat) (x : FrX) (c : Int) : (frPu k x c).1 = x.1 + 1 := by
  unfold frPu
  split
  · rfl
  · split <;> rfl
theorem fr_chk {qa qb a b : Int} (ha : 100 ≤ qa ∧ qa ≤ 2000) (hb : 100 ≤ qb ∧ qb ≤ 2000) (h0 : 0 ≤ a ∧ a ≤ 8000000) (h1 : 0 ≤ b ∧ b ≤ 8000000) (hq : 0 ≤ qa * qb ∧ qa * qb ≤ 4000000) (h : frD qa qb a b) :
    ¬ 2 * (qa * qb) + 200000 * (qa + qb) ≤ IntKind.i64.wrap (IntKind.i64.wrap (a * qb) - IntKind.i64.wrap (b * qa)) ∧ ¬ IntKind.i64.wrap (IntKind.i64.wrap (a * qb) - IntKind.i64.wrap (b * qa)) ≤ IntKind.i64.wrap (0 - (2 * (qa * qb) + 200000 * (qa + qb))) := by
  have p1 : 0 ≤ a * qb := Int.mul_nonneg h0.1 (by omega)
  have p2 : a * qb ≤ 8000000 * 2000 := Int.le_trans (Int.mul_le_mul_of_nonneg_right h0.2 (by omega)) (Int.mul_le_mul_of_nonneg_left hb.2 (by omega))
  have p3 : 0 ≤ b * qa := Int.mul_nonneg h1.1 (by omega)
  have p4 : b * qa ≤ 8000000 * 2000 := Int.le_trans (Int.mul_le_mul_of_nonneg_right h1.2 (by omega)) (Int.mul_le_mul_of_nonneg_left ha.2 (by omega))
  unfold frD at h
  rw [wrap_small (n := a * qb) (by omega), wrap_small (n := b * qa) (by omega), wrap_small (n := a * qb - b * qa) (by omega), wrap_small (n := 0 - (2 * (qa * qb) + 200000 * (qa + qb))) (by omega)]
  omega
theorem v_FnFair :
  ∀ (d : List Int), Ty.wf (Ty.sl (Ty.int IntKind.u8)) d → True → True ∧ (bigF d = true → true = true) ∧ (bigF d = false → (0 : Int) ≤ (0 : Int) ∧ (Ty.wf i64T (codeAt d 0) → (0 : Int) ≤ (1 : Int) ∧ (Ty.wf i64T (codeAt d
  1) → FlsP [] ∧ (Ty.wf ringT (Prod.fst (addFlF ([], (0 : Int), false) (4 : Int) (IntKind.wrap IntKind.i64 ((100 : Int) + IntKind.wrap IntKind.i64 ((7 : Int) * codeAt d 0))))) ∧ Ty.wf Ty.bool (Prod.snd (addFlF ([], (0 :
  Int), false) (4 : Int) (IntKind.wrap IntKind.i64 ((100 : Int) + IntKind.wrap IntKind.i64 ((7 : Int) * codeAt d 0))))) → FlsP (Prod.fst (Prod.fst (addFlF ([], (0 : Int), false) (4 : Int) (IntKind.wrap IntKind.i64 ((100
  : Int) + IntKind.wrap IntKind.i64 ((7 : Int) * codeAt d 0)))))) ∧ (Ty.wf ringT (Prod.fst (addFlF (Prod.fst (addFlF ([], (0 : Int), false) (4 : Int) (IntKind.wrap IntKind.i64 ((100 : Int) + IntKind.wrap IntKind.i64 ((7
  : Int) * codeAt d 0))))) (2 : Int) (IntKind.wrap IntKind.i64 ((100 : Int) + IntKind.wrap IntKind.i64 ((3 : Int) * codeAt d 1))))) ∧ Ty.wf Ty.bool (Prod.snd (addFlF (Prod.fst (addFlF ([], (0 : Int), false) (4 : Int)
  (IntKind.wrap IntKind.i64 ((100 : Int) + IntKind.wrap IntKind.i64 ((7 : Int) * codeAt d 0))))) (2 : Int) (IntKind.wrap IntKind.i64 ((100 : Int) + IntKind.wrap IntKind.i64 ((3 : Int) * codeAt d 1))))) → FlsP (Prod.fst
  (Prod.fst (addFlF (Prod.fst (addFlF ([], (0 : Int), false) (4 : Int) (IntKind.wrap IntKind.i64 ((100 : Int) + IntKind.wrap IntKind.i64 ((7 : Int) * codeAt d 0))))) (2 : Int) (IntKind.wrap IntKind.i64 ((100 : Int) +
  IntKind.wrap IntKind.i64 ((3 : Int) * codeAt d 1)))))) ∧ (Ty.wf ringT (Prod.fst (addFlF (Prod.fst (addFlF (Prod.fst (addFlF ([], (0 : Int), false) (4 : Int) (IntKind.wrap IntKind.i64 ((100 : Int) + IntKind.wrap
  IntKind.i64 ((7 : Int) * codeAt d 0))))) (2 : Int) (IntKind.wrap IntKind.i64 ((100 : Int) + IntKind.wrap IntKind.i64 ((3 : Int) * codeAt d 1))))) (9 : Int) (100 : Int))) ∧ Ty.wf Ty.bool (Prod.snd (addFlF (Prod.fst
  (addFlF (Prod.fst (addFlF ([], (0 : Int), false) (4 : Int) (IntKind.wrap IntKind.i64 ((100 : Int) + IntKind.wrap IntKind.i64 ((7 : Int) * codeAt d 0))))) (2 : Int) (IntKind.wrap IntKind.i64 ((100 : Int) + IntKind.wrap
  IntKind.i64 ((3 : Int) * codeAt d 1))))) (9 : Int) (100 : Int))) → ((!Prod.snd (addFlF ([], (0 : Int), false) (4 : Int) (IntKind.wrap IntKind.i64 ((100 : Int) + IntKind.wrap IntKind.i64 ((7 : Int) * codeAt d 0))))) =
  true → false = true) ∧ ((!Prod.snd (addFlF ([], (0 : Int), false) (4 : Int) (IntKind.wrap IntKind.i64 ((100 : Int) + IntKind.wrap IntKind.i64 ((7 : Int) * codeAt d 0))))) = false → ((!Prod.snd (addFlF (Prod.fst (addFlF
  ([], (0 : Int), false) (4 : Int) (IntKind.wrap IntKind.i64 ((100 : Int) + IntKind.wrap IntKind.i64 ((7 : Int) * codeAt d 0))))) (2 : Int) (IntKind.wrap IntKind.i64 ((100 : Int) + IntKind.wrap IntKind.i64 ((3 : Int) *
  codeAt d 1))))) = true → false = true) ∧ ((!Prod.snd (addFlF (Prod.fst (addFlF ([], (0 : Int), false) (4 : Int) (IntKind.wrap IntKind.i64 ((100 : Int) + IntKind.wrap IntKind.i64 ((7 : Int) * codeAt d 0))))) (2 : Int)
  (IntKind.wrap IntKind.i64 ((100 : Int) + IntKind.wrap IntKind.i64 ((3 : Int) * codeAt d 1))))) = false → ((!Prod.snd (addFlF (Prod.fst (addFlF (Prod.fst (addFlF ([], (0 : Int), false) (4 : Int) (IntKind.wrap
  IntKind.i64 ((100 : Int) + IntKind.wrap IntKind.i64 ((7 : Int) * codeAt d 0))))) (2 : Int) (IntKind.wrap IntKind.i64 ((100 : Int) + IntKind.wrap IntKind.i64 ((3 : Int) * codeAt d 1))))) (9 : Int) (100 : Int))) = true →
  false = true) ∧ ((!Prod.snd (addFlF (Prod.fst (addFlF (Prod.fst (addFlF ([], (0 : Int), false) (4 : Int) (IntKind.wrap IntKind.i64 ((100 : Int) + IntKind.wrap IntKind.i64 ((7 : Int) * codeAt d 0))))) (2 : Int)
  (IntKind.wrap IntKind.i64 ((100 : Int) + IntKind.wrap IntKind.i64 ((3 : Int) * codeAt d 1))))) (9 : Int) (100 : Int))) = false → (((0 : Nat) ≤ (40 : Nat) ∧ frP (0 : Nat) (0 : Nat) ((0 : Int), [], [], [])) ∧ ((d = d ∧
  IntKind.wrap IntKind.i64 ((100 : Int) + IntKind.wrap IntKind.i64 ((7 : Int) * codeAt d 0)) = IntKind.wrap IntKind.i64 ((100 : Int) + IntKind.wrap IntKind.i64 ((7 : Int) * codeAt d 0)) ∧ IntKind.wrap IntKind.i64 ((100 :
  Int) + IntKind.wrap IntKind.i64 ((3 : Int) * codeAt d 1)) = IntKind.wrap IntKind.i64 ((100 : Int) + IntKind.wrap IntKind.i64 ((3 : Int) * codeAt d 1)) ∧ (0 : Int) = (0 : Int) ∧ (0 : Int) = (↑(0 : Nat) : Int)) ∧
  (Prod.fst (Prod.snd (Prod.fst (addFlF (Prod.fst (addFlF (Prod.fst (addFlF ([], (0 : Int), false) (4 : Int) (IntKind.wrap IntKind.i64 ((100 : Int) + IntKind.wrap IntKind.i64 ((7 : Int) * codeAt d 0))))) (2 : Int)
  (IntKind.wrap IntKind.i64 ((100 : Int) + IntKind.wrap IntKind.i64 ((3 : Int) * codeAt d 1))))) (9 : Int) (100 : Int)))) = (1 : Int) ∧ Prod.snd (Prod.snd (Prod.fst (addFlF (Prod.fst (addFlF (Prod.fst (addFlF ([], (0 :
  Int), false) (4 : Int) (IntKind.wrap IntKind.i64 ((100 : Int) + IntKind.wrap IntKind.i64 ((7 : Int) * codeAt d 0))))) (2 : Int) (IntKind.wrap IntKind.i64 ((100 : Int) + IntKind.wrap IntKind.i64 ((3 : Int) * codeAt d
  1))))) (9 : Int) (100 : Int)))) = false) ∧ Prod.fst (Prod.fst (addFlF (Prod.fst (addFlF (Prod.fst (addFlF ([], (0 : Int), false) (4 : Int) (IntKind.wrap IntKind.i64 ((100 : Int) + IntKind.wrap IntKind.i64 ((7 : Int) *
  codeAt d 0))))) (2 : Int) (IntKind.wrap IntKind.i64 ((100 : Int) + IntKind.wrap IntKind.i64 ((3 : Int) * codeAt d 1))))) (9 : Int) (100 : Int))) = frR (qaF d) (qbF d) ((0 : Int), [], [], [])) ∧ ∀ (x : Nat × Int × List
  (Int × Int) × List (Int × Int) × List (Int × Int)), x.1 ≤ (40 : Nat) ∧ frP x.1 (0 : Nat) x.2 → (decide ((↑x.1 : Int) < (40 : Int)) = true → ((0 : Nat) ≤ (3 : Nat) ∧ frP x.1 (0 : Nat) x.2) ∧ ((d = d ∧ IntKind.wrap
  IntKind.i64 ((100 : Int) + IntKind.wrap IntKind.i64 ((7 : Int) * codeAt d 0)) = IntKind.wrap IntKind.i64 ((100 : Int) + IntKind.wrap IntKind.i64 ((7 : Int) * codeAt d 0)) ∧ IntKind.wrap IntKind.i64 ((100 : Int) +
  IntKind.wrap IntKind.i64 ((3 : Int) * codeAt d 1)) = IntKind.wrap IntKind.i64 ((100 : Int) + IntKind.wrap IntKind.i64 ((3 : Int) * codeAt d 1)) ∧ x.2.1 = x.2.1 ∧ (↑x.1 : Int) = (↑x.1 : Int) ∧ (0 : Int) = (↑(0 : Nat) :
  Int)) ∧ ((1 : Int) = (1 : Int) ∧ false = false) ∧ frR (qaF d) (qbF d) x.2 = frR (qaF d) (qbF d) x.2) ∧ ∀ (x_1 : Nat × Int × List (Int × Int) × List (Int × Int) × List (Int × Int)), x_1.1 ≤ (3 : Nat) ∧ frP x.1 x_1.1
  x_1.2 → (decide ((↑x_1.1 : Int) < (3 : Int)) = true → (decide ((↑x_1.1 : Int) = (0 : Int)) = true → ((decide ((↑x_1.1 : Int) = (2 : Int)) = true → (0 : Int) ≤ (↑x.1 : Int) ∧ (Ty.wf i64T (codeAt d (↑x.1 : Int)) → (4 :
  Int) ≠ (0 : Int) ∧ (decide ((0 : Int) < Int.tmod (codeAt d (↑x.1 : Int)) (4 : Int)) = true → ∃ (x' : Nat × Int × List (Int × Int) × List (Int × Int) × List (Int × Int)), (x'.1 ≤ (3 : Nat) ∧ frP x.1 x'.1 x'.2) ∧ (3 :
  Nat) - x'.1 < (3 : Nat) - x_1.1 ∧ (d = d ∧ IntKind.wrap IntKind.i64 ((100 : Int) + IntKind.wrap IntKind.i64 ((7 : Int) * codeAt d 0)) = IntKind.wrap IntKind.i64 ((100 : Int) + IntKind.wrap IntKind.i64 ((7 : Int) *
  codeAt d 0)) ∧ IntKind.wrap IntKind.i64 ((100 : Int) + IntKind.wrap IntKind.i64 ((3 : Int) * codeAt d 1)) = IntKind.wrap IntKind.i64 ((100 : Int) + IntKind.wrap IntKind.i64 ((3 : Int) * codeAt d 1)) ∧ x_1.2.1 = x'.2.1
  ∧ (↑x.1 : Int) = (↑x.1 : Int) ∧ IntKind.wrap IntKind.i64 ((↑x_1.1 : Int) + (1 : Int)) = (↑x'.1 : Int)) ∧ ((1 : Int) = (1 : Int) ∧ false = false) ∧ frR (qaF d) (qbF d) x_1.2 = frR (qaF d) (qbF d) x'.2) ∧ (decide ((0 :
  Int) < Int.tmod (codeAt d (↑x.1 : Int)) (4 : Int)) = false → ∃ (x' : Unit), x_1.1 < (3 : Nat) ∧ (d = d ∧ IntKind.wrap IntKind.i64 ((100 : Int) + IntKind.wrap IntKind.i64 ((7 : Int) * codeAt d 0)) = IntKind.wrap
  IntKind.i64 ((100 : Int) + IntKind.wrap IntKind.i64 ((7 : Int) * codeAt d 0)) ∧ IntKind.wrap IntKind.i64 ((100 : Int) + IntKind.wrap IntKind.i64 ((3 : Int) * codeAt d 1)) = IntKind.wrap IntKind.i64 ((100 : Int) +
  IntKind.wrap IntKind.i64 ((3 : Int) * codeAt d 1)) ∧ x_1.2.1 = x_1.2.1 ∧ (↑x.1 : Int) = (↑x.1 : Int) ∧ (↑x_1.1 : Int) = (↑x_1.1 : Int) ∧ (9 : Int) = tenK x_1.1) ∧ ((1 : Int) = (1 : Int) ∧ false = false) ∧ frR (qaF d)
  (qbF d) x_1.2 = frR (qaF d) (qbF d) x_1.2))) ∧ (decide ((↑x_1.1 : Int) = (2 : Int)) = false → ∃ (x' : Unit), x_1.1 < (3 : Nat) ∧ (d = d ∧ IntKind.wrap IntKind.i64 ((100 : Int) + IntKind.wrap IntKind.i64 ((7 : Int) *
  codeAt d 0)) = IntKind.wrap IntKind.i64 ((100 : Int) + IntKind.wrap IntKind.i64 ((7 : Int) * codeAt d 0)) ∧ IntKind.wrap IntKind.i64 ((100 : Int) + IntKind.wrap IntKind.i64 ((3 : Int) * codeAt d 1)) = IntKind.wrap
  IntKind.i64 ((100 : Int) + IntKind.wrap IntKind.i64 ((3 : Int) * codeAt d 1)) ∧ x_1.2.1 = x_1.2.1 ∧ (↑x.1 : Int) = (↑x.1 : Int) ∧ (↑x_1.1 : Int) = (↑x_1.1 : Int) ∧ (4 : Int) = tenK x_1.1) ∧ ((1 : Int) = (1 : Int) ∧
  false = false) ∧ frR (qaF d) (qbF d) x_1.2 = frR (qaF d) (qbF d) x_1.2)) ∧ ∀ (x_2 : Unit), x_1.1 < (3 : Nat) → (0 : Int) ≤ IntKind.wrap IntKind.i64 (IntKind.wrap IntKind.i64 ((3 : Int) * (↑x.1 : Int)) + (↑x_1.1 : Int))
  ∧ (Ty.wf i64T (codeAt d (IntKind.wrap IntKind.i64 (IntKind.wrap IntKind.i64 ((3 : Int) * (↑x.1 : Int)) + (↑x_1.1 : Int)))) → (0 : Int) ≤ IntKind.wrap IntKind.i64 ((↑x.1 : Int) + (↑x_1.1 : Int)) ∧ (Ty.wf i64T (codeAt d
  (IntKind.wrap IntKind.i64 ((↑x.1 : Int) + (↑x_1.1 : Int)))) → (20 : Int) ≠ (0 : Int) ∧ ((0 : Int) ≤ IntKind.wrap IntKind.i64 ((↑x.1 : Int) + IntKind.wrap IntKind.i64 ((2 : Int) * (↑x_1.1 : Int))) ∧ (Ty.wf i64T (codeAt
  d (IntKind.wrap IntKind.i64 ((↑x.1 : Int) + IntKind.wrap IntKind.i64 ((2 : Int) * (↑x_1.1 : Int))))) → (16 : Int) ≠ (0 : Int) ∧ (decide (Int.tmod (codeAt d (IntKind.wrap IntKind.i64 ((↑x.1 : Int) + IntKind.wrap
  IntKind.i64 ((2 : Int) * (↑x_1.1 : Int))))) (16 : Int) = (0 : Int)) = true → ∃ (x' : Int), ((1 : Int) ≤ x' ∧ x' ≤ (200000 : Int)) ∧ (d = d ∧ IntKind.wrap IntKind.i64 ((100 : Int) + IntKind.wrap IntKind.i64 ((7 : Int) *
  codeAt d 0)) = IntKind.wrap IntKind.i64 ((100 : Int) + IntKind.wrap IntKind.i64 ((7 : Int) * codeAt d 0)) ∧ IntKind.wrap IntKind.i64 ((100 : Int) + IntKind.wrap IntKind.i64 ((3 : Int) * codeAt d 1)) = IntKind.wrap
  IntKind.i64 ((100 : Int) + IntKind.wrap IntKind.i64 ((3 : Int) * codeAt d 1)) ∧ IntKind.wrap IntKind.i64 (x_1.2.1 + (1 : Int)) = x_1.2.1 + (1 : Int) ∧ (↑x.1 : Int) = (↑x.1 : Int) ∧ (↑x_1.1 : Int) = (↑x_1.1 : Int) ∧
  tenK x_1.1 = tenK x_1.1 ∧ IntKind.wrap IntKind.i64 ((1 : Int) + IntKind.wrap IntKind.i64 (IntKind.wrap IntKind.i64 ((1 : Int) + IntKind.wrap IntKind.i64 (codeAt d (IntKind.wrap IntKind.i64 (IntKind.wrap IntKind.i64 ((3
  : Int) * (↑x.1 : Int)) + (↑x_1.1 : Int))) * IntKind.wrap IntKind.i64 ((1 : Int) + Int.tmod (codeAt d (IntKind.wrap IntKind.i64 ((↑x.1 : Int) + (↑x_1.1 : Int)))) (20 : Int)))) * (37 : Int))) = x') ∧ ((1 : Int) = (1 :
  Int) ∧ false = false) ∧ frR (qaF d) (qbF d) x_1.2 = frR (qaF d) (qbF d) x_1.2) ∧ (decide (Int.tmod (codeAt d (IntKind.wrap IntKind.i64 ((↑x.1 : Int) + IntKind.wrap IntKind.i64 ((2 : Int) * (↑x_1.1 : Int))))) (16 : Int)
  = (0 : Int)) = false → ∃ (x' : Int), ((1 : Int) ≤ x' ∧ x' ≤ (200000 : Int)) ∧ (d = d ∧ IntKind.wrap IntKind.i64 ((100 : Int) + IntKind.wrap IntKind.i64 ((7 : Int) * codeAt d 0)) = IntKind.wrap IntKind.i64 ((100 : Int)
  + IntKind.wrap IntKind.i64 ((7 : Int) * codeAt d 0)) ∧ IntKind.wrap IntKind.i64 ((100 : Int) + IntKind.wrap IntKind.i64 ((3 : Int) * codeAt d 1)) = IntKind.wrap IntKind.i64 ((100 : Int) + IntKind.wrap IntKind.i64 ((3 :
  Int) * codeAt d 1)) ∧ IntKind.wrap IntKind.i64 (x_1.2.1 + (1 : Int)) = x_1.2.1 + (1 : Int) ∧ (↑x.1 : Int) = (↑x.1 : Int) ∧ (↑x_1.1 : Int) = (↑x_1.1 : Int) ∧ tenK x_1.1 = tenK x_1.1 ∧ IntKind.wrap IntKind.i64 ((1 : Int)
  + IntKind.wrap IntKind.i64 (codeAt d (IntKind.wrap IntKind.i64 (IntKind.wrap IntKind.i64 ((3 : Int) * (↑x.1 : Int)) + (↑x_1.1 : Int))) * IntKind.wrap IntKind.i64 ((1 : Int) + Int.tmod (codeAt d (IntKind.wrap
  IntKind.i64 ((↑x.1 : Int) + (↑x_1.1 : Int)))) (20 : Int)))) = x') ∧ ((1 : Int) = (1 : Int) ∧ false = false) ∧ frR (qaF d) (qbF d) x_1.2 = frR (qaF d) (qbF d) x_1.2))) ∧ ∀ (x_3 : Int), (1 : Int) ≤ x_3 ∧ x_3 ≤ (200000 :
  Int) → FlsP (frR (qaF d) (qbF d) x_1.2) ∧ (Ty.wf ringT (Prod.fst (pushTkF (frR (qaF d) (qbF d) x_1.2, (1 : Int), false) (tenK x_1.1) (x_1.2.1 + (1 : Int), x_3))) ∧ Ty.wf Ty.bool (Prod.snd (pushTkF (frR (qaF d) (qbF d)
  x_1.2, (1 : Int), false) (tenK x_1.1) (x_1.2.1 + (1 : Int), x_3))) → ((!Prod.snd (pushTkF (frR (qaF d) (qbF d) x_1.2, (1 : Int), false) (tenK x_1.1) (x_1.2.1 + (1 : Int), x_3))) = true → false = true) ∧ ((!Prod.snd
  (pushTkF (frR (qaF d) (qbF d) x_1.2, (1 : Int), false) (tenK x_1.1) (x_1.2.1 + (1 : Int), x_3))) = false → ∃ (x' : Nat × Int × List (Int × Int) × List (Int × Int) × List (Int × Int)), (x'.1 ≤ (3 : Nat) ∧ frP x.1 x'.1
  x'.2) ∧ (3 : Nat) - x'.1 < (3 : Nat) - x_1.1 ∧ (d = d ∧ IntKind.wrap IntKind.i64 ((100 : Int) + IntKind.wrap IntKind.i64 ((7 : Int) * codeAt d 0)) = IntKind.wrap IntKind.i64 ((100 : Int) + IntKind.wrap IntKind.i64 ((7
  : Int) * codeAt d 0)) ∧ IntKind.wrap IntKind.i64 ((100 : Int) + IntKind.wrap IntKind.i64 ((3 : Int) * codeAt d 1)) = IntKind.wrap IntKind.i64 ((100 : Int) + IntKind.wrap IntKind.i64 ((3 : Int) * codeAt d 1)) ∧ x_1.2.1
  + (1 : Int) = x'.2.1 ∧ (↑x.1 : Int) = (↑x.1 : Int) ∧ IntKind.wrap IntKind.i64 ((↑x_1.1 : Int) + (1 : Int)) = (↑x'.1 : Int)) ∧ (Prod.fst (Prod.snd (Prod.fst (pushTkF (frR (qaF d) (qbF d) x_1.2, (1 : Int), false) (tenK
  x_1.1) (x_1.2.1 + (1 : Int), x_3)))) = (1 : Int) ∧ Prod.snd (Prod.snd (Prod.fst (pushTkF (frR (qaF d) (qbF d) x_1.2, (1 : Int), false) (tenK x_1.1) (x_1.2.1 + (1 : Int), x_3)))) = false) ∧ Prod.fst (Prod.fst (pushTkF
  (frR (qaF d) (qbF d) x_1.2, (1 : Int), false) (tenK x_1.1) (x_1.2.1 + (1 : Int), x_3))) = frR (qaF d) (qbF d) x'.2))))) ∧ (decide ((↑x_1.1 : Int) = (0 : Int)) = false → ((decide ((↑x_1.1 : Int) = (2 : Int)) = true → (0
  : Int) ≤ (↑x.1 : Int) ∧ (Ty.wf i64T (codeAt d (↑x.1 : Int)) → (4 : Int) ≠ (0 : Int) ∧ (decide ((0 : Int) < Int.tmod (codeAt d (↑x.1 : Int)) (4 : Int)) = true → ∃ (x' : Nat × Int × List (Int × Int) × List (Int × Int) ×
  List (Int × Int)), (x'.1 ≤ (3 : Nat) ∧ frP x.1 x'.1 x'.2) ∧ (3 : Nat) - x'.1 < (3 : Nat) - x_1.1 ∧ (d = d ∧ IntKind.wrap IntKind.i64 ((100 : Int) + IntKind.wrap IntKind.i64 ((7 : Int) * codeAt d 0)) = IntKind.wrap
  IntKind.i64 ((100 : Int) + IntKind.wrap IntKind.i64 ((7 : Int) * codeAt d 0)) ∧ IntKind.wrap IntKind.i64 ((100 : Int) + IntKind.wrap IntKind.i64 ((3 : Int) * codeAt d 1)) = IntKind.wrap IntKind.i64 ((100 : Int) +
  IntKind.wrap IntKind.i64 ((3 : Int) * codeAt d 1)) ∧ x_1.2.1 = x'.2.1 ∧ (↑x.1 : Int) = (↑x.1 : Int) ∧ IntKind.wrap IntKind.i64 ((↑x_1.1 : Int) + (1 : Int)) = (↑x'.1 : Int)) ∧ ((1 : Int) = (1 : Int) ∧ false = false) ∧
  frR (qaF d) (qbF d) x_1.2 = frR (qaF d) (qbF d) x'.2) ∧ (decide ((0 : Int) < Int.tmod (codeAt d (↑x.1 : Int)) (4 : Int)) = false → ∃ (x' : Unit), x_1.1 < (3 : Nat) ∧ (d = d ∧ IntKind.wrap IntKind.i64 ((100 : Int) +
  IntKind.wrap IntKind.i64 ((7 : Int) * codeAt d 0)) = IntKind.wrap IntKind.i64 ((100 : Int) + IntKind.wrap IntKind.i64 ((7 : Int) * codeAt d 0)) ∧ IntKind.wrap IntKind.i64 ((100 : Int) + IntKind.wrap IntKind.i64 ((3 :
  Int) * codeAt d 1)) = IntKind.wrap IntKind.i64 ((100 : Int) + IntKind.wrap IntKind.i64 ((3 : Int) * codeAt d 1)) ∧ x_1.2.1 = x_1.2.1 ∧ (↑x.1 : Int) = (↑x.1 : Int) ∧ (↑x_1.1 : Int) = (↑x_1.1 : Int) ∧ (9 : Int) = tenK
  x_1.1) ∧ ((1 : Int) = (1 : Int) ∧ false = false) ∧ frR (qaF d) (qbF d) x_1.2 = frR (qaF d) (qbF d) x_1.2))) ∧ (decide ((↑x_1.1 : Int) = (2 : Int)) = false → ∃ (x' : Unit), x_1.1 < (3 : Nat) ∧ (d = d ∧ IntKind.wrap
  IntKind.i64 ((100 : Int) + IntKind.wrap IntKind.i64 ((7 : Int) * codeAt d 0)) = IntKind.wrap IntKind.i64 ((100 : Int) + IntKind.wrap IntKind.i64 ((7 : Int) * codeAt d 0)) ∧ IntKind.wrap IntKind.i64 ((100 : Int) +
  IntKind.wrap IntKind.i64 ((3 : Int) * codeAt d 1)) = IntKind.wrap IntKind.i64 ((100 : Int) + IntKind.wrap IntKind.i64 ((3 : Int) * codeAt d 1)) ∧ x_1.2.1 = x_1.2.1 ∧ (↑x.1 : Int) = (↑x.1 : Int) ∧ (↑x_1.1 : Int) =
  (↑x_1.1 : Int) ∧ (2 : Int) = tenK x_1.1) ∧ ((1 : Int) = (1 : Int) ∧ false = false) ∧ frR (qaF d) (qbF d) x_1.2 = frR (qaF d) (qbF d) x_1.2)) ∧ ∀ (x_2 : Unit), x_1.1 < (3 : Nat) → (0 : Int) ≤ IntKind.wrap IntKind.i64
  (IntKind.wrap IntKind.i64 ((3 : Int) * (↑x.1 : Int)) + (↑x_1.1 : Int)) ∧ (Ty.wf i64T (codeAt d (IntKind.wrap IntKind.i64 (IntKind.wrap IntKind.i64 ((3 : Int) * (↑x.1 : Int)) + (↑x_1.1 : Int)))) → (0 : Int) ≤
  IntKind.wrap IntKind.i64 ((↑x.1 : Int) + (↑x_1.1 : Int)) ∧ (Ty.wf i64T (codeAt d (IntKind.wrap IntKind.i64 ((↑x.1 : Int) + (↑x_1.1 : Int)))) → (20 : Int) ≠ (0 : Int) ∧ ((0 : Int) ≤ IntKind.wrap IntKind.i64 ((↑x.1 :
  Int) + IntKind.wrap IntKind.i64 ((2 : Int) * (↑x_1.1 : Int))) ∧ (Ty.wf i64T (codeAt d (IntKind.wrap IntKind.i64 ((↑x.1 : Int) + IntKind.wrap IntKind.i64 ((2 : Int) * (↑x_1.1 : Int))))) → (16 : Int) ≠ (0 : Int) ∧
  (decide (Int.tmod (codeAt d (IntKind.wrap IntKind.i64 ((↑x.1 : Int) + IntKind.wrap IntKind.i64 ((2 : Int) * (↑x_1.1 : Int))))) (16 : Int) = (0 : Int)) = true → ∃ (x' : Int), ((1 : Int) ≤ x' ∧ x' ≤ (200000 : Int)) ∧ (d
  = d ∧ IntKind.wrap IntKind.i64 ((100 : Int) + IntKind.wrap IntKind.i64 ((7 : Int) * codeAt d 0)) = IntKind.wrap IntKind.i64 ((100 : Int) + IntKind.wrap IntKind.i64 ((7 : Int) * codeAt d 0)) ∧ IntKind.wrap IntKind.i64
  ((100 : Int) + IntKind.wrap IntKind.i64 ((3 : Int) * codeAt d 1)) = IntKind.wrap IntKind.i64 ((100 : Int) + IntKind.wrap IntKind.i64 ((3 : Int) * codeAt d 1)) ∧ IntKind.wrap IntKind.i64 (x_1.2.1 + (1 : Int)) = x_1.2.1
  + (1 : Int) ∧ (↑x.1 : Int) = (↑x.1 : Int) ∧ (↑x_1.1 : Int) = (↑x_1.1 : Int) ∧ tenK x_1.1 = tenK x_1.1 ∧ IntKind.wrap IntKind.i64 ((1 : Int) + IntKind.wrap IntKind.i64 (IntKind.wrap IntKind.i64 ((1 : Int) + IntKind.wrap
  IntKind.i64 (codeAt d (IntKind.wrap IntKind.i64 (IntKind.wrap IntKind.i64 ((3 : Int) * (↑x.1 : Int)) + (↑x_1.1 : Int))) * IntKind.wrap IntKind.i64 ((1 : Int) + Int.tmod (codeAt d (IntKind.wrap IntKind.i64 ((↑x.1 : Int)
  + (↑x_1.1 : Int)))) (20 : Int)))) * (37 : Int))) = x') ∧ ((1 : Int) = (1 : Int) ∧ false = false) ∧ frR (qaF d) (qbF d) x_1.2 = frR (qaF d) (qbF d) x_1.2) ∧ (decide (Int.tmod (codeAt d (IntKind.wrap IntKind.i64 ((↑x.1 :
  Int) + IntKind.wrap IntKind.i64 ((2 : Int) * (↑x_1.1 : Int))))) (16 : Int) = (0 : Int)) = false → ∃ (x' : Int), ((1 : Int) ≤ x' ∧ x' ≤ (200000 : Int)) ∧ (d = d ∧ IntKind.wrap IntKind.i64 ((100 : Int) + IntKind.wrap
  IntKind.i64 ((7 : Int) * codeAt d 0)) = IntKind.wrap IntKind.i64 ((100 : Int) + IntKind.wrap IntKind.i64 ((7 : Int) * codeAt d 0)) ∧ IntKind.wrap IntKind.i64 ((100 : Int) + IntKind.wrap IntKind.i64 ((3 : Int) * codeAt
  d 1)) = IntKind.wrap IntKind.i64 ((100 : Int) + IntKind.wrap IntKind.i64 ((3 : Int) * codeAt d 1)) ∧ IntKind.wrap IntKind.i64 (x_1.2.1 + (1 : Int)) = x_1.2.1 + (1 : Int) ∧ (↑x.1 : Int) = (↑x.1 : Int) ∧ (↑x_1.1 : Int) =
  (↑x_1.1 : Int) ∧ tenK x_1.1 = tenK x_1.1 ∧ IntKind.wrap IntKind.i64 ((1 : Int) + IntKind.wrap IntKind.i64 (codeAt d (IntKind.wrap IntKind.i64 (IntKind.wrap IntKind.i64 ((3 : Int) * (↑x.1 : Int)) + (↑x_1.1 : Int))) *
  IntKind.wrap IntKind.i64 ((1 : Int) + Int.tmod (codeAt d (IntKind.wrap IntKind.i64 ((↑x.1 : Int) + (↑x_1.1 : Int)))) (20 : Int)))) = x') ∧ ((1 : Int) = (1 : Int) ∧ false = false) ∧ frR (qaF d) (qbF d) x_1.2 = frR (qaF
  d) (qbF d) x_1.2))) ∧ ∀ (x_3 : Int), (1 : Int) ≤ x_3 ∧ x_3 ≤ (200000 : Int) → FlsP (frR (qaF d) (qbF d) x_1.2) ∧ (Ty.wf ringT (Prod.fst (pushTkF (frR (qaF d) (qbF d) x_1.2, (1 : Int), false) (tenK x_1.1) (x_1.2.1 + (1
  : Int), x_3))) ∧ Ty.wf Ty.bool (Prod.snd (pushTkF (frR (qaF d) (qbF d) x_1.2, (1 : Int), false) (tenK x_1.1) (x_1.2.1 + (1 : Int), x_3))) → ((!Prod.snd (pushTkF (frR (qaF d) (qbF d) x_1.2, (1 : Int), false) (tenK
  x_1.1) (x_1.2.1 + (1 : Int), x_3))) = true → false = true) ∧ ((!Prod.snd (pushTkF (frR (qaF d) (qbF d) x_1.2, (1 : Int), false) (tenK x_1.1) (x_1.2.1 + (1 : Int), x_3))) = false → ∃ (x' : Nat × Int × List (Int × Int) ×
  List (Int × Int) × List (Int × Int)), (x'.1 ≤ (3 : Nat) ∧ frP x.1 x'.1 x'.2) ∧ (3 : Nat) - x'.1 < (3 : Nat) - x_1.1 ∧ (d = d ∧ IntKind.wrap IntKind.i64 ((100 : Int) + IntKind.wrap IntKind.i64 ((7 : Int) * codeAt d 0))
  = IntKind.wrap IntKind.i64 ((100 : Int) + IntKind.wrap IntKind.i64 ((7 : Int) * codeAt d 0)) ∧ IntKind.wrap IntKind.i64 ((100 : Int) + IntKind.wrap IntKind.i64 ((3 : Int) * codeAt d 1)) = IntKind.wrap IntKind.i64 ((100
  : Int) + IntKind.wrap IntKind.i64 ((3 : Int) * codeAt d 1)) ∧ x_1.2.1 + (1 : Int) = x'.2.1 ∧ (↑x.1 : Int) = (↑x.1 : Int) ∧ IntKind.wrap IntKind.i64 ((↑x_1.1 : Int) + (1 : Int)) = (↑x'.1 : Int)) ∧ (Prod.fst (Prod.snd
  (Prod.fst (pushTkF (frR (qaF d) (qbF d) x_1.2, (1 : Int), false) (tenK x_1.1) (x_1.2.1 + (1 : Int), x_3)))) = (1 : Int) ∧ Prod.snd (Prod.snd (Prod.fst (pushTkF (frR (qaF d) (qbF d) x_1.2, (1 : Int), false) (tenK x_1.1)
  (x_1.2.1 + (1 : Int), x_3)))) = false) ∧ Prod.fst (Prod.fst (pushTkF (frR (qaF d) (qbF d) x_1.2, (1 : Int), false) (tenK x_1.1) (x_1.2.1 + (1 : Int), x_3))) = frR (qaF d) (qbF d) x'.2)))))) ∧ (decide ((↑x_1.1 : Int) <
  (3 : Int)) = false → ∃ (x' : Nat × Int × List (Int × Int) × List (Int × Int) × List (Int × Int)), (x'.1 ≤ (40 : Nat) ∧ frP x'.1 (0 : Nat) x'.2) ∧ (40 : Nat) - x'.1 < (40 : Nat) - x.1 ∧ (d = d ∧ IntKind.wrap IntKind.i64
  ((100 : Int) + IntKind.wrap IntKind.i64 ((7 : Int) * codeAt d 0)) = IntKind.wrap IntKind.i64 ((100 : Int) + IntKind.wrap IntKind.i64 ((7 : Int) * codeAt d 0)) ∧ IntKind.wrap IntKind.i64 ((100 : Int) + IntKind.wrap
  IntKind.i64 ((3 : Int) * codeAt d 1)) = IntKind.wrap IntKind.i64 ((100 : Int) + IntKind.wrap IntKind.i64 ((3 : Int) * codeAt d 1)) ∧ x_1.2.1 = x'.2.1 ∧ IntKind.wrap IntKind.i64 ((↑x.1 : Int) + (1 : Int)) = (↑x'.1 :
  Int)) ∧ ((1 : Int) = (1 : Int) ∧ false = false) ∧ frR (qaF d) (qbF d) x_1.2 = frR (qaF d) (qbF d) x'.2)) ∧ (decide ((↑x.1 : Int) < (40 : Int)) = false → ∃ (x' : Int × List (Int × Int) × List (Int × Int) × List (Int ×
  Int)), frP (40 : Nat) (0 : Nat) x' ∧ (d = d ∧ IntKind.wrap IntKind.i64 ((100 : Int) + IntKind.wrap IntKind.i64 ((7 : Int) * codeAt d 0)) = IntKind.wrap IntKind.i64 ((100 : Int) + IntKind.wrap IntKind.i64 ((7 : Int) *
  codeAt d 0)) ∧ IntKind.wrap IntKind.i64 ((100 : Int) + IntKind.wrap IntKind.i64 ((3 : Int) * codeAt d 1)) = IntKind.wrap IntKind.i64 ((100 : Int) + IntKind.wrap IntKind.i64 ((3 : Int) * codeAt d 1))) ∧ ((1 : Int) = (1
  : Int) ∧ false = false) ∧ frR (qaF d) (qbF d) x.2 = frR (qaF d) (qbF d) x')) ∧ ∀ (x : Int × List (Int × Int) × List (Int × Int) × List (Int × Int)), frP (40 : Nat) (0 : Nat) x → True ∧ (Ty.wf i64T (gapF (frR (qaF d)
  (qbF d) x, (1 : Int), false) (4 : Int) (2 : Int)) → ((!decide (gapF (frR (qaF d) (qbF d) x, (1 : Int), false) (4 : Int) (2 : Int) = IntKind.wrap IntKind.i64 (IntKind.wrap IntKind.i64 (IntKind.wrap IntKind.i64 ((2 :
  Int) * IntKind.wrap IntKind.i64 ((100 : Int) + IntKind.wrap IntKind.i64 ((7 : Int) * codeAt d 0))) * IntKind.wrap IntKind.i64 ((100 : Int) + IntKind.wrap IntKind.i64 ((3 : Int) * codeAt d 1))) + IntKind.wrap
  IntKind.i64 ((200000 : Int) * IntKind.wrap IntKind.i64 (IntKind.wrap IntKind.i64 ((100 : Int) + IntKind.wrap IntKind.i64 ((7 : Int) * codeAt d 0)) + IntKind.wrap IntKind.i64 ((100 : Int) + IntKind.wrap IntKind.i64 ((3
  : Int) * codeAt d 1))))))) = true → false = true) ∧ ((!decide (gapF (frR (qaF d) (qbF d) x, (1 : Int), false) (4 : Int) (2 : Int) = IntKind.wrap IntKind.i64 (IntKind.wrap IntKind.i64 (IntKind.wrap IntKind.i64 ((2 :
  Int) * IntKind.wrap IntKind.i64 ((100 : Int) + IntKind.wrap IntKind.i64 ((7 : Int) * codeAt d 0))) * IntKind.wrap IntKind.i64 ((100 : Int) + IntKind.wrap IntKind.i64 ((3 : Int) * codeAt d 1))) + IntKind.wrap
  IntKind.i64 ((200000 : Int) * IntKind.wrap IntKind.i64 (IntKind.wrap IntKind.i64 ((100 : Int) + IntKind.wrap IntKind.i64 ((7 : Int) * codeAt d 0)) + IntKind.wrap IntKind.i64 ((100 : Int) + IntKind.wrap IntKind.i64 ((3
  : Int) * codeAt d 1))))))) = false → frH (qaF d) (qbF d) ((frR (qaF d) (qbF d) x, (1 : Int), false), (0 : Int), (0 : Int)) ∧ ((d = d ∧ IntKind.wrap IntKind.i64 ((100 : Int) + IntKind.wrap IntKind.i64 ((7 : Int) *
  codeAt d 0)) = IntKind.wrap IntKind.i64 ((100 : Int) + IntKind.wrap IntKind.i64 ((7 : Int) * codeAt d 0)) ∧ IntKind.wrap IntKind.i64 ((100 : Int) + IntKind.wrap IntKind.i64 ((3 : Int) * codeAt d 1)) = IntKind.wrap
  IntKind.i64 ((100 : Int) + IntKind.wrap IntKind.i64 ((3 : Int) * codeAt d 1)) ∧ gapF (frR (qaF d) (qbF d) x, (1 : Int), false) (4 : Int) (2 : Int) = gapF (frR (qaF d) (qbF d) x, (1 : Int), false) (4 : Int) (2 : Int) ∧
  (0 : Int) = (0 : Int) ∧ (0 : Int) = (0 : Int) ∧ (40 : Int) = (↑(lnA (frR (qaF d) (qbF d) x, (1 : Int), false)) : Int) ∧ (40 : Int) = (↑(lnB (frR (qaF d) (qbF d) x, (1 : Int), false)) : Int)) ∧ ((1 : Int) = (1 : Int) ∧
  false = false) ∧ frR (qaF d) (qbF d) x = frR (qaF d) (qbF d) x) ∧ ∀ (x_1 : (List (Int × Int × Int × List (Int × Int)) × Int × Bool) × Int × Int), frH (qaF d) (qbF d) x_1 → (decide ((0 : Int) < (↑(lnA x_1.1) : Int)) =
  true → (decide ((0 : Int) < (↑(lnB x_1.1) : Int)) = true → FlsP x_1.1.1 ∧ (Ty.wf ringT (Prod.fst (nextTkF x_1.1)) ∧ Ty.wf i64T (Prod.fst (Prod.snd (nextTkF x_1.1))) ∧ Ty.wf tkT (Prod.fst (Prod.snd (Prod.snd (nextTkF
  x_1.1)))) ∧ Ty.wf Ty.bool (Prod.snd (Prod.snd (Prod.snd (nextTkF x_1.1)))) → ((!Prod.snd (Prod.snd (Prod.snd (nextTkF x_1.1)))) = true → false = true) ∧ ((!Prod.snd (Prod.snd (Prod.snd (nextTkF x_1.1)))) = false →
  (decide (Prod.fst (Prod.snd (nextTkF x_1.1)) = (4 : Int)) = true → (decide (Prod.fst (Prod.snd (nextTkF x_1.1)) = (2 : Int)) = true → (decide (gapF (frR (qaF d) (qbF d) x, (1 : Int), false) (4 : Int) (2 : Int) ≤
  IntKind.wrap IntKind.i64 (IntKind.wrap IntKind.i64 (IntKind.wrap IntKind.i64 (x_1.2.1 + Prod.snd (Prod.fst (Prod.snd (Prod.snd (nextTkF x_1.1))))) * IntKind.wrap IntKind.i64 ((100 : Int) + IntKind.wrap IntKind.i64 ((3
  : Int) * codeAt d 1))) - IntKind.wrap IntKind.i64 (IntKind.wrap IntKind.i64 (x_1.2.2 + Prod.snd (Prod.fst (Prod.snd (Prod.snd (nextTkF x_1.1))))) * IntKind.wrap IntKind.i64 ((100 : Int) + IntKind.wrap IntKind.i64 ((7 :
  Int) * codeAt d 0))))) = true → false = true) ∧ (decide (gapF (frR (qaF d) (qbF d) x, (1 : Int), false) (4 : Int) (2 : Int) ≤ IntKind.wrap IntKind.i64 (IntKind.wrap IntKind.i64 (IntKind.wrap IntKind.i64 (x_1.2.1 +
  Prod.snd (Prod.fst (Prod.snd (Prod.snd (nextTkF x_1.1))))) * IntKind.wrap IntKind.i64 ((100 : Int) + IntKind.wrap IntKind.i64 ((3 : Int) * codeAt d 1))) - IntKind.wrap IntKind.i64 (IntKind.wrap IntKind.i64 (x_1.2.2 +
  Prod.snd (Prod.fst (Prod.snd (Prod.snd (nextTkF x_1.1))))) * IntKind.wrap IntKind.i64 ((100 : Int) + IntKind.wrap IntKind.i64 ((7 : Int) * codeAt d 0))))) = false → (decide (IntKind.wrap IntKind.i64 (IntKind.wrap
  IntKind.i64 (IntKind.wrap IntKind.i64 (x_1.2.1 + Prod.snd (Prod.fst (Prod.snd (Prod.snd (nextTkF x_1.1))))) * IntKind.wrap IntKind.i64 ((100 : Int) + IntKind.wrap IntKind.i64 ((3 : Int) * codeAt d 1))) - IntKind.wrap
  IntKind.i64 (IntKind.wrap IntKind.i64 (x_1.2.2 + Prod.snd (Prod.fst (Prod.snd (Prod.snd (nextTkF x_1.1))))) * IntKind.wrap IntKind.i64 ((100 : Int) + IntKind.wrap IntKind.i64 ((7 : Int) * codeAt d 0)))) ≤ IntKind.wrap
  IntKind.i64 ((0 : Int) - gapF (frR (qaF d) (qbF d) x, (1 : Int), false) (4 : Int) (2 : Int))) = true → false = true) ∧ (decide (IntKind.wrap IntKind.i64 (IntKind.wrap IntKind.i64 (IntKind.wrap IntKind.i64 (x_1.2.1 +
  Prod.snd (Prod.fst (Prod.snd (Prod.snd (nextTkF x_1.1))))) * IntKind.wrap IntKind.i64 ((100 : Int) + IntKind.wrap IntKind.i64 ((3 : Int) * codeAt d 1))) - IntKind.wrap IntKind.i64 (IntKind.wrap IntKind.i64 (x_1.2.2 +
  Prod.snd (Prod.fst (Prod.snd (Prod.snd (nextTkF x_1.1))))) * IntKind.wrap IntKind.i64 ((100 : Int) + IntKind.wrap IntKind.i64 ((7 : Int) * codeAt d 0)))) ≤ IntKind.wrap IntKind.i64 ((0 : Int) - gapF (frR (qaF d) (qbF
  d) x, (1 : Int), false) (4 : Int) (2 : Int))) = false → ∃ (x' : (List (Int × Int × Int × List (Int × Int)) × Int × Bool) × Int × Int), frH (qaF d) (qbF d) x' ∧ Int.toNat (waitGo x'.1.1 (0 : Int)) < Int.toNat (waitGo
  x_1.1.1 (0 : Int)) ∧ (d = d ∧ IntKind.wrap IntKind.i64 ((100 : Int) + IntKind.wrap IntKind.i64 ((7 : Int) * codeAt d 0)) = IntKind.wrap IntKind.i64 ((100 : Int) + IntKind.wrap IntKind.i64 ((7 : Int) * codeAt d 0)) ∧
  IntKind.wrap IntKind.i64 ((100 : Int) + IntKind.wrap IntKind.i64 ((3 : Int) * codeAt d 1)) = IntKind.wrap IntKind.i64 ((100 : Int) + IntKind.wrap IntKind.i64 ((3 : Int) * codeAt d 1)) ∧ gapF (frR (qaF d) (qbF d) x, (1
  : Int), false) (4 : Int) (2 : Int) = gapF (frR (qaF d) (qbF d) x, (1 : Int), false) (4 : Int) (2 : Int) ∧ IntKind.wrap IntKind.i64 (x_1.2.1 + Prod.snd (Prod.fst (Prod.snd (Prod.snd (nextTkF x_1.1))))) = x'.2.1 ∧
  IntKind.wrap IntKind.i64 (x_1.2.2 + Prod.snd (Prod.fst (Prod.snd (Prod.snd (nextTkF x_1.1))))) = x'.2.2 ∧ IntKind.wrap IntKind.i64 ((↑(lnA x_1.1) : Int) - (1 : Int)) = (↑(lnA x'.1) : Int) ∧ IntKind.wrap IntKind.i64
  ((↑(lnB x_1.1) : Int) - (1 : Int)) = (↑(lnB x'.1) : Int)) ∧ (Prod.fst (Prod.snd (Prod.fst (nextTkF x_1.1))) = x'.1.2.1 ∧ Prod.snd (Prod.snd (Prod.fst (nextTkF x_1.1))) = x'.1.2.2) ∧ Prod.fst (Prod.fst (nextTkF x_1.1))
  = x'.1.1))) ∧ (decide (Prod.fst (Prod.snd (nextTkF x_1.1)) = (2 : Int)) = false → (decide (gapF (frR (qaF d) (qbF d) x, (1 : Int), false) (4 : Int) (2 : Int) ≤ IntKind.wrap IntKind.i64 (IntKind.wrap IntKind.i64
  (IntKind.wrap IntKind.i64 (x_1.2.1 + Prod.snd (Prod.fst (Prod.snd (Prod.snd (nextTkF x_1.1))))) * IntKind.wrap IntKind.i64 ((100 : Int) + IntKind.wrap IntKind.i64 ((3 : Int) * codeAt d 1))) - IntKind.wrap IntKind.i64
  (x_1.2.2 * IntKind.wrap IntKind.i64 ((100 : Int) + IntKind.wrap IntKind.i64 ((7 : Int) * codeAt d 0))))) = true → false = true) ∧ (decide (gapF (frR (qaF d) (qbF d) x, (1 : Int), false) (4 : Int) (2 : Int) ≤
  IntKind.wrap IntKind.i64 (IntKind.wrap IntKind.i64 (IntKind.wrap IntKind.i64 (x_1.2.1 + Prod.snd (Prod.fst (Prod.snd (Prod.snd (nextTkF x_1.1))))) * IntKind.wrap IntKind.i64 ((100 : Int) + IntKind.wrap IntKind.i64 ((3
  : Int) * codeAt d 1))) - IntKind.wrap IntKind.i64 (x_1.2.2 * IntKind.wrap IntKind.i64 ((100 : Int) + IntKind.wrap IntKind.i64 ((7 : Int) * codeAt d 0))))) = false → (decide (IntKind.wrap IntKind.i64 (IntKind.wrap
  IntKind.i64 (IntKind.wrap IntKind.i64 (x_1.2.1 + Prod.snd (Prod.fst (Prod.snd (Prod.snd (nextTkF x_1.1))))) * IntKind.wrap IntKind.i64 ((100 : Int) + IntKind.wrap IntKind.i64 ((3 : Int) * codeAt d 1))) - IntKind.wrap
  IntKind.i64 (x_1.2.2 * IntKind.wrap IntKind.i64 ((100 : Int) + IntKind.wrap IntKind.i64 ((7 : Int) * codeAt d 0)))) ≤ IntKind.wrap IntKind.i64 ((0 : Int) - gapF (frR (qaF d) (qbF d) x, (1 : Int), false) (4 : Int) (2 :
  Int))) = true → false = true) ∧ (decide (IntKind.wrap IntKind.i64 (IntKind.wrap IntKind.i64 (IntKind.wrap IntKind.i64 (x_1.2.1 + Prod.snd (Prod.fst (Prod.snd (Prod.snd (nextTkF x_1.1))))) * IntKind.wrap IntKind.i64
  ((100 : Int) + IntKind.wrap IntKind.i64 ((3 : Int) * codeAt d 1))) - IntKind.wrap IntKind.i64 (x_1.2.2 * IntKind.wrap IntKind.i64 ((100 : Int) + IntKind.wrap IntKind.i64 ((7 : Int) * codeAt d 0)))) ≤ IntKind.wrap
  IntKind.i64 ((0 : Int) - gapF (frR (qaF d) (qbF d) x, (1 : Int), false) (4 : Int) (2 : Int))) = false → ∃ (x' : (List (Int × Int × Int × List (Int × Int)) × Int × Bool) × Int × Int), frH (qaF d) (qbF d) x' ∧ Int.toNat
  (waitGo x'.1.1 (0 : Int)) < Int.toNat (waitGo x_1.1.1 (0 : Int)) ∧ (d = d ∧ IntKind.wrap IntKind.i64 ((100 : Int) + IntKind.wrap IntKind.i64 ((7 : Int) * codeAt d 0)) = IntKind.wrap IntKind.i64 ((100 : Int) +
  IntKind.wrap IntKind.i64 ((7 : Int) * codeAt d 0)) ∧ IntKind.wrap IntKind.i64 ((100 : Int) + IntKind.wrap IntKind.i64 ((3 : Int) * codeAt d 1)) = IntKind.wrap IntKind.i64 ((100 : Int) + IntKind.wrap IntKind.i64 ((3 :
  Int) * codeAt d 1)) ∧ gapF (frR (qaF d) (qbF d) x, (1 : Int), false) (4 : Int) (2 : Int) = gapF (frR (qaF d) (qbF d) x, (1 : Int), false) (4 : Int) (2 : Int) ∧ IntKind.wrap IntKind.i64 (x_1.2.1 + Prod.snd (Prod.fst
  (Prod.snd (Prod.snd (nextTkF x_1.1))))) = x'.2.1 ∧ x_1.2.2 = x'.2.2 ∧ IntKind.wrap IntKind.i64 ((↑(lnA x_1.1) : Int) - (1 : Int)) = (↑(lnA x'.1) : Int) ∧ (↑(lnB x_1.1) : Int) = (↑(lnB x'.1) : Int)) ∧ (Prod.fst
  (Prod.snd (Prod.fst (nextTkF x_1.1))) = x'.1.2.1 ∧ Prod.snd (Prod.snd (Prod.fst (nextTkF x_1.1))) = x'.1.2.2) ∧ Prod.fst (Prod.fst (nextTkF x_1.1)) = x'.1.1)))) ∧ (decide (Prod.fst (Prod.snd (nextTkF x_1.1)) = (4 :
  Int)) = false → (decide (Prod.fst (Prod.snd (nextTkF x_1.1)) = (2 : Int)) = true → (decide (gapF (frR (qaF d) (qbF d) x, (1 : Int), false) (4 : Int) (2 : Int) ≤ IntKind.wrap IntKind.i64 (IntKind.wrap IntKind.i64
  (x_1.2.1 * IntKind.wrap IntKind.i64 ((100 : Int) + IntKind.wrap IntKind.i64 ((3 : Int) * codeAt d 1))) - IntKind.wrap IntKind.i64 (IntKind.wrap IntKind.i64 (x_1.2.2 + Prod.snd (Prod.fst (Prod.snd (Prod.snd (nextTkF
  x_1.1))))) * IntKind.wrap IntKind.i64 ((100 : Int) + IntKind.wrap IntKind.i64 ((7 : Int) * codeAt d 0))))) = true → false = true) ∧ (decide (gapF (frR (qaF d) (qbF d) x, (1 : Int), false) (4 : Int) (2 : Int) ≤
  IntKind.wrap IntKind.i64 (IntKind.wrap IntKind.i64 (x_1.2.1 * IntKind.wrap IntKind.i64 ((100 : Int) + IntKind.wrap IntKind.i64 ((3 : Int) * codeAt d 1))) - IntKind.wrap IntKind.i64 (IntKind.wrap IntKind.i64 (x_1.2.2 +
  Prod.snd (Prod.fst (Prod.snd (Prod.snd (nextTkF x_1.1))))) * IntKind.wrap IntKind.i64 ((100 : Int) + IntKind.wrap IntKind.i64 ((7 : Int) * codeAt d 0))))) = false → (decide (IntKind.wrap IntKind.i64 (IntKind.wrap
  IntKind.i64 (x_1.2.1 * IntKind.wrap IntKind.i64 ((100 : Int) + IntKind.wrap IntKind.i64 ((3 : Int) * codeAt d 1))) - IntKind.wrap IntKind.i64 (IntKind.wrap IntKind.i64 (x_1.2.2 + Prod.snd (Prod.fst (Prod.snd (Prod.snd
  (nextTkF x_1.1))))) * IntKind.wrap IntKind.i64 ((100 : Int) + IntKind.wrap IntKind.i64 ((7 : Int) * codeAt d 0)))) ≤ IntKind.wrap IntKind.i64 ((0 : Int) - gapF (frR (qaF d) (qbF d) x, (1 : Int), false) (4 : Int) (2 :
  Int))) = true → false = true) ∧ (decide (IntKind.wrap IntKind.i64 (IntKind.wrap IntKind.i64 (x_1.2.1 * IntKind.wrap IntKind.i64 ((100 : Int) + IntKind.wrap IntKind.i64 ((3 : Int) * codeAt d 1))) - IntKind.wrap
  IntKind.i64 (IntKind.wrap IntKind.i64 (x_1.2.2 + Prod.snd (Prod.fst (Prod.snd (Prod.snd (nextTkF x_1.1))))) * IntKind.wrap IntKind.i64 ((100 : Int) + IntKind.wrap IntKind.i64 ((7 : Int) * codeAt d 0)))) ≤ IntKind.wrap
  IntKind.i64 ((0 : Int) - gapF (frR (qaF d) (qbF d) x, (1 : Int), false) (4 : Int) (2 : Int))) = false → ∃ (x' : (List (Int × Int × Int × List (Int × Int)) × Int × Bool) × Int × Int), frH (qaF d) (qbF d) x' ∧ Int.toNat
  (waitGo x'.1.1 (0 : Int)) < Int.toNat (waitGo x_1.1.1 (0 : Int)) ∧ (d = d ∧ IntKind.wrap IntKind.i64 ((100 : Int) + IntKind.wrap IntKind.i64 ((7 : Int) * codeAt d 0)) = IntKind.wrap IntKind.i64 ((100 : Int) +
  IntKind.wrap IntKind.i64 ((7 : Int) * codeAt d 0)) ∧ IntKind.wrap IntKind.i64 ((100 : Int) + IntKind.wrap IntKind.i64 ((3 : Int) * codeAt d 1)) = IntKind.wrap IntKind.i64 ((100 : Int) + IntKind.wrap IntKind.i64 ((3 :
  Int) * codeAt d 1)) ∧ gapF (frR (qaF d) (qbF d) x, (1 : Int), false) (4 : Int) (2 : Int) = gapF (frR (qaF d) (qbF d) x, (1 : Int), false) (4 : Int) (2 : Int) ∧ x_1.2.1 = x'.2.1 ∧ IntKind.wrap IntKind.i64 (x_1.2.2 +
  Prod.snd (Prod.fst (Prod.snd (Prod.snd (nextTkF x_1.1))))) = x'.2.2 ∧ (↑(lnA x_1.1) : Int) = (↑(lnA x'.1) : Int) ∧ IntKind.wrap IntKind.i64 ((↑(lnB x_1.1) : Int) - (1 : Int)) = (↑(lnB x'.1) : Int)) ∧ (Prod.fst
  (Prod.snd (Prod.fst (nextTkF x_1.1))) = x'.1.2.1 ∧ Prod.snd (Prod.snd (Prod.fst (nextTkF x_1.1))) = x'.1.2.2) ∧ Prod.fst (Prod.fst (nextTkF x_1.1)) = x'.1.1))) ∧ (decide (Prod.fst (Prod.snd (nextTkF x_1.1)) = (2 :
  Int)) = false → (decide (gapF (frR (qaF d) (qbF d) x, (1 : Int), false) (4 : Int) (2 : Int) ≤ IntKind.wrap IntKind.i64 (IntKind.wrap IntKind.i64 (x_1.2.1 * IntKind.wrap IntKind.i64 ((100 : Int) + IntKind.wrap
  IntKind.i64 ((3 : Int) * codeAt d 1))) - IntKind.wrap IntKind.i64 (x_1.2.2 * IntKind.wrap IntKind.i64 ((100 : Int) + IntKind.wrap IntKind.i64 ((7 : Int) * codeAt d 0))))) = true → false = true) ∧ (decide (gapF (frR
  (qaF d) (qbF d) x, (1 : Int), false) (4 : Int) (2 : Int) ≤ IntKind.wrap IntKind.i64 (IntKind.wrap IntKind.i64 (x_1.2.1 * IntKind.wrap IntKind.i64 ((100 : Int) + IntKind.wrap IntKind.i64 ((3 : Int) * codeAt d 1))) -
  IntKind.wrap IntKind.i64 (x_1.2.2 * IntKind.wrap IntKind.i64 ((100 : Int) + IntKind.wrap IntKind.i64 ((7 : Int) * codeAt d 0))))) = false → (decide (IntKind.wrap IntKind.i64 (IntKind.wrap IntKind.i64 (x_1.2.1 *
  IntKind.wrap IntKind.i64 ((100 : Int) + IntKind.wrap IntKind.i64 ((3 : Int) * codeAt d 1))) - IntKind.wrap IntKind.i64 (x_1.2.2 * IntKind.wrap IntKind.i64 ((100 : Int) + IntKind.wrap IntKind.i64 ((7 : Int) * codeAt d
  0)))) ≤ IntKind.wrap IntKind.i64 ((0 : Int) - gapF (frR (qaF d) (qbF d) x, (1 : Int), false) (4 : Int) (2 : Int))) = true → false = true) ∧ (decide (IntKind.wrap IntKind.i64 (IntKind.wrap IntKind.i64 (x_1.2.1 *
  IntKind.wrap IntKind.i64 ((100 : Int) + IntKind.wrap IntKind.i64 ((3 : Int) * codeAt d 1))) - IntKind.wrap IntKind.i64 (x_1.2.2 * IntKind.wrap IntKind.i64 ((100 : Int) + IntKind.wrap IntKind.i64 ((7 : Int) * codeAt d
  0)))) ≤ IntKind.wrap IntKind.i64 ((0 : Int) - gapF (frR (qaF d) (qbF d) x, (1 : Int), false) (4 : Int) (2 : Int))) = false → ∃ (x' : (List (Int × Int × Int × List (Int × Int)) × Int × Bool) × Int × Int), frH (qaF d)
  (qbF d) x' ∧ Int.toNat (waitGo x'.1.1 (0 : Int)) < Int.toNat (waitGo x_1.1.1 (0 : Int)) ∧ (d = d ∧ IntKind.wrap IntKind.i64 ((100 : Int) + IntKind.wrap IntKind.i64 ((7 : Int) * codeAt d 0)) = IntKind.wrap IntKind.i64
  ((100 : Int) + IntKind.wrap IntKind.i64 ((7 : Int) * codeAt d 0)) ∧ IntKind.wrap IntKind.i64 ((100 : Int) + IntKind.wrap IntKind.i64 ((3 : Int) * codeAt d 1)) = IntKind.wrap IntKind.i64 ((100 : Int) + IntKind.wrap
  IntKind.i64 ((3 : Int) * codeAt d 1)) ∧ gapF (frR (qaF d) (qbF d) x, (1 : Int), false) (4 : Int) (2 : Int) = gapF (frR (qaF d) (qbF d) x, (1 : Int), false) (4 : Int) (2 : Int) ∧ x_1.2.1 = x'.2.1 ∧ x_1.2.2 = x'.2.2 ∧
  (↑(lnA x_1.1) : Int) = (↑(lnA x'.1) : Int) ∧ (↑(lnB x_1.1) : Int) = (↑(lnB x'.1) : Int)) ∧ (Prod.fst (Prod.snd (Prod.fst (nextTkF x_1.1))) = x'.1.2.1 ∧ Prod.snd (Prod.snd (Prod.fst (nextTkF x_1.1))) = x'.1.2.2) ∧
  Prod.fst (Prod.fst (nextTkF x_1.1)) = x'.1.1))))))) ∧ (decide ((0 : Int) < (↑(lnB x_1.1) : Int)) = false → true = true)) ∧ (decide ((0 : Int) < (↑(lnA x_1.1) : Int)) = false → true = true)))))))))))) := by
  intro d hd _
  simp only [Int.toNat_natCast, exists_const, and_true, true_and, implies_true, decide_eq_true_eq, decide_eq_false_iff_not, Bool.not_eq_true', Bool.not_eq_false', beq_iff_eq, forall_const]
  intro hb
  have hb2 : d.length ≤ 1048576 := by unfold bigF at hb; have := of_decide_eq_false hb; omega
  have r0 := at_range hd hb2 (i := 0) (by omega) (by omega)
  have r1 := at_range hd hb2 (i := 1) (by omega) (by omega)
  have hqa : IntKind.i64.wrap (100 + IntKind.i64.wrap (7 * codeAt d 0)) = qaF d := by rw [wrap_small (n := 7 * codeAt d 0) (by omega), wrap_small (by omega)]; rfl
  have hqb : IntKind.i64.wrap (100 + IntKind.i64.wrap (3 * codeAt d 1)) = qbF d := by rw [wrap_small (n := 3 * codeAt d 1) (by omega), wrap_small (by omega)]; rfl
  have ba : 100 ≤ qaF d ∧ qaF d ≤ 2000 := by unfold qaF; omega
  have bb : 100 ≤ qbF d ∧ qbF d ≤ 2000 := by unfold qbF; omega
  have ba2 : 100 ≤ qaF d ∧ qaF d ≤ 100000 := by omega
  have bb2 : 100 ≤ qbF d ∧ qbF d ≤ 100000 := by omega
  rw [hqa, hqb, add1 ba2]
  simp only
  rw [add2 ba2 bb2]
  simp only
  rw [add3 ba2 bb2]
  simp only
  simp only [Int.toNat_natCast, exists_const, and_true, true_and, implies_true, decide_eq_true_eq, decide_eq_false_iff_not, Bool.not_eq_true', Bool.not_eq_false', beq_iff_eq, forall_const]
  have hat : ∀ n : Int, 0 ≤ n → n ≤ 1000 → 0 ≤ codeAt d n ∧ codeAt d n ≤ 255 := fun n h0 h1 => at_range hd hb2 h0 (by omega)
  have hf0 : FlsP [] := ⟨by simp, fun f h => by cases h⟩
  have hf1 : FlsP [(4, qaF d, 0, [])] := ⟨by simp, fun f h => by rw [List.mem_singleton.1 h]; simp⟩
  have hf2 : FlsP [(2, qbF d, 0, []), (4, qaF d, 0, [])] := ⟨by simp, fun f h => by
    simp only [List.mem_cons, List.mem_nil_iff, or_false] at h
    rcases h with e | e <;> subst e <;> simp⟩
  have hp0 : frP 0 0 (0, [], [], []) := ⟨Int.le_refl _, by simp, lnJ_nil, lnJ_nil, lnJ_nil, rfl, rfl, by simp⟩
  refine ⟨by omega, fun _ => ⟨by omega, fun _ => ⟨hf0, fun _ => ⟨hf1, fun _ => ⟨hf2, fun _ => ⟨nofun, nofun, nofun, ⟨⟨by omega, hp0⟩, rfl, fun x hx => ⟨fun hlt => ⟨⟨by omega, hx.2⟩, rfl, fun y hy => ⟨fun hk => ?_, fun hk => ?_⟩⟩, fun hge => ?_⟩⟩, fun x hx => ?_⟩⟩⟩⟩⟩⟩
  · have hk3 : y.1 < 3 := by omega
    have hi : x.1 < 40 := by omega
    have hwk : IntKind.i64.wrap ((y.1 : Int) + 1) = ((y.1 + 1 : Nat) : Int) := by rw [wrap_small (by omega)]; rfl
    have hid : 0 ≤ y.2.1 ∧ y.2.1 ≤ 200 := ⟨hy.2.1, by have := hy.2.2.1; omega⟩
    have w1 : IntKind.i64.wrap (IntKind.i64.wrap (3 * (x.1 : Int)) + (y.1 : Int)) = 3 * (x.1 : Int) + y.1 := by rw [wrap_small (n := 3 * (x.1 : Int)) (by omega), wrap_small (by omega)]
    have w2 : IntKind.i64.wrap ((x.1 : Int) + (y.1 : Int)) = (x.1 : Int) + y.1 := by rw [wrap_small (by omega)]
    have w3 : IntKind.i64.wrap ((x.1 : Int) + IntKind.i64.wrap (2 * (y.1 : Int))) = (x.1 : Int) + 2 * y.1 := by rw [wrap_small (n := 2 * (y.1 : Int)) (by omega), wrap_small (by omega)]
    have w4 : IntKind.i64.wrap (y.2.1 + 1) = y.2.1 + 1 := wrap_small (by omega)
    have c1 := cost_ok (hat (3 * (x.1 : Int) + y.1) (by omega) (by omega)) (hat ((x.1 : Int) + y.1) (by omega) (by omega))
    have c2 := cost_ok2 c1
    rw [w1, w2, w3, w4]
    refine ⟨fun h0 => ⟨⟨fun h2 => absurd h2 (by omega), fun _ => ⟨hk3, by rw [show y.1 = 0 by omega]; rfl⟩⟩, ?B⟩, fun h0 => ⟨⟨fun h2 => ⟨by omega, fun _ => ⟨by decide, fun _ => ⟨(y.1 + 1, y.2), ⟨by simp only; omega, ?S⟩, by simp only; omega, ⟨rfl, hwk⟩, rfl⟩, fun _ => ⟨hk3, by rw [show y.1 = 2 by omega]; rfl⟩⟩⟩, fun h2 => ⟨hk3, by rw [show y.1 = 1 by omega]; rfl⟩⟩, ?B2⟩⟩
    case S =>
      have h3 := hy.2
      have e : y.1 = 2 := by omega
      rw [e] at h3 ⊢
      exact fr_skip h3
    all_goals
      intro _
      refine ⟨by omega, fun _ => ⟨by omega, fun _ => ⟨by decide, ⟨by omega, fun _ => ⟨by decide, fun _ => ⟨_, c2, rfl, rfl⟩, fun _ => ⟨_, ⟨c1.1, by omega⟩, rfl, rfl⟩⟩⟩, fun c hc => ⟨fr_fls hy.2, fun _ => ?_⟩⟩⟩⟩
      obtain ⟨e1, e2⟩ := fr_push ba2 bb2 hi hk3 hy.2 hc
      rw [e1]
      exact ⟨nofun, fun _ => ⟨(y.1 + 1, frPu y.1 y.2 c), ⟨by simp only; omega, e2⟩, by simp only; omega, ⟨(frPu_1 ..).symm, hwk⟩, ⟨rfl, rfl⟩, rfl⟩⟩
  · exact ⟨(x.1 + 1, y.2), ⟨by simp only; omega, fr_next (by omega) hy.2⟩, by simp only; omega, ⟨rfl, by rw [wrap_small (by omega)]; rfl⟩, rfl⟩
  · have e : x.1 = 40 := by omega
    have h2 := hx.2
    rw [e] at h2
    exact ⟨x.2, h2, rfl⟩
  · obtain ⟨g1, g2, g3⟩ := fr_gap ba bb hx
    have hg : IntKind.i64.wrap (IntKind.i64.wrap (IntKind.i64.wrap (2 * qaF d) * qbF d) + IntKind.i64.wrap (200000 * IntKind.i64.wrap (qaF d + qbF d))) = 2 * (qaF d * qbF d) + 200000 * (qaF d + qbF d) := g2
    rw [g1, g2, hg]
    have lA : lnA (frR (qaF d) (qbF d) x, 1, false) = 40 := hx.2.2.2.2.2.2.1
    have lB : lnB (frR (qaF d) (qbF d) x, 1, false) = 40 := hx.2.2.2.2.2.1
    refine fun _ => ⟨fun h => absurd rfl h, fun _ => ⟨fr_start ba bb hx, ⟨by rw [lA]; rfl, by rw [lB]; rfl⟩, fun y hy hA hB => ?_⟩⟩
    obtain ⟨k1, k2, k3, k4, k5, k6⟩ := fr_tick ba bb hy (by omega) (by omega)
    have b1 := hy.2.1
    have b2 := hy.2.2.1
    have b3 := hy.2.2.2.1
    have b4 := hy.2.2.2.2.1
    rw [k1]
    refine ⟨k2, fun _ => ⟨nofun, fun _ => ?_⟩⟩
    have wa : IntKind.i64.wrap (y.2.1 + (nextTkF y.1).2.2.1.2) = y.2.1 + (nextTkF y.1).2.2.1.2 := wrap_small (by omega)
    have wb : IntKind.i64.wrap (y.2.2 + (nextTkF y.1).2.2.1.2) = y.2.2 + (nextTkF y.1).2.2.1.2 := wrap_small (by omega)
    have vA : IntKind.i64.wrap ((lnA y.1 : Int) - 1) = (lnA y.1 : Int) - 1 := wrap_small (by omega)
    have vB : IntKind.i64.wrap ((lnB y.1 : Int) - 1) = (lnB y.1 : Int) - 1 := wrap_small (by omega)
    rcases k6 with ⟨t1, t2, t3, t4, t5⟩ | ⟨t1, t2, t3, t4, t5⟩ | ⟨t1, t2, t3, t4, t5⟩
    · rw [t1, wa, wb, vA, vB]
      obtain ⟨q1, q2⟩ := fr_chk ba bb ⟨by omega, by omega⟩ ⟨by omega, by omega⟩ g3 t5
      refine ⟨fun _ => ⟨fun h => absurd h (by decide), fun _ => ⟨fun h => absurd h q1, fun _ => ⟨fun h => absurd h q2, fun _ => ⟨(_, _, _), t2, k3, ⟨rfl, rfl, ?_, ?_⟩, ⟨rfl, rfl⟩, rfl⟩⟩⟩⟩, fun h => absurd rfl h⟩
      · show (lnA y.1 : Int) - 1 = (lnA (nextTkF y.1).1 : Int); omega
      · rw [t4]
    · rw [t1, wa, wb, vA, vB]
      obtain ⟨q1, q2⟩ := fr_chk ba bb ⟨by omega, by omega⟩ ⟨by omega, by omega⟩ g3 t5
      refine ⟨fun h => absurd h (by decide), fun _ => ⟨fun _ => ⟨fun h => absurd h q1, fun _ => ⟨fun h => absurd h q2, fun _ => ⟨(_, _, _), t2, k3, ⟨rfl, rfl, ?_, ?_⟩, ⟨rfl, rfl⟩, rfl⟩⟩⟩, fun h => absurd rfl h⟩⟩
      · rw [t3]
      · show (lnB y.1 : Int) - 1 = (lnB (nextTkF y.1).1 : Int); omega
    · rw [t1, wa, wb, vA, vB]
      obtain ⟨q1, q2⟩ := fr_chk ba bb ⟨by omega, by omega⟩ ⟨by omega, by omega⟩ g3 t5
      refine ⟨fun h => absurd h (by decide), fun _ => ⟨fun h => absurd h (by decide), fun _ => ⟨fun h => absurd h q1, fun _ => ⟨fun h => absurd h q2, fun _ => ⟨(_, _, _), t2, k3, ⟨rfl, rfl, ?_, ?_⟩, ⟨rfl, rfl⟩, rfl⟩⟩⟩⟩⟩
      · rw [t3]
      · rw [t4]
end Go.SF
