/- Exact products and series, from the code. No condition. -/
import Derived.Test.YtobmiihdfklmaaaGreatSxPJob
import Derived.Test.YtobmiihdfklmaaaGreatSxPJobT
import Derived.Test.YtobmiihdfklmaaaGreatSxPPoly
namespace Go.SF
open Go.SX Go
set_option linter.unusedVariables false
set_option linter.unusedSimpArgs false
theorem cvL_succ (a b : List Int) (n : Nat) : cvL a b n ++ [cvS a b n (min (n + 1) a.length)] = cvL a b (n + 1) := mr_succ (fun i => cvS a b i (min (i + 1) a.length)) n
theorem cvL_len (a b : List Int) (n : Nat) : (cvL a b n).length = n := mr_len _ n
theorem cvS_step {a b : List Int} {i j : Nat} (h : i - j < b.length) : cvS a b i (j + 1) = cvS a b i j + a.getD j 0 * b.getD (i - j) 0 := by
  show (if _ then _ else _) = _
  rw [if_pos h]
theorem cvS_skip {a b : List Int} {i j : Nat} (h : ¬ i - j < b.length) : cvS a b i (j + 1) = cvS a b i j := by
  show (if _ then _ else _) = _
  rw [if_neg h]
theorem terms_at {l : List Int} (h : termsB l = true) : l.length ≤ 200 ∧ ∀ t, -1000000 ≤ l.getD t 0 ∧ l.getD t 0 ≤ 1000000 := by
  unfold termsB at h
  simp only [Bool.and_eq_true, decide_eq_true_eq] at h
  refine ⟨h.1, fun t => ?_⟩
  rcases Nat.lt_or_ge t l.length with ht | ht
  · refine h.2 _ ?_
    rw [List.getD_eq_getElem?_getD, List.getElem?_eq_getElem ht]
    exact List.getElem_mem _
  · rw [get_out ht]; omega
theorem prod_bd {x y : Int} (hx : -1000000 ≤ x ∧ x ≤ 1000000) (hy : -1000000 ≤ y ∧ y ≤ 1000000) : -1000000000000 ≤ x * y ∧ x * y ≤ 1000000000000 := by
  have h : (x * y).natAbs ≤ 1000000 * 1000000 := by rw [Int.natAbs_mul]; exact Nat.mul_le_mul (by omega) (by omega)
  omega
theorem cvS_bd {a b : List Int} (ha : termsB a = true) (hb : termsB b = true) (i : Nat) : ∀ j : Nat, -(1000000000000 * (j : Int)) ≤ cvS a b i j ∧ cvS a b i j ≤ 1000000000000 * (j : Int)
  | 0 => by simp [cvS]
  | j + 1 => by
    have ih := cvS_bd ha hb i j
    have hp := prod_bd ((terms_at ha).2 j) ((terms_at hb).2 (i - j))
    by_cases h : i - j < b.length
    · rw [cvS_step h]; omega
    · rw [cvS_skip h]; omega
theorem cr_len (a b : List Int) (x y : Nat) : (cvRow a b x y).length = a.length + b.length - 1 := mr_len _ _
theorem cr_zero (a b : List Int) : List.replicate (a.length + b.length - 1) 0 = cvRow a b 0 0 := by
  rw [mr_const]
  refine mr_congr (fun t _ => ?_)
  rw [if_neg (by omega), Nat.zero_min]
  rfl
theorem cr_get {a b : List Int} {x y : Nat} (hx : x < a.length) (hy : y < b.length) : (cvRow a b x y).getD (x + y) 0 = cvS a b (x + y) x := by
  unfold cvRow
  rw [mr_get, if_pos (by omega), if_neg (by omega), Nat.min_eq_left (by omega)]
theorem cr_set {a b : List Int} {x y : Nat} (hx : x < a.length) (hy : y < b.length) : (cvRow a b x y).set (x + y) (cvS a b (x + y) (x + 1)) = cvRow a b x (y + 1) := by
  unfold cvRow
  rw [mr_set]
  refine mr_congr (fun t _ => ?_)
  by_cases h : t = x + y
  · subst h
    rw [if_pos rfl, if_pos (by omega)]
  · rw [if_neg h]
    by_cases h2 : x ≤ t ∧ t < x + y
    · rw [if_pos h2, if_pos (by omega)]
    · rw [if_neg h2, if_neg (by omega)]
theorem cr_next (a b : List Int) (x : Nat) : cvRow a b x b.length = cvRow a b (x + 1) 0 := by
  refine mr_congr (fun t _ => ?_)
  rw [if_neg (show ¬ (x + 1 ≤ t ∧ t < x + 1 + 0) by omega)]
  by_cases h : x ≤ t
  · rw [Nat.min_eq_left (show x + 1 ≤ t + 1 by omega)]
    by_cases h2 : t < x + b.length
    · rw [if_pos ⟨h, h2⟩]
    · rw [if_neg (by omega), Nat.min_eq_left (by omega), cvS_skip (by omega)]
  · rw [if_neg (by omega), Nat.min_eq_right (by omega), Nat.min_eq_right (by omega)]
theorem cr_end (a b : List Int) : cvRow a b a.length 0 = cvL a b (a.length + b.length - 1) := by
  refine mr_congr (fun t _ => ?_)
  rw [if_neg (by omega), Nat.min_comm]
theorem cv_wrap {a b : List Int} (ha : termsB a = true) (hb : termsB b = true) (i j k m : Nat) (hj : j ≤ 1000) : IntKind.i64.wrap (cvS a b i j + IntKind.i64.wrap (a.getD k 0 * b.getD m 0)) = cvS a b i j + a.getD k 0 * b.getD m 0 := by
  have h1 := cvS_bd ha hb i j
  have h2 := prod_bd ((terms_at ha).2 k) ((terms_at hb).2 m)
  have h3 : (1000000000000 * (j : Int)) ≤ 1000000000000000 := by omega
  rw [wrap_small (n := a.getD k 0 * b.getD m 0) (by omega), wrap_small (by omega)]
theorem cx_no {a b : List Int} (h : ¬ (termsB a = true ∧ termsB b = true)) : convXF a b = ([], false) := by
  unfold convXF
  rw [if_neg (by rw [Bool.and_eq_true]; exact h)]
theorem cx_nil {a b : List Int} (ha : termsB a = true) (hb : termsB b = true) (h : a.length = 0 ∨ b.length = 0) : convXF a b = ([], true) := by
  unfold convXF
  rw [if_pos (by rw [Bool.and_eq_true]; exact ⟨ha, hb⟩), if_pos h]
theorem cx_yes {a b : List Int} (ha : termsB a = true) (hb : termsB b = true) (h : ¬ (a.length = 0 ∨ b.length = 0)) : convXF a b = (cvL a b (a.length + b.length - 1), true) := by
  unfold convXF
  rw [if_pos (by rw [Bool.and_eq_true]; exact ⟨ha, hb⟩), if_neg h]
theorem v_S_ConvExact :
 ∀ (d : List Int × List Int), Ty.wf listT d.1 ∧ Ty.wf listT d.2 → True → True ∧ ((!termsB d.1) = true → ([], false) = convXF d.1 d.2) ∧ ((!termsB d.1) = false → True ∧ ((!termsB d.2) = true → ([], false) = convXF d.1
 d.2) ∧ ((!termsB d.2) = false → (decide ((↑d.1.length : Int) = (0 : Int)) = true → ([], true) = convXF d.1 d.2) ∧ (decide ((↑d.1.length : Int) = (0 : Int)) = false → (decide ((↑d.2.length : Int) = (0 : Int)) = true →
 ([], true) = convXF d.1 d.2) ∧ (decide ((↑d.2.length : Int) = (0 : Int)) = false → (0 : Nat) ≤ d.1.length + d.2.length - (1 : Nat) ∧ ((d.1 = d.1 ∧ d.2 = d.2 ∧ Value.slice none (0 : Nat) (0 : Nat) = Value.slice none (0 :
 Nat) (0 : Nat) ∧ (0 : Int) = (↑(0 : Nat) : Int)) ∧ [] = cvL d.1 d.2 (0 : Nat)) ∧ ∀ (x : Nat), x ≤ d.1.length + d.2.length - (1 : Nat) → (decide ((↑x : Int) < IntKind.wrap IntKind.i64 (IntKind.wrap IntKind.i64
 ((↑d.1.length : Int) + (↑d.2.length : Int)) - (1 : Int))) = true → (0 : Nat) ≤ min (x + (1 : Nat)) d.1.length ∧ ((d.1 = d.1 ∧ d.2 = d.2 ∧ Value.slice none (0 : Nat) (0 : Nat) = Value.slice none (0 : Nat) (0 : Nat) ∧ (↑x
 : Int) = (↑x : Int) ∧ (0 : Int) = cvS d.1 d.2 x (0 : Nat) ∧ (0 : Int) = (↑(0 : Nat) : Int)) ∧ cvL d.1 d.2 x = cvL d.1 d.2 x) ∧ ∀ (x_1 : Nat), x_1 ≤ min (x + (1 : Nat)) d.1.length → (decide ((↑x_1 : Int) ≤ (↑x : Int)) =
 true → (decide ((↑x_1 : Int) < (↑d.1.length : Int)) = true → (decide (IntKind.wrap IntKind.i64 ((↑x : Int) - (↑x_1 : Int)) < (↑d.2.length : Int)) = true → ((0 : Int) ≤ (↑x_1 : Int) ∧ (↑x_1 : Int) < (↑d.1.length : Int))
 ∧ ((0 : Int) ≤ IntKind.wrap IntKind.i64 ((↑x : Int) - (↑x_1 : Int)) ∧ IntKind.wrap IntKind.i64 ((↑x : Int) - (↑x_1 : Int)) < (↑d.2.length : Int)) ∧ ∃ (x' : Nat), x' ≤ min (x + (1 : Nat)) d.1.length ∧ min (x + (1 : Nat))
 d.1.length - x' < min (x + (1 : Nat)) d.1.length - x_1 ∧ (d.1 = d.1 ∧ d.2 = d.2 ∧ Value.slice none (0 : Nat) (0 : Nat) = Value.slice none (0 : Nat) (0 : Nat) ∧ (↑x : Int) = (↑x : Int) ∧ IntKind.wrap IntKind.i64 (cvS d.1
 d.2 x x_1 + IntKind.wrap IntKind.i64 (d.1.getD (Int.toNat (↑x_1 : Int)) (0 : Int) * d.2.getD (Int.toNat (IntKind.wrap IntKind.i64 ((↑x : Int) - (↑x_1 : Int)))) (0 : Int))) = cvS d.1 d.2 x x' ∧ IntKind.wrap IntKind.i64
 ((↑x_1 : Int) + (1 : Int)) = (↑x' : Int)) ∧ cvL d.1 d.2 x = cvL d.1 d.2 x) ∧ (decide (IntKind.wrap IntKind.i64 ((↑x : Int) - (↑x_1 : Int)) < (↑d.2.length : Int)) = false → ∃ (x' : Nat), x' ≤ min (x + (1 : Nat))
 d.1.length ∧ min (x + (1 : Nat)) d.1.length - x' < min (x + (1 : Nat)) d.1.length - x_1 ∧ (d.1 = d.1 ∧ d.2 = d.2 ∧ Value.slice none (0 : Nat) (0 : Nat) = Value.slice none (0 : Nat) (0 : Nat) ∧ (↑x : Int) = (↑x : Int) ∧
 cvS d.1 d.2 x x_1 = cvS d.1 d.2 x x' ∧ IntKind.wrap IntKind.i64 ((↑x_1 : Int) + (1 : Int)) = (↑x' : Int)) ∧ cvL d.1 d.2 x = cvL d.1 d.2 x)) ∧ (decide ((↑x_1 : Int) < (↑d.1.length : Int)) = false → (List.length (cvL d.1
 d.2 x) + List.length [cvS d.1 d.2 x x_1]) * (8 : Nat) ≤ (140737488355328 : Nat) ∧ ∃ (x' : Nat), x' ≤ d.1.length + d.2.length - (1 : Nat) ∧ d.1.length + d.2.length - (1 : Nat) - x' < d.1.length + d.2.length - (1 : Nat) -
 x ∧ (d.1 = d.1 ∧ d.2 = d.2 ∧ Value.slice none (0 : Nat) (0 : Nat) = Value.slice none (0 : Nat) (0 : Nat) ∧ IntKind.wrap IntKind.i64 ((↑x : Int) + (1 : Int)) = (↑x' : Int)) ∧ cvL d.1 d.2 x ++ [cvS d.1 d.2 x x_1] = cvL
 d.1 d.2 x')) ∧ (decide ((↑x_1 : Int) ≤ (↑x : Int)) = false → (List.length (cvL d.1 d.2 x) + List.length [cvS d.1 d.2 x x_1]) * (8 : Nat) ≤ (140737488355328 : Nat) ∧ ∃ (x' : Nat), x' ≤ d.1.length + d.2.length - (1 : Nat)
 ∧ d.1.length + d.2.length - (1 : Nat) - x' < d.1.length + d.2.length - (1 : Nat) - x ∧ (d.1 = d.1 ∧ d.2 = d.2 ∧ Value.slice none (0 : Nat) (0 : Nat) = Value.slice none (0 : Nat) (0 : Nat) ∧ IntKind.wrap IntKind.i64 ((↑x
 : Int) + (1 : Int)) = (↑x' : Int)) ∧ cvL d.1 d.2 x ++ [cvS d.1 d.2 x x_1] = cvL d.1 d.2 x')) ∧ (decide ((↑x : Int) < IntKind.wrap IntKind.i64 (IntKind.wrap IntKind.i64 ((↑d.1.length : Int) + (↑d.2.length : Int)) - (1 :
 Int))) = false → (cvL d.1 d.2 x, true) = convXF d.1 d.2))))) := by
  intro (d : List Int × List Int) hw hp
  obtain ⟨a, b⟩ := d
  simp only [Int.toNat_natCast, exists_const, and_true, true_and, implies_true, decide_eq_true_eq, decide_eq_false_iff_not, Bool.not_eq_true', Bool.not_eq_false', beq_iff_eq, forall_const]
  refine ⟨fun h => (cx_no (by simp [h])).symm, fun ha => ⟨fun h => (cx_no (by simp [h])).symm, fun hb => ⟨fun h => (cx_nil ha hb (by omega)).symm, fun h => ⟨fun h1 => (cx_nil ha hb (by omega)).symm, fun h1 => ?_⟩⟩⟩⟩
  have h3 := (terms_at ha).1
  have h4 := (terms_at hb).1
  have hw1 : IntKind.i64.wrap (IntKind.i64.wrap ((a.length : Int) + (b.length : Int)) - 1) = ((a.length + b.length - 1 : Nat) : Int) := by
    rw [wrap_small (n := (a.length : Int) + (b.length : Int)) (by omega), wrap_small (by omega)]; omega
  rw [hw1]
  refine ⟨by omega, ⟨rfl, rfl⟩, fun x hx => ?_⟩
  rw [cvL_len]
  refine ⟨fun h2 => ⟨by omega, ⟨rfl, rfl⟩, fun y hy => ?_⟩, fun h2 => ?_⟩
  · have fin : y = min (x + 1) a.length → (x + [cvS a b x y].length) * 8 ≤ 140737488355328 ∧ ∃ x', x' ≤ a.length + b.length - 1 ∧ a.length + b.length - 1 - x' < a.length + b.length - 1 - x ∧ IntKind.i64.wrap ((x : Int) + 1) = (x' : Int) ∧
        cvL a b x ++ [cvS a b x y] = cvL a b x' := fun e =>
      ⟨by simp only [List.length_cons, List.length_nil]; omega, x + 1, by omega, by omega, wrap_succ (by omega), by rw [e]; exact cvL_succ _ _ _⟩
    refine ⟨fun h3 => ⟨fun h4 => ?_, fun h4 => fin (by omega)⟩, fun h3 => fin (by omega)⟩
    have hw2 : IntKind.i64.wrap ((x : Int) - (y : Int)) = ((x - y : Nat) : Int) := by rw [wrap_small (by omega)]; omega
    rw [hw2, Int.toNat_natCast]
    refine ⟨fun h5 => ⟨⟨by omega, by omega⟩, ⟨by omega, by omega⟩, y + 1, by omega, by omega, ?_, wrap_succ (by omega)⟩, fun h5 => ⟨y + 1, by omega, by omega, (cvS_skip (by omega)).symm, wrap_succ (by omega)⟩⟩
    rw [cv_wrap ha hb _ _ _ _ (by omega), cvS_step (by omega)]
  · rw [cx_yes ha hb (by omega), show x = a.length + b.length - 1 by omega]
theorem v_I_ConvExact :
 ∀ (d : List Int × List Int), Ty.wf listT d.1 ∧ Ty.wf listT d.2 → True → True ∧ ((!termsB d.1) = true → ([], false) = convXF d.1 d.2) ∧ ((!termsB d.1) = false → True ∧ ((!termsB d.2) = true → ([], false) = convXF d.1
 d.2) ∧ ((!termsB d.2) = false → (decide ((↑d.1.length : Int) = (0 : Int)) = true → ([], true) = convXF d.1 d.2) ∧ (decide ((↑d.1.length : Int) = (0 : Int)) = false → (decide ((↑d.2.length : Int) = (0 : Int)) = true →
 ([], true) = convXF d.1 d.2) ∧ (decide ((↑d.2.length : Int) = (0 : Int)) = false → ((0 : Int) ≤ IntKind.wrap IntKind.i64 (IntKind.wrap IntKind.i64 ((↑d.1.length : Int) + (↑d.2.length : Int)) - (1 : Int)) ∧ IntKind.wrap
 IntKind.i64 (IntKind.wrap IntKind.i64 ((↑d.1.length : Int) + (↑d.2.length : Int)) - (1 : Int)) ≤ IntKind.wrap IntKind.i64 (IntKind.wrap IntKind.i64 ((↑d.1.length : Int) + (↑d.2.length : Int)) - (1 : Int)) ∧ IntKind.wrap
 IntKind.i64 (IntKind.wrap IntKind.i64 ((↑d.1.length : Int) + (↑d.2.length : Int)) - (1 : Int)) * (↑(8 : Nat) : Int) ≤ (140737488355328 : Int)) ∧ (0 : Nat) ≤ d.1.length ∧ ((d.1 = d.1 ∧ d.2 = d.2 ∧ Value.slice none (0 :
 Nat) (0 : Nat) = Value.slice none (0 : Nat) (0 : Nat) ∧ d.1 = d.1 ∧ (↑d.1.length : Int) = (↑d.1.length : Int) ∧ (0 : Int) = (↑(0 : Nat) : Int)) ∧ List.replicate (Int.toNat (IntKind.wrap IntKind.i64 (IntKind.wrap
 IntKind.i64 ((↑d.1.length : Int) + (↑d.2.length : Int)) - (1 : Int)))) (0 : Int) = cvRow d.1 d.2 (0 : Nat) (0 : Nat)) ∧ ∀ (x : Nat), x ≤ d.1.length → (decide ((↑x : Int) < (↑d.1.length : Int)) = true → ((0 : Int) ≤ (↑x
 : Int) ∧ (↑x : Int) < (↑d.1.length : Int)) ∧ (0 : Nat) ≤ d.2.length ∧ ((d.1 = d.1 ∧ d.2 = d.2 ∧ Value.slice none (0 : Nat) (0 : Nat) = Value.slice none (0 : Nat) (0 : Nat) ∧ (↑x : Int) = (↑x : Int) ∧ d.1.getD (Int.toNat
 (↑x : Int)) (0 : Int) = d.1.getD (Int.toNat (↑x : Int)) (0 : Int) ∧ d.1 = d.1 ∧ (↑d.1.length : Int) = (↑d.1.length : Int) ∧ (↑x : Int) = (↑x : Int) ∧ d.2 = d.2 ∧ (↑d.2.length : Int) = (↑d.2.length : Int) ∧ (0 : Int) =
 (↑(0 : Nat) : Int)) ∧ cvRow d.1 d.2 x (0 : Nat) = cvRow d.1 d.2 x (0 : Nat)) ∧ ∀ (x_1 : Nat), x_1 ≤ d.2.length → (decide ((↑x_1 : Int) < (↑d.2.length : Int)) = true → ((0 : Int) ≤ (↑x_1 : Int) ∧ (↑x_1 : Int) <
 (↑d.2.length : Int)) ∧ ((0 : Int) ≤ IntKind.wrap IntKind.i64 ((↑x : Int) + (↑x_1 : Int)) ∧ IntKind.wrap IntKind.i64 ((↑x : Int) + (↑x_1 : Int)) < (↑(List.length (cvRow d.1 d.2 x x_1)) : Int)) ∧ ((0 : Int) ≤ IntKind.wrap
 IntKind.i64 ((↑x : Int) + (↑x_1 : Int)) ∧ IntKind.wrap IntKind.i64 ((↑x : Int) + (↑x_1 : Int)) < (↑(List.length (cvRow d.1 d.2 x x_1)) : Int)) ∧ ∃ (x' : Nat), x' ≤ d.2.length ∧ d.2.length - x' < d.2.length - x_1 ∧ (d.1
 = d.1 ∧ d.2 = d.2 ∧ Value.slice none (0 : Nat) (0 : Nat) = Value.slice none (0 : Nat) (0 : Nat) ∧ (↑x : Int) = (↑x : Int) ∧ d.1.getD (Int.toNat (↑x : Int)) (0 : Int) = d.1.getD (Int.toNat (↑x : Int)) (0 : Int) ∧ d.1 =
 d.1 ∧ (↑d.1.length : Int) = (↑d.1.length : Int) ∧ (↑x : Int) = (↑x : Int) ∧ d.2 = d.2 ∧ (↑d.2.length : Int) = (↑d.2.length : Int) ∧ IntKind.wrap IntKind.i64 ((↑x_1 : Int) + (1 : Int)) = (↑x' : Int)) ∧ List.set (cvRow
 d.1 d.2 x x_1) (Int.toNat (IntKind.wrap IntKind.i64 ((↑x : Int) + (↑x_1 : Int)))) (IntKind.wrap IntKind.i64 (List.getD (cvRow d.1 d.2 x x_1) (Int.toNat (IntKind.wrap IntKind.i64 ((↑x : Int) + (↑x_1 : Int)))) (0 : Int) +
 IntKind.wrap IntKind.i64 (d.1.getD (Int.toNat (↑x : Int)) (0 : Int) * d.2.getD (Int.toNat (↑x_1 : Int)) (0 : Int)))) = cvRow d.1 d.2 x x') ∧ (decide ((↑x_1 : Int) < (↑d.2.length : Int)) = false → ∃ (x' : Nat), x' ≤
 d.1.length ∧ d.1.length - x' < d.1.length - x ∧ (d.1 = d.1 ∧ d.2 = d.2 ∧ Value.slice none (0 : Nat) (0 : Nat) = Value.slice none (0 : Nat) (0 : Nat) ∧ d.1 = d.1 ∧ (↑d.1.length : Int) = (↑d.1.length : Int) ∧ IntKind.wrap
 IntKind.i64 ((↑x : Int) + (1 : Int)) = (↑x' : Int)) ∧ cvRow d.1 d.2 x x_1 = cvRow d.1 d.2 x' (0 : Nat))) ∧ (decide ((↑x : Int) < (↑d.1.length : Int)) = false → (cvRow d.1 d.2 x (0 : Nat), true) = convXF d.1 d.2))))) := by
  intro (d : List Int × List Int) hw hp
  obtain ⟨a, b⟩ := d
  simp only [Int.toNat_natCast, exists_const, and_true, true_and, implies_true, decide_eq_true_eq, decide_eq_false_iff_not, Bool.not_eq_true', Bool.not_eq_false', beq_iff_eq, forall_const]
  refine ⟨fun h => (cx_no (by simp [h])).symm, fun ha => ⟨fun h => (cx_no (by simp [h])).symm, fun hb => ⟨fun h => (cx_nil ha hb (by omega)).symm, fun h => ⟨fun h1 => (cx_nil ha hb (by omega)).symm, fun h1 => ?_⟩⟩⟩⟩
  have h3 := (terms_at ha).1
  have h4 := (terms_at hb).1
  have hw1 : IntKind.i64.wrap (IntKind.i64.wrap ((a.length : Int) + (b.length : Int)) - 1) = ((a.length + b.length - 1 : Nat) : Int) := by
    rw [wrap_small (n := (a.length : Int) + (b.length : Int)) (by omega), wrap_small (by omega)]; omega
  rw [hw1, Int.toNat_natCast]
  refine ⟨⟨by omega, by omega, by omega⟩, by omega, ⟨rfl, cr_zero _ _⟩, fun x hx => ⟨fun h2 => ⟨⟨by omega, by omega⟩, by omega, rfl, fun y hy => ⟨fun h5 => ?_, fun h5 => ?_⟩⟩, fun h2 => ?_⟩⟩
  · have hw2 : IntKind.i64.wrap ((x : Int) + (y : Int)) = ((x + y : Nat) : Int) := by rw [wrap_small (by omega)]; omega
    rw [hw2, Int.toNat_natCast, cr_len, cr_get (by omega) (by omega), cv_wrap ha hb _ _ _ _ (by omega)]
    refine ⟨⟨by omega, by omega⟩, ⟨by omega, by omega⟩, ⟨by omega, by omega⟩, y + 1, by omega, by omega, wrap_succ (by omega), ?_⟩
    rw [← cr_set (by omega) (by omega), cvS_step (by omega), Nat.add_sub_cancel_left]
  · refine ⟨x + 1, by omega, by omega, wrap_succ (by omega), ?_⟩
    rw [show y = b.length by omega]
    exact cr_next _ _ _
  · rw [cx_yes ha hb (by omega), show x = a.length by omega, cr_end]
end Go.SF
