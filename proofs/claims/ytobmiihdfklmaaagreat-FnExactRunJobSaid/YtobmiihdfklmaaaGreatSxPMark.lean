/- What is owed of the code of the marks' functions. No condition. -/
import Derived.Test.YtobmiihdfklmaaaGreatSxC
import Derived.Test.YtobmiihdfklmaaaGreatSxPLine
namespace Go.SF
open Go.SX Go
set_option linter.unusedVariables false
set_option linter.unusedSimpArgs false
set_option maxRecDepth 10000
theorem mkGo_length {α : Type} (el : Int → α) (nx : Int → Int) : ∀ (xs : List α) (k : Int), (mkGo el nx xs k).length = xs.length
  | [], k => rfl
  | x :: xs, k => by simp [mkGo, mkGo_length el nx xs]
theorem held_mk {α : Type} {el : Int → α} {nx : Int → Int} {ok : α → Int → Bool} (h : ∀ k, ok (el k) k = true) : ∀ (xs : List α) (k : Int), heldGo ok nx (mkGo el nx xs k) k = mkEnd nx xs k
  | [], k => rfl
  | x :: xs, k => by simp [mkGo, heldGo, mkEnd, h, held_mk h xs]
theorem mkEnd_small {α : Type} {nx : Int → Int} (c : Nat) (h : ∀ k, 0 ≤ k → k ≤ 4611686018427387904 → nx k = k + c) : ∀ (xs : List α) (k : Int), 0 ≤ k → k + c * xs.length ≤ 4611686018427387904 → mkEnd nx xs k = k + c * xs.length
  | [], k, _, _ => by simp [mkEnd]
  | x :: xs, k, h0, h1 => by
    have e : (c : Int) * ((x :: xs).length : Int) = c + c * (xs.length : Int) := by rw [List.length_cons]; push_cast; rw [Int.mul_add, Int.mul_one, Int.add_comm]
    have hc : 0 ≤ (c : Int) * (xs.length : Int) := Int.mul_nonneg (by omega) (by omega)
    rw [e] at h1 ⊢
    unfold mkEnd
    rw [h k h0 (by omega), mkEnd_small c h xs _ (by omega) (by omega)]
    omega
theorem mkEnd_take {α : Type} (nx : Int → Int) : ∀ (xs : List α) (k : Int) (j : Nat), j < xs.length → mkEnd nx (xs.take (j + 1)) k = nx (mkEnd nx (xs.take j) k)
  | [], k, j, h => by simp at h
  | x :: xs, k, 0, h => by simp [mkEnd]
  | x :: xs, k, j + 1, h => by
    simp only [List.take_succ_cons, mkEnd]
    exact mkEnd_take nx xs (nx k) j (by simpa using h)
theorem mk_step {α : Type} (el : Int → α) (nx : Int → Int) : ∀ (xs : List α) (k : Int) (j : Nat), j < xs.length →
    (mkGo el nx (xs.take j) k ++ xs.drop j).set j (el (mkEnd nx (xs.take j) k)) = mkGo el nx (xs.take (j + 1)) k ++ xs.drop (j + 1)
  | [], k, j, h => by simp at h
  | x :: xs, k, 0, h => by simp [mkGo, mkEnd]
  | x :: xs, k, j + 1, h => by
    simp only [List.take_succ_cons, mkGo, mkEnd, List.drop_succ_cons, List.cons_append, List.set_cons_succ]
    rw [mk_step el nx xs (nx k) j (by simpa using h)]
theorem mark1_length (xs : List Int) (k : Int) : (mark1 xs k).length = xs.length := mkGo_length _ _ _ _
theorem held1_mark (xs : List Int) (k : Int) : held1 (mark1 xs k) k = end1 xs k := held_mk (fun k => by simp [ok1, el1]) xs k
theorem end1_small (xs : List Int) {k : Int} (h0 : 0 ≤ k) (h1 : k + 1 * xs.length ≤ 4611686018427387904) : end1 xs k = k + 1 * xs.length :=
  mkEnd_small 1 (fun k a b => by unfold n1 w64; rw [wrap_small (by omega)]; omega) xs k h0 h1
theorem v_L_markIntS :
 ∀ (d : List Int) (k : Int), Ty.wf (Ty.sl i64T) d → IntKind.min IntKind.i64 ≤ k ∧ k ≤ IntKind.max IntKind.i64 → True → List.length (mark1 d k) = d.length ∧ ((0 : Nat) ≤ d.length ∧ k = end1 (List.take (0 : Nat) d) k) ∧
 ((k = k ∧ (0 : Int) = (↑(0 : Nat) : Int)) ∧ d = mark1 (List.take (0 : Nat) d) k ++ List.drop (0 : Nat) d) ∧ ∀ (x : Nat × Int), x.1 ≤ d.length ∧ x.2 = end1 (List.take x.1 d) k → (decide ((↑x.1 : Int) < (↑(List.length
 (mark1 (List.take x.1 d) k ++ List.drop x.1 d)) : Int)) = true → ((0 : Int) ≤ (↑x.1 : Int) ∧ (↑x.1 : Int) < (↑(List.length (mark1 (List.take x.1 d) k ++ List.drop x.1 d)) : Int)) ∧ ∃ (x' : Nat × Int), (x'.1 ≤ d.length ∧
 x'.2 = end1 (List.take x'.1 d) k) ∧ d.length - x'.1 < d.length - x.1 ∧ (IntKind.wrap IntKind.i64 (x.2 + (1 : Int)) = x'.2 ∧ IntKind.wrap IntKind.i64 ((↑x.1 : Int) + (1 : Int)) = (↑x'.1 : Int)) ∧ List.set (mark1
 (List.take x.1 d) k ++ List.drop x.1 d) (Int.toNat (↑x.1 : Int)) x.2 = mark1 (List.take x'.1 d) k ++ List.drop x'.1 d) ∧ (decide ((↑x.1 : Int) < (↑(List.length (mark1 (List.take x.1 d) k ++ List.drop x.1 d)) : Int)) =
 false → x.2 = end1 d k ∧ mark1 (List.take x.1 d) k ++ List.drop x.1 d = mark1 d k) := by
  intro (d : List (Int)) k hw hk _
  have hl : d.length ≤ 9223372036854775807 := hw.1
  refine ⟨mark1_length d k, ⟨Nat.zero_le _, by simp [end1, mkEnd]⟩, ⟨⟨rfl, rfl⟩, by simp [mark1, mkGo]⟩, fun x ⟨h1, h2⟩ => ?_⟩
  obtain ⟨j, kk⟩ := x
  simp only at h1 h2
  have hlen : (mark1 (d.take j) k ++ d.drop j).length = d.length := by rw [List.length_append, mark1_length, List.length_take, List.length_drop]; omega
  have hstep : j < d.length → (mark1 (d.take j) k ++ d.drop j).set j (el1 (end1 (d.take j) k)) = mark1 (d.take (j + 1)) k ++ d.drop (j + 1) := fun h => mk_step el1 n1 d k j h
  have hend : j < d.length → end1 (d.take (j + 1)) k = n1 (end1 (d.take j) k) := fun h => mkEnd_take n1 d k j h
  refine ⟨fun h3 => ?_, fun h3 => ?_⟩
  · have h3 : j < d.length := by rw [hlen] at h3; simpa using h3
    replace hstep := hstep h3
    replace hend := hend h3
    simp only [Int.toNat_natCast]
    generalize mark1 (d.take j) k ++ d.drop j = ys at *
    have h4 : j < ys.length := by omega
    rw [wrap_succ (by omega), hlen]
    refine ⟨⟨by omega, by omega⟩, (j + 1, n1 kk), ⟨by simp only; omega, by simp only; rw [hend, h2]⟩, by simp only; omega, ⟨rfl, rfl⟩, ?_⟩
    rw [← hstep, h2]; rfl
  · have h4 : j = d.length := by rw [hlen] at h3; simp at h3; omega
    subst h4
    rw [List.take_length] at h2 ⊢
    rw [List.drop_length, List.append_nil]
    exact ⟨h2, rfl⟩
theorem v_L_heldIntS :
 ∀ (d : List Int × Int), Ty.wf (Ty.sl i64T) d.1 ∧ Ty.wf i64T d.2 → True → ((0 : Nat) ≤ d.1.length ∧ held1 (List.drop (0 : Nat) d.1) d.2 = held1 d.1 d.2) ∧ (d.1 = d.1 ∧ d.2 = d.2 ∧ (0 : Int) = (↑(0 : Nat) : Int)) ∧ ∀ (x :
 Nat × Int), x.1 ≤ d.1.length ∧ held1 (List.drop x.1 d.1) x.2 = held1 d.1 d.2 → (decide ((↑x.1 : Int) < (↑d.1.length : Int)) = true → ((0 : Int) ≤ (↑x.1 : Int) ∧ (↑x.1 : Int) < (↑d.1.length : Int)) ∧ ((!decide (d.1.getD
 (Int.toNat (↑x.1 : Int)) (0 : Int) = x.2)) = true → (-1 : Int) = held1 d.1 d.2) ∧ ((!decide (d.1.getD (Int.toNat (↑x.1 : Int)) (0 : Int) = x.2)) = false → ∃ (x' : Nat × Int), (x'.1 ≤ d.1.length ∧ held1 (List.drop x'.1
 d.1) x'.2 = held1 d.1 d.2) ∧ d.1.length - x'.1 < d.1.length - x.1 ∧ d.1 = d.1 ∧ IntKind.wrap IntKind.i64 (x.2 + (1 : Int)) = x'.2 ∧ IntKind.wrap IntKind.i64 ((↑x.1 : Int) + (1 : Int)) = (↑x'.1 : Int))) ∧ (decide ((↑x.1
 : Int) < (↑d.1.length : Int)) = false → x.2 = held1 d.1 d.2) := by
  intro (d : List Int × Int) hw _
  obtain ⟨xs, k⟩ := d
  have hl : xs.length ≤ 9223372036854775807 := hw.1.1
  simp only [Int.toNat_natCast, exists_const, and_true, true_and, implies_true, decide_eq_true_eq, decide_eq_false_iff_not, Bool.not_eq_true', Bool.not_eq_false', beq_iff_eq, forall_const]
  refine ⟨⟨Nat.zero_le _, by simp⟩, rfl, fun x ⟨h1, h2⟩ => ⟨fun h3 => ?_, fun h3 => ?_⟩⟩
  · have h4 : x.1 < xs.length := by omega
    rw [getD_drop_cons (x := (0 : Int)) h4] at h2
    generalize held1 xs k = r at h2 ⊢
    unfold held1 heldGo at h2
    rw [wrap_succ (by omega)]
    refine ⟨⟨by omega, by omega⟩, ?_⟩
    generalize xs.getD x.1 0 = y at *
    by_cases a1 : y = x.2
    · refine ⟨fun h => absurd a1 (by simpa using h), fun _ => ⟨(x.1 + 1, n1 x.2), ⟨by simp only; omega, ?_⟩, by simp only; omega, rfl, rfl⟩⟩
      rw [if_pos (by simp [ok1, a1])] at h2
      exact h2
    · refine ⟨fun _ => ?_, fun h => absurd (by simpa using h) a1⟩
      rw [if_neg (by simp [ok1, a1])] at h2
      exact h2
  · have h4 : x.1 = xs.length := by omega
    rw [h4, List.drop_length] at h2
    exact h2
end Go.SF
