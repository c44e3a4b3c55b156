/- What is owed of the code of the marks' functions. No condition. -/
import Derived.Test.YtnjihkeflkemdaaSxC
import Derived.Test.YtnjihkeflkemdaaSxPLine
namespace Go.SF
open Go.SX Go
set_option linter.unusedVariables false
set_option linter.unusedSimpArgs false
set_option maxRecDepth 10000
theorem mkGo_length {α : Type} (el : Int → α) (nx : Int → Int) : ∀ (xs : List α) (k : Int), (mkGo el nx xs k).length = xs.length
  | [], k => rfl
  | x :: xs, k => by simp [mkGo, mkGo_length el nx xs]
theorem held_mk {α : Type} {el : Int → α} {nx : Int → Int} {ok : α → Int → Bool} (h : ∀ k, ok (el k) k = true) : ∀ (xs : List α) (k : Int), heldGo ok nx (mkGo el nx xs k) k = mkEnd nx xs k
  | [], k => rfl
  | x :: xs, k => by simp [mkGo, heldGo, mkEnd, h, held_mk h xs]
theorem mkEnd_small {α : Type} {nx : Int → Int} (c : Nat) (h : ∀ k, 0 ≤ k → k ≤ 4611686018427387904 → nx k = k + c) : ∀ (xs : List α) (k : Int), 0 ≤ k → k + c * xs.length ≤ 4611686018427387904 → mkEnd nx xs k = k + c * xs.length
  | [], k, _, _ => by simp [mkEnd]
  | x :: xs, k, h0, h1 => by
    have e : (c : Int) * ((x :: xs).length : Int) = c + c * (xs.length : Int) := by rw [List.length_cons]; push_cast; rw [Int.mul_add, Int.mul_one, Int.add_comm]
    have hc : 0 ≤ (c : Int) * (xs.length : Int) := Int.mul_nonneg (by omega) (by omega)
    rw [e] at h1 ⊢
    unfold mkEnd
    rw [h k h0 (by omega), mkEnd_small c h xs _ (by omega) (by omega)]
    omega
theorem mkEnd_take {α : Type} (nx : Int → Int) : ∀ (xs : List α) (k : Int) (j : Nat), j < xs.length → mkEnd nx (xs.take (j + 1)) k = nx (mkEnd nx (xs.take j) k)
  | [], k, j, h => by simp at h
  | x :: xs, k, 0, h => by simp [mkEnd]
  | x :: xs, k, j + 1, h => by
    simp only [List.take_succ_cons, mkEnd]
    exact mkEnd_take nx xs (nx k) j (by simpa using h)
theorem mk_step {α : Type} (el : Int → α) (nx : Int → Int) : ∀ (xs : List α) (k : Int) (j : Nat), j < xs.length →
    (mkGo el nx (xs.take j) k ++ xs.drop j).set j (el (mkEnd nx (xs.take j) k)) = mkGo el nx (xs.take (j + 1)) k ++ xs.drop (j + 1)
  | [], k, j, h => by simp at h
  | x :: xs, k, 0, h => by simp [mkGo, mkEnd]
  | x :: xs, k, j + 1, h => by
    simp only [List.take_succ_cons, mkGo, mkEnd, List.drop_succ_cons, List.cons_append, List.set_cons_succ]
    rw [mk_step el nx xs (nx k) j (by simpa using h)]
theorem getD_set {α : Type} {l : List α} {i : Nat} {a z : α} (h : i < l.length) : (l.set i a).getD i z = a := by
  simp [List.getD_eq_getElem?_getD, h]
theorem mark3_length (xs : List (Int × Int × Int)) (k : Int) : (mark3 xs k).length = xs.length := mkGo_length _ _ _ _
theorem mark2_length (xs : List (Int × Int)) (k : Int) : (mark2 xs k).length = xs.length := mkGo_length _ _ _ _
theorem mark1_length (xs : List Int) (k : Int) : (mark1 xs k).length = xs.length := mkGo_length _ _ _ _
theorem held3_mark (xs : List (Int × Int × Int)) (k : Int) : held3 (mark3 xs k) k = end3 xs k := held_mk (fun k => by simp [ok3, el3]) xs k
theorem held2_mark (xs : List (Int × Int)) (k : Int) : held2 (mark2 xs k) k = end2 xs k := held_mk (fun k => by simp [ok2, el2]) xs k
theorem held1_mark (xs : List Int) (k : Int) : held1 (mark1 xs k) k = end1 xs k := held_mk (fun k => by simp [ok1, el1]) xs k
theorem end3_small (xs : List (Int × Int × Int)) {k : Int} (h0 : 0 ≤ k) (h1 : k + 3 * xs.length ≤ 4611686018427387904) : end3 xs k = k + 3 * xs.length :=
  mkEnd_small 3 (fun k a b => by unfold n3 w64; rw [wrap_small (n := k + 1) (by omega), wrap_small (n := k + 1 + 1) (by omega), wrap_small (by omega)]; omega) xs k h0 h1
theorem end2_small (xs : List (Int × Int)) {k : Int} (h0 : 0 ≤ k) (h1 : k + 2 * xs.length ≤ 4611686018427387904) : end2 xs k = k + 2 * xs.length :=
  mkEnd_small 2 (fun k a b => by unfold n2 w64; rw [wrap_small (n := k + 1) (by omega), wrap_small (by omega)]; omega) xs k h0 h1
theorem end1_small (xs : List Int) {k : Int} (h0 : 0 ≤ k) (h1 : k + 1 * xs.length ≤ 4611686018427387904) : end1 xs k = k + 1 * xs.length :=
  mkEnd_small 1 (fun k a b => by unfold n1 w64; rw [wrap_small (by omega)]; omega) xs k h0 h1
theorem v_L_markTicketS :
  ∀ (d : List (Int × Int)) (k : Int), Ty.wf (Ty.sl tkT) d → IntKind.min IntKind.i64 ≤ k ∧ k ≤ IntKind.max IntKind.i64 → True → List.length (mark2 d k) = List.length d ∧ ((0 : Nat) ≤ List.length d ∧ k = end2 (List.take (0
  : Nat) d) k) ∧ ((k = k ∧ (0 : Int) = (↑(0 : Nat) : Int)) ∧ d = mark2 (List.take (0 : Nat) d) k ++ List.drop (0 : Nat) d) ∧ ∀ (x : Nat × Int), Prod.fst x ≤ List.length d ∧ Prod.snd x = end2 (List.take (Prod.fst x) d) k
  → (decide ((↑(Prod.fst x) : Int) < (↑(List.length (mark2 (List.take (Prod.fst x) d) k ++ List.drop (Prod.fst x) d)) : Int)) = true → ((0 : Int) ≤ (↑(Prod.fst x) : Int) ∧ (↑(Prod.fst x) : Int) < (↑(List.length (mark2
  (List.take (Prod.fst x) d) k ++ List.drop (Prod.fst x) d)) : Int)) ∧ ((0 : Int) ≤ (↑(Prod.fst x) : Int) ∧ (↑(Prod.fst x) : Int) < (↑(List.length (List.set (mark2 (List.take (Prod.fst x) d) k ++ List.drop (Prod.fst x)
  d) (Int.toNat (↑(Prod.fst x) : Int)) (Prod.snd x, Prod.snd (List.getD (mark2 (List.take (Prod.fst x) d) k ++ List.drop (Prod.fst x) d) (Int.toNat (↑(Prod.fst x) : Int)) ((0 : Int), (0 : Int)))))) : Int)) ∧ ∃ (x' : Nat
  × Int), (Prod.fst x' ≤ List.length d ∧ Prod.snd x' = end2 (List.take (Prod.fst x') d) k) ∧ List.length d - Prod.fst x' < List.length d - Prod.fst x ∧ (IntKind.wrap IntKind.i64 (IntKind.wrap IntKind.i64 (Prod.snd x + (1
  : Int)) + (1 : Int)) = Prod.snd x' ∧ IntKind.wrap IntKind.i64 ((↑(Prod.fst x) : Int) + (1 : Int)) = (↑(Prod.fst x') : Int)) ∧ List.set (List.set (mark2 (List.take (Prod.fst x) d) k ++ List.drop (Prod.fst x) d)
  (Int.toNat (↑(Prod.fst x) : Int)) (Prod.snd x, Prod.snd (List.getD (mark2 (List.take (Prod.fst x) d) k ++ List.drop (Prod.fst x) d) (Int.toNat (↑(Prod.fst x) : Int)) ((0 : Int), (0 : Int))))) (Int.toNat (↑(Prod.fst x)
  : Int)) (Prod.fst (List.getD (List.set (mark2 (List.take (Prod.fst x) d) k ++ List.drop (Prod.fst x) d) (Int.toNat (↑(Prod.fst x) : Int)) (Prod.snd x, Prod.snd (List.getD (mark2 (List.take (Prod.fst x) d) k ++
  List.drop (Prod.fst x) d) (Int.toNat (↑(Prod.fst x) : Int)) ((0 : Int), (0 : Int))))) (Int.toNat (↑(Prod.fst x) : Int)) ((0 : Int), (0 : Int))), IntKind.wrap IntKind.i64 (Prod.snd x + (1 : Int))) = mark2 (List.take
  (Prod.fst x') d) k ++ List.drop (Prod.fst x') d) ∧ (decide ((↑(Prod.fst x) : Int) < (↑(List.length (mark2 (List.take (Prod.fst x) d) k ++ List.drop (Prod.fst x) d)) : Int)) = false → Prod.snd x = end2 d k ∧ mark2
  (List.take (Prod.fst x) d) k ++ List.drop (Prod.fst x) d = mark2 d k) := by
  intro (d : List (Int × Int)) k hw hk _
  have hl : d.length ≤ 9223372036854775807 := hw.1
  refine ⟨mark2_length d k, ⟨Nat.zero_le _, by simp [end2, mkEnd]⟩, ⟨⟨rfl, rfl⟩, by simp [mark2, mkGo]⟩, fun x ⟨h1, h2⟩ => ?_⟩
  obtain ⟨j, kk⟩ := x
  simp only at h1 h2
  have hlen : (mark2 (d.take j) k ++ d.drop j).length = d.length := by rw [List.length_append, mark2_length, List.length_take, List.length_drop]; omega
  have hstep : j < d.length → (mark2 (d.take j) k ++ d.drop j).set j (el2 (end2 (d.take j) k)) = mark2 (d.take (j + 1)) k ++ d.drop (j + 1) := fun h => mk_step el2 n2 d k j h
  have hend : j < d.length → end2 (d.take (j + 1)) k = n2 (end2 (d.take j) k) := fun h => mkEnd_take n2 d k j h
  refine ⟨fun h3 => ?_, fun h3 => ?_⟩
  · have h3 : j < d.length := by rw [hlen] at h3; simpa using h3
    replace hstep := hstep h3
    replace hend := hend h3
    simp only [Int.toNat_natCast]
    generalize mark2 (d.take j) k ++ d.drop j = ys at *
    have h4 : j < ys.length := by omega
    simp only [List.length_set, List.set_set, getD_set h4]
    rw [wrap_succ (by omega), hlen]
    refine ⟨⟨by omega, by omega⟩, ⟨by omega, by omega⟩, (j + 1, n2 kk), ⟨by simp only; omega, by simp only; rw [hend, h2]⟩, by simp only; omega, ⟨rfl, rfl⟩, ?_⟩
    rw [← hstep, h2]; rfl
  · have h4 : j = d.length := by rw [hlen] at h3; simp at h3; omega
    subst h4
    rw [List.take_length] at h2 ⊢
    rw [List.drop_length, List.append_nil]
    exact ⟨h2, rfl⟩
theorem v_L_heldTicketS :
  ∀ (d : List (Int × Int) × Int), Ty.wf (Ty.sl tkT) (Prod.fst d) ∧ Ty.wf i64T (Prod.snd d) → True → ((0 : Nat) ≤ List.length (Prod.fst d) ∧ held2 (List.drop (0 : Nat) (Prod.fst d)) (Prod.snd d) = held2 (Prod.fst d)
  (Prod.snd d)) ∧ (Prod.fst d = Prod.fst d ∧ Prod.snd d = Prod.snd d ∧ (0 : Int) = (↑(0 : Nat) : Int)) ∧ ∀ (x : Nat × Int), Prod.fst x ≤ List.length (Prod.fst d) ∧ held2 (List.drop (Prod.fst x) (Prod.fst d)) (Prod.snd x)
  = held2 (Prod.fst d) (Prod.snd d) → (decide ((↑(Prod.fst x) : Int) < (↑(List.length (Prod.fst d)) : Int)) = true → ((0 : Int) ≤ (↑(Prod.fst x) : Int) ∧ (↑(Prod.fst x) : Int) < (↑(List.length (Prod.fst d)) : Int)) ∧
  ((!decide (Prod.fst (List.getD (Prod.fst d) (Int.toNat (↑(Prod.fst x) : Int)) ((0 : Int), (0 : Int))) = Prod.snd x)) = true → (-1 : Int) = held2 (Prod.fst d) (Prod.snd d)) ∧ ((!decide (Prod.fst (List.getD (Prod.fst d)
  (Int.toNat (↑(Prod.fst x) : Int)) ((0 : Int), (0 : Int))) = Prod.snd x)) = false → ((0 : Int) ≤ (↑(Prod.fst x) : Int) ∧ (↑(Prod.fst x) : Int) < (↑(List.length (Prod.fst d)) : Int)) ∧ ((!decide (Prod.snd (List.getD
  (Prod.fst d) (Int.toNat (↑(Prod.fst x) : Int)) ((0 : Int), (0 : Int))) = IntKind.wrap IntKind.i64 (Prod.snd x + (1 : Int)))) = true → (-1 : Int) = held2 (Prod.fst d) (Prod.snd d)) ∧ ((!decide (Prod.snd (List.getD
  (Prod.fst d) (Int.toNat (↑(Prod.fst x) : Int)) ((0 : Int), (0 : Int))) = IntKind.wrap IntKind.i64 (Prod.snd x + (1 : Int)))) = false → ∃ (x' : Nat × Int), (Prod.fst x' ≤ List.length (Prod.fst d) ∧ held2 (List.drop
  (Prod.fst x') (Prod.fst d)) (Prod.snd x') = held2 (Prod.fst d) (Prod.snd d)) ∧ List.length (Prod.fst d) - Prod.fst x' < List.length (Prod.fst d) - Prod.fst x ∧ Prod.fst d = Prod.fst d ∧ IntKind.wrap IntKind.i64
  (IntKind.wrap IntKind.i64 (Prod.snd x + (1 : Int)) + (1 : Int)) = Prod.snd x' ∧ IntKind.wrap IntKind.i64 ((↑(Prod.fst x) : Int) + (1 : Int)) = (↑(Prod.fst x') : Int)))) ∧ (decide ((↑(Prod.fst x) : Int) < (↑(List.length
  (Prod.fst d)) : Int)) = false → Prod.snd x = held2 (Prod.fst d) (Prod.snd d)) := by
  intro (d : List (Int × Int) × Int) hw _
  obtain ⟨xs, k⟩ := d
  have hl : xs.length ≤ 9223372036854775807 := hw.1.1
  simp only [Int.toNat_natCast, exists_const, and_true, true_and, implies_true, decide_eq_true_eq, decide_eq_false_iff_not, Bool.not_eq_true', Bool.not_eq_false', beq_iff_eq, forall_const]
  refine ⟨⟨Nat.zero_le _, by simp⟩, rfl, fun x ⟨h1, h2⟩ => ⟨fun h3 => ?_, fun h3 => ?_⟩⟩
  · have h4 : x.1 < xs.length := by omega
    rw [getD_drop_cons (x := ((0 : Int), (0 : Int))) h4] at h2
    generalize held2 xs k = r at h2 ⊢
    unfold held2 heldGo at h2
    rw [wrap_succ (by omega)]
    refine ⟨⟨by omega, by omega⟩, ?_⟩
    generalize xs.getD x.1 (0, 0) = y at *
    by_cases a1 : y.1 = x.2
    · refine ⟨fun h => absurd a1 (by simpa using h), fun _ => ⟨⟨by omega, by omega⟩, ?_⟩⟩
      by_cases a2 : y.2 = w64 (x.2 + 1)
      · refine ⟨fun h => absurd a2 (by simpa [w64] using h), fun _ => ⟨(x.1 + 1, n2 x.2), ⟨by simp only; omega, ?_⟩, by simp only; omega, rfl, rfl⟩⟩
        rw [if_pos (by simp [ok2, a1, a2])] at h2
        exact h2
      · refine ⟨fun _ => ?_, fun h => absurd (by simpa [w64] using h) a2⟩
        rw [if_neg (by simp [ok2, a2])] at h2
        exact h2
    · refine ⟨fun _ => ?_, fun h => absurd (by simpa using h) a1⟩
      rw [if_neg (by simp [ok2, a1])] at h2
      exact h2
  · have h4 : x.1 = xs.length := by omega
    rw [h4, List.drop_length] at h2
    exact h2
theorem v_L_markServedS :
  ∀ (d : List (Int × Int × Int)) (k : Int), Ty.wf (Ty.sl svT) d → IntKind.min IntKind.i64 ≤ k ∧ k ≤ IntKind.max IntKind.i64 → True → List.length (mark3 d k) = List.length d ∧ ((0 : Nat) ≤ List.length d ∧ k = end3
  (List.take (0 : Nat) d) k) ∧ ((k = k ∧ (0 : Int) = (↑(0 : Nat) : Int)) ∧ d = mark3 (List.take (0 : Nat) d) k ++ List.drop (0 : Nat) d) ∧ ∀ (x : Nat × Int), Prod.fst x ≤ List.length d ∧ Prod.snd x = end3 (List.take
  (Prod.fst x) d) k → (decide ((↑(Prod.fst x) : Int) < (↑(List.length (mark3 (List.take (Prod.fst x) d) k ++ List.drop (Prod.fst x) d)) : Int)) = true → ((0 : Int) ≤ (↑(Prod.fst x) : Int) ∧ (↑(Prod.fst x) : Int) <
  (↑(List.length (mark3 (List.take (Prod.fst x) d) k ++ List.drop (Prod.fst x) d)) : Int)) ∧ ((0 : Int) ≤ (↑(Prod.fst x) : Int) ∧ (↑(Prod.fst x) : Int) < (↑(List.length (List.set (mark3 (List.take (Prod.fst x) d) k ++
  List.drop (Prod.fst x) d) (Int.toNat (↑(Prod.fst x) : Int)) (Prod.snd x, Prod.fst (Prod.snd (List.getD (mark3 (List.take (Prod.fst x) d) k ++ List.drop (Prod.fst x) d) (Int.toNat (↑(Prod.fst x) : Int)) ((0 : Int), (0 :
  Int), (0 : Int)))), Prod.snd (Prod.snd (List.getD (mark3 (List.take (Prod.fst x) d) k ++ List.drop (Prod.fst x) d) (Int.toNat (↑(Prod.fst x) : Int)) ((0 : Int), (0 : Int), (0 : Int))))))) : Int)) ∧ ((0 : Int) ≤
  (↑(Prod.fst x) : Int) ∧ (↑(Prod.fst x) : Int) < (↑(List.length (List.set (List.set (mark3 (List.take (Prod.fst x) d) k ++ List.drop (Prod.fst x) d) (Int.toNat (↑(Prod.fst x) : Int)) (Prod.snd x, Prod.fst (Prod.snd
  (List.getD (mark3 (List.take (Prod.fst x) d) k ++ List.drop (Prod.fst x) d) (Int.toNat (↑(Prod.fst x) : Int)) ((0 : Int), (0 : Int), (0 : Int)))), Prod.snd (Prod.snd (List.getD (mark3 (List.take (Prod.fst x) d) k ++
  List.drop (Prod.fst x) d) (Int.toNat (↑(Prod.fst x) : Int)) ((0 : Int), (0 : Int), (0 : Int)))))) (Int.toNat (↑(Prod.fst x) : Int)) (Prod.fst (List.getD (List.set (mark3 (List.take (Prod.fst x) d) k ++ List.drop
  (Prod.fst x) d) (Int.toNat (↑(Prod.fst x) : Int)) (Prod.snd x, Prod.fst (Prod.snd (List.getD (mark3 (List.take (Prod.fst x) d) k ++ List.drop (Prod.fst x) d) (Int.toNat (↑(Prod.fst x) : Int)) ((0 : Int), (0 : Int), (0
  : Int)))), Prod.snd (Prod.snd (List.getD (mark3 (List.take (Prod.fst x) d) k ++ List.drop (Prod.fst x) d) (Int.toNat (↑(Prod.fst x) : Int)) ((0 : Int), (0 : Int), (0 : Int)))))) (Int.toNat (↑(Prod.fst x) : Int)) ((0 :
  Int), (0 : Int), (0 : Int))), IntKind.wrap IntKind.i64 (Prod.snd x + (1 : Int)), Prod.snd (Prod.snd (List.getD (List.set (mark3 (List.take (Prod.fst x) d) k ++ List.drop (Prod.fst x) d) (Int.toNat (↑(Prod.fst x) :
  Int)) (Prod.snd x, Prod.fst (Prod.snd (List.getD (mark3 (List.take (Prod.fst x) d) k ++ List.drop (Prod.fst x) d) (Int.toNat (↑(Prod.fst x) : Int)) ((0 : Int), (0 : Int), (0 : Int)))), Prod.snd (Prod.snd (List.getD
  (mark3 (List.take (Prod.fst x) d) k ++ List.drop (Prod.fst x) d) (Int.toNat (↑(Prod.fst x) : Int)) ((0 : Int), (0 : Int), (0 : Int)))))) (Int.toNat (↑(Prod.fst x) : Int)) ((0 : Int), (0 : Int), (0 : Int))))))) : Int))
  ∧ ∃ (x' : Nat × Int), (Prod.fst x' ≤ List.length d ∧ Prod.snd x' = end3 (List.take (Prod.fst x') d) k) ∧ List.length d - Prod.fst x' < List.length d - Prod.fst x ∧ (IntKind.wrap IntKind.i64 (IntKind.wrap IntKind.i64
  (IntKind.wrap IntKind.i64 (Prod.snd x + (1 : Int)) + (1 : Int)) + (1 : Int)) = Prod.snd x' ∧ IntKind.wrap IntKind.i64 ((↑(Prod.fst x) : Int) + (1 : Int)) = (↑(Prod.fst x') : Int)) ∧ List.set (List.set (List.set (mark3
  (List.take (Prod.fst x) d) k ++ List.drop (Prod.fst x) d) (Int.toNat (↑(Prod.fst x) : Int)) (Prod.snd x, Prod.fst (Prod.snd (List.getD (mark3 (List.take (Prod.fst x) d) k ++ List.drop (Prod.fst x) d) (Int.toNat
  (↑(Prod.fst x) : Int)) ((0 : Int), (0 : Int), (0 : Int)))), Prod.snd (Prod.snd (List.getD (mark3 (List.take (Prod.fst x) d) k ++ List.drop (Prod.fst x) d) (Int.toNat (↑(Prod.fst x) : Int)) ((0 : Int), (0 : Int), (0 :
  Int)))))) (Int.toNat (↑(Prod.fst x) : Int)) (Prod.fst (List.getD (List.set (mark3 (List.take (Prod.fst x) d) k ++ List.drop (Prod.fst x) d) (Int.toNat (↑(Prod.fst x) : Int)) (Prod.snd x, Prod.fst (Prod.snd (List.getD
  (mark3 (List.take (Prod.fst x) d) k ++ List.drop (Prod.fst x) d) (Int.toNat (↑(Prod.fst x) : Int)) ((0 : Int), (0 : Int), (0 : Int)))), Prod.snd (Prod.snd (List.getD (mark3 (List.take (Prod.fst x) d) k ++ List.drop
  (Prod.fst x) d) (Int.toNat (↑(Prod.fst x) : Int)) ((0 : Int), (0 : Int), (0 : Int)))))) (Int.toNat (↑(Prod.fst x) : Int)) ((0 : Int), (0 : Int), (0 : Int))), IntKind.wrap IntKind.i64 (Prod.snd x + (1 : Int)), Prod.snd
  (Prod.snd (List.getD (List.set (mark3 (List.take (Prod.fst x) d) k ++ List.drop (Prod.fst x) d) (Int.toNat (↑(Prod.fst x) : Int)) (Prod.snd x, Prod.fst (Prod.snd (List.getD (mark3 (List.take (Prod.fst x) d) k ++
  List.drop (Prod.fst x) d) (Int.toNat (↑(Prod.fst x) : Int)) ((0 : Int), (0 : Int), (0 : Int)))), Prod.snd (Prod.snd (List.getD (mark3 (List.take (Prod.fst x) d) k ++ List.drop (Prod.fst x) d) (Int.toNat (↑(Prod.fst x)
  : Int)) ((0 : Int), (0 : Int), (0 : Int)))))) (Int.toNat (↑(Prod.fst x) : Int)) ((0 : Int), (0 : Int), (0 : Int)))))) (Int.toNat (↑(Prod.fst x) : Int)) (Prod.fst (List.getD (List.set (List.set (mark3 (List.take
  (Prod.fst x) d) k ++ List.drop (Prod.fst x) d) (Int.toNat (↑(Prod.fst x) : Int)) (Prod.snd x, Prod.fst (Prod.snd (List.getD (mark3 (List.take (Prod.fst x) d) k ++ List.drop (Prod.fst x) d) (Int.toNat (↑(Prod.fst x) :
  Int)) ((0 : Int), (0 : Int), (0 : Int)))), Prod.snd (Prod.snd (List.getD (mark3 (List.take (Prod.fst x) d) k ++ List.drop (Prod.fst x) d) (Int.toNat (↑(Prod.fst x) : Int)) ((0 : Int), (0 : Int), (0 : Int))))))
  (Int.toNat (↑(Prod.fst x) : Int)) (Prod.fst (List.getD (List.set (mark3 (List.take (Prod.fst x) d) k ++ List.drop (Prod.fst x) d) (Int.toNat (↑(Prod.fst x) : Int)) (Prod.snd x, Prod.fst (Prod.snd (List.getD (mark3
  (List.take (Prod.fst x) d) k ++ List.drop (Prod.fst x) d) (Int.toNat (↑(Prod.fst x) : Int)) ((0 : Int), (0 : Int), (0 : Int)))), Prod.snd (Prod.snd (List.getD (mark3 (List.take (Prod.fst x) d) k ++ List.drop (Prod.fst
  x) d) (Int.toNat (↑(Prod.fst x) : Int)) ((0 : Int), (0 : Int), (0 : Int)))))) (Int.toNat (↑(Prod.fst x) : Int)) ((0 : Int), (0 : Int), (0 : Int))), IntKind.wrap IntKind.i64 (Prod.snd x + (1 : Int)), Prod.snd (Prod.snd
  (List.getD (List.set (mark3 (List.take (Prod.fst x) d) k ++ List.drop (Prod.fst x) d) (Int.toNat (↑(Prod.fst x) : Int)) (Prod.snd x, Prod.fst (Prod.snd (List.getD (mark3 (List.take (Prod.fst x) d) k ++ List.drop
  (Prod.fst x) d) (Int.toNat (↑(Prod.fst x) : Int)) ((0 : Int), (0 : Int), (0 : Int)))), Prod.snd (Prod.snd (List.getD (mark3 (List.take (Prod.fst x) d) k ++ List.drop (Prod.fst x) d) (Int.toNat (↑(Prod.fst x) : Int))
  ((0 : Int), (0 : Int), (0 : Int)))))) (Int.toNat (↑(Prod.fst x) : Int)) ((0 : Int), (0 : Int), (0 : Int)))))) (Int.toNat (↑(Prod.fst x) : Int)) ((0 : Int), (0 : Int), (0 : Int))), Prod.fst (Prod.snd (List.getD
  (List.set (List.set (mark3 (List.take (Prod.fst x) d) k ++ List.drop (Prod.fst x) d) (Int.toNat (↑(Prod.fst x) : Int)) (Prod.snd x, Prod.fst (Prod.snd (List.getD (mark3 (List.take (Prod.fst x) d) k ++ List.drop
  (Prod.fst x) d) (Int.toNat (↑(Prod.fst x) : Int)) ((0 : Int), (0 : Int), (0 : Int)))), Prod.snd (Prod.snd (List.getD (mark3 (List.take (Prod.fst x) d) k ++ List.drop (Prod.fst x) d) (Int.toNat (↑(Prod.fst x) : Int))
  ((0 : Int), (0 : Int), (0 : Int)))))) (Int.toNat (↑(Prod.fst x) : Int)) (Prod.fst (List.getD (List.set (mark3 (List.take (Prod.fst x) d) k ++ List.drop (Prod.fst x) d) (Int.toNat (↑(Prod.fst x) : Int)) (Prod.snd x,
  Prod.fst (Prod.snd (List.getD (mark3 (List.take (Prod.fst x) d) k ++ List.drop (Prod.fst x) d) (Int.toNat (↑(Prod.fst x) : Int)) ((0 : Int), (0 : Int), (0 : Int)))), Prod.snd (Prod.snd (List.getD (mark3 (List.take
  (Prod.fst x) d) k ++ List.drop (Prod.fst x) d) (Int.toNat (↑(Prod.fst x) : Int)) ((0 : Int), (0 : Int), (0 : Int)))))) (Int.toNat (↑(Prod.fst x) : Int)) ((0 : Int), (0 : Int), (0 : Int))), IntKind.wrap IntKind.i64
  (Prod.snd x + (1 : Int)), Prod.snd (Prod.snd (List.getD (List.set (mark3 (List.take (Prod.fst x) d) k ++ List.drop (Prod.fst x) d) (Int.toNat (↑(Prod.fst x) : Int)) (Prod.snd x, Prod.fst (Prod.snd (List.getD (mark3
  (List.take (Prod.fst x) d) k ++ List.drop (Prod.fst x) d) (Int.toNat (↑(Prod.fst x) : Int)) ((0 : Int), (0 : Int), (0 : Int)))), Prod.snd (Prod.snd (List.getD (mark3 (List.take (Prod.fst x) d) k ++ List.drop (Prod.fst
  x) d) (Int.toNat (↑(Prod.fst x) : Int)) ((0 : Int), (0 : Int), (0 : Int)))))) (Int.toNat (↑(Prod.fst x) : Int)) ((0 : Int), (0 : Int), (0 : Int)))))) (Int.toNat (↑(Prod.fst x) : Int)) ((0 : Int), (0 : Int), (0 :
  Int)))), IntKind.wrap IntKind.i64 (IntKind.wrap IntKind.i64 (Prod.snd x + (1 : Int)) + (1 : Int))) = mark3 (List.take (Prod.fst x') d) k ++ List.drop (Prod.fst x') d) ∧ (decide ((↑(Prod.fst x) : Int) < (↑(List.length
  (mark3 (List.take (Prod.fst x) d) k ++ List.drop (Prod.fst x) d)) : Int)) = false → Prod.snd x = end3 d k ∧ mark3 (List.take (Prod.fst x) d) k ++ List.drop (Prod.fst x) d = mark3 d k) := by
  intro (d : List (Int × Int × Int)) k hw hk _
  have hl : d.length ≤ 9223372036854775807 := hw.1
  refine ⟨mark3_length d k, ⟨Nat.zero_le _, by simp [end3, mkEnd]⟩, ⟨⟨rfl, rfl⟩, by simp [mark3, mkGo]⟩, fun x ⟨h1, h2⟩ => ?_⟩
  obtain ⟨j, kk⟩ := x
  simp only at h1 h2
  have hlen : (mark3 (d.take j) k ++ d.drop j).length = d.length := by rw [List.length_append, mark3_length, List.length_take, List.length_drop]; omega
  have hstep : j < d.length → (mark3 (d.take j) k ++ d.drop j).set j (el3 (end3 (d.take j) k)) = mark3 (d.take (j + 1)) k ++ d.drop (j + 1) := fun h => mk_step el3 n3 d k j h
  have hend : j < d.length → end3 (d.take (j + 1)) k = n3 (end3 (d.take j) k) := fun h => mkEnd_take n3 d k j h
  refine ⟨fun h3 => ?_, fun h3 => ?_⟩
  · have h3 : j < d.length := by rw [hlen] at h3; simpa using h3
    replace hstep := hstep h3
    replace hend := hend h3
    simp only [Int.toNat_natCast]
    generalize mark3 (d.take j) k ++ d.drop j = ys at *
    have h4 : j < ys.length := by omega
    simp only [List.length_set, List.set_set, getD_set h4]
    rw [wrap_succ (by omega), hlen]
    refine ⟨⟨by omega, by omega⟩, ⟨by omega, by omega⟩, ⟨by omega, by omega⟩, (j + 1, n3 kk), ⟨by simp only; omega, by simp only; rw [hend, h2]⟩, by simp only; omega, ⟨rfl, rfl⟩, ?_⟩
    rw [← hstep, h2]; rfl
  · have h4 : j = d.length := by rw [hlen] at h3; simp at h3; omega
    subst h4
    rw [List.take_length] at h2 ⊢
    rw [List.drop_length, List.append_nil]
    exact ⟨h2, rfl⟩
theorem v_L_heldServedS :
  ∀ (d : List (Int × Int × Int) × Int), Ty.wf (Ty.sl svT) (Prod.fst d) ∧ Ty.wf i64T (Prod.snd d) → True → ((0 : Nat) ≤ List.length (Prod.fst d) ∧ held3 (List.drop (0 : Nat) (Prod.fst d)) (Prod.snd d) = held3 (Prod.fst d)
  (Prod.snd d)) ∧ (Prod.fst d = Prod.fst d ∧ Prod.snd d = Prod.snd d ∧ (0 : Int) = (↑(0 : Nat) : Int)) ∧ ∀ (x : Nat × Int), Prod.fst x ≤ List.length (Prod.fst d) ∧ held3 (List.drop (Prod.fst x) (Prod.fst d)) (Prod.snd x)
  = held3 (Prod.fst d) (Prod.snd d) → (decide ((↑(Prod.fst x) : Int) < (↑(List.length (Prod.fst d)) : Int)) = true → ((0 : Int) ≤ (↑(Prod.fst x) : Int) ∧ (↑(Prod.fst x) : Int) < (↑(List.length (Prod.fst d)) : Int)) ∧
  ((!decide (Prod.fst (List.getD (Prod.fst d) (Int.toNat (↑(Prod.fst x) : Int)) ((0 : Int), (0 : Int), (0 : Int))) = Prod.snd x)) = true → (-1 : Int) = held3 (Prod.fst d) (Prod.snd d)) ∧ ((!decide (Prod.fst (List.getD
  (Prod.fst d) (Int.toNat (↑(Prod.fst x) : Int)) ((0 : Int), (0 : Int), (0 : Int))) = Prod.snd x)) = false → ((0 : Int) ≤ (↑(Prod.fst x) : Int) ∧ (↑(Prod.fst x) : Int) < (↑(List.length (Prod.fst d)) : Int)) ∧ ((!decide
  (Prod.fst (Prod.snd (List.getD (Prod.fst d) (Int.toNat (↑(Prod.fst x) : Int)) ((0 : Int), (0 : Int), (0 : Int)))) = IntKind.wrap IntKind.i64 (Prod.snd x + (1 : Int)))) = true → (-1 : Int) = held3 (Prod.fst d) (Prod.snd
  d)) ∧ ((!decide (Prod.fst (Prod.snd (List.getD (Prod.fst d) (Int.toNat (↑(Prod.fst x) : Int)) ((0 : Int), (0 : Int), (0 : Int)))) = IntKind.wrap IntKind.i64 (Prod.snd x + (1 : Int)))) = false → ((0 : Int) ≤ (↑(Prod.fst
  x) : Int) ∧ (↑(Prod.fst x) : Int) < (↑(List.length (Prod.fst d)) : Int)) ∧ ((!decide (Prod.snd (Prod.snd (List.getD (Prod.fst d) (Int.toNat (↑(Prod.fst x) : Int)) ((0 : Int), (0 : Int), (0 : Int)))) = IntKind.wrap
  IntKind.i64 (IntKind.wrap IntKind.i64 (Prod.snd x + (1 : Int)) + (1 : Int)))) = true → (-1 : Int) = held3 (Prod.fst d) (Prod.snd d)) ∧ ((!decide (Prod.snd (Prod.snd (List.getD (Prod.fst d) (Int.toNat (↑(Prod.fst x) :
  Int)) ((0 : Int), (0 : Int), (0 : Int)))) = IntKind.wrap IntKind.i64 (IntKind.wrap IntKind.i64 (Prod.snd x + (1 : Int)) + (1 : Int)))) = false → ∃ (x' : Nat × Int), (Prod.fst x' ≤ List.length (Prod.fst d) ∧ held3
  (List.drop (Prod.fst x') (Prod.fst d)) (Prod.snd x') = held3 (Prod.fst d) (Prod.snd d)) ∧ List.length (Prod.fst d) - Prod.fst x' < List.length (Prod.fst d) - Prod.fst x ∧ Prod.fst d = Prod.fst d ∧ IntKind.wrap
  IntKind.i64 (IntKind.wrap IntKind.i64 (IntKind.wrap IntKind.i64 (Prod.snd x + (1 : Int)) + (1 : Int)) + (1 : Int)) = Prod.snd x' ∧ IntKind.wrap IntKind.i64 ((↑(Prod.fst x) : Int) + (1 : Int)) = (↑(Prod.fst x') :
  Int))))) ∧ (decide ((↑(Prod.fst x) : Int) < (↑(List.length (Prod.fst d)) : Int)) = false → Prod.snd x = held3 (Prod.fst d) (Prod.snd d)) := by
  intro (d : List (Int × Int × Int) × Int) hw _
  obtain ⟨xs, k⟩ := d
  have hl : xs.length ≤ 9223372036854775807 := hw.1.1
  simp only [Int.toNat_natCast, exists_const, and_true, true_and, implies_true, decide_eq_true_eq, decide_eq_false_iff_not, Bool.not_eq_true', Bool.not_eq_false', beq_iff_eq, forall_const]
  refine ⟨⟨Nat.zero_le _, by simp⟩, rfl, fun x ⟨h1, h2⟩ => ⟨fun h3 => ?_, fun h3 => ?_⟩⟩
  · have h4 : x.1 < xs.length := by omega
    rw [getD_drop_cons (x := ((0 : Int), (0 : Int), (0 : Int))) h4] at h2
    generalize held3 xs k = r at h2 ⊢
    unfold held3 heldGo at h2
    rw [wrap_succ (by omega)]
    refine ⟨⟨by omega, by omega⟩, ?_⟩
    generalize xs.getD x.1 (0, 0, 0) = y at *
    by_cases a1 : y.1 = x.2
    · refine ⟨fun h => absurd a1 (by simpa using h), fun _ => ⟨⟨by omega, by omega⟩, ?_⟩⟩
      by_cases a2 : y.2.1 = w64 (x.2 + 1)
      · refine ⟨fun h => absurd a2 (by simpa [w64] using h), fun _ => ⟨⟨by omega, by omega⟩, ?_⟩⟩
        by_cases a3 : y.2.2 = w64 (w64 (x.2 + 1) + 1)
        · refine ⟨fun h => absurd a3 (by simpa [w64] using h), fun _ => ⟨(x.1 + 1, n3 x.2), ⟨by simp only; omega, ?_⟩, by simp only; omega, rfl, rfl⟩⟩
          rw [if_pos (by simp [ok3, a1, a2, a3])] at h2
          exact h2
        · refine ⟨fun _ => ?_, fun h => absurd (by simpa [w64] using h) a3⟩
          rw [if_neg (by simp [ok3, a3])] at h2
          exact h2
      · refine ⟨fun _ => ?_, fun h => absurd (by simpa [w64] using h) a2⟩
        rw [if_neg (by simp [ok3, a2])] at h2
        exact h2
    · refine ⟨fun _ => ?_, fun h => absurd (by simpa using h) a1⟩
      rw [if_neg (by simp [ok3, a1])] at h2
      exact h2
  · have h4 : x.1 = xs.length := by omega
    rw [h4, List.drop_length] at h2
    exact h2
end Go.SF
