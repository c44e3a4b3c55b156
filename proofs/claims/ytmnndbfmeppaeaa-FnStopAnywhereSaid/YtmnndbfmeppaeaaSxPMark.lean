/- What is owed of the code of the marks' functions. No condition. -/
import Derived.Test.YtmnndbfmeppaeaaSxC
import Derived.Test.YtmnndbfmeppaeaaSxPLine
namespace Go.SF
open Go.SX Go
set_option linter.unusedVariables false
set_option linter.unusedSimpArgs false
set_option maxRecDepth 10000
theorem mkGo_length {α : Type} (el : Int → α) (nx : Int → Int) : ∀ (xs : List α) (k : Int), (mkGo el nx xs k).length = xs.length
  | [], k => rfl
  | x :: xs, k => by simp [mkGo, mkGo_length el nx xs]
theorem held_mk {α : Type} {el : Int → α} {nx : Int → Int} {ok : α → Int → Bool} (h : ∀ k, ok (el k) k = true) : ∀ (xs : List α) (k : Int), heldGo ok nx (mkGo el nx xs k) k = mkEnd nx xs k
  | [], k => rfl
  | x :: xs, k => by simp [mkGo, heldGo, mkEnd, h, held_mk h xs]
theorem mkEnd_small {α : Type} {nx : Int → Int} (c : Nat) (h : ∀ k, 0 ≤ k → k ≤ 4611686018427387904 → nx k = k + c) : ∀ (xs : List α) (k : Int), 0 ≤ k → k + c * xs.length ≤ 4611686018427387904 → mkEnd nx xs k = k + c * xs.length
  | [], k, _, _ => by simp [mkEnd]
  | x :: xs, k, h0, h1 => by
    have e : (c : Int) * ((x :: xs).length : Int) = c + c * (xs.length : Int) := by rw [List.length_cons]; push_cast; rw [Int.mul_add, Int.mul_one, Int.add_comm]
    have hc : 0 ≤ (c : Int) * (xs.length : Int) := Int.mul_nonneg (by omega) (by omega)
    rw [e] at h1 ⊢
    unfold mkEnd
    rw [h k h0 (by omega), mkEnd_small c h xs _ (by omega) (by omega)]
    omega
theorem mkEnd_take {α : Type} (nx : Int → Int) : ∀ (xs : List α) (k : Int) (j : Nat), j < xs.length → mkEnd nx (xs.take (j + 1)) k = nx (mkEnd nx (xs.take j) k)
  | [], k, j, h => by simp at h
  | x :: xs, k, 0, h => by simp [mkEnd]
  | x :: xs, k, j + 1, h => by
    simp only [List.take_succ_cons, mkEnd]
    exact mkEnd_take nx xs (nx k) j (by simpa using h)
theorem mk_step {α : Type} (el : Int → α) (nx : Int → Int) : ∀ (xs : List α) (k : Int) (j : Nat), j < xs.length →
    (mkGo el nx (xs.take j) k ++ xs.drop j).set j (el (mkEnd nx (xs.take j) k)) = mkGo el nx (xs.take (j + 1)) k ++ xs.drop (j + 1)
  | [], k, j, h => by simp at h
  | x :: xs, k, 0, h => by simp [mkGo, mkEnd]
  | x :: xs, k, j + 1, h => by
    simp only [List.take_succ_cons, mkGo, mkEnd, List.drop_succ_cons, List.cons_append, List.set_cons_succ]
    rw [mk_step el nx xs (nx k) j (by simpa using h)]
theorem getD_set {α : Type} {l : List α} {i : Nat} {a z : α} (h : i < l.length) : (l.set i a).getD i z = a := by
  simp [List.getD_eq_getElem?_getD, h]
theorem mark3_length (xs : List (Int × Int × Int)) (k : Int) : (mark3 xs k).length = xs.length := mkGo_length _ _ _ _
theorem mark2_length (xs : List (Int × Int)) (k : Int) : (mark2 xs k).length = xs.length := mkGo_length _ _ _ _
theorem mark1_length (xs : List Int) (k : Int) : (mark1 xs k).length = xs.length := mkGo_length _ _ _ _
theorem held3_mark (xs : List (Int × Int × Int)) (k : Int) : held3 (mark3 xs k) k = end3 xs k := held_mk (fun k => by simp [ok3, el3]) xs k
theorem held2_mark (xs : List (Int × Int)) (k : Int) : held2 (mark2 xs k) k = end2 xs k := held_mk (fun k => by simp [ok2, el2]) xs k
theorem held1_mark (xs : List Int) (k : Int) : held1 (mark1 xs k) k = end1 xs k := held_mk (fun k => by simp [ok1, el1]) xs k
theorem end3_small (xs : List (Int × Int × Int)) {k : Int} (h0 : 0 ≤ k) (h1 : k + 3 * xs.length ≤ 4611686018427387904) : end3 xs k = k + 3 * xs.length :=
  mkEnd_small 3 (fun k a b => by unfold n3 w64; rw [wrap_small (n := k + 1) (by omega), wrap_small (n := k + 1 + 1) (by omega), wrap_small (by omega)]; omega) xs k h0 h1
theorem end2_small (xs : List (Int × Int)) {k : Int} (h0 : 0 ≤ k) (h1 : k + 2 * xs.length ≤ 4611686018427387904) : end2 xs k = k + 2 * xs.length :=
  mkEnd_small 2 (fun k a b => by unfold n2 w64; rw [wrap_small (n := k + 1) (by omega), wrap_small (by omega)]; omega) xs k h0 h1
theorem end1_small (xs : List Int) {k : Int} (h0 : 0 ≤ k) (h1 : k + 1 * xs.length ≤ 4611686018427387904) : end1 xs k = k + 1 * xs.length :=
  mkEnd_small 1 (fun k a b => by unfold n1 w64; rw [wrap_small (by omega)]; omega) xs k h0 h1
end Go.SF
