/- What is owed of the code of the lines' functions. No condition. -/
import Derived.Test.YtnjihkeflkemdaaSxC
import Derived.Test.YtnjihkeflkemdaaSxPBase
namespace Go.SF
open Go.SX Go
set_option linter.unusedVariables false
set_option linter.unusedSimpArgs false
set_option maxRecDepth 10000
theorem pe {α β : Type} (p : α × β) : (p.1, p.2) = p := rfl
theorem line_succ {d : List Tk} {x : Nat} (h : LineP d x) (h1 : isTicketF (d.getD x (0, 0)) = true) (h2 : 0 < x → (d.getD (x - 1) (0, 0)).1 < (d.getD x (0, 0)).1) : LineP d (x + 1) := by
  intro j hj
  by_cases e : j = x
  · subst e; exact ⟨h1, h2⟩
  · exact h j (by omega)
theorem line_no {d : List Tk} {x : Nat} (hx : x < d.length) (h : ¬ (isTicketF (d.getD x (0, 0)) = true ∧ (0 < x → (d.getD (x - 1) (0, 0)).1 < (d.getD x (0, 0)).1))) : lineOkF d = false := by
  unfold lineOkF
  rw [Bool.and_eq_false_iff]
  right
  exact decide_eq_false (fun hp => h (hp x hx))
theorem wrap_pred {n : Nat} (h0 : 0 < n) (h : n ≤ 9223372036854775807) : IntKind.i64.wrap ((n : Int) - 1) = ((n - 1 : Nat) : Int) := by
  rw [wrap_small (by omega)]; omega
theorem v_I_isTicket :
  ∀ (d : Int × Int), Ty.wf tkT d → True → (decide ((1 : Int) ≤ Prod.fst d) = true → (decide (Prod.fst d ≤ (1000000000 : Int)) = true → (decide ((1 : Int) ≤ Prod.snd d) = true → decide (Prod.snd d ≤ (200000 : Int)) =
  isTicketF d) ∧ (decide ((1 : Int) ≤ Prod.snd d) = false → false = isTicketF d)) ∧ (decide (Prod.fst d ≤ (1000000000 : Int)) = false → false = isTicketF d)) ∧ (decide ((1 : Int) ≤ Prod.fst d) = false → false = isTicketF
  d) := by
  intro d _ _
  obtain ⟨a, b⟩ := d
  simp only [isTicketF]
  grind
theorem v_I_isLine :
  ∀ (d : List (Ty.den tkT)), Ty.wf lineT d → True → ((0 : Nat) ≤ List.length d ∧ LineP d (0 : Nat)) ∧ ((d = d ∧ d = d ∧ (↑(List.length d) : Int) = (↑(List.length d) : Int) ∧ (0 : Int) = (↑(0 : Nat) : Int)) ∧ d = d) ∧ ∀
  (x : Nat), x ≤ List.length d ∧ LineP d x → (decide ((↑x : Int) < (↑(List.length d) : Int)) = true → ((0 : Int) ≤ (↑x : Int) ∧ (↑x : Int) < (↑(List.length d) : Int)) ∧ True ∧ ((!isTicketF (Prod.fst (List.getD d
  (Int.toNat (↑x : Int)) ((0 : Int), (0 : Int))), Prod.snd (List.getD d (Int.toNat (↑x : Int)) ((0 : Int), (0 : Int))))) = true → false = lineOkF d) ∧ ((!isTicketF (Prod.fst (List.getD d (Int.toNat (↑x : Int)) ((0 :
  Int), (0 : Int))), Prod.snd (List.getD d (Int.toNat (↑x : Int)) ((0 : Int), (0 : Int))))) = false → (decide ((0 : Int) < (↑x : Int)) = true → ((0 : Int) ≤ IntKind.wrap IntKind.i64 ((↑x : Int) - (1 : Int)) ∧
  IntKind.wrap IntKind.i64 ((↑x : Int) - (1 : Int)) < (↑(List.length d) : Int)) ∧ (decide (Prod.fst (List.getD d (Int.toNat (↑x : Int)) ((0 : Int), (0 : Int))) ≤ Prod.fst (List.getD d (Int.toNat (IntKind.wrap IntKind.i64
  ((↑x : Int) - (1 : Int)))) ((0 : Int), (0 : Int)))) = true → false = lineOkF d) ∧ (decide (Prod.fst (List.getD d (Int.toNat (↑x : Int)) ((0 : Int), (0 : Int))) ≤ Prod.fst (List.getD d (Int.toNat (IntKind.wrap
  IntKind.i64 ((↑x : Int) - (1 : Int)))) ((0 : Int), (0 : Int)))) = false → ∃ (x' : Nat), (x' ≤ List.length d ∧ LineP d x') ∧ List.length d - x' < List.length d - x ∧ (d = d ∧ d = d ∧ (↑(List.length d) : Int) =
  (↑(List.length d) : Int) ∧ IntKind.wrap IntKind.i64 ((↑x : Int) + (1 : Int)) = (↑x' : Int)) ∧ d = d)) ∧ (decide ((0 : Int) < (↑x : Int)) = false → ∃ (x' : Nat), (x' ≤ List.length d ∧ LineP d x') ∧ List.length d - x' <
  List.length d - x ∧ (d = d ∧ d = d ∧ (↑(List.length d) : Int) = (↑(List.length d) : Int) ∧ IntKind.wrap IntKind.i64 ((↑x : Int) + (1 : Int)) = (↑x' : Int)) ∧ d = d))) ∧ (decide ((↑x : Int) < (↑(List.length d) : Int)) =
  false → decide ((↑(List.length d) : Int) ≤ (40 : Int)) = lineOkF d) := by
  intro d hw _
  have hl : d.length ≤ 9223372036854775807 := hw.1
  simp only [Int.toNat_natCast, pe]
  refine ⟨⟨by omega, fun j hj => by omega⟩, by simp, fun x ⟨h1, h2⟩ => ⟨fun h3 => ?_, fun h3 => ?_⟩⟩
  · have h4 : x < d.length := by simpa using h3
    refine ⟨⟨by omega, by omega⟩, trivial, fun h5 => ?_, fun h5 => ⟨fun h6 => ?_, fun h6 => ?_⟩⟩
    · rw [line_no h4 (fun hh => by rw [hh.1] at h5; cases h5)]
    · have h7 : 0 < x := by simp at h6; omega
      rw [wrap_pred h7 (by omega), wrap_succ (by omega)]
      simp only [Int.toNat_natCast]
      refine ⟨⟨by omega, by omega⟩, fun h8 => ?_, fun h8 => ⟨x + 1, ⟨by omega, line_succ h2 (by simpa using h5) (fun _ => by simp at h8; simpa using h8)⟩, by omega, by simp⟩⟩
      rw [line_no h4 (fun hh => absurd (hh.2 h7) (Int.not_lt.2 (of_decide_eq_true h8)))]
    · rw [wrap_succ (by omega)]
      exact ⟨x + 1, ⟨by omega, line_succ h2 (by simpa using h5) (fun _ => by simp at h6; omega)⟩, by omega, by simp⟩
  · have h4 : x = d.length := by simp at h3; omega
    subst h4
    unfold lineOkF
    simp only [h2, decide_true, Bool.and_true]
    exact decide_eq_decide.2 (by omega)
theorem idx_range (id : Int) : ∀ (xs : List Tk) (k : Nat), idxGo id xs k = -1 ∨ ((k : Int) ≤ idxGo id xs k ∧ idxGo id xs k < (k : Int) + (xs.length : Int))
  | [], k => .inl rfl
  | x :: xs, k => by
    unfold idxGo
    split
    · right; simp only [List.length_cons]; omega
    · rcases idx_range id xs (k + 1) with h | h
      · exact .inl h
      · right; simp only [List.length_cons]; omega
theorem line_take {xs : List Tk} (h : lineOkF xs = true) (n : Nat) : lineOkF (xs.take n) = true := by
  unfold lineOkF at *
  rw [Bool.and_eq_true, decide_eq_true_eq, decide_eq_true_eq] at *
  obtain ⟨h1, h2⟩ := h
  refine ⟨by rw [List.length_take]; omega, fun j hj => ?_⟩
  rw [List.length_take] at hj
  have g : ∀ i, i < n → (xs.take n).getD i (0, 0) = xs.getD i (0, 0) := by
    intro i hi
    simp only [List.getD_eq_getElem?_getD, List.getElem?_take, if_pos hi]
  rw [g j (by omega), g (j - 1) (by omega)]
  exact h2 j (by omega)
theorem sz_room {n : Nat} (hl : n ≤ 9223372036854775807) : szF n 1048576 < 0 ∨ n ≤ 1048576 := by
  unfold szF w64
  rw [wrap_small (by omega)]
  split <;> omega
end Go.SF
