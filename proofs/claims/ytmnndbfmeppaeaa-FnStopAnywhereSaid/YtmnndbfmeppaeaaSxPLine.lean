/- What is owed of the code of the lines' functions. No condition. -/
import Derived.Test.YtmnndbfmeppaeaaSxC
import Derived.Test.YtmnndbfmeppaeaaSxPBase
namespace Go.SF
open Go.SX Go
set_option linter.unusedVariables false
set_option linter.unusedSimpArgs false
set_option maxRecDepth 10000
theorem pe {α β : Type} (p : α × β) : (p.1, p.2) = p := rfl
theorem line_succ {d : List Tk} {x : Nat} (h : LineP d x) (h1 : isTicketF (d.getD x (0, 0)) = true) (h2 : 0 < x → (d.getD (x - 1) (0, 0)).1 < (d.getD x (0, 0)).1) : LineP d (x + 1) := by
  intro j hj
  by_cases e : j = x
  · subst e; exact ⟨h1, h2⟩
  · exact h j (by omega)
theorem line_no {d : List Tk} {x : Nat} (hx : x < d.length) (h : ¬ (isTicketF (d.getD x (0, 0)) = true ∧ (0 < x → (d.getD (x - 1) (0, 0)).1 < (d.getD x (0, 0)).1))) : lineOkF d = false := by
  unfold lineOkF
  rw [Bool.and_eq_false_iff]
  right
  exact decide_eq_false (fun hp => h (hp x hx))
theorem wrap_pred {n : Nat} (h0 : 0 < n) (h : n ≤ 9223372036854775807) : IntKind.i64.wrap ((n : Int) - 1) = ((n - 1 : Nat) : Int) := by
  rw [wrap_small (by omega)]; omega
theorem idx_range (id : Int) : ∀ (xs : List Tk) (k : Nat), idxGo id xs k = -1 ∨ ((k : Int) ≤ idxGo id xs k ∧ idxGo id xs k < (k : Int) + (xs.length : Int))
  | [], k => .inl rfl
  | x :: xs, k => by
    unfold idxGo
    split
    · right; simp only [List.length_cons]; omega
    · rcases idx_range id xs (k + 1) with h | h
      · exact .inl h
      · right; simp only [List.length_cons]; omega
theorem line_take {xs : List Tk} (h : lineOkF xs = true) (n : Nat) : lineOkF (xs.take n) = true := by
  unfold lineOkF at *
  rw [Bool.and_eq_true, decide_eq_true_eq, decide_eq_true_eq] at *
  obtain ⟨h1, h2⟩ := h
  refine ⟨by rw [List.length_take]; omega, fun j hj => ?_⟩
  rw [List.length_take] at hj
  have g : ∀ i, i < n → (xs.take n).getD i (0, 0) = xs.getD i (0, 0) := by
    intro i hi
    simp only [List.getD_eq_getElem?_getD, List.getElem?_take, if_pos hi]
  rw [g j (by omega), g (j - 1) (by omega)]
  exact h2 j (by omega)
theorem sz_room {n : Nat} (hl : n ≤ 9223372036854775807) : szF n 1048576 < 0 ∨ n ≤ 1048576 := by
  unfold szF w64
  rw [wrap_small (by omega)]
  split <;> omega
end Go.SF
