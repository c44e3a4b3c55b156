/- What is owed of the code of the fields. No condition. -/
import Derived.Test.YtdomcnkhdnagiaaSxC
import Derived.Test.YtdomcnkhdnagiaaSxPBase
import Derived.Test.YtdomcnkhdnagiaaSxPIntS
namespace Go.SF
open Go.SX Go
set_option linter.unusedVariables false
set_option linter.unusedSimpArgs false
set_option maxRecDepth 10000
theorem field_cases {f : Int} (h : 0 ≤ f ∧ f < 9) : f = 0 ∨ f = 1 ∨ f = 2 ∨ f = 3 ∨ f = 4 ∨ f = 5 ∨ f = 6 ∨ f = 7 ∨ f = 8 := by omega
theorem field_none {f : Int} (h : ¬ (0 ≤ f ∧ f < 9)) : fieldF f = ((0, 0, 0), false) := by unfold fieldF; rw [if_neg h]
theorem mod_none {f : Int} (h : ¬ (0 ≤ f ∧ f < 9)) : modF f = 0 := by unfold modF; rw [field_none h]
theorem two_none {f : Int} (h : ¬ (0 ≤ f ∧ f < 9)) : twoF f = -1 := by unfold twoF; rw [field_none h]; rfl
theorem mod_pos {f : Int} (h : 0 ≤ f ∧ f < 9) : 17 ≤ modF f ∧ modF f ≤ 1004535809 ∧ 4 ≤ twoF f ∧ twoF f ≤ 26 := by
  rcases field_cases h with rfl | rfl | rfl | rfl | rfl | rfl | rfl | rfl | rfl <;> decide
theorem field_ok {f : Int} : (fieldF f).2 = true ↔ 0 ≤ f ∧ f < 9 := by
  unfold fieldF
  split
  case isTrue h => exact ⟨fun _ => h, fun _ => rfl⟩
  case isFalse h => exact ⟨fun e => (by cases e), fun e => absurd e h⟩
theorem two_pow_at : ∀ f : Fin 9, ∀ x : Fin 27, (x.val : Int) ≤ twoF (f.val : Int) → (((modF (f.val : Int) - 1) / 2 ^ x.val).tmod 2 = 0 ↔ (x.val : Int) < twoF (f.val : Int)) := by decide +kernel
theorem two_pow {f : Int} (h : 0 ≤ f ∧ f < 9) {x : Nat} (hx : (x : Int) ≤ twoF f) : ((modF f - 1) / 2 ^ x).tmod 2 = 0 ↔ (x : Int) < twoF f := by
  have hb := mod_pos h
  have := two_pow_at ⟨f.toNat, by omega⟩ ⟨x, by omega⟩
  simp only [Int.toNat_of_nonneg h.1] at this
  exact this hx
theorem half_pow {m : Int} (h0 : 0 ≤ m) (x : Nat) : (m / 2 ^ x).tdiv 2 = m / 2 ^ (x + 1) := by
  have hp : (0 : Int) ≤ 2 ^ x := Int.le_of_lt (Int.pow_pos (by omega))
  rw [Int.tdiv_eq_ediv_of_nonneg (Int.ediv_nonneg h0 hp), Int.ediv_ediv_of_nonneg hp, Int.pow_succ]
theorem logGo_at (n : Int) : ∀ (m k : Nat), 10 - m ≤ k → m ≤ 10 → k ≤ 9 → n = 2 ^ k → (∀ j, 10 - m ≤ j → j < k → n ≠ 2 ^ j) → logGo n m = (k : Int)
  | 0, k, h1, _, h2, _, _ => by omega
  | m + 1, k, h1, hm, h2, h3, h4 => by
    unfold logGo
    by_cases e : k = 9 - m
    · subst e
      rw [if_pos h3]
    · rw [if_neg (h4 (9 - m) (by omega) (by omega))]
      exact logGo_at n m k (by omega) (by omega) h2 h3 (fun j a b => h4 j (by omega) b)
theorem logGo_none (n : Int) : ∀ (m : Nat), m ≤ 10 → (∀ j, 10 - m ≤ j → j < 10 → n ≠ 2 ^ j) → logGo n m = -1
  | 0, _, _ => rfl
  | m + 1, hm, h => by
    unfold logGo
    rw [if_neg (h (9 - m) (by omega) (by omega))]
    exact logGo_none n m (by omega) (fun j a b => h j (by omega) b)
theorem log_at {n : Int} {k : Nat} (h : LogP n k) (hk : k ≤ 9) (e : n = 2 ^ k) : logF n = (k : Int) := logGo_at n 10 k (by omega) (by omega) hk e (fun j _ b => h.2 j b)
theorem log_none {n : Int} {k : Nat} (h : LogP n k) (hk : ¬ k ≤ 9) : logF n = -1 := logGo_none n 10 (by omega) (fun j _ b => h.2 j (by omega))
theorem log_next {n : Int} {k : Nat} (h : LogP n k) (hk : k ≤ 9) (e : ¬ n = 2 ^ k) : LogP n (k + 1) := by
  refine ⟨by omega, fun j hj => ?_⟩
  by_cases ej : j = k
  · subst ej; exact e
  · exact h.2 j (by omega)
theorem ishl_pow {x : Nat} (h : x ≤ 62) : ishl .i64 1 (x : Int) = 2 ^ x := by
  unfold ishl
  rw [Int.toNat_natCast, show min x IntKind.i64.bits = x by show min x 64 = x; omega, Int.one_mul]
  have h1 : (2 : Nat) ^ x ≤ 2 ^ 62 := Nat.pow_le_pow_right (by omega) h
  have h5 : ((2 ^ x : Nat) : Int) = (2 : Int) ^ x := Int.natCast_pow 2 x
  have h6 : ((2 ^ x : Nat) : Int) ≤ 4611686018427387904 := by
    have h3 : (2 : Nat) ^ 62 = 4611686018427387904 := by decide
    rw [h3] at h1
    exact Int.ofNat_le.2 h1
  have h7 : 0 ≤ ((2 ^ x : Nat) : Int) := Int.natCast_nonneg _
  refine wrap_small ?_
  rw [← h5]
  generalize ((2 ^ x : Nat) : Int) = z at *
  omega
theorem u64_small : ∀ x : Fin 64, IntKind.u64.wrap (x.val : Int) = (x.val : Int) := by decide +kernel
theorem tk_succ {α : Type} {xs : List α} {x : Nat} {z : α} (h : x < xs.length) : xs.take x ++ [xs.getD x z] = xs.take (x + 1) := by
  rw [List.take_add_one, List.getElem?_eq_getElem h, List.getD_eq_getElem?_getD, List.getElem?_eq_getElem h]; rfl
theorem elems_succ {p : Int} {xs : List Int} {x : Nat} (hx : x < xs.length) (h : elemsF p (xs.take x) = true) (h1 : 0 ≤ xs.getD x 0 ∧ xs.getD x 0 ≤ p - 1) : elemsF p (xs.take (x + 1)) = true := by
  unfold elemsF at *
  rw [decide_eq_true_eq] at *
  rw [← tk_succ (z := (0 : Int)) hx]
  intro y hy
  rcases List.mem_append.1 hy with hy | hy
  · exact h y hy
  · rw [List.mem_singleton.1 hy]; exact h1
theorem elems_no {p : Int} {xs : List Int} {x : Nat} (hx : x < xs.length) (h1 : ¬ (0 ≤ xs.getD x 0 ∧ xs.getD x 0 ≤ p - 1)) : false = elemsF p xs := by
  unfold elemsF
  refine (decide_eq_false (fun h => h1 ?_)).symm
  rw [List.getD_eq_getElem?_getD, List.getElem?_eq_getElem hx]
  exact h _ (List.getElem_mem hx)
theorem elems_end {p : Int} {xs : List Int} {x : Nat} (h : ElP p xs x) (hx : ¬ x < xs.length) : true = elemsF p xs := by
  have h2 := h.2
  rw [List.take_of_length_le (by omega)] at h2
  exact h2.symm
end Go.SF
