/- What is owed of the code of the fields. No condition. -/
import Derived.Test.YtobmiihdfklmaaaGreatSxC
import Derived.Test.YtobmiihdfklmaaaGreatSxPBase
import Derived.Test.YtobmiihdfklmaaaGreatSxPIntS
namespace Go.SF
open Go.SX Go
set_option linter.unusedVariables false
set_option linter.unusedSimpArgs false
set_option maxRecDepth 10000
theorem field_cases {f : Int} (h : 0 ≤ f ∧ f < 9) : f = 0 ∨ f = 1 ∨ f = 2 ∨ f = 3 ∨ f = 4 ∨ f = 5 ∨ f = 6 ∨ f = 7 ∨ f = 8 := by omega
theorem field_none {f : Int} (h : ¬ (0 ≤ f ∧ f < 9)) : fieldF f = ((0, 0, 0), false) := by unfold fieldF; rw [if_neg h]
theorem mod_none {f : Int} (h : ¬ (0 ≤ f ∧ f < 9)) : modF f = 0 := by unfold modF; rw [field_none h]
theorem two_none {f : Int} (h : ¬ (0 ≤ f ∧ f < 9)) : twoF f = -1 := by unfold twoF; rw [field_none h]; rfl
theorem mod_pos {f : Int} (h : 0 ≤ f ∧ f < 9) : 17 ≤ modF f ∧ modF f ≤ 1004535809 ∧ 4 ≤ twoF f ∧ twoF f ≤ 26 := by
  rcases field_cases h with rfl | rfl | rfl | rfl | rfl | rfl | rfl | rfl | rfl <;> decide
theorem field_ok {f : Int} : (fieldF f).2 = true ↔ 0 ≤ f ∧ f < 9 := by
  unfold fieldF
  split
  case isTrue h => exact ⟨fun _ => h, fun _ => rfl⟩
  case isFalse h => exact ⟨fun e => (by cases e), fun e => absurd e h⟩
theorem two_pow_at : ∀ f : Fin 9, ∀ x : Fin 27, (x.val : Int) ≤ twoF (f.val : Int) → (((modF (f.val : Int) - 1) / 2 ^ x.val).tmod 2 = 0 ↔ (x.val : Int) < twoF (f.val : Int)) := by decide +kernel
theorem two_pow {f : Int} (h : 0 ≤ f ∧ f < 9) {x : Nat} (hx : (x : Int) ≤ twoF f) : ((modF f - 1) / 2 ^ x).tmod 2 = 0 ↔ (x : Int) < twoF f := by
  have hb := mod_pos h
  have := two_pow_at ⟨f.toNat, by omega⟩ ⟨x, by omega⟩
  simp only [Int.toNat_of_nonneg h.1] at this
  exact this hx
theorem half_pow {m : Int} (h0 : 0 ≤ m) (x : Nat) : (m / 2 ^ x).tdiv 2 = m / 2 ^ (x + 1) := by
  have hp : (0 : Int) ≤ 2 ^ x := Int.le_of_lt (Int.pow_pos (by omega))
  rw [Int.tdiv_eq_ediv_of_nonneg (Int.ediv_nonneg h0 hp), Int.ediv_ediv_of_nonneg hp, Int.pow_succ]
theorem logGo_at (n : Int) : ∀ (m k : Nat), 10 - m ≤ k → m ≤ 10 → k ≤ 9 → n = 2 ^ k → (∀ j, 10 - m ≤ j → j < k → n ≠ 2 ^ j) → logGo n m = (k : Int)
  | 0, k, h1, _, h2, _, _ => by omega
  | m + 1, k, h1, hm, h2, h3, h4 => by
    unfold logGo
    by_cases e : k = 9 - m
    · subst e
      rw [if_pos h3]
    · rw [if_neg (h4 (9 - m) (by omega) (by omega))]
      exact logGo_at n m k (by omega) (by omega) h2 h3 (fun j a b => h4 j (by omega) b)
theorem logGo_none (n : Int) : ∀ (m : Nat), m ≤ 10 → (∀ j, 10 - m ≤ j → j < 10 → n ≠ 2 ^ j) → logGo n m = -1
  | 0, _, _ => rfl
  | m + 1, hm, h => by
    unfold logGo
    rw [if_neg (h (9 - m) (by omega) (by omega))]
    exact logGo_none n m (by omega) (fun j a b => h j (by omega) b)
theorem log_at {n : Int} {k : Nat} (h : LogP n k) (hk : k ≤ 9) (e : n = 2 ^ k) : logF n = (k : Int) := logGo_at n 10 k (by omega) (by omega) hk e (fun j _ b => h.2 j b)
theorem log_none {n : Int} {k : Nat} (h : LogP n k) (hk : ¬ k ≤ 9) : logF n = -1 := logGo_none n 10 (by omega) (fun j _ b => h.2 j (by omega))
theorem log_next {n : Int} {k : Nat} (h : LogP n k) (hk : k ≤ 9) (e : ¬ n = 2 ^ k) : LogP n (k + 1) := by
  refine ⟨by omega, fun j hj => ?_⟩
  by_cases ej : j = k
  · subst ej; exact e
  · exact h.2 j (by omega)
theorem ishl_pow {x : Nat} (h : x ≤ 62) : ishl .i64 1 (x : Int) = 2 ^ x := by
  unfold ishl
  rw [Int.toNat_natCast, show min x IntKind.i64.bits = x by show min x 64 = x; omega, Int.one_mul]
  have h1 : (2 : Nat) ^ x ≤ 2 ^ 62 := Nat.pow_le_pow_right (by omega) h
  have h5 : ((2 ^ x : Nat) : Int) = (2 : Int) ^ x := Int.natCast_pow 2 x
  have h6 : ((2 ^ x : Nat) : Int) ≤ 4611686018427387904 := by
    have h3 : (2 : Nat) ^ 62 = 4611686018427387904 := by decide
    rw [h3] at h1
    exact Int.ofNat_le.2 h1
  have h7 : 0 ≤ ((2 ^ x : Nat) : Int) := Int.natCast_nonneg _
  refine wrap_small ?_
  rw [← h5]
  generalize ((2 ^ x : Nat) : Int) = z at *
  omega
theorem u64_small : ∀ x : Fin 64, IntKind.u64.wrap (x.val : Int) = (x.val : Int) := by decide +kernel
theorem tk_succ {α : Type} {xs : List α} {x : Nat} {z : α} (h : x < xs.length) : xs.take x ++ [xs.getD x z] = xs.take (x + 1) := by
  rw [List.take_add_one, List.getElem?_eq_getElem h, List.getD_eq_getElem?_getD, List.getElem?_eq_getElem h]; rfl
theorem elems_succ {p : Int} {xs : List Int} {x : Nat} (hx : x < xs.length) (h : elemsF p (xs.take x) = true) (h1 : 0 ≤ xs.getD x 0 ∧ xs.getD x 0 ≤ p - 1) : elemsF p (xs.take (x + 1)) = true := by
  unfold elemsF at *
  rw [decide_eq_true_eq] at *
  rw [← tk_succ (z := (0 : Int)) hx]
  intro y hy
  rcases List.mem_append.1 hy with hy | hy
  · exact h y hy
  · rw [List.mem_singleton.1 hy]; exact h1
theorem elems_no {p : Int} {xs : List Int} {x : Nat} (hx : x < xs.length) (h1 : ¬ (0 ≤ xs.getD x 0 ∧ xs.getD x 0 ≤ p - 1)) : false = elemsF p xs := by
  unfold elemsF
  refine (decide_eq_false (fun h => h1 ?_)).symm
  rw [List.getD_eq_getElem?_getD, List.getElem?_eq_getElem hx]
  exact h _ (List.getElem_mem hx)
theorem elems_end {p : Int} {xs : List Int} {x : Nat} (h : ElP p xs x) (hx : ¬ x < xs.length) : true = elemsF p xs := by
  have h2 := h.2
  rw [List.take_of_length_le (by omega)] at h2
  exact h2.symm
theorem v_I_fieldOf :
 ∀ (d : Int), Ty.wf i64T d → True → (List.length [((17 : Int), (3 : Int), (4 : Int)), ((97 : Int), (5 : Int), (5 : Int)), ((193 : Int), (5 : Int), (6 : Int)), ((257 : Int), (3 : Int), (8 : Int)), ((7681 : Int), (17 :
 Int), (9 : Int)), ((12289 : Int), (11 : Int), (12 : Int)), ((998244353 : Int), (3 : Int), (23 : Int)), ((469762049 : Int), (3 : Int), (26 : Int)), ((1004535809 : Int), (3 : Int), (21 : Int))] = List.length
 (List.replicate (9 : Nat) ((0 : Int), (0 : Int), (0 : Int))) ∧ List.length [((17 : Int), (3 : Int), (4 : Int)), ((97 : Int), (5 : Int), (5 : Int)), ((193 : Int), (5 : Int), (6 : Int)), ((257 : Int), (3 : Int), (8 :
 Int)), ((7681 : Int), (17 : Int), (9 : Int)), ((12289 : Int), (11 : Int), (12 : Int)), ((998244353 : Int), (3 : Int), (23 : Int)), ((469762049 : Int), (3 : Int), (26 : Int)), ((1004535809 : Int), (3 : Int), (21 : Int))]
 * (3 : Nat) = (27 : Nat)) ∧ (decide (d < (0 : Int)) = true → (((0 : Int), (0 : Int), (0 : Int)), false) = fieldF d) ∧ (decide (d < (0 : Int)) = false → (decide ((9 : Int) ≤ d) = true → (((0 : Int), (0 : Int), (0 :
 Int)), false) = fieldF d) ∧ (decide ((9 : Int) ≤ d) = false → ((0 : Int) ≤ d ∧ d < (↑(9 : Nat) : Int) ∧ (0 : Nat) + (d.toNat + (1 : Nat)) * (3 / 3 : Nat) ≤ List.length [((17 : Int), (3 : Int), (4 : Int)), ((97 : Int),
 (5 : Int), (5 : Int)), ((193 : Int), (5 : Int), (6 : Int)), ((257 : Int), (3 : Int), (8 : Int)), ((7681 : Int), (17 : Int), (9 : Int)), ((12289 : Int), (11 : Int), (12 : Int)), ((998244353 : Int), (3 : Int), (23 :
 Int)), ((469762049 : Int), (3 : Int), (26 : Int)), ((1004535809 : Int), (3 : Int), (21 : Int))]) ∧ ((Prod.fst (List.getD [((17 : Int), (3 : Int), (4 : Int)), ((97 : Int), (5 : Int), (5 : Int)), ((193 : Int), (5 : Int),
 (6 : Int)), ((257 : Int), (3 : Int), (8 : Int)), ((7681 : Int), (17 : Int), (9 : Int)), ((12289 : Int), (11 : Int), (12 : Int)), ((998244353 : Int), (3 : Int), (23 : Int)), ((469762049 : Int), (3 : Int), (26 : Int)),
 ((1004535809 : Int), (3 : Int), (21 : Int))] ((0 : Nat) + d.toNat * (3 / 3 : Nat)) ((0 : Int), (0 : Int), (0 : Int))), Prod.fst (Prod.snd (List.getD [((17 : Int), (3 : Int), (4 : Int)), ((97 : Int), (5 : Int), (5 :
 Int)), ((193 : Int), (5 : Int), (6 : Int)), ((257 : Int), (3 : Int), (8 : Int)), ((7681 : Int), (17 : Int), (9 : Int)), ((12289 : Int), (11 : Int), (12 : Int)), ((998244353 : Int), (3 : Int), (23 : Int)), ((469762049 :
 Int), (3 : Int), (26 : Int)), ((1004535809 : Int), (3 : Int), (21 : Int))] ((0 : Nat) + d.toNat * (3 / 3 : Nat)) ((0 : Int), (0 : Int), (0 : Int)))), Prod.snd (Prod.snd (List.getD [((17 : Int), (3 : Int), (4 : Int)),
 ((97 : Int), (5 : Int), (5 : Int)), ((193 : Int), (5 : Int), (6 : Int)), ((257 : Int), (3 : Int), (8 : Int)), ((7681 : Int), (17 : Int), (9 : Int)), ((12289 : Int), (11 : Int), (12 : Int)), ((998244353 : Int), (3 :
 Int), (23 : Int)), ((469762049 : Int), (3 : Int), (26 : Int)), ((1004535809 : Int), (3 : Int), (21 : Int))] ((0 : Nat) + d.toNat * (3 / 3 : Nat)) ((0 : Int), (0 : Int), (0 : Int))))), true) = fieldF d)) := by
  intro (f : Int) _ _
  simp only [Int.toNat_natCast, exists_const, and_true, true_and, implies_true, decide_eq_true_eq, decide_eq_false_iff_not, Bool.not_eq_true', Bool.not_eq_false', beq_iff_eq, forall_const]
  refine ⟨⟨rfl, rfl⟩, fun h => (field_none (by omega)).symm, fun h => ⟨fun h1 => (field_none (by omega)).symm, fun h1 => ⟨⟨by omega, by omega, ?_⟩, ?_⟩⟩⟩
  · simp only [List.length_cons, List.length_nil]; omega
  · unfold fieldF fieldTab
    rw [if_pos (by omega), show 0 + f.toNat * (3 / 3) = f.toNat by omega]
theorem v_S_Modulus :
 ∀ (d : Int), Ty.wf i64T d → True → (decide (d = (0 : Int)) = true → (17 : Int) = modF d) ∧ (decide (d = (0 : Int)) = false → (decide (d = (1 : Int)) = true → (97 : Int) = modF d) ∧ (decide (d = (1 : Int)) = false →
 (decide (d = (2 : Int)) = true → (193 : Int) = modF d) ∧ (decide (d = (2 : Int)) = false → (decide (d = (3 : Int)) = true → (257 : Int) = modF d) ∧ (decide (d = (3 : Int)) = false → (decide (d = (4 : Int)) = true →
 (7681 : Int) = modF d) ∧ (decide (d = (4 : Int)) = false → (decide (d = (5 : Int)) = true → (12289 : Int) = modF d) ∧ (decide (d = (5 : Int)) = false → (decide (d = (6 : Int)) = true → (998244353 : Int) = modF d) ∧
 (decide (d = (6 : Int)) = false → (decide (d = (7 : Int)) = true → (469762049 : Int) = modF d) ∧ (decide (d = (7 : Int)) = false → (decide (d = (8 : Int)) = true → (1004535809 : Int) = modF d) ∧ (decide (d = (8 : Int))
 = false → (0 : Int) = modF d))))))))) := by
  intro (f : Int) _ _
  simp only [Int.toNat_natCast, exists_const, and_true, true_and, implies_true, decide_eq_true_eq, decide_eq_false_iff_not, Bool.not_eq_true', Bool.not_eq_false', beq_iff_eq, forall_const]
  by_cases h : 0 ≤ f ∧ f < 9
  · rcases field_cases h with rfl | rfl | rfl | rfl | rfl | rfl | rfl | rfl | rfl <;> decide
  · rw [mod_none h]; omega
theorem v_S_TwoPower :
 ∀ (d : Int), Ty.wf i64T d → True → True ∧ (Ty.wf i64T (modF d) → (decide (modF d = (0 : Int)) = true → (-1 : Int) = twoF d) ∧ (decide (modF d = (0 : Int)) = false → (↑(0 : Nat) : Int) ≤ twoF d ∧ (d = d ∧ (0 : Int) = (0
 : Int) ∧ modF d = modF d ∧ (0 : Int) = (↑(0 : Nat) : Int) ∧ IntKind.wrap IntKind.i64 (modF d - (1 : Int)) = (modF d - (1 : Int)) / (2 : Int) ^ (0 : Nat)) ∧ ∀ (x : Nat), (↑x : Int) ≤ twoF d → (2 : Int) ≠ (0 : Int) ∧
 (decide (Int.tmod ((modF d - (1 : Int)) / (2 : Int) ^ x) (2 : Int) = (0 : Int)) = true → (2 : Int) ≠ (0 : Int) ∧ ∃ (x' : Nat), (↑x' : Int) ≤ twoF d ∧ Int.toNat (twoF d) - x' < Int.toNat (twoF d) - x ∧ d = d ∧ (0 : Int)
 = (0 : Int) ∧ modF d = modF d ∧ IntKind.wrap IntKind.i64 ((↑x : Int) + (1 : Int)) = (↑x' : Int) ∧ IntKind.wrap IntKind.i64 (Int.tdiv ((modF d - (1 : Int)) / (2 : Int) ^ x) (2 : Int)) = (modF d - (1 : Int)) / (2 : Int) ^
 x') ∧ (decide (Int.tmod ((modF d - (1 : Int)) / (2 : Int) ^ x) (2 : Int) = (0 : Int)) = false → (↑x : Int) = twoF d))) := by
  intro (f : Int) _ _
  simp only [Int.toNat_natCast, exists_const, and_true, true_and, implies_true, decide_eq_true_eq, decide_eq_false_iff_not, Bool.not_eq_true', Bool.not_eq_false', beq_iff_eq, forall_const]
  intro _
  by_cases h : 0 ≤ f ∧ f < 9
  · have hb := mod_pos h
    have hm0 : (0 : Int) ≤ modF f - 1 := by omega
    refine ⟨fun e => by omega, fun _ => ⟨by omega, ⟨rfl, by rw [wrap_small (by omega)]; simp⟩, fun x hx => ⟨by omega, fun e => ?_, fun e => ?_⟩⟩⟩
    · have h1 := (two_pow h hx).1 e
      refine ⟨by omega, x + 1, by omega, by omega, by rw [wrap_small (by omega)]; omega, ?_⟩
      rw [half_pow hm0]
      have hp : (0 : Int) ≤ 2 ^ (x + 1) := Int.le_of_lt (Int.pow_pos (by omega))
      have h2 := Int.ediv_nonneg hm0 hp
      have h3 := Int.ediv_le_self (2 ^ (x + 1)) hm0
      exact wrap_small (by omega)
    · have h1 : ¬ (x : Int) < twoF f := fun hlt => e ((two_pow h hx).2 hlt)
      omega
  · have h1 := mod_none h
    have h2 := two_none h
    exact ⟨fun _ => h2.symm, fun e => absurd h1 e⟩
theorem v_S_LogOf :
 ∀ (d : Int), Ty.wf i64T d → True → LogP d (0 : Nat) ∧ (d = d ∧ (0 : Int) = (↑(0 : Nat) : Int)) ∧ ∀ (x : Nat), LogP d x → (decide ((↑x : Int) ≤ (9 : Int)) = true → (0 : Int) ≤ IntKind.wrap IntKind.u64 (↑x : Int) ∧
 (decide (d = ishl IntKind.i64 (1 : Int) (IntKind.wrap IntKind.u64 (↑x : Int))) = true → (↑x : Int) = logF d) ∧ (decide (d = ishl IntKind.i64 (1 : Int) (IntKind.wrap IntKind.u64 (↑x : Int))) = false → ∃ (x' : Nat), LogP
 d x' ∧ (10 : Nat) - x' < (10 : Nat) - x ∧ d = d ∧ IntKind.wrap IntKind.i64 ((↑x : Int) + (1 : Int)) = (↑x' : Int))) ∧ (decide ((↑x : Int) ≤ (9 : Int)) = false → (-1 : Int) = logF d) := by
  intro (n : Int) _ _
  simp only [Int.toNat_natCast, exists_const, and_true, true_and, implies_true, decide_eq_true_eq, decide_eq_false_iff_not, Bool.not_eq_true', Bool.not_eq_false', beq_iff_eq, forall_const]
  refine ⟨⟨by omega, fun j hj => by omega⟩, rfl, fun x hx => ⟨fun h => ?_, fun h => (log_none hx (by omega)).symm⟩⟩
  have h9 : x ≤ 9 := by omega
  have hw : IntKind.u64.wrap (x : Int) = (x : Int) := u64_small ⟨x, by omega⟩
  rw [hw, ishl_pow (by omega)]
  exact ⟨by omega, fun e => (log_at hx h9 e).symm, fun e => ⟨x + 1, log_next hx h9 e, by omega, wrap_small (by omega)⟩⟩
theorem v_I_logOf :
 ∀ (d : Int), Ty.wf i64T d → True → LogP d (0 : Nat) ∧ (d = d ∧ (0 : Int) = (↑(0 : Nat) : Int)) ∧ ∀ (x : Nat), LogP d x → (decide ((↑x : Int) < (10 : Int)) = true → (0 : Int) ≤ (↑x : Int) ∧ (decide (d = ishl IntKind.i64
 (1 : Int) (↑x : Int)) = true → (↑x : Int) = logF d) ∧ (decide (d = ishl IntKind.i64 (1 : Int) (↑x : Int)) = false → ∃ (x' : Nat), LogP d x' ∧ (10 : Nat) - x' < (10 : Nat) - x ∧ d = d ∧ IntKind.wrap IntKind.i64 ((↑x :
 Int) + (1 : Int)) = (↑x' : Int))) ∧ (decide ((↑x : Int) < (10 : Int)) = false → (-1 : Int) = logF d) := by
  intro (n : Int) _ _
  simp only [Int.toNat_natCast, exists_const, and_true, true_and, implies_true, decide_eq_true_eq, decide_eq_false_iff_not, Bool.not_eq_true', Bool.not_eq_false', beq_iff_eq, forall_const]
  refine ⟨⟨by omega, fun j hj => by omega⟩, rfl, fun x hx => ⟨fun h => ?_, fun h => (log_none hx (by omega)).symm⟩⟩
  have h9 : x ≤ 9 := by omega
  rw [ishl_pow (by omega)]
  exact ⟨by omega, fun e => (log_at hx h9 e).symm, fun e => ⟨x + 1, log_next hx h9 e, by omega, wrap_small (by omega)⟩⟩
theorem v_S_l03Elements :
 ∀ (d : Int × List Int), Ty.wf i64T d.1 ∧ Ty.wf listT d.2 → True → True ∧ (Ty.wf i64T (modF d.1) → (decide (modF d.1 = (0 : Int)) = true → false = specElemsF d.1 d.2) ∧ (decide (modF d.1 = (0 : Int)) = false → ElP (modF
 d.1) d.2 (0 : Nat) ∧ (d.1 = d.1 ∧ d.2 = d.2 ∧ modF d.1 = modF d.1 ∧ (0 : Int) = (↑(0 : Nat) : Int)) ∧ ∀ (x : Nat), ElP (modF d.1) d.2 x → (decide ((↑x : Int) < (↑d.2.length : Int)) = true → ((0 : Int) ≤ (↑x : Int) ∧ (↑x
 : Int) < (↑d.2.length : Int)) ∧ True ∧ ((!(decide ((0 : Int) ≤ d.2.getD (Int.toNat (↑x : Int)) (0 : Int)) && decide (d.2.getD (Int.toNat (↑x : Int)) (0 : Int) ≤ IntKind.wrap IntKind.i64 (modF d.1 - (1 : Int))))) = true
 → false = specElemsF d.1 d.2) ∧ ((!(decide ((0 : Int) ≤ d.2.getD (Int.toNat (↑x : Int)) (0 : Int)) && decide (d.2.getD (Int.toNat (↑x : Int)) (0 : Int) ≤ IntKind.wrap IntKind.i64 (modF d.1 - (1 : Int))))) = false → ∃
 (x' : Nat), ElP (modF d.1) d.2 x' ∧ d.2.length - x' < d.2.length - x ∧ d.1 = d.1 ∧ d.2 = d.2 ∧ modF d.1 = modF d.1 ∧ IntKind.wrap IntKind.i64 ((↑x : Int) + (1 : Int)) = (↑x' : Int))) ∧ (decide ((↑x : Int) < (↑d.2.length
 : Int)) = false → true = specElemsF d.1 d.2))) := by
  intro (d : Int × List Int) hw _
  obtain ⟨f, xs⟩ := d
  have hl : xs.length ≤ 9223372036854775807 := hw.2.1
  simp only [Int.toNat_natCast, exists_const, and_true, true_and, implies_true, decide_eq_true_eq, decide_eq_false_iff_not, Bool.not_eq_true', Bool.not_eq_false', beq_iff_eq, forall_const]
  intro _
  have hb : modF f = 0 ∨ (17 ≤ modF f ∧ modF f ≤ 1004535809) := by
    by_cases h : 0 ≤ f ∧ f < 9
    · have := mod_pos h; omega
    · exact .inl (mod_none h)
  refine ⟨fun e => by unfold specElemsF; rw [decide_eq_false (by simpa using e)]; rfl, fun e => ?_⟩
  have hs : specElemsF f xs = elemsF (modF f) xs := by unfold specElemsF; rw [decide_eq_true e]; rfl
  rw [hs, wrap_small (n := modF f - 1) (by omega)]
  refine ⟨⟨by omega, by simp [elemsF]⟩, rfl, fun x hx => ⟨fun h => ⟨⟨by omega, by omega⟩, fun h1 => ?_, fun h1 => ?_⟩, fun h => elems_end hx (by omega)⟩⟩
  · refine elems_no (x := x) (by omega) (fun hh => ?_)
    rw [decide_eq_true hh.1, decide_eq_true hh.2] at h1
    cases h1
  · simp only [Bool.and_eq_true, decide_eq_true_eq] at h1
    exact ⟨x + 1, ⟨by omega, elems_succ (by omega) hx.2 h1⟩, by omega, wrap_succ (by omega)⟩
theorem v_I_areElements :
 ∀ (d : (Int × Int × Int) × List Int), Ty.wf fldT d.1 ∧ Ty.wf listT d.2 → True → ElP d.1.1 d.2 (0 : Nat) ∧ (((d.1.1 = d.1.1 ∧ d.1.2.1 = d.1.2.1 ∧ d.1.2.2 = d.1.2.2) ∧ d.2 = d.2 ∧ d.2 = d.2 ∧ (↑d.2.length : Int) =
 (↑d.2.length : Int) ∧ (0 : Int) = (↑(0 : Nat) : Int)) ∧ d.1.1 = d.1.1 ∧ d.1.2.1 = d.1.2.1 ∧ d.1.2.2 = d.1.2.2) ∧ ∀ (x : Nat), ElP d.1.1 d.2 x → (decide ((↑x : Int) < (↑d.2.length : Int)) = true → ((0 : Int) ≤ (↑x : Int)
 ∧ (↑x : Int) < (↑d.2.length : Int)) ∧ (decide (d.2.getD (Int.toNat (↑x : Int)) (0 : Int) < (0 : Int)) = true → false = elemsF d.1.1 d.2) ∧ (decide (d.2.getD (Int.toNat (↑x : Int)) (0 : Int) < (0 : Int)) = false →
 (decide (d.1.1 ≤ d.2.getD (Int.toNat (↑x : Int)) (0 : Int)) = true → false = elemsF d.1.1 d.2) ∧ (decide (d.1.1 ≤ d.2.getD (Int.toNat (↑x : Int)) (0 : Int)) = false → ∃ (x' : Nat), ElP d.1.1 d.2 x' ∧ d.2.length - x' <
 d.2.length - x ∧ ((d.1.1 = d.1.1 ∧ d.1.2.1 = d.1.2.1 ∧ d.1.2.2 = d.1.2.2) ∧ d.2 = d.2 ∧ d.2 = d.2 ∧ (↑d.2.length : Int) = (↑d.2.length : Int) ∧ IntKind.wrap IntKind.i64 ((↑x : Int) + (1 : Int)) = (↑x' : Int)) ∧ d.1.1 =
 d.1.1 ∧ d.1.2.1 = d.1.2.1 ∧ d.1.2.2 = d.1.2.2))) ∧ (decide ((↑x : Int) < (↑d.2.length : Int)) = false → true = elemsF d.1.1 d.2) := by
  intro (d : Fd × List Int) hw _
  obtain ⟨⟨p, g, t⟩, xs⟩ := d
  have hl : xs.length ≤ 9223372036854775807 := hw.2.1
  simp only [Int.toNat_natCast, exists_const, and_true, true_and, implies_true, decide_eq_true_eq, decide_eq_false_iff_not, Bool.not_eq_true', Bool.not_eq_false', beq_iff_eq, forall_const]
  refine ⟨⟨by omega, by simp [elemsF]⟩, rfl, fun x hx => ⟨fun h => ⟨⟨by omega, by omega⟩, fun h1 => elems_no (x := x) (by omega) (fun hh => by omega), fun h1 => ⟨fun h2 => elems_no (x := x) (by omega) (fun hh => by omega), fun h2 => ?_⟩⟩, fun h => elems_end hx (by omega)⟩⟩
  exact ⟨x + 1, ⟨by omega, elems_succ (by omega) hx.2 (by omega)⟩, by omega, wrap_succ (by omega)⟩
theorem v_S_VectorOk :
 ∀ (d : Int × List Int), Ty.wf i64T d.1 ∧ Ty.wf listT d.2 → True → True ∧ (Ty.wf i64T (logF (↑d.2.length : Int)) → (decide ((0 : Int) ≤ logF (↑d.2.length : Int)) = true → True ∧ (Ty.wf i64T (twoF d.1) → (decide (logF
 (↑d.2.length : Int) ≤ twoF d.1) = true → True ∧ specElemsF d.1 d.2 = vectorOkF d.1 d.2) ∧ (decide (logF (↑d.2.length : Int) ≤ twoF d.1) = false → false = vectorOkF d.1 d.2))) ∧ (decide ((0 : Int) ≤ logF (↑d.2.length :
 Int)) = false → false = vectorOkF d.1 d.2)) := by
  intro (d : Int × List Int) hw _
  obtain ⟨f, xs⟩ := d
  simp only [Int.toNat_natCast, exists_const, and_true, true_and, implies_true, decide_eq_true_eq, decide_eq_false_iff_not, Bool.not_eq_true', Bool.not_eq_false', beq_iff_eq, forall_const]
  intro _
  unfold vectorOkF
  refine ⟨fun h _ => ⟨fun h1 => by rw [decide_eq_true h, decide_eq_true h1]; rfl, fun h1 => by rw [decide_eq_false h1, Bool.and_false]; rfl⟩, fun h => by rw [decide_eq_false h]; rfl⟩
theorem v_I_vectorField :
 ∀ (d : Int × List (List Int)), Ty.wf i64T d.1 ∧ Ty.wf (Ty.sl listT) d.2 → d.2.length = (1 : Nat) → True ∧ (Ty.wf fldT (Prod.fst (fieldF d.1)) ∧ Ty.wf Ty.bool (Prod.snd (fieldF d.1)) → ((!Prod.snd (fieldF d.1)) = true →
 (((0 : Int), (0 : Int), (0 : Int)), false) = vecF d.1 (d.2.getD (0 : Nat) [])) ∧ ((!Prod.snd (fieldF d.1)) = false → ((0 : Nat) ≤ (1 : Nat) ∧ ((0 : Nat) = (1 : Nat) → vectorOkF d.1 (d.2.getD (0 : Nat) []) = true)) ∧
 ((d.1 = d.1 ∧ d.2 = d.2 ∧ Prod.snd (fieldF d.1) = Prod.snd (fieldF d.1) ∧ d.2 = d.2 ∧ (↑d.2.length : Int) = (↑d.2.length : Int) ∧ (0 : Int) = (↑(0 : Nat) : Int)) ∧ ((0 : Int) = (0 : Int) ∧ (0 : Int) = (0 : Int) ∧ (0 :
 Int) = (0 : Int)) ∧ Prod.fst (Prod.fst (fieldF d.1)) = Prod.fst (Prod.fst (fieldF d.1)) ∧ Prod.fst (Prod.snd (Prod.fst (fieldF d.1))) = Prod.fst (Prod.snd (Prod.fst (fieldF d.1))) ∧ Prod.snd (Prod.snd (Prod.fst (fieldF
 d.1))) = Prod.snd (Prod.snd (Prod.fst (fieldF d.1)))) ∧ ∀ (x : Nat), x ≤ (1 : Nat) ∧ (x = (1 : Nat) → vectorOkF d.1 (d.2.getD (0 : Nat) []) = true) → (decide ((↑x : Int) < (↑d.2.length : Int)) = true → ((0 : Int) ≤ (↑x
 : Int) ∧ (↑x : Int) < (↑d.2.length : Int)) ∧ True ∧ (Ty.wf i64T (logF (↑(List.length (d.2.getD (Int.toNat (↑x : Int)) [])) : Int)) → (decide (logF (↑(List.length (d.2.getD (Int.toNat (↑x : Int)) [])) : Int) < (0 : Int))
 = true → (((0 : Int), (0 : Int), (0 : Int)), false) = vecF d.1 (d.2.getD (0 : Nat) [])) ∧ (decide (logF (↑(List.length (d.2.getD (Int.toNat (↑x : Int)) [])) : Int) < (0 : Int)) = false → (decide (Prod.snd (Prod.snd
 (Prod.fst (fieldF d.1))) < logF (↑(List.length (d.2.getD (Int.toNat (↑x : Int)) [])) : Int)) = true → (((0 : Int), (0 : Int), (0 : Int)), false) = vecF d.1 (d.2.getD (0 : Nat) [])) ∧ (decide (Prod.snd (Prod.snd
 (Prod.fst (fieldF d.1))) < logF (↑(List.length (d.2.getD (Int.toNat (↑x : Int)) [])) : Int)) = false → True ∧ ((!elemsF (Prod.fst (Prod.fst (fieldF d.1))) (d.2.getD (Int.toNat (↑x : Int)) [])) = true → (((0 : Int), (0 :
 Int), (0 : Int)), false) = vecF d.1 (d.2.getD (0 : Nat) [])) ∧ ((!elemsF (Prod.fst (Prod.fst (fieldF d.1))) (d.2.getD (Int.toNat (↑x : Int)) [])) = false → ((0 : Int) ≤ (0 : Int) ∧ (0 : Int) < (↑d.2.length : Int)) ∧
 ((!decide ((↑(List.length (d.2.getD (Int.toNat (↑x : Int)) [])) : Int) = (↑(List.length (d.2.getD (Int.toNat (0 : Int)) [])) : Int))) = true → (((0 : Int), (0 : Int), (0 : Int)), false) = vecF d.1 (d.2.getD (0 : Nat)
 [])) ∧ ((!decide ((↑(List.length (d.2.getD (Int.toNat (↑x : Int)) [])) : Int) = (↑(List.length (d.2.getD (Int.toNat (0 : Int)) [])) : Int))) = false → ∃ (x' : Nat), (x' ≤ (1 : Nat) ∧ (x' = (1 : Nat) → vectorOkF d.1
 (d.2.getD (0 : Nat) []) = true)) ∧ (1 : Nat) - x' < (1 : Nat) - x ∧ (d.1 = d.1 ∧ d.2 = d.2 ∧ Prod.snd (fieldF d.1) = Prod.snd (fieldF d.1) ∧ d.2 = d.2 ∧ (↑d.2.length : Int) = (↑d.2.length : Int) ∧ IntKind.wrap
 IntKind.i64 ((↑x : Int) + (1 : Int)) = (↑x' : Int)) ∧ ((0 : Int) = (0 : Int) ∧ (0 : Int) = (0 : Int) ∧ (0 : Int) = (0 : Int)) ∧ Prod.fst (Prod.fst (fieldF d.1)) = Prod.fst (Prod.fst (fieldF d.1)) ∧ Prod.fst (Prod.snd
 (Prod.fst (fieldF d.1))) = Prod.fst (Prod.snd (Prod.fst (fieldF d.1))) ∧ Prod.snd (Prod.snd (Prod.fst (fieldF d.1))) = Prod.snd (Prod.snd (Prod.fst (fieldF d.1))))))))) ∧ (decide ((↑x : Int) < (↑d.2.length : Int)) =
 false → ((Prod.fst (Prod.fst (fieldF d.1)), Prod.fst (Prod.snd (Prod.fst (fieldF d.1))), Prod.snd (Prod.snd (Prod.fst (fieldF d.1)))), true) = vecF d.1 (d.2.getD (0 : Nat) [])))) := by
  intro (d : Int × List (List Int)) hw hp
  obtain ⟨f, vs⟩ := d
  replace hp : vs.length = 1 := hp
  obtain ⟨v, rfl⟩ : ∃ v, vs = [v] := by
    match vs, hp with
    | [v], _ => exact ⟨v, rfl⟩
  simp only [Int.toNat_natCast, exists_const, and_true, true_and, implies_true, decide_eq_true_eq, decide_eq_false_iff_not, Bool.not_eq_true', Bool.not_eq_false', beq_iff_eq, forall_const]
  intro _
  refine ⟨fun h => ?_, fun h => ?_⟩
  · have hn : ¬ (0 ≤ f ∧ f < 9) := fun hh => by rw [field_ok.2 hh] at h; cases h
    unfold vecF vectorOkF specElemsF
    rw [mod_none hn]
    simp
  · have hf := field_ok.1 h
    have hb := mod_pos hf
    have h2 : twoF f = (fieldF f).1.2.2 := by unfold twoF; rw [if_pos h]
    have hs : specElemsF f v = elemsF (fieldF f).1.1 v := by unfold specElemsF; rw [decide_eq_true (show modF f ≠ 0 by omega)]; rfl
    have hv : vectorOkF f v = (decide (0 ≤ logF v.length) && decide (logF v.length ≤ (fieldF f).1.2.2) && elemsF (fieldF f).1.1 v) := by unfold vectorOkF; rw [h2, hs]
    have hno : ∀ b, vectorOkF f v = b → b = false → ((0, 0, 0), false) = vecF f v := fun b h1 h3 => by unfold vecF; rw [h1, h3]; rfl
    refine ⟨⟨by omega, fun h => by omega⟩, rfl, fun x hx => ⟨fun hlt => ?_, fun hge => ?_⟩⟩
    · have hx0 : x = 0 := by simp at hlt; omega
      subst hx0
      simp only [List.getD_cons_zero, List.length_cons, List.length_nil, Int.toNat_zero] at *
      refine ⟨⟨by omega, by omega⟩, fun _ => ⟨fun h3 => hno _ hv ?_, fun h3 => ⟨fun h4 => hno _ hv ?_, fun h4 => ⟨fun h5 => hno _ hv ?_, fun h5 => ⟨⟨by omega, by omega⟩, fun h6 => absurd trivial h6, fun _ => ⟨1, ⟨by omega, fun _ => ?_⟩, by omega, rfl⟩⟩⟩⟩⟩⟩
      · rw [decide_eq_false (by omega)]; rfl
      · rw [decide_eq_false (show ¬ logF v.length ≤ (fieldF f).1.2.2 by omega), Bool.and_false]; rfl
      · rw [h5, Bool.and_false]
      · rw [hv, decide_eq_true (show 0 ≤ logF v.length by omega), decide_eq_true (show logF v.length ≤ (fieldF f).1.2.2 by omega), h5]; rfl
    · have hx1 : x = 1 := by simp at hge; omega
      have := hx.2 hx1
      simp only [List.getD_cons_zero] at this ⊢
      unfold vecF
      rw [if_pos this]
end Go.SF
