/- Plans drawn. No condition. -/
import Derived.Test.YtmnndbfmeppaeaaSxC
import Derived.Test.YtmnndbfmeppaeaaSxPAdv
namespace Go.SF
open Go.SX Go
set_option linter.unusedVariables false
set_option linter.unusedSimpArgs false
set_option maxHeartbeats 4000000
theorem nK_nat (K : Nat) : nK (K : Int) = ((2 ^ K / 2 : Nat) : Int) := by unfold nK; rw [Int.toNat_natCast]
theorem nK_expr {K : Nat} (h : K ≤ 6) : IntKind.i64.wrap ((ishl IntKind.i64 1 (IntKind.u64.wrap (K : Int))).tdiv 2) = nK (K : Int) ∧ 0 ≤ nK (K : Int) ∧ nK (K : Int) ≤ 32 := by
  have h64 : 2 ^ K ≤ 64 := Nat.pow_le_pow_right (n := 2) (by omega) h
  have hpos : 0 < 2 ^ K := Nat.pow_pos (by omega)
  rw [u64N (by omega), shlN (by omega), Int.tdiv_eq_ediv_of_nonneg (by omega), nK_nat]
  have e : ((2 ^ K : Nat) : Int) / 2 = ((2 ^ K / 2 : Nat) : Int) := rfl
  rw [e, wrap_small (by omega)]
  omega
theorem v_S_l09DrawPlanQ :
  ∀ (d : List Int × Int × Int) (x : List Int), Ty.wf curQ d → Ty.wf (Ty.sl (Ty.int IntKind.u8)) x → CqOk d ∧ List.length x ≤ (9223372036854775807 : Nat) → CqOk d ∧ ∀ (g : List Int × Int × Int) (r : Int), CqOk g ∧ belowQ
  (9 : Int) r → Ty.wf curQ g → Ty.wf i64T r → (40 : Int) ≠ (0 : Int) ∧ ((decide ((6 : Int) < IntKind.wrap IntKind.i64 ((1 : Int) + IntKind.wrap IntKind.i64 (Int.tdiv (↑(List.length x) : Int) (40 : Int)))) = true → ∃ (x'
  : (List Int × Int × Int) × Int × Int), (CqOk x'.1 ∧ (0 : Int) ≤ x'.2.2 ∧ x'.2.2 ≤ (6 : Int) ∧ (0 : Int) ≤ x'.2.1 ∧ x'.2.1 < (9 : Int)) ∧ (x = x ∧ r = x'.2.1 ∧ (6 : Int) = x'.2.2) ∧ (g.1 = x'.1.1 ∧ g.2.1 = x'.1.2.1 ∧
  g.2.2 = x'.1.2.2) ∧ (0 : Int) = (0 : Int) ∧ (0 : Int) = (0 : Int) ∧ Value.slice none (0 : Nat) (0 : Nat) = Value.slice none (0 : Nat) (0 : Nat)) ∧ (decide ((6 : Int) < IntKind.wrap IntKind.i64 ((1 : Int) + IntKind.wrap
  IntKind.i64 (Int.tdiv (↑(List.length x) : Int) (40 : Int)))) = false → ∃ (x' : (List Int × Int × Int) × Int × Int), (CqOk x'.1 ∧ (0 : Int) ≤ x'.2.2 ∧ x'.2.2 ≤ (6 : Int) ∧ (0 : Int) ≤ x'.2.1 ∧ x'.2.1 < (9 : Int)) ∧ (x =
  x ∧ r = x'.2.1 ∧ IntKind.wrap IntKind.i64 ((1 : Int) + IntKind.wrap IntKind.i64 (Int.tdiv (↑(List.length x) : Int) (40 : Int))) = x'.2.2) ∧ (g.1 = x'.1.1 ∧ g.2.1 = x'.1.2.1 ∧ g.2.2 = x'.1.2.2) ∧ (0 : Int) = (0 : Int) ∧
  (0 : Int) = (0 : Int) ∧ Value.slice none (0 : Nat) (0 : Nat) = Value.slice none (0 : Nat) (0 : Nat))) ∧ ∀ (x_1 : (List Int × Int × Int) × Int × Int), CqOk x_1.1 ∧ (0 : Int) ≤ x_1.2.2 ∧ x_1.2.2 ≤ (6 : Int) ∧ (0 : Int) ≤
  x_1.2.1 ∧ x_1.2.1 < (9 : Int) → CqOk x_1.1 ∧ ∀ (g : List Int × Int × Int) (r : Int), CqOk g ∧ belowQ (IntKind.wrap IntKind.i64 (x_1.2.2 + (1 : Int))) r → Ty.wf curQ g → Ty.wf i64T r → (True ∧ (Ty.wf i64T (twoF x_1.2.1)
  → (decide (twoF x_1.2.1 < r) = true → ∃ (x' : (List Int × Int × Int) × Int × Int), (CqOk x'.1 ∧ (0 : Int) ≤ x'.2.2 ∧ x'.2.2 ≤ (6 : Int)) ∧ (x = x ∧ x_1.2.1 = x'.2.1 ∧ twoF x_1.2.1 = x'.2.2) ∧ (g.1 = x'.1.1 ∧ g.2.1 =
  x'.1.2.1 ∧ g.2.2 = x'.1.2.2) ∧ (0 : Int) = (0 : Int) ∧ (0 : Int) = (0 : Int) ∧ Value.slice none (0 : Nat) (0 : Nat) = Value.slice none (0 : Nat) (0 : Nat)) ∧ (decide (twoF x_1.2.1 < r) = false → ∃ (x' : (List Int × Int
  × Int) × Int × Int), (CqOk x'.1 ∧ (0 : Int) ≤ x'.2.2 ∧ x'.2.2 ≤ (6 : Int)) ∧ (x = x ∧ x_1.2.1 = x'.2.1 ∧ r = x'.2.2) ∧ (g.1 = x'.1.1 ∧ g.2.1 = x'.1.2.1 ∧ g.2.2 = x'.1.2.2) ∧ (0 : Int) = (0 : Int) ∧ (0 : Int) = (0 :
  Int) ∧ Value.slice none (0 : Nat) (0 : Nat) = Value.slice none (0 : Nat) (0 : Nat)))) ∧ ∀ (x_2 : (List Int × Int × Int) × Int × Int), CqOk x_2.1 ∧ (0 : Int) ≤ x_2.2.2 ∧ x_2.2.2 ≤ (6 : Int) → (((↑(0 : Nat) : Int) ≤
  x_2.2.2 ∧ CqOk x_2.1 ∧ (0 : Nat) ≤ (0 : Nat)) ∧ ((x = x ∧ x_2.2.1 = x_2.2.1 ∧ x_2.2.2 = x_2.2.2 ∧ (0 : Int) = (↑(0 : Nat) : Int)) ∧ (x_2.1.1 = x_2.1.1 ∧ x_2.1.2.1 = x_2.1.2.1 ∧ x_2.1.2.2 = x_2.1.2.2) ∧ ((0 : Int) = (0
  : Int) ∧ (0 : Int) = (0 : Int) ∧ Value.slice none (0 : Nat) (0 : Nat) = Value.slice none (0 : Nat) (0 : Nat)) ∧ (x_2.2.1 = x_2.2.1 ∧ x_2.2.2 = x_2.2.2) ∧ ([] : List Sp) = []) ∧ ∀ (x_3 : Nat × (List Int × Int × Int) ×
  List (Int × Int × Int)), (↑x_3.1 : Int) ≤ x_2.2.2 ∧ CqOk x_3.2.1 ∧ List.length x_3.2.2 ≤ (64 : Nat) * x_3.1 → (decide ((↑x_3.1 : Int) < x_2.2.2) = true → (0 : Int) ≤ IntKind.wrap IntKind.u64 x_2.2.2 ∧ (2 : Int) ≠ (0 :
  Int) ∧ (((↑(0 : Nat) : Int) ≤ nK x_2.2.2 ∧ CqOk x_3.2.1 ∧ (0 : Nat) ≤ (0 : Nat)) ∧ ((x = x ∧ x_2.2.1 = x_2.2.1 ∧ x_2.2.2 = x_2.2.2 ∧ (↑x_3.1 : Int) = (↑x_3.1 : Int) ∧ IntKind.wrap IntKind.i64 (Int.tdiv (ishl
  IntKind.i64 (1 : Int) (IntKind.wrap IntKind.u64 x_2.2.2)) (2 : Int)) = IntKind.wrap IntKind.i64 (Int.tdiv (ishl IntKind.i64 (1 : Int) (IntKind.wrap IntKind.u64 x_2.2.2)) (2 : Int)) ∧ (0 : Int) = (↑(0 : Nat) : Int)) ∧
  (x_3.2.1.1 = x_3.2.1.1 ∧ x_3.2.1.2.1 = x_3.2.1.2.1 ∧ x_3.2.1.2.2 = x_3.2.1.2.2) ∧ ((0 : Int) = (0 : Int) ∧ (0 : Int) = (0 : Int) ∧ Value.slice none (0 : Nat) (0 : Nat) = Value.slice none (0 : Nat) (0 : Nat)) ∧ (x_2.2.1
  = x_2.2.1 ∧ x_2.2.2 = x_2.2.2) ∧ x_3.2.2 = x_3.2.2 ∧ ([] : List Sp) = []) ∧ ∀ (x_4 : Nat × (List Int × Int × Int) × List (Int × Int × Int)), (↑x_4.1 : Int) ≤ nK x_2.2.2 ∧ CqOk x_4.2.1 ∧ List.length x_4.2.2 ≤ x_4.1 →
  (decide ((↑x_4.1 : Int) < IntKind.wrap IntKind.i64 (Int.tdiv (ishl IntKind.i64 (1 : Int) (IntKind.wrap IntKind.u64 x_2.2.2)) (2 : Int))) = true → CqOk x_4.2.1 ∧ ∀ (g : List Int × Int × Int) (r : Int), CqOk g ∧ belowQ
  (IntKind.wrap IntKind.i64 (Int.tdiv (ishl IntKind.i64 (1 : Int) (IntKind.wrap IntKind.u64 x_2.2.2)) (2 : Int))) r → Ty.wf curQ g → Ty.wf i64T r → (decide (IntKind.wrap IntKind.i64 (Int.tdiv (ishl IntKind.i64 (1 : Int)
  (IntKind.wrap IntKind.u64 x_2.2.2)) (2 : Int)) < IntKind.wrap IntKind.i64 (IntKind.wrap IntKind.i64 ((↑x_4.1 : Int) + (1 : Int)) + r)) = true → (List.length x_4.2.2 + List.length [((↑x_3.1 : Int), (↑x_4.1 : Int),
  IntKind.wrap IntKind.i64 (Int.tdiv (ishl IntKind.i64 (1 : Int) (IntKind.wrap IntKind.u64 x_2.2.2)) (2 : Int)))]) * (24 : Nat) ≤ (140737488355328 : Nat) ∧ ∃ (x' : Nat × (List Int × Int × Int) × List (Int × Int × Int)),
  ((↑x'.1 : Int) ≤ nK x_2.2.2 ∧ CqOk x'.2.1 ∧ List.length x'.2.2 ≤ x'.1) ∧ Int.toNat (nK x_2.2.2) - x'.1 < Int.toNat (nK x_2.2.2) - x_4.1 ∧ (x = x ∧ x_2.2.1 = x_2.2.1 ∧ x_2.2.2 = x_2.2.2 ∧ (↑x_3.1 : Int) = (↑x_3.1 : Int)
  ∧ IntKind.wrap IntKind.i64 (Int.tdiv (ishl IntKind.i64 (1 : Int) (IntKind.wrap IntKind.u64 x_2.2.2)) (2 : Int)) = IntKind.wrap IntKind.i64 (Int.tdiv (ishl IntKind.i64 (1 : Int) (IntKind.wrap IntKind.u64 x_2.2.2)) (2 :
  Int)) ∧ IntKind.wrap IntKind.i64 (Int.tdiv (ishl IntKind.i64 (1 : Int) (IntKind.wrap IntKind.u64 x_2.2.2)) (2 : Int)) = (↑x'.1 : Int)) ∧ (g.1 = x'.2.1.1 ∧ g.2.1 = x'.2.1.2.1 ∧ g.2.2 = x'.2.1.2.2) ∧ ((0 : Int) = (0 :
  Int) ∧ (0 : Int) = (0 : Int) ∧ Value.slice none (0 : Nat) (0 : Nat) = Value.slice none (0 : Nat) (0 : Nat)) ∧ (x_2.2.1 = x_2.2.1 ∧ x_2.2.2 = x_2.2.2) ∧ x_3.2.2 = x_3.2.2 ∧ x_4.2.2 ++ [((↑x_3.1 : Int), (↑x_4.1 : Int),
  IntKind.wrap IntKind.i64 (Int.tdiv (ishl IntKind.i64 (1 : Int) (IntKind.wrap IntKind.u64 x_2.2.2)) (2 : Int)))] = x'.2.2) ∧ (decide (IntKind.wrap IntKind.i64 (Int.tdiv (ishl IntKind.i64 (1 : Int) (IntKind.wrap
  IntKind.u64 x_2.2.2)) (2 : Int)) < IntKind.wrap IntKind.i64 (IntKind.wrap IntKind.i64 ((↑x_4.1 : Int) + (1 : Int)) + r)) = false → (List.length x_4.2.2 + List.length [((↑x_3.1 : Int), (↑x_4.1 : Int), IntKind.wrap
  IntKind.i64 (IntKind.wrap IntKind.i64 ((↑x_4.1 : Int) + (1 : Int)) + r))]) * (24 : Nat) ≤ (140737488355328 : Nat) ∧ ∃ (x' : Nat × (List Int × Int × Int) × List (Int × Int × Int)), ((↑x'.1 : Int) ≤ nK x_2.2.2 ∧ CqOk
  x'.2.1 ∧ List.length x'.2.2 ≤ x'.1) ∧ Int.toNat (nK x_2.2.2) - x'.1 < Int.toNat (nK x_2.2.2) - x_4.1 ∧ (x = x ∧ x_2.2.1 = x_2.2.1 ∧ x_2.2.2 = x_2.2.2 ∧ (↑x_3.1 : Int) = (↑x_3.1 : Int) ∧ IntKind.wrap IntKind.i64
  (Int.tdiv (ishl IntKind.i64 (1 : Int) (IntKind.wrap IntKind.u64 x_2.2.2)) (2 : Int)) = IntKind.wrap IntKind.i64 (Int.tdiv (ishl IntKind.i64 (1 : Int) (IntKind.wrap IntKind.u64 x_2.2.2)) (2 : Int)) ∧ IntKind.wrap
  IntKind.i64 (IntKind.wrap IntKind.i64 ((↑x_4.1 : Int) + (1 : Int)) + r) = (↑x'.1 : Int)) ∧ (g.1 = x'.2.1.1 ∧ g.2.1 = x'.2.1.2.1 ∧ g.2.2 = x'.2.1.2.2) ∧ ((0 : Int) = (0 : Int) ∧ (0 : Int) = (0 : Int) ∧ Value.slice none
  (0 : Nat) (0 : Nat) = Value.slice none (0 : Nat) (0 : Nat)) ∧ (x_2.2.1 = x_2.2.1 ∧ x_2.2.2 = x_2.2.2) ∧ x_3.2.2 = x_3.2.2 ∧ x_4.2.2 ++ [((↑x_3.1 : Int), (↑x_4.1 : Int), IntKind.wrap IntKind.i64 (IntKind.wrap
  IntKind.i64 ((↑x_4.1 : Int) + (1 : Int)) + r))] = x'.2.2)) ∧ (decide ((↑x_4.1 : Int) < IntKind.wrap IntKind.i64 (Int.tdiv (ishl IntKind.i64 (1 : Int) (IntKind.wrap IntKind.u64 x_2.2.2)) (2 : Int))) = false → ∃ (x' :
  (List Int × Int × Int) × List (Int × Int × Int)), (CqOk x'.1 ∧ List.length x'.2 ≤ (64 : Nat)) ∧ (x = x ∧ x_2.2.1 = x_2.2.1 ∧ x_2.2.2 = x_2.2.2 ∧ (↑x_3.1 : Int) = (↑x_3.1 : Int)) ∧ (x_4.2.1.1 = x'.1.1 ∧ x_4.2.1.2.1 =
  x'.1.2.1 ∧ x_4.2.1.2.2 = x'.1.2.2) ∧ ((0 : Int) = (0 : Int) ∧ (0 : Int) = (0 : Int) ∧ Value.slice none (0 : Nat) (0 : Nat) = Value.slice none (0 : Nat) (0 : Nat)) ∧ (x_2.2.1 = x_2.2.1 ∧ x_2.2.2 = x_2.2.2) ∧ x_3.2.2 =
  x_3.2.2 ∧ x_4.2.2 = x'.2)) ∧ ∀ (x_4 : (List Int × Int × Int) × List (Int × Int × Int)), CqOk x_4.1 ∧ List.length x_4.2 ≤ (64 : Nat) → (((0 : Nat) ≤ List.length x_4.2 ∧ CqOk x_4.1 ∧ List.length x_4.2 = List.length
  x_4.2) ∧ ((x = x ∧ x_2.2.1 = x_2.2.1 ∧ x_2.2.2 = x_2.2.2 ∧ (↑x_3.1 : Int) = (↑x_3.1 : Int) ∧ (0 : Int) = (↑(0 : Nat) : Int)) ∧ (x_4.1.1 = x_4.1.1 ∧ x_4.1.2.1 = x_4.1.2.1 ∧ x_4.1.2.2 = x_4.1.2.2) ∧ ((0 : Int) = (0 :
  Int) ∧ (0 : Int) = (0 : Int) ∧ Value.slice none (0 : Nat) (0 : Nat) = Value.slice none (0 : Nat) (0 : Nat)) ∧ (x_2.2.1 = x_2.2.1 ∧ x_2.2.2 = x_2.2.2) ∧ x_3.2.2 = x_3.2.2 ∧ x_4.2 = x_4.2) ∧ ∀ (x_5 : Nat × (List Int ×
  Int × Int) × List (Int × Int × Int)), x_5.1 ≤ List.length x_4.2 ∧ CqOk x_5.2.1 ∧ List.length x_5.2.2 = List.length x_4.2 → (decide ((↑x_5.1 : Int) < (↑(List.length x_5.2.2) : Int)) = true → CqOk x_5.2.1 ∧ ∀ (g : List
  Int × Int × Int) (r : Int), CqOk g ∧ belowQ (↑(List.length x_5.2.2) : Int) r → Ty.wf curQ g → Ty.wf i64T r → ((0 : Int) ≤ (↑x_5.1 : Int) ∧ (↑x_5.1 : Int) < (↑(List.length x_5.2.2) : Int)) ∧ ((0 : Int) ≤ r ∧ r <
  (↑(List.length x_5.2.2) : Int)) ∧ ((0 : Int) ≤ (↑x_5.1 : Int) ∧ (↑x_5.1 : Int) < (↑(List.length x_5.2.2) : Int)) ∧ ((0 : Int) ≤ r ∧ r < (↑(List.length (List.set x_5.2.2 (Int.toNat (↑x_5.1 : Int)) (List.getD x_5.2.2
  (Int.toNat r) ((0 : Int), (0 : Int), (0 : Int))))) : Int)) ∧ ∃ (x' : Nat × (List Int × Int × Int) × List (Int × Int × Int)), (x'.1 ≤ List.length x_4.2 ∧ CqOk x'.2.1 ∧ List.length x'.2.2 = List.length x_4.2) ∧
  List.length x_4.2 - x'.1 < List.length x_4.2 - x_5.1 ∧ (x = x ∧ x_2.2.1 = x_2.2.1 ∧ x_2.2.2 = x_2.2.2 ∧ (↑x_3.1 : Int) = (↑x_3.1 : Int) ∧ IntKind.wrap IntKind.i64 ((↑x_5.1 : Int) + (1 : Int)) = (↑x'.1 : Int)) ∧ (g.1 =
  x'.2.1.1 ∧ g.2.1 = x'.2.1.2.1 ∧ g.2.2 = x'.2.1.2.2) ∧ ((0 : Int) = (0 : Int) ∧ (0 : Int) = (0 : Int) ∧ Value.slice none (0 : Nat) (0 : Nat) = Value.slice none (0 : Nat) (0 : Nat)) ∧ (x_2.2.1 = x_2.2.1 ∧ x_2.2.2 =
  x_2.2.2) ∧ x_3.2.2 = x_3.2.2 ∧ List.set (List.set x_5.2.2 (Int.toNat (↑x_5.1 : Int)) (List.getD x_5.2.2 (Int.toNat r) ((0 : Int), (0 : Int), (0 : Int)))) (Int.toNat r) (List.getD x_5.2.2 (Int.toNat (↑x_5.1 : Int)) ((0
  : Int), (0 : Int), (0 : Int))) = x'.2.2) ∧ (decide ((↑x_5.1 : Int) < (↑(List.length x_5.2.2) : Int)) = false → ∃ (x' : (List Int × Int × Int) × List (Int × Int × Int)), (CqOk x'.1 ∧ List.length x'.2 ≤ (64 : Nat)) ∧ (x
  = x ∧ x_2.2.1 = x_2.2.1 ∧ x_2.2.2 = x_2.2.2 ∧ (↑x_3.1 : Int) = (↑x_3.1 : Int)) ∧ (x_5.2.1.1 = x'.1.1 ∧ x_5.2.1.2.1 = x'.1.2.1 ∧ x_5.2.1.2.2 = x'.1.2.2) ∧ ((0 : Int) = (0 : Int) ∧ (0 : Int) = (0 : Int) ∧ Value.slice
  none (0 : Nat) (0 : Nat) = Value.slice none (0 : Nat) (0 : Nat)) ∧ (x_2.2.1 = x_2.2.1 ∧ x_2.2.2 = x_2.2.2) ∧ x_3.2.2 = x_3.2.2 ∧ x_5.2.2 = x'.2)) ∧ ∀ (x_5 : (List Int × Int × Int) × List (Int × Int × Int)), CqOk x_5.1
  ∧ List.length x_5.2 ≤ (64 : Nat) → ((0 : Nat) ≤ List.length x_5.2 ∧ List.length x_3.2.2 = List.length x_3.2.2 + (0 : Nat)) ∧ ((x = x ∧ x_2.2.1 = x_2.2.1 ∧ x_2.2.2 = x_2.2.2 ∧ (↑x_3.1 : Int) = (↑x_3.1 : Int) ∧ (0 : Int)
  = (↑(0 : Nat) : Int)) ∧ (x_5.1.1 = x_5.1.1 ∧ x_5.1.2.1 = x_5.1.2.1 ∧ x_5.1.2.2 = x_5.1.2.2) ∧ ((0 : Int) = (0 : Int) ∧ (0 : Int) = (0 : Int) ∧ Value.slice none (0 : Nat) (0 : Nat) = Value.slice none (0 : Nat) (0 :
  Nat)) ∧ (x_2.2.1 = x_2.2.1 ∧ x_2.2.2 = x_2.2.2) ∧ x_3.2.2 = x_3.2.2 ∧ x_5.2 = x_5.2) ∧ ∀ (x_6 : Nat × List (Int × Int × Int)), x_6.1 ≤ List.length x_5.2 ∧ List.length x_6.2 = List.length x_3.2.2 + x_6.1 → (decide
  ((↑x_6.1 : Int) < (↑(List.length x_5.2) : Int)) = true → ((0 : Int) ≤ (↑x_6.1 : Int) ∧ (↑x_6.1 : Int) < (↑(List.length x_5.2) : Int)) ∧ (List.length x_6.2 + List.length [List.getD x_5.2 (Int.toNat (↑x_6.1 : Int)) ((0 :
  Int), (0 : Int), (0 : Int))]) * (24 : Nat) ≤ (140737488355328 : Nat) ∧ ∃ (x' : Nat × List (Int × Int × Int)), (x'.1 ≤ List.length x_5.2 ∧ List.length x'.2 = List.length x_3.2.2 + x'.1) ∧ List.length x_5.2 - x'.1 <
  List.length x_5.2 - x_6.1 ∧ (x = x ∧ x_2.2.1 = x_2.2.1 ∧ x_2.2.2 = x_2.2.2 ∧ (↑x_3.1 : Int) = (↑x_3.1 : Int) ∧ IntKind.wrap IntKind.i64 ((↑x_6.1 : Int) + (1 : Int)) = (↑x'.1 : Int)) ∧ (x_5.1.1 = x_5.1.1 ∧ x_5.1.2.1 =
  x_5.1.2.1 ∧ x_5.1.2.2 = x_5.1.2.2) ∧ ((0 : Int) = (0 : Int) ∧ (0 : Int) = (0 : Int) ∧ Value.slice none (0 : Nat) (0 : Nat) = Value.slice none (0 : Nat) (0 : Nat)) ∧ (x_2.2.1 = x_2.2.1 ∧ x_2.2.2 = x_2.2.2) ∧ x_6.2 ++
  [List.getD x_5.2 (Int.toNat (↑x_6.1 : Int)) ((0 : Int), (0 : Int), (0 : Int))] = x'.2 ∧ x_5.2 = x_5.2) ∧ (decide ((↑x_6.1 : Int) < (↑(List.length x_5.2) : Int)) = false → ∃ (x' : Nat × (List Int × Int × Int) × List
  (Int × Int × Int)), ((↑x'.1 : Int) ≤ x_2.2.2 ∧ CqOk x'.2.1 ∧ List.length x'.2.2 ≤ (64 : Nat) * x'.1) ∧ Int.toNat x_2.2.2 - x'.1 < Int.toNat x_2.2.2 - x_3.1 ∧ (x = x ∧ x_2.2.1 = x_2.2.1 ∧ x_2.2.2 = x_2.2.2 ∧
  IntKind.wrap IntKind.i64 ((↑x_3.1 : Int) + (1 : Int)) = (↑x'.1 : Int)) ∧ (x_5.1.1 = x'.2.1.1 ∧ x_5.1.2.1 = x'.2.1.2.1 ∧ x_5.1.2.2 = x'.2.1.2.2) ∧ ((0 : Int) = (0 : Int) ∧ (0 : Int) = (0 : Int) ∧ Value.slice none (0 :
  Nat) (0 : Nat) = Value.slice none (0 : Nat) (0 : Nat)) ∧ (x_2.2.1 = x_2.2.1 ∧ x_2.2.2 = x_2.2.2) ∧ x_6.2 = x'.2.2)) ∧ (decide ((↑x_3.1 : Int) < x_2.2.2) = false → ∃ (x' : (List Int × Int × Int) × List (Int × Int ×
  Int)), (CqOk x'.1 ∧ List.length x'.2 ≤ (400 : Nat)) ∧ (x = x ∧ x_2.2.1 = x_2.2.1 ∧ x_2.2.2 = x_2.2.2) ∧ (x_3.2.1.1 = x'.1.1 ∧ x_3.2.1.2.1 = x'.1.2.1 ∧ x_3.2.1.2.2 = x'.1.2.2) ∧ ((0 : Int) = (0 : Int) ∧ (0 : Int) = (0 :
  Int) ∧ Value.slice none (0 : Nat) (0 : Nat) = Value.slice none (0 : Nat) (0 : Nat)) ∧ (x_2.2.1 = x_2.2.1 ∧ x_2.2.2 = x_2.2.2) ∧ x_3.2.2 = x'.2)) ∧ ∀ (x_3 : (List Int × Int × Int) × List (Int × Int × Int)), CqOk x_3.1 ∧
  List.length x_3.2 ≤ (400 : Nat) → CqOk x_3.1 ∧ ∀ (g : List Int × Int × Int) (r : Bool), CqOk g → Ty.wf curQ g → Ty.wf Ty.bool r → (r = true → CqOk g ∧ ∀ (g : List Int × Int × Int) (r_1 : Int), CqOk g ∧ belowQ (5 : Int)
  r_1 → Ty.wf curQ g → Ty.wf i64T r_1 → (decide (r_1 = (0 : Int)) = true → CqOk g ∧ ∀ (g : List Int × Int × Int) (r : Int), CqOk g → Ty.wf curQ g → Ty.wf i64T r → CqOk g ∧ List.length x_3.2 ≤ (1000 : Nat)) ∧ (decide (r_1
  = (0 : Int)) = false → (decide (r_1 = (1 : Int)) = true → (CqOk g ∧ (0 : Nat) < List.length [(-1 : Int), (0 : Int), (10 : Int), IntKind.wrap IntKind.i64 (x_2.2.2 + (1 : Int))]) ∧ ∀ (g_1 : List Int × Int × Int) (r_2 :
  Int), CqOk g_1 ∧ pickQ [(-1 : Int), (0 : Int), (10 : Int), IntKind.wrap IntKind.i64 (x_2.2.2 + (1 : Int))] r_2 → Ty.wf curQ g_1 → Ty.wf i64T r_2 → CqOk g_1 ∧ List.length x_3.2 ≤ (1000 : Nat)) ∧ (decide (r_1 = (1 :
  Int)) = false → (decide (r_1 = (2 : Int)) = true → (decide ((0 : Int) < (↑(List.length x_3.2) : Int)) = true → CqOk g ∧ ∀ (g : List Int × Int × Int) (r_2 : Int), CqOk g ∧ belowQ (↑(List.length x_3.2) : Int) r_2 → Ty.wf
  curQ g → Ty.wf i64T r_2 → (((((0 : Int) ≤ r_2 ∧ r_2 < (↑(List.length x_3.2) : Int)) ∧ ((CqOk g ∧ (0 : Nat) < List.length [(-1 : Int), (1 : Int)]) ∧ ∀ (g_1 : List Int × Int × Int) (r_3 : Int), CqOk g_1 ∧ pickQ [(-1 :
  Int), (1 : Int)] r_3 → Ty.wf curQ g_1 → Ty.wf i64T r_3 → ((0 : Int) ≤ r_2 ∧ r_2 < (↑(List.length x_3.2) : Int)) ∧ CqOk g_1 ∧ List.length (List.set x_3.2 (Int.toNat r_2) (Prod.fst (List.getD x_3.2 (Int.toNat r_2) ((0 :
  Int), (0 : Int), (0 : Int))), Prod.fst (Prod.snd (List.getD x_3.2 (Int.toNat r_2) ((0 : Int), (0 : Int), (0 : Int)))), IntKind.wrap IntKind.i64 (Prod.snd (Prod.snd (List.getD x_3.2 (Int.toNat r_2) ((0 : Int), (0 :
  Int), (0 : Int)))) + r_3))) ≤ (1000 : Nat)) ∧ ((CqOk g ∧ (0 : Nat) < List.length [(-1 : Int), (1 : Int)]) ∧ ∀ (g_1 : List Int × Int × Int) (r_3 : Int), CqOk g_1 ∧ pickQ [(-1 : Int), (1 : Int)] r_3 → Ty.wf curQ g_1 →
  Ty.wf i64T r_3 → ((0 : Int) ≤ r_2 ∧ r_2 < (↑(List.length x_3.2) : Int)) ∧ CqOk g_1 ∧ List.length (List.set x_3.2 (Int.toNat r_2) (Prod.fst (List.getD x_3.2 (Int.toNat r_2) ((0 : Int), (0 : Int), (0 : Int))), Prod.fst
  (Prod.snd (List.getD x_3.2 (Int.toNat r_2) ((0 : Int), (0 : Int), (0 : Int)))), IntKind.wrap IntKind.i64 (Prod.snd (Prod.snd (List.getD x_3.2 (Int.toNat r_2) ((0 : Int), (0 : Int), (0 : Int)))) + r_3))) ≤ (1000 : Nat))
  ∧ (CqOk g ∧ (0 : Nat) < List.length [(-1 : Int), (1 : Int)]) ∧ ∀ (g_1 : List Int × Int × Int) (r_3 : Int), CqOk g_1 ∧ pickQ [(-1 : Int), (1 : Int)] r_3 → Ty.wf curQ g_1 → Ty.wf i64T r_3 → ((0 : Int) ≤ r_2 ∧ r_2 <
  (↑(List.length x_3.2) : Int)) ∧ CqOk g_1 ∧ List.length (List.set x_3.2 (Int.toNat r_2) (Prod.fst (List.getD x_3.2 (Int.toNat r_2) ((0 : Int), (0 : Int), (0 : Int))), Prod.fst (Prod.snd (List.getD x_3.2 (Int.toNat r_2)
  ((0 : Int), (0 : Int), (0 : Int)))), IntKind.wrap IntKind.i64 (Prod.snd (Prod.snd (List.getD x_3.2 (Int.toNat r_2) ((0 : Int), (0 : Int), (0 : Int)))) + r_3))) ≤ (1000 : Nat)) ∧ (((0 : Int) ≤ r_2 ∧ r_2 < (↑(List.length
  x_3.2) : Int)) ∧ ((CqOk g ∧ (0 : Nat) < List.length [(-1 : Int), (1 : Int)]) ∧ ∀ (g_1 : List Int × Int × Int) (r_3 : Int), CqOk g_1 ∧ pickQ [(-1 : Int), (1 : Int)] r_3 → Ty.wf curQ g_1 → Ty.wf i64T r_3 → ((0 : Int) ≤
  r_2 ∧ r_2 < (↑(List.length x_3.2) : Int)) ∧ CqOk g_1 ∧ List.length (List.set x_3.2 (Int.toNat r_2) (Prod.fst (List.getD x_3.2 (Int.toNat r_2) ((0 : Int), (0 : Int), (0 : Int))), Prod.fst (Prod.snd (List.getD x_3.2
  (Int.toNat r_2) ((0 : Int), (0 : Int), (0 : Int)))), IntKind.wrap IntKind.i64 (Prod.snd (Prod.snd (List.getD x_3.2 (Int.toNat r_2) ((0 : Int), (0 : Int), (0 : Int)))) + r_3))) ≤ (1000 : Nat)) ∧ (CqOk g ∧ (0 : Nat) <
  List.length [(-1 : Int), (1 : Int)]) ∧ ∀ (g_1 : List Int × Int × Int) (r_3 : Int), CqOk g_1 ∧ pickQ [(-1 : Int), (1 : Int)] r_3 → Ty.wf curQ g_1 → Ty.wf i64T r_3 → ((0 : Int) ≤ r_2 ∧ r_2 < (↑(List.length x_3.2) : Int))
  ∧ CqOk g_1 ∧ List.length (List.set x_3.2 (Int.toNat r_2) (Prod.fst (List.getD x_3.2 (Int.toNat r_2) ((0 : Int), (0 : Int), (0 : Int))), Prod.fst (Prod.snd (List.getD x_3.2 (Int.toNat r_2) ((0 : Int), (0 : Int), (0 :
  Int)))), IntKind.wrap IntKind.i64 (Prod.snd (Prod.snd (List.getD x_3.2 (Int.toNat r_2) ((0 : Int), (0 : Int), (0 : Int)))) + r_3))) ≤ (1000 : Nat)) ∧ (CqOk g ∧ (0 : Nat) < List.length [(-1 : Int), (1 : Int)]) ∧ ∀ (g_1
  : List Int × Int × Int) (r_3 : Int), CqOk g_1 ∧ pickQ [(-1 : Int), (1 : Int)] r_3 → Ty.wf curQ g_1 → Ty.wf i64T r_3 → ((0 : Int) ≤ r_2 ∧ r_2 < (↑(List.length x_3.2) : Int)) ∧ ((0 : Int) ≤ r_2 ∧ r_2 < (↑(List.length
  x_3.2) : Int)) ∧ CqOk g_1 ∧ List.length (List.set x_3.2 (Int.toNat r_2) (Prod.fst (List.getD x_3.2 (Int.toNat r_2) ((0 : Int), (0 : Int), (0 : Int))), Prod.fst (Prod.snd (List.getD x_3.2 (Int.toNat r_2) ((0 : Int), (0
  : Int), (0 : Int)))), IntKind.wrap IntKind.i64 (Prod.snd (Prod.snd (List.getD x_3.2 (Int.toNat r_2) ((0 : Int), (0 : Int), (0 : Int)))) + r_3))) ≤ (1000 : Nat)) ∧ ((((0 : Int) ≤ r_2 ∧ r_2 < (↑(List.length x_3.2) :
  Int)) ∧ ((CqOk g ∧ (0 : Nat) < List.length [(-1 : Int), (1 : Int)]) ∧ ∀ (g_1 : List Int × Int × Int) (r_3 : Int), CqOk g_1 ∧ pickQ [(-1 : Int), (1 : Int)] r_3 → Ty.wf curQ g_1 → Ty.wf i64T r_3 → ((0 : Int) ≤ r_2 ∧ r_2
  < (↑(List.length x_3.2) : Int)) ∧ CqOk g_1 ∧ List.length (List.set x_3.2 (Int.toNat r_2) (Prod.fst (List.getD x_3.2 (Int.toNat r_2) ((0 : Int), (0 : Int), (0 : Int))), Prod.fst (Prod.snd (List.getD x_3.2 (Int.toNat
  r_2) ((0 : Int), (0 : Int), (0 : Int)))), IntKind.wrap IntKind.i64 (Prod.snd (Prod.snd (List.getD x_3.2 (Int.toNat r_2) ((0 : Int), (0 : Int), (0 : Int)))) + r_3))) ≤ (1000 : Nat)) ∧ (CqOk g ∧ (0 : Nat) < List.length
  [(-1 : Int), (1 : Int)]) ∧ ∀ (g_1 : List Int × Int × Int) (r_3 : Int), CqOk g_1 ∧ pickQ [(-1 : Int), (1 : Int)] r_3 → Ty.wf curQ g_1 → Ty.wf i64T r_3 → ((0 : Int) ≤ r_2 ∧ r_2 < (↑(List.length x_3.2) : Int)) ∧ CqOk g_1
  ∧ List.length (List.set x_3.2 (Int.toNat r_2) (Prod.fst (List.getD x_3.2 (Int.toNat r_2) ((0 : Int), (0 : Int), (0 : Int))), Prod.fst (Prod.snd (List.getD x_3.2 (Int.toNat r_2) ((0 : Int), (0 : Int), (0 : Int)))),
  IntKind.wrap IntKind.i64 (Prod.snd (Prod.snd (List.getD x_3.2 (Int.toNat r_2) ((0 : Int), (0 : Int), (0 : Int)))) + r_3))) ≤ (1000 : Nat)) ∧ (CqOk g ∧ (0 : Nat) < List.length [(-1 : Int), (1 : Int)]) ∧ ∀ (g_1 : List
  Int × Int × Int) (r_3 : Int), CqOk g_1 ∧ pickQ [(-1 : Int), (1 : Int)] r_3 → Ty.wf curQ g_1 → Ty.wf i64T r_3 → ((0 : Int) ≤ r_2 ∧ r_2 < (↑(List.length x_3.2) : Int)) ∧ ((0 : Int) ≤ r_2 ∧ r_2 < (↑(List.length x_3.2) :
  Int)) ∧ CqOk g_1 ∧ List.length (List.set x_3.2 (Int.toNat r_2) (Prod.fst (List.getD x_3.2 (Int.toNat r_2) ((0 : Int), (0 : Int), (0 : Int))), Prod.fst (Prod.snd (List.getD x_3.2 (Int.toNat r_2) ((0 : Int), (0 : Int),
  (0 : Int)))), IntKind.wrap IntKind.i64 (Prod.snd (Prod.snd (List.getD x_3.2 (Int.toNat r_2) ((0 : Int), (0 : Int), (0 : Int)))) + r_3))) ≤ (1000 : Nat)) ∧ (CqOk g ∧ (0 : Nat) < List.length [(-1 : Int), (1 : Int)]) ∧ ∀
  (g_1 : List Int × Int × Int) (r_3 : Int), CqOk g_1 ∧ pickQ [(-1 : Int), (1 : Int)] r_3 → Ty.wf curQ g_1 → Ty.wf i64T r_3 → ((0 : Int) ≤ r_2 ∧ r_2 < (↑(List.length x_3.2) : Int)) ∧ ((0 : Int) ≤ r_2 ∧ r_2 <
  (↑(List.length x_3.2) : Int)) ∧ CqOk g_1 ∧ List.length (List.set x_3.2 (Int.toNat r_2) (Prod.fst (List.getD x_3.2 (Int.toNat r_2) ((0 : Int), (0 : Int), (0 : Int))), Prod.fst (Prod.snd (List.getD x_3.2 (Int.toNat r_2)
  ((0 : Int), (0 : Int), (0 : Int)))), IntKind.wrap IntKind.i64 (Prod.snd (Prod.snd (List.getD x_3.2 (Int.toNat r_2) ((0 : Int), (0 : Int), (0 : Int)))) + r_3))) ≤ (1000 : Nat)) ∧ (((((0 : Int) ≤ r_2 ∧ r_2 <
  (↑(List.length x_3.2) : Int)) ∧ ((CqOk g ∧ (0 : Nat) < List.length [(-1 : Int), (1 : Int)]) ∧ ∀ (g_1 : List Int × Int × Int) (r_3 : Int), CqOk g_1 ∧ pickQ [(-1 : Int), (1 : Int)] r_3 → Ty.wf curQ g_1 → Ty.wf i64T r_3 →
  ((0 : Int) ≤ r_2 ∧ r_2 < (↑(List.length x_3.2) : Int)) ∧ CqOk g_1 ∧ List.length (List.set x_3.2 (Int.toNat r_2) (Prod.fst (List.getD x_3.2 (Int.toNat r_2) ((0 : Int), (0 : Int), (0 : Int))), Prod.fst (Prod.snd
  (List.getD x_3.2 (Int.toNat r_2) ((0 : Int), (0 : Int), (0 : Int)))), IntKind.wrap IntKind.i64 (Prod.snd (Prod.snd (List.getD x_3.2 (Int.toNat r_2) ((0 : Int), (0 : Int), (0 : Int)))) + r_3))) ≤ (1000 : Nat)) ∧ ((CqOk
  g ∧ (0 : Nat) < List.length [(-1 : Int), (1 : Int)]) ∧ ∀ (g_1 : List Int × Int × Int) (r_3 : Int), CqOk g_1 ∧ pickQ [(-1 : Int), (1 : Int)] r_3 → Ty.wf curQ g_1 → Ty.wf i64T r_3 → ((0 : Int) ≤ r_2 ∧ r_2 <
  (↑(List.length x_3.2) : Int)) ∧ CqOk g_1 ∧ List.length (List.set x_3.2 (Int.toNat r_2) (Prod.fst (List.getD x_3.2 (Int.toNat r_2) ((0 : Int), (0 : Int), (0 : Int))), Prod.fst (Prod.snd (List.getD x_3.2 (Int.toNat r_2)
  ((0 : Int), (0 : Int), (0 : Int)))), IntKind.wrap IntKind.i64 (Prod.snd (Prod.snd (List.getD x_3.2 (Int.toNat r_2) ((0 : Int), (0 : Int), (0 : Int)))) + r_3))) ≤ (1000 : Nat)) ∧ (CqOk g ∧ (0 : Nat) < List.length [(-1 :
  Int), (1 : Int)]) ∧ ∀ (g_1 : List Int × Int × Int) (r_3 : Int), CqOk g_1 ∧ pickQ [(-1 : Int), (1 : Int)] r_3 → Ty.wf curQ g_1 → Ty.wf i64T r_3 → ((0 : Int) ≤ r_2 ∧ r_2 < (↑(List.length x_3.2) : Int)) ∧ CqOk g_1 ∧
  List.length (List.set x_3.2 (Int.toNat r_2) (Prod.fst (List.getD x_3.2 (Int.toNat r_2) ((0 : Int), (0 : Int), (0 : Int))), Prod.fst (Prod.snd (List.getD x_3.2 (Int.toNat r_2) ((0 : Int), (0 : Int), (0 : Int)))),
  IntKind.wrap IntKind.i64 (Prod.snd (Prod.snd (List.getD x_3.2 (Int.toNat r_2) ((0 : Int), (0 : Int), (0 : Int)))) + r_3))) ≤ (1000 : Nat)) ∧ (((0 : Int) ≤ r_2 ∧ r_2 < (↑(List.length x_3.2) : Int)) ∧ ((CqOk g ∧ (0 :
  Nat) < List.length [(-1 : Int), (1 : Int)]) ∧ ∀ (g_1 : List Int × Int × Int) (r_3 : Int), CqOk g_1 ∧ pickQ [(-1 : Int), (1 : Int)] r_3 → Ty.wf curQ g_1 → Ty.wf i64T r_3 → ((0 : Int) ≤ r_2 ∧ r_2 < (↑(List.length x_3.2)
  : Int)) ∧ CqOk g_1 ∧ List.length (List.set x_3.2 (Int.toNat r_2) (Prod.fst (List.getD x_3.2 (Int.toNat r_2) ((0 : Int), (0 : Int), (0 : Int))), Prod.fst (Prod.snd (List.getD x_3.2 (Int.toNat r_2) ((0 : Int), (0 : Int),
  (0 : Int)))), IntKind.wrap IntKind.i64 (Prod.snd (Prod.snd (List.getD x_3.2 (Int.toNat r_2) ((0 : Int), (0 : Int), (0 : Int)))) + r_3))) ≤ (1000 : Nat)) ∧ (CqOk g ∧ (0 : Nat) < List.length [(-1 : Int), (1 : Int)]) ∧ ∀
  (g_1 : List Int × Int × Int) (r_3 : Int), CqOk g_1 ∧ pickQ [(-1 : Int), (1 : Int)] r_3 → Ty.wf curQ g_1 → Ty.wf i64T r_3 → ((0 : Int) ≤ r_2 ∧ r_2 < (↑(List.length x_3.2) : Int)) ∧ CqOk g_1 ∧ List.length (List.set x_3.2
  (Int.toNat r_2) (Prod.fst (List.getD x_3.2 (Int.toNat r_2) ((0 : Int), (0 : Int), (0 : Int))), Prod.fst (Prod.snd (List.getD x_3.2 (Int.toNat r_2) ((0 : Int), (0 : Int), (0 : Int)))), IntKind.wrap IntKind.i64 (Prod.snd
  (Prod.snd (List.getD x_3.2 (Int.toNat r_2) ((0 : Int), (0 : Int), (0 : Int)))) + r_3))) ≤ (1000 : Nat)) ∧ (CqOk g ∧ (0 : Nat) < List.length [(-1 : Int), (1 : Int)]) ∧ ∀ (g_1 : List Int × Int × Int) (r_3 : Int), CqOk
  g_1 ∧ pickQ [(-1 : Int), (1 : Int)] r_3 → Ty.wf curQ g_1 → Ty.wf i64T r_3 → ((0 : Int) ≤ r_2 ∧ r_2 < (↑(List.length x_3.2) : Int)) ∧ ((0 : Int) ≤ r_2 ∧ r_2 < (↑(List.length x_3.2) : Int)) ∧ CqOk g_1 ∧ List.length
  (List.set x_3.2 (Int.toNat r_2) (Prod.fst (List.getD x_3.2 (Int.toNat r_2) ((0 : Int), (0 : Int), (0 : Int))), Prod.fst (Prod.snd (List.getD x_3.2 (Int.toNat r_2) ((0 : Int), (0 : Int), (0 : Int)))), IntKind.wrap
  IntKind.i64 (Prod.snd (Prod.snd (List.getD x_3.2 (Int.toNat r_2) ((0 : Int), (0 : Int), (0 : Int)))) + r_3))) ≤ (1000 : Nat)) ∧ (((0 : Int) ≤ r_2 ∧ r_2 < (↑(List.length x_3.2) : Int)) ∧ (((CqOk g ∧ (0 : Nat) <
  List.length [(-1 : Int), (1 : Int)]) ∧ ∀ (g_1 : List Int × Int × Int) (r_3 : Int), CqOk g_1 ∧ pickQ [(-1 : Int), (1 : Int)] r_3 → Ty.wf curQ g_1 → Ty.wf i64T r_3 → ((0 : Int) ≤ r_2 ∧ r_2 < (↑(List.length x_3.2) : Int))
  ∧ CqOk g_1 ∧ List.length (List.set x_3.2 (Int.toNat r_2) (Prod.fst (List.getD x_3.2 (Int.toNat r_2) ((0 : Int), (0 : Int), (0 : Int))), Prod.fst (Prod.snd (List.getD x_3.2 (Int.toNat r_2) ((0 : Int), (0 : Int), (0 :
  Int)))), IntKind.wrap IntKind.i64 (Prod.snd (Prod.snd (List.getD x_3.2 (Int.toNat r_2) ((0 : Int), (0 : Int), (0 : Int)))) + r_3))) ≤ (1000 : Nat)) ∧ ((CqOk g ∧ (0 : Nat) < List.length [(-1 : Int), (1 : Int)]) ∧ ∀ (g_1
  : List Int × Int × Int) (r_3 : Int), CqOk g_1 ∧ pickQ [(-1 : Int), (1 : Int)] r_3 → Ty.wf curQ g_1 → Ty.wf i64T r_3 → ((0 : Int) ≤ r_2 ∧ r_2 < (↑(List.length x_3.2) : Int)) ∧ CqOk g_1 ∧ List.length (List.set x_3.2
  (Int.toNat r_2) (Prod.fst (List.getD x_3.2 (Int.toNat r_2) ((0 : Int), (0 : Int), (0 : Int))), Prod.fst (Prod.snd (List.getD x_3.2 (Int.toNat r_2) ((0 : Int), (0 : Int), (0 : Int)))), IntKind.wrap IntKind.i64 (Prod.snd
  (Prod.snd (List.getD x_3.2 (Int.toNat r_2) ((0 : Int), (0 : Int), (0 : Int)))) + r_3))) ≤ (1000 : Nat)) ∧ (CqOk g ∧ (0 : Nat) < List.length [(-1 : Int), (1 : Int)]) ∧ ∀ (g_1 : List Int × Int × Int) (r_3 : Int), CqOk
  g_1 ∧ pickQ [(-1 : Int), (1 : Int)] r_3 → Ty.wf curQ g_1 → Ty.wf i64T r_3 → ((0 : Int) ≤ r_2 ∧ r_2 < (↑(List.length x_3.2) : Int)) ∧ CqOk g_1 ∧ List.length (List.set x_3.2 (Int.toNat r_2) (Prod.fst (List.getD x_3.2
  (Int.toNat r_2) ((0 : Int), (0 : Int), (0 : Int))), Prod.fst (Prod.snd (List.getD x_3.2 (Int.toNat r_2) ((0 : Int), (0 : Int), (0 : Int)))), IntKind.wrap IntKind.i64 (Prod.snd (Prod.snd (List.getD x_3.2 (Int.toNat r_2)
  ((0 : Int), (0 : Int), (0 : Int)))) + r_3))) ≤ (1000 : Nat)) ∧ (((CqOk g ∧ (0 : Nat) < List.length [(-1 : Int), (1 : Int)]) ∧ ∀ (g_1 : List Int × Int × Int) (r_3 : Int), CqOk g_1 ∧ pickQ [(-1 : Int), (1 : Int)] r_3 →
  Ty.wf curQ g_1 → Ty.wf i64T r_3 → ((0 : Int) ≤ r_2 ∧ r_2 < (↑(List.length x_3.2) : Int)) ∧ CqOk g_1 ∧ List.length (List.set x_3.2 (Int.toNat r_2) (Prod.fst (List.getD x_3.2 (Int.toNat r_2) ((0 : Int), (0 : Int), (0 :
  Int))), Prod.fst (Prod.snd (List.getD x_3.2 (Int.toNat r_2) ((0 : Int), (0 : Int), (0 : Int)))), IntKind.wrap IntKind.i64 (Prod.snd (Prod.snd (List.getD x_3.2 (Int.toNat r_2) ((0 : Int), (0 : Int), (0 : Int)))) +
  r_3))) ≤ (1000 : Nat)) ∧ ((CqOk g ∧ (0 : Nat) < List.length [(-1 : Int), (1 : Int)]) ∧ ∀ (g_1 : List Int × Int × Int) (r_3 : Int), CqOk g_1 ∧ pickQ [(-1 : Int), (1 : Int)] r_3 → Ty.wf curQ g_1 → Ty.wf i64T r_3 → ((0 :
  Int) ≤ r_2 ∧ r_2 < (↑(List.length x_3.2) : Int)) ∧ CqOk g_1 ∧ List.length (List.set x_3.2 (Int.toNat r_2) (Prod.fst (List.getD x_3.2 (Int.toNat r_2) ((0 : Int), (0 : Int), (0 : Int))), Prod.fst (Prod.snd (List.getD
  x_3.2 (Int.toNat r_2) ((0 : Int), (0 : Int), (0 : Int)))), IntKind.wrap IntKind.i64 (Prod.snd (Prod.snd (List.getD x_3.2 (Int.toNat r_2) ((0 : Int), (0 : Int), (0 : Int)))) + r_3))) ≤ (1000 : Nat)) ∧ (CqOk g ∧ (0 :
  Nat) < List.length [(-1 : Int), (1 : Int)]) ∧ ∀ (g_1 : List Int × Int × Int) (r_3 : Int), CqOk g_1 ∧ pickQ [(-1 : Int), (1 : Int)] r_3 → Ty.wf curQ g_1 → Ty.wf i64T r_3 → (((0 : Int) ≤ r_2 ∧ r_2 < (↑(List.length x_3.2)
  : Int)) ∧ CqOk g_1 ∧ List.length (List.set x_3.2 (Int.toNat r_2) (Prod.fst (List.getD x_3.2 (Int.toNat r_2) ((0 : Int), (0 : Int), (0 : Int))), Prod.fst (Prod.snd (List.getD x_3.2 (Int.toNat r_2) ((0 : Int), (0 : Int),
  (0 : Int)))), IntKind.wrap IntKind.i64 (Prod.snd (Prod.snd (List.getD x_3.2 (Int.toNat r_2) ((0 : Int), (0 : Int), (0 : Int)))) + r_3))) ≤ (1000 : Nat)) ∧ ((0 : Int) ≤ r_2 ∧ r_2 < (↑(List.length x_3.2) : Int)) ∧ CqOk
  g_1 ∧ List.length (List.set x_3.2 (Int.toNat r_2) (Prod.fst (List.getD x_3.2 (Int.toNat r_2) ((0 : Int), (0 : Int), (0 : Int))), Prod.fst (Prod.snd (List.getD x_3.2 (Int.toNat r_2) ((0 : Int), (0 : Int), (0 : Int)))),
  IntKind.wrap IntKind.i64 (Prod.snd (Prod.snd (List.getD x_3.2 (Int.toNat r_2) ((0 : Int), (0 : Int), (0 : Int)))) + r_3))) ≤ (1000 : Nat)) ∧ (((CqOk g ∧ (0 : Nat) < List.length [(-1 : Int), (1 : Int)]) ∧ ∀ (g_1 : List
  Int × Int × Int) (r_3 : Int), CqOk g_1 ∧ pickQ [(-1 : Int), (1 : Int)] r_3 → Ty.wf curQ g_1 → Ty.wf i64T r_3 → ((0 : Int) ≤ r_2 ∧ r_2 < (↑(List.length x_3.2) : Int)) ∧ CqOk g_1 ∧ List.length (List.set x_3.2 (Int.toNat
  r_2) (Prod.fst (List.getD x_3.2 (Int.toNat r_2) ((0 : Int), (0 : Int), (0 : Int))), Prod.fst (Prod.snd (List.getD x_3.2 (Int.toNat r_2) ((0 : Int), (0 : Int), (0 : Int)))), IntKind.wrap IntKind.i64 (Prod.snd (Prod.snd
  (List.getD x_3.2 (Int.toNat r_2) ((0 : Int), (0 : Int), (0 : Int)))) + r_3))) ≤ (1000 : Nat)) ∧ (CqOk g ∧ (0 : Nat) < List.length [(-1 : Int), (1 : Int)]) ∧ ∀ (g_1 : List Int × Int × Int) (r_3 : Int), CqOk g_1 ∧ pickQ
  [(-1 : Int), (1 : Int)] r_3 → Ty.wf curQ g_1 → Ty.wf i64T r_3 → ((0 : Int) ≤ r_2 ∧ r_2 < (↑(List.length x_3.2) : Int)) ∧ CqOk g_1 ∧ List.length (List.set x_3.2 (Int.toNat r_2) (Prod.fst (List.getD x_3.2 (Int.toNat r_2)
  ((0 : Int), (0 : Int), (0 : Int))), Prod.fst (Prod.snd (List.getD x_3.2 (Int.toNat r_2) ((0 : Int), (0 : Int), (0 : Int)))), IntKind.wrap IntKind.i64 (Prod.snd (Prod.snd (List.getD x_3.2 (Int.toNat r_2) ((0 : Int), (0
  : Int), (0 : Int)))) + r_3))) ≤ (1000 : Nat)) ∧ (((CqOk g ∧ (0 : Nat) < List.length [(-1 : Int), (1 : Int)]) ∧ ∀ (g_1 : List Int × Int × Int) (r_3 : Int), CqOk g_1 ∧ pickQ [(-1 : Int), (1 : Int)] r_3 → Ty.wf curQ g_1 →
  Ty.wf i64T r_3 → ((0 : Int) ≤ r_2 ∧ r_2 < (↑(List.length x_3.2) : Int)) ∧ CqOk g_1 ∧ List.length (List.set x_3.2 (Int.toNat r_2) (Prod.fst (List.getD x_3.2 (Int.toNat r_2) ((0 : Int), (0 : Int), (0 : Int))), Prod.fst
  (Prod.snd (List.getD x_3.2 (Int.toNat r_2) ((0 : Int), (0 : Int), (0 : Int)))), IntKind.wrap IntKind.i64 (Prod.snd (Prod.snd (List.getD x_3.2 (Int.toNat r_2) ((0 : Int), (0 : Int), (0 : Int)))) + r_3))) ≤ (1000 : Nat))
  ∧ (CqOk g ∧ (0 : Nat) < List.length [(-1 : Int), (1 : Int)]) ∧ ∀ (g_1 : List Int × Int × Int) (r_3 : Int), CqOk g_1 ∧ pickQ [(-1 : Int), (1 : Int)] r_3 → Ty.wf curQ g_1 → Ty.wf i64T r_3 → (((0 : Int) ≤ r_2 ∧ r_2 <
  (↑(List.length x_3.2) : Int)) ∧ CqOk g_1 ∧ List.length (List.set x_3.2 (Int.toNat r_2) (Prod.fst (List.getD x_3.2 (Int.toNat r_2) ((0 : Int), (0 : Int), (0 : Int))), Prod.fst (Prod.snd (List.getD x_3.2 (Int.toNat r_2)
  ((0 : Int), (0 : Int), (0 : Int)))), IntKind.wrap IntKind.i64 (Prod.snd (Prod.snd (List.getD x_3.2 (Int.toNat r_2) ((0 : Int), (0 : Int), (0 : Int)))) + r_3))) ≤ (1000 : Nat)) ∧ ((0 : Int) ≤ r_2 ∧ r_2 < (↑(List.length
  x_3.2) : Int)) ∧ CqOk g_1 ∧ List.length (List.set x_3.2 (Int.toNat r_2) (Prod.fst (List.getD x_3.2 (Int.toNat r_2) ((0 : Int), (0 : Int), (0 : Int))), Prod.fst (Prod.snd (List.getD x_3.2 (Int.toNat r_2) ((0 : Int), (0
  : Int), (0 : Int)))), IntKind.wrap IntKind.i64 (Prod.snd (Prod.snd (List.getD x_3.2 (Int.toNat r_2) ((0 : Int), (0 : Int), (0 : Int)))) + r_3))) ≤ (1000 : Nat)) ∧ (CqOk g ∧ (0 : Nat) < List.length [(-1 : Int), (1 :
  Int)]) ∧ ∀ (g_1 : List Int × Int × Int) (r_3 : Int), CqOk g_1 ∧ pickQ [(-1 : Int), (1 : Int)] r_3 → Ty.wf curQ g_1 → Ty.wf i64T r_3 → (((0 : Int) ≤ r_2 ∧ r_2 < (↑(List.length x_3.2) : Int)) ∧ CqOk g_1 ∧ List.length
  (List.set x_3.2 (Int.toNat r_2) (Prod.fst (List.getD x_3.2 (Int.toNat r_2) ((0 : Int), (0 : Int), (0 : Int))), Prod.fst (Prod.snd (List.getD x_3.2 (Int.toNat r_2) ((0 : Int), (0 : Int), (0 : Int)))), IntKind.wrap
  IntKind.i64 (Prod.snd (Prod.snd (List.getD x_3.2 (Int.toNat r_2) ((0 : Int), (0 : Int), (0 : Int)))) + r_3))) ≤ (1000 : Nat)) ∧ (((0 : Int) ≤ r_2 ∧ r_2 < (↑(List.length x_3.2) : Int)) ∧ CqOk g_1 ∧ List.length (List.set
  x_3.2 (Int.toNat r_2) (Prod.fst (List.getD x_3.2 (Int.toNat r_2) ((0 : Int), (0 : Int), (0 : Int))), Prod.fst (Prod.snd (List.getD x_3.2 (Int.toNat r_2) ((0 : Int), (0 : Int), (0 : Int)))), IntKind.wrap IntKind.i64
  (Prod.snd (Prod.snd (List.getD x_3.2 (Int.toNat r_2) ((0 : Int), (0 : Int), (0 : Int)))) + r_3))) ≤ (1000 : Nat)) ∧ ((0 : Int) ≤ r_2 ∧ r_2 < (↑(List.length x_3.2) : Int)) ∧ CqOk g_1 ∧ List.length (List.set x_3.2
  (Int.toNat r_2) (Prod.fst (List.getD x_3.2 (Int.toNat r_2) ((0 : Int), (0 : Int), (0 : Int))), Prod.fst (Prod.snd (List.getD x_3.2 (Int.toNat r_2) ((0 : Int), (0 : Int), (0 : Int)))), IntKind.wrap IntKind.i64 (Prod.snd
  (Prod.snd (List.getD x_3.2 (Int.toNat r_2) ((0 : Int), (0 : Int), (0 : Int)))) + r_3))) ≤ (1000 : Nat)) ∧ ((((0 : Int) ≤ r_2 ∧ r_2 < (↑(List.length x_3.2) : Int)) ∧ ((CqOk g ∧ (0 : Nat) < List.length [(-1 : Int), (1 :
  Int)]) ∧ ∀ (g_1 : List Int × Int × Int) (r_3 : Int), CqOk g_1 ∧ pickQ [(-1 : Int), (1 : Int)] r_3 → Ty.wf curQ g_1 → Ty.wf i64T r_3 → ((0 : Int) ≤ r_2 ∧ r_2 < (↑(List.length x_3.2) : Int)) ∧ CqOk g_1 ∧ List.length
  (List.set x_3.2 (Int.toNat r_2) (Prod.fst (List.getD x_3.2 (Int.toNat r_2) ((0 : Int), (0 : Int), (0 : Int))), Prod.fst (Prod.snd (List.getD x_3.2 (Int.toNat r_2) ((0 : Int), (0 : Int), (0 : Int)))), IntKind.wrap
  IntKind.i64 (Prod.snd (Prod.snd (List.getD x_3.2 (Int.toNat r_2) ((0 : Int), (0 : Int), (0 : Int)))) + r_3))) ≤ (1000 : Nat)) ∧ (CqOk g ∧ (0 : Nat) < List.length [(-1 : Int), (1 : Int)]) ∧ ∀ (g_1 : List Int × Int ×
  Int) (r_3 : Int), CqOk g_1 ∧ pickQ [(-1 : Int), (1 : Int)] r_3 → Ty.wf curQ g_1 → Ty.wf i64T r_3 → ((0 : Int) ≤ r_2 ∧ r_2 < (↑(List.length x_3.2) : Int)) ∧ CqOk g_1 ∧ List.length (List.set x_3.2 (Int.toNat r_2)
  (Prod.fst (List.getD x_3.2 (Int.toNat r_2) ((0 : Int), (0 : Int), (0 : Int))), Prod.fst (Prod.snd (List.getD x_3.2 (Int.toNat r_2) ((0 : Int), (0 : Int), (0 : Int)))), IntKind.wrap IntKind.i64 (Prod.snd (Prod.snd
  (List.getD x_3.2 (Int.toNat r_2) ((0 : Int), (0 : Int), (0 : Int)))) + r_3))) ≤ (1000 : Nat)) ∧ (CqOk g ∧ (0 : Nat) < List.length [(-1 : Int), (1 : Int)]) ∧ ∀ (g_1 : List Int × Int × Int) (r_3 : Int), CqOk g_1 ∧ pickQ
  [(-1 : Int), (1 : Int)] r_3 → Ty.wf curQ g_1 → Ty.wf i64T r_3 → ((0 : Int) ≤ r_2 ∧ r_2 < (↑(List.length x_3.2) : Int)) ∧ ((0 : Int) ≤ r_2 ∧ r_2 < (↑(List.length x_3.2) : Int)) ∧ CqOk g_1 ∧ List.length (List.set x_3.2
  (Int.toNat r_2) (Prod.fst (List.getD x_3.2 (Int.toNat r_2) ((0 : Int), (0 : Int), (0 : Int))), Prod.fst (Prod.snd (List.getD x_3.2 (Int.toNat r_2) ((0 : Int), (0 : Int), (0 : Int)))), IntKind.wrap IntKind.i64 (Prod.snd
  (Prod.snd (List.getD x_3.2 (Int.toNat r_2) ((0 : Int), (0 : Int), (0 : Int)))) + r_3))) ≤ (1000 : Nat)) ∧ (((0 : Int) ≤ r_2 ∧ r_2 < (↑(List.length x_3.2) : Int)) ∧ (((CqOk g ∧ (0 : Nat) < List.length [(-1 : Int), (1 :
  Int)]) ∧ ∀ (g_1 : List Int × Int × Int) (r_3 : Int), CqOk g_1 ∧ pickQ [(-1 : Int), (1 : Int)] r_3 → Ty.wf curQ g_1 → Ty.wf i64T r_3 → ((0 : Int) ≤ r_2 ∧ r_2 < (↑(List.length x_3.2) : Int)) ∧ CqOk g_1 ∧ List.length
  (List.set x_3.2 (Int.toNat r_2) (Prod.fst (List.getD x_3.2 (Int.toNat r_2) ((0 : Int), (0 : Int), (0 : Int))), Prod.fst (Prod.snd (List.getD x_3.2 (Int.toNat r_2) ((0 : Int), (0 : Int), (0 : Int)))), IntKind.wrap
  IntKind.i64 (Prod.snd (Prod.snd (List.getD x_3.2 (Int.toNat r_2) ((0 : Int), (0 : Int), (0 : Int)))) + r_3))) ≤ (1000 : Nat)) ∧ (CqOk g ∧ (0 : Nat) < List.length [(-1 : Int), (1 : Int)]) ∧ ∀ (g_1 : List Int × Int ×
  Int) (r_3 : Int), CqOk g_1 ∧ pickQ [(-1 : Int), (1 : Int)] r_3 → Ty.wf curQ g_1 → Ty.wf i64T r_3 → ((0 : Int) ≤ r_2 ∧ r_2 < (↑(List.length x_3.2) : Int)) ∧ CqOk g_1 ∧ List.length (List.set x_3.2 (Int.toNat r_2)
  (Prod.fst (List.getD x_3.2 (Int.toNat r_2) ((0 : Int), (0 : Int), (0 : Int))), Prod.fst (Prod.snd (List.getD x_3.2 (Int.toNat r_2) ((0 : Int), (0 : Int), (0 : Int)))), IntKind.wrap IntKind.i64 (Prod.snd (Prod.snd
  (List.getD x_3.2 (Int.toNat r_2) ((0 : Int), (0 : Int), (0 : Int)))) + r_3))) ≤ (1000 : Nat)) ∧ (((CqOk g ∧ (0 : Nat) < List.length [(-1 : Int), (1 : Int)]) ∧ ∀ (g_1 : List Int × Int × Int) (r_3 : Int), CqOk g_1 ∧
  pickQ [(-1 : Int), (1 : Int)] r_3 → Ty.wf curQ g_1 → Ty.wf i64T r_3 → ((0 : Int) ≤ r_2 ∧ r_2 < (↑(List.length x_3.2) : Int)) ∧ CqOk g_1 ∧ List.length (List.set x_3.2 (Int.toNat r_2) (Prod.fst (List.getD x_3.2
  (Int.toNat r_2) ((0 : Int), (0 : Int), (0 : Int))), Prod.fst (Prod.snd (List.getD x_3.2 (Int.toNat r_2) ((0 : Int), (0 : Int), (0 : Int)))), IntKind.wrap IntKind.i64 (Prod.snd (Prod.snd (List.getD x_3.2 (Int.toNat r_2)
  ((0 : Int), (0 : Int), (0 : Int)))) + r_3))) ≤ (1000 : Nat)) ∧ (CqOk g ∧ (0 : Nat) < List.length [(-1 : Int), (1 : Int)]) ∧ ∀ (g_1 : List Int × Int × Int) (r_3 : Int), CqOk g_1 ∧ pickQ [(-1 : Int), (1 : Int)] r_3 →
  Ty.wf curQ g_1 → Ty.wf i64T r_3 → (((0 : Int) ≤ r_2 ∧ r_2 < (↑(List.length x_3.2) : Int)) ∧ CqOk g_1 ∧ List.length (List.set x_3.2 (Int.toNat r_2) (Prod.fst (List.getD x_3.2 (Int.toNat r_2) ((0 : Int), (0 : Int), (0 :
  Int))), Prod.fst (Prod.snd (List.getD x_3.2 (Int.toNat r_2) ((0 : Int), (0 : Int), (0 : Int)))), IntKind.wrap IntKind.i64 (Prod.snd (Prod.snd (List.getD x_3.2 (Int.toNat r_2) ((0 : Int), (0 : Int), (0 : Int)))) +
  r_3))) ≤ (1000 : Nat)) ∧ ((0 : Int) ≤ r_2 ∧ r_2 < (↑(List.length x_3.2) : Int)) ∧ CqOk g_1 ∧ List.length (List.set x_3.2 (Int.toNat r_2) (Prod.fst (List.getD x_3.2 (Int.toNat r_2) ((0 : Int), (0 : Int), (0 : Int))),
  Prod.fst (Prod.snd (List.getD x_3.2 (Int.toNat r_2) ((0 : Int), (0 : Int), (0 : Int)))), IntKind.wrap IntKind.i64 (Prod.snd (Prod.snd (List.getD x_3.2 (Int.toNat r_2) ((0 : Int), (0 : Int), (0 : Int)))) + r_3))) ≤
  (1000 : Nat)) ∧ (CqOk g ∧ (0 : Nat) < List.length [(-1 : Int), (1 : Int)]) ∧ ∀ (g_1 : List Int × Int × Int) (r_3 : Int), CqOk g_1 ∧ pickQ [(-1 : Int), (1 : Int)] r_3 → Ty.wf curQ g_1 → Ty.wf i64T r_3 → (((0 : Int) ≤
  r_2 ∧ r_2 < (↑(List.length x_3.2) : Int)) ∧ CqOk g_1 ∧ List.length (List.set x_3.2 (Int.toNat r_2) (Prod.fst (List.getD x_3.2 (Int.toNat r_2) ((0 : Int), (0 : Int), (0 : Int))), Prod.fst (Prod.snd (List.getD x_3.2
  (Int.toNat r_2) ((0 : Int), (0 : Int), (0 : Int)))), IntKind.wrap IntKind.i64 (Prod.snd (Prod.snd (List.getD x_3.2 (Int.toNat r_2) ((0 : Int), (0 : Int), (0 : Int)))) + r_3))) ≤ (1000 : Nat)) ∧ (((0 : Int) ≤ r_2 ∧ r_2
  < (↑(List.length x_3.2) : Int)) ∧ CqOk g_1 ∧ List.length (List.set x_3.2 (Int.toNat r_2) (Prod.fst (List.getD x_3.2 (Int.toNat r_2) ((0 : Int), (0 : Int), (0 : Int))), Prod.fst (Prod.snd (List.getD x_3.2 (Int.toNat
  r_2) ((0 : Int), (0 : Int), (0 : Int)))), IntKind.wrap IntKind.i64 (Prod.snd (Prod.snd (List.getD x_3.2 (Int.toNat r_2) ((0 : Int), (0 : Int), (0 : Int)))) + r_3))) ≤ (1000 : Nat)) ∧ ((0 : Int) ≤ r_2 ∧ r_2 <
  (↑(List.length x_3.2) : Int)) ∧ CqOk g_1 ∧ List.length (List.set x_3.2 (Int.toNat r_2) (Prod.fst (List.getD x_3.2 (Int.toNat r_2) ((0 : Int), (0 : Int), (0 : Int))), Prod.fst (Prod.snd (List.getD x_3.2 (Int.toNat r_2)
  ((0 : Int), (0 : Int), (0 : Int)))), IntKind.wrap IntKind.i64 (Prod.snd (Prod.snd (List.getD x_3.2 (Int.toNat r_2) ((0 : Int), (0 : Int), (0 : Int)))) + r_3))) ≤ (1000 : Nat)) ∧ (CqOk g ∧ (0 : Nat) < List.length [(-1 :
  Int), (1 : Int)]) ∧ ∀ (g_1 : List Int × Int × Int) (r_3 : Int), CqOk g_1 ∧ pickQ [(-1 : Int), (1 : Int)] r_3 → Ty.wf curQ g_1 → Ty.wf i64T r_3 → (((0 : Int) ≤ r_2 ∧ r_2 < (↑(List.length x_3.2) : Int)) ∧ ((0 : Int) ≤
  r_2 ∧ r_2 < (↑(List.length x_3.2) : Int)) ∧ CqOk g_1 ∧ List.length (List.set x_3.2 (Int.toNat r_2) (Prod.fst (List.getD x_3.2 (Int.toNat r_2) ((0 : Int), (0 : Int), (0 : Int))), Prod.fst (Prod.snd (List.getD x_3.2
  (Int.toNat r_2) ((0 : Int), (0 : Int), (0 : Int)))), IntKind.wrap IntKind.i64 (Prod.snd (Prod.snd (List.getD x_3.2 (Int.toNat r_2) ((0 : Int), (0 : Int), (0 : Int)))) + r_3))) ≤ (1000 : Nat)) ∧ ((0 : Int) ≤ r_2 ∧ r_2 <
  (↑(List.length x_3.2) : Int)) ∧ (((0 : Int) ≤ r_2 ∧ r_2 < (↑(List.length x_3.2) : Int)) ∧ CqOk g_1 ∧ List.length (List.set x_3.2 (Int.toNat r_2) (Prod.fst (List.getD x_3.2 (Int.toNat r_2) ((0 : Int), (0 : Int), (0 :
  Int))), Prod.fst (Prod.snd (List.getD x_3.2 (Int.toNat r_2) ((0 : Int), (0 : Int), (0 : Int)))), IntKind.wrap IntKind.i64 (Prod.snd (Prod.snd (List.getD x_3.2 (Int.toNat r_2) ((0 : Int), (0 : Int), (0 : Int)))) +
  r_3))) ≤ (1000 : Nat)) ∧ (((0 : Int) ≤ r_2 ∧ r_2 < (↑(List.length x_3.2) : Int)) ∧ CqOk g_1 ∧ List.length (List.set x_3.2 (Int.toNat r_2) (Prod.fst (List.getD x_3.2 (Int.toNat r_2) ((0 : Int), (0 : Int), (0 : Int))),
  Prod.fst (Prod.snd (List.getD x_3.2 (Int.toNat r_2) ((0 : Int), (0 : Int), (0 : Int)))), IntKind.wrap IntKind.i64 (Prod.snd (Prod.snd (List.getD x_3.2 (Int.toNat r_2) ((0 : Int), (0 : Int), (0 : Int)))) + r_3))) ≤
  (1000 : Nat)) ∧ ((0 : Int) ≤ r_2 ∧ r_2 < (↑(List.length x_3.2) : Int)) ∧ CqOk g_1 ∧ List.length (List.set x_3.2 (Int.toNat r_2) (Prod.fst (List.getD x_3.2 (Int.toNat r_2) ((0 : Int), (0 : Int), (0 : Int))), Prod.fst
  (Prod.snd (List.getD x_3.2 (Int.toNat r_2) ((0 : Int), (0 : Int), (0 : Int)))), IntKind.wrap IntKind.i64 (Prod.snd (Prod.snd (List.getD x_3.2 (Int.toNat r_2) ((0 : Int), (0 : Int), (0 : Int)))) + r_3))) ≤ (1000 : Nat))
  ∧ (((((0 : Int) ≤ r_2 ∧ r_2 < (↑(List.length x_3.2) : Int)) ∧ ((CqOk g ∧ (0 : Nat) < List.length [(-1 : Int), (1 : Int)]) ∧ ∀ (g_1 : List Int × Int × Int) (r_3 : Int), CqOk g_1 ∧ pickQ [(-1 : Int), (1 : Int)] r_3 →
  Ty.wf curQ g_1 → Ty.wf i64T r_3 → ((0 : Int) ≤ r_2 ∧ r_2 < (↑(List.length x_3.2) : Int)) ∧ CqOk g_1 ∧ List.length (List.set x_3.2 (Int.toNat r_2) (Prod.fst (List.getD x_3.2 (Int.toNat r_2) ((0 : Int), (0 : Int), (0 :
  Int))), Prod.fst (Prod.snd (List.getD x_3.2 (Int.toNat r_2) ((0 : Int), (0 : Int), (0 : Int)))), IntKind.wrap IntKind.i64 (Prod.snd (Prod.snd (List.getD x_3.2 (Int.toNat r_2) ((0 : Int), (0 : Int), (0 : Int)))) +
  r_3))) ≤ (1000 : Nat)) ∧ (CqOk g ∧ (0 : Nat) < List.length [(-1 : Int), (1 : Int)]) ∧ ∀ (g_1 : List Int × Int × Int) (r_3 : Int), CqOk g_1 ∧ pickQ [(-1 : Int), (1 : Int)] r_3 → Ty.wf curQ g_1 → Ty.wf i64T r_3 → ((0 :
  Int) ≤ r_2 ∧ r_2 < (↑(List.length x_3.2) : Int)) ∧ CqOk g_1 ∧ List.length (List.set x_3.2 (Int.toNat r_2) (Prod.fst (List.getD x_3.2 (Int.toNat r_2) ((0 : Int), (0 : Int), (0 : Int))), Prod.fst (Prod.snd (List.getD
  x_3.2 (Int.toNat r_2) ((0 : Int), (0 : Int), (0 : Int)))), IntKind.wrap IntKind.i64 (Prod.snd (Prod.snd (List.getD x_3.2 (Int.toNat r_2) ((0 : Int), (0 : Int), (0 : Int)))) + r_3))) ≤ (1000 : Nat)) ∧ (CqOk g ∧ (0 :
  Nat) < List.length [(-1 : Int), (1 : Int)]) ∧ ∀ (g_1 : List Int × Int × Int) (r_3 : Int), CqOk g_1 ∧ pickQ [(-1 : Int), (1 : Int)] r_3 → Ty.wf curQ g_1 → Ty.wf i64T r_3 → ((0 : Int) ≤ r_2 ∧ r_2 < (↑(List.length x_3.2)
  : Int)) ∧ ((0 : Int) ≤ r_2 ∧ r_2 < (↑(List.length x_3.2) : Int)) ∧ CqOk g_1 ∧ List.length (List.set x_3.2 (Int.toNat r_2) (Prod.fst (List.getD x_3.2 (Int.toNat r_2) ((0 : Int), (0 : Int), (0 : Int))), Prod.fst
  (Prod.snd (List.getD x_3.2 (Int.toNat r_2) ((0 : Int), (0 : Int), (0 : Int)))), IntKind.wrap IntKind.i64 (Prod.snd (Prod.snd (List.getD x_3.2 (Int.toNat r_2) ((0 : Int), (0 : Int), (0 : Int)))) + r_3))) ≤ (1000 : Nat))
  ∧ (CqOk g ∧ (0 : Nat) < List.length [(-1 : Int), (1 : Int)]) ∧ ∀ (g_1 : List Int × Int × Int) (r_3 : Int), CqOk g_1 ∧ pickQ [(-1 : Int), (1 : Int)] r_3 → Ty.wf curQ g_1 → Ty.wf i64T r_3 → ((0 : Int) ≤ r_2 ∧ r_2 <
  (↑(List.length x_3.2) : Int)) ∧ ((0 : Int) ≤ r_2 ∧ r_2 < (↑(List.length x_3.2) : Int)) ∧ CqOk g_1 ∧ List.length (List.set x_3.2 (Int.toNat r_2) (Prod.fst (List.getD x_3.2 (Int.toNat r_2) ((0 : Int), (0 : Int), (0 :
  Int))), Prod.fst (Prod.snd (List.getD x_3.2 (Int.toNat r_2) ((0 : Int), (0 : Int), (0 : Int)))), IntKind.wrap IntKind.i64 (Prod.snd (Prod.snd (List.getD x_3.2 (Int.toNat r_2) ((0 : Int), (0 : Int), (0 : Int)))) +
  r_3))) ≤ (1000 : Nat)) ∧ (((((0 : Int) ≤ r_2 ∧ r_2 < (↑(List.length x_3.2) : Int)) ∧ ((CqOk g ∧ (0 : Nat) < List.length [(-1 : Int), (1 : Int)]) ∧ ∀ (g_1 : List Int × Int × Int) (r_3 : Int), CqOk g_1 ∧ pickQ [(-1 :
  Int), (1 : Int)] r_3 → Ty.wf curQ g_1 → Ty.wf i64T r_3 → ((0 : Int) ≤ r_2 ∧ r_2 < (↑(List.length x_3.2) : Int)) ∧ CqOk g_1 ∧ List.length (List.set x_3.2 (Int.toNat r_2) (Prod.fst (List.getD x_3.2 (Int.toNat r_2) ((0 :
  Int), (0 : Int), (0 : Int))), Prod.fst (Prod.snd (List.getD x_3.2 (Int.toNat r_2) ((0 : Int), (0 : Int), (0 : Int)))), IntKind.wrap IntKind.i64 (Prod.snd (Prod.snd (List.getD x_3.2 (Int.toNat r_2) ((0 : Int), (0 :
  Int), (0 : Int)))) + r_3))) ≤ (1000 : Nat)) ∧ (CqOk g ∧ (0 : Nat) < List.length [(-1 : Int), (1 : Int)]) ∧ ∀ (g_1 : List Int × Int × Int) (r_3 : Int), CqOk g_1 ∧ pickQ [(-1 : Int), (1 : Int)] r_3 → Ty.wf curQ g_1 →
  Ty.wf i64T r_3 → ((0 : Int) ≤ r_2 ∧ r_2 < (↑(List.length x_3.2) : Int)) ∧ CqOk g_1 ∧ List.length (List.set x_3.2 (Int.toNat r_2) (Prod.fst (List.getD x_3.2 (Int.toNat r_2) ((0 : Int), (0 : Int), (0 : Int))), Prod.fst
  (Prod.snd (List.getD x_3.2 (Int.toNat r_2) ((0 : Int), (0 : Int), (0 : Int)))), IntKind.wrap IntKind.i64 (Prod.snd (Prod.snd (List.getD x_3.2 (Int.toNat r_2) ((0 : Int), (0 : Int), (0 : Int)))) + r_3))) ≤ (1000 : Nat))
  ∧ (CqOk g ∧ (0 : Nat) < List.length [(-1 : Int), (1 : Int)]) ∧ ∀ (g_1 : List Int × Int × Int) (r_3 : Int), CqOk g_1 ∧ pickQ [(-1 : Int), (1 : Int)] r_3 → Ty.wf curQ g_1 → Ty.wf i64T r_3 → ((0 : Int) ≤ r_2 ∧ r_2 <
  (↑(List.length x_3.2) : Int)) ∧ ((0 : Int) ≤ r_2 ∧ r_2 < (↑(List.length x_3.2) : Int)) ∧ CqOk g_1 ∧ List.length (List.set x_3.2 (Int.toNat r_2) (Prod.fst (List.getD x_3.2 (Int.toNat r_2) ((0 : Int), (0 : Int), (0 :
  Int))), Prod.fst (Prod.snd (List.getD x_3.2 (Int.toNat r_2) ((0 : Int), (0 : Int), (0 : Int)))), IntKind.wrap IntKind.i64 (Prod.snd (Prod.snd (List.getD x_3.2 (Int.toNat r_2) ((0 : Int), (0 : Int), (0 : Int)))) +
  r_3))) ≤ (1000 : Nat)) ∧ (((0 : Int) ≤ r_2 ∧ r_2 < (↑(List.length x_3.2) : Int)) ∧ (((CqOk g ∧ (0 : Nat) < List.length [(-1 : Int), (1 : Int)]) ∧ ∀ (g_1 : List Int × Int × Int) (r_3 : Int), CqOk g_1 ∧ pickQ [(-1 :
  Int), (1 : Int)] r_3 → Ty.wf curQ g_1 → Ty.wf i64T r_3 → ((0 : Int) ≤ r_2 ∧ r_2 < (↑(List.length x_3.2) : Int)) ∧ CqOk g_1 ∧ List.length (List.set x_3.2 (Int.toNat r_2) (Prod.fst (List.getD x_3.2 (Int.toNat r_2) ((0 :
  Int), (0 : Int), (0 : Int))), Prod.fst (Prod.snd (List.getD x_3.2 (Int.toNat r_2) ((0 : Int), (0 : Int), (0 : Int)))), IntKind.wrap IntKind.i64 (Prod.snd (Prod.snd (List.getD x_3.2 (Int.toNat r_2) ((0 : Int), (0 :
  Int), (0 : Int)))) + r_3))) ≤ (1000 : Nat)) ∧ (CqOk g ∧ (0 : Nat) < List.length [(-1 : Int), (1 : Int)]) ∧ ∀ (g_1 : List Int × Int × Int) (r_3 : Int), CqOk g_1 ∧ pickQ [(-1 : Int), (1 : Int)] r_3 → Ty.wf curQ g_1 →
  Ty.wf i64T r_3 → ((0 : Int) ≤ r_2 ∧ r_2 < (↑(List.length x_3.2) : Int)) ∧ CqOk g_1 ∧ List.length (List.set x_3.2 (Int.toNat r_2) (Prod.fst (List.getD x_3.2 (Int.toNat r_2) ((0 : Int), (0 : Int), (0 : Int))), Prod.fst
  (Prod.snd (List.getD x_3.2 (Int.toNat r_2) ((0 : Int), (0 : Int), (0 : Int)))), IntKind.wrap IntKind.i64 (Prod.snd (Prod.snd (List.getD x_3.2 (Int.toNat r_2) ((0 : Int), (0 : Int), (0 : Int)))) + r_3))) ≤ (1000 : Nat))
  ∧ (((CqOk g ∧ (0 : Nat) < List.length [(-1 : Int), (1 : Int)]) ∧ ∀ (g_1 : List Int × Int × Int) (r_3 : Int), CqOk g_1 ∧ pickQ [(-1 : Int), (1 : Int)] r_3 → Ty.wf curQ g_1 → Ty.wf i64T r_3 → ((0 : Int) ≤ r_2 ∧ r_2 <
  (↑(List.length x_3.2) : Int)) ∧ CqOk g_1 ∧ List.length (List.set x_3.2 (Int.toNat r_2) (Prod.fst (List.getD x_3.2 (Int.toNat r_2) ((0 : Int), (0 : Int), (0 : Int))), Prod.fst (Prod.snd (List.getD x_3.2 (Int.toNat r_2)
  ((0 : Int), (0 : Int), (0 : Int)))), IntKind.wrap IntKind.i64 (Prod.snd (Prod.snd (List.getD x_3.2 (Int.toNat r_2) ((0 : Int), (0 : Int), (0 : Int)))) + r_3))) ≤ (1000 : Nat)) ∧ (CqOk g ∧ (0 : Nat) < List.length [(-1 :
  Int), (1 : Int)]) ∧ ∀ (g_1 : List Int × Int × Int) (r_3 : Int), CqOk g_1 ∧ pickQ [(-1 : Int), (1 : Int)] r_3 → Ty.wf curQ g_1 → Ty.wf i64T r_3 → (((0 : Int) ≤ r_2 ∧ r_2 < (↑(List.length x_3.2) : Int)) ∧ CqOk g_1 ∧
  List.length (List.set x_3.2 (Int.toNat r_2) (Prod.fst (List.getD x_3.2 (Int.toNat r_2) ((0 : Int), (0 : Int), (0 : Int))), Prod.fst (Prod.snd (List.getD x_3.2 (Int.toNat r_2) ((0 : Int), (0 : Int), (0 : Int)))),
  IntKind.wrap IntKind.i64 (Prod.snd (Prod.snd (List.getD x_3.2 (Int.toNat r_2) ((0 : Int), (0 : Int), (0 : Int)))) + r_3))) ≤ (1000 : Nat)) ∧ ((0 : Int) ≤ r_2 ∧ r_2 < (↑(List.length x_3.2) : Int)) ∧ CqOk g_1 ∧
  List.length (List.set x_3.2 (Int.toNat r_2) (Prod.fst (List.getD x_3.2 (Int.toNat r_2) ((0 : Int), (0 : Int), (0 : Int))), Prod.fst (Prod.snd (List.getD x_3.2 (Int.toNat r_2) ((0 : Int), (0 : Int), (0 : Int)))),
  IntKind.wrap IntKind.i64 (Prod.snd (Prod.snd (List.getD x_3.2 (Int.toNat r_2) ((0 : Int), (0 : Int), (0 : Int)))) + r_3))) ≤ (1000 : Nat)) ∧ (CqOk g ∧ (0 : Nat) < List.length [(-1 : Int), (1 : Int)]) ∧ ∀ (g_1 : List
  Int × Int × Int) (r_3 : Int), CqOk g_1 ∧ pickQ [(-1 : Int), (1 : Int)] r_3 → Ty.wf curQ g_1 → Ty.wf i64T r_3 → (((0 : Int) ≤ r_2 ∧ r_2 < (↑(List.length x_3.2) : Int)) ∧ CqOk g_1 ∧ List.length (List.set x_3.2 (Int.toNat
  r_2) (Prod.fst (List.getD x_3.2 (Int.toNat r_2) ((0 : Int), (0 : Int), (0 : Int))), Prod.fst (Prod.snd (List.getD x_3.2 (Int.toNat r_2) ((0 : Int), (0 : Int), (0 : Int)))), IntKind.wrap IntKind.i64 (Prod.snd (Prod.snd
  (List.getD x_3.2 (Int.toNat r_2) ((0 : Int), (0 : Int), (0 : Int)))) + r_3))) ≤ (1000 : Nat)) ∧ (((0 : Int) ≤ r_2 ∧ r_2 < (↑(List.length x_3.2) : Int)) ∧ CqOk g_1 ∧ List.length (List.set x_3.2 (Int.toNat r_2) (Prod.fst
  (List.getD x_3.2 (Int.toNat r_2) ((0 : Int), (0 : Int), (0 : Int))), Prod.fst (Prod.snd (List.getD x_3.2 (Int.toNat r_2) ((0 : Int), (0 : Int), (0 : Int)))), IntKind.wrap IntKind.i64 (Prod.snd (Prod.snd (List.getD
  x_3.2 (Int.toNat r_2) ((0 : Int), (0 : Int), (0 : Int)))) + r_3))) ≤ (1000 : Nat)) ∧ ((0 : Int) ≤ r_2 ∧ r_2 < (↑(List.length x_3.2) : Int)) ∧ CqOk g_1 ∧ List.length (List.set x_3.2 (Int.toNat r_2) (Prod.fst (List.getD
  x_3.2 (Int.toNat r_2) ((0 : Int), (0 : Int), (0 : Int))), Prod.fst (Prod.snd (List.getD x_3.2 (Int.toNat r_2) ((0 : Int), (0 : Int), (0 : Int)))), IntKind.wrap IntKind.i64 (Prod.snd (Prod.snd (List.getD x_3.2
  (Int.toNat r_2) ((0 : Int), (0 : Int), (0 : Int)))) + r_3))) ≤ (1000 : Nat)) ∧ (CqOk g ∧ (0 : Nat) < List.length [(-1 : Int), (1 : Int)]) ∧ ∀ (g_1 : List Int × Int × Int) (r_3 : Int), CqOk g_1 ∧ pickQ [(-1 : Int), (1 :
  Int)] r_3 → Ty.wf curQ g_1 → Ty.wf i64T r_3 → (((0 : Int) ≤ r_2 ∧ r_2 < (↑(List.length x_3.2) : Int)) ∧ ((0 : Int) ≤ r_2 ∧ r_2 < (↑(List.length x_3.2) : Int)) ∧ CqOk g_1 ∧ List.length (List.set x_3.2 (Int.toNat r_2)
  (Prod.fst (List.getD x_3.2 (Int.toNat r_2) ((0 : Int), (0 : Int), (0 : Int))), Prod.fst (Prod.snd (List.getD x_3.2 (Int.toNat r_2) ((0 : Int), (0 : Int), (0 : Int)))), IntKind.wrap IntKind.i64 (Prod.snd (Prod.snd
  (List.getD x_3.2 (Int.toNat r_2) ((0 : Int), (0 : Int), (0 : Int)))) + r_3))) ≤ (1000 : Nat)) ∧ ((0 : Int) ≤ r_2 ∧ r_2 < (↑(List.length x_3.2) : Int)) ∧ (((0 : Int) ≤ r_2 ∧ r_2 < (↑(List.length x_3.2) : Int)) ∧ CqOk
  g_1 ∧ List.length (List.set x_3.2 (Int.toNat r_2) (Prod.fst (List.getD x_3.2 (Int.toNat r_2) ((0 : Int), (0 : Int), (0 : Int))), Prod.fst (Prod.snd (List.getD x_3.2 (Int.toNat r_2) ((0 : Int), (0 : Int), (0 : Int)))),
  IntKind.wrap IntKind.i64 (Prod.snd (Prod.snd (List.getD x_3.2 (Int.toNat r_2) ((0 : Int), (0 : Int), (0 : Int)))) + r_3))) ≤ (1000 : Nat)) ∧ (((0 : Int) ≤ r_2 ∧ r_2 < (↑(List.length x_3.2) : Int)) ∧ CqOk g_1 ∧
  List.length (List.set x_3.2 (Int.toNat r_2) (Prod.fst (List.getD x_3.2 (Int.toNat r_2) ((0 : Int), (0 : Int), (0 : Int))), Prod.fst (Prod.snd (List.getD x_3.2 (Int.toNat r_2) ((0 : Int), (0 : Int), (0 : Int)))),
  IntKind.wrap IntKind.i64 (Prod.snd (Prod.snd (List.getD x_3.2 (Int.toNat r_2) ((0 : Int), (0 : Int), (0 : Int)))) + r_3))) ≤ (1000 : Nat)) ∧ ((0 : Int) ≤ r_2 ∧ r_2 < (↑(List.length x_3.2) : Int)) ∧ CqOk g_1 ∧
  List.length (List.set x_3.2 (Int.toNat r_2) (Prod.fst (List.getD x_3.2 (Int.toNat r_2) ((0 : Int), (0 : Int), (0 : Int))), Prod.fst (Prod.snd (List.getD x_3.2 (Int.toNat r_2) ((0 : Int), (0 : Int), (0 : Int)))),
  IntKind.wrap IntKind.i64 (Prod.snd (Prod.snd (List.getD x_3.2 (Int.toNat r_2) ((0 : Int), (0 : Int), (0 : Int)))) + r_3))) ≤ (1000 : Nat)) ∧ (CqOk g ∧ (0 : Nat) < List.length [(-1 : Int), (1 : Int)]) ∧ ∀ (g_1 : List
  Int × Int × Int) (r_3 : Int), CqOk g_1 ∧ pickQ [(-1 : Int), (1 : Int)] r_3 → Ty.wf curQ g_1 → Ty.wf i64T r_3 → (((0 : Int) ≤ r_2 ∧ r_2 < (↑(List.length x_3.2) : Int)) ∧ ((0 : Int) ≤ r_2 ∧ r_2 < (↑(List.length x_3.2) :
  Int)) ∧ CqOk g_1 ∧ List.length (List.set x_3.2 (Int.toNat r_2) (Prod.fst (List.getD x_3.2 (Int.toNat r_2) ((0 : Int), (0 : Int), (0 : Int))), Prod.fst (Prod.snd (List.getD x_3.2 (Int.toNat r_2) ((0 : Int), (0 : Int),
  (0 : Int)))), IntKind.wrap IntKind.i64 (Prod.snd (Prod.snd (List.getD x_3.2 (Int.toNat r_2) ((0 : Int), (0 : Int), (0 : Int)))) + r_3))) ≤ (1000 : Nat)) ∧ (((0 : Int) ≤ r_2 ∧ r_2 < (↑(List.length x_3.2) : Int)) ∧ ((0 :
  Int) ≤ r_2 ∧ r_2 < (↑(List.length x_3.2) : Int)) ∧ CqOk g_1 ∧ List.length (List.set x_3.2 (Int.toNat r_2) (Prod.fst (List.getD x_3.2 (Int.toNat r_2) ((0 : Int), (0 : Int), (0 : Int))), Prod.fst (Prod.snd (List.getD
  x_3.2 (Int.toNat r_2) ((0 : Int), (0 : Int), (0 : Int)))), IntKind.wrap IntKind.i64 (Prod.snd (Prod.snd (List.getD x_3.2 (Int.toNat r_2) ((0 : Int), (0 : Int), (0 : Int)))) + r_3))) ≤ (1000 : Nat)) ∧ ((0 : Int) ≤ r_2 ∧
  r_2 < (↑(List.length x_3.2) : Int)) ∧ (((0 : Int) ≤ r_2 ∧ r_2 < (↑(List.length x_3.2) : Int)) ∧ CqOk g_1 ∧ List.length (List.set x_3.2 (Int.toNat r_2) (Prod.fst (List.getD x_3.2 (Int.toNat r_2) ((0 : Int), (0 : Int),
  (0 : Int))), Prod.fst (Prod.snd (List.getD x_3.2 (Int.toNat r_2) ((0 : Int), (0 : Int), (0 : Int)))), IntKind.wrap IntKind.i64 (Prod.snd (Prod.snd (List.getD x_3.2 (Int.toNat r_2) ((0 : Int), (0 : Int), (0 : Int)))) +
  r_3))) ≤ (1000 : Nat)) ∧ (((0 : Int) ≤ r_2 ∧ r_2 < (↑(List.length x_3.2) : Int)) ∧ CqOk g_1 ∧ List.length (List.set x_3.2 (Int.toNat r_2) (Prod.fst (List.getD x_3.2 (Int.toNat r_2) ((0 : Int), (0 : Int), (0 : Int))),
  Prod.fst (Prod.snd (List.getD x_3.2 (Int.toNat r_2) ((0 : Int), (0 : Int), (0 : Int)))), IntKind.wrap IntKind.i64 (Prod.snd (Prod.snd (List.getD x_3.2 (Int.toNat r_2) ((0 : Int), (0 : Int), (0 : Int)))) + r_3))) ≤
  (1000 : Nat)) ∧ ((0 : Int) ≤ r_2 ∧ r_2 < (↑(List.length x_3.2) : Int)) ∧ CqOk g_1 ∧ List.length (List.set x_3.2 (Int.toNat r_2) (Prod.fst (List.getD x_3.2 (Int.toNat r_2) ((0 : Int), (0 : Int), (0 : Int))), Prod.fst
  (Prod.snd (List.getD x_3.2 (Int.toNat r_2) ((0 : Int), (0 : Int), (0 : Int)))), IntKind.wrap IntKind.i64 (Prod.snd (Prod.snd (List.getD x_3.2 (Int.toNat r_2) ((0 : Int), (0 : Int), (0 : Int)))) + r_3))) ≤ (1000 : Nat))
  ∧ (decide ((0 : Int) < (↑(List.length x_3.2) : Int)) = false → CqOk g ∧ List.length x_3.2 ≤ (1000 : Nat))) ∧ (decide (r_1 = (2 : Int)) = false → (decide (r_1 = (3 : Int)) = true → (decide ((0 : Int) < (↑(List.length
  x_3.2) : Int)) = true → ((0 : Int) ≤ (1 : Int) ∧ (1 : Int) ≤ (↑(List.length x_3.2) : Int) ∧ (↑(List.length x_3.2) : Int) ≤ (↑(List.length x_3.2) : Int)) ∧ CqOk g ∧ List.length (List.drop (Int.toNat (1 : Int))
  (List.take (Int.toNat (↑(List.length x_3.2) : Int)) x_3.2)) ≤ (1000 : Nat)) ∧ (decide ((0 : Int) < (↑(List.length x_3.2) : Int)) = false → CqOk g ∧ List.length x_3.2 ≤ (1000 : Nat))) ∧ (decide (r_1 = (3 : Int)) = false
  → (decide (r_1 = (4 : Int)) = true → (List.length x_3.2 + List.length [(IntKind.wrap IntKind.i64 (x_2.2.2 - (1 : Int)), (0 : Int), (1 : Int))]) * (24 : Nat) ≤ (140737488355328 : Nat) ∧ CqOk g ∧ List.length (x_3.2 ++
  [(IntKind.wrap IntKind.i64 (x_2.2.2 - (1 : Int)), (0 : Int), (1 : Int))]) ≤ (1000 : Nat)) ∧ (decide (r_1 = (4 : Int)) = false → CqOk g ∧ List.length x_3.2 ≤ (1000 : Nat))))))) ∧ (r = false → CqOk g ∧ List.length x_3.2
  ≤ (1000 : Nat)) := by
  intro d x hd hx hp
  obtain ⟨hc, hlx⟩ := hp
  replace hlx : x.length ≤ 9223372036854775807 := hlx
  simp only [Int.toNat_natCast, exists_const, and_true, true_and, implies_true, decide_eq_true_eq, decide_eq_false_iff_not, Bool.not_eq_true', Bool.not_eq_false', beq_iff_eq, forall_const]
  have hq : (x.length : Int).tdiv 40 = (x.length : Int) / 40 := Int.tdiv_eq_ediv_of_nonneg (by omega)
  have hq2 : IntKind.i64.wrap (1 + IntKind.i64.wrap ((x.length : Int).tdiv 40)) = 1 + (x.length : Int) / 40 := by
    rw [hq, wrap_small (n := (x.length : Int) / 40) (by omega), wrap_small (by omega)]
  refine ⟨hc, fun g f hf _ _ => ⟨by decide, ⟨fun h => ?_, fun h => ?_⟩, fun c1 hc1 => ⟨hc1.1, fun g k hk _ _ => ⟨fun _ => ⟨fun h => ?_, fun h => ?_⟩, fun c2 hc2 => ?_⟩⟩⟩⟩
  · have b1 := hf.2.1
    have b2 := hf.2.2.1 (by omega)
    exact ⟨(g, f, 6), ⟨hf.1, by simp only; omega, by simp only; omega, b1, b2⟩, ⟨rfl, rfl⟩, rfl, rfl, rfl⟩
  · have b1 := hf.2.1
    have b2 := hf.2.2.1 (by omega)
    rw [hq2] at h ⊢
    exact ⟨(g, f, 1 + (x.length : Int) / 40), ⟨hf.1, by simp only; omega, by simp only; omega, b1, b2⟩, ⟨rfl, rfl⟩, rfl, rfl, rfl⟩
  · have b1 := (mod_pos (f := c1.2.1) hc1.2.2.2).2.2.1
    have b2 := hk.2.1
    rw [wrap_small (by omega)] at hk
    have b3 := hk.2.2.1 (by omega)
    exact ⟨(g, c1.2.1, twoF c1.2.1), ⟨hk.1, by simp only; omega, by simp only; omega⟩, ⟨rfl, rfl⟩, rfl, rfl, rfl⟩
  · have b2 := hk.2.1
    rw [wrap_small (by omega)] at hk
    have b3 := hk.2.2.1 (by omega)
    exact ⟨(g, c1.2.1, k), ⟨hk.1, by simp only; omega, by simp only; omega⟩, ⟨rfl, rfl⟩, rfl, rfl, rfl⟩
  · obtain ⟨cc, f, kk⟩ := c2
    obtain ⟨k0, k1, k2⟩ := hc2
    replace k0 : CqOk cc := k0
    replace k1 : 0 ≤ kk := k1
    replace k2 : kk ≤ 6 := k2
    obtain ⟨K, rfl⟩ := Int.eq_ofNat_of_zero_le k1
    obtain ⟨n1, n2, n3⟩ := nK_expr (K := K) (by omega)
    simp only [n1]
    generalize nK (K : Int) = N at *
    refine ⟨⟨⟨by omega, k0, Nat.zero_le _⟩, rfl, fun y hy => ⟨fun hlt => ⟨?_, by decide, ⟨⟨by omega, hy.2.1, Nat.le_refl _⟩, rfl, fun z hz => ⟨fun hzl => ⟨hz.2.1, fun g r hr _ _ => ?_⟩, fun hzg => ⟨(z.2.1, z.2.2), ⟨hz.2.1, ?_⟩, ⟨rfl, rfl, rfl⟩, rfl⟩⟩⟩, fun z hz => ⟨⟨⟨Nat.zero_le _, hz.1⟩, rfl, fun w hw => ⟨fun hwl => ⟨hw.2.1, fun g r hr _ _ => ?_⟩, fun hwg => ⟨(w.2.1, w.2.2), ⟨hw.2.1, ?_⟩, ⟨rfl, rfl, rfl⟩, rfl⟩⟩⟩, fun w hw => ⟨⟨Nat.zero_le _, rfl⟩, rfl, fun u hu => ⟨fun hul => ?_, fun hug => ?_⟩⟩⟩⟩, fun hge => ⟨(y.2.1, y.2.2), ⟨hy.2.1, ?_⟩, ⟨rfl, rfl, rfl⟩, rfl⟩⟩⟩, fun y hy => ⟨hy.1, fun g b hb _ _ => ⟨fun _ => ⟨hb, fun g r hr _ _ => ?_⟩, fun _ => ⟨hb, by have := hy.2; omega⟩⟩⟩⟩
    · rw [u64N (by omega)]; omega
    · have r1 := hr.2.1
      have r2 := hr.2.2.1 (by omega)
      have h3 := hz.2.2
      rw [wrap_small (n := (z.1 : Int) + 1) (by omega), wrap_small (n := (z.1 : Int) + 1 + r) (by omega)]
      refine ⟨fun h => ⟨by rw [List.length_singleton]; omega, (N.toNat, g, z.2.2 ++ [((y.1 : Int), (z.1 : Int), N)]), ⟨?_, hr.1, ?_⟩, ?_, ?_, ⟨rfl, rfl, rfl⟩, rfl⟩, fun h => ⟨by rw [List.length_singleton]; omega, (((z.1 : Int) + 1 + r).toNat, g, _), ⟨?_, hr.1, ?_⟩, ?_, ?_, ⟨rfl, rfl, rfl⟩, rfl⟩⟩
      · show (N.toNat : Int) ≤ N; omega
      · show (z.2.2 ++ [_]).length ≤ N.toNat
        rw [List.length_append, List.length_singleton]; omega
      · show N.toNat - N.toNat < N.toNat - z.1; omega
      · show N = (N.toNat : Int); omega
      · show ((((z.1 : Int) + 1 + r).toNat : Nat) : Int) ≤ N; omega
      · show (z.2.2 ++ [_]).length ≤ ((z.1 : Int) + 1 + r).toNat
        rw [List.length_append, List.length_singleton]; omega
      · show N.toNat - ((z.1 : Int) + 1 + r).toNat < N.toNat - z.1; omega
      · show (z.1 : Int) + 1 + r = (((z.1 : Int) + 1 + r).toNat : Int); omega
    · have h3 := hz.2.2
      have h1 := hz.1
      show z.2.2.length ≤ 64
      omega
    · have r1 := hr.2.1
      have r2 := hr.2.2.1 (by omega)
      have h3 := hw.2.2
      simp only [List.length_set]
      refine ⟨⟨by omega, hwl⟩, ⟨r1, r2⟩, ⟨by omega, hwl⟩, ⟨r1, r2⟩, (w.1 + 1, g, _), ⟨?_, hr.1, ?_⟩, ?_, ?_, ⟨rfl, rfl, rfl⟩, rfl⟩
      · show w.1 + 1 ≤ z.2.length; omega
      · simp only [List.length_set]; exact h3
      · show z.2.length - (w.1 + 1) < z.2.length - w.1; omega
      · have := hz.2
        exact wrap_small (n := (w.1 : Int) + 1) (by omega)
    · have h3 := hw.2.2
      have := hz.2
      show w.2.2.length ≤ 64
      omega
    · have h3 := hu.2
      have h4 := hy.2.2
      have h5 := hw.2
      refine ⟨⟨by omega, hul⟩, by rw [List.length_singleton]; omega, (u.1 + 1, _), ⟨?_, ?_⟩, ?_, ?_, rfl⟩
      · show u.1 + 1 ≤ w.2.length; omega
      · simp only [List.length_append, List.length_singleton]; omega
      · show w.2.length - (u.1 + 1) < w.2.length - u.1; omega
      · exact wrap_small (n := (u.1 : Int) + 1) (by omega)
    · have h3 := hu.2
      have h4 := hy.2.2
      have h5 := hw.2
      have h6 := hu.1
      refine ⟨(y.1 + 1, w.1, u.2), ⟨?_, hw.1, ?_⟩, ?_, ?_, ⟨rfl, rfl, rfl⟩, rfl⟩
      · show ((y.1 + 1 : Nat) : Int) ≤ (K : Int); omega
      · show u.2.length ≤ 64 * (y.1 + 1); omega
      · show (K : Int).toNat - (y.1 + 1) < (K : Int).toNat - y.1; omega
      · exact wrap_small (n := (y.1 : Int) + 1) (by omega)
    · have h4 := hy.2.2
      have h5 := hy.1
      show y.2.2.length ≤ 400
      omega
    · have hl := hy.2
      have hr1 := hr.1
      refine ⟨fun _ => ⟨hr.1, fun g r h _ _ => ⟨h, by omega⟩⟩, fun _ => ⟨fun _ => ⟨⟨hr.1, by simp⟩, fun g r h _ _ => ⟨h.1, by omega⟩⟩, fun _ => ⟨fun _ => ⟨fun hpos => ⟨hr.1, fun g r h _ _ => ?_⟩, fun _ => ⟨hr.1, by omega⟩⟩, fun _ => ⟨fun _ => ⟨fun hpos => ⟨⟨by omega, by omega, by omega⟩, hr.1, ?_⟩, fun _ => ⟨hr.1, by omega⟩⟩, fun _ => ⟨fun _ => ⟨?_, hr.1, ?_⟩, fun _ => ⟨hr.1, by omega⟩⟩⟩⟩⟩⟩
      · have r1 := h.2.1
        have r2 := h.2.2.1 (by omega)
        have hg := h.1
        repeat' first
          | assumption
          | omega
          | exact And.left ‹CqOk _ ∧ _›
          | exact Nat.zero_lt_succ _
          | (simp only [List.length_set]; omega)
          | apply And.intro
          | intro _
      · rw [List.length_drop, List.length_take]; omega
      · rw [List.length_singleton]; omega
      · rw [List.length_append, List.length_singleton]; omega
end Go.SF
