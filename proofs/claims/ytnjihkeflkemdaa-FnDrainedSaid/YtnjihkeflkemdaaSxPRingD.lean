/- Rings drawn: only bounds are told. No condition. -/
import Derived.Test.YtnjihkeflkemdaaSxC
import Derived.Test.YtnjihkeflkemdaaSxPBase
namespace Go.SF
open Go.SX Go
set_option linter.unusedVariables false
set_option linter.unusedSimpArgs false
theorem v_S_l13DrawCostQ :
  ∀ (d : List Int × Int × Int) (x : Unit), Ty.wf curQ d → True → CqOk d → CqOk d ∧ ∀ (g : List Int × Int × Int) (r : Int), CqOk g ∧ belowQ (300 : Int) r → Ty.wf curQ g → Ty.wf i64T r → CqOk g ∧ ∀ (g : List Int × Int ×
  Int) (r_1 : Int), CqOk g ∧ belowQ (300 : Int) r_1 → Ty.wf curQ g → Ty.wf i64T r_1 → CqOk g ∧ ∀ (g : List Int × Int × Int) (r_2 : Int), CqOk g ∧ belowQ (5000 : Int) r_2 → Ty.wf curQ g → Ty.wf i64T r_2 → (CqOk g ∧ (0 :
  Nat) < List.length [(1 : Int), IntKind.wrap IntKind.i64 ((1 : Int) + r), IntKind.wrap IntKind.i64 ((1 : Int) + r_1), IntKind.wrap IntKind.i64 ((1 : Int) + r_2), (200000 : Int)]) ∧ ∀ (g_1 : List Int × Int × Int) (r_3 :
  Int), CqOk g_1 ∧ pickQ [(1 : Int), IntKind.wrap IntKind.i64 ((1 : Int) + r), IntKind.wrap IntKind.i64 ((1 : Int) + r_1), IntKind.wrap IntKind.i64 ((1 : Int) + r_2), (200000 : Int)] r_3 → Ty.wf curQ g_1 → Ty.wf i64T r_3
  → CqOk g_1 := by
  intro d _u hw _t hp
  replace hp : CqOk d := hp
  refine ⟨hp, fun g r hg _ _ => ⟨hg.1, fun g r1 hg _ _ => ⟨hg.1, fun g r2 hg _ _ => ⟨⟨hg.1, by simp⟩, fun g r3 hg _ _ => hg.1⟩⟩⟩⟩
theorem v_S_l13DrawLineQ :
  ∀ (d : List Int × Int × Int) (x : Int), Ty.wf curQ d → Ty.wf i64T x → CqOk d ∧ x ≤ (50 : Int) → (((0 : Nat) ≤ Int.toNat x ∧ CqOk d ∧ (0 : Nat) = (0 : Nat)) ∧ ((x = x ∧ (0 : Int) = (0 : Int) ∧ (0 : Int) = (↑(0 : Nat) :
  Int)) ∧ (d.1 = d.1 ∧ d.2.1 = d.2.1 ∧ d.2.2 = d.2.2) ∧ Value.slice none (0 : Nat) (0 : Nat) = Value.slice none (0 : Nat) (0 : Nat) ∧ ([] : List Tk) = []) ∧ ∀ (x_1 : Nat × (List Int × Int × Int) × List (Int × Int) ×
  Int), x_1.1 ≤ Int.toNat x ∧ CqOk x_1.2.1 ∧ List.length x_1.2.2.1 = x_1.1 → (decide ((↑x_1.1 : Int) < x) = true → CqOk x_1.2.1 ∧ ∀ (g : List Int × Int × Int) (r : Int), CqOk g ∧ belowQ (3 : Int) r → Ty.wf curQ g → Ty.wf
  i64T r → (CqOk g ∧ ∀ (g : List Int × Int × Int) (r_1 : Int), CqOk g → Ty.wf curQ g → Ty.wf i64T r_1 → (List.length x_1.2.2.1 + List.length [(IntKind.wrap IntKind.i64 (IntKind.wrap IntKind.i64 (x_1.2.2.2 + (1 : Int)) +
  r), r_1)]) * (16 : Nat) ≤ (140737488355328 : Nat) ∧ ∃ (x' : Nat × (List Int × Int × Int) × List (Int × Int) × Int), (x'.1 ≤ Int.toNat x ∧ CqOk x'.2.1 ∧ List.length x'.2.2.1 = x'.1) ∧ Int.toNat x - x'.1 < Int.toNat x -
  x_1.1 ∧ (x = x ∧ IntKind.wrap IntKind.i64 (IntKind.wrap IntKind.i64 (x_1.2.2.2 + (1 : Int)) + r) = x'.2.2.2 ∧ IntKind.wrap IntKind.i64 ((↑x_1.1 : Int) + (1 : Int)) = (↑x'.1 : Int)) ∧ (g.1 = x'.2.1.1 ∧ g.2.1 =
  x'.2.1.2.1 ∧ g.2.2 = x'.2.1.2.2) ∧ Value.slice none (0 : Nat) (0 : Nat) = Value.slice none (0 : Nat) (0 : Nat) ∧ x_1.2.2.1 ++ [(IntKind.wrap IntKind.i64 (IntKind.wrap IntKind.i64 (x_1.2.2.2 + (1 : Int)) + r), r_1)] =
  x'.2.2.1) ∧ CqOk g ∧ ∀ (g : List Int × Int × Int) (r_1 : Int), CqOk g → Ty.wf curQ g → Ty.wf i64T r_1 → ((List.length x_1.2.2.1 + List.length [(IntKind.wrap IntKind.i64 (IntKind.wrap IntKind.i64 (x_1.2.2.2 + (1 : Int))
  + r), r_1)]) * (16 : Nat) ≤ (140737488355328 : Nat) ∧ ∃ (x' : Nat × (List Int × Int × Int) × List (Int × Int) × Int), (x'.1 ≤ Int.toNat x ∧ CqOk x'.2.1 ∧ List.length x'.2.2.1 = x'.1) ∧ Int.toNat x - x'.1 < Int.toNat x
  - x_1.1 ∧ (x = x ∧ IntKind.wrap IntKind.i64 (IntKind.wrap IntKind.i64 (x_1.2.2.2 + (1 : Int)) + r) = x'.2.2.2 ∧ IntKind.wrap IntKind.i64 ((↑x_1.1 : Int) + (1 : Int)) = (↑x'.1 : Int)) ∧ (g.1 = x'.2.1.1 ∧ g.2.1 =
  x'.2.1.2.1 ∧ g.2.2 = x'.2.1.2.2) ∧ Value.slice none (0 : Nat) (0 : Nat) = Value.slice none (0 : Nat) (0 : Nat) ∧ x_1.2.2.1 ++ [(IntKind.wrap IntKind.i64 (IntKind.wrap IntKind.i64 (x_1.2.2.2 + (1 : Int)) + r), r_1)] =
  x'.2.2.1) ∧ ((List.length x_1.2.2.1 + List.length [(IntKind.wrap IntKind.i64 (IntKind.wrap IntKind.i64 (x_1.2.2.2 + (1 : Int)) + r), r_1)]) * (16 : Nat) ≤ (140737488355328 : Nat) ∧ ∃ (x' : Nat × (List Int × Int × Int)
  × List (Int × Int) × Int), (x'.1 ≤ Int.toNat x ∧ CqOk x'.2.1 ∧ List.length x'.2.2.1 = x'.1) ∧ Int.toNat x - x'.1 < Int.toNat x - x_1.1 ∧ (x = x ∧ IntKind.wrap IntKind.i64 (IntKind.wrap IntKind.i64 (x_1.2.2.2 + (1 :
  Int)) + r) = x'.2.2.2 ∧ IntKind.wrap IntKind.i64 ((↑x_1.1 : Int) + (1 : Int)) = (↑x'.1 : Int)) ∧ (g.1 = x'.2.1.1 ∧ g.2.1 = x'.2.1.2.1 ∧ g.2.2 = x'.2.1.2.2) ∧ Value.slice none (0 : Nat) (0 : Nat) = Value.slice none (0 :
  Nat) (0 : Nat) ∧ x_1.2.2.1 ++ [(IntKind.wrap IntKind.i64 (IntKind.wrap IntKind.i64 (x_1.2.2.2 + (1 : Int)) + r), r_1)] = x'.2.2.1) ∧ (List.length x_1.2.2.1 + List.length [(IntKind.wrap IntKind.i64 (IntKind.wrap
  IntKind.i64 (x_1.2.2.2 + (1 : Int)) + r), r_1)]) * (16 : Nat) ≤ (140737488355328 : Nat) ∧ ∃ (x' : Nat × (List Int × Int × Int) × List (Int × Int) × Int), (x'.1 ≤ Int.toNat x ∧ CqOk x'.2.1 ∧ List.length x'.2.2.1 = x'.1)
  ∧ Int.toNat x - x'.1 < Int.toNat x - x_1.1 ∧ (x = x ∧ IntKind.wrap IntKind.i64 (IntKind.wrap IntKind.i64 (x_1.2.2.2 + (1 : Int)) + r) = x'.2.2.2 ∧ IntKind.wrap IntKind.i64 ((↑x_1.1 : Int) + (1 : Int)) = (↑x'.1 : Int))
  ∧ (g.1 = x'.2.1.1 ∧ g.2.1 = x'.2.1.2.1 ∧ g.2.2 = x'.2.1.2.2) ∧ Value.slice none (0 : Nat) (0 : Nat) = Value.slice none (0 : Nat) (0 : Nat) ∧ x_1.2.2.1 ++ [(IntKind.wrap IntKind.i64 (IntKind.wrap IntKind.i64 (x_1.2.2.2
  + (1 : Int)) + r), r_1)] = x'.2.2.1) ∧ (decide ((↑x_1.1 : Int) < x) = false → ∃ (x' : (List Int × Int × Int) × List (Int × Int) × Int), (CqOk x'.1 ∧ List.length x'.2.1 = Int.toNat x) ∧ (x = x ∧ x_1.2.2.2 = x'.2.2) ∧
  (x_1.2.1.1 = x'.1.1 ∧ x_1.2.1.2.1 = x'.1.2.1 ∧ x_1.2.1.2.2 = x'.1.2.2) ∧ Value.slice none (0 : Nat) (0 : Nat) = Value.slice none (0 : Nat) (0 : Nat) ∧ x_1.2.2.1 = x'.2.1)) ∧ ∀ (x_1 : (List Int × Int × Int) × List (Int
  × Int) × Int), CqOk x_1.1 ∧ List.length x_1.2.1 = Int.toNat x → (CqOk x_1.1 ∧ ∀ (g : List Int × Int × Int) (r : Bool), CqOk g → Ty.wf curQ g → Ty.wf Ty.bool r → (r = true → (decide ((0 : Int) < x) = true → CqOk g ∧ ∀
  (g : List Int × Int × Int) (r_1 : Int), CqOk g ∧ belowQ x r_1 → Ty.wf curQ g → Ty.wf i64T r_1 → CqOk g ∧ ∀ (g : List Int × Int × Int) (r_2 : Int), CqOk g ∧ belowQ (3 : Int) r_2 → Ty.wf curQ g → Ty.wf i64T r_2 → (decide
  (r_2 = (0 : Int)) = true → ((CqOk g ∧ (0 : Nat) < List.length [(0 : Int), (-1 : Int), (1000000000 : Int), (1000000001 : Int), (2 : Int)]) ∧ ∀ (g_1 : List Int × Int × Int) (r_3 : Int), CqOk g_1 ∧ pickQ [(0 : Int), (-1 :
  Int), (1000000000 : Int), (1000000001 : Int), (2 : Int)] r_3 → Ty.wf curQ g_1 → Ty.wf i64T r_3 → ((0 : Int) ≤ r_1 ∧ r_1 < (↑(List.length x_1.2.1) : Int)) ∧ ∃ (x' : (List Int × Int × Int) × List (Int × Int)), (CqOk x'.1
  ∧ lineQ x'.2) ∧ x = x ∧ (g_1.1 = x'.1.1 ∧ g_1.2.1 = x'.1.2.1 ∧ g_1.2.2 = x'.1.2.2) ∧ Value.slice none (0 : Nat) (0 : Nat) = Value.slice none (0 : Nat) (0 : Nat) ∧ List.set x_1.2.1 (Int.toNat r_1) (r_3, Prod.snd
  (List.getD x_1.2.1 (Int.toNat r_1) ((0 : Int), (0 : Int)))) = x'.2) ∧ ((CqOk g ∧ (0 : Nat) < List.length [(0 : Int), (-1 : Int), (1000000000 : Int), (1000000001 : Int), (2 : Int)]) ∧ ∀ (g_1 : List Int × Int × Int) (r_3
  : Int), CqOk g_1 ∧ pickQ [(0 : Int), (-1 : Int), (1000000000 : Int), (1000000001 : Int), (2 : Int)] r_3 → Ty.wf curQ g_1 → Ty.wf i64T r_3 → ((0 : Int) ≤ r_1 ∧ r_1 < (↑(List.length x_1.2.1) : Int)) ∧ ∃ (x' : (List Int ×
  Int × Int) × List (Int × Int)), (CqOk x'.1 ∧ lineQ x'.2) ∧ x = x ∧ (g_1.1 = x'.1.1 ∧ g_1.2.1 = x'.1.2.1 ∧ g_1.2.2 = x'.1.2.2) ∧ Value.slice none (0 : Nat) (0 : Nat) = Value.slice none (0 : Nat) (0 : Nat) ∧ List.set
  x_1.2.1 (Int.toNat r_1) (r_3, Prod.snd (List.getD x_1.2.1 (Int.toNat r_1) ((0 : Int), (0 : Int)))) = x'.2) ∧ (CqOk g ∧ (0 : Nat) < List.length [(0 : Int), (-1 : Int), (1000000000 : Int), (1000000001 : Int), (2 : Int)])
  ∧ ∀ (g_1 : List Int × Int × Int) (r_3 : Int), CqOk g_1 ∧ pickQ [(0 : Int), (-1 : Int), (1000000000 : Int), (1000000001 : Int), (2 : Int)] r_3 → Ty.wf curQ g_1 → Ty.wf i64T r_3 → ((0 : Int) ≤ r_1 ∧ r_1 < (↑(List.length
  x_1.2.1) : Int)) ∧ ∃ (x' : (List Int × Int × Int) × List (Int × Int)), (CqOk x'.1 ∧ lineQ x'.2) ∧ x = x ∧ (g_1.1 = x'.1.1 ∧ g_1.2.1 = x'.1.2.1 ∧ g_1.2.2 = x'.1.2.2) ∧ Value.slice none (0 : Nat) (0 : Nat) = Value.slice
  none (0 : Nat) (0 : Nat) ∧ List.set x_1.2.1 (Int.toNat r_1) (r_3, Prod.snd (List.getD x_1.2.1 (Int.toNat r_1) ((0 : Int), (0 : Int)))) = x'.2) ∧ (decide (r_2 = (0 : Int)) = false → (decide (r_2 = (1 : Int)) = true →
  ((CqOk g ∧ (0 : Nat) < List.length [(0 : Int), (200001 : Int)]) ∧ ∀ (g_1 : List Int × Int × Int) (r_3 : Int), CqOk g_1 ∧ pickQ [(0 : Int), (200001 : Int)] r_3 → Ty.wf curQ g_1 → Ty.wf i64T r_3 → ((0 : Int) ≤ r_1 ∧ r_1
  < (↑(List.length x_1.2.1) : Int)) ∧ ∃ (x' : (List Int × Int × Int) × List (Int × Int)), (CqOk x'.1 ∧ lineQ x'.2) ∧ x = x ∧ (g_1.1 = x'.1.1 ∧ g_1.2.1 = x'.1.2.1 ∧ g_1.2.2 = x'.1.2.2) ∧ Value.slice none (0 : Nat) (0 :
  Nat) = Value.slice none (0 : Nat) (0 : Nat) ∧ List.set x_1.2.1 (Int.toNat r_1) (Prod.fst (List.getD x_1.2.1 (Int.toNat r_1) ((0 : Int), (0 : Int))), r_3) = x'.2) ∧ ((CqOk g ∧ (0 : Nat) < List.length [(0 : Int), (200001
  : Int)]) ∧ ∀ (g_1 : List Int × Int × Int) (r_3 : Int), CqOk g_1 ∧ pickQ [(0 : Int), (200001 : Int)] r_3 → Ty.wf curQ g_1 → Ty.wf i64T r_3 → ((0 : Int) ≤ r_1 ∧ r_1 < (↑(List.length x_1.2.1) : Int)) ∧ ∃ (x' : (List Int ×
  Int × Int) × List (Int × Int)), (CqOk x'.1 ∧ lineQ x'.2) ∧ x = x ∧ (g_1.1 = x'.1.1 ∧ g_1.2.1 = x'.1.2.1 ∧ g_1.2.2 = x'.1.2.2) ∧ Value.slice none (0 : Nat) (0 : Nat) = Value.slice none (0 : Nat) (0 : Nat) ∧ List.set
  x_1.2.1 (Int.toNat r_1) (Prod.fst (List.getD x_1.2.1 (Int.toNat r_1) ((0 : Int), (0 : Int))), r_3) = x'.2) ∧ (CqOk g ∧ (0 : Nat) < List.length [(0 : Int), (200001 : Int)]) ∧ ∀ (g_1 : List Int × Int × Int) (r_3 : Int),
  CqOk g_1 ∧ pickQ [(0 : Int), (200001 : Int)] r_3 → Ty.wf curQ g_1 → Ty.wf i64T r_3 → ((0 : Int) ≤ r_1 ∧ r_1 < (↑(List.length x_1.2.1) : Int)) ∧ ∃ (x' : (List Int × Int × Int) × List (Int × Int)), (CqOk x'.1 ∧ lineQ
  x'.2) ∧ x = x ∧ (g_1.1 = x'.1.1 ∧ g_1.2.1 = x'.1.2.1 ∧ g_1.2.2 = x'.1.2.2) ∧ Value.slice none (0 : Nat) (0 : Nat) = Value.slice none (0 : Nat) (0 : Nat) ∧ List.set x_1.2.1 (Int.toNat r_1) (Prod.fst (List.getD x_1.2.1
  (Int.toNat r_1) ((0 : Int), (0 : Int))), r_3) = x'.2) ∧ (decide (r_2 = (1 : Int)) = false → (decide (r_2 = (2 : Int)) = true → lineQ x_1.2.1 ∧ ((x = x ∧ x_1.2.2 = x_1.2.2) ∧ (g.1 = g.1 ∧ g.2.1 = g.2.1 ∧ g.2.2 = g.2.2)
  ∧ Value.slice none (0 : Nat) (0 : Nat) = Value.slice none (0 : Nat) (0 : Nat) ∧ x_1.2.1 = x_1.2.1) ∧ ∀ (x_2 : List (Int × Int) × Int), lineQ x_2.1 → (decide ((↑(List.length x_2.1) : Int) < (41 : Int)) = true →
  (List.length x_2.1 + List.length [(IntKind.wrap IntKind.i64 (x_2.2 + (1 : Int)), (1 : Int))]) * (16 : Nat) ≤ (140737488355328 : Nat) ∧ ∃ (x' : List (Int × Int) × Int), lineQ x'.1 ∧ (42 : Nat) - List.length x'.1 < (42 :
  Nat) - List.length x_2.1 ∧ (x = x ∧ IntKind.wrap IntKind.i64 (x_2.2 + (1 : Int)) = x'.2) ∧ (g.1 = g.1 ∧ g.2.1 = g.2.1 ∧ g.2.2 = g.2.2) ∧ Value.slice none (0 : Nat) (0 : Nat) = Value.slice none (0 : Nat) (0 : Nat) ∧
  x_2.1 ++ [(IntKind.wrap IntKind.i64 (x_2.2 + (1 : Int)), (1 : Int))] = x'.1) ∧ (decide ((↑(List.length x_2.1) : Int) < (41 : Int)) = false → ∃ (x' : (List Int × Int × Int) × List (Int × Int)), (CqOk x'.1 ∧ lineQ x'.2)
  ∧ x = x ∧ (g.1 = x'.1.1 ∧ g.2.1 = x'.1.2.1 ∧ g.2.2 = x'.1.2.2) ∧ Value.slice none (0 : Nat) (0 : Nat) = Value.slice none (0 : Nat) (0 : Nat) ∧ x_2.1 = x'.2)) ∧ (decide (r_2 = (2 : Int)) = false → ∃ (x' : (List Int ×
  Int × Int) × List (Int × Int)), (CqOk x'.1 ∧ lineQ x'.2) ∧ x = x ∧ (g.1 = x'.1.1 ∧ g.2.1 = x'.1.2.1 ∧ g.2.2 = x'.1.2.2) ∧ Value.slice none (0 : Nat) (0 : Nat) = Value.slice none (0 : Nat) (0 : Nat) ∧ x_1.2.1 = x'.2))))
  ∧ (decide ((0 : Int) < x) = false → ∃ (x' : (List Int × Int × Int) × List (Int × Int)), (CqOk x'.1 ∧ lineQ x'.2) ∧ x = x ∧ (g.1 = x'.1.1 ∧ g.2.1 = x'.1.2.1 ∧ g.2.2 = x'.1.2.2) ∧ Value.slice none (0 : Nat) (0 : Nat) =
  Value.slice none (0 : Nat) (0 : Nat) ∧ x_1.2.1 = x'.2)) ∧ (r = false → ∃ (x' : (List Int × Int × Int) × List (Int × Int)), (CqOk x'.1 ∧ lineQ x'.2) ∧ x = x ∧ (g.1 = x'.1.1 ∧ g.2.1 = x'.1.2.1 ∧ g.2.2 = x'.1.2.2) ∧
  Value.slice none (0 : Nat) (0 : Nat) = Value.slice none (0 : Nat) (0 : Nat) ∧ x_1.2.1 = x'.2)) ∧ ∀ (x : (List Int × Int × Int) × List (Int × Int)), CqOk x.1 ∧ lineQ x.2 → CqOk x.1 ∧ lineQ x.2 := by
  intro d n hd hn hp
  obtain ⟨hc, hn1⟩ := hp
  replace hn : i64T.wf n := hn
  have hn1 : n ≤ 50 := hn1
  simp only [Int.toNat_natCast, exists_const, and_true, true_and, implies_true, decide_eq_true_eq, decide_eq_false_iff_not, Bool.not_eq_true', Bool.not_eq_false', beq_iff_eq, forall_const]
  refine ⟨⟨⟨by omega, hc⟩, rfl, ?_⟩, ?_⟩
  · intro x ⟨h1, h2, h3⟩
    refine ⟨fun hlt => ⟨h2, fun g r hg _ _ => ?_⟩, fun hge => ⟨(x.2.1, x.2.2.1, x.2.2.2), ⟨h2, by show x.2.2.1.length = n.toNat; omega⟩, rfl, ⟨rfl, rfl, rfl⟩, rfl⟩⟩
    have E : ∀ (g : CurQ) (c : Int), CqOk g → (x.2.2.1.length + [(IntKind.i64.wrap (IntKind.i64.wrap (x.2.2.2 + 1) + r), c)].length) * 16 ≤ 140737488355328 ∧ ∃ x' : Nat × CurQ × List Tk × Int, (x'.1 ≤ n.toNat ∧ CqOk x'.2.1 ∧ x'.2.2.1.length = x'.1) ∧ n.toNat - x'.1 < n.toNat - x.1 ∧ (IntKind.i64.wrap (IntKind.i64.wrap (x.2.2.2 + 1) + r) = x'.2.2.2 ∧ IntKind.i64.wrap ((x.1 : Int) + 1) = (x'.1 : Int)) ∧ (g.1 = x'.2.1.1 ∧ g.2.1 = x'.2.1.2.1 ∧ g.2.2 = x'.2.1.2.2) ∧ x.2.2.1 ++ [(IntKind.i64.wrap (IntKind.i64.wrap (x.2.2.2 + 1) + r), c)] = x'.2.2.1 := by
      intro g c hg
      refine ⟨by simp only [List.length_singleton]; omega, (x.1 + 1, g, _, _), ⟨by simp only; omega, hg, ?_⟩, by simp only; omega, ⟨rfl, ?_⟩, ⟨rfl, rfl, rfl⟩, rfl⟩
      · simp only [List.length_append, List.length_singleton, h3]
      · rw [wrap_small (by omega)]; rfl
    exact ⟨⟨hg.1, fun g c hg _ _ => E g c hg⟩, hg.1, fun g c hg _ _ => ⟨E g c hg, E g c hg, E g c hg⟩⟩
  · intro x ⟨h1, h2⟩
    refine ⟨⟨h1, fun g r hg _ _ => ⟨fun _ => ⟨fun hp => ⟨hg, fun g k hk _ _ => ⟨hk.1, fun g c hc _ _ => ?_⟩⟩, fun _ => ⟨(g, x.2.1), ⟨hg, ?_⟩, ⟨rfl, rfl, rfl⟩, rfl⟩⟩, fun _ => ⟨(g, x.2.1), ⟨hg, ?_⟩, ⟨rfl, rfl, rfl⟩, rfl⟩⟩⟩, fun y hy => hy⟩
    · have hk3 := hk.2.1
      have hk4 := hk.2.2.1 hp
      have E : ∀ (g : CurQ) (l : List Tk), CqOk g → l.length = n.toNat → ((0 : Int) ≤ k ∧ k < (x.2.1.length : Int)) ∧ ∃ x' : CurQ × List Tk, (CqOk x'.1 ∧ lineQ x'.2) ∧ (g.1 = x'.1.1 ∧ g.2.1 = x'.1.2.1 ∧ g.2.2 = x'.1.2.2) ∧ l = x'.2 := fun g l hg hl =>
        ⟨⟨hk3, by omega⟩, (g, l), ⟨hg, by unfold lineQ; simp only; omega⟩, ⟨rfl, rfl, rfl⟩, rfl⟩
      have F : ∀ (g : CurQ) (v : Tk), CqOk g → ((0 : Int) ≤ k ∧ k < (x.2.1.length : Int)) ∧ ∃ x' : CurQ × List Tk, (CqOk x'.1 ∧ lineQ x'.2) ∧ (g.1 = x'.1.1 ∧ g.2.1 = x'.1.2.1 ∧ g.2.2 = x'.1.2.2) ∧ x.2.1.set k.toNat v = x'.2 := fun g v hg =>
        E g _ hg (by rw [List.length_set]; exact h2)
      refine ⟨fun _ => ⟨⟨⟨hc.1, by simp⟩, fun g3 r3 h3 _ _ => F g3 _ h3.1⟩, ⟨⟨hc.1, by simp⟩, fun g3 r3 h3 _ _ => F g3 _ h3.1⟩, ⟨hc.1, by simp⟩, fun g3 r3 h3 _ _ => F g3 _ h3.1⟩, fun _ => ⟨fun _ => ⟨⟨⟨hc.1, by simp⟩, fun g3 r3 h3 _ _ => F g3 _ h3.1⟩, ⟨⟨hc.1, by simp⟩, fun g3 r3 h3 _ _ => F g3 _ h3.1⟩, ⟨hc.1, by simp⟩, fun g3 r3 h3 _ _ => F g3 _ h3.1⟩, fun _ => ⟨fun _ => ⟨?_, fun y hy => ⟨fun hlt => ?_, fun _ => ⟨(g, y.1), ⟨hc.1, hy⟩, ⟨rfl, rfl, rfl⟩, rfl⟩⟩⟩, fun _ => ⟨(g, x.2.1), ⟨hc.1, ?_⟩, ⟨rfl, rfl, rfl⟩, rfl⟩⟩⟩⟩
      · unfold lineQ; omega
      · unfold lineQ at hy
        refine ⟨by simp only [List.length_singleton]; omega, (_, _), ?_, ?_, rfl, rfl⟩
        · unfold lineQ; simp only [List.length_append, List.length_singleton]; omega
        · simp only [List.length_append, List.length_singleton]; omega
      · unfold lineQ; simp only; omega
    · unfold lineQ; simp only; omega
    · unfold lineQ; simp only; omega
theorem v_S_l14DrawOneQ :
  ∀ (x : List Int), Ty.wf (Ty.sl (Ty.int IntKind.u8)) x → List.length x ≤ (9223372036854775807 : Nat) → List.length x ≤ (9223372036854775807 : Nat) ∧ ∀ (g : List Int × Int × Int) (r : Unit), CqOk g → Ty.wf curQ g → True
  → True ∧ ∀ (r : Int), sizeQ (8 : Int) r → Ty.wf i64T r → CqOk g ∧ ∀ (g : List Int × Int × Int) (r_1 : Int), CqOk g ∧ belowQ r r_1 → Ty.wf curQ g → Ty.wf i64T r_1 → (CqOk g ∧ r_1 ≤ (50 : Int)) ∧ ∀ (g : List Int × Int ×
  Int) (r : List (Int × Int × Int × List (Int × Int)) × Int × Bool), CqOk g ∧ flowsQ r.1 → Ty.wf curQ g → Ty.wf ringT r → CqOk g ∧ flowsQ r.1 := by
  intro d hd hp
  simp only [Int.toNat_natCast, exists_const, and_true, true_and, implies_true, decide_eq_true_eq, decide_eq_false_iff_not, Bool.not_eq_true', Bool.not_eq_false', beq_iff_eq, forall_const]
  refine ⟨hp, fun g hg _ r hr _ => ⟨hg, fun g k hk _ _ => ⟨⟨hk.1, ?_⟩, fun g2 r2 h2 _ _ => h2⟩⟩⟩
  have := hk.2.2.1
  have := hk.2.2.2
  unfold sizeQ at hr
  omega
theorem v_S_DrawDrainRingQ :
  ∀ (d : List Int), Ty.wf (Ty.sl (Ty.int IntKind.u8)) d → List.length d ≤ (9223372036854775807 : Nat) → List.length d ≤ (9223372036854775807 : Nat) ∧ ∀ (g : List Int × Int × Int) (r : List (Int × Int × Int × List (Int ×
  Int)) × Int × Bool), CqOk g ∧ flowsQ r.1 → Ty.wf curQ g → Ty.wf ringT r → (CqOk g ∧ ∀ (g : List Int × Int × Int) (r_1 : Int), CqOk g ∧ belowQ (20 : Int) r_1 → Ty.wf curQ g → Ty.wf i64T r_1 → (CqOk g ∧ (0 : Nat) <
  List.length [(0 : Int), (-1 : Int), (1 : Int), (5 : Int), (1000 : Int), (9223372036854775807 : Int), r_1]) ∧ ∀ (g_1 : List Int × Int × Int) (r_2 : Int), CqOk g_1 ∧ pickQ [(0 : Int), (-1 : Int), (1 : Int), (5 : Int),
  (1000 : Int), (9223372036854775807 : Int), r_1] r_2 → Ty.wf curQ g_1 → Ty.wf i64T r_2 → flowsQ r.1) ∧ CqOk g ∧ ∀ (g : List Int × Int × Int) (r_1 : Int), CqOk g ∧ belowQ (20 : Int) r_1 → Ty.wf curQ g → Ty.wf i64T r_1 →
  ((CqOk g ∧ (0 : Nat) < List.length [(0 : Int), (-1 : Int), (1 : Int), (5 : Int), (1000 : Int), (9223372036854775807 : Int), r_1]) ∧ ∀ (g_1 : List Int × Int × Int) (r_2 : Int), CqOk g_1 ∧ pickQ [(0 : Int), (-1 : Int),
  (1 : Int), (5 : Int), (1000 : Int), (9223372036854775807 : Int), r_1] r_2 → Ty.wf curQ g_1 → Ty.wf i64T r_2 → flowsQ r.1) ∧ ((CqOk g ∧ (0 : Nat) < List.length [(0 : Int), (-1 : Int), (1 : Int), (5 : Int), (1000 : Int),
  (9223372036854775807 : Int), r_1]) ∧ ∀ (g_1 : List Int × Int × Int) (r_2 : Int), CqOk g_1 ∧ pickQ [(0 : Int), (-1 : Int), (1 : Int), (5 : Int), (1000 : Int), (9223372036854775807 : Int), r_1] r_2 → Ty.wf curQ g_1 →
  Ty.wf i64T r_2 → flowsQ r.1) ∧ (CqOk g ∧ (0 : Nat) < List.length [(0 : Int), (-1 : Int), (1 : Int), (5 : Int), (1000 : Int), (9223372036854775807 : Int), r_1]) ∧ ∀ (g_1 : List Int × Int × Int) (r_2 : Int), CqOk g_1 ∧
  pickQ [(0 : Int), (-1 : Int), (1 : Int), (5 : Int), (1000 : Int), (9223372036854775807 : Int), r_1] r_2 → Ty.wf curQ g_1 → Ty.wf i64T r_2 → flowsQ r.1 := by
  intro d hd hp
  refine ⟨hp, fun g r hg _ _ => ?_⟩
  exact ⟨⟨hg.1, fun g k hk _ _ => ⟨⟨hk.1, by simp⟩, fun g2 r2 h2 _ _ => hg.2⟩⟩, hg.1, fun g k hk _ _ => ⟨⟨⟨hk.1, by simp⟩, fun g2 r2 h2 _ _ => hg.2⟩, ⟨⟨hk.1, by simp⟩, fun g2 r2 h2 _ _ => hg.2⟩, ⟨hk.1, by simp⟩, fun g2 r2 h2 _ _ => hg.2⟩⟩
theorem tk_snoc {α : Type} {xs : List α} {x : Nat} {z : α} (h : x < xs.length) : xs.take x ++ [xs.getD x z] = xs.take (x + 1) := by
  rw [List.take_succ_eq_append_getElem h]; simp [h]
theorem v_L_cpRing :
  ∀ (d : List (Int × Int × Int × List (Int × Int)) × Int × Bool), Ty.wf ringT d → FlsP d.1 → (0 : Nat) ≤ List.length d.1 ∧ (((d.1 = d.1 ∧ d.2.1 = d.2.1 ∧ d.2.2 = d.2.2) ∧ (0 : Int) = (↑(0 : Nat) : Int)) ∧ (d.1 = d.1 ∧
  d.2.1 = d.2.1 ∧ d.2.2 = d.2.2) ∧ (Value.slice none (0 : Nat) (0 : Nat) = Value.slice none (0 : Nat) (0 : Nat) ∧ (0 : Int) = (0 : Int)) ∧ (d.2.1 = d.2.1 ∧ d.2.2 = d.2.2) ∧ List.take (0 : Nat) d.1 = []) ∧ ∀ (x : Nat), x
  ≤ List.length d.1 → (decide ((↑x : Int) < (↑(List.length d.1) : Int)) = true → ((0 : Int) ≤ (↑x : Int) ∧ (↑x : Int) < (↑(List.length d.1) : Int)) ∧ (0 : Nat) ≤ List.length (Prod.snd (Prod.snd (Prod.snd (List.getD d.1 x
  fl0)))) ∧ (((d.1 = d.1 ∧ d.2.1 = d.2.1 ∧ d.2.2 = d.2.2) ∧ (↑x : Int) = (↑x : Int) ∧ (0 : Int) = (↑(0 : Nat) : Int)) ∧ (d.1 = d.1 ∧ d.2.1 = d.2.1 ∧ d.2.2 = d.2.2) ∧ (Value.slice none (0 : Nat) (0 : Nat) = Value.slice
  none (0 : Nat) (0 : Nat) ∧ (0 : Int) = (0 : Int)) ∧ (d.2.1 = d.2.1 ∧ d.2.2 = d.2.2) ∧ List.take x d.1 = List.take x d.1 ∧ (Prod.fst (List.getD d.1 (Int.toNat (↑x : Int)) ((0 : Int), (0 : Int), (0 : Int), [])) =
  Prod.fst (List.getD d.1 x fl0) ∧ Prod.fst (Prod.snd (List.getD d.1 (Int.toNat (↑x : Int)) ((0 : Int), (0 : Int), (0 : Int), []))) = Prod.fst (Prod.snd (List.getD d.1 x fl0)) ∧ Prod.fst (Prod.snd (Prod.snd (List.getD
  d.1 (Int.toNat (↑x : Int)) ((0 : Int), (0 : Int), (0 : Int), [])))) = Prod.fst (Prod.snd (Prod.snd (List.getD d.1 x fl0)))) ∧ List.take (0 : Nat) (Prod.snd (Prod.snd (Prod.snd (List.getD d.1 x fl0)))) = []) ∧ ∀ (x_1 :
  Nat), x_1 ≤ List.length (Prod.snd (Prod.snd (Prod.snd (List.getD d.1 x fl0)))) → ((0 : Int) ≤ (↑x : Int) ∧ (↑x : Int) < (↑(List.length d.1) : Int)) ∧ (decide ((↑x_1 : Int) < (↑(List.length (Prod.snd (Prod.snd (Prod.snd
  (List.getD d.1 (Int.toNat (↑x : Int)) ((0 : Int), (0 : Int), (0 : Int), [])))))) : Int)) = true → ((0 : Int) ≤ (↑x : Int) ∧ (↑x : Int) < (↑(List.length d.1) : Int)) ∧ ((0 : Int) ≤ (↑x_1 : Int) ∧ (↑x_1 : Int) <
  (↑(List.length (Prod.snd (Prod.snd (Prod.snd (List.getD d.1 (Int.toNat (↑x : Int)) ((0 : Int), (0 : Int), (0 : Int), [])))))) : Int)) ∧ (List.length (List.take x_1 (Prod.snd (Prod.snd (Prod.snd (List.getD d.1 x
  fl0))))) + List.length [List.getD (Prod.snd (Prod.snd (Prod.snd (List.getD d.1 (Int.toNat (↑x : Int)) ((0 : Int), (0 : Int), (0 : Int), []))))) (Int.toNat (↑x_1 : Int)) ((0 : Int), (0 : Int))]) * (16 : Nat) ≤
  (140737488355328 : Nat) ∧ ∃ (x' : Nat), x' ≤ List.length (Prod.snd (Prod.snd (Prod.snd (List.getD d.1 x fl0)))) ∧ List.length (Prod.snd (Prod.snd (Prod.snd (List.getD d.1 x fl0)))) - x' < List.length (Prod.snd
  (Prod.snd (Prod.snd (List.getD d.1 x fl0)))) - x_1 ∧ ((d.1 = d.1 ∧ d.2.1 = d.2.1 ∧ d.2.2 = d.2.2) ∧ (↑x : Int) = (↑x : Int) ∧ IntKind.wrap IntKind.i64 ((↑x_1 : Int) + (1 : Int)) = (↑x' : Int)) ∧ (d.1 = d.1 ∧ d.2.1 =
  d.2.1 ∧ d.2.2 = d.2.2) ∧ (Value.slice none (0 : Nat) (0 : Nat) = Value.slice none (0 : Nat) (0 : Nat) ∧ (0 : Int) = (0 : Int)) ∧ (d.2.1 = d.2.1 ∧ d.2.2 = d.2.2) ∧ List.take x d.1 = List.take x d.1 ∧ (Prod.fst
  (List.getD d.1 x fl0) = Prod.fst (List.getD d.1 x fl0) ∧ Prod.fst (Prod.snd (List.getD d.1 x fl0)) = Prod.fst (Prod.snd (List.getD d.1 x fl0)) ∧ Prod.fst (Prod.snd (Prod.snd (List.getD d.1 x fl0))) = Prod.fst (Prod.snd
  (Prod.snd (List.getD d.1 x fl0)))) ∧ List.take x_1 (Prod.snd (Prod.snd (Prod.snd (List.getD d.1 x fl0)))) ++ [List.getD (Prod.snd (Prod.snd (Prod.snd (List.getD d.1 (Int.toNat (↑x : Int)) ((0 : Int), (0 : Int), (0 :
  Int), []))))) (Int.toNat (↑x_1 : Int)) ((0 : Int), (0 : Int))] = List.take x' (Prod.snd (Prod.snd (Prod.snd (List.getD d.1 x fl0))))) ∧ (decide ((↑x_1 : Int) < (↑(List.length (Prod.snd (Prod.snd (Prod.snd (List.getD
  d.1 (Int.toNat (↑x : Int)) ((0 : Int), (0 : Int), (0 : Int), [])))))) : Int)) = false → (List.length (List.take x d.1) + List.length [(Prod.fst (List.getD d.1 x fl0), Prod.fst (Prod.snd (List.getD d.1 x fl0)), Prod.fst
  (Prod.snd (Prod.snd (List.getD d.1 x fl0))), List.take x_1 (Prod.snd (Prod.snd (Prod.snd (List.getD d.1 x fl0)))))]) * (48 : Nat) ≤ (140737488355328 : Nat) ∧ ∃ (x' : Nat), x' ≤ List.length d.1 ∧ List.length d.1 - x' <
  List.length d.1 - x ∧ ((d.1 = d.1 ∧ d.2.1 = d.2.1 ∧ d.2.2 = d.2.2) ∧ IntKind.wrap IntKind.i64 ((↑x : Int) + (1 : Int)) = (↑x' : Int)) ∧ (d.1 = d.1 ∧ d.2.1 = d.2.1 ∧ d.2.2 = d.2.2) ∧ (Value.slice none (0 : Nat) (0 :
  Nat) = Value.slice none (0 : Nat) (0 : Nat) ∧ (0 : Int) = (0 : Int)) ∧ (d.2.1 = d.2.1 ∧ d.2.2 = d.2.2) ∧ List.take x d.1 ++ [(Prod.fst (List.getD d.1 x fl0), Prod.fst (Prod.snd (List.getD d.1 x fl0)), Prod.fst
  (Prod.snd (Prod.snd (List.getD d.1 x fl0))), List.take x_1 (Prod.snd (Prod.snd (Prod.snd (List.getD d.1 x fl0)))))] = List.take x' d.1)) ∧ (decide ((↑x : Int) < (↑(List.length d.1) : Int)) = false → (List.take x d.1,
  d.2) = d) := by
  intro d hd hf
  obtain ⟨hf1, hf2⟩ := hf
  simp only [Int.toNat_natCast, exists_const, and_true, true_and, implies_true, decide_eq_true_eq, decide_eq_false_iff_not, Bool.not_eq_true', Bool.not_eq_false', beq_iff_eq, forall_const]
  refine ⟨Nat.zero_le _, ⟨rfl, rfl⟩, fun k hk => ⟨fun hlt => ?_, fun hge => ?_⟩⟩
  · have hkl : k < d.1.length := by omega
    have hm : d.1.getD k fl0 ∈ d.1 := by
      rw [List.getD_eq_getElem?_getD, List.getElem?_eq_getElem hkl]
      exact List.getElem_mem _
    have hl := hf2 _ hm
    refine ⟨⟨by omega, hlt⟩, Nat.zero_le _, ⟨rfl, ⟨rfl, rfl, rfl⟩, rfl⟩, fun j hj => ⟨⟨by omega, hlt⟩, fun hjlt => ?_, fun hjge => ?_⟩⟩
    · have hjlt' : j < (d.1.getD k fl0).2.2.2.length := by exact_mod_cast hjlt
      refine ⟨⟨by omega, hlt⟩, ⟨by omega, hjlt⟩, ?_, j + 1, by omega, by omega, ?_, ?_⟩
      · rw [List.length_take, List.length_singleton]; omega
      · rw [wrap_small (by omega)]; rfl
      · show (d.1.getD k fl0).2.2.2.take j ++ [(d.1.getD k fl0).2.2.2.getD j (0, 0)] = _
        rw [tk_snoc hjlt']
    · have hjl : j = (d.1.getD k fl0).2.2.2.length := by
        have : ¬ ((j : Int) < ((d.1.getD k fl0).2.2.2.length : Int)) := hjge
        omega
      refine ⟨?_, k + 1, by omega, by omega, ?_, ?_⟩
      · rw [List.length_take, List.length_singleton]; omega
      · rw [wrap_small (by omega)]; rfl
      · rw [hjl, List.take_length, tk_snoc hkl]
  · rw [List.take_of_length_le (by omega)]
theorem dj_same {n : Int} {x : DrX} {g : CurQ} {t : Int} {f : Bool} (hx : drawJ n x) (hg : CqOk g) : drawJ n (g, x.2.1, t, f) := ⟨hg, hx.2.1, hx.2.2⟩
theorem getD_line {fs : List Fl} (h : ∀ f ∈ fs, f.2.2.2.length ≤ 100) (k : Nat) : (fs.getD k (0, 0, 0, [])).2.2.2.length ≤ 100 := by
  rw [List.getD_eq_getElem?_getD]
  by_cases hk : k < fs.length
  · rw [List.getElem?_eq_getElem hk]
    exact h _ (List.getElem_mem _)
  · rw [List.getElem?_eq_none (by omega)]
    simp
theorem dj_set {n : Int} {x : DrX} {g : CurQ} {t : Int} {f : Bool} (k : Nat) (v : Fl) (hx : drawJ n x) (hg : CqOk g) (hv : v.2.2.2.length ≤ 100) : drawJ n (g, x.2.1.set k v, t, f) := by
  refine ⟨hg, by simp only [List.length_set]; exact hx.2.1, fun w hw => ?_⟩
  rcases List.mem_or_eq_of_mem_set hw with h | h
  · exact hx.2.2 _ h
  · rw [h]; exact hv
theorem dj_app {fs : List Fl} {v : Fl} (h : ∀ f ∈ fs, f.2.2.2.length ≤ 100) (hv : v.2.2.2.length ≤ 100) : ∀ f ∈ fs ++ [v], f.2.2.2.length ≤ 100 := by
  intro f hf
  rcases List.mem_append.mp hf with h2 | h2
  · exact h _ h2
  · rw [List.mem_singleton.mp h2]; exact hv
theorem v_S_l14DrawRingQ :
  ∀ (d : List Int × Int × Int) (x : Int), Ty.wf curQ d → Ty.wf i64T x → CqOk d ∧ x ≤ (50 : Int) → (((0 : Nat) ≤ Int.toNat x ∧ CqOk d ∧ (0 : Nat) = (0 : Nat) ∧ ∀ (f : Int × Int × Int × List (Int × Int)), f ∈ [] →
  List.length f.2.2.2 ≤ (100 : Nat)) ∧ ((x = x ∧ (-1 : Int) = (-1 : Int) ∧ (0 : Int) = (↑(0 : Nat) : Int)) ∧ (d.1 = d.1 ∧ d.2.1 = d.2.1 ∧ d.2.2 = d.2.2) ∧ (Value.slice none (0 : Nat) (0 : Nat) = Value.slice none (0 :
  Nat) (0 : Nat) ∧ (0 : Int) = (0 : Int)) ∧ ((0 : Int) = (0 : Int) ∧ false = false) ∧ ([] : List Fl) = []) ∧ ∀ (x_1 : Nat × (List Int × Int × Int) × List (Int × Int × Int × List (Int × Int)) × Int), (x_1.1 ≤ Int.toNat x
  ∧ CqOk x_1.2.1 ∧ List.length x_1.2.2.1 = x_1.1 ∧ ∀ (f : Int × Int × Int × List (Int × Int)), f ∈ x_1.2.2.1 → List.length f.2.2.2 ≤ (100 : Nat)) → (decide ((↑x_1.1 : Int) < x) = true → CqOk x_1.2.1 ∧ ∀ (g : List Int ×
  Int × Int) (r : Int), CqOk g ∧ belowQ (4 : Int) r → Ty.wf curQ g → Ty.wf i64T r → CqOk g ∧ ∀ (g : List Int × Int × Int) (r_1 : Int), CqOk g ∧ belowQ (900 : Int) r_1 → Ty.wf curQ g → Ty.wf i64T r_1 → CqOk g ∧ ∀ (g :
  List Int × Int × Int) (r_2 : Int), CqOk g ∧ belowQ (900 : Int) r_2 → Ty.wf curQ g → Ty.wf i64T r_2 → (CqOk g ∧ (0 : Nat) < List.length [(100 : Int), IntKind.wrap IntKind.i64 ((100 : Int) + r_1), IntKind.wrap
  IntKind.i64 ((100 : Int) + r_2), (100000 : Int)]) ∧ ∀ (g_1 : List Int × Int × Int) (r_3 : Int), CqOk g_1 ∧ pickQ [(100 : Int), IntKind.wrap IntKind.i64 ((100 : Int) + r_1), IntKind.wrap IntKind.i64 ((100 : Int) + r_2),
  (100000 : Int)] r_3 → Ty.wf curQ g_1 → Ty.wf i64T r_3 → CqOk g_1 ∧ ∀ (g_2 : List Int × Int × Int) (r_4 : Int), CqOk g_2 ∧ belowQ (6 : Int) r_4 → Ty.wf curQ g_2 → Ty.wf i64T r_4 → (CqOk g_2 ∧ r_4 ≤ (50 : Int)) ∧ ∀ (g_3
  : List Int × Int × Int) (r_5 : List (Int × Int)), CqOk g_3 ∧ lineQ r_5 → Ty.wf curQ g_3 → Ty.wf lineT r_5 → (decide ((0 : Int) < (↑(List.length r_5) : Int)) = true → CqOk g_3 ∧ ∀ (g_4 : List Int × Int × Int) (r_6 :
  Bool), CqOk g_4 → Ty.wf curQ g_4 → Ty.wf Ty.bool r_6 → (r_6 = true → CqOk g_4 ∧ ∀ (g_5 : List Int × Int × Int) (r_7 : Int), CqOk g_5 ∧ belowQ (300 : Int) r_7 → Ty.wf curQ g_5 → Ty.wf i64T r_7 → CqOk g_5 ∧ ∀ (g_6 : List
  Int × Int × Int) (r_8 : Int), CqOk g_6 ∧ belowQ (300 : Int) r_8 → Ty.wf curQ g_6 → Ty.wf i64T r_8 → (CqOk g_6 ∧ (0 : Nat) < List.length [r_7, r_8, (199999 : Int)]) ∧ ∀ (g_7 : List Int × Int × Int) (r_9 : Int), CqOk g_7
  ∧ pickQ [r_7, r_8, (199999 : Int)] r_9 → Ty.wf curQ g_7 → Ty.wf i64T r_9 → (List.length x_1.2.2.1 + List.length [(IntKind.wrap IntKind.i64 (IntKind.wrap IntKind.i64 (x_1.2.2.2 + (1 : Int)) + r), r_3, r_9, r_5)]) * (48
  : Nat) ≤ (140737488355328 : Nat) ∧ ∃ (x' : Nat × (List Int × Int × Int) × List (Int × Int × Int × List (Int × Int)) × Int), (x'.1 ≤ Int.toNat x ∧ CqOk x'.2.1 ∧ List.length x'.2.2.1 = x'.1 ∧ ∀ (f : Int × Int × Int ×
  List (Int × Int)), f ∈ x'.2.2.1 → List.length f.2.2.2 ≤ (100 : Nat)) ∧ Int.toNat x - x'.1 < Int.toNat x - x_1.1 ∧ (x = x ∧ IntKind.wrap IntKind.i64 (IntKind.wrap IntKind.i64 (x_1.2.2.2 + (1 : Int)) + r) = x'.2.2.2 ∧
  IntKind.wrap IntKind.i64 ((↑x_1.1 : Int) + (1 : Int)) = (↑x'.1 : Int)) ∧ (g_7.1 = x'.2.1.1 ∧ g_7.2.1 = x'.2.1.2.1 ∧ g_7.2.2 = x'.2.1.2.2) ∧ (Value.slice none (0 : Nat) (0 : Nat) = Value.slice none (0 : Nat) (0 : Nat) ∧
  (0 : Int) = (0 : Int)) ∧ ((0 : Int) = (0 : Int) ∧ false = false) ∧ x_1.2.2.1 ++ [(IntKind.wrap IntKind.i64 (IntKind.wrap IntKind.i64 (x_1.2.2.2 + (1 : Int)) + r), r_3, r_9, r_5)] = x'.2.2.1) ∧ (r_6 = false →
  (List.length x_1.2.2.1 + List.length [(IntKind.wrap IntKind.i64 (IntKind.wrap IntKind.i64 (x_1.2.2.2 + (1 : Int)) + r), r_3, (0 : Int), r_5)]) * (48 : Nat) ≤ (140737488355328 : Nat) ∧ ∃ (x' : Nat × (List Int × Int ×
  Int) × List (Int × Int × Int × List (Int × Int)) × Int), (x'.1 ≤ Int.toNat x ∧ CqOk x'.2.1 ∧ List.length x'.2.2.1 = x'.1 ∧ ∀ (f : Int × Int × Int × List (Int × Int)), f ∈ x'.2.2.1 → List.length f.2.2.2 ≤ (100 : Nat)) ∧
  Int.toNat x - x'.1 < Int.toNat x - x_1.1 ∧ (x = x ∧ IntKind.wrap IntKind.i64 (IntKind.wrap IntKind.i64 (x_1.2.2.2 + (1 : Int)) + r) = x'.2.2.2 ∧ IntKind.wrap IntKind.i64 ((↑x_1.1 : Int) + (1 : Int)) = (↑x'.1 : Int)) ∧
  (g_4.1 = x'.2.1.1 ∧ g_4.2.1 = x'.2.1.2.1 ∧ g_4.2.2 = x'.2.1.2.2) ∧ (Value.slice none (0 : Nat) (0 : Nat) = Value.slice none (0 : Nat) (0 : Nat) ∧ (0 : Int) = (0 : Int)) ∧ ((0 : Int) = (0 : Int) ∧ false = false) ∧
  x_1.2.2.1 ++ [(IntKind.wrap IntKind.i64 (IntKind.wrap IntKind.i64 (x_1.2.2.2 + (1 : Int)) + r), r_3, (0 : Int), r_5)] = x'.2.2.1)) ∧ (decide ((0 : Int) < (↑(List.length r_5) : Int)) = false → (List.length x_1.2.2.1 +
  List.length [(IntKind.wrap IntKind.i64 (IntKind.wrap IntKind.i64 (x_1.2.2.2 + (1 : Int)) + r), r_3, (0 : Int), r_5)]) * (48 : Nat) ≤ (140737488355328 : Nat) ∧ ∃ (x' : Nat × (List Int × Int × Int) × List (Int × Int ×
  Int × List (Int × Int)) × Int), (x'.1 ≤ Int.toNat x ∧ CqOk x'.2.1 ∧ List.length x'.2.2.1 = x'.1 ∧ ∀ (f : Int × Int × Int × List (Int × Int)), f ∈ x'.2.2.1 → List.length f.2.2.2 ≤ (100 : Nat)) ∧ Int.toNat x - x'.1 <
  Int.toNat x - x_1.1 ∧ (x = x ∧ IntKind.wrap IntKind.i64 (IntKind.wrap IntKind.i64 (x_1.2.2.2 + (1 : Int)) + r) = x'.2.2.2 ∧ IntKind.wrap IntKind.i64 ((↑x_1.1 : Int) + (1 : Int)) = (↑x'.1 : Int)) ∧ (g_3.1 = x'.2.1.1 ∧
  g_3.2.1 = x'.2.1.2.1 ∧ g_3.2.2 = x'.2.1.2.2) ∧ (Value.slice none (0 : Nat) (0 : Nat) = Value.slice none (0 : Nat) (0 : Nat) ∧ (0 : Int) = (0 : Int)) ∧ ((0 : Int) = (0 : Int) ∧ false = false) ∧ x_1.2.2.1 ++
  [(IntKind.wrap IntKind.i64 (IntKind.wrap IntKind.i64 (x_1.2.2.2 + (1 : Int)) + r), r_3, (0 : Int), r_5)] = x'.2.2.1)) ∧ (decide ((↑x_1.1 : Int) < x) = false → ∃ (x' : (List Int × Int × Int) × List (Int × Int × Int ×
  List (Int × Int)) × Int × Bool), drawJ x x' ∧ x = x ∧ (x_1.2.1.1 = x'.1.1 ∧ x_1.2.1.2.1 = x'.1.2.1 ∧ x_1.2.1.2.2 = x'.1.2.2) ∧ (Value.slice none (0 : Nat) (0 : Nat) = Value.slice none (0 : Nat) (0 : Nat) ∧ (0 : Int) =
  (0 : Int)) ∧ ((0 : Int) = x'.2.2.1 ∧ false = x'.2.2.2) ∧ x_1.2.2.1 = x'.2.1)) ∧ ∀ (x_1 : (List Int × Int × Int) × List (Int × Int × Int × List (Int × Int)) × Int × Bool), drawJ x x_1 → ((decide ((0 : Int) < x) = true →
  CqOk x_1.1 ∧ ∀ (g : List Int × Int × Int) (r : Int), CqOk g ∧ belowQ x r → Ty.wf curQ g → Ty.wf i64T r → ((0 : Int) ≤ r ∧ r < (↑(List.length x_1.2.1) : Int)) ∧ (decide ((0 : Int) < (↑(List.length (Prod.snd (Prod.snd
  (Prod.snd (List.getD x_1.2.1 (Int.toNat r) ((0 : Int), (0 : Int), (0 : Int), [])))))) : Int)) = true → CqOk g ∧ ∀ (g : List Int × Int × Int) (r_1 : Bool), CqOk g → Ty.wf curQ g → Ty.wf Ty.bool r_1 → (r_1 = true → CqOk
  g ∧ ∀ (g : List Int × Int × Int) (r_2 : Bool), CqOk g → Ty.wf curQ g → Ty.wf Ty.bool r_2 → (r_2 = true → ((0 : Int) ≤ r ∧ r < (↑(List.length x_1.2.1) : Int)) ∧ ∃ (x' : (List Int × Int × Int) × List (Int × Int × Int ×
  List (Int × Int)) × Int × Bool), drawJ x x' ∧ x = x ∧ (g.1 = x'.1.1 ∧ g.2.1 = x'.1.2.1 ∧ g.2.2 = x'.1.2.2) ∧ (Value.slice none (0 : Nat) (0 : Nat) = Value.slice none (0 : Nat) (0 : Nat) ∧ (0 : Int) = (0 : Int)) ∧ (r =
  x'.2.2.1 ∧ x'.2.2.2 = true) ∧ List.set x_1.2.1 (Int.toNat r) (Prod.fst (List.getD x_1.2.1 (Int.toNat r) ((0 : Int), (0 : Int), (0 : Int), [])), Prod.fst (Prod.snd (List.getD x_1.2.1 (Int.toNat r) ((0 : Int), (0 : Int),
  (0 : Int), []))), (299999 : Int), Prod.snd (Prod.snd (Prod.snd (List.getD x_1.2.1 (Int.toNat r) ((0 : Int), (0 : Int), (0 : Int), []))))) = x'.2.1) ∧ (r_2 = false → ∃ (x' : (List Int × Int × Int) × List (Int × Int ×
  Int × List (Int × Int)) × Int × Bool), drawJ x x' ∧ x = x ∧ (g.1 = x'.1.1 ∧ g.2.1 = x'.1.2.1 ∧ g.2.2 = x'.1.2.2) ∧ (Value.slice none (0 : Nat) (0 : Nat) = Value.slice none (0 : Nat) (0 : Nat) ∧ (0 : Int) = (0 : Int)) ∧
  (r = x'.2.2.1 ∧ x'.2.2.2 = true) ∧ x_1.2.1 = x'.2.1)) ∧ (r_1 = false → ∃ (x' : (List Int × Int × Int) × List (Int × Int × Int × List (Int × Int)) × Int × Bool), drawJ x x' ∧ x = x ∧ (g.1 = x'.1.1 ∧ g.2.1 = x'.1.2.1 ∧
  g.2.2 = x'.1.2.2) ∧ (Value.slice none (0 : Nat) (0 : Nat) = Value.slice none (0 : Nat) (0 : Nat) ∧ (0 : Int) = (0 : Int)) ∧ (r = x'.2.2.1 ∧ x_1.2.2.2 = x'.2.2.2) ∧ x_1.2.1 = x'.2.1)) ∧ (decide ((0 : Int) <
  (↑(List.length (Prod.snd (Prod.snd (Prod.snd (List.getD x_1.2.1 (Int.toNat r) ((0 : Int), (0 : Int), (0 : Int), [])))))) : Int)) = false → ∃ (x' : (List Int × Int × Int) × List (Int × Int × Int × List (Int × Int)) ×
  Int × Bool), drawJ x x' ∧ x = x ∧ (g.1 = x'.1.1 ∧ g.2.1 = x'.1.2.1 ∧ g.2.2 = x'.1.2.2) ∧ (Value.slice none (0 : Nat) (0 : Nat) = Value.slice none (0 : Nat) (0 : Nat) ∧ (0 : Int) = (0 : Int)) ∧ (r = x'.2.2.1 ∧ x_1.2.2.2
  = x'.2.2.2) ∧ x_1.2.1 = x'.2.1)) ∧ (decide ((0 : Int) < x) = false → ∃ (x' : (List Int × Int × Int) × List (Int × Int × Int × List (Int × Int)) × Int × Bool), drawJ x x' ∧ x = x ∧ (x_1.1.1 = x'.1.1 ∧ x_1.1.2.1 =
  x'.1.2.1 ∧ x_1.1.2.2 = x'.1.2.2) ∧ (Value.slice none (0 : Nat) (0 : Nat) = Value.slice none (0 : Nat) (0 : Nat) ∧ (0 : Int) = (0 : Int)) ∧ (x_1.2.2.1 = x'.2.2.1 ∧ x_1.2.2.2 = x'.2.2.2) ∧ x_1.2.1 = x'.2.1)) ∧ ∀ (x_2 :
  (List Int × Int × Int) × List (Int × Int × Int × List (Int × Int)) × Int × Bool), drawJ x x_2 → (CqOk x_2.1 ∧ ∀ (g : List Int × Int × Int) (r : Bool), CqOk g → Ty.wf curQ g → Ty.wf Ty.bool r → (r = true → CqOk g ∧ ∀ (g
  : List Int × Int × Int) (r_1 : Int), CqOk g ∧ belowQ (5 : Int) r_1 → Ty.wf curQ g → Ty.wf i64T r_1 → (decide (r_1 = (0 : Int)) = true → (CqOk g ∧ (0 : Nat) < List.length [(-1 : Int), x, IntKind.wrap IntKind.i64 (x + (1
  : Int))]) ∧ ∀ (g_1 : List Int × Int × Int) (r_2 : Int), CqOk g_1 ∧ pickQ [(-1 : Int), x, IntKind.wrap IntKind.i64 (x + (1 : Int))] r_2 → Ty.wf curQ g_1 → Ty.wf i64T r_2 → ∃ (x' : (List Int × Int × Int) × List (Int ×
  Int × Int × List (Int × Int)) × Int × Bool), drawJ x x' ∧ x = x ∧ (g_1.1 = x'.1.1 ∧ g_1.2.1 = x'.1.2.1 ∧ g_1.2.2 = x'.1.2.2) ∧ (Value.slice none (0 : Nat) (0 : Nat) = Value.slice none (0 : Nat) (0 : Nat) ∧ (0 : Int) =
  (0 : Int)) ∧ (r_2 = x'.2.2.1 ∧ x_2.2.2.2 = x'.2.2.2) ∧ x_2.2.1 = x'.2.1) ∧ (decide (r_1 = (0 : Int)) = false → (decide (r_1 = (1 : Int)) = true → ∃ (x' : (List Int × Int × Int) × List (Int × Int × Int × List (Int ×
  Int)) × Int × Bool), drawJ x x' ∧ x = x ∧ (g.1 = x'.1.1 ∧ g.2.1 = x'.1.2.1 ∧ g.2.2 = x'.1.2.2) ∧ (Value.slice none (0 : Nat) (0 : Nat) = Value.slice none (0 : Nat) (0 : Nat) ∧ (0 : Int) = (0 : Int)) ∧ (x_2.2.2.1 =
  x'.2.2.1 ∧ x'.2.2.2 = true) ∧ x_2.2.1 = x'.2.1) ∧ (decide (r_1 = (1 : Int)) = false → (decide (r_1 = (2 : Int)) = true → (decide ((0 : Int) < x) = true → (((CqOk g ∧ (0 : Nat) < List.length [(99 : Int), (100001 :
  Int)]) ∧ ∀ (g_1 : List Int × Int × Int) (r_2 : Int), CqOk g_1 ∧ pickQ [(99 : Int), (100001 : Int)] r_2 → Ty.wf curQ g_1 → Ty.wf i64T r_2 → ((0 : Int) ≤ IntKind.wrap IntKind.i64 (x - (1 : Int)) ∧ IntKind.wrap
  IntKind.i64 (x - (1 : Int)) < (↑(List.length x_2.2.1) : Int)) ∧ ∃ (x' : (List Int × Int × Int) × List (Int × Int × Int × List (Int × Int)) × Int × Bool), drawJ x x' ∧ x = x ∧ (g_1.1 = x'.1.1 ∧ g_1.2.1 = x'.1.2.1 ∧
  g_1.2.2 = x'.1.2.2) ∧ (Value.slice none (0 : Nat) (0 : Nat) = Value.slice none (0 : Nat) (0 : Nat) ∧ (0 : Int) = (0 : Int)) ∧ (x_2.2.2.1 = x'.2.2.1 ∧ x_2.2.2.2 = x'.2.2.2) ∧ List.set x_2.2.1 (Int.toNat (IntKind.wrap
  IntKind.i64 (x - (1 : Int)))) (Prod.fst (List.getD x_2.2.1 (Int.toNat (IntKind.wrap IntKind.i64 (x - (1 : Int)))) ((0 : Int), (0 : Int), (0 : Int), [])), r_2, Prod.snd (Prod.snd (List.getD x_2.2.1 (Int.toNat
  (IntKind.wrap IntKind.i64 (x - (1 : Int)))) ((0 : Int), (0 : Int), (0 : Int), [])))) = x'.2.1) ∧ ((CqOk g ∧ (0 : Nat) < List.length [(99 : Int), (100001 : Int)]) ∧ ∀ (g_1 : List Int × Int × Int) (r_2 : Int), CqOk g_1 ∧
  pickQ [(99 : Int), (100001 : Int)] r_2 → Ty.wf curQ g_1 → Ty.wf i64T r_2 → ((0 : Int) ≤ IntKind.wrap IntKind.i64 (x - (1 : Int)) ∧ IntKind.wrap IntKind.i64 (x - (1 : Int)) < (↑(List.length x_2.2.1) : Int)) ∧ ∃ (x' :
  (List Int × Int × Int) × List (Int × Int × Int × List (Int × Int)) × Int × Bool), drawJ x x' ∧ x = x ∧ (g_1.1 = x'.1.1 ∧ g_1.2.1 = x'.1.2.1 ∧ g_1.2.2 = x'.1.2.2) ∧ (Value.slice none (0 : Nat) (0 : Nat) = Value.slice
  none (0 : Nat) (0 : Nat) ∧ (0 : Int) = (0 : Int)) ∧ (x_2.2.2.1 = x'.2.2.1 ∧ x_2.2.2.2 = x'.2.2.2) ∧ List.set x_2.2.1 (Int.toNat (IntKind.wrap IntKind.i64 (x - (1 : Int)))) (Prod.fst (List.getD x_2.2.1 (Int.toNat
  (IntKind.wrap IntKind.i64 (x - (1 : Int)))) ((0 : Int), (0 : Int), (0 : Int), [])), r_2, Prod.snd (Prod.snd (List.getD x_2.2.1 (Int.toNat (IntKind.wrap IntKind.i64 (x - (1 : Int)))) ((0 : Int), (0 : Int), (0 : Int),
  [])))) = x'.2.1) ∧ (CqOk g ∧ (0 : Nat) < List.length [(99 : Int), (100001 : Int)]) ∧ ∀ (g_1 : List Int × Int × Int) (r_2 : Int), CqOk g_1 ∧ pickQ [(99 : Int), (100001 : Int)] r_2 → Ty.wf curQ g_1 → Ty.wf i64T r_2 → ((0
  : Int) ≤ IntKind.wrap IntKind.i64 (x - (1 : Int)) ∧ IntKind.wrap IntKind.i64 (x - (1 : Int)) < (↑(List.length x_2.2.1) : Int)) ∧ ∃ (x' : (List Int × Int × Int) × List (Int × Int × Int × List (Int × Int)) × Int × Bool),
  drawJ x x' ∧ x = x ∧ (g_1.1 = x'.1.1 ∧ g_1.2.1 = x'.1.2.1 ∧ g_1.2.2 = x'.1.2.2) ∧ (Value.slice none (0 : Nat) (0 : Nat) = Value.slice none (0 : Nat) (0 : Nat) ∧ (0 : Int) = (0 : Int)) ∧ (x_2.2.2.1 = x'.2.2.1 ∧
  x_2.2.2.2 = x'.2.2.2) ∧ List.set x_2.2.1 (Int.toNat (IntKind.wrap IntKind.i64 (x - (1 : Int)))) (Prod.fst (List.getD x_2.2.1 (Int.toNat (IntKind.wrap IntKind.i64 (x - (1 : Int)))) ((0 : Int), (0 : Int), (0 : Int),
  [])), r_2, Prod.snd (Prod.snd (List.getD x_2.2.1 (Int.toNat (IntKind.wrap IntKind.i64 (x - (1 : Int)))) ((0 : Int), (0 : Int), (0 : Int), [])))) = x'.2.1) ∧ (((CqOk g ∧ (0 : Nat) < List.length [(99 : Int), (100001 :
  Int)]) ∧ ∀ (g_1 : List Int × Int × Int) (r_2 : Int), CqOk g_1 ∧ pickQ [(99 : Int), (100001 : Int)] r_2 → Ty.wf curQ g_1 → Ty.wf i64T r_2 → ((0 : Int) ≤ IntKind.wrap IntKind.i64 (x - (1 : Int)) ∧ IntKind.wrap
  IntKind.i64 (x - (1 : Int)) < (↑(List.length x_2.2.1) : Int)) ∧ ∃ (x' : (List Int × Int × Int) × List (Int × Int × Int × List (Int × Int)) × Int × Bool), drawJ x x' ∧ x = x ∧ (g_1.1 = x'.1.1 ∧ g_1.2.1 = x'.1.2.1 ∧
  g_1.2.2 = x'.1.2.2) ∧ (Value.slice none (0 : Nat) (0 : Nat) = Value.slice none (0 : Nat) (0 : Nat) ∧ (0 : Int) = (0 : Int)) ∧ (x_2.2.2.1 = x'.2.2.1 ∧ x_2.2.2.2 = x'.2.2.2) ∧ List.set x_2.2.1 (Int.toNat (IntKind.wrap
  IntKind.i64 (x - (1 : Int)))) (Prod.fst (List.getD x_2.2.1 (Int.toNat (IntKind.wrap IntKind.i64 (x - (1 : Int)))) ((0 : Int), (0 : Int), (0 : Int), [])), r_2, Prod.snd (Prod.snd (List.getD x_2.2.1 (Int.toNat
  (IntKind.wrap IntKind.i64 (x - (1 : Int)))) ((0 : Int), (0 : Int), (0 : Int), [])))) = x'.2.1) ∧ ((CqOk g ∧ (0 : Nat) < List.length [(99 : Int), (100001 : Int)]) ∧ ∀ (g_1 : List Int × Int × Int) (r_2 : Int), CqOk g_1 ∧
  pickQ [(99 : Int), (100001 : Int)] r_2 → Ty.wf curQ g_1 → Ty.wf i64T r_2 → ((0 : Int) ≤ IntKind.wrap IntKind.i64 (x - (1 : Int)) ∧ IntKind.wrap IntKind.i64 (x - (1 : Int)) < (↑(List.length x_2.2.1) : Int)) ∧ ∃ (x' :
  (List Int × Int × Int) × List (Int × Int × Int × List (Int × Int)) × Int × Bool), drawJ x x' ∧ x = x ∧ (g_1.1 = x'.1.1 ∧ g_1.2.1 = x'.1.2.1 ∧ g_1.2.2 = x'.1.2.2) ∧ (Value.slice none (0 : Nat) (0 : Nat) = Value.slice
  none (0 : Nat) (0 : Nat) ∧ (0 : Int) = (0 : Int)) ∧ (x_2.2.2.1 = x'.2.2.1 ∧ x_2.2.2.2 = x'.2.2.2) ∧ List.set x_2.2.1 (Int.toNat (IntKind.wrap IntKind.i64 (x - (1 : Int)))) (Prod.fst (List.getD x_2.2.1 (Int.toNat
  (IntKind.wrap IntKind.i64 (x - (1 : Int)))) ((0 : Int), (0 : Int), (0 : Int), [])), r_2, Prod.snd (Prod.snd (List.getD x_2.2.1 (Int.toNat (IntKind.wrap IntKind.i64 (x - (1 : Int)))) ((0 : Int), (0 : Int), (0 : Int),
  [])))) = x'.2.1) ∧ (CqOk g ∧ (0 : Nat) < List.length [(99 : Int), (100001 : Int)]) ∧ ∀ (g_1 : List Int × Int × Int) (r_2 : Int), CqOk g_1 ∧ pickQ [(99 : Int), (100001 : Int)] r_2 → Ty.wf curQ g_1 → Ty.wf i64T r_2 → ((0
  : Int) ≤ IntKind.wrap IntKind.i64 (x - (1 : Int)) ∧ IntKind.wrap IntKind.i64 (x - (1 : Int)) < (↑(List.length x_2.2.1) : Int)) ∧ ∃ (x' : (List Int × Int × Int) × List (Int × Int × Int × List (Int × Int)) × Int × Bool),
  drawJ x x' ∧ x = x ∧ (g_1.1 = x'.1.1 ∧ g_1.2.1 = x'.1.2.1 ∧ g_1.2.2 = x'.1.2.2) ∧ (Value.slice none (0 : Nat) (0 : Nat) = Value.slice none (0 : Nat) (0 : Nat) ∧ (0 : Int) = (0 : Int)) ∧ (x_2.2.2.1 = x'.2.2.1 ∧
  x_2.2.2.2 = x'.2.2.2) ∧ List.set x_2.2.1 (Int.toNat (IntKind.wrap IntKind.i64 (x - (1 : Int)))) (Prod.fst (List.getD x_2.2.1 (Int.toNat (IntKind.wrap IntKind.i64 (x - (1 : Int)))) ((0 : Int), (0 : Int), (0 : Int),
  [])), r_2, Prod.snd (Prod.snd (List.getD x_2.2.1 (Int.toNat (IntKind.wrap IntKind.i64 (x - (1 : Int)))) ((0 : Int), (0 : Int), (0 : Int), [])))) = x'.2.1) ∧ (((CqOk g ∧ (0 : Nat) < List.length [(99 : Int), (100001 :
  Int)]) ∧ ∀ (g_1 : List Int × Int × Int) (r_2 : Int), CqOk g_1 ∧ pickQ [(99 : Int), (100001 : Int)] r_2 → Ty.wf curQ g_1 → Ty.wf i64T r_2 → ((0 : Int) ≤ IntKind.wrap IntKind.i64 (x - (1 : Int)) ∧ IntKind.wrap
  IntKind.i64 (x - (1 : Int)) < (↑(List.length x_2.2.1) : Int)) ∧ ∃ (x' : (List Int × Int × Int) × List (Int × Int × Int × List (Int × Int)) × Int × Bool), drawJ x x' ∧ x = x ∧ (g_1.1 = x'.1.1 ∧ g_1.2.1 = x'.1.2.1 ∧
  g_1.2.2 = x'.1.2.2) ∧ (Value.slice none (0 : Nat) (0 : Nat) = Value.slice none (0 : Nat) (0 : Nat) ∧ (0 : Int) = (0 : Int)) ∧ (x_2.2.2.1 = x'.2.2.1 ∧ x_2.2.2.2 = x'.2.2.2) ∧ List.set x_2.2.1 (Int.toNat (IntKind.wrap
  IntKind.i64 (x - (1 : Int)))) (Prod.fst (List.getD x_2.2.1 (Int.toNat (IntKind.wrap IntKind.i64 (x - (1 : Int)))) ((0 : Int), (0 : Int), (0 : Int), [])), r_2, Prod.snd (Prod.snd (List.getD x_2.2.1 (Int.toNat
  (IntKind.wrap IntKind.i64 (x - (1 : Int)))) ((0 : Int), (0 : Int), (0 : Int), [])))) = x'.2.1) ∧ (CqOk g ∧ (0 : Nat) < List.length [(99 : Int), (100001 : Int)]) ∧ ∀ (g_1 : List Int × Int × Int) (r_2 : Int), CqOk g_1 ∧
  pickQ [(99 : Int), (100001 : Int)] r_2 → Ty.wf curQ g_1 → Ty.wf i64T r_2 → ((0 : Int) ≤ IntKind.wrap IntKind.i64 (x - (1 : Int)) ∧ IntKind.wrap IntKind.i64 (x - (1 : Int)) < (↑(List.length x_2.2.1) : Int)) ∧ ∃ (x' :
  (List Int × Int × Int) × List (Int × Int × Int × List (Int × Int)) × Int × Bool), drawJ x x' ∧ x = x ∧ (g_1.1 = x'.1.1 ∧ g_1.2.1 = x'.1.2.1 ∧ g_1.2.2 = x'.1.2.2) ∧ (Value.slice none (0 : Nat) (0 : Nat) = Value.slice
  none (0 : Nat) (0 : Nat) ∧ (0 : Int) = (0 : Int)) ∧ (x_2.2.2.1 = x'.2.2.1 ∧ x_2.2.2.2 = x'.2.2.2) ∧ List.set x_2.2.1 (Int.toNat (IntKind.wrap IntKind.i64 (x - (1 : Int)))) (Prod.fst (List.getD x_2.2.1 (Int.toNat
  (IntKind.wrap IntKind.i64 (x - (1 : Int)))) ((0 : Int), (0 : Int), (0 : Int), [])), r_2, Prod.snd (Prod.snd (List.getD x_2.2.1 (Int.toNat (IntKind.wrap IntKind.i64 (x - (1 : Int)))) ((0 : Int), (0 : Int), (0 : Int),
  [])))) = x'.2.1) ∧ (((CqOk g ∧ (0 : Nat) < List.length [(99 : Int), (100001 : Int)]) ∧ ∀ (g_1 : List Int × Int × Int) (r_2 : Int), CqOk g_1 ∧ pickQ [(99 : Int), (100001 : Int)] r_2 → Ty.wf curQ g_1 → Ty.wf i64T r_2 →
  ((0 : Int) ≤ IntKind.wrap IntKind.i64 (x - (1 : Int)) ∧ IntKind.wrap IntKind.i64 (x - (1 : Int)) < (↑(List.length x_2.2.1) : Int)) ∧ ∃ (x' : (List Int × Int × Int) × List (Int × Int × Int × List (Int × Int)) × Int ×
  Bool), drawJ x x' ∧ x = x ∧ (g_1.1 = x'.1.1 ∧ g_1.2.1 = x'.1.2.1 ∧ g_1.2.2 = x'.1.2.2) ∧ (Value.slice none (0 : Nat) (0 : Nat) = Value.slice none (0 : Nat) (0 : Nat) ∧ (0 : Int) = (0 : Int)) ∧ (x_2.2.2.1 = x'.2.2.1 ∧
  x_2.2.2.2 = x'.2.2.2) ∧ List.set x_2.2.1 (Int.toNat (IntKind.wrap IntKind.i64 (x - (1 : Int)))) (Prod.fst (List.getD x_2.2.1 (Int.toNat (IntKind.wrap IntKind.i64 (x - (1 : Int)))) ((0 : Int), (0 : Int), (0 : Int),
  [])), r_2, Prod.snd (Prod.snd (List.getD x_2.2.1 (Int.toNat (IntKind.wrap IntKind.i64 (x - (1 : Int)))) ((0 : Int), (0 : Int), (0 : Int), [])))) = x'.2.1) ∧ (CqOk g ∧ (0 : Nat) < List.length [(99 : Int), (100001 :
  Int)]) ∧ ∀ (g_1 : List Int × Int × Int) (r_2 : Int), CqOk g_1 ∧ pickQ [(99 : Int), (100001 : Int)] r_2 → Ty.wf curQ g_1 → Ty.wf i64T r_2 → ((0 : Int) ≤ IntKind.wrap IntKind.i64 (x - (1 : Int)) ∧ IntKind.wrap
  IntKind.i64 (x - (1 : Int)) < (↑(List.length x_2.2.1) : Int)) ∧ ∃ (x' : (List Int × Int × Int) × List (Int × Int × Int × List (Int × Int)) × Int × Bool), drawJ x x' ∧ x = x ∧ (g_1.1 = x'.1.1 ∧ g_1.2.1 = x'.1.2.1 ∧
  g_1.2.2 = x'.1.2.2) ∧ (Value.slice none (0 : Nat) (0 : Nat) = Value.slice none (0 : Nat) (0 : Nat) ∧ (0 : Int) = (0 : Int)) ∧ (x_2.2.2.1 = x'.2.2.1 ∧ x_2.2.2.2 = x'.2.2.2) ∧ List.set x_2.2.1 (Int.toNat (IntKind.wrap
  IntKind.i64 (x - (1 : Int)))) (Prod.fst (List.getD x_2.2.1 (Int.toNat (IntKind.wrap IntKind.i64 (x - (1 : Int)))) ((0 : Int), (0 : Int), (0 : Int), [])), r_2, Prod.snd (Prod.snd (List.getD x_2.2.1 (Int.toNat
  (IntKind.wrap IntKind.i64 (x - (1 : Int)))) ((0 : Int), (0 : Int), (0 : Int), [])))) = x'.2.1) ∧ (CqOk g ∧ (0 : Nat) < List.length [(99 : Int), (100001 : Int)]) ∧ ∀ (g_1 : List Int × Int × Int) (r_2 : Int), CqOk g_1 ∧
  pickQ [(99 : Int), (100001 : Int)] r_2 → Ty.wf curQ g_1 → Ty.wf i64T r_2 → (((0 : Int) ≤ IntKind.wrap IntKind.i64 (x - (1 : Int)) ∧ IntKind.wrap IntKind.i64 (x - (1 : Int)) < (↑(List.length x_2.2.1) : Int)) ∧ ∃ (x' :
  (List Int × Int × Int) × List (Int × Int × Int × List (Int × Int)) × Int × Bool), drawJ x x' ∧ x = x ∧ (g_1.1 = x'.1.1 ∧ g_1.2.1 = x'.1.2.1 ∧ g_1.2.2 = x'.1.2.2) ∧ (Value.slice none (0 : Nat) (0 : Nat) = Value.slice
  none (0 : Nat) (0 : Nat) ∧ (0 : Int) = (0 : Int)) ∧ (x_2.2.2.1 = x'.2.2.1 ∧ x_2.2.2.2 = x'.2.2.2) ∧ List.set x_2.2.1 (Int.toNat (IntKind.wrap IntKind.i64 (x - (1 : Int)))) (Prod.fst (List.getD x_2.2.1 (Int.toNat
  (IntKind.wrap IntKind.i64 (x - (1 : Int)))) ((0 : Int), (0 : Int), (0 : Int), [])), r_2, Prod.snd (Prod.snd (List.getD x_2.2.1 (Int.toNat (IntKind.wrap IntKind.i64 (x - (1 : Int)))) ((0 : Int), (0 : Int), (0 : Int),
  [])))) = x'.2.1) ∧ ((0 : Int) ≤ IntKind.wrap IntKind.i64 (x - (1 : Int)) ∧ IntKind.wrap IntKind.i64 (x - (1 : Int)) < (↑(List.length x_2.2.1) : Int)) ∧ ∃ (x' : (List Int × Int × Int) × List (Int × Int × Int × List (Int
  × Int)) × Int × Bool), drawJ x x' ∧ x = x ∧ (g_1.1 = x'.1.1 ∧ g_1.2.1 = x'.1.2.1 ∧ g_1.2.2 = x'.1.2.2) ∧ (Value.slice none (0 : Nat) (0 : Nat) = Value.slice none (0 : Nat) (0 : Nat) ∧ (0 : Int) = (0 : Int)) ∧
  (x_2.2.2.1 = x'.2.2.1 ∧ x_2.2.2.2 = x'.2.2.2) ∧ List.set x_2.2.1 (Int.toNat (IntKind.wrap IntKind.i64 (x - (1 : Int)))) (Prod.fst (List.getD x_2.2.1 (Int.toNat (IntKind.wrap IntKind.i64 (x - (1 : Int)))) ((0 : Int), (0
  : Int), (0 : Int), [])), r_2, Prod.snd (Prod.snd (List.getD x_2.2.1 (Int.toNat (IntKind.wrap IntKind.i64 (x - (1 : Int)))) ((0 : Int), (0 : Int), (0 : Int), [])))) = x'.2.1) ∧ (decide ((0 : Int) < x) = false → ∃ (x' :
  (List Int × Int × Int) × List (Int × Int × Int × List (Int × Int)) × Int × Bool), drawJ x x' ∧ x = x ∧ (g.1 = x'.1.1 ∧ g.2.1 = x'.1.2.1 ∧ g.2.2 = x'.1.2.2) ∧ (Value.slice none (0 : Nat) (0 : Nat) = Value.slice none (0
  : Nat) (0 : Nat) ∧ (0 : Int) = (0 : Int)) ∧ (x_2.2.2.1 = x'.2.2.1 ∧ x_2.2.2.2 = x'.2.2.2) ∧ x_2.2.1 = x'.2.1)) ∧ (decide (r_1 = (2 : Int)) = false → (decide (r_1 = (3 : Int)) = true → (decide ((0 : Int) < x) = true →
  ((CqOk g ∧ (0 : Nat) < List.length [(-1 : Int), (200000 : Int), (300000 : Int)]) ∧ ∀ (g_1 : List Int × Int × Int) (r_2 : Int), CqOk g_1 ∧ pickQ [(-1 : Int), (200000 : Int), (300000 : Int)] r_2 → Ty.wf curQ g_1 → Ty.wf
  i64T r_2 → ((0 : Int) ≤ (0 : Int) ∧ (0 : Int) < (↑(List.length x_2.2.1) : Int)) ∧ ∃ (x' : (List Int × Int × Int) × List (Int × Int × Int × List (Int × Int)) × Int × Bool), drawJ x x' ∧ x = x ∧ (g_1.1 = x'.1.1 ∧ g_1.2.1
  = x'.1.2.1 ∧ g_1.2.2 = x'.1.2.2) ∧ (Value.slice none (0 : Nat) (0 : Nat) = Value.slice none (0 : Nat) (0 : Nat) ∧ (0 : Int) = (0 : Int)) ∧ (x_2.2.2.1 = x'.2.2.1 ∧ x_2.2.2.2 = x'.2.2.2) ∧ List.set x_2.2.1 (Int.toNat (0
  : Int)) (Prod.fst (List.getD x_2.2.1 (Int.toNat (0 : Int)) ((0 : Int), (0 : Int), (0 : Int), [])), Prod.fst (Prod.snd (List.getD x_2.2.1 (Int.toNat (0 : Int)) ((0 : Int), (0 : Int), (0 : Int), []))), r_2, Prod.snd
  (Prod.snd (Prod.snd (List.getD x_2.2.1 (Int.toNat (0 : Int)) ((0 : Int), (0 : Int), (0 : Int), []))))) = x'.2.1) ∧ ((CqOk g ∧ (0 : Nat) < List.length [(-1 : Int), (200000 : Int), (300000 : Int)]) ∧ ∀ (g_1 : List Int ×
  Int × Int) (r_2 : Int), CqOk g_1 ∧ pickQ [(-1 : Int), (200000 : Int), (300000 : Int)] r_2 → Ty.wf curQ g_1 → Ty.wf i64T r_2 → ((0 : Int) ≤ (0 : Int) ∧ (0 : Int) < (↑(List.length x_2.2.1) : Int)) ∧ ∃ (x' : (List Int ×
  Int × Int) × List (Int × Int × Int × List (Int × Int)) × Int × Bool), drawJ x x' ∧ x = x ∧ (g_1.1 = x'.1.1 ∧ g_1.2.1 = x'.1.2.1 ∧ g_1.2.2 = x'.1.2.2) ∧ (Value.slice none (0 : Nat) (0 : Nat) = Value.slice none (0 : Nat)
  (0 : Nat) ∧ (0 : Int) = (0 : Int)) ∧ (x_2.2.2.1 = x'.2.2.1 ∧ x_2.2.2.2 = x'.2.2.2) ∧ List.set x_2.2.1 (Int.toNat (0 : Int)) (Prod.fst (List.getD x_2.2.1 (Int.toNat (0 : Int)) ((0 : Int), (0 : Int), (0 : Int), [])),
  Prod.fst (Prod.snd (List.getD x_2.2.1 (Int.toNat (0 : Int)) ((0 : Int), (0 : Int), (0 : Int), []))), r_2, Prod.snd (Prod.snd (Prod.snd (List.getD x_2.2.1 (Int.toNat (0 : Int)) ((0 : Int), (0 : Int), (0 : Int), [])))))
  = x'.2.1) ∧ (CqOk g ∧ (0 : Nat) < List.length [(-1 : Int), (200000 : Int), (300000 : Int)]) ∧ ∀ (g_1 : List Int × Int × Int) (r_2 : Int), CqOk g_1 ∧ pickQ [(-1 : Int), (200000 : Int), (300000 : Int)] r_2 → Ty.wf curQ
  g_1 → Ty.wf i64T r_2 → ((0 : Int) ≤ (0 : Int) ∧ (0 : Int) < (↑(List.length x_2.2.1) : Int)) ∧ ∃ (x' : (List Int × Int × Int) × List (Int × Int × Int × List (Int × Int)) × Int × Bool), drawJ x x' ∧ x = x ∧ (g_1.1 =
  x'.1.1 ∧ g_1.2.1 = x'.1.2.1 ∧ g_1.2.2 = x'.1.2.2) ∧ (Value.slice none (0 : Nat) (0 : Nat) = Value.slice none (0 : Nat) (0 : Nat) ∧ (0 : Int) = (0 : Int)) ∧ (x_2.2.2.1 = x'.2.2.1 ∧ x_2.2.2.2 = x'.2.2.2) ∧ List.set
  x_2.2.1 (Int.toNat (0 : Int)) (Prod.fst (List.getD x_2.2.1 (Int.toNat (0 : Int)) ((0 : Int), (0 : Int), (0 : Int), [])), Prod.fst (Prod.snd (List.getD x_2.2.1 (Int.toNat (0 : Int)) ((0 : Int), (0 : Int), (0 : Int),
  []))), r_2, Prod.snd (Prod.snd (Prod.snd (List.getD x_2.2.1 (Int.toNat (0 : Int)) ((0 : Int), (0 : Int), (0 : Int), []))))) = x'.2.1) ∧ (decide ((0 : Int) < x) = false → ∃ (x' : (List Int × Int × Int) × List (Int × Int
  × Int × List (Int × Int)) × Int × Bool), drawJ x x' ∧ x = x ∧ (g.1 = x'.1.1 ∧ g.2.1 = x'.1.2.1 ∧ g.2.2 = x'.1.2.2) ∧ (Value.slice none (0 : Nat) (0 : Nat) = Value.slice none (0 : Nat) (0 : Nat) ∧ (0 : Int) = (0 : Int))
  ∧ (x_2.2.2.1 = x'.2.2.1 ∧ x_2.2.2.2 = x'.2.2.2) ∧ x_2.2.1 = x'.2.1)) ∧ (decide (r_1 = (3 : Int)) = false → (decide (r_1 = (4 : Int)) = true → (decide ((1 : Int) < x) = true → ((0 : Int) ≤ (1 : Int) ∧ (1 : Int) <
  (↑(List.length x_2.2.1) : Int)) ∧ ((0 : Int) ≤ (0 : Int) ∧ (0 : Int) < (↑(List.length x_2.2.1) : Int)) ∧ ∃ (x' : (List Int × Int × Int) × List (Int × Int × Int × List (Int × Int)) × Int × Bool), drawJ x x' ∧ x = x ∧
  (g.1 = x'.1.1 ∧ g.2.1 = x'.1.2.1 ∧ g.2.2 = x'.1.2.2) ∧ (Value.slice none (0 : Nat) (0 : Nat) = Value.slice none (0 : Nat) (0 : Nat) ∧ (0 : Int) = (0 : Int)) ∧ (x_2.2.2.1 = x'.2.2.1 ∧ x_2.2.2.2 = x'.2.2.2) ∧ List.set
  x_2.2.1 (Int.toNat (0 : Int)) (Prod.fst (List.getD x_2.2.1 (Int.toNat (1 : Int)) ((0 : Int), (0 : Int), (0 : Int), [])), Prod.snd (List.getD x_2.2.1 (Int.toNat (0 : Int)) ((0 : Int), (0 : Int), (0 : Int), []))) =
  x'.2.1) ∧ (decide ((1 : Int) < x) = false → ∃ (x' : (List Int × Int × Int) × List (Int × Int × Int × List (Int × Int)) × Int × Bool), drawJ x x' ∧ x = x ∧ (g.1 = x'.1.1 ∧ g.2.1 = x'.1.2.1 ∧ g.2.2 = x'.1.2.2) ∧
  (Value.slice none (0 : Nat) (0 : Nat) = Value.slice none (0 : Nat) (0 : Nat) ∧ (0 : Int) = (0 : Int)) ∧ (x_2.2.2.1 = x'.2.2.1 ∧ x_2.2.2.2 = x'.2.2.2) ∧ x_2.2.1 = x'.2.1)) ∧ (decide (r_1 = (4 : Int)) = false → ∃ (x' :
  (List Int × Int × Int) × List (Int × Int × Int × List (Int × Int)) × Int × Bool), drawJ x x' ∧ x = x ∧ (g.1 = x'.1.1 ∧ g.2.1 = x'.1.2.1 ∧ g.2.2 = x'.1.2.2) ∧ (Value.slice none (0 : Nat) (0 : Nat) = Value.slice none (0
  : Nat) (0 : Nat) ∧ (0 : Int) = (0 : Int)) ∧ (x_2.2.2.1 = x'.2.2.1 ∧ x_2.2.2.2 = x'.2.2.2) ∧ x_2.2.1 = x'.2.1)))))) ∧ (r = false → ∃ (x' : (List Int × Int × Int) × List (Int × Int × Int × List (Int × Int)) × Int ×
  Bool), drawJ x x' ∧ x = x ∧ (g.1 = x'.1.1 ∧ g.2.1 = x'.1.2.1 ∧ g.2.2 = x'.1.2.2) ∧ (Value.slice none (0 : Nat) (0 : Nat) = Value.slice none (0 : Nat) (0 : Nat) ∧ (0 : Int) = (0 : Int)) ∧ (x_2.2.2.1 = x'.2.2.1 ∧
  x_2.2.2.2 = x'.2.2.2) ∧ x_2.2.1 = x'.2.1)) ∧ ∀ (x_3 : (List Int × Int × Int) × List (Int × Int × Int × List (Int × Int)) × Int × Bool), drawJ x x_3 → CqOk x_3.1 ∧ flowsQ x_3.2.1 := by
  intro d n hd hn hp
  obtain ⟨hc, hn1⟩ := hp
  replace hn : i64T.wf n := hn
  have hn1 : n ≤ 50 := hn1
  simp only [Int.toNat_natCast, exists_const, and_true, true_and, implies_true, decide_eq_true_eq, decide_eq_false_iff_not, Bool.not_eq_true', Bool.not_eq_false', beq_iff_eq, forall_const]
  have LP : ∀ {x : Nat × CurQ × List Fl × Int} {g : CurQ} (v : Fl) (w : Int), (x.1 ≤ n.toNat ∧ CqOk x.2.1 ∧ x.2.2.1.length = x.1 ∧ ∀ f ∈ x.2.2.1, f.2.2.2.length ≤ 100) → (x.1 : Int) < n → CqOk g → v.2.2.2.length ≤ 100 → (x.2.2.1.length + [v].length) * 48 ≤ 140737488355328 ∧ ∃ x' : Nat × CurQ × List Fl × Int, (x'.1 ≤ n.toNat ∧ CqOk x'.2.1 ∧ x'.2.2.1.length = x'.1 ∧ ∀ f ∈ x'.2.2.1, f.2.2.2.length ≤ 100) ∧ n.toNat - x'.1 < n.toNat - x.1 ∧ (w = x'.2.2.2 ∧ IntKind.i64.wrap ((x.1 : Int) + 1) = (x'.1 : Int)) ∧ (g.1 = x'.2.1.1 ∧ g.2.1 = x'.2.1.2.1 ∧ g.2.2 = x'.2.1.2.2) ∧ x.2.2.1 ++ [v] = x'.2.2.1 := by
    intro x g v w ⟨h1, h2, h3, h4⟩ hlt hg hv
    refine ⟨by simp only [List.length_singleton]; omega, (x.1 + 1, g, x.2.2.1 ++ [v], w), ⟨?_, hg, ?_, ?_⟩, ?_, ⟨rfl, ?_⟩, ⟨rfl, rfl, rfl⟩, rfl⟩
    · show x.1 + 1 ≤ n.toNat
      omega
    · simp only [List.length_append, List.length_singleton, h3]
    · exact dj_app h4 hv
    · show n.toNat - (x.1 + 1) < n.toNat - x.1
      omega
    · exact wrap_small (n := (x.1 : Int) + 1) (by omega)
  refine ⟨⟨⟨by omega, hc, by simp⟩, rfl, fun x hx => ⟨fun hlt => ⟨hx.2.1, fun g r1 h _ _ => ⟨h.1, fun g r2 h _ _ => ⟨h.1, fun g r3 h _ _ => ⟨⟨h.1, by simp⟩, fun g r4 h _ _ => ⟨h.1, fun g r5 h _ _ => ⟨⟨h.1, ?_⟩, fun g r6 h6 _ _ => ?_⟩⟩⟩⟩⟩⟩, fun hge => ?_⟩⟩, fun x hx => ⟨⟨fun hpos => ⟨hx.1, fun g r hr _ _ => ?_⟩, ?_⟩, fun x hx => ⟨⟨hx.1, fun g r h _ _ => ⟨fun hr => ⟨h, fun g r1 h _ _ => ?_⟩, fun hr => ?_⟩⟩, fun x hx => ⟨hx.1, ?_⟩⟩⟩⟩
  · have := h.2.2.1; omega
  · have hl6 : r6.length ≤ 100 := h6.2
    obtain ⟨hg6, hq6⟩ := h6
    repeat' first
      | assumption
      | exact LP _ _ hx hlt (by assumption) hl6
      | exact LP _ _ hx hlt (And.left ‹CqOk _ ∧ pickQ _ _›) hl6
      | (refine And.intro (And.left ‹CqOk _ ∧ _›) ?_)
      | (refine And.intro ⟨And.left ‹CqOk _ ∧ _›, by simp⟩ ?_)
      | apply And.intro
      | intro _
  · exact ⟨(_, _, _, _), ⟨hx.2.1, by show x.2.2.1.length = n.toNat; have := hx.2.2.1; omega, hx.2.2.2⟩, ⟨rfl, rfl, rfl⟩, ⟨rfl, rfl⟩, rfl⟩
  · obtain ⟨hg, hr⟩ := hr
    have hr1 := hr.1
    have hr2 := hr.2.1 hpos
    have hl : x.2.1.length = n.toNat := hx.2.1
    repeat' first
      | assumption
      | omega
      | (apply And.intro)
      | exact ⟨(_, _, _, _), dj_same (by assumption) (by assumption), ⟨rfl, rfl, rfl⟩, ⟨rfl, rfl⟩, rfl⟩
      | exact ⟨(_, _, _, _), dj_set _ _ (by assumption) (by assumption) (by exact getD_line (And.right (And.right ‹drawJ _ _›)) _), ⟨rfl, rfl, rfl⟩, ⟨rfl, rfl⟩, rfl⟩
      | exact ⟨(_, _, _, true), dj_same (by assumption) (by assumption), ⟨rfl, rfl, rfl⟩, ⟨rfl, rfl⟩, rfl⟩
      | exact ⟨(_, _, _, true), dj_set _ _ (by assumption) (by assumption) (by exact getD_line (And.right (And.right ‹drawJ _ _›)) _), ⟨rfl, rfl, rfl⟩, ⟨rfl, rfl⟩, rfl⟩
      | exact Nat.zero_lt_succ _
      | (refine And.intro (And.left ‹CqOk _ ∧ _›) ?_)
      | (refine And.intro ⟨And.left ‹CqOk _ ∧ _›, by simp⟩ ?_)
      | (refine And.intro ⟨‹CqOk _›, by simp⟩ ?_)
      | apply And.intro
      | (intro (h : CqOk _ ∧ pickQ _ _); have hgg := h.1; clear h)
      | intro _
  · have hg := hx.1
    repeat' first
      | assumption
      | omega
      | (apply And.intro)
      | exact ⟨(_, _, _, _), dj_same (by assumption) (by assumption), ⟨rfl, rfl, rfl⟩, ⟨rfl, rfl⟩, rfl⟩
      | exact ⟨(_, _, _, _), dj_set _ _ (by assumption) (by assumption) (by exact getD_line (And.right (And.right ‹drawJ _ _›)) _), ⟨rfl, rfl, rfl⟩, ⟨rfl, rfl⟩, rfl⟩
      | exact ⟨(_, _, _, true), dj_same (by assumption) (by assumption), ⟨rfl, rfl, rfl⟩, ⟨rfl, rfl⟩, rfl⟩
      | exact ⟨(_, _, _, true), dj_set _ _ (by assumption) (by assumption) (by exact getD_line (And.right (And.right ‹drawJ _ _›)) _), ⟨rfl, rfl, rfl⟩, ⟨rfl, rfl⟩, rfl⟩
      | exact Nat.zero_lt_succ _
      | (refine And.intro (And.left ‹CqOk _ ∧ _›) ?_)
      | (refine And.intro ⟨And.left ‹CqOk _ ∧ _›, by simp⟩ ?_)
      | (refine And.intro ⟨‹CqOk _›, by simp⟩ ?_)
      | apply And.intro
      | (intro (h : CqOk _ ∧ pickQ _ _); have hgg := h.1; clear h)
      | intro _
  · have hg := h.1
    have hl : x.2.1.length = n.toNat := hx.2.1
    have hw : 0 < n → IntKind.i64.wrap (n - 1) = n - 1 := fun h => wrap_small (by omega)
    repeat' first
      | assumption
      | omega
      | (apply And.intro)
      | exact ⟨(_, _, _, _), dj_same (by assumption) (by assumption), ⟨rfl, rfl, rfl⟩, ⟨rfl, rfl⟩, rfl⟩
      | exact ⟨(_, _, _, _), dj_set _ _ (by assumption) (by assumption) (by exact getD_line (And.right (And.right ‹drawJ _ _›)) _), ⟨rfl, rfl, rfl⟩, ⟨rfl, rfl⟩, rfl⟩
      | exact ⟨(_, _, _, true), dj_same (by assumption) (by assumption), ⟨rfl, rfl, rfl⟩, ⟨rfl, rfl⟩, rfl⟩
      | exact ⟨(_, _, _, true), dj_set _ _ (by assumption) (by assumption) (by exact getD_line (And.right (And.right ‹drawJ _ _›)) _), ⟨rfl, rfl, rfl⟩, ⟨rfl, rfl⟩, rfl⟩
      | exact Nat.zero_lt_succ _
      | (refine And.intro (And.left ‹CqOk _ ∧ _›) ?_)
      | (refine And.intro ⟨And.left ‹CqOk _ ∧ _›, by simp⟩ ?_)
      | (refine And.intro ⟨‹CqOk _›, by simp⟩ ?_)
      | apply And.intro
      | (intro (h : CqOk _ ∧ pickQ _ _); have hgg := h.1; clear h)
      | intro _
  · repeat' first
      | assumption
      | omega
      | (apply And.intro)
      | exact ⟨(_, _, _, _), dj_same (by assumption) (by assumption), ⟨rfl, rfl, rfl⟩, ⟨rfl, rfl⟩, rfl⟩
      | exact ⟨(_, _, _, _), dj_set _ _ (by assumption) (by assumption) (by exact getD_line (And.right (And.right ‹drawJ _ _›)) _), ⟨rfl, rfl, rfl⟩, ⟨rfl, rfl⟩, rfl⟩
      | exact ⟨(_, _, _, true), dj_same (by assumption) (by assumption), ⟨rfl, rfl, rfl⟩, ⟨rfl, rfl⟩, rfl⟩
      | exact ⟨(_, _, _, true), dj_set _ _ (by assumption) (by assumption) (by exact getD_line (And.right (And.right ‹drawJ _ _›)) _), ⟨rfl, rfl, rfl⟩, ⟨rfl, rfl⟩, rfl⟩
      | exact Nat.zero_lt_succ _
      | (refine And.intro (And.left ‹CqOk _ ∧ _›) ?_)
      | (refine And.intro ⟨And.left ‹CqOk _ ∧ _›, by simp⟩ ?_)
      | (refine And.intro ⟨‹CqOk _›, by simp⟩ ?_)
      | apply And.intro
      | (intro (h : CqOk _ ∧ pickQ _ _); have hgg := h.1; clear h)
      | intro _
  · obtain ⟨_, h1, h2⟩ := hx
    exact ⟨by omega, h2⟩
end Go.SF
