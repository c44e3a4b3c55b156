/- Turners drawn. No condition. -/
import Derived.Test.YtmnndbfmeppaeaaSxC
import Derived.Test.YtmnndbfmeppaeaaSxPNttB
import Derived.Test.YtmnndbfmeppaeaaSxPAdv
namespace Go.SF
open Go.SX Go
set_option linter.unusedVariables false
set_option linter.unusedSimpArgs false
theorem v_S_l01DrawFieldQ :
  ∀ (d : List Int × Int × Int) (x : Unit), Ty.wf curQ d → True → CqOk d → CqOk d ∧ ∀ (g : List Int × Int × Int) (r : Bool), CqOk g → Ty.wf curQ g → Ty.wf Ty.bool r → (r = true → (CqOk g ∧ (0 : Nat) < List.length [(-1 :
  Int), (9 : Int), (100 : Int)]) ∧ ∀ (g_1 : List Int × Int × Int) (r_1 : Int), CqOk g_1 ∧ pickQ [(-1 : Int), (9 : Int), (100 : Int)] r_1 → Ty.wf curQ g_1 → Ty.wf i64T r_1 → CqOk g_1) ∧ (r = false → CqOk g ∧ ∀ (g : List
  Int × Int × Int) (r : Int), CqOk g ∧ belowQ (9 : Int) r → Ty.wf curQ g → Ty.wf i64T r → CqOk g) := by
  intro d _u hw _t hp
  replace hp : CqOk d := hp
  exact ⟨hp, fun g r h _ _ => ⟨fun _ => ⟨⟨h, by simp⟩, fun g2 r2 h2 _ _ => h2.1⟩, fun _ => ⟨h, fun g2 r2 h2 _ _ => h2.1⟩⟩⟩
theorem v_S_l01DrawElementQ :
  ∀ (d : List Int × Int × Int) (x : Int), Ty.wf curQ d → Ty.wf i64T x → CqOk d → True ∧ (Ty.wf i64T (modF x) → (decide (modF x = (0 : Int)) = true → CqOk d ∧ ∀ (g : List Int × Int × Int) (r : Int), CqOk g ∧ belowQ (50 :
  Int) r → Ty.wf curQ g → Ty.wf i64T r → CqOk g) ∧ (decide (modF x = (0 : Int)) = false → CqOk d ∧ ∀ (g : List Int × Int × Int) (r : Int), CqOk g ∧ belowQ (6 : Int) r → Ty.wf curQ g → Ty.wf i64T r → (decide (r = (0 :
  Int)) = true → CqOk g ∧ ∀ (g : List Int × Int × Int) (r : Int), CqOk g ∧ belowQ (3 : Int) r → Ty.wf curQ g → Ty.wf i64T r → modF x ≠ (0 : Int) ∧ CqOk g) ∧ (decide (r = (0 : Int)) = false → (decide (r = (1 : Int)) =
  true → CqOk g ∧ ∀ (g : List Int × Int × Int) (r : Int), CqOk g ∧ belowQ (3 : Int) r → Ty.wf curQ g → Ty.wf i64T r → CqOk g) ∧ (decide (r = (1 : Int)) = false → (decide (r = (2 : Int)) = true → CqOk g ∧ ∀ (g : List Int
  × Int × Int) (r : Int), CqOk g ∧ belowQ (16777216 : Int) r → Ty.wf curQ g → Ty.wf i64T r → CqOk g ∧ ∀ (g : List Int × Int × Int) (r : Int), CqOk g ∧ belowQ (256 : Int) r → Ty.wf curQ g → Ty.wf i64T r → modF x ≠ (0 :
  Int) ∧ CqOk g) ∧ (decide (r = (2 : Int)) = false → CqOk g ∧ ∀ (g : List Int × Int × Int) (r : Int), CqOk g ∧ belowQ (30 : Int) r → Ty.wf curQ g → Ty.wf i64T r → modF x ≠ (0 : Int) ∧ CqOk g))))) := by
  intro d f hd hf hp
  replace hp : CqOk d := hp
  simp only [Int.toNat_natCast, exists_const, and_true, true_and, implies_true, decide_eq_true_eq, decide_eq_false_iff_not, Bool.not_eq_true', Bool.not_eq_false', beq_iff_eq, forall_const]
  refine fun _ => ⟨fun h => ⟨hp, fun g r h _ _ => h.1⟩, fun hm => ⟨hp, fun g r h _ _ => ⟨fun _ => ⟨h.1, fun g r h _ _ => ⟨hm, h.1⟩⟩, fun _ => ⟨fun _ => ⟨h.1, fun g r h _ _ => h.1⟩, fun _ => ⟨fun _ => ⟨h.1, fun g r h _ _ => ⟨h.1, fun g r h _ _ => ⟨hm, h.1⟩⟩⟩, fun _ => ⟨h.1, fun g r h _ _ => ⟨hm, h.1⟩⟩⟩⟩⟩⟩⟩
theorem v_S_l01DrawListQ :
  ∀ (d : List Int × Int × Int) (x : Int × Int), Ty.wf curQ d → Ty.wf i64T x.1 ∧ Ty.wf i64T x.2 → CqOk d ∧ x.2 ≤ (1100 : Int) → ((0 : Nat) ≤ Int.toNat x.2 ∧ CqOk d ∧ (0 : Nat) = (0 : Nat)) ∧ ((x.1 = x.1 ∧ x.2 = x.2 ∧
  Value.slice none (0 : Nat) (0 : Nat) = Value.slice none (0 : Nat) (0 : Nat) ∧ (0 : Int) = (↑(0 : Nat) : Int)) ∧ (d.1 = d.1 ∧ d.2.1 = d.2.1 ∧ d.2.2 = d.2.2) ∧ ([] : List Int) = []) ∧ ∀ (x_1 : Nat × (List Int × Int ×
  Int) × List Int), x_1.1 ≤ Int.toNat x.2 ∧ CqOk x_1.2.1 ∧ List.length x_1.2.2 = x_1.1 → (decide ((↑x_1.1 : Int) < x.2) = true → CqOk x_1.2.1 ∧ ∀ (g : List Int × Int × Int) (r : Int), CqOk g → Ty.wf curQ g → Ty.wf i64T r
  → (List.length x_1.2.2 + List.length [r]) * (8 : Nat) ≤ (140737488355328 : Nat) ∧ ∃ (x' : Nat × (List Int × Int × Int) × List Int), (x'.1 ≤ Int.toNat x.2 ∧ CqOk x'.2.1 ∧ List.length x'.2.2 = x'.1) ∧ Int.toNat x.2 -
  x'.1 < Int.toNat x.2 - x_1.1 ∧ (x.1 = x.1 ∧ x.2 = x.2 ∧ Value.slice none (0 : Nat) (0 : Nat) = Value.slice none (0 : Nat) (0 : Nat) ∧ IntKind.wrap IntKind.i64 ((↑x_1.1 : Int) + (1 : Int)) = (↑x'.1 : Int)) ∧ (g.1 =
  x'.2.1.1 ∧ g.2.1 = x'.2.1.2.1 ∧ g.2.2 = x'.2.1.2.2) ∧ x_1.2.2 ++ [r] = x'.2.2) ∧ (decide ((↑x_1.1 : Int) < x.2) = false → CqOk x_1.2.1 ∧ List.length x_1.2.2 ≤ (1100 : Nat)) := by
  intro d x hd hx hp
  obtain ⟨hc, hn⟩ := hp
  obtain ⟨f, n⟩ := x
  replace hn : n ≤ 1100 := hn
  simp only [Int.toNat_natCast, exists_const, and_true, true_and, implies_true, decide_eq_true_eq, decide_eq_false_iff_not, Bool.not_eq_true', Bool.not_eq_false', beq_iff_eq, forall_const]
  refine ⟨⟨by omega, hc⟩, rfl, fun x hx => ⟨fun hlt => ⟨hx.2.1, fun g r hg _ _ => ?_⟩, fun hge => ⟨hx.2.1, by have := hx.2.2; omega⟩⟩⟩
  obtain ⟨h1, h2, h3⟩ := hx
  refine ⟨by rw [List.length_singleton]; omega, (x.1 + 1, g, x.2.2 ++ [r]), ⟨?_, hg, ?_⟩, ?_, ?_, ⟨rfl, rfl, rfl⟩, rfl⟩
  · show x.1 + 1 ≤ n.toNat
    omega
  · simp only [List.length_append, List.length_singleton, h3]
  · show n.toNat - (x.1 + 1) < n.toNat - x.1
    omega
  · exact wrap_small (n := (x.1 : Int) + 1) (by omega)
theorem v_S_DrawRunPlanQ :
  ∀ (d : List Int), Ty.wf (Ty.sl (Ty.int IntKind.u8)) d → List.length d ≤ (9223372036854775807 : Nat) → List.length d ≤ (9223372036854775807 : Nat) ∧ ∀ (g : List Int × Int × Int) (r : Unit), CqOk g → Ty.wf curQ g → True
  → (CqOk g ∧ List.length d ≤ (9223372036854775807 : Nat)) ∧ ∀ (g : List Int × Int × Int) (r : Int × Int × List (Int × Int × Int)), CqOk g ∧ List.length r.2.2 ≤ (1000 : Nat) → Ty.wf curQ g → Ty.wf planT r → True ∧
  ((decide ((0 : Int) ≤ r.2.1) && decide (r.2.1 ≤ (9 : Int))) = true → (0 : Int) ≤ IntKind.wrap IntKind.u64 r.2.1 ∧ CqOk g ∧ ∀ (g : List Int × Int × Int) (r_1 : Bool), CqOk g → Ty.wf curQ g → Ty.wf Ty.bool r_1 → (r_1 =
  true → ((CqOk g ∧ IntKind.wrap IntKind.i64 ((2 : Int) * ishl IntKind.i64 (1 : Int) (IntKind.wrap IntKind.u64 r.2.1)) ≤ (1100 : Int)) ∧ ∀ (g : List Int × Int × Int) (r_2 : List Int), CqOk g ∧ List.length r_2 ≤ (1100 :
  Nat) → Ty.wf curQ g → Ty.wf listT r_2 → drwQ (r, r_2)) ∧ ((CqOk g ∧ IntKind.wrap IntKind.i64 ((2 : Int) * ishl IntKind.i64 (1 : Int) (IntKind.wrap IntKind.u64 r.2.1)) ≤ (1100 : Int)) ∧ ∀ (g : List Int × Int × Int) (r_2
  : List Int), CqOk g ∧ List.length r_2 ≤ (1100 : Nat) → Ty.wf curQ g → Ty.wf listT r_2 → drwQ (r, r_2)) ∧ (CqOk g ∧ IntKind.wrap IntKind.i64 ((2 : Int) * ishl IntKind.i64 (1 : Int) (IntKind.wrap IntKind.u64 r.2.1)) ≤
  (1100 : Int)) ∧ ∀ (g : List Int × Int × Int) (r_2 : List Int), CqOk g ∧ List.length r_2 ≤ (1100 : Nat) → Ty.wf curQ g → Ty.wf listT r_2 → drwQ (r, r_2)) ∧ (r_1 = false → ((CqOk g ∧ ishl IntKind.i64 (1 : Int)
  (IntKind.wrap IntKind.u64 r.2.1) ≤ (1100 : Int)) ∧ ∀ (g : List Int × Int × Int) (r_2 : List Int), CqOk g ∧ List.length r_2 ≤ (1100 : Nat) → Ty.wf curQ g → Ty.wf listT r_2 → drwQ (r, r_2)) ∧ ((CqOk g ∧ ishl IntKind.i64
  (1 : Int) (IntKind.wrap IntKind.u64 r.2.1) ≤ (1100 : Int)) ∧ ∀ (g : List Int × Int × Int) (r_2 : List Int), CqOk g ∧ List.length r_2 ≤ (1100 : Nat) → Ty.wf curQ g → Ty.wf listT r_2 → drwQ (r, r_2)) ∧ (CqOk g ∧ ishl
  IntKind.i64 (1 : Int) (IntKind.wrap IntKind.u64 r.2.1) ≤ (1100 : Int)) ∧ ∀ (g : List Int × Int × Int) (r_2 : List Int), CqOk g ∧ List.length r_2 ≤ (1100 : Nat) → Ty.wf curQ g → Ty.wf listT r_2 → drwQ (r, r_2))) ∧
  ((decide ((0 : Int) ≤ r.2.1) && decide (r.2.1 ≤ (9 : Int))) = false → CqOk g ∧ ∀ (g : List Int × Int × Int) (r_1 : Bool), CqOk g → Ty.wf curQ g → Ty.wf Ty.bool r_1 → (r_1 = true → ((CqOk g ∧ IntKind.wrap IntKind.i64
  ((2 : Int) * (1 : Int)) ≤ (1100 : Int)) ∧ ∀ (g : List Int × Int × Int) (r_2 : List Int), CqOk g ∧ List.length r_2 ≤ (1100 : Nat) → Ty.wf curQ g → Ty.wf listT r_2 → drwQ (r, r_2)) ∧ ((CqOk g ∧ IntKind.wrap IntKind.i64
  ((2 : Int) * (1 : Int)) ≤ (1100 : Int)) ∧ ∀ (g : List Int × Int × Int) (r_2 : List Int), CqOk g ∧ List.length r_2 ≤ (1100 : Nat) → Ty.wf curQ g → Ty.wf listT r_2 → drwQ (r, r_2)) ∧ (CqOk g ∧ IntKind.wrap IntKind.i64
  ((2 : Int) * (1 : Int)) ≤ (1100 : Int)) ∧ ∀ (g : List Int × Int × Int) (r_2 : List Int), CqOk g ∧ List.length r_2 ≤ (1100 : Nat) → Ty.wf curQ g → Ty.wf listT r_2 → drwQ (r, r_2)) ∧ (r_1 = false → ((CqOk g ∧ (1 : Int) ≤
  (1100 : Int)) ∧ ∀ (g : List Int × Int × Int) (r_2 : List Int), CqOk g ∧ List.length r_2 ≤ (1100 : Nat) → Ty.wf curQ g → Ty.wf listT r_2 → drwQ (r, r_2)) ∧ ((CqOk g ∧ (1 : Int) ≤ (1100 : Int)) ∧ ∀ (g : List Int × Int ×
  Int) (r_2 : List Int), CqOk g ∧ List.length r_2 ≤ (1100 : Nat) → Ty.wf curQ g → Ty.wf listT r_2 → drwQ (r, r_2)) ∧ (CqOk g ∧ (1 : Int) ≤ (1100 : Int)) ∧ ∀ (g : List Int × Int × Int) (r_2 : List Int), CqOk g ∧
  List.length r_2 ≤ (1100 : Nat) → Ty.wf curQ g → Ty.wf listT r_2 → drwQ (r, r_2))) := by
  intro d hd hp
  simp only [Int.toNat_natCast, exists_const, and_true, true_and, implies_true, decide_eq_true_eq, decide_eq_false_iff_not, Bool.not_eq_true', Bool.not_eq_false', beq_iff_eq, forall_const]
  refine ⟨hp, fun g hg _ => ⟨⟨hg, hp⟩, fun g r h0 _ _ => ⟨fun hk => ?_, fun _ => ⟨h0.1, fun g b h _ _ => ?_⟩⟩⟩⟩
  · simp only [Bool.and_eq_true, decide_eq_true_eq] at hk
    obtain ⟨K, hK⟩ := Int.eq_ofNat_of_zero_le hk.1
    have hK9 : K ≤ 9 := by omega
    have h512 := pow_le_512 hK9
    have hpos : 0 < 2 ^ K := Nat.pow_pos (by omega)
    rw [hK, u64N (by omega), shlN (by omega), wrap_small (by omega)]
    refine ⟨by omega, h0.1, fun g b hb _ _ => ?_⟩
    have hl := h0.2
    refine ⟨fun _ => ⟨⟨⟨hb, by omega⟩, fun g2 r2 h2 _ _ => ⟨hl, h2.2⟩⟩, ⟨⟨hb, by omega⟩, fun g2 r2 h2 _ _ => ⟨hl, h2.2⟩⟩, ⟨hb, by omega⟩, fun g2 r2 h2 _ _ => ⟨hl, h2.2⟩⟩, fun _ => ⟨⟨⟨hb, by omega⟩, fun g2 r2 h2 _ _ => ⟨hl, h2.2⟩⟩, ⟨⟨hb, by omega⟩, fun g2 r2 h2 _ _ => ⟨hl, h2.2⟩⟩, ⟨hb, by omega⟩, fun g2 r2 h2 _ _ => ⟨hl, h2.2⟩⟩⟩
  · have hl := h0.2
    have hw : IntKind.i64.wrap (2 * 1) = 2 := rfl
    rw [hw]
    refine ⟨fun _ => ⟨⟨⟨h, by omega⟩, fun g2 r2 h2 _ _ => ⟨hl, h2.2⟩⟩, ⟨⟨h, by omega⟩, fun g2 r2 h2 _ _ => ⟨hl, h2.2⟩⟩, ⟨h, by omega⟩, fun g2 r2 h2 _ _ => ⟨hl, h2.2⟩⟩, fun _ => ⟨⟨⟨h, by omega⟩, fun g2 r2 h2 _ _ => ⟨hl, h2.2⟩⟩, ⟨⟨h, by omega⟩, fun g2 r2 h2 _ _ => ⟨hl, h2.2⟩⟩, ⟨h, by omega⟩, fun g2 r2 h2 _ _ => ⟨hl, h2.2⟩⟩⟩
theorem v_S_DrawStartTurnerQ :
  ∀ (d : List Int), Ty.wf (Ty.sl (Ty.int IntKind.u8)) d → List.length d ≤ (9223372036854775807 : Nat) → List.length d ≤ (9223372036854775807 : Nat) ∧ ∀ (r : (Int × Int × List (Int × Int × Int)) × List Int), drwQ r →
  Ty.wf planT r.1 ∧ Ty.wf listT r.2 → drwQ r := by
  intro d hd hp
  exact ⟨hp, fun r hr _ => hr⟩
theorem v_S_PlanCost :
  ∀ (d : Int × Int × List (Int × Int × Int)), Ty.wf planT d → True → True ∧ ((!planOkF d) = true → (-1 : Int) = planCostF d) ∧ ((!planOkF d) = false → (0 : Int) ≤ IntKind.wrap IntKind.u64 d.2.1 ∧ (2 : Int) ≠ (0 : Int) ∧
  IntKind.wrap IntKind.i64 (d.2.1 * IntKind.wrap IntKind.i64 (Int.tdiv (ishl IntKind.i64 (1 : Int) (IntKind.wrap IntKind.u64 d.2.1)) (2 : Int))) = planCostF d) := by
  intro d hd _
  simp only [Int.toNat_natCast, exists_const, and_true, true_and, implies_true, decide_eq_true_eq, decide_eq_false_iff_not, Bool.not_eq_true', Bool.not_eq_false', beq_iff_eq, forall_const]
  refine ⟨fun h => by unfold planCostF; rw [h]; rfl, fun h => ?_⟩
  have hk := h
  unfold planOkF logOkF at hk
  simp only [Bool.and_eq_true, decide_eq_true_eq] at hk
  obtain ⟨⟨⟨⟨⟨_, k1, k2⟩, _⟩, _⟩, _⟩, _⟩ := hk
  obtain ⟨K, hK⟩ := Int.eq_ofNat_of_zero_le k1
  have hK9 : K ≤ 9 := by omega
  have h512 := pow_le_512 hK9
  have hpos : 0 < 2 ^ K := Nat.pow_pos (by omega)
  unfold planCostF
  rw [if_pos h, hK, u64N (by omega), shlN (by omega), halfN]
  have e : ((2 ^ K : Nat) : Int).tdiv 2 = ((2 ^ K / 2 : Nat) : Int) := by
    rw [Int.tdiv_eq_ediv_of_nonneg (by omega)]; rfl
  rw [e, wrap_small (n := ((2 ^ K / 2 : Nat) : Int)) (by omega)]
  have h2 : K * (2 ^ K / 2) ≤ 9 * 256 := Nat.mul_le_mul hK9 (by omega)
  rw [← Int.natCast_mul, wrap_small (by omega)]
  exact ⟨by omega, by decide, rfl⟩
theorem v_L_cpPlan :
  ∀ (d : Int × Int × List (Int × Int × Int)), Ty.wf planT d → List.length d.2.2 ≤ (1048576 : Nat) → (0 : Nat) ≤ List.length d.2.2 ∧ (((d.1 = d.1 ∧ d.2.1 = d.2.1 ∧ d.2.2 = d.2.2) ∧ (0 : Int) = (↑(0 : Nat) : Int)) ∧ (d.1 =
  d.1 ∧ d.2.1 = d.2.1 ∧ d.2.2 = d.2.2) ∧ ((0 : Int) = (0 : Int) ∧ (0 : Int) = (0 : Int) ∧ Value.slice none (0 : Nat) (0 : Nat) = Value.slice none (0 : Nat) (0 : Nat)) ∧ (d.1 = d.1 ∧ d.2.1 = d.2.1) ∧ List.take (0 : Nat)
  d.2.2 = []) ∧ ∀ (x : Nat), x ≤ List.length d.2.2 → (decide ((↑x : Int) < (↑(List.length d.2.2) : Int)) = true → ((0 : Int) ≤ (↑x : Int) ∧ (↑x : Int) < (↑(List.length d.2.2) : Int)) ∧ (List.length (List.take x d.2.2) +
  List.length [List.getD d.2.2 (Int.toNat (↑x : Int)) ((0 : Int), (0 : Int), (0 : Int))]) * (24 : Nat) ≤ (140737488355328 : Nat) ∧ ∃ (x' : Nat), x' ≤ List.length d.2.2 ∧ List.length d.2.2 - x' < List.length d.2.2 - x ∧
  ((d.1 = d.1 ∧ d.2.1 = d.2.1 ∧ d.2.2 = d.2.2) ∧ IntKind.wrap IntKind.i64 ((↑x : Int) + (1 : Int)) = (↑x' : Int)) ∧ (d.1 = d.1 ∧ d.2.1 = d.2.1 ∧ d.2.2 = d.2.2) ∧ ((0 : Int) = (0 : Int) ∧ (0 : Int) = (0 : Int) ∧
  Value.slice none (0 : Nat) (0 : Nat) = Value.slice none (0 : Nat) (0 : Nat)) ∧ (d.1 = d.1 ∧ d.2.1 = d.2.1) ∧ List.take x d.2.2 ++ [List.getD d.2.2 (Int.toNat (↑x : Int)) ((0 : Int), (0 : Int), (0 : Int))] = List.take
  x' d.2.2) ∧ (decide ((↑x : Int) < (↑(List.length d.2.2) : Int)) = false → (d.1, d.2.1, List.take x d.2.2) = d) := by
  intro d hd hp
  simp only [Int.toNat_natCast, exists_const, and_true, true_and, implies_true, decide_eq_true_eq, decide_eq_false_iff_not, Bool.not_eq_true', Bool.not_eq_false', beq_iff_eq, forall_const]
  refine ⟨Nat.zero_le _, ⟨rfl, rfl⟩, fun x hx => ⟨fun hlt => ⟨⟨by omega, hlt⟩, ?_, x + 1, by omega, by omega, ?_, ?_⟩, fun hge => ?_⟩⟩
  · rw [List.length_take, List.length_singleton]; omega
  · rw [wrap_small (by omega)]; rfl
  · exact tk_succ (by omega)
  · rw [List.take_of_length_le (by omega)]
end Go.SF
