/- Draws, of which no more is told than bounds. No condition. -/
import Derived.Test.YtmnndbfmeppaeaaSxC
import Derived.Test.YtmnndbfmeppaeaaSxPBase
namespace Go.SF
open Go.SX Go
set_option linter.unusedVariables false
set_option linter.unusedSimpArgs false
theorem iand_bits (a m : Int) (hm : m = 255) : 0 ≤ iand .i64 a m ∧ iand .i64 a m ≤ 255 := by
  subst hm
  have h : (BitVec.ofInt 64 a &&& BitVec.ofInt 64 255).toNat ≤ 255 := by
    rw [BitVec.toNat_and]
    exact Nat.and_le_right
  have e : iand .i64 a 255 = IntKind.i64.wrap ((BitVec.ofInt 64 a &&& BitVec.ofInt 64 255).toNat : Int) := rfl
  rw [e, wrap_small (by omega)]
  omega
theorem cq_ok {c : CurQ} (h : CqOk c) (i n : Int) (hi : 0 ≤ i) : CqOk (c.1, i, n) := ⟨hi, h.2⟩
theorem v_S_l01ByteQ :
  ∀ (d : List Int × Int × Int) (x : Unit), Ty.wf curQ d → True → CqOk d → (0 : Int) ≤ (33 : Int) ∧ (0 : Int) ≤ (45 : Int) ∧ (decide (d.2.1 < (↑(List.length d.1) : Int)) = true → ((0 : Int) ≤ d.2.1 ∧ d.2.1 <
  (↑(List.length d.1) : Int)) ∧ CqOk (d.1, IntKind.wrap IntKind.i64 (d.2.1 + (1 : Int)), IntKind.wrap IntKind.i64 (IntKind.wrap IntKind.i64 (d.2.2 * (6364136223846793005 : Int)) + (1442695040888963407 : Int))) ∧ (0 :
  Int) ≤ iand IntKind.i64 (IntKind.wrap IntKind.i64 (iand IntKind.i64 (ixor IntKind.i64 (ishr IntKind.i64 (IntKind.wrap IntKind.i64 (IntKind.wrap IntKind.i64 (d.2.2 * (6364136223846793005 : Int)) + (1442695040888963407 :
  Int))) (33 : Int)) (ishr IntKind.i64 (IntKind.wrap IntKind.i64 (IntKind.wrap IntKind.i64 (d.2.2 * (6364136223846793005 : Int)) + (1442695040888963407 : Int))) (45 : Int))) (255 : Int) + IntKind.wrap IntKind.i64
  (List.getD d.1 (Int.toNat d.2.1) (0 : Int)))) (255 : Int) ∧ iand IntKind.i64 (IntKind.wrap IntKind.i64 (iand IntKind.i64 (ixor IntKind.i64 (ishr IntKind.i64 (IntKind.wrap IntKind.i64 (IntKind.wrap IntKind.i64 (d.2.2 *
  (6364136223846793005 : Int)) + (1442695040888963407 : Int))) (33 : Int)) (ishr IntKind.i64 (IntKind.wrap IntKind.i64 (IntKind.wrap IntKind.i64 (d.2.2 * (6364136223846793005 : Int)) + (1442695040888963407 : Int))) (45 :
  Int))) (255 : Int) + IntKind.wrap IntKind.i64 (List.getD d.1 (Int.toNat d.2.1) (0 : Int)))) (255 : Int) ≤ (255 : Int)) ∧ (decide (d.2.1 < (↑(List.length d.1) : Int)) = false → CqOk (d.1, d.2.1, IntKind.wrap IntKind.i64
  (IntKind.wrap IntKind.i64 (d.2.2 * (6364136223846793005 : Int)) + (1442695040888963407 : Int))) ∧ (0 : Int) ≤ iand IntKind.i64 (ixor IntKind.i64 (ishr IntKind.i64 (IntKind.wrap IntKind.i64 (IntKind.wrap IntKind.i64
  (d.2.2 * (6364136223846793005 : Int)) + (1442695040888963407 : Int))) (33 : Int)) (ishr IntKind.i64 (IntKind.wrap IntKind.i64 (IntKind.wrap IntKind.i64 (d.2.2 * (6364136223846793005 : Int)) + (1442695040888963407 :
  Int))) (45 : Int))) (255 : Int) ∧ iand IntKind.i64 (ixor IntKind.i64 (ishr IntKind.i64 (IntKind.wrap IntKind.i64 (IntKind.wrap IntKind.i64 (d.2.2 * (6364136223846793005 : Int)) + (1442695040888963407 : Int))) (33 :
  Int)) (ishr IntKind.i64 (IntKind.wrap IntKind.i64 (IntKind.wrap IntKind.i64 (d.2.2 * (6364136223846793005 : Int)) + (1442695040888963407 : Int))) (45 : Int))) (255 : Int) ≤ (255 : Int)) := by
  intro d _u hw _t hp
  replace hp : CqOk d := hp
  simp only [Int.toNat_natCast, exists_const, and_true, true_and, implies_true, decide_eq_true_eq, decide_eq_false_iff_not, Bool.not_eq_true', Bool.not_eq_false', beq_iff_eq, forall_const]
  refine ⟨by omega, by omega, fun h => ⟨⟨hp.1, h⟩, cq_ok hp _ _ ?_, (iand_bits _ _ rfl).1, (iand_bits _ _ rfl).2⟩, fun h => ⟨cq_ok hp _ _ hp.1, (iand_bits _ _ rfl).1, (iand_bits _ _ rfl).2⟩⟩
  have := hp.1; have := hp.2
  rw [wrap_small (by omega)]; omega
theorem below_mod {r x : Int} (hr : 0 ≤ r) (hx : 0 < x) : belowQ x (r.tmod x) := by
  rw [Int.tmod_eq_emod_of_nonneg hr]
  exact ⟨Int.emod_nonneg _ (by omega), fun _ => Int.emod_lt_of_pos _ hx, fun h => by omega⟩
theorem v_S_l01BelowQ :
  ∀ (d : List Int × Int × Int) (x : Int), Ty.wf curQ d → Ty.wf i64T x → CqOk d → (decide (x ≤ (0 : Int)) = true → CqOk d ∧ belowQ x (0 : Int)) ∧ (decide (x ≤ (0 : Int)) = false → (decide (x ≤ (256 : Int)) = true → CqOk d
  ∧ ∀ (g : List Int × Int × Int) (r : Int), CqOk g ∧ (0 : Int) ≤ r ∧ r ≤ (255 : Int) → Ty.wf curQ g → Ty.wf i64T r → x ≠ (0 : Int) ∧ CqOk g ∧ belowQ x (Int.tmod r x)) ∧ (decide (x ≤ (256 : Int)) = false → CqOk d ∧ ∀ (g :
  List Int × Int × Int) (r : Int), CqOk g ∧ (0 : Int) ≤ r ∧ r ≤ (255 : Int) → Ty.wf curQ g → Ty.wf i64T r → CqOk g ∧ ∀ (g : List Int × Int × Int) (r_1 : Int), CqOk g ∧ (0 : Int) ≤ r_1 ∧ r_1 ≤ (255 : Int) → Ty.wf curQ g →
  Ty.wf i64T r_1 → CqOk g ∧ ∀ (g : List Int × Int × Int) (r_2 : Int), CqOk g ∧ (0 : Int) ≤ r_2 ∧ r_2 ≤ (255 : Int) → Ty.wf curQ g → Ty.wf i64T r_2 → x ≠ (0 : Int) ∧ CqOk g ∧ belowQ x (Int.tmod (IntKind.wrap IntKind.i64
  (IntKind.wrap IntKind.i64 (IntKind.wrap IntKind.i64 (r * (65536 : Int)) + IntKind.wrap IntKind.i64 (r_1 * (256 : Int))) + r_2)) x))) := by
  intro d x hd hx hp
  have hp : CqOk d := hp
  replace hx : i64T.wf x := hx
  simp only [Int.toNat_natCast, exists_const, and_true, true_and, implies_true, decide_eq_true_eq, decide_eq_false_iff_not, Bool.not_eq_true', Bool.not_eq_false', beq_iff_eq, forall_const]
  refine ⟨fun h => ⟨hp, Int.le_refl _, fun h2 => absurd h2 (by omega), fun _ => rfl⟩, fun h => ⟨fun h2 => ⟨hp, fun g r ⟨g1, g2, g3⟩ _ _ => ⟨by omega, g1, below_mod g2 (by omega)⟩⟩, fun h2 => ⟨hp, fun g r ⟨g1, g2, g3⟩ _ _ => ⟨g1, fun g' r1 ⟨g1', g2', g3'⟩ _ _ => ⟨g1', fun g'' r2 ⟨g1'', g2'', g3''⟩ _ _ => ⟨by omega, g1'', ?_⟩⟩⟩⟩⟩⟩
  refine below_mod ?_ (by omega)
  rw [wrap_small (n := r * 65536) (by omega), wrap_small (n := r1 * 256) (by omega), wrap_small (n := r * 65536 + r1 * 256) (by omega), wrap_small (by omega)]
  omega
theorem v_S_l01OnceQ :
  ∀ (d : List Int × Int × Int) (x : Int), Ty.wf curQ d → Ty.wf i64T x → CqOk d → CqOk d ∧ ∀ (g : List Int × Int × Int) (r : Int), CqOk g ∧ belowQ x r → Ty.wf curQ g → Ty.wf i64T r → CqOk g := by
  intro d n hd hn hp
  exact ⟨hp, fun g r h _ _ => h.1⟩
theorem v_S_l01PickIntQ :
  ∀ (d : List Int × Int × Int) (x : List Int), Ty.wf curQ d → Ty.wf (Ty.sl i64T) x → CqOk d ∧ (0 : Nat) < List.length x → CqOk d ∧ ∀ (g : List Int × Int × Int) (r : Int), CqOk g ∧ belowQ (↑(List.length x) : Int) r →
  Ty.wf curQ g → Ty.wf i64T r → ((0 : Int) ≤ r ∧ r < (↑(List.length x) : Int)) ∧ CqOk g ∧ pickQ x (List.getD x (Int.toNat r) (0 : Int)) := by
  intro d l hd hl hp
  have hp1 : 0 < (show List Int from l).length := hp.2
  refine ⟨hp.1, fun g r ⟨h1, h2, h3, _⟩ _ _ => ⟨⟨h2, h3 (by omega)⟩, h1, ?_⟩⟩
  have h4 := h3 (by omega)
  replace h2 : (0 : Int) ≤ r := h2
  unfold pickQ
  rw [List.getD_eq_getElem?_getD, List.getElem?_eq_getElem (by omega)]
  exact List.getElem_mem _
theorem v_S_l01NewQ :
  ∀ (x : List Int), Ty.wf (Ty.sl (Ty.int IntKind.u8)) x → List.length x ≤ (9223372036854775807 : Nat) → (0 : Nat) ≤ List.length x ∧ (x = x ∧ Value.pointer none = Value.pointer none ∧ IntKind.wrap IntKind.i64 ((710710 :
  Int) + (↑(List.length x) : Int)) = IntKind.wrap IntKind.i64 ((710710 : Int) + (↑(List.length x) : Int)) ∧ (0 : Int) = (↑(0 : Nat) : Int)) ∧ ∀ (x_1 : Nat × Int), x_1.1 ≤ List.length x → (decide ((↑x_1.1 : Int) <
  (↑(List.length x) : Int)) = true → (decide ((↑x_1.1 : Int) < (4000 : Int)) = true → ((0 : Int) ≤ (↑x_1.1 : Int) ∧ (↑x_1.1 : Int) < (↑(List.length x) : Int)) ∧ ∃ (x' : Nat × Int), x'.1 ≤ List.length x ∧ List.length x -
  x'.1 < List.length x - x_1.1 ∧ x = x ∧ Value.pointer none = Value.pointer none ∧ iand IntKind.i64 (IntKind.wrap IntKind.i64 (IntKind.wrap IntKind.i64 (IntKind.wrap IntKind.i64 (x_1.2 * (149 : Int)) + IntKind.wrap
  IntKind.i64 (List.getD x (Int.toNat (↑x_1.1 : Int)) (0 : Int))) + (11 : Int))) (1073741823 : Int) = x'.2 ∧ IntKind.wrap IntKind.i64 ((↑x_1.1 : Int) + (1 : Int)) = (↑x'.1 : Int)) ∧ (decide ((↑x_1.1 : Int) < (4000 :
  Int)) = false → CqOk (x, (0 : Int), x_1.2))) ∧ (decide ((↑x_1.1 : Int) < (↑(List.length x) : Int)) = false → CqOk (x, (0 : Int), x_1.2)) := by
  intro x hx hl
  have hl : x.length ≤ 9223372036854775807 := hl
  simp only [Int.toNat_natCast, exists_const, and_true, true_and, implies_true, decide_eq_true_eq, decide_eq_false_iff_not, Bool.not_eq_true', Bool.not_eq_false', beq_iff_eq, forall_const]
  refine ⟨Nat.zero_le _, rfl, fun y hy => ⟨fun h => ⟨fun h2 => ⟨⟨by omega, h⟩, (y.1 + 1, _), by simp only; omega, by simp only; omega, rfl, ?_⟩, fun _ => ⟨Int.le_refl _, hl⟩⟩, fun _ => ⟨Int.le_refl _, hl⟩⟩⟩
  rw [wrap_small (by omega)]; rfl
end Go.SF
