/- What is owed of the code of turners that go on. No condition. -/
import Derived.Test.YtobmiihdfklmaaaGreatSxPAdvB
namespace Go.SF
open Go.SX Go
set_option linter.unusedVariables false
set_option linter.unusedSimpArgs false
set_option maxRecDepth 10000
theorem shlN {n : Nat} (h : n ≤ 10) : ishl .i64 1 (n : Int) = ((2 ^ n : Nat) : Int) := by
  rw [ishl_pow (by omega)]
  exact (Int.natCast_pow 2 n).symm
theorem u64N {n : Nat} (h : n ≤ 26) : IntKind.u64.wrap (n : Int) = (n : Int) := u64_small ⟨n, by omega⟩
theorem ishr_div {x : Int} (hx : 0 ≤ x) {i : Nat} (hi : i ≤ 63) : ishr .i64 x (i : Int) = x / 2 ^ i := by
  unfold ishr
  rw [Int.toNat_natCast, show min i IntKind.i64.bits = i by show min i 64 = i; omega, Int.fdiv_eq_ediv_of_nonneg _ (Int.le_of_lt (Int.pow_pos (by omega)))]
theorem B_div {h x y : Nat} (hy : y < h) : (x * h + y) / h = x ∧ (x * h + y) % h = y := by
  rw [Nat.mul_comm, Nat.mul_add_div (by omega), Nat.div_eq_of_lt hy, Nat.mul_add_mod, Nat.mod_eq_of_lt hy]
  exact ⟨rfl, rfl⟩
theorem B_idx {h x y : Nat} (hy : y < h) : idxB h (x * h + y) = x * (2 * h) + y := by
  unfold idxB
  rw [(B_div hy).1, (B_div hy).2]
theorem v_S_Generator :
 ∀ (d : Int), Ty.wf i64T d → True → (decide (d = (0 : Int)) = true → (decide (d = (0 : Int)) = true → (3 : Int) = genF d) ∧ (decide (d = (0 : Int)) = false → (decide (d = (1 : Int)) = true → (decide (d = (1 : Int)) =
 true → (5 : Int) = genF d) ∧ (decide (d = (1 : Int)) = false → (decide (d = (4 : Int)) = true → (17 : Int) = genF d) ∧ (decide (d = (4 : Int)) = false → (decide (d = (5 : Int)) = true → (11 : Int) = genF d) ∧ (decide (d
 = (5 : Int)) = false → (0 : Int) = genF d)))) ∧ (decide (d = (1 : Int)) = false → (decide (d = (2 : Int)) = true → (5 : Int) = genF d) ∧ (decide (d = (2 : Int)) = false → (decide (d = (4 : Int)) = true → (17 : Int) =
 genF d) ∧ (decide (d = (4 : Int)) = false → (decide (d = (5 : Int)) = true → (11 : Int) = genF d) ∧ (decide (d = (5 : Int)) = false → (0 : Int) = genF d)))))) ∧ (decide (d = (0 : Int)) = false → (decide (d = (3 : Int))
 = true → (decide (d = (3 : Int)) = true → (3 : Int) = genF d) ∧ (decide (d = (3 : Int)) = false → (decide (d = (1 : Int)) = true → (decide (d = (1 : Int)) = true → (5 : Int) = genF d) ∧ (decide (d = (1 : Int)) = false →
 (decide (d = (4 : Int)) = true → (17 : Int) = genF d) ∧ (decide (d = (4 : Int)) = false → (decide (d = (5 : Int)) = true → (11 : Int) = genF d) ∧ (decide (d = (5 : Int)) = false → (0 : Int) = genF d)))) ∧ (decide (d =
 (1 : Int)) = false → (decide (d = (2 : Int)) = true → (5 : Int) = genF d) ∧ (decide (d = (2 : Int)) = false → (decide (d = (4 : Int)) = true → (17 : Int) = genF d) ∧ (decide (d = (4 : Int)) = false → (decide (d = (5 :
 Int)) = true → (11 : Int) = genF d) ∧ (decide (d = (5 : Int)) = false → (0 : Int) = genF d)))))) ∧ (decide (d = (3 : Int)) = false → (decide (d = (6 : Int)) = true → (decide (d = (6 : Int)) = true → (3 : Int) = genF d)
 ∧ (decide (d = (6 : Int)) = false → (decide (d = (1 : Int)) = true → (decide (d = (1 : Int)) = true → (5 : Int) = genF d) ∧ (decide (d = (1 : Int)) = false → (decide (d = (4 : Int)) = true → (17 : Int) = genF d) ∧
 (decide (d = (4 : Int)) = false → (decide (d = (5 : Int)) = true → (11 : Int) = genF d) ∧ (decide (d = (5 : Int)) = false → (0 : Int) = genF d)))) ∧ (decide (d = (1 : Int)) = false → (decide (d = (2 : Int)) = true → (5
 : Int) = genF d) ∧ (decide (d = (2 : Int)) = false → (decide (d = (4 : Int)) = true → (17 : Int) = genF d) ∧ (decide (d = (4 : Int)) = false → (decide (d = (5 : Int)) = true → (11 : Int) = genF d) ∧ (decide (d = (5 :
 Int)) = false → (0 : Int) = genF d)))))) ∧ (decide (d = (6 : Int)) = false → (decide (d = (7 : Int)) = true → (decide (d = (7 : Int)) = true → (3 : Int) = genF d) ∧ (decide (d = (7 : Int)) = false → (decide (d = (1 :
 Int)) = true → (decide (d = (1 : Int)) = true → (5 : Int) = genF d) ∧ (decide (d = (1 : Int)) = false → (decide (d = (4 : Int)) = true → (17 : Int) = genF d) ∧ (decide (d = (4 : Int)) = false → (decide (d = (5 : Int)) =
 true → (11 : Int) = genF d) ∧ (decide (d = (5 : Int)) = false → (0 : Int) = genF d)))) ∧ (decide (d = (1 : Int)) = false → (decide (d = (2 : Int)) = true → (5 : Int) = genF d) ∧ (decide (d = (2 : Int)) = false → (decide
 (d = (4 : Int)) = true → (17 : Int) = genF d) ∧ (decide (d = (4 : Int)) = false → (decide (d = (5 : Int)) = true → (11 : Int) = genF d) ∧ (decide (d = (5 : Int)) = false → (0 : Int) = genF d)))))) ∧ (decide (d = (7 :
 Int)) = false → (decide (d = (8 : Int)) = true → (3 : Int) = genF d) ∧ (decide (d = (8 : Int)) = false → (decide (d = (1 : Int)) = true → (decide (d = (1 : Int)) = true → (5 : Int) = genF d) ∧ (decide (d = (1 : Int)) =
 false → (decide (d = (4 : Int)) = true → (17 : Int) = genF d) ∧ (decide (d = (4 : Int)) = false → (decide (d = (5 : Int)) = true → (11 : Int) = genF d) ∧ (decide (d = (5 : Int)) = false → (0 : Int) = genF d)))) ∧
 (decide (d = (1 : Int)) = false → (decide (d = (2 : Int)) = true → (5 : Int) = genF d) ∧ (decide (d = (2 : Int)) = false → (decide (d = (4 : Int)) = true → (17 : Int) = genF d) ∧ (decide (d = (4 : Int)) = false →
 (decide (d = (5 : Int)) = true → (11 : Int) = genF d) ∧ (decide (d = (5 : Int)) = false → (0 : Int) = genF d))))))))) := by
  intro (f : Int) _ _
  by_cases h : 0 ≤ f ∧ f < 9
  · rcases field_cases h with rfl | rfl | rfl | rfl | rfl | rfl | rfl | rfl | rfl <;> simp [show genF 0 = 3 from rfl, show genF 1 = 5 from rfl, show genF 2 = 5 from rfl, show genF 3 = 3 from rfl, show genF 4 = 17 from rfl, show genF 5 = 11 from rfl, show genF 6 = 3 from rfl, show genF 7 = 3 from rfl, show genF 8 = 3 from rfl]
  · rw [gen_none h]
    simp only [Int.toNat_natCast, exists_const, and_true, true_and, implies_true, decide_eq_true_eq, decide_eq_false_iff_not, Bool.not_eq_true', Bool.not_eq_false', beq_iff_eq, forall_const]
    omega
theorem v_S_RootOf :
 ∀ (d : Int × Int), Ty.wf i64T d.1 ∧ Ty.wf i64T d.2 → True → True ∧ (Ty.wf i64T (modF d.1) → (decide (modF d.1 = (0 : Int)) = true → (-1 : Int) = rootS d.1 d.2) ∧ (decide (modF d.1 = (0 : Int)) = false → True ∧ (Ty.wf
 i64T (twoF d.1) → True ∧ ((!(decide ((0 : Int) ≤ d.2) && decide (d.2 ≤ twoF d.1))) = true → (-1 : Int) = rootS d.1 d.2) ∧ ((!(decide ((0 : Int) ≤ d.2) && decide (d.2 ≤ twoF d.1))) = false → True ∧ (Ty.wf i64T (genF d.1)
 → True ∧ (Ty.wf i64T (modF d.1) → (0 : Int) ≤ IntKind.wrap IntKind.u64 d.2 ∧ True ∧ (Ty.wf i64T (powS d.1 (genF d.1) (ishr IntKind.i64 (IntKind.wrap IntKind.i64 (modF d.1 - (1 : Int))) (IntKind.wrap IntKind.u64 d.2))) →
 powS d.1 (genF d.1) (ishr IntKind.i64 (IntKind.wrap IntKind.i64 (modF d.1 - (1 : Int))) (IntKind.wrap IntKind.u64 d.2)) = rootS d.1 d.2))))))) := by
  intro (d : Int × Int) hw hp
  obtain ⟨f, k⟩ := d
  simp only [Int.toNat_natCast, exists_const, and_true, true_and, implies_true, decide_eq_true_eq, decide_eq_false_iff_not, Bool.not_eq_true', Bool.not_eq_false', beq_iff_eq, forall_const]
  intro _
  refine ⟨fun h => by unfold rootS; rw [if_neg (fun hh => hh.1 h)], fun h _ => ⟨fun h1 => ?_, fun h1 _ _ => ?_⟩⟩
  · unfold rootS
    rw [if_neg (fun hh => by rw [decide_eq_true hh.2.1, decide_eq_true hh.2.2] at h1; cases h1)]
  · simp only [Bool.and_eq_true, decide_eq_true_eq] at h1
    obtain ⟨hp, hf⟩ := mod_is h
    have hb := mod_pos hf
    obtain ⟨n, rfl⟩ := Int.eq_ofNat_of_zero_le h1.1
    unfold IsMod at hp
    rw [u64N (by omega), wrap_small (n := modF f - 1) (by omega), ishr_div (by omega) (by omega), powS_at h]
    refine ⟨by omega, fun _ => ?_⟩
    unfold rootS
    rw [if_pos ⟨h, h1⟩, Int.toNat_natCast]
theorem v_I_root :
 ∀ (d : (Int × Int × Int) × Int), Ty.wf fldT d.1 ∧ Ty.wf i64T d.2 → IsMod d.1.1 ∧ El d.1.1 d.1.2.1 ∧ (0 : Tup [i64T]) ≤ d.2 ∧ d.2 ≤ (30 : Tup [i64T]) → (0 : Int) ≤ d.2 ∧ (IsMod d.1.1 ∧ El d.1.1 d.1.2.1 ∧ (0 : Tup [i64T])
 ≤ ishr IntKind.i64 (IntKind.wrap IntKind.i64 (d.1.1 - (1 : Int))) d.2) ∧ (Ty.wf i64T (powM d.1.1 d.1.2.1 (Int.toNat (ishr IntKind.i64 (IntKind.wrap IntKind.i64 (d.1.1 - (1 : Int))) d.2))) → powM d.1.1 d.1.2.1 (Int.toNat
 (ishr IntKind.i64 (IntKind.wrap IntKind.i64 (d.1.1 - (1 : Int))) d.2)) = rootI d.1 d.2) := by
  intro (d : Fd × Int) hw hp
  obtain ⟨⟨p, g, u⟩, k⟩ := d
  replace hp : IsMod p ∧ El p g ∧ (0 : Int) ≤ k ∧ k ≤ 30 := hp
  simp only [Int.toNat_natCast, exists_const, and_true, true_and, implies_true, decide_eq_true_eq, decide_eq_false_iff_not, Bool.not_eq_true', Bool.not_eq_false', beq_iff_eq, forall_const]
  obtain ⟨h0, h1, h2, h3⟩ := hp
  obtain ⟨n, rfl⟩ := Int.eq_ofNat_of_zero_le h2
  have h0' := h0
  unfold IsMod at h0'
  rw [wrap_small (n := p - 1) (by omega), ishr_div (by omega) (by omega)]
  refine ⟨by omega, ⟨h0, h1, ?_⟩, fun _ => rfl⟩
  exact Int.ediv_nonneg (by omega) (Int.le_of_lt (Int.pow_pos (by omega)))
end Go.SF
