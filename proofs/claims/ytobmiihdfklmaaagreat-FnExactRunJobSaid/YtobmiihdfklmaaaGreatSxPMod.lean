/- What is owed of the code of arithmetic modulo a number. No condition. -/
import Derived.Test.YtobmiihdfklmaaaGreatSxC
import Derived.Test.YtobmiihdfklmaaaGreatSxPField
namespace Go.SF
open Go.SX Go
set_option linter.unusedVariables false
set_option linter.unusedSimpArgs false
set_option maxRecDepth 10000
theorem modeq {p A B k : Int} (h : A = B + p * k) : A % p = B % p := by rw [h, Int.add_mul_emod_self_left]
theorem mod_split (x p : Int) : ∃ k, x % p = x + p * k := ⟨-(x / p), by rw [Int.emod_def, Int.mul_neg]; rfl⟩
theorem el_mod {p : Int} (h : 0 < p) (x : Int) : El p (x % p) := ⟨Int.emod_nonneg x (by omega), Int.emod_lt_of_pos x h⟩
theorem el_self {p x : Int} (h : El p x) : x % p = x := Int.emod_eq_of_lt h.1 h.2
theorem mul_mod_l (p a b : Int) : a % p * b % p = a * b % p := by
  obtain ⟨k, hk⟩ := mod_split a p
  exact modeq (k := k * b) (by rw [hk]; grind)
theorem mul_mod_r (p a b : Int) : a * (b % p) % p = a * b % p := by rw [Int.mul_comm, mul_mod_l, Int.mul_comm]
theorem add_mod_l (p a b : Int) : (a % p + b) % p = (a + b) % p := by
  obtain ⟨k, hk⟩ := mod_split a p
  exact modeq (k := k) (by rw [hk]; grind)
theorem add_mod_r (p a b : Int) : (a + b % p) % p = (a + b) % p := by rw [Int.add_comm, add_mod_l, Int.add_comm]
theorem sub_mod_l (p a b : Int) : (a % p - b) % p = (a - b) % p := by
  obtain ⟨k, hk⟩ := mod_split a p
  exact modeq (k := k) (by rw [hk]; grind)
theorem sub_mod_r (p a b : Int) : (a - b % p) % p = (a - b) % p := by
  obtain ⟨k, hk⟩ := mod_split b p
  exact modeq (k := -k) (by rw [hk]; grind)
theorem pow_mod (p a : Int) : ∀ n : Nat, (a % p) ^ n % p = a ^ n % p
  | 0 => by rw [Int.pow_zero, Int.pow_zero]
  | n + 1 => by
    rw [Int.pow_succ, Int.pow_succ, mul_mod_r, ← mul_mod_l, pow_mod p a n, mul_mod_l]
theorem tmod_pos {p x : Int} (hx : 0 ≤ x) : x.tmod p = x % p := Int.tmod_eq_emod_of_nonneg hx
theorem tmod_neg {p x : Int} (hp : 0 < p) (hx : x < 0) : x.tmod p = x % p ∧ x % p = 0 ∨ x.tmod p = x % p - p ∧ 0 < x % p := by
  have h := Int.emod_nonneg x (show p ≠ 0 by omega)
  by_cases hd : p ∣ x
  · exact .inl ⟨by rw [Int.tmod_eq_emod, if_pos (.inr hd)]; exact Int.sub_zero _, Int.emod_eq_zero_of_dvd hd⟩
  · refine .inr ⟨?_, ?_⟩
    · rw [Int.tmod_eq_emod, if_neg (by rintro (h | h); omega; exact hd h)]
      omega
    · have : x % p ≠ 0 := fun e => hd (Int.dvd_of_emod_eq_zero e)
      omega
theorem tmod_all {p x : Int} (hp : 0 < p) : x.tmod p = x % p ∧ (0 ≤ x ∨ x % p = 0) ∨ x.tmod p = x % p - p ∧ 0 < x % p ∧ x < 0 := by
  by_cases h : 0 ≤ x
  · exact .inl ⟨tmod_pos h, .inl h⟩
  · rcases tmod_neg hp (show x < 0 by omega) with h1 | h1
    · exact .inl ⟨h1.1, .inr h1.2⟩
    · exact .inr ⟨h1.1, h1.2, by omega⟩
theorem mod_cases (f : Int) : modF f = 0 ∧ ¬ (0 ≤ f ∧ f < 9) ∨ IsMod (modF f) ∧ 0 ≤ f ∧ f < 9 := by
  by_cases h : 0 ≤ f ∧ f < 9
  · have hb := mod_pos h
    exact .inr ⟨⟨hb.1, hb.2.1⟩, h⟩
  · exact .inl ⟨mod_none h, h⟩
theorem mod_is {f : Int} (h : modF f ≠ 0) : IsMod (modF f) ∧ 0 ≤ f ∧ f < 9 := by
  rcases mod_cases f with h1 | h1
  · exact absurd h1.1 h
  · exact h1
theorem mul_le_sq {p a b : Int} (hp : IsMod p) (ha : El p a) (hb : El p b) : 0 ≤ a * b ∧ a * b ≤ 1009095135000000000 := by
  unfold IsMod at hp
  unfold El at ha hb
  have h1 : a * b ≤ 1004535808 * 1004535808 := Int.mul_le_mul (by omega) (by omega) hb.1 (by omega)
  exact ⟨Int.mul_nonneg ha.1 hb.1, by omega⟩
theorem mulM_wrap {p a b : Int} (hp : IsMod p) (ha : El p a) (hb : El p b) : (IntKind.i64.wrap (a * b)).tmod p = mulM p a b := by
  have h := mul_le_sq hp ha hb
  rw [wrap_small (by omega), tmod_pos h.1]; rfl
theorem el_mulM {p : Int} (hp : IsMod p) (a b : Int) : El p (mulM p a b) := el_mod (by unfold IsMod at hp; omega) _
theorem el_addM {p : Int} (hp : IsMod p) (a b : Int) : El p (addM p a b) := el_mod (by unfold IsMod at hp; omega) _
theorem el_subM {p : Int} (hp : IsMod p) (a b : Int) : El p (subM p a b) := el_mod (by unfold IsMod at hp; omega) _
theorem el_powM {p : Int} (hp : IsMod p) (a : Int) (e : Nat) : El p (powM p a e) := el_mod (by unfold IsMod at hp; omega) _
theorem el_invM {p : Int} (hp : IsMod p) (a : Int) : El p (invM p a) := el_powM hp _ _
theorem el_one {p : Int} (hp : IsMod p) : El p 1 := by unfold IsMod at hp; exact ⟨by omega, by omega⟩
theorem el_zero {p : Int} (hp : IsMod p) : El p 0 := by unfold IsMod at hp; exact ⟨by omega, by omega⟩
theorem redS_none {f : Int} (h : modF f = 0) (x : Int) : redS f x = -1 := by unfold redS; rw [if_pos h]
theorem redS_at {f : Int} (h : modF f ≠ 0) (x : Int) : redS f x = x % modF f := by unfold redS; rw [if_neg h]
theorem addS_at {f : Int} (h : modF f ≠ 0) (a b : Int) : addS f a b = addM (modF f) a b := by unfold addS; rw [if_neg h]
theorem subS_at {f : Int} (h : modF f ≠ 0) (a b : Int) : subS f a b = subM (modF f) a b := by unfold subS; rw [if_neg h]
theorem mulS_at {f : Int} (h : modF f ≠ 0) (a b : Int) : mulS f a b = mulM (modF f) a b := by unfold mulS; rw [if_neg h]
theorem powS_at {f : Int} (h : modF f ≠ 0) (a e : Int) : powS f a e = powP (modF f) a e := by unfold powS; rw [if_neg h]
theorem powP_neg {p a : Int} (hp : IsMod p) (h : a % p ≠ 0) : powP p a (-1) = invM p a := by
  unfold IsMod at hp
  unfold powP invM
  rw [if_neg h]
  congr 2
  have := Int.add_mul_emod_self_left (p - 2) (p - 1) (-1)
  rw [show p - 2 + (p - 1) * -1 = -1 by omega] at this
  rw [this]
  exact Int.emod_eq_of_lt (by omega) (by omega)
theorem powJ_odd {p r : Int} (hp : IsMod p) {x : Int × Int × Nat} (h : PowJ p r x) (ho : (x.2.2 : Int).tmod 2 = 1) : PowJ p r (mulM p x.1 x.1, mulM p x.2.1 x.1, x.2.2 / 2) := by
  obtain ⟨a, b, n⟩ := x
  obtain ⟨h1, h2, h3, h4⟩ := h
  refine ⟨el_mulM hp _ _, el_mulM hp _ _, ?_, by simp only at h4 ⊢; omega⟩
  rw [← h3]
  simp only at *
  have hn : n = n / 2 + n / 2 + 1 := by
    have : (n : Int).tmod 2 = ((n % 2 : Nat) : Int) := rfl
    omega
  unfold mulM
  rw [mul_mod_l, ← mul_mod_r, pow_mod, mul_mod_r]
  conv => rhs; rw [hn]
  congr 1
  rw [Int.pow_succ, Int.pow_add, Int.mul_pow]
  grind
theorem powJ_even {p r : Int} (hp : IsMod p) {x : Int × Int × Nat} (h : PowJ p r x) (ho : ¬ (x.2.2 : Int).tmod 2 = 1) : PowJ p r (mulM p x.1 x.1, x.2.1, x.2.2 / 2) := by
  obtain ⟨a, b, n⟩ := x
  obtain ⟨h1, h2, h3, h4⟩ := h
  refine ⟨el_mulM hp _ _, h2, ?_, by simp only at h4 ⊢; omega⟩
  rw [← h3]
  simp only at *
  have hn : n = n / 2 + n / 2 := by
    have : (n : Int).tmod 2 = ((n % 2 : Nat) : Int) := rfl
    omega
  unfold mulM
  rw [← mul_mod_r, pow_mod, mul_mod_r]
  conv => rhs; rw [hn]
  congr 1
  rw [Int.pow_add, Int.mul_pow]
theorem powJ_end {p r : Int} {x : Int × Int × Nat} (h : PowJ p r x) (ho : ¬ (0 : Int) < (x.2.2 : Int)) : x.2.1 = r := by
  obtain ⟨a, b, n⟩ := x
  obtain ⟨h1, h2, h3, h4⟩ := h
  simp only at *
  obtain rfl : n = 0 := by omega
  rw [Int.pow_zero, Int.mul_one, el_self h2] at h3
  exact h3
theorem half_wrap {n : Nat} (h : (n : Int) ≤ 9223372036854775807) : IntKind.i64.wrap ((n : Int).tdiv 2) = ((n / 2 : Nat) : Int) := by
  have : (n : Int).tdiv 2 = ((n / 2 : Nat) : Int) := rfl
  rw [this, wrap_small (by omega)]
theorem v_S_Reduce :
 ∀ (d : Int × Int), Ty.wf i64T d.1 ∧ Ty.wf i64T d.2 → True → True ∧ (Ty.wf i64T (modF d.1) → (decide (modF d.1 = (0 : Int)) = true → (-1 : Int) = redS d.1 d.2) ∧ (decide (modF d.1 = (0 : Int)) = false → modF d.1 ≠ (0 :
 Int) ∧ (decide (Int.tmod d.2 (modF d.1) < (0 : Int)) = true → IntKind.wrap IntKind.i64 (Int.tmod d.2 (modF d.1) + modF d.1) = redS d.1 d.2) ∧ (decide (Int.tmod d.2 (modF d.1) < (0 : Int)) = false → Int.tmod d.2 (modF
 d.1) = redS d.1 d.2))) := by
  intro (d : Int × Int) hw _
  obtain ⟨f, x⟩ := d
  simp only [Int.toNat_natCast, exists_const, and_true, true_and, implies_true, decide_eq_true_eq, decide_eq_false_iff_not, Bool.not_eq_true', Bool.not_eq_false', beq_iff_eq, forall_const]
  intro _
  refine ⟨fun h => (redS_none h x).symm, fun h => ⟨h, fun h1 => ?_, fun h1 => ?_⟩⟩
  all_goals
    have hp := (mod_is h).1
    unfold IsMod at hp
    rw [redS_at h]
    rcases tmod_all (p := modF f) (x := x) (by omega) with ⟨e, h2⟩ | ⟨e, h2, h3⟩
  · have := Int.emod_nonneg x h; omega
  · rw [e, Int.sub_add_cancel, wrap_small]
    have := el_mod (p := modF f) (by omega) x
    unfold El at this
    omega
  · exact e
  · have := el_mod (p := modF f) (by omega) x
    unfold El at this
    omega
theorem v_S_Add :
 ∀ (d : Int × Int × Int), Ty.wf i64T d.1 ∧ Ty.wf i64T d.2.1 ∧ Ty.wf i64T d.2.2 → True → True ∧ (Ty.wf i64T (modF d.1) → (decide (modF d.1 = (0 : Int)) = true → (-1 : Int) = addS d.1 d.2.1 d.2.2) ∧ (decide (modF d.1 = (0
 : Int)) = false → True ∧ (Ty.wf i64T (redS d.1 d.2.1) → True ∧ (Ty.wf i64T (redS d.1 d.2.2) → True ∧ (Ty.wf i64T (redS d.1 (IntKind.wrap IntKind.i64 (redS d.1 d.2.1 + redS d.1 d.2.2))) → redS d.1 (IntKind.wrap
 IntKind.i64 (redS d.1 d.2.1 + redS d.1 d.2.2)) = addS d.1 d.2.1 d.2.2))))) := by
  intro (d : Int × Int × Int) hw _
  obtain ⟨f, a, b⟩ := d
  simp only [Int.toNat_natCast, exists_const, and_true, true_and, implies_true, decide_eq_true_eq, decide_eq_false_iff_not, Bool.not_eq_true', Bool.not_eq_false', beq_iff_eq, forall_const]
  intro _
  refine ⟨fun h => by unfold addS; rw [if_pos h], fun h _ _ _ => ?_⟩
  have hp := (mod_is h).1
  have h0 := el_mod (p := modF f) (by unfold IsMod at hp; omega) a
  have h1 := el_mod (p := modF f) (by unfold IsMod at hp; omega) b
  unfold El at h0 h1
  unfold IsMod at hp
  rw [redS_at h, redS_at h, redS_at h, addS_at h, wrap_small (by omega), addM, add_mod_l, add_mod_r]
theorem v_S_Sub :
 ∀ (d : Int × Int × Int), Ty.wf i64T d.1 ∧ Ty.wf i64T d.2.1 ∧ Ty.wf i64T d.2.2 → True → True ∧ (Ty.wf i64T (modF d.1) → (decide (modF d.1 = (0 : Int)) = true → (-1 : Int) = subS d.1 d.2.1 d.2.2) ∧ (decide (modF d.1 = (0
 : Int)) = false → True ∧ (Ty.wf i64T (redS d.1 d.2.1) → True ∧ (Ty.wf i64T (redS d.1 d.2.2) → True ∧ (Ty.wf i64T (redS d.1 (IntKind.wrap IntKind.i64 (redS d.1 d.2.1 - redS d.1 d.2.2))) → redS d.1 (IntKind.wrap
 IntKind.i64 (redS d.1 d.2.1 - redS d.1 d.2.2)) = subS d.1 d.2.1 d.2.2))))) := by
  intro (d : Int × Int × Int) hw _
  obtain ⟨f, a, b⟩ := d
  simp only [Int.toNat_natCast, exists_const, and_true, true_and, implies_true, decide_eq_true_eq, decide_eq_false_iff_not, Bool.not_eq_true', Bool.not_eq_false', beq_iff_eq, forall_const]
  intro _
  refine ⟨fun h => by unfold subS; rw [if_pos h], fun h _ _ _ => ?_⟩
  have hp := (mod_is h).1
  have h0 := el_mod (p := modF f) (by unfold IsMod at hp; omega) a
  have h1 := el_mod (p := modF f) (by unfold IsMod at hp; omega) b
  unfold El at h0 h1
  unfold IsMod at hp
  rw [redS_at h, redS_at h, redS_at h, subS_at h, wrap_small (by omega), subM, sub_mod_l, sub_mod_r]
theorem v_S_Mul :
 ∀ (d : Int × Int × Int), Ty.wf i64T d.1 ∧ Ty.wf i64T d.2.1 ∧ Ty.wf i64T d.2.2 → True → True ∧ (Ty.wf i64T (modF d.1) → (decide (modF d.1 = (0 : Int)) = true → (-1 : Int) = mulS d.1 d.2.1 d.2.2) ∧ (decide (modF d.1 = (0
 : Int)) = false → True ∧ (Ty.wf i64T (redS d.1 d.2.1) → True ∧ (Ty.wf i64T (redS d.1 d.2.2) → True ∧ (Ty.wf i64T (redS d.1 (IntKind.wrap IntKind.i64 (redS d.1 d.2.1 * redS d.1 d.2.2))) → redS d.1 (IntKind.wrap
 IntKind.i64 (redS d.1 d.2.1 * redS d.1 d.2.2)) = mulS d.1 d.2.1 d.2.2))))) := by
  intro (d : Int × Int × Int) hw _
  obtain ⟨f, a, b⟩ := d
  simp only [Int.toNat_natCast, exists_const, and_true, true_and, implies_true, decide_eq_true_eq, decide_eq_false_iff_not, Bool.not_eq_true', Bool.not_eq_false', beq_iff_eq, forall_const]
  intro _
  refine ⟨fun h => by unfold mulS; rw [if_pos h], fun h _ _ _ => ?_⟩
  have hp := (mod_is h).1
  have h0 := el_mod (p := modF f) (by unfold IsMod at hp; omega) a
  have h1 := el_mod (p := modF f) (by unfold IsMod at hp; omega) b
  have h2 := mul_le_sq hp h0 h1
  rw [redS_at h, redS_at h, redS_at h, mulS_at h, wrap_small (by omega), mulM, mul_mod_l, mul_mod_r]
theorem v_S_Power :
 ∀ (d : Int × Int × Int), Ty.wf i64T d.1 ∧ Ty.wf i64T d.2.1 ∧ Ty.wf i64T d.2.2 → True → True ∧ (Ty.wf i64T (modF d.1) → (decide (modF d.1 = (0 : Int)) = true → (-1 : Int) = powS d.1 d.2.1 d.2.2) ∧ (decide (modF d.1 = (0
 : Int)) = false → True ∧ (Ty.wf i64T (redS d.1 d.2.1) → (decide (redS d.1 d.2.1 = (0 : Int)) = true → (decide (d.2.2 = (0 : Int)) = true → (1 : Int) = powS d.1 d.2.1 d.2.2) ∧ (decide (d.2.2 = (0 : Int)) = false →
 (decide (d.2.2 < (0 : Int)) = true → (-1 : Int) = powS d.1 d.2.1 d.2.2) ∧ (decide (d.2.2 < (0 : Int)) = false → (0 : Int) = powS d.1 d.2.1 d.2.2))) ∧ (decide (redS d.1 d.2.1 = (0 : Int)) = false → IntKind.wrap
 IntKind.i64 (modF d.1 - (1 : Int)) ≠ (0 : Int) ∧ ((decide (Int.tmod d.2.2 (IntKind.wrap IntKind.i64 (modF d.1 - (1 : Int))) < (0 : Int)) = true → ∃ (x' : Unit), True ∧ d.1 = d.1 ∧ d.2.1 = d.2.1 ∧ d.2.2 = d.2.2 ∧ (0 :
 Int) = (0 : Int) ∧ modF d.1 = modF d.1 ∧ redS d.1 d.2.1 = redS d.1 d.2.1 ∧ IntKind.wrap IntKind.i64 (IntKind.wrap IntKind.i64 (Int.tmod d.2.2 (IntKind.wrap IntKind.i64 (modF d.1 - (1 : Int))) + modF d.1) - (1 : Int)) =
 (↑(Int.toNat (d.2.2 % (modF d.1 - (1 : Int)))) : Int)) ∧ (decide (Int.tmod d.2.2 (IntKind.wrap IntKind.i64 (modF d.1 - (1 : Int))) < (0 : Int)) = false → ∃ (x' : Unit), True ∧ d.1 = d.1 ∧ d.2.1 = d.2.1 ∧ d.2.2 = d.2.2 ∧
 (0 : Int) = (0 : Int) ∧ modF d.1 = modF d.1 ∧ redS d.1 d.2.1 = redS d.1 d.2.1 ∧ Int.tmod d.2.2 (IntKind.wrap IntKind.i64 (modF d.1 - (1 : Int))) = (↑(Int.toNat (d.2.2 % (modF d.1 - (1 : Int)))) : Int))) ∧ ∀ (x : Unit),
 True → PowJ (modF d.1) (powM (modF d.1) d.2.1 (Int.toNat (d.2.2 % (modF d.1 - (1 : Int))))) (d.2.1 % modF d.1, (1 : Int), Int.toNat (d.2.2 % (modF d.1 - (1 : Int)))) ∧ (d.1 = d.1 ∧ d.2.1 = d.2.1 ∧ d.2.2 = d.2.2 ∧ (0 :
 Int) = (0 : Int) ∧ modF d.1 = modF d.1 ∧ redS d.1 d.2.1 = d.2.1 % modF d.1 ∧ (↑(Int.toNat (d.2.2 % (modF d.1 - (1 : Int)))) : Int) = (↑(Int.toNat (d.2.2 % (modF d.1 - (1 : Int)))) : Int) ∧ (1 : Int) = (1 : Int)) ∧ ∀ (x
 : Int × Int × Nat), PowJ (modF d.1) (powM (modF d.1) d.2.1 (Int.toNat (d.2.2 % (modF d.1 - (1 : Int))))) x → (decide ((0 : Int) < (↑x.2.2 : Int)) = true → (2 : Int) ≠ (0 : Int) ∧ (decide (Int.tmod (↑x.2.2 : Int) (2 :
 Int) = (1 : Int)) = true → modF d.1 ≠ (0 : Int) ∧ modF d.1 ≠ (0 : Int) ∧ (2 : Int) ≠ (0 : Int) ∧ ∃ (x' : Int × Int × Nat), PowJ (modF d.1) (powM (modF d.1) d.2.1 (Int.toNat (d.2.2 % (modF d.1 - (1 : Int))))) x' ∧ x'.2.2
 < x.2.2 ∧ d.1 = d.1 ∧ d.2.1 = d.2.1 ∧ d.2.2 = d.2.2 ∧ (0 : Int) = (0 : Int) ∧ modF d.1 = modF d.1 ∧ Int.tmod (IntKind.wrap IntKind.i64 (x.1 * x.1)) (modF d.1) = x'.1 ∧ IntKind.wrap IntKind.i64 (Int.tdiv (↑x.2.2 : Int)
 (2 : Int)) = (↑x'.2.2 : Int) ∧ Int.tmod (IntKind.wrap IntKind.i64 (x.2.1 * x.1)) (modF d.1) = x'.2.1) ∧ (decide (Int.tmod (↑x.2.2 : Int) (2 : Int) = (1 : Int)) = false → modF d.1 ≠ (0 : Int) ∧ (2 : Int) ≠ (0 : Int) ∧ ∃
 (x' : Int × Int × Nat), PowJ (modF d.1) (powM (modF d.1) d.2.1 (Int.toNat (d.2.2 % (modF d.1 - (1 : Int))))) x' ∧ x'.2.2 < x.2.2 ∧ d.1 = d.1 ∧ d.2.1 = d.2.1 ∧ d.2.2 = d.2.2 ∧ (0 : Int) = (0 : Int) ∧ modF d.1 = modF d.1
 ∧ Int.tmod (IntKind.wrap IntKind.i64 (x.1 * x.1)) (modF d.1) = x'.1 ∧ IntKind.wrap IntKind.i64 (Int.tdiv (↑x.2.2 : Int) (2 : Int)) = (↑x'.2.2 : Int) ∧ x.2.1 = x'.2.1)) ∧ (decide ((0 : Int) < (↑x.2.2 : Int)) = false →
 x.2.1 = powS d.1 d.2.1 d.2.2))))) := by
  intro (d : Int × Int × Int) hw _
  obtain ⟨f, a, e⟩ := d
  simp only [Int.toNat_natCast, exists_const, and_true, true_and, implies_true, decide_eq_true_eq, decide_eq_false_iff_not, Bool.not_eq_true', Bool.not_eq_false', beq_iff_eq, forall_const]
  intro _
  refine ⟨fun h => by unfold powS; rw [if_pos h], fun h _ => ?_⟩
  have hp := (mod_is h).1
  have hp' := hp
  unfold IsMod at hp
  rw [redS_at h, powS_at h, wrap_small (n := modF f - 1) (by omega)]
  have hen := el_mod (p := modF f - 1) (by omega) e
  unfold El at hen
  refine ⟨fun h1 => ⟨fun h2 => by unfold powP; rw [if_pos h1, if_pos h2], fun h2 => ⟨fun h3 => by unfold powP; rw [if_pos h1, if_neg h2, if_pos h3], fun h3 => by unfold powP; rw [if_pos h1, if_neg h2, if_neg h3]⟩⟩, fun h1 => ⟨by omega, ⟨fun h2 => ?_, fun h2 => ?_⟩, ?_⟩⟩
  · rcases tmod_all (p := modF f - 1) (x := e) (by omega) with ⟨g, _⟩ | ⟨g, h3, h4⟩
    · omega
    · rw [g, wrap_small (n := e % (modF f - 1) - (modF f - 1) + modF f) (by omega), wrap_small (by omega)]
      omega
  · rcases tmod_all (p := modF f - 1) (x := e) (by omega) with ⟨g, _⟩ | ⟨g, h3, h4⟩ <;> omega
  · refine ⟨⟨el_mod (by omega) a, el_one hp', ?_, by simp only; omega⟩, rfl, fun x hx => ⟨fun h2 => ⟨by decide, fun h3 => ⟨h, h, by decide, ?_⟩, fun h3 => ⟨h, by decide, ?_⟩⟩, fun h2 => ?_⟩⟩
    · simp only [Int.one_mul]; exact pow_mod _ _ _
    · exact ⟨_, powJ_odd hp' hx h3, by show x.2.2 / 2 < x.2.2; omega, mulM_wrap hp' hx.1 hx.1, half_wrap hx.2.2.2, mulM_wrap hp' hx.2.1 hx.1⟩
    · exact ⟨_, powJ_even hp' hx h3, by show x.2.2 / 2 < x.2.2; omega, mulM_wrap hp' hx.1 hx.1, half_wrap hx.2.2.2, rfl⟩
    · rw [powJ_end hx h2]
      unfold powP
      rw [if_neg h1]
theorem v_S_Inverse :
 ∀ (d : Int × Int), Ty.wf i64T d.1 ∧ Ty.wf i64T d.2 → True → True ∧ (Ty.wf i64T (powS d.1 d.2 (-1 : Int)) → powS d.1 d.2 (-1 : Int) = powS d.1 d.2 (-1 : Int)) := by
  intro (d : Int × Int) hw _
  simp only [Int.toNat_natCast, exists_const, and_true, true_and, implies_true, decide_eq_true_eq, decide_eq_false_iff_not, Bool.not_eq_true', Bool.not_eq_false', beq_iff_eq, forall_const]
theorem v_I_add :
 ∀ (d : (Int × Int × Int) × Int × Int), Ty.wf fldT d.1 ∧ Ty.wf i64T d.2.1 ∧ Ty.wf i64T d.2.2 → IsMod d.1.1 ∧ El d.1.1 d.2.1 ∧ El d.1.1 d.2.2 → d.1.1 ≠ (0 : Int) ∧ Int.tmod (IntKind.wrap IntKind.i64 (d.2.1 + d.2.2)) d.1.1
 = addM d.1.1 d.2.1 d.2.2 := by
  intro (d : Fd × Int × Int) hw hp
  obtain ⟨⟨p, g, t⟩, a, b⟩ := d
  replace hp : IsMod p ∧ El p a ∧ El p b := hp
  simp only [Int.toNat_natCast, exists_const, and_true, true_and, implies_true, decide_eq_true_eq, decide_eq_false_iff_not, Bool.not_eq_true', Bool.not_eq_false', beq_iff_eq, forall_const]
  obtain ⟨h0, h1, h2⟩ := hp
  unfold IsMod at h0; unfold El at h1 h2
  rw [wrap_small (by omega)]
  exact ⟨by omega, tmod_pos (by omega)⟩
theorem v_I_sub :
 ∀ (d : (Int × Int × Int) × Int × Int), Ty.wf fldT d.1 ∧ Ty.wf i64T d.2.1 ∧ Ty.wf i64T d.2.2 → IsMod d.1.1 ∧ El d.1.1 d.2.1 ∧ El d.1.1 d.2.2 → d.1.1 ≠ (0 : Int) ∧ Int.tmod (IntKind.wrap IntKind.i64 (IntKind.wrap
 IntKind.i64 (d.2.1 - d.2.2) + d.1.1)) d.1.1 = subM d.1.1 d.2.1 d.2.2 := by
  intro (d : Fd × Int × Int) hw hp
  obtain ⟨⟨p, g, t⟩, a, b⟩ := d
  replace hp : IsMod p ∧ El p a ∧ El p b := hp
  simp only [Int.toNat_natCast, exists_const, and_true, true_and, implies_true, decide_eq_true_eq, decide_eq_false_iff_not, Bool.not_eq_true', Bool.not_eq_false', beq_iff_eq, forall_const]
  obtain ⟨h0, h1, h2⟩ := hp
  unfold IsMod at h0; unfold El at h1 h2
  rw [wrap_small (n := a - b) (by omega), wrap_small (by omega)]
  refine ⟨by omega, ?_⟩
  rw [tmod_pos (by omega), Int.add_emod_right]; rfl
theorem v_I_mul :
 ∀ (d : (Int × Int × Int) × Int × Int), Ty.wf fldT d.1 ∧ Ty.wf i64T d.2.1 ∧ Ty.wf i64T d.2.2 → IsMod d.1.1 ∧ El d.1.1 d.2.1 ∧ El d.1.1 d.2.2 → d.1.1 ≠ (0 : Int) ∧ Int.tmod (IntKind.wrap IntKind.i64 (d.2.1 * d.2.2)) d.1.1
 = mulM d.1.1 d.2.1 d.2.2 := by
  intro (d : Fd × Int × Int) hw hp
  obtain ⟨⟨p, g, t⟩, a, b⟩ := d
  replace hp : IsMod p ∧ El p a ∧ El p b := hp
  simp only [Int.toNat_natCast, exists_const, and_true, true_and, implies_true, decide_eq_true_eq, decide_eq_false_iff_not, Bool.not_eq_true', Bool.not_eq_false', beq_iff_eq, forall_const]
  obtain ⟨h0, h1, h2⟩ := hp
  exact ⟨by unfold IsMod at h0; omega, mulM_wrap h0 h1 h2⟩
theorem v_I_power :
 ∀ (d : (Int × Int × Int) × Int × Int), Ty.wf fldT d.1 ∧ Ty.wf i64T d.2.1 ∧ Ty.wf i64T d.2.2 → IsMod d.1.1 ∧ El d.1.1 d.2.1 ∧ (0 : Tup [i64T]) ≤ d.2.2 → PowJ d.1.1 (powM d.1.1 d.2.1 d.2.2.toNat) (d.2.1, (1 : Int),
 d.2.2.toNat) ∧ (((d.1.1 = d.1.1 ∧ d.1.2.1 = d.1.2.1 ∧ d.1.2.2 = d.1.2.2) ∧ d.2.1 = d.2.1 ∧ d.2.2 = (↑d.2.2.toNat : Int) ∧ (0 : Int) = (0 : Int) ∧ (1 : Int) = (1 : Int)) ∧ d.1.1 = d.1.1 ∧ d.1.2.1 = d.1.2.1 ∧ d.1.2.2 =
 d.1.2.2) ∧ ∀ (x : Int × Int × Nat), PowJ d.1.1 (powM d.1.1 d.2.1 d.2.2.toNat) x → (decide ((0 : Int) < (↑x.2.2 : Int)) = true → (2 : Int) ≠ (0 : Int) ∧ (decide (Int.tmod (↑x.2.2 : Int) (2 : Int) = (1 : Int)) = true →
 (IsMod d.1.1 ∧ El d.1.1 x.2.1 ∧ El d.1.1 x.1) ∧ (Ty.wf i64T (mulM d.1.1 x.2.1 x.1) → (IsMod d.1.1 ∧ El d.1.1 x.1 ∧ El d.1.1 x.1) ∧ (Ty.wf i64T (mulM d.1.1 x.1 x.1) → (2 : Int) ≠ (0 : Int) ∧ ∃ (x' : Int × Int × Nat),
 PowJ d.1.1 (powM d.1.1 d.2.1 d.2.2.toNat) x' ∧ x'.2.2 < x.2.2 ∧ ((d.1.1 = d.1.1 ∧ d.1.2.1 = d.1.2.1 ∧ d.1.2.2 = d.1.2.2) ∧ mulM d.1.1 x.1 x.1 = x'.1 ∧ IntKind.wrap IntKind.i64 (Int.tdiv (↑x.2.2 : Int) (2 : Int)) =
 (↑x'.2.2 : Int) ∧ (0 : Int) = (0 : Int) ∧ mulM d.1.1 x.2.1 x.1 = x'.2.1) ∧ d.1.1 = d.1.1 ∧ d.1.2.1 = d.1.2.1 ∧ d.1.2.2 = d.1.2.2))) ∧ (decide (Int.tmod (↑x.2.2 : Int) (2 : Int) = (1 : Int)) = false → (IsMod d.1.1 ∧ El
 d.1.1 x.1 ∧ El d.1.1 x.1) ∧ (Ty.wf i64T (mulM d.1.1 x.1 x.1) → (2 : Int) ≠ (0 : Int) ∧ ∃ (x' : Int × Int × Nat), PowJ d.1.1 (powM d.1.1 d.2.1 d.2.2.toNat) x' ∧ x'.2.2 < x.2.2 ∧ ((d.1.1 = d.1.1 ∧ d.1.2.1 = d.1.2.1 ∧
 d.1.2.2 = d.1.2.2) ∧ mulM d.1.1 x.1 x.1 = x'.1 ∧ IntKind.wrap IntKind.i64 (Int.tdiv (↑x.2.2 : Int) (2 : Int)) = (↑x'.2.2 : Int) ∧ (0 : Int) = (0 : Int) ∧ x.2.1 = x'.2.1) ∧ d.1.1 = d.1.1 ∧ d.1.2.1 = d.1.2.1 ∧ d.1.2.2 =
 d.1.2.2))) ∧ (decide ((0 : Int) < (↑x.2.2 : Int)) = false → x.2.1 = powM d.1.1 d.2.1 d.2.2.toNat) := by
  intro (d : Fd × Int × Int) hw hp
  obtain ⟨⟨p, g, t⟩, a, e⟩ := d
  replace hp : IsMod p ∧ El p a ∧ (0 : Int) ≤ e := hp
  simp only [Int.toNat_natCast, exists_const, and_true, true_and, implies_true, decide_eq_true_eq, decide_eq_false_iff_not, Bool.not_eq_true', Bool.not_eq_false', beq_iff_eq, forall_const]
  obtain ⟨h0, h1, h2⟩ := hp
  have he : e ≤ 9223372036854775807 := hw.2.2.2
  refine ⟨⟨h1, el_one h0, by simp only [Int.one_mul]; rfl, by simp only; omega⟩, by omega, fun x hx => ⟨fun h3 => ⟨by decide, fun h4 => ⟨⟨h0, hx.2.1, hx.1⟩, fun _ => ⟨⟨h0, hx.1, hx.1⟩, fun _ => ⟨by decide, ?_⟩⟩⟩, fun h4 => ⟨⟨h0, hx.1, hx.1⟩, fun _ => ⟨by decide, ?_⟩⟩⟩, fun h3 => powJ_end hx h3⟩⟩
  · exact ⟨_, powJ_odd h0 hx h4, by show x.2.2 / 2 < x.2.2; omega, rfl, half_wrap hx.2.2.2, rfl⟩
  · exact ⟨_, powJ_even h0 hx h4, by show x.2.2 / 2 < x.2.2; omega, rfl, half_wrap hx.2.2.2, rfl⟩
theorem v_I_inverse :
 ∀ (d : (Int × Int × Int) × Int), Ty.wf fldT d.1 ∧ Ty.wf i64T d.2 → IsMod d.1.1 ∧ El d.1.1 d.2 → (IsMod d.1.1 ∧ El d.1.1 d.2 ∧ (0 : Tup [i64T]) ≤ IntKind.wrap IntKind.i64 (d.1.1 - (2 : Int))) ∧ (Ty.wf i64T (powM d.1.1
 d.2 (Int.toNat (IntKind.wrap IntKind.i64 (d.1.1 - (2 : Int))))) → powM d.1.1 d.2 (Int.toNat (IntKind.wrap IntKind.i64 (d.1.1 - (2 : Int)))) = invM d.1.1 d.2) := by
  intro (d : Fd × Int) hw hp
  obtain ⟨⟨p, g, t⟩, a⟩ := d
  replace hp : IsMod p ∧ El p a := hp
  simp only [Int.toNat_natCast, exists_const, and_true, true_and, implies_true, decide_eq_true_eq, decide_eq_false_iff_not, Bool.not_eq_true', Bool.not_eq_false', beq_iff_eq, forall_const]
  have h0 := hp.1
  unfold IsMod at h0
  have hw2 : IntKind.i64.wrap (p - 2) = p - 2 := wrap_small (by omega)
  rw [hw2]
  exact ⟨⟨hp.1, hp.2, show (0 : Int) ≤ p - 2 by omega⟩, fun _ => rfl⟩
end Go.SF
