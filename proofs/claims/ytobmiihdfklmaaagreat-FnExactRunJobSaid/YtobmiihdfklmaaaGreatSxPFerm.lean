/- Fermat: for all nine moduli. No condition. -/
import Derived.Test.YtobmiihdfklmaaaGreatSxPCyc
namespace Go.SF
open Go.SX Go
set_option linter.unusedVariables false
set_option linter.unusedSimpArgs false
def chs : Nat → Nat → Nat
  | _, 0 => 1
  | 0, _ + 1 => 0
  | n + 1, k + 1 => chs n k + chs n (k + 1)
theorem chs_gt : ∀ n k, n < k → chs n k = 0
  | n, 0, h => absurd h (Nat.not_lt_zero _)
  | 0, k + 1, _ => rfl
  | n + 1, k + 1, h => by rw [chs, chs_gt n k (by omega), chs_gt n (k + 1) (by omega)]
theorem chs_self : ∀ n, chs n n = 1
  | 0 => rfl
  | n + 1 => by rw [chs, chs_self n, chs_gt n (n + 1) (by omega)]
theorem chs_zero : ∀ n, chs n 0 = 1
  | 0 => rfl
  | n + 1 => rfl
theorem chs_one : ∀ n, chs n 1 = n
  | 0 => rfl
  | n + 1 => by rw [chs, chs_zero, chs_one n]; omega
theorem chs_abs : ∀ n k, (k + 1) * chs (n + 1) (k + 1) = (n + 1) * chs n k
  | 0, 0 => rfl
  | 0, k + 1 => by rw [chs_gt 1 (k + 1 + 1) (by omega), chs_gt 0 (k + 1) (by omega)]; simp
  | n + 1, 0 => by
    rw [chs_one]
    show (0 + 1) * (n + 1 + 1) = (n + 1 + 1) * 1
    omega
  | n + 1, k + 1 => by
    have h1 := chs_abs n k
    have h2 := chs_abs n (k + 1)
    rw [chs, Nat.mul_add, h2, show (k + 1 + 1) * chs (n + 1) (k + 1) = (k + 1) * chs (n + 1) (k + 1) + chs (n + 1) (k + 1) by rw [Nat.add_mul _ 1, Nat.one_mul], h1]
    have h3 : chs (n + 1) (k + 1) = chs n k + chs n (k + 1) := rfl
    rw [h3, show (n + 1 + 1) * (chs n k + chs n (k + 1)) = (n + 1) * (chs n k + chs n (k + 1)) + (chs n k + chs n (k + 1)) by rw [Nat.add_mul _ 1, Nat.one_mul], Nat.mul_add]
    omega
theorem sigN_shift (f : Nat → Int) : ∀ n, sigN f (n + 1) = f 0 + sigN (fun k => f (k + 1)) n
  | 0 => by simp [sigN]
  | n + 1 => by rw [sigN, sigN_shift f n, sigN]; omega
theorem binom (x : Int) : ∀ n, (x + 1) ^ n = sigN (fun k => (chs n k : Int) * x ^ k) (n + 1)
  | 0 => by simp [sigN, chs]
  | n + 1 => by
    rw [Int.pow_succ, binom x n, Int.mul_add, Int.mul_one]
    have h1 : sigN (fun k => (chs n k : Int) * x ^ k) (n + 1) * x = sigN (fun k => (chs n k : Int) * x ^ (k + 1)) (n + 1) := by
      rw [Int.mul_comm, ← sigN_mul]
      refine sigN_congr _ fun k _ => ?_
      rw [Int.pow_succ]; ac_rfl
    have h2 : sigN (fun k => (chs (n + 1) k : Int) * x ^ k) (n + 1 + 1) = 1 + sigN (fun k => (chs n k : Int) * x ^ (k + 1) + (chs n (k + 1) : Int) * x ^ (k + 1)) (n + 1) := by
      rw [sigN_shift]
      congr 1
      · simp [chs]
      · refine sigN_congr _ fun k _ => ?_
        rw [chs]
        push_cast
        rw [Int.add_mul]
    have h3 : sigN (fun k => (chs n k : Int) * x ^ k) (n + 1) = 1 + sigN (fun k => (chs n (k + 1) : Int) * x ^ (k + 1)) (n + 1) := by
      have : sigN (fun k => (chs n k : Int) * x ^ k) (n + 1 + 1) = 1 + sigN (fun k => (chs n (k + 1) : Int) * x ^ (k + 1)) (n + 1) := by
        rw [sigN_shift]; congr 1
        simp [chs]
      rw [← this]
      show _ = sigN (fun k => (chs n k : Int) * x ^ k) (n + 1) + (chs n (n + 1) : Int) * x ^ (n + 1)
      rw [chs_gt n (n + 1) (by omega)]
      simp
    rw [h1, h2, sigN_add, h3]
    omega
theorem chs_div {p n : Nat} (hp : p = n + 1) (hpr : ∀ a b : Int, a * b % (p : Int) = 0 → a % (p : Int) = 0 ∨ b % (p : Int) = 0) : ∀ k, 0 < k → k < p → (chs p k : Int) % (p : Int) = 0
  | 0, h, _ => absurd h (Nat.lt_irrefl 0)
  | k + 1, _, hk => by
    subst hp
    have h := chs_abs n k
    have h2 : ((k + 1 : Nat) : Int) * (chs (n + 1) (k + 1) : Int) % ((n + 1 : Nat) : Int) = 0 := by
      rw [← Int.natCast_mul, h, Int.natCast_mul, Int.mul_emod_right]
    rcases hpr _ _ h2 with h3 | h3
    · rw [Int.emod_eq_of_lt (by omega) (by omega)] at h3; omega
    · exact h3
theorem fermat_nat {p n : Nat} (hp : p = n + 1) (hpr : ∀ a b : Int, a * b % (p : Int) = 0 → a % (p : Int) = 0 ∨ b % (p : Int) = 0) : ∀ x : Nat, (x : Int) ^ p % (p : Int) = (x : Int) % (p : Int)
  | 0 => by subst hp; rw [Int.pow_succ]; simp
  | x + 1 => by
    have h := fermat_nat hp hpr x
    have hb := binom (x : Int) p
    have h1 : sigN (fun k => (chs p k : Int) * (x : Int) ^ k) (p + 1) % (p : Int) = (1 + (x : Int) ^ p) % (p : Int) := by
      subst hp
      rw [sigN, sigN_shift, chs_self]
      have : sigN (fun k => (chs (n + 1) (k + 1) : Int) * (x : Int) ^ (k + 1)) n % ((n + 1 : Nat) : Int) = sigN (fun _ => 0) n % ((n + 1 : Nat) : Int) := sigN_mod _ fun k hk => by
        rw [← mul_mod_l, chs_div rfl hpr (k + 1) (by omega) (by omega), Int.zero_mul, Int.zero_emod]
      rw [sigN_zero] at this
      have e0 : (chs (n + 1) 0 : Int) * (x : Int) ^ 0 = 1 := by simp [chs]
      rw [e0]
      refine add_congr_mod ?_ (by rw [show ((1 : Nat) : Int) = 1 from rfl, Int.one_mul])
      rw [← add_mod_r, this, add_mod_r, Int.add_zero]
    show ((x + 1 : Nat) : Int) ^ p % (p : Int) = ((x + 1 : Nat) : Int) % (p : Int)
    rw [show ((x + 1 : Nat) : Int) = (x : Int) + 1 from rfl, hb, h1, ← add_mod_r, h, add_mod_r, Int.add_comm]
theorem fermat {f : Int} (hm : modF f ≠ 0) (a : Int) (ha : a % modF f ≠ 0) : a ^ (modF f - 1).toNat % modF f = 1 % modF f := by
  have hpr := mod_pr hm
  have hp := hpr.mod
  unfold IsMod at hp
  obtain ⟨n, hn⟩ : ∃ n : Nat, modF f = ((n + 1 : Nat) : Int) := ⟨(modF f - 1).toNat, by omega⟩
  have hpn := hpr.pr
  rw [hn] at hpn ha hp ⊢
  obtain ⟨x, hx⟩ := Int.eq_ofNat_of_zero_le (Int.emod_nonneg a (show ((n + 1 : Nat) : Int) ≠ 0 by omega))
  have h1 := fermat_nat rfl hpn x
  have e : (((n + 1 : Nat) : Int) - 1).toNat = n := by omega
  rw [e]
  have h2 : (x : Int) * ((x : Int) ^ n - 1) % ((n + 1 : Nat) : Int) = 0 := by
    rw [Int.mul_sub, Int.mul_one, Int.mul_comm, ← Int.pow_succ, Int.sub_emod]
    show ((x : Int) ^ (n + 1) % ((n + 1 : Nat) : Int) - (x : Int) % ((n + 1 : Nat) : Int)) % ((n + 1 : Nat) : Int) = 0
    rw [h1, Int.sub_self, Int.zero_emod]
  rw [← pow_mod, hx]
  rcases hpn _ _ h2 with h3 | h3
  · rw [← hx, mod_mod] at h3
    exact absurd h3 ha
  · have : (x : Int) ^ n = ((x : Int) ^ n - 1) + 1 := by omega
    rw [this, ← add_mod_l, h3, Int.zero_add]
theorem inv_mul {f : Int} (hm : modF f ≠ 0) {a : Int} (ha : a % modF f ≠ 0) : a * invM (modF f) a % modF f = 1 := by
  have hp := (mod_is hm).1
  unfold IsMod at hp
  unfold invM powM
  rw [mul_mod_r, Int.mul_comm, ← Int.pow_succ, show (modF f - 2).toNat.succ = (modF f - 1).toNat by omega, fermat hm a ha, Int.emod_eq_of_lt (by omega) (by omega)]
end Go.SF
