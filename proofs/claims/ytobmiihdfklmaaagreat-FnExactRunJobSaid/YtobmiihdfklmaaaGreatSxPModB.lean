/- The moduli are primes. No condition. -/
import Derived.Test.YtobmiihdfklmaaaGreatSxPMod
namespace Go.SF
open Go.SX Go
set_option linter.unusedVariables false
set_option maxRecDepth 10000
def ndG (p lo : Nat) : Nat → Bool
  | 0 => p % lo != 0
  | n + 1 => ndG p lo n && ndG p (lo + 2 ^ n) n
theorem ndG_ok {p : Nat} : ∀ (n lo : Nat), ndG p lo n = true → ∀ d, lo ≤ d → d < lo + 2 ^ n → p % d ≠ 0
  | 0, lo, h, d, h1, h2 => by
    obtain rfl : d = lo := by simp at h2; omega
    simpa [ndG] using h
  | n + 1, lo, h, d, h1, h2 => by
    unfold ndG at h
    rw [Bool.and_eq_true] at h
    rw [Nat.pow_succ] at h2
    by_cases hd : d < lo + 2 ^ n
    · exact ndG_ok n lo h.1 d h1 hd
    · exact ndG_ok n (lo + 2 ^ n) h.2 d (by omega) (by omega)
theorem sq_lt {d n : Nat} {p : Nat} (h : d * d ≤ p) (hn : p < n * n) : d < n := by
  by_cases hd : d < n
  · exact hd
  · have := Nat.mul_le_mul (Nat.le_of_not_lt hd) (Nat.le_of_not_lt hd)
    omega
theorem nd_of {p n : Nat} (h : ndG p 2 n = true) (hn : p < (2 + 2 ^ n) * (2 + 2 ^ n)) {d : Nat} (h2 : 2 ≤ d) (hd : d * d ≤ p) : p % d ≠ 0 :=
  ndG_ok n 2 h d h2 (sq_lt hd hn)
theorem no_small {f : Int} (h : 0 ≤ f ∧ f < 9) {d : Nat} (h2 : 2 ≤ d) (hd : d * d ≤ (modF f).toNat) : (modF f).toNat % d ≠ 0 := by
  rcases field_cases h with rfl | rfl | rfl | rfl | rfl | rfl | rfl | rfl | rfl
  · exact nd_of (p := 17) (n := 2) (by decide +kernel) (by decide) h2 hd
  · exact nd_of (p := 97) (n := 3) (by decide +kernel) (by decide) h2 hd
  · exact nd_of (p := 193) (n := 4) (by decide +kernel) (by decide) h2 hd
  · exact nd_of (p := 257) (n := 4) (by decide +kernel) (by decide) h2 hd
  · exact nd_of (p := 7681) (n := 7) (by decide +kernel) (by decide) h2 hd
  · exact nd_of (p := 12289) (n := 7) (by decide +kernel) (by decide) h2 hd
  · exact nd_of (p := 998244353) (n := 15) (by decide +kernel) (by decide) h2 hd
  · exact nd_of (p := 469762049) (n := 15) (by decide +kernel) (by decide) h2 hd
  · exact nd_of (p := 1004535809) (n := 15) (by decide +kernel) (by decide) h2 hd
theorem nat_prime {p : Nat} (hp : 2 ≤ p) (h : ∀ d, 2 ≤ d → d * d ≤ p → p % d ≠ 0) {a b : Nat} (hd : p ∣ a * b) : p ∣ a ∨ p ∣ b := by
  obtain ⟨k, hk⟩ := Nat.gcd_dvd_left p a
  generalize hg : Nat.gcd p a = g at hk
  have hga : g ∣ a := hg ▸ Nat.gcd_dvd_right p a
  by_cases h1 : g = 1
  · subst h1
    exact .inr (Nat.Coprime.dvd_of_dvd_mul_left hg hd)
  · by_cases h2 : k = 1
    · subst h2
      rw [Nat.mul_one] at hk
      exact .inl (hk ▸ hga)
    · have hg0 : g ≠ 0 := by rintro rfl; omega
      have hk0 : k ≠ 0 := by rintro rfl; omega
      exfalso
      by_cases hle : g ≤ k
      · refine h g (by omega) ?_ (by rw [hk, Nat.mul_mod_right])
        rw [hk]; exact Nat.mul_le_mul_left g hle
      · refine h k (by omega) ?_ (by rw [hk, Nat.mul_mod_left])
        rw [hk]; exact Nat.mul_le_mul_right k (by omega)
structure IsPr (p : Int) : Prop where
  mod : IsMod p
  pr : ∀ a b : Int, a * b % p = 0 → a % p = 0 ∨ b % p = 0
theorem mod_pr {f : Int} (h : modF f ≠ 0) : IsPr (modF f) := by
  obtain ⟨h1, h2⟩ := mod_is h
  refine ⟨h1, fun a b hab => ?_⟩
  have h0 : 0 ≤ modF f := by unfold IsMod at h1; omega
  have hn : modF f = (((modF f).toNat : Nat) : Int) := (Int.toNat_of_nonneg h0).symm
  have hd : (modF f).toNat ∣ a.natAbs * b.natAbs := by
    rw [← Int.natAbs_mul]
    exact Int.natAbs_dvd_natAbs.2 (Int.dvd_of_emod_eq_zero hab) |> fun h => by rwa [show (modF f).natAbs = (modF f).toNat by omega] at h
  have hs : ∀ x : Int, (modF f).toNat ∣ x.natAbs → x % modF f = 0 := fun x hx => by
    refine Int.emod_eq_zero_of_dvd (Int.natAbs_dvd_natAbs.1 ?_)
    rwa [show (modF f).natAbs = (modF f).toNat by omega]
  rcases nat_prime (by unfold IsMod at h1; omega) (fun d => no_small h2) hd with h | h
  · exact .inl (hs a h)
  · exact .inr (hs b h)
theorem el_ne {p x y : Int} (hx : El p x) (hy : El p y) (h : x ≠ y) : (x - y) % p ≠ 0 := by
  intro e
  obtain ⟨k, hk⟩ := Int.dvd_of_emod_eq_zero e
  unfold El at hx hy
  have h1 : k = 0 := by
    have hp : 0 < p := by omega
    rcases Int.lt_trichotomy k 0 with h0 | h0 | h0
    · have := Int.mul_le_mul_of_nonneg_left (show k ≤ -1 by omega) (Int.le_of_lt hp)
      omega
    · exact h0
    · have := Int.mul_le_mul_of_nonneg_left (show 1 ≤ k by omega) (Int.le_of_lt hp)
      omega
  subst h1
  omega
theorem mul_ne {p a b : Int} (hp : IsPr p) (ha : a % p ≠ 0) (hb : b % p ≠ 0) : a * b % p ≠ 0 := fun e => (hp.pr a b e).elim ha hb
theorem mod_mod (p x : Int) : x % p % p = x % p := Int.emod_emod_of_dvd _ (Int.dvd_refl p)
end Go.SF
