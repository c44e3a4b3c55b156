/- Products, series: plain laws. No condition. -/
import Derived.Test.YtobmiihdfklmaaaGreatSxC
import Derived.Test.YtobmiihdfklmaaaGreatSxPTrfT
namespace Go.SF
open Go.SX Go
set_option linter.unusedVariables false
set_option linter.unusedSimpArgs false
def tsS (p : Int) (a b : List Int) (i : Nat) : Nat → Int
  | 0 => 0
  | j + 1 => (tsS p a b i j + (if i < j then p - a.getD j 0 * b.getD ((i + a.length - j) % a.length) 0 % p else a.getD j 0 * b.getD ((i + a.length - j) % a.length) 0 % p)) % p
theorem ts_same {p : Int} {a b : List Int} {i : Nat} (hi : i < a.length) : ∀ j, j ≤ a.length → tsS p a b i j = twA p a b i j
  | 0, _ => rfl
  | j + 1, hj => by
    rw [tsS, twA, ts_same hi j (by omega)]
    by_cases h : i < j
    · rw [if_pos h, if_neg (by omega), Nat.mod_eq_of_lt (by omega)]
      unfold subM mulM
      generalize a.getD j 0 * b.getD (i + a.length - j) 0 % p = X
      rw [show twA p a b i j + (p - X) = twA p a b i j - X + p * 1 by omega, Int.add_mul_emod_self_left]
    · rw [if_neg h, if_pos (by omega), show i + a.length - j = (i - j) + a.length by omega, Nat.add_mod_right, Nat.mod_eq_of_lt (by omega)]
      rfl
theorem tw_el {p : Int} (hp : IsMod p) (a b : List Int) (t : Nat) : ∀ x, El p (twA p a b t x)
  | 0 => el_zero hp
  | x + 1 => by
    rw [twA]
    split
    · exact el_addM hp _ _
    · exact el_subM hp _ _
theorem tw_idx {n x y t : Nat} (hx : x < n) (hy : y < n) (ht : t < n) : (t + n - x) % n = y ↔ (if x + y < n then t = x + y else t = x + y - n) := by
  rcases Nat.lt_or_ge t x with h | h
  · rw [Nat.mod_eq_of_lt (by omega)]
    split <;> omega
  · rw [show t + n - x = (t - x) + n by omega, Nat.add_mod_right, Nat.mod_eq_of_lt (by omega)]
    split <;> omega
theorem si_same {p : Int} {a out : List Int} {i : Nat} (hi : i ≠ 0) : ∀ j, siP p a out i j % p = subM p 0 (siA p a out i j)
  | 0 => by
    unfold siP siA subM
    rw [if_neg hi]; rfl
  | j + 1 => by
    have h := si_same hi (p := p) (a := a) (out := out) j
    rw [siP, siA]
    generalize mulM p (a.getD (j + 1) 0) (out.getD (i - (j + 1)) 0) = m at *
    unfold subM addM at *
    rw [mod_mod, ← sub_mod_l, h, sub_mod_l, sub_mod_r]
    congr 1
    omega
theorem siL_len (p : Int) (a : List Int) : ∀ k, (siL p a k).length = k
  | 0 => rfl
  | k + 1 => by rw [siL, List.length_append, siL_len p a k]; rfl
end Go.SF
