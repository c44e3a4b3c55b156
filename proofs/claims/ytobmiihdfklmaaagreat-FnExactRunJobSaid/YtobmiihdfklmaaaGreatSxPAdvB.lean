/- Butterflies of a level. No condition. -/
import Derived.Test.YtobmiihdfklmaaaGreatSxPThru
import Derived.Test.YtobmiihdfklmaaaGreatSxPPlan2
import Derived.Test.YtobmiihdfklmaaaGreatSxC
namespace Go.SF
open Go.SX Go
set_option linter.unusedVariables false
set_option linter.unusedSimpArgs false
set_option maxRecDepth 10000
def idxB (h B : Nat) : Nat := B / h * (2 * h) + B % h
theorem idx_div {h B : Nat} (hh : 0 < h) : idxB h B / (2 * h) = B / h := by
  have := Nat.mod_lt B hh
  unfold idxB
  rw [Nat.mul_comm, Nat.mul_add_div (by omega), show (B % h) / (2 * h) = 0 from Nat.div_eq_of_lt (by omega), Nat.add_zero]
theorem idx_div' {h B : Nat} (hh : 0 < h) : (idxB h B + h) / (2 * h) = B / h := by
  have := Nat.mod_lt B hh
  unfold idxB
  rw [Nat.add_assoc, Nat.mul_comm, Nat.mul_add_div (by omega), show (B % h + h) / (2 * h) = 0 from Nat.div_eq_of_lt (by omega), Nat.add_zero]
theorem idx_mod2 {h B : Nat} (hh : 0 < h) : idxB h B % (2 * h) = B % h := by
  have := Nat.mod_lt B hh
  unfold idxB
  rw [Nat.mul_comm, Nat.mul_add_mod, Nat.mod_eq_of_lt (by omega)]
theorem idx_mod2' {h B : Nat} (hh : 0 < h) : (idxB h B + h) % (2 * h) = B % h + h := by
  have := Nat.mod_lt B hh
  unfold idxB
  rw [Nat.add_assoc, Nat.mul_comm, Nat.mul_add_mod, Nat.mod_eq_of_lt (by omega)]
theorem mod_two (h t : Nat) (hh : 0 < h) : t % h = if t % (2 * h) < h then t % (2 * h) else t % (2 * h) - h := by
  have h1 : t % (2 * h) % h = t % h := Nat.mod_mod_of_dvd t ⟨2, Nat.mul_comm 2 h⟩
  have h2 := Nat.mod_lt t (show 0 < 2 * h by omega)
  rw [← h1]
  split
  · exact Nat.mod_eq_of_lt (by assumption)
  · rw [Nat.mod_eq_sub_mod (by omega), Nat.mod_eq_of_lt (by omega)]
theorem idx_mod {h B : Nat} (hh : 0 < h) : idxB h B % h = B % h := by
  have := Nat.mod_lt B hh
  rw [mod_two h _ hh, idx_mod2 hh, if_pos this]
theorem idx_mod' {h B : Nat} (hh : 0 < h) : (idxB h B + h) % h = B % h := by
  rw [Nat.add_mod_right, idx_mod hh]
theorem pow_pos2 (l : Nat) : 0 < 2 ^ l := Nat.pow_pos (by omega)
theorem bOf_idx (l B : Nat) : bOf l (idxB (2 ^ l) B) = B := by
  have hh := pow_pos2 l
  unfold bOf
  rw [idx_div hh, idx_mod hh, Nat.mul_comm, Nat.div_add_mod]
theorem bOf_idx' (l B : Nat) : bOf l (idxB (2 ^ l) B + 2 ^ l) = B := by
  have hh := pow_pos2 l
  unfold bOf
  rw [idx_div' hh, idx_mod' hh, Nat.mul_comm, Nat.div_add_mod]
theorem bOf_div (l t : Nat) : bOf l t / 2 ^ l = t / (2 * 2 ^ l) ∧ bOf l t % 2 ^ l = t % 2 ^ l := by
  have hh := pow_pos2 l
  have hm := Nat.mod_lt t hh
  unfold bOf
  rw [Nat.mul_comm (t / (2 * 2 ^ l)), Nat.mul_add_div hh, Nat.div_eq_of_lt hm, Nat.add_zero, Nat.mul_add_mod, Nat.mod_mod]
  exact ⟨rfl, rfl⟩
theorem bOf_inv (l t : Nat) : t = if t % (2 * 2 ^ l) < 2 ^ l then idxB (2 ^ l) (bOf l t) else idxB (2 ^ l) (bOf l t) + 2 ^ l := by
  have hh := pow_pos2 l
  obtain ⟨h1, h2⟩ := bOf_div l t
  have h3 := mod_two (2 ^ l) t hh
  have h4 := Nat.div_add_mod t (2 * 2 ^ l)
  have h5 := Nat.mod_lt t (show 0 < 2 * 2 ^ l by omega)
  unfold idxB
  rw [h1, h2, Nat.mul_comm (t / (2 * 2 ^ l))]
  split
  · rename_i h; rw [if_pos h] at h3; omega
  · rename_i h; rw [if_neg h] at h3; omega
theorem rg_len (d : Fd) (v : List Int) (l lo B : Nat) : (rgL d v l lo B).length = v.length := mr_len _ _
theorem stg_lo (d : Fd) (v : List Int) (l B : Nat) : stgAt d v l (idxB (2 ^ l) B) = addM d.1 (v.getD (idxB (2 ^ l) B) 0) (mulM d.1 (v.getD (idxB (2 ^ l) B + 2 ^ l) 0) (twF d l (B % 2 ^ l))) := by
  have hh := pow_pos2 l
  unfold stgAt
  rw [idx_mod2 hh, if_pos (Nat.mod_lt B hh), idx_mod hh]
theorem stg_hi (d : Fd) (v : List Int) (l B : Nat) : stgAt d v l (idxB (2 ^ l) B + 2 ^ l) = subM d.1 (v.getD (idxB (2 ^ l) B) 0) (mulM d.1 (v.getD (idxB (2 ^ l) B + 2 ^ l) 0) (twF d l (B % 2 ^ l))) := by
  have hh := pow_pos2 l
  unfold stgAt
  rw [idx_mod2' hh, if_neg (by omega), idx_mod' hh, Nat.add_sub_cancel]
theorem idx_lt {h m B : Nat} (hh : 0 < h) (hB : B < h * m) : idxB h B + h < 2 * h * m := by
  have h1 : B / h < m := (Nat.div_lt_iff_lt_mul hh).2 (by rw [Nat.mul_comm]; exact hB)
  have h2 := Nat.mod_lt B hh
  have h3 : (B / h + 1) * (2 * h) ≤ m * (2 * h) := Nat.mul_le_mul_right _ h1
  rw [Nat.add_mul, Nat.one_mul, Nat.mul_comm m] at h3
  unfold idxB
  omega
theorem bOf_lt {l m t : Nat} (ht : t < 2 * 2 ^ l * m) : bOf l t < 2 ^ l * m := by
  have hh := pow_pos2 l
  have h1 : t / (2 * 2 ^ l) < m := (Nat.div_lt_iff_lt_mul (by omega)).2 (by rw [Nat.mul_comm]; exact ht)
  have h2 := Nat.mod_lt t hh
  have h3 : (t / (2 * 2 ^ l) + 1) * 2 ^ l ≤ m * 2 ^ l := Nat.mul_le_mul_right _ h1
  rw [Nat.add_mul, Nat.one_mul, Nat.mul_comm m] at h3
  unfold bOf
  omega
theorem rg_full {d : Fd} {v : List Int} {l m t : Nat} (hn : v.length = 2 * 2 ^ l * m) (ht : t < v.length) : (rgL d v l 0 (2 ^ l * m)).getD t 0 = stgAt d v l t := by
  unfold rgL
  rw [mr_get, if_pos ht, if_pos ⟨Nat.zero_le _, bOf_lt (by omega)⟩]
theorem pow_pow (p a : Int) (x j : Nat) : powM p (powM p a x) j = powM p a (x * j) := by
  unfold powM
  rw [pow_mod, Int.pow_mul]
theorem gen_none {f : Int} (h : ¬ (0 ≤ f ∧ f < 9)) : genF f = 0 := by unfold genF; rw [field_none h]
theorem gen_ok {f : Int} (h : modF f ≠ 0) : El (modF f) (genF f) ∧ genF f % modF f ≠ 0 := by
  rcases field_cases (mod_is h).2 with rfl | rfl | rfl | rfl | rfl | rfl | rfl | rfl | rfl <;> exact ⟨⟨by decide, by decide⟩, by decide⟩
theorem two_dvd {f : Int} (h : modF f ≠ 0) : ∃ o : Nat, (modF f - 1).toNat = 2 ^ (twoF f).toNat * o := by
  rcases field_cases (mod_is h).2 with rfl | rfl | rfl | rfl | rfl | rfl | rfl | rfl | rfl
  · exact ⟨1, by decide +kernel⟩
  · exact ⟨3, by decide +kernel⟩
  · exact ⟨3, by decide +kernel⟩
  · exact ⟨1, by decide +kernel⟩
  · exact ⟨15, by decide +kernel⟩
  · exact ⟨3, by decide +kernel⟩
  · exact ⟨119, by decide +kernel⟩
  · exact ⟨7, by decide +kernel⟩
  · exact ⟨479, by decide +kernel⟩
theorem vecL_ok {f : Int} {v : List Int} (h : vectorOkF f v = true) : modF f ≠ 0 ∧ elemsF (modF f) v = true ∧ ∃ K : Nat, logF v.length = (K : Int) ∧ K ≤ 9 ∧ v.length = 2 ^ K ∧ (K : Int) ≤ twoF f := by
  have h' := h
  unfold vectorOkF at h
  simp only [Bool.and_eq_true, decide_eq_true_eq] at h
  obtain ⟨⟨h1, h2⟩, h3⟩ := h
  obtain ⟨hm, he⟩ := spec_el h3
  obtain ⟨k1, k2⟩ := log_val h1
  obtain ⟨K, hK⟩ := Int.eq_ofNat_of_zero_le h1
  rw [hK, Int.toNat_natCast] at k2
  exact ⟨hm, he, K, hK, by omega, k2, by omega⟩
theorem vecL_of {f : Int} {v w : List Int} (h : vectorOkF f v = true) (hl : w.length = v.length) (he : elemsF (modF f) w = true) : vectorOkF f w = true := by
  obtain ⟨hm, _, _⟩ := vecL_ok h
  unfold vectorOkF at h ⊢
  simp only [Bool.and_eq_true, decide_eq_true_eq] at h ⊢
  rw [hl]
  exact ⟨h.1, spec_of hm he⟩
theorem len_split {K l : Nat} (h : l < K) : 2 ^ K = 2 * 2 ^ l * 2 ^ (K - l - 1) := by
  rw [← Nat.pow_add_one', ← Nat.pow_add]
  congr 1
  omega
theorem half_split {K l : Nat} (h : l < K) : 2 ^ K / 2 = 2 ^ l * 2 ^ (K - l - 1) := by
  rw [len_split h, Nat.mul_assoc, Nat.mul_div_cancel_left _ (by omega)]
theorem tw_impl (d : Fd) (hp : IsMod d.1) (l j : Nat) : powM d.1 (rootI d ((l + 1 : Nat) : Int)) j = twF d l j := by
  unfold rootI twF
  rw [pow_pow, Int.toNat_natCast]
  congr 2
  have hp' := hp
  unfold IsMod at hp'
  obtain ⟨n, hn⟩ := Int.eq_ofNat_of_zero_le (show 0 ≤ d.1 - 1 by omega)
  rw [hn, show (2 : Int) ^ (l + 1) = ((2 ^ (l + 1) : Nat) : Int) from (Int.natCast_pow 2 (l + 1)).symm]
  rfl
end Go.SF
