/- Transforms and products of vectors: plain laws. No condition. -/
import Derived.Test.YtobmiihdfklmaaaGreatSxPCyc
namespace Go.SF
open Go.SX Go
set_option linter.unusedVariables false
set_option linter.unusedSimpArgs false
theorem levL_len (d : Fd) (u : List Int) (l : Nat) : (levL d u l).length = u.length := rgm_len _ _
theorem levL_get (d : Fd) (u : List Int) (l : Nat) {t : Nat} (h : t < u.length) : (levL d u l).getD t 0 = lev d u l t := by simp [levL, List.getD_eq_getElem?_getD, h]
theorem levL_zero (d : Fd) (u : List Int) : levL d u 0 = u := by
  refine List.ext_getElem (levL_len _ _ _) fun t h1 h2 => ?_
  simp [levL, lev, List.getD_eq_getElem?_getD, h2]
theorem levL_succ {d : Fd} {u : List Int} {K l : Nat} (hu : u.length = 2 ^ K) (hl : l < K) : rgL d (levL d u l) l 0 (u.length / 2) = levL d u (l + 1) := by
  have hlen : (levL d u l).length = 2 * 2 ^ l * 2 ^ (K - l - 1) := by rw [levL_len, hu, len_split hl]
  rw [show u.length / 2 = 2 ^ l * 2 ^ (K - l - 1) by rw [hu, half_split hl]]
  refine List.ext_getElem (by rw [rg_len, levL_len, levL_len]) fun t h1 h2 => ?_
  rw [rg_len] at h1
  have h3 := rg_full (d := d) hlen h1
  have e1 : (rgL d (levL d u l) l 0 (2 ^ l * 2 ^ (K - l - 1)))[t]'(by rw [rg_len]; exact h1) = (rgL d (levL d u l) l 0 (2 ^ l * 2 ^ (K - l - 1))).getD t 0 := by simp [List.getD_eq_getElem?_getD, h1, rg_len]
  rw [e1, h3]
  have ht : t < u.length := by rw [levL_len] at h1; exact h1
  have e2 : (levL d u (l + 1))[t] = lev d u (l + 1) t := by simp [levL]
  rw [e2]
  unfold stgAt
  rw [lev]
  split
  · rename_i hr
    have hpow : u.length = 2 * 2 ^ l * 2 ^ (K - l - 1) := by rw [hu, len_split hl]
    have h4 : t + 2 ^ l < u.length := by
      have g1 : t = 2 * 2 ^ l * (t / (2 * 2 ^ l)) + t % (2 * 2 ^ l) := (Nat.div_add_mod t _).symm
      have g2 : t / (2 * 2 ^ l) < 2 ^ (K - l - 1) := Nat.div_lt_of_lt_mul (by rw [← hpow]; exact ht)
      have g3 : 2 * 2 ^ l * (t / (2 * 2 ^ l) + 1) ≤ 2 * 2 ^ l * 2 ^ (K - l - 1) := Nat.mul_le_mul_left _ g2
      rw [Nat.mul_add, Nat.mul_one] at g3
      omega
    rw [levL_get _ _ _ ht, levL_get _ _ _ h4]
  · rw [levL_get _ _ _ ht, levL_get _ _ _ (Nat.lt_of_le_of_lt (Nat.sub_le _ _) ht)]
theorem root_same {f : Int} {K : Nat} (hm : modF f ≠ 0) (hKt : (K : Int) ≤ twoF f) : rootI (fieldF f).1 (K : Int) = rootS f (K : Int) := by
  have hp := (mod_is hm).1
  unfold IsMod at hp
  obtain ⟨a, ha, b, hb, hb1, hb2⟩ := root_pow hm hKt
  have hd1 : (fieldF f).1.1 = modF f := rfl
  have hd2 : (fieldF f).1.2.1 = genF f := rfl
  have hz : modF f - 1 = ((2 ^ K * a : Nat) : Int) := by omega
  have haz : (modF f - 1) / 2 ^ ((K : Nat) : Int).toNat = (a : Int) := by
    rw [Int.toNat_natCast, hz, Int.natCast_mul, Int.natCast_pow]
    exact Int.mul_ediv_cancel_left _ (Int.ne_of_gt (Int.pow_pos (by omega)))
  unfold rootI powM
  rw [hd1, hd2, haz, Int.toNat_natCast, hb]
  rcases Nat.eq_zero_or_pos K with h0 | h0
  · rw [hb2 h0]
    subst h0
    rw [Nat.pow_zero, Nat.one_mul] at ha
    rw [← ha, gen_full hm, Int.pow_zero]
  · rw [hb1 h0]
theorem fwd_levL {f : Int} {v : List Int} (h : vectorOkF f v = true) : levL (fieldF f).1 (permF v) (logF v.length).toNat = dftL (modF f) v (rootS f (logF v.length)) v.length := by
  have hl : (permF v).length = v.length := by
    obtain ⟨_, _, K, hK, _⟩ := vecL_ok h
    unfold permF; rw [if_pos (by omega)]; exact perm_len _ _
  refine List.ext_getElem (by rw [levL_len, dftL_len, hl]) fun t h1 h2 => ?_
  rw [levL_len, hl] at h1
  have := lev_fwd h h1
  simp only [levL, dftL, List.getElem_map, List.getElem_range]
  exact this
theorem bk_same {f : Int} {v : List Int} (h : vectorOkF f v = true) {k : Nat} (hk : k < v.length) : dftAt (modF f) v (invM (modF f) (rootS f (logF v.length))) k = dftAt (modF f) v (rootS f (logF v.length)) ((v.length - k) % v.length) := by
  obtain ⟨hm, he, K, hK, hK9, hlen, hKt⟩ := vecL_ok h
  have hrt := rt_of hm hKt
  have hi := root_inv hm hKt
  rw [hK]
  exact dft_inv (by omega) (by rw [hlen]; exact hrt.full) hi hk
theorem cyc_same {f : Int} {a b : List Int} (ha : vectorOkF f a = true) (hab : a.length = b.length) {k : Nat} (hk : k < a.length) :
    bkAt (modF f) (rootS f (logF a.length)) (invM (modF f) a.length) (pwL (modF f) (dftL (modF f) a (rootS f (logF a.length)) a.length) (dftL (modF f) b (rootS f (logF b.length)) b.length)) k = cycAt (modF f) a b k := by
  obtain ⟨hm, he, K, hK, hK9, hlen, hKt⟩ := vecL_ok ha
  have hrt := rt_of hm hKt
  have hpl : (pwL (modF f) (dftL (modF f) a (rootS f (logF a.length)) a.length) (dftL (modF f) b (rootS f (logF b.length)) b.length)).length = a.length := by unfold pwL; rw [rgm_len, dftL_len]
  have := cyc_thm hrt hlen (by omega : b.length = 2 ^ K) (two_inv hm K) (k := k) (by omega)
  unfold bkAt
  rw [hpl, ← hab, hK, hlen]
  exact this
end Go.SF
