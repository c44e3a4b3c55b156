/- The transform back, and products by transforms. No condition. -/
import Derived.Test.YtobmiihdfklmaaaGreatSxPNttB
import Derived.Test.YtobmiihdfklmaaaGreatSxC
import Derived.Test.YtobmiihdfklmaaaGreatSxPModB
namespace Go.SF
open Go.SX Go
set_option linter.unusedVariables false
set_option linter.unusedSimpArgs false
theorem sigN_zero : ∀ n, sigN (fun _ => 0) n = 0
  | 0 => rfl
  | n + 1 => by rw [sigN, sigN_zero n]; rfl
theorem sigN_const (c : Int) : ∀ n : Nat, sigN (fun _ => c) n = n * c
  | 0 => by rw [sigN]; simp
  | n + 1 => by rw [sigN, sigN_const c n]; push_cast; rw [Int.add_mul, Int.one_mul]
theorem sigN_comm (f : Nat → Nat → Int) (m : Nat) : ∀ n, sigN (fun i => sigN (fun j => f i j) m) n = sigN (fun j => sigN (fun i => f i j) n) m
  | 0 => by simp only [sigN]; exact (sigN_zero m).symm
  | n + 1 => by
    rw [sigN, sigN_comm f m n, ← sigN_add]
    rfl
theorem sigN_at {c : Nat → Int} {t0 : Nat} : ∀ n, sigN (fun t => if t = t0 then c t else 0) n = if t0 < n then c t0 else 0
  | 0 => by simp [sigN]
  | n + 1 => by
    rw [sigN, sigN_at n]
    by_cases h : n = t0
    · subst h; simp
    · rw [if_neg h]
      by_cases h2 : t0 < n
      · rw [if_pos h2, if_pos (by omega)]; omega
      · rw [if_neg h2, if_neg (by omega)]; rfl
theorem mul_congr_mod {p a b c d : Int} (h1 : a % p = c % p) (h2 : b % p = d % p) : a * b % p = c * d % p := by
  rw [← mul_mod_l, h1, mul_mod_l, ← mul_mod_r, h2, mul_mod_r]
theorem pow_congr_mod {p a b : Int} (h : a % p = b % p) (n : Nat) : a ^ n % p = b ^ n % p := by rw [← pow_mod, h, pow_mod]
structure RtK (p w : Int) (K : Nat) : Prop where
  pr : IsPr p
  odd : (2 : Int) % p ≠ 0
  full : w ^ 2 ^ K % p = 1 % p
  half : 0 < K → w ^ 2 ^ (K - 1) % p = (-1) % p
theorem geo (a : Int) : ∀ n : Nat, (a - 1) * sigN (fun i => a ^ i) n = a ^ n - 1
  | 0 => by simp [sigN]
  | n + 1 => by
    rw [sigN, Int.mul_add, geo a n, Int.pow_succ, Int.sub_mul, Int.one_mul, Int.mul_comm a (a ^ n)]
    omega
theorem rt_ne {p w : Int} {K : Nat} (h : RtK p w K) : ∀ d, 0 < d → d < 2 ^ K → w ^ d % p ≠ 1 % p := by
  intro d h0 hd he
  -- raise to 2-powers until the half is met
  have key : ∀ s d : Nat, s ≤ K → 0 < d → d < 2 ^ s → w ^ (d * 2 ^ (K - s)) % p ≠ 1 % p := by
    intro s
    induction s with
    | zero => intro d _ h1 h2; omega
    | succ s ih =>
      intro d hs h1 h2 he
      rcases Nat.mod_two_eq_zero_or_one d with hm | hm
      · refine ih (d / 2) (by omega) (by omega) (by rw [Nat.pow_succ] at h2; omega) ?_
        have e : d / 2 * 2 ^ (K - s) = d * 2 ^ (K - (s + 1)) := by
          rw [show K - s = K - (s + 1) + 1 by omega, Nat.pow_succ, Nat.mul_comm _ 2, ← Nat.mul_assoc, show d / 2 * 2 = d by omega]
        rw [e]; exact he
      · -- odd: square up to the half
        have e : d * 2 ^ (K - (s + 1)) * 2 ^ s = 2 ^ (K - 1) * d := by
          rw [Nat.mul_assoc, ← Nat.pow_add, show K - (s + 1) + s = K - 1 by omega, Nat.mul_comm]
        have h3 : w ^ (d * 2 ^ (K - (s + 1)) * 2 ^ s) % p = 1 % p := by rw [Int.pow_mul]; exact pow_one_md he _
        rw [e, Int.pow_mul] at h3
        have h4 : (w ^ 2 ^ (K - 1)) ^ d % p = (-1) ^ d % p := pow_congr_mod (h.half (by omega)) d
        have h5 : (-1 : Int) ^ d = -1 := by
          have : d = 2 * (d / 2) + 1 := by omega
          rw [this, Int.pow_succ, Int.pow_mul]
          have : ((-1 : Int) ^ 2) = 1 := by decide
          rw [this, Int.one_pow]; rfl
        rw [h5] at h4
        rw [h4] at h3
        have : (2 : Int) % p = 0 := by
          have h6 : (1 - (-1) : Int) % p = 0 := by rw [Int.sub_emod, h3, Int.sub_self, Int.zero_emod]
          exact h6
        exact h.odd this
  refine key K d (Nat.le_refl _) h0 hd ?_
  rw [Nat.sub_self, Nat.pow_zero, Nat.mul_one]
  exact he
theorem ortho {p w : Int} {K : Nat} (h : RtK p w K) (d : Nat) : sigN (fun i => w ^ (i * d)) (2 ^ K) % p = (if d % 2 ^ K = 0 then ((2 ^ K : Nat) : Int) else 0) % p := by
  split
  · rename_i hd
    have : sigN (fun i => w ^ (i * d)) (2 ^ K) % p = sigN (fun _ => 1) (2 ^ K) % p := sigN_mod _ fun i _ => by
      have e : i * d = 2 ^ K * (d / 2 ^ K * i) := by
        have := Nat.div_add_mod d (2 ^ K)
        rw [hd, Nat.add_zero] at this
        rw [← Nat.mul_assoc, this, Nat.mul_comm]
      rw [e, Int.pow_mul]
      exact pow_one_md h.full _
    rw [this, sigN_const, Int.mul_one]
  · rename_i hd
    have h0 : 0 < 2 ^ K := Nat.pow_pos (by omega)
    have hne : w ^ (d % 2 ^ K) % p ≠ 1 % p := rt_ne h _ (by omega) (Nat.mod_lt _ h0)
    have hw : w ^ d % p = w ^ (d % 2 ^ K) % p := by
      have e : d = 2 ^ K * (d / 2 ^ K) + d % 2 ^ K := (Nat.div_add_mod _ _).symm
      conv => lhs; rw [e]
      rw [Int.pow_add, Int.pow_mul, mul_one_mod (pow_one_md h.full _)]
    have hg := geo (w ^ d) (2 ^ K)
    have hz : (w ^ d - 1) * sigN (fun i => (w ^ d) ^ i) (2 ^ K) % p = 0 := by
      rw [hg, ← Int.pow_mul, Nat.mul_comm, Int.pow_mul, Int.sub_emod, pow_one_md h.full, Int.sub_self, Int.zero_emod]
    rcases h.pr.pr _ _ hz with h1 | h1
    · exfalso
      apply hne
      rw [← hw]
      have : w ^ d % p = ((w ^ d - 1) + 1) % p := by rw [Int.sub_add_cancel]
      rw [this, ← add_mod_l, h1, Int.zero_add]
    · rw [Int.zero_emod, ← h1]
      congr 1
      refine sigN_congr _ fun i _ => ?_
      rw [← Int.pow_mul, Nat.mul_comm]
theorem two_full {f : Int} (h : modF f ≠ 0) : powM (modF f) 2 (modF f - 1).toNat = 1 := by
  have one_at : ∀ {p e : Nat}, pwN p 2 30 e = 1 → e < 2 ^ 30 → powM (p : Int) 2 e = 1 := fun {p e} h he => by
    have := powM_nat p 2 e
    rw [← pwN_ok p 2 30 e he, h] at this
    exact this
  rcases field_cases (mod_is h).2 with e | e | e | e | e | e | e | e | e <;> subst e
  · exact one_at (p := 17) (by decide +kernel) (by decide +kernel)
  · exact one_at (p := 97) (by decide +kernel) (by decide +kernel)
  · exact one_at (p := 193) (by decide +kernel) (by decide +kernel)
  · exact one_at (p := 257) (by decide +kernel) (by decide +kernel)
  · exact one_at (p := 7681) (by decide +kernel) (by decide +kernel)
  · exact one_at (p := 12289) (by decide +kernel) (by decide +kernel)
  · exact one_at (p := 998244353) (by decide +kernel) (by decide +kernel)
  · exact one_at (p := 469762049) (by decide +kernel) (by decide +kernel)
  · exact one_at (p := 1004535809) (by decide +kernel) (by decide +kernel)
theorem root_pow {f : Int} {K : Nat} (hm : modF f ≠ 0) (hKt : (K : Int) ≤ twoF f) : ∃ a : Nat, (modF f - 1).toNat = 2 ^ K * a ∧ ∃ b : Nat, rootS f (K : Int) = genF f ^ b % modF f ∧ (0 < K → b = a) ∧ (K = 0 → b = 0) := by
  obtain ⟨hp, hf⟩ := mod_is hm
  have hp' := hp
  unfold IsMod at hp'
  obtain ⟨o, ho⟩ := two_dvd hm
  obtain ⟨hg1, hg2⟩ := gen_ok hm
  obtain ⟨a, ha⟩ : ∃ a : Nat, (modF f - 1).toNat = 2 ^ K * a := ⟨2 ^ ((twoF f).toNat - K) * o, by rw [ho, ← Nat.mul_assoc, ← Nat.pow_add]; congr 2; omega⟩
  have hz : modF f - 1 = ((2 ^ K * a : Nat) : Int) := by omega
  have ha0 : 0 < a := by
    rcases Nat.eq_zero_or_pos a with e | e
    · rw [e, Nat.mul_zero] at hz; omega
    · exact e
  have haz : (modF f - 1) / 2 ^ K = (a : Int) := by
    rw [hz, Int.natCast_mul, Int.natCast_pow]
    exact Int.mul_ediv_cancel_left _ (Int.ne_of_gt (Int.pow_pos (by omega)))
  refine ⟨a, ha, ?_⟩
  unfold rootS
  rw [if_pos ⟨hm, by omega, hKt⟩, Int.toNat_natCast, haz]
  unfold powP powM
  rw [if_neg hg2]
  refine ⟨_, rfl, fun hk => ?_, fun hk => ?_⟩
  · have hK2 : 2 ≤ 2 ^ K := by
      have := Nat.pow_le_pow_right (n := 2) (by omega) (show 1 ≤ K by omega)
      omega
    have h1 : a * 2 ≤ a * 2 ^ K := Nat.mul_le_mul_left a hK2
    rw [Nat.mul_comm] at h1
    rw [Int.emod_eq_of_lt (by omega) (by rw [hz, Nat.mul_comm (2 ^ K)]; omega), Int.toNat_natCast]
  · subst hk
    rw [Nat.pow_zero, Nat.one_mul] at hz
    rw [hz, Int.emod_self]; rfl
theorem gen_full {f : Int} (hm : modF f ≠ 0) : genF f ^ (modF f - 1).toNat % modF f = 1 % modF f := by
  have hp := (mod_is hm).1
  unfold IsMod at hp
  obtain ⟨o, ho⟩ := two_dvd hm
  have h4 := (mod_pos (mod_is hm).2).2.2.1
  have he : (modF f - 1).toNat = (modF f - 1).toNat / 2 + (modF f - 1).toNat / 2 := by
    obtain ⟨t, ht⟩ : ∃ t, (twoF f).toNat = t + 1 := ⟨(twoF f).toNat - 1, by omega⟩
    rw [ho, ht, Nat.pow_succ, Nat.mul_comm _ 2, Nat.mul_assoc]
    omega
  have hgh : genF f ^ ((modF f - 1).toNat / 2) % modF f = (-1) % modF f := by
    have := gen_half hm
    unfold powM at this
    rw [this, show (-1 : Int) % modF f = (modF f - 1) % modF f from modeq (k := -1) (by omega), Int.emod_eq_of_lt (by omega) (by omega)]
  rw [he, Int.pow_add, ← mul_mod_l, hgh, mul_mod_l, ← mul_mod_r, hgh, mul_mod_r]
  rfl
theorem root_full {f : Int} {K : Nat} (hm : modF f ≠ 0) (hKt : (K : Int) ≤ twoF f) : rootS f (K : Int) ^ (modF f - 1).toNat % modF f = 1 % modF f := by
  obtain ⟨a, ha, b, hb, _⟩ := root_pow hm hKt
  rw [hb, pow_mod, ← Int.pow_mul, Nat.mul_comm, Int.pow_mul]
  exact pow_one_md (gen_full hm) _
theorem rt_of {f : Int} {K : Nat} (hm : modF f ≠ 0) (hKt : (K : Int) ≤ twoF f) : RtK (modF f) (rootS f (K : Int)) K := by
  have hp := (mod_is hm).1
  unfold IsMod at hp
  obtain ⟨a, ha, b, hb, hb1, hb2⟩ := root_pow hm hKt
  refine ⟨mod_pr hm, by rw [Int.emod_eq_of_lt (by omega) (by omega)]; decide, ?_, fun hk => ?_⟩
  · rw [hb, pow_mod, ← Int.pow_mul]
    rcases Nat.eq_zero_or_pos K with h0 | h0
    · rw [hb2 h0, Nat.zero_mul, Int.pow_zero]
    · rw [hb1 h0, Nat.mul_comm, ← ha]
      exact gen_full hm
  · rw [hb, hb1 hk, pow_mod, ← Int.pow_mul]
    have e : a * 2 ^ (K - 1) = (modF f - 1).toNat / 2 := by
      obtain ⟨k, rfl⟩ : ∃ k, K = k + 1 := ⟨K - 1, by omega⟩
      rw [ha, Nat.pow_succ, Nat.add_sub_cancel, Nat.mul_comm _ 2, Nat.mul_assoc, Nat.mul_div_cancel_left _ (by omega), Nat.mul_comm]
    have := gen_half hm
    unfold powM at this
    rw [e, this, show (-1 : Int) % modF f = (modF f - 1) % modF f from modeq (k := -1) (by omega), Int.emod_eq_of_lt (by omega) (by omega)]
theorem root_inv {f : Int} {K : Nat} (hm : modF f ≠ 0) (hKt : (K : Int) ≤ twoF f) : rootS f (K : Int) * invM (modF f) (rootS f (K : Int)) % modF f = 1 % modF f := by
  have hp := (mod_is hm).1
  unfold IsMod at hp
  unfold invM powM
  rw [mul_mod_r, Int.mul_comm, ← Int.pow_succ, show (modF f - 2).toNat.succ = (modF f - 1).toNat by omega]
  exact root_full hm hKt
theorem two_inv {f : Int} (hm : modF f ≠ 0) (K : Nat) : ((2 ^ K : Nat) : Int) * invM (modF f) ((2 ^ K : Nat) : Int) % modF f = 1 % modF f := by
  have hp := (mod_is hm).1
  unfold IsMod at hp
  unfold invM powM
  rw [mul_mod_r, Int.mul_comm, ← Int.pow_succ, show (modF f - 2).toNat.succ = (modF f - 1).toNat by omega, Int.natCast_pow, ← Int.pow_mul, Nat.mul_comm, Int.pow_mul]
  have h2 := two_full hm
  unfold powM at h2
  refine pow_one_md ?_ K
  show (2 : Int) ^ (modF f - 1).toNat % modF f = 1 % modF f
  rw [h2, Int.emod_eq_of_lt (by omega) (by omega)]
theorem pow_red {p w : Int} {n : Nat} (h : w ^ n % p = 1 % p) (m : Nat) : w ^ (m % n) % p = w ^ m % p := by
  have e : m = n * (m / n) + m % n := (Nat.div_add_mod _ _).symm
  conv => rhs; rw [e]
  rw [Int.pow_add, Int.pow_mul, mul_one_mod (pow_one_md h _)]
theorem neg_idx {n i j : Nat} (hn : 0 < n) (hi : i < n) : (n - i) % n * j % n = (n - i * j % n) % n := by
  have h1 : ((n - i) % n * j + i * j) % n = 0 := by
    rw [Nat.add_mod, Nat.mod_mul_mod, ← Nat.add_mod, ← Nat.add_mul, Nat.sub_add_cancel (Nat.le_of_lt hi), Nat.mul_mod_right]
  have h2 : ((n - i) % n * j % n + i * j % n) % n = 0 := by rw [← Nat.add_mod]; exact h1
  have ha : (n - i) % n * j % n < n := Nat.mod_lt _ hn
  have hb : i * j % n < n := Nat.mod_lt _ hn
  generalize (n - i) % n * j % n = A at *
  generalize i * j % n = B at *
  rcases Nat.eq_zero_or_pos B with h0 | h0
  · subst h0
    rw [Nat.add_zero, Nat.mod_eq_of_lt ha] at h2
    rw [Nat.sub_zero, Nat.mod_self, h2]
  · rw [Nat.mod_eq_of_lt (by omega : n - B < n)]
    have h3 : A + B = n := by
      have h4 : n ∣ A + B := Nat.dvd_of_mod_eq_zero h2
      obtain ⟨q, hq⟩ := h4
      have : q = 1 := by
        rcases q with _ | _ | q
        · rw [Nat.mul_zero] at hq; omega
        · rfl
        · rw [show n * (q + 1 + 1) = n * q + n + n by rw [Nat.mul_add, Nat.mul_add, Nat.mul_one]] at hq; omega
      rw [this, Nat.mul_one] at hq; exact hq
    omega
theorem dft_inv {p w wi : Int} {v : List Int} (hn : 0 < v.length) (hf : w ^ v.length % p = 1 % p) (hi : w * wi % p = 1 % p) {k : Nat} (hk : k < v.length) : dftAt p v wi k = dftAt p v w ((v.length - k) % v.length) := by
  unfold dftAt
  refine sigN_mod _ fun j _ => ?_
  unfold dftT
  rw [neg_idx hn hk]
  refine mul_congr_mod rfl ?_
  have hm : k * j % v.length < v.length := Nat.mod_lt _ hn
  generalize k * j % v.length = m at *
  rw [pow_red hf]
  have h1 : w ^ (v.length - m) * (w ^ m * wi ^ m) % p = wi ^ m % p := by
    rw [← Int.mul_assoc, ← Int.pow_add, Nat.sub_add_cancel (Nat.le_of_lt hm), mul_one_mod hf]
  rw [← h1, ← Int.mul_pow, Int.mul_comm, mul_one_mod (pow_one_md hi m)]
theorem cyc_idx {n s t k : Nat} (hs : s < n) (ht : t < n) (hk : k < n) : (s + t + (n - k)) % n = 0 ↔ t = (k + n - s) % n := by
  have e : (k + n - s) % n = if s ≤ k then k - s else k + n - s := by
    split
    · rw [show k + n - s = (k - s) + n by omega, Nat.add_mod_right, Nat.mod_eq_of_lt (by omega)]
    · rw [Nat.mod_eq_of_lt (by omega)]
  rw [e]
  constructor
  · intro h
    obtain ⟨q, hq⟩ := Nat.dvd_of_mod_eq_zero h
    rcases q with _ | _ | _ | q
    · rw [Nat.mul_zero] at hq; omega
    · rw [show n * (0 + 1) = n by omega] at hq; split <;> omega
    · rw [show n * (0 + 1 + 1) = n + n by omega] at hq; split <;> omega
    · rw [show n * (q + 1 + 1 + 1) = n * q + n + n + n by rw [Nat.mul_add, Nat.mul_add, Nat.mul_add, Nat.mul_one]] at hq; omega
  · intro h
    subst h
    split
    · rw [show s + (k - s) + (n - k) = n by omega, Nat.mod_self]
    · rw [show s + (k + n - s) + (n - k) = n + n by omega, Nat.add_mod_right, Nat.mod_self]
theorem cyc_thm {p w : Int} {K : Nat} (h : RtK p w K) {a b : List Int} (ha : a.length = 2 ^ K) (hb : b.length = 2 ^ K) {by' : Int} (hby : ((2 ^ K : Nat) : Int) * by' % p = 1 % p) {k : Nat} (hk : k < 2 ^ K) :
    mulM p (dftAt p (pwL p (dftL p a w (2 ^ K)) (dftL p b w (2 ^ K))) w ((2 ^ K - k) % 2 ^ K)) by' = cycAt p a b k := by
  have h0 : 0 < 2 ^ K := Nat.pow_pos (by omega)
  have hpl : (pwL p (dftL p a w (2 ^ K)) (dftL p b w (2 ^ K))).length = 2 ^ K := by unfold pwL; rw [rgm_len, dftL_len]
  -- the transform of the pointwise product
  have e1 : dftAt p (pwL p (dftL p a w (2 ^ K)) (dftL p b w (2 ^ K))) w ((2 ^ K - k) % 2 ^ K) = sigN (fun i => sigN (fun s => sigN (fun t => a.getD s 0 * b.getD t 0 * w ^ (i * (s + t + (2 ^ K - k)))) (2 ^ K)) (2 ^ K)) (2 ^ K) % p := by
    unfold dftAt
    rw [hpl]
    refine sigN_mod _ fun i hi => ?_
    unfold dftT
    rw [hpl]
    have g1 : (pwL p (dftL p a w (2 ^ K)) (dftL p b w (2 ^ K))).getD i 0 = mulM p (dftAt p a w i) (dftAt p b w i) := by
      unfold pwL
      rw [dftL_len]
      simp [List.getD_eq_getElem?_getD, hi, dftL]
    have gS : ∀ v : List Int, v.length = 2 ^ K → dftAt p v w i % p = sigN (fun s => v.getD s 0 * w ^ (i * s)) (2 ^ K) % p := fun v hv => by
      unfold dftAt
      rw [mod_mod, hv]
      refine sigN_mod _ fun s _ => ?_
      unfold dftT
      rw [hv]
      exact mul_congr_mod rfl (pow_red h.full _)
    rw [g1]
    have g2 : mulM p (dftAt p a w i) (dftAt p b w i) % p = sigN (fun s => a.getD s 0 * w ^ (i * s)) (2 ^ K) * sigN (fun t => b.getD t 0 * w ^ (i * t)) (2 ^ K) % p := by
      unfold mulM
      rw [mod_mod]
      exact mul_congr_mod (gS a ha) (gS b hb)
    have g3 : w ^ ((2 ^ K - k) % 2 ^ K * i % 2 ^ K) % p = w ^ (i * (2 ^ K - k)) % p := by
      rw [Nat.mod_mul_mod, pow_red h.full, Nat.mul_comm]
    rw [mul_congr_mod g2 g3]
    congr 1
    generalize hSB : sigN (fun t => b.getD t 0 * w ^ (i * t)) (2 ^ K) = SB
    have q1 : ∀ s, sigN (fun t => a.getD s 0 * b.getD t 0 * w ^ (i * (s + t + (2 ^ K - k)))) (2 ^ K) = (SB * w ^ (i * (2 ^ K - k))) * (a.getD s 0 * w ^ (i * s)) := by
      intro s
      rw [show (SB * w ^ (i * (2 ^ K - k))) * (a.getD s 0 * w ^ (i * s)) = (w ^ (i * (2 ^ K - k)) * (a.getD s 0 * w ^ (i * s))) * SB by ac_rfl, ← hSB, ← sigN_mul]
      refine sigN_congr _ fun t _ => ?_
      rw [Nat.mul_add, Nat.mul_add, Int.pow_add, Int.pow_add]
      ac_rfl
    rw [sigN_congr _ (fun s _ => q1 s), sigN_mul]
    ac_rfl
  have e2 : dftAt p (pwL p (dftL p a w (2 ^ K)) (dftL p b w (2 ^ K))) w ((2 ^ K - k) % 2 ^ K) % p = ((2 ^ K : Nat) : Int) * sigN (fun s => a.getD s 0 * b.getD ((k + 2 ^ K - s) % 2 ^ K) 0) (2 ^ K) % p := by
    rw [e1, mod_mod, sigN_comm, ← sigN_mul]
    refine sigN_mod _ fun s hs => ?_
    rw [sigN_comm]
    have hd : sigN (fun t => sigN (fun i => a.getD s 0 * b.getD t 0 * w ^ (i * (s + t + (2 ^ K - k)))) (2 ^ K)) (2 ^ K) % p = sigN (fun t => if t = (k + 2 ^ K - s) % 2 ^ K then ((2 ^ K : Nat) : Int) * (a.getD s 0 * b.getD t 0) else 0) (2 ^ K) % p := by
      refine sigN_mod _ fun t ht => ?_
      rw [sigN_mul, ← mul_mod_r, ortho h, mul_mod_r]
      by_cases hc : t = (k + 2 ^ K - s) % 2 ^ K
      · rw [if_pos ((cyc_idx hs ht hk).2 hc), if_pos hc, Int.mul_comm]
      · rw [if_neg (fun h => hc ((cyc_idx hs ht hk).1 h)), if_neg hc, Int.mul_zero]
    rw [hd, sigN_at, if_pos (Nat.mod_lt _ h0)]
  unfold mulM cycAt
  rw [ha, ← mul_mod_l, e2, mul_mod_l, Int.mul_comm ((2 ^ K : Nat) : Int), Int.mul_assoc, ← mul_mod_r, hby, mul_mod_r, Int.mul_one]
end Go.SF
