/- The transform: what its levels come to. No condition. -/
import Derived.Test.YtobmiihdfklmaaaGreatSxC
import Derived.Test.YtobmiihdfklmaaaGreatSxPAdvB
import Derived.Test.YtobmiihdfklmaaaGreatSxPPlan2
namespace Go.SF
open Go.SX Go
set_option linter.unusedVariables false
set_option linter.unusedSimpArgs false
theorem sigN_congr {f g : Nat → Int} : ∀ n, (∀ j, j < n → f j = g j) → sigN f n = sigN g n
  | 0, _ => rfl
  | n + 1, h => by rw [sigN, sigN, sigN_congr n (fun j hj => h j (by omega)), h n (Nat.lt_succ_self n)]
theorem sigN_mod {p : Int} {f g : Nat → Int} : ∀ n, (∀ j, j < n → f j % p = g j % p) → sigN f n % p = sigN g n % p
  | 0, _ => rfl
  | n + 1, h => by
    rw [sigN, sigN, ← add_mod_l, ← add_mod_r, sigN_mod n (fun j hj => h j (by omega)), h n (Nat.lt_succ_self n), add_mod_r, add_mod_l]
theorem sigN_add (f g : Nat → Int) : ∀ n, sigN (fun j => f j + g j) n = sigN f n + sigN g n
  | 0 => rfl
  | n + 1 => by rw [sigN, sigN, sigN, sigN_add f g n]; omega
theorem sigN_mul (c : Int) (f : Nat → Int) : ∀ n, sigN (fun j => c * f j) n = c * sigN f n
  | 0 => by rw [sigN, sigN, Int.mul_zero]
  | n + 1 => by rw [sigN, sigN, sigN_mul c f n, Int.mul_add]
theorem sigN_two (f : Nat → Int) : ∀ n, sigN f (2 * n) = sigN (fun j => f (2 * j)) n + sigN (fun j => f (2 * j + 1)) n
  | 0 => rfl
  | n + 1 => by
    rw [show 2 * (n + 1) = 2 * n + 1 + 1 by omega, sigN, sigN, sigN_two f n, sigN, sigN]; omega
def pwN (p a : Nat) : Nat → Nat → Nat
  | 0, _ => 1 % p
  | n + 1, e => if e % 2 = 0 then pwN p a n (e / 2) * pwN p a n (e / 2) % p else pwN p a n (e / 2) * pwN p a n (e / 2) % p * a % p
theorem pwN_ok (p a : Nat) : ∀ n e, e < 2 ^ n → pwN p a n e = a ^ e % p
  | 0, e, h => by rw [show e = 0 by omega]; rfl
  | n + 1, e, h => by
    have ih := pwN_ok p a n (e / 2) (by rw [Nat.pow_succ] at h; omega)
    rw [pwN, ih, ← Nat.mul_mod, ← Nat.pow_add]
    split
    · rw [show e / 2 + e / 2 = e by omega]
    · rw [Nat.mod_mul_mod, ← Nat.pow_succ, show (e / 2 + e / 2).succ = e by omega]
theorem powM_nat (p a e : Nat) : powM (p : Int) (a : Int) e = ((a ^ e % p : Nat) : Int) := by
  unfold powM
  rw [Int.natCast_emod, Int.natCast_pow]
theorem half_at {p g n e : Nat} (h : pwN p g n e = p - 1) (he : e < 2 ^ n) (hp : 1 ≤ p) : powM (p : Int) (g : Int) e = (p : Int) - 1 := by
  rw [powM_nat, ← pwN_ok p g n e he, h]; omega
theorem gen_half {f : Int} (h : modF f ≠ 0) : powM (modF f) (genF f) ((modF f - 1).toNat / 2) = modF f - 1 := by
  rcases field_cases (mod_is h).2 with e | e | e | e | e | e | e | e | e <;> subst e
  · exact half_at (p := 17) (g := 3) (n := 30) (by decide +kernel) (by decide +kernel) (by decide)
  · exact half_at (p := 97) (g := 5) (n := 30) (by decide +kernel) (by decide +kernel) (by decide)
  · exact half_at (p := 193) (g := 5) (n := 30) (by decide +kernel) (by decide +kernel) (by decide)
  · exact half_at (p := 257) (g := 3) (n := 30) (by decide +kernel) (by decide +kernel) (by decide)
  · exact half_at (p := 7681) (g := 17) (n := 30) (by decide +kernel) (by decide +kernel) (by decide)
  · exact half_at (p := 12289) (g := 11) (n := 30) (by decide +kernel) (by decide +kernel) (by decide)
  · exact half_at (p := 998244353) (g := 3) (n := 30) (by decide +kernel) (by decide +kernel) (by decide)
  · exact half_at (p := 469762049) (g := 3) (n := 30) (by decide +kernel) (by decide +kernel) (by decide)
  · exact half_at (p := 1004535809) (g := 3) (n := 30) (by decide +kernel) (by decide +kernel) (by decide)
theorem rev_two (b c : Nat) (hc : c < 2) : ∀ m, rev (2 * b + c) (m + 1) = c * 2 ^ m + rev b m
  | 0 => by simp [rev]; omega
  | m + 1 => by
    have h := rev_two b c hc m
    have hd : (2 * b + c) / 2 ^ (m + 1) = b / 2 ^ m := by
      rw [Nat.pow_succ, Nat.mul_comm (2 ^ m) 2, ← Nat.div_div_eq_div_mul, show (2 * b + c) / 2 = b by omega]
    rw [rev, h, rev, hd, Nat.pow_succ, Nat.mul_add, ← Nat.mul_assoc, Nat.mul_comm 2 c, Nat.mul_assoc, Nat.mul_comm 2 (2 ^ m)]
    omega
theorem bf_add {p x y X Y G : Int} (hx : x % p = X % p) (hy : y % p = Y % p) : addM p x (mulM p y (G % p)) % p = (X + G * Y) % p := by
  have e : y * (G % p) % p = G * Y % p := by rw [mul_mod_r, ← mul_mod_l, hy, mul_mod_l, Int.mul_comm]
  unfold addM mulM
  rw [mod_mod, e, add_mod_r, ← add_mod_l, hx, add_mod_l]
theorem bf_sub {p x y X Y G : Int} (hx : x % p = X % p) (hy : y % p = Y % p) : subM p x (mulM p y (G % p)) % p = (X - G * Y) % p := by
  have e : y * (G % p) % p = G * Y % p := by rw [mul_mod_r, ← mul_mod_l, hy, mul_mod_l, Int.mul_comm]
  unfold subM mulM
  rw [mod_mod, e, sub_mod_r, ← sub_mod_l, hx, sub_mod_l]
theorem add_congr_mod {p a b c d : Int} (h1 : a % p = c % p) (h2 : b % p = d % p) : (a + b) % p = (c + d) % p := by
  rw [← add_mod_l, h1, add_mod_l, ← add_mod_r, h2, add_mod_r]
theorem mul_one_mod {p a b : Int} (h : a % p = 1 % p) : a * b % p = b % p := by
  rw [← mul_mod_l, h, mul_mod_l, Int.one_mul]
theorem pow_one_md {p a : Int} (h : a % p = 1 % p) : ∀ n : Nat, a ^ n % p = 1 % p
  | 0 => by rw [Int.pow_zero]
  | n + 1 => by rw [Int.pow_succ, Int.mul_comm, mul_one_mod h, pow_one_md h n]
def lvS (v : List Int) (g : Int) (N K l t : Nat) : Int := sigN (fun j => v.getD (rev (t / 2 ^ l) (K - l) + 2 ^ (K - l) * j) 0 * g ^ (N / 2 ^ l * (t % 2 ^ l) * j)) (2 ^ l)
theorem div_h {h t : Nat} (hh : 0 < h) : t / h = 2 * (t / (2 * h)) + (if t % (2 * h) < h then 0 else 1) ∧ t % h = (if t % (2 * h) < h then t % (2 * h) else t % (2 * h) - h) := by
  have h1 : t = 2 * h * (t / (2 * h)) + t % (2 * h) := (Nat.div_add_mod t (2 * h)).symm
  have h2 : t % (2 * h) < 2 * h := Nat.mod_lt _ (by omega)
  generalize t / (2 * h) = b at *
  generalize t % (2 * h) = r at *
  subst h1
  have h3 : 2 * h * b + r = h * (2 * b) + r := by rw [Nat.mul_comm 2 h, Nat.mul_assoc]
  rw [h3]
  split
  · rename_i hr
    rw [Nat.mul_add_div hh, Nat.div_eq_of_lt hr, Nat.mul_add_mod, Nat.mod_eq_of_lt hr]
    exact ⟨rfl, rfl⟩
  · rename_i hr
    rw [Nat.mul_add_div hh, Nat.mul_add_mod, Nat.mod_eq_sub_mod (by omega), Nat.mod_eq_of_lt (by omega)]
    refine ⟨?_, rfl⟩
    congr 1
    rw [Nat.div_eq_sub_div hh (by omega), Nat.div_eq_of_lt (by omega)]
theorem lvS_lo {v : List Int} {g : Int} {N K l t : Nat} (hl : l < K) (e : Nat) (hN : N = 2 * 2 ^ l * e) (ht : t % (2 * 2 ^ l) < 2 ^ l) :
    lvS v g N K (l + 1) t = lvS v g N K l t + g ^ (e * (t % 2 ^ l)) * lvS v g N K l (t + 2 ^ l) := by
  have hh : 0 < 2 ^ l := Nat.pow_pos (by omega)
  obtain ⟨m, rfl⟩ : ∃ m, K = l + 1 + m := ⟨K - l - 1, by omega⟩
  obtain ⟨d1, d2⟩ := div_h (t := t) hh
  rw [if_pos ht] at d1 d2
  have d3 : (t + 2 ^ l) / 2 ^ l = 2 * (t / (2 * 2 ^ l)) + 1 := by rw [Nat.add_div_right _ hh, d1]
  have d4 : (t + 2 ^ l) % 2 ^ l = t % 2 ^ l := Nat.add_mod_right _ _
  have n1 : N / 2 ^ l = 2 * e := by rw [hN, Nat.mul_comm 2, Nat.mul_assoc, Nat.mul_div_cancel_left _ hh]
  have hp1 : 2 ^ (l + 1) = 2 * 2 ^ l := Nat.pow_add_one'
  have n2 : N / (2 * 2 ^ l) = e := by rw [hN, Nat.mul_div_cancel_left _ (by omega)]
  unfold lvS
  rw [d3, d4, n1, hp1, n2, d1, show l + 1 + m - (l + 1) = m by omega, show l + 1 + m - l = m + 1 by omega, sigN_two, rev_two _ 0 (by omega), rev_two _ 1 (by omega), ← sigN_mul, d2, Nat.zero_mul, Nat.zero_add, Nat.one_mul]
  congr 1
  · refine sigN_congr _ fun j _ => ?_
    rw [Nat.pow_add_one', show 2 * 2 ^ m * j = 2 ^ m * (2 * j) by ac_rfl]
    congr 2
    ac_rfl
  · refine sigN_congr _ fun j _ => ?_
    rw [Nat.pow_add_one', show rev (t / (2 * 2 ^ l)) m + 2 ^ m * (2 * j + 1) = 2 ^ m + rev (t / (2 * 2 ^ l)) m + 2 * 2 ^ m * j by rw [Nat.mul_add, Nat.mul_one, show 2 * 2 ^ m * j = 2 ^ m * (2 * j) by ac_rfl]; omega]
    rw [Nat.mul_add, Nat.mul_one, Int.pow_add, show e * (t % (2 * 2 ^ l)) * (2 * j) = 2 * e * (t % (2 * 2 ^ l)) * j by ac_rfl]
    ac_rfl
theorem lvS_hi {p : Int} {v : List Int} {g : Int} {N K l t : Nat} (hl : l < K) (e : Nat) (hN : N = 2 * 2 ^ l * e) (hg : g ^ (2 ^ l * e) % p = (-1) % p) (ht : ¬ t % (2 * 2 ^ l) < 2 ^ l) :
    lvS v g N K (l + 1) t % p = (lvS v g N K l (t - 2 ^ l) - g ^ (e * (t % 2 ^ l)) * lvS v g N K l t) % p := by
  have hh : 0 < 2 ^ l := Nat.pow_pos (by omega)
  obtain ⟨m, rfl⟩ : ∃ m, K = l + 1 + m := ⟨K - l - 1, by omega⟩
  have htl : 2 ^ l ≤ t := Nat.le_trans (by omega) (Nat.mod_le t (2 * 2 ^ l))
  obtain ⟨d1, d2⟩ := div_h (t := t) hh
  rw [if_neg ht] at d1 d2
  have d3 : (t - 2 ^ l) / 2 ^ l = 2 * (t / (2 * 2 ^ l)) + 0 := by
    have := Nat.add_div_right (t - 2 ^ l) hh
    rw [Nat.sub_add_cancel htl, d1] at this
    omega
  have d4 : (t - 2 ^ l) % 2 ^ l = t % 2 ^ l := by
    have := Nat.add_mod_right (t - 2 ^ l) (2 ^ l)
    rw [Nat.sub_add_cancel htl] at this
    exact this.symm
  have n1 : N / 2 ^ l = 2 * e := by rw [hN, Nat.mul_comm 2, Nat.mul_assoc, Nat.mul_div_cancel_left _ hh]
  have hp1 : 2 ^ (l + 1) = 2 * 2 ^ l := Nat.pow_add_one'
  have n2 : N / (2 * 2 ^ l) = e := by rw [hN, Nat.mul_div_cancel_left _ (by omega)]
  have hg2 : g ^ (2 * 2 ^ l * e) % p = 1 % p := by
    rw [show 2 * 2 ^ l * e = 2 ^ l * e + 2 ^ l * e by rw [Nat.mul_assoc]; omega, Int.pow_add, ← mul_mod_l, hg, mul_mod_l, ← mul_mod_r, hg, mul_mod_r]
    rfl
  have hr : t % (2 * 2 ^ l) = 2 ^ l + t % 2 ^ l := by rw [d2]; omega
  unfold lvS
  rw [d3, d4, n1, hp1, n2, d1, show l + 1 + m - (l + 1) = m by omega, show l + 1 + m - l = m + 1 by omega, sigN_two, rev_two _ 0 (by omega), rev_two _ 1 (by omega), ← sigN_mul, Nat.zero_mul, Nat.zero_add, Nat.one_mul, hr, Int.sub_eq_add_neg, ← Int.neg_one_mul, ← sigN_mul]
  generalize t % 2 ^ l = r
  refine add_congr_mod ?_ ?_
  · refine sigN_mod _ fun j _ => ?_
    rw [Nat.pow_add_one', show 2 * 2 ^ m * j = 2 ^ m * (2 * j) by ac_rfl]
    rw [show e * (2 ^ l + r) * (2 * j) = (2 * 2 ^ l * e) * j + 2 * e * r * j by rw [Nat.mul_add, Nat.add_mul]; congr 1 <;> ac_rfl, Int.pow_add, Int.pow_mul]
    rw [← mul_mod_r, mul_one_mod (pow_one_md hg2 j), mul_mod_r]
  · refine sigN_mod _ fun j _ => ?_
    rw [Nat.pow_add_one', show rev (t / (2 * 2 ^ l)) m + 2 ^ m * (2 * j + 1) = 2 ^ m + rev (t / (2 * 2 ^ l)) m + 2 * 2 ^ m * j by rw [Nat.mul_add, Nat.mul_one, show 2 * 2 ^ m * j = 2 ^ m * (2 * j) by ac_rfl]; omega]
    rw [show e * (2 ^ l + r) * (2 * j + 1) = (2 * 2 ^ l * e) * j + (2 ^ l * e + (e * r + 2 * e * r * j)) by
      rw [Nat.mul_add, Nat.mul_one, Nat.mul_add, Nat.add_mul, show e * 2 ^ l * (2 * j) = 2 * 2 ^ l * e * j by ac_rfl, show e * r * (2 * j) = 2 * e * r * j by ac_rfl, show e * 2 ^ l = 2 ^ l * e by ac_rfl]; omega]
    rw [Int.pow_add, Int.pow_mul, Int.pow_add, Int.pow_add, ← mul_mod_r, mul_one_mod (pow_one_md hg2 j), mul_mod_r, Int.mul_left_comm, ← mul_mod_l, hg, mul_mod_l]
    congr 2
    ac_rfl
theorem lev_sum {p g T : Int} {v : List Int} {K N : Nat} (hlog : (logF v.length).toNat = K) (hlen : v.length = 2 ^ K) (hk0 : 0 ≤ logF v.length) (hN : ∀ l, l < K → ∃ e, N = 2 * 2 ^ l * e) (hd : (p - 1).toNat = N) (hg : 0 < K → g ^ (N / 2) % p = (-1) % p) :
    ∀ l t, l ≤ K → t < 2 ^ K → lev (p, g, T) (permF v) l t % p = lvS v g N K l t % p
  | 0, t, _, ht => by
    unfold lev lvS permF
    rw [if_pos hk0]
    unfold permL
    rw [hlog]
    have e : ((List.range v.length).map (fun i => v.getD (rev i K) 0)).getD t 0 = v.getD (rev t K) 0 := by
      simp [List.getD_eq_getElem?_getD, show t < v.length by omega]
    rw [e]
    simp [sigN]
  | l + 1, t, hl, ht => by
    obtain ⟨e, he⟩ := hN l (by omega)
    have hh : 0 < 2 ^ l := Nat.pow_pos (by omega)
    have hpow : 2 ^ K = 2 * 2 ^ l * 2 ^ (K - l - 1) := len_split (by omega)
    have htw : twF (p, g, T) l (t % 2 ^ l) = g ^ (e * (t % 2 ^ l)) % p := by
      unfold twF powM
      rw [hd, he, Nat.pow_add_one', Nat.mul_div_cancel_left _ (by omega)]
    have hg' : g ^ (2 ^ l * e) % p = (-1) % p := by
      have := hg (by omega)
      rw [he, Nat.mul_assoc, Nat.mul_div_cancel_left _ (by omega)] at this
      exact this
    rw [lev]
    split
    · rename_i hr
      have hr : t % (2 * 2 ^ l) < 2 ^ l := hr
      rw [lvS_lo (by omega) e he hr, htw]
      have ht2 : t + 2 ^ l < 2 ^ K := by
        rw [hpow]
        have h1 : t = 2 * 2 ^ l * (t / (2 * 2 ^ l)) + t % (2 * 2 ^ l) := (Nat.div_add_mod t _).symm
        have h2 : t / (2 * 2 ^ l) < 2 ^ (K - l - 1) := Nat.div_lt_of_lt_mul (by rw [← hpow]; exact ht)
        have h3 : 2 * 2 ^ l * (t / (2 * 2 ^ l) + 1) ≤ 2 * 2 ^ l * 2 ^ (K - l - 1) := Nat.mul_le_mul_left _ h2
        rw [Nat.mul_add, Nat.mul_one] at h3
        omega
      exact bf_add (lev_sum hlog hlen hk0 hN hd hg l t (by omega) ht) (lev_sum hlog hlen hk0 hN hd hg l _ (by omega) ht2)
    · rename_i hr
      have hr : ¬ t % (2 * 2 ^ l) < 2 ^ l := hr
      rw [lvS_hi (by omega) e he hg' hr, htw]
      exact bf_sub (lev_sum hlog hlen hk0 hN hd hg l _ (by omega) (by omega)) (lev_sum hlog hlen hk0 hN hd hg l t (by omega) ht)
theorem lev_el {p g T : Int} (hp : IsMod p) {u : List Int} (hu : ∀ t, El p (u.getD t 0)) : ∀ l t, El p (lev (p, g, T) u l t)
  | 0, t => hu t
  | l + 1, t => by
    rw [lev]
    split
    · exact el_addM hp _ _
    · exact el_subM hp _ _
theorem elems_getD {p : Int} (hp : IsMod p) {v : List Int} (h : elemsF p v = true) (t : Nat) : El p (v.getD t 0) := by
  unfold elemsF at h
  have h := of_decide_eq_true h
  rw [List.getD_eq_getElem?_getD]
  cases e : v[t]? with
  | none => exact el_zero hp
  | some x =>
    have := h x (List.mem_of_getElem? e)
    exact ⟨this.1, by show x < p; omega⟩
theorem perm_getD {p : Int} (hp : IsMod p) {v : List Int} (h : elemsF p v = true) (t : Nat) : El p ((permF v).getD t 0) := by
  unfold permF
  split
  · unfold permL
    rw [List.getD_eq_getElem?_getD, List.getElem?_map]
    cases e : (List.range v.length)[t]? with
    | none => exact el_zero hp
    | some x => exact elems_getD hp h _
  · exact el_zero hp
theorem lev_fwd {f : Int} {v : List Int} (h : vectorOkF f v = true) {t : Nat} (ht : t < v.length) : lev (fieldF f).1 (permF v) (logF v.length).toNat t = dftAt (modF f) v (rootS f (logF v.length)) t := by
  obtain ⟨hm, he, K, hK, hK9, hlen, hKt⟩ := vecL_ok h
  obtain ⟨hp, hf⟩ := mod_is hm
  have hp' := hp
  unfold IsMod at hp'
  obtain ⟨o, ho⟩ := two_dvd hm
  obtain ⟨hg1, hg2⟩ := gen_ok hm
  obtain ⟨a, ha⟩ : ∃ a : Nat, (modF f - 1).toNat = 2 ^ K * a := ⟨2 ^ ((twoF f).toNat - K) * o, by rw [ho, ← Nat.mul_assoc, ← Nat.pow_add]; congr 2; omega⟩
  have hN : ∀ l, l < K → ∃ e, (modF f - 1).toNat = 2 * 2 ^ l * e := fun l hl => ⟨2 ^ (K - l - 1) * a, by rw [ha, len_split hl, Nat.mul_assoc]⟩
  have hgh : genF f ^ ((modF f - 1).toNat / 2) % modF f = (-1) % modF f := by
    have := gen_half hm
    unfold powM at this
    rw [this]
    rw [show (-1 : Int) % modF f = (modF f - 1) % modF f from modeq (k := -1) (by omega), Int.emod_eq_of_lt (by omega) (by omega)]
  have hs := lev_sum (p := modF f) (g := genF f) (T := (fieldF f).1.2.2) (v := v) (K := K) (N := (modF f - 1).toNat) (by rw [hK]; rfl) hlen (by omega) hN rfl (fun _ => hgh) K t (Nat.le_refl _) (by omega)
  have hd : (fieldF f).1 = (modF f, genF f, (fieldF f).1.2.2) := rfl
  have hel := lev_el (g := genF f) (T := (fieldF f).1.2.2) hp (perm_getD hp he) K t
  rw [hK, Int.toNat_natCast, hd, ← el_self hel, hs]
  unfold dftAt lvS
  rw [hlen, Nat.div_eq_of_lt (by omega), Nat.mod_eq_of_lt (by omega), ha, Nat.mul_div_cancel_left _ (Nat.pow_pos (by omega)), Nat.sub_self]
  refine sigN_mod _ fun j hj => ?_
  unfold dftT
  rw [hlen, rev, Nat.zero_add, Nat.pow_zero, Nat.one_mul]
  rcases Nat.eq_zero_or_pos K with hk | hk
  · subst hk
    have ht0 : t = 0 := by rw [hlen] at ht; simpa using ht
    subst ht0
    simp
  · have hK0 : 0 < 2 ^ K := Nat.pow_pos (by omega)
    have hK2 : 2 ≤ 2 ^ K := by
      have := Nat.pow_le_pow_right (n := 2) (by omega) (show 1 ≤ K by omega)
      omega
    have hz : modF f - 1 = ((2 ^ K * a : Nat) : Int) := by omega
    have ha0 : 0 < a := by
      rcases Nat.eq_zero_or_pos a with e | e
      · rw [e, Nat.mul_zero] at hz; omega
      · exact e
    have haz : (modF f - 1) / 2 ^ K = (a : Int) := by
      rw [hz, Int.natCast_mul, Int.natCast_pow]
      exact Int.mul_ediv_cancel_left _ (Int.ne_of_gt (Int.pow_pos (by omega)))
    have hR : rootS f (K : Int) = powM (modF f) (genF f) a := by
      unfold rootS
      rw [if_pos ⟨hm, by omega, hKt⟩, Int.toNat_natCast, haz]
      unfold powP
      rw [if_neg hg2, Int.emod_eq_of_lt (by omega), Int.toNat_natCast]
      rw [hz]
      have h1 : a * 2 ≤ a * 2 ^ K := Nat.mul_le_mul_left a hK2
      rw [Nat.mul_comm] at h1
      rw [Nat.mul_comm (2 ^ K)]
      omega
    have hfull : genF f ^ (2 ^ K * a) % modF f = 1 % modF f := by
      have e : (modF f - 1).toNat = (modF f - 1).toNat / 2 + (modF f - 1).toNat / 2 := by
        obtain ⟨e, he⟩ := hN 0 hk
        omega
      rw [← ha, e, Int.pow_add, ← mul_mod_l, hgh, mul_mod_l, ← mul_mod_r, hgh, mul_mod_r]
      rfl
    rw [hR]
    unfold powM
    rw [← mul_mod_r _ (v.getD j 0), ← mul_mod_r _ (v.getD j 0) ((genF f ^ a % modF f) ^ (t * j % 2 ^ K)), pow_mod, ← Int.pow_mul]
    congr 2
    have hm2 : a * t * j = 2 ^ K * a * (t * j / 2 ^ K) + a * (t * j % 2 ^ K) := by
      have h1 : t * j = 2 ^ K * (t * j / 2 ^ K) + t * j % 2 ^ K := (Nat.div_add_mod _ _).symm
      conv => lhs; rw [Nat.mul_assoc, h1]
      rw [Nat.mul_add]
      congr 1
      ac_rfl
    rw [hm2, Int.pow_add, Int.pow_mul, mul_one_mod (pow_one_md hfull _)]
end Go.SF
