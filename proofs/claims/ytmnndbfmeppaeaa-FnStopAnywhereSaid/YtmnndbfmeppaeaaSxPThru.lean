/- What is owed of the code of polynomials through points. No condition. -/
import Derived.Test.YtmnndbfmeppaeaaSxPPolyB
namespace Go.SF
open Go.SX Go
set_option linter.unusedVariables false
set_option linter.unusedSimpArgs false
set_option maxRecDepth 10000
theorem fermat_small : (∀ y : Fin 17, y.val ≠ 0 → y.val ^ 16 % 17 = 1) ∧ (∀ y : Fin 97, y.val ≠ 0 → y.val ^ 96 % 97 = 1) ∧ (∀ y : Fin 193, y.val ≠ 0 → y.val ^ 192 % 193 = 1) ∧ (∀ y : Fin 257, y.val ≠ 0 → y.val ^ 256 % 257 = 1) := by decide +kernel
theorem fermat_of {P : Nat} (h : ∀ y : Fin P, y.val ≠ 0 → y.val ^ (P - 1) % P = 1) {x : Int} (hP : 0 < P) (hx : x % (P : Int) ≠ 0) : x ^ (P - 1) % (P : Int) = 1 := by
  have h0 := Int.emod_nonneg x (show (P : Int) ≠ 0 by omega)
  have h1 := Int.emod_lt_of_pos x (show (0 : Int) < P by omega)
  obtain ⟨n, hn⟩ := Int.eq_ofNat_of_zero_le h0
  have h2 := h ⟨n, by omega⟩ (by show n ≠ 0; omega)
  simp only at h2
  rw [← pow_mod, hn, ← Int.natCast_pow, ← Int.natCast_emod, h2]
  rfl
theorem fermat_at {f : Int} (h : 0 ≤ f ∧ f < 4) {x : Int} (hx : x % modF f ≠ 0) : x ^ (modF f - 1).toNat % modF f = 1 := by
  obtain ⟨h1, h2, h3, h4⟩ := fermat_small
  have hc : f = 0 ∨ f = 1 ∨ f = 2 ∨ f = 3 := by omega
  rcases hc with rfl | rfl | rfl | rfl
  · exact fermat_of (P := 17) h1 (by decide) hx
  · exact fermat_of (P := 97) h2 (by decide) hx
  · exact fermat_of (P := 193) h3 (by decide) hx
  · exact fermat_of (P := 257) h4 (by decide) hx
theorem pow_one_mod (p : Int) (hp : IsMod p) {y : Int} (h : y % p = 1) : ∀ q : Nat, y ^ q % p = 1
  | 0 => by rw [Int.pow_zero]; exact el_self (el_one hp)
  | q + 1 => by rw [Int.pow_succ, ← mul_mod_l, pow_one_mod p hp h q, Int.one_mul, h]
theorem powP_nat {f : Int} (hm : modF f ≠ 0) (x : Int) {i : Nat} (hi : i ≤ 400) : powP (modF f) x (i : Int) = powM (modF f) x i := by
  obtain ⟨hp, hf⟩ := mod_is hm
  unfold powP
  by_cases hx : x % modF f = 0
  · rw [if_pos hx]
    match i with
    | 0 =>
      rw [if_pos (show ((0 : Nat) : Int) = 0 from rfl)]
      unfold powM
      rw [Int.pow_zero]; exact (el_self (el_one hp)).symm
    | i + 1 =>
      rw [if_neg (by omega), if_neg (by omega)]
      unfold powM
      rw [Int.pow_succ, ← mul_mod_r, hx, Int.mul_zero, Int.zero_emod]
  · rw [if_neg hx]
    by_cases hs : f < 4
    · have hfm := fermat_at ⟨hf.1, hs⟩ hx
      have hp17 := hp
      unfold IsMod at hp17
      obtain ⟨P, hP⟩ := Int.eq_ofNat_of_zero_le (show 0 ≤ modF f - 1 by omega)
      have hr : ((i : Int) % (modF f - 1)).toNat = i % P := by rw [hP]; rfl
      rw [hr]
      rw [hP, Int.toNat_natCast] at hfm
      unfold powM
      conv => rhs; rw [← Nat.div_add_mod i P, Int.pow_add, Int.pow_mul, ← mul_mod_l, pow_one_mod _ hp hfm, Int.one_mul]
    · have hbig : 7681 ≤ modF f := by
        have hc : f = 4 ∨ f = 5 ∨ f = 6 ∨ f = 7 ∨ f = 8 := by omega
        rcases hc with rfl | rfl | rfl | rfl | rfl <;> decide
      rw [Int.emod_eq_of_lt (by omega) (by omega), Int.toNat_natCast]
theorem el_evF {p : Int} (hp : IsMod p) (a : List Int) (x : Int) : ∀ n, El p (evF p a x n)
  | 0 => el_zero hp
  | n + 1 => el_addM hp _ _
theorem el_evP {p : Int} (hp : IsMod p) (a : List Int) (x : Int) : El p (evP p a x) := el_evF hp a x _
theorem horn_step {p : Int} (hp : IsMod p) {a : List Int} {x : Int} {t : Nat × Int} {n : Nat} (hn : t.1 = n + 1) (h : HornJ p a x t) : HornJ p a x (n, (t.2 * x + a.getD n 0) % p) := by
  obtain ⟨m, o⟩ := t
  simp only at hn
  subst hn
  obtain ⟨h1, h2, h3⟩ := h
  simp only at h1 h2 h3
  refine ⟨by show n ≤ _; omega, el_mod (by unfold IsMod at hp; omega) _, ?_⟩
  simp only
  rw [← h3, ← add_mod_l, mul_mod_l, add_mod_l]
  show _ = (o * x ^ (n + 1) + addM p (evF p a x n) (mulM p (a.getD n 0) (powM p x n))) % p
  unfold addM mulM powM
  rw [add_mod_r, mul_mod_r, ← Int.add_assoc, add_mod_r]
  congr 1
  rw [Int.pow_succ]
  grind
theorem horn_end {p : Int} (hp : IsMod p) {a : List Int} {x : Int} {t : Nat × Int} (h0 : t.1 = 0) (h : HornJ p a x t) : t.2 = evP p a x := by
  obtain ⟨m, o⟩ := t
  simp only at h0
  subst h0
  obtain ⟨h1, h2, h3⟩ := h
  simp only at h2 h3
  rw [Int.pow_zero, Int.mul_one] at h3
  rw [← h3]
  show o = (o + 0) % p
  rw [Int.add_zero, el_self h2]
theorem left_len (p r : Int) (a : List Int) (k : Nat) : (leftL p r a k).length = a.length := mr_len _ _
theorem leftJ_len (p r : Int) (a : List Int) (k j : Nat) : (leftJ p r a k j).length = a.length := by
  unfold leftJ
  split
  · exact left_len ..
  · split
    · rw [List.length_set, left_len]
    · exact left_len ..
theorem quoL_len (p r : Int) (a : List Int) (k : Nat) : (quoL p r a k).length = a.length - 1 := mr_len _ _
theorem el_qs {p : Int} (hp : IsMod p) (r : Int) (a : List Int) : ∀ k, El p (qsF p r a k)
  | 0 => el_zero hp
  | k + 1 => el_subM hp _ _
theorem left_get {p r : Int} {a : List Int} {k t : Nat} (ht : t < a.length) : (leftL p r a k).getD t 0 = if t + k < a.length - 1 then a.getD t 0 else if t + k = a.length - 1 then qsF p r a (k + 1) else 0 := by
  unfold leftL
  rw [mr_get, if_pos ht]
theorem left_zero {p r : Int} {a : List Int} (h2 : 2 ≤ a.length) (he : elemsF p a = true) : a = leftL p r a 0 := by
  refine list_ext (left_len ..).symm (fun t ht => ?_)
  rw [left_get ht]
  by_cases h : t + 0 < a.length - 1
  · rw [if_pos h]
  · rw [if_neg h, if_pos (by omega)]
    show _ = subM p (a.getD (a.length - 1 - 0) 0) (mulM p 0 r)
    unfold subM mulM
    rw [Int.zero_mul, Int.zero_emod, Int.sub_zero, show a.length - 1 - 0 = t by omega, el_self (el_at he ht)]
theorem quoL_zero (p r : Int) (a : List Int) : List.replicate (a.length - 1) 0 = quoL p r a 0 := by
  rw [mr_const]
  refine mr_congr (fun t ht => ?_)
  rw [if_neg (by omega)]
theorem quoL_set {p r : Int} {a : List Int} {k : Nat} (hk : k + 1 ≤ a.length - 1) : (quoL p r a k).set (a.length - 2 - k) (qsF p r a (k + 1)) = quoL p r a (k + 1) := by
  unfold quoL
  rw [mr_set]
  refine mr_congr (fun t ht => ?_)
  by_cases h : t = a.length - 2 - k
  · rw [if_pos h, if_pos (by omega)]
    congr 1
    omega
  · rw [if_neg h]
    by_cases h2 : a.length - 1 ≤ t + k
    · rw [if_pos h2, if_pos (by omega)]
    · rw [if_neg h2, if_neg (by omega)]
theorem quoL_end (p r : Int) (a : List Int) : quoL p r a (a.length - 1) = quoF p r a := mr_congr (fun t ht => by rw [if_pos (by omega)])
theorem left_same {p r : Int} {a : List Int} {k : Nat} (hk : k + 1 ≤ a.length - 1) (he : elemsF p a = true) (hz : qsF p r a (k + 1) = 0) : leftL p r a k = leftL p r a (k + 1) := by
  refine list_ext (by simp only [left_len]) (fun t ht => ?_)
  rw [left_len] at ht
  rw [left_get ht, left_get ht]
  by_cases h : t + (k + 1) < a.length - 1
  · rw [if_pos h, if_pos (by omega)]
  · rw [if_neg h]
    by_cases h2 : t + (k + 1) = a.length - 1
    · rw [if_pos h2, if_pos (by omega)]
      show _ = subM p (a.getD (a.length - 1 - (k + 1)) 0) (mulM p (qsF p r a (k + 1)) r)
      unfold subM mulM
      rw [hz, Int.zero_mul, Int.zero_emod, Int.sub_zero, show a.length - 1 - (k + 1) = t by omega, el_self (el_at he ht)]
    · rw [if_neg h2, if_neg (by omega)]
      by_cases h3 : t + k = a.length - 1
      · rw [if_pos h3, hz]
      · rw [if_neg h3]
theorem left_set {p r : Int} {a : List Int} {k : Nat} (hk : k + 1 ≤ a.length - 1) : ((leftL p r a k).set (a.length - 2 - k) (qsF p r a (k + 2))).set (a.length - 1 - k) 0 = leftL p r a (k + 1) := by
  unfold leftL
  rw [mr_set, mr_set]
  refine mr_congr (fun t ht => ?_)
  by_cases h : t = a.length - 1 - k
  · rw [if_pos h, if_neg (by omega), if_neg (by omega)]
  · rw [if_neg h]
    by_cases h2 : t = a.length - 2 - k
    · rw [if_pos h2, if_neg (by omega), if_pos (by omega)]
    · rw [if_neg h2]
      by_cases h3 : t + k < a.length - 1
      · rw [if_pos h3, if_pos (by omega)]
      · rw [if_neg h3, if_neg (by omega), if_neg (by omega), if_neg (by omega)]
theorem getD_setI {l : List Int} {i j : Nat} {v : Int} (hi : i < l.length) : (l.set i v).getD j 0 = if j = i then v else l.getD j 0 := by
  rw [List.getD_eq_getElem?_getD, List.getElem?_set]
  by_cases h : i = j
  · subst h
    rw [if_pos rfl, if_pos hi, if_pos rfl]; rfl
  · rw [if_neg h, if_neg (Ne.symm h), List.getD_eq_getElem?_getD]
theorem inv_one {p : Int} (hp : IsMod p) : invM p 1 = 1 := by
  unfold invM powM
  rw [Int.one_pow, el_self (el_one hp)]
theorem pair_elems {p : Int} {a b : Int} (ha : El p a) (hb : El p b) : elemsF p [a, b] = true := elems_of (fun i hi => by
  simp only [List.length_cons, List.length_nil] at hi
  match i with
  | 0 => exact ha
  | 1 => exact hb
  | n + 2 => omega)
theorem inter_no {f : Int} {xs ys : List Int} (h : (pointsF f xs && decide (ys.length = xs.length) && specElemsF f ys) = false) : ([], false) = interF f xs ys := by unfold interF; rw [h]; rfl
theorem inter_ok {f : Int} {xs ys : List Int} (h1 : pointsF f xs = true) (h2 : ys.length = xs.length) (h3 : specElemsF f ys = true) : interF f xs ys = (thrF (modF f) xs ys, true) := by
  unfold interF
  rw [h1, h3, decide_eq_true h2]; rfl
theorem inter_inv {f : Int} {xs ys : List Int} (h : (interF f xs ys).2 = true) : pointsF f xs = true ∧ ys.length = xs.length ∧ specElemsF f ys = true ∧ interF f xs ys = (thrF (modF f) xs ys, true) := by
  by_cases hc : (pointsF f xs && decide (ys.length = xs.length) && specElemsF f ys) = true
  · have hc' := hc
    simp only [Bool.and_eq_true, decide_eq_true_eq] at hc'
    exact ⟨hc'.1.1, hc'.1.2, hc'.2, inter_ok hc'.1.1 hc'.1.2 hc'.2⟩
  · rw [← inter_no (by simpa using hc)] at h
    cases h
theorem ext_no {f : Int} {xs ys : List Int} {y : Int} (h : ((interF f xs ys).2 && decide (0 ≤ y ∧ y < modF f)) = false) : -1 = extF f xs ys y := by unfold extF; rw [h]; rfl
end Go.SF
