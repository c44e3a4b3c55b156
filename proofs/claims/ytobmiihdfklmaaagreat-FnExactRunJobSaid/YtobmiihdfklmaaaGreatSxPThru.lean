/- What is owed of the code of polynomials through points. No condition. -/
import Derived.Test.YtobmiihdfklmaaaGreatSxPPolyB
namespace Go.SF
open Go.SX Go
set_option linter.unusedVariables false
set_option linter.unusedSimpArgs false
set_option maxRecDepth 10000
theorem fermat_small : (∀ y : Fin 17, y.val ≠ 0 → y.val ^ 16 % 17 = 1) ∧ (∀ y : Fin 97, y.val ≠ 0 → y.val ^ 96 % 97 = 1) ∧ (∀ y : Fin 193, y.val ≠ 0 → y.val ^ 192 % 193 = 1) ∧ (∀ y : Fin 257, y.val ≠ 0 → y.val ^ 256 % 257 = 1) := by decide +kernel
theorem fermat_of {P : Nat} (h : ∀ y : Fin P, y.val ≠ 0 → y.val ^ (P - 1) % P = 1) {x : Int} (hP : 0 < P) (hx : x % (P : Int) ≠ 0) : x ^ (P - 1) % (P : Int) = 1 := by
  have h0 := Int.emod_nonneg x (show (P : Int) ≠ 0 by omega)
  have h1 := Int.emod_lt_of_pos x (show (0 : Int) < P by omega)
  obtain ⟨n, hn⟩ := Int.eq_ofNat_of_zero_le h0
  have h2 := h ⟨n, by omega⟩ (by show n ≠ 0; omega)
  simp only at h2
  rw [← pow_mod, hn, ← Int.natCast_pow, ← Int.natCast_emod, h2]
  rfl
theorem fermat_at {f : Int} (h : 0 ≤ f ∧ f < 4) {x : Int} (hx : x % modF f ≠ 0) : x ^ (modF f - 1).toNat % modF f = 1 := by
  obtain ⟨h1, h2, h3, h4⟩ := fermat_small
  have hc : f = 0 ∨ f = 1 ∨ f = 2 ∨ f = 3 := by omega
  rcases hc with rfl | rfl | rfl | rfl
  · exact fermat_of (P := 17) h1 (by decide) hx
  · exact fermat_of (P := 97) h2 (by decide) hx
  · exact fermat_of (P := 193) h3 (by decide) hx
  · exact fermat_of (P := 257) h4 (by decide) hx
theorem pow_one_mod (p : Int) (hp : IsMod p) {y : Int} (h : y % p = 1) : ∀ q : Nat, y ^ q % p = 1
  | 0 => by rw [Int.pow_zero]; exact el_self (el_one hp)
  | q + 1 => by rw [Int.pow_succ, ← mul_mod_l, pow_one_mod p hp h q, Int.one_mul, h]
theorem powP_nat {f : Int} (hm : modF f ≠ 0) (x : Int) {i : Nat} (hi : i ≤ 400) : powP (modF f) x (i : Int) = powM (modF f) x i := by
  obtain ⟨hp, hf⟩ := mod_is hm
  unfold powP
  by_cases hx : x % modF f = 0
  · rw [if_pos hx]
    match i with
    | 0 =>
      rw [if_pos (show ((0 : Nat) : Int) = 0 from rfl)]
      unfold powM
      rw [Int.pow_zero]; exact (el_self (el_one hp)).symm
    | i + 1 =>
      rw [if_neg (by omega), if_neg (by omega)]
      unfold powM
      rw [Int.pow_succ, ← mul_mod_r, hx, Int.mul_zero, Int.zero_emod]
  · rw [if_neg hx]
    by_cases hs : f < 4
    · have hfm := fermat_at ⟨hf.1, hs⟩ hx
      have hp17 := hp
      unfold IsMod at hp17
      obtain ⟨P, hP⟩ := Int.eq_ofNat_of_zero_le (show 0 ≤ modF f - 1 by omega)
      have hr : ((i : Int) % (modF f - 1)).toNat = i % P := by rw [hP]; rfl
      rw [hr]
      rw [hP, Int.toNat_natCast] at hfm
      unfold powM
      conv => rhs; rw [← Nat.div_add_mod i P, Int.pow_add, Int.pow_mul, ← mul_mod_l, pow_one_mod _ hp hfm, Int.one_mul]
    · have hbig : 7681 ≤ modF f := by
        have hc : f = 4 ∨ f = 5 ∨ f = 6 ∨ f = 7 ∨ f = 8 := by omega
        rcases hc with rfl | rfl | rfl | rfl | rfl <;> decide
      rw [Int.emod_eq_of_lt (by omega) (by omega), Int.toNat_natCast]
theorem el_evF {p : Int} (hp : IsMod p) (a : List Int) (x : Int) : ∀ n, El p (evF p a x n)
  | 0 => el_zero hp
  | n + 1 => el_addM hp _ _
theorem el_evP {p : Int} (hp : IsMod p) (a : List Int) (x : Int) : El p (evP p a x) := el_evF hp a x _
theorem horn_step {p : Int} (hp : IsMod p) {a : List Int} {x : Int} {t : Nat × Int} {n : Nat} (hn : t.1 = n + 1) (h : HornJ p a x t) : HornJ p a x (n, (t.2 * x + a.getD n 0) % p) := by
  obtain ⟨m, o⟩ := t
  simp only at hn
  subst hn
  obtain ⟨h1, h2, h3⟩ := h
  simp only at h1 h2 h3
  refine ⟨by show n ≤ _; omega, el_mod (by unfold IsMod at hp; omega) _, ?_⟩
  simp only
  rw [← h3, ← add_mod_l, mul_mod_l, add_mod_l]
  show _ = (o * x ^ (n + 1) + addM p (evF p a x n) (mulM p (a.getD n 0) (powM p x n))) % p
  unfold addM mulM powM
  rw [add_mod_r, mul_mod_r, ← Int.add_assoc, add_mod_r]
  congr 1
  rw [Int.pow_succ]
  grind
theorem horn_end {p : Int} (hp : IsMod p) {a : List Int} {x : Int} {t : Nat × Int} (h0 : t.1 = 0) (h : HornJ p a x t) : t.2 = evP p a x := by
  obtain ⟨m, o⟩ := t
  simp only at h0
  subst h0
  obtain ⟨h1, h2, h3⟩ := h
  simp only at h2 h3
  rw [Int.pow_zero, Int.mul_one] at h3
  rw [← h3]
  show o = (o + 0) % p
  rw [Int.add_zero, el_self h2]
theorem left_len (p r : Int) (a : List Int) (k : Nat) : (leftL p r a k).length = a.length := mr_len _ _
theorem leftJ_len (p r : Int) (a : List Int) (k j : Nat) : (leftJ p r a k j).length = a.length := by
  unfold leftJ
  split
  · exact left_len ..
  · split
    · rw [List.length_set, left_len]
    · exact left_len ..
theorem quoL_len (p r : Int) (a : List Int) (k : Nat) : (quoL p r a k).length = a.length - 1 := mr_len _ _
theorem el_qs {p : Int} (hp : IsMod p) (r : Int) (a : List Int) : ∀ k, El p (qsF p r a k)
  | 0 => el_zero hp
  | k + 1 => el_subM hp _ _
theorem left_get {p r : Int} {a : List Int} {k t : Nat} (ht : t < a.length) : (leftL p r a k).getD t 0 = if t + k < a.length - 1 then a.getD t 0 else if t + k = a.length - 1 then qsF p r a (k + 1) else 0 := by
  unfold leftL
  rw [mr_get, if_pos ht]
theorem left_zero {p r : Int} {a : List Int} (h2 : 2 ≤ a.length) (he : elemsF p a = true) : a = leftL p r a 0 := by
  refine list_ext (left_len ..).symm (fun t ht => ?_)
  rw [left_get ht]
  by_cases h : t + 0 < a.length - 1
  · rw [if_pos h]
  · rw [if_neg h, if_pos (by omega)]
    show _ = subM p (a.getD (a.length - 1 - 0) 0) (mulM p 0 r)
    unfold subM mulM
    rw [Int.zero_mul, Int.zero_emod, Int.sub_zero, show a.length - 1 - 0 = t by omega, el_self (el_at he ht)]
theorem quoL_zero (p r : Int) (a : List Int) : List.replicate (a.length - 1) 0 = quoL p r a 0 := by
  rw [mr_const]
  refine mr_congr (fun t ht => ?_)
  rw [if_neg (by omega)]
theorem quoL_set {p r : Int} {a : List Int} {k : Nat} (hk : k + 1 ≤ a.length - 1) : (quoL p r a k).set (a.length - 2 - k) (qsF p r a (k + 1)) = quoL p r a (k + 1) := by
  unfold quoL
  rw [mr_set]
  refine mr_congr (fun t ht => ?_)
  by_cases h : t = a.length - 2 - k
  · rw [if_pos h, if_pos (by omega)]
    congr 1
    omega
  · rw [if_neg h]
    by_cases h2 : a.length - 1 ≤ t + k
    · rw [if_pos h2, if_pos (by omega)]
    · rw [if_neg h2, if_neg (by omega)]
theorem quoL_end (p r : Int) (a : List Int) : quoL p r a (a.length - 1) = quoF p r a := mr_congr (fun t ht => by rw [if_pos (by omega)])
theorem left_same {p r : Int} {a : List Int} {k : Nat} (hk : k + 1 ≤ a.length - 1) (he : elemsF p a = true) (hz : qsF p r a (k + 1) = 0) : leftL p r a k = leftL p r a (k + 1) := by
  refine list_ext (by simp only [left_len]) (fun t ht => ?_)
  rw [left_len] at ht
  rw [left_get ht, left_get ht]
  by_cases h : t + (k + 1) < a.length - 1
  · rw [if_pos h, if_pos (by omega)]
  · rw [if_neg h]
    by_cases h2 : t + (k + 1) = a.length - 1
    · rw [if_pos h2, if_pos (by omega)]
      show _ = subM p (a.getD (a.length - 1 - (k + 1)) 0) (mulM p (qsF p r a (k + 1)) r)
      unfold subM mulM
      rw [hz, Int.zero_mul, Int.zero_emod, Int.sub_zero, show a.length - 1 - (k + 1) = t by omega, el_self (el_at he ht)]
    · rw [if_neg h2, if_neg (by omega)]
      by_cases h3 : t + k = a.length - 1
      · rw [if_pos h3, hz]
      · rw [if_neg h3]
theorem left_set {p r : Int} {a : List Int} {k : Nat} (hk : k + 1 ≤ a.length - 1) : ((leftL p r a k).set (a.length - 2 - k) (qsF p r a (k + 2))).set (a.length - 1 - k) 0 = leftL p r a (k + 1) := by
  unfold leftL
  rw [mr_set, mr_set]
  refine mr_congr (fun t ht => ?_)
  by_cases h : t = a.length - 1 - k
  · rw [if_pos h, if_neg (by omega), if_neg (by omega)]
  · rw [if_neg h]
    by_cases h2 : t = a.length - 2 - k
    · rw [if_pos h2, if_neg (by omega), if_pos (by omega)]
    · rw [if_neg h2]
      by_cases h3 : t + k < a.length - 1
      · rw [if_pos h3, if_pos (by omega)]
      · rw [if_neg h3, if_neg (by omega), if_neg (by omega), if_neg (by omega)]
theorem getD_setI {l : List Int} {i j : Nat} {v : Int} (hi : i < l.length) : (l.set i v).getD j 0 = if j = i then v else l.getD j 0 := by
  rw [List.getD_eq_getElem?_getD, List.getElem?_set]
  by_cases h : i = j
  · subst h
    rw [if_pos rfl, if_pos hi, if_pos rfl]; rfl
  · rw [if_neg h, if_neg (Ne.symm h), List.getD_eq_getElem?_getD]
theorem inv_one {p : Int} (hp : IsMod p) : invM p 1 = 1 := by
  unfold invM powM
  rw [Int.one_pow, el_self (el_one hp)]
theorem pair_elems {p : Int} {a b : Int} (ha : El p a) (hb : El p b) : elemsF p [a, b] = true := elems_of (fun i hi => by
  simp only [List.length_cons, List.length_nil] at hi
  match i with
  | 0 => exact ha
  | 1 => exact hb
  | n + 2 => omega)
theorem inter_no {f : Int} {xs ys : List Int} (h : (pointsF f xs && decide (ys.length = xs.length) && specElemsF f ys) = false) : ([], false) = interF f xs ys := by unfold interF; rw [h]; rfl
theorem inter_ok {f : Int} {xs ys : List Int} (h1 : pointsF f xs = true) (h2 : ys.length = xs.length) (h3 : specElemsF f ys = true) : interF f xs ys = (thrF (modF f) xs ys, true) := by
  unfold interF
  rw [h1, h3, decide_eq_true h2]; rfl
theorem inter_inv {f : Int} {xs ys : List Int} (h : (interF f xs ys).2 = true) : pointsF f xs = true ∧ ys.length = xs.length ∧ specElemsF f ys = true ∧ interF f xs ys = (thrF (modF f) xs ys, true) := by
  by_cases hc : (pointsF f xs && decide (ys.length = xs.length) && specElemsF f ys) = true
  · have hc' := hc
    simp only [Bool.and_eq_true, decide_eq_true_eq] at hc'
    exact ⟨hc'.1.1, hc'.1.2, hc'.2, inter_ok hc'.1.1 hc'.1.2 hc'.2⟩
  · rw [← inter_no (by simpa using hc)] at h
    cases h
theorem v_S_l07Vanish :
 ∀ (d : Int × List Int), Ty.wf i64T d.1 ∧ Ty.wf listT d.2 → specElemsF d.1 d.2 = true ∧ d.2.length ≤ (40 : Nat) → (0 : Nat) ≤ d.2.length ∧ ((d.1 = d.1 ∧ d.2 = d.2 ∧ Value.slice none (0 : Nat) (0 : Nat) = Value.slice none
 (0 : Nat) (0 : Nat) ∧ (0 : Int) = (↑(0 : Nat) : Int)) ∧ [(1 : Int)] = vanL (modF d.1) d.2 (0 : Nat)) ∧ ∀ (x : Nat), x ≤ d.2.length → (decide ((↑x : Int) < (↑d.2.length : Int)) = true → ((0 : Int) ≤ (↑x : Int) ∧ (↑x :
 Int) < (↑d.2.length : Int)) ∧ True ∧ (Ty.wf i64T (subS d.1 (0 : Int) (d.2.getD (Int.toNat (↑x : Int)) (0 : Int))) → (specElemsF d.1 (vanL (modF d.1) d.2 x) = true ∧ specElemsF d.1 [subS d.1 (0 : Int) (d.2.getD
 (Int.toNat (↑x : Int)) (0 : Int)), (1 : Int)] = true ∧ List.length (vanL (modF d.1) d.2 x) ≤ (1000 : Nat) ∧ List.length [subS d.1 (0 : Int) (d.2.getD (Int.toNat (↑x : Int)) (0 : Int)), (1 : Int)] ≤ (1000 : Nat)) ∧
 (Ty.wf listT (mulP (modF d.1) (vanL (modF d.1) d.2 x) [subS d.1 (0 : Int) (d.2.getD (Int.toNat (↑x : Int)) (0 : Int)), (1 : Int)]) → ∃ (x' : Nat), x' ≤ d.2.length ∧ d.2.length - x' < d.2.length - x ∧ (d.1 = d.1 ∧ d.2 =
 d.2 ∧ Value.slice none (0 : Nat) (0 : Nat) = Value.slice none (0 : Nat) (0 : Nat) ∧ IntKind.wrap IntKind.i64 ((↑x : Int) + (1 : Int)) = (↑x' : Int)) ∧ mulP (modF d.1) (vanL (modF d.1) d.2 x) [subS d.1 (0 : Int)
 (d.2.getD (Int.toNat (↑x : Int)) (0 : Int)), (1 : Int)] = vanL (modF d.1) d.2 x'))) ∧ (decide ((↑x : Int) < (↑d.2.length : Int)) = false → vanL (modF d.1) d.2 x = vanF (modF d.1) d.2) := by
  intro (d : Int × List Int) hw hp
  obtain ⟨f, xs⟩ := d
  replace hp : specElemsF f xs = true ∧ xs.length ≤ 40 := hp
  simp only [Int.toNat_natCast, exists_const, and_true, true_and, implies_true, decide_eq_true_eq, decide_eq_false_iff_not, Bool.not_eq_true', Bool.not_eq_false', beq_iff_eq, forall_const]
  obtain ⟨hs, hl⟩ := hp
  obtain ⟨hm, he⟩ := spec_el hs
  have h0 := (mod_is hm).1
  refine ⟨by omega, ⟨rfl, rfl⟩, fun x hx => ⟨fun h => ⟨⟨by omega, by omega⟩, fun _ => ?_⟩, fun h => by rw [show x = xs.length by omega]; rfl⟩⟩
  rw [subS_at hm]
  have hv := van_ok h0 xs x
  exact ⟨⟨spec_of hm hv.2.1, spec_of hm (pair_elems (el_subM h0 _ _) (el_one h0)), by omega, by simp⟩, fun _ => ⟨x + 1, by omega, by omega, wrap_succ (by omega), rfl⟩⟩
theorem v_I_vanish :
 ∀ (d : (Int × Int × Int) × List Int), Ty.wf fldT d.1 ∧ Ty.wf listT d.2 → IsMod d.1.1 ∧ elemsF d.1.1 d.2 = true ∧ d.2.length ≤ (40 : Nat) → (0 : Nat) ≤ d.2.length ∧ (((d.1.1 = d.1.1 ∧ d.1.2.1 = d.1.2.1 ∧ d.1.2.2 =
 d.1.2.2) ∧ d.2 = d.2 ∧ Value.slice none (0 : Nat) (0 : Nat) = Value.slice none (0 : Nat) (0 : Nat) ∧ d.2 = d.2 ∧ (↑d.2.length : Int) = (↑d.2.length : Int) ∧ (0 : Int) = (↑(0 : Nat) : Int)) ∧ (d.1.1 = d.1.1 ∧ d.1.2.1 =
 d.1.2.1 ∧ d.1.2.2 = d.1.2.2) ∧ [(1 : Int)] = vanL d.1.1 d.2 (0 : Nat)) ∧ ∀ (x : Nat), x ≤ d.2.length → (decide ((↑x : Int) < (↑d.2.length : Int)) = true → ((0 : Int) ≤ (↑x : Int) ∧ (↑x : Int) < (↑d.2.length : Int)) ∧
 (IsMod d.1.1 ∧ El d.1.1 (0 : Int) ∧ El d.1.1 (d.2.getD (Int.toNat (↑x : Int)) (0 : Int))) ∧ (IsMod d.1.1 ∧ elemsF d.1.1 (vanL d.1.1 d.2 x) = true ∧ elemsF d.1.1 [subM d.1.1 (0 : Int) (d.2.getD (Int.toNat (↑x : Int)) (0
 : Int)), (1 : Int)] = true ∧ List.length (vanL d.1.1 d.2 x) ≤ (1000 : Nat) ∧ List.length [subM d.1.1 (0 : Int) (d.2.getD (Int.toNat (↑x : Int)) (0 : Int)), (1 : Int)] ≤ (1000 : Nat)) ∧ (Ty.wf listT (mulP d.1.1 (vanL
 d.1.1 d.2 x) [subM d.1.1 (0 : Int) (d.2.getD (Int.toNat (↑x : Int)) (0 : Int)), (1 : Int)]) → Ty.wf i64T (subM d.1.1 (0 : Int) (d.2.getD (Int.toNat (↑x : Int)) (0 : Int))) → ∃ (x' : Nat), x' ≤ d.2.length ∧ d.2.length -
 x' < d.2.length - x ∧ ((d.1.1 = d.1.1 ∧ d.1.2.1 = d.1.2.1 ∧ d.1.2.2 = d.1.2.2) ∧ d.2 = d.2 ∧ Value.slice none (0 : Nat) (0 : Nat) = Value.slice none (0 : Nat) (0 : Nat) ∧ d.2 = d.2 ∧ (↑d.2.length : Int) = (↑d.2.length :
 Int) ∧ IntKind.wrap IntKind.i64 ((↑x : Int) + (1 : Int)) = (↑x' : Int)) ∧ (d.1.1 = d.1.1 ∧ d.1.2.1 = d.1.2.1 ∧ d.1.2.2 = d.1.2.2) ∧ mulP d.1.1 (vanL d.1.1 d.2 x) [subM d.1.1 (0 : Int) (d.2.getD (Int.toNat (↑x : Int)) (0
 : Int)), (1 : Int)] = vanL d.1.1 d.2 x')) ∧ (decide ((↑x : Int) < (↑d.2.length : Int)) = false → vanL d.1.1 d.2 x = vanF d.1.1 d.2) := by
  intro (d : Fd × List Int) hw hp
  obtain ⟨⟨p, g, t⟩, xs⟩ := d
  replace hp : IsMod p ∧ elemsF p xs = true ∧ xs.length ≤ 40 := hp
  simp only [Int.toNat_natCast, exists_const, and_true, true_and, implies_true, decide_eq_true_eq, decide_eq_false_iff_not, Bool.not_eq_true', Bool.not_eq_false', beq_iff_eq, forall_const]
  obtain ⟨h0, he, hl⟩ := hp
  refine ⟨by omega, ⟨rfl, rfl⟩, fun x hx => ⟨fun h => ⟨⟨by omega, by omega⟩, ⟨h0, el_zero h0, el_get h0 he _⟩, ?_⟩, fun h => by rw [show x = xs.length by omega]; rfl⟩⟩
  have hv := van_ok h0 xs x
  exact ⟨⟨h0, hv.2.1, pair_elems (el_subM h0 _ _) (el_one h0), by omega, by simp⟩, fun _ _ => ⟨x + 1, by omega, by omega, wrap_succ (by omega), rfl⟩⟩
theorem v_S_l07Through :
 ∀ (d : Int × List Int × List Int), Ty.wf i64T d.1 ∧ Ty.wf listT d.2.1 ∧ Ty.wf listT d.2.2 → pointsF d.1 d.2.1 = true ∧ d.2.2.length = d.2.1.length → (0 : Nat) ≤ d.2.1.length ∧ ((d.1 = d.1 ∧ d.2.1 = d.2.1 ∧ d.2.2 = d.2.2
 ∧ Value.slice none (0 : Nat) (0 : Nat) = Value.slice none (0 : Nat) (0 : Nat) ∧ (0 : Int) = (↑(0 : Nat) : Int)) ∧ [] = thrL (modF d.1) d.2.1 d.2.2 (0 : Nat)) ∧ ∀ (x : Nat), x ≤ d.2.1.length → (decide ((↑x : Int) <
 (↑d.2.1.length : Int)) = true → (0 : Nat) ≤ d.2.1.length ∧ ((d.1 = d.1 ∧ d.2.1 = d.2.1 ∧ d.2.2 = d.2.2 ∧ Value.slice none (0 : Nat) (0 : Nat) = Value.slice none (0 : Nat) (0 : Nat) ∧ (↑x : Int) = (↑x : Int) ∧ (1 : Int)
 = byF (modF d.1) d.2.1 x (0 : Nat) ∧ (0 : Int) = (↑(0 : Nat) : Int)) ∧ thrL (modF d.1) d.2.1 d.2.2 x = thrL (modF d.1) d.2.1 d.2.2 x ∧ [] = othL d.2.1 x (0 : Nat)) ∧ ∀ (x_1 : Nat), x_1 ≤ d.2.1.length → (decide ((↑x_1 :
 Int) < (↑d.2.1.length : Int)) = true → ((!decide ((↑x_1 : Int) = (↑x : Int))) = true → ((0 : Int) ≤ (↑x_1 : Int) ∧ (↑x_1 : Int) < (↑d.2.1.length : Int)) ∧ (List.length (othL d.2.1 x x_1) + List.length [d.2.1.getD
 (Int.toNat (↑x_1 : Int)) (0 : Int)]) * (8 : Nat) ≤ (140737488355328 : Nat) ∧ ((0 : Int) ≤ (↑x : Int) ∧ (↑x : Int) < (↑d.2.1.length : Int)) ∧ ((0 : Int) ≤ (↑x_1 : Int) ∧ (↑x_1 : Int) < (↑d.2.1.length : Int)) ∧ True ∧
 True ∧ (Ty.wf i64T (mulS d.1 (byF (modF d.1) d.2.1 x x_1) (subS d.1 (d.2.1.getD (Int.toNat (↑x : Int)) (0 : Int)) (d.2.1.getD (Int.toNat (↑x_1 : Int)) (0 : Int)))) → Ty.wf i64T (subS d.1 (d.2.1.getD (Int.toNat (↑x :
 Int)) (0 : Int)) (d.2.1.getD (Int.toNat (↑x_1 : Int)) (0 : Int))) → ∃ (x' : Nat), x' ≤ d.2.1.length ∧ d.2.1.length - x' < d.2.1.length - x_1 ∧ (d.1 = d.1 ∧ d.2.1 = d.2.1 ∧ d.2.2 = d.2.2 ∧ Value.slice none (0 : Nat) (0 :
 Nat) = Value.slice none (0 : Nat) (0 : Nat) ∧ (↑x : Int) = (↑x : Int) ∧ mulS d.1 (byF (modF d.1) d.2.1 x x_1) (subS d.1 (d.2.1.getD (Int.toNat (↑x : Int)) (0 : Int)) (d.2.1.getD (Int.toNat (↑x_1 : Int)) (0 : Int))) =
 byF (modF d.1) d.2.1 x x' ∧ IntKind.wrap IntKind.i64 ((↑x_1 : Int) + (1 : Int)) = (↑x' : Int)) ∧ thrL (modF d.1) d.2.1 d.2.2 x = thrL (modF d.1) d.2.1 d.2.2 x ∧ othL d.2.1 x x_1 ++ [d.2.1.getD (Int.toNat (↑x_1 : Int))
 (0 : Int)] = othL d.2.1 x x')) ∧ ((!decide ((↑x_1 : Int) = (↑x : Int))) = false → ∃ (x' : Nat), x' ≤ d.2.1.length ∧ d.2.1.length - x' < d.2.1.length - x_1 ∧ (d.1 = d.1 ∧ d.2.1 = d.2.1 ∧ d.2.2 = d.2.2 ∧ Value.slice none
 (0 : Nat) (0 : Nat) = Value.slice none (0 : Nat) (0 : Nat) ∧ (↑x : Int) = (↑x : Int) ∧ byF (modF d.1) d.2.1 x x_1 = byF (modF d.1) d.2.1 x x' ∧ IntKind.wrap IntKind.i64 ((↑x_1 : Int) + (1 : Int)) = (↑x' : Int)) ∧ thrL
 (modF d.1) d.2.1 d.2.2 x = thrL (modF d.1) d.2.1 d.2.2 x ∧ othL d.2.1 x x_1 = othL d.2.1 x x')) ∧ (decide ((↑x_1 : Int) < (↑d.2.1.length : Int)) = false → (specElemsF d.1 (othL d.2.1 x x_1) = true ∧ List.length (othL
 d.2.1 x x_1) ≤ (40 : Nat)) ∧ ((0 : Int) ≤ (↑x : Int) ∧ (↑x : Int) < (↑d.2.2.length : Int)) ∧ True ∧ True ∧ True ∧ True ∧ (Ty.wf listT (addPS d.1 (thrL (modF d.1) d.2.1 d.2.2 x) (scalePS d.1 (vanF (modF d.1) (othL d.2.1
 x x_1)) (mulS d.1 (d.2.2.getD (Int.toNat (↑x : Int)) (0 : Int)) (powS d.1 (byF (modF d.1) d.2.1 x x_1) (-1 : Int))))) → Ty.wf listT (scalePS d.1 (vanF (modF d.1) (othL d.2.1 x x_1)) (mulS d.1 (d.2.2.getD (Int.toNat (↑x
 : Int)) (0 : Int)) (powS d.1 (byF (modF d.1) d.2.1 x x_1) (-1 : Int)))) → Ty.wf i64T (mulS d.1 (d.2.2.getD (Int.toNat (↑x : Int)) (0 : Int)) (powS d.1 (byF (modF d.1) d.2.1 x x_1) (-1 : Int))) → Ty.wf i64T (powS d.1
 (byF (modF d.1) d.2.1 x x_1) (-1 : Int)) → Ty.wf listT (vanF (modF d.1) (othL d.2.1 x x_1)) → ∃ (x' : Nat), x' ≤ d.2.1.length ∧ d.2.1.length - x' < d.2.1.length - x ∧ (d.1 = d.1 ∧ d.2.1 = d.2.1 ∧ d.2.2 = d.2.2 ∧
 Value.slice none (0 : Nat) (0 : Nat) = Value.slice none (0 : Nat) (0 : Nat) ∧ IntKind.wrap IntKind.i64 ((↑x : Int) + (1 : Int)) = (↑x' : Int)) ∧ addPS d.1 (thrL (modF d.1) d.2.1 d.2.2 x) (scalePS d.1 (vanF (modF d.1)
 (othL d.2.1 x x_1)) (mulS d.1 (d.2.2.getD (Int.toNat (↑x : Int)) (0 : Int)) (powS d.1 (byF (modF d.1) d.2.1 x x_1) (-1 : Int)))) = thrL (modF d.1) d.2.1 d.2.2 x'))) ∧ (decide ((↑x : Int) < (↑d.2.1.length : Int)) = false
 → List.length (thrL (modF d.1) d.2.1 d.2.2 x) ≤ (1048576 : Nat) ∧ (Ty.wf listT (trimF (thrL (modF d.1) d.2.1 d.2.2 x)) → trimF (thrL (modF d.1) d.2.1 d.2.2 x) = thrF (modF d.1) d.2.1 d.2.2)) := by
  intro (d : Int × List Int × List Int) hw hp
  obtain ⟨f, xs, ys⟩ := d
  replace hp : pointsF f xs = true ∧ ys.length = xs.length := hp
  simp only [Int.toNat_natCast, exists_const, and_true, true_and, implies_true, decide_eq_true_eq, decide_eq_false_iff_not, Bool.not_eq_true', Bool.not_eq_false', beq_iff_eq, forall_const]
  obtain ⟨hpt, hly⟩ := hp
  obtain ⟨hm, hl1, hl2, he, hn⟩ := pt_ok hpt
  have hp := mod_pr hm
  refine ⟨by omega, ⟨rfl, rfl⟩, fun x hx => ⟨fun h => ⟨by omega, ⟨⟨rfl, rfl⟩, rfl⟩, fun y hy => ⟨fun h1 => ⟨fun h2 => ?_, fun h2 => ?_⟩, fun h1 => ?_⟩⟩, fun h => ?_⟩⟩
  · have hol := oth_len xs x y
    rw [mulS_at hm, subS_at hm]
    refine ⟨⟨by omega, by omega⟩, by simp only [List.length_cons, List.length_nil]; omega, ⟨by omega, by omega⟩, ⟨by omega, by omega⟩, fun _ _ => ⟨y + 1, by omega, by omega, ⟨?_, wrap_succ (by omega)⟩, (oth_ne (by omega)).symm⟩⟩
    show _ = if y = x then _ else _
    rw [if_neg (by omega)]
  · refine ⟨y + 1, by omega, by omega, ⟨?_, wrap_succ (by omega)⟩, (oth_at (by omega)).symm⟩
    show _ = if y = x then _ else _
    rw [if_pos (by omega)]
  · obtain rfl : y = xs.length := by omega
    have hol := oth_len xs x xs.length
    have hv := vanF_ok hp.mod (othL xs x xs.length)
    have hinv : powS f (byF (modF f) xs x xs.length) (-1) = wtF (modF f) xs x := by
      rw [powS_at hm, powP_neg hp.mod (by_ne hp he hn (by omega) _ (Nat.le_refl _))]; rfl
    have hsc := scale_ok hp.mod (vanF (modF f) (othL xs x xs.length)) (mulM (modF f) (ys.getD x 0) (wtF (modF f) xs x))
    have hth := thr_ok hp.mod ys hl2 x
    have hscs : scalePS f (vanF (modF f) (othL xs x xs.length)) (mulM (modF f) (ys.getD x 0) (wtF (modF f) xs x)) = scaleP (modF f) (vanF (modF f) (othL xs x xs.length)) (mulM (modF f) (ys.getD x 0) (wtF (modF f) xs x)) := by
      unfold scalePS
      rw [if_pos (poly_of hm hv.2.1 (by omega) hv.2.2)]
    rw [hinv, mulS_at hm, hscs]
    refine ⟨⟨spec_of hm (oth_elems he x _ (Nat.le_refl _)), by omega⟩, ⟨by omega, by omega⟩, fun _ _ _ _ _ => ⟨x + 1, by omega, by omega, wrap_succ (by omega), ?_⟩⟩
    unfold addPS
    rw [poly_of hm hth.1 (by omega) hth.2.2, poly_of hm hsc.1 (by omega) hsc.2.2]
    rfl
  · obtain rfl : x = xs.length := by omega
    have hth := thr_ok hp.mod ys hl2 xs.length
    exact ⟨by omega, fun _ => cut_full hth.2.2⟩
theorem v_I_through :
 ∀ (d : (Int × Int × Int) × List Int × List Int), Ty.wf fldT d.1 ∧ Ty.wf listT d.2.1 ∧ Ty.wf listT d.2.2 → (∃ (f : Int), pointsF f d.2.1 = true ∧ modF f = d.1.1) ∧ elemsF d.1.1 d.2.2 = true ∧ d.2.2.length = d.2.1.length
 → (IsMod d.1.1 ∧ elemsF d.1.1 d.2.1 = true ∧ d.2.1.length ≤ (40 : Nat)) ∧ (Ty.wf listT (vanF d.1.1 d.2.1) → (0 : Nat) ≤ d.2.1.length ∧ (((d.1.1 = d.1.1 ∧ d.1.2.1 = d.1.2.1 ∧ d.1.2.2 = d.1.2.2) ∧ d.2.1 = d.2.1 ∧ d.2.2 =
 d.2.2 ∧ Value.slice none (0 : Nat) (0 : Nat) = Value.slice none (0 : Nat) (0 : Nat) ∧ d.2.1 = d.2.1 ∧ (↑d.2.1.length : Int) = (↑d.2.1.length : Int) ∧ (0 : Int) = (↑(0 : Nat) : Int)) ∧ (d.1.1 = d.1.1 ∧ d.1.2.1 = d.1.2.1
 ∧ d.1.2.2 = d.1.2.2) ∧ vanF d.1.1 d.2.1 = vanF d.1.1 d.2.1 ∧ [] = thrL d.1.1 d.2.1 d.2.2 (0 : Nat)) ∧ ∀ (x : Nat), x ≤ d.2.1.length → (decide ((↑x : Int) < (↑d.2.1.length : Int)) = true → ((0 : Int) ≤ (↑x : Int) ∧ (↑x :
 Int) < (↑d.2.1.length : Int)) ∧ (IsMod d.1.1 ∧ El d.1.1 (0 : Int) ∧ El d.1.1 (d.2.1.getD (Int.toNat (↑x : Int)) (0 : Int))) ∧ (IsMod d.1.1 ∧ elemsF d.1.1 (vanF d.1.1 d.2.1) = true ∧ (2 : Nat) ≤ List.length (vanF d.1.1
 d.2.1) ∧ List.length (vanF d.1.1 d.2.1) ≤ (1000 : Nat) ∧ LinB d.1.1 [subM d.1.1 (0 : Int) (d.2.1.getD (Int.toNat (↑x : Int)) (0 : Int)), (1 : Int)]) ∧ (Ty.wf listT (Prod.fst (divF d.1.1 (vanF d.1.1 d.2.1) [subM d.1.1 (0
 : Int) (d.2.1.getD (Int.toNat (↑x : Int)) (0 : Int)), (1 : Int)])) ∧ Ty.wf listT (Prod.snd (divF d.1.1 (vanF d.1.1 d.2.1) [subM d.1.1 (0 : Int) (d.2.1.getD (Int.toNat (↑x : Int)) (0 : Int)), (1 : Int)])) → Ty.wf i64T
 (subM d.1.1 (0 : Int) (d.2.1.getD (Int.toNat (↑x : Int)) (0 : Int))) → ((0 : Int) ≤ (↑x : Int) ∧ (↑x : Int) < (↑d.2.2.length : Int)) ∧ (IsMod d.1.1 ∧ elemsF d.1.1 d.2.1 = true ∧ (0 : Tup [i64T]) ≤ (↑x : Int) ∧ (↑x :
 Int) < (↑d.2.1.length : Tup [i64T])) ∧ (IsMod d.1.1 ∧ El d.1.1 (d.2.2.getD (Int.toNat (↑x : Int)) (0 : Int)) ∧ El d.1.1 (wtF d.1.1 d.2.1 (Int.toNat (↑x : Int)))) ∧ (IsMod d.1.1 ∧ elemsF d.1.1 (Prod.fst (divF d.1.1 (vanF
 d.1.1 d.2.1) [subM d.1.1 (0 : Int) (d.2.1.getD (Int.toNat (↑x : Int)) (0 : Int)), (1 : Int)])) = true ∧ El d.1.1 (mulM d.1.1 (d.2.2.getD (Int.toNat (↑x : Int)) (0 : Int)) (wtF d.1.1 d.2.1 (Int.toNat (↑x : Int)))) ∧
 List.length (Prod.fst (divF d.1.1 (vanF d.1.1 d.2.1) [subM d.1.1 (0 : Int) (d.2.1.getD (Int.toNat (↑x : Int)) (0 : Int)), (1 : Int)])) ≤ (1000 : Nat)) ∧ (IsMod d.1.1 ∧ elemsF d.1.1 (thrL d.1.1 d.2.1 d.2.2 x) = true ∧
 elemsF d.1.1 (scaleP d.1.1 (Prod.fst (divF d.1.1 (vanF d.1.1 d.2.1) [subM d.1.1 (0 : Int) (d.2.1.getD (Int.toNat (↑x : Int)) (0 : Int)), (1 : Int)])) (mulM d.1.1 (d.2.2.getD (Int.toNat (↑x : Int)) (0 : Int)) (wtF d.1.1
 d.2.1 (Int.toNat (↑x : Int))))) = true ∧ List.length (thrL d.1.1 d.2.1 d.2.2 x) ≤ (1000 : Nat) ∧ List.length (scaleP d.1.1 (Prod.fst (divF d.1.1 (vanF d.1.1 d.2.1) [subM d.1.1 (0 : Int) (d.2.1.getD (Int.toNat (↑x :
 Int)) (0 : Int)), (1 : Int)])) (mulM d.1.1 (d.2.2.getD (Int.toNat (↑x : Int)) (0 : Int)) (wtF d.1.1 d.2.1 (Int.toNat (↑x : Int))))) ≤ (1000 : Nat)) ∧ (Ty.wf listT (addP d.1.1 (thrL d.1.1 d.2.1 d.2.2 x) (scaleP d.1.1
 (Prod.fst (divF d.1.1 (vanF d.1.1 d.2.1) [subM d.1.1 (0 : Int) (d.2.1.getD (Int.toNat (↑x : Int)) (0 : Int)), (1 : Int)])) (mulM d.1.1 (d.2.2.getD (Int.toNat (↑x : Int)) (0 : Int)) (wtF d.1.1 d.2.1 (Int.toNat (↑x :
 Int)))))) → Ty.wf listT (scaleP d.1.1 (Prod.fst (divF d.1.1 (vanF d.1.1 d.2.1) [subM d.1.1 (0 : Int) (d.2.1.getD (Int.toNat (↑x : Int)) (0 : Int)), (1 : Int)])) (mulM d.1.1 (d.2.2.getD (Int.toNat (↑x : Int)) (0 : Int))
 (wtF d.1.1 d.2.1 (Int.toNat (↑x : Int))))) → Ty.wf i64T (mulM d.1.1 (d.2.2.getD (Int.toNat (↑x : Int)) (0 : Int)) (wtF d.1.1 d.2.1 (Int.toNat (↑x : Int)))) → Ty.wf i64T (wtF d.1.1 d.2.1 (Int.toNat (↑x : Int))) → ∃ (x' :
 Nat), x' ≤ d.2.1.length ∧ d.2.1.length - x' < d.2.1.length - x ∧ ((d.1.1 = d.1.1 ∧ d.1.2.1 = d.1.2.1 ∧ d.1.2.2 = d.1.2.2) ∧ d.2.1 = d.2.1 ∧ d.2.2 = d.2.2 ∧ Value.slice none (0 : Nat) (0 : Nat) = Value.slice none (0 :
 Nat) (0 : Nat) ∧ d.2.1 = d.2.1 ∧ (↑d.2.1.length : Int) = (↑d.2.1.length : Int) ∧ IntKind.wrap IntKind.i64 ((↑x : Int) + (1 : Int)) = (↑x' : Int)) ∧ (d.1.1 = d.1.1 ∧ d.1.2.1 = d.1.2.1 ∧ d.1.2.2 = d.1.2.2) ∧ vanF d.1.1
 d.2.1 = vanF d.1.1 d.2.1 ∧ addP d.1.1 (thrL d.1.1 d.2.1 d.2.2 x) (scaleP d.1.1 (Prod.fst (divF d.1.1 (vanF d.1.1 d.2.1) [subM d.1.1 (0 : Int) (d.2.1.getD (Int.toNat (↑x : Int)) (0 : Int)), (1 : Int)])) (mulM d.1.1
 (d.2.2.getD (Int.toNat (↑x : Int)) (0 : Int)) (wtF d.1.1 d.2.1 (Int.toNat (↑x : Int))))) = thrL d.1.1 d.2.1 d.2.2 x'))) ∧ (decide ((↑x : Int) < (↑d.2.1.length : Int)) = false → thrL d.1.1 d.2.1 d.2.2 x = thrF d.1.1
 d.2.1 d.2.2)) := by
  intro (d : Fd × List Int × List Int) hw hp
  obtain ⟨⟨p, g, t⟩, xs, ys⟩ := d
  replace hp : (∃ f, pointsF f xs = true ∧ modF f = p) ∧ elemsF p ys = true ∧ ys.length = xs.length := hp
  simp only [Int.toNat_natCast, exists_const, and_true, true_and, implies_true, decide_eq_true_eq, decide_eq_false_iff_not, Bool.not_eq_true', Bool.not_eq_false', beq_iff_eq, forall_const]
  obtain ⟨⟨f, hpt, rfl⟩, hye, hly⟩ := hp
  obtain ⟨hm, hl1, hl2, he, hn⟩ := pt_ok hpt
  have h0 := (mod_pr hm).mod
  have hv := vanF_ok h0 xs
  refine ⟨⟨h0, he, by omega⟩, fun _ => ⟨by omega, ⟨rfl, rfl⟩, fun x hx => ⟨fun h => ?_, fun h => by rw [show x = xs.length by omega]; rfl⟩⟩⟩
  have hq : (divF (modF f) (vanF (modF f) xs) [subM (modF f) 0 (xs.getD x 0), 1]).1 = vanF (modF f) (othL xs x xs.length) := quo_van h0 (by omega)
  rw [hq]
  have hol := oth_len xs x xs.length
  have hvo := vanF_ok h0 (othL xs x xs.length)
  have hsc := scale_ok h0 (vanF (modF f) (othL xs x xs.length)) (mulM (modF f) (ys.getD x 0) (wtF (modF f) xs x))
  have hth := thr_ok h0 ys hl2 x
  refine ⟨⟨by omega, by omega⟩, ⟨h0, el_zero h0, el_get h0 he _⟩, ⟨h0, hv.2.1, by omega, by omega, rfl, rfl, el_subM h0 _ _⟩, fun _ _ => ⟨⟨by omega, by omega⟩, ⟨h0, he, Int.natCast_nonneg _, by omega⟩, ⟨h0, el_get h0 hye _, el_invM h0 _⟩, ⟨h0, hvo.2.1, el_mulM h0 _ _, by omega⟩, ⟨h0, hth.1, hsc.1, by omega, by omega⟩, fun _ _ _ _ => ⟨x + 1, by omega, by omega, wrap_succ (by omega), rfl⟩⟩⟩
theorem v_S_Interpolate :
 ∀ (d : Int × List Int × List Int), Ty.wf i64T d.1 ∧ Ty.wf listT d.2.1 ∧ Ty.wf listT d.2.2 → True → True ∧ ((!pointsF d.1 d.2.1) = true → ([], false) = interF d.1 d.2.1 d.2.2) ∧ ((!pointsF d.1 d.2.1) = false → ((!decide
 ((↑d.2.2.length : Int) = (↑d.2.1.length : Int))) = true → ([], false) = interF d.1 d.2.1 d.2.2) ∧ ((!decide ((↑d.2.2.length : Int) = (↑d.2.1.length : Int))) = false → True ∧ ((!specElemsF d.1 d.2.2) = true → ([], false)
 = interF d.1 d.2.1 d.2.2) ∧ ((!specElemsF d.1 d.2.2) = false → (pointsF d.1 d.2.1 = true ∧ d.2.2.length = d.2.1.length) ∧ (Ty.wf listT (thrF (modF d.1) d.2.1 d.2.2) → (thrF (modF d.1) d.2.1 d.2.2, true) = interF d.1
 d.2.1 d.2.2)))) := by
  intro (d : Int × List Int × List Int) hw hp
  obtain ⟨f, xs, ys⟩ := d
  simp only [Int.toNat_natCast, exists_const, and_true, true_and, implies_true, decide_eq_true_eq, decide_eq_false_iff_not, Bool.not_eq_true', Bool.not_eq_false', beq_iff_eq, forall_const]
  refine ⟨fun h => inter_no (by rw [h]; rfl), fun h => ⟨fun h1 => inter_no (by rw [decide_eq_false (by omega), Bool.and_false]; rfl), fun h1 => ⟨fun h2 => inter_no (by rw [h2, Bool.and_false]), fun h2 => ⟨⟨h, by omega⟩, fun _ => (inter_ok h (by omega) h2).symm⟩⟩⟩⟩
theorem v_I_interpolate :
 ∀ (d : Int × List Int × List Int), Ty.wf i64T d.1 ∧ Ty.wf listT d.2.1 ∧ Ty.wf listT d.2.2 → True → True ∧ (Ty.wf fldT (Prod.fst (ptF d.1 d.2.1)) ∧ Ty.wf Ty.bool (Prod.snd (ptF d.1 d.2.1)) → ((!Prod.snd (ptF d.1 d.2.1))
 = true → ([], false) = interF d.1 d.2.1 d.2.2) ∧ ((!Prod.snd (ptF d.1 d.2.1)) = false → ((!decide ((↑d.2.2.length : Int) = (↑d.2.1.length : Int))) = true → ([], false) = interF d.1 d.2.1 d.2.2) ∧ ((!decide
 ((↑d.2.2.length : Int) = (↑d.2.1.length : Int))) = false → True ∧ ((!elemsF (Prod.fst (Prod.fst (ptF d.1 d.2.1))) d.2.2) = true → ([], false) = interF d.1 d.2.1 d.2.2) ∧ ((!elemsF (Prod.fst (Prod.fst (ptF d.1 d.2.1)))
 d.2.2) = false → ((∃ (f : Int), pointsF f d.2.1 = true ∧ modF f = Prod.fst (Prod.fst (ptF d.1 d.2.1))) ∧ elemsF (Prod.fst (Prod.fst (ptF d.1 d.2.1))) d.2.2 = true ∧ d.2.2.length = d.2.1.length) ∧ (Ty.wf listT (thrF
 (Prod.fst (Prod.fst (ptF d.1 d.2.1))) d.2.1 d.2.2) → (thrF (Prod.fst (Prod.fst (ptF d.1 d.2.1))) d.2.1 d.2.2, true) = interF d.1 d.2.1 d.2.2))))) := by
  intro (d : Int × List Int × List Int) hw hp
  obtain ⟨f, xs, ys⟩ := d
  simp only [Int.toNat_natCast, exists_const, and_true, true_and, implies_true, decide_eq_true_eq, decide_eq_false_iff_not, Bool.not_eq_true', Bool.not_eq_false', beq_iff_eq, forall_const]
  intro _
  rw [pt_snd]
  refine ⟨fun h => inter_no (by rw [h]; rfl), fun h => ?_⟩
  rw [pt_mod h]
  have hm := (pt_ok h).1
  refine ⟨fun h1 => inter_no (by rw [decide_eq_false (by omega), Bool.and_false]; rfl), fun h1 => ⟨fun h2 => inter_no ?_, fun h2 => ⟨⟨⟨f, h, rfl⟩, h2, by omega⟩, fun _ => (inter_ok h (by omega) (spec_of hm h2)).symm⟩⟩⟩
  unfold specElemsF
  rw [h2, Bool.and_false, Bool.and_false]
theorem v_I_Interpolate :
 ∀ (d : Int × List Int × List Int), Ty.wf i64T d.1 ∧ Ty.wf listT d.2.1 ∧ Ty.wf listT d.2.2 → True → True ∧ (Ty.wf listT (Prod.fst (interF d.1 d.2.1 d.2.2)) ∧ Ty.wf Ty.bool (Prod.snd (interF d.1 d.2.1 d.2.2)) → (Prod.fst
 (interF d.1 d.2.1 d.2.2), Prod.snd (interF d.1 d.2.1 d.2.2)) = interF d.1 d.2.1 d.2.2) := by
  intro (d : Int × List Int × List Int) hw hp
  simp only [Int.toNat_natCast, exists_const, and_true, true_and, implies_true, decide_eq_true_eq, decide_eq_false_iff_not, Bool.not_eq_true', Bool.not_eq_false', beq_iff_eq, forall_const]
theorem v_S_EvalPoly :
 ∀ (d : Int × List Int × Int), Ty.wf i64T d.1 ∧ Ty.wf listT d.2.1 ∧ Ty.wf i64T d.2.2 → True → True ∧ ((!polyB d.1 d.2.1) = true → (-1 : Int) = evS d.1 d.2.1 d.2.2) ∧ ((!polyB d.1 d.2.1) = false → (0 : Nat) ≤ d.2.1.length
 ∧ (d.1 = d.1 ∧ d.2.1 = d.2.1 ∧ d.2.2 = d.2.2 ∧ (0 : Int) = (0 : Int) ∧ (0 : Int) = evF (modF d.1) d.2.1 d.2.2 (0 : Nat) ∧ (0 : Int) = (↑(0 : Nat) : Int)) ∧ ∀ (x : Nat), x ≤ d.2.1.length → (decide ((↑x : Int) <
 (↑d.2.1.length : Int)) = true → ((0 : Int) ≤ (↑x : Int) ∧ (↑x : Int) < (↑d.2.1.length : Int)) ∧ True ∧ True ∧ True ∧ (Ty.wf i64T (addS d.1 (evF (modF d.1) d.2.1 d.2.2 x) (mulS d.1 (d.2.1.getD (Int.toNat (↑x : Int)) (0 :
 Int)) (powS d.1 d.2.2 (↑x : Int)))) → Ty.wf i64T (mulS d.1 (d.2.1.getD (Int.toNat (↑x : Int)) (0 : Int)) (powS d.1 d.2.2 (↑x : Int))) → Ty.wf i64T (powS d.1 d.2.2 (↑x : Int)) → ∃ (x' : Nat), x' ≤ d.2.1.length ∧
 d.2.1.length - x' < d.2.1.length - x ∧ d.1 = d.1 ∧ d.2.1 = d.2.1 ∧ d.2.2 = d.2.2 ∧ (0 : Int) = (0 : Int) ∧ addS d.1 (evF (modF d.1) d.2.1 d.2.2 x) (mulS d.1 (d.2.1.getD (Int.toNat (↑x : Int)) (0 : Int)) (powS d.1 d.2.2
 (↑x : Int))) = evF (modF d.1) d.2.1 d.2.2 x' ∧ IntKind.wrap IntKind.i64 ((↑x : Int) + (1 : Int)) = (↑x' : Int))) ∧ (decide ((↑x : Int) < (↑d.2.1.length : Int)) = false → evF (modF d.1) d.2.1 d.2.2 x = evS d.1 d.2.1
 d.2.2)) := by
  intro (d : Int × List Int × Int) hw hp
  obtain ⟨f, a, y⟩ := d
  simp only [Int.toNat_natCast, exists_const, and_true, true_and, implies_true, decide_eq_true_eq, decide_eq_false_iff_not, Bool.not_eq_true', Bool.not_eq_false', beq_iff_eq, forall_const]
  refine ⟨fun h => by unfold evS; rw [h]; rfl, fun h => ?_⟩
  obtain ⟨hm, he, hl, ht⟩ := poly_ok h
  refine ⟨by omega, ⟨rfl, rfl⟩, fun x hx => ⟨fun h1 => ⟨⟨by omega, by omega⟩, fun _ _ _ => ⟨x + 1, by omega, by omega, ?_, wrap_succ (by omega)⟩⟩, fun h1 => ?_⟩⟩
  · rw [powS_at hm, powP_nat hm y (by omega), mulS_at hm, addS_at hm]; rfl
  · rw [show x = a.length by omega]
    unfold evS
    rw [if_pos h]; rfl
theorem v_I_eval :
 ∀ (d : (Int × Int × Int) × List Int × Int), Ty.wf fldT d.1 ∧ Ty.wf listT d.2.1 ∧ Ty.wf i64T d.2.2 → IsMod d.1.1 ∧ elemsF d.1.1 d.2.1 = true ∧ El d.1.1 d.2.2 → HornJ d.1.1 d.2.1 d.2.2 (d.2.1.length, (0 : Int)) ∧ (((d.1.1
 = d.1.1 ∧ d.1.2.1 = d.1.2.1 ∧ d.1.2.2 = d.1.2.2) ∧ d.2.1 = d.2.1 ∧ d.2.2 = d.2.2 ∧ (0 : Int) = (0 : Int) ∧ (0 : Int) = (0 : Int) ∧ IntKind.wrap IntKind.i64 ((↑d.2.1.length : Int) - (1 : Int)) = (↑d.2.1.length : Int) -
 (1 : Int)) ∧ d.1.1 = d.1.1 ∧ d.1.2.1 = d.1.2.1 ∧ d.1.2.2 = d.1.2.2) ∧ ∀ (x : Nat × Int), HornJ d.1.1 d.2.1 d.2.2 x → (decide ((0 : Int) ≤ (↑x.1 : Int) - (1 : Int)) = true → ((0 : Int) ≤ (↑x.1 : Int) - (1 : Int) ∧ (↑x.1
 : Int) - (1 : Int) < (↑d.2.1.length : Int)) ∧ d.1.1 ≠ (0 : Int) ∧ ∃ (x' : Nat × Int), HornJ d.1.1 d.2.1 d.2.2 x' ∧ x'.1 < x.1 ∧ ((d.1.1 = d.1.1 ∧ d.1.2.1 = d.1.2.1 ∧ d.1.2.2 = d.1.2.2) ∧ d.2.1 = d.2.1 ∧ d.2.2 = d.2.2 ∧
 (0 : Int) = (0 : Int) ∧ Int.tmod (IntKind.wrap IntKind.i64 (IntKind.wrap IntKind.i64 (x.2 * d.2.2) + d.2.1.getD (Int.toNat ((↑x.1 : Int) - (1 : Int))) (0 : Int))) d.1.1 = x'.2 ∧ IntKind.wrap IntKind.i64 ((↑x.1 : Int) -
 (1 : Int) - (1 : Int)) = (↑x'.1 : Int) - (1 : Int)) ∧ d.1.1 = d.1.1 ∧ d.1.2.1 = d.1.2.1 ∧ d.1.2.2 = d.1.2.2) ∧ (decide ((0 : Int) ≤ (↑x.1 : Int) - (1 : Int)) = false → x.2 = evP d.1.1 d.2.1 d.2.2) := by
  intro (d : Fd × List Int × Int) hw hp
  obtain ⟨⟨p, g, t⟩, a, y⟩ := d
  replace hp : IsMod p ∧ elemsF p a = true ∧ El p y := hp
  have hl : a.length ≤ 9223372036854775807 := hw.2.1.1
  simp only [Int.toNat_natCast, exists_const, and_true, true_and, implies_true, decide_eq_true_eq, decide_eq_false_iff_not, Bool.not_eq_true', Bool.not_eq_false', beq_iff_eq, forall_const]
  obtain ⟨h0, he, hy⟩ := hp
  refine ⟨⟨Nat.le_refl _, el_zero h0, ?_⟩, wrap_small (by omega), fun x hx => ⟨fun h => ?_, fun h => horn_end h0 (by omega) hx⟩⟩
  · simp only [Int.zero_mul, Int.zero_add]
    exact el_self (el_evP h0 a y)
  · have hx1 := hx.1
    obtain ⟨n, hn⟩ : ∃ n, x.1 = n + 1 := ⟨x.1 - 1, by omega⟩
    have hst := horn_step h0 hn hx
    have hn1 : ((x.1 : Nat) : Int) - 1 = (n : Int) := by omega
    rw [hn1, Int.toNat_natCast]
    have hm := mul_le_sq h0 hx.2.1 hy
    have hel := el_at he (show n < a.length by omega)
    have h0' := h0
    unfold IsMod at h0'; unfold El at hel
    refine ⟨⟨by omega, by omega⟩, by omega, _, hst, by show n < _; omega, ?_, ?_⟩
    · rw [wrap_small (n := x.2 * y) (by omega), wrap_small (by omega), tmod_pos (by omega)]
    · rw [wrap_small (by omega)]
end Go.SF
