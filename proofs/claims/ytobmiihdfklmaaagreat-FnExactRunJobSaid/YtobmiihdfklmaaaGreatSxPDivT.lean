/- Division by any polynomial: what is left, and the quotient. No condition. -/
import Derived.Test.YtobmiihdfklmaaaGreatSxC
import Derived.Test.YtobmiihdfklmaaaGreatSxPFerm
import Derived.Test.YtobmiihdfklmaaaGreatSxPDecB
import Derived.Test.YtobmiihdfklmaaaGreatSxPPolyB
namespace Go.SF
open Go.SX Go
set_option linter.unusedVariables false
set_option linter.unusedSimpArgs false
theorem top_last {l : List Int} (h : topB l = true) (hn : 0 < l.length) : l.getD (l.length - 1) 0 ≠ 0 := by
  unfold topB at h
  have h := of_decide_eq_true h
  intro h0
  obtain ⟨n, hn'⟩ : ∃ n, l.length = n + 1 := ⟨l.length - 1, by omega⟩
  unfold cutF at h
  rw [hn', cutN] at h
  rw [hn', Nat.add_sub_cancel] at h0
  rw [if_pos h0] at h
  have := cutN_le l n
  omega
theorem top_of {l : List Int} (h : 0 < l.length → l.getD (l.length - 1) 0 ≠ 0) : topB l = true := by
  unfold topB
  refine decide_eq_true ?_
  unfold cutF
  cases hn : l.length with
  | zero => rfl
  | succ n =>
    rw [cutN]
    rw [hn, Nat.add_sub_cancel] at h
    rw [if_neg (h (by omega))]
theorem top_ext {x y : List Int} (hx : topB x = true) (hy : topB y = true) (h : ∀ t, x.getD t 0 = y.getD t 0) : x = y := by
  have key : ∀ {x y : List Int}, topB y = true → (∀ t, x.getD t 0 = y.getD t 0) → y.length ≤ x.length := by
    intro x y hy h
    rcases Nat.lt_or_ge x.length y.length with hl | hl
    · have h1 := top_last hy (by omega)
      rw [← h, List.getD_eq_getElem?_getD, List.getElem?_eq_none (by omega)] at h1
      exact absurd rfl h1
    · exact hl
  have h1 := key hy h
  have h2 := key hx (fun t => (h t).symm)
  refine List.ext_getElem (by omega) fun t a b => ?_
  have := h t
  simpa [List.getD_eq_getElem?_getD, a, b] using this
theorem trim_ext {x y : List Int} (h : ∀ t, x.getD t 0 = y.getD t 0) : trimF x = trimF y :=
  top_ext (top_trim x) (top_trim y) (fun t => by rw [trim_getD, trim_getD, h])
theorem dvStep_len (p : Int) (b L : List Int) (i : Nat) (c : Int) (j : Nat) : (dvStep p b L i c j).length = L.length := rgm_len _ _
theorem dvStep_get (p : Int) (b L : List Int) (i : Nat) (c : Int) (j : Nat) {t : Nat} (ht : t < L.length) : (dvStep p b L i c j).getD t 0 = if i ≤ t ∧ t < i + j then subM p (L.getD t 0) (mulM p c (b.getD (t - i) 0)) else L.getD t 0 := by
  simp [dvStep, List.getD_eq_getElem?_getD, ht]
theorem dvL_len (p r : Int) (a b : List Int) : ∀ k, (dvL p r a b k).length = a.length
  | 0 => rfl
  | k + 1 => by rw [dvL, dvStep_len, dvL_len p r a b k]
theorem dvL_el {p r : Int} (hp : IsMod p) {a b : List Int} (ha : elemsF p a = true) : ∀ k t, El p ((dvL p r a b k).getD t 0)
  | 0, t => elems_getD hp ha t
  | k + 1, t => by
    rw [dvL]
    rcases Nat.lt_or_ge t a.length with ht | ht
    · rw [dvStep_get _ _ _ _ _ _ (by rw [dvL_len]; exact ht)]
      split
      · exact el_subM hp _ _
      · exact dvL_el hp ha k t
    · rw [List.getD_eq_getElem?_getD, List.getElem?_eq_none (by rw [dvStep_len, dvL_len]; exact ht)]
      exact el_zero hp
theorem dvL_zero {f : Int} (hm : modF f ≠ 0) {a b : List Int} (ha : elemsF (modF f) a = true) (hb : b.getD (b.length - 1) 0 % modF f ≠ 0) (hb0 : 0 < b.length) (hab : b.length ≤ a.length) : ∀ k, k ≤ a.length - b.length + 1 → ∀ t, a.length - k ≤ t → (dvL (modF f) (dvR (modF f) b) a b k).getD t 0 = 0
  | 0, _, t, ht => by rw [dvL, List.getD_eq_getElem?_getD, List.getElem?_eq_none (by omega)]; rfl
  | k + 1, hk, t, ht => by
    have hp := (mod_is hm).1
    have hp' := hp
    unfold IsMod at hp'
    rcases Nat.lt_or_ge t a.length with hta | hta
    · rw [dvL, dvStep_get _ _ _ _ _ _ (by rw [dvL_len]; exact hta)]
      by_cases h1 : t = a.length - 1 - k
      · rw [if_pos (by omega)]
        have e : t - (a.length - b.length - k) = b.length - 1 := by omega
        rw [e, ← h1]
        have hel := dvL_el (r := dvR (modF f) b) (b := b) hp ha k t
        generalize (dvL (modF f) (dvR (modF f) b) a b k).getD t 0 = x at *
        unfold subM mulM dvR
        rw [sub_mod_r, ← sub_mod_r, mul_mod_l]
        have : x * invM (modF f) (b.getD (b.length - 1) 0) * b.getD (b.length - 1) 0 % modF f = x % modF f := by
          rw [Int.mul_assoc, Int.mul_comm (invM _ _), ← mul_mod_r, inv_mul hm hb, Int.mul_one]
        rw [this, sub_mod_r, Int.sub_self, Int.zero_emod]
      · rw [if_neg (by omega)]
        exact dvL_zero hm ha hb hb0 hab k (by omega) t (by omega)
    · rw [List.getD_eq_getElem?_getD, List.getElem?_eq_none (by rw [dvL_len]; exact hta)]; rfl
theorem dvQ_len (p r : Int) (a b : List Int) (n k : Nat) : (dvQ p r a b n k).length = n := rgm_len _ _
theorem dvQ_get (p r : Int) (a b : List Int) (n k : Nat) {t : Nat} (ht : t < n) : (dvQ p r a b n k).getD t 0 = if a.length - b.length < t + k ∧ t ≤ a.length - b.length then dvC p r a b (a.length - b.length - t) else 0 := by
  simp [dvQ, List.getD_eq_getElem?_getD, ht]
theorem get_out {l : List Int} {t : Nat} (h : l.length ≤ t) : l.getD t 0 = 0 := by rw [List.getD_eq_getElem?_getD, List.getElem?_eq_none h]; rfl
theorem dvQ_top {f : Int} (hm : modF f ≠ 0) {a b : List Int} (ha : polyB f a = true) (hb : b.getD (b.length - 1) 0 % modF f ≠ 0) (hb0 : 0 < b.length) (hab : b.length ≤ a.length) : topB (dvQ (modF f) (dvR (modF f) b) a b (a.length - b.length + 1) (a.length - b.length + 1)) = true := by
  have hpr := mod_pr hm
  have hp := hpr.mod
  unfold polyB at ha
  simp only [Bool.and_eq_true, decide_eq_true_eq] at ha
  obtain ⟨_, he⟩ := spec_el ha.1.2
  refine top_of fun _ => ?_
  rw [dvQ_len, Nat.add_sub_cancel, dvQ_get _ _ _ _ _ _ (by omega), if_pos (by omega), Nat.sub_self]
  unfold dvC mulM
  rw [dvL, Nat.sub_zero]
  have h1 := top_last ha.2 (by omega)
  have h2 := elems_getD hp he (a.length - 1)
  intro h3
  rcases hpr.pr _ _ h3 with h4 | h4
  · rw [el_self h2] at h4; exact h1 h4
  · have := inv_mul hm hb
    unfold dvR at h4
    rw [← mul_mod_r, h4, Int.mul_zero, Int.zero_emod] at this
    exact absurd this (by decide)
theorem div_spec {f : Int} (hm : modF f ≠ 0) {a b : List Int} (ha : polyB f a = true) (hb : b.getD (b.length - 1) 0 % modF f ≠ 0) (hb0 : 0 < b.length) (hab : b.length ≤ a.length) :
    (trimF (dvQ (modF f) (dvR (modF f) b) a b a.length (a.length - b.length + 1)), trimF (dvL (modF f) (dvR (modF f) b) a b (a.length - b.length + 1))) = divG (modF f) a b := by
  unfold divG
  rw [if_neg (by omega)]
  congr 1
  rw [← cut_full (dvQ_top hm ha hb hb0 hab)]
  refine trim_ext fun t => ?_
  rcases Nat.lt_or_ge t (a.length - b.length + 1) with ht | ht
  · rw [dvQ_get _ _ _ _ _ _ (by omega), dvQ_get _ _ _ _ _ _ ht]
  · rw [get_out (l := dvQ _ _ _ _ (a.length - b.length + 1) _) (by rw [dvQ_len]; exact ht)]
    rcases Nat.lt_or_ge t a.length with ht2 | ht2
    · rw [dvQ_get _ _ _ _ _ _ ht2, if_neg (by omega)]
    · exact get_out (by rw [dvQ_len]; exact ht2)
theorem div_impl {f : Int} (hm : modF f ≠ 0) {a b : List Int} (ha : polyB f a = true) (hb : b.getD (b.length - 1) 0 % modF f ≠ 0) (hb0 : 0 < b.length) (hab : b.length ≤ a.length) :
    (dvQ (modF f) (dvR (modF f) b) a b (a.length - b.length + 1) (a.length - b.length + 1), trimF ((dvL (modF f) (dvR (modF f) b) a b (a.length - b.length + 1)).take (b.length - 1))) = divG (modF f) a b := by
  have ha' := ha
  unfold polyB at ha'
  simp only [Bool.and_eq_true, decide_eq_true_eq] at ha'
  obtain ⟨_, he⟩ := spec_el ha'.1.2
  unfold divG
  rw [if_neg (by omega)]
  congr 1
  refine trim_ext fun t => ?_
  rcases Nat.lt_or_ge t (b.length - 1) with ht | ht
  · simp only [List.getD_eq_getElem?_getD, List.getElem?_take, if_pos ht]
  · rw [get_out (by rw [List.length_take]; omega), dvL_zero hm he hb hb0 hab _ (Nat.le_refl _) t (by omega)]
end Go.SF
