/- Linear factors: their products, and the quotients by them. No condition. -/
import Derived.Test.YtobmiihdfklmaaaGreatSxPPoly
import Derived.Test.YtobmiihdfklmaaaGreatSxC
namespace Go.SF
open Go.SX Go
set_option linter.unusedVariables false
set_option linter.unusedSimpArgs false
set_option maxRecDepth 10000
theorem list_ext {a b : List Int} (hl : a.length = b.length) (h : ∀ t, t < a.length → a.getD t 0 = b.getD t 0) : a = b := by
  apply List.ext_getElem hl
  intro i h1 h2
  have := h i h1
  rw [List.getD_eq_getElem?_getD, List.getD_eq_getElem?_getD, List.getElem?_eq_getElem h1, List.getElem?_eq_getElem h2] at this
  exact this
theorem getD_out {a : List Int} {t : Nat} (h : a.length ≤ t) : a.getD t 0 = 0 := by
  rw [List.getD_eq_getElem?_getD, List.getElem?_eq_none h]; rfl
def shF (A : List Int) (t : Nat) : Int := if t = 0 then 0 else A.getD (t - 1) 0
def linL (p r : Int) (A : List Int) : List Int := (List.range (A.length + 1)).map (fun t => (A.getD t 0 * r + shF A t) % p)
theorem lin_len (p r : Int) (A : List Int) : (linL p r A).length = A.length + 1 := mr_len _ _
theorem lin_get {p : Int} (r : Int) (A : List Int) (t : Nat) : (linL p r A).getD t 0 = (A.getD t 0 * r + shF A t) % p := by
  unfold linL
  rw [mr_get]
  split
  · rfl
  · have h1 : shF A t = 0 := by
      unfold shF
      rw [if_neg (by omega)]
      exact getD_out (by omega)
    rw [getD_out (show A.length ≤ t by omega), h1, Int.zero_mul]
    rfl
theorem lin_sh {p : Int} (r : Int) (A : List Int) (t : Nat) : shF (linL p r A) t = (shF A t * r + (if t = 0 then 0 else shF A (t - 1))) % p := by
  unfold shF
  by_cases h : t = 0
  · rw [if_pos h, if_pos h, if_pos h, Int.zero_mul, Int.add_zero, Int.zero_emod]
  · rw [if_neg h, if_neg h, if_neg h, lin_get]; rfl
theorem mod_lin (p x r y : Int) : (x % p * r + y % p) % p = (x * r + y) % p := by
  rw [add_mod_r, ← add_mod_l, mul_mod_l, add_mod_l]
theorem lin_comm (p r s : Int) (A : List Int) : linL p r (linL p s A) = linL p s (linL p r A) := by
  refine list_ext (by simp only [lin_len]) (fun t _ => ?_)
  rw [lin_get, lin_get, lin_get, lin_get, lin_sh, lin_sh, mod_lin, mod_lin]
  congr 1
  grind
theorem psum_low {p r : Int} {A : List Int} {t : Nat} : ∀ j, j + 1 ≤ t → psum p A [r, 1] t j = 0
  | 0, _ => rfl
  | j + 1, h => by
    rw [psum_skip (by simp only [List.length_cons, List.length_nil]; omega)]
    exact psum_low j (by omega)
theorem lin_elems {p : Int} (hp : IsMod p) (r : Int) (A : List Int) : elemsF p (linL p r A) = true := elems_mr (fun _ _ => el_mod (by unfold IsMod at hp; omega) _)
theorem lin_last {p : Int} {r : Int} {A : List Int} (hl : 1 ≤ A.length) (he : elemsF p A = true) : (linL p r A).getD A.length 0 = A.getD (A.length - 1) 0 := by
  rw [lin_get, getD_out (Nat.le_refl _), Int.zero_mul, Int.zero_add]
  unfold shF
  rw [if_neg (by omega)]
  exact el_self (el_at he (by omega))
theorem cut_full {l : List Int} (h : topB l = true) : trimF l = l := by
  unfold topB at h
  rw [decide_eq_true_eq] at h
  unfold trimF
  rw [h, List.take_length]
theorem mul_lin {p : Int} (hp : IsMod p) {r : Int} {A : List Int} (hl : 1 ≤ A.length) (he : elemsF p A = true) (ht : A.getD (A.length - 1) 0 ≠ 0) : mulP p A [r, 1] = linL p r A := by
  have key : mulLn p A [r, 1] (A.length + 1) = linL p r A := by
    refine mr_congr (fun t htt => ?_)
    have hb1 : ∀ {x}, x = 1 → ([r, 1] : List Int).getD x 0 = 1 := fun h => by subst h; rfl
    have hpre : 1 ≤ t → psum p A [r, 1] t t = A.getD (t - 1) 0 % p := fun h => by
      obtain ⟨u, rfl⟩ : ∃ u, t = u + 1 := ⟨t - 1, by omega⟩
      rw [psum_step (by simp only [List.length_cons, List.length_nil]; omega), psum_low u (by omega), hb1 (by omega), Int.zero_add, Int.mul_one, Nat.add_sub_cancel]
    by_cases h : t < A.length
    · rw [Nat.min_eq_left (by omega), psum_step (by simp only [List.length_cons, List.length_nil]; omega), Nat.sub_self]
      show (_ + A.getD t 0 * r) % p = _
      unfold shF
      by_cases h0 : t = 0
      · subst h0
        rw [if_pos rfl]
        show (0 + _) % p = _
        rw [Int.zero_add, Int.add_zero]
      · rw [if_neg h0, hpre (by omega), add_mod_l, Int.add_comm]
    · rw [Nat.min_eq_right (by omega)]
      obtain rfl : t = A.length := by omega
      rw [hpre (by omega), getD_out (Nat.le_refl _), Int.zero_mul, Int.zero_add]
      unfold shF
      rw [if_neg (by omega)]
  unfold mulP
  rw [if_neg (by simp only [List.length_cons, List.length_nil]; omega)]
  show trimF (mulLn p A [r, 1] (A.length + 1 + 1 - 1)) = _
  rw [Nat.add_sub_cancel, key]
  refine cut_full ((top_iff _).2 (.inr ?_))
  rw [lin_len, Nat.add_sub_cancel, lin_last hl he]
  exact ht
theorem van_ok {p : Int} (hp : IsMod p) (xs : List Int) : ∀ n, (vanL p xs n).length = n + 1 ∧ elemsF p (vanL p xs n) = true ∧ (vanL p xs n).getD n 0 = 1 ∧ vanL p xs (n + 1) = linL p (subM p 0 (xs.getD n 0)) (vanL p xs n)
  | 0 => by
    have he : elemsF p [1] = true := elems_of (fun i hi => by
      obtain rfl : i = 0 := by simp only [List.length_cons, List.length_nil] at hi; omega
      exact el_one hp)
    exact ⟨rfl, he, rfl, mul_lin hp (A := [1]) (Nat.le_refl _) he (by decide)⟩
  | n + 1 => by
    obtain ⟨h1, h2, h3, h4⟩ := van_ok hp xs n
    have e1 : (vanL p xs (n + 1)).length = n + 1 + 1 := by rw [h4, lin_len, h1]
    have e2 : elemsF p (vanL p xs (n + 1)) = true := by rw [h4]; exact lin_elems hp _ _
    have e3 : (vanL p xs (n + 1)).getD (n + 1) 0 = 1 := by
      have := lin_last (p := p) (r := subM p 0 (xs.getD n 0)) (A := vanL p xs n) (by omega) h2
      rw [h1, Nat.add_sub_cancel, h3] at this
      rw [h4]; exact this
    refine ⟨e1, e2, e3, ?_⟩
    refine mul_lin hp (by omega) e2 ?_
    rw [e1, Nat.add_sub_cancel, e3]; decide
theorem van_app {p : Int} (l : List Int) (x : Int) : ∀ n, n ≤ l.length → vanL p (l ++ [x]) n = vanL p l n
  | 0, _ => rfl
  | n + 1, h => by
    show mulP p _ [subM p 0 ((l ++ [x]).getD n 0), 1] = mulP p _ [subM p 0 (l.getD n 0), 1]
    rw [van_app l x n (by omega), show (l ++ [x]).getD n 0 = l.getD n 0 by rw [List.getD_eq_getElem?_getD, List.getD_eq_getElem?_getD, List.getElem?_append_left (by omega)]]
theorem vanF_snoc {p : Int} (hp : IsMod p) (l : List Int) (x : Int) : vanF p (l ++ [x]) = linL p (subM p 0 x) (vanF p l) := by
  unfold vanF
  rw [List.length_append]
  show vanL p (l ++ [x]) (l.length + 1) = _
  rw [(van_ok hp (l ++ [x]) l.length).2.2.2, van_app l x _ (Nat.le_refl _)]
  congr 2
  rw [List.getD_eq_getElem?_getD, List.getElem?_append_right (Nat.le_refl _), Nat.sub_self]; rfl
theorem vanF_ok {p : Int} (hp : IsMod p) (xs : List Int) : (vanF p xs).length = xs.length + 1 ∧ elemsF p (vanF p xs) = true ∧ topB (vanF p xs) = true := by
  obtain ⟨h1, h2, h3, _⟩ := van_ok hp xs xs.length
  refine ⟨h1, h2, (top_iff _).2 (.inr ?_)⟩
  show (vanL p xs xs.length).getD ((vanL p xs xs.length).length - 1) 0 ≠ 0
  rw [h1, Nat.add_sub_cancel, h3]; decide
theorem oth_len (xs : List Int) (i : Nat) : ∀ n, (othL xs i n).length ≤ n
  | 0 => Nat.le_refl _
  | n + 1 => by
    have := oth_len xs i n
    unfold othL
    split
    · omega
    · rw [List.length_append]; simp only [List.length_cons, List.length_nil]; omega
theorem oth_at {xs : List Int} {i n : Nat} (h : n = i) : othL xs i (n + 1) = othL xs i n := by
  show (if _ then _ else _) = _
  rw [if_pos h]
theorem oth_ne {xs : List Int} {i n : Nat} (h : n ≠ i) : othL xs i (n + 1) = othL xs i n ++ [xs.getD n 0] := by
  show (if _ then _ else _) = _
  rw [if_neg h]
theorem oth_elems {p : Int} {xs : List Int} (he : elemsF p xs = true) (i : Nat) : ∀ n, n ≤ xs.length → elemsF p (othL xs i n) = true
  | 0, _ => by simp [othL, elemsF]
  | n + 1, h => by
    have h1 := oth_elems he i n (by omega)
    by_cases e : n = i
    · rw [oth_at e]; exact h1
    · rw [oth_ne e]
      unfold elemsF at *
      rw [decide_eq_true_eq] at *
      intro x hx
      rcases List.mem_append.1 hx with hx | hx
      · exact h1 x hx
      · rw [List.mem_singleton.1 hx]
        exact he _ (mem_getD (by omega))
theorem van_oth {p : Int} (hp : IsMod p) (xs : List Int) (i : Nat) : ∀ m, (m ≤ i → vanF p (othL xs i m) = vanL p xs m) ∧ (i < m → linL p (subM p 0 (xs.getD i 0)) (vanF p (othL xs i m)) = vanL p xs m)
  | 0 => ⟨fun _ => rfl, fun h => absurd h (by omega)⟩
  | m + 1 => by
    obtain ⟨h1, h2⟩ := van_oth hp xs i m
    have hs := (van_ok hp xs m).2.2.2
    refine ⟨fun h => ?_, fun h => ?_⟩
    · rw [oth_ne (by omega), vanF_snoc hp, h1 (by omega), hs]
    · by_cases e : m = i
      · rw [oth_at e, h1 (by omega), hs, e]
      · rw [oth_ne e, vanF_snoc hp, lin_comm, h2 (by omega), hs]
theorem qs_lin {p : Int} (r : Int) {A : List Int} (he : elemsF p A = true) : ∀ k, k ≤ A.length → qsF p r (linL p r A) k = A.getD (A.length - k) 0
  | 0, _ => by
    rw [Nat.sub_zero, getD_out (Nat.le_refl _)]; rfl
  | k + 1, h => by
    show subM p ((linL p r A).getD ((linL p r A).length - 1 - k) 0) (mulM p (qsF p r (linL p r A) k) r) = _
    rw [qs_lin r he k (by omega), lin_len, Nat.add_sub_cancel, lin_get]
    unfold subM mulM shF
    rw [if_neg (by omega), sub_mod_l, sub_mod_r, show A.getD (A.length - k) 0 * r + A.getD (A.length - k - 1) 0 - A.getD (A.length - k) 0 * r = A.getD (A.length - k - 1) 0 by omega, el_self (el_at he (by omega))]
    rfl
theorem quo_lin {p : Int} (r : Int) {A : List Int} (he : elemsF p A = true) : quoF p r (linL p r A) = A := by
  unfold quoF
  rw [lin_len, Nat.add_sub_cancel]
  refine list_ext (mr_len _ _) (fun t ht => ?_)
  rw [mr_len] at ht
  rw [mr_get, if_pos ht, qs_lin r he _ (by omega)]
  congr 1
  omega
theorem quo_van {p : Int} (hp : IsMod p) {xs : List Int} {i : Nat} (hi : i < xs.length) : quoF p (subM p 0 (xs.getD i 0)) (vanF p xs) = vanF p (othL xs i xs.length) := by
  have h := (van_oth hp xs i xs.length).2 hi
  have : vanF p xs = vanL p xs xs.length := rfl
  rw [this, ← h]
  exact quo_lin _ (vanF_ok hp _).2.1
theorem trim_elems {p : Int} {l : List Int} (h : elemsF p l = true) : elemsF p (trimF l) = true := elems_take h _
theorem add_ok {p : Int} (hp : IsMod p) (a b : List Int) : elemsF p (addP p a b) = true ∧ (addP p a b).length ≤ max a.length b.length ∧ topB (addP p a b) = true := by
  refine ⟨trim_elems (elems_mr (fun _ _ => el_addM hp _ _)), ?_, top_trim _⟩
  unfold addP
  rw [trim_len]
  have := cutF_le (addLn p a b (max a.length b.length))
  rwa [addLn_len] at this
theorem scale_ok {p : Int} (hp : IsMod p) (a : List Int) (c : Int) : elemsF p (scaleP p a c) = true ∧ (scaleP p a c).length ≤ a.length ∧ topB (scaleP p a c) = true := by
  refine ⟨trim_elems (elems_mr (fun _ _ => el_mulM hp _ _)), ?_, top_trim _⟩
  unfold scaleP
  rw [trim_len]
  have := cutF_le (scLn p a c a.length)
  rwa [scLn_len] at this
theorem thr_ok {p : Int} (hp : IsMod p) {xs : List Int} (ys : List Int) (hl : xs.length ≤ 40) : ∀ n, elemsF p (thrL p xs ys n) = true ∧ (thrL p xs ys n).length ≤ 41 ∧ topB (thrL p xs ys n) = true
  | 0 => ⟨by simp [thrL, elemsF], by simp [thrL], by unfold thrL; rfl⟩
  | n + 1 => by
    obtain ⟨h1, h2, h3⟩ := thr_ok hp ys hl n
    unfold thrL
    refine ⟨(add_ok hp _ _).1, ?_, (add_ok hp _ _).2.2⟩
    have e1 := (add_ok hp (thrL p xs ys n) (scaleP p (vanF p (othL xs n xs.length)) (mulM p (ys.getD n 0) (wtF p xs n)))).2.1
    have e2 := (scale_ok hp (vanF p (othL xs n xs.length)) (mulM p (ys.getD n 0) (wtF p xs n))).2.1
    have e3 := (vanF_ok hp (othL xs n xs.length)).1
    have e4 := oth_len xs n xs.length
    omega
end Go.SF
