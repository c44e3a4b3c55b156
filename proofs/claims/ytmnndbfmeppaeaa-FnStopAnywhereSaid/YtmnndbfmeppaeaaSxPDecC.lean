/- Values of polynomials modulo a prime: Fermat's theorem, values of products and sums, interpolation, uniqueness. No condition. -/
import Derived.Test.YtmnndbfmeppaeaaSxPDec
namespace Go.SF
open Go.SX Go
set_option linter.unusedVariables false
set_option linter.unusedSimpArgs false
set_option maxRecDepth 10000
/-! ### Fermat's theorem -/
def chs : Nat → Nat → Nat
  | _, 0 => 1
  | 0, _ + 1 => 0
  | n + 1, k + 1 => chs n k + chs n (k + 1)
theorem chs_n0 (n : Nat) : chs n 0 = 1 := by cases n <;> rfl
theorem chs_mul : ∀ n k, (k + 1) * chs (n + 1) (k + 1) = (n + 1) * chs n k
  | 0, 0 => rfl
  | 0, k + 1 => by show (k + 1 + 1) * (chs 0 (k + 1) + chs 0 (k + 2)) = _; simp [chs]
  | n + 1, 0 => by
    have h : (0 + 1) * chs (n + 1) 1 = (n + 1) * chs n 0 := chs_mul n 0
    show (0 + 1) * (chs (n + 1) 0 + chs (n + 1) 1) = (n + 1 + 1) * chs (n + 1) 0
    rw [chs_n0] at h ⊢
    omega
  | n + 1, k + 1 => by
    have h1 := chs_mul n k
    have h2 := chs_mul n (k + 1)
    have h3 : chs (n + 1) (k + 1) = chs n k + chs n (k + 1) := rfl
    show (k + 1 + 1) * (chs (n + 1) (k + 1) + chs (n + 1) (k + 2)) = (n + 1 + 1) * chs (n + 1) (k + 1)
    rw [Nat.mul_add, h2]
    have e1 : (k + 1 + 1) * chs (n + 1) (k + 1) = (k + 1) * chs (n + 1) (k + 1) + chs (n + 1) (k + 1) := by rw [Nat.add_mul (k + 1) 1, Nat.one_mul]
    have e2 : (n + 1 + 1) * chs (n + 1) (k + 1) = (n + 1) * chs n k + (n + 1) * chs n (k + 1) + chs (n + 1) (k + 1) := by rw [Nat.add_mul (n + 1) 1, Nat.one_mul]; rw [h3, Nat.mul_add]
    rw [e1, e2, h1]
    omega
theorem chs_zero : ∀ n k, n < k → chs n k = 0
  | 0, k + 1, _ => rfl
  | n + 1, k + 1, h => by show chs n k + chs n (k + 1) = 0; rw [chs_zero n k (by omega), chs_zero n (k + 1) (by omega)]
theorem chs_self : ∀ n, chs n n = 1
  | 0 => rfl
  | n + 1 => by show chs n n + chs n (n + 1) = 1; rw [chs_self n, chs_zero n (n + 1) (by omega)]
def bsum (a n : Nat) : Nat → Nat
  | 0 => 0
  | m + 1 => bsum a n m + chs n m * a ^ m
theorem bsum_step (a n : Nat) : ∀ m, bsum a (n + 1) (m + 1) = bsum a n (m + 1) + a * bsum a n m
  | 0 => by simp [bsum, chs_n0]
  | m + 1 => by
    have h := bsum_step a n m
    show bsum a (n + 1) (m + 1) + (chs n m + chs n (m + 1)) * a ^ (m + 1) = bsum a n (m + 1) + chs n (m + 1) * a ^ (m + 1) + a * (bsum a n m + chs n m * a ^ m)
    rw [h, Nat.pow_succ, Nat.add_mul, Nat.mul_add]
    have : chs n m * (a ^ m * a) = a * (chs n m * a ^ m) := by rw [Nat.mul_comm a, Nat.mul_assoc]
    omega
theorem binom (a : Nat) : ∀ n, (a + 1) ^ n = bsum a n (n + 1)
  | 0 => by simp [bsum, chs]
  | n + 1 => by
    rw [bsum_step, Nat.pow_succ, binom a n]
    have : bsum a n (n + 1 + 1) = bsum a n (n + 1) := by show bsum a n (n + 1) + chs n (n + 1) * _ = _; rw [chs_zero n (n + 1) (by omega)]; omega
    rw [this, Nat.mul_add, Nat.mul_one, Nat.mul_comm]
    omega
theorem chs_dvd {P : Nat} (hP : ∀ a b : Nat, P ∣ a * b → P ∣ a ∨ P ∣ b) {k : Nat} (h0 : 0 < k) (h1 : k < P) : P ∣ chs P k := by
  obtain ⟨n, rfl⟩ : ∃ n, P = n + 1 := ⟨P - 1, by omega⟩
  obtain ⟨j, rfl⟩ : ∃ j, k = j + 1 := ⟨k - 1, by omega⟩
  have h := chs_mul n j
  rcases hP (j + 1) (chs (n + 1) (j + 1)) ⟨chs n j, h⟩ with h2 | h2
  · exact absurd (Nat.le_of_dvd (by omega) h2) (by omega)
  · exact h2
theorem bsum_mod {P : Nat} (hP : ∀ a b : Nat, P ∣ a * b → P ∣ a ∨ P ∣ b) (a : Nat) : ∀ m, 1 ≤ m → m ≤ P → bsum a P m % P = 1 % P
  | 0, h, _ => absurd h (by omega)
  | 1, _, _ => by simp [bsum, chs_n0]
  | m + 2, _, h => by
    have ih := bsum_mod hP a (m + 1) (by omega) (by omega)
    obtain ⟨c, hc⟩ := chs_dvd hP (k := m + 1) (by omega) (by omega)
    show (bsum a P (m + 1) + chs P (m + 1) * a ^ (m + 1)) % P = _
    rw [hc, Nat.mul_assoc, Nat.add_mul_mod_self_left]
    exact ih
theorem fermat_nat {P : Nat} (h2 : 2 ≤ P) (hP : ∀ a b : Nat, P ∣ a * b → P ∣ a ∨ P ∣ b) : ∀ a : Nat, a ^ P % P = a % P
  | 0 => by rw [Nat.zero_pow (by omega)]
  | a + 1 => by
    rw [binom a P]
    show (bsum a P P + chs P P * a ^ P) % P = _
    rw [chs_self, Nat.one_mul, Nat.add_mod, bsum_mod hP a P (by omega) (Nat.le_refl _), fermat_nat h2 hP a, ← Nat.add_mod, Nat.add_comm]
theorem pr_nat {p : Int} (hp : IsPr p) (a b : Nat) (h : p.toNat ∣ a * b) : p.toNat ∣ a ∨ p.toNat ∣ b := by
  have hm := hp.mod
  unfold IsMod at hm
  have hpn : p = (p.toNat : Int) := (Int.toNat_of_nonneg (by omega)).symm
  have h1 : (a : Int) * (b : Int) % p = 0 := by
    rw [hpn]
    have := Int.natCast_dvd_natCast.2 h
    rw [Int.natCast_mul] at this
    exact Int.emod_eq_zero_of_dvd this
  rcases hp.pr a b h1 with h | h
  · left
    rw [hpn] at h
    exact Int.natCast_dvd_natCast.1 (Int.dvd_of_emod_eq_zero h)
  · right
    rw [hpn] at h
    exact Int.natCast_dvd_natCast.1 (Int.dvd_of_emod_eq_zero h)
theorem fermat {p : Int} (hp : IsPr p) {x : Int} (hx : x % p ≠ 0) : x ^ (p - 1).toNat % p = 1 := by
  have hm := hp.mod
  unfold IsMod at hm
  have hpn : p = (p.toNat : Int) := (Int.toNat_of_nonneg (by omega)).symm
  have hy0 := Int.emod_nonneg x (show p ≠ 0 by omega)
  have hy := fermat_nat (P := p.toNat) (by omega) (pr_nat hp) (x % p).toNat
  have h1 : (x % p) ^ p.toNat % p = (x % p) % p := by
    have := congrArg (fun n : Nat => (n : Int)) hy
    simp only [Int.natCast_emod, Int.natCast_pow] at this
    rw [Int.toNat_of_nonneg hy0, ← hpn] at this
    exact this
  rw [pow_mod, mod_mod] at h1
  have h2 : x * (x ^ (p - 1).toNat - 1) % p = 0 := by
    have e : p.toNat = (p - 1).toNat + 1 := by omega
    rw [e, Int.pow_succ] at h1
    have : x * (x ^ (p - 1).toNat - 1) = x ^ (p - 1).toNat * x - x := by grind
    rw [this, ← sub_mod_l, h1, sub_mod_l, Int.sub_self, Int.zero_emod]
  rcases hp.pr _ _ h2 with h | h
  · exact absurd h hx
  · have h3 : x ^ (p - 1).toNat % p = 1 % p := by
      obtain ⟨k, hk⟩ := Int.dvd_of_emod_eq_zero h
      rw [show x ^ (p - 1).toNat = 1 + p * k by omega, Int.add_mul_emod_self_left]
    rw [h3]; exact Int.emod_eq_of_lt (by omega) (by omega)
theorem inv_mul {p : Int} (hp : IsPr p) {a : Int} (ha : a % p ≠ 0) : invM p a * a % p = 1 := by
  have hm := hp.mod
  unfold IsMod at hm
  unfold invM powM
  rw [mul_mod_l, ← Int.pow_succ, show (p - 2).toNat.succ = (p - 1).toNat by omega]
  exact fermat hp ha
/-! ### Values -/
theorem cg_add {p a b c d : Int} (h : a % p = b % p) (k : c % p = d % p) : (a + c) % p = (b + d) % p := by rw [Int.add_emod, h, k, ← Int.add_emod]
theorem cg_mul {p a b c d : Int} (h : a % p = b % p) (k : c % p = d % p) : a * c % p = b * d % p := by rw [Int.mul_emod, h, k, ← Int.mul_emod]
theorem cg_sub {p a b c d : Int} (h : a % p = b % p) (k : c % p = d % p) : (a - c) % p = (b - d) % p := by rw [Int.sub_emod, h, k, ← Int.sub_emod]
def val (a : List Int) (x : Int) : Nat → Int
  | 0 => 0
  | n + 1 => val a x n + a.getD n 0 * x ^ n
theorem evF_val (p : Int) (a : List Int) (x : Int) : ∀ n, evF p a x n = val a x n % p
  | 0 => by show (0 : Int) = 0 % p; rw [Int.zero_emod]
  | n + 1 => by
    show (evF p a x n + a.getD n 0 * (x ^ n % p) % p) % p = _
    rw [evF_val p a x n, mul_mod_r, ← Int.add_emod]; rfl
theorem val_stop {a : List Int} (x : Int) {n : Nat} (h : a.length ≤ n) : val a x n = val a x a.length := by
  obtain ⟨d, rfl⟩ : ∃ d, n = a.length + d := ⟨n - a.length, by omega⟩
  clear h
  induction d with
  | zero => rfl
  | succ d ih =>
    show val a x (a.length + d) + a.getD (a.length + d) 0 * _ = _
    rw [ih, getD_out (by omega), Int.zero_mul, Int.add_zero]
def Vl1 (a : List Int) (x : Int) : Int := val a x a.length
theorem evP_V (p : Int) (a : List Int) (x : Int) : evP p a x = Vl1 a x % p := evF_val p a x _
theorem V_at {a : List Int} (x : Int) {n : Nat} (h : a.length ≤ n) : Vl1 a x = val a x n := (val_stop x h).symm
theorem val_ext {a b : List Int} (h : ∀ t, a.getD t 0 = b.getD t 0) (x : Int) : ∀ n, val a x n = val b x n
  | 0 => rfl
  | n + 1 => by show val a x n + _ = val b x n + _; rw [val_ext h x n, h n]
theorem V_ext {a b : List Int} (h : ∀ t, a.getD t 0 = b.getD t 0) (x : Int) : Vl1 a x = Vl1 b x := by
  rw [V_at x (Nat.le_max_left a.length b.length), V_at (a := b) x (Nat.le_max_right a.length b.length), val_ext h x]
theorem V_trim (a : List Int) (x : Int) : Vl1 (trimF a) x = Vl1 a x := V_ext (trim_getD a) x
theorem val_lin (p r : Int) (A : List Int) (x : Int) : ∀ n, val (linL p r A) x (n + 1) % p = (r * val A x (n + 1) + x * val A x n) % p
  | 0 => by
    show (0 + (linL p r A).getD 0 0 * x ^ 0) % p = (r * (0 + A.getD 0 0 * x ^ 0) + x * 0) % p
    rw [lin_get]
    have : shF A 0 = 0 := rfl
    rw [this, Int.pow_zero, Int.zero_add, Int.mul_one, mod_mod]
    congr 1; grind
  | n + 1 => by
    have ih := val_lin p r A x n
    have e1 : val (linL p r A) x (n + 1 + 1) = val (linL p r A) x (n + 1) + (linL p r A).getD (n + 1) 0 * x ^ (n + 1) := rfl
    have e2 : val A x (n + 1 + 1) = val A x (n + 1) + A.getD (n + 1) 0 * x ^ (n + 1) := rfl
    have e3 : val A x (n + 1) = val A x n + A.getD n 0 * x ^ n := rfl
    have e4 : shF A (n + 1) = A.getD n 0 := by unfold shF; rw [if_neg (by omega)]; rfl
    rw [e1, lin_get, e4]
    rw [cg_add ih (mul_mod_l p (A.getD (n + 1) 0 * r + A.getD n 0) (x ^ (n + 1)))]
    congr 1
    rw [e2]
    generalize hv : val A x (n + 1) = u at *
    rw [e3, Int.pow_succ]
    grind
theorem V_lin (p r : Int) (A : List Int) (x : Int) : Vl1 (linL p r A) x % p = Vl1 A x * (x + r) % p := by
  have h := val_lin p r A x A.length
  rw [val_stop (a := A) x (show A.length ≤ A.length + 1 by omega)] at h
  unfold Vl1
  rw [lin_len, h]
  congr 1; grind
def prd (xs : List Int) (x : Int) : Nat → Int
  | 0 => 1
  | n + 1 => prd xs x n * (x - xs.getD n 0)
theorem cg_root (p x y : Int) : (x + subM p 0 y) % p = (x - y) % p := by
  unfold subM
  rw [add_mod_r]; congr 1; omega
theorem V_van {p : Int} (hp : IsMod p) (xs : List Int) (x : Int) : ∀ n, Vl1 (vanL p xs n) x % p = prd xs x n % p
  | 0 => by show (0 + 1 * x ^ 0) % p = 1 % p; rw [Int.pow_zero]; rfl
  | n + 1 => by
    rw [(van_ok hp xs n).2.2.2, V_lin]
    exact cg_mul (V_van hp xs x n) (cg_root p x _)
theorem prd_zero {xs : List Int} {x : Int} {j : Nat} (hj : xs.getD j 0 = x) : ∀ n, j < n → prd xs x n = 0
  | n + 1, h => by
    show prd xs x n * (x - xs.getD n 0) = 0
    by_cases e : n = j
    · subst e; rw [hj, Int.sub_self, Int.mul_zero]
    · rw [prd_zero hj n (by omega), Int.zero_mul]
def prO (xs : List Int) (i : Nat) (x : Int) : Nat → Int
  | 0 => 1
  | n + 1 => if n = i then prO xs i x n else prO xs i x n * (x - xs.getD n 0)
theorem prO_succ (xs : List Int) (i : Nat) (x : Int) (n : Nat) : prO xs i x (n + 1) = if n = i then prO xs i x n else prO xs i x n * (x - xs.getD n 0) := rfl
theorem V_oth {p : Int} (hp : IsMod p) (xs : List Int) (i : Nat) (x : Int) : ∀ n, Vl1 (vanF p (othL xs i n)) x % p = prO xs i x n % p
  | 0 => by show (0 + 1 * x ^ 0) % p = 1 % p; rw [Int.pow_zero]; rfl
  | n + 1 => by
    unfold prO
    by_cases e : n = i
    · rw [if_pos e, oth_at e]; exact V_oth hp xs i x n
    · rw [if_neg e]
      have : othL xs i (n + 1) = othL xs i n ++ [xs.getD n 0] := by show (if n = i then _ else _) = _; rw [if_neg e]
      rw [this, vanF_snoc hp, V_lin]
      exact cg_mul (V_oth hp xs i x n) (cg_root p x _)
theorem by_pr (p : Int) (xs : List Int) (i : Nat) : ∀ n, byF p xs i n % p = prO xs i (xs.getD i 0) n % p
  | 0 => rfl
  | n + 1 => by
    unfold byF prO
    by_cases e : n = i
    · rw [if_pos e, if_pos e]; exact by_pr p xs i n
    · rw [if_neg e, if_neg e]
      unfold mulM subM
      rw [mod_mod, mul_mod_r]
      exact cg_mul (by_pr p xs i n) rfl
theorem prO_zero {xs : List Int} {i j : Nat} {x : Int} (hj : xs.getD j 0 = x) (hij : j ≠ i) : ∀ n, j < n → prO xs i x n = 0
  | n + 1, h => by
    unfold prO
    by_cases e : n = j
    · subst e; rw [if_neg hij, hj, Int.sub_self, Int.mul_zero]
    · have ih := prO_zero hj hij n (by omega)
      split
      · exact ih
      · rw [ih, Int.zero_mul]
theorem prO_mul (xs : List Int) (i : Nat) (x : Int) : ∀ n, prd xs x n = if i < n then prO xs i x n * (x - xs.getD i 0) else prO xs i x n
  | 0 => rfl
  | n + 1 => by
    show prd xs x n * (x - xs.getD n 0) = _
    rw [prO_mul xs i x n, prO_succ]
    by_cases e : n = i
    · subst e; rw [if_neg (by omega), if_pos (by omega), if_pos rfl]
    · by_cases h : i < n
      · rw [if_pos h, if_pos (by omega), if_neg e]; grind
      · rw [if_neg h, if_neg (by omega), if_neg e]
theorem val_mr {g h : Nat → Int} {p x : Int} {N : Nat} (e : ∀ t, t < N → g t % p = h t % p) : ∀ n, n ≤ N → val ((List.range N).map g) x n % p = val ((List.range N).map h) x n % p
  | 0, _ => rfl
  | n + 1, hn => by
    show (val _ x n + _ * _) % p = (val _ x n + _ * _) % p
    refine cg_add (val_mr e n (by omega)) (cg_mul ?_ rfl)
    rw [mr_get, mr_get, if_pos (by omega), if_pos (by omega)]
    exact e n (by omega)
theorem V_add (p : Int) (a b : List Int) (x : Int) : Vl1 (addP p a b) x % p = (Vl1 a x + Vl1 b x) % p := by
  unfold addP
  rw [V_trim]
  have key : ∀ n, n ≤ max a.length b.length → val (addLn p a b (max a.length b.length)) x n % p = (val a x n + val b x n) % p := by
    intro n
    induction n with
    | zero => intro _; rfl
    | succ n ih =>
      intro hn
      show (val _ x n + (addLn p a b (max a.length b.length)).getD n 0 * x ^ n) % p = (val a x n + a.getD n 0 * x ^ n + (val b x n + b.getD n 0 * x ^ n)) % p
      have : (addLn p a b (max a.length b.length)).getD n 0 = addM p (a.getD n 0) (b.getD n 0) := by
        unfold addLn; rw [mr_get, if_pos (by omega)]
      rw [this]
      unfold addM
      rw [cg_add (ih (by omega)) (mul_mod_l p (a.getD n 0 + b.getD n 0) (x ^ n))]
      congr 1; grind
  have h := key _ (Nat.le_refl _)
  rw [V_at (a := a) x (Nat.le_max_left a.length b.length), V_at (a := b) x (Nat.le_max_right a.length b.length), ← h]
  unfold Vl1
  rw [addLn_len]
theorem V_scale (p : Int) (a : List Int) (c : Int) (x : Int) : Vl1 (scaleP p a c) x % p = c * Vl1 a x % p := by
  unfold scaleP
  rw [V_trim]
  have key : ∀ n, n ≤ a.length → val (scLn p a c a.length) x n % p = c * val a x n % p := by
    intro n
    induction n with
    | zero => intro _; show 0 % p = c * 0 % p; rw [Int.mul_zero]
    | succ n ih =>
      intro hn
      show (val _ x n + (scLn p a c a.length).getD n 0 * x ^ n) % p = c * (val a x n + a.getD n 0 * x ^ n) % p
      have : (scLn p a c a.length).getD n 0 = mulM p (a.getD n 0) c := by
        unfold scLn; rw [mr_get, if_pos (by omega)]
      rw [this]
      unfold mulM
      rw [cg_add (ih (by omega)) (mul_mod_l p (a.getD n 0 * c) (x ^ n))]
      congr 1; grind
  have h := key _ (Nat.le_refl _)
  unfold Vl1
  rw [scLn_len]; exact h
def thS (p : Int) (xs ys : List Int) (x : Int) : Nat → Int
  | 0 => 0
  | n + 1 => thS p xs ys x n + ys.getD n 0 * wtF p xs n * prO xs n x xs.length
theorem V_thr {p : Int} (hp : IsMod p) (xs ys : List Int) (x : Int) : ∀ n, Vl1 (thrL p xs ys n) x % p = thS p xs ys x n % p
  | 0 => rfl
  | n + 1 => by
    show Vl1 (addP p (thrL p xs ys n) (scaleP p (vanF p (othL xs n xs.length)) (mulM p (ys.getD n 0) (wtF p xs n)))) x % p = _
    rw [V_add]
    refine cg_add (V_thr hp xs ys x n) ?_
    rw [V_scale]
    unfold mulM
    rw [mul_mod_l]
    exact cg_mul rfl (V_oth hp xs n x _)
theorem wt_by {p : Int} (hp : IsPr p) {xs : List Int} (he : elemsF p xs = true) (hn : xs.Nodup) {i : Nat} (hi : i < xs.length) : wtF p xs i * prO xs i (xs.getD i 0) xs.length % p = 1 := by
  have h0 := by_ne hp he hn hi xs.length (Nat.le_refl _)
  have h := inv_mul hp h0
  unfold wtF
  rw [← h]
  exact cg_mul rfl (by_pr p xs i _).symm
theorem thS_at {p : Int} (hp : IsPr p) {xs : List Int} (ys : List Int) (he : elemsF p xs = true) (hn : xs.Nodup) {m : Nat} (hm : m < xs.length) : ∀ n, n ≤ xs.length → thS p xs ys (xs.getD m 0) n % p = (if m < n then ys.getD m 0 else 0) % p
  | 0, _ => by rw [if_neg (by omega)]; rfl
  | n + 1, h => by
    have ih := thS_at hp ys he hn hm n (by omega)
    show (thS p xs ys (xs.getD m 0) n + ys.getD n 0 * wtF p xs n * prO xs n (xs.getD m 0) xs.length) % p = _
    by_cases e : m = n
    · subst e
      rw [if_neg (by omega)] at ih
      rw [if_pos (by omega)]
      have h1 := wt_by hp he hn hm
      have h2 : ys.getD m 0 * wtF p xs m * prO xs m (xs.getD m 0) xs.length % p = ys.getD m 0 % p := by
        rw [Int.mul_assoc, ← mul_mod_r, h1, Int.mul_one]
      rw [cg_add ih h2, Int.zero_add]
    · rw [prO_zero (xs := xs) (i := n) (j := m) rfl e xs.length hm, Int.mul_zero, Int.add_zero, ih]
      by_cases h3 : m < n
      · rw [if_pos h3, if_pos (by omega)]
      · rw [if_neg h3, if_neg (by omega)]
/-- The polynomial through points goes through them. -/
theorem thr_at {p : Int} (hp : IsPr p) {xs ys : List Int} (he : elemsF p xs = true) (hn : xs.Nodup) (hy : elemsF p ys = true) (hl : ys.length = xs.length) {m : Nat} (hm : m < xs.length) : evP p (thrF p xs ys) (xs.getD m 0) = ys.getD m 0 := by
  rw [evP_V]
  unfold thrF
  rw [V_thr hp.mod, thS_at hp ys he hn hm _ (Nat.le_refl _), if_pos hm]
  exact el_self (el_at hy (by omega))
/-! ### Uniqueness -/
theorem quo_len (p r : Int) (a : List Int) : (quoF p r a).length = a.length - 1 := mr_len _ _
theorem quo_get (p r : Int) (a : List Int) {t : Nat} (h : t < a.length - 1) : (quoF p r a).getD t 0 = qsF p r a (a.length - 1 - t) := by
  unfold quoF; rw [mr_get, if_pos h]
/-- A list is its quotient times the factor, and a rest. -/
theorem div_coef {p r : Int} {a : List Int} {t : Nat} (h0 : 0 < t) (ht : t < a.length) : a.getD t 0 % p = (linL p r (quoF p r a)).getD t 0 % p := by
  rw [lin_get]
  have e1 : shF (quoF p r a) t = qsF p r a (a.length - t) := by
    unfold shF
    rw [if_neg (by omega), quo_get p r a (by omega)]
    congr 1; omega
  obtain ⟨k, hk⟩ : ∃ k, a.length - t = k + 1 := ⟨a.length - t - 1, by omega⟩
  have e2 : (quoF p r a).getD t 0 = qsF p r a k := by
    by_cases h : t < a.length - 1
    · rw [quo_get p r a h]; congr 1; omega
    · rw [getD_out (by rw [quo_len]; omega)]
      have : k = 0 := by omega
      subst this; rfl
  rw [e1, hk, e2]
  show a.getD t 0 % p = (qsF p r a k * r + subM p (a.getD (a.length - 1 - k) 0) (mulM p (qsF p r a k) r)) % p % p
  rw [mod_mod, show a.length - 1 - k = t by omega]
  unfold subM mulM
  rw [add_mod_r, ← add_mod_l]
  generalize qsF p r a k * r % p = u
  congr 1; omega
theorem val_div {p r : Int} {a : List Int} (x : Int) (ha : 0 < a.length) : ∀ n, 0 < n → n ≤ a.length → val a x n % p = (val (linL p r (quoF p r a)) x n + (a.getD 0 0 - (linL p r (quoF p r a)).getD 0 0)) % p
  | 1, _, _ => by
    show (0 + a.getD 0 0 * x ^ 0) % p = (0 + (linL p r (quoF p r a)).getD 0 0 * x ^ 0 + _) % p
    rw [Int.pow_zero]; congr 1; omega
  | n + 2, _, h => by
    have ih := val_div (p := p) (r := r) x ha (n + 1) (by omega) (by omega)
    show (val a x (n + 1) + a.getD (n + 1) 0 * x ^ (n + 1)) % p = (val (linL p r (quoF p r a)) x (n + 1) + (linL p r (quoF p r a)).getD (n + 1) 0 * x ^ (n + 1) + _) % p
    rw [cg_add ih (cg_mul (div_coef (p := p) (r := r) (a := a) (t := n + 1) (by omega) (by omega)) (rfl : x ^ (n + 1) % p = _))]
    congr 1; omega
theorem V_div {p r : Int} {a : List Int} (x : Int) (ha : 0 < a.length) : Vl1 a x % p = (Vl1 (quoF p r a) x * (x + r) + (a.getD 0 0 - (linL p r (quoF p r a)).getD 0 0)) % p := by
  have h := val_div (p := p) (r := r) x ha a.length ha (Nat.le_refl _)
  unfold Vl1 at *
  rw [h]
  refine cg_add ?_ rfl
  have h2 := V_lin p r (quoF p r a) x
  unfold Vl1 at h2
  rw [← h2, lin_len, quo_len]
  congr 2; omega
/-- A polynomial with as many roots as coefficients is nothing. -/
theorem roots_zero {p : Int} (hp : IsPr p) : ∀ (n : Nat) (a xs : List Int), a.length ≤ n → xs.length = n → elemsF p xs = true → xs.Nodup → elemsF p a = true → (∀ j, j < n → Vl1 a (xs.getD j 0) % p = 0) → ∀ t, a.getD t 0 = 0
  | 0, a, xs, hl, _, _, _, _, _, t => getD_out (by omega)
  | n + 1, a, xs, hl, hx, hex, hnd, hea, hr, t => by
    by_cases ha : a.length = 0
    · exact getD_out (by omega)
    · have ha : 0 < a.length := by omega
      match xs, hx with
      | x0 :: xr, hx =>
        have hxr : xr.length = n := by simpa using hx
        obtain ⟨hn1, hn2⟩ := List.nodup_cons.1 hnd
        have hel : ∀ x ∈ x0 :: xr, El p x := fun x hxm => by
          unfold elemsF at hex
          rw [decide_eq_true_eq] at hex
          have := hex x hxm
          unfold El; omega
        let r : Int := 0 - x0
        have hR : (a.getD 0 0 - (linL p r (quoF p r a)).getD 0 0) % p = 0 := by
          have h0 := hr 0 (by omega)
          rw [V_div (p := p) (r := r) _ ha] at h0
          have e : (x0 :: xr).getD 0 0 + r = 0 := by show x0 + (0 - x0) = 0; omega
          rw [e, Int.mul_zero, Int.zero_add] at h0
          exact h0
        have hm := hp.mod
        have hq : elemsF p (quoF p r a) = true := elems_of (fun i hi => by
          rw [quo_len] at hi
          rw [quo_get p r a hi]; exact el_qs hm r a _)
        have hz := roots_zero hp n (quoF p r a) xr (by rw [quo_len]; omega) hxr (by
            unfold elemsF at hex ⊢
            rw [decide_eq_true_eq] at hex ⊢
            exact fun x hxm => hex x (List.mem_cons_of_mem _ hxm)) hn2 hq (fun j hj => by
          have h1 := hr (j + 1) (by omega)
          have e : (x0 :: xr).getD (j + 1) 0 = xr.getD j 0 := rfl
          rw [e, V_div (p := p) (r := r) _ ha, ← add_mod_r, hR, Int.add_zero] at h1
          rcases hp.pr _ _ h1 with h | h
          · exact h
          · exfalso
            have hmem : xr.getD j 0 ∈ xr := mem_getD (by omega)
            have hne : xr.getD j 0 ≠ x0 := fun e => hn1 (e ▸ hmem)
            refine el_ne (hel _ (List.mem_cons_of_mem _ hmem)) (hel x0 (List.mem_cons_self ..)) hne ?_
            have e2 : xr.getD j 0 - x0 = xr.getD j 0 + r := by show _ = xr.getD j 0 + (0 - x0); omega
            rw [e2]; exact h)
        have hlz : ∀ s, (linL p r (quoF p r a)).getD s 0 = 0 := fun s => by
          rw [lin_get, hz s, Int.zero_mul, Int.zero_add]
          unfold shF
          split
          · rw [Int.zero_emod]
          · rw [hz, Int.zero_emod]
        by_cases ht : t < a.length
        · have hel' := el_at hea ht
          rw [← el_self hel']
          by_cases h0 : t = 0
          · subst h0
            rw [hlz 0, Int.sub_zero] at hR
            exact hR
          · rw [div_coef (p := p) (r := r) (by omega) ht, hlz, Int.zero_emod]
        · exact getD_out (by omega)
def subLn (p : Int) (a b : List Int) (n : Nat) : List Int := (List.range n).map (fun i => subM p (a.getD i 0) (b.getD i 0))
theorem V_sub (p : Int) (a b : List Int) {n : Nat} (ha : a.length ≤ n) (hb : b.length ≤ n) (x : Int) : Vl1 (subLn p a b n) x % p = (Vl1 a x - Vl1 b x) % p := by
  have key : ∀ k, k ≤ n → val (subLn p a b n) x k % p = (val a x k - val b x k) % p := by
    intro k
    induction k with
    | zero => intro _; rfl
    | succ k ih =>
      intro hk
      show (val _ x k + (subLn p a b n).getD k 0 * x ^ k) % p = (val a x k + a.getD k 0 * x ^ k - (val b x k + b.getD k 0 * x ^ k)) % p
      have : (subLn p a b n).getD k 0 = subM p (a.getD k 0) (b.getD k 0) := by
        unfold subLn; rw [mr_get, if_pos (by omega)]
      rw [this]
      unfold subM
      rw [cg_add (ih (by omega)) (mul_mod_l p (a.getD k 0 - b.getD k 0) (x ^ k))]
      congr 1; grind
  have h := key n (Nat.le_refl _)
  rw [V_at (a := a) x ha, V_at (a := b) x hb, ← h]
  unfold Vl1
  rw [show (subLn p a b n).length = n from mr_len _ _]
/-- Two polynomials with the same values at enough points are the same. -/
theorem same_poly {p : Int} (hp : IsPr p) {n : Nat} {a b xs : List Int} (ha : a.length ≤ n) (hb : b.length ≤ n) (hx : xs.length = n) (hex : elemsF p xs = true) (hnd : xs.Nodup) (hea : elemsF p a = true) (heb : elemsF p b = true)
    (h : ∀ j, j < n → evP p a (xs.getD j 0) = evP p b (xs.getD j 0)) : ∀ t, a.getD t 0 = b.getD t 0 := by
  intro t
  have hm := hp.mod
  have hz := roots_zero hp n (subLn p a b n) xs (by rw [show (subLn p a b n).length = n from mr_len _ _]; exact Nat.le_refl _) hx hex hnd (elems_mr (fun _ _ => el_subM hm _ _)) (fun j hj => by
    rw [V_sub p a b ha hb]
    have := h j hj
    rw [evP_V, evP_V] at this
    rw [Int.sub_emod, this, ← Int.sub_emod, Int.sub_self, Int.zero_emod]) t
  by_cases ht : t < n
  · unfold subLn at hz
    rw [mr_get, if_pos ht] at hz
    unfold subM at hz
    exact Classical.byContradiction fun e => el_ne (el_get hm hea t) (el_get hm heb t) e hz
  · rw [getD_out (by omega), getD_out (by omega)]
end Go.SF
