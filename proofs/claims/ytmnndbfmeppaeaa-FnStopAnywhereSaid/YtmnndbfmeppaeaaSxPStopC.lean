/- Turners stopped anywhere. No condition. -/
import Derived.Test.YtmnndbfmeppaeaaSxPStopB
import Derived.Test.YtmnndbfmeppaeaaSxPNttB
import Derived.Test.YtmnndbfmeppaeaaSxPPlanC
import Derived.Test.YtmnndbfmeppaeaaSxPAdv
namespace Go.SF
open Go.SX Go
set_option linter.unusedVariables false
set_option linter.unusedSimpArgs false
theorem steps_mono {k : Int} {xs : List Sp} (h : StepsP k xs xs.length) (i : Nat) : ∀ d, i + d < xs.length → (xs.getD i (0, 0, 0)).1 ≤ (xs.getD (i + d) (0, 0, 0)).1
  | 0, _ => Int.le_refl _
  | d + 1, hd => by
    have h1 := steps_mono h i d (by omega)
    have h2 := (h (i + (d + 1)) hd).2 (by omega)
    rw [show i + (d + 1) - 1 = i + d by omega] at h2
    exact Int.le_trans h1 h2
theorem mt_low {k : Int} {xs : List Sp} {n l b : Nat} (h : StepsP k xs xs.length) (hn : n < xs.length) (hl : (l : Int) < (xs.getD n (0, 0, 0)).1) (h1 : cnt xs l b = 1) : 0 < cnt (xs.take n) l b := by
  rcases Nat.eq_zero_or_pos (cnt (xs.take n) l b) with h0 | h0
  · have hz : ∀ d, n + d ≤ xs.length → cnt (xs.take (n + d)) l b = 0 := by
      intro d
      induction d with
      | zero => intro _; exact h0
      | succ d ih =>
        intro hd
        have hm := steps_mono h n d (by omega)
        rw [show n + (d + 1) = n + d + 1 by omega, cnt_succ (by omega), ih (by omega), if_neg (by omega)]
    have := hz (xs.length - n) (by omega)
    rw [show n + (xs.length - n) = xs.length by omega, List.take_length, h1] at this
    exact absurd this (by omega)
  · exact h0
theorem mt_zero {xs : List Sp} {n l b : Nat} (hn : n < xs.length) (hc : (xs.getD n (0, 0, 0)).1 = (l : Int) ∧ (xs.getD n (0, 0, 0)).2.1 ≤ (b : Int) ∧ (b : Int) < (xs.getD n (0, 0, 0)).2.2) (h1 : cnt xs l b = 1) : cnt (xs.take n) l b = 0 := by
  have h2 := cnt_succ hn l b
  rw [if_pos hc] at h2
  have h3 := cnt_mono xs (n + 1) l b
  omega
theorem run_get (d : Fd) (v : List Int) (s : Sp) {q : Nat} (hq : q < v.length) : (runD d v s).getD q 0 = if s.2.1.toNat ≤ bOf s.1.toNat q ∧ bOf s.1.toNat q < s.2.2.toNat then stgAt d v s.1.toNat q else v.getD q 0 := by
  unfold runD rgL
  simp [List.getD_eq_getElem?_getD, hq]
theorem bOf_up {l q : Nat} (h : q % (2 * 2 ^ l) < 2 ^ l) : bOf l (q + 2 ^ l) = bOf l q := by
  have h1 := bOf_inv l q
  rw [if_pos h] at h1
  conv => lhs; rw [h1]
  exact bOf_idx' l _
theorem bOf_down {l q : Nat} (h : ¬ q % (2 * 2 ^ l) < 2 ^ l) : bOf l (q - 2 ^ l) = bOf l q := by
  have h1 := bOf_inv l q
  rw [if_neg h] at h1
  conv => lhs; rw [h1]
  rw [Nat.add_sub_cancel]
  exact bOf_idx l _
theorem up_lt {K l q : Nat} (hl : l < K) (hq : q < 2 ^ K) (h : q % (2 * 2 ^ l) < 2 ^ l) : q + 2 ^ l < 2 ^ K := by
  have hpow : 2 ^ K = 2 * 2 ^ l * 2 ^ (K - l - 1) := len_split (by omega)
  rw [hpow]
  have h1 : q = 2 * 2 ^ l * (q / (2 * 2 ^ l)) + q % (2 * 2 ^ l) := (Nat.div_add_mod q _).symm
  have h2 : q / (2 * 2 ^ l) < 2 ^ (K - l - 1) := Nat.div_lt_of_lt_mul (by rw [← hpow]; exact hq)
  have h3 : 2 * 2 ^ l * (q / (2 * 2 ^ l) + 1) ≤ 2 * 2 ^ l * 2 ^ (K - l - 1) := Nat.mul_le_mul_left _ h2
  rw [Nat.mul_add, Nat.mul_one] at h3
  omega
/-- What a turner that is well says of its plan. -/
structure TnW (p : Pl) (K : Nat) : Prop where
  hK : p.2.1 = (K : Int)
  K9 : K ≤ 9
  steps : StepsP (K : Int) p.2.2 p.2.2.length
  once : ∀ l, l < K → ∀ b, b < 2 ^ K / 2 → cnt p.2.2 l b = 1
  len : p.2.2.length ≤ 600
theorem plan_w {p : Pl} (h : planOkF p = true) : ∃ K, TnW p K := by
  unfold planOkF logOkF at h
  simp only [Bool.and_eq_true, decide_eq_true_eq] at h
  obtain ⟨⟨⟨⟨⟨h0, k1, k2⟩, k3⟩, h6⟩, h7⟩, h8⟩ := h
  obtain ⟨K, hK⟩ := Int.eq_ofNat_of_zero_le k1
  refine ⟨K, hK, by omega, by rw [← hK]; exact h7, fun l hl b hb => ?_, h6⟩
  rw [hK] at h8
  exact h8 l (by rw [Int.toNat_natCast]; exact hl) b (by rw [halfN, Int.toNat_natCast]; exact hb)
theorem turn_w {p : Pl} {v : List Int} {n : Int} (h : turnOkF (p, v, n) = true) : planOkF p = true ∧ vectorOkF p.1 v = true ∧ ((v.length : Int) = 2 ^ p.2.1.toNat) ∧ 0 ≤ n ∧ n ≤ p.2.2.length := by
  unfold turnOkF at h
  simp only [Bool.and_eq_true, decide_eq_true_eq] at h
  exact ⟨h.1.1.1, h.1.1.2, h.1.2, h.2.1, h.2.2⟩
theorem turn_mk {p : Pl} {v : List Int} {n : Int} (h1 : planOkF p = true) (h2 : vectorOkF p.1 v = true) (h3 : (v.length : Int) = 2 ^ p.2.1.toNat) (h4 : 0 ≤ n) (h5 : n ≤ p.2.2.length) : turnOkF (p, v, n) = true := by
  unfold turnOkF
  simp only [Bool.and_eq_true, decide_eq_true_eq]
  exact ⟨⟨⟨h1, h2⟩, h3⟩, h4, h5⟩
theorem len_w {p : Pl} {K : Nat} {v : List Int} (hw : TnW p K) (h : (v.length : Int) = 2 ^ p.2.1.toNat) : v.length = 2 ^ K := by
  rw [hw.hK, Int.toNat_natCast, show (2 : Int) ^ K = ((2 ^ K : Nat) : Int) from (Int.natCast_pow 2 K).symm] at h
  exact Int.ofNat.inj h
theorem bOf_half {K l q : Nat} (hl : l < K) (hq : q < 2 ^ K) : bOf l q < 2 ^ K / 2 := by
  rw [half_split hl]
  exact bOf_lt (by rw [← len_split hl]; exact hq)
theorem sta_start (p : Pl) (u : List Int) : StaP p u u 0 := fun q _ => ⟨0, Nat.zero_le _, fun l _ => by simp [cnt], rfl⟩
theorem sta_step {p : Pl} {K : Nat} (hw : TnW p K) {u v : List Int} {n : Nat} (hu : u.length = 2 ^ K) (hv : v.length = 2 ^ K) (hn : n < p.2.2.length) (h : StaP p u v n) : StaP p u (runD (fieldF p.1).1 v (p.2.2.getD n (0, 0, 0))) (n + 1) := by
  obtain ⟨s1, s2, s3, s4, s5⟩ := step_iff.1 (hw.steps n hn).1
  have hcs := cnt_succ hn
  have hlow := fun l b => mt_low (l := l) (b := b) hw.steps hn
  have hzero := fun l b => mt_zero (l := l) (b := b) hn
  generalize p.2.2.getD n (0, 0, 0) = s at *
  obtain ⟨L, a, b⟩ := s
  simp only at s1 s2 s3 s4 s5 hcs hlow hzero
  obtain ⟨L, rfl⟩ := Int.eq_ofNat_of_zero_le s1
  obtain ⟨a, rfl⟩ := Int.eq_ofNat_of_zero_le s3
  obtain ⟨b, rfl⟩ := Int.eq_ofNat_of_zero_le (show (0 : Int) ≤ b by omega)
  have hLK : L < K := by omega
  have hKt : p.2.1.toNat = K := by rw [hw.hK]; rfl
  -- what stands at a place that the step covers
  have cov : ∀ q, q < 2 ^ K → a ≤ bOf L q → bOf L q < b → v.getD q 0 = lev (fieldF p.1).1 u L q ∧ ∀ l, l < K → (0 < cnt (p.2.2.take n) l (bOf l q) ↔ l < L) := by
    intro q hq h1 h2
    obtain ⟨c, c1, c2, c3⟩ := h q (by omega)
    rw [hKt] at c1 c2
    have hz := hzero L (bOf L q) ⟨rfl, by omega, by omega⟩ (hw.once L hLK _ (bOf_half hLK hq))
    have e : c = L := by
      rcases Nat.lt_trichotomy c L with hc | hc | hc
      · have := hlow c (bOf c q) (by omega) (hw.once c (by omega) _ (bOf_half (by omega) hq))
        have := (c2 c (by omega)).1 this
        omega
      · exact hc
      · have := (c2 L hLK).2 hc
        omega
    subst e
    exact ⟨c3, c2⟩
  intro q hq
  rw [hu] at hq
  rw [run_get _ _ _ (by omega)]
  simp only [Int.toNat_natCast]
  by_cases hin : a ≤ bOf L q ∧ bOf L q < b
  · rw [if_pos hin]
    obtain ⟨e1, e2⟩ := cov q hq hin.1 hin.2
    refine ⟨L + 1, by omega, fun l hl => ?_, ?_⟩
    · rw [hKt] at hl
      rw [hcs]
      have := e2 l hl
      split
      · rename_i hc
        constructor
        · intro _; omega
        · intro _; omega
      · rename_i hc
        have : l ≠ L := fun e => hc ⟨by rw [e], by rw [e]; omega, by rw [e]; omega⟩
        rw [Nat.add_zero, e2 l hl]
        omega
    · unfold stgAt
      rw [lev]
      split
      · rename_i hr
        have hr : q % (2 * 2 ^ L) < 2 ^ L := hr
        obtain ⟨e3, _⟩ := cov (q + 2 ^ L) (up_lt hLK hq hr) (by rw [bOf_up hr]; exact hin.1) (by rw [bOf_up hr]; exact hin.2)
        rw [e1, e3]
      · rename_i hr
        have hr : ¬ q % (2 * 2 ^ L) < 2 ^ L := hr
        obtain ⟨e3, _⟩ := cov (q - 2 ^ L) (Nat.lt_of_le_of_lt (Nat.sub_le _ _) hq) (by rw [bOf_down hr]; exact hin.1) (by rw [bOf_down hr]; exact hin.2)
        rw [e1, e3]
  · rw [if_neg hin]
    obtain ⟨c, c1, c2, c3⟩ := h q (by omega)
    refine ⟨c, c1, fun l hl => ?_, c3⟩
    rw [hcs, if_neg (fun hc => hin ?_), Nat.add_zero]
    · exact c2 l hl
    · have : L = l := by have := hc.1; omega
      subst this
      exact ⟨by have := hc.2.1; omega, by have := hc.2.2; omega⟩
theorem perm_len2 {v : List Int} (h : 0 ≤ logF v.length) : (permF v).length = v.length := by unfold permF; rw [if_pos h]; exact perm_len _ _
theorem sta_end {p : Pl} {K : Nat} (hw : TnW p K) {v0 v : List Int} (h0 : vectorOkF p.1 v0 = true) (hl0 : v0.length = 2 ^ K) (hl : v.length = 2 ^ K) (h : StaP p (permF v0) v p.2.2.length) : v = fwdF p.1 v0 := by
  obtain ⟨hm, he, K', hK', hK9, hlen, hKt⟩ := vecL_ok h0
  have hKK : K' = K := by
    rcases Nat.lt_trichotomy K' K with e | e | e
    · have := Nat.pow_lt_pow_right (a := 2) (by omega) e; omega
    · exact e
    · have := Nat.pow_lt_pow_right (a := 2) (by omega) e; omega
  subst hKK
  have hpl : (permF v0).length = v0.length := perm_len2 (by omega)
  unfold fwdF
  rw [if_pos h0]
  refine List.ext_getElem ?_ fun q h1 h2 => ?_
  · rw [dftL_len, hl, hl0]
  · obtain ⟨c, c1, c2, c3⟩ := h q (by omega)
    have hKt2 : p.2.1.toNat = K' := by rw [hw.hK]; rfl
    rw [hKt2] at c1 c2
    have e : c = K' := by
      rcases Nat.lt_or_ge c K' with hc | hc
      · have := (c2 c hc).1 (by rw [List.take_length, hw.once c hc _ (bOf_half hc (by omega))]; omega)
        omega
      · omega
    subst e
    have hd := lev_fwd h0 (t := q) (by omega)
    rw [hK', Int.toNat_natCast] at hd
    rw [hd] at c3
    have g1 : v.getD q 0 = v[q] := by simp [List.getD_eq_getElem?_getD, h1]
    rw [← g1, c3]
    simp only [dftL, List.getElem_map, List.getElem_range]
    rw [hK']
/-- The units of the steps left. -/
theorem adv_run {p : Pl} {K : Nat} (hw : TnW p K) (hp : planOkF p = true) {u : List Int} (hu : u.length = 2 ^ K) {units : Int} : ∀ (k n : Nat) (v : List Int) (used : Int), n + k = p.2.2.length → turnOkF (p, v, (n : Int)) = true → StaP p u v n → used ≤ units →
    turnOkF (p, (advGo (fieldF p.1).1 p.2.2 units k v n used).1, ((advGo (fieldF p.1).1 p.2.2 units k v n used).2.1 : Int)) = true ∧ StaP p u (advGo (fieldF p.1).1 p.2.2 units k v n used).1 (advGo (fieldF p.1).1 p.2.2 units k v n used).2.1 ∧
      (advGo (fieldF p.1).1 p.2.2 units k v n used).2.2 = used + (manyF (p.2.2.take (advGo (fieldF p.1).1 p.2.2 units k v n used).2.1) - manyF (p.2.2.take n)) ∧ (advGo (fieldF p.1).1 p.2.2 units k v n used).2.2 ≤ units ∧ used ≤ (advGo (fieldF p.1).1 p.2.2 units k v n used).2.2 ∧
      (used + (manyF p.2.2 - manyF (p.2.2.take n)) ≤ units → (advGo (fieldF p.1).1 p.2.2 units k v n used).2.1 = p.2.2.length)
  | 0, n, v, used, hk, ht, hs, hu2 => by
    refine ⟨ht, hs, ?_, hu2, Int.le_refl _, fun _ => by show n = _; omega⟩
    show used = used + (manyF (p.2.2.take n) - manyF (p.2.2.take n)); omega
  | k + 1, n, v, used, hk, ht, hs, hu2 => by
    obtain ⟨t1, t2, t3, t4, t5⟩ := turn_w ht
    have hl := len_w hw t3
    have hn : n < p.2.2.length := by omega
    obtain ⟨s1, s2, s3, s4, s5⟩ := step_iff.1 (hw.steps n hn).1
    have hms := many_succ hn
    have hst := sta_step hw hu hl hn hs
    rw [advGo]
    split
    · rename_i hc
      obtain ⟨r1, r2⟩ := run_vec (s := p.2.2.getD n (0, 0, 0)) t2
      have ih := adv_run hw hp hu (units := units) k (n + 1) (runD (fieldF p.1).1 v (p.2.2.getD n (0, 0, 0))) (used + ((p.2.2.getD n (0, 0, 0)).2.2 - (p.2.2.getD n (0, 0, 0)).2.1)) (by omega) (turn_mk t1 r1 (by rw [r2]; exact t3) (by omega) (by omega)) hst (by have := hc.2; omega)
      obtain ⟨i1, i2, i3, i4, i5, i6⟩ := ih
      refine ⟨i1, i2, by omega, i4, by omega, fun h => i6 (by omega)⟩
    · rename_i hc
      refine ⟨ht, hs, (by show used = used + (manyF (p.2.2.take n) - manyF (p.2.2.take n)); omega), hu2, Int.le_refl _, fun h => absurd ⟨hn, ?_⟩ hc⟩
      have hge : manyF (p.2.2.take (n + 1)) ≤ manyF p.2.2 := by
        have hm : ∀ d, n + 1 + d ≤ p.2.2.length → manyF (p.2.2.take (n + 1)) ≤ manyF (p.2.2.take (n + 1 + d)) := by
          intro d
          induction d with
          | zero => intro _; exact Int.le_refl _
          | succ d ih =>
            intro hd
            have h1 := ih (by omega)
            have h2 := many_succ (xs := p.2.2) (i := n + 1 + d) (by omega)
            obtain ⟨_, _, _, z4, _⟩ := step_iff.1 (hw.steps (n + 1 + d) (by omega)).1
            rw [show n + 1 + (d + 1) = n + 1 + d + 1 by omega]
            omega
        have := hm (p.2.2.length - (n + 1)) (by omega)
        rw [show n + 1 + (p.2.2.length - (n + 1)) = p.2.2.length by omega, List.take_length] at this
        exact this
      show (p.2.2.getD n (0, 0, 0)).2.2 - (p.2.2.getD n (0, 0, 0)).2.1 ≤ units - used
      omega
theorem left_many {p : Pl} {K : Nat} (hw : TnW p K) : ∀ (d i : Nat) (M : Int), i + d = p.2.2.length → 0 ≤ M → M ≤ 200000 → leftGo (p.2.2.drop i) (manyF (p.2.2.take i) - M) = manyF p.2.2 - M
  | 0, i, M, hd, _, _ => by
    have : i = p.2.2.length := by omega
    rw [this, List.drop_length, List.take_length]; rfl
  | d + 1, i, M, hd, h0, h1 => by
    have hi : i < p.2.2.length := by omega
    obtain ⟨b1, b2⟩ := many_bound (k := (K : Int)) (by have := hw.K9; omega) i (by omega) (fun j hj => hw.steps j (by omega))
    obtain ⟨b3, b4⟩ := many_bound (k := (K : Int)) (by have := hw.K9; omega) (i + 1) (by omega) (fun j hj => hw.steps j (by omega))
    have hms := many_succ hi
    have hlen := hw.len
    rw [left_step (k := 0) hi]
    have e : w64 (manyF (p.2.2.take i) - M + w64 ((p.2.2.getD i (0, 0, 0)).2.2 - (p.2.2.getD i (0, 0, 0)).2.1)) = manyF (p.2.2.take (i + 1)) - M := by
      unfold w64
      rw [wrap_small (n := (p.2.2.getD i (0, 0, 0)).2.2 - (p.2.2.getD i (0, 0, 0)).2.1) (by omega), wrap_small (by omega)]
      omega
    rw [e]
    exact left_many hw d (i + 1) M (by omega) h0 h1
theorem left_is {p : Pl} {K : Nat} (hw : TnW p K) {v : List Int} {n : Nat} (h : turnOkF (p, v, (n : Int)) = true) : leftF (p, v, (n : Int)) = manyF p.2.2 - manyF (p.2.2.take n) := by
  obtain ⟨t1, t2, t3, t4, t5⟩ := turn_w h
  obtain ⟨b1, b2⟩ := many_bound (k := (K : Int)) (by have := hw.K9; omega) n (by omega) (fun j hj => hw.steps j (by omega))
  have hlen := hw.len
  unfold leftF
  rw [if_pos h]
  have := left_many hw (p.2.2.length - n) n (manyF (p.2.2.take n)) (by omega) b1 (by omega)
  rw [Int.sub_self] at this
  exact this
theorem many_all {p : Pl} {K : Nat} (hw : TnW p K) : manyF p.2.2 = (K : Int) * halfF (K : Int) ∧ 0 ≤ manyF p.2.2 ∧ manyF p.2.2 ≤ 153600 := by
  have h1 := many_total (k := (K : Int)) (K := K) (H := 2 ^ K / 2) rfl halfN.symm p.2.2.length (Nat.le_refl _) hw.steps
  obtain ⟨b1, b2⟩ := many_bound (k := (K : Int)) (by have := hw.K9; omega) p.2.2.length (Nat.le_refl _) hw.steps
  have hlen := hw.len
  rw [List.take_length] at h1 b1 b2
  refine ⟨?_, b1, by omega⟩
  rw [h1, halfN, ← Int.natCast_mul]
  congr 1
  unfold totalN
  have e1 : sumN K (fun l => sumN (2 ^ K / 2) (fun b => cnt p.2.2 l b)) = sumN K (fun l => sumN (2 ^ K / 2) (fun _ => 1)) := sumN_congr (fun l hl => sumN_congr (fun b hb => hw.once l hl b hb))
  rw [e1]
  have e2 : ∀ h, sumN h (fun _ => 1) = h := by
    intro h
    induction h with
    | zero => rfl
    | succ h ih => rw [sumN_succ, ih]
  have e3 : ∀ h c, sumN h (fun _ => c) = h * c := by
    intro h c
    induction h with
    | zero => rw [Nat.zero_mul]; rfl
    | succ h ih => rw [sumN_succ, ih, Nat.add_mul, Nat.one_mul]
  rw [e3, e2]
end Go.SF
