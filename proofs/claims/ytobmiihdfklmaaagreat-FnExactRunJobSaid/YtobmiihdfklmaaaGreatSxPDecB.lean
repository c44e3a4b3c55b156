/- Words of a code: what is chosen of them, and values of polynomials. No condition. -/
import Derived.Test.YtobmiihdfklmaaaGreatSxPThruB
import Derived.Test.YtobmiihdfklmaaaGreatSxPPlan2
import Derived.Test.YtobmiihdfklmaaaGreatSxC
namespace Go.SF
open Go.SX Go
set_option linter.unusedVariables false
set_option linter.unusedSimpArgs false
set_option maxRecDepth 10000
theorem code_ok {f : Int} {xs : List Int} {k : Int} (h : codeB f xs k = true) : pointsF f xs = true ∧ xs.length ≤ 10 ∧ 1 ≤ k ∧ k ≤ xs.length := by
  unfold codeB at h
  simp only [Bool.and_eq_true, decide_eq_true_eq] at h
  exact ⟨h.1.2, h.1.1, h.2.1, h.2.2⟩
theorem code_of {f : Int} {xs : List Int} {k : Int} (h1 : pointsF f xs = true) (h2 : xs.length ≤ 10) (h3 : 1 ≤ k) (h4 : k ≤ xs.length) : codeB f xs k = true := by
  unfold codeB
  simp only [Bool.and_eq_true, decide_eq_true_eq]
  exact ⟨⟨h2, h1⟩, h3, h4⟩
theorem cod_snd {f : Int} {xs : List Int} {k : Int} : (codF f xs k).2 = codeB f xs k := by
  unfold codF
  cases h : codeB f xs k <;> rfl
theorem cod_mod {f : Int} {xs : List Int} {k : Int} (h : codeB f xs k = true) : (codF f xs k).1.1 = modF f := by
  unfold codF
  rw [if_pos h]; rfl
theorem sub_len (a b : List Int) (s : Nat) : ∀ n, (subL a s n).length = (subL b s n).length
  | 0 => rfl
  | n + 1 => by
    unfold subL
    split
    · rw [List.length_append, List.length_append, sub_len a b s n]; rfl
    · exact sub_len a b s n
theorem sub_sub {xs : List Int} (s : Nat) : ∀ n, n ≤ xs.length → (subL xs s n).Sublist (xs.take n)
  | 0, _ => by simp [subL]
  | n + 1, h => by
    have h1 := sub_sub (xs := xs) s n (by omega)
    rw [← tk_succ (z := (0 : Int)) (show n < xs.length by omega)]
    unfold subL
    split
    · exact h1.append (List.Sublist.refl _)
    · exact h1.trans (List.sublist_append_left _ _)
theorem sub_all {xs : List Int} (s : Nat) : (subL xs s xs.length).Sublist xs := by
  have := sub_sub (xs := xs) s xs.length (Nat.le_refl _)
  rwa [List.take_length] at this
theorem sublist_elems {p : Int} {a b : List Int} (h : a.Sublist b) (he : elemsF p b = true) : elemsF p a = true := by
  unfold elemsF at *
  rw [decide_eq_true_eq] at *
  exact fun x hx => he x (h.subset hx)
theorem sub_pt {f : Int} {xs : List Int} (hp : pointsF f xs = true) {s : Nat} (h : 1 ≤ (subL xs s xs.length).length) : pointsF f (subL xs s xs.length) = true := by
  obtain ⟨hm, hl1, hl2, he, hn⟩ := pt_ok hp
  have hs := sub_all (xs := xs) s
  exact pt_of hm h (by have := hs.length_le; omega) (sublist_elems hs he) (hn.sublist hs)
theorem sub_take {l : List Int} {s n : Nat} (h : s / 2 ^ n % 2 = 1) : subL l s n ++ [l.getD n 0] = subL l s (n + 1) := by
  show _ = if _ then _ else _
  rw [if_pos h]
theorem sub_skip {l : List Int} {s n : Nat} (h : ¬ s / 2 ^ n % 2 = 1) : subL l s n = subL l s (n + 1) := by
  show _ = if _ then _ else _
  rw [if_neg h]
theorem oth_len' {xs : List Int} {i : Nat} : ∀ n, i < n → (othL xs i n).length + 1 ≤ n
  | 0, h => by omega
  | n + 1, h => by
    by_cases e : n = i
    · rw [oth_at e]
      have := oth_len xs i n
      omega
    · rw [oth_ne e, List.length_append]
      have := oth_len' (xs := xs) n (show i < n by omega)
      simp only [List.length_cons, List.length_nil]; omega
theorem thr_len {p : Int} (hp : IsMod p) {xs : List Int} (ys : List Int) : ∀ n, n ≤ xs.length → (thrL p xs ys n).length ≤ xs.length
  | 0, _ => by simp [thrL]
  | n + 1, h => by
    have h1 := thr_len hp (xs := xs) ys n (by omega)
    unfold thrL
    have e1 := (add_ok hp (thrL p xs ys n) (scaleP p (vanF p (othL xs n xs.length)) (mulM p (ys.getD n 0) (wtF p xs n)))).2.1
    have e2 := (scale_ok hp (vanF p (othL xs n xs.length)) (mulM p (ys.getD n 0) (wtF p xs n))).2.1
    have e3 := (vanF_ok hp (othL xs n xs.length)).1
    have e4 := oth_len' (xs := xs) xs.length (show n < xs.length by omega)
    omega
theorem evF_stop {p : Int} (hp : IsMod p) {a : List Int} (x : Int) {n : Nat} (hn : a.length ≤ n) : evF p a x n = evP p a x := by
  induction n with
  | zero =>
    have : a.length = 0 := by omega
    unfold evP
    rw [this]
  | succ n ih =>
    by_cases h : a.length = n + 1
    · unfold evP
      rw [h]
    · have h1 := ih (by omega)
      show addM p (evF p a x n) (mulM p (a.getD n 0) (powM p x n)) = _
      rw [h1, getD_out (by omega)]
      unfold addM mulM
      rw [Int.zero_mul, Int.zero_emod, Int.add_zero, el_self (el_evP hp a x)]
theorem ev_ext {p : Int} (hp : IsMod p) {a b : List Int} (h : ∀ t, a.getD t 0 = b.getD t 0) (x : Int) : evP p a x = evP p b x := by
  have key : ∀ n, evF p a x n = evF p b x n := by
    intro n
    induction n with
    | zero => rfl
    | succ n ih =>
      show addM p (evF p a x n) (mulM p (a.getD n 0) (powM p x n)) = addM p (evF p b x n) (mulM p (b.getD n 0) (powM p x n))
      rw [ih, h n]
  rw [← evF_stop hp (a := a) x (n := max a.length b.length) (by omega), key, evF_stop hp (a := b) x (by omega)]
theorem cutN_zero {l : List Int} : ∀ n, ∀ t, cutN l n ≤ t → t < n → l.getD t 0 = 0
  | 0, t, _, h => by omega
  | n + 1, t, h, h1 => by
    unfold cutN at h
    split at h
    · rename_i h0
      by_cases e : t = n
      · rw [e]; exact h0
      · exact cutN_zero n t h (by omega)
    · omega
theorem trim_getD (l : List Int) (t : Nat) : (trimF l).getD t 0 = l.getD t 0 := by
  by_cases h : t < cutF l
  · exact getD_take h
  · rw [getD_out (by rw [trim_len]; omega)]
    by_cases h1 : t < l.length
    · exact (cutN_zero l.length t (Nat.le_of_not_lt h) h1).symm
    · exact (getD_out (by omega)).symm
theorem rep_getD (l : List Int) (j t : Nat) : (l ++ List.replicate j 0).getD t 0 = l.getD t 0 := by
  rw [List.getD_eq_getElem?_getD, List.getD_eq_getElem?_getD, List.getElem?_append]
  split
  · rfl
  · rename_i h
    rw [List.getElem?_eq_none (show l.length ≤ t by omega), List.getElem?_replicate]
    split <;> rfl
theorem evM_len (p : Int) (a xs : List Int) (n : Nat) : (evM p a xs n).length = n := mr_len _ n
theorem evM_succ (p : Int) (a xs : List Int) (n : Nat) : evM p a xs n ++ [evP p a (xs.getD n 0)] = evM p a xs (n + 1) := mr_succ _ n
theorem evM_ext {p : Int} (hp : IsMod p) {a b : List Int} (h : ∀ t, a.getD t 0 = b.getD t 0) (xs : List Int) (n : Nat) : evM p a xs n = evM p b xs n := mr_congr (fun _ _ => ev_ext hp h _)
theorem find_none {h : Nat → Bool} : ∀ n, (∀ t, t < n → h t = false) → findF h n = none
  | 0, _ => rfl
  | n + 1, hn => by
    unfold findF
    rw [find_none n (fun t ht => hn t (by omega)), hn n (by omega)]; rfl
theorem find_some {h : Nat → Bool} {s : Nat} (hs : h s = true) (hl : ∀ t, t < s → h t = false) : ∀ n, s < n → findF h n = some s
  | 0, h0 => by omega
  | n + 1, h0 => by
    unfold findF
    by_cases e : s = n
    · subst e
      rw [find_none s hl, hs]; rfl
    · rw [find_some hs hl n (by omega)]
theorem dec_no {f : Int} {xs ys : List Int} {k : Int} (h : (codeB f xs k && decide (ys.length = xs.length) && specElemsF f ys) = false) : ([], 0, false) = decF f xs ys k := by unfold decF; rw [h]; rfl
theorem dec_yes {f : Int} {xs ys : List Int} {k : Int} (h1 : codeB f xs k = true) (h2 : ys.length = xs.length) (h3 : specElemsF f ys = true) : decF f xs ys k = decR (modF f) xs ys k.toNat (findF (hitB (modF f) xs ys k.toNat) (2 ^ xs.length)) := by
  unfold decF
  rw [h1, h3, decide_eq_true h2]; rfl
theorem dec_hit {f : Int} {xs ys : List Int} {k : Int} (h1 : codeB f xs k = true) (h2 : ys.length = xs.length) (h3 : specElemsF f ys = true) {s : Nat} (hs : SetJ (modF f) xs ys k.toNat s) (hl : s < 2 ^ xs.length) (hh : hitB (modF f) xs ys k.toNat s = true) :
    decF f xs ys k = (padF (msgF (modF f) xs ys s) k.toNat, ((errF (modF f) xs ys s : Nat) : Int), true) := by
  rw [dec_yes h1 h2 h3, find_some hh hs.2 _ hl]; rfl
theorem dec_end {f : Int} {xs ys : List Int} {k : Int} (h1 : codeB f xs k = true) (h2 : ys.length = xs.length) (h3 : specElemsF f ys = true) {s : Nat} (hs : SetJ (modF f) xs ys k.toNat s) (hl : ¬ s < 2 ^ xs.length) : ([], 0, false) = decF f xs ys k := by
  obtain rfl : s = 2 ^ xs.length := by have := hs.1; omega
  rw [dec_yes h1 h2 h3, find_none _ hs.2]; rfl
theorem set_next {p : Int} {xs ys : List Int} {k s : Nat} (hs : SetJ p xs ys k s) (hl : s < 2 ^ xs.length) (hh : hitB p xs ys k s = false) : SetJ p xs ys k (s + 1) := by
  refine ⟨by omega, fun t ht => ?_⟩
  by_cases e : t = s
  · rw [e]; exact hh
  · exact hs.2 t (by omega)
theorem pow_1024 {n : Nat} (h : n ≤ 10) : 2 ^ n ≤ 1024 := Nat.pow_le_pow_right (n := 2) (by omega) h
theorem shl_nat {n : Nat} (h : n ≤ 10) : ishl .i64 1 (n : Int) = ((2 ^ n : Nat) : Int) := by
  rw [ishl_pow (by omega)]
  exact (Int.natCast_pow 2 n).symm
theorem u64_10 {n : Nat} (h : n ≤ 10) : IntKind.u64.wrap (n : Int) = (n : Int) := u64_small ⟨n, by omega⟩
theorem iand_1024 : ∀ a : Fin 1024, iand .i64 (a.val : Int) 1 = ((a.val % 2 : Nat) : Int) := by decide +kernel
theorem dif_same {a b : List Int} {n : Nat} (h : n < a.length ∧ n < b.length ∧ a.getD n 0 = b.getD n 0) : difX a b (n + 1) = difX a b n := by
  show (if _ then _ else _) = _
  rw [if_pos h]
theorem dif_more {a b : List Int} {n : Nat} (h : ¬ (n < a.length ∧ n < b.length ∧ a.getD n 0 = b.getD n 0)) : difX a b (n + 1) = difX a b n + 1 := by
  show (if _ then _ else _) = _
  rw [if_neg h]
theorem dif_le (a b : List Int) : ∀ n, difX a b n ≤ n
  | 0 => Nat.le_refl _
  | n + 1 => by
    have := dif_le a b n
    unfold difX
    split <;> omega
theorem dif_tail {a b : List Int} {m : Nat} (hm : m = min a.length b.length) : ∀ d, difX a b (m + d) = d + difX a b m
  | 0 => by rw [Nat.zero_add]; rfl
  | d + 1 => by
    have h : ¬ (m + d < a.length ∧ m + d < b.length ∧ a.getD (m + d) 0 = b.getD (m + d) 0) := by omega
    rw [← Nat.add_assoc, dif_more h, dif_tail hm d]
    omega
theorem difF_eq {a b : List Int} {n : Nat} (ha : a.length = n) (hb : b.length = n) : difF a b = ((difX a b n : Nat) : Int) := by
  unfold difF
  rw [ha, hb, Nat.max_self]
theorem difS_small {a b : List Int} (ha : a.length ≤ 4096) (hb : b.length ≤ 4096) : difS a b = difF a b := by
  unfold difS
  rw [if_neg (by omega)]
theorem half_nat {n k : Nat} (h : k ≤ n) (hn : n ≤ 10) : IntKind.i64.wrap ((IntKind.i64.wrap ((n : Int) - (k : Int))).tdiv 2) = (((n - k) / 2 : Nat) : Int) := by
  rw [wrap_small (n := (n : Int) - (k : Int)) (by omega), show (n : Int) - (k : Int) = ((n - k : Nat) : Int) by omega]
  exact half_wrap (by omega)
theorem msg_ok {f : Int} {xs ys : List Int} (hp : pointsF f xs = true) (hl : ys.length = xs.length) (s : Nat) : elemsF (modF f) (msgF (modF f) xs ys s) = true ∧ (msgF (modF f) xs ys s).length ≤ (subL xs s xs.length).length := by
  obtain ⟨hm, hl1, hl2, he, hn⟩ := pt_ok hp
  have h0 := (mod_pr hm).mod
  have hs := (sub_all (xs := xs) s).length_le
  exact ⟨(thr_ok h0 (subL ys s xs.length) (by omega) _).1, thr_len h0 _ _ (Nat.le_refl _)⟩
theorem pad_elems {p : Int} (hp : IsMod p) {m : List Int} (h : elemsF p m = true) (j : Nat) : elemsF p (m ++ List.replicate j 0) = true :=
  elems_of (fun i _ => by rw [rep_getD]; exact el_get hp h i)
end Go.SF
