/- Words with errors: what is near enough to a word of the code is decoded. No condition. -/
import Derived.Test.YtmnndbfmeppaeaaSxPWord
import Derived.Test.YtmnndbfmeppaeaaSxPDecC
import Derived.Test.YtmnndbfmeppaeaaSxPDraw
namespace Go.SF
open Go.SX Go
set_option linter.unusedVariables false
set_option linter.unusedSimpArgs false
set_option maxRecDepth 10000
/-- Do two lists agree at a place? -/
def AgP (a b : List Int) (n : Nat) : Prop := n < a.length ∧ n < b.length ∧ a.getD n 0 = b.getD n 0
instance (a b : List Int) (n : Nat) : Decidable (AgP a b n) := by unfold AgP; infer_instance
theorem dif_succ (a b : List Int) (n : Nat) : difX a b (n + 1) = if AgP a b n then difX a b n else difX a b n + 1 := rfl
theorem ag_symm {a b : List Int} {n : Nat} (h : AgP a b n) : AgP b a n := ⟨h.2.1, h.1, h.2.2.symm⟩
theorem ag_trans {a b c : List Int} {n : Nat} (h : AgP a b n) (k : AgP b c n) : AgP a c n := ⟨h.1, k.2.1, h.2.2.trans k.2.2⟩
theorem dif_symm (a b : List Int) : ∀ n, difX a b n = difX b a n
  | 0 => rfl
  | n + 1 => by
    rw [dif_succ, dif_succ, dif_symm a b n]
    by_cases h : AgP a b n
    · rw [if_pos h, if_pos (ag_symm h)]
    · rw [if_neg h, if_neg (fun k => h (ag_symm k))]
theorem dif_tri (a b c : List Int) : ∀ n, difX a c n ≤ difX a b n + difX b c n
  | 0 => Nat.le_refl _
  | n + 1 => by
    have ih := dif_tri a b c n
    rw [dif_succ, dif_succ, dif_succ]
    by_cases h1 : AgP a b n
    · by_cases h2 : AgP b c n
      · rw [if_pos h1, if_pos h2, if_pos (ag_trans h1 h2)]; exact ih
      · rw [if_pos h1, if_neg h2]; split <;> omega
    · rw [if_neg h1]; split <;> split <;> omega
/-- Of a list what lies where two others agree. -/
def agL (a b l : List Int) : Nat → List Int
  | 0 => []
  | n + 1 => if AgP a b n then agL a b l n ++ [l.getD n 0] else agL a b l n
theorem ag_len (a b l : List Int) : ∀ n, (agL a b l n).length + difX a b n = n
  | 0 => rfl
  | n + 1 => by
    have ih := ag_len a b l n
    rw [dif_succ]
    unfold agL
    by_cases h : AgP a b n
    · rw [if_pos h, if_pos h, List.length_append]; simp only [List.length_cons, List.length_nil]; omega
    · rw [if_neg h, if_neg h]; omega
theorem ag_sub {a b l : List Int} : ∀ n, n ≤ l.length → (agL a b l n).Sublist (l.take n)
  | 0, _ => List.Sublist.refl _
  | n + 1, h => by
    have ih := ag_sub (a := a) (b := b) (l := l) n (by omega)
    unfold agL
    rw [← tk_succ (z := (0 : Int)) (show n < l.length by omega)]
    split
    · exact ih.append (List.Sublist.refl _)
    · exact ih.trans (List.sublist_append_left _ _)
theorem ag_mem {a b l : List Int} : ∀ n, ∀ x ∈ agL a b l n, ∃ t, t < n ∧ AgP a b t ∧ x = l.getD t 0
  | 0, x, h => by cases h
  | n + 1, x, h => by
    unfold agL at h
    split at h
    · rename_i hag
      rcases List.mem_append.1 h with h | h
      · obtain ⟨t, h1, h2⟩ := ag_mem n x h; exact ⟨t, by omega, h2⟩
      · exact ⟨n, by omega, hag, List.mem_singleton.1 h⟩
    · obtain ⟨t, h1, h2⟩ := ag_mem n x h; exact ⟨t, by omega, h2⟩
theorem evM_get {p : Int} {a xs : List Int} {n t : Nat} (h : t < n) : (evM p a xs n).getD t 0 = evP p a (xs.getD t 0) := by
  unfold evM; rw [mr_get, if_pos h]
/-- Two short polynomials whose values differ at few points are the same. -/
theorem near_same {p : Int} (hp : IsPr p) {a b xs : List Int} {k : Nat} (ha : a.length ≤ k) (hb : b.length ≤ k) (hex : elemsF p xs = true) (hnd : xs.Nodup) (hea : elemsF p a = true) (heb : elemsF p b = true)
    (h : difX (evM p a xs xs.length) (evM p b xs xs.length) xs.length + k ≤ xs.length) : ∀ t, a.getD t 0 = b.getD t 0 := by
  have hl := ag_len (evM p a xs xs.length) (evM p b xs xs.length) xs xs.length
  generalize hL : agL (evM p a xs xs.length) (evM p b xs xs.length) xs xs.length = L at hl
  have hsub : L.Sublist xs := by
    have := ag_sub (a := evM p a xs xs.length) (b := evM p b xs xs.length) (l := xs) xs.length (Nat.le_refl _)
    rw [List.take_length, hL] at this
    exact this
  have hsk : (L.take k).Sublist xs := (List.take_sublist k L).trans hsub
  refine same_poly hp (n := k) (xs := L.take k) ha hb (by rw [List.length_take]; omega) (sublist_elems hsk hex) (hnd.sublist hsk) hea heb (fun j hj => ?_)
  have hlt : j < (L.take k).length := by rw [List.length_take]; omega
  have hm : (L.take k).getD j 0 ∈ L := List.mem_of_mem_take (mem_getD hlt)
  rw [← hL] at hm
  obtain ⟨t, t1, t2, t3⟩ := ag_mem xs.length _ hm
  rw [hL] at t3
  rw [t3]
  have := t2.2.2
  rw [evM_get t1, evM_get t1] at this
  exact this
/-! ### A choice of places -/
def pkC (g : Nat → Bool) (k : Nat) : Nat → Nat
  | 0 => 0
  | n + 1 => if g n = true ∧ pkC g k n < k then pkC g k n + 1 else pkC g k n
theorem pkC_succ (g : Nat → Bool) (k n : Nat) : pkC g k (n + 1) = if g n = true ∧ pkC g k n < k then pkC g k n + 1 else pkC g k n := rfl
def pkS (g : Nat → Bool) (k : Nat) : Nat → Nat
  | 0 => 0
  | n + 1 => if g n = true ∧ pkC g k n < k then pkS g k n + 2 ^ n else pkS g k n
theorem pkS_lt (g : Nat → Bool) (k : Nat) : ∀ n, pkS g k n < 2 ^ n
  | 0 => by show 0 < 1; decide
  | n + 1 => by
    have := pkS_lt g k n
    unfold pkS
    rw [Nat.pow_succ]
    split <;> omega
theorem bit_low {s n i c : Nat} (hi : i < n) : (s + 2 ^ n * c) / 2 ^ i % 2 = s / 2 ^ i % 2 := by
  obtain ⟨d, rfl⟩ : ∃ d, n = i + 1 + d := ⟨n - i - 1, by omega⟩
  have e : 2 ^ (i + 1 + d) * c = 2 ^ i * (2 * (2 ^ d * c)) := by rw [Nat.pow_add, Nat.pow_succ]; grind
  rw [e, Nat.add_mul_div_left _ _ (Nat.two_pow_pos i), Nat.add_mul_mod_self_left]
theorem bit_top {s n : Nat} (h : s < 2 ^ n) (c : Nat) : (s + 2 ^ n * c) / 2 ^ n % 2 = c % 2 := by
  rw [Nat.add_mul_div_left _ _ (Nat.two_pow_pos n), Nat.div_eq_of_lt h, Nat.zero_add]
theorem sub_low (l : List Int) (s n c : Nat) : ∀ i, i ≤ n → subL l (s + 2 ^ n * c) i = subL l s i
  | 0, _ => rfl
  | i + 1, h => by
    show (if (s + 2 ^ n * c) / 2 ^ i % 2 = 1 then _ else _) = (if s / 2 ^ i % 2 = 1 then _ else _)
    rw [bit_low (by omega), sub_low l s n c i (by omega)]
theorem sub_pk (g : Nat → Bool) (k : Nat) (l : List Int) (n : Nat) : subL l (pkS g k (n + 1)) (n + 1) = if g n = true ∧ pkC g k n < k then subL l (pkS g k n) n ++ [l.getD n 0] else subL l (pkS g k n) n := by
  have hlt := pkS_lt g k n
  show (if pkS g k (n + 1) / 2 ^ n % 2 = 1 then subL l (pkS g k (n + 1)) n ++ [l.getD n 0] else subL l (pkS g k (n + 1)) n) = _
  by_cases h : g n = true ∧ pkC g k n < k
  · have e : pkS g k (n + 1) = pkS g k n + 2 ^ n * 1 := by show (if _ then _ else _) = _; rw [if_pos h, Nat.mul_one]
    rw [e, bit_top hlt, sub_low l _ n 1 n (Nat.le_refl _), if_pos h]
    rfl
  · have e : pkS g k (n + 1) = pkS g k n := by show (if _ then _ else _) = _; rw [if_neg h]
    rw [e, if_neg h, Nat.div_eq_of_lt hlt]
    rfl
theorem pk_len (g : Nat → Bool) (k : Nat) (l : List Int) : ∀ n, (subL l (pkS g k n) n).length = pkC g k n
  | 0 => rfl
  | n + 1 => by
    rw [sub_pk, pkC_succ]
    split
    · rw [List.length_append, pk_len g k l n]; rfl
    · exact pk_len g k l n
theorem pk_get (g : Nat → Bool) (k : Nat) (a b : List Int) : ∀ n, ∀ j, j < pkC g k n → ∃ t, t < n ∧ g t = true ∧ (subL a (pkS g k n) n).getD j 0 = a.getD t 0 ∧ (subL b (pkS g k n) n).getD j 0 = b.getD t 0
  | 0, j, h => by cases h
  | n + 1, j, h => by
    rw [sub_pk, sub_pk]
    rw [pkC_succ] at h
    by_cases hc : g n = true ∧ pkC g k n < k
    · rw [if_pos hc] at h ⊢
      rw [if_pos hc]
      by_cases hj : j < pkC g k n
      · obtain ⟨t, h1, h2, h3, h4⟩ := pk_get g k a b n j hj
        have la := pk_len g k a n
        have lb := pk_len g k b n
        refine ⟨t, by omega, h2, ?_, ?_⟩
        · rw [List.getD_eq_getElem?_getD, List.getElem?_append_left (by omega), ← List.getD_eq_getElem?_getD]; exact h3
        · rw [List.getD_eq_getElem?_getD, List.getElem?_append_left (by omega), ← List.getD_eq_getElem?_getD]; exact h4
      · have hj' : j = pkC g k n := by omega
        have la := pk_len g k a n
        have lb := pk_len g k b n
        refine ⟨n, by omega, hc.1, ?_, ?_⟩
        · rw [List.getD_eq_getElem?_getD, List.getElem?_append_right (by omega), la, hj', Nat.sub_self]; rfl
        · rw [List.getD_eq_getElem?_getD, List.getElem?_append_right (by omega), lb, hj', Nat.sub_self]; rfl
    · rw [if_neg hc] at h ⊢
      rw [if_neg hc]
      obtain ⟨t, h1, h2⟩ := pk_get g k a b n j h
      exact ⟨t, by omega, h2⟩
theorem pk_count (a b : List Int) (k : Nat) : ∀ n, pkC (fun t => decide (AgP a b t)) k n = min k (n - difX a b n)
  | 0 => by show 0 = _; omega
  | n + 1 => by
    have ih := pk_count a b k n
    have hd := dif_le a b n
    rw [pkC_succ, ih, dif_succ]
    by_cases h : AgP a b n
    · rw [if_pos h]
      by_cases h2 : min k (n - difX a b n) < k
      · rw [if_pos ⟨decide_eq_true h, h2⟩]; omega
      · rw [if_neg (fun hh => h2 hh.2)]; omega
    · rw [if_neg h, if_neg (fun hh => h (of_decide_eq_true hh.1))]; omega
theorem find_some_of {h : Nat → Bool} {s : Nat} (hs : h s = true) : ∀ n, s < n → ∃ s0, findF h n = some s0
  | n + 1, hn => by
    unfold findF
    cases hf : findF h n with
    | some s0 => exact ⟨s0, rfl⟩
    | none =>
      by_cases e : s = n
      · subst e; exact ⟨s, by rw [if_pos hs]⟩
      · obtain ⟨s0, h0⟩ := find_some_of hs n (by omega)
        rw [hf] at h0; cases h0
theorem pad_self {m a : List Int} (hl : a.length ≤ m.length) (h : ∀ t, a.getD t 0 = m.getD t 0) : padF a m.length = m := by
  unfold padF
  refine list_ext (by simp; omega) (fun t _ => ?_)
  rw [rep_getD]; exact h t
/-- WHAT IS NEAR ENOUGH IS DECODED. -/
theorem dec_near {f : Int} {xs ys m : List Int} (hc : codeB f xs m.length = true) (hm : specElemsF f m = true) (hl : ys.length = xs.length) (hy : specElemsF f ys = true)
    (he : difX (evM (modF f) m xs xs.length) ys xs.length ≤ (xs.length - m.length) / 2) :
    decF f xs ys m.length = (m, ((difX (evM (modF f) m xs xs.length) ys xs.length : Nat) : Int), true) := by
  obtain ⟨hpt, hn10, hk1, hk2⟩ := code_ok hc
  obtain ⟨hmod, hx1, hx2, hex, hnd⟩ := pt_ok hpt
  have hpr := mod_pr hmod
  have hme := (spec_el hm).2
  have hye := (spec_el hy).2
  generalize hpp : modF f = p at *
  have hkn : m.length ≤ xs.length := by omega
  rw [dec_yes hc hl hy, hpp, show ((m.length : Int)).toNat = m.length by omega]
  -- a choice that hits
  have hcnt := pk_count (evM p m xs xs.length) ys m.length xs.length
  have hpc : pkC (fun t => decide (AgP (evM p m xs xs.length) ys t)) m.length xs.length = m.length := by rw [hcnt]; omega
  generalize hS : pkS (fun t => decide (AgP (evM p m xs xs.length) ys t)) m.length xs.length = S at *
  have hSlt : S < 2 ^ xs.length := by rw [← hS]; exact pkS_lt _ _ _
  have hlenX : (subL xs S xs.length).length = m.length := by rw [← hS, pk_len, hpc]
  have hlenY : (subL ys S xs.length).length = m.length := by rw [← hS, pk_len, hpc]
  have key : ∀ s, (subL xs s xs.length).length = m.length → elemsF p (msgF p xs ys s) = true ∧ (msgF p xs ys s).length ≤ m.length := fun s hs => by
    have h1 := msg_ok hpt hl s
    rw [hpp, hs] at h1
    exact h1
  have hmsg : ∀ t, (msgF p xs ys S).getD t 0 = m.getD t 0 := by
    have hsubl := sub_all (xs := xs) S
    have hptS : pointsF f (subL xs S xs.length) = true := sub_pt hpt (by omega)
    obtain ⟨_, _, _, heS, hnS⟩ := pt_ok hptS
    rw [hpp] at heS
    have hyS : elemsF p (subL ys S xs.length) = true := by
      have : (subL ys S ys.length).Sublist ys := sub_all S
      rw [hl] at this
      exact sublist_elems this hye
    refine same_poly hpr (n := m.length) (xs := subL xs S xs.length) (key S hlenX).2 (Nat.le_refl _) hlenX heS hnS (key S hlenX).1 hme (fun j hj => ?_)
    have hj1 : j < (subL xs S xs.length).length := by omega
    have e1 : evP p (msgF p xs ys S) ((subL xs S xs.length).getD j 0) = (subL ys S xs.length).getD j 0 := thr_at hpr heS hnS hyS (by omega) hj1
    rw [e1]
    obtain ⟨t, t1, t2, t3, t4⟩ := pk_get (fun t => decide (AgP (evM p m xs xs.length) ys t)) m.length xs ys xs.length j (by rw [hpc]; exact hj)
    rw [hS] at t3 t4
    rw [t3, t4]
    have := (of_decide_eq_true t2).2.2
    rw [evM_get t1] at this
    exact this.symm
  have herr : errF p xs ys S = difX (evM p m xs xs.length) ys xs.length := by
    unfold errF; rw [evM_ext hpr.mod hmsg]
  have hhit : hitB p xs ys m.length S = true := by
    unfold hitB
    rw [hlenX, herr, decide_eq_true rfl, decide_eq_true he]; rfl
  obtain ⟨s0, hs0⟩ := find_some_of hhit (2 ^ xs.length) hSlt
  obtain ⟨h0, _⟩ := find_inv _ hs0
  rw [hs0]
  unfold hitB at h0
  rw [Bool.and_eq_true, decide_eq_true_eq, decide_eq_true_eq] at h0
  obtain ⟨h01, h02⟩ := h0
  have hmsg0 : ∀ t, (msgF p xs ys s0).getD t 0 = m.getD t 0 := by
    refine near_same hpr (k := m.length) (key s0 h01).2 (Nat.le_refl _) hex hnd (key s0 h01).1 hme ?_
    have tri := dif_tri (evM p (msgF p xs ys s0) xs xs.length) ys (evM p m xs xs.length) xs.length
    rw [dif_symm ys] at tri
    unfold errF at h02
    omega
  unfold decR
  have e0 : errF p xs ys s0 = difX (evM p m xs xs.length) ys xs.length := by unfold errF; rw [evM_ext hpr.mod hmsg0]
  simp only
  rw [e0, pad_self (key s0 h01).2 hmsg0]
/-! ### Chosen places -/
theorem fl_mem (g : Nat → Bool) (t : Nat) : ∀ n, ((t : Int) ∈ flL g n) ↔ t < n ∧ g t = true
  | 0 => ⟨fun h => (by cases h), fun h => absurd h.1 (by omega)⟩
  | n + 1 => by
    have ih := fl_mem g t n
    unfold flL
    split
    · rename_i hg
      rw [List.mem_append, List.mem_singleton, ih]
      constructor
      · rintro (h | h)
        · exact ⟨by omega, h.2⟩
        · have : t = n := by omega
          subst this; exact ⟨by omega, hg⟩
      · intro h
        by_cases e : t = n
        · right; omega
        · exact .inl ⟨by omega, h.2⟩
    · rename_i hg
      rw [ih]
      constructor
      · intro h; exact ⟨by omega, h.2⟩
      · intro h
        refine ⟨?_, h.2⟩
        by_cases e : t = n
        · subst e; exact absurd h.2 hg
        · omega
theorem fl_succ (g : Nat → Bool) (n : Nat) : flL g (n + 1) = if g n = true then flL g n ++ [(n : Int)] else flL g n := rfl
theorem fl_le (g : Nat → Bool) : ∀ n, (flL g n).length ≤ n
  | 0 => Nat.le_refl _
  | n + 1 => by
    have := fl_le g n
    rw [fl_succ]
    split
    · simp; omega
    · omega
theorem fl_gon (g : Nat → Bool) : ∀ n, ∀ i, i < (flL g n).length → 0 ≤ (flL g n).getD i 0 ∧ (flL g n).getD i 0 < n ∧ (0 < i → (flL g n).getD (i - 1) 0 < (flL g n).getD i 0)
  | 0, i, h => by cases h
  | n + 1, i, h => by
    rw [fl_succ] at h ⊢
    by_cases hg : g n = true
    · rw [if_pos hg] at h ⊢
      rw [List.length_append] at h
      simp only [List.length_cons, List.length_nil] at h
      by_cases hi : i < (flL g n).length
      · have ih := fl_gon g n i hi
        have e : ∀ j, j < (flL g n).length → (flL g n ++ [(n : Int)]).getD j 0 = (flL g n).getD j 0 := fun j hj => by
          rw [List.getD_eq_getElem?_getD, List.getElem?_append_left hj, ← List.getD_eq_getElem?_getD]
        rw [e i hi]
        exact ⟨ih.1, by omega, fun h0 => by rw [e (i - 1) (by omega)]; exact ih.2.2 h0⟩
      · have hi' : i = (flL g n).length := by omega
        have e : (flL g n ++ [(n : Int)]).getD i 0 = n := by
          rw [List.getD_eq_getElem?_getD, List.getElem?_append_right (by omega), hi', Nat.sub_self]; rfl
        rw [e]
        refine ⟨by omega, by omega, fun h0 => ?_⟩
        rw [List.getD_eq_getElem?_getD, List.getElem?_append_left (by omega), ← List.getD_eq_getElem?_getD]
        exact (fl_gon g n (i - 1) (by omega)).2.1
    · rw [if_neg hg] at h ⊢
      obtain ⟨h1, h2, h3⟩ := fl_gon g n i h
      exact ⟨h1, by omega, h3⟩
theorem ch_succ (g : Nat → Bool) (v : Nat → Int) (w : List Int) (n : Nat) : chW g v w (n + 1) = if g n = true then (chW g v w n).set n (v n) else chW g v w n := rfl
theorem ch_len (g : Nat → Bool) (v : Nat → Int) (w : List Int) : ∀ n, (chW g v w n).length = w.length
  | 0 => rfl
  | n + 1 => by
    rw [ch_succ]
    split
    · rw [List.length_set]; exact ch_len g v w n
    · exact ch_len g v w n
theorem ch_get (g : Nat → Bool) (v : Nat → Int) (w : List Int) (t : Nat) (ht : t < w.length) : ∀ n, (chW g v w n).getD t 0 = if t < n ∧ g t = true then v t else w.getD t 0
  | 0 => by rw [if_neg (by omega)]; rfl
  | n + 1 => by
    have ih := ch_get g v w t ht n
    have hl := ch_len g v w n
    rw [ch_succ]
    by_cases hg : g n = true
    · rw [if_pos hg]
      by_cases e : t = n
      · subst e
        rw [if_pos ⟨by omega, hg⟩, getD_setI (by omega), if_pos rfl]
      · rw [List.getD_eq_getElem?_getD, List.getElem?_set_ne (fun h => e h.symm), ← List.getD_eq_getElem?_getD, ih]
        by_cases h : t < n ∧ g t = true
        · rw [if_pos h, if_pos ⟨by omega, h.2⟩]
        · rw [if_neg h, if_neg (fun hh => h ⟨by omega, hh.2⟩)]
    · rw [if_neg hg, ih]
      by_cases h : t < n ∧ g t = true
      · rw [if_pos h, if_pos ⟨by omega, h.2⟩]
      · rw [if_neg h, if_neg (fun hh => h ⟨by
          by_cases e : t = n
          · subst e; exact absurd hh.2 hg
          · omega, hh.2⟩)]
theorem dif_self {a : List Int} : ∀ n, n ≤ a.length → difX a a n = 0
  | 0, _ => rfl
  | n + 1, h => by rw [dif_succ, if_pos ⟨by omega, by omega, rfl⟩]; exact dif_self n (by omega)
theorem evM_map (p : Int) (a l : List Int) : evM p a l l.length = l.map (evP p a) := by
  refine list_ext (by rw [evM_len, List.length_map]) (fun t ht => ?_)
  rw [evM_len] at ht
  rw [evM_get ht, List.getD_eq_getElem?_getD, List.getD_eq_getElem?_getD, List.getElem?_map, List.getElem?_eq_getElem ht]
  rfl
theorem drop_succ (l gone : List Int) (n : Nat) : dropL l gone (n + 1) = if (n : Int) ∈ gone then dropL l gone n else dropL l gone n ++ [l.getD n 0] := rfl
theorem drop_eq {a b gone : List Int} : ∀ n, (∀ t : Nat, t < n → (t : Int) ∉ gone → a.getD t 0 = b.getD t 0) → dropL a gone n = dropL b gone n
  | 0, _ => rfl
  | n + 1, h => by
    rw [drop_succ, drop_succ, drop_eq n (fun t ht hg => h t (by omega) hg)]
    split
    · rfl
    · rename_i hg; rw [h n (by omega) hg]
theorem drop_map {l gone : List Int} (h : Int → Int) : ∀ n, n ≤ l.length → dropL (l.map h) gone n = (dropL l gone n).map h
  | 0, _ => rfl
  | n + 1, hn => by
    rw [drop_succ, drop_succ, drop_map h n (by omega)]
    split
    · rfl
    · rw [List.map_append, List.getD_eq_getElem?_getD, List.getElem?_map, List.getElem?_eq_getElem (by omega)]
      rw [List.getD_eq_getElem?_getD, List.getElem?_eq_getElem (show n < l.length by omega)]
      rfl
theorem drop_sub {l gone : List Int} : ∀ n, n ≤ l.length → (dropL l gone n).Sublist (l.take n)
  | 0, _ => List.Sublist.refl _
  | n + 1, h => by
    have ih := drop_sub (l := l) (gone := gone) n (by omega)
    rw [drop_succ, ← tk_succ (z := (0 : Int)) (show n < l.length by omega)]
    split
    · exact ih.trans (List.sublist_append_left _ _)
    · exact ih.append (List.Sublist.refl _)
theorem drop_fl (l : List Int) (g : Nat → Bool) (K : Nat) : ∀ n, (dropL l (flL g K) n).length + (flL g (min n K)).length = n
  | 0 => by rw [Nat.zero_min]; rfl
  | n + 1 => by
    have ih := drop_fl l g K n
    rw [drop_succ]
    by_cases h : n < K
    · rw [show min (n + 1) K = n + 1 by omega, fl_succ]
      rw [show min n K = n by omega] at ih
      by_cases hg : g n = true
      · rw [if_pos ((fl_mem g n K).2 ⟨h, hg⟩), if_pos hg, List.length_append]
        simp only [List.length_cons, List.length_nil]; omega
      · rw [if_neg (fun hh => hg ((fl_mem g n K).1 hh).2), if_neg hg, List.length_append]
        simp only [List.length_cons, List.length_nil]; omega
    · rw [show min (n + 1) K = K by omega]
      rw [show min n K = K by omega] at ih
      rw [if_neg (fun hh => h ((fl_mem g n K).1 hh).1), List.length_append]
      simp only [List.length_cons, List.length_nil]; omega
theorem encS_yes {f : Int} {xs m : List Int} (h : (encS f xs m).length ≠ 0) : codeB f xs m.length = true ∧ specElemsF f m = true ∧ encS f xs m = evM (modF f) m xs xs.length := by
  unfold encS at h
  split at h
  · rename_i hc
    rw [Bool.and_eq_true] at hc
    have hm := (pt_ok (code_ok hc.1).1).1
    refine ⟨hc.1, hc.2, ?_⟩
    unfold encS
    rw [if_pos (by rw [hc.1, hc.2]; rfl)]
    exact evM_ext (mod_pr hm).mod (trim_getD m) xs xs.length
  · exact absurd rfl h
end Go.SF
