/- What is owed of the code of words of a code. No condition. -/
import Derived.Test.YtmnndbfmeppaeaaSxPDecB
namespace Go.SF
open Go.SX Go
set_option linter.unusedVariables false
set_option linter.unusedSimpArgs false
set_option maxRecDepth 10000
theorem dif_go {a b : List Int} {x : Nat} (hb : max a.length b.length ≤ 4096) (hn : ¬ (x < a.length ∧ x < b.length ∧ a.getD x 0 = b.getD x 0)) (hlt : x < max a.length b.length) : ∃ x', x' ≤ max a.length b.length ∧ max a.length b.length - x' < max a.length b.length - x ∧ IntKind.i64.wrap (((difX a b x : Nat) : Int) + 1) = ((difX a b x' : Nat) : Int) ∧ IntKind.i64.wrap ((x : Int) + 1) = (x' : Int) := by
  have hd := dif_le a b x
  exact ⟨x + 1, by omega, by omega, by rw [dif_more hn]; exact wrap_succ (by omega), wrap_succ (by omega)⟩
theorem find_inv {h : Nat → Bool} {s : Nat} : ∀ n, findF h n = some s → h s = true ∧ s < n
  | 0, e => by cases e
  | n + 1, e => by
    unfold findF at e
    split at e
    · rename_i s' h1
      injection e with e
      subst e
      have := find_inv n h1
      exact ⟨this.1, by omega⟩
    · split at e
      · rename_i h2
        injection e with e
        subst e
        exact ⟨h2, by omega⟩
      · cases e
theorem dec_inv {f : Int} {xs ys : List Int} {k : Int} (h : (decF f xs ys k).2.2 = true) : codeB f xs k = true ∧ ys.length = xs.length ∧ specElemsF f ys = true ∧ ∃ s, s < 2 ^ xs.length ∧ hitB (modF f) xs ys k.toNat s = true ∧ decF f xs ys k = (padF (msgF (modF f) xs ys s) k.toNat, ((errF (modF f) xs ys s : Nat) : Int), true) := by
  by_cases hc : (codeB f xs k && decide (ys.length = xs.length) && specElemsF f ys) = true
  · have hc' := hc
    simp only [Bool.and_eq_true, decide_eq_true_eq] at hc'
    refine ⟨hc'.1.1, hc'.1.2, hc'.2, ?_⟩
    have he := dec_yes hc'.1.1 hc'.1.2 hc'.2
    rw [he] at h ⊢
    cases hf : findF (hitB (modF f) xs ys k.toNat) (2 ^ xs.length) with
    | none => rw [hf] at h; cases h
    | some s =>
      have := find_inv _ hf
      exact ⟨s, this.2, this.1, rfl⟩
  · rw [← dec_no (by simpa using hc)] at h
    cases h
theorem dec_msg {f : Int} {xs ys : List Int} {k : Int} (h : (decF f xs ys k).2.2 = true) : codeB f xs k = true ∧ ys.length = xs.length ∧ specElemsF f ys = true ∧ elemsF (modF f) (decF f xs ys k).1 = true ∧ encS f xs (decF f xs ys k).1 = evM (modF f) (decF f xs ys k).1 xs xs.length := by
  obtain ⟨h1, h2, h3, s, h4, h5, h6⟩ := dec_inv h
  obtain ⟨hpt, hl, hk1, hk2⟩ := code_ok h1
  obtain ⟨hm, _, _, _, _⟩ := pt_ok hpt
  have h0 := (mod_pr hm).mod
  obtain ⟨m1, m2⟩ := msg_ok hpt h2 s
  unfold hitB at h5
  rw [Bool.and_eq_true, decide_eq_true_eq] at h5
  have he : elemsF (modF f) (padF (msgF (modF f) xs ys s) k.toNat) = true := pad_elems h0 m1 _
  have hlen : ((padF (msgF (modF f) xs ys s) k.toNat).length : Int) = k := by
    unfold padF
    rw [List.length_append, List.length_replicate]
    omega
  rw [h6]
  refine ⟨h1, h2, h3, he, ?_⟩
  unfold encS
  rw [hlen, h1, spec_of hm he]
  exact evM_ext h0 (fun t => trim_getD _ t) _ _
theorem blm_more {w ys : List Int} {n : Nat} (h : ¬ w.getD n 0 = ys.getD n 0) : blmL w ys n ++ [(n : Int)] = blmL w ys (n + 1) := by
  show _ = if _ then _ else _
  rw [if_neg h]
theorem blm_same {w ys : List Int} {n : Nat} (h : w.getD n 0 = ys.getD n 0) : blmL w ys n = blmL w ys (n + 1) := by
  show _ = if _ then _ else _
  rw [if_pos h]
theorem blm_len (w ys : List Int) : ∀ n, (blmL w ys n).length ≤ n
  | 0 => Nat.le_refl _
  | n + 1 => by
    have := blm_len w ys n
    unfold blmL
    split
    · omega
    · rw [List.length_append]; simp only [List.length_cons, List.length_nil]; omega
theorem gap_no {f : Int} {xs ys : List Int} {k : Int} {gone : List Int} (h : (codeB f xs k && decide (ys.length = xs.length) && decide (GonJ xs.length gone gone.length)) = false) : ([], 0, false) = gapF f xs ys k gone := by unfold gapF; rw [h]; rfl
theorem gap_yes {f : Int} {xs ys : List Int} {k : Int} {gone : List Int} (h1 : codeB f xs k = true) (h2 : ys.length = xs.length) (h3 : GonJ xs.length gone gone.length) : gapF f xs ys k gone = decF f (dropL xs gone xs.length) (dropL ys gone xs.length) k := by
  unfold gapF
  rw [h1, decide_eq_true h2, decide_eq_true h3]; rfl
theorem gap_bad {f : Int} {xs ys : List Int} {k : Int} {gone : List Int} (h : ¬ GonJ xs.length gone gone.length) : ([], 0, false) = gapF f xs ys k gone := gap_no (by rw [decide_eq_false h, Bool.and_false])
theorem gon_mono {n : Nat} {gone : List Int} {a b : Nat} (h : GonJ n gone b) (hab : a ≤ b) : GonJ n gone a := fun i hi => h i (by omega)
theorem gon_succ {n : Nat} {gone : List Int} {x : Nat} (h : GonJ n gone x) (h1 : 0 ≤ gone.getD x 0) (h2 : gone.getD x 0 < n) (h3 : 0 < x → gone.getD (x - 1) 0 < gone.getD x 0) : GonJ n gone (x + 1) := by
  intro i hi
  by_cases e : i = x
  · subst e; exact ⟨h1, h2, h3⟩
  · exact h i (by omega)
theorem gon_ge {n : Nat} {gone : List Int} {k : Nat} (h : GonJ n gone k) : ∀ i, i < k → (i : Int) ≤ gone.getD i 0
  | 0, hi => (h 0 hi).1
  | i + 1, hi => by
    have h1 := gon_ge h i (by omega)
    have h2 := (h (i + 1) hi).2.2 (by omega)
    rw [Nat.add_sub_cancel] at h2
    omega
theorem gon_len {n : Nat} {gone : List Int} {k : Nat} (h : GonJ n gone k) : k ≤ n := by
  match k, h with
  | 0, _ => exact Nat.zero_le _
  | k + 1, h =>
    have h1 := gon_ge h k (by omega)
    have h2 := (h k (by omega)).2.1
    omega
theorem gon_last {n : Nat} {gone : List Int} {k : Nat} (h : GonJ n gone k) : ∀ j, j < k → ∀ i, i ≤ j → gone.getD i 0 ≤ gone.getD j 0
  | 0, hj, i, hi => by
    obtain rfl : i = 0 := by omega
    exact Int.le_refl _
  | j + 1, hj, i, hi => by
    by_cases e : i = j + 1
    · rw [e]; exact Int.le_refl _
    · have h1 := gon_last h j (by omega) i (by omega)
      have h2 := (h (j + 1) hj).2.2 (by omega)
      rw [Nat.add_sub_cancel] at h2
      omega
theorem fr_ok {n : Nat} {gone : List Int} {x : Nat} (h : GonJ n gone x) (hx : x ≤ gone.length) : frG gone x ≤ n ∧ ∀ t : Nat, frG gone x ≤ t → (t : Int) ∉ gone.take x := by
  unfold frG
  by_cases e : x = 0
  · subst e
    exact ⟨Nat.zero_le _, fun t _ hm => by simp at hm⟩
  · rw [if_neg e]
    have h1 := h (x - 1) (by omega)
    refine ⟨by omega, fun t ht hm => ?_⟩
    obtain ⟨i, hi, he⟩ := List.getElem_of_mem hm
    rw [List.length_take] at hi
    have h2 := gon_last h (x - 1) (by omega) i (by omega)
    have h3 : gone.getD i 0 = (t : Int) := by
      rw [← he, List.getElem_take, List.getD_eq_getElem?_getD, List.getElem?_eq_getElem (by omega)]; rfl
    omega
theorem drop_in {l gone : List Int} {n : Nat} (h : (n : Int) ∈ gone) : dropL l gone (n + 1) = dropL l gone n := by
  show (if _ then _ else _) = _
  rw [if_pos h]
theorem drop_out {l gone : List Int} {n : Nat} (h : (n : Int) ∉ gone) : dropL l gone (n + 1) = dropL l gone n ++ [l.getD n 0] := by
  show (if _ then _ else _) = _
  rw [if_neg h]
theorem drop_seg {l gone : List Int} {a : Nat} : ∀ b, a ≤ b → b ≤ l.length → (∀ t : Nat, a ≤ t → t < b → (t : Int) ∉ gone) → dropL l gone b = dropL l gone a ++ List.drop a (List.take b l)
  | 0, h1, _, _ => by
    obtain rfl : a = 0 := by omega
    simp [dropL]
  | b + 1, h1, h2, h3 => by
    by_cases e : a = b + 1
    · subst e
      rw [List.drop_eq_nil_of_le (by rw [List.length_take]; omega), List.append_nil]
    · have h4 := drop_seg (l := l) b (by omega) (by omega) (fun t ht1 ht2 => h3 t ht1 (by omega))
      rw [drop_out (h3 b (by omega) (by omega)), h4, ← tk_succ (z := (0 : Int)) (show b < l.length by omega), List.drop_append_of_le_length (by rw [List.length_take]; omega), List.append_assoc]
theorem drop_congr {l g h : List Int} : ∀ n, (∀ t : Nat, t < n → ((t : Int) ∈ g ↔ (t : Int) ∈ h)) → dropL l g n = dropL l h n
  | 0, _ => rfl
  | n + 1, e => by
    have h1 := drop_congr (l := l) n (fun t ht => e t (by omega))
    by_cases hm : (n : Int) ∈ g
    · rw [drop_in hm, drop_in ((e n (by omega)).1 hm), h1]
    · rw [drop_out hm, drop_out (fun hh => hm ((e n (by omega)).2 hh)), h1]
theorem drop_len (l gone : List Int) : ∀ n, (dropL l gone n).length ≤ n
  | 0 => Nat.le_refl _
  | n + 1 => by
    have := drop_len l gone n
    unfold dropL
    split
    · omega
    · rw [List.length_append]; simp only [List.length_cons, List.length_nil]; omega
theorem drop_step {l gone : List Int} {n x g : Nat} (hJ : GonJ n gone x) (hx : x < gone.length) (hg : gone.getD x 0 = (g : Int)) (h1 : frG gone x ≤ g) (h2 : g < n) (hl : l.length = n) : dropL l (gone.take x) (frG gone x) ++ List.drop (frG gone x) (List.take g l) = dropL l (gone.take (x + 1)) (g + 1) := by
  have hfr := fr_ok hJ (by omega)
  have hmem : (g : Int) ∈ gone.take (x + 1) := by rw [← hg]; exact mem_getD_take (by omega) (by omega)
  rw [drop_in hmem, ← drop_seg g h1 (by omega) (fun t ht1 _ => hfr.2 t ht1)]
  refine drop_congr g (fun t ht => ?_)
  rw [← tk_succ (z := (0 : Int)) hx, List.mem_append, List.mem_singleton, hg]
  exact ⟨.inl, fun h => h.elim id (fun e => absurd e (by omega))⟩
end Go.SF
