/- What is owed of the code of polynomials. No condition. -/
import Derived.Test.YtmnndbfmeppaeaaSxC
import Derived.Test.YtmnndbfmeppaeaaSxPPoint
namespace Go.SF
open Go.SX Go
set_option linter.unusedVariables false
set_option linter.unusedSimpArgs false
set_option maxRecDepth 10000
theorem mr_len {α : Type} (g : Nat → α) (n : Nat) : ((List.range n).map g).length = n := by rw [List.length_map, List.length_range]
theorem mr_get (g : Nat → Int) (n i : Nat) : ((List.range n).map g).getD i 0 = if i < n then g i else 0 := by
  rw [List.getD_eq_getElem?_getD, List.getElem?_map]
  by_cases h : i < n
  · rw [List.getElem?_range h, if_pos h]; rfl
  · rw [List.getElem?_eq_none (by rw [List.length_range]; omega), if_neg h]; rfl
theorem mr_succ {α : Type} (g : Nat → α) (n : Nat) : (List.range n).map g ++ [g n] = (List.range (n + 1)).map g := by rw [List.range_succ, List.map_append]; rfl
theorem mr_congr {α : Type} {g h : Nat → α} {n : Nat} (e : ∀ i, i < n → g i = h i) : (List.range n).map g = (List.range n).map h :=
  List.map_congr_left (fun i hi => e i (List.mem_range.1 hi))
theorem mr_set {α : Type} (g : Nat → α) (n i : Nat) (v : α) : ((List.range n).map g).set i v = (List.range n).map (fun t => if t = i then v else g t) := by
  apply List.ext_getElem?
  intro j
  simp only [List.getElem?_set, List.getElem?_map, List.length_map, List.length_range]
  by_cases h : i = j
  · subst h
    by_cases hn : i < n
    · simp [hn]
    · simp [hn]
  · by_cases hn : j < n
    · simp [h, hn, Ne.symm h]
    · simp [h, hn]
theorem mr_const {α : Type} (v : α) (n : Nat) : List.replicate n v = (List.range n).map (fun _ => v) := by rw [List.map_const', List.length_range]
theorem el_get {p : Int} (hp : IsMod p) {xs : List Int} (h : elemsF p xs = true) (i : Nat) : El p (xs.getD i 0) := by
  by_cases hi : i < xs.length
  · exact el_at h hi
  · rw [List.getD_eq_getElem?_getD, List.getElem?_eq_none (by omega)]
    exact el_zero hp
theorem elems_of {p : Int} {xs : List Int} (h : ∀ i, i < xs.length → El p (xs.getD i 0)) : elemsF p xs = true := by
  unfold elemsF
  rw [decide_eq_true_eq]
  intro x hx
  obtain ⟨i, hi, rfl⟩ := List.getElem_of_mem hx
  have := h i hi
  rw [List.getD_eq_getElem?_getD, List.getElem?_eq_getElem hi] at this
  unfold El at this
  simp only [Option.getD_some] at this
  omega
theorem elems_mr {p : Int} {g : Nat → Int} {n : Nat} (h : ∀ i, i < n → El p (g i)) : elemsF p ((List.range n).map g) = true := by
  refine elems_of (fun i hi => ?_)
  rw [mr_len] at hi
  rw [mr_get, if_pos hi]
  exact h i hi
theorem elems_take {p : Int} {xs : List Int} (h : elemsF p xs = true) (n : Nat) : elemsF p (xs.take n) = true := by
  unfold elemsF at *
  rw [decide_eq_true_eq] at *
  exact fun x hx => h x (List.mem_of_mem_take hx)
theorem spec_el {f : Int} {a : List Int} (h : specElemsF f a = true) : modF f ≠ 0 ∧ elemsF (modF f) a = true := by
  unfold specElemsF at h
  rw [Bool.and_eq_true, decide_eq_true_eq] at h
  exact h
theorem spec_of {f : Int} {a : List Int} (h : modF f ≠ 0) (h1 : elemsF (modF f) a = true) : specElemsF f a = true := by
  unfold specElemsF
  rw [Bool.and_eq_true, decide_eq_true_eq]
  exact ⟨h, h1⟩
theorem cutN_le (l : List Int) : ∀ n, cutN l n ≤ n
  | 0 => Nat.le_refl _
  | n + 1 => by
    unfold cutN
    split
    · have := cutN_le l n; omega
    · exact Nat.le_refl _
theorem cutF_le (l : List Int) : cutF l ≤ l.length := cutN_le l _
theorem cut_start (l : List Int) : CutJ l l.length := ⟨Nat.le_refl _, rfl⟩
theorem cut_step {l : List Int} {k : Nat} (h : CutJ l (k + 1)) (h0 : l.getD k 0 = 0) : CutJ l k := by
  refine ⟨by have := h.1; omega, ?_⟩
  have := h.2
  unfold cutN at this
  rwa [if_pos h0] at this
theorem cut_stop {l : List Int} {k : Nat} (h : CutJ l (k + 1)) (h0 : ¬ l.getD k 0 = 0) : k + 1 = cutF l := by
  have := h.2
  unfold cutN at this
  rwa [if_neg h0] at this
theorem cut_nil {l : List Int} (h : CutJ l 0) : 0 = cutF l := h.2
theorem trim_len (l : List Int) : (trimF l).length = cutF l := by
  unfold trimF
  rw [List.length_take, Nat.min_eq_left (cutF_le l)]
theorem top_iff (l : List Int) : topB l = true ↔ l.length = 0 ∨ l.getD (l.length - 1) 0 ≠ 0 := by
  unfold topB cutF
  rw [decide_eq_true_eq]
  match h : l.length with
  | 0 => exact ⟨fun _ => .inl rfl, fun _ => rfl⟩
  | n + 1 =>
    rw [Nat.add_sub_cancel]
    unfold cutN
    split
    · rename_i h0
      have := cutN_le l n
      exact ⟨fun e => by omega, fun e => e.elim (fun e => by omega) (fun e => absurd h0 e)⟩
    · rename_i h0
      exact ⟨fun _ => .inr h0, fun _ => rfl⟩
theorem poly_ok {f : Int} {a : List Int} (h : polyB f a = true) : modF f ≠ 0 ∧ elemsF (modF f) a = true ∧ a.length ≤ 400 ∧ topB a = true := by
  unfold polyB at h
  simp only [Bool.and_eq_true, decide_eq_true_eq] at h
  have := spec_el h.1.2
  exact ⟨this.1, this.2, h.1.1, h.2⟩
theorem poly_of {f : Int} {a : List Int} (h : modF f ≠ 0) (h1 : elemsF (modF f) a = true) (h2 : a.length ≤ 400) (h3 : topB a = true) : polyB f a = true := by
  unfold polyB
  simp only [Bool.and_eq_true, decide_eq_true_eq]
  exact ⟨⟨h2, spec_of h h1⟩, h3⟩
theorem at_nat (a : List Int) (x : Nat) : atF a (x : Int) = a.getD x 0 := by
  unfold atF
  rw [if_pos (by omega), Int.toNat_natCast]
theorem addLn_succ (p : Int) (a b : List Int) (n : Nat) : addLn p a b n ++ [addM p (a.getD n 0) (b.getD n 0)] = addLn p a b (n + 1) := mr_succ _ n
theorem addLn_len (p : Int) (a b : List Int) (n : Nat) : (addLn p a b n).length = n := mr_len _ n
theorem scLn_succ (p : Int) (a : List Int) (c : Int) (n : Nat) : scLn p a c n ++ [mulM p (a.getD n 0) c] = scLn p a c (n + 1) := mr_succ _ n
theorem scLn_len (p : Int) (a : List Int) (c : Int) (n : Nat) : (scLn p a c n).length = n := mr_len _ n
theorem mulLn_succ (p : Int) (a b : List Int) (n : Nat) : mulLn p a b n ++ [psum p a b n (min (n + 1) a.length)] = mulLn p a b (n + 1) := mr_succ (fun i => psum p a b i (min (i + 1) a.length)) n
theorem mulLn_len (p : Int) (a b : List Int) (n : Nat) : (mulLn p a b n).length = n := mr_len _ n
theorem el_psum {p : Int} (hp : IsMod p) (a b : List Int) (i : Nat) : ∀ j, El p (psum p a b i j)
  | 0 => el_zero hp
  | j + 1 => by
    unfold psum
    split
    · exact el_mod (by unfold IsMod at hp; omega) _
    · exact el_psum hp a b i j
theorem psum_step {p : Int} {a b : List Int} {i j : Nat} (h : i - j < b.length) : psum p a b i (j + 1) = (psum p a b i j + a.getD j 0 * b.getD (i - j) 0) % p := by
  show (if _ then _ else _) = _
  rw [if_pos h]
theorem psum_skip {p : Int} {a b : List Int} {i j : Nat} (h : ¬ i - j < b.length) : psum p a b i (j + 1) = psum p a b i j := by
  show (if _ then _ else _) = _
  rw [if_neg h]
theorem acc_wrap {p s a b : Int} (hp : IsMod p) (hs : El p s) (ha : El p a) (hb : El p b) : (IntKind.i64.wrap (s + IntKind.i64.wrap (a * b))).tmod p = (s + a * b) % p := by
  have h := mul_le_sq hp ha hb
  unfold IsMod at hp; unfold El at hs
  rw [wrap_small (n := a * b) (by omega), wrap_small (by omega), tmod_pos (by omega)]
theorem row_len (p : Int) (a b : List Int) (x y : Nat) : (mulRow p a b x y).length = a.length + b.length - 1 := mr_len _ _
theorem row_zero (p : Int) (a b : List Int) : List.replicate (a.length + b.length - 1) 0 = mulRow p a b 0 0 := by
  rw [mr_const]
  refine mr_congr (fun t _ => ?_)
  rw [if_neg (by omega), Nat.zero_min]
  rfl
theorem row_get {p : Int} {a b : List Int} {x y : Nat} (hx : x < a.length) (hy : y < b.length) : (mulRow p a b x y).getD (x + y) 0 = psum p a b (x + y) x := by
  unfold mulRow
  rw [mr_get, if_pos (by omega), if_neg (by omega), Nat.min_eq_left (by omega)]
theorem row_set {p : Int} {a b : List Int} {x y : Nat} (hx : x < a.length) (hy : y < b.length) : (mulRow p a b x y).set (x + y) (psum p a b (x + y) (x + 1)) = mulRow p a b x (y + 1) := by
  unfold mulRow
  rw [mr_set]
  refine mr_congr (fun t _ => ?_)
  by_cases h : t = x + y
  · subst h
    rw [if_pos rfl, if_pos (by omega)]
  · rw [if_neg h]
    by_cases h2 : x ≤ t ∧ t < x + y
    · rw [if_pos h2, if_pos (by omega)]
    · rw [if_neg h2, if_neg (by omega)]
theorem row_next (p : Int) (a b : List Int) (x : Nat) : mulRow p a b x b.length = mulRow p a b (x + 1) 0 := by
  refine mr_congr (fun t _ => ?_)
  rw [if_neg (show ¬ (x + 1 ≤ t ∧ t < x + 1 + 0) by omega)]
  by_cases h : x ≤ t
  · rw [Nat.min_eq_left (show x + 1 ≤ t + 1 by omega)]
    by_cases h2 : t < x + b.length
    · rw [if_pos ⟨h, h2⟩]
    · rw [if_neg (by omega), Nat.min_eq_left (by omega), psum_skip (by omega)]
  · rw [if_neg (by omega), Nat.min_eq_right (by omega), Nat.min_eq_right (by omega)]
theorem row_end (p : Int) (a b : List Int) : mulRow p a b a.length 0 = mulLn p a b (a.length + b.length - 1) := by
  refine mr_congr (fun t _ => ?_)
  rw [if_neg (by omega), Nat.min_comm]
theorem top_trim (l : List Int) : topB (trimF l) = true := by
  have key : ∀ n, n ≤ l.length → cutN l n = 0 ∨ l.getD (cutN l n - 1) 0 ≠ 0 := by
    intro n
    induction n with
    | zero => intro _; exact .inl rfl
    | succ n ih =>
      intro h
      unfold cutN
      split
      · exact ih (by omega)
      · rename_i h0; exact .inr h0
  rw [top_iff, trim_len]
  rcases key l.length (Nat.le_refl _) with h | h
  · exact .inl h
  · by_cases h0 : cutF l = 0
    · exact .inl h0
    · refine .inr ?_
      unfold trimF
      rw [getD_take (by omega)]
      exact h
end Go.SF
