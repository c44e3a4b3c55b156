/- What is owed of the code of polynomials. No condition. -/
import Derived.Test.YtobmiihdfklmaaaGreatSxC
import Derived.Test.YtobmiihdfklmaaaGreatSxPPoint
namespace Go.SF
open Go.SX Go
set_option linter.unusedVariables false
set_option linter.unusedSimpArgs false
set_option maxRecDepth 10000
theorem mr_len {α : Type} (g : Nat → α) (n : Nat) : ((List.range n).map g).length = n := by rw [List.length_map, List.length_range]
theorem mr_get (g : Nat → Int) (n i : Nat) : ((List.range n).map g).getD i 0 = if i < n then g i else 0 := by
  rw [List.getD_eq_getElem?_getD, List.getElem?_map]
  by_cases h : i < n
  · rw [List.getElem?_range h, if_pos h]; rfl
  · rw [List.getElem?_eq_none (by rw [List.length_range]; omega), if_neg h]; rfl
theorem mr_succ {α : Type} (g : Nat → α) (n : Nat) : (List.range n).map g ++ [g n] = (List.range (n + 1)).map g := by rw [List.range_succ, List.map_append]; rfl
theorem mr_congr {α : Type} {g h : Nat → α} {n : Nat} (e : ∀ i, i < n → g i = h i) : (List.range n).map g = (List.range n).map h :=
  List.map_congr_left (fun i hi => e i (List.mem_range.1 hi))
theorem mr_set {α : Type} (g : Nat → α) (n i : Nat) (v : α) : ((List.range n).map g).set i v = (List.range n).map (fun t => if t = i then v else g t) := by
  apply List.ext_getElem?
  intro j
  simp only [List.getElem?_set, List.getElem?_map, List.length_map, List.length_range]
  by_cases h : i = j
  · subst h
    by_cases hn : i < n
    · simp [hn]
    · simp [hn]
  · by_cases hn : j < n
    · simp [h, hn, Ne.symm h]
    · simp [h, hn]
theorem mr_const {α : Type} (v : α) (n : Nat) : List.replicate n v = (List.range n).map (fun _ => v) := by rw [List.map_const', List.length_range]
theorem el_get {p : Int} (hp : IsMod p) {xs : List Int} (h : elemsF p xs = true) (i : Nat) : El p (xs.getD i 0) := by
  by_cases hi : i < xs.length
  · exact el_at h hi
  · rw [List.getD_eq_getElem?_getD, List.getElem?_eq_none (by omega)]
    exact el_zero hp
theorem elems_of {p : Int} {xs : List Int} (h : ∀ i, i < xs.length → El p (xs.getD i 0)) : elemsF p xs = true := by
  unfold elemsF
  rw [decide_eq_true_eq]
  intro x hx
  obtain ⟨i, hi, rfl⟩ := List.getElem_of_mem hx
  have := h i hi
  rw [List.getD_eq_getElem?_getD, List.getElem?_eq_getElem hi] at this
  unfold El at this
  simp only [Option.getD_some] at this
  omega
theorem elems_mr {p : Int} {g : Nat → Int} {n : Nat} (h : ∀ i, i < n → El p (g i)) : elemsF p ((List.range n).map g) = true := by
  refine elems_of (fun i hi => ?_)
  rw [mr_len] at hi
  rw [mr_get, if_pos hi]
  exact h i hi
theorem elems_take {p : Int} {xs : List Int} (h : elemsF p xs = true) (n : Nat) : elemsF p (xs.take n) = true := by
  unfold elemsF at *
  rw [decide_eq_true_eq] at *
  exact fun x hx => h x (List.mem_of_mem_take hx)
theorem spec_el {f : Int} {a : List Int} (h : specElemsF f a = true) : modF f ≠ 0 ∧ elemsF (modF f) a = true := by
  unfold specElemsF at h
  rw [Bool.and_eq_true, decide_eq_true_eq] at h
  exact h
theorem spec_of {f : Int} {a : List Int} (h : modF f ≠ 0) (h1 : elemsF (modF f) a = true) : specElemsF f a = true := by
  unfold specElemsF
  rw [Bool.and_eq_true, decide_eq_true_eq]
  exact ⟨h, h1⟩
theorem cutN_le (l : List Int) : ∀ n, cutN l n ≤ n
  | 0 => Nat.le_refl _
  | n + 1 => by
    unfold cutN
    split
    · have := cutN_le l n; omega
    · exact Nat.le_refl _
theorem cutF_le (l : List Int) : cutF l ≤ l.length := cutN_le l _
theorem cut_start (l : List Int) : CutJ l l.length := ⟨Nat.le_refl _, rfl⟩
theorem cut_step {l : List Int} {k : Nat} (h : CutJ l (k + 1)) (h0 : l.getD k 0 = 0) : CutJ l k := by
  refine ⟨by have := h.1; omega, ?_⟩
  have := h.2
  unfold cutN at this
  rwa [if_pos h0] at this
theorem cut_stop {l : List Int} {k : Nat} (h : CutJ l (k + 1)) (h0 : ¬ l.getD k 0 = 0) : k + 1 = cutF l := by
  have := h.2
  unfold cutN at this
  rwa [if_neg h0] at this
theorem cut_nil {l : List Int} (h : CutJ l 0) : 0 = cutF l := h.2
theorem trim_len (l : List Int) : (trimF l).length = cutF l := by
  unfold trimF
  rw [List.length_take, Nat.min_eq_left (cutF_le l)]
theorem top_iff (l : List Int) : topB l = true ↔ l.length = 0 ∨ l.getD (l.length - 1) 0 ≠ 0 := by
  unfold topB cutF
  rw [decide_eq_true_eq]
  match h : l.length with
  | 0 => exact ⟨fun _ => .inl rfl, fun _ => rfl⟩
  | n + 1 =>
    rw [Nat.add_sub_cancel]
    unfold cutN
    split
    · rename_i h0
      have := cutN_le l n
      exact ⟨fun e => by omega, fun e => e.elim (fun e => by omega) (fun e => absurd h0 e)⟩
    · rename_i h0
      exact ⟨fun _ => .inr h0, fun _ => rfl⟩
theorem poly_ok {f : Int} {a : List Int} (h : polyB f a = true) : modF f ≠ 0 ∧ elemsF (modF f) a = true ∧ a.length ≤ 400 ∧ topB a = true := by
  unfold polyB at h
  simp only [Bool.and_eq_true, decide_eq_true_eq] at h
  have := spec_el h.1.2
  exact ⟨this.1, this.2, h.1.1, h.2⟩
theorem poly_of {f : Int} {a : List Int} (h : modF f ≠ 0) (h1 : elemsF (modF f) a = true) (h2 : a.length ≤ 400) (h3 : topB a = true) : polyB f a = true := by
  unfold polyB
  simp only [Bool.and_eq_true, decide_eq_true_eq]
  exact ⟨⟨h2, spec_of h h1⟩, h3⟩
theorem at_nat (a : List Int) (x : Nat) : atF a (x : Int) = a.getD x 0 := by
  unfold atF
  rw [if_pos (by omega), Int.toNat_natCast]
theorem addLn_succ (p : Int) (a b : List Int) (n : Nat) : addLn p a b n ++ [addM p (a.getD n 0) (b.getD n 0)] = addLn p a b (n + 1) := mr_succ _ n
theorem addLn_len (p : Int) (a b : List Int) (n : Nat) : (addLn p a b n).length = n := mr_len _ n
theorem scLn_succ (p : Int) (a : List Int) (c : Int) (n : Nat) : scLn p a c n ++ [mulM p (a.getD n 0) c] = scLn p a c (n + 1) := mr_succ _ n
theorem scLn_len (p : Int) (a : List Int) (c : Int) (n : Nat) : (scLn p a c n).length = n := mr_len _ n
theorem mulLn_succ (p : Int) (a b : List Int) (n : Nat) : mulLn p a b n ++ [psum p a b n (min (n + 1) a.length)] = mulLn p a b (n + 1) := mr_succ (fun i => psum p a b i (min (i + 1) a.length)) n
theorem mulLn_len (p : Int) (a b : List Int) (n : Nat) : (mulLn p a b n).length = n := mr_len _ n
theorem el_psum {p : Int} (hp : IsMod p) (a b : List Int) (i : Nat) : ∀ j, El p (psum p a b i j)
  | 0 => el_zero hp
  | j + 1 => by
    unfold psum
    split
    · exact el_mod (by unfold IsMod at hp; omega) _
    · exact el_psum hp a b i j
theorem psum_step {p : Int} {a b : List Int} {i j : Nat} (h : i - j < b.length) : psum p a b i (j + 1) = (psum p a b i j + a.getD j 0 * b.getD (i - j) 0) % p := by
  show (if _ then _ else _) = _
  rw [if_pos h]
theorem psum_skip {p : Int} {a b : List Int} {i j : Nat} (h : ¬ i - j < b.length) : psum p a b i (j + 1) = psum p a b i j := by
  show (if _ then _ else _) = _
  rw [if_neg h]
theorem acc_wrap {p s a b : Int} (hp : IsMod p) (hs : El p s) (ha : El p a) (hb : El p b) : (IntKind.i64.wrap (s + IntKind.i64.wrap (a * b))).tmod p = (s + a * b) % p := by
  have h := mul_le_sq hp ha hb
  unfold IsMod at hp; unfold El at hs
  rw [wrap_small (n := a * b) (by omega), wrap_small (by omega), tmod_pos (by omega)]
theorem row_len (p : Int) (a b : List Int) (x y : Nat) : (mulRow p a b x y).length = a.length + b.length - 1 := mr_len _ _
theorem row_zero (p : Int) (a b : List Int) : List.replicate (a.length + b.length - 1) 0 = mulRow p a b 0 0 := by
  rw [mr_const]
  refine mr_congr (fun t _ => ?_)
  rw [if_neg (by omega), Nat.zero_min]
  rfl
theorem row_get {p : Int} {a b : List Int} {x y : Nat} (hx : x < a.length) (hy : y < b.length) : (mulRow p a b x y).getD (x + y) 0 = psum p a b (x + y) x := by
  unfold mulRow
  rw [mr_get, if_pos (by omega), if_neg (by omega), Nat.min_eq_left (by omega)]
theorem row_set {p : Int} {a b : List Int} {x y : Nat} (hx : x < a.length) (hy : y < b.length) : (mulRow p a b x y).set (x + y) (psum p a b (x + y) (x + 1)) = mulRow p a b x (y + 1) := by
  unfold mulRow
  rw [mr_set]
  refine mr_congr (fun t _ => ?_)
  by_cases h : t = x + y
  · subst h
    rw [if_pos rfl, if_pos (by omega)]
  · rw [if_neg h]
    by_cases h2 : x ≤ t ∧ t < x + y
    · rw [if_pos h2, if_pos (by omega)]
    · rw [if_neg h2, if_neg (by omega)]
theorem row_next (p : Int) (a b : List Int) (x : Nat) : mulRow p a b x b.length = mulRow p a b (x + 1) 0 := by
  refine mr_congr (fun t _ => ?_)
  rw [if_neg (show ¬ (x + 1 ≤ t ∧ t < x + 1 + 0) by omega)]
  by_cases h : x ≤ t
  · rw [Nat.min_eq_left (show x + 1 ≤ t + 1 by omega)]
    by_cases h2 : t < x + b.length
    · rw [if_pos ⟨h, h2⟩]
    · rw [if_neg (by omega), Nat.min_eq_left (by omega), psum_skip (by omega)]
  · rw [if_neg (by omega), Nat.min_eq_right (by omega), Nat.min_eq_right (by omega)]
theorem row_end (p : Int) (a b : List Int) : mulRow p a b a.length 0 = mulLn p a b (a.length + b.length - 1) := by
  refine mr_congr (fun t _ => ?_)
  rw [if_neg (by omega), Nat.min_comm]
theorem top_trim (l : List Int) : topB (trimF l) = true := by
  have key : ∀ n, n ≤ l.length → cutN l n = 0 ∨ l.getD (cutN l n - 1) 0 ≠ 0 := by
    intro n
    induction n with
    | zero => intro _; exact .inl rfl
    | succ n ih =>
      intro h
      unfold cutN
      split
      · exact ih (by omega)
      · rename_i h0; exact .inr h0
  rw [top_iff, trim_len]
  rcases key l.length (Nat.le_refl _) with h | h
  · exact .inl h
  · by_cases h0 : cutF l = 0
    · exact .inl h0
    · refine .inr ?_
      unfold trimF
      rw [getD_take (by omega)]
      exact h
theorem v_S_l03Cut :
 ∀ (d : List Int), Ty.wf listT d → d.length ≤ (1048576 : Nat) → CutJ d d.length ∧ (d = d ∧ Value.slice none (0 : Nat) (0 : Nat) = Value.slice none (0 : Nat) (0 : Nat) ∧ (↑d.length : Int) = (↑d.length : Int)) ∧ ∀ (x :
 Nat), CutJ d x → (decide ((0 : Int) < (↑x : Int)) = true → ((0 : Int) ≤ IntKind.wrap IntKind.i64 ((↑x : Int) - (1 : Int)) ∧ IntKind.wrap IntKind.i64 ((↑x : Int) - (1 : Int)) < (↑d.length : Int)) ∧ (decide (d.getD
 (Int.toNat (IntKind.wrap IntKind.i64 ((↑x : Int) - (1 : Int)))) (0 : Int) = (0 : Int)) = true → ∃ (x' : Nat), CutJ d x' ∧ x' < x ∧ d = d ∧ Value.slice none (0 : Nat) (0 : Nat) = Value.slice none (0 : Nat) (0 : Nat) ∧
 IntKind.wrap IntKind.i64 ((↑x : Int) - (1 : Int)) = (↑x' : Int)) ∧ (decide (d.getD (Int.toNat (IntKind.wrap IntKind.i64 ((↑x : Int) - (1 : Int)))) (0 : Int) = (0 : Int)) = false → ((0 : Int) ≤ (0 : Int) ∧ (0 : Int) ≤
 (↑x : Int) ∧ (↑x : Int) ≤ (↑d.length : Int)) ∧ List.length (List.drop (Int.toNat (0 : Int)) (List.take (Int.toNat (↑x : Int)) d)) ≤ (1048576 : Nat) ∧ (Ty.wf listT (List.drop (Int.toNat (0 : Int)) (List.take (Int.toNat
 (↑x : Int)) d)) → List.drop (Int.toNat (0 : Int)) (List.take (Int.toNat (↑x : Int)) d) = trimF d))) ∧ (decide ((0 : Int) < (↑x : Int)) = false → ((0 : Int) ≤ (0 : Int) ∧ (0 : Int) ≤ (↑x : Int) ∧ (↑x : Int) ≤ (↑d.length
 : Int)) ∧ List.length (List.drop (Int.toNat (0 : Int)) (List.take (Int.toNat (↑x : Int)) d)) ≤ (1048576 : Nat) ∧ (Ty.wf listT (List.drop (Int.toNat (0 : Int)) (List.take (Int.toNat (↑x : Int)) d)) → List.drop (Int.toNat
 (0 : Int)) (List.take (Int.toNat (↑x : Int)) d) = trimF d)) := by
  intro (a : List Int) hw hp
  replace hp : a.length ≤ 1048576 := hp
  simp only [Int.toNat_natCast, exists_const, and_true, true_and, implies_true, decide_eq_true_eq, decide_eq_false_iff_not, Bool.not_eq_true', Bool.not_eq_false', beq_iff_eq, forall_const]
  refine ⟨cut_start a, fun x hx => ?_⟩
  have hxl := hx.1
  match x, hx with
  | 0, hx =>
    refine ⟨fun h => absurd h (by omega), fun _ => ?_⟩
    have hc := cut_nil hx
    simp only [Int.toNat_zero, List.drop_zero, Int.natCast_zero, List.take_zero]
    refine ⟨⟨by omega, by omega, by omega⟩, by simp, fun _ => ?_⟩
    unfold trimF
    rw [← hc]; rfl
  | x + 1, hx =>
    have hxl : x + 1 ≤ a.length := hx.1
    have hw1 : IntKind.i64.wrap (((x + 1 : Nat) : Int) - 1) = (x : Int) := by rw [wrap_small (by omega)]; omega
    rw [hw1]
    simp only [Int.toNat_natCast, Int.toNat_zero, List.drop_zero]
    refine ⟨fun _ => ⟨⟨by omega, by omega⟩, fun h => ⟨x, cut_step hx h, by omega, rfl⟩, fun h => ?_⟩, fun h => absurd h (by omega)⟩
    have hc := cut_stop hx h
    refine ⟨⟨by omega, by omega, by omega⟩, by rw [List.length_take]; omega, fun _ => ?_⟩
    unfold trimF
    rw [← hc]
theorem v_S_PolyOk :
 ∀ (d : Int × List Int), Ty.wf i64T d.1 ∧ Ty.wf listT d.2 → True → (decide ((400 : Int) < (↑d.2.length : Int)) = true → false = polyB d.1 d.2) ∧ (decide ((400 : Int) < (↑d.2.length : Int)) = false → True ∧ ((!specElemsF
 d.1 d.2) = true → false = polyB d.1 d.2) ∧ ((!specElemsF d.1 d.2) = false → (decide ((↑d.2.length : Int) = (0 : Int)) = true → true = polyB d.1 d.2) ∧ (decide ((↑d.2.length : Int) = (0 : Int)) = false → ((0 : Int) ≤
 IntKind.wrap IntKind.i64 ((↑d.2.length : Int) - (1 : Int)) ∧ IntKind.wrap IntKind.i64 ((↑d.2.length : Int) - (1 : Int)) < (↑d.2.length : Int)) ∧ (!decide (d.2.getD (Int.toNat (IntKind.wrap IntKind.i64 ((↑d.2.length :
 Int) - (1 : Int)))) (0 : Int) = (0 : Int))) = polyB d.1 d.2))) := by
  intro (d : Int × List Int) hw _
  obtain ⟨f, a⟩ := d
  have hl : a.length ≤ 9223372036854775807 := hw.2.1
  simp only [Int.toNat_natCast, exists_const, and_true, true_and, implies_true, decide_eq_true_eq, decide_eq_false_iff_not, Bool.not_eq_true', Bool.not_eq_false', beq_iff_eq, forall_const]
  have no : ∀ {b}, (polyB f a = true → False) → b = false → b = polyB f a := fun h e => by
    subst e
    cases hp : polyB f a with
    | false => rfl
    | true => exact (h hp).elim
  refine ⟨fun h => no (fun hp => ?_) rfl, fun h => ⟨fun h1 => no (fun hp => ?_) rfl, fun h1 => ⟨fun h2 => ?_, fun h2 => ?_⟩⟩⟩
  · have := (poly_ok hp).2.2.1; omega
  · have := poly_ok hp
    rw [spec_of this.1 this.2.1] at h1; cases h1
  · have h3 := spec_el h1
    exact (poly_of h3.1 h3.2 (by omega) ((top_iff a).2 (.inl (by omega)))).symm
  · have h3 := spec_el h1
    have hw1 : IntKind.i64.wrap ((a.length : Int) - 1) = ((a.length - 1 : Nat) : Int) := by rw [wrap_small (by omega)]; omega
    rw [hw1, Int.toNat_natCast]
    refine ⟨⟨by omega, by omega⟩, ?_⟩
    by_cases h4 : a.getD (a.length - 1) 0 = 0
    · rw [decide_eq_true h4]
      refine no (fun hp => ?_) rfl
      rcases (top_iff a).1 (poly_ok hp).2.2.2 with h5 | h5
      · omega
      · exact h5 h4
    · rw [decide_eq_false h4]
      exact (poly_of h3.1 h3.2 (by omega) ((top_iff a).2 (.inr h4))).symm
theorem v_S_l03At :
 ∀ (d : List Int × Int), Ty.wf listT d.1 ∧ Ty.wf i64T d.2 → True → (decide ((0 : Int) ≤ d.2) = true → (decide (d.2 < (↑d.1.length : Int)) = true → ((0 : Int) ≤ d.2 ∧ d.2 < (↑d.1.length : Int)) ∧ d.1.getD d.2.toNat (0 :
 Int) = atF d.1 d.2) ∧ (decide (d.2 < (↑d.1.length : Int)) = false → (0 : Int) = atF d.1 d.2)) ∧ (decide ((0 : Int) ≤ d.2) = false → (0 : Int) = atF d.1 d.2) := by
  intro (d : List Int × Int) hw _
  obtain ⟨a, i⟩ := d
  simp only [Int.toNat_natCast, exists_const, and_true, true_and, implies_true, decide_eq_true_eq, decide_eq_false_iff_not, Bool.not_eq_true', Bool.not_eq_false', beq_iff_eq, forall_const]
  unfold atF
  refine ⟨fun h => ⟨fun h1 => ⟨⟨h, h1⟩, by rw [if_pos h]⟩, fun h1 => ?_⟩, fun h => by rw [if_neg h]⟩
  rw [if_pos h, List.getD_eq_getElem?_getD, List.getElem?_eq_none (by omega)]; rfl
theorem v_S_AddPoly :
 ∀ (d : Int × List Int × List Int), Ty.wf i64T d.1 ∧ Ty.wf listT d.2.1 ∧ Ty.wf listT d.2.2 → True → True ∧ ((!polyB d.1 d.2.1) = true → [] = addPS d.1 d.2.1 d.2.2) ∧ ((!polyB d.1 d.2.1) = false → True ∧ ((!polyB d.1
 d.2.2) = true → [] = addPS d.1 d.2.1 d.2.2) ∧ ((!polyB d.1 d.2.2) = false → (0 : Nat) ≤ max d.2.1.length d.2.2.length ∧ ((d.1 = d.1 ∧ d.2.1 = d.2.1 ∧ d.2.2 = d.2.2 ∧ Value.slice none (0 : Nat) (0 : Nat) = Value.slice
 none (0 : Nat) (0 : Nat) ∧ (0 : Int) = (↑(0 : Nat) : Int)) ∧ [] = addLn (modF d.1) d.2.1 d.2.2 (0 : Nat)) ∧ ∀ (x : Nat), x ≤ max d.2.1.length d.2.2.length → (decide ((↑x : Int) < (↑d.2.1.length : Int)) = true → True ∧
 (Ty.wf i64T (atF d.2.1 (↑x : Int)) → True ∧ (Ty.wf i64T (atF d.2.2 (↑x : Int)) → True ∧ (Ty.wf i64T (addS d.1 (atF d.2.1 (↑x : Int)) (atF d.2.2 (↑x : Int))) → (List.length (addLn (modF d.1) d.2.1 d.2.2 x) + List.length
 [addS d.1 (atF d.2.1 (↑x : Int)) (atF d.2.2 (↑x : Int))]) * (8 : Nat) ≤ (140737488355328 : Nat) ∧ ∃ (x' : Nat), x' ≤ max d.2.1.length d.2.2.length ∧ max d.2.1.length d.2.2.length - x' < max d.2.1.length d.2.2.length - x
 ∧ (d.1 = d.1 ∧ d.2.1 = d.2.1 ∧ d.2.2 = d.2.2 ∧ Value.slice none (0 : Nat) (0 : Nat) = Value.slice none (0 : Nat) (0 : Nat) ∧ IntKind.wrap IntKind.i64 ((↑x : Int) + (1 : Int)) = (↑x' : Int)) ∧ addLn (modF d.1) d.2.1
 d.2.2 x ++ [addS d.1 (atF d.2.1 (↑x : Int)) (atF d.2.2 (↑x : Int))] = addLn (modF d.1) d.2.1 d.2.2 x')))) ∧ (decide ((↑x : Int) < (↑d.2.1.length : Int)) = false → (decide ((↑x : Int) < (↑d.2.2.length : Int)) = true →
 True ∧ (Ty.wf i64T (atF d.2.1 (↑x : Int)) → True ∧ (Ty.wf i64T (atF d.2.2 (↑x : Int)) → True ∧ (Ty.wf i64T (addS d.1 (atF d.2.1 (↑x : Int)) (atF d.2.2 (↑x : Int))) → (List.length (addLn (modF d.1) d.2.1 d.2.2 x) +
 List.length [addS d.1 (atF d.2.1 (↑x : Int)) (atF d.2.2 (↑x : Int))]) * (8 : Nat) ≤ (140737488355328 : Nat) ∧ ∃ (x' : Nat), x' ≤ max d.2.1.length d.2.2.length ∧ max d.2.1.length d.2.2.length - x' < max d.2.1.length
 d.2.2.length - x ∧ (d.1 = d.1 ∧ d.2.1 = d.2.1 ∧ d.2.2 = d.2.2 ∧ Value.slice none (0 : Nat) (0 : Nat) = Value.slice none (0 : Nat) (0 : Nat) ∧ IntKind.wrap IntKind.i64 ((↑x : Int) + (1 : Int)) = (↑x' : Int)) ∧ addLn
 (modF d.1) d.2.1 d.2.2 x ++ [addS d.1 (atF d.2.1 (↑x : Int)) (atF d.2.2 (↑x : Int))] = addLn (modF d.1) d.2.1 d.2.2 x')))) ∧ (decide ((↑x : Int) < (↑d.2.2.length : Int)) = false → List.length (addLn (modF d.1) d.2.1
 d.2.2 x) ≤ (1048576 : Nat) ∧ (Ty.wf listT (trimF (addLn (modF d.1) d.2.1 d.2.2 x)) → trimF (addLn (modF d.1) d.2.1 d.2.2 x) = addPS d.1 d.2.1 d.2.2))))) := by
  intro (d : Int × List Int × List Int) hw _
  obtain ⟨f, a, b⟩ := d
  simp only [Int.toNat_natCast, exists_const, and_true, true_and, implies_true, decide_eq_true_eq, decide_eq_false_iff_not, Bool.not_eq_true', Bool.not_eq_false', beq_iff_eq, forall_const]
  have no : ∀ {P : Prop}, ((polyB f a && polyB f b) = false) → [] = addPS f a b := fun h => by unfold addPS; rw [h]; rfl
  refine ⟨fun h => no (P := True) (by rw [h]; rfl), fun h => ⟨fun h1 => no (P := True) (by rw [h1, Bool.and_false]), fun h1 => ⟨by omega, ⟨rfl, rfl⟩, fun x hx => ?_⟩⟩⟩
  have ha := poly_ok h
  have hb := poly_ok h1
  simp only [at_nat, addS_at ha.1, addLn_len]
  have step : x < max a.length b.length → (x + [addM (modF f) (a.getD x 0) (b.getD x 0)].length) * 8 ≤ 140737488355328 ∧ ∃ x', x' ≤ max a.length b.length ∧ max a.length b.length - x' < max a.length b.length - x ∧ IntKind.i64.wrap ((x : Int) + 1) = (x' : Int) ∧
      addLn (modF f) a b x ++ [addM (modF f) (a.getD x 0) (b.getD x 0)] = addLn (modF f) a b x' :=
    fun hlt => ⟨by simp only [List.length_cons, List.length_nil]; omega, x + 1, by omega, by omega, wrap_succ (by omega), addLn_succ _ _ _ _⟩
  refine ⟨fun h2 _ _ _ => step (by omega), fun h2 => ⟨fun h3 _ _ _ => step (by omega), fun h3 => ⟨by omega, fun _ => ?_⟩⟩⟩
  unfold addPS addP
  rw [h, h1, show x = max a.length b.length by omega]; rfl
theorem v_S_ScalePoly :
 ∀ (d : Int × List Int × Int), Ty.wf i64T d.1 ∧ Ty.wf listT d.2.1 ∧ Ty.wf i64T d.2.2 → True → True ∧ ((!polyB d.1 d.2.1) = true → [] = scalePS d.1 d.2.1 d.2.2) ∧ ((!polyB d.1 d.2.1) = false → (0 : Nat) ≤ d.2.1.length ∧
 ((d.1 = d.1 ∧ d.2.1 = d.2.1 ∧ d.2.2 = d.2.2 ∧ Value.slice none (0 : Nat) (0 : Nat) = Value.slice none (0 : Nat) (0 : Nat) ∧ (0 : Int) = (↑(0 : Nat) : Int)) ∧ [] = scLn (modF d.1) d.2.1 d.2.2 (0 : Nat)) ∧ ∀ (x : Nat), x
 ≤ d.2.1.length → (decide ((↑x : Int) < (↑d.2.1.length : Int)) = true → ((0 : Int) ≤ (↑x : Int) ∧ (↑x : Int) < (↑d.2.1.length : Int)) ∧ True ∧ (Ty.wf i64T (mulS d.1 (d.2.1.getD (Int.toNat (↑x : Int)) (0 : Int)) d.2.2) →
 (List.length (scLn (modF d.1) d.2.1 d.2.2 x) + List.length [mulS d.1 (d.2.1.getD (Int.toNat (↑x : Int)) (0 : Int)) d.2.2]) * (8 : Nat) ≤ (140737488355328 : Nat) ∧ ∃ (x' : Nat), x' ≤ d.2.1.length ∧ d.2.1.length - x' <
 d.2.1.length - x ∧ (d.1 = d.1 ∧ d.2.1 = d.2.1 ∧ d.2.2 = d.2.2 ∧ Value.slice none (0 : Nat) (0 : Nat) = Value.slice none (0 : Nat) (0 : Nat) ∧ IntKind.wrap IntKind.i64 ((↑x : Int) + (1 : Int)) = (↑x' : Int)) ∧ scLn (modF
 d.1) d.2.1 d.2.2 x ++ [mulS d.1 (d.2.1.getD (Int.toNat (↑x : Int)) (0 : Int)) d.2.2] = scLn (modF d.1) d.2.1 d.2.2 x')) ∧ (decide ((↑x : Int) < (↑d.2.1.length : Int)) = false → List.length (scLn (modF d.1) d.2.1 d.2.2
 x) ≤ (1048576 : Nat) ∧ (Ty.wf listT (trimF (scLn (modF d.1) d.2.1 d.2.2 x)) → trimF (scLn (modF d.1) d.2.1 d.2.2 x) = scalePS d.1 d.2.1 d.2.2))) := by
  intro (d : Int × List Int × Int) hw _
  obtain ⟨f, a, c⟩ := d
  simp only [Int.toNat_natCast, exists_const, and_true, true_and, implies_true, decide_eq_true_eq, decide_eq_false_iff_not, Bool.not_eq_true', Bool.not_eq_false', beq_iff_eq, forall_const]
  refine ⟨fun h => by unfold scalePS; rw [h]; rfl, fun h => ⟨by omega, ⟨rfl, rfl⟩, fun x hx => ?_⟩⟩
  have ha := poly_ok h
  simp only [mulS_at ha.1, scLn_len]
  refine ⟨fun h2 => ⟨⟨by omega, by omega⟩, fun _ => ⟨by simp only [List.length_cons, List.length_nil]; omega, x + 1, by omega, by omega, wrap_succ (by omega), scLn_succ _ _ _ _⟩⟩, fun h2 => ⟨by omega, fun _ => ?_⟩⟩
  unfold scalePS scaleP
  rw [h, show x = a.length by omega]; rfl
theorem v_S_l03Mul :
 ∀ (d : Int × List Int × List Int), Ty.wf i64T d.1 ∧ Ty.wf listT d.2.1 ∧ Ty.wf listT d.2.2 → specElemsF d.1 d.2.1 = true ∧ specElemsF d.1 d.2.2 = true ∧ d.2.1.length ≤ (1000 : Nat) ∧ d.2.2.length ≤ (1000 : Nat) → True ∧
 (Ty.wf i64T (modF d.1) → (decide ((↑d.2.1.length : Int) = (0 : Int)) = true → [] = mulP (modF d.1) d.2.1 d.2.2) ∧ (decide ((↑d.2.1.length : Int) = (0 : Int)) = false → (decide ((↑d.2.2.length : Int) = (0 : Int)) = true
 → [] = mulP (modF d.1) d.2.1 d.2.2) ∧ (decide ((↑d.2.2.length : Int) = (0 : Int)) = false → (0 : Nat) ≤ d.2.1.length + d.2.2.length - (1 : Nat) ∧ ((d.1 = d.1 ∧ d.2.1 = d.2.1 ∧ d.2.2 = d.2.2 ∧ Value.slice none (0 : Nat)
 (0 : Nat) = Value.slice none (0 : Nat) (0 : Nat) ∧ modF d.1 = modF d.1 ∧ (0 : Int) = (↑(0 : Nat) : Int)) ∧ [] = mulLn (modF d.1) d.2.1 d.2.2 (0 : Nat)) ∧ ∀ (x : Nat), x ≤ d.2.1.length + d.2.2.length - (1 : Nat) →
 (decide ((↑x : Int) < IntKind.wrap IntKind.i64 (IntKind.wrap IntKind.i64 ((↑d.2.1.length : Int) + (↑d.2.2.length : Int)) - (1 : Int))) = true → (0 : Nat) ≤ min (x + (1 : Nat)) d.2.1.length ∧ ((d.1 = d.1 ∧ d.2.1 = d.2.1
 ∧ d.2.2 = d.2.2 ∧ Value.slice none (0 : Nat) (0 : Nat) = Value.slice none (0 : Nat) (0 : Nat) ∧ modF d.1 = modF d.1 ∧ (↑x : Int) = (↑x : Int) ∧ (0 : Int) = psum (modF d.1) d.2.1 d.2.2 x (0 : Nat) ∧ (0 : Int) = (↑(0 :
 Nat) : Int)) ∧ mulLn (modF d.1) d.2.1 d.2.2 x = mulLn (modF d.1) d.2.1 d.2.2 x) ∧ ∀ (x_1 : Nat), x_1 ≤ min (x + (1 : Nat)) d.2.1.length → (decide ((↑x_1 : Int) ≤ (↑x : Int)) = true → (decide ((↑x_1 : Int) <
 (↑d.2.1.length : Int)) = true → (decide (IntKind.wrap IntKind.i64 ((↑x : Int) - (↑x_1 : Int)) < (↑d.2.2.length : Int)) = true → ((0 : Int) ≤ (↑x_1 : Int) ∧ (↑x_1 : Int) < (↑d.2.1.length : Int)) ∧ ((0 : Int) ≤
 IntKind.wrap IntKind.i64 ((↑x : Int) - (↑x_1 : Int)) ∧ IntKind.wrap IntKind.i64 ((↑x : Int) - (↑x_1 : Int)) < (↑d.2.2.length : Int)) ∧ modF d.1 ≠ (0 : Int) ∧ ∃ (x' : Nat), x' ≤ min (x + (1 : Nat)) d.2.1.length ∧ min (x
 + (1 : Nat)) d.2.1.length - x' < min (x + (1 : Nat)) d.2.1.length - x_1 ∧ (d.1 = d.1 ∧ d.2.1 = d.2.1 ∧ d.2.2 = d.2.2 ∧ Value.slice none (0 : Nat) (0 : Nat) = Value.slice none (0 : Nat) (0 : Nat) ∧ modF d.1 = modF d.1 ∧
 (↑x : Int) = (↑x : Int) ∧ Int.tmod (IntKind.wrap IntKind.i64 (psum (modF d.1) d.2.1 d.2.2 x x_1 + IntKind.wrap IntKind.i64 (d.2.1.getD (Int.toNat (↑x_1 : Int)) (0 : Int) * d.2.2.getD (Int.toNat (IntKind.wrap IntKind.i64
 ((↑x : Int) - (↑x_1 : Int)))) (0 : Int)))) (modF d.1) = psum (modF d.1) d.2.1 d.2.2 x x' ∧ IntKind.wrap IntKind.i64 ((↑x_1 : Int) + (1 : Int)) = (↑x' : Int)) ∧ mulLn (modF d.1) d.2.1 d.2.2 x = mulLn (modF d.1) d.2.1
 d.2.2 x) ∧ (decide (IntKind.wrap IntKind.i64 ((↑x : Int) - (↑x_1 : Int)) < (↑d.2.2.length : Int)) = false → ∃ (x' : Nat), x' ≤ min (x + (1 : Nat)) d.2.1.length ∧ min (x + (1 : Nat)) d.2.1.length - x' < min (x + (1 :
 Nat)) d.2.1.length - x_1 ∧ (d.1 = d.1 ∧ d.2.1 = d.2.1 ∧ d.2.2 = d.2.2 ∧ Value.slice none (0 : Nat) (0 : Nat) = Value.slice none (0 : Nat) (0 : Nat) ∧ modF d.1 = modF d.1 ∧ (↑x : Int) = (↑x : Int) ∧ psum (modF d.1) d.2.1
 d.2.2 x x_1 = psum (modF d.1) d.2.1 d.2.2 x x' ∧ IntKind.wrap IntKind.i64 ((↑x_1 : Int) + (1 : Int)) = (↑x' : Int)) ∧ mulLn (modF d.1) d.2.1 d.2.2 x = mulLn (modF d.1) d.2.1 d.2.2 x)) ∧ (decide ((↑x_1 : Int) <
 (↑d.2.1.length : Int)) = false → (List.length (mulLn (modF d.1) d.2.1 d.2.2 x) + List.length [psum (modF d.1) d.2.1 d.2.2 x x_1]) * (8 : Nat) ≤ (140737488355328 : Nat) ∧ ∃ (x' : Nat), x' ≤ d.2.1.length + d.2.2.length -
 (1 : Nat) ∧ d.2.1.length + d.2.2.length - (1 : Nat) - x' < d.2.1.length + d.2.2.length - (1 : Nat) - x ∧ (d.1 = d.1 ∧ d.2.1 = d.2.1 ∧ d.2.2 = d.2.2 ∧ Value.slice none (0 : Nat) (0 : Nat) = Value.slice none (0 : Nat) (0
 : Nat) ∧ modF d.1 = modF d.1 ∧ IntKind.wrap IntKind.i64 ((↑x : Int) + (1 : Int)) = (↑x' : Int)) ∧ mulLn (modF d.1) d.2.1 d.2.2 x ++ [psum (modF d.1) d.2.1 d.2.2 x x_1] = mulLn (modF d.1) d.2.1 d.2.2 x')) ∧ (decide
 ((↑x_1 : Int) ≤ (↑x : Int)) = false → (List.length (mulLn (modF d.1) d.2.1 d.2.2 x) + List.length [psum (modF d.1) d.2.1 d.2.2 x x_1]) * (8 : Nat) ≤ (140737488355328 : Nat) ∧ ∃ (x' : Nat), x' ≤ d.2.1.length +
 d.2.2.length - (1 : Nat) ∧ d.2.1.length + d.2.2.length - (1 : Nat) - x' < d.2.1.length + d.2.2.length - (1 : Nat) - x ∧ (d.1 = d.1 ∧ d.2.1 = d.2.1 ∧ d.2.2 = d.2.2 ∧ Value.slice none (0 : Nat) (0 : Nat) = Value.slice
 none (0 : Nat) (0 : Nat) ∧ modF d.1 = modF d.1 ∧ IntKind.wrap IntKind.i64 ((↑x : Int) + (1 : Int)) = (↑x' : Int)) ∧ mulLn (modF d.1) d.2.1 d.2.2 x ++ [psum (modF d.1) d.2.1 d.2.2 x x_1] = mulLn (modF d.1) d.2.1 d.2.2
 x')) ∧ (decide ((↑x : Int) < IntKind.wrap IntKind.i64 (IntKind.wrap IntKind.i64 ((↑d.2.1.length : Int) + (↑d.2.2.length : Int)) - (1 : Int))) = false → List.length (mulLn (modF d.1) d.2.1 d.2.2 x) ≤ (1048576 : Nat) ∧
 (Ty.wf listT (trimF (mulLn (modF d.1) d.2.1 d.2.2 x)) → trimF (mulLn (modF d.1) d.2.1 d.2.2 x) = mulP (modF d.1) d.2.1 d.2.2))))) := by
  intro (d : Int × List Int × List Int) hw hp
  obtain ⟨f, a, b⟩ := d
  replace hp : specElemsF f a = true ∧ specElemsF f b = true ∧ a.length ≤ 1000 ∧ b.length ≤ 1000 := hp
  simp only [Int.toNat_natCast, exists_const, and_true, true_and, implies_true, decide_eq_true_eq, decide_eq_false_iff_not, Bool.not_eq_true', Bool.not_eq_false', beq_iff_eq, forall_const]
  intro _
  obtain ⟨hpa, hpb, hla, hlb⟩ := hp
  obtain ⟨hm, hea⟩ := spec_el hpa
  obtain ⟨_, heb⟩ := spec_el hpb
  have hp := (mod_is hm).1
  refine ⟨fun h => by unfold mulP; rw [if_pos (by omega)], fun h => ⟨fun h1 => by unfold mulP; rw [if_pos (by omega)], fun h1 => ⟨by omega, ⟨rfl, rfl⟩, fun x hx => ?_⟩⟩⟩
  have hw1 : IntKind.i64.wrap (IntKind.i64.wrap ((a.length : Int) + (b.length : Int)) - 1) = ((a.length + b.length - 1 : Nat) : Int) := by
    rw [wrap_small (n := (a.length : Int) + (b.length : Int)) (by omega), wrap_small (by omega)]; omega
  rw [hw1, mulLn_len]
  refine ⟨fun h2 => ⟨by omega, ⟨rfl, rfl⟩, fun y hy => ?_⟩, fun h2 => ⟨by omega, fun _ => ?_⟩⟩
  · have fin : y = min (x + 1) a.length → (x + [psum (modF f) a b x y].length) * 8 ≤ 140737488355328 ∧ ∃ x', x' ≤ a.length + b.length - 1 ∧ a.length + b.length - 1 - x' < a.length + b.length - 1 - x ∧ IntKind.i64.wrap ((x : Int) + 1) = (x' : Int) ∧
        mulLn (modF f) a b x ++ [psum (modF f) a b x y] = mulLn (modF f) a b x' := fun e =>
      ⟨by simp only [List.length_cons, List.length_nil]; omega, x + 1, by omega, by omega, wrap_succ (by omega), by rw [e]; exact mulLn_succ _ _ _ _⟩
    refine ⟨fun h3 => ⟨fun h4 => ?_, fun h4 => fin (by omega)⟩, fun h3 => fin (by omega)⟩
    have hw2 : IntKind.i64.wrap ((x : Int) - (y : Int)) = ((x - y : Nat) : Int) := by rw [wrap_small (by omega)]; omega
    rw [hw2, Int.toNat_natCast]
    refine ⟨fun h5 => ⟨⟨by omega, by omega⟩, ⟨by omega, by omega⟩, hm, y + 1, by omega, by omega, ?_, wrap_succ (by omega)⟩, fun h5 => ⟨y + 1, by omega, by omega, (psum_skip (by omega)).symm, wrap_succ (by omega)⟩⟩
    rw [acc_wrap hp (el_psum hp _ _ _ _) (el_get hp hea _) (el_get hp heb _), psum_step (by omega)]
  · unfold mulP
    rw [if_neg (by omega), show x = a.length + b.length - 1 by omega]
theorem v_I_trimmed :
 ∀ (xs : List Int), Ty.wf (Ty.sl i64T) xs → CutJ xs xs.length ∧ ((xs.length = xs.length ∧ Value.slice none (0 : Nat) (0 : Nat) = Value.slice none (0 : Nat) (0 : Nat)) ∧ xs = xs) ∧ ∀ (x : Nat), CutJ xs x → (decide ((0 :
 Int) < (↑x : Int)) = true → ((0 : Int) ≤ IntKind.wrap IntKind.i64 ((↑x : Int) - (1 : Int)) ∧ IntKind.wrap IntKind.i64 ((↑x : Int) - (1 : Int)) < (↑x : Int)) ∧ (decide (xs.getD (Int.toNat (IntKind.wrap IntKind.i64 ((↑x :
 Int) - (1 : Int)))) (0 : Int) = (0 : Int)) = true → ((0 : Int) ≤ IntKind.wrap IntKind.i64 ((↑x : Int) - (1 : Int)) ∧ IntKind.wrap IntKind.i64 ((↑x : Int) - (1 : Int)) ≤ (↑x : Int)) ∧ ∃ (x' : Nat), CutJ xs x' ∧ x' < x ∧
 (Int.toNat (IntKind.wrap IntKind.i64 ((↑x : Int) - (1 : Int))) = x' ∧ Value.slice none (0 : Nat) (0 : Nat) = Value.slice none (0 : Nat) (0 : Nat)) ∧ xs = xs) ∧ (decide (xs.getD (Int.toNat (IntKind.wrap IntKind.i64 ((↑x
 : Int) - (1 : Int)))) (0 : Int) = (0 : Int)) = false → x = cutF xs ∧ xs = xs)) ∧ (decide ((0 : Int) < (↑x : Int)) = false → x = cutF xs ∧ xs = xs) := by
  intro (l : List Int) hw
  have hl : l.length ≤ 9223372036854775807 := hw.1
  simp only [Int.toNat_natCast, exists_const, and_true, true_and, implies_true, decide_eq_true_eq, decide_eq_false_iff_not, Bool.not_eq_true', Bool.not_eq_false', beq_iff_eq, forall_const]
  refine ⟨cut_start l, fun x hx => ?_⟩
  match x, hx with
  | 0, hx => exact ⟨fun h => absurd h (by omega), fun _ => cut_nil hx⟩
  | x + 1, hx =>
    have hxl : x + 1 ≤ l.length := hx.1
    have hw1 : IntKind.i64.wrap (((x + 1 : Nat) : Int) - 1) = (x : Int) := by rw [wrap_small (by omega)]; omega
    rw [hw1]
    simp only [Int.toNat_natCast]
    exact ⟨fun _ => ⟨⟨by omega, by omega⟩, fun h => ⟨⟨by omega, by omega⟩, x, cut_step hx h, by omega, rfl⟩, fun h => cut_stop hx h⟩, fun h => absurd h (by omega)⟩
theorem v_I_coefficient :
 ∀ (d : List Int × Int), Ty.wf listT d.1 ∧ Ty.wf i64T d.2 → (0 : Tup [i64T]) ≤ d.2 → (decide ((↑d.1.length : Int) ≤ d.2) = true → (0 : Int) = atF d.1 d.2) ∧ (decide ((↑d.1.length : Int) ≤ d.2) = false → ((0 : Int) ≤ d.2
 ∧ d.2 < (↑d.1.length : Int)) ∧ d.1.getD d.2.toNat (0 : Int) = atF d.1 d.2) := by
  intro (d : List Int × Int) hw hp
  obtain ⟨a, i⟩ := d
  replace hp : (0 : Int) ≤ i := hp
  simp only [Int.toNat_natCast, exists_const, and_true, true_and, implies_true, decide_eq_true_eq, decide_eq_false_iff_not, Bool.not_eq_true', Bool.not_eq_false', beq_iff_eq, forall_const]
  unfold atF
  rw [if_pos hp]
  refine ⟨fun h => ?_, fun h => ⟨⟨hp, by omega⟩, rfl⟩⟩
  rw [List.getD_eq_getElem?_getD, List.getElem?_eq_none (by omega)]; rfl
theorem v_I_addPoly :
 ∀ (d : (Int × Int × Int) × List Int × List Int), Ty.wf fldT d.1 ∧ Ty.wf listT d.2.1 ∧ Ty.wf listT d.2.2 → IsMod d.1.1 ∧ elemsF d.1.1 d.2.1 = true ∧ elemsF d.1.1 d.2.2 = true ∧ d.2.1.length ≤ (1000 : Nat) ∧ d.2.2.length
 ≤ (1000 : Nat) → (0 : Nat) ≤ max d.2.1.length d.2.2.length ∧ (((d.1.1 = d.1.1 ∧ d.1.2.1 = d.1.2.1 ∧ d.1.2.2 = d.1.2.2) ∧ d.2.1 = d.2.1 ∧ d.2.2 = d.2.2 ∧ Value.slice none (0 : Nat) (0 : Nat) = Value.slice none (0 : Nat)
 (0 : Nat) ∧ imax (↑d.2.1.length : Int) (↑d.2.2.length : Int) = imax (↑d.2.1.length : Int) (↑d.2.2.length : Int) ∧ (0 : Int) = (↑(0 : Nat) : Int)) ∧ (d.1.1 = d.1.1 ∧ d.1.2.1 = d.1.2.1 ∧ d.1.2.2 = d.1.2.2) ∧ [] = addLn
 d.1.1 d.2.1 d.2.2 (0 : Nat)) ∧ ∀ (x : Nat), x ≤ max d.2.1.length d.2.2.length → (decide ((↑x : Int) < imax (↑d.2.1.length : Int) (↑d.2.2.length : Int)) = true → (0 : Tup [i64T]) ≤ (↑x : Int) ∧ (0 : Tup [i64T]) ≤ (↑x :
 Int) ∧ (IsMod d.1.1 ∧ El d.1.1 (atF d.2.1 (↑x : Int)) ∧ El d.1.1 (atF d.2.2 (↑x : Int))) ∧ (Ty.wf i64T (addM d.1.1 (atF d.2.1 (↑x : Int)) (atF d.2.2 (↑x : Int))) → Ty.wf i64T (atF d.2.2 (↑x : Int)) → Ty.wf i64T (atF
 d.2.1 (↑x : Int)) → (List.length (addLn d.1.1 d.2.1 d.2.2 x) + List.length [addM d.1.1 (atF d.2.1 (↑x : Int)) (atF d.2.2 (↑x : Int))]) * (8 : Nat) ≤ (140737488355328 : Nat) ∧ ∃ (x' : Nat), x' ≤ max d.2.1.length
 d.2.2.length ∧ max d.2.1.length d.2.2.length - x' < max d.2.1.length d.2.2.length - x ∧ ((d.1.1 = d.1.1 ∧ d.1.2.1 = d.1.2.1 ∧ d.1.2.2 = d.1.2.2) ∧ d.2.1 = d.2.1 ∧ d.2.2 = d.2.2 ∧ Value.slice none (0 : Nat) (0 : Nat) =
 Value.slice none (0 : Nat) (0 : Nat) ∧ imax (↑d.2.1.length : Int) (↑d.2.2.length : Int) = imax (↑d.2.1.length : Int) (↑d.2.2.length : Int) ∧ IntKind.wrap IntKind.i64 ((↑x : Int) + (1 : Int)) = (↑x' : Int)) ∧ (d.1.1 =
 d.1.1 ∧ d.1.2.1 = d.1.2.1 ∧ d.1.2.2 = d.1.2.2) ∧ addLn d.1.1 d.2.1 d.2.2 x ++ [addM d.1.1 (atF d.2.1 (↑x : Int)) (atF d.2.2 (↑x : Int))] = addLn d.1.1 d.2.1 d.2.2 x')) ∧ (decide ((↑x : Int) < imax (↑d.2.1.length : Int)
 (↑d.2.2.length : Int)) = false → List.take (cutF (addLn d.1.1 d.2.1 d.2.2 x)) (addLn d.1.1 d.2.1 d.2.2 x) = addP d.1.1 d.2.1 d.2.2) := by
  intro (d : Fd × List Int × List Int) hw hp
  obtain ⟨⟨p, g, t⟩, a, b⟩ := d
  replace hp : IsMod p ∧ elemsF p a = true ∧ elemsF p b = true ∧ a.length ≤ 1000 ∧ b.length ≤ 1000 := hp
  simp only [Int.toNat_natCast, exists_const, and_true, true_and, implies_true, decide_eq_true_eq, decide_eq_false_iff_not, Bool.not_eq_true', Bool.not_eq_false', beq_iff_eq, forall_const]
  obtain ⟨h0, h1, h2, h3, h4⟩ := hp
  simp only [at_nat, addLn_len]
  have hmx : imax (a.length : Int) (b.length : Int) = ((max a.length b.length : Nat) : Int) := by unfold imax; split <;> omega
  rw [hmx]
  refine ⟨by omega, ⟨rfl, rfl⟩, fun x hx => ⟨fun h5 => ⟨Int.natCast_nonneg _, Int.natCast_nonneg _, ⟨h0, el_get h0 h1 _, el_get h0 h2 _⟩, fun _ _ _ => ⟨by simp only [List.length_cons, List.length_nil]; omega, x + 1, by omega, by omega, wrap_succ (by omega), addLn_succ _ _ _ _⟩⟩, fun h5 => ?_⟩⟩
  unfold addP trimF
  rw [show x = max a.length b.length by omega]
theorem v_I_scalePoly :
 ∀ (d : (Int × Int × Int) × List Int × Int), Ty.wf fldT d.1 ∧ Ty.wf listT d.2.1 ∧ Ty.wf i64T d.2.2 → IsMod d.1.1 ∧ elemsF d.1.1 d.2.1 = true ∧ El d.1.1 d.2.2 ∧ d.2.1.length ≤ (1000 : Nat) → (0 : Nat) ≤ d.2.1.length ∧
 (((d.1.1 = d.1.1 ∧ d.1.2.1 = d.1.2.1 ∧ d.1.2.2 = d.1.2.2) ∧ d.2.1 = d.2.1 ∧ d.2.2 = d.2.2 ∧ Value.slice none (0 : Nat) (0 : Nat) = Value.slice none (0 : Nat) (0 : Nat) ∧ d.2.1 = d.2.1 ∧ (↑d.2.1.length : Int) =
 (↑d.2.1.length : Int) ∧ (0 : Int) = (↑(0 : Nat) : Int)) ∧ (d.1.1 = d.1.1 ∧ d.1.2.1 = d.1.2.1 ∧ d.1.2.2 = d.1.2.2) ∧ [] = scLn d.1.1 d.2.1 d.2.2 (0 : Nat)) ∧ ∀ (x : Nat), x ≤ d.2.1.length → (decide ((↑x : Int) <
 (↑d.2.1.length : Int)) = true → ((0 : Int) ≤ (↑x : Int) ∧ (↑x : Int) < (↑d.2.1.length : Int)) ∧ (IsMod d.1.1 ∧ El d.1.1 (d.2.1.getD (Int.toNat (↑x : Int)) (0 : Int)) ∧ El d.1.1 d.2.2) ∧ (Ty.wf i64T (mulM d.1.1
 (d.2.1.getD (Int.toNat (↑x : Int)) (0 : Int)) d.2.2) → (List.length (scLn d.1.1 d.2.1 d.2.2 x) + List.length [mulM d.1.1 (d.2.1.getD (Int.toNat (↑x : Int)) (0 : Int)) d.2.2]) * (8 : Nat) ≤ (140737488355328 : Nat) ∧ ∃
 (x' : Nat), x' ≤ d.2.1.length ∧ d.2.1.length - x' < d.2.1.length - x ∧ ((d.1.1 = d.1.1 ∧ d.1.2.1 = d.1.2.1 ∧ d.1.2.2 = d.1.2.2) ∧ d.2.1 = d.2.1 ∧ d.2.2 = d.2.2 ∧ Value.slice none (0 : Nat) (0 : Nat) = Value.slice none
 (0 : Nat) (0 : Nat) ∧ d.2.1 = d.2.1 ∧ (↑d.2.1.length : Int) = (↑d.2.1.length : Int) ∧ IntKind.wrap IntKind.i64 ((↑x : Int) + (1 : Int)) = (↑x' : Int)) ∧ (d.1.1 = d.1.1 ∧ d.1.2.1 = d.1.2.1 ∧ d.1.2.2 = d.1.2.2) ∧ scLn
 d.1.1 d.2.1 d.2.2 x ++ [mulM d.1.1 (d.2.1.getD (Int.toNat (↑x : Int)) (0 : Int)) d.2.2] = scLn d.1.1 d.2.1 d.2.2 x')) ∧ (decide ((↑x : Int) < (↑d.2.1.length : Int)) = false → List.take (cutF (scLn d.1.1 d.2.1 d.2.2 x))
 (scLn d.1.1 d.2.1 d.2.2 x) = scaleP d.1.1 d.2.1 d.2.2) := by
  intro (d : Fd × List Int × Int) hw hp
  obtain ⟨⟨p, g, t⟩, a, c⟩ := d
  replace hp : IsMod p ∧ elemsF p a = true ∧ El p c ∧ a.length ≤ 1000 := hp
  simp only [Int.toNat_natCast, exists_const, and_true, true_and, implies_true, decide_eq_true_eq, decide_eq_false_iff_not, Bool.not_eq_true', Bool.not_eq_false', beq_iff_eq, forall_const]
  obtain ⟨h0, h1, h2, h3⟩ := hp
  simp only [scLn_len]
  refine ⟨by omega, ⟨rfl, rfl⟩, fun x hx => ⟨fun h5 => ⟨⟨by omega, by omega⟩, ⟨h0, el_get h0 h1 _, h2⟩, fun _ => ⟨by simp only [List.length_cons, List.length_nil]; omega, x + 1, by omega, by omega, wrap_succ (by omega), scLn_succ _ _ _ _⟩⟩, fun h5 => ?_⟩⟩
  unfold scaleP trimF
  rw [show x = a.length by omega]
theorem v_I_mulPoly :
 ∀ (d : (Int × Int × Int) × List Int × List Int), Ty.wf fldT d.1 ∧ Ty.wf listT d.2.1 ∧ Ty.wf listT d.2.2 → IsMod d.1.1 ∧ elemsF d.1.1 d.2.1 = true ∧ elemsF d.1.1 d.2.2 = true ∧ d.2.1.length ≤ (1000 : Nat) ∧ d.2.2.length
 ≤ (1000 : Nat) → (decide ((↑d.2.1.length : Int) = (0 : Int)) = true → [] = mulP d.1.1 d.2.1 d.2.2) ∧ (decide ((↑d.2.1.length : Int) = (0 : Int)) = false → (decide ((↑d.2.2.length : Int) = (0 : Int)) = true → [] = mulP
 d.1.1 d.2.1 d.2.2) ∧ (decide ((↑d.2.2.length : Int) = (0 : Int)) = false → ((0 : Int) ≤ IntKind.wrap IntKind.i64 (IntKind.wrap IntKind.i64 ((↑d.2.1.length : Int) + (↑d.2.2.length : Int)) - (1 : Int)) ∧ IntKind.wrap
 IntKind.i64 (IntKind.wrap IntKind.i64 ((↑d.2.1.length : Int) + (↑d.2.2.length : Int)) - (1 : Int)) ≤ IntKind.wrap IntKind.i64 (IntKind.wrap IntKind.i64 ((↑d.2.1.length : Int) + (↑d.2.2.length : Int)) - (1 : Int)) ∧
 IntKind.wrap IntKind.i64 (IntKind.wrap IntKind.i64 ((↑d.2.1.length : Int) + (↑d.2.2.length : Int)) - (1 : Int)) * (↑(8 : Nat) : Int) ≤ (140737488355328 : Int)) ∧ (0 : Nat) ≤ d.2.1.length ∧ (((d.1.1 = d.1.1 ∧ d.1.2.1 =
 d.1.2.1 ∧ d.1.2.2 = d.1.2.2) ∧ d.2.1 = d.2.1 ∧ d.2.2 = d.2.2 ∧ Value.slice none (0 : Nat) (0 : Nat) = Value.slice none (0 : Nat) (0 : Nat) ∧ d.2.1 = d.2.1 ∧ (↑d.2.1.length : Int) = (↑d.2.1.length : Int) ∧ (0 : Int) =
 (↑(0 : Nat) : Int)) ∧ (d.1.1 = d.1.1 ∧ d.1.2.1 = d.1.2.1 ∧ d.1.2.2 = d.1.2.2) ∧ List.replicate (Int.toNat (IntKind.wrap IntKind.i64 (IntKind.wrap IntKind.i64 ((↑d.2.1.length : Int) + (↑d.2.2.length : Int)) - (1 :
 Int)))) (0 : Int) = mulRow d.1.1 d.2.1 d.2.2 (0 : Nat) (0 : Nat)) ∧ ∀ (x : Nat), x ≤ d.2.1.length → (decide ((↑x : Int) < (↑d.2.1.length : Int)) = true → ((0 : Int) ≤ (↑x : Int) ∧ (↑x : Int) < (↑d.2.1.length : Int)) ∧
 (0 : Nat) ≤ d.2.2.length ∧ (((d.1.1 = d.1.1 ∧ d.1.2.1 = d.1.2.1 ∧ d.1.2.2 = d.1.2.2) ∧ d.2.1 = d.2.1 ∧ d.2.2 = d.2.2 ∧ Value.slice none (0 : Nat) (0 : Nat) = Value.slice none (0 : Nat) (0 : Nat) ∧ (↑x : Int) = (↑x :
 Int) ∧ d.2.1.getD (Int.toNat (↑x : Int)) (0 : Int) = d.2.1.getD (Int.toNat (↑x : Int)) (0 : Int) ∧ d.2.1 = d.2.1 ∧ (↑d.2.1.length : Int) = (↑d.2.1.length : Int) ∧ (↑x : Int) = (↑x : Int) ∧ d.2.2 = d.2.2 ∧ (↑d.2.2.length
 : Int) = (↑d.2.2.length : Int) ∧ (0 : Int) = (↑(0 : Nat) : Int)) ∧ (d.1.1 = d.1.1 ∧ d.1.2.1 = d.1.2.1 ∧ d.1.2.2 = d.1.2.2) ∧ mulRow d.1.1 d.2.1 d.2.2 x (0 : Nat) = mulRow d.1.1 d.2.1 d.2.2 x (0 : Nat)) ∧ ∀ (x_1 : Nat),
 x_1 ≤ d.2.2.length → (decide ((↑x_1 : Int) < (↑d.2.2.length : Int)) = true → ((0 : Int) ≤ (↑x_1 : Int) ∧ (↑x_1 : Int) < (↑d.2.2.length : Int)) ∧ ((0 : Int) ≤ IntKind.wrap IntKind.i64 ((↑x : Int) + (↑x_1 : Int)) ∧
 IntKind.wrap IntKind.i64 ((↑x : Int) + (↑x_1 : Int)) < (↑(List.length (mulRow d.1.1 d.2.1 d.2.2 x x_1)) : Int)) ∧ d.1.1 ≠ (0 : Int) ∧ ((0 : Int) ≤ IntKind.wrap IntKind.i64 ((↑x : Int) + (↑x_1 : Int)) ∧ IntKind.wrap
 IntKind.i64 ((↑x : Int) + (↑x_1 : Int)) < (↑(List.length (mulRow d.1.1 d.2.1 d.2.2 x x_1)) : Int)) ∧ ∃ (x' : Nat), x' ≤ d.2.2.length ∧ d.2.2.length - x' < d.2.2.length - x_1 ∧ ((d.1.1 = d.1.1 ∧ d.1.2.1 = d.1.2.1 ∧
 d.1.2.2 = d.1.2.2) ∧ d.2.1 = d.2.1 ∧ d.2.2 = d.2.2 ∧ Value.slice none (0 : Nat) (0 : Nat) = Value.slice none (0 : Nat) (0 : Nat) ∧ (↑x : Int) = (↑x : Int) ∧ d.2.1.getD (Int.toNat (↑x : Int)) (0 : Int) = d.2.1.getD
 (Int.toNat (↑x : Int)) (0 : Int) ∧ d.2.1 = d.2.1 ∧ (↑d.2.1.length : Int) = (↑d.2.1.length : Int) ∧ (↑x : Int) = (↑x : Int) ∧ d.2.2 = d.2.2 ∧ (↑d.2.2.length : Int) = (↑d.2.2.length : Int) ∧ IntKind.wrap IntKind.i64
 ((↑x_1 : Int) + (1 : Int)) = (↑x' : Int)) ∧ (d.1.1 = d.1.1 ∧ d.1.2.1 = d.1.2.1 ∧ d.1.2.2 = d.1.2.2) ∧ List.set (mulRow d.1.1 d.2.1 d.2.2 x x_1) (Int.toNat (IntKind.wrap IntKind.i64 ((↑x : Int) + (↑x_1 : Int))))
 (Int.tmod (IntKind.wrap IntKind.i64 (List.getD (mulRow d.1.1 d.2.1 d.2.2 x x_1) (Int.toNat (IntKind.wrap IntKind.i64 ((↑x : Int) + (↑x_1 : Int)))) (0 : Int) + IntKind.wrap IntKind.i64 (d.2.1.getD (Int.toNat (↑x : Int))
 (0 : Int) * d.2.2.getD (Int.toNat (↑x_1 : Int)) (0 : Int)))) d.1.1) = mulRow d.1.1 d.2.1 d.2.2 x x') ∧ (decide ((↑x_1 : Int) < (↑d.2.2.length : Int)) = false → ∃ (x' : Nat), x' ≤ d.2.1.length ∧ d.2.1.length - x' <
 d.2.1.length - x ∧ ((d.1.1 = d.1.1 ∧ d.1.2.1 = d.1.2.1 ∧ d.1.2.2 = d.1.2.2) ∧ d.2.1 = d.2.1 ∧ d.2.2 = d.2.2 ∧ Value.slice none (0 : Nat) (0 : Nat) = Value.slice none (0 : Nat) (0 : Nat) ∧ d.2.1 = d.2.1 ∧ (↑d.2.1.length
 : Int) = (↑d.2.1.length : Int) ∧ IntKind.wrap IntKind.i64 ((↑x : Int) + (1 : Int)) = (↑x' : Int)) ∧ (d.1.1 = d.1.1 ∧ d.1.2.1 = d.1.2.1 ∧ d.1.2.2 = d.1.2.2) ∧ mulRow d.1.1 d.2.1 d.2.2 x x_1 = mulRow d.1.1 d.2.1 d.2.2 x'
 (0 : Nat))) ∧ (decide ((↑x : Int) < (↑d.2.1.length : Int)) = false → List.take (cutF (mulRow d.1.1 d.2.1 d.2.2 x (0 : Nat))) (mulRow d.1.1 d.2.1 d.2.2 x (0 : Nat)) = mulP d.1.1 d.2.1 d.2.2))) := by
  intro (d : Fd × List Int × List Int) hw hp
  obtain ⟨⟨p, g, t⟩, a, b⟩ := d
  replace hp : IsMod p ∧ elemsF p a = true ∧ elemsF p b = true ∧ a.length ≤ 1000 ∧ b.length ≤ 1000 := hp
  simp only [Int.toNat_natCast, exists_const, and_true, true_and, implies_true, decide_eq_true_eq, decide_eq_false_iff_not, Bool.not_eq_true', Bool.not_eq_false', beq_iff_eq, forall_const]
  obtain ⟨h0, hea, heb, h3, h4⟩ := hp
  have hm : p ≠ 0 := by unfold IsMod at h0; omega
  refine ⟨fun h => by unfold mulP; rw [if_pos (by omega)], fun h => ⟨fun h1 => by unfold mulP; rw [if_pos (by omega)], fun h1 => ?_⟩⟩
  have hw1 : IntKind.i64.wrap (IntKind.i64.wrap ((a.length : Int) + (b.length : Int)) - 1) = ((a.length + b.length - 1 : Nat) : Int) := by
    rw [wrap_small (n := (a.length : Int) + (b.length : Int)) (by omega), wrap_small (by omega)]; omega
  rw [hw1, Int.toNat_natCast]
  refine ⟨⟨by omega, by omega, by omega⟩, by omega, ⟨rfl, row_zero _ _ _⟩, fun x hx => ⟨fun h2 => ⟨⟨by omega, by omega⟩, by omega, rfl, fun y hy => ⟨fun h5 => ?_, fun h5 => ?_⟩⟩, fun h2 => ?_⟩⟩
  · have hw2 : IntKind.i64.wrap ((x : Int) + (y : Int)) = ((x + y : Nat) : Int) := by rw [wrap_small (by omega)]; omega
    rw [hw2, Int.toNat_natCast, row_len, row_get (by omega) (by omega), acc_wrap h0 (el_psum h0 _ _ _ _) (el_get h0 hea _) (el_get h0 heb _)]
    refine ⟨⟨by omega, by omega⟩, ⟨by omega, by omega⟩, hm, ⟨by omega, by omega⟩, y + 1, by omega, by omega, wrap_succ (by omega), ?_⟩
    rw [← row_set (by omega) (by omega), psum_step (by omega), Nat.add_sub_cancel_left]
  · refine ⟨x + 1, by omega, by omega, wrap_succ (by omega), ?_⟩
    rw [show y = b.length by omega]
    exact row_next _ _ _ _
  · rw [show x = a.length by omega, row_end]
    unfold mulP trimF
    rw [if_neg (by omega)]
end Go.SF
