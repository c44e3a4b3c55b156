/- What is owed of the code of plans. No condition. -/
import Derived.Test.YtmnndbfmeppaeaaSxC
import Derived.Test.YtmnndbfmeppaeaaSxPField
namespace Go.SF
open Go.SX Go
set_option linter.unusedVariables false
set_option linter.unusedSimpArgs false
set_option maxRecDepth 10000
theorem half_spec_at : ∀ k : Fin 10, IntKind.i64.wrap ((ishl .i64 1 (IntKind.u64.wrap (k.val : Int))).tdiv 2) = halfF (k.val : Int) ∧ 0 ≤ halfF (k.val : Int) ∧ halfF (k.val : Int) ≤ 256 ∧ 0 ≤ IntKind.u64.wrap (k.val : Int) ∧ (1 ≤ k.val → ishl .i64 1 (IntKind.i64.wrap ((k.val : Int) - 1)) = halfF (k.val : Int)) ∧
    ishl .i64 1 (IntKind.u64.wrap (k.val : Int)) = 2 ^ k.val ∧ ishl .i64 1 (k.val : Int) = 2 ^ k.val ∧
    IntKind.i64.wrap ((ishl .i64 (k.val : Int) (k.val : Int)).tdiv 2) = (k.val : Int) * halfF (k.val : Int) := by decide +kernel
theorem half_spec {k : Int} (h : 0 ≤ k ∧ k ≤ 9) : IntKind.i64.wrap ((ishl .i64 1 (IntKind.u64.wrap k)).tdiv 2) = halfF k ∧ 0 ≤ halfF k ∧ halfF k ≤ 256 ∧ 0 ≤ IntKind.u64.wrap k ∧ (1 ≤ k → ishl .i64 1 (IntKind.i64.wrap (k - 1)) = halfF k) ∧
    ishl .i64 1 (IntKind.u64.wrap k) = 2 ^ k.toNat ∧ ishl .i64 1 k = 2 ^ k.toNat ∧ IntKind.i64.wrap ((ishl .i64 k k).tdiv 2) = k * halfF k := by
  have := half_spec_at ⟨k.toNat, by omega⟩
  simp only [Int.toNat_of_nonneg h.1] at this
  refine ⟨this.1, this.2.1, this.2.2.1, this.2.2.2.1, fun h1 => this.2.2.2.2.1 (by omega), this.2.2.2.2.2.1, this.2.2.2.2.2.2.1, this.2.2.2.2.2.2.2⟩
theorem rgm_len {α : Type} (h : Nat) (f : Nat → α) : ((List.range h).map f).length = h := by simp
theorem rgm_get {α : Type} {h i : Nat} {z : α} (f : Nat → α) (hi : i < h) : ((List.range h).map f).getD i z = f i := by simp [List.getD_eq_getElem?_getD, hi]
theorem rgm_eq {α : Type} {h : Nat} {f g : Nat → α} (e : ∀ b, b < h → f b = g b) : (List.range h).map f = (List.range h).map g :=
  List.map_congr_left (fun b hb => e b (List.mem_range.1 hb))
theorem rgm_set {α : Type} {h c : Nat} {f g : Nat → α} {v : α} (hv : v = g c) (e : ∀ b, b < h → b ≠ c → f b = g b) : ((List.range h).map f).set c v = (List.range h).map g := by
  apply List.ext_getElem
  · simp
  · intro i h1 h2
    rw [rgm_len] at h2
    rw [List.getElem_set]
    by_cases hc : c = i
    · subst hc; rw [if_pos rfl, hv]; simp
    · rw [if_neg hc]; simp only [List.getElem_map, List.getElem_range]; exact e i h2 (fun hh => hc hh.symm)
theorem cnt_succ {xs : List Sp} {i : Nat} (h : i < xs.length) (l b : Nat) : cnt (xs.take (i + 1)) l b = cnt (xs.take i) l b + (if (xs.getD i (0, 0, 0)).1 = (l : Int) ∧ (xs.getD i (0, 0, 0)).2.1 ≤ (b : Int) ∧ (b : Int) < (xs.getD i (0, 0, 0)).2.2 then 1 else 0) := by
  unfold cnt
  rw [← tk_succ (z := ((0 : Int), (0 : Int), (0 : Int))) h, List.countP_append]
  simp only [List.countP_cons, List.countP_nil, decide_eq_true_eq, Nat.zero_add]
theorem cnt_le (xs : List Sp) (l b : Nat) : cnt xs l b ≤ xs.length := List.countP_le_length
theorem cnt_mono (xs : List Sp) (i l b : Nat) : cnt (xs.take i) l b ≤ cnt xs l b := by
  unfold cnt
  exact (List.take_sublist i xs).countP_le
theorem plan_no1 {p : Pl} {i : Nat} (hi : i < p.2.2.length) (h : ¬ (stepOkF p.2.1 (p.2.2.getD i (0, 0, 0)) = true ∧ (0 < i → (p.2.2.getD (i - 1) (0, 0, 0)).1 ≤ (p.2.2.getD i (0, 0, 0)).1))) : false = planOkF p := by
  unfold planOkF
  rw [decide_eq_false (fun hs : StepsP p.2.1 p.2.2 p.2.2.length => h (hs i hi))]
  simp
theorem plan_no2 {p : Pl} {l b : Nat} (hl : (l : Int) < p.2.1) (hb : (b : Int) < halfF p.2.1) (h : cnt p.2.2 l b ≠ 1) : false = planOkF p := by
  unfold planOkF
  rw [decide_eq_false (fun hs : OnceP p.2.2 (halfF p.2.1).toNat p.2.1.toNat => h (hs l (by omega) b (by omega)))]
  simp
theorem steps_succ {k : Int} {xs : List Sp} {i : Nat} (h : StepsP k xs i) (h1 : stepOkF k (xs.getD i (0, 0, 0)) = true) (h2 : 0 < i → (xs.getD (i - 1) (0, 0, 0)).1 ≤ (xs.getD i (0, 0, 0)).1) : StepsP k xs (i + 1) := by
  intro j hj
  by_cases e : j = i
  · subst e; exact ⟨h1, h2⟩
  · exact h j (by omega)
theorem step_iff {k : Int} {s : Sp} : stepOkF k s = true ↔ 0 ≤ s.1 ∧ s.1 ≤ k - 1 ∧ 0 ≤ s.2.1 ∧ s.2.1 < s.2.2 ∧ s.2.2 ≤ halfF k := by
  unfold stepOkF
  simp only [Bool.and_eq_true, decide_eq_true_eq]
  constructor
  · rintro ⟨⟨⟨⟨a, b⟩, c⟩, d⟩, e⟩; exact ⟨a, b, c, d, e⟩
  · rintro ⟨a, b, c, d, e⟩; exact ⟨⟨⟨⟨a, b⟩, c⟩, d⟩, e⟩
theorem log_iff {f k : Int} : logOkF f k = true ↔ 0 < modF f ∧ 0 ≤ k ∧ k ≤ 9 ∧ k ≤ twoF f := by
  unfold logOkF
  simp only [Bool.and_eq_true, decide_eq_true_eq]
  constructor
  · rintro ⟨⟨a, b, c⟩, d⟩; exact ⟨a, b, c, d⟩
  · rintro ⟨a, b, c, d⟩; exact ⟨⟨a, b, c⟩, d⟩
theorem plan_yes {p : Pl} (h1 : logOkF p.1 p.2.1 = true) (h2 : p.2.2.length ≤ 600) (h3 : StepsP p.2.1 p.2.2 p.2.2.length) (h4 : OnceP p.2.2 (halfF p.2.1).toNat p.2.1.toNat) : true = planOkF p := by
  unfold planOkF
  rw [h1, decide_eq_true h2, decide_eq_true h3, decide_eq_true h4]; rfl
theorem met_len (h : Nat) (xs : List Sp) (l i : Nat) : (metL h xs l i).length = h := rgm_len _ _
theorem metM_len (h : Nat) (xs : List Sp) (l i : Nat) (lo : Int) (c : Nat) : (metM h xs l i lo c).length = h := rgm_len _ _
theorem met_zero (h : Nat) (xs : List Sp) (l : Nat) : List.replicate h (0 : Int) = metL h xs l 0 := by
  unfold metL
  rw [show (fun b => ((cnt (xs.take 0) l b : Nat) : Int)) = fun _ => 0 by funext b; simp [cnt], List.map_const', List.length_range]
theorem met_start (h : Nat) (xs : List Sp) (l i : Nat) {lo : Int} (h0 : 0 ≤ lo) : metL h xs l i = metM h xs l i lo lo.toNat := by
  refine rgm_eq (fun b _ => ?_)
  rw [if_neg (by omega)]; omega
theorem met_step {h : Nat} {xs : List Sp} {l i : Nat} {lo : Int} {c : Nat} (hc : c < h) (hlo : lo ≤ (c : Int)) (hl : xs.length ≤ 600) : (metM h xs l i lo c).set c (IntKind.i64.wrap ((metM h xs l i lo c).getD c 0 + 1)) = metM h xs l i lo (c + 1) := by
  have hg : (metM h xs l i lo c).getD c 0 = ((cnt (xs.take i) l c : Nat) : Int) := by
    unfold metM
    rw [rgm_get _ hc, if_neg (by omega)]; omega
  have hle := cnt_le (xs.take i) l c
  have h2 : (xs.take i).length ≤ 600 := by rw [List.length_take]; omega
  rw [hg, wrap_small (by omega)]
  refine rgm_set ?_ (fun b hb hne => ?_)
  · rw [if_pos (by omega)]
  · by_cases hx : lo ≤ (b : Int) ∧ b < c
    · rw [if_pos hx, if_pos (by omega)]
    · rw [if_neg hx, if_neg (by omega)]
theorem met_done {h : Nat} {xs : List Sp} {l i c : Nat} (hi : i < xs.length) (hl : (xs.getD i (0, 0, 0)).1 = (l : Int)) (hc : (c : Int) = (xs.getD i (0, 0, 0)).2.2) : metM h xs l i (xs.getD i (0, 0, 0)).2.1 c = metL h xs l (i + 1) := by
  refine rgm_eq (fun b _ => ?_)
  rw [cnt_succ hi]
  by_cases hx : (xs.getD i (0, 0, 0)).2.1 ≤ (b : Int) ∧ b < c
  · rw [if_pos hx, if_pos ⟨hl, hx.1, by omega⟩]; omega
  · rw [if_neg hx, if_neg (fun hh => hx ⟨hh.2.1, by omega⟩)]; omega
theorem met_other {h : Nat} {xs : List Sp} {l i : Nat} (hi : i < xs.length) (hl : ¬ (xs.getD i (0, 0, 0)).1 = (l : Int)) : metL h xs l i = metL h xs l (i + 1) := by
  refine rgm_eq (fun b _ => ?_)
  rw [cnt_succ hi, if_neg (fun hh => hl hh.1)]; omega
theorem met_get {h : Nat} {xs : List Sp} {l b : Nat} (hb : b < h) : (metL h xs l xs.length).getD b 0 = ((cnt xs l b : Nat) : Int) := by
  unfold metL
  rw [rgm_get _ hb, List.take_length]
theorem v_S_l09Log :
  ∀ (d : Int × Int), Ty.wf i64T (Prod.fst d) ∧ Ty.wf i64T (Prod.snd d) → True → True ∧ (Ty.wf i64T (modF (Prod.fst d)) → (decide ((0 : Int) < modF (Prod.fst d)) = true → True ∧ ((decide ((0 : Int) ≤ Prod.snd d) && decide
  (Prod.snd d ≤ (9 : Int))) = true → True ∧ (Ty.wf i64T (twoF (Prod.fst d)) → decide (Prod.snd d ≤ twoF (Prod.fst d)) = logOkF (Prod.fst d) (Prod.snd d))) ∧ ((decide ((0 : Int) ≤ Prod.snd d) && decide (Prod.snd d ≤ (9 :
  Int))) = false → false = logOkF (Prod.fst d) (Prod.snd d))) ∧ (decide ((0 : Int) < modF (Prod.fst d)) = false → false = logOkF (Prod.fst d) (Prod.snd d))) := by
  intro (d : Int × Int) _ _
  obtain ⟨f, k⟩ := d
  simp only [Int.toNat_natCast, exists_const, and_true, true_and, implies_true, decide_eq_true_eq, decide_eq_false_iff_not, Bool.not_eq_true', Bool.not_eq_false', beq_iff_eq, forall_const]
  intro _
  unfold logOkF
  refine ⟨fun h => ⟨fun h1 _ => by rw [decide_eq_true h, h1]; rfl, fun h1 => by rw [decide_eq_true h, h1]; rfl⟩, fun h => by rw [decide_eq_false h]; rfl⟩
theorem v_S_l09Run :
  ∀ (d : Int × Int × Int × Int), Ty.wf i64T (Prod.fst d) ∧ Ty.wf spT (Prod.snd d) → (0 : Ty.den i64T) ≤ Prod.fst d ∧ Prod.fst d ≤ (9 : Ty.den i64T) → True ∧ ((decide ((0 : Int) ≤ Prod.fst (Prod.snd d)) && decide
  (Prod.fst (Prod.snd d) ≤ IntKind.wrap IntKind.i64 (Prod.fst d - (1 : Int)))) = true → (decide ((0 : Int) ≤ Prod.fst (Prod.snd (Prod.snd d))) = true → (decide (Prod.fst (Prod.snd (Prod.snd d)) < Prod.snd (Prod.snd
  (Prod.snd d))) = true → (0 : Int) ≤ IntKind.wrap IntKind.u64 (Prod.fst d) ∧ (2 : Int) ≠ (0 : Int) ∧ decide (Prod.snd (Prod.snd (Prod.snd d)) ≤ IntKind.wrap IntKind.i64 (Int.tdiv (ishl IntKind.i64 (1 : Int)
  (IntKind.wrap IntKind.u64 (Prod.fst d))) (2 : Int))) = stepOkF (Prod.fst d) (Prod.snd d)) ∧ (decide (Prod.fst (Prod.snd (Prod.snd d)) < Prod.snd (Prod.snd (Prod.snd d))) = false → false = stepOkF (Prod.fst d) (Prod.snd
  d))) ∧ (decide ((0 : Int) ≤ Prod.fst (Prod.snd (Prod.snd d))) = false → false = stepOkF (Prod.fst d) (Prod.snd d))) ∧ ((decide ((0 : Int) ≤ Prod.fst (Prod.snd d)) && decide (Prod.fst (Prod.snd d) ≤ IntKind.wrap
  IntKind.i64 (Prod.fst d - (1 : Int)))) = false → false = stepOkF (Prod.fst d) (Prod.snd d)) := by
  intro (d : Int × Sp) _ hp
  obtain ⟨k, s⟩ := d
  replace hp : (0 : Int) ≤ k ∧ k ≤ 9 := hp
  obtain ⟨p1, p2, p3, p4, _⟩ := half_spec hp
  simp only [Int.toNat_natCast, exists_const, and_true, true_and, implies_true, decide_eq_true_eq, decide_eq_false_iff_not, Bool.not_eq_true', Bool.not_eq_false', beq_iff_eq, forall_const]
  rw [p1, wrap_small (n := k - 1) (by omega)]
  unfold stepOkF
  refine ⟨fun h => ⟨fun h1 => ⟨fun h2 => ⟨p4, by omega, by rw [h, decide_eq_true h1, decide_eq_true h2]; rfl⟩, fun h2 => by rw [decide_eq_false h2]; simp⟩, fun h1 => by rw [decide_eq_false h1]; simp⟩, fun h => by rw [h]; rfl⟩
theorem v_I_isStep :
  ∀ (d : (Int × Int × Int) × Int), Ty.wf spT (Prod.fst d) ∧ Ty.wf i64T (Prod.snd d) → (0 : Tup [i64T]) ≤ Prod.snd d ∧ Prod.snd d ≤ (9 : Tup [i64T]) → (decide ((0 : Int) ≤ Prod.fst (Prod.fst d)) = true → (decide (Prod.fst
  (Prod.fst d) < Prod.snd d) = true → (decide ((0 : Int) ≤ Prod.fst (Prod.snd (Prod.fst d))) = true → (decide (Prod.fst (Prod.snd (Prod.fst d)) < Prod.snd (Prod.snd (Prod.fst d))) = true → (0 : Int) ≤ IntKind.wrap
  IntKind.i64 (Prod.snd d - (1 : Int)) ∧ decide (Prod.snd (Prod.snd (Prod.fst d)) ≤ ishl IntKind.i64 (1 : Int) (IntKind.wrap IntKind.i64 (Prod.snd d - (1 : Int)))) = stepOkF (Prod.snd d) (Prod.fst d)) ∧ (decide (Prod.fst
  (Prod.snd (Prod.fst d)) < Prod.snd (Prod.snd (Prod.fst d))) = false → false = stepOkF (Prod.snd d) (Prod.fst d))) ∧ (decide ((0 : Int) ≤ Prod.fst (Prod.snd (Prod.fst d))) = false → false = stepOkF (Prod.snd d)
  (Prod.fst d))) ∧ (decide (Prod.fst (Prod.fst d) < Prod.snd d) = false → false = stepOkF (Prod.snd d) (Prod.fst d))) ∧ (decide ((0 : Int) ≤ Prod.fst (Prod.fst d)) = false → false = stepOkF (Prod.snd d) (Prod.fst d)) := by
  intro (d : Sp × Int) _ hp
  obtain ⟨s, k⟩ := d
  replace hp : (0 : Int) ≤ k ∧ k ≤ 9 := hp
  obtain ⟨p1, p2, p3, p4, p5, _⟩ := half_spec hp
  simp only [Int.toNat_natCast, exists_const, and_true, true_and, implies_true, decide_eq_true_eq, decide_eq_false_iff_not, Bool.not_eq_true', Bool.not_eq_false', beq_iff_eq, forall_const]
  unfold stepOkF
  refine ⟨fun h => ⟨fun h1 => ⟨fun h2 => ⟨fun h3 => ⟨by rw [wrap_small (by omega)]; omega, ?_⟩, fun h3 => by rw [decide_eq_false h3]; simp⟩, fun h2 => by rw [decide_eq_false h2]; simp⟩, fun h1 => by rw [decide_eq_false (show ¬ s.1 ≤ k - 1 by omega)]; simp⟩, fun h => by rw [decide_eq_false h]; rfl⟩
  rw [p5 (by omega), decide_eq_true h, decide_eq_true (show s.1 ≤ k - 1 by omega), decide_eq_true h2, decide_eq_true h3]; rfl
theorem v_S_PlanOk :
  ∀ (d : Int × Int × List (Int × Int × Int)), Ty.wf planT d → True → True ∧ ((!logOkF (Prod.fst d) (Prod.fst (Prod.snd d))) = true → false = planOkF d) ∧ ((!logOkF (Prod.fst d) (Prod.fst (Prod.snd d))) = false → (decide
  ((600 : Int) < (↑(List.length (Prod.snd (Prod.snd d))) : Int)) = true → false = planOkF d) ∧ (decide ((600 : Int) < (↑(List.length (Prod.snd (Prod.snd d))) : Int)) = false → ((0 : Nat) ≤ List.length (Prod.snd (Prod.snd
  d)) ∧ StepsP (Prod.fst (Prod.snd d)) (Prod.snd (Prod.snd d)) (0 : Nat)) ∧ (((Prod.fst d = Prod.fst d ∧ Prod.fst (Prod.snd d) = Prod.fst (Prod.snd d) ∧ Prod.snd (Prod.snd d) = Prod.snd (Prod.snd d)) ∧ (0 : Int) = (↑(0 :
  Nat) : Int)) ∧ Prod.fst d = Prod.fst d ∧ Prod.fst (Prod.snd d) = Prod.fst (Prod.snd d) ∧ Prod.snd (Prod.snd d) = Prod.snd (Prod.snd d)) ∧ ∀ (x : Nat), x ≤ List.length (Prod.snd (Prod.snd d)) ∧ StepsP (Prod.fst
  (Prod.snd d)) (Prod.snd (Prod.snd d)) x → (decide ((↑x : Int) < (↑(List.length (Prod.snd (Prod.snd d))) : Int)) = true → ((0 : Int) ≤ (↑x : Int) ∧ (↑x : Int) < (↑(List.length (Prod.snd (Prod.snd d))) : Int)) ∧ ((0 :
  Ty.den i64T) ≤ Prod.fst (Prod.snd d) ∧ Prod.fst (Prod.snd d) ≤ (9 : Ty.den i64T)) ∧ ((!stepOkF (Prod.fst (Prod.snd d)) (Prod.fst (List.getD (Prod.snd (Prod.snd d)) (Int.toNat (↑x : Int)) ((0 : Int), (0 : Int), (0 :
  Int))), Prod.fst (Prod.snd (List.getD (Prod.snd (Prod.snd d)) (Int.toNat (↑x : Int)) ((0 : Int), (0 : Int), (0 : Int)))), Prod.snd (Prod.snd (List.getD (Prod.snd (Prod.snd d)) (Int.toNat (↑x : Int)) ((0 : Int), (0 :
  Int), (0 : Int)))))) = true → false = planOkF d) ∧ ((!stepOkF (Prod.fst (Prod.snd d)) (Prod.fst (List.getD (Prod.snd (Prod.snd d)) (Int.toNat (↑x : Int)) ((0 : Int), (0 : Int), (0 : Int))), Prod.fst (Prod.snd
  (List.getD (Prod.snd (Prod.snd d)) (Int.toNat (↑x : Int)) ((0 : Int), (0 : Int), (0 : Int)))), Prod.snd (Prod.snd (List.getD (Prod.snd (Prod.snd d)) (Int.toNat (↑x : Int)) ((0 : Int), (0 : Int), (0 : Int)))))) = false
  → (decide ((0 : Int) < (↑x : Int)) = true → ((0 : Int) ≤ IntKind.wrap IntKind.i64 ((↑x : Int) - (1 : Int)) ∧ IntKind.wrap IntKind.i64 ((↑x : Int) - (1 : Int)) < (↑(List.length (Prod.snd (Prod.snd d))) : Int)) ∧ ((0 :
  Int) ≤ (↑x : Int) ∧ (↑x : Int) < (↑(List.length (Prod.snd (Prod.snd d))) : Int)) ∧ (decide (Prod.fst (List.getD (Prod.snd (Prod.snd d)) (Int.toNat (↑x : Int)) ((0 : Int), (0 : Int), (0 : Int))) < Prod.fst (List.getD
  (Prod.snd (Prod.snd d)) (Int.toNat (IntKind.wrap IntKind.i64 ((↑x : Int) - (1 : Int)))) ((0 : Int), (0 : Int), (0 : Int)))) = true → false = planOkF d) ∧ (decide (Prod.fst (List.getD (Prod.snd (Prod.snd d)) (Int.toNat
  (↑x : Int)) ((0 : Int), (0 : Int), (0 : Int))) < Prod.fst (List.getD (Prod.snd (Prod.snd d)) (Int.toNat (IntKind.wrap IntKind.i64 ((↑x : Int) - (1 : Int)))) ((0 : Int), (0 : Int), (0 : Int)))) = false → ∃ (x' : Nat),
  (x' ≤ List.length (Prod.snd (Prod.snd d)) ∧ StepsP (Prod.fst (Prod.snd d)) (Prod.snd (Prod.snd d)) x') ∧ List.length (Prod.snd (Prod.snd d)) - x' < List.length (Prod.snd (Prod.snd d)) - x ∧ ((Prod.fst d = Prod.fst d ∧
  Prod.fst (Prod.snd d) = Prod.fst (Prod.snd d) ∧ Prod.snd (Prod.snd d) = Prod.snd (Prod.snd d)) ∧ IntKind.wrap IntKind.i64 ((↑x : Int) + (1 : Int)) = (↑x' : Int)) ∧ Prod.fst d = Prod.fst d ∧ Prod.fst (Prod.snd d) =
  Prod.fst (Prod.snd d) ∧ Prod.snd (Prod.snd d) = Prod.snd (Prod.snd d))) ∧ (decide ((0 : Int) < (↑x : Int)) = false → ∃ (x' : Nat), (x' ≤ List.length (Prod.snd (Prod.snd d)) ∧ StepsP (Prod.fst (Prod.snd d)) (Prod.snd
  (Prod.snd d)) x') ∧ List.length (Prod.snd (Prod.snd d)) - x' < List.length (Prod.snd (Prod.snd d)) - x ∧ ((Prod.fst d = Prod.fst d ∧ Prod.fst (Prod.snd d) = Prod.fst (Prod.snd d) ∧ Prod.snd (Prod.snd d) = Prod.snd
  (Prod.snd d)) ∧ IntKind.wrap IntKind.i64 ((↑x : Int) + (1 : Int)) = (↑x' : Int)) ∧ Prod.fst d = Prod.fst d ∧ Prod.fst (Prod.snd d) = Prod.fst (Prod.snd d) ∧ Prod.snd (Prod.snd d) = Prod.snd (Prod.snd d)))) ∧ (decide
  ((↑x : Int) < (↑(List.length (Prod.snd (Prod.snd d))) : Int)) = false → ((↑(0 : Nat) : Int) ≤ Prod.fst (Prod.snd d) ∧ OnceP (Prod.snd (Prod.snd d)) (Int.toNat (halfF (Prod.fst (Prod.snd d)))) (0 : Nat)) ∧ (((Prod.fst d
  = Prod.fst d ∧ Prod.fst (Prod.snd d) = Prod.fst (Prod.snd d) ∧ Prod.snd (Prod.snd d) = Prod.snd (Prod.snd d)) ∧ (0 : Int) = (↑(0 : Nat) : Int)) ∧ Prod.fst d = Prod.fst d ∧ Prod.fst (Prod.snd d) = Prod.fst (Prod.snd d)
  ∧ Prod.snd (Prod.snd d) = Prod.snd (Prod.snd d)) ∧ ∀ (x : Nat), (↑x : Int) ≤ Prod.fst (Prod.snd d) ∧ OnceP (Prod.snd (Prod.snd d)) (Int.toNat (halfF (Prod.fst (Prod.snd d)))) x → (decide ((↑x : Int) < Prod.fst
  (Prod.snd d)) = true → (↑(0 : Nat) : Int) ≤ halfF (Prod.fst (Prod.snd d)) ∧ (((Prod.fst d = Prod.fst d ∧ Prod.fst (Prod.snd d) = Prod.fst (Prod.snd d) ∧ Prod.snd (Prod.snd d) = Prod.snd (Prod.snd d)) ∧ (↑x : Int) = (↑x
  : Int) ∧ (0 : Int) = (↑(0 : Nat) : Int)) ∧ (Prod.fst d = Prod.fst d ∧ Prod.fst (Prod.snd d) = Prod.fst (Prod.snd d) ∧ Prod.snd (Prod.snd d) = Prod.snd (Prod.snd d)) ∧ [] = List.replicate (0 : Nat) (0 : Ty.den i64T)) ∧
  ∀ (x_1 : Nat), (↑x_1 : Int) ≤ halfF (Prod.fst (Prod.snd d)) → (0 : Int) ≤ IntKind.wrap IntKind.u64 (Prod.fst (Prod.snd d)) ∧ (2 : Int) ≠ (0 : Int) ∧ (decide ((↑x_1 : Int) < IntKind.wrap IntKind.i64 (Int.tdiv (ishl
  IntKind.i64 (1 : Int) (IntKind.wrap IntKind.u64 (Prod.fst (Prod.snd d)))) (2 : Int))) = true → (List.length (List.replicate x_1 (0 : Ty.den i64T)) + List.length [(0 : Int)]) * (8 : Nat) ≤ (140737488355328 : Nat) ∧ ∃
  (x' : Nat), (↑x' : Int) ≤ halfF (Prod.fst (Prod.snd d)) ∧ Int.toNat (halfF (Prod.fst (Prod.snd d))) - x' < Int.toNat (halfF (Prod.fst (Prod.snd d))) - x_1 ∧ ((Prod.fst d = Prod.fst d ∧ Prod.fst (Prod.snd d) = Prod.fst
  (Prod.snd d) ∧ Prod.snd (Prod.snd d) = Prod.snd (Prod.snd d)) ∧ (↑x : Int) = (↑x : Int) ∧ IntKind.wrap IntKind.i64 ((↑x_1 : Int) + (1 : Int)) = (↑x' : Int)) ∧ (Prod.fst d = Prod.fst d ∧ Prod.fst (Prod.snd d) = Prod.fst
  (Prod.snd d) ∧ Prod.snd (Prod.snd d) = Prod.snd (Prod.snd d)) ∧ List.replicate x_1 (0 : Ty.den i64T) ++ [(0 : Int)] = List.replicate x' (0 : Ty.den i64T)) ∧ (decide ((↑x_1 : Int) < IntKind.wrap IntKind.i64 (Int.tdiv
  (ishl IntKind.i64 (1 : Int) (IntKind.wrap IntKind.u64 (Prod.fst (Prod.snd d)))) (2 : Int))) = false → (0 : Nat) ≤ List.length (Prod.snd (Prod.snd d)) ∧ (((Prod.fst d = Prod.fst d ∧ Prod.fst (Prod.snd d) = Prod.fst
  (Prod.snd d) ∧ Prod.snd (Prod.snd d) = Prod.snd (Prod.snd d)) ∧ (↑x : Int) = (↑x : Int) ∧ (0 : Int) = (↑(0 : Nat) : Int)) ∧ (Prod.fst d = Prod.fst d ∧ Prod.fst (Prod.snd d) = Prod.fst (Prod.snd d) ∧ Prod.snd (Prod.snd
  d) = Prod.snd (Prod.snd d)) ∧ List.replicate x_1 (0 : Ty.den i64T) = metL (Int.toNat (halfF (Prod.fst (Prod.snd d)))) (Prod.snd (Prod.snd d)) x (0 : Nat)) ∧ ∀ (x_2 : Nat), x_2 ≤ List.length (Prod.snd (Prod.snd d)) →
  (decide ((↑x_2 : Int) < (↑(List.length (Prod.snd (Prod.snd d))) : Int)) = true → ((0 : Int) ≤ (↑x_2 : Int) ∧ (↑x_2 : Int) < (↑(List.length (Prod.snd (Prod.snd d))) : Int)) ∧ (decide (Prod.fst (List.getD (Prod.snd
  (Prod.snd d)) (Int.toNat (↑x_2 : Int)) ((0 : Int), (0 : Int), (0 : Int))) = (↑x : Int)) = true → ((0 : Int) ≤ (↑x_2 : Int) ∧ (↑x_2 : Int) < (↑(List.length (Prod.snd (Prod.snd d))) : Int)) ∧ (Prod.fst (Prod.snd
  (List.getD (Prod.snd (Prod.snd d)) x_2 ((0 : Int), (0 : Int), (0 : Int)))) ≤ (↑(Int.toNat (Prod.fst (Prod.snd (List.getD (Prod.snd (Prod.snd d)) x_2 ((0 : Int), (0 : Int), (0 : Int)))))) : Int) ∧ (↑(Int.toNat (Prod.fst
  (Prod.snd (List.getD (Prod.snd (Prod.snd d)) x_2 ((0 : Int), (0 : Int), (0 : Int)))))) : Int) ≤ Prod.snd (Prod.snd (List.getD (Prod.snd (Prod.snd d)) x_2 ((0 : Int), (0 : Int), (0 : Int))))) ∧ (((Prod.fst d = Prod.fst
  d ∧ Prod.fst (Prod.snd d) = Prod.fst (Prod.snd d) ∧ Prod.snd (Prod.snd d) = Prod.snd (Prod.snd d)) ∧ (↑x : Int) = (↑x : Int) ∧ (↑x_2 : Int) = (↑x_2 : Int) ∧ Prod.fst (Prod.snd (List.getD (Prod.snd (Prod.snd d))
  (Int.toNat (↑x_2 : Int)) ((0 : Int), (0 : Int), (0 : Int)))) = (↑(Int.toNat (Prod.fst (Prod.snd (List.getD (Prod.snd (Prod.snd d)) x_2 ((0 : Int), (0 : Int), (0 : Int)))))) : Int)) ∧ (Prod.fst d = Prod.fst d ∧ Prod.fst
  (Prod.snd d) = Prod.fst (Prod.snd d) ∧ Prod.snd (Prod.snd d) = Prod.snd (Prod.snd d)) ∧ metL (Int.toNat (halfF (Prod.fst (Prod.snd d)))) (Prod.snd (Prod.snd d)) x x_2 = metM (Int.toNat (halfF (Prod.fst (Prod.snd d))))
  (Prod.snd (Prod.snd d)) x x_2 (Prod.fst (Prod.snd (List.getD (Prod.snd (Prod.snd d)) x_2 ((0 : Int), (0 : Int), (0 : Int))))) (Int.toNat (Prod.fst (Prod.snd (List.getD (Prod.snd (Prod.snd d)) x_2 ((0 : Int), (0 : Int),
  (0 : Int))))))) ∧ ∀ (x_3 : Nat), Prod.fst (Prod.snd (List.getD (Prod.snd (Prod.snd d)) x_2 ((0 : Int), (0 : Int), (0 : Int)))) ≤ (↑x_3 : Int) ∧ (↑x_3 : Int) ≤ Prod.snd (Prod.snd (List.getD (Prod.snd (Prod.snd d)) x_2
  ((0 : Int), (0 : Int), (0 : Int)))) → ((0 : Int) ≤ (↑x_2 : Int) ∧ (↑x_2 : Int) < (↑(List.length (Prod.snd (Prod.snd d))) : Int)) ∧ (decide ((↑x_3 : Int) < Prod.snd (Prod.snd (List.getD (Prod.snd (Prod.snd d))
  (Int.toNat (↑x_2 : Int)) ((0 : Int), (0 : Int), (0 : Int))))) = true → ((0 : Int) ≤ (↑x_3 : Int) ∧ (↑x_3 : Int) < (↑(List.length (metM (Int.toNat (halfF (Prod.fst (Prod.snd d)))) (Prod.snd (Prod.snd d)) x x_2 (Prod.fst
  (Prod.snd (List.getD (Prod.snd (Prod.snd d)) x_2 ((0 : Int), (0 : Int), (0 : Int))))) x_3)) : Int)) ∧ ((0 : Int) ≤ (↑x_3 : Int) ∧ (↑x_3 : Int) < (↑(List.length (metM (Int.toNat (halfF (Prod.fst (Prod.snd d))))
  (Prod.snd (Prod.snd d)) x x_2 (Prod.fst (Prod.snd (List.getD (Prod.snd (Prod.snd d)) x_2 ((0 : Int), (0 : Int), (0 : Int))))) x_3)) : Int)) ∧ ∃ (x' : Nat), (Prod.fst (Prod.snd (List.getD (Prod.snd (Prod.snd d)) x_2 ((0
  : Int), (0 : Int), (0 : Int)))) ≤ (↑x' : Int) ∧ (↑x' : Int) ≤ Prod.snd (Prod.snd (List.getD (Prod.snd (Prod.snd d)) x_2 ((0 : Int), (0 : Int), (0 : Int))))) ∧ Int.toNat (Prod.snd (Prod.snd (List.getD (Prod.snd
  (Prod.snd d)) x_2 ((0 : Int), (0 : Int), (0 : Int))))) - x' < Int.toNat (Prod.snd (Prod.snd (List.getD (Prod.snd (Prod.snd d)) x_2 ((0 : Int), (0 : Int), (0 : Int))))) - x_3 ∧ ((Prod.fst d = Prod.fst d ∧ Prod.fst
  (Prod.snd d) = Prod.fst (Prod.snd d) ∧ Prod.snd (Prod.snd d) = Prod.snd (Prod.snd d)) ∧ (↑x : Int) = (↑x : Int) ∧ (↑x_2 : Int) = (↑x_2 : Int) ∧ IntKind.wrap IntKind.i64 ((↑x_3 : Int) + (1 : Int)) = (↑x' : Int)) ∧
  (Prod.fst d = Prod.fst d ∧ Prod.fst (Prod.snd d) = Prod.fst (Prod.snd d) ∧ Prod.snd (Prod.snd d) = Prod.snd (Prod.snd d)) ∧ List.set (metM (Int.toNat (halfF (Prod.fst (Prod.snd d)))) (Prod.snd (Prod.snd d)) x x_2
  (Prod.fst (Prod.snd (List.getD (Prod.snd (Prod.snd d)) x_2 ((0 : Int), (0 : Int), (0 : Int))))) x_3) (Int.toNat (↑x_3 : Int)) (IntKind.wrap IntKind.i64 (List.getD (metM (Int.toNat (halfF (Prod.fst (Prod.snd d))))
  (Prod.snd (Prod.snd d)) x x_2 (Prod.fst (Prod.snd (List.getD (Prod.snd (Prod.snd d)) x_2 ((0 : Int), (0 : Int), (0 : Int))))) x_3) (Int.toNat (↑x_3 : Int)) (0 : Int) + (1 : Int))) = metM (Int.toNat (halfF (Prod.fst
  (Prod.snd d)))) (Prod.snd (Prod.snd d)) x x_2 (Prod.fst (Prod.snd (List.getD (Prod.snd (Prod.snd d)) x_2 ((0 : Int), (0 : Int), (0 : Int))))) x') ∧ (decide ((↑x_3 : Int) < Prod.snd (Prod.snd (List.getD (Prod.snd
  (Prod.snd d)) (Int.toNat (↑x_2 : Int)) ((0 : Int), (0 : Int), (0 : Int))))) = false → ∃ (x' : Nat), x' ≤ List.length (Prod.snd (Prod.snd d)) ∧ List.length (Prod.snd (Prod.snd d)) - x' < List.length (Prod.snd (Prod.snd
  d)) - x_2 ∧ ((Prod.fst d = Prod.fst d ∧ Prod.fst (Prod.snd d) = Prod.fst (Prod.snd d) ∧ Prod.snd (Prod.snd d) = Prod.snd (Prod.snd d)) ∧ (↑x : Int) = (↑x : Int) ∧ IntKind.wrap IntKind.i64 ((↑x_2 : Int) + (1 : Int)) =
  (↑x' : Int)) ∧ (Prod.fst d = Prod.fst d ∧ Prod.fst (Prod.snd d) = Prod.fst (Prod.snd d) ∧ Prod.snd (Prod.snd d) = Prod.snd (Prod.snd d)) ∧ metM (Int.toNat (halfF (Prod.fst (Prod.snd d)))) (Prod.snd (Prod.snd d)) x x_2
  (Prod.fst (Prod.snd (List.getD (Prod.snd (Prod.snd d)) x_2 ((0 : Int), (0 : Int), (0 : Int))))) x_3 = metL (Int.toNat (halfF (Prod.fst (Prod.snd d)))) (Prod.snd (Prod.snd d)) x x')) ∧ (decide (Prod.fst (List.getD
  (Prod.snd (Prod.snd d)) (Int.toNat (↑x_2 : Int)) ((0 : Int), (0 : Int), (0 : Int))) = (↑x : Int)) = false → ∃ (x' : Nat), x' ≤ List.length (Prod.snd (Prod.snd d)) ∧ List.length (Prod.snd (Prod.snd d)) - x' <
  List.length (Prod.snd (Prod.snd d)) - x_2 ∧ ((Prod.fst d = Prod.fst d ∧ Prod.fst (Prod.snd d) = Prod.fst (Prod.snd d) ∧ Prod.snd (Prod.snd d) = Prod.snd (Prod.snd d)) ∧ (↑x : Int) = (↑x : Int) ∧ IntKind.wrap
  IntKind.i64 ((↑x_2 : Int) + (1 : Int)) = (↑x' : Int)) ∧ (Prod.fst d = Prod.fst d ∧ Prod.fst (Prod.snd d) = Prod.fst (Prod.snd d) ∧ Prod.snd (Prod.snd d) = Prod.snd (Prod.snd d)) ∧ metL (Int.toNat (halfF (Prod.fst
  (Prod.snd d)))) (Prod.snd (Prod.snd d)) x x_2 = metL (Int.toNat (halfF (Prod.fst (Prod.snd d)))) (Prod.snd (Prod.snd d)) x x')) ∧ (decide ((↑x_2 : Int) < (↑(List.length (Prod.snd (Prod.snd d))) : Int)) = false → ((0 :
  Nat) ≤ Int.toNat (halfF (Prod.fst (Prod.snd d))) ∧ ∀ (a : Nat), a < (0 : Nat) → cnt (Prod.snd (Prod.snd d)) x a = (1 : Nat)) ∧ (((Prod.fst d = Prod.fst d ∧ Prod.fst (Prod.snd d) = Prod.fst (Prod.snd d) ∧ Prod.snd
  (Prod.snd d) = Prod.snd (Prod.snd d)) ∧ (↑x : Int) = (↑x : Int) ∧ (0 : Int) = (↑(0 : Nat) : Int)) ∧ (Prod.fst d = Prod.fst d ∧ Prod.fst (Prod.snd d) = Prod.fst (Prod.snd d) ∧ Prod.snd (Prod.snd d) = Prod.snd (Prod.snd
  d)) ∧ metL (Int.toNat (halfF (Prod.fst (Prod.snd d)))) (Prod.snd (Prod.snd d)) x x_2 = metL (Int.toNat (halfF (Prod.fst (Prod.snd d)))) (Prod.snd (Prod.snd d)) x x_2) ∧ ∀ (x_3 : Nat), (x_3 ≤ Int.toNat (halfF (Prod.fst
  (Prod.snd d))) ∧ ∀ (a : Nat), a < x_3 → cnt (Prod.snd (Prod.snd d)) x a = (1 : Nat)) → (decide ((↑x_3 : Int) < (↑(List.length (metL (Int.toNat (halfF (Prod.fst (Prod.snd d)))) (Prod.snd (Prod.snd d)) x x_2)) : Int)) =
  true → ((0 : Int) ≤ (↑x_3 : Int) ∧ (↑x_3 : Int) < (↑(List.length (metL (Int.toNat (halfF (Prod.fst (Prod.snd d)))) (Prod.snd (Prod.snd d)) x x_2)) : Int)) ∧ ((!decide (List.getD (metL (Int.toNat (halfF (Prod.fst
  (Prod.snd d)))) (Prod.snd (Prod.snd d)) x x_2) (Int.toNat (↑x_3 : Int)) (0 : Int) = (1 : Int))) = true → false = planOkF d) ∧ ((!decide (List.getD (metL (Int.toNat (halfF (Prod.fst (Prod.snd d)))) (Prod.snd (Prod.snd
  d)) x x_2) (Int.toNat (↑x_3 : Int)) (0 : Int) = (1 : Int))) = false → ∃ (x' : Nat), (x' ≤ Int.toNat (halfF (Prod.fst (Prod.snd d))) ∧ ∀ (a : Nat), a < x' → cnt (Prod.snd (Prod.snd d)) x a = (1 : Nat)) ∧ Int.toNat
  (halfF (Prod.fst (Prod.snd d))) - x' < Int.toNat (halfF (Prod.fst (Prod.snd d))) - x_3 ∧ ((Prod.fst d = Prod.fst d ∧ Prod.fst (Prod.snd d) = Prod.fst (Prod.snd d) ∧ Prod.snd (Prod.snd d) = Prod.snd (Prod.snd d)) ∧ (↑x
  : Int) = (↑x : Int) ∧ IntKind.wrap IntKind.i64 ((↑x_3 : Int) + (1 : Int)) = (↑x' : Int)) ∧ (Prod.fst d = Prod.fst d ∧ Prod.fst (Prod.snd d) = Prod.fst (Prod.snd d) ∧ Prod.snd (Prod.snd d) = Prod.snd (Prod.snd d)) ∧
  metL (Int.toNat (halfF (Prod.fst (Prod.snd d)))) (Prod.snd (Prod.snd d)) x x_2 = metL (Int.toNat (halfF (Prod.fst (Prod.snd d)))) (Prod.snd (Prod.snd d)) x x_2)) ∧ (decide ((↑x_3 : Int) < (↑(List.length (metL
  (Int.toNat (halfF (Prod.fst (Prod.snd d)))) (Prod.snd (Prod.snd d)) x x_2)) : Int)) = false → ∃ (x' : Nat), ((↑x' : Int) ≤ Prod.fst (Prod.snd d) ∧ OnceP (Prod.snd (Prod.snd d)) (Int.toNat (halfF (Prod.fst (Prod.snd
  d)))) x') ∧ Int.toNat (Prod.fst (Prod.snd d)) - x' < Int.toNat (Prod.fst (Prod.snd d)) - x ∧ ((Prod.fst d = Prod.fst d ∧ Prod.fst (Prod.snd d) = Prod.fst (Prod.snd d) ∧ Prod.snd (Prod.snd d) = Prod.snd (Prod.snd d)) ∧
  IntKind.wrap IntKind.i64 ((↑x : Int) + (1 : Int)) = (↑x' : Int)) ∧ Prod.fst d = Prod.fst d ∧ Prod.fst (Prod.snd d) = Prod.fst (Prod.snd d) ∧ Prod.snd (Prod.snd d) = Prod.snd (Prod.snd d))))) ∧ (decide ((↑x : Int) <
  Prod.fst (Prod.snd d)) = false → true = planOkF d)))) := by
  intro (d : Pl) hw _
  obtain ⟨f, k, xs⟩ := d
  simp only [Int.toNat_natCast, exists_const, and_true, true_and, implies_true, decide_eq_true_eq, decide_eq_false_iff_not, Bool.not_eq_true', Bool.not_eq_false', beq_iff_eq, forall_const]
  refine ⟨fun h => by unfold planOkF; rw [h]; rfl, fun h => ⟨fun h1 => ?_, fun h1 => ⟨⟨Nat.zero_le _, fun j hj => by omega⟩, rfl, fun x hx => ⟨fun hlt => ?_, fun hge => ?_⟩⟩⟩⟩
  · unfold planOkF
    rw [decide_eq_false (show ¬ (f, k, xs).2.2.length ≤ 600 by simp only; omega)]; simp
  · have hlg := log_iff.1 h
    have hlt' : x < xs.length := by omega
    have hex : stepOkF k (xs.getD x (0, 0, 0)) = true → (0 < x → (xs.getD (x - 1) (0, 0, 0)).1 ≤ (xs.getD x (0, 0, 0)).1) → ∃ x', (x' ≤ xs.length ∧ StepsP k xs x') ∧ xs.length - x' < xs.length - x ∧ IntKind.i64.wrap ((x : Int) + 1) = (x' : Int) :=
      fun a b => ⟨x + 1, ⟨by omega, steps_succ hx.2 a b⟩, by omega, wrap_succ (by omega)⟩
    refine ⟨⟨by omega, by omega⟩, ⟨hlg.2.1, hlg.2.2.1⟩, fun h2 => plan_no1 hlt' (fun hh => by rw [show stepOkF k (xs.getD x (0, 0, 0)) = false from h2] at hh; cases hh.1), fun h2 => ⟨fun h3 => ?_, fun h3 => hex h2 (fun hh => by omega)⟩⟩
    have hw1 : IntKind.i64.wrap ((x : Int) - 1) = (x : Int) - 1 := wrap_small (by omega)
    rw [hw1]
    have hn : ((x : Int) - 1).toNat = x - 1 := by omega
    rw [hn]
    exact ⟨⟨by omega, by omega⟩, ⟨by omega, by omega⟩, fun h4 => plan_no1 hlt' (fun hh => by have := hh.2 (by omega); simp only at this; omega), fun h4 => hex h2 (fun _ => by omega)⟩
  · have hlg := log_iff.1 h
    have hkk : (0 : Int) ≤ k ∧ k ≤ 9 := ⟨hlg.2.1, hlg.2.2.1⟩
    obtain ⟨p1, p2, p3, p4, _⟩ := half_spec hkk
    have hxl : x = xs.length := by omega
    subst hxl
    refine ⟨⟨by omega, fun l hl => by omega⟩, rfl, fun s hs => ⟨fun hsk => ?_, fun hsk => ?_⟩⟩
    · rw [p1]
      have hL : xs.length ≤ 600 := by omega
      refine ⟨by omega, ⟨rfl, rfl⟩, fun b hb => ⟨p4, by omega, fun hlt => ⟨by simp; omega, b + 1, by omega, by omega, wrap_succ (by omega), by rw [List.replicate_succ']⟩, fun hge2 => ?_⟩⟩
      have hbh : b = (halfF k).toNat := by omega
      subst hbh
      refine ⟨Nat.zero_le _, ⟨rfl, met_zero _ _ _⟩, fun i hi => ⟨fun hil => ?_, fun hil => ?_⟩⟩
      · have hil' : i < xs.length := by omega
        have hst := step_iff.1 (hx.2 i hil').1
        refine ⟨⟨by omega, by omega⟩, fun hlv => ?_, fun hlv => ⟨i + 1, by omega, by omega, wrap_succ (by omega), met_other hil' hlv⟩⟩
        refine ⟨⟨by omega, by omega⟩, ⟨by omega, by omega⟩, ⟨by omega, met_start _ _ _ _ (by omega)⟩, fun c hc => ⟨⟨by omega, by omega⟩, fun hcl => ?_, fun hcl => ?_⟩⟩
        · have hch : c < (halfF k).toNat := by omega
          rw [metM_len]
          exact ⟨⟨by omega, by omega⟩, ⟨by omega, by omega⟩, c + 1, ⟨by omega, by omega⟩, by omega, wrap_succ (by omega), met_step hch hc.1 hL⟩
        · exact ⟨i + 1, by omega, by omega, wrap_succ (by omega), met_done hil' hlv (by omega)⟩
      · have hie : i = xs.length := by omega
        subst hie
        refine ⟨⟨Nat.zero_le _, fun a ha => by omega⟩, rfl, fun b hb => ⟨fun hlt => ?_, fun hge3 => ?_⟩⟩
        · rw [met_len] at hlt ⊢
          have hbh : b < (halfF k).toNat := by omega
          rw [met_get hbh]
          refine ⟨⟨by omega, by omega⟩, fun hn1 => plan_no2 (l := s) (b := b) hsk (by show (b : Int) < halfF k; omega) (by simp only; omega), fun h1' => ⟨b + 1, ⟨by omega, fun a ha => ?_⟩, by omega, wrap_succ (by omega)⟩⟩
          by_cases e : a = b
          · subst e; omega
          · exact hb.2 a (by omega)
        · rw [met_len] at hge3
          refine ⟨s + 1, ⟨by omega, fun l hl a ha => ?_⟩, by omega, wrap_succ (by omega)⟩
          by_cases e : l = s
          · subst e; exact hb.2 a (by omega)
          · exact hs.2 l (by omega) a ha
    · have hse : s = k.toNat := by omega
      subst hse
      exact plan_yes h (by show xs.length ≤ 600; omega) hx.2 hs.2
end Go.SF
