/- What is owed of the code of plans. No condition. -/
import Derived.Test.YtdomcnkhdnagiaaSxC
import Derived.Test.YtdomcnkhdnagiaaSxPField
namespace Go.SF
open Go.SX Go
set_option linter.unusedVariables false
set_option linter.unusedSimpArgs false
set_option maxRecDepth 10000
theorem half_spec_at : ∀ k : Fin 10, IntKind.i64.wrap ((ishl .i64 1 (IntKind.u64.wrap (k.val : Int))).tdiv 2) = halfF (k.val : Int) ∧ 0 ≤ halfF (k.val : Int) ∧ halfF (k.val : Int) ≤ 256 ∧ 0 ≤ IntKind.u64.wrap (k.val : Int) ∧ (1 ≤ k.val → ishl .i64 1 (IntKind.i64.wrap ((k.val : Int) - 1)) = halfF (k.val : Int)) ∧
    ishl .i64 1 (IntKind.u64.wrap (k.val : Int)) = 2 ^ k.val ∧ ishl .i64 1 (k.val : Int) = 2 ^ k.val ∧
    IntKind.i64.wrap ((ishl .i64 (k.val : Int) (k.val : Int)).tdiv 2) = (k.val : Int) * halfF (k.val : Int) := by decide +kernel
theorem half_spec {k : Int} (h : 0 ≤ k ∧ k ≤ 9) : IntKind.i64.wrap ((ishl .i64 1 (IntKind.u64.wrap k)).tdiv 2) = halfF k ∧ 0 ≤ halfF k ∧ halfF k ≤ 256 ∧ 0 ≤ IntKind.u64.wrap k ∧ (1 ≤ k → ishl .i64 1 (IntKind.i64.wrap (k - 1)) = halfF k) ∧
    ishl .i64 1 (IntKind.u64.wrap k) = 2 ^ k.toNat ∧ ishl .i64 1 k = 2 ^ k.toNat ∧ IntKind.i64.wrap ((ishl .i64 k k).tdiv 2) = k * halfF k := by
  have := half_spec_at ⟨k.toNat, by omega⟩
  simp only [Int.toNat_of_nonneg h.1] at this
  refine ⟨this.1, this.2.1, this.2.2.1, this.2.2.2.1, fun h1 => this.2.2.2.2.1 (by omega), this.2.2.2.2.2.1, this.2.2.2.2.2.2.1, this.2.2.2.2.2.2.2⟩
theorem rgm_len {α : Type} (h : Nat) (f : Nat → α) : ((List.range h).map f).length = h := by simp
theorem rgm_get {α : Type} {h i : Nat} {z : α} (f : Nat → α) (hi : i < h) : ((List.range h).map f).getD i z = f i := by simp [List.getD_eq_getElem?_getD, hi]
theorem rgm_eq {α : Type} {h : Nat} {f g : Nat → α} (e : ∀ b, b < h → f b = g b) : (List.range h).map f = (List.range h).map g :=
  List.map_congr_left (fun b hb => e b (List.mem_range.1 hb))
theorem rgm_set {α : Type} {h c : Nat} {f g : Nat → α} {v : α} (hv : v = g c) (e : ∀ b, b < h → b ≠ c → f b = g b) : ((List.range h).map f).set c v = (List.range h).map g := by
  apply List.ext_getElem
  · simp
  · intro i h1 h2
    rw [rgm_len] at h2
    rw [List.getElem_set]
    by_cases hc : c = i
    · subst hc; rw [if_pos rfl, hv]; simp
    · rw [if_neg hc]; simp only [List.getElem_map, List.getElem_range]; exact e i h2 (fun hh => hc hh.symm)
theorem cnt_succ {xs : List Sp} {i : Nat} (h : i < xs.length) (l b : Nat) : cnt (xs.take (i + 1)) l b = cnt (xs.take i) l b + (if (xs.getD i (0, 0, 0)).1 = (l : Int) ∧ (xs.getD i (0, 0, 0)).2.1 ≤ (b : Int) ∧ (b : Int) < (xs.getD i (0, 0, 0)).2.2 then 1 else 0) := by
  unfold cnt
  rw [← tk_succ (z := ((0 : Int), (0 : Int), (0 : Int))) h, List.countP_append]
  simp only [List.countP_cons, List.countP_nil, decide_eq_true_eq, Nat.zero_add]
theorem cnt_le (xs : List Sp) (l b : Nat) : cnt xs l b ≤ xs.length := List.countP_le_length
theorem cnt_mono (xs : List Sp) (i l b : Nat) : cnt (xs.take i) l b ≤ cnt xs l b := by
  unfold cnt
  exact (List.take_sublist i xs).countP_le
theorem plan_no1 {p : Pl} {i : Nat} (hi : i < p.2.2.length) (h : ¬ (stepOkF p.2.1 (p.2.2.getD i (0, 0, 0)) = true ∧ (0 < i → (p.2.2.getD (i - 1) (0, 0, 0)).1 ≤ (p.2.2.getD i (0, 0, 0)).1))) : false = planOkF p := by
  unfold planOkF
  rw [decide_eq_false (fun hs : StepsP p.2.1 p.2.2 p.2.2.length => h (hs i hi))]
  simp
theorem plan_no2 {p : Pl} {l b : Nat} (hl : (l : Int) < p.2.1) (hb : (b : Int) < halfF p.2.1) (h : cnt p.2.2 l b ≠ 1) : false = planOkF p := by
  unfold planOkF
  rw [decide_eq_false (fun hs : OnceP p.2.2 (halfF p.2.1).toNat p.2.1.toNat => h (hs l (by omega) b (by omega)))]
  simp
theorem steps_succ {k : Int} {xs : List Sp} {i : Nat} (h : StepsP k xs i) (h1 : stepOkF k (xs.getD i (0, 0, 0)) = true) (h2 : 0 < i → (xs.getD (i - 1) (0, 0, 0)).1 ≤ (xs.getD i (0, 0, 0)).1) : StepsP k xs (i + 1) := by
  intro j hj
  by_cases e : j = i
  · subst e; exact ⟨h1, h2⟩
  · exact h j (by omega)
theorem step_iff {k : Int} {s : Sp} : stepOkF k s = true ↔ 0 ≤ s.1 ∧ s.1 ≤ k - 1 ∧ 0 ≤ s.2.1 ∧ s.2.1 < s.2.2 ∧ s.2.2 ≤ halfF k := by
  unfold stepOkF
  simp only [Bool.and_eq_true, decide_eq_true_eq]
  constructor
  · rintro ⟨⟨⟨⟨a, b⟩, c⟩, d⟩, e⟩; exact ⟨a, b, c, d, e⟩
  · rintro ⟨a, b, c, d, e⟩; exact ⟨⟨⟨⟨a, b⟩, c⟩, d⟩, e⟩
theorem log_iff {f k : Int} : logOkF f k = true ↔ 0 < modF f ∧ 0 ≤ k ∧ k ≤ 9 ∧ k ≤ twoF f := by
  unfold logOkF
  simp only [Bool.and_eq_true, decide_eq_true_eq]
  constructor
  · rintro ⟨⟨a, b, c⟩, d⟩; exact ⟨a, b, c, d⟩
  · rintro ⟨a, b, c, d⟩; exact ⟨⟨a, b, c⟩, d⟩
theorem plan_yes {p : Pl} (h1 : logOkF p.1 p.2.1 = true) (h2 : p.2.2.length ≤ 600) (h3 : StepsP p.2.1 p.2.2 p.2.2.length) (h4 : OnceP p.2.2 (halfF p.2.1).toNat p.2.1.toNat) : true = planOkF p := by
  unfold planOkF
  rw [h1, decide_eq_true h2, decide_eq_true h3, decide_eq_true h4]; rfl
theorem met_len (h : Nat) (xs : List Sp) (l i : Nat) : (metL h xs l i).length = h := rgm_len _ _
theorem metM_len (h : Nat) (xs : List Sp) (l i : Nat) (lo : Int) (c : Nat) : (metM h xs l i lo c).length = h := rgm_len _ _
theorem met_zero (h : Nat) (xs : List Sp) (l : Nat) : List.replicate h (0 : Int) = metL h xs l 0 := by
  unfold metL
  rw [show (fun b => ((cnt (xs.take 0) l b : Nat) : Int)) = fun _ => 0 by funext b; simp [cnt], List.map_const', List.length_range]
theorem met_start (h : Nat) (xs : List Sp) (l i : Nat) {lo : Int} (h0 : 0 ≤ lo) : metL h xs l i = metM h xs l i lo lo.toNat := by
  refine rgm_eq (fun b _ => ?_)
  rw [if_neg (by omega)]; omega
theorem met_step {h : Nat} {xs : List Sp} {l i : Nat} {lo : Int} {c : Nat} (hc : c < h) (hlo : lo ≤ (c : Int)) (hl : xs.length ≤ 600) : (metM h xs l i lo c).set c (IntKind.i64.wrap ((metM h xs l i lo c).getD c 0 + 1)) = metM h xs l i lo (c + 1) := by
  have hg : (metM h xs l i lo c).getD c 0 = ((cnt (xs.take i) l c : Nat) : Int) := by
    unfold metM
    rw [rgm_get _ hc, if_neg (by omega)]; omega
  have hle := cnt_le (xs.take i) l c
  have h2 : (xs.take i).length ≤ 600 := by rw [List.length_take]; omega
  rw [hg, wrap_small (by omega)]
  refine rgm_set ?_ (fun b hb hne => ?_)
  · rw [if_pos (by omega)]
  · by_cases hx : lo ≤ (b : Int) ∧ b < c
    · rw [if_pos hx, if_pos (by omega)]
    · rw [if_neg hx, if_neg (by omega)]
theorem met_done {h : Nat} {xs : List Sp} {l i c : Nat} (hi : i < xs.length) (hl : (xs.getD i (0, 0, 0)).1 = (l : Int)) (hc : (c : Int) = (xs.getD i (0, 0, 0)).2.2) : metM h xs l i (xs.getD i (0, 0, 0)).2.1 c = metL h xs l (i + 1) := by
  refine rgm_eq (fun b _ => ?_)
  rw [cnt_succ hi]
  by_cases hx : (xs.getD i (0, 0, 0)).2.1 ≤ (b : Int) ∧ b < c
  · rw [if_pos hx, if_pos ⟨hl, hx.1, by omega⟩]; omega
  · rw [if_neg hx, if_neg (fun hh => hx ⟨hh.2.1, by omega⟩)]; omega
theorem met_other {h : Nat} {xs : List Sp} {l i : Nat} (hi : i < xs.length) (hl : ¬ (xs.getD i (0, 0, 0)).1 = (l : Int)) : metL h xs l i = metL h xs l (i + 1) := by
  refine rgm_eq (fun b _ => ?_)
  rw [cnt_succ hi, if_neg (fun hh => hl hh.1)]; omega
theorem met_get {h : Nat} {xs : List Sp} {l b : Nat} (hb : b < h) : (metL h xs l xs.length).getD b 0 = ((cnt xs l b : Nat) : Int) := by
  unfold metL
  rw [rgm_get _ hb, List.take_length]
end Go.SF
