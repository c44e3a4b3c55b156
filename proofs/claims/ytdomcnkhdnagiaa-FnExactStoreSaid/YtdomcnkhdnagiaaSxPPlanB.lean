/- What is owed of the code of the program's test of plans. No condition. -/
import Derived.Test.YtdomcnkhdnagiaaSxC
import Derived.Test.YtdomcnkhdnagiaaSxPPlan
namespace Go.SF
open Go.SX Go
set_option linter.unusedVariables false
set_option linter.unusedSimpArgs false
set_option maxRecDepth 10000
def sumN (h : Nat) (f : Nat → Nat) : Nat := ((List.range h).map f).sum
theorem sumN_succ (h : Nat) (f : Nat → Nat) : sumN (h + 1) f = sumN h f + f h := by
  unfold sumN; rw [List.range_succ, List.map_append, List.sum_append]; simp
theorem sumN_congr {h : Nat} {f g : Nat → Nat} (e : ∀ b, b < h → f b = g b) : sumN h f = sumN h g := by
  unfold sumN; rw [rgm_eq e]
theorem sumN_zero : ∀ h, sumN h (fun _ => 0) = 0
  | 0 => rfl
  | h + 1 => by rw [sumN_succ, sumN_zero h]
theorem sumN_add (h : Nat) (f g : Nat → Nat) : sumN h (fun b => f b + g b) = sumN h f + sumN h g := by
  induction h with
  | zero => rfl
  | succ h ih => rw [sumN_succ, sumN_succ, sumN_succ, ih]; omega
theorem sumN_ind (lo hi : Nat) : ∀ h, sumN h (fun b => if lo ≤ b ∧ b < hi then 1 else 0) = min h hi - min h lo
  | 0 => by simp [sumN]
  | h + 1 => by
    rw [sumN_succ, sumN_ind lo hi h]
    split <;> omega
theorem sumN_one (a v : Nat) : ∀ h, sumN h (fun l => if l = a then v else 0) = if a < h then v else 0
  | 0 => by simp [sumN]
  | h + 1 => by
    rw [sumN_succ, sumN_one a v h]
    by_cases e : h = a
    · subst e; rw [if_neg (by omega), if_pos rfl, if_pos (by omega)]; omega
    · rw [if_neg e]
      by_cases e2 : a < h
      · rw [if_pos e2, if_pos (by omega), Nat.add_zero]
      · rw [if_neg e2, if_neg (by omega)]
theorem sumN_full {H : Nat} {f : Nat → Nat} : ∀ {h : Nat}, (∀ b, b < h → f b ≤ H) → sumN h f ≤ h * H ∧ (sumN h f = h * H ↔ ∀ b, b < h → f b = H)
  | 0, _ => ⟨by simp [sumN], ⟨fun _ b hb => by omega, fun _ => by simp [sumN]⟩⟩
  | h + 1, hb => by
    obtain ⟨h1, h2⟩ := sumN_full (h := h) (fun b hh => hb b (by omega))
    have h3 := hb h (by omega)
    rw [sumN_succ, Nat.add_mul, Nat.one_mul]
    refine ⟨by omega, ⟨fun e b hbb => ?_, fun e => ?_⟩⟩
    · by_cases e2 : b = h
      · subst e2; omega
      · exact h2.1 (by omega) b (by omega)
    · rw [h2.2 (fun b hbb => e b (by omega)), e h (by omega)]
def totalN (xs : List Sp) (K H : Nat) : Nat := sumN K (fun l => sumN H (fun b => cnt xs l b))
theorem total_succ {k : Int} {xs : List Sp} {i K H : Nat} (hi : i < xs.length) (h : stepOkF k (xs.getD i (0, 0, 0)) = true) (hK : (K : Int) = k) (hH : (H : Int) = halfF k) :
    (totalN (xs.take (i + 1)) K H : Int) = (totalN (xs.take i) K H : Int) + ((xs.getD i (0, 0, 0)).2.2 - (xs.getD i (0, 0, 0)).2.1) := by
  obtain ⟨s1, s2, s3, s4, s5⟩ := step_iff.1 h
  have e1 : totalN (xs.take (i + 1)) K H = totalN (xs.take i) K H + sumN K (fun l => if l = (xs.getD i (0, 0, 0)).1.toNat then (xs.getD i (0, 0, 0)).2.2.toNat - (xs.getD i (0, 0, 0)).2.1.toNat else 0) := by
    unfold totalN
    rw [← sumN_add]
    refine sumN_congr (fun l hl => ?_)
    by_cases e : l = (xs.getD i (0, 0, 0)).1.toNat
    · rw [if_pos e, ← show sumN H (fun b => if (xs.getD i (0, 0, 0)).2.1.toNat ≤ b ∧ b < (xs.getD i (0, 0, 0)).2.2.toNat then 1 else 0) = (xs.getD i (0, 0, 0)).2.2.toNat - (xs.getD i (0, 0, 0)).2.1.toNat by rw [sumN_ind]; omega, ← sumN_add]
      refine sumN_congr (fun b hb => ?_)
      rw [cnt_succ hi]
      congr 1
      by_cases e2 : (xs.getD i (0, 0, 0)).2.1.toNat ≤ b ∧ b < (xs.getD i (0, 0, 0)).2.2.toNat
      · rw [if_pos e2, if_pos (by omega)]
      · rw [if_neg e2, if_neg (by omega)]
    · rw [if_neg e, Nat.add_zero]
      refine sumN_congr (fun b hb => ?_)
      rw [cnt_succ hi, if_neg (by omega)]; omega
  rw [e1, sumN_one, if_pos (by omega)]
  omega
theorem many_succ {xs : List Sp} {i : Nat} (hi : i < xs.length) : manyF (xs.take (i + 1)) = manyF (xs.take i) + ((xs.getD i (0, 0, 0)).2.2 - (xs.getD i (0, 0, 0)).2.1) := by
  unfold manyF
  rw [← tk_succ (z := ((0 : Int), (0 : Int), (0 : Int))) hi, List.map_append, List.sum_append]
  simp
theorem many_total {k : Int} {xs : List Sp} {K H : Nat} (hK : (K : Int) = k) (hH : (H : Int) = halfF k) : ∀ i, i ≤ xs.length → StepsP k xs i → manyF (xs.take i) = (totalN (xs.take i) K H : Int)
  | 0, _, _ => by
    have : totalN (xs.take 0) K H = 0 := by
      unfold totalN
      rw [sumN_congr (g := fun _ => 0) (fun l _ => by rw [sumN_congr (g := fun _ => 0) (fun b _ => by simp [cnt])]; exact sumN_zero _)]
      exact sumN_zero _
    rw [this]; simp [manyF]
  | i + 1, hi, hs => by
    rw [many_succ (by omega), total_succ (by omega) (hs i (by omega)).1 hK hH, many_total hK hH i (by omega) (fun j hj => hs j (by omega))]
theorem many_bound {k : Int} {xs : List Sp} (hk : 0 ≤ k ∧ k ≤ 9) : ∀ i, i ≤ xs.length → StepsP k xs i → 0 ≤ manyF (xs.take i) ∧ manyF (xs.take i) ≤ 256 * i
  | 0, _, _ => by simp [manyF]
  | i + 1, hi, hs => by
    obtain ⟨h1, h2⟩ := many_bound hk i (by omega) (fun j hj => hs j (by omega))
    obtain ⟨s1, s2, s3, s4, s5⟩ := step_iff.1 (hs i (by omega)).1
    have := half_spec hk
    rw [many_succ (by omega)]
    omega
theorem once_iff {k : Int} {xs : List Sp} (hk : 0 ≤ k ∧ k ≤ 9) (hs : StepsP k xs xs.length) (hm : MostP xs xs.length) : manyF xs = k * halfF k ↔ OnceP xs (halfF k).toNat k.toNat := by
  have hh := half_spec hk
  have h1 := many_total (K := k.toNat) (H := (halfF k).toNat) (by omega) (by omega) xs.length (Nat.le_refl _) hs
  rw [List.take_length] at h1
  have hm' : ∀ l b, cnt xs l b ≤ 1 := fun l b => by have := hm l b; rwa [List.take_length] at this
  have f1 : ∀ l, sumN (halfF k).toNat (fun b => cnt xs l b) ≤ (halfF k).toNat * 1 ∧ _ := fun l => sumN_full (H := 1) (fun b _ => hm' l b)
  have f2 := sumN_full (H := (halfF k).toNat) (f := fun l => sumN (halfF k).toNat (fun b => cnt xs l b)) (h := k.toNat) (fun l _ => by have := (f1 l).1; omega)
  have e : (k * halfF k) = ((k.toNat * (halfF k).toNat : Nat) : Int) := by
    rw [Int.natCast_mul, Int.toNat_of_nonneg hk.1, Int.toNat_of_nonneg hh.2.1]
  rw [h1, e]
  constructor
  · intro he
    have he' := f2.2.1 (by unfold totalN at he; exact Int.ofNat.inj he)
    intro l hl b hb
    exact (f1 l).2.1 (by rw [Nat.mul_one]; exact he' l hl) b hb
  · intro ho
    have := f2.2.2 (fun l hl => by have := (f1 l).2.2 (fun b hb => ho l hl b hb); omega)
    unfold totalN
    rw [this]
theorem done_zero (xs : List Sp) : List.replicate 4608 false = doneL xs 0 := by
  unfold doneL
  rw [show (fun q => decide (1 ≤ cnt (xs.take 0) (q / 512) (q % 512))) = fun _ => false by funext q; simp [cnt], List.map_const', List.length_range]
theorem done_len (xs : List Sp) (i c : Nat) : (doneM xs i c).length = 4608 := rgm_len _ _
theorem done_start (xs : List Sp) (i : Nat) (h0 : 0 ≤ (xs.getD i (0, 0, 0)).2.1) : doneL xs i = doneM xs i (xs.getD i (0, 0, 0)).2.1.toNat := by
  refine rgm_eq (fun q _ => ?_)
  rw [decide_eq_false (p := _ ∧ _ ∧ _) (by omega), Bool.or_false]
theorem done_at (l c : Nat) (hl : l < 9) (hc : c < 512) : 0 + l * (512 / 1) + c * (1 / 1) = l * 512 + c ∧ l * 512 + c < 4608 ∧ (l * 512 + c) / 512 = l ∧ (l * 512 + c) % 512 = c := by omega
theorem done_get {xs : List Sp} {i l c : Nat} (hl : l < 9) (hc : c < 512) : (doneM xs i c).getD (l * 512 + c) false = decide (1 ≤ cnt (xs.take i) l c) := by
  obtain ⟨_, h1, h2, h3⟩ := done_at l c hl hc
  unfold doneM
  rw [rgm_get _ h1, h2, h3, decide_eq_false (p := _ ∧ _ ∧ _) (by omega), Bool.or_false]
theorem done_set {xs : List Sp} {i l c : Nat} (hl : l < 9) (hc : c < 512) (h1 : (xs.getD i (0, 0, 0)).1 = (l : Int)) (h2 : (xs.getD i (0, 0, 0)).2.1 ≤ (c : Int)) : (doneM xs i c).set (l * 512 + c) true = doneM xs i (c + 1) := by
  obtain ⟨_, k1, k2, k3⟩ := done_at l c hl hc
  refine rgm_set ?_ (fun q _ hq => ?_)
  · rw [k2, k3, decide_eq_true (p := _ ∧ _ ∧ _) ⟨h1, h2, by omega⟩, Bool.or_true]
  · congr 1
    have : ¬ (q / 512 = l ∧ q % 512 = c) := by omega
    by_cases e : (xs.getD i (0, 0, 0)).1 = ((q / 512 : Nat) : Int) ∧ (xs.getD i (0, 0, 0)).2.1 ≤ ((q % 512 : Nat) : Int) ∧ q % 512 < c
    · rw [decide_eq_true e, decide_eq_true (p := _ ∧ _ ∧ _) ⟨e.1, e.2.1, by omega⟩]
    · rw [decide_eq_false e, decide_eq_false (p := _ ∧ _ ∧ _) (fun h => e ⟨h.1, h.2.1, by omega⟩)]
theorem done_end {xs : List Sp} {i c : Nat} (hi : i < xs.length) (hc : (c : Int) = (xs.getD i (0, 0, 0)).2.2) : doneM xs i c = doneL xs (i + 1) := by
  refine rgm_eq (fun q _ => ?_)
  rw [cnt_succ hi]
  by_cases e : (xs.getD i (0, 0, 0)).1 = ((q / 512 : Nat) : Int) ∧ (xs.getD i (0, 0, 0)).2.1 ≤ ((q % 512 : Nat) : Int) ∧ q % 512 < c
  · rw [decide_eq_true e, if_pos ⟨e.1, e.2.1, by omega⟩, Bool.or_true]
    exact (decide_eq_true (by omega)).symm
  · rw [decide_eq_false e, if_neg (fun h => e ⟨h.1, h.2.1, by omega⟩), Bool.or_false, Nat.add_zero]
theorem free_start (xs : List Sp) (i : Nat) : FreeP xs i (xs.getD i (0, 0, 0)).2.1.toNat := fun b h1 h2 => by omega
theorem free_succ {xs : List Sp} {i c : Nat} (h : FreeP xs i c) (hc : cnt (xs.take i) (xs.getD i (0, 0, 0)).1.toNat c = 0) : FreeP xs i (c + 1) := fun b h1 h2 => by
  by_cases e : b = c
  · subst e; exact hc
  · exact h b h1 (by omega)
theorem most_succ {xs : List Sp} {i c : Nat} (hi : i < xs.length) (h0 : 0 ≤ (xs.getD i (0, 0, 0)).1) (h : MostP xs i) (hf : FreeP xs i c) (hc : (c : Int) = (xs.getD i (0, 0, 0)).2.2) : MostP xs (i + 1) := fun l b => by
  rw [cnt_succ hi]
  split
  case isTrue hh =>
    have e : l = (xs.getD i (0, 0, 0)).1.toNat := by omega
    have := hf b hh.2.1 (by omega)
    rw [← e] at this
    omega
  case isFalse => exact h l b
end Go.SF
