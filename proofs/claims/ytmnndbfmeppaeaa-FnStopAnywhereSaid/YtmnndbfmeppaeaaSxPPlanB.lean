/- What is owed of the code of the program's test of plans. No condition. -/
import Derived.Test.YtmnndbfmeppaeaaSxC
import Derived.Test.YtmnndbfmeppaeaaSxPPlan
namespace Go.SF
open Go.SX Go
set_option linter.unusedVariables false
set_option linter.unusedSimpArgs false
set_option maxRecDepth 10000
def sumN (h : Nat) (f : Nat → Nat) : Nat := ((List.range h).map f).sum
theorem sumN_succ (h : Nat) (f : Nat → Nat) : sumN (h + 1) f = sumN h f + f h := by
  unfold sumN; rw [List.range_succ, List.map_append, List.sum_append]; simp
theorem sumN_congr {h : Nat} {f g : Nat → Nat} (e : ∀ b, b < h → f b = g b) : sumN h f = sumN h g := by
  unfold sumN; rw [rgm_eq e]
theorem sumN_zero : ∀ h, sumN h (fun _ => 0) = 0
  | 0 => rfl
  | h + 1 => by rw [sumN_succ, sumN_zero h]
theorem sumN_add (h : Nat) (f g : Nat → Nat) : sumN h (fun b => f b + g b) = sumN h f + sumN h g := by
  induction h with
  | zero => rfl
  | succ h ih => rw [sumN_succ, sumN_succ, sumN_succ, ih]; omega
theorem sumN_ind (lo hi : Nat) : ∀ h, sumN h (fun b => if lo ≤ b ∧ b < hi then 1 else 0) = min h hi - min h lo
  | 0 => by simp [sumN]
  | h + 1 => by
    rw [sumN_succ, sumN_ind lo hi h]
    split <;> omega
theorem sumN_one (a v : Nat) : ∀ h, sumN h (fun l => if l = a then v else 0) = if a < h then v else 0
  | 0 => by simp [sumN]
  | h + 1 => by
    rw [sumN_succ, sumN_one a v h]
    by_cases e : h = a
    · subst e; rw [if_neg (by omega), if_pos rfl, if_pos (by omega)]; omega
    · rw [if_neg e]
      by_cases e2 : a < h
      · rw [if_pos e2, if_pos (by omega), Nat.add_zero]
      · rw [if_neg e2, if_neg (by omega)]
theorem sumN_full {H : Nat} {f : Nat → Nat} : ∀ {h : Nat}, (∀ b, b < h → f b ≤ H) → sumN h f ≤ h * H ∧ (sumN h f = h * H ↔ ∀ b, b < h → f b = H)
  | 0, _ => ⟨by simp [sumN], ⟨fun _ b hb => by omega, fun _ => by simp [sumN]⟩⟩
  | h + 1, hb => by
    obtain ⟨h1, h2⟩ := sumN_full (h := h) (fun b hh => hb b (by omega))
    have h3 := hb h (by omega)
    rw [sumN_succ, Nat.add_mul, Nat.one_mul]
    refine ⟨by omega, ⟨fun e b hbb => ?_, fun e => ?_⟩⟩
    · by_cases e2 : b = h
      · subst e2; omega
      · exact h2.1 (by omega) b (by omega)
    · rw [h2.2 (fun b hbb => e b (by omega)), e h (by omega)]
def totalN (xs : List Sp) (K H : Nat) : Nat := sumN K (fun l => sumN H (fun b => cnt xs l b))
theorem total_succ {k : Int} {xs : List Sp} {i K H : Nat} (hi : i < xs.length) (h : stepOkF k (xs.getD i (0, 0, 0)) = true) (hK : (K : Int) = k) (hH : (H : Int) = halfF k) :
    (totalN (xs.take (i + 1)) K H : Int) = (totalN (xs.take i) K H : Int) + ((xs.getD i (0, 0, 0)).2.2 - (xs.getD i (0, 0, 0)).2.1) := by
  obtain ⟨s1, s2, s3, s4, s5⟩ := step_iff.1 h
  have e1 : totalN (xs.take (i + 1)) K H = totalN (xs.take i) K H + sumN K (fun l => if l = (xs.getD i (0, 0, 0)).1.toNat then (xs.getD i (0, 0, 0)).2.2.toNat - (xs.getD i (0, 0, 0)).2.1.toNat else 0) := by
    unfold totalN
    rw [← sumN_add]
    refine sumN_congr (fun l hl => ?_)
    by_cases e : l = (xs.getD i (0, 0, 0)).1.toNat
    · rw [if_pos e, ← show sumN H (fun b => if (xs.getD i (0, 0, 0)).2.1.toNat ≤ b ∧ b < (xs.getD i (0, 0, 0)).2.2.toNat then 1 else 0) = (xs.getD i (0, 0, 0)).2.2.toNat - (xs.getD i (0, 0, 0)).2.1.toNat by rw [sumN_ind]; omega, ← sumN_add]
      refine sumN_congr (fun b hb => ?_)
      rw [cnt_succ hi]
      congr 1
      by_cases e2 : (xs.getD i (0, 0, 0)).2.1.toNat ≤ b ∧ b < (xs.getD i (0, 0, 0)).2.2.toNat
      · rw [if_pos e2, if_pos (by omega)]
      · rw [if_neg e2, if_neg (by omega)]
    · rw [if_neg e, Nat.add_zero]
      refine sumN_congr (fun b hb => ?_)
      rw [cnt_succ hi, if_neg (by omega)]; omega
  rw [e1, sumN_one, if_pos (by omega)]
  omega
theorem many_succ {xs : List Sp} {i : Nat} (hi : i < xs.length) : manyF (xs.take (i + 1)) = manyF (xs.take i) + ((xs.getD i (0, 0, 0)).2.2 - (xs.getD i (0, 0, 0)).2.1) := by
  unfold manyF
  rw [← tk_succ (z := ((0 : Int), (0 : Int), (0 : Int))) hi, List.map_append, List.sum_append]
  simp
theorem many_total {k : Int} {xs : List Sp} {K H : Nat} (hK : (K : Int) = k) (hH : (H : Int) = halfF k) : ∀ i, i ≤ xs.length → StepsP k xs i → manyF (xs.take i) = (totalN (xs.take i) K H : Int)
  | 0, _, _ => by
    have : totalN (xs.take 0) K H = 0 := by
      unfold totalN
      rw [sumN_congr (g := fun _ => 0) (fun l _ => by rw [sumN_congr (g := fun _ => 0) (fun b _ => by simp [cnt])]; exact sumN_zero _)]
      exact sumN_zero _
    rw [this]; simp [manyF]
  | i + 1, hi, hs => by
    rw [many_succ (by omega), total_succ (by omega) (hs i (by omega)).1 hK hH, many_total hK hH i (by omega) (fun j hj => hs j (by omega))]
theorem many_bound {k : Int} {xs : List Sp} (hk : 0 ≤ k ∧ k ≤ 9) : ∀ i, i ≤ xs.length → StepsP k xs i → 0 ≤ manyF (xs.take i) ∧ manyF (xs.take i) ≤ 256 * i
  | 0, _, _ => by simp [manyF]
  | i + 1, hi, hs => by
    obtain ⟨h1, h2⟩ := many_bound hk i (by omega) (fun j hj => hs j (by omega))
    obtain ⟨s1, s2, s3, s4, s5⟩ := step_iff.1 (hs i (by omega)).1
    have := half_spec hk
    rw [many_succ (by omega)]
    omega
theorem once_iff {k : Int} {xs : List Sp} (hk : 0 ≤ k ∧ k ≤ 9) (hs : StepsP k xs xs.length) (hm : MostP xs xs.length) : manyF xs = k * halfF k ↔ OnceP xs (halfF k).toNat k.toNat := by
  have hh := half_spec hk
  have h1 := many_total (K := k.toNat) (H := (halfF k).toNat) (by omega) (by omega) xs.length (Nat.le_refl _) hs
  rw [List.take_length] at h1
  have hm' : ∀ l b, cnt xs l b ≤ 1 := fun l b => by have := hm l b; rwa [List.take_length] at this
  have f1 : ∀ l, sumN (halfF k).toNat (fun b => cnt xs l b) ≤ (halfF k).toNat * 1 ∧ _ := fun l => sumN_full (H := 1) (fun b _ => hm' l b)
  have f2 := sumN_full (H := (halfF k).toNat) (f := fun l => sumN (halfF k).toNat (fun b => cnt xs l b)) (h := k.toNat) (fun l _ => by have := (f1 l).1; omega)
  have e : (k * halfF k) = ((k.toNat * (halfF k).toNat : Nat) : Int) := by
    rw [Int.natCast_mul, Int.toNat_of_nonneg hk.1, Int.toNat_of_nonneg hh.2.1]
  rw [h1, e]
  constructor
  · intro he
    have he' := f2.2.1 (by unfold totalN at he; exact Int.ofNat.inj he)
    intro l hl b hb
    exact (f1 l).2.1 (by rw [Nat.mul_one]; exact he' l hl) b hb
  · intro ho
    have := f2.2.2 (fun l hl => by have := (f1 l).2.2 (fun b hb => ho l hl b hb); omega)
    unfold totalN
    rw [this]
theorem done_zero (xs : List Sp) : List.replicate 4608 false = doneL xs 0 := by
  unfold doneL
  rw [show (fun q => decide (1 ≤ cnt (xs.take 0) (q / 512) (q % 512))) = fun _ => false by funext q; simp [cnt], List.map_const', List.length_range]
theorem done_len (xs : List Sp) (i c : Nat) : (doneM xs i c).length = 4608 := rgm_len _ _
theorem done_start (xs : List Sp) (i : Nat) (h0 : 0 ≤ (xs.getD i (0, 0, 0)).2.1) : doneL xs i = doneM xs i (xs.getD i (0, 0, 0)).2.1.toNat := by
  refine rgm_eq (fun q _ => ?_)
  rw [decide_eq_false (p := _ ∧ _ ∧ _) (by omega), Bool.or_false]
theorem done_at (l c : Nat) (hl : l < 9) (hc : c < 512) : 0 + l * (512 / 1) + c * (1 / 1) = l * 512 + c ∧ l * 512 + c < 4608 ∧ (l * 512 + c) / 512 = l ∧ (l * 512 + c) % 512 = c := by omega
theorem done_get {xs : List Sp} {i l c : Nat} (hl : l < 9) (hc : c < 512) : (doneM xs i c).getD (l * 512 + c) false = decide (1 ≤ cnt (xs.take i) l c) := by
  obtain ⟨_, h1, h2, h3⟩ := done_at l c hl hc
  unfold doneM
  rw [rgm_get _ h1, h2, h3, decide_eq_false (p := _ ∧ _ ∧ _) (by omega), Bool.or_false]
theorem done_set {xs : List Sp} {i l c : Nat} (hl : l < 9) (hc : c < 512) (h1 : (xs.getD i (0, 0, 0)).1 = (l : Int)) (h2 : (xs.getD i (0, 0, 0)).2.1 ≤ (c : Int)) : (doneM xs i c).set (l * 512 + c) true = doneM xs i (c + 1) := by
  obtain ⟨_, k1, k2, k3⟩ := done_at l c hl hc
  refine rgm_set ?_ (fun q _ hq => ?_)
  · rw [k2, k3, decide_eq_true (p := _ ∧ _ ∧ _) ⟨h1, h2, by omega⟩, Bool.or_true]
  · congr 1
    have : ¬ (q / 512 = l ∧ q % 512 = c) := by omega
    by_cases e : (xs.getD i (0, 0, 0)).1 = ((q / 512 : Nat) : Int) ∧ (xs.getD i (0, 0, 0)).2.1 ≤ ((q % 512 : Nat) : Int) ∧ q % 512 < c
    · rw [decide_eq_true e, decide_eq_true (p := _ ∧ _ ∧ _) ⟨e.1, e.2.1, by omega⟩]
    · rw [decide_eq_false e, decide_eq_false (p := _ ∧ _ ∧ _) (fun h => e ⟨h.1, h.2.1, by omega⟩)]
theorem done_end {xs : List Sp} {i c : Nat} (hi : i < xs.length) (hc : (c : Int) = (xs.getD i (0, 0, 0)).2.2) : doneM xs i c = doneL xs (i + 1) := by
  refine rgm_eq (fun q _ => ?_)
  rw [cnt_succ hi]
  by_cases e : (xs.getD i (0, 0, 0)).1 = ((q / 512 : Nat) : Int) ∧ (xs.getD i (0, 0, 0)).2.1 ≤ ((q % 512 : Nat) : Int) ∧ q % 512 < c
  · rw [decide_eq_true e, if_pos ⟨e.1, e.2.1, by omega⟩, Bool.or_true]
    exact (decide_eq_true (by omega)).symm
  · rw [decide_eq_false e, if_neg (fun h => e ⟨h.1, h.2.1, by omega⟩), Bool.or_false, Nat.add_zero]
theorem free_start (xs : List Sp) (i : Nat) : FreeP xs i (xs.getD i (0, 0, 0)).2.1.toNat := fun b h1 h2 => by omega
theorem free_succ {xs : List Sp} {i c : Nat} (h : FreeP xs i c) (hc : cnt (xs.take i) (xs.getD i (0, 0, 0)).1.toNat c = 0) : FreeP xs i (c + 1) := fun b h1 h2 => by
  by_cases e : b = c
  · subst e; exact hc
  · exact h b h1 (by omega)
theorem most_succ {xs : List Sp} {i c : Nat} (hi : i < xs.length) (h0 : 0 ≤ (xs.getD i (0, 0, 0)).1) (h : MostP xs i) (hf : FreeP xs i c) (hc : (c : Int) = (xs.getD i (0, 0, 0)).2.2) : MostP xs (i + 1) := fun l b => by
  rw [cnt_succ hi]
  split
  case isTrue hh =>
    have e : l = (xs.getD i (0, 0, 0)).1.toNat := by omega
    have := hf b hh.2.1 (by omega)
    rw [← e] at this
    omega
  case isFalse => exact h l b
theorem v_I_isPlan :
  ∀ (d : Int × Int × List (Int × Int × Int)), Ty.wf planT d → True → True ∧ (Ty.wf fldT (Prod.fst (fieldF (Prod.fst d))) ∧ Ty.wf Ty.bool (Prod.snd (fieldF (Prod.fst d))) → ((!Prod.snd (fieldF (Prod.fst d))) = true →
  false = planOkF d) ∧ ((!Prod.snd (fieldF (Prod.fst d))) = false → (decide (Prod.fst (Prod.snd d) < (0 : Int)) = true → false = planOkF d) ∧ (decide (Prod.fst (Prod.snd d) < (0 : Int)) = false → (decide (imin (9 : Int)
  (Prod.snd (Prod.snd (Prod.fst (fieldF (Prod.fst d))))) < Prod.fst (Prod.snd d)) = true → false = planOkF d) ∧ (decide (imin (9 : Int) (Prod.snd (Prod.snd (Prod.fst (fieldF (Prod.fst d))))) < Prod.fst (Prod.snd d)) =
  false → (decide ((600 : Int) < (↑(List.length (Prod.snd (Prod.snd d))) : Int)) = true → false = planOkF d) ∧ (decide ((600 : Int) < (↑(List.length (Prod.snd (Prod.snd d))) : Int)) = false → (List.length (List.replicate
  (4608 : Nat) false) = List.length (List.replicate (4608 : Nat) false) ∧ List.length (List.replicate (4608 : Nat) false) * (1 : Nat) = (4608 : Nat)) ∧ ((0 : Nat) ≤ List.length (Prod.snd (Prod.snd d)) ∧ StepsP (Prod.fst
  (Prod.snd d)) (Prod.snd (Prod.snd d)) (0 : Nat) ∧ MostP (Prod.snd (Prod.snd d)) (0 : Nat)) ∧ (((Prod.fst d = Prod.fst d ∧ Prod.fst (Prod.snd d) = Prod.fst (Prod.snd d) ∧ Prod.snd (Prod.snd d) = Prod.snd (Prod.snd d)) ∧
  Prod.snd (fieldF (Prod.fst d)) = Prod.snd (fieldF (Prod.fst d)) ∧ (0 : Nat) = (0 : Nat) ∧ (0 : Int) = manyF (List.take (0 : Nat) (Prod.snd (Prod.snd d))) ∧ Prod.snd (Prod.snd d) = Prod.snd (Prod.snd d) ∧ (↑(List.length
  (Prod.snd (Prod.snd d))) : Int) = (↑(List.length (Prod.snd (Prod.snd d))) : Int) ∧ (0 : Int) = (↑(0 : Nat) : Int)) ∧ (Prod.fst d = Prod.fst d ∧ Prod.fst (Prod.snd d) = Prod.fst (Prod.snd d) ∧ Prod.snd (Prod.snd d) =
  Prod.snd (Prod.snd d)) ∧ (Prod.fst (Prod.fst (fieldF (Prod.fst d))) = Prod.fst (Prod.fst (fieldF (Prod.fst d))) ∧ Prod.fst (Prod.snd (Prod.fst (fieldF (Prod.fst d)))) = Prod.fst (Prod.snd (Prod.fst (fieldF (Prod.fst
  d)))) ∧ Prod.snd (Prod.snd (Prod.fst (fieldF (Prod.fst d)))) = Prod.snd (Prod.snd (Prod.fst (fieldF (Prod.fst d))))) ∧ List.replicate (4608 : Nat) false = doneL (Prod.snd (Prod.snd d)) (0 : Nat)) ∧ ∀ (x : Nat), x ≤
  List.length (Prod.snd (Prod.snd d)) ∧ StepsP (Prod.fst (Prod.snd d)) (Prod.snd (Prod.snd d)) x ∧ MostP (Prod.snd (Prod.snd d)) x → (decide ((↑x : Int) < (↑(List.length (Prod.snd (Prod.snd d))) : Int)) = true → ((0 :
  Int) ≤ (↑x : Int) ∧ (↑x : Int) < (↑(List.length (Prod.snd (Prod.snd d))) : Int)) ∧ ((0 : Tup [i64T]) ≤ Prod.fst (Prod.snd d) ∧ Prod.fst (Prod.snd d) ≤ (9 : Tup [i64T])) ∧ ((!stepOkF (Prod.fst (Prod.snd d)) (Prod.fst
  (List.getD (Prod.snd (Prod.snd d)) (Int.toNat (↑x : Int)) ((0 : Int), (0 : Int), (0 : Int))), Prod.fst (Prod.snd (List.getD (Prod.snd (Prod.snd d)) (Int.toNat (↑x : Int)) ((0 : Int), (0 : Int), (0 : Int)))), Prod.snd
  (Prod.snd (List.getD (Prod.snd (Prod.snd d)) (Int.toNat (↑x : Int)) ((0 : Int), (0 : Int), (0 : Int)))))) = true → false = planOkF d) ∧ ((!stepOkF (Prod.fst (Prod.snd d)) (Prod.fst (List.getD (Prod.snd (Prod.snd d))
  (Int.toNat (↑x : Int)) ((0 : Int), (0 : Int), (0 : Int))), Prod.fst (Prod.snd (List.getD (Prod.snd (Prod.snd d)) (Int.toNat (↑x : Int)) ((0 : Int), (0 : Int), (0 : Int)))), Prod.snd (Prod.snd (List.getD (Prod.snd
  (Prod.snd d)) (Int.toNat (↑x : Int)) ((0 : Int), (0 : Int), (0 : Int)))))) = false → (decide ((0 : Int) < (↑x : Int)) = true → ((0 : Int) ≤ IntKind.wrap IntKind.i64 ((↑x : Int) - (1 : Int)) ∧ IntKind.wrap IntKind.i64
  ((↑x : Int) - (1 : Int)) < (↑(List.length (Prod.snd (Prod.snd d))) : Int)) ∧ (decide (Prod.fst (List.getD (Prod.snd (Prod.snd d)) (Int.toNat (↑x : Int)) ((0 : Int), (0 : Int), (0 : Int))) < Prod.fst (List.getD
  (Prod.snd (Prod.snd d)) (Int.toNat (IntKind.wrap IntKind.i64 ((↑x : Int) - (1 : Int)))) ((0 : Int), (0 : Int), (0 : Int)))) = true → false = planOkF d) ∧ (decide (Prod.fst (List.getD (Prod.snd (Prod.snd d)) (Int.toNat
  (↑x : Int)) ((0 : Int), (0 : Int), (0 : Int))) < Prod.fst (List.getD (Prod.snd (Prod.snd d)) (Int.toNat (IntKind.wrap IntKind.i64 ((↑x : Int) - (1 : Int)))) ((0 : Int), (0 : Int), (0 : Int)))) = false → (Prod.fst
  (Prod.snd (List.getD (Prod.snd (Prod.snd d)) x ((0 : Int), (0 : Int), (0 : Int)))) ≤ (↑(Int.toNat (Prod.fst (Prod.snd (List.getD (Prod.snd (Prod.snd d)) x ((0 : Int), (0 : Int), (0 : Int)))))) : Int) ∧ (↑(Int.toNat
  (Prod.fst (Prod.snd (List.getD (Prod.snd (Prod.snd d)) x ((0 : Int), (0 : Int), (0 : Int)))))) : Int) ≤ Prod.snd (Prod.snd (List.getD (Prod.snd (Prod.snd d)) x ((0 : Int), (0 : Int), (0 : Int)))) ∧ FreeP (Prod.snd
  (Prod.snd d)) x (Int.toNat (Prod.fst (Prod.snd (List.getD (Prod.snd (Prod.snd d)) x ((0 : Int), (0 : Int), (0 : Int))))))) ∧ (((Prod.fst d = Prod.fst d ∧ Prod.fst (Prod.snd d) = Prod.fst (Prod.snd d) ∧ Prod.snd
  (Prod.snd d) = Prod.snd (Prod.snd d)) ∧ Prod.snd (fieldF (Prod.fst d)) = Prod.snd (fieldF (Prod.fst d)) ∧ (0 : Nat) = (0 : Nat) ∧ manyF (List.take x (Prod.snd (Prod.snd d))) = manyF (List.take x (Prod.snd (Prod.snd
  d))) + ((↑(Int.toNat (Prod.fst (Prod.snd (List.getD (Prod.snd (Prod.snd d)) x ((0 : Int), (0 : Int), (0 : Int)))))) : Int) - Prod.fst (Prod.snd (List.getD (Prod.snd (Prod.snd d)) x ((0 : Int), (0 : Int), (0 : Int)))))
  ∧ (↑x : Int) = (↑x : Int) ∧ Prod.fst (Prod.snd (List.getD (Prod.snd (Prod.snd d)) (Int.toNat (↑x : Int)) ((0 : Int), (0 : Int), (0 : Int)))) = (↑(Int.toNat (Prod.fst (Prod.snd (List.getD (Prod.snd (Prod.snd d)) x ((0 :
  Int), (0 : Int), (0 : Int)))))) : Int) ∧ Prod.snd (Prod.snd d) = Prod.snd (Prod.snd d) ∧ (↑(List.length (Prod.snd (Prod.snd d))) : Int) = (↑(List.length (Prod.snd (Prod.snd d))) : Int) ∧ (↑x : Int) = (↑x : Int)) ∧
  (Prod.fst d = Prod.fst d ∧ Prod.fst (Prod.snd d) = Prod.fst (Prod.snd d) ∧ Prod.snd (Prod.snd d) = Prod.snd (Prod.snd d)) ∧ (Prod.fst (Prod.fst (fieldF (Prod.fst d))) = Prod.fst (Prod.fst (fieldF (Prod.fst d))) ∧
  Prod.fst (Prod.snd (Prod.fst (fieldF (Prod.fst d)))) = Prod.fst (Prod.snd (Prod.fst (fieldF (Prod.fst d)))) ∧ Prod.snd (Prod.snd (Prod.fst (fieldF (Prod.fst d)))) = Prod.snd (Prod.snd (Prod.fst (fieldF (Prod.fst d)))))
  ∧ doneL (Prod.snd (Prod.snd d)) x = doneM (Prod.snd (Prod.snd d)) x (Int.toNat (Prod.fst (Prod.snd (List.getD (Prod.snd (Prod.snd d)) x ((0 : Int), (0 : Int), (0 : Int)))))) ∧ Prod.fst (List.getD (Prod.snd (Prod.snd
  d)) (Int.toNat (↑x : Int)) ((0 : Int), (0 : Int), (0 : Int))) = Prod.fst (List.getD (Prod.snd (Prod.snd d)) (Int.toNat (↑x : Int)) ((0 : Int), (0 : Int), (0 : Int))) ∧ Prod.fst (Prod.snd (List.getD (Prod.snd (Prod.snd
  d)) (Int.toNat (↑x : Int)) ((0 : Int), (0 : Int), (0 : Int)))) = Prod.fst (Prod.snd (List.getD (Prod.snd (Prod.snd d)) (Int.toNat (↑x : Int)) ((0 : Int), (0 : Int), (0 : Int)))) ∧ Prod.snd (Prod.snd (List.getD
  (Prod.snd (Prod.snd d)) (Int.toNat (↑x : Int)) ((0 : Int), (0 : Int), (0 : Int)))) = Prod.snd (Prod.snd (List.getD (Prod.snd (Prod.snd d)) (Int.toNat (↑x : Int)) ((0 : Int), (0 : Int), (0 : Int))))) ∧ ∀ (x_1 : Nat),
  Prod.fst (Prod.snd (List.getD (Prod.snd (Prod.snd d)) x ((0 : Int), (0 : Int), (0 : Int)))) ≤ (↑x_1 : Int) ∧ (↑x_1 : Int) ≤ Prod.snd (Prod.snd (List.getD (Prod.snd (Prod.snd d)) x ((0 : Int), (0 : Int), (0 : Int)))) ∧
  FreeP (Prod.snd (Prod.snd d)) x x_1 → (decide ((↑x_1 : Int) < Prod.snd (Prod.snd (List.getD (Prod.snd (Prod.snd d)) (Int.toNat (↑x : Int)) ((0 : Int), (0 : Int), (0 : Int))))) = true → ((0 : Int) ≤ Prod.fst (List.getD
  (Prod.snd (Prod.snd d)) (Int.toNat (↑x : Int)) ((0 : Int), (0 : Int), (0 : Int))) ∧ Prod.fst (List.getD (Prod.snd (Prod.snd d)) (Int.toNat (↑x : Int)) ((0 : Int), (0 : Int), (0 : Int))) < (↑(9 : Nat) : Int) ∧ (0 : Nat)
  + (Int.toNat (Prod.fst (List.getD (Prod.snd (Prod.snd d)) (Int.toNat (↑x : Int)) ((0 : Int), (0 : Int), (0 : Int)))) + (1 : Nat)) * (512 / 1 : Nat) ≤ List.length (doneM (Prod.snd (Prod.snd d)) x x_1)) ∧ ((0 : Int) ≤
  (↑x_1 : Int) ∧ (↑x_1 : Int) < (↑(512 : Nat) : Int) ∧ (0 : Nat) + Int.toNat (Prod.fst (List.getD (Prod.snd (Prod.snd d)) (Int.toNat (↑x : Int)) ((0 : Int), (0 : Int), (0 : Int)))) * (512 / 1 : Nat) + (Int.toNat (↑x_1 :
  Int) + (1 : Nat)) * (1 / 1 : Nat) ≤ List.length (doneM (Prod.snd (Prod.snd d)) x x_1)) ∧ (List.getD (doneM (Prod.snd (Prod.snd d)) x x_1) ((0 : Nat) + Int.toNat (Prod.fst (List.getD (Prod.snd (Prod.snd d)) (Int.toNat
  (↑x : Int)) ((0 : Int), (0 : Int), (0 : Int)))) * (512 / 1 : Nat) + Int.toNat (↑x_1 : Int) * (1 / 1 : Nat)) false = true → false = planOkF d) ∧ (List.getD (doneM (Prod.snd (Prod.snd d)) x x_1) ((0 : Nat) + Int.toNat
  (Prod.fst (List.getD (Prod.snd (Prod.snd d)) (Int.toNat (↑x : Int)) ((0 : Int), (0 : Int), (0 : Int)))) * (512 / 1 : Nat) + Int.toNat (↑x_1 : Int) * (1 / 1 : Nat)) false = false → ((0 : Int) ≤ Prod.fst (List.getD
  (Prod.snd (Prod.snd d)) (Int.toNat (↑x : Int)) ((0 : Int), (0 : Int), (0 : Int))) ∧ Prod.fst (List.getD (Prod.snd (Prod.snd d)) (Int.toNat (↑x : Int)) ((0 : Int), (0 : Int), (0 : Int))) < (↑(9 : Nat) : Int) ∧ (0 : Nat)
  + (Int.toNat (Prod.fst (List.getD (Prod.snd (Prod.snd d)) (Int.toNat (↑x : Int)) ((0 : Int), (0 : Int), (0 : Int)))) + (1 : Nat)) * (512 / 1 : Nat) ≤ List.length (doneM (Prod.snd (Prod.snd d)) x x_1)) ∧ ((0 : Int) ≤
  (↑x_1 : Int) ∧ (↑x_1 : Int) < (↑(512 : Nat) : Int) ∧ (0 : Nat) + Int.toNat (Prod.fst (List.getD (Prod.snd (Prod.snd d)) (Int.toNat (↑x : Int)) ((0 : Int), (0 : Int), (0 : Int)))) * (512 / 1 : Nat) + (Int.toNat (↑x_1 :
  Int) + (1 : Nat)) * (1 / 1 : Nat) ≤ List.length (doneM (Prod.snd (Prod.snd d)) x x_1)) ∧ ∃ (x' : Nat), (Prod.fst (Prod.snd (List.getD (Prod.snd (Prod.snd d)) x ((0 : Int), (0 : Int), (0 : Int)))) ≤ (↑x' : Int) ∧ (↑x' :
  Int) ≤ Prod.snd (Prod.snd (List.getD (Prod.snd (Prod.snd d)) x ((0 : Int), (0 : Int), (0 : Int)))) ∧ FreeP (Prod.snd (Prod.snd d)) x x') ∧ Int.toNat (Prod.snd (Prod.snd (List.getD (Prod.snd (Prod.snd d)) x ((0 : Int),
  (0 : Int), (0 : Int))))) - x' < Int.toNat (Prod.snd (Prod.snd (List.getD (Prod.snd (Prod.snd d)) x ((0 : Int), (0 : Int), (0 : Int))))) - x_1 ∧ ((Prod.fst d = Prod.fst d ∧ Prod.fst (Prod.snd d) = Prod.fst (Prod.snd d)
  ∧ Prod.snd (Prod.snd d) = Prod.snd (Prod.snd d)) ∧ Prod.snd (fieldF (Prod.fst d)) = Prod.snd (fieldF (Prod.fst d)) ∧ (0 : Nat) = (0 : Nat) ∧ IntKind.wrap IntKind.i64 (manyF (List.take x (Prod.snd (Prod.snd d))) +
  ((↑x_1 : Int) - Prod.fst (Prod.snd (List.getD (Prod.snd (Prod.snd d)) x ((0 : Int), (0 : Int), (0 : Int))))) + (1 : Int)) = manyF (List.take x (Prod.snd (Prod.snd d))) + ((↑x' : Int) - Prod.fst (Prod.snd (List.getD
  (Prod.snd (Prod.snd d)) x ((0 : Int), (0 : Int), (0 : Int))))) ∧ (↑x : Int) = (↑x : Int) ∧ IntKind.wrap IntKind.i64 ((↑x_1 : Int) + (1 : Int)) = (↑x' : Int) ∧ Prod.snd (Prod.snd d) = Prod.snd (Prod.snd d) ∧
  (↑(List.length (Prod.snd (Prod.snd d))) : Int) = (↑(List.length (Prod.snd (Prod.snd d))) : Int) ∧ (↑x : Int) = (↑x : Int)) ∧ (Prod.fst d = Prod.fst d ∧ Prod.fst (Prod.snd d) = Prod.fst (Prod.snd d) ∧ Prod.snd (Prod.snd
  d) = Prod.snd (Prod.snd d)) ∧ (Prod.fst (Prod.fst (fieldF (Prod.fst d))) = Prod.fst (Prod.fst (fieldF (Prod.fst d))) ∧ Prod.fst (Prod.snd (Prod.fst (fieldF (Prod.fst d)))) = Prod.fst (Prod.snd (Prod.fst (fieldF
  (Prod.fst d)))) ∧ Prod.snd (Prod.snd (Prod.fst (fieldF (Prod.fst d)))) = Prod.snd (Prod.snd (Prod.fst (fieldF (Prod.fst d))))) ∧ List.set (doneM (Prod.snd (Prod.snd d)) x x_1) ((0 : Nat) + Int.toNat (Prod.fst
  (List.getD (Prod.snd (Prod.snd d)) (Int.toNat (↑x : Int)) ((0 : Int), (0 : Int), (0 : Int)))) * (512 / 1 : Nat) + Int.toNat (↑x_1 : Int) * (1 / 1 : Nat)) true = doneM (Prod.snd (Prod.snd d)) x x' ∧ Prod.fst (List.getD
  (Prod.snd (Prod.snd d)) (Int.toNat (↑x : Int)) ((0 : Int), (0 : Int), (0 : Int))) = Prod.fst (List.getD (Prod.snd (Prod.snd d)) (Int.toNat (↑x : Int)) ((0 : Int), (0 : Int), (0 : Int))) ∧ Prod.fst (Prod.snd (List.getD
  (Prod.snd (Prod.snd d)) (Int.toNat (↑x : Int)) ((0 : Int), (0 : Int), (0 : Int)))) = Prod.fst (Prod.snd (List.getD (Prod.snd (Prod.snd d)) (Int.toNat (↑x : Int)) ((0 : Int), (0 : Int), (0 : Int)))) ∧ Prod.snd (Prod.snd
  (List.getD (Prod.snd (Prod.snd d)) (Int.toNat (↑x : Int)) ((0 : Int), (0 : Int), (0 : Int)))) = Prod.snd (Prod.snd (List.getD (Prod.snd (Prod.snd d)) (Int.toNat (↑x : Int)) ((0 : Int), (0 : Int), (0 : Int)))))) ∧
  (decide ((↑x_1 : Int) < Prod.snd (Prod.snd (List.getD (Prod.snd (Prod.snd d)) (Int.toNat (↑x : Int)) ((0 : Int), (0 : Int), (0 : Int))))) = false → ∃ (x' : Nat), (x' ≤ List.length (Prod.snd (Prod.snd d)) ∧ StepsP
  (Prod.fst (Prod.snd d)) (Prod.snd (Prod.snd d)) x' ∧ MostP (Prod.snd (Prod.snd d)) x') ∧ List.length (Prod.snd (Prod.snd d)) - x' < List.length (Prod.snd (Prod.snd d)) - x ∧ ((Prod.fst d = Prod.fst d ∧ Prod.fst
  (Prod.snd d) = Prod.fst (Prod.snd d) ∧ Prod.snd (Prod.snd d) = Prod.snd (Prod.snd d)) ∧ Prod.snd (fieldF (Prod.fst d)) = Prod.snd (fieldF (Prod.fst d)) ∧ (0 : Nat) = (0 : Nat) ∧ manyF (List.take x (Prod.snd (Prod.snd
  d))) + ((↑x_1 : Int) - Prod.fst (Prod.snd (List.getD (Prod.snd (Prod.snd d)) x ((0 : Int), (0 : Int), (0 : Int))))) = manyF (List.take x' (Prod.snd (Prod.snd d))) ∧ Prod.snd (Prod.snd d) = Prod.snd (Prod.snd d) ∧
  (↑(List.length (Prod.snd (Prod.snd d))) : Int) = (↑(List.length (Prod.snd (Prod.snd d))) : Int) ∧ IntKind.wrap IntKind.i64 ((↑x : Int) + (1 : Int)) = (↑x' : Int)) ∧ (Prod.fst d = Prod.fst d ∧ Prod.fst (Prod.snd d) =
  Prod.fst (Prod.snd d) ∧ Prod.snd (Prod.snd d) = Prod.snd (Prod.snd d)) ∧ (Prod.fst (Prod.fst (fieldF (Prod.fst d))) = Prod.fst (Prod.fst (fieldF (Prod.fst d))) ∧ Prod.fst (Prod.snd (Prod.fst (fieldF (Prod.fst d)))) =
  Prod.fst (Prod.snd (Prod.fst (fieldF (Prod.fst d)))) ∧ Prod.snd (Prod.snd (Prod.fst (fieldF (Prod.fst d)))) = Prod.snd (Prod.snd (Prod.fst (fieldF (Prod.fst d))))) ∧ doneM (Prod.snd (Prod.snd d)) x x_1 = doneL
  (Prod.snd (Prod.snd d)) x'))) ∧ (decide ((0 : Int) < (↑x : Int)) = false → (Prod.fst (Prod.snd (List.getD (Prod.snd (Prod.snd d)) x ((0 : Int), (0 : Int), (0 : Int)))) ≤ (↑(Int.toNat (Prod.fst (Prod.snd (List.getD
  (Prod.snd (Prod.snd d)) x ((0 : Int), (0 : Int), (0 : Int)))))) : Int) ∧ (↑(Int.toNat (Prod.fst (Prod.snd (List.getD (Prod.snd (Prod.snd d)) x ((0 : Int), (0 : Int), (0 : Int)))))) : Int) ≤ Prod.snd (Prod.snd
  (List.getD (Prod.snd (Prod.snd d)) x ((0 : Int), (0 : Int), (0 : Int)))) ∧ FreeP (Prod.snd (Prod.snd d)) x (Int.toNat (Prod.fst (Prod.snd (List.getD (Prod.snd (Prod.snd d)) x ((0 : Int), (0 : Int), (0 : Int))))))) ∧
  (((Prod.fst d = Prod.fst d ∧ Prod.fst (Prod.snd d) = Prod.fst (Prod.snd d) ∧ Prod.snd (Prod.snd d) = Prod.snd (Prod.snd d)) ∧ Prod.snd (fieldF (Prod.fst d)) = Prod.snd (fieldF (Prod.fst d)) ∧ (0 : Nat) = (0 : Nat) ∧
  manyF (List.take x (Prod.snd (Prod.snd d))) = manyF (List.take x (Prod.snd (Prod.snd d))) + ((↑(Int.toNat (Prod.fst (Prod.snd (List.getD (Prod.snd (Prod.snd d)) x ((0 : Int), (0 : Int), (0 : Int)))))) : Int) - Prod.fst
  (Prod.snd (List.getD (Prod.snd (Prod.snd d)) x ((0 : Int), (0 : Int), (0 : Int))))) ∧ (↑x : Int) = (↑x : Int) ∧ Prod.fst (Prod.snd (List.getD (Prod.snd (Prod.snd d)) (Int.toNat (↑x : Int)) ((0 : Int), (0 : Int), (0 :
  Int)))) = (↑(Int.toNat (Prod.fst (Prod.snd (List.getD (Prod.snd (Prod.snd d)) x ((0 : Int), (0 : Int), (0 : Int)))))) : Int) ∧ Prod.snd (Prod.snd d) = Prod.snd (Prod.snd d) ∧ (↑(List.length (Prod.snd (Prod.snd d))) :
  Int) = (↑(List.length (Prod.snd (Prod.snd d))) : Int) ∧ (↑x : Int) = (↑x : Int)) ∧ (Prod.fst d = Prod.fst d ∧ Prod.fst (Prod.snd d) = Prod.fst (Prod.snd d) ∧ Prod.snd (Prod.snd d) = Prod.snd (Prod.snd d)) ∧ (Prod.fst
  (Prod.fst (fieldF (Prod.fst d))) = Prod.fst (Prod.fst (fieldF (Prod.fst d))) ∧ Prod.fst (Prod.snd (Prod.fst (fieldF (Prod.fst d)))) = Prod.fst (Prod.snd (Prod.fst (fieldF (Prod.fst d)))) ∧ Prod.snd (Prod.snd (Prod.fst
  (fieldF (Prod.fst d)))) = Prod.snd (Prod.snd (Prod.fst (fieldF (Prod.fst d))))) ∧ doneL (Prod.snd (Prod.snd d)) x = doneM (Prod.snd (Prod.snd d)) x (Int.toNat (Prod.fst (Prod.snd (List.getD (Prod.snd (Prod.snd d)) x
  ((0 : Int), (0 : Int), (0 : Int)))))) ∧ Prod.fst (List.getD (Prod.snd (Prod.snd d)) (Int.toNat (↑x : Int)) ((0 : Int), (0 : Int), (0 : Int))) = Prod.fst (List.getD (Prod.snd (Prod.snd d)) (Int.toNat (↑x : Int)) ((0 :
  Int), (0 : Int), (0 : Int))) ∧ Prod.fst (Prod.snd (List.getD (Prod.snd (Prod.snd d)) (Int.toNat (↑x : Int)) ((0 : Int), (0 : Int), (0 : Int)))) = Prod.fst (Prod.snd (List.getD (Prod.snd (Prod.snd d)) (Int.toNat (↑x :
  Int)) ((0 : Int), (0 : Int), (0 : Int)))) ∧ Prod.snd (Prod.snd (List.getD (Prod.snd (Prod.snd d)) (Int.toNat (↑x : Int)) ((0 : Int), (0 : Int), (0 : Int)))) = Prod.snd (Prod.snd (List.getD (Prod.snd (Prod.snd d))
  (Int.toNat (↑x : Int)) ((0 : Int), (0 : Int), (0 : Int))))) ∧ ∀ (x_1 : Nat), Prod.fst (Prod.snd (List.getD (Prod.snd (Prod.snd d)) x ((0 : Int), (0 : Int), (0 : Int)))) ≤ (↑x_1 : Int) ∧ (↑x_1 : Int) ≤ Prod.snd
  (Prod.snd (List.getD (Prod.snd (Prod.snd d)) x ((0 : Int), (0 : Int), (0 : Int)))) ∧ FreeP (Prod.snd (Prod.snd d)) x x_1 → (decide ((↑x_1 : Int) < Prod.snd (Prod.snd (List.getD (Prod.snd (Prod.snd d)) (Int.toNat (↑x :
  Int)) ((0 : Int), (0 : Int), (0 : Int))))) = true → ((0 : Int) ≤ Prod.fst (List.getD (Prod.snd (Prod.snd d)) (Int.toNat (↑x : Int)) ((0 : Int), (0 : Int), (0 : Int))) ∧ Prod.fst (List.getD (Prod.snd (Prod.snd d))
  (Int.toNat (↑x : Int)) ((0 : Int), (0 : Int), (0 : Int))) < (↑(9 : Nat) : Int) ∧ (0 : Nat) + (Int.toNat (Prod.fst (List.getD (Prod.snd (Prod.snd d)) (Int.toNat (↑x : Int)) ((0 : Int), (0 : Int), (0 : Int)))) + (1 :
  Nat)) * (512 / 1 : Nat) ≤ List.length (doneM (Prod.snd (Prod.snd d)) x x_1)) ∧ ((0 : Int) ≤ (↑x_1 : Int) ∧ (↑x_1 : Int) < (↑(512 : Nat) : Int) ∧ (0 : Nat) + Int.toNat (Prod.fst (List.getD (Prod.snd (Prod.snd d))
  (Int.toNat (↑x : Int)) ((0 : Int), (0 : Int), (0 : Int)))) * (512 / 1 : Nat) + (Int.toNat (↑x_1 : Int) + (1 : Nat)) * (1 / 1 : Nat) ≤ List.length (doneM (Prod.snd (Prod.snd d)) x x_1)) ∧ (List.getD (doneM (Prod.snd
  (Prod.snd d)) x x_1) ((0 : Nat) + Int.toNat (Prod.fst (List.getD (Prod.snd (Prod.snd d)) (Int.toNat (↑x : Int)) ((0 : Int), (0 : Int), (0 : Int)))) * (512 / 1 : Nat) + Int.toNat (↑x_1 : Int) * (1 / 1 : Nat)) false =
  true → false = planOkF d) ∧ (List.getD (doneM (Prod.snd (Prod.snd d)) x x_1) ((0 : Nat) + Int.toNat (Prod.fst (List.getD (Prod.snd (Prod.snd d)) (Int.toNat (↑x : Int)) ((0 : Int), (0 : Int), (0 : Int)))) * (512 / 1 :
  Nat) + Int.toNat (↑x_1 : Int) * (1 / 1 : Nat)) false = false → ((0 : Int) ≤ Prod.fst (List.getD (Prod.snd (Prod.snd d)) (Int.toNat (↑x : Int)) ((0 : Int), (0 : Int), (0 : Int))) ∧ Prod.fst (List.getD (Prod.snd
  (Prod.snd d)) (Int.toNat (↑x : Int)) ((0 : Int), (0 : Int), (0 : Int))) < (↑(9 : Nat) : Int) ∧ (0 : Nat) + (Int.toNat (Prod.fst (List.getD (Prod.snd (Prod.snd d)) (Int.toNat (↑x : Int)) ((0 : Int), (0 : Int), (0 :
  Int)))) + (1 : Nat)) * (512 / 1 : Nat) ≤ List.length (doneM (Prod.snd (Prod.snd d)) x x_1)) ∧ ((0 : Int) ≤ (↑x_1 : Int) ∧ (↑x_1 : Int) < (↑(512 : Nat) : Int) ∧ (0 : Nat) + Int.toNat (Prod.fst (List.getD (Prod.snd
  (Prod.snd d)) (Int.toNat (↑x : Int)) ((0 : Int), (0 : Int), (0 : Int)))) * (512 / 1 : Nat) + (Int.toNat (↑x_1 : Int) + (1 : Nat)) * (1 / 1 : Nat) ≤ List.length (doneM (Prod.snd (Prod.snd d)) x x_1)) ∧ ∃ (x' : Nat),
  (Prod.fst (Prod.snd (List.getD (Prod.snd (Prod.snd d)) x ((0 : Int), (0 : Int), (0 : Int)))) ≤ (↑x' : Int) ∧ (↑x' : Int) ≤ Prod.snd (Prod.snd (List.getD (Prod.snd (Prod.snd d)) x ((0 : Int), (0 : Int), (0 : Int)))) ∧
  FreeP (Prod.snd (Prod.snd d)) x x') ∧ Int.toNat (Prod.snd (Prod.snd (List.getD (Prod.snd (Prod.snd d)) x ((0 : Int), (0 : Int), (0 : Int))))) - x' < Int.toNat (Prod.snd (Prod.snd (List.getD (Prod.snd (Prod.snd d)) x
  ((0 : Int), (0 : Int), (0 : Int))))) - x_1 ∧ ((Prod.fst d = Prod.fst d ∧ Prod.fst (Prod.snd d) = Prod.fst (Prod.snd d) ∧ Prod.snd (Prod.snd d) = Prod.snd (Prod.snd d)) ∧ Prod.snd (fieldF (Prod.fst d)) = Prod.snd
  (fieldF (Prod.fst d)) ∧ (0 : Nat) = (0 : Nat) ∧ IntKind.wrap IntKind.i64 (manyF (List.take x (Prod.snd (Prod.snd d))) + ((↑x_1 : Int) - Prod.fst (Prod.snd (List.getD (Prod.snd (Prod.snd d)) x ((0 : Int), (0 : Int), (0
  : Int))))) + (1 : Int)) = manyF (List.take x (Prod.snd (Prod.snd d))) + ((↑x' : Int) - Prod.fst (Prod.snd (List.getD (Prod.snd (Prod.snd d)) x ((0 : Int), (0 : Int), (0 : Int))))) ∧ (↑x : Int) = (↑x : Int) ∧
  IntKind.wrap IntKind.i64 ((↑x_1 : Int) + (1 : Int)) = (↑x' : Int) ∧ Prod.snd (Prod.snd d) = Prod.snd (Prod.snd d) ∧ (↑(List.length (Prod.snd (Prod.snd d))) : Int) = (↑(List.length (Prod.snd (Prod.snd d))) : Int) ∧ (↑x
  : Int) = (↑x : Int)) ∧ (Prod.fst d = Prod.fst d ∧ Prod.fst (Prod.snd d) = Prod.fst (Prod.snd d) ∧ Prod.snd (Prod.snd d) = Prod.snd (Prod.snd d)) ∧ (Prod.fst (Prod.fst (fieldF (Prod.fst d))) = Prod.fst (Prod.fst (fieldF
  (Prod.fst d))) ∧ Prod.fst (Prod.snd (Prod.fst (fieldF (Prod.fst d)))) = Prod.fst (Prod.snd (Prod.fst (fieldF (Prod.fst d)))) ∧ Prod.snd (Prod.snd (Prod.fst (fieldF (Prod.fst d)))) = Prod.snd (Prod.snd (Prod.fst (fieldF
  (Prod.fst d))))) ∧ List.set (doneM (Prod.snd (Prod.snd d)) x x_1) ((0 : Nat) + Int.toNat (Prod.fst (List.getD (Prod.snd (Prod.snd d)) (Int.toNat (↑x : Int)) ((0 : Int), (0 : Int), (0 : Int)))) * (512 / 1 : Nat) +
  Int.toNat (↑x_1 : Int) * (1 / 1 : Nat)) true = doneM (Prod.snd (Prod.snd d)) x x' ∧ Prod.fst (List.getD (Prod.snd (Prod.snd d)) (Int.toNat (↑x : Int)) ((0 : Int), (0 : Int), (0 : Int))) = Prod.fst (List.getD (Prod.snd
  (Prod.snd d)) (Int.toNat (↑x : Int)) ((0 : Int), (0 : Int), (0 : Int))) ∧ Prod.fst (Prod.snd (List.getD (Prod.snd (Prod.snd d)) (Int.toNat (↑x : Int)) ((0 : Int), (0 : Int), (0 : Int)))) = Prod.fst (Prod.snd (List.getD
  (Prod.snd (Prod.snd d)) (Int.toNat (↑x : Int)) ((0 : Int), (0 : Int), (0 : Int)))) ∧ Prod.snd (Prod.snd (List.getD (Prod.snd (Prod.snd d)) (Int.toNat (↑x : Int)) ((0 : Int), (0 : Int), (0 : Int)))) = Prod.snd (Prod.snd
  (List.getD (Prod.snd (Prod.snd d)) (Int.toNat (↑x : Int)) ((0 : Int), (0 : Int), (0 : Int)))))) ∧ (decide ((↑x_1 : Int) < Prod.snd (Prod.snd (List.getD (Prod.snd (Prod.snd d)) (Int.toNat (↑x : Int)) ((0 : Int), (0 :
  Int), (0 : Int))))) = false → ∃ (x' : Nat), (x' ≤ List.length (Prod.snd (Prod.snd d)) ∧ StepsP (Prod.fst (Prod.snd d)) (Prod.snd (Prod.snd d)) x' ∧ MostP (Prod.snd (Prod.snd d)) x') ∧ List.length (Prod.snd (Prod.snd
  d)) - x' < List.length (Prod.snd (Prod.snd d)) - x ∧ ((Prod.fst d = Prod.fst d ∧ Prod.fst (Prod.snd d) = Prod.fst (Prod.snd d) ∧ Prod.snd (Prod.snd d) = Prod.snd (Prod.snd d)) ∧ Prod.snd (fieldF (Prod.fst d)) =
  Prod.snd (fieldF (Prod.fst d)) ∧ (0 : Nat) = (0 : Nat) ∧ manyF (List.take x (Prod.snd (Prod.snd d))) + ((↑x_1 : Int) - Prod.fst (Prod.snd (List.getD (Prod.snd (Prod.snd d)) x ((0 : Int), (0 : Int), (0 : Int))))) =
  manyF (List.take x' (Prod.snd (Prod.snd d))) ∧ Prod.snd (Prod.snd d) = Prod.snd (Prod.snd d) ∧ (↑(List.length (Prod.snd (Prod.snd d))) : Int) = (↑(List.length (Prod.snd (Prod.snd d))) : Int) ∧ IntKind.wrap IntKind.i64
  ((↑x : Int) + (1 : Int)) = (↑x' : Int)) ∧ (Prod.fst d = Prod.fst d ∧ Prod.fst (Prod.snd d) = Prod.fst (Prod.snd d) ∧ Prod.snd (Prod.snd d) = Prod.snd (Prod.snd d)) ∧ (Prod.fst (Prod.fst (fieldF (Prod.fst d))) =
  Prod.fst (Prod.fst (fieldF (Prod.fst d))) ∧ Prod.fst (Prod.snd (Prod.fst (fieldF (Prod.fst d)))) = Prod.fst (Prod.snd (Prod.fst (fieldF (Prod.fst d)))) ∧ Prod.snd (Prod.snd (Prod.fst (fieldF (Prod.fst d)))) = Prod.snd
  (Prod.snd (Prod.fst (fieldF (Prod.fst d))))) ∧ doneM (Prod.snd (Prod.snd d)) x x_1 = doneL (Prod.snd (Prod.snd d)) x')))) ∧ (decide ((↑x : Int) < (↑(List.length (Prod.snd (Prod.snd d))) : Int)) = false → (0 : Int) ≤
  Prod.fst (Prod.snd d) ∧ (2 : Int) ≠ (0 : Int) ∧ decide (manyF (List.take x (Prod.snd (Prod.snd d))) = IntKind.wrap IntKind.i64 (Int.tdiv (ishl IntKind.i64 (Prod.fst (Prod.snd d)) (Prod.fst (Prod.snd d))) (2 : Int))) =
  planOkF d)))))) := by
  intro (d : Pl) hw _
  obtain ⟨f, k, xs⟩ := d
  simp only [Int.toNat_natCast, exists_const, and_true, true_and, implies_true, decide_eq_true_eq, decide_eq_false_iff_not, Bool.not_eq_true', Bool.not_eq_false', beq_iff_eq, forall_const]
  intro _
  refine ⟨fun h => ?_, fun h => ⟨fun h1 => ?_, fun h1 => ⟨fun h2 => ?_, fun h2 => ⟨fun h3 => ?_, fun h3 => ⟨by rw [List.length_replicate], ⟨Nat.zero_le _, fun j hj => by omega, fun l b => by simp [cnt]⟩, ⟨⟨by simp [manyF], rfl⟩, done_zero xs⟩, fun x hx => ?_⟩⟩⟩⟩⟩
  · unfold planOkF
    rw [show logOkF (f, k, xs).1 (f, k, xs).2.1 = false by
      rw [← Bool.not_eq_true]; intro hh
      have := (log_iff.1 hh).1
      rw [mod_none (fun h5 => by rw [field_ok.2 h5] at h; cases h)] at this
      omega]
    rfl
  · unfold planOkF
    rw [show logOkF (f, k, xs).1 (f, k, xs).2.1 = false by
      rw [← Bool.not_eq_true]; intro hh
      have := (log_iff.1 hh).2.1
      simp only at this
      omega]
    rfl
  · have h2' : twoF f = (fieldF f).1.2.2 := by unfold twoF; rw [if_pos h]
    unfold imin at h2
    unfold planOkF
    rw [show logOkF (f, k, xs).1 (f, k, xs).2.1 = false by
      rw [← Bool.not_eq_true]; intro hh
      obtain ⟨q1, q2, q3, q4⟩ := log_iff.1 hh
      simp only at q3 q4
      rw [h2'] at q4
      split at h2 <;> omega]
    rfl
  · unfold planOkF
    rw [decide_eq_false (show ¬ (f, k, xs).2.2.length ≤ 600 by simp only; omega)]; simp
  · have hf := field_ok.1 h
    have hmod := mod_pos hf
    have h2' : twoF f = (fieldF f).1.2.2 := by unfold twoF; rw [if_pos h]
    have hk : (0 : Int) ≤ k ∧ k ≤ 9 := by
      unfold imin at h2
      split at h2 <;> omega
    have hlg : logOkF f k = true := log_iff.2 ⟨by omega, hk.1, hk.2, by
      rw [h2']
      unfold imin at h2
      split at h2 <;> omega⟩
    have hh := half_spec hk
    obtain ⟨hx1, hx2, hx3⟩ := hx
    refine ⟨fun hlt => ?_, fun hge => ?_⟩
    · have hlt' : x < xs.length := by omega
      have hw1 : 0 < x → IntKind.i64.wrap ((x : Int) - 1) = (x : Int) - 1 := fun _ => wrap_small (by omega)
      refine ⟨⟨by omega, by omega⟩, hk, fun h4 => plan_no1 hlt' (fun hh => by rw [show stepOkF k (xs.getD x (0, 0, 0)) = false from h4] at hh; cases hh.1), fun h4 => ?_⟩
      have h4' : stepOkF k (xs.getD x (0, 0, 0)) = true := h4
      obtain ⟨s1, s2, s3, s4, s5⟩ := step_iff.1 h4'
      obtain ⟨m1, m2⟩ := many_bound hk x hx1 hx2
      have hlast : (0 < x → (xs.getD (x - 1) (0, 0, 0)).1 ≤ (xs.getD x (0, 0, 0)).1) → StepsP k xs (x + 1) := fun hh => steps_succ hx2 h4' hh
      refine ⟨fun h5 => ⟨⟨by rw [hw1 (by omega)]; omega, by rw [hw1 (by omega)]; omega⟩, fun h6 => plan_no1 hlt' (fun hh => ?_), fun h6 => ?_⟩, fun h5 => ?_⟩
      · have := hh.2 (by omega)
        rw [hw1 (by omega), show ((x : Int) - 1).toNat = x - 1 by omega] at h6
        simp only at this
        omega
      · replace hlast := hlast (fun _ => by rw [hw1 (by omega), show ((x : Int) - 1).toNat = x - 1 by omega] at h6; omega)
        clear h6
        refine ⟨⟨by omega, by omega, free_start xs x⟩, ⟨⟨by omega, by omega⟩, done_start xs x s3⟩, fun c hc => ⟨fun hcl => ?_, fun hcl => ⟨x + 1, ⟨by omega, hlast, most_succ hlt' s1 hx3 hc.2.2 (by omega)⟩, by omega, ⟨by rw [many_succ hlt']; omega, wrap_succ (by omega)⟩, done_end hlt' (by omega)⟩⟩⟩
        obtain ⟨d1, d2, d3, d4⟩ := done_at (xs.getD x (0, 0, 0)).1.toNat c (by omega) (by omega)
        rw [d1, done_len, done_get (by omega) (by omega)]
        have hb : (0 ≤ (xs.getD x (0, 0, 0)).1 ∧ (xs.getD x (0, 0, 0)).1 < ((9 : Nat) : Int) ∧ 0 + ((xs.getD x (0, 0, 0)).1.toNat + 1) * (512 / 1) ≤ 4608) ∧ (0 ≤ (c : Int) ∧ (c : Int) < ((512 : Nat) : Int) ∧ 0 + (xs.getD x (0, 0, 0)).1.toNat * (512 / 1) + (c + 1) * (1 / 1) ≤ 4608) := by omega
        refine ⟨hb.1, hb.2, fun h7 => ?_, fun h7 => ⟨hb.1, hb.2, c + 1, ⟨by omega, by omega, free_succ hc.2.2 ?_⟩, by omega, ⟨by rw [wrap_small (by omega)]; omega, wrap_succ (by omega)⟩, done_set (by omega) (by omega) (by omega) hc.1⟩⟩
        · have h8 := of_decide_eq_true h7
          have h9 := cnt_mono xs (x + 1) (xs.getD x (0, 0, 0)).1.toNat c
          rw [cnt_succ hlt', if_pos (by omega)] at h9
          exact plan_no2 (l := (xs.getD x (0, 0, 0)).1.toNat) (b := c) (by show _ < k; omega) (by show (c : Int) < halfF k; omega) (by simp only; omega)
        · have h8 := of_decide_eq_false h7
          omega
      · replace hlast := hlast (fun _ => by omega)
        refine ⟨⟨by omega, by omega, free_start xs x⟩, ⟨⟨by omega, by omega⟩, done_start xs x s3⟩, fun c hc => ⟨fun hcl => ?_, fun hcl => ⟨x + 1, ⟨by omega, hlast, most_succ hlt' s1 hx3 hc.2.2 (by omega)⟩, by omega, ⟨by rw [many_succ hlt']; omega, wrap_succ (by omega)⟩, done_end hlt' (by omega)⟩⟩⟩
        obtain ⟨d1, d2, d3, d4⟩ := done_at (xs.getD x (0, 0, 0)).1.toNat c (by omega) (by omega)
        rw [d1, done_len, done_get (by omega) (by omega)]
        have hb : (0 ≤ (xs.getD x (0, 0, 0)).1 ∧ (xs.getD x (0, 0, 0)).1 < ((9 : Nat) : Int) ∧ 0 + ((xs.getD x (0, 0, 0)).1.toNat + 1) * (512 / 1) ≤ 4608) ∧ (0 ≤ (c : Int) ∧ (c : Int) < ((512 : Nat) : Int) ∧ 0 + (xs.getD x (0, 0, 0)).1.toNat * (512 / 1) + (c + 1) * (1 / 1) ≤ 4608) := by omega
        refine ⟨hb.1, hb.2, fun h7 => ?_, fun h7 => ⟨hb.1, hb.2, c + 1, ⟨by omega, by omega, free_succ hc.2.2 ?_⟩, by omega, ⟨by rw [wrap_small (by omega)]; omega, wrap_succ (by omega)⟩, done_set (by omega) (by omega) (by omega) hc.1⟩⟩
        · have h8 := of_decide_eq_true h7
          have h9 := cnt_mono xs (x + 1) (xs.getD x (0, 0, 0)).1.toNat c
          rw [cnt_succ hlt', if_pos (by omega)] at h9
          exact plan_no2 (l := (xs.getD x (0, 0, 0)).1.toNat) (b := c) (by show _ < k; omega) (by show (c : Int) < halfF k; omega) (by simp only; omega)
        · have h8 := of_decide_eq_false h7
          omega
    · have hxl : x = xs.length := by omega
      subst hxl
      rw [List.take_length]
      refine ⟨hk.1, by omega, ?_⟩
      rw [hh.2.2.2.2.2.2.2]
      have ho := once_iff hk hx2 hx3
      by_cases e : manyF xs = k * halfF k
      · rw [decide_eq_true e]
        exact plan_yes hlg (by show xs.length ≤ 600; omega) hx2 (ho.1 e)
      · rw [decide_eq_false e]
        unfold planOkF
        rw [decide_eq_false (fun hh : OnceP xs (halfF k).toNat k.toNat => e (ho.2 hh))]
        simp
end Go.SF
