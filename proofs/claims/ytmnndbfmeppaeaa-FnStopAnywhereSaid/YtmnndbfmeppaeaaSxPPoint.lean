/- What is owed of the code of points and their weights. No condition. -/
import Derived.Test.YtmnndbfmeppaeaaSxC
import Derived.Test.YtmnndbfmeppaeaaSxPModB
namespace Go.SF
open Go.SX Go
set_option linter.unusedVariables false
set_option linter.unusedSimpArgs false
set_option maxRecDepth 10000
theorem el_at {p : Int} {xs : List Int} (h : elemsF p xs = true) {i : Nat} (hi : i < xs.length) : El p (xs.getD i 0) := by
  unfold elemsF at h
  rw [decide_eq_true_eq] at h
  have h1 := h (xs.getD i 0) (by rw [List.getD_eq_getElem?_getD, List.getElem?_eq_getElem hi]; exact List.getElem_mem hi)
  unfold El
  omega
theorem pt_ok {f : Int} {xs : List Int} (h : pointsF f xs = true) : modF f ≠ 0 ∧ 1 ≤ xs.length ∧ xs.length ≤ 40 ∧ elemsF (modF f) xs = true ∧ xs.Nodup := by
  unfold pointsF specElemsF at h
  simp only [Bool.and_eq_true, decide_eq_true_eq] at h
  exact ⟨h.1.2.1, h.1.1.1, h.1.1.2, h.1.2.2, h.2⟩
theorem pt_of {f : Int} {xs : List Int} (h1 : modF f ≠ 0) (h2 : 1 ≤ xs.length) (h3 : xs.length ≤ 40) (h4 : elemsF (modF f) xs = true) (h5 : xs.Nodup) : pointsF f xs = true := by
  unfold pointsF specElemsF
  simp only [Bool.and_eq_true, decide_eq_true_eq]
  exact ⟨⟨⟨h2, h3⟩, h1, h4⟩, h5⟩
theorem nodup_succ {xs : List Int} {x : Nat} (hx : x < xs.length) : (xs.take (x + 1)).Nodup ↔ (xs.take x).Nodup ∧ xs.getD x 0 ∉ xs.take x := by
  rw [← tk_succ (z := (0 : Int)) hx, List.nodup_append]
  constructor
  · rintro ⟨h1, _, h2⟩
    exact ⟨h1, fun hm => h2 _ hm _ (List.mem_singleton.2 rfl) rfl⟩
  · rintro ⟨h1, h2⟩
    refine ⟨h1, List.nodup_cons.2 ⟨by simp, List.nodup_nil⟩, fun a ha b hb e => ?_⟩
    rw [List.mem_singleton.1 hb] at e
    subst e
    exact h2 ha
theorem nodup_take {xs : List Int} (h : xs.Nodup) (n : Nat) : (xs.take n).Nodup := h.sublist (List.take_sublist n xs)
theorem mem_succ {xs : List Int} {x : Nat} {y : Int} (hx : x < xs.length) (h : y ∉ xs.take x) (hy : ¬ xs.getD x 0 = y) : y ∉ xs.take (x + 1) := by
  rw [← tk_succ (z := (0 : Int)) hx]
  intro hm
  rcases List.mem_append.1 hm with hm | hm
  · exact h hm
  · exact hy (List.mem_singleton.1 hm).symm
theorem getD_take {xs : List Int} {x y : Nat} (h : y < x) : (xs.take x).getD y 0 = xs.getD y 0 := by
  rw [List.getD_eq_getElem?_getD, List.getD_eq_getElem?_getD, List.getElem?_take, if_pos h]
theorem mem_getD {xs : List Int} {x : Nat} (h : x < xs.length) : xs.getD x 0 ∈ xs := by
  rw [List.getD_eq_getElem?_getD, List.getElem?_eq_getElem h]; exact List.getElem_mem h
theorem mem_getD_take {xs : List Int} {x y : Nat} (h : y < x) (hl : x ≤ xs.length) : xs.getD y 0 ∈ xs.take x := by
  rw [← getD_take h]
  exact mem_getD (by rw [List.length_take]; omega)
theorem nodup_ne {xs : List Int} (h : xs.Nodup) {i j : Nat} (hi : i < xs.length) (hj : j < xs.length) (hij : i ≠ j) : xs.getD i 0 ≠ xs.getD j 0 := by
  rw [List.getD_eq_getElem?_getD, List.getD_eq_getElem?_getD, List.getElem?_eq_getElem hi, List.getElem?_eq_getElem hj]
  exact fun e => hij ((List.getElem_inj h).1 e)
theorem el_by {p : Int} (hp : IsMod p) (xs : List Int) (i : Nat) : ∀ n, El p (byF p xs i n)
  | 0 => el_one hp
  | n + 1 => by
    unfold byF
    split
    · exact el_by hp xs i n
    · exact el_mulM hp _ _
theorem by_ne {p : Int} (hp : IsPr p) {xs : List Int} (he : elemsF p xs = true) (hn : xs.Nodup) {i : Nat} (hi : i < xs.length) : ∀ n, n ≤ xs.length → byF p xs i n % p ≠ 0
  | 0, _ => by
    rw [show byF p xs i 0 = 1 from rfl, el_self (el_one hp.mod)]; decide
  | n + 1, h => by
    unfold byF
    split
    · exact by_ne hp he hn hi n (by omega)
    · rename_i hne
      unfold mulM subM
      rw [mod_mod]
      refine mul_ne hp (by_ne hp he hn hi n (by omega)) ?_
      rw [mod_mod]
      exact el_ne (el_at he hi) (el_at he (by omega)) (nodup_ne hn hi (by omega) (Ne.symm hne))
theorem wts_len (p : Int) (xs : List Int) (n : Nat) : (wtsL p xs n).length = n := by unfold wtsL; rw [List.length_map, List.length_range]
theorem wts_succ (p : Int) (xs : List Int) (n : Nat) : wtsL p xs n ++ [wtF p xs n] = wtsL p xs (n + 1) := by unfold wtsL; rw [List.range_succ, List.map_append]; rfl
theorem pt_row {f : Int} {xs : List Int} (h : pointsF f xs = true) : ptF f xs = ((fieldF f).1, true) := by unfold ptF; rw [if_pos h]
theorem pt_no {f : Int} {xs : List Int} (h : pointsF f xs = false) : ptF f xs = ((0, 0, 0), false) := by unfold ptF; rw [h]; rfl
theorem pt_snd {f : Int} {xs : List Int} : (ptF f xs).2 = pointsF f xs := by
  cases h : pointsF f xs
  · rw [pt_no h]
  · rw [pt_row h]
theorem pt_mod {f : Int} {xs : List Int} (h : pointsF f xs = true) : (ptF f xs).1.1 = modF f := by rw [pt_row h]; rfl
end Go.SF
