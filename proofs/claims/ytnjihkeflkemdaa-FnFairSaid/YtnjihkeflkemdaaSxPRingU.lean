/- Flows dropped, tickets cancelled. No condition. -/
import Derived.Test.YtnjihkeflkemdaaSxC
import Derived.Test.YtnjihkeflkemdaaSxPRingL
namespace Go.SF
open Go.SX Go
set_option linter.unusedVariables false
set_option linter.unusedSimpArgs false
theorem sub_flat {α β : Type} (f : α → List β) : ∀ {l k : List α}, l.Sublist k → (l.flatMap f).Sublist (k.flatMap f) := by
  intro l k h
  induction h with
  | slnil => exact List.Sublist.refl _
  | cons a _ ih => rw [List.flatMap_cons]; exact ih.trans (List.sublist_append_right _ _)
  | cons_cons a _ ih => rw [List.flatMap_cons, List.flatMap_cons]; exact List.Sublist.append (List.Sublist.refl _) ih
theorem idsF_sub {xs ys : List FlG} (h : (idsF xs).Nodup) (hs : ys.Sublist xs) : (idsF ys).Nodup := h.sublist (sub_flat _ hs)
theorem drop_no {xs : List Fl} {tn : Int} {fr : Bool} {t : Int} (h : ringOkF xs tn fr = false ∨ fidxGo t xs 0 < 0 ∨ 0 < ((xs.getD (fidxGo t xs 0).toNat fl0).2.2.2.length : Int)) : dropFlF (xs, tn, fr) t = ((xs, tn, fr), false) := by
  unfold dropFlF
  rw [if_neg]
  intro ⟨h1, h2, h3⟩
  rcases h with h | h | h
  · simp only at h1; rw [h] at h1; cases h1
  · simp only at h2; omega
  · simp only at h3; rw [h3] at h; simp at h
theorem drop_yes {xs : List Fl} {tn : Int} {fr : Bool} {t : Int} (h1 : ringOkF xs tn fr = true) (h2 : ¬ fidxGo t xs 0 < 0) (h3 : ¬ 0 < ((xs.getD (fidxGo t xs 0).toNat fl0).2.2.2.length : Int)) : dropFlF (xs, tn, fr) t = ((delAt xs (fidxGo t xs 0), dropTurnF (fidxGo t xs 0) tn ((xs.length : Int) - 1), fr), true) := by
  unfold dropFlF
  rw [if_pos]
  refine ⟨h1, by simp only; omega, ?_⟩
  simp only
  cases h : (xs.getD (fidxGo t xs 0).toNat fl0).2.2.2 with
  | nil => rfl
  | cons a l => rw [h] at h3; simp at h3
theorem delAt_un {L : List FlG} {xs : List Fl} {i : Int} (h : L.map unF = xs) : (delAt L i).map unF = delAt xs i := by
  unfold delAt
  rw [List.map_append, List.map_take, List.map_drop, h]
theorem delAt_sub {α : Type} (l : List α) {i : Int} (h : 0 ≤ i) : (delAt l i).Sublist l := by
  unfold delAt
  have h1 : (l.drop (i + 1).toNat).Sublist (l.drop i.toNat) := by
    have : (i + 1).toNat = i.toNat + 1 := by omega
    rw [this, ← List.drop_drop]
    exact List.drop_sublist _ _
  have h2 := List.Sublist.append (List.Sublist.refl (l.take i.toNat)) h1
  rw [List.take_append_drop] at h2
  exact h2
theorem delAt_len {α : Type} (l : List α) {i : Int} (h : 0 ≤ i) (h1 : i < (l.length : Int)) : ((delAt l i).length : Int) = (l.length : Int) - 1 := by
  unfold delAt
  rw [List.length_append, List.length_take, List.length_drop]
  omega
theorem ring_turn {xs : List Fl} {tn : Int} {fr : Bool} (h : ringOkF xs tn fr = true) {i : Nat} (hi : i < xs.length) : 0 ≤ tn ∧ tn < (xs.length : Int) ∧ xs.length ≤ 12 := by
  have h1 := (ring_iff.1 h).1
  unfold RingHd at h1
  simp only at h1
  refine ⟨?_, ?_, ?_⟩ <;> omega
theorem totF_sub {l k : List Fl} (h : l.Sublist k) : totF l ≤ totF k := by
  induction h with
  | slnil => exact Nat.le_refl _
  | cons a _ ih => rw [totF]; omega
  | cons_cons a _ ih => rw [totF, totF]; omega
theorem drop_tot {fs : List Fl} {y : Int × Bool} (hT : totF fs ≤ 1048576) (i : Int) : totF (dropFlF (fs, y) i).1.1 ≤ 4000000 := by
  unfold dropFlF
  split
  · rename_i h
    have := totF_sub (delAt_sub fs (i := fidxGo i fs 0) h.2.1)
    show totF (delAt fs (fidxGo i fs 0)) ≤ _
    omega
  · show totF fs ≤ _
    omega
theorem eq1' {r : List FlG × Int × Bool} {L : List Fl} {y : Int × Bool} (e : (r.1.map unF, r.2.1, r.2.2) = (L, y)) : r.1.map unF = L ∧ r.2 = y := by
  injection e with h1 h2
  exact ⟨h1, h2⟩
theorem eq3d {r : (List FlG × Int × Bool) × Bool} {s : List FlG × Int × Bool} {y : Int × Bool} {i : Int} {L : List Fl} (e : ((r.1.1.map unF, r.1.2.1, r.1.2.2), r.2) = dropFlF (s.1.map unF, s.2) i) (h : (s.1.map unF, s.2.1, s.2.2) = (L, y)) : r.1.1.map unF = (dropFlF (L, y) i).1.1 ∧ r.1.2.1 = (dropFlF (L, y) i).1.2.1 ∧ r.1.2.2 = (dropFlF (L, y) i).1.2.2 ∧ r.2 = (dropFlF (L, y) i).2 := by
  rw [(eq1' h).1, (eq1' h).2] at e
  exact eq2 e
theorem erase_take {α : Type} (xs : List α) {k i : Nat} (d : α) (hk : k < xs.length) : (k ≠ i → (xs.take k).eraseIdx i ++ [xs.getD k d] = (xs.take (k + 1)).eraseIdx i) ∧ (k = i → (xs.take k).eraseIdx i = (xs.take (k + 1)).eraseIdx i) := by
  have h1 : xs.take (k + 1) = xs.take k ++ [xs.getD k d] := by
    rw [List.take_succ_eq_append_getElem hk]
    simp [hk]
  have hl : (xs.take k).length = k := by rw [List.length_take]; omega
  refine ⟨fun h => ?_, fun h => ?_⟩
  · rw [h1]
    by_cases hi : i < k
    · rw [List.eraseIdx_append_of_lt_length (by omega)]
    · rw [List.eraseIdx_of_length_le (by omega), List.eraseIdx_of_length_le (by simp; omega)]
  · subst h
    rw [h1, List.eraseIdx_of_length_le (by omega), List.eraseIdx_append_of_length_le (by omega), hl]
    simp
theorem erase_del {α : Type} (xs : List α) {i : Int} (h : 0 ≤ i) : xs.eraseIdx i.toNat = delAt xs i := by
  rw [List.eraseIdx_eq_take_drop_succ]
  unfold delAt
  have : (i + 1).toNat = i.toNat + 1 := by omega
  rw [this]
theorem canc_no {xs : List Fl} {tn : Int} {fr : Bool} {t id : Int} (h : ringOkF xs tn fr = false ∨ fidxGo t xs 0 < 0 ∨ idxGo id (xs.getD (fidxGo t xs 0).toNat fl0).2.2.2 0 < 0) : cancTkF (xs, tn, fr) t id = ((xs, tn, fr), (0, 0), false) := by
  unfold cancTkF
  rw [if_neg]
  intro ⟨h1, h2, h3⟩
  rcases h with h | h | h
  · simp only at h1; rw [h] at h1; cases h1
  · simp only at h2; omega
  · have h3 : 0 ≤ idxGo id (xs.getD (fidxGo t xs 0).toNat fl0).2.2.2 0 := h3
    omega
theorem canc_yes {xs : List Fl} {tn : Int} {fr : Bool} {t id : Int} {l : List Tk} {k j : Int} (h1 : ringOkF xs tn fr = true) (hk : fidxGo t xs 0 = k) (h2 : ¬ k < 0) (hl : (xs.getD k.toNat fl0).2.2.2 = l) (hj : idxGo id l 0 = j) (h3 : ¬ j < 0) :
    cancTkF (xs, tn, fr) t id = ((setFl xs k.toNat (decide (delAt l j = [])) (delAt l j), tn, if delAt l j = [] ∧ k = tn then false else fr), l.getD j.toNat (0, 0), true) := by
  subst hk
  subst hl
  subst hj
  unfold cancTkF
  rw [if_pos ⟨h1, by simp only; omega, by unfold lineAt; simp only; omega⟩]
  rfl
theorem getD_set' {L : List FlG} {i : Nat} (h : i < L.length) (f d : FlG) : (L.set i f).getD i d = f := by simp [h]
theorem set_set' {L : List FlG} (i : Nat) (f g : FlG) : (L.set i f).set i g = L.set i g := by simp
theorem setFl_un {L : List FlG} {xs : List Fl} {i : Nat} (h : L.map unF = xs) {f : FlG} {l : List Tk} {dz : Bool} (hf : unF f = ((unF (L.getD i fg0)).1, (unF (L.getD i fg0)).2.1, if dz = true then 0 else (unF (L.getD i fg0)).2.2.1, l)) : (L.set i f).map unF = setFl xs i dz l := by
  subst h
  unfold setFl
  rw [List.map_set, hf, getD_un]
theorem canc_tot {fs : List Fl} {y : Int × Bool} (hT : totF fs ≤ 1048576) (t id : Int) : totF (cancTkF (fs, y) t id).1.1 ≤ 4000000 := by
  unfold cancTkF
  split
  · show totF (setFl fs _ _ _) ≤ _
    unfold setFl
    refine Nat.le_trans (totF_set _ _ _) ?_
    have := totF_get fs (fidxGo t fs 0).toNat
    have h2 := (delAt_sub (fs.getD (fidxGo t fs 0).toNat fl0).2.2.2 (i := idxGo id (fs.getD (fidxGo t fs 0).toNat fl0).2.2.2 0) (by rename_i h; exact h.2.2)).length_le
    show totF fs + (delAt (fs.getD (fidxGo t fs 0).toNat fl0).2.2.2 (idxGo id (fs.getD (fidxGo t fs 0).toNat fl0).2.2.2 0)).length + 1 ≤ _
    omega
  · show totF fs ≤ _
    omega
theorem eq4 {r : (List FlG × Int × Bool) × Tk × Bool} {p : Rg × Tk × Bool} (e : ((r.1.1.map unF, r.1.2.1, r.1.2.2), r.2) = p) : r.1.1.map unF = p.1.1 ∧ r.1.2.1 = p.1.2.1 ∧ r.1.2.2 = p.1.2.2 ∧ r.2.1 = p.2.1 ∧ r.2.2 = p.2.2 := by
  rw [← e]
  exact ⟨rfl, rfl, rfl, rfl, rfl⟩
theorem eq5 {r : (List FlG × Int × Bool) × Tk × Bool} {s : List FlG × Int × Bool} {y : Int × Bool} {t i : Int} {L : List Fl} (e : ((r.1.1.map unF, r.1.2.1, r.1.2.2), r.2) = cancTkF (s.1.map unF, s.2) t i) (h : (s.1.map unF, s.2.1, s.2.2) = (L, y)) : r.1.1.map unF = (cancTkF (L, y) t i).1.1 ∧ r.1.2.1 = (cancTkF (L, y) t i).1.2.1 ∧ r.1.2.2 = (cancTkF (L, y) t i).1.2.2 ∧ r.2.1 = (cancTkF (L, y) t i).2.1 ∧ r.2.2 = (cancTkF (L, y) t i).2.2 := by
  rw [(eq1' h).1, (eq1' h).2] at e
  exact eq4 e
end Go.SF
