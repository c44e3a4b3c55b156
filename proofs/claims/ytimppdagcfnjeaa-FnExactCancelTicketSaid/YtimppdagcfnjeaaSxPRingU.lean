/- Flows dropped, tickets cancelled. No condition. -/
import Derived.Test.YtimppdagcfnjeaaSxC
import Derived.Test.YtimppdagcfnjeaaSxPRingL
namespace Go.SF
open Go.SX Go
set_option linter.unusedVariables false
set_option linter.unusedSimpArgs false
theorem sub_flat {α β : Type} (f : α → List β) : ∀ {l k : List α}, l.Sublist k → (l.flatMap f).Sublist (k.flatMap f) := by
  intro l k h
  induction h with
  | slnil => exact List.Sublist.refl _
  | cons a _ ih => rw [List.flatMap_cons]; exact ih.trans (List.sublist_append_right _ _)
  | cons_cons a _ ih => rw [List.flatMap_cons, List.flatMap_cons]; exact List.Sublist.append (List.Sublist.refl _) ih
theorem idsF_sub {xs ys : List FlG} (h : (idsF xs).Nodup) (hs : ys.Sublist xs) : (idsF ys).Nodup := h.sublist (sub_flat _ hs)
theorem drop_no {xs : List Fl} {tn : Int} {fr : Bool} {t : Int} (h : ringOkF xs tn fr = false ∨ fidxGo t xs 0 < 0 ∨ 0 < ((xs.getD (fidxGo t xs 0).toNat fl0).2.2.2.length : Int)) : dropFlF (xs, tn, fr) t = ((xs, tn, fr), false) := by
  unfold dropFlF
  rw [if_neg]
  intro ⟨h1, h2, h3⟩
  rcases h with h | h | h
  · simp only at h1; rw [h] at h1; cases h1
  · simp only at h2; omega
  · simp only at h3; rw [h3] at h; simp at h
theorem drop_yes {xs : List Fl} {tn : Int} {fr : Bool} {t : Int} (h1 : ringOkF xs tn fr = true) (h2 : ¬ fidxGo t xs 0 < 0) (h3 : ¬ 0 < ((xs.getD (fidxGo t xs 0).toNat fl0).2.2.2.length : Int)) : dropFlF (xs, tn, fr) t = ((delAt xs (fidxGo t xs 0), dropTurnF (fidxGo t xs 0) tn ((xs.length : Int) - 1), fr), true) := by
  unfold dropFlF
  rw [if_pos]
  refine ⟨h1, by simp only; omega, ?_⟩
  simp only
  cases h : (xs.getD (fidxGo t xs 0).toNat fl0).2.2.2 with
  | nil => rfl
  | cons a l => rw [h] at h3; simp at h3
theorem delAt_un {L : List FlG} {xs : List Fl} {i : Int} (h : L.map unF = xs) : (delAt L i).map unF = delAt xs i := by
  unfold delAt
  rw [List.map_append, List.map_take, List.map_drop, h]
theorem delAt_sub {α : Type} (l : List α) {i : Int} (h : 0 ≤ i) : (delAt l i).Sublist l := by
  unfold delAt
  have h1 : (l.drop (i + 1).toNat).Sublist (l.drop i.toNat) := by
    have : (i + 1).toNat = i.toNat + 1 := by omega
    rw [this, ← List.drop_drop]
    exact List.drop_sublist _ _
  have h2 := List.Sublist.append (List.Sublist.refl (l.take i.toNat)) h1
  rw [List.take_append_drop] at h2
  exact h2
theorem delAt_len {α : Type} (l : List α) {i : Int} (h : 0 ≤ i) (h1 : i < (l.length : Int)) : ((delAt l i).length : Int) = (l.length : Int) - 1 := by
  unfold delAt
  rw [List.length_append, List.length_take, List.length_drop]
  omega
theorem ring_turn {xs : List Fl} {tn : Int} {fr : Bool} (h : ringOkF xs tn fr = true) {i : Nat} (hi : i < xs.length) : 0 ≤ tn ∧ tn < (xs.length : Int) ∧ xs.length ≤ 12 := by
  have h1 := (ring_iff.1 h).1
  unfold RingHd at h1
  simp only at h1
  refine ⟨?_, ?_, ?_⟩ <;> omega
theorem totF_sub {l k : List Fl} (h : l.Sublist k) : totF l ≤ totF k := by
  induction h with
  | slnil => exact Nat.le_refl _
  | cons a _ ih => rw [totF]; omega
  | cons_cons a _ ih => rw [totF, totF]; omega
theorem drop_tot {fs : List Fl} {y : Int × Bool} (hT : totF fs ≤ 1048576) (i : Int) : totF (dropFlF (fs, y) i).1.1 ≤ 4000000 := by
  unfold dropFlF
  split
  · rename_i h
    have := totF_sub (delAt_sub fs (i := fidxGo i fs 0) h.2.1)
    show totF (delAt fs (fidxGo i fs 0)) ≤ _
    omega
  · show totF fs ≤ _
    omega
theorem eq1' {r : List FlG × Int × Bool} {L : List Fl} {y : Int × Bool} (e : (r.1.map unF, r.2.1, r.2.2) = (L, y)) : r.1.map unF = L ∧ r.2 = y := by
  injection e with h1 h2
  exact ⟨h1, h2⟩
theorem eq3d {r : (List FlG × Int × Bool) × Bool} {s : List FlG × Int × Bool} {y : Int × Bool} {i : Int} {L : List Fl} (e : ((r.1.1.map unF, r.1.2.1, r.1.2.2), r.2) = dropFlF (s.1.map unF, s.2) i) (h : (s.1.map unF, s.2.1, s.2.2) = (L, y)) : r.1.1.map unF = (dropFlF (L, y) i).1.1 ∧ r.1.2.1 = (dropFlF (L, y) i).1.2.1 ∧ r.1.2.2 = (dropFlF (L, y) i).1.2.2 ∧ r.2 = (dropFlF (L, y) i).2 := by
  rw [(eq1' h).1, (eq1' h).2] at e
  exact eq2 e
theorem erase_take {α : Type} (xs : List α) {k i : Nat} (d : α) (hk : k < xs.length) : (k ≠ i → (xs.take k).eraseIdx i ++ [xs.getD k d] = (xs.take (k + 1)).eraseIdx i) ∧ (k = i → (xs.take k).eraseIdx i = (xs.take (k + 1)).eraseIdx i) := by
  have h1 : xs.take (k + 1) = xs.take k ++ [xs.getD k d] := by
    rw [List.take_succ_eq_append_getElem hk]
    simp [hk]
  have hl : (xs.take k).length = k := by rw [List.length_take]; omega
  refine ⟨fun h => ?_, fun h => ?_⟩
  · rw [h1]
    by_cases hi : i < k
    · rw [List.eraseIdx_append_of_lt_length (by omega)]
    · rw [List.eraseIdx_of_length_le (by omega), List.eraseIdx_of_length_le (by simp; omega)]
  · subst h
    rw [h1, List.eraseIdx_of_length_le (by omega), List.eraseIdx_append_of_length_le (by omega), hl]
    simp
theorem erase_del {α : Type} (xs : List α) {i : Int} (h : 0 ≤ i) : xs.eraseIdx i.toNat = delAt xs i := by
  rw [List.eraseIdx_eq_take_drop_succ]
  unfold delAt
  have : (i + 1).toNat = i.toNat + 1 := by omega
  rw [this]
theorem canc_no {xs : List Fl} {tn : Int} {fr : Bool} {t id : Int} (h : ringOkF xs tn fr = false ∨ fidxGo t xs 0 < 0 ∨ idxGo id (xs.getD (fidxGo t xs 0).toNat fl0).2.2.2 0 < 0) : cancTkF (xs, tn, fr) t id = ((xs, tn, fr), (0, 0), false) := by
  unfold cancTkF
  rw [if_neg]
  intro ⟨h1, h2, h3⟩
  rcases h with h | h | h
  · simp only at h1; rw [h] at h1; cases h1
  · simp only at h2; omega
  · have h3 : 0 ≤ idxGo id (xs.getD (fidxGo t xs 0).toNat fl0).2.2.2 0 := h3
    omega
theorem canc_yes {xs : List Fl} {tn : Int} {fr : Bool} {t id : Int} {l : List Tk} {k j : Int} (h1 : ringOkF xs tn fr = true) (hk : fidxGo t xs 0 = k) (h2 : ¬ k < 0) (hl : (xs.getD k.toNat fl0).2.2.2 = l) (hj : idxGo id l 0 = j) (h3 : ¬ j < 0) :
    cancTkF (xs, tn, fr) t id = ((setFl xs k.toNat (decide (delAt l j = [])) (delAt l j), tn, if delAt l j = [] ∧ k = tn then false else fr), l.getD j.toNat (0, 0), true) := by
  subst hk
  subst hl
  subst hj
  unfold cancTkF
  rw [if_pos ⟨h1, by simp only; omega, by unfold lineAt; simp only; omega⟩]
  rfl
theorem getD_set' {L : List FlG} {i : Nat} (h : i < L.length) (f d : FlG) : (L.set i f).getD i d = f := by simp [h]
theorem set_set' {L : List FlG} (i : Nat) (f g : FlG) : (L.set i f).set i g = L.set i g := by simp
theorem setFl_un {L : List FlG} {xs : List Fl} {i : Nat} (h : L.map unF = xs) {f : FlG} {l : List Tk} {dz : Bool} (hf : unF f = ((unF (L.getD i fg0)).1, (unF (L.getD i fg0)).2.1, if dz = true then 0 else (unF (L.getD i fg0)).2.2.1, l)) : (L.set i f).map unF = setFl xs i dz l := by
  subst h
  unfold setFl
  rw [List.map_set, hf, getD_un]
theorem v_I_CancelTicketT :
  ∀ (d : (List (Int × Int × Int × List (Int × Int)) × Int × Bool) × Int × Int), Ty.wf ringT (Prod.fst d) ∧ Ty.wf i64T (Prod.fst (Prod.snd d)) ∧ Ty.wf i64T (Prod.snd (Prod.snd d)) → FlsP (Prod.fst (Prod.fst d)) → FlsP
  (Prod.fst (Prod.fst d)) ∧ ∀ (r : List (Int × Int × Int × Nat × List (Int × Int)) × Int × Bool), unD ringG r = Prod.fst d → List.Nodup (ids ringG r) → Ty.wf ringG r → True → True ∧ (Ty.wf i64T (fidxGo (Prod.fst
  (Prod.snd d)) (Prod.fst (Prod.fst d)) (0 : Nat)) → True ∧ ((!ringOkF (Prod.fst (Prod.fst d)) (Prod.fst (Prod.snd (Prod.fst d))) (Prod.snd (Prod.snd (Prod.fst d)))) = true → (unD ringG r, unD tkT ((0 : Int), (0 : Int)),
  unD Ty.bool false) = cancTkF (Prod.fst d) (Prod.fst (Prod.snd d)) (Prod.snd (Prod.snd d)) ∧ List.Nodup (ids ringG r ++ (ids tkT ((0 : Int), (0 : Int)) ++ ids Ty.bool false))) ∧ ((!ringOkF (Prod.fst (Prod.fst d))
  (Prod.fst (Prod.snd (Prod.fst d))) (Prod.snd (Prod.snd (Prod.fst d)))) = false → (decide (fidxGo (Prod.fst (Prod.snd d)) (Prod.fst (Prod.fst d)) (0 : Nat) < (0 : Int)) = true → (unD ringG r, unD tkT ((0 : Int), (0 :
  Int)), unD Ty.bool false) = cancTkF (Prod.fst d) (Prod.fst (Prod.snd d)) (Prod.snd (Prod.snd d)) ∧ List.Nodup (ids ringG r ++ (ids tkT ((0 : Int), (0 : Int)) ++ ids Ty.bool false))) ∧ (decide (fidxGo (Prod.fst
  (Prod.snd d)) (Prod.fst (Prod.fst d)) (0 : Nat) < (0 : Int)) = false → ((0 : Int) ≤ fidxGo (Prod.fst (Prod.snd d)) (Prod.fst (Prod.fst d)) (0 : Nat) ∧ fidxGo (Prod.fst (Prod.snd d)) (Prod.fst (Prod.fst d)) (0 : Nat) <
  (↑(List.length (Prod.fst r)) : Int)) ∧ True ∧ (Ty.wf i64T (idxGo (Prod.snd (Prod.snd d)) (Prod.snd (Prod.snd (Prod.snd (Prod.snd (List.getD (Prod.fst r) (Int.toNat (fidxGo (Prod.fst (Prod.snd d)) (Prod.fst (Prod.fst
  d)) (0 : Nat))) ((0 : Int), (0 : Int), (0 : Int), (0 : Nat), [])))))) (0 : Nat)) → (decide (idxGo (Prod.snd (Prod.snd d)) (Prod.snd (Prod.snd (Prod.snd (Prod.snd (List.getD (Prod.fst r) (Int.toNat (fidxGo (Prod.fst
  (Prod.snd d)) (Prod.fst (Prod.fst d)) (0 : Nat))) ((0 : Int), (0 : Int), (0 : Int), (0 : Nat), [])))))) (0 : Nat) < (0 : Int)) = true → (unD ringG r, unD tkT ((0 : Int), (0 : Int)), unD Ty.bool false) = cancTkF
  (Prod.fst d) (Prod.fst (Prod.snd d)) (Prod.snd (Prod.snd d)) ∧ List.Nodup (ids ringG r ++ (ids tkT ((0 : Int), (0 : Int)) ++ ids Ty.bool false))) ∧ (decide (idxGo (Prod.snd (Prod.snd d)) (Prod.snd (Prod.snd (Prod.snd
  (Prod.snd (List.getD (Prod.fst r) (Int.toNat (fidxGo (Prod.fst (Prod.snd d)) (Prod.fst (Prod.fst d)) (0 : Nat))) ((0 : Int), (0 : Int), (0 : Int), (0 : Nat), [])))))) (0 : Nat) < (0 : Int)) = false → ((0 : Int) ≤ idxGo
  (Prod.snd (Prod.snd d)) (Prod.snd (Prod.snd (Prod.snd (Prod.snd (List.getD (Prod.fst r) (Int.toNat (fidxGo (Prod.fst (Prod.snd d)) (Prod.fst (Prod.fst d)) (0 : Nat))) ((0 : Int), (0 : Int), (0 : Int), (0 : Nat),
  [])))))) (0 : Nat) ∧ idxGo (Prod.snd (Prod.snd d)) (Prod.snd (Prod.snd (Prod.snd (Prod.snd (List.getD (Prod.fst r) (Int.toNat (fidxGo (Prod.fst (Prod.snd d)) (Prod.fst (Prod.fst d)) (0 : Nat))) ((0 : Int), (0 : Int),
  (0 : Int), (0 : Nat), [])))))) (0 : Nat) < (↑(List.length (Prod.snd (Prod.snd (Prod.snd (Prod.snd (List.getD (Prod.fst r) (Int.toNat (fidxGo (Prod.fst (Prod.snd d)) (Prod.fst (Prod.fst d)) (0 : Nat))) ((0 : Int), (0 :
  Int), (0 : Int), (0 : Nat), []))))))) : Int)) ∧ ((0 : Tup [i64T]) ≤ idxGo (Prod.snd (Prod.snd d)) (Prod.snd (Prod.snd (Prod.snd (Prod.snd (List.getD (Prod.fst r) (Int.toNat (fidxGo (Prod.fst (Prod.snd d)) (Prod.fst
  (Prod.fst d)) (0 : Nat))) ((0 : Int), (0 : Int), (0 : Int), (0 : Nat), [])))))) (0 : Nat) ∧ idxGo (Prod.snd (Prod.snd d)) (Prod.snd (Prod.snd (Prod.snd (Prod.snd (List.getD (Prod.fst r) (Int.toNat (fidxGo (Prod.fst
  (Prod.snd d)) (Prod.fst (Prod.fst d)) (0 : Nat))) ((0 : Int), (0 : Int), (0 : Int), (0 : Nat), [])))))) (0 : Nat) < (↑(List.length (Prod.snd (Prod.snd (Prod.snd (Prod.snd (List.getD (Prod.fst r) (Int.toNat (fidxGo
  (Prod.fst (Prod.snd d)) (Prod.fst (Prod.fst d)) (0 : Nat))) ((0 : Int), (0 : Int), (0 : Int), (0 : Nat), []))))))) : Int) ∧ List.length (Prod.snd (Prod.snd (Prod.snd (Prod.snd (List.getD (Prod.fst r) (Int.toNat (fidxGo
  (Prod.fst (Prod.snd d)) (Prod.fst (Prod.fst d)) (0 : Nat))) ((0 : Int), (0 : Int), (0 : Int), (0 : Nat), [])))))) ≤ (1048576 : Nat)) ∧ (Ty.wf lineT (delAt (Prod.snd (Prod.snd (Prod.snd (Prod.snd (List.getD (Prod.fst r)
  (Int.toNat (fidxGo (Prod.fst (Prod.snd d)) (Prod.fst (Prod.fst d)) (0 : Nat))) ((0 : Int), (0 : Int), (0 : Int), (0 : Nat), [])))))) (idxGo (Prod.snd (Prod.snd d)) (Prod.snd (Prod.snd (Prod.snd (Prod.snd (List.getD
  (Prod.fst r) (Int.toNat (fidxGo (Prod.fst (Prod.snd d)) (Prod.fst (Prod.fst d)) (0 : Nat))) ((0 : Int), (0 : Int), (0 : Int), (0 : Nat), [])))))) (0 : Nat))) → ∀ (b : Nat), ¬b ∈ idsL flG (Prod.fst r) → ((decide
  ((↑(List.length (Prod.snd (Prod.snd (Prod.snd (Prod.snd (List.getD (List.set (Prod.fst r) (Int.toNat (fidxGo (Prod.fst (Prod.snd d)) (Prod.fst (Prod.fst d)) (0 : Nat))) (Prod.fst (List.getD (Prod.fst r) (Int.toNat
  (fidxGo (Prod.fst (Prod.snd d)) (Prod.fst (Prod.fst d)) (0 : Nat))) ((0 : Int), (0 : Int), (0 : Int), (0 : Nat), [])), Prod.fst (Prod.snd (List.getD (Prod.fst r) (Int.toNat (fidxGo (Prod.fst (Prod.snd d)) (Prod.fst
  (Prod.fst d)) (0 : Nat))) ((0 : Int), (0 : Int), (0 : Int), (0 : Nat), []))), Prod.fst (Prod.snd (Prod.snd (List.getD (Prod.fst r) (Int.toNat (fidxGo (Prod.fst (Prod.snd d)) (Prod.fst (Prod.fst d)) (0 : Nat))) ((0 :
  Int), (0 : Int), (0 : Int), (0 : Nat), [])))), b, delAt (Prod.snd (Prod.snd (Prod.snd (Prod.snd (List.getD (Prod.fst r) (Int.toNat (fidxGo (Prod.fst (Prod.snd d)) (Prod.fst (Prod.fst d)) (0 : Nat))) ((0 : Int), (0 :
  Int), (0 : Int), (0 : Nat), [])))))) (idxGo (Prod.snd (Prod.snd d)) (Prod.snd (Prod.snd (Prod.snd (Prod.snd (List.getD (Prod.fst r) (Int.toNat (fidxGo (Prod.fst (Prod.snd d)) (Prod.fst (Prod.fst d)) (0 : Nat))) ((0 :
  Int), (0 : Int), (0 : Int), (0 : Nat), [])))))) (0 : Nat)))) (Int.toNat (fidxGo (Prod.fst (Prod.snd d)) (Prod.fst (Prod.fst d)) (0 : Nat))) ((0 : Int), (0 : Int), (0 : Int), (0 : Nat), []))))))) : Int) = (0 : Int)) =
  true → (decide (fidxGo (Prod.fst (Prod.snd d)) (Prod.fst (Prod.fst d)) (0 : Nat) = Prod.fst (Prod.snd r)) = true → ∃ (x' : List (Int × Int × Int × Nat × List (Int × Int))), (List.map unF x' = Prod.fst (Prod.fst
  (cancTkF (Prod.fst d) (Prod.fst (Prod.snd d)) (Prod.snd (Prod.snd d)))) ∧ List.Nodup (idsF x') ∧ Prod.snd (Prod.snd (cancTkF (Prod.fst d) (Prod.fst (Prod.snd d)) (Prod.snd (Prod.snd d)))) = true) ∧ ((Prod.fst (Prod.fst
  d) = Prod.fst (Prod.fst d) ∧ Prod.fst (Prod.snd (Prod.fst d)) = Prod.fst (Prod.snd (Prod.fst d)) ∧ Prod.snd (Prod.snd (Prod.fst d)) = Prod.snd (Prod.snd (Prod.fst d))) ∧ Prod.fst (Prod.snd d) = Prod.fst (Prod.snd d) ∧
  Prod.snd (Prod.snd d) = Prod.snd (Prod.snd d)) ∧ (Prod.fst (Prod.fst d) = Prod.fst (Prod.fst d) ∧ Prod.fst (Prod.snd (Prod.fst d)) = Prod.fst (Prod.snd (Prod.fst d)) ∧ Prod.snd (Prod.snd (Prod.fst d)) = Prod.snd
  (Prod.snd (Prod.fst d))) ∧ (Value.slice none (0 : Nat) (0 : Nat) = Value.slice none (0 : Nat) (0 : Nat) ∧ (0 : Int) = (0 : Int)) ∧ ((0 : Int) = (0 : Int) ∧ (0 : Int) = (0 : Int)) ∧ List.set (List.set (Prod.fst r)
  (Int.toNat (fidxGo (Prod.fst (Prod.snd d)) (Prod.fst (Prod.fst d)) (0 : Nat))) (Prod.fst (List.getD (Prod.fst r) (Int.toNat (fidxGo (Prod.fst (Prod.snd d)) (Prod.fst (Prod.fst d)) (0 : Nat))) ((0 : Int), (0 : Int), (0
  : Int), (0 : Nat), [])), Prod.fst (Prod.snd (List.getD (Prod.fst r) (Int.toNat (fidxGo (Prod.fst (Prod.snd d)) (Prod.fst (Prod.fst d)) (0 : Nat))) ((0 : Int), (0 : Int), (0 : Int), (0 : Nat), []))), Prod.fst (Prod.snd
  (Prod.snd (List.getD (Prod.fst r) (Int.toNat (fidxGo (Prod.fst (Prod.snd d)) (Prod.fst (Prod.fst d)) (0 : Nat))) ((0 : Int), (0 : Int), (0 : Int), (0 : Nat), [])))), b, delAt (Prod.snd (Prod.snd (Prod.snd (Prod.snd
  (List.getD (Prod.fst r) (Int.toNat (fidxGo (Prod.fst (Prod.snd d)) (Prod.fst (Prod.fst d)) (0 : Nat))) ((0 : Int), (0 : Int), (0 : Int), (0 : Nat), [])))))) (idxGo (Prod.snd (Prod.snd d)) (Prod.snd (Prod.snd (Prod.snd
  (Prod.snd (List.getD (Prod.fst r) (Int.toNat (fidxGo (Prod.fst (Prod.snd d)) (Prod.fst (Prod.fst d)) (0 : Nat))) ((0 : Int), (0 : Int), (0 : Int), (0 : Nat), [])))))) (0 : Nat)))) (Int.toNat (fidxGo (Prod.fst (Prod.snd
  d)) (Prod.fst (Prod.fst d)) (0 : Nat))) (Prod.fst (List.getD (List.set (Prod.fst r) (Int.toNat (fidxGo (Prod.fst (Prod.snd d)) (Prod.fst (Prod.fst d)) (0 : Nat))) (Prod.fst (List.getD (Prod.fst r) (Int.toNat (fidxGo
  (Prod.fst (Prod.snd d)) (Prod.fst (Prod.fst d)) (0 : Nat))) ((0 : Int), (0 : Int), (0 : Int), (0 : Nat), [])), Prod.fst (Prod.snd (List.getD (Prod.fst r) (Int.toNat (fidxGo (Prod.fst (Prod.snd d)) (Prod.fst (Prod.fst
  d)) (0 : Nat))) ((0 : Int), (0 : Int), (0 : Int), (0 : Nat), []))), Prod.fst (Prod.snd (Prod.snd (List.getD (Prod.fst r) (Int.toNat (fidxGo (Prod.fst (Prod.snd d)) (Prod.fst (Prod.fst d)) (0 : Nat))) ((0 : Int), (0 :
  Int), (0 : Int), (0 : Nat), [])))), b, delAt (Prod.snd (Prod.snd (Prod.snd (Prod.snd (List.getD (Prod.fst r) (Int.toNat (fidxGo (Prod.fst (Prod.snd d)) (Prod.fst (Prod.fst d)) (0 : Nat))) ((0 : Int), (0 : Int), (0 :
  Int), (0 : Nat), [])))))) (idxGo (Prod.snd (Prod.snd d)) (Prod.snd (Prod.snd (Prod.snd (Prod.snd (List.getD (Prod.fst r) (Int.toNat (fidxGo (Prod.fst (Prod.snd d)) (Prod.fst (Prod.fst d)) (0 : Nat))) ((0 : Int), (0 :
  Int), (0 : Int), (0 : Nat), [])))))) (0 : Nat)))) (Int.toNat (fidxGo (Prod.fst (Prod.snd d)) (Prod.fst (Prod.fst d)) (0 : Nat))) ((0 : Int), (0 : Int), (0 : Int), (0 : Nat), [])), Prod.fst (Prod.snd (List.getD
  (List.set (Prod.fst r) (Int.toNat (fidxGo (Prod.fst (Prod.snd d)) (Prod.fst (Prod.fst d)) (0 : Nat))) (Prod.fst (List.getD (Prod.fst r) (Int.toNat (fidxGo (Prod.fst (Prod.snd d)) (Prod.fst (Prod.fst d)) (0 : Nat))) ((0
  : Int), (0 : Int), (0 : Int), (0 : Nat), [])), Prod.fst (Prod.snd (List.getD (Prod.fst r) (Int.toNat (fidxGo (Prod.fst (Prod.snd d)) (Prod.fst (Prod.fst d)) (0 : Nat))) ((0 : Int), (0 : Int), (0 : Int), (0 : Nat),
  []))), Prod.fst (Prod.snd (Prod.snd (List.getD (Prod.fst r) (Int.toNat (fidxGo (Prod.fst (Prod.snd d)) (Prod.fst (Prod.fst d)) (0 : Nat))) ((0 : Int), (0 : Int), (0 : Int), (0 : Nat), [])))), b, delAt (Prod.snd
  (Prod.snd (Prod.snd (Prod.snd (List.getD (Prod.fst r) (Int.toNat (fidxGo (Prod.fst (Prod.snd d)) (Prod.fst (Prod.fst d)) (0 : Nat))) ((0 : Int), (0 : Int), (0 : Int), (0 : Nat), [])))))) (idxGo (Prod.snd (Prod.snd d))
  (Prod.snd (Prod.snd (Prod.snd (Prod.snd (List.getD (Prod.fst r) (Int.toNat (fidxGo (Prod.fst (Prod.snd d)) (Prod.fst (Prod.fst d)) (0 : Nat))) ((0 : Int), (0 : Int), (0 : Int), (0 : Nat), [])))))) (0 : Nat))))
  (Int.toNat (fidxGo (Prod.fst (Prod.snd d)) (Prod.fst (Prod.fst d)) (0 : Nat))) ((0 : Int), (0 : Int), (0 : Int), (0 : Nat), []))), (0 : Int), Prod.snd (Prod.snd (Prod.snd (List.getD (List.set (Prod.fst r) (Int.toNat
  (fidxGo (Prod.fst (Prod.snd d)) (Prod.fst (Prod.fst d)) (0 : Nat))) (Prod.fst (List.getD (Prod.fst r) (Int.toNat (fidxGo (Prod.fst (Prod.snd d)) (Prod.fst (Prod.fst d)) (0 : Nat))) ((0 : Int), (0 : Int), (0 : Int), (0
  : Nat), [])), Prod.fst (Prod.snd (List.getD (Prod.fst r) (Int.toNat (fidxGo (Prod.fst (Prod.snd d)) (Prod.fst (Prod.fst d)) (0 : Nat))) ((0 : Int), (0 : Int), (0 : Int), (0 : Nat), []))), Prod.fst (Prod.snd (Prod.snd
  (List.getD (Prod.fst r) (Int.toNat (fidxGo (Prod.fst (Prod.snd d)) (Prod.fst (Prod.fst d)) (0 : Nat))) ((0 : Int), (0 : Int), (0 : Int), (0 : Nat), [])))), b, delAt (Prod.snd (Prod.snd (Prod.snd (Prod.snd (List.getD
  (Prod.fst r) (Int.toNat (fidxGo (Prod.fst (Prod.snd d)) (Prod.fst (Prod.fst d)) (0 : Nat))) ((0 : Int), (0 : Int), (0 : Int), (0 : Nat), [])))))) (idxGo (Prod.snd (Prod.snd d)) (Prod.snd (Prod.snd (Prod.snd (Prod.snd
  (List.getD (Prod.fst r) (Int.toNat (fidxGo (Prod.fst (Prod.snd d)) (Prod.fst (Prod.fst d)) (0 : Nat))) ((0 : Int), (0 : Int), (0 : Int), (0 : Nat), [])))))) (0 : Nat)))) (Int.toNat (fidxGo (Prod.fst (Prod.snd d))
  (Prod.fst (Prod.fst d)) (0 : Nat))) ((0 : Int), (0 : Int), (0 : Int), (0 : Nat), []))))) = x' ∧ (Prod.fst (Prod.snd r) = Prod.fst (Prod.snd (Prod.fst (cancTkF (Prod.fst d) (Prod.fst (Prod.snd d)) (Prod.snd (Prod.snd
  d))))) ∧ Prod.snd (Prod.snd (Prod.fst (cancTkF (Prod.fst d) (Prod.fst (Prod.snd d)) (Prod.snd (Prod.snd d))))) = false) ∧ Prod.fst (List.getD (Prod.snd (Prod.snd (Prod.snd (Prod.snd (List.getD (Prod.fst r) (Int.toNat
  (fidxGo (Prod.fst (Prod.snd d)) (Prod.fst (Prod.fst d)) (0 : Nat))) ((0 : Int), (0 : Int), (0 : Int), (0 : Nat), [])))))) (Int.toNat (idxGo (Prod.snd (Prod.snd d)) (Prod.snd (Prod.snd (Prod.snd (Prod.snd (List.getD
  (Prod.fst r) (Int.toNat (fidxGo (Prod.fst (Prod.snd d)) (Prod.fst (Prod.fst d)) (0 : Nat))) ((0 : Int), (0 : Int), (0 : Int), (0 : Nat), [])))))) (0 : Nat))) ((0 : Int), (0 : Int))) = Prod.fst (Prod.fst (Prod.snd
  (cancTkF (Prod.fst d) (Prod.fst (Prod.snd d)) (Prod.snd (Prod.snd d))))) ∧ Prod.snd (List.getD (Prod.snd (Prod.snd (Prod.snd (Prod.snd (List.getD (Prod.fst r) (Int.toNat (fidxGo (Prod.fst (Prod.snd d)) (Prod.fst
  (Prod.fst d)) (0 : Nat))) ((0 : Int), (0 : Int), (0 : Int), (0 : Nat), [])))))) (Int.toNat (idxGo (Prod.snd (Prod.snd d)) (Prod.snd (Prod.snd (Prod.snd (Prod.snd (List.getD (Prod.fst r) (Int.toNat (fidxGo (Prod.fst
  (Prod.snd d)) (Prod.fst (Prod.fst d)) (0 : Nat))) ((0 : Int), (0 : Int), (0 : Int), (0 : Nat), [])))))) (0 : Nat))) ((0 : Int), (0 : Int))) = Prod.snd (Prod.fst (Prod.snd (cancTkF (Prod.fst d) (Prod.fst (Prod.snd d))
  (Prod.snd (Prod.snd d)))))) ∧ (decide (fidxGo (Prod.fst (Prod.snd d)) (Prod.fst (Prod.fst d)) (0 : Nat) = Prod.fst (Prod.snd r)) = false → ∃ (x' : List (Int × Int × Int × Nat × List (Int × Int))), (List.map unF x' =
  Prod.fst (Prod.fst (cancTkF (Prod.fst d) (Prod.fst (Prod.snd d)) (Prod.snd (Prod.snd d)))) ∧ List.Nodup (idsF x') ∧ Prod.snd (Prod.snd (cancTkF (Prod.fst d) (Prod.fst (Prod.snd d)) (Prod.snd (Prod.snd d)))) = true) ∧
  ((Prod.fst (Prod.fst d) = Prod.fst (Prod.fst d) ∧ Prod.fst (Prod.snd (Prod.fst d)) = Prod.fst (Prod.snd (Prod.fst d)) ∧ Prod.snd (Prod.snd (Prod.fst d)) = Prod.snd (Prod.snd (Prod.fst d))) ∧ Prod.fst (Prod.snd d) =
  Prod.fst (Prod.snd d) ∧ Prod.snd (Prod.snd d) = Prod.snd (Prod.snd d)) ∧ (Prod.fst (Prod.fst d) = Prod.fst (Prod.fst d) ∧ Prod.fst (Prod.snd (Prod.fst d)) = Prod.fst (Prod.snd (Prod.fst d)) ∧ Prod.snd (Prod.snd
  (Prod.fst d)) = Prod.snd (Prod.snd (Prod.fst d))) ∧ (Value.slice none (0 : Nat) (0 : Nat) = Value.slice none (0 : Nat) (0 : Nat) ∧ (0 : Int) = (0 : Int)) ∧ ((0 : Int) = (0 : Int) ∧ (0 : Int) = (0 : Int)) ∧ List.set
  (List.set (Prod.fst r) (Int.toNat (fidxGo (Prod.fst (Prod.snd d)) (Prod.fst (Prod.fst d)) (0 : Nat))) (Prod.fst (List.getD (Prod.fst r) (Int.toNat (fidxGo (Prod.fst (Prod.snd d)) (Prod.fst (Prod.fst d)) (0 : Nat))) ((0
  : Int), (0 : Int), (0 : Int), (0 : Nat), [])), Prod.fst (Prod.snd (List.getD (Prod.fst r) (Int.toNat (fidxGo (Prod.fst (Prod.snd d)) (Prod.fst (Prod.fst d)) (0 : Nat))) ((0 : Int), (0 : Int), (0 : Int), (0 : Nat),
  []))), Prod.fst (Prod.snd (Prod.snd (List.getD (Prod.fst r) (Int.toNat (fidxGo (Prod.fst (Prod.snd d)) (Prod.fst (Prod.fst d)) (0 : Nat))) ((0 : Int), (0 : Int), (0 : Int), (0 : Nat), [])))), b, delAt (Prod.snd
  (Prod.snd (Prod.snd (Prod.snd (List.getD (Prod.fst r) (Int.toNat (fidxGo (Prod.fst (Prod.snd d)) (Prod.fst (Prod.fst d)) (0 : Nat))) ((0 : Int), (0 : Int), (0 : Int), (0 : Nat), [])))))) (idxGo (Prod.snd (Prod.snd d))
  (Prod.snd (Prod.snd (Prod.snd (Prod.snd (List.getD (Prod.fst r) (Int.toNat (fidxGo (Prod.fst (Prod.snd d)) (Prod.fst (Prod.fst d)) (0 : Nat))) ((0 : Int), (0 : Int), (0 : Int), (0 : Nat), [])))))) (0 : Nat))))
  (Int.toNat (fidxGo (Prod.fst (Prod.snd d)) (Prod.fst (Prod.fst d)) (0 : Nat))) (Prod.fst (List.getD (List.set (Prod.fst r) (Int.toNat (fidxGo (Prod.fst (Prod.snd d)) (Prod.fst (Prod.fst d)) (0 : Nat))) (Prod.fst
  (List.getD (Prod.fst r) (Int.toNat (fidxGo (Prod.fst (Prod.snd d)) (Prod.fst (Prod.fst d)) (0 : Nat))) ((0 : Int), (0 : Int), (0 : Int), (0 : Nat), [])), Prod.fst (Prod.snd (List.getD (Prod.fst r) (Int.toNat (fidxGo
  (Prod.fst (Prod.snd d)) (Prod.fst (Prod.fst d)) (0 : Nat))) ((0 : Int), (0 : Int), (0 : Int), (0 : Nat), []))), Prod.fst (Prod.snd (Prod.snd (List.getD (Prod.fst r) (Int.toNat (fidxGo (Prod.fst (Prod.snd d)) (Prod.fst
  (Prod.fst d)) (0 : Nat))) ((0 : Int), (0 : Int), (0 : Int), (0 : Nat), [])))), b, delAt (Prod.snd (Prod.snd (Prod.snd (Prod.snd (List.getD (Prod.fst r) (Int.toNat (fidxGo (Prod.fst (Prod.snd d)) (Prod.fst (Prod.fst d))
  (0 : Nat))) ((0 : Int), (0 : Int), (0 : Int), (0 : Nat), [])))))) (idxGo (Prod.snd (Prod.snd d)) (Prod.snd (Prod.snd (Prod.snd (Prod.snd (List.getD (Prod.fst r) (Int.toNat (fidxGo (Prod.fst (Prod.snd d)) (Prod.fst
  (Prod.fst d)) (0 : Nat))) ((0 : Int), (0 : Int), (0 : Int), (0 : Nat), [])))))) (0 : Nat)))) (Int.toNat (fidxGo (Prod.fst (Prod.snd d)) (Prod.fst (Prod.fst d)) (0 : Nat))) ((0 : Int), (0 : Int), (0 : Int), (0 : Nat),
  [])), Prod.fst (Prod.snd (List.getD (List.set (Prod.fst r) (Int.toNat (fidxGo (Prod.fst (Prod.snd d)) (Prod.fst (Prod.fst d)) (0 : Nat))) (Prod.fst (List.getD (Prod.fst r) (Int.toNat (fidxGo (Prod.fst (Prod.snd d))
  (Prod.fst (Prod.fst d)) (0 : Nat))) ((0 : Int), (0 : Int), (0 : Int), (0 : Nat), [])), Prod.fst (Prod.snd (List.getD (Prod.fst r) (Int.toNat (fidxGo (Prod.fst (Prod.snd d)) (Prod.fst (Prod.fst d)) (0 : Nat))) ((0 :
  Int), (0 : Int), (0 : Int), (0 : Nat), []))), Prod.fst (Prod.snd (Prod.snd (List.getD (Prod.fst r) (Int.toNat (fidxGo (Prod.fst (Prod.snd d)) (Prod.fst (Prod.fst d)) (0 : Nat))) ((0 : Int), (0 : Int), (0 : Int), (0 :
  Nat), [])))), b, delAt (Prod.snd (Prod.snd (Prod.snd (Prod.snd (List.getD (Prod.fst r) (Int.toNat (fidxGo (Prod.fst (Prod.snd d)) (Prod.fst (Prod.fst d)) (0 : Nat))) ((0 : Int), (0 : Int), (0 : Int), (0 : Nat),
  [])))))) (idxGo (Prod.snd (Prod.snd d)) (Prod.snd (Prod.snd (Prod.snd (Prod.snd (List.getD (Prod.fst r) (Int.toNat (fidxGo (Prod.fst (Prod.snd d)) (Prod.fst (Prod.fst d)) (0 : Nat))) ((0 : Int), (0 : Int), (0 : Int),
  (0 : Nat), [])))))) (0 : Nat)))) (Int.toNat (fidxGo (Prod.fst (Prod.snd d)) (Prod.fst (Prod.fst d)) (0 : Nat))) ((0 : Int), (0 : Int), (0 : Int), (0 : Nat), []))), (0 : Int), Prod.snd (Prod.snd (Prod.snd (List.getD
  (List.set (Prod.fst r) (Int.toNat (fidxGo (Prod.fst (Prod.snd d)) (Prod.fst (Prod.fst d)) (0 : Nat))) (Prod.fst (List.getD (Prod.fst r) (Int.toNat (fidxGo (Prod.fst (Prod.snd d)) (Prod.fst (Prod.fst d)) (0 : Nat))) ((0
  : Int), (0 : Int), (0 : Int), (0 : Nat), [])), Prod.fst (Prod.snd (List.getD (Prod.fst r) (Int.toNat (fidxGo (Prod.fst (Prod.snd d)) (Prod.fst (Prod.fst d)) (0 : Nat))) ((0 : Int), (0 : Int), (0 : Int), (0 : Nat),
  []))), Prod.fst (Prod.snd (Prod.snd (List.getD (Prod.fst r) (Int.toNat (fidxGo (Prod.fst (Prod.snd d)) (Prod.fst (Prod.fst d)) (0 : Nat))) ((0 : Int), (0 : Int), (0 : Int), (0 : Nat), [])))), b, delAt (Prod.snd
  (Prod.snd (Prod.snd (Prod.snd (List.getD (Prod.fst r) (Int.toNat (fidxGo (Prod.fst (Prod.snd d)) (Prod.fst (Prod.fst d)) (0 : Nat))) ((0 : Int), (0 : Int), (0 : Int), (0 : Nat), [])))))) (idxGo (Prod.snd (Prod.snd d))
  (Prod.snd (Prod.snd (Prod.snd (Prod.snd (List.getD (Prod.fst r) (Int.toNat (fidxGo (Prod.fst (Prod.snd d)) (Prod.fst (Prod.fst d)) (0 : Nat))) ((0 : Int), (0 : Int), (0 : Int), (0 : Nat), [])))))) (0 : Nat))))
  (Int.toNat (fidxGo (Prod.fst (Prod.snd d)) (Prod.fst (Prod.fst d)) (0 : Nat))) ((0 : Int), (0 : Int), (0 : Int), (0 : Nat), []))))) = x' ∧ (Prod.fst (Prod.snd r) = Prod.fst (Prod.snd (Prod.fst (cancTkF (Prod.fst d)
  (Prod.fst (Prod.snd d)) (Prod.snd (Prod.snd d))))) ∧ Prod.snd (Prod.snd r) = Prod.snd (Prod.snd (Prod.fst (cancTkF (Prod.fst d) (Prod.fst (Prod.snd d)) (Prod.snd (Prod.snd d)))))) ∧ Prod.fst (List.getD (Prod.snd
  (Prod.snd (Prod.snd (Prod.snd (List.getD (Prod.fst r) (Int.toNat (fidxGo (Prod.fst (Prod.snd d)) (Prod.fst (Prod.fst d)) (0 : Nat))) ((0 : Int), (0 : Int), (0 : Int), (0 : Nat), [])))))) (Int.toNat (idxGo (Prod.snd
  (Prod.snd d)) (Prod.snd (Prod.snd (Prod.snd (Prod.snd (List.getD (Prod.fst r) (Int.toNat (fidxGo (Prod.fst (Prod.snd d)) (Prod.fst (Prod.fst d)) (0 : Nat))) ((0 : Int), (0 : Int), (0 : Int), (0 : Nat), [])))))) (0 :
  Nat))) ((0 : Int), (0 : Int))) = Prod.fst (Prod.fst (Prod.snd (cancTkF (Prod.fst d) (Prod.fst (Prod.snd d)) (Prod.snd (Prod.snd d))))) ∧ Prod.snd (List.getD (Prod.snd (Prod.snd (Prod.snd (Prod.snd (List.getD (Prod.fst
  r) (Int.toNat (fidxGo (Prod.fst (Prod.snd d)) (Prod.fst (Prod.fst d)) (0 : Nat))) ((0 : Int), (0 : Int), (0 : Int), (0 : Nat), [])))))) (Int.toNat (idxGo (Prod.snd (Prod.snd d)) (Prod.snd (Prod.snd (Prod.snd (Prod.snd
  (List.getD (Prod.fst r) (Int.toNat (fidxGo (Prod.fst (Prod.snd d)) (Prod.fst (Prod.fst d)) (0 : Nat))) ((0 : Int), (0 : Int), (0 : Int), (0 : Nat), [])))))) (0 : Nat))) ((0 : Int), (0 : Int))) = Prod.snd (Prod.fst
  (Prod.snd (cancTkF (Prod.fst d) (Prod.fst (Prod.snd d)) (Prod.snd (Prod.snd d))))))) ∧ (decide ((↑(List.length (Prod.snd (Prod.snd (Prod.snd (Prod.snd (List.getD (List.set (Prod.fst r) (Int.toNat (fidxGo (Prod.fst
  (Prod.snd d)) (Prod.fst (Prod.fst d)) (0 : Nat))) (Prod.fst (List.getD (Prod.fst r) (Int.toNat (fidxGo (Prod.fst (Prod.snd d)) (Prod.fst (Prod.fst d)) (0 : Nat))) ((0 : Int), (0 : Int), (0 : Int), (0 : Nat), [])),
  Prod.fst (Prod.snd (List.getD (Prod.fst r) (Int.toNat (fidxGo (Prod.fst (Prod.snd d)) (Prod.fst (Prod.fst d)) (0 : Nat))) ((0 : Int), (0 : Int), (0 : Int), (0 : Nat), []))), Prod.fst (Prod.snd (Prod.snd (List.getD
  (Prod.fst r) (Int.toNat (fidxGo (Prod.fst (Prod.snd d)) (Prod.fst (Prod.fst d)) (0 : Nat))) ((0 : Int), (0 : Int), (0 : Int), (0 : Nat), [])))), b, delAt (Prod.snd (Prod.snd (Prod.snd (Prod.snd (List.getD (Prod.fst r)
  (Int.toNat (fidxGo (Prod.fst (Prod.snd d)) (Prod.fst (Prod.fst d)) (0 : Nat))) ((0 : Int), (0 : Int), (0 : Int), (0 : Nat), [])))))) (idxGo (Prod.snd (Prod.snd d)) (Prod.snd (Prod.snd (Prod.snd (Prod.snd (List.getD
  (Prod.fst r) (Int.toNat (fidxGo (Prod.fst (Prod.snd d)) (Prod.fst (Prod.fst d)) (0 : Nat))) ((0 : Int), (0 : Int), (0 : Int), (0 : Nat), [])))))) (0 : Nat)))) (Int.toNat (fidxGo (Prod.fst (Prod.snd d)) (Prod.fst
  (Prod.fst d)) (0 : Nat))) ((0 : Int), (0 : Int), (0 : Int), (0 : Nat), []))))))) : Int) = (0 : Int)) = false → ∃ (x' : List (Int × Int × Int × Nat × List (Int × Int))), (List.map unF x' = Prod.fst (Prod.fst (cancTkF
  (Prod.fst d) (Prod.fst (Prod.snd d)) (Prod.snd (Prod.snd d)))) ∧ List.Nodup (idsF x') ∧ Prod.snd (Prod.snd (cancTkF (Prod.fst d) (Prod.fst (Prod.snd d)) (Prod.snd (Prod.snd d)))) = true) ∧ ((Prod.fst (Prod.fst d) =
  Prod.fst (Prod.fst d) ∧ Prod.fst (Prod.snd (Prod.fst d)) = Prod.fst (Prod.snd (Prod.fst d)) ∧ Prod.snd (Prod.snd (Prod.fst d)) = Prod.snd (Prod.snd (Prod.fst d))) ∧ Prod.fst (Prod.snd d) = Prod.fst (Prod.snd d) ∧
  Prod.snd (Prod.snd d) = Prod.snd (Prod.snd d)) ∧ (Prod.fst (Prod.fst d) = Prod.fst (Prod.fst d) ∧ Prod.fst (Prod.snd (Prod.fst d)) = Prod.fst (Prod.snd (Prod.fst d)) ∧ Prod.snd (Prod.snd (Prod.fst d)) = Prod.snd
  (Prod.snd (Prod.fst d))) ∧ (Value.slice none (0 : Nat) (0 : Nat) = Value.slice none (0 : Nat) (0 : Nat) ∧ (0 : Int) = (0 : Int)) ∧ ((0 : Int) = (0 : Int) ∧ (0 : Int) = (0 : Int)) ∧ List.set (Prod.fst r) (Int.toNat
  (fidxGo (Prod.fst (Prod.snd d)) (Prod.fst (Prod.fst d)) (0 : Nat))) (Prod.fst (List.getD (Prod.fst r) (Int.toNat (fidxGo (Prod.fst (Prod.snd d)) (Prod.fst (Prod.fst d)) (0 : Nat))) ((0 : Int), (0 : Int), (0 : Int), (0
  : Nat), [])), Prod.fst (Prod.snd (List.getD (Prod.fst r) (Int.toNat (fidxGo (Prod.fst (Prod.snd d)) (Prod.fst (Prod.fst d)) (0 : Nat))) ((0 : Int), (0 : Int), (0 : Int), (0 : Nat), []))), Prod.fst (Prod.snd (Prod.snd
  (List.getD (Prod.fst r) (Int.toNat (fidxGo (Prod.fst (Prod.snd d)) (Prod.fst (Prod.fst d)) (0 : Nat))) ((0 : Int), (0 : Int), (0 : Int), (0 : Nat), [])))), b, delAt (Prod.snd (Prod.snd (Prod.snd (Prod.snd (List.getD
  (Prod.fst r) (Int.toNat (fidxGo (Prod.fst (Prod.snd d)) (Prod.fst (Prod.fst d)) (0 : Nat))) ((0 : Int), (0 : Int), (0 : Int), (0 : Nat), [])))))) (idxGo (Prod.snd (Prod.snd d)) (Prod.snd (Prod.snd (Prod.snd (Prod.snd
  (List.getD (Prod.fst r) (Int.toNat (fidxGo (Prod.fst (Prod.snd d)) (Prod.fst (Prod.fst d)) (0 : Nat))) ((0 : Int), (0 : Int), (0 : Int), (0 : Nat), [])))))) (0 : Nat))) = x' ∧ (Prod.fst (Prod.snd r) = Prod.fst
  (Prod.snd (Prod.fst (cancTkF (Prod.fst d) (Prod.fst (Prod.snd d)) (Prod.snd (Prod.snd d))))) ∧ Prod.snd (Prod.snd r) = Prod.snd (Prod.snd (Prod.fst (cancTkF (Prod.fst d) (Prod.fst (Prod.snd d)) (Prod.snd (Prod.snd
  d)))))) ∧ Prod.fst (List.getD (Prod.snd (Prod.snd (Prod.snd (Prod.snd (List.getD (Prod.fst r) (Int.toNat (fidxGo (Prod.fst (Prod.snd d)) (Prod.fst (Prod.fst d)) (0 : Nat))) ((0 : Int), (0 : Int), (0 : Int), (0 : Nat),
  [])))))) (Int.toNat (idxGo (Prod.snd (Prod.snd d)) (Prod.snd (Prod.snd (Prod.snd (Prod.snd (List.getD (Prod.fst r) (Int.toNat (fidxGo (Prod.fst (Prod.snd d)) (Prod.fst (Prod.fst d)) (0 : Nat))) ((0 : Int), (0 : Int),
  (0 : Int), (0 : Nat), [])))))) (0 : Nat))) ((0 : Int), (0 : Int))) = Prod.fst (Prod.fst (Prod.snd (cancTkF (Prod.fst d) (Prod.fst (Prod.snd d)) (Prod.snd (Prod.snd d))))) ∧ Prod.snd (List.getD (Prod.snd (Prod.snd
  (Prod.snd (Prod.snd (List.getD (Prod.fst r) (Int.toNat (fidxGo (Prod.fst (Prod.snd d)) (Prod.fst (Prod.fst d)) (0 : Nat))) ((0 : Int), (0 : Int), (0 : Int), (0 : Nat), [])))))) (Int.toNat (idxGo (Prod.snd (Prod.snd d))
  (Prod.snd (Prod.snd (Prod.snd (Prod.snd (List.getD (Prod.fst r) (Int.toNat (fidxGo (Prod.fst (Prod.snd d)) (Prod.fst (Prod.fst d)) (0 : Nat))) ((0 : Int), (0 : Int), (0 : Int), (0 : Nat), [])))))) (0 : Nat))) ((0 :
  Int), (0 : Int))) = Prod.snd (Prod.fst (Prod.snd (cancTkF (Prod.fst d) (Prod.fst (Prod.snd d)) (Prod.snd (Prod.snd d))))))) ∧ ∀ (x : List (Int × Int × Int × Nat × List (Int × Int))), List.map unF x = Prod.fst (Prod.fst
  (cancTkF (Prod.fst d) (Prod.fst (Prod.snd d)) (Prod.snd (Prod.snd d)))) ∧ List.Nodup (idsF x) ∧ Prod.snd (Prod.snd (cancTkF (Prod.fst d) (Prod.fst (Prod.snd d)) (Prod.snd (Prod.snd d)))) = true → (((unD ringG (x,
  Prod.snd (Prod.fst (cancTkF (Prod.fst d) (Prod.fst (Prod.snd d)) (Prod.snd (Prod.snd d))))), unD tkT (Prod.fst (Prod.snd (cancTkF (Prod.fst d) (Prod.fst (Prod.snd d)) (Prod.snd (Prod.snd d))))), unD Ty.bool true) =
  cancTkF (Prod.fst d) (Prod.fst (Prod.snd d)) (Prod.snd (Prod.snd d)) ∧ List.Nodup (ids ringG (x, Prod.snd (Prod.fst (cancTkF (Prod.fst d) (Prod.fst (Prod.snd d)) (Prod.snd (Prod.snd d))))) ++ (ids tkT (Prod.fst
  (Prod.snd (cancTkF (Prod.fst d) (Prod.fst (Prod.snd d)) (Prod.snd (Prod.snd d))))) ++ ids Ty.bool true))) ∧ (unD ringG (x, Prod.snd (Prod.fst (cancTkF (Prod.fst d) (Prod.fst (Prod.snd d)) (Prod.snd (Prod.snd d))))),
  unD tkT (Prod.fst (Prod.snd (cancTkF (Prod.fst d) (Prod.fst (Prod.snd d)) (Prod.snd (Prod.snd d))))), unD Ty.bool true) = cancTkF (Prod.fst d) (Prod.fst (Prod.snd d)) (Prod.snd (Prod.snd d)) ∧ List.Nodup (ids ringG (x,
  Prod.snd (Prod.fst (cancTkF (Prod.fst d) (Prod.fst (Prod.snd d)) (Prod.snd (Prod.snd d))))) ++ (ids tkT (Prod.fst (Prod.snd (cancTkF (Prod.fst d) (Prod.fst (Prod.snd d)) (Prod.snd (Prod.snd d))))) ++ ids Ty.bool
  true))) ∧ (unD ringG (x, Prod.snd (Prod.fst (cancTkF (Prod.fst d) (Prod.fst (Prod.snd d)) (Prod.snd (Prod.snd d))))), unD tkT (Prod.fst (Prod.snd (cancTkF (Prod.fst d) (Prod.fst (Prod.snd d)) (Prod.snd (Prod.snd
  d))))), unD Ty.bool true) = cancTkF (Prod.fst d) (Prod.fst (Prod.snd d)) (Prod.snd (Prod.snd d)) ∧ List.Nodup (ids ringG (x, Prod.snd (Prod.fst (cancTkF (Prod.fst d) (Prod.fst (Prod.snd d)) (Prod.snd (Prod.snd d)))))
  ++ (ids tkT (Prod.fst (Prod.snd (cancTkF (Prod.fst d) (Prod.fst (Prod.snd d)) (Prod.snd (Prod.snd d))))) ++ ids Ty.bool true)))))))) := by
  intro d hw hp
  obtain ⟨⟨xs, tn, fr⟩, t, id⟩ := d
  have hp : FlsP xs := hp
  simp only [Int.toNat_natCast, exists_const, and_true, true_and, implies_true, decide_eq_true_eq, decide_eq_false_iff_not, Bool.not_eq_true', Bool.not_eq_false', beq_iff_eq, forall_const]
  simp only [unG1', idN1, idG1', idG3', unG2, idBool, unBool, idTk, unTk1, List.append_nil, true_and, and_true]
  refine ⟨hp, fun r h1 h2 h3 _ => ⟨fun h4 => ⟨by rw [h1, canc_no (.inl h4)]; rfl, h2⟩, fun h4 => ⟨fun h5 => ⟨by rw [h1, canc_no (.inr (.inl h5))]; rfl, h2⟩, fun h5 => ?_⟩⟩⟩
  have h6 := (fidx_lt t xs 0 (by omega)).2
  rw [Nat.zero_add] at h6
  obtain ⟨q1, q2, q3⟩ := eq1 h1
  simp only at q2 q3
  have hl := len_un q1
  have hg : (xs.getD (fidxGo t xs 0).toNat fl0).2.2.2 = (r.1.getD (fidxGo t xs 0).toNat fg0).2.2.2.2 := by rw [← q1, getD_un]; rfl
  have hk0 : fidxGo t xs 0 < r.1.length := by omega
  have hy := canc_yes (id := id) h4 rfl h5 hg rfl
  have hn := canc_no (xs := xs) (tn := tn) (fr := fr) (t := t) (id := id)
  rw [hg] at hn
  have hln : (r.1.getD (fidxGo t xs 0).toNat fg0).2.2.2.2.length ≤ 1048576 := by
    rw [← hg]
    refine hp.2 _ ?_
    rw [List.getD_eq_getElem?_getD, List.getElem?_eq_getElem h6]
    exact List.getElem_mem h6
  generalize fidxGo t xs 0 = k at *
  have hi : k.toNat < r.1.length := by omega
  change (0 ≤ k ∧ k < _) ∧ _
  rw [show (0, 0, 0, 0, ([] : List Tk)) = fg0 from rfl]
  generalize hF : r.1.getD k.toNat fg0 = F at *
  generalize hJ : idxGo id F.2.2.2.2 0 = j at *
  have hj : ¬ j < 0 → (j < F.2.2.2.2.length) := by
    have := idx_range id F.2.2.2.2 0
    rw [hJ] at this
    omega
  have hj0 : ¬ j < 0 → (0 : Int) ≤ j := by omega
  refine ⟨⟨by omega, by omega⟩, fun _ => ⟨fun h8 => ⟨by rw [h1, hn (.inr (.inr h8))]; rfl, h2⟩, fun h8 => ⟨⟨hj0 h8, hj h8⟩, ⟨hj0 h8, hj h8, hln⟩, fun _ b hb => ?_⟩⟩⟩
  simp only [getD_set' hi, set_set', hF]
  have hy := hy h8
  simp only [hy, q2, q3]
  generalize delAt F.2.2.2.2 j = D at *
  have hnd : ∀ f : FlG, f.2.2.2.1 = b → (idsF (r.1.set k.toNat f)).Nodup := fun f hf => nd_set h2 (fun i hi => .inl (by subst hf; exact idF_fresh hb i hi))
  have hgf : r.1.getD k.toNat fg0 = F := hF
  refine ⟨⟨fun h9 => ?_, fun h9 => ?_⟩, fun x hx => ?_⟩
  · have hD : D = [] := by cases D with | nil => rfl | cons a l => simp at h9; omega
    subst hD
    refine ⟨fun h10 => ⟨_, ⟨setFl_un q1 (by rw [hgf]; rfl), hnd _ rfl, trivial⟩, rfl, ⟨trivial, ?_⟩, trivial, trivial⟩, fun h10 => ⟨_, ⟨setFl_un q1 (by rw [hgf]; rfl), hnd _ rfl, trivial⟩, rfl, ⟨trivial, ?_⟩, trivial, trivial⟩⟩
    · simp [h10]
    · simp [h10]
  · have hD : ¬ D = [] := by rintro rfl; simp at h9
    refine ⟨_, ⟨setFl_un q1 (by rw [hgf]; simp [unF, hD]), hnd _ rfl, trivial⟩, rfl, ⟨trivial, ?_⟩, trivial, trivial⟩
    simp [hD]
  · obtain ⟨x1, x2, _⟩ := hx
    rw [x1]
    exact ⟨⟨⟨rfl, x2⟩, rfl, x2⟩, rfl, x2⟩
theorem v_S_CancelTicket :
  ∀ (d : (List (Int × Int × Int × List (Int × Int)) × Int × Bool) × Int × Int), Ty.wf ringT (Prod.fst d) ∧ Ty.wf i64T (Prod.fst (Prod.snd d)) ∧ Ty.wf i64T (Prod.snd (Prod.snd d)) → FlsP (Prod.fst (Prod.fst d)) → True ∧
  ((!ringOkF (Prod.fst (Prod.fst d)) (Prod.fst (Prod.snd (Prod.fst d))) (Prod.snd (Prod.snd (Prod.fst d)))) = true → FlsP (Prod.fst (Prod.fst d)) ∧ (Ty.wf ringT (Prod.fst d) → (Prod.fst d, ((0 : Int), (0 : Int)), false)
  = cancTkF (Prod.fst d) (Prod.fst (Prod.snd d)) (Prod.snd (Prod.snd d)))) ∧ ((!ringOkF (Prod.fst (Prod.fst d)) (Prod.fst (Prod.snd (Prod.fst d))) (Prod.snd (Prod.snd (Prod.fst d)))) = false → True ∧ (Ty.wf i64T (fidxGo
  (Prod.fst (Prod.snd d)) (Prod.fst (Prod.fst d)) (0 : Nat)) → (decide (fidxGo (Prod.fst (Prod.snd d)) (Prod.fst (Prod.fst d)) (0 : Nat) < (0 : Int)) = true → FlsP (Prod.fst (Prod.fst d)) ∧ (Ty.wf ringT (Prod.fst d) →
  (Prod.fst d, ((0 : Int), (0 : Int)), false) = cancTkF (Prod.fst d) (Prod.fst (Prod.snd d)) (Prod.snd (Prod.snd d)))) ∧ (decide (fidxGo (Prod.fst (Prod.snd d)) (Prod.fst (Prod.fst d)) (0 : Nat) < (0 : Int)) = false →
  ((0 : Int) ≤ fidxGo (Prod.fst (Prod.snd d)) (Prod.fst (Prod.fst d)) (0 : Nat) ∧ fidxGo (Prod.fst (Prod.snd d)) (Prod.fst (Prod.fst d)) (0 : Nat) < (↑(List.length (Prod.fst (Prod.fst d))) : Int)) ∧ List.length (Prod.snd
  (Prod.snd (Prod.snd (List.getD (Prod.fst (Prod.fst d)) (Int.toNat (fidxGo (Prod.fst (Prod.snd d)) (Prod.fst (Prod.fst d)) (0 : Nat))) ((0 : Int), (0 : Int), (0 : Int), []))))) ≤ (1048576 : Nat) ∧ (Ty.wf lineT (Prod.fst
  (cancelSF (Prod.snd (Prod.snd (Prod.snd (List.getD (Prod.fst (Prod.fst d)) (Int.toNat (fidxGo (Prod.fst (Prod.snd d)) (Prod.fst (Prod.fst d)) (0 : Nat))) ((0 : Int), (0 : Int), (0 : Int), []))))) (Prod.snd (Prod.snd
  d)))) ∧ Ty.wf tkT (Prod.fst (Prod.snd (cancelSF (Prod.snd (Prod.snd (Prod.snd (List.getD (Prod.fst (Prod.fst d)) (Int.toNat (fidxGo (Prod.fst (Prod.snd d)) (Prod.fst (Prod.fst d)) (0 : Nat))) ((0 : Int), (0 : Int), (0
  : Int), []))))) (Prod.snd (Prod.snd d))))) ∧ Ty.wf Ty.bool (Prod.snd (Prod.snd (cancelSF (Prod.snd (Prod.snd (Prod.snd (List.getD (Prod.fst (Prod.fst d)) (Int.toNat (fidxGo (Prod.fst (Prod.snd d)) (Prod.fst (Prod.fst
  d)) (0 : Nat))) ((0 : Int), (0 : Int), (0 : Int), []))))) (Prod.snd (Prod.snd d))))) → FlsP (Prod.fst (Prod.fst d)) ∧ (Ty.wf ringT (Prod.fst d) → ((!Prod.snd (Prod.snd (cancelSF (Prod.snd (Prod.snd (Prod.snd (List.getD
  (Prod.fst (Prod.fst d)) (Int.toNat (fidxGo (Prod.fst (Prod.snd d)) (Prod.fst (Prod.fst d)) (0 : Nat))) ((0 : Int), (0 : Int), (0 : Int), []))))) (Prod.snd (Prod.snd d))))) = true → (Prod.fst d, ((0 : Int), (0 : Int)),
  false) = cancTkF (Prod.fst d) (Prod.fst (Prod.snd d)) (Prod.snd (Prod.snd d))) ∧ ((!Prod.snd (Prod.snd (cancelSF (Prod.snd (Prod.snd (Prod.snd (List.getD (Prod.fst (Prod.fst d)) (Int.toNat (fidxGo (Prod.fst (Prod.snd
  d)) (Prod.fst (Prod.fst d)) (0 : Nat))) ((0 : Int), (0 : Int), (0 : Int), []))))) (Prod.snd (Prod.snd d))))) = false → ((0 : Int) ≤ fidxGo (Prod.fst (Prod.snd d)) (Prod.fst (Prod.fst d)) (0 : Nat) ∧ fidxGo (Prod.fst
  (Prod.snd d)) (Prod.fst (Prod.fst d)) (0 : Nat) < (↑(List.length (Prod.fst (Prod.fst d))) : Int)) ∧ ((decide ((↑(List.length (Prod.fst (cancelSF (Prod.snd (Prod.snd (Prod.snd (List.getD (Prod.fst (Prod.fst d))
  (Int.toNat (fidxGo (Prod.fst (Prod.snd d)) (Prod.fst (Prod.fst d)) (0 : Nat))) ((0 : Int), (0 : Int), (0 : Int), []))))) (Prod.snd (Prod.snd d))))) : Int) = (0 : Int)) = true → ((0 : Int) ≤ fidxGo (Prod.fst (Prod.snd
  d)) (Prod.fst (Prod.fst d)) (0 : Nat) ∧ fidxGo (Prod.fst (Prod.snd d)) (Prod.fst (Prod.fst d)) (0 : Nat) < (↑(List.length (List.set (Prod.fst (Prod.fst d)) (Int.toNat (fidxGo (Prod.fst (Prod.snd d)) (Prod.fst (Prod.fst
  d)) (0 : Nat))) (Prod.fst (List.getD (Prod.fst (Prod.fst d)) (Int.toNat (fidxGo (Prod.fst (Prod.snd d)) (Prod.fst (Prod.fst d)) (0 : Nat))) ((0 : Int), (0 : Int), (0 : Int), [])), Prod.fst (Prod.snd (List.getD
  (Prod.fst (Prod.fst d)) (Int.toNat (fidxGo (Prod.fst (Prod.snd d)) (Prod.fst (Prod.fst d)) (0 : Nat))) ((0 : Int), (0 : Int), (0 : Int), []))), Prod.fst (Prod.snd (Prod.snd (List.getD (Prod.fst (Prod.fst d)) (Int.toNat
  (fidxGo (Prod.fst (Prod.snd d)) (Prod.fst (Prod.fst d)) (0 : Nat))) ((0 : Int), (0 : Int), (0 : Int), [])))), Prod.fst (cancelSF (Prod.snd (Prod.snd (Prod.snd (List.getD (Prod.fst (Prod.fst d)) (Int.toNat (fidxGo
  (Prod.fst (Prod.snd d)) (Prod.fst (Prod.fst d)) (0 : Nat))) ((0 : Int), (0 : Int), (0 : Int), []))))) (Prod.snd (Prod.snd d)))))) : Int)) ∧ (decide (fidxGo (Prod.fst (Prod.snd d)) (Prod.fst (Prod.fst d)) (0 : Nat) =
  Prod.fst (Prod.snd (Prod.fst d))) = true → ∃ (x' : Unit), Prod.snd (Prod.snd (cancTkF (Prod.fst d) (Prod.fst (Prod.snd d)) (Prod.snd (Prod.snd d)))) = true ∧ ((Prod.fst (Prod.fst d) = Prod.fst (Prod.fst d) ∧ Prod.fst
  (Prod.snd (Prod.fst d)) = Prod.fst (Prod.snd (Prod.fst d)) ∧ Prod.snd (Prod.snd (Prod.fst d)) = Prod.snd (Prod.snd (Prod.fst d))) ∧ Prod.fst (Prod.snd d) = Prod.fst (Prod.snd d) ∧ Prod.snd (Prod.snd d) = Prod.snd
  (Prod.snd d) ∧ fidxGo (Prod.fst (Prod.snd d)) (Prod.fst (Prod.fst d)) (0 : Nat) = fidxGo (Prod.fst (Prod.snd d)) (Prod.fst (Prod.fst d)) (0 : Nat) ∧ Prod.snd (Prod.snd (cancelSF (Prod.snd (Prod.snd (Prod.snd (List.getD
  (Prod.fst (Prod.fst d)) (Int.toNat (fidxGo (Prod.fst (Prod.snd d)) (Prod.fst (Prod.fst d)) (0 : Nat))) ((0 : Int), (0 : Int), (0 : Int), []))))) (Prod.snd (Prod.snd d)))) = Prod.snd (Prod.snd (cancelSF (Prod.snd
  (Prod.snd (Prod.snd (List.getD (Prod.fst (Prod.fst d)) (Int.toNat (fidxGo (Prod.fst (Prod.snd d)) (Prod.fst (Prod.fst d)) (0 : Nat))) ((0 : Int), (0 : Int), (0 : Int), []))))) (Prod.snd (Prod.snd d))))) ∧ (Prod.fst
  (Prod.fst d) = Prod.fst (Prod.fst d) ∧ Prod.fst (Prod.snd (Prod.fst d)) = Prod.fst (Prod.snd (Prod.fst d)) ∧ Prod.snd (Prod.snd (Prod.fst d)) = Prod.snd (Prod.snd (Prod.fst d))) ∧ (Value.slice none (0 : Nat) (0 : Nat)
  = Value.slice none (0 : Nat) (0 : Nat) ∧ (0 : Int) = (0 : Int)) ∧ ((0 : Int) = (0 : Int) ∧ (0 : Int) = (0 : Int)) ∧ Prod.fst (cancelSF (Prod.snd (Prod.snd (Prod.snd (List.getD (Prod.fst (Prod.fst d)) (Int.toNat (fidxGo
  (Prod.fst (Prod.snd d)) (Prod.fst (Prod.fst d)) (0 : Nat))) ((0 : Int), (0 : Int), (0 : Int), []))))) (Prod.snd (Prod.snd d))) = Prod.fst (cancelSF (Prod.snd (Prod.snd (Prod.snd (List.getD (Prod.fst (Prod.fst d))
  (Int.toNat (fidxGo (Prod.fst (Prod.snd d)) (Prod.fst (Prod.fst d)) (0 : Nat))) ((0 : Int), (0 : Int), (0 : Int), []))))) (Prod.snd (Prod.snd d))) ∧ (Prod.fst (Prod.fst (Prod.snd (cancelSF (Prod.snd (Prod.snd (Prod.snd
  (List.getD (Prod.fst (Prod.fst d)) (Int.toNat (fidxGo (Prod.fst (Prod.snd d)) (Prod.fst (Prod.fst d)) (0 : Nat))) ((0 : Int), (0 : Int), (0 : Int), []))))) (Prod.snd (Prod.snd d))))) = Prod.fst (Prod.fst (Prod.snd
  (cancTkF (Prod.fst d) (Prod.fst (Prod.snd d)) (Prod.snd (Prod.snd d))))) ∧ Prod.snd (Prod.fst (Prod.snd (cancelSF (Prod.snd (Prod.snd (Prod.snd (List.getD (Prod.fst (Prod.fst d)) (Int.toNat (fidxGo (Prod.fst (Prod.snd
  d)) (Prod.fst (Prod.fst d)) (0 : Nat))) ((0 : Int), (0 : Int), (0 : Int), []))))) (Prod.snd (Prod.snd d))))) = Prod.snd (Prod.fst (Prod.snd (cancTkF (Prod.fst d) (Prod.fst (Prod.snd d)) (Prod.snd (Prod.snd d)))))) ∧
  List.set (List.set (Prod.fst (Prod.fst d)) (Int.toNat (fidxGo (Prod.fst (Prod.snd d)) (Prod.fst (Prod.fst d)) (0 : Nat))) (Prod.fst (List.getD (Prod.fst (Prod.fst d)) (Int.toNat (fidxGo (Prod.fst (Prod.snd d))
  (Prod.fst (Prod.fst d)) (0 : Nat))) ((0 : Int), (0 : Int), (0 : Int), [])), Prod.fst (Prod.snd (List.getD (Prod.fst (Prod.fst d)) (Int.toNat (fidxGo (Prod.fst (Prod.snd d)) (Prod.fst (Prod.fst d)) (0 : Nat))) ((0 :
  Int), (0 : Int), (0 : Int), []))), Prod.fst (Prod.snd (Prod.snd (List.getD (Prod.fst (Prod.fst d)) (Int.toNat (fidxGo (Prod.fst (Prod.snd d)) (Prod.fst (Prod.fst d)) (0 : Nat))) ((0 : Int), (0 : Int), (0 : Int),
  [])))), Prod.fst (cancelSF (Prod.snd (Prod.snd (Prod.snd (List.getD (Prod.fst (Prod.fst d)) (Int.toNat (fidxGo (Prod.fst (Prod.snd d)) (Prod.fst (Prod.fst d)) (0 : Nat))) ((0 : Int), (0 : Int), (0 : Int), [])))))
  (Prod.snd (Prod.snd d))))) (Int.toNat (fidxGo (Prod.fst (Prod.snd d)) (Prod.fst (Prod.fst d)) (0 : Nat))) (Prod.fst (List.getD (List.set (Prod.fst (Prod.fst d)) (Int.toNat (fidxGo (Prod.fst (Prod.snd d)) (Prod.fst
  (Prod.fst d)) (0 : Nat))) (Prod.fst (List.getD (Prod.fst (Prod.fst d)) (Int.toNat (fidxGo (Prod.fst (Prod.snd d)) (Prod.fst (Prod.fst d)) (0 : Nat))) ((0 : Int), (0 : Int), (0 : Int), [])), Prod.fst (Prod.snd
  (List.getD (Prod.fst (Prod.fst d)) (Int.toNat (fidxGo (Prod.fst (Prod.snd d)) (Prod.fst (Prod.fst d)) (0 : Nat))) ((0 : Int), (0 : Int), (0 : Int), []))), Prod.fst (Prod.snd (Prod.snd (List.getD (Prod.fst (Prod.fst d))
  (Int.toNat (fidxGo (Prod.fst (Prod.snd d)) (Prod.fst (Prod.fst d)) (0 : Nat))) ((0 : Int), (0 : Int), (0 : Int), [])))), Prod.fst (cancelSF (Prod.snd (Prod.snd (Prod.snd (List.getD (Prod.fst (Prod.fst d)) (Int.toNat
  (fidxGo (Prod.fst (Prod.snd d)) (Prod.fst (Prod.fst d)) (0 : Nat))) ((0 : Int), (0 : Int), (0 : Int), []))))) (Prod.snd (Prod.snd d))))) (Int.toNat (fidxGo (Prod.fst (Prod.snd d)) (Prod.fst (Prod.fst d)) (0 : Nat)))
  ((0 : Int), (0 : Int), (0 : Int), [])), Prod.fst (Prod.snd (List.getD (List.set (Prod.fst (Prod.fst d)) (Int.toNat (fidxGo (Prod.fst (Prod.snd d)) (Prod.fst (Prod.fst d)) (0 : Nat))) (Prod.fst (List.getD (Prod.fst
  (Prod.fst d)) (Int.toNat (fidxGo (Prod.fst (Prod.snd d)) (Prod.fst (Prod.fst d)) (0 : Nat))) ((0 : Int), (0 : Int), (0 : Int), [])), Prod.fst (Prod.snd (List.getD (Prod.fst (Prod.fst d)) (Int.toNat (fidxGo (Prod.fst
  (Prod.snd d)) (Prod.fst (Prod.fst d)) (0 : Nat))) ((0 : Int), (0 : Int), (0 : Int), []))), Prod.fst (Prod.snd (Prod.snd (List.getD (Prod.fst (Prod.fst d)) (Int.toNat (fidxGo (Prod.fst (Prod.snd d)) (Prod.fst (Prod.fst
  d)) (0 : Nat))) ((0 : Int), (0 : Int), (0 : Int), [])))), Prod.fst (cancelSF (Prod.snd (Prod.snd (Prod.snd (List.getD (Prod.fst (Prod.fst d)) (Int.toNat (fidxGo (Prod.fst (Prod.snd d)) (Prod.fst (Prod.fst d)) (0 :
  Nat))) ((0 : Int), (0 : Int), (0 : Int), []))))) (Prod.snd (Prod.snd d))))) (Int.toNat (fidxGo (Prod.fst (Prod.snd d)) (Prod.fst (Prod.fst d)) (0 : Nat))) ((0 : Int), (0 : Int), (0 : Int), []))), (0 : Int), Prod.snd
  (Prod.snd (Prod.snd (List.getD (List.set (Prod.fst (Prod.fst d)) (Int.toNat (fidxGo (Prod.fst (Prod.snd d)) (Prod.fst (Prod.fst d)) (0 : Nat))) (Prod.fst (List.getD (Prod.fst (Prod.fst d)) (Int.toNat (fidxGo (Prod.fst
  (Prod.snd d)) (Prod.fst (Prod.fst d)) (0 : Nat))) ((0 : Int), (0 : Int), (0 : Int), [])), Prod.fst (Prod.snd (List.getD (Prod.fst (Prod.fst d)) (Int.toNat (fidxGo (Prod.fst (Prod.snd d)) (Prod.fst (Prod.fst d)) (0 :
  Nat))) ((0 : Int), (0 : Int), (0 : Int), []))), Prod.fst (Prod.snd (Prod.snd (List.getD (Prod.fst (Prod.fst d)) (Int.toNat (fidxGo (Prod.fst (Prod.snd d)) (Prod.fst (Prod.fst d)) (0 : Nat))) ((0 : Int), (0 : Int), (0 :
  Int), [])))), Prod.fst (cancelSF (Prod.snd (Prod.snd (Prod.snd (List.getD (Prod.fst (Prod.fst d)) (Int.toNat (fidxGo (Prod.fst (Prod.snd d)) (Prod.fst (Prod.fst d)) (0 : Nat))) ((0 : Int), (0 : Int), (0 : Int), [])))))
  (Prod.snd (Prod.snd d))))) (Int.toNat (fidxGo (Prod.fst (Prod.snd d)) (Prod.fst (Prod.fst d)) (0 : Nat))) ((0 : Int), (0 : Int), (0 : Int), []))))) = Prod.fst (Prod.fst (cancTkF (Prod.fst d) (Prod.fst (Prod.snd d))
  (Prod.snd (Prod.snd d)))) ∧ Prod.fst (Prod.snd (Prod.fst d)) = Prod.fst (Prod.snd (Prod.fst (cancTkF (Prod.fst d) (Prod.fst (Prod.snd d)) (Prod.snd (Prod.snd d))))) ∧ Prod.snd (Prod.snd (Prod.fst (cancTkF (Prod.fst d)
  (Prod.fst (Prod.snd d)) (Prod.snd (Prod.snd d))))) = false) ∧ (decide (fidxGo (Prod.fst (Prod.snd d)) (Prod.fst (Prod.fst d)) (0 : Nat) = Prod.fst (Prod.snd (Prod.fst d))) = false → ∃ (x' : Unit), Prod.snd (Prod.snd
  (cancTkF (Prod.fst d) (Prod.fst (Prod.snd d)) (Prod.snd (Prod.snd d)))) = true ∧ ((Prod.fst (Prod.fst d) = Prod.fst (Prod.fst d) ∧ Prod.fst (Prod.snd (Prod.fst d)) = Prod.fst (Prod.snd (Prod.fst d)) ∧ Prod.snd
  (Prod.snd (Prod.fst d)) = Prod.snd (Prod.snd (Prod.fst d))) ∧ Prod.fst (Prod.snd d) = Prod.fst (Prod.snd d) ∧ Prod.snd (Prod.snd d) = Prod.snd (Prod.snd d) ∧ fidxGo (Prod.fst (Prod.snd d)) (Prod.fst (Prod.fst d)) (0 :
  Nat) = fidxGo (Prod.fst (Prod.snd d)) (Prod.fst (Prod.fst d)) (0 : Nat) ∧ Prod.snd (Prod.snd (cancelSF (Prod.snd (Prod.snd (Prod.snd (List.getD (Prod.fst (Prod.fst d)) (Int.toNat (fidxGo (Prod.fst (Prod.snd d))
  (Prod.fst (Prod.fst d)) (0 : Nat))) ((0 : Int), (0 : Int), (0 : Int), []))))) (Prod.snd (Prod.snd d)))) = Prod.snd (Prod.snd (cancelSF (Prod.snd (Prod.snd (Prod.snd (List.getD (Prod.fst (Prod.fst d)) (Int.toNat (fidxGo
  (Prod.fst (Prod.snd d)) (Prod.fst (Prod.fst d)) (0 : Nat))) ((0 : Int), (0 : Int), (0 : Int), []))))) (Prod.snd (Prod.snd d))))) ∧ (Prod.fst (Prod.fst d) = Prod.fst (Prod.fst d) ∧ Prod.fst (Prod.snd (Prod.fst d)) =
  Prod.fst (Prod.snd (Prod.fst d)) ∧ Prod.snd (Prod.snd (Prod.fst d)) = Prod.snd (Prod.snd (Prod.fst d))) ∧ (Value.slice none (0 : Nat) (0 : Nat) = Value.slice none (0 : Nat) (0 : Nat) ∧ (0 : Int) = (0 : Int)) ∧ ((0 :
  Int) = (0 : Int) ∧ (0 : Int) = (0 : Int)) ∧ Prod.fst (cancelSF (Prod.snd (Prod.snd (Prod.snd (List.getD (Prod.fst (Prod.fst d)) (Int.toNat (fidxGo (Prod.fst (Prod.snd d)) (Prod.fst (Prod.fst d)) (0 : Nat))) ((0 : Int),
  (0 : Int), (0 : Int), []))))) (Prod.snd (Prod.snd d))) = Prod.fst (cancelSF (Prod.snd (Prod.snd (Prod.snd (List.getD (Prod.fst (Prod.fst d)) (Int.toNat (fidxGo (Prod.fst (Prod.snd d)) (Prod.fst (Prod.fst d)) (0 :
  Nat))) ((0 : Int), (0 : Int), (0 : Int), []))))) (Prod.snd (Prod.snd d))) ∧ (Prod.fst (Prod.fst (Prod.snd (cancelSF (Prod.snd (Prod.snd (Prod.snd (List.getD (Prod.fst (Prod.fst d)) (Int.toNat (fidxGo (Prod.fst
  (Prod.snd d)) (Prod.fst (Prod.fst d)) (0 : Nat))) ((0 : Int), (0 : Int), (0 : Int), []))))) (Prod.snd (Prod.snd d))))) = Prod.fst (Prod.fst (Prod.snd (cancTkF (Prod.fst d) (Prod.fst (Prod.snd d)) (Prod.snd (Prod.snd
  d))))) ∧ Prod.snd (Prod.fst (Prod.snd (cancelSF (Prod.snd (Prod.snd (Prod.snd (List.getD (Prod.fst (Prod.fst d)) (Int.toNat (fidxGo (Prod.fst (Prod.snd d)) (Prod.fst (Prod.fst d)) (0 : Nat))) ((0 : Int), (0 : Int), (0
  : Int), []))))) (Prod.snd (Prod.snd d))))) = Prod.snd (Prod.fst (Prod.snd (cancTkF (Prod.fst d) (Prod.fst (Prod.snd d)) (Prod.snd (Prod.snd d)))))) ∧ List.set (List.set (Prod.fst (Prod.fst d)) (Int.toNat (fidxGo
  (Prod.fst (Prod.snd d)) (Prod.fst (Prod.fst d)) (0 : Nat))) (Prod.fst (List.getD (Prod.fst (Prod.fst d)) (Int.toNat (fidxGo (Prod.fst (Prod.snd d)) (Prod.fst (Prod.fst d)) (0 : Nat))) ((0 : Int), (0 : Int), (0 : Int),
  [])), Prod.fst (Prod.snd (List.getD (Prod.fst (Prod.fst d)) (Int.toNat (fidxGo (Prod.fst (Prod.snd d)) (Prod.fst (Prod.fst d)) (0 : Nat))) ((0 : Int), (0 : Int), (0 : Int), []))), Prod.fst (Prod.snd (Prod.snd
  (List.getD (Prod.fst (Prod.fst d)) (Int.toNat (fidxGo (Prod.fst (Prod.snd d)) (Prod.fst (Prod.fst d)) (0 : Nat))) ((0 : Int), (0 : Int), (0 : Int), [])))), Prod.fst (cancelSF (Prod.snd (Prod.snd (Prod.snd (List.getD
  (Prod.fst (Prod.fst d)) (Int.toNat (fidxGo (Prod.fst (Prod.snd d)) (Prod.fst (Prod.fst d)) (0 : Nat))) ((0 : Int), (0 : Int), (0 : Int), []))))) (Prod.snd (Prod.snd d))))) (Int.toNat (fidxGo (Prod.fst (Prod.snd d))
  (Prod.fst (Prod.fst d)) (0 : Nat))) (Prod.fst (List.getD (List.set (Prod.fst (Prod.fst d)) (Int.toNat (fidxGo (Prod.fst (Prod.snd d)) (Prod.fst (Prod.fst d)) (0 : Nat))) (Prod.fst (List.getD (Prod.fst (Prod.fst d))
  (Int.toNat (fidxGo (Prod.fst (Prod.snd d)) (Prod.fst (Prod.fst d)) (0 : Nat))) ((0 : Int), (0 : Int), (0 : Int), [])), Prod.fst (Prod.snd (List.getD (Prod.fst (Prod.fst d)) (Int.toNat (fidxGo (Prod.fst (Prod.snd d))
  (Prod.fst (Prod.fst d)) (0 : Nat))) ((0 : Int), (0 : Int), (0 : Int), []))), Prod.fst (Prod.snd (Prod.snd (List.getD (Prod.fst (Prod.fst d)) (Int.toNat (fidxGo (Prod.fst (Prod.snd d)) (Prod.fst (Prod.fst d)) (0 :
  Nat))) ((0 : Int), (0 : Int), (0 : Int), [])))), Prod.fst (cancelSF (Prod.snd (Prod.snd (Prod.snd (List.getD (Prod.fst (Prod.fst d)) (Int.toNat (fidxGo (Prod.fst (Prod.snd d)) (Prod.fst (Prod.fst d)) (0 : Nat))) ((0 :
  Int), (0 : Int), (0 : Int), []))))) (Prod.snd (Prod.snd d))))) (Int.toNat (fidxGo (Prod.fst (Prod.snd d)) (Prod.fst (Prod.fst d)) (0 : Nat))) ((0 : Int), (0 : Int), (0 : Int), [])), Prod.fst (Prod.snd (List.getD
  (List.set (Prod.fst (Prod.fst d)) (Int.toNat (fidxGo (Prod.fst (Prod.snd d)) (Prod.fst (Prod.fst d)) (0 : Nat))) (Prod.fst (List.getD (Prod.fst (Prod.fst d)) (Int.toNat (fidxGo (Prod.fst (Prod.snd d)) (Prod.fst
  (Prod.fst d)) (0 : Nat))) ((0 : Int), (0 : Int), (0 : Int), [])), Prod.fst (Prod.snd (List.getD (Prod.fst (Prod.fst d)) (Int.toNat (fidxGo (Prod.fst (Prod.snd d)) (Prod.fst (Prod.fst d)) (0 : Nat))) ((0 : Int), (0 :
  Int), (0 : Int), []))), Prod.fst (Prod.snd (Prod.snd (List.getD (Prod.fst (Prod.fst d)) (Int.toNat (fidxGo (Prod.fst (Prod.snd d)) (Prod.fst (Prod.fst d)) (0 : Nat))) ((0 : Int), (0 : Int), (0 : Int), [])))), Prod.fst
  (cancelSF (Prod.snd (Prod.snd (Prod.snd (List.getD (Prod.fst (Prod.fst d)) (Int.toNat (fidxGo (Prod.fst (Prod.snd d)) (Prod.fst (Prod.fst d)) (0 : Nat))) ((0 : Int), (0 : Int), (0 : Int), []))))) (Prod.snd (Prod.snd
  d))))) (Int.toNat (fidxGo (Prod.fst (Prod.snd d)) (Prod.fst (Prod.fst d)) (0 : Nat))) ((0 : Int), (0 : Int), (0 : Int), []))), (0 : Int), Prod.snd (Prod.snd (Prod.snd (List.getD (List.set (Prod.fst (Prod.fst d))
  (Int.toNat (fidxGo (Prod.fst (Prod.snd d)) (Prod.fst (Prod.fst d)) (0 : Nat))) (Prod.fst (List.getD (Prod.fst (Prod.fst d)) (Int.toNat (fidxGo (Prod.fst (Prod.snd d)) (Prod.fst (Prod.fst d)) (0 : Nat))) ((0 : Int), (0
  : Int), (0 : Int), [])), Prod.fst (Prod.snd (List.getD (Prod.fst (Prod.fst d)) (Int.toNat (fidxGo (Prod.fst (Prod.snd d)) (Prod.fst (Prod.fst d)) (0 : Nat))) ((0 : Int), (0 : Int), (0 : Int), []))), Prod.fst (Prod.snd
  (Prod.snd (List.getD (Prod.fst (Prod.fst d)) (Int.toNat (fidxGo (Prod.fst (Prod.snd d)) (Prod.fst (Prod.fst d)) (0 : Nat))) ((0 : Int), (0 : Int), (0 : Int), [])))), Prod.fst (cancelSF (Prod.snd (Prod.snd (Prod.snd
  (List.getD (Prod.fst (Prod.fst d)) (Int.toNat (fidxGo (Prod.fst (Prod.snd d)) (Prod.fst (Prod.fst d)) (0 : Nat))) ((0 : Int), (0 : Int), (0 : Int), []))))) (Prod.snd (Prod.snd d))))) (Int.toNat (fidxGo (Prod.fst
  (Prod.snd d)) (Prod.fst (Prod.fst d)) (0 : Nat))) ((0 : Int), (0 : Int), (0 : Int), []))))) = Prod.fst (Prod.fst (cancTkF (Prod.fst d) (Prod.fst (Prod.snd d)) (Prod.snd (Prod.snd d)))) ∧ Prod.fst (Prod.snd (Prod.fst
  d)) = Prod.fst (Prod.snd (Prod.fst (cancTkF (Prod.fst d) (Prod.fst (Prod.snd d)) (Prod.snd (Prod.snd d))))) ∧ Prod.snd (Prod.snd (Prod.fst d)) = Prod.snd (Prod.snd (Prod.fst (cancTkF (Prod.fst d) (Prod.fst (Prod.snd
  d)) (Prod.snd (Prod.snd d))))))) ∧ (decide ((↑(List.length (Prod.fst (cancelSF (Prod.snd (Prod.snd (Prod.snd (List.getD (Prod.fst (Prod.fst d)) (Int.toNat (fidxGo (Prod.fst (Prod.snd d)) (Prod.fst (Prod.fst d)) (0 :
  Nat))) ((0 : Int), (0 : Int), (0 : Int), []))))) (Prod.snd (Prod.snd d))))) : Int) = (0 : Int)) = false → ∃ (x' : Unit), Prod.snd (Prod.snd (cancTkF (Prod.fst d) (Prod.fst (Prod.snd d)) (Prod.snd (Prod.snd d)))) = true
  ∧ ((Prod.fst (Prod.fst d) = Prod.fst (Prod.fst d) ∧ Prod.fst (Prod.snd (Prod.fst d)) = Prod.fst (Prod.snd (Prod.fst d)) ∧ Prod.snd (Prod.snd (Prod.fst d)) = Prod.snd (Prod.snd (Prod.fst d))) ∧ Prod.fst (Prod.snd d) =
  Prod.fst (Prod.snd d) ∧ Prod.snd (Prod.snd d) = Prod.snd (Prod.snd d) ∧ fidxGo (Prod.fst (Prod.snd d)) (Prod.fst (Prod.fst d)) (0 : Nat) = fidxGo (Prod.fst (Prod.snd d)) (Prod.fst (Prod.fst d)) (0 : Nat) ∧ Prod.snd
  (Prod.snd (cancelSF (Prod.snd (Prod.snd (Prod.snd (List.getD (Prod.fst (Prod.fst d)) (Int.toNat (fidxGo (Prod.fst (Prod.snd d)) (Prod.fst (Prod.fst d)) (0 : Nat))) ((0 : Int), (0 : Int), (0 : Int), []))))) (Prod.snd
  (Prod.snd d)))) = Prod.snd (Prod.snd (cancelSF (Prod.snd (Prod.snd (Prod.snd (List.getD (Prod.fst (Prod.fst d)) (Int.toNat (fidxGo (Prod.fst (Prod.snd d)) (Prod.fst (Prod.fst d)) (0 : Nat))) ((0 : Int), (0 : Int), (0 :
  Int), []))))) (Prod.snd (Prod.snd d))))) ∧ (Prod.fst (Prod.fst d) = Prod.fst (Prod.fst d) ∧ Prod.fst (Prod.snd (Prod.fst d)) = Prod.fst (Prod.snd (Prod.fst d)) ∧ Prod.snd (Prod.snd (Prod.fst d)) = Prod.snd (Prod.snd
  (Prod.fst d))) ∧ (Value.slice none (0 : Nat) (0 : Nat) = Value.slice none (0 : Nat) (0 : Nat) ∧ (0 : Int) = (0 : Int)) ∧ ((0 : Int) = (0 : Int) ∧ (0 : Int) = (0 : Int)) ∧ Prod.fst (cancelSF (Prod.snd (Prod.snd
  (Prod.snd (List.getD (Prod.fst (Prod.fst d)) (Int.toNat (fidxGo (Prod.fst (Prod.snd d)) (Prod.fst (Prod.fst d)) (0 : Nat))) ((0 : Int), (0 : Int), (0 : Int), []))))) (Prod.snd (Prod.snd d))) = Prod.fst (cancelSF
  (Prod.snd (Prod.snd (Prod.snd (List.getD (Prod.fst (Prod.fst d)) (Int.toNat (fidxGo (Prod.fst (Prod.snd d)) (Prod.fst (Prod.fst d)) (0 : Nat))) ((0 : Int), (0 : Int), (0 : Int), []))))) (Prod.snd (Prod.snd d))) ∧
  (Prod.fst (Prod.fst (Prod.snd (cancelSF (Prod.snd (Prod.snd (Prod.snd (List.getD (Prod.fst (Prod.fst d)) (Int.toNat (fidxGo (Prod.fst (Prod.snd d)) (Prod.fst (Prod.fst d)) (0 : Nat))) ((0 : Int), (0 : Int), (0 : Int),
  []))))) (Prod.snd (Prod.snd d))))) = Prod.fst (Prod.fst (Prod.snd (cancTkF (Prod.fst d) (Prod.fst (Prod.snd d)) (Prod.snd (Prod.snd d))))) ∧ Prod.snd (Prod.fst (Prod.snd (cancelSF (Prod.snd (Prod.snd (Prod.snd
  (List.getD (Prod.fst (Prod.fst d)) (Int.toNat (fidxGo (Prod.fst (Prod.snd d)) (Prod.fst (Prod.fst d)) (0 : Nat))) ((0 : Int), (0 : Int), (0 : Int), []))))) (Prod.snd (Prod.snd d))))) = Prod.snd (Prod.fst (Prod.snd
  (cancTkF (Prod.fst d) (Prod.fst (Prod.snd d)) (Prod.snd (Prod.snd d)))))) ∧ List.set (Prod.fst (Prod.fst d)) (Int.toNat (fidxGo (Prod.fst (Prod.snd d)) (Prod.fst (Prod.fst d)) (0 : Nat))) (Prod.fst (List.getD (Prod.fst
  (Prod.fst d)) (Int.toNat (fidxGo (Prod.fst (Prod.snd d)) (Prod.fst (Prod.fst d)) (0 : Nat))) ((0 : Int), (0 : Int), (0 : Int), [])), Prod.fst (Prod.snd (List.getD (Prod.fst (Prod.fst d)) (Int.toNat (fidxGo (Prod.fst
  (Prod.snd d)) (Prod.fst (Prod.fst d)) (0 : Nat))) ((0 : Int), (0 : Int), (0 : Int), []))), Prod.fst (Prod.snd (Prod.snd (List.getD (Prod.fst (Prod.fst d)) (Int.toNat (fidxGo (Prod.fst (Prod.snd d)) (Prod.fst (Prod.fst
  d)) (0 : Nat))) ((0 : Int), (0 : Int), (0 : Int), [])))), Prod.fst (cancelSF (Prod.snd (Prod.snd (Prod.snd (List.getD (Prod.fst (Prod.fst d)) (Int.toNat (fidxGo (Prod.fst (Prod.snd d)) (Prod.fst (Prod.fst d)) (0 :
  Nat))) ((0 : Int), (0 : Int), (0 : Int), []))))) (Prod.snd (Prod.snd d)))) = Prod.fst (Prod.fst (cancTkF (Prod.fst d) (Prod.fst (Prod.snd d)) (Prod.snd (Prod.snd d)))) ∧ Prod.fst (Prod.snd (Prod.fst d)) = Prod.fst
  (Prod.snd (Prod.fst (cancTkF (Prod.fst d) (Prod.fst (Prod.snd d)) (Prod.snd (Prod.snd d))))) ∧ Prod.snd (Prod.snd (Prod.fst d)) = Prod.snd (Prod.snd (Prod.fst (cancTkF (Prod.fst d) (Prod.fst (Prod.snd d)) (Prod.snd
  (Prod.snd d))))))) ∧ ∀ (x : Unit), Prod.snd (Prod.snd (cancTkF (Prod.fst d) (Prod.fst (Prod.snd d)) (Prod.snd (Prod.snd d)))) = true → ((Prod.fst (cancTkF (Prod.fst d) (Prod.fst (Prod.snd d)) (Prod.snd (Prod.snd d))),
  Prod.fst (Prod.snd (cancTkF (Prod.fst d) (Prod.fst (Prod.snd d)) (Prod.snd (Prod.snd d)))), true) = cancTkF (Prod.fst d) (Prod.fst (Prod.snd d)) (Prod.snd (Prod.snd d)) ∧ (Prod.fst (cancTkF (Prod.fst d) (Prod.fst
  (Prod.snd d)) (Prod.snd (Prod.snd d))), Prod.fst (Prod.snd (cancTkF (Prod.fst d) (Prod.fst (Prod.snd d)) (Prod.snd (Prod.snd d)))), true) = cancTkF (Prod.fst d) (Prod.fst (Prod.snd d)) (Prod.snd (Prod.snd d))) ∧
  (Prod.fst (cancTkF (Prod.fst d) (Prod.fst (Prod.snd d)) (Prod.snd (Prod.snd d))), Prod.fst (Prod.snd (cancTkF (Prod.fst d) (Prod.fst (Prod.snd d)) (Prod.snd (Prod.snd d)))), true) = cancTkF (Prod.fst d) (Prod.fst
  (Prod.snd d)) (Prod.snd (Prod.snd d)))))))) := by
  intro d hw hp
  obtain ⟨⟨xs, tn, fr⟩, t, id⟩ := d
  have hp : FlsP xs := hp
  simp only [Int.toNat_natCast, exists_const, and_true, true_and, implies_true, decide_eq_true_eq, decide_eq_false_iff_not, Bool.not_eq_true', Bool.not_eq_false', beq_iff_eq, forall_const]
  refine ⟨fun h4 => ⟨hp, fun _ => by rw [canc_no (.inl h4)]⟩, fun h4 _ => ⟨fun h5 => ⟨hp, fun _ => by rw [canc_no (.inr (.inl h5))]⟩, fun h5 => ?_⟩⟩
  have h6 := (fidx_lt t xs 0 (by omega)).2
  rw [Nat.zero_add] at h6
  have hk0 : fidxGo t xs 0 < xs.length := by omega
  have hlo := ring_lines h4 _ h6
  have hln : (xs.getD (fidxGo t xs 0).toNat fl0).2.2.2.length ≤ 1048576 := by
    refine hp.2 _ ?_
    rw [List.getD_eq_getElem?_getD, List.getElem?_eq_getElem h6]
    exact List.getElem_mem h6
  have hy := canc_yes (id := id) h4 rfl h5 rfl rfl
  have hn := canc_no (xs := xs) (tn := tn) (fr := fr) (t := t) (id := id)
  rw [show ((0 : Int), (0 : Int), (0 : Int), ([] : List Tk)) = fl0 from rfl]
  simp only [← icancel_eq, icancelF, hlo, true_and]
  generalize fidxGo t xs 0 = k at *
  have hi : k.toNat < xs.length := by omega
  generalize hF : xs.getD k.toNat fl0 = F at *
  generalize hJ : idxGo id F.2.2.2 0 = j at *
  refine ⟨⟨by omega, hk0⟩, hln, fun _ => ⟨hp, fun _ => ?_⟩⟩
  have hgs : ∀ f g : Fl, (xs.set k.toNat f).getD k.toNat g = f := fun f g => by simp [hi]
  have hss : ∀ f g : Fl, (xs.set k.toNat f).set k.toNat g = xs.set k.toNat g := fun f g => by simp
  have hls : ∀ f : Fl, (xs.set k.toNat f).length = xs.length := fun f => by simp
  by_cases h8 : j < 0
  · simp only [show ¬ (0 ≤ j) by omega, if_false, hn (.inr (.inr h8))]
    exact ⟨fun _ => trivial, fun h => by cases h⟩
  · have hy := hy h8
    simp only [show 0 ≤ j by omega, if_true, hy, hgs, hss, hls]
    generalize delAt F.2.2.2 j = D at *
    unfold setFl
    rw [hF]
    refine ⟨fun h => by (cases h), fun _ => ⟨⟨by omega, hk0⟩, ⟨fun h9 => ?_, fun h9 => ?_⟩, fun _ => ⟨⟨trivial, trivial⟩, trivial⟩⟩⟩
    · have hD : D = [] := by cases D with | nil => rfl | cons a l => simp at h9; omega
      subst hD
      exact ⟨⟨by omega, hk0⟩, fun h10 => ⟨trivial, ⟨trivial, trivial⟩, rfl, trivial, by simp [h10]⟩, fun h10 => ⟨trivial, ⟨trivial, trivial⟩, rfl, trivial, by simp [h10]⟩⟩
    · have hD : ¬ D = [] := by rintro rfl; simp at h9
      exact ⟨trivial, ⟨trivial, trivial⟩, by simp [hD], trivial, by simp [hD]⟩
theorem canc_tot {fs : List Fl} {y : Int × Bool} (hT : totF fs ≤ 1048576) (t id : Int) : totF (cancTkF (fs, y) t id).1.1 ≤ 4000000 := by
  unfold cancTkF
  split
  · show totF (setFl fs _ _ _) ≤ _
    unfold setFl
    refine Nat.le_trans (totF_set _ _ _) ?_
    have := totF_get fs (fidxGo t fs 0).toNat
    have h2 := (delAt_sub (fs.getD (fidxGo t fs 0).toNat fl0).2.2.2 (i := idxGo id (fs.getD (fidxGo t fs 0).toNat fl0).2.2.2 0) (by rename_i h; exact h.2.2)).length_le
    show totF fs + (delAt (fs.getD (fidxGo t fs 0).toNat fl0).2.2.2 (idxGo id (fs.getD (fidxGo t fs 0).toNat fl0).2.2.2 0)).length + 1 ≤ _
    omega
  · show totF fs ≤ _
    omega
theorem eq4 {r : (List FlG × Int × Bool) × Tk × Bool} {p : Rg × Tk × Bool} (e : ((r.1.1.map unF, r.1.2.1, r.1.2.2), r.2) = p) : r.1.1.map unF = p.1.1 ∧ r.1.2.1 = p.1.2.1 ∧ r.1.2.2 = p.1.2.2 ∧ r.2.1 = p.2.1 ∧ r.2.2 = p.2.2 := by
  rw [← e]
  exact ⟨rfl, rfl, rfl, rfl, rfl⟩
theorem eq5 {r : (List FlG × Int × Bool) × Tk × Bool} {s : List FlG × Int × Bool} {y : Int × Bool} {t i : Int} {L : List Fl} (e : ((r.1.1.map unF, r.1.2.1, r.1.2.2), r.2) = cancTkF (s.1.map unF, s.2) t i) (h : (s.1.map unF, s.2.1, s.2.2) = (L, y)) : r.1.1.map unF = (cancTkF (L, y) t i).1.1 ∧ r.1.2.1 = (cancTkF (L, y) t i).1.2.1 ∧ r.1.2.2 = (cancTkF (L, y) t i).1.2.2 ∧ r.2.1 = (cancTkF (L, y) t i).2.1 ∧ r.2.2 = (cancTkF (L, y) t i).2.2 := by
  rw [(eq1' h).1, (eq1' h).2] at e
  exact eq4 e
end Go.SF
