/- Flows dropped, tickets cancelled. No condition. -/
import Derived.Test.YtimppdagcfnjeaaSxC
import Derived.Test.YtimppdagcfnjeaaSxPRingL
namespace Go.SF
open Go.SX Go
set_option linter.unusedVariables false
set_option linter.unusedSimpArgs false
theorem sub_flat {α β : Type} (f : α → List β) : ∀ {l k : List α}, l.Sublist k → (l.flatMap f).Sublist (k.flatMap f) := by
  intro l k h
  induction h with
  | slnil => exact List.Sublist.refl _
  | cons a _ ih => rw [List.flatMap_cons]; exact ih.trans (List.sublist_append_right _ _)
  | cons_cons a _ ih => rw [List.flatMap_cons, List.flatMap_cons]; exact List.Sublist.append (List.Sublist.refl _) ih
theorem idsF_sub {xs ys : List FlG} (h : (idsF xs).Nodup) (hs : ys.Sublist xs) : (idsF ys).Nodup := h.sublist (sub_flat _ hs)
theorem drop_no {xs : List Fl} {tn : Int} {fr : Bool} {t : Int} (h : ringOkF xs tn fr = false ∨ fidxGo t xs 0 < 0 ∨ 0 < ((xs.getD (fidxGo t xs 0).toNat fl0).2.2.2.length : Int)) : dropFlF (xs, tn, fr) t = ((xs, tn, fr), false) := by
  unfold dropFlF
  rw [if_neg]
  intro ⟨h1, h2, h3⟩
  rcases h with h | h | h
  · simp only at h1; rw [h] at h1; cases h1
  · simp only at h2; omega
  · simp only at h3; rw [h3] at h; simp at h
theorem drop_yes {xs : List Fl} {tn : Int} {fr : Bool} {t : Int} (h1 : ringOkF xs tn fr = true) (h2 : ¬ fidxGo t xs 0 < 0) (h3 : ¬ 0 < ((xs.getD (fidxGo t xs 0).toNat fl0).2.2.2.length : Int)) : dropFlF (xs, tn, fr) t = ((delAt xs (fidxGo t xs 0), dropTurnF (fidxGo t xs 0) tn ((xs.length : Int) - 1), fr), true) := by
  unfold dropFlF
  rw [if_pos]
  refine ⟨h1, by simp only; omega, ?_⟩
  simp only
  cases h : (xs.getD (fidxGo t xs 0).toNat fl0).2.2.2 with
  | nil => rfl
  | cons a l => rw [h] at h3; simp at h3
theorem delAt_un {L : List FlG} {xs : List Fl} {i : Int} (h : L.map unF = xs) : (delAt L i).map unF = delAt xs i := by
  unfold delAt
  rw [List.map_append, List.map_take, List.map_drop, h]
theorem delAt_sub {α : Type} (l : List α) {i : Int} (h : 0 ≤ i) : (delAt l i).Sublist l := by
  unfold delAt
  have h1 : (l.drop (i + 1).toNat).Sublist (l.drop i.toNat) := by
    have : (i + 1).toNat = i.toNat + 1 := by omega
    rw [this, ← List.drop_drop]
    exact List.drop_sublist _ _
  have h2 := List.Sublist.append (List.Sublist.refl (l.take i.toNat)) h1
  rw [List.take_append_drop] at h2
  exact h2
theorem delAt_len {α : Type} (l : List α) {i : Int} (h : 0 ≤ i) (h1 : i < (l.length : Int)) : ((delAt l i).length : Int) = (l.length : Int) - 1 := by
  unfold delAt
  rw [List.length_append, List.length_take, List.length_drop]
  omega
theorem ring_turn {xs : List Fl} {tn : Int} {fr : Bool} (h : ringOkF xs tn fr = true) {i : Nat} (hi : i < xs.length) : 0 ≤ tn ∧ tn < (xs.length : Int) ∧ xs.length ≤ 12 := by
  have h1 := (ring_iff.1 h).1
  unfold RingHd at h1
  simp only at h1
  refine ⟨?_, ?_, ?_⟩ <;> omega
theorem totF_sub {l k : List Fl} (h : l.Sublist k) : totF l ≤ totF k := by
  induction h with
  | slnil => exact Nat.le_refl _
  | cons a _ ih => rw [totF]; omega
  | cons_cons a _ ih => rw [totF, totF]; omega
theorem drop_tot {fs : List Fl} {y : Int × Bool} (hT : totF fs ≤ 1048576) (i : Int) : totF (dropFlF (fs, y) i).1.1 ≤ 4000000 := by
  unfold dropFlF
  split
  · rename_i h
    have := totF_sub (delAt_sub fs (i := fidxGo i fs 0) h.2.1)
    show totF (delAt fs (fidxGo i fs 0)) ≤ _
    omega
  · show totF fs ≤ _
    omega
theorem eq1' {r : List FlG × Int × Bool} {L : List Fl} {y : Int × Bool} (e : (r.1.map unF, r.2.1, r.2.2) = (L, y)) : r.1.map unF = L ∧ r.2 = y := by
  injection e with h1 h2
  exact ⟨h1, h2⟩
theorem eq3d {r : (List FlG × Int × Bool) × Bool} {s : List FlG × Int × Bool} {y : Int × Bool} {i : Int} {L : List Fl} (e : ((r.1.1.map unF, r.1.2.1, r.1.2.2), r.2) = dropFlF (s.1.map unF, s.2) i) (h : (s.1.map unF, s.2.1, s.2.2) = (L, y)) : r.1.1.map unF = (dropFlF (L, y) i).1.1 ∧ r.1.2.1 = (dropFlF (L, y) i).1.2.1 ∧ r.1.2.2 = (dropFlF (L, y) i).1.2.2 ∧ r.2 = (dropFlF (L, y) i).2 := by
  rw [(eq1' h).1, (eq1' h).2] at e
  exact eq2 e
theorem v_I_DropFlowT :
  ∀ (d : (List (Int × Int × Int × List (Int × Int)) × Int × Bool) × Int), Ty.wf ringT (Prod.fst d) ∧ Ty.wf i64T (Prod.snd d) → FlsP (Prod.fst (Prod.fst d)) → FlsP (Prod.fst (Prod.fst d)) ∧ ∀ (r : List (Int × Int × Int ×
  Nat × List (Int × Int)) × Int × Bool), unD ringG r = Prod.fst d → List.Nodup (ids ringG r) → Ty.wf ringG r → True → True ∧ (Ty.wf i64T (fidxGo (Prod.snd d) (Prod.fst (Prod.fst d)) (0 : Nat)) → True ∧ ((!ringOkF
  (Prod.fst (Prod.fst d)) (Prod.fst (Prod.snd (Prod.fst d))) (Prod.snd (Prod.snd (Prod.fst d)))) = true → (unD ringG r, unD Ty.bool false) = dropFlF (Prod.fst d) (Prod.snd d) ∧ List.Nodup (ids ringG r ++ ids Ty.bool
  false)) ∧ ((!ringOkF (Prod.fst (Prod.fst d)) (Prod.fst (Prod.snd (Prod.fst d))) (Prod.snd (Prod.snd (Prod.fst d)))) = false → (decide (fidxGo (Prod.snd d) (Prod.fst (Prod.fst d)) (0 : Nat) < (0 : Int)) = true → (unD
  ringG r, unD Ty.bool false) = dropFlF (Prod.fst d) (Prod.snd d) ∧ List.Nodup (ids ringG r ++ ids Ty.bool false)) ∧ (decide (fidxGo (Prod.snd d) (Prod.fst (Prod.fst d)) (0 : Nat) < (0 : Int)) = false → ((0 : Int) ≤
  fidxGo (Prod.snd d) (Prod.fst (Prod.fst d)) (0 : Nat) ∧ fidxGo (Prod.snd d) (Prod.fst (Prod.fst d)) (0 : Nat) < (↑(List.length (Prod.fst (Prod.fst d))) : Int)) ∧ (decide ((0 : Int) < (↑(List.length (Prod.snd (Prod.snd
  (Prod.snd (List.getD (Prod.fst (Prod.fst d)) (Int.toNat (fidxGo (Prod.snd d) (Prod.fst (Prod.fst d)) (0 : Nat))) ((0 : Int), (0 : Int), (0 : Int), [])))))) : Int)) = true → (unD ringG r, unD Ty.bool false) = dropFlF
  (Prod.fst d) (Prod.snd d) ∧ List.Nodup (ids ringG r ++ ids Ty.bool false)) ∧ (decide ((0 : Int) < (↑(List.length (Prod.snd (Prod.snd (Prod.snd (List.getD (Prod.fst (Prod.fst d)) (Int.toNat (fidxGo (Prod.snd d)
  (Prod.fst (Prod.fst d)) (0 : Nat))) ((0 : Int), (0 : Int), (0 : Int), [])))))) : Int)) = false → ((0 : Int) ≤ fidxGo (Prod.snd d) (Prod.fst (Prod.fst d)) (0 : Nat) ∧ fidxGo (Prod.snd d) (Prod.fst (Prod.fst d)) (0 :
  Nat) ≤ IntKind.wrap IntKind.i64 (fidxGo (Prod.snd d) (Prod.fst (Prod.fst d)) (0 : Nat) + (1 : Int)) ∧ IntKind.wrap IntKind.i64 (fidxGo (Prod.snd d) (Prod.fst (Prod.fst d)) (0 : Nat) + (1 : Int)) ≤ (↑(List.length
  (Prod.fst r)) : Int)) ∧ (decide (fidxGo (Prod.snd d) (Prod.fst (Prod.fst d)) (0 : Nat) < Prod.fst (Prod.snd r)) = true → (unD ringG (List.take (Int.toNat (fidxGo (Prod.snd d) (Prod.fst (Prod.fst d)) (0 : Nat)))
  (Prod.fst r) ++ List.drop (Int.toNat (IntKind.wrap IntKind.i64 (fidxGo (Prod.snd d) (Prod.fst (Prod.fst d)) (0 : Nat) + (1 : Int)))) (Prod.fst r), IntKind.wrap IntKind.i64 (Prod.fst (Prod.snd r) - (1 : Int)), Prod.snd
  (Prod.snd r)), unD Ty.bool true) = dropFlF (Prod.fst d) (Prod.snd d) ∧ List.Nodup (ids ringG (List.take (Int.toNat (fidxGo (Prod.snd d) (Prod.fst (Prod.fst d)) (0 : Nat))) (Prod.fst r) ++ List.drop (Int.toNat
  (IntKind.wrap IntKind.i64 (fidxGo (Prod.snd d) (Prod.fst (Prod.fst d)) (0 : Nat) + (1 : Int)))) (Prod.fst r), IntKind.wrap IntKind.i64 (Prod.fst (Prod.snd r) - (1 : Int)), Prod.snd (Prod.snd r)) ++ ids Ty.bool true)) ∧
  (decide (fidxGo (Prod.snd d) (Prod.fst (Prod.fst d)) (0 : Nat) < Prod.fst (Prod.snd r)) = false → (decide (Prod.fst (Prod.snd r) = (↑(List.length (List.take (Int.toNat (fidxGo (Prod.snd d) (Prod.fst (Prod.fst d)) (0 :
  Nat))) (Prod.fst r) ++ List.drop (Int.toNat (IntKind.wrap IntKind.i64 (fidxGo (Prod.snd d) (Prod.fst (Prod.fst d)) (0 : Nat) + (1 : Int)))) (Prod.fst r))) : Int)) = true → (unD ringG (List.take (Int.toNat (fidxGo
  (Prod.snd d) (Prod.fst (Prod.fst d)) (0 : Nat))) (Prod.fst r) ++ List.drop (Int.toNat (IntKind.wrap IntKind.i64 (fidxGo (Prod.snd d) (Prod.fst (Prod.fst d)) (0 : Nat) + (1 : Int)))) (Prod.fst r), (0 : Int), Prod.snd
  (Prod.snd r)), unD Ty.bool true) = dropFlF (Prod.fst d) (Prod.snd d) ∧ List.Nodup (ids ringG (List.take (Int.toNat (fidxGo (Prod.snd d) (Prod.fst (Prod.fst d)) (0 : Nat))) (Prod.fst r) ++ List.drop (Int.toNat
  (IntKind.wrap IntKind.i64 (fidxGo (Prod.snd d) (Prod.fst (Prod.fst d)) (0 : Nat) + (1 : Int)))) (Prod.fst r), (0 : Int), Prod.snd (Prod.snd r)) ++ ids Ty.bool true)) ∧ (decide (Prod.fst (Prod.snd r) = (↑(List.length
  (List.take (Int.toNat (fidxGo (Prod.snd d) (Prod.fst (Prod.fst d)) (0 : Nat))) (Prod.fst r) ++ List.drop (Int.toNat (IntKind.wrap IntKind.i64 (fidxGo (Prod.snd d) (Prod.fst (Prod.fst d)) (0 : Nat) + (1 : Int))))
  (Prod.fst r))) : Int)) = false → (unD ringG (List.take (Int.toNat (fidxGo (Prod.snd d) (Prod.fst (Prod.fst d)) (0 : Nat))) (Prod.fst r) ++ List.drop (Int.toNat (IntKind.wrap IntKind.i64 (fidxGo (Prod.snd d) (Prod.fst
  (Prod.fst d)) (0 : Nat) + (1 : Int)))) (Prod.fst r), Prod.snd r), unD Ty.bool true) = dropFlF (Prod.fst d) (Prod.snd d) ∧ List.Nodup (ids ringG (List.take (Int.toNat (fidxGo (Prod.snd d) (Prod.fst (Prod.fst d)) (0 :
  Nat))) (Prod.fst r) ++ List.drop (Int.toNat (IntKind.wrap IntKind.i64 (fidxGo (Prod.snd d) (Prod.fst (Prod.fst d)) (0 : Nat) + (1 : Int)))) (Prod.fst r), Prod.snd r) ++ ids Ty.bool true))))))) := by
  intro d hw hp
  obtain ⟨⟨xs, tn, fr⟩, t⟩ := d
  have hp : FlsP xs := hp
  simp only [Int.toNat_natCast, exists_const, and_true, true_and, implies_true, decide_eq_true_eq, decide_eq_false_iff_not, Bool.not_eq_true', Bool.not_eq_false', beq_iff_eq, forall_const]
  simp only [unG1', idN1, idG1', idG3', unG2, idBool, unBool, List.append_nil, true_and, and_true]
  refine ⟨hp, fun r h1 h2 h3 _ => ⟨fun h4 => ⟨by rw [h1, drop_no (.inl h4)]; rfl, h2⟩, fun h4 => ⟨fun h5 => ⟨by rw [h1, drop_no (.inr (.inl h5))]; rfl, h2⟩, fun h5 => ?_⟩⟩⟩
  have h6 := (fidx_lt t xs 0 (by omega)).2
  rw [Nat.zero_add] at h6
  have h7 : (fidxGo t xs 0) < (xs.length : Int) := by omega
  refine ⟨⟨by omega, h7⟩, fun h8 => ⟨by rw [h1, drop_no (.inr (.inr h8))]; rfl, h2⟩, fun h8 => ?_⟩
  obtain ⟨q1, q2, q3⟩ := eq1 h1
  simp only at q2 q3
  have hl := len_un q1
  obtain ⟨t1, t2, t3⟩ := ring_turn h4 h6
  have hw1 : IntKind.i64.wrap (fidxGo t xs 0 + 1) = fidxGo t xs 0 + 1 := wrap_small (by omega)
  have hw2 : IntKind.i64.wrap (tn - 1) = tn - 1 := wrap_small (by omega)
  have hd : List.take (fidxGo t xs 0).toNat r.1 ++ List.drop (fidxGo t xs 0 + 1).toNat r.1 = delAt r.1 (fidxGo t xs 0) := rfl
  rw [hw1, hd, q2, q3, hw2, delAt_un q1, drop_yes h4 h5 h8, delAt_len _ (by omega) (by rw [hl]; exact h7), hl]
  have hn := idsF_sub h2 (delAt_sub r.1 (i := fidxGo t xs 0) (by omega))
  refine ⟨⟨by omega, by omega, by omega⟩, fun h9 => ⟨?_, hn⟩, fun h9 => ⟨fun h10 => ⟨?_, hn⟩, fun h10 => ⟨?_, hn⟩⟩⟩
  · unfold dropTurnF; rw [if_pos h9]; rfl
  · unfold dropTurnF; rw [if_neg h9, if_pos h10]; rfl
  · unfold dropTurnF; rw [if_neg h9, if_neg h10]; rfl
theorem erase_take {α : Type} (xs : List α) {k i : Nat} (d : α) (hk : k < xs.length) : (k ≠ i → (xs.take k).eraseIdx i ++ [xs.getD k d] = (xs.take (k + 1)).eraseIdx i) ∧ (k = i → (xs.take k).eraseIdx i = (xs.take (k + 1)).eraseIdx i) := by
  have h1 : xs.take (k + 1) = xs.take k ++ [xs.getD k d] := by
    rw [List.take_succ_eq_append_getElem hk]
    simp [hk]
  have hl : (xs.take k).length = k := by rw [List.length_take]; omega
  refine ⟨fun h => ?_, fun h => ?_⟩
  · rw [h1]
    by_cases hi : i < k
    · rw [List.eraseIdx_append_of_lt_length (by omega)]
    · rw [List.eraseIdx_of_length_le (by omega), List.eraseIdx_of_length_le (by simp; omega)]
  · subst h
    rw [h1, List.eraseIdx_of_length_le (by omega), List.eraseIdx_append_of_length_le (by omega), hl]
    simp
theorem erase_del {α : Type} (xs : List α) {i : Int} (h : 0 ≤ i) : xs.eraseIdx i.toNat = delAt xs i := by
  rw [List.eraseIdx_eq_take_drop_succ]
  unfold delAt
  have : (i + 1).toNat = i.toNat + 1 := by omega
  rw [this]
theorem v_S_DropFlow :
  ∀ (d : (List (Int × Int × Int × List (Int × Int)) × Int × Bool) × Int), Ty.wf ringT (Prod.fst d) ∧ Ty.wf i64T (Prod.snd d) → FlsP (Prod.fst (Prod.fst d)) → True ∧ ((!ringOkF (Prod.fst (Prod.fst d)) (Prod.fst (Prod.snd
  (Prod.fst d))) (Prod.snd (Prod.snd (Prod.fst d)))) = true → FlsP (Prod.fst (Prod.fst d)) ∧ (Ty.wf ringT (Prod.fst d) → (Prod.fst d, false) = dropFlF (Prod.fst d) (Prod.snd d))) ∧ ((!ringOkF (Prod.fst (Prod.fst d))
  (Prod.fst (Prod.snd (Prod.fst d))) (Prod.snd (Prod.snd (Prod.fst d)))) = false → True ∧ (Ty.wf i64T (fidxGo (Prod.snd d) (Prod.fst (Prod.fst d)) (0 : Nat)) → (decide (fidxGo (Prod.snd d) (Prod.fst (Prod.fst d)) (0 :
  Nat) < (0 : Int)) = true → FlsP (Prod.fst (Prod.fst d)) ∧ (Ty.wf ringT (Prod.fst d) → (Prod.fst d, false) = dropFlF (Prod.fst d) (Prod.snd d))) ∧ (decide (fidxGo (Prod.snd d) (Prod.fst (Prod.fst d)) (0 : Nat) < (0 :
  Int)) = false → ((0 : Int) ≤ fidxGo (Prod.snd d) (Prod.fst (Prod.fst d)) (0 : Nat) ∧ fidxGo (Prod.snd d) (Prod.fst (Prod.fst d)) (0 : Nat) < (↑(List.length (Prod.fst (Prod.fst d))) : Int)) ∧ (decide ((0 : Int) <
  (↑(List.length (Prod.snd (Prod.snd (Prod.snd (List.getD (Prod.fst (Prod.fst d)) (Int.toNat (fidxGo (Prod.snd d) (Prod.fst (Prod.fst d)) (0 : Nat))) ((0 : Int), (0 : Int), (0 : Int), [])))))) : Int)) = true → FlsP
  (Prod.fst (Prod.fst d)) ∧ (Ty.wf ringT (Prod.fst d) → (Prod.fst d, false) = dropFlF (Prod.fst d) (Prod.snd d))) ∧ (decide ((0 : Int) < (↑(List.length (Prod.snd (Prod.snd (Prod.snd (List.getD (Prod.fst (Prod.fst d))
  (Int.toNat (fidxGo (Prod.snd d) (Prod.fst (Prod.fst d)) (0 : Nat))) ((0 : Int), (0 : Int), (0 : Int), [])))))) : Int)) = false → FlsP (Prod.fst (Prod.fst d)) ∧ (Ty.wf ringT (Prod.fst d) → (0 : Nat) ≤ List.length
  (Prod.fst (Prod.fst d)) ∧ (((Prod.fst (Prod.fst d) = Prod.fst (Prod.fst d) ∧ Prod.fst (Prod.snd (Prod.fst d)) = Prod.fst (Prod.snd (Prod.fst d)) ∧ Prod.snd (Prod.snd (Prod.fst d)) = Prod.snd (Prod.snd (Prod.fst d))) ∧
  Prod.snd d = Prod.snd d ∧ fidxGo (Prod.snd d) (Prod.fst (Prod.fst d)) (0 : Nat) = fidxGo (Prod.snd d) (Prod.fst (Prod.fst d)) (0 : Nat) ∧ (0 : Int) = (↑(0 : Nat) : Int)) ∧ (Prod.fst (Prod.fst d) = Prod.fst (Prod.fst d)
  ∧ Prod.fst (Prod.snd (Prod.fst d)) = Prod.fst (Prod.snd (Prod.fst d)) ∧ Prod.snd (Prod.snd (Prod.fst d)) = Prod.snd (Prod.snd (Prod.fst d))) ∧ (Value.slice none (0 : Nat) (0 : Nat) = Value.slice none (0 : Nat) (0 :
  Nat) ∧ (0 : Int) = (0 : Int)) ∧ (Prod.fst (Prod.snd (Prod.fst d)) = Prod.fst (Prod.snd (Prod.fst d)) ∧ Prod.snd (Prod.snd (Prod.fst d)) = Prod.snd (Prod.snd (Prod.fst d))) ∧ Prod.fst (Prod.fst d) = Prod.fst (Prod.fst
  d) ∧ (Prod.fst (Prod.snd (Prod.fst d)) = Prod.fst (Prod.snd (Prod.fst d)) ∧ Prod.snd (Prod.snd (Prod.fst d)) = Prod.snd (Prod.snd (Prod.fst d))) ∧ List.eraseIdx (List.take (0 : Nat) (Prod.fst (Prod.fst d))) (Int.toNat
  (fidxGo (Prod.snd d) (Prod.fst (Prod.fst d)) (0 : Nat))) = []) ∧ ∀ (x : Nat), x ≤ List.length (Prod.fst (Prod.fst d)) → (decide ((↑x : Int) < (↑(List.length (Prod.fst (Prod.fst d))) : Int)) = true → ((!decide ((↑x :
  Int) = fidxGo (Prod.snd d) (Prod.fst (Prod.fst d)) (0 : Nat))) = true → ((0 : Int) ≤ (↑x : Int) ∧ (↑x : Int) < (↑(List.length (Prod.fst (Prod.fst d))) : Int)) ∧ (List.length (List.eraseIdx (List.take x (Prod.fst
  (Prod.fst d))) (Int.toNat (fidxGo (Prod.snd d) (Prod.fst (Prod.fst d)) (0 : Nat)))) + List.length [List.getD (Prod.fst (Prod.fst d)) (Int.toNat (↑x : Int)) ((0 : Int), (0 : Int), (0 : Int), [])]) * (48 : Nat) ≤
  (140737488355328 : Nat) ∧ ∃ (x' : Nat), x' ≤ List.length (Prod.fst (Prod.fst d)) ∧ List.length (Prod.fst (Prod.fst d)) - x' < List.length (Prod.fst (Prod.fst d)) - x ∧ ((Prod.fst (Prod.fst d) = Prod.fst (Prod.fst d) ∧
  Prod.fst (Prod.snd (Prod.fst d)) = Prod.fst (Prod.snd (Prod.fst d)) ∧ Prod.snd (Prod.snd (Prod.fst d)) = Prod.snd (Prod.snd (Prod.fst d))) ∧ Prod.snd d = Prod.snd d ∧ fidxGo (Prod.snd d) (Prod.fst (Prod.fst d)) (0 :
  Nat) = fidxGo (Prod.snd d) (Prod.fst (Prod.fst d)) (0 : Nat) ∧ IntKind.wrap IntKind.i64 ((↑x : Int) + (1 : Int)) = (↑x' : Int)) ∧ (Prod.fst (Prod.fst d) = Prod.fst (Prod.fst d) ∧ Prod.fst (Prod.snd (Prod.fst d)) =
  Prod.fst (Prod.snd (Prod.fst d)) ∧ Prod.snd (Prod.snd (Prod.fst d)) = Prod.snd (Prod.snd (Prod.fst d))) ∧ (Value.slice none (0 : Nat) (0 : Nat) = Value.slice none (0 : Nat) (0 : Nat) ∧ (0 : Int) = (0 : Int)) ∧
  (Prod.fst (Prod.snd (Prod.fst d)) = Prod.fst (Prod.snd (Prod.fst d)) ∧ Prod.snd (Prod.snd (Prod.fst d)) = Prod.snd (Prod.snd (Prod.fst d))) ∧ Prod.fst (Prod.fst d) = Prod.fst (Prod.fst d) ∧ (Prod.fst (Prod.snd
  (Prod.fst d)) = Prod.fst (Prod.snd (Prod.fst d)) ∧ Prod.snd (Prod.snd (Prod.fst d)) = Prod.snd (Prod.snd (Prod.fst d))) ∧ List.eraseIdx (List.take x (Prod.fst (Prod.fst d))) (Int.toNat (fidxGo (Prod.snd d) (Prod.fst
  (Prod.fst d)) (0 : Nat))) ++ [List.getD (Prod.fst (Prod.fst d)) (Int.toNat (↑x : Int)) ((0 : Int), (0 : Int), (0 : Int), [])] = List.eraseIdx (List.take x' (Prod.fst (Prod.fst d))) (Int.toNat (fidxGo (Prod.snd d)
  (Prod.fst (Prod.fst d)) (0 : Nat)))) ∧ ((!decide ((↑x : Int) = fidxGo (Prod.snd d) (Prod.fst (Prod.fst d)) (0 : Nat))) = false → ∃ (x' : Nat), x' ≤ List.length (Prod.fst (Prod.fst d)) ∧ List.length (Prod.fst (Prod.fst
  d)) - x' < List.length (Prod.fst (Prod.fst d)) - x ∧ ((Prod.fst (Prod.fst d) = Prod.fst (Prod.fst d) ∧ Prod.fst (Prod.snd (Prod.fst d)) = Prod.fst (Prod.snd (Prod.fst d)) ∧ Prod.snd (Prod.snd (Prod.fst d)) = Prod.snd
  (Prod.snd (Prod.fst d))) ∧ Prod.snd d = Prod.snd d ∧ fidxGo (Prod.snd d) (Prod.fst (Prod.fst d)) (0 : Nat) = fidxGo (Prod.snd d) (Prod.fst (Prod.fst d)) (0 : Nat) ∧ IntKind.wrap IntKind.i64 ((↑x : Int) + (1 : Int)) =
  (↑x' : Int)) ∧ (Prod.fst (Prod.fst d) = Prod.fst (Prod.fst d) ∧ Prod.fst (Prod.snd (Prod.fst d)) = Prod.fst (Prod.snd (Prod.fst d)) ∧ Prod.snd (Prod.snd (Prod.fst d)) = Prod.snd (Prod.snd (Prod.fst d))) ∧ (Value.slice
  none (0 : Nat) (0 : Nat) = Value.slice none (0 : Nat) (0 : Nat) ∧ (0 : Int) = (0 : Int)) ∧ (Prod.fst (Prod.snd (Prod.fst d)) = Prod.fst (Prod.snd (Prod.fst d)) ∧ Prod.snd (Prod.snd (Prod.fst d)) = Prod.snd (Prod.snd
  (Prod.fst d))) ∧ Prod.fst (Prod.fst d) = Prod.fst (Prod.fst d) ∧ (Prod.fst (Prod.snd (Prod.fst d)) = Prod.fst (Prod.snd (Prod.fst d)) ∧ Prod.snd (Prod.snd (Prod.fst d)) = Prod.snd (Prod.snd (Prod.fst d))) ∧
  List.eraseIdx (List.take x (Prod.fst (Prod.fst d))) (Int.toNat (fidxGo (Prod.snd d) (Prod.fst (Prod.fst d)) (0 : Nat))) = List.eraseIdx (List.take x' (Prod.fst (Prod.fst d))) (Int.toNat (fidxGo (Prod.snd d) (Prod.fst
  (Prod.fst d)) (0 : Nat))))) ∧ (decide ((↑x : Int) < (↑(List.length (Prod.fst (Prod.fst d))) : Int)) = false → (decide (fidxGo (Prod.snd d) (Prod.fst (Prod.fst d)) (0 : Nat) < Prod.fst (Prod.snd (Prod.fst d))) = true →
  (decide (IntKind.wrap IntKind.i64 (Prod.fst (Prod.snd (Prod.fst d)) - (1 : Int)) = (↑(List.length (List.eraseIdx (List.take x (Prod.fst (Prod.fst d))) (Int.toNat (fidxGo (Prod.snd d) (Prod.fst (Prod.fst d)) (0 :
  Nat))))) : Int)) = true → ((List.eraseIdx (List.take x (Prod.fst (Prod.fst d))) (Int.toNat (fidxGo (Prod.snd d) (Prod.fst (Prod.fst d)) (0 : Nat))), (0 : Int), Prod.snd (Prod.snd (Prod.fst d))), true) = dropFlF
  (Prod.fst d) (Prod.snd d)) ∧ (decide (IntKind.wrap IntKind.i64 (Prod.fst (Prod.snd (Prod.fst d)) - (1 : Int)) = (↑(List.length (List.eraseIdx (List.take x (Prod.fst (Prod.fst d))) (Int.toNat (fidxGo (Prod.snd d)
  (Prod.fst (Prod.fst d)) (0 : Nat))))) : Int)) = false → ((List.eraseIdx (List.take x (Prod.fst (Prod.fst d))) (Int.toNat (fidxGo (Prod.snd d) (Prod.fst (Prod.fst d)) (0 : Nat))), IntKind.wrap IntKind.i64 (Prod.fst
  (Prod.snd (Prod.fst d)) - (1 : Int)), Prod.snd (Prod.snd (Prod.fst d))), true) = dropFlF (Prod.fst d) (Prod.snd d))) ∧ (decide (fidxGo (Prod.snd d) (Prod.fst (Prod.fst d)) (0 : Nat) < Prod.fst (Prod.snd (Prod.fst d)))
  = false → (decide (Prod.fst (Prod.snd (Prod.fst d)) = (↑(List.length (List.eraseIdx (List.take x (Prod.fst (Prod.fst d))) (Int.toNat (fidxGo (Prod.snd d) (Prod.fst (Prod.fst d)) (0 : Nat))))) : Int)) = true →
  ((List.eraseIdx (List.take x (Prod.fst (Prod.fst d))) (Int.toNat (fidxGo (Prod.snd d) (Prod.fst (Prod.fst d)) (0 : Nat))), (0 : Int), Prod.snd (Prod.snd (Prod.fst d))), true) = dropFlF (Prod.fst d) (Prod.snd d)) ∧
  (decide (Prod.fst (Prod.snd (Prod.fst d)) = (↑(List.length (List.eraseIdx (List.take x (Prod.fst (Prod.fst d))) (Int.toNat (fidxGo (Prod.snd d) (Prod.fst (Prod.fst d)) (0 : Nat))))) : Int)) = false → ((List.eraseIdx
  (List.take x (Prod.fst (Prod.fst d))) (Int.toNat (fidxGo (Prod.snd d) (Prod.fst (Prod.fst d)) (0 : Nat))), Prod.snd (Prod.fst d)), true) = dropFlF (Prod.fst d) (Prod.snd d))))))))) := by
  intro d hw hp
  obtain ⟨⟨xs, tn, fr⟩, t⟩ := d
  have hp : FlsP xs := hp
  simp only [Int.toNat_natCast, exists_const, and_true, true_and, implies_true, decide_eq_true_eq, decide_eq_false_iff_not, Bool.not_eq_true', Bool.not_eq_false', beq_iff_eq, forall_const]
  refine ⟨fun h4 => ⟨hp, fun _ => by rw [drop_no (.inl h4)]⟩, fun h4 _ => ⟨fun h5 => ⟨hp, fun _ => by rw [drop_no (.inr (.inl h5))]⟩, fun h5 => ?_⟩⟩
  have h6 := (fidx_lt t xs 0 (by omega)).2
  rw [Nat.zero_add] at h6
  have h7 : (fidxGo t xs 0) < (xs.length : Int) := by omega
  refine ⟨⟨by omega, h7⟩, fun h8 => ⟨hp, fun _ => by rw [drop_no (.inr (.inr h8))]⟩, fun h8 => ⟨hp, fun _ => ⟨Nat.zero_le _, ⟨rfl, by simp⟩, fun k hk => ⟨fun h9 => ?_, fun h9 => ?_⟩⟩⟩⟩
  · have hk1 : k < xs.length := by omega
    have hw1 : IntKind.i64.wrap ((k : Int) + 1) = ((k + 1 : Nat) : Int) := by rw [wrap_small (by have := hp.1; omega)]; rfl
    have he := erase_take xs (k := k) (i := (fidxGo t xs 0).toNat) ((0 : Int), (0 : Int), (0 : Int), ([] : List Tk)) hk1
    refine ⟨fun h10 => ⟨⟨by omega, h9⟩, ?_, k + 1, by omega, by omega, hw1, he.1 (by omega)⟩, fun h10 => ⟨k + 1, by omega, by omega, hw1, he.2 (by omega)⟩⟩
    have h11 : ((xs.take k).eraseIdx (fidxGo t xs 0).toNat).length ≤ xs.length := Nat.le_trans (List.length_eraseIdx_le _ _) (by rw [List.length_take]; omega)
    have h12 := hp.1
    rw [List.length_singleton]
    omega
  · obtain ⟨t1, t2, t3⟩ := ring_turn h4 h6
    have hw2 : IntKind.i64.wrap (tn - 1) = tn - 1 := wrap_small (by omega)
    have hk1 : k = xs.length := by omega
    rw [hk1, List.take_length, erase_del _ (by omega), hw2, drop_yes h4 h5 h8, delAt_len _ (by omega) h7]
    unfold dropTurnF
    refine ⟨fun h9 => ⟨fun h10 => by omega, fun h10 => ?_⟩, fun h9 => ⟨fun h10 => ?_, fun h10 => ?_⟩⟩
    · rw [if_pos h9]
    · rw [if_neg h9, if_pos h10]
    · rw [if_neg h9, if_neg h10]
end Go.SF
