/- What is owed of the code of the functions that take tickets out of lines, and play lines. No condition. -/
import Derived.Test.YtoikbmdjancdcaaSxCLine3
import Derived.Test.YtoikbmdjancdcaaSxPLine2
import Derived.Test.YtoikbmdjancdcaaSxPServed
namespace Go.SF
open Go.SX Go
set_option linter.unusedVariables false
set_option linter.unusedSimpArgs false
set_option maxRecDepth 10000
theorem mark4_length (xs : List Op') (k : Int) : (mark4 xs k).length = xs.length := mkGo_length _ _ _ _
theorem end4_small (xs : List Op') {k : Int} (h0 : 0 ≤ k) (h1 : k + 4 * xs.length ≤ 4611686018427387904) : end4 xs k = k + 4 * xs.length :=
  mkEnd_small 4 (fun k a b => by unfold n4 w64; rw [wrap_small (n := k + 1) (by omega), wrap_small (n := k + 1 + 1) (by omega), wrap_small (n := k + 1 + 1 + 1) (by omega), wrap_small (by omega)]; omega) xs k h0 h1
theorem line_iff {xs : List Tk} : lineOkF xs = true ↔ xs.length ≤ 40 ∧ (∀ x ∈ xs, isTicketF x = true) ∧ xs.Pairwise (fun a b => a.1 < b.1) := by
  constructor
  · intro h
    have hid := line_ids h
    unfold lineOkF at h
    rw [Bool.and_eq_true, decide_eq_true_eq, decide_eq_true_eq] at h
    refine ⟨h.1, fun x hx => ?_, ?_⟩
    · obtain ⟨j, hj, rfl⟩ := List.getElem_of_mem hx
      have := (h.2 j hj).1
      rw [List.getD_eq_getElem?_getD, List.getElem?_eq_getElem hj] at this
      exact this
    · rw [List.pairwise_iff_getElem]
      intro i j hi hj hij
      have := hid.2 i j hij hj
      rw [List.getD_eq_getElem?_getD, List.getD_eq_getElem?_getD, List.getElem?_eq_getElem hi, List.getElem?_eq_getElem hj] at this
      exact this
  · rintro ⟨h1, h2, h3⟩
    unfold lineOkF
    rw [Bool.and_eq_true, decide_eq_true_eq, decide_eq_true_eq]
    refine ⟨h1, fun j hj => ⟨?_, fun h0 => ?_⟩⟩
    · rw [List.getD_eq_getElem?_getD, List.getElem?_eq_getElem hj]
      exact h2 _ (List.getElem_mem hj)
    · rw [List.getD_eq_getElem?_getD, List.getD_eq_getElem?_getD, List.getElem?_eq_getElem hj, List.getElem?_eq_getElem (show j - 1 < xs.length by omega)]
      exact List.pairwise_iff_getElem.1 h3 _ _ _ _ (by omega)
theorem line_sub {xs ys : List Tk} (h : lineOkF xs = true) (s : ys.Sublist xs) : lineOkF ys = true := by
  rw [line_iff] at h ⊢
  exact ⟨Nat.le_trans s.length_le h.1, fun x hx => h.2.1 x (s.subset hx), h.2.2.sublist s⟩
theorem idx_cases (id : Int) : ∀ (xs : List Tk) (k : Nat), (idxGo id xs k = -1 ∧ ∀ x ∈ xs, x.1 ≠ id) ∨ ∃ as x bs, xs = as ++ x :: bs ∧ idxGo id xs k = ((k + as.length : Nat) : Int) ∧ x.1 = id ∧ ∀ a ∈ as, a.1 ≠ id
  | [], k => .inl ⟨rfl, by simp⟩
  | x :: xs, k => by
    by_cases h : x.1 = id
    · exact .inr ⟨[], x, xs, rfl, by simp [idxGo, h], h, by simp⟩
    · rcases idx_cases id xs (k + 1) with ⟨h1, h2⟩ | ⟨as, y, bs, h1, h2, h3, h4⟩
      · left
        refine ⟨by simp only [idxGo]; rw [if_neg h]; exact h1, fun y hy => ?_⟩
        rcases List.mem_cons.1 hy with rfl | hy
        · exact h
        · exact h2 y hy
      · right
        refine ⟨x :: as, y, bs, by rw [h1]; rfl, ?_, h3, fun a ha => ?_⟩
        · simp only [idxGo]
          rw [if_neg h, h2, List.length_cons]
          congr 1; omega
        · rcases List.mem_cons.1 ha with rfl | ha
          · exact h
          · exact h4 a ha
theorem gone_none (id : Int) : ∀ (ys : List Tk) (g : Tk), (∀ y ∈ ys, y.1 ≠ id) → goneGo id ys g = g
  | [], g, _ => rfl
  | y :: ys, g, h => by unfold goneGo; rw [if_neg (h y (List.mem_cons_self ..))]; exact gone_none id ys g (fun z hz => h z (List.mem_cons_of_mem _ hz))
theorem rest_none (id : Int) (ys : List Tk) (h : ∀ y ∈ ys, y.1 ≠ id) : restF id ys = ys := by
  unfold restF
  exact List.filter_eq_self.2 (fun y hy => by simp [h y hy])
theorem rest_app (id : Int) (xs ys : List Tk) : restF id (xs ++ ys) = restF id xs ++ restF id ys := List.filter_append ..
/-- In a line that is well, the number tells the ticket. -/
theorem line_cut {xs : List Tk} (h : lineOkF xs = true) (id : Int) : (idxGo id xs 0 = -1 ∧ restF id xs = xs ∧ goneGo id xs (0, 0) = (0, 0)) ∨
    (∃ j : Nat, j < xs.length ∧ idxGo id xs 0 = (j : Int) ∧ delAt xs (j : Int) = restF id xs ∧ goneGo id xs (0, 0) = xs.getD j (0, 0) ∧ (xs.getD j (0, 0)).1 = id ∧ 1 ≤ id) := by
  rcases idx_cases id xs 0 with ⟨h1, h2⟩ | ⟨as, x, bs, h1, h2, h3, h4⟩
  · exact .inl ⟨h1, rest_none id xs h2, gone_none id xs _ h2⟩
  · right
    have hp := (line_iff.1 h).2.2
    have ht := (line_iff.1 h).2.1 x (by rw [h1]; simp)
    have hb : ∀ b ∈ bs, b.1 ≠ id := by
      intro b hb e
      rw [h1, List.pairwise_append] at hp
      have := (List.pairwise_cons.1 hp.2.1).1 b hb
      omega
    have hx : restF id (x :: bs) = bs := by
      unfold restF
      rw [List.filter_cons_of_neg (by simp [h3])]
      exact rest_none id bs hb
    have hg : xs.getD as.length (0, 0) = x := by rw [h1]; simp
    refine ⟨as.length, by rw [h1]; simp, by rw [h2]; simp, ?_, ?_, by rw [hg]; exact h3, ?_⟩
    · rw [h1, rest_app, rest_none id as h4, hx]
      unfold delAt
      rw [show (((as.length : Nat) : Int) + 1).toNat = as.length + 1 by omega, Int.toNat_natCast]
      simp
    · rw [hg, h1, goneGo_append, gone_none id as _ h4]
      unfold goneGo
      rw [if_pos h3]
      exact gone_none id bs _ hb
    · unfold isTicketF at ht
      simp only [Bool.and_eq_true, decide_eq_true_eq] at ht
      omega
theorem icancel_eq (xs : List Tk) (id : Int) : icancelF xs id = cancelSF xs id := by
  unfold icancelF cancelSF
  by_cases h : lineOkF xs = true
  · rw [if_pos h]
    rcases line_cut h id with ⟨h1, h2, h3⟩ | ⟨j, h1, h2, h3, h4, h5, h6⟩
    · rw [if_neg (by omega), h2, h3]; rfl
    · rw [if_pos ⟨h, by omega⟩, h2, h3, h4, h5, Int.toNat_natCast, decide_eq_false (by omega)]; rfl
  · rw [if_neg h, if_neg (fun hh => h hh.1)]
theorem step_ok {xs : List Tk} (h : lineOkF xs = true) (op : Op') : lineOkF (stepF xs op).1 = true := by
  unfold stepF
  split
  · show lineOkF (pushF xs op.2.1).1 = true
    unfold pushF
    split
    case isTrue h1 => exact h1.2
    case isFalse => exact h
  · split
    · show lineOkF (popF xs).1 = true
      unfold popF
      split
      case isTrue => exact line_sub h (List.drop_sublist ..)
      case isFalse => exact h
    · split
      · show lineOkF (cancelSF xs op.2.2).1 = true
        unfold cancelSF
        rw [if_pos h]
        exact line_sub h List.filter_sublist
      · exact h
theorem play_step {ops : List Op'} {k : Nat} (h : k < ops.length) (xs : List Tk) (told : List Int) : playGo (ops.drop k) xs told = playGo (ops.drop (k + 1)) (stepF xs (ops.getD k (0, (0, 0), 0))).1 (told ++ [(stepF xs (ops.getD k (0, (0, 0), 0))).2]) := by
  rw [getD_drop_cons h]; rfl
theorem line_len {xs : List Tk} (h : lineOkF xs = true) : xs.length ≤ 40 := (line_iff.1 h).1
theorem v_I_withoutTicket :
  ∀ (d : List (Int × Int) × Int), Ty.wf lineT (Prod.fst d) ∧ Ty.wf i64T (Prod.snd d) → (0 : Tup [i64T]) ≤ Prod.snd d ∧ Prod.snd d < (↑(List.length (Prod.fst d)) : Int) ∧ List.length (Prod.fst d) ≤ (1048576 : Nat) →
  List.length (Prod.fst d) ≤ (1048576 : Nat) ∧ (Ty.wf lineT (Prod.fst d) → ((0 : Int) ≤ Prod.snd d ∧ Prod.snd d ≤ IntKind.wrap IntKind.i64 (Prod.snd d + (1 : Int)) ∧ IntKind.wrap IntKind.i64 (Prod.snd d + (1 : Int)) ≤
  (↑(List.length (Prod.fst d)) : Int)) ∧ List.take (Int.toNat (Prod.snd d)) (Prod.fst d) ++ List.drop (Int.toNat (IntKind.wrap IntKind.i64 (Prod.snd d + (1 : Int)))) (Prod.fst d) = delAt (Prod.fst d) (Prod.snd d)) := by
  intro (d : List Tk × Int) hw hp
  obtain ⟨xs, i⟩ := d
  obtain ⟨p1, p2, p3⟩ := hp
  replace p1 : (0 : Int) ≤ i := p1
  replace p2 : i < (xs.length : Int) := p2
  replace p3 : xs.length ≤ 1048576 := p3
  simp only [Int.toNat_natCast, exists_const, and_true, true_and, implies_true, decide_eq_true_eq, decide_eq_false_iff_not, Bool.not_eq_true', Bool.not_eq_false', beq_iff_eq, forall_const]
  rw [wrap_small (n := i + 1) (by omega)]
  exact ⟨p3, fun _ => ⟨⟨by omega, by omega, by omega⟩, rfl⟩⟩
theorem v_I_Cancel :
  ∀ (d : List (Int × Int) × Int), Ty.wf lineT (Prod.fst d) ∧ Ty.wf i64T (Prod.snd d) → List.length (Prod.fst d) ≤ (1048576 : Nat) → True ∧ (Ty.wf i64T (idxGo (Prod.snd d) (Prod.fst d) (0 : Nat)) → True ∧ ((!lineOkF
  (Prod.fst d)) = true → List.length (Prod.fst d) ≤ (1048576 : Nat) ∧ (Ty.wf lineT (Prod.fst d) → (Prod.fst d, ((0 : Int), (0 : Int)), false) = icancelF (Prod.fst d) (Prod.snd d))) ∧ ((!lineOkF (Prod.fst d)) = false →
  (decide (idxGo (Prod.snd d) (Prod.fst d) (0 : Nat) < (0 : Int)) = true → List.length (Prod.fst d) ≤ (1048576 : Nat) ∧ (Ty.wf lineT (Prod.fst d) → (Prod.fst d, ((0 : Int), (0 : Int)), false) = icancelF (Prod.fst d)
  (Prod.snd d))) ∧ (decide (idxGo (Prod.snd d) (Prod.fst d) (0 : Nat) < (0 : Int)) = false → ((((0 : Tup [i64T]) ≤ idxGo (Prod.snd d) (Prod.fst d) (0 : Nat) ∧ idxGo (Prod.snd d) (Prod.fst d) (0 : Nat) < (↑(List.length
  (Prod.fst d)) : Int) ∧ List.length (Prod.fst d) ≤ (1048576 : Nat)) ∧ (Ty.wf lineT (delAt (Prod.fst d) (idxGo (Prod.snd d) (Prod.fst d) (0 : Nat))) → ((((0 : Int) ≤ idxGo (Prod.snd d) (Prod.fst d) (0 : Nat) ∧ idxGo
  (Prod.snd d) (Prod.fst d) (0 : Nat) < (↑(List.length (Prod.fst d)) : Int)) ∧ (delAt (Prod.fst d) (idxGo (Prod.snd d) (Prod.fst d) (0 : Nat)), (Prod.fst (List.getD (Prod.fst d) (Int.toNat (idxGo (Prod.snd d) (Prod.fst
  d) (0 : Nat))) ((0 : Int), (0 : Int))), Prod.snd (List.getD (Prod.fst d) (Int.toNat (idxGo (Prod.snd d) (Prod.fst d) (0 : Nat))) ((0 : Int), (0 : Int)))), true) = icancelF (Prod.fst d) (Prod.snd d) ∧ (delAt (Prod.fst
  d) (idxGo (Prod.snd d) (Prod.fst d) (0 : Nat)), (Prod.fst (List.getD (Prod.fst d) (Int.toNat (idxGo (Prod.snd d) (Prod.fst d) (0 : Nat))) ((0 : Int), (0 : Int))), Prod.snd (List.getD (Prod.fst d) (Int.toNat (idxGo
  (Prod.snd d) (Prod.fst d) (0 : Nat))) ((0 : Int), (0 : Int)))), true) = icancelF (Prod.fst d) (Prod.snd d)) ∧ ((0 : Int) ≤ idxGo (Prod.snd d) (Prod.fst d) (0 : Nat) ∧ idxGo (Prod.snd d) (Prod.fst d) (0 : Nat) <
  (↑(List.length (Prod.fst d)) : Int)) ∧ (delAt (Prod.fst d) (idxGo (Prod.snd d) (Prod.fst d) (0 : Nat)), (Prod.fst (List.getD (Prod.fst d) (Int.toNat (idxGo (Prod.snd d) (Prod.fst d) (0 : Nat))) ((0 : Int), (0 : Int))),
  Prod.snd (List.getD (Prod.fst d) (Int.toNat (idxGo (Prod.snd d) (Prod.fst d) (0 : Nat))) ((0 : Int), (0 : Int)))), true) = icancelF (Prod.fst d) (Prod.snd d)) ∧ ((0 : Int) ≤ idxGo (Prod.snd d) (Prod.fst d) (0 : Nat) ∧
  idxGo (Prod.snd d) (Prod.fst d) (0 : Nat) < (↑(List.length (Prod.fst d)) : Int)) ∧ (delAt (Prod.fst d) (idxGo (Prod.snd d) (Prod.fst d) (0 : Nat)), (Prod.fst (List.getD (Prod.fst d) (Int.toNat (idxGo (Prod.snd d)
  (Prod.fst d) (0 : Nat))) ((0 : Int), (0 : Int))), Prod.snd (List.getD (Prod.fst d) (Int.toNat (idxGo (Prod.snd d) (Prod.fst d) (0 : Nat))) ((0 : Int), (0 : Int)))), true) = icancelF (Prod.fst d) (Prod.snd d))) ∧ (((0 :
  Tup [i64T]) ≤ idxGo (Prod.snd d) (Prod.fst d) (0 : Nat) ∧ idxGo (Prod.snd d) (Prod.fst d) (0 : Nat) < (↑(List.length (Prod.fst d)) : Int) ∧ List.length (Prod.fst d) ≤ (1048576 : Nat)) ∧ (Ty.wf lineT (delAt (Prod.fst d)
  (idxGo (Prod.snd d) (Prod.fst d) (0 : Nat))) → (((0 : Int) ≤ idxGo (Prod.snd d) (Prod.fst d) (0 : Nat) ∧ idxGo (Prod.snd d) (Prod.fst d) (0 : Nat) < (↑(List.length (Prod.fst d)) : Int)) ∧ (delAt (Prod.fst d) (idxGo
  (Prod.snd d) (Prod.fst d) (0 : Nat)), (Prod.fst (List.getD (Prod.fst d) (Int.toNat (idxGo (Prod.snd d) (Prod.fst d) (0 : Nat))) ((0 : Int), (0 : Int))), Prod.snd (List.getD (Prod.fst d) (Int.toNat (idxGo (Prod.snd d)
  (Prod.fst d) (0 : Nat))) ((0 : Int), (0 : Int)))), true) = icancelF (Prod.fst d) (Prod.snd d) ∧ (delAt (Prod.fst d) (idxGo (Prod.snd d) (Prod.fst d) (0 : Nat)), (Prod.fst (List.getD (Prod.fst d) (Int.toNat (idxGo
  (Prod.snd d) (Prod.fst d) (0 : Nat))) ((0 : Int), (0 : Int))), Prod.snd (List.getD (Prod.fst d) (Int.toNat (idxGo (Prod.snd d) (Prod.fst d) (0 : Nat))) ((0 : Int), (0 : Int)))), true) = icancelF (Prod.fst d) (Prod.snd
  d)) ∧ ((0 : Int) ≤ idxGo (Prod.snd d) (Prod.fst d) (0 : Nat) ∧ idxGo (Prod.snd d) (Prod.fst d) (0 : Nat) < (↑(List.length (Prod.fst d)) : Int)) ∧ (delAt (Prod.fst d) (idxGo (Prod.snd d) (Prod.fst d) (0 : Nat)),
  (Prod.fst (List.getD (Prod.fst d) (Int.toNat (idxGo (Prod.snd d) (Prod.fst d) (0 : Nat))) ((0 : Int), (0 : Int))), Prod.snd (List.getD (Prod.fst d) (Int.toNat (idxGo (Prod.snd d) (Prod.fst d) (0 : Nat))) ((0 : Int), (0
  : Int)))), true) = icancelF (Prod.fst d) (Prod.snd d))) ∧ ((0 : Int) ≤ idxGo (Prod.snd d) (Prod.fst d) (0 : Nat) ∧ idxGo (Prod.snd d) (Prod.fst d) (0 : Nat) < (↑(List.length (Prod.fst d)) : Int)) ∧ (((0 : Tup [i64T]) ≤
  idxGo (Prod.snd d) (Prod.fst d) (0 : Nat) ∧ idxGo (Prod.snd d) (Prod.fst d) (0 : Nat) < (↑(List.length (Prod.fst d)) : Int) ∧ List.length (Prod.fst d) ≤ (1048576 : Nat)) ∧ (Ty.wf lineT (delAt (Prod.fst d) (idxGo
  (Prod.snd d) (Prod.fst d) (0 : Nat))) → (delAt (Prod.fst d) (idxGo (Prod.snd d) (Prod.fst d) (0 : Nat)), (Prod.fst (List.getD (Prod.fst d) (Int.toNat (idxGo (Prod.snd d) (Prod.fst d) (0 : Nat))) ((0 : Int), (0 :
  Int))), Prod.snd (List.getD (Prod.fst d) (Int.toNat (idxGo (Prod.snd d) (Prod.fst d) (0 : Nat))) ((0 : Int), (0 : Int)))), true) = icancelF (Prod.fst d) (Prod.snd d) ∧ (delAt (Prod.fst d) (idxGo (Prod.snd d) (Prod.fst
  d) (0 : Nat)), (Prod.fst (List.getD (Prod.fst d) (Int.toNat (idxGo (Prod.snd d) (Prod.fst d) (0 : Nat))) ((0 : Int), (0 : Int))), Prod.snd (List.getD (Prod.fst d) (Int.toNat (idxGo (Prod.snd d) (Prod.fst d) (0 : Nat)))
  ((0 : Int), (0 : Int)))), true) = icancelF (Prod.fst d) (Prod.snd d))) ∧ ((0 : Tup [i64T]) ≤ idxGo (Prod.snd d) (Prod.fst d) (0 : Nat) ∧ idxGo (Prod.snd d) (Prod.fst d) (0 : Nat) < (↑(List.length (Prod.fst d)) : Int) ∧
  List.length (Prod.fst d) ≤ (1048576 : Nat)) ∧ (Ty.wf lineT (delAt (Prod.fst d) (idxGo (Prod.snd d) (Prod.fst d) (0 : Nat))) → (delAt (Prod.fst d) (idxGo (Prod.snd d) (Prod.fst d) (0 : Nat)), (Prod.fst (List.getD
  (Prod.fst d) (Int.toNat (idxGo (Prod.snd d) (Prod.fst d) (0 : Nat))) ((0 : Int), (0 : Int))), Prod.snd (List.getD (Prod.fst d) (Int.toNat (idxGo (Prod.snd d) (Prod.fst d) (0 : Nat))) ((0 : Int), (0 : Int)))), true) =
  icancelF (Prod.fst d) (Prod.snd d))) ∧ ((((0 : Tup [i64T]) ≤ idxGo (Prod.snd d) (Prod.fst d) (0 : Nat) ∧ idxGo (Prod.snd d) (Prod.fst d) (0 : Nat) < (↑(List.length (Prod.fst d)) : Int) ∧ List.length (Prod.fst d) ≤
  (1048576 : Nat)) ∧ (Ty.wf lineT (delAt (Prod.fst d) (idxGo (Prod.snd d) (Prod.fst d) (0 : Nat))) → (((0 : Int) ≤ idxGo (Prod.snd d) (Prod.fst d) (0 : Nat) ∧ idxGo (Prod.snd d) (Prod.fst d) (0 : Nat) < (↑(List.length
  (Prod.fst d)) : Int)) ∧ (delAt (Prod.fst d) (idxGo (Prod.snd d) (Prod.fst d) (0 : Nat)), (Prod.fst (List.getD (Prod.fst d) (Int.toNat (idxGo (Prod.snd d) (Prod.fst d) (0 : Nat))) ((0 : Int), (0 : Int))), Prod.snd
  (List.getD (Prod.fst d) (Int.toNat (idxGo (Prod.snd d) (Prod.fst d) (0 : Nat))) ((0 : Int), (0 : Int)))), true) = icancelF (Prod.fst d) (Prod.snd d) ∧ (delAt (Prod.fst d) (idxGo (Prod.snd d) (Prod.fst d) (0 : Nat)),
  (Prod.fst (List.getD (Prod.fst d) (Int.toNat (idxGo (Prod.snd d) (Prod.fst d) (0 : Nat))) ((0 : Int), (0 : Int))), Prod.snd (List.getD (Prod.fst d) (Int.toNat (idxGo (Prod.snd d) (Prod.fst d) (0 : Nat))) ((0 : Int), (0
  : Int)))), true) = icancelF (Prod.fst d) (Prod.snd d)) ∧ ((0 : Int) ≤ idxGo (Prod.snd d) (Prod.fst d) (0 : Nat) ∧ idxGo (Prod.snd d) (Prod.fst d) (0 : Nat) < (↑(List.length (Prod.fst d)) : Int)) ∧ (delAt (Prod.fst d)
  (idxGo (Prod.snd d) (Prod.fst d) (0 : Nat)), (Prod.fst (List.getD (Prod.fst d) (Int.toNat (idxGo (Prod.snd d) (Prod.fst d) (0 : Nat))) ((0 : Int), (0 : Int))), Prod.snd (List.getD (Prod.fst d) (Int.toNat (idxGo
  (Prod.snd d) (Prod.fst d) (0 : Nat))) ((0 : Int), (0 : Int)))), true) = icancelF (Prod.fst d) (Prod.snd d))) ∧ ((0 : Int) ≤ idxGo (Prod.snd d) (Prod.fst d) (0 : Nat) ∧ idxGo (Prod.snd d) (Prod.fst d) (0 : Nat) <
  (↑(List.length (Prod.fst d)) : Int)) ∧ (((0 : Tup [i64T]) ≤ idxGo (Prod.snd d) (Prod.fst d) (0 : Nat) ∧ idxGo (Prod.snd d) (Prod.fst d) (0 : Nat) < (↑(List.length (Prod.fst d)) : Int) ∧ List.length (Prod.fst d) ≤
  (1048576 : Nat)) ∧ (Ty.wf lineT (delAt (Prod.fst d) (idxGo (Prod.snd d) (Prod.fst d) (0 : Nat))) → (delAt (Prod.fst d) (idxGo (Prod.snd d) (Prod.fst d) (0 : Nat)), (Prod.fst (List.getD (Prod.fst d) (Int.toNat (idxGo
  (Prod.snd d) (Prod.fst d) (0 : Nat))) ((0 : Int), (0 : Int))), Prod.snd (List.getD (Prod.fst d) (Int.toNat (idxGo (Prod.snd d) (Prod.fst d) (0 : Nat))) ((0 : Int), (0 : Int)))), true) = icancelF (Prod.fst d) (Prod.snd
  d) ∧ (delAt (Prod.fst d) (idxGo (Prod.snd d) (Prod.fst d) (0 : Nat)), (Prod.fst (List.getD (Prod.fst d) (Int.toNat (idxGo (Prod.snd d) (Prod.fst d) (0 : Nat))) ((0 : Int), (0 : Int))), Prod.snd (List.getD (Prod.fst d)
  (Int.toNat (idxGo (Prod.snd d) (Prod.fst d) (0 : Nat))) ((0 : Int), (0 : Int)))), true) = icancelF (Prod.fst d) (Prod.snd d))) ∧ ((0 : Tup [i64T]) ≤ idxGo (Prod.snd d) (Prod.fst d) (0 : Nat) ∧ idxGo (Prod.snd d)
  (Prod.fst d) (0 : Nat) < (↑(List.length (Prod.fst d)) : Int) ∧ List.length (Prod.fst d) ≤ (1048576 : Nat)) ∧ (Ty.wf lineT (delAt (Prod.fst d) (idxGo (Prod.snd d) (Prod.fst d) (0 : Nat))) → (delAt (Prod.fst d) (idxGo
  (Prod.snd d) (Prod.fst d) (0 : Nat)), (Prod.fst (List.getD (Prod.fst d) (Int.toNat (idxGo (Prod.snd d) (Prod.fst d) (0 : Nat))) ((0 : Int), (0 : Int))), Prod.snd (List.getD (Prod.fst d) (Int.toNat (idxGo (Prod.snd d)
  (Prod.fst d) (0 : Nat))) ((0 : Int), (0 : Int)))), true) = icancelF (Prod.fst d) (Prod.snd d))) ∧ ((0 : Int) ≤ idxGo (Prod.snd d) (Prod.fst d) (0 : Nat) ∧ idxGo (Prod.snd d) (Prod.fst d) (0 : Nat) < (↑(List.length
  (Prod.fst d)) : Int)) ∧ ((((0 : Tup [i64T]) ≤ idxGo (Prod.snd d) (Prod.fst d) (0 : Nat) ∧ idxGo (Prod.snd d) (Prod.fst d) (0 : Nat) < (↑(List.length (Prod.fst d)) : Int) ∧ List.length (Prod.fst d) ≤ (1048576 : Nat)) ∧
  (Ty.wf lineT (delAt (Prod.fst d) (idxGo (Prod.snd d) (Prod.fst d) (0 : Nat))) → (delAt (Prod.fst d) (idxGo (Prod.snd d) (Prod.fst d) (0 : Nat)), (Prod.fst (List.getD (Prod.fst d) (Int.toNat (idxGo (Prod.snd d)
  (Prod.fst d) (0 : Nat))) ((0 : Int), (0 : Int))), Prod.snd (List.getD (Prod.fst d) (Int.toNat (idxGo (Prod.snd d) (Prod.fst d) (0 : Nat))) ((0 : Int), (0 : Int)))), true) = icancelF (Prod.fst d) (Prod.snd d) ∧ (delAt
  (Prod.fst d) (idxGo (Prod.snd d) (Prod.fst d) (0 : Nat)), (Prod.fst (List.getD (Prod.fst d) (Int.toNat (idxGo (Prod.snd d) (Prod.fst d) (0 : Nat))) ((0 : Int), (0 : Int))), Prod.snd (List.getD (Prod.fst d) (Int.toNat
  (idxGo (Prod.snd d) (Prod.fst d) (0 : Nat))) ((0 : Int), (0 : Int)))), true) = icancelF (Prod.fst d) (Prod.snd d))) ∧ ((0 : Tup [i64T]) ≤ idxGo (Prod.snd d) (Prod.fst d) (0 : Nat) ∧ idxGo (Prod.snd d) (Prod.fst d) (0 :
  Nat) < (↑(List.length (Prod.fst d)) : Int) ∧ List.length (Prod.fst d) ≤ (1048576 : Nat)) ∧ (Ty.wf lineT (delAt (Prod.fst d) (idxGo (Prod.snd d) (Prod.fst d) (0 : Nat))) → (delAt (Prod.fst d) (idxGo (Prod.snd d)
  (Prod.fst d) (0 : Nat)), (Prod.fst (List.getD (Prod.fst d) (Int.toNat (idxGo (Prod.snd d) (Prod.fst d) (0 : Nat))) ((0 : Int), (0 : Int))), Prod.snd (List.getD (Prod.fst d) (Int.toNat (idxGo (Prod.snd d) (Prod.fst d)
  (0 : Nat))) ((0 : Int), (0 : Int)))), true) = icancelF (Prod.fst d) (Prod.snd d))) ∧ ((0 : Tup [i64T]) ≤ idxGo (Prod.snd d) (Prod.fst d) (0 : Nat) ∧ idxGo (Prod.snd d) (Prod.fst d) (0 : Nat) < (↑(List.length (Prod.fst
  d)) : Int) ∧ List.length (Prod.fst d) ≤ (1048576 : Nat)) ∧ (Ty.wf lineT (delAt (Prod.fst d) (idxGo (Prod.snd d) (Prod.fst d) (0 : Nat))) → (delAt (Prod.fst d) (idxGo (Prod.snd d) (Prod.fst d) (0 : Nat)), (Prod.fst
  (List.getD (Prod.fst d) (Int.toNat (idxGo (Prod.snd d) (Prod.fst d) (0 : Nat))) ((0 : Int), (0 : Int))), Prod.snd (List.getD (Prod.fst d) (Int.toNat (idxGo (Prod.snd d) (Prod.fst d) (0 : Nat))) ((0 : Int), (0 :
  Int)))), true) = icancelF (Prod.fst d) (Prod.snd d))))) := by
  intro (d : List Tk × Int) hw (hp : d.1.length ≤ 1048576)
  obtain ⟨xs, id⟩ := d
  simp only at hp
  simp only [Int.toNat_natCast, exists_const, and_true, true_and, implies_true, decide_eq_true_eq, decide_eq_false_iff_not, Bool.not_eq_true', Bool.not_eq_false', beq_iff_eq, forall_const]
  intro _
  refine ⟨fun h => ⟨hp, fun _ => ?_⟩, fun h => ⟨fun h1 => ⟨hp, fun _ => ?_⟩, fun h1 => ?_⟩⟩
  · unfold icancelF; rw [if_neg (fun hh => by rw [hh.1] at h; cases h)]
  · unfold icancelF; rw [if_neg (fun hh => by omega)]
  · have a1 : 0 ≤ idxGo id xs 0 := by omega
    have a2 : idxGo id xs 0 < (xs.length : Int) := by
      rcases line_cut h id with ⟨h2, _⟩ | ⟨j, h2, h3, _⟩ <;> omega
    have a3 : (delAt xs (idxGo id xs 0), ((xs.getD (idxGo id xs 0).toNat (0, 0)).fst, (xs.getD (idxGo id xs 0).toNat (0, 0)).snd), true) = icancelF xs id := by
      unfold icancelF; rw [if_pos ⟨h, a1⟩]
    simp only [a1, a2, a3, hp, true_and, and_true, implies_true, and_self]
theorem v_L_toLineOp :
  ∀ (d : Int × (Int × Int) × Int), Ty.wf opT d → True → True ∧ (Ty.wf tkT (Prod.fst (Prod.fst (Prod.snd d)), Prod.snd (Prod.fst (Prod.snd d))) → (Prod.fst d, (Prod.fst (Prod.fst (Prod.snd d)), Prod.snd (Prod.fst
  (Prod.snd d))), Prod.snd (Prod.snd d)) = d) := by
  intro d _ _; exact ⟨trivial, fun _ => rfl⟩
theorem v_L_szLineOpS :
  ∀ (d : List (Int × (Int × Int) × Int) × Int), Ty.wf (Ty.sl opT) (Prod.fst d) ∧ Ty.wf i64T (Prod.snd d) → True → (decide (IntKind.wrap IntKind.i64 (Prod.snd d - (↑(List.length (Prod.fst d)) : Int)) < (0 : Int)) = true →
  (-1 : Int) = szF (List.length (Prod.fst d)) (Prod.snd d)) ∧ (decide (IntKind.wrap IntKind.i64 (Prod.snd d - (↑(List.length (Prod.fst d)) : Int)) < (0 : Int)) = false → IntKind.wrap IntKind.i64 (Prod.snd d -
  (↑(List.length (Prod.fst d)) : Int)) = szF (List.length (Prod.fst d)) (Prod.snd d)) := by
  intro (d : List Op' × Int) hw hp
  obtain ⟨xs, l⟩ := d
  simp only [szF, w64]
  grind
theorem v_L_eqLineOp :
  ∀ (d : (Int × (Int × Int) × Int) × Int × (Int × Int) × Int), Ty.wf opT (Prod.fst d) ∧ Ty.wf opT (Prod.snd d) → True → ((!decide (Prod.fst (Prod.fst d) = Prod.fst (Prod.snd d))) = true → false = decide (Prod.fst d =
  Prod.snd d)) ∧ ((!decide (Prod.fst (Prod.fst d) = Prod.fst (Prod.snd d))) = false → True ∧ ((!decide ((Prod.fst (Prod.fst (Prod.snd (Prod.fst d))), Prod.snd (Prod.fst (Prod.snd (Prod.fst d)))) = (Prod.fst (Prod.fst
  (Prod.snd (Prod.snd d))), Prod.snd (Prod.fst (Prod.snd (Prod.snd d)))))) = true → false = decide (Prod.fst d = Prod.snd d)) ∧ ((!decide ((Prod.fst (Prod.fst (Prod.snd (Prod.fst d))), Prod.snd (Prod.fst (Prod.snd
  (Prod.fst d)))) = (Prod.fst (Prod.fst (Prod.snd (Prod.snd d))), Prod.snd (Prod.fst (Prod.snd (Prod.snd d)))))) = false → ((!decide (Prod.snd (Prod.snd (Prod.fst d)) = Prod.snd (Prod.snd (Prod.snd d)))) = true → false =
  decide (Prod.fst d = Prod.snd d)) ∧ ((!decide (Prod.snd (Prod.snd (Prod.fst d)) = Prod.snd (Prod.snd (Prod.snd d)))) = false → true = decide (Prod.fst d = Prod.snd d)))) := by
  intro d _ _
  obtain ⟨⟨a, ⟨b, c⟩, e⟩, ⟨a', ⟨b', c'⟩, e'⟩⟩ := d
  grind
theorem v_L_toLineOpS :
  ∀ (d : List (Int × (Int × Int) × Int)), Ty.wf (Ty.sl opT) d → List.length d ≤ (1048576 : Nat) → ((0 : Int) ≤ (↑(List.length d) : Int) ∧ (↑(List.length d) : Int) ≤ (↑(List.length d) : Int) ∧ (↑(List.length d) : Int) *
  (↑(32 : Nat) : Int) ≤ (140737488355328 : Int)) ∧ (0 : Nat) ≤ List.length d ∧ ((d = d ∧ Value.slice none (0 : Nat) (0 : Nat) = Value.slice none (0 : Nat) (0 : Nat) ∧ (0 : Int) = (↑(0 : Nat) : Int)) ∧ List.replicate
  (Int.toNat (↑(List.length d) : Int)) ((0 : Int), ((0 : Int), (0 : Int)), (0 : Int)) = List.take (0 : Nat) d ++ List.replicate (List.length d - (0 : Nat)) ((0 : Int), ((0 : Int), (0 : Int)), (0 : Int))) ∧ ∀ (x : Nat), x
  ≤ List.length d → (decide ((↑x : Int) < (↑(List.length d) : Int)) = true → ((0 : Int) ≤ (↑x : Int) ∧ (↑x : Int) < (↑(List.length d) : Int)) ∧ True ∧ (Ty.wf opT (Prod.fst (List.getD d (Int.toNat (↑x : Int)) ((0 : Int),
  ((0 : Int), (0 : Int)), (0 : Int))), (Prod.fst (Prod.fst (Prod.snd (List.getD d (Int.toNat (↑x : Int)) ((0 : Int), ((0 : Int), (0 : Int)), (0 : Int))))), Prod.snd (Prod.fst (Prod.snd (List.getD d (Int.toNat (↑x : Int))
  ((0 : Int), ((0 : Int), (0 : Int)), (0 : Int)))))), Prod.snd (Prod.snd (List.getD d (Int.toNat (↑x : Int)) ((0 : Int), ((0 : Int), (0 : Int)), (0 : Int))))) → ((0 : Int) ≤ (↑x : Int) ∧ (↑x : Int) < (↑(List.length
  (List.take x d ++ List.replicate (List.length d - x) ((0 : Int), ((0 : Int), (0 : Int)), (0 : Int)))) : Int)) ∧ ∃ (x' : Nat), x' ≤ List.length d ∧ List.length d - x' < List.length d - x ∧ (d = d ∧ Value.slice none (0 :
  Nat) (0 : Nat) = Value.slice none (0 : Nat) (0 : Nat) ∧ IntKind.wrap IntKind.i64 ((↑x : Int) + (1 : Int)) = (↑x' : Int)) ∧ List.set (List.take x d ++ List.replicate (List.length d - x) ((0 : Int), ((0 : Int), (0 :
  Int)), (0 : Int))) (Int.toNat (↑x : Int)) (Prod.fst (List.getD d (Int.toNat (↑x : Int)) ((0 : Int), ((0 : Int), (0 : Int)), (0 : Int))), (Prod.fst (Prod.fst (Prod.snd (List.getD d (Int.toNat (↑x : Int)) ((0 : Int), ((0
  : Int), (0 : Int)), (0 : Int))))), Prod.snd (Prod.fst (Prod.snd (List.getD d (Int.toNat (↑x : Int)) ((0 : Int), ((0 : Int), (0 : Int)), (0 : Int)))))), Prod.snd (Prod.snd (List.getD d (Int.toNat (↑x : Int)) ((0 : Int),
  ((0 : Int), (0 : Int)), (0 : Int))))) = List.take x' d ++ List.replicate (List.length d - x') ((0 : Int), ((0 : Int), (0 : Int)), (0 : Int)))) ∧ (decide ((↑x : Int) < (↑(List.length d) : Int)) = false → List.take x d
  ++ List.replicate (List.length d - x) ((0 : Int), ((0 : Int), (0 : Int)), (0 : Int)) = d) := by
  intro (d : List Op') hw (hp : d.length ≤ 1048576)
  simp only [Int.toNat_natCast, exists_const, and_true, true_and, implies_true, decide_eq_true_eq, decide_eq_false_iff_not, Bool.not_eq_true', Bool.not_eq_false', beq_iff_eq, forall_const]
  refine ⟨⟨by omega, by omega, by omega⟩, by omega, ⟨rfl, by simp⟩, fun x h1 => ⟨fun h3 => ⟨⟨by omega, by omega⟩, fun _ => ⟨⟨by omega, ?_⟩, x + 1, by omega, by omega, wrap_succ (by omega), copy_step d _ (by omega)⟩⟩, fun h3 => ?_⟩⟩
  · simp; omega
  · have h4 : x = d.length := by omega
    subst h4
    simp
theorem v_L_eqLineOpS :
  ∀ (d : List (Int × (Int × Int) × Int) × List (Int × (Int × Int) × Int)), Ty.wf (Ty.sl opT) (Prod.fst d) ∧ Ty.wf (Ty.sl opT) (Prod.snd d) → True → ((!decide ((↑(List.length (Prod.fst d)) : Int) = (↑(List.length
  (Prod.snd d)) : Int))) = true → false = decide (Prod.fst d = Prod.snd d)) ∧ ((!decide ((↑(List.length (Prod.fst d)) : Int) = (↑(List.length (Prod.snd d)) : Int))) = false → ((0 : Nat) ≤ List.length (Prod.fst d) ∧
  List.length (Prod.fst d) = List.length (Prod.snd d) ∧ List.take (0 : Nat) (Prod.fst d) = List.take (0 : Nat) (Prod.snd d)) ∧ (Prod.fst d = Prod.fst d ∧ Prod.snd d = Prod.snd d ∧ (0 : Int) = (↑(0 : Nat) : Int)) ∧ ∀ (x :
  Nat), x ≤ List.length (Prod.fst d) ∧ List.length (Prod.fst d) = List.length (Prod.snd d) ∧ List.take x (Prod.fst d) = List.take x (Prod.snd d) → (decide ((↑x : Int) < (↑(List.length (Prod.fst d)) : Int)) = true → ((0 :
  Int) ≤ (↑x : Int) ∧ (↑x : Int) < (↑(List.length (Prod.fst d)) : Int)) ∧ ((0 : Int) ≤ (↑x : Int) ∧ (↑x : Int) < (↑(List.length (Prod.snd d)) : Int)) ∧ True ∧ ((!decide ((Prod.fst (List.getD (Prod.fst d) (Int.toNat (↑x :
  Int)) ((0 : Int), ((0 : Int), (0 : Int)), (0 : Int))), (Prod.fst (Prod.fst (Prod.snd (List.getD (Prod.fst d) (Int.toNat (↑x : Int)) ((0 : Int), ((0 : Int), (0 : Int)), (0 : Int))))), Prod.snd (Prod.fst (Prod.snd
  (List.getD (Prod.fst d) (Int.toNat (↑x : Int)) ((0 : Int), ((0 : Int), (0 : Int)), (0 : Int)))))), Prod.snd (Prod.snd (List.getD (Prod.fst d) (Int.toNat (↑x : Int)) ((0 : Int), ((0 : Int), (0 : Int)), (0 : Int))))) =
  (Prod.fst (List.getD (Prod.snd d) (Int.toNat (↑x : Int)) ((0 : Int), ((0 : Int), (0 : Int)), (0 : Int))), (Prod.fst (Prod.fst (Prod.snd (List.getD (Prod.snd d) (Int.toNat (↑x : Int)) ((0 : Int), ((0 : Int), (0 : Int)),
  (0 : Int))))), Prod.snd (Prod.fst (Prod.snd (List.getD (Prod.snd d) (Int.toNat (↑x : Int)) ((0 : Int), ((0 : Int), (0 : Int)), (0 : Int)))))), Prod.snd (Prod.snd (List.getD (Prod.snd d) (Int.toNat (↑x : Int)) ((0 :
  Int), ((0 : Int), (0 : Int)), (0 : Int))))))) = true → false = decide (Prod.fst d = Prod.snd d)) ∧ ((!decide ((Prod.fst (List.getD (Prod.fst d) (Int.toNat (↑x : Int)) ((0 : Int), ((0 : Int), (0 : Int)), (0 : Int))),
  (Prod.fst (Prod.fst (Prod.snd (List.getD (Prod.fst d) (Int.toNat (↑x : Int)) ((0 : Int), ((0 : Int), (0 : Int)), (0 : Int))))), Prod.snd (Prod.fst (Prod.snd (List.getD (Prod.fst d) (Int.toNat (↑x : Int)) ((0 : Int),
  ((0 : Int), (0 : Int)), (0 : Int)))))), Prod.snd (Prod.snd (List.getD (Prod.fst d) (Int.toNat (↑x : Int)) ((0 : Int), ((0 : Int), (0 : Int)), (0 : Int))))) = (Prod.fst (List.getD (Prod.snd d) (Int.toNat (↑x : Int)) ((0
  : Int), ((0 : Int), (0 : Int)), (0 : Int))), (Prod.fst (Prod.fst (Prod.snd (List.getD (Prod.snd d) (Int.toNat (↑x : Int)) ((0 : Int), ((0 : Int), (0 : Int)), (0 : Int))))), Prod.snd (Prod.fst (Prod.snd (List.getD
  (Prod.snd d) (Int.toNat (↑x : Int)) ((0 : Int), ((0 : Int), (0 : Int)), (0 : Int)))))), Prod.snd (Prod.snd (List.getD (Prod.snd d) (Int.toNat (↑x : Int)) ((0 : Int), ((0 : Int), (0 : Int)), (0 : Int))))))) = false → ∃
  (x' : Nat), (x' ≤ List.length (Prod.fst d) ∧ List.length (Prod.fst d) = List.length (Prod.snd d) ∧ List.take x' (Prod.fst d) = List.take x' (Prod.snd d)) ∧ List.length (Prod.fst d) - x' < List.length (Prod.fst d) - x ∧
  Prod.fst d = Prod.fst d ∧ Prod.snd d = Prod.snd d ∧ IntKind.wrap IntKind.i64 ((↑x : Int) + (1 : Int)) = (↑x' : Int))) ∧ (decide ((↑x : Int) < (↑(List.length (Prod.fst d)) : Int)) = false → true = decide (Prod.fst d =
  Prod.snd d))) := by
  intro (d : List Op' × List Op') hw hp
  obtain ⟨xs, ys⟩ := d
  have hl : xs.length ≤ 9223372036854775807 := hw.1.1
  simp only [Int.toNat_natCast, exists_const, and_true, true_and, implies_true, decide_eq_true_eq, decide_eq_false_iff_not, Bool.not_eq_true', Bool.not_eq_false', beq_iff_eq, forall_const]
  refine ⟨fun h => ?_, fun h => ⟨⟨by omega, by omega, rfl⟩, rfl, fun x ⟨h1, h2, h0⟩ => ⟨fun h3 => ?_, fun h3 => ?_⟩⟩⟩
  · exact (decide_eq_false (fun e => h (by rw [e]))).symm
  · have h4 : x < xs.length := by omega
    obtain ⟨t1, t2⟩ := take_ext (z := ((0, (0, 0), 0) : Op')) h2 h4 h0
    rw [wrap_succ (by omega)]
    exact ⟨⟨by omega, by omega⟩, ⟨by omega, by omega⟩, fun h5 => (decide_eq_false (fun e => h5 (t2 e))).symm, fun h5 => ⟨x + 1, ⟨by omega, h2, t1.2 h5⟩, by omega, rfl⟩⟩
  · have h4 : x = xs.length := by omega
    subst h4
    have : xs = ys := by rw [List.take_length, h2, List.take_length] at h0; exact h0
    exact (decide_eq_true this).symm
theorem v_L_eqIntS :
  ∀ (d : List Int × List Int), Ty.wf (Ty.sl i64T) (Prod.fst d) ∧ Ty.wf (Ty.sl i64T) (Prod.snd d) → True → ((!decide ((↑(List.length (Prod.fst d)) : Int) = (↑(List.length (Prod.snd d)) : Int))) = true → false = decide
  (Prod.fst d = Prod.snd d)) ∧ ((!decide ((↑(List.length (Prod.fst d)) : Int) = (↑(List.length (Prod.snd d)) : Int))) = false → ((0 : Nat) ≤ List.length (Prod.fst d) ∧ List.length (Prod.fst d) = List.length (Prod.snd d)
  ∧ List.take (0 : Nat) (Prod.fst d) = List.take (0 : Nat) (Prod.snd d)) ∧ (Prod.fst d = Prod.fst d ∧ Prod.snd d = Prod.snd d ∧ (0 : Int) = (↑(0 : Nat) : Int)) ∧ ∀ (x : Nat), x ≤ List.length (Prod.fst d) ∧ List.length
  (Prod.fst d) = List.length (Prod.snd d) ∧ List.take x (Prod.fst d) = List.take x (Prod.snd d) → (decide ((↑x : Int) < (↑(List.length (Prod.fst d)) : Int)) = true → ((0 : Int) ≤ (↑x : Int) ∧ (↑x : Int) < (↑(List.length
  (Prod.fst d)) : Int)) ∧ ((0 : Int) ≤ (↑x : Int) ∧ (↑x : Int) < (↑(List.length (Prod.snd d)) : Int)) ∧ ((!decide (List.getD (Prod.fst d) (Int.toNat (↑x : Int)) (0 : Int) = List.getD (Prod.snd d) (Int.toNat (↑x : Int))
  (0 : Int))) = true → false = decide (Prod.fst d = Prod.snd d)) ∧ ((!decide (List.getD (Prod.fst d) (Int.toNat (↑x : Int)) (0 : Int) = List.getD (Prod.snd d) (Int.toNat (↑x : Int)) (0 : Int))) = false → ∃ (x' : Nat),
  (x' ≤ List.length (Prod.fst d) ∧ List.length (Prod.fst d) = List.length (Prod.snd d) ∧ List.take x' (Prod.fst d) = List.take x' (Prod.snd d)) ∧ List.length (Prod.fst d) - x' < List.length (Prod.fst d) - x ∧ Prod.fst d
  = Prod.fst d ∧ Prod.snd d = Prod.snd d ∧ IntKind.wrap IntKind.i64 ((↑x : Int) + (1 : Int)) = (↑x' : Int))) ∧ (decide ((↑x : Int) < (↑(List.length (Prod.fst d)) : Int)) = false → true = decide (Prod.fst d = Prod.snd
  d))) := by
  intro (d : List Int × List Int) hw hp
  obtain ⟨xs, ys⟩ := d
  have hl : xs.length ≤ 9223372036854775807 := hw.1.1
  simp only [Int.toNat_natCast, exists_const, and_true, true_and, implies_true, decide_eq_true_eq, decide_eq_false_iff_not, Bool.not_eq_true', Bool.not_eq_false', beq_iff_eq, forall_const]
  refine ⟨fun h => ?_, fun h => ⟨⟨by omega, by omega, rfl⟩, rfl, fun x ⟨h1, h2, h0⟩ => ⟨fun h3 => ?_, fun h3 => ?_⟩⟩⟩
  · exact (decide_eq_false (fun e => h (by rw [e]))).symm
  · have h4 : x < xs.length := by omega
    obtain ⟨t1, t2⟩ := take_ext (z := (0 : Int)) h2 h4 h0
    rw [wrap_succ (by omega)]
    exact ⟨⟨by omega, by omega⟩, ⟨by omega, by omega⟩, fun h5 => (decide_eq_false (fun e => h5 (t2 e))).symm, fun h5 => ⟨x + 1, ⟨by omega, h2, t1.2 h5⟩, by omega, rfl⟩⟩
  · have h4 : x = xs.length := by omega
    subst h4
    have : xs = ys := by rw [List.take_length, h2, List.take_length] at h0; exact h0
    exact (decide_eq_true this).symm
theorem v_L_markLineOpS :
  ∀ (d : List (Int × (Int × Int) × Int)) (k : Int), Ty.wf (Ty.sl opT) d → IntKind.min IntKind.i64 ≤ k ∧ k ≤ IntKind.max IntKind.i64 → True → List.length (mark4 d k) = List.length d ∧ ((0 : Nat) ≤ List.length d ∧ k = end4
  (List.take (0 : Nat) d) k) ∧ ((k = k ∧ (0 : Int) = (↑(0 : Nat) : Int)) ∧ d = mark4 (List.take (0 : Nat) d) k ++ List.drop (0 : Nat) d) ∧ ∀ (x : Nat × Int), Prod.fst x ≤ List.length d ∧ Prod.snd x = end4 (List.take
  (Prod.fst x) d) k → (decide ((↑(Prod.fst x) : Int) < (↑(List.length (mark4 (List.take (Prod.fst x) d) k ++ List.drop (Prod.fst x) d)) : Int)) = true → ((0 : Int) ≤ (↑(Prod.fst x) : Int) ∧ (↑(Prod.fst x) : Int) <
  (↑(List.length (mark4 (List.take (Prod.fst x) d) k ++ List.drop (Prod.fst x) d)) : Int)) ∧ ((0 : Int) ≤ (↑(Prod.fst x) : Int) ∧ (↑(Prod.fst x) : Int) < (↑(List.length (List.set (mark4 (List.take (Prod.fst x) d) k ++
  List.drop (Prod.fst x) d) (Int.toNat (↑(Prod.fst x) : Int)) (Prod.snd x, (Prod.fst (Prod.fst (Prod.snd (List.getD (mark4 (List.take (Prod.fst x) d) k ++ List.drop (Prod.fst x) d) (Int.toNat (↑(Prod.fst x) : Int)) ((0 :
  Int), ((0 : Int), (0 : Int)), (0 : Int))))), Prod.snd (Prod.fst (Prod.snd (List.getD (mark4 (List.take (Prod.fst x) d) k ++ List.drop (Prod.fst x) d) (Int.toNat (↑(Prod.fst x) : Int)) ((0 : Int), ((0 : Int), (0 :
  Int)), (0 : Int)))))), Prod.snd (Prod.snd (List.getD (mark4 (List.take (Prod.fst x) d) k ++ List.drop (Prod.fst x) d) (Int.toNat (↑(Prod.fst x) : Int)) ((0 : Int), ((0 : Int), (0 : Int)), (0 : Int))))))) : Int)) ∧ ((0
  : Int) ≤ (↑(Prod.fst x) : Int) ∧ (↑(Prod.fst x) : Int) < (↑(List.length (List.set (List.set (mark4 (List.take (Prod.fst x) d) k ++ List.drop (Prod.fst x) d) (Int.toNat (↑(Prod.fst x) : Int)) (Prod.snd x, (Prod.fst
  (Prod.fst (Prod.snd (List.getD (mark4 (List.take (Prod.fst x) d) k ++ List.drop (Prod.fst x) d) (Int.toNat (↑(Prod.fst x) : Int)) ((0 : Int), ((0 : Int), (0 : Int)), (0 : Int))))), Prod.snd (Prod.fst (Prod.snd
  (List.getD (mark4 (List.take (Prod.fst x) d) k ++ List.drop (Prod.fst x) d) (Int.toNat (↑(Prod.fst x) : Int)) ((0 : Int), ((0 : Int), (0 : Int)), (0 : Int)))))), Prod.snd (Prod.snd (List.getD (mark4 (List.take
  (Prod.fst x) d) k ++ List.drop (Prod.fst x) d) (Int.toNat (↑(Prod.fst x) : Int)) ((0 : Int), ((0 : Int), (0 : Int)), (0 : Int)))))) (Int.toNat (↑(Prod.fst x) : Int)) (Prod.fst (List.getD (List.set (mark4 (List.take
  (Prod.fst x) d) k ++ List.drop (Prod.fst x) d) (Int.toNat (↑(Prod.fst x) : Int)) (Prod.snd x, (Prod.fst (Prod.fst (Prod.snd (List.getD (mark4 (List.take (Prod.fst x) d) k ++ List.drop (Prod.fst x) d) (Int.toNat
  (↑(Prod.fst x) : Int)) ((0 : Int), ((0 : Int), (0 : Int)), (0 : Int))))), Prod.snd (Prod.fst (Prod.snd (List.getD (mark4 (List.take (Prod.fst x) d) k ++ List.drop (Prod.fst x) d) (Int.toNat (↑(Prod.fst x) : Int)) ((0 :
  Int), ((0 : Int), (0 : Int)), (0 : Int)))))), Prod.snd (Prod.snd (List.getD (mark4 (List.take (Prod.fst x) d) k ++ List.drop (Prod.fst x) d) (Int.toNat (↑(Prod.fst x) : Int)) ((0 : Int), ((0 : Int), (0 : Int)), (0 :
  Int)))))) (Int.toNat (↑(Prod.fst x) : Int)) ((0 : Int), ((0 : Int), (0 : Int)), (0 : Int))), (IntKind.wrap IntKind.i64 (Prod.snd x + (1 : Int)), Prod.snd (Prod.fst (Prod.snd (List.getD (List.set (mark4 (List.take
  (Prod.fst x) d) k ++ List.drop (Prod.fst x) d) (Int.toNat (↑(Prod.fst x) : Int)) (Prod.snd x, (Prod.fst (Prod.fst (Prod.snd (List.getD (mark4 (List.take (Prod.fst x) d) k ++ List.drop (Prod.fst x) d) (Int.toNat
  (↑(Prod.fst x) : Int)) ((0 : Int), ((0 : Int), (0 : Int)), (0 : Int))))), Prod.snd (Prod.fst (Prod.snd (List.getD (mark4 (List.take (Prod.fst x) d) k ++ List.drop (Prod.fst x) d) (Int.toNat (↑(Prod.fst x) : Int)) ((0 :
  Int), ((0 : Int), (0 : Int)), (0 : Int)))))), Prod.snd (Prod.snd (List.getD (mark4 (List.take (Prod.fst x) d) k ++ List.drop (Prod.fst x) d) (Int.toNat (↑(Prod.fst x) : Int)) ((0 : Int), ((0 : Int), (0 : Int)), (0 :
  Int)))))) (Int.toNat (↑(Prod.fst x) : Int)) ((0 : Int), ((0 : Int), (0 : Int)), (0 : Int)))))), Prod.snd (Prod.snd (List.getD (List.set (mark4 (List.take (Prod.fst x) d) k ++ List.drop (Prod.fst x) d) (Int.toNat
  (↑(Prod.fst x) : Int)) (Prod.snd x, (Prod.fst (Prod.fst (Prod.snd (List.getD (mark4 (List.take (Prod.fst x) d) k ++ List.drop (Prod.fst x) d) (Int.toNat (↑(Prod.fst x) : Int)) ((0 : Int), ((0 : Int), (0 : Int)), (0 :
  Int))))), Prod.snd (Prod.fst (Prod.snd (List.getD (mark4 (List.take (Prod.fst x) d) k ++ List.drop (Prod.fst x) d) (Int.toNat (↑(Prod.fst x) : Int)) ((0 : Int), ((0 : Int), (0 : Int)), (0 : Int)))))), Prod.snd
  (Prod.snd (List.getD (mark4 (List.take (Prod.fst x) d) k ++ List.drop (Prod.fst x) d) (Int.toNat (↑(Prod.fst x) : Int)) ((0 : Int), ((0 : Int), (0 : Int)), (0 : Int)))))) (Int.toNat (↑(Prod.fst x) : Int)) ((0 : Int),
  ((0 : Int), (0 : Int)), (0 : Int))))))) : Int)) ∧ ((0 : Int) ≤ (↑(Prod.fst x) : Int) ∧ (↑(Prod.fst x) : Int) < (↑(List.length (List.set (List.set (List.set (mark4 (List.take (Prod.fst x) d) k ++ List.drop (Prod.fst x)
  d) (Int.toNat (↑(Prod.fst x) : Int)) (Prod.snd x, (Prod.fst (Prod.fst (Prod.snd (List.getD (mark4 (List.take (Prod.fst x) d) k ++ List.drop (Prod.fst x) d) (Int.toNat (↑(Prod.fst x) : Int)) ((0 : Int), ((0 : Int), (0 :
  Int)), (0 : Int))))), Prod.snd (Prod.fst (Prod.snd (List.getD (mark4 (List.take (Prod.fst x) d) k ++ List.drop (Prod.fst x) d) (Int.toNat (↑(Prod.fst x) : Int)) ((0 : Int), ((0 : Int), (0 : Int)), (0 : Int)))))),
  Prod.snd (Prod.snd (List.getD (mark4 (List.take (Prod.fst x) d) k ++ List.drop (Prod.fst x) d) (Int.toNat (↑(Prod.fst x) : Int)) ((0 : Int), ((0 : Int), (0 : Int)), (0 : Int)))))) (Int.toNat (↑(Prod.fst x) : Int))
  (Prod.fst (List.getD (List.set (mark4 (List.take (Prod.fst x) d) k ++ List.drop (Prod.fst x) d) (Int.toNat (↑(Prod.fst x) : Int)) (Prod.snd x, (Prod.fst (Prod.fst (Prod.snd (List.getD (mark4 (List.take (Prod.fst x) d)
  k ++ List.drop (Prod.fst x) d) (Int.toNat (↑(Prod.fst x) : Int)) ((0 : Int), ((0 : Int), (0 : Int)), (0 : Int))))), Prod.snd (Prod.fst (Prod.snd (List.getD (mark4 (List.take (Prod.fst x) d) k ++ List.drop (Prod.fst x)
  d) (Int.toNat (↑(Prod.fst x) : Int)) ((0 : Int), ((0 : Int), (0 : Int)), (0 : Int)))))), Prod.snd (Prod.snd (List.getD (mark4 (List.take (Prod.fst x) d) k ++ List.drop (Prod.fst x) d) (Int.toNat (↑(Prod.fst x) : Int))
  ((0 : Int), ((0 : Int), (0 : Int)), (0 : Int)))))) (Int.toNat (↑(Prod.fst x) : Int)) ((0 : Int), ((0 : Int), (0 : Int)), (0 : Int))), (IntKind.wrap IntKind.i64 (Prod.snd x + (1 : Int)), Prod.snd (Prod.fst (Prod.snd
  (List.getD (List.set (mark4 (List.take (Prod.fst x) d) k ++ List.drop (Prod.fst x) d) (Int.toNat (↑(Prod.fst x) : Int)) (Prod.snd x, (Prod.fst (Prod.fst (Prod.snd (List.getD (mark4 (List.take (Prod.fst x) d) k ++
  List.drop (Prod.fst x) d) (Int.toNat (↑(Prod.fst x) : Int)) ((0 : Int), ((0 : Int), (0 : Int)), (0 : Int))))), Prod.snd (Prod.fst (Prod.snd (List.getD (mark4 (List.take (Prod.fst x) d) k ++ List.drop (Prod.fst x) d)
  (Int.toNat (↑(Prod.fst x) : Int)) ((0 : Int), ((0 : Int), (0 : Int)), (0 : Int)))))), Prod.snd (Prod.snd (List.getD (mark4 (List.take (Prod.fst x) d) k ++ List.drop (Prod.fst x) d) (Int.toNat (↑(Prod.fst x) : Int)) ((0
  : Int), ((0 : Int), (0 : Int)), (0 : Int)))))) (Int.toNat (↑(Prod.fst x) : Int)) ((0 : Int), ((0 : Int), (0 : Int)), (0 : Int)))))), Prod.snd (Prod.snd (List.getD (List.set (mark4 (List.take (Prod.fst x) d) k ++
  List.drop (Prod.fst x) d) (Int.toNat (↑(Prod.fst x) : Int)) (Prod.snd x, (Prod.fst (Prod.fst (Prod.snd (List.getD (mark4 (List.take (Prod.fst x) d) k ++ List.drop (Prod.fst x) d) (Int.toNat (↑(Prod.fst x) : Int)) ((0 :
  Int), ((0 : Int), (0 : Int)), (0 : Int))))), Prod.snd (Prod.fst (Prod.snd (List.getD (mark4 (List.take (Prod.fst x) d) k ++ List.drop (Prod.fst x) d) (Int.toNat (↑(Prod.fst x) : Int)) ((0 : Int), ((0 : Int), (0 :
  Int)), (0 : Int)))))), Prod.snd (Prod.snd (List.getD (mark4 (List.take (Prod.fst x) d) k ++ List.drop (Prod.fst x) d) (Int.toNat (↑(Prod.fst x) : Int)) ((0 : Int), ((0 : Int), (0 : Int)), (0 : Int)))))) (Int.toNat
  (↑(Prod.fst x) : Int)) ((0 : Int), ((0 : Int), (0 : Int)), (0 : Int)))))) (Int.toNat (↑(Prod.fst x) : Int)) (Prod.fst (List.getD (List.set (List.set (mark4 (List.take (Prod.fst x) d) k ++ List.drop (Prod.fst x) d)
  (Int.toNat (↑(Prod.fst x) : Int)) (Prod.snd x, (Prod.fst (Prod.fst (Prod.snd (List.getD (mark4 (List.take (Prod.fst x) d) k ++ List.drop (Prod.fst x) d) (Int.toNat (↑(Prod.fst x) : Int)) ((0 : Int), ((0 : Int), (0 :
  Int)), (0 : Int))))), Prod.snd (Prod.fst (Prod.snd (List.getD (mark4 (List.take (Prod.fst x) d) k ++ List.drop (Prod.fst x) d) (Int.toNat (↑(Prod.fst x) : Int)) ((0 : Int), ((0 : Int), (0 : Int)), (0 : Int)))))),
  Prod.snd (Prod.snd (List.getD (mark4 (List.take (Prod.fst x) d) k ++ List.drop (Prod.fst x) d) (Int.toNat (↑(Prod.fst x) : Int)) ((0 : Int), ((0 : Int), (0 : Int)), (0 : Int)))))) (Int.toNat (↑(Prod.fst x) : Int))
  (Prod.fst (List.getD (List.set (mark4 (List.take (Prod.fst x) d) k ++ List.drop (Prod.fst x) d) (Int.toNat (↑(Prod.fst x) : Int)) (Prod.snd x, (Prod.fst (Prod.fst (Prod.snd (List.getD (mark4 (List.take (Prod.fst x) d)
  k ++ List.drop (Prod.fst x) d) (Int.toNat (↑(Prod.fst x) : Int)) ((0 : Int), ((0 : Int), (0 : Int)), (0 : Int))))), Prod.snd (Prod.fst (Prod.snd (List.getD (mark4 (List.take (Prod.fst x) d) k ++ List.drop (Prod.fst x)
  d) (Int.toNat (↑(Prod.fst x) : Int)) ((0 : Int), ((0 : Int), (0 : Int)), (0 : Int)))))), Prod.snd (Prod.snd (List.getD (mark4 (List.take (Prod.fst x) d) k ++ List.drop (Prod.fst x) d) (Int.toNat (↑(Prod.fst x) : Int))
  ((0 : Int), ((0 : Int), (0 : Int)), (0 : Int)))))) (Int.toNat (↑(Prod.fst x) : Int)) ((0 : Int), ((0 : Int), (0 : Int)), (0 : Int))), (IntKind.wrap IntKind.i64 (Prod.snd x + (1 : Int)), Prod.snd (Prod.fst (Prod.snd
  (List.getD (List.set (mark4 (List.take (Prod.fst x) d) k ++ List.drop (Prod.fst x) d) (Int.toNat (↑(Prod.fst x) : Int)) (Prod.snd x, (Prod.fst (Prod.fst (Prod.snd (List.getD (mark4 (List.take (Prod.fst x) d) k ++
  List.drop (Prod.fst x) d) (Int.toNat (↑(Prod.fst x) : Int)) ((0 : Int), ((0 : Int), (0 : Int)), (0 : Int))))), Prod.snd (Prod.fst (Prod.snd (List.getD (mark4 (List.take (Prod.fst x) d) k ++ List.drop (Prod.fst x) d)
  (Int.toNat (↑(Prod.fst x) : Int)) ((0 : Int), ((0 : Int), (0 : Int)), (0 : Int)))))), Prod.snd (Prod.snd (List.getD (mark4 (List.take (Prod.fst x) d) k ++ List.drop (Prod.fst x) d) (Int.toNat (↑(Prod.fst x) : Int)) ((0
  : Int), ((0 : Int), (0 : Int)), (0 : Int)))))) (Int.toNat (↑(Prod.fst x) : Int)) ((0 : Int), ((0 : Int), (0 : Int)), (0 : Int)))))), Prod.snd (Prod.snd (List.getD (List.set (mark4 (List.take (Prod.fst x) d) k ++
  List.drop (Prod.fst x) d) (Int.toNat (↑(Prod.fst x) : Int)) (Prod.snd x, (Prod.fst (Prod.fst (Prod.snd (List.getD (mark4 (List.take (Prod.fst x) d) k ++ List.drop (Prod.fst x) d) (Int.toNat (↑(Prod.fst x) : Int)) ((0 :
  Int), ((0 : Int), (0 : Int)), (0 : Int))))), Prod.snd (Prod.fst (Prod.snd (List.getD (mark4 (List.take (Prod.fst x) d) k ++ List.drop (Prod.fst x) d) (Int.toNat (↑(Prod.fst x) : Int)) ((0 : Int), ((0 : Int), (0 :
  Int)), (0 : Int)))))), Prod.snd (Prod.snd (List.getD (mark4 (List.take (Prod.fst x) d) k ++ List.drop (Prod.fst x) d) (Int.toNat (↑(Prod.fst x) : Int)) ((0 : Int), ((0 : Int), (0 : Int)), (0 : Int)))))) (Int.toNat
  (↑(Prod.fst x) : Int)) ((0 : Int), ((0 : Int), (0 : Int)), (0 : Int)))))) (Int.toNat (↑(Prod.fst x) : Int)) ((0 : Int), ((0 : Int), (0 : Int)), (0 : Int))), (Prod.fst (Prod.fst (Prod.snd (List.getD (List.set (List.set
  (mark4 (List.take (Prod.fst x) d) k ++ List.drop (Prod.fst x) d) (Int.toNat (↑(Prod.fst x) : Int)) (Prod.snd x, (Prod.fst (Prod.fst (Prod.snd (List.getD (mark4 (List.take (Prod.fst x) d) k ++ List.drop (Prod.fst x) d)
  (Int.toNat (↑(Prod.fst x) : Int)) ((0 : Int), ((0 : Int), (0 : Int)), (0 : Int))))), Prod.snd (Prod.fst (Prod.snd (List.getD (mark4 (List.take (Prod.fst x) d) k ++ List.drop (Prod.fst x) d) (Int.toNat (↑(Prod.fst x) :
  Int)) ((0 : Int), ((0 : Int), (0 : Int)), (0 : Int)))))), Prod.snd (Prod.snd (List.getD (mark4 (List.take (Prod.fst x) d) k ++ List.drop (Prod.fst x) d) (Int.toNat (↑(Prod.fst x) : Int)) ((0 : Int), ((0 : Int), (0 :
  Int)), (0 : Int)))))) (Int.toNat (↑(Prod.fst x) : Int)) (Prod.fst (List.getD (List.set (mark4 (List.take (Prod.fst x) d) k ++ List.drop (Prod.fst x) d) (Int.toNat (↑(Prod.fst x) : Int)) (Prod.snd x, (Prod.fst (Prod.fst
  (Prod.snd (List.getD (mark4 (List.take (Prod.fst x) d) k ++ List.drop (Prod.fst x) d) (Int.toNat (↑(Prod.fst x) : Int)) ((0 : Int), ((0 : Int), (0 : Int)), (0 : Int))))), Prod.snd (Prod.fst (Prod.snd (List.getD (mark4
  (List.take (Prod.fst x) d) k ++ List.drop (Prod.fst x) d) (Int.toNat (↑(Prod.fst x) : Int)) ((0 : Int), ((0 : Int), (0 : Int)), (0 : Int)))))), Prod.snd (Prod.snd (List.getD (mark4 (List.take (Prod.fst x) d) k ++
  List.drop (Prod.fst x) d) (Int.toNat (↑(Prod.fst x) : Int)) ((0 : Int), ((0 : Int), (0 : Int)), (0 : Int)))))) (Int.toNat (↑(Prod.fst x) : Int)) ((0 : Int), ((0 : Int), (0 : Int)), (0 : Int))), (IntKind.wrap
  IntKind.i64 (Prod.snd x + (1 : Int)), Prod.snd (Prod.fst (Prod.snd (List.getD (List.set (mark4 (List.take (Prod.fst x) d) k ++ List.drop (Prod.fst x) d) (Int.toNat (↑(Prod.fst x) : Int)) (Prod.snd x, (Prod.fst
  (Prod.fst (Prod.snd (List.getD (mark4 (List.take (Prod.fst x) d) k ++ List.drop (Prod.fst x) d) (Int.toNat (↑(Prod.fst x) : Int)) ((0 : Int), ((0 : Int), (0 : Int)), (0 : Int))))), Prod.snd (Prod.fst (Prod.snd
  (List.getD (mark4 (List.take (Prod.fst x) d) k ++ List.drop (Prod.fst x) d) (Int.toNat (↑(Prod.fst x) : Int)) ((0 : Int), ((0 : Int), (0 : Int)), (0 : Int)))))), Prod.snd (Prod.snd (List.getD (mark4 (List.take
  (Prod.fst x) d) k ++ List.drop (Prod.fst x) d) (Int.toNat (↑(Prod.fst x) : Int)) ((0 : Int), ((0 : Int), (0 : Int)), (0 : Int)))))) (Int.toNat (↑(Prod.fst x) : Int)) ((0 : Int), ((0 : Int), (0 : Int)), (0 : Int)))))),
  Prod.snd (Prod.snd (List.getD (List.set (mark4 (List.take (Prod.fst x) d) k ++ List.drop (Prod.fst x) d) (Int.toNat (↑(Prod.fst x) : Int)) (Prod.snd x, (Prod.fst (Prod.fst (Prod.snd (List.getD (mark4 (List.take
  (Prod.fst x) d) k ++ List.drop (Prod.fst x) d) (Int.toNat (↑(Prod.fst x) : Int)) ((0 : Int), ((0 : Int), (0 : Int)), (0 : Int))))), Prod.snd (Prod.fst (Prod.snd (List.getD (mark4 (List.take (Prod.fst x) d) k ++
  List.drop (Prod.fst x) d) (Int.toNat (↑(Prod.fst x) : Int)) ((0 : Int), ((0 : Int), (0 : Int)), (0 : Int)))))), Prod.snd (Prod.snd (List.getD (mark4 (List.take (Prod.fst x) d) k ++ List.drop (Prod.fst x) d) (Int.toNat
  (↑(Prod.fst x) : Int)) ((0 : Int), ((0 : Int), (0 : Int)), (0 : Int)))))) (Int.toNat (↑(Prod.fst x) : Int)) ((0 : Int), ((0 : Int), (0 : Int)), (0 : Int)))))) (Int.toNat (↑(Prod.fst x) : Int)) ((0 : Int), ((0 : Int),
  (0 : Int)), (0 : Int))))), IntKind.wrap IntKind.i64 (IntKind.wrap IntKind.i64 (Prod.snd x + (1 : Int)) + (1 : Int))), Prod.snd (Prod.snd (List.getD (List.set (List.set (mark4 (List.take (Prod.fst x) d) k ++ List.drop
  (Prod.fst x) d) (Int.toNat (↑(Prod.fst x) : Int)) (Prod.snd x, (Prod.fst (Prod.fst (Prod.snd (List.getD (mark4 (List.take (Prod.fst x) d) k ++ List.drop (Prod.fst x) d) (Int.toNat (↑(Prod.fst x) : Int)) ((0 : Int), ((0
  : Int), (0 : Int)), (0 : Int))))), Prod.snd (Prod.fst (Prod.snd (List.getD (mark4 (List.take (Prod.fst x) d) k ++ List.drop (Prod.fst x) d) (Int.toNat (↑(Prod.fst x) : Int)) ((0 : Int), ((0 : Int), (0 : Int)), (0 :
  Int)))))), Prod.snd (Prod.snd (List.getD (mark4 (List.take (Prod.fst x) d) k ++ List.drop (Prod.fst x) d) (Int.toNat (↑(Prod.fst x) : Int)) ((0 : Int), ((0 : Int), (0 : Int)), (0 : Int)))))) (Int.toNat (↑(Prod.fst x) :
  Int)) (Prod.fst (List.getD (List.set (mark4 (List.take (Prod.fst x) d) k ++ List.drop (Prod.fst x) d) (Int.toNat (↑(Prod.fst x) : Int)) (Prod.snd x, (Prod.fst (Prod.fst (Prod.snd (List.getD (mark4 (List.take (Prod.fst
  x) d) k ++ List.drop (Prod.fst x) d) (Int.toNat (↑(Prod.fst x) : Int)) ((0 : Int), ((0 : Int), (0 : Int)), (0 : Int))))), Prod.snd (Prod.fst (Prod.snd (List.getD (mark4 (List.take (Prod.fst x) d) k ++ List.drop
  (Prod.fst x) d) (Int.toNat (↑(Prod.fst x) : Int)) ((0 : Int), ((0 : Int), (0 : Int)), (0 : Int)))))), Prod.snd (Prod.snd (List.getD (mark4 (List.take (Prod.fst x) d) k ++ List.drop (Prod.fst x) d) (Int.toNat
  (↑(Prod.fst x) : Int)) ((0 : Int), ((0 : Int), (0 : Int)), (0 : Int)))))) (Int.toNat (↑(Prod.fst x) : Int)) ((0 : Int), ((0 : Int), (0 : Int)), (0 : Int))), (IntKind.wrap IntKind.i64 (Prod.snd x + (1 : Int)), Prod.snd
  (Prod.fst (Prod.snd (List.getD (List.set (mark4 (List.take (Prod.fst x) d) k ++ List.drop (Prod.fst x) d) (Int.toNat (↑(Prod.fst x) : Int)) (Prod.snd x, (Prod.fst (Prod.fst (Prod.snd (List.getD (mark4 (List.take
  (Prod.fst x) d) k ++ List.drop (Prod.fst x) d) (Int.toNat (↑(Prod.fst x) : Int)) ((0 : Int), ((0 : Int), (0 : Int)), (0 : Int))))), Prod.snd (Prod.fst (Prod.snd (List.getD (mark4 (List.take (Prod.fst x) d) k ++
  List.drop (Prod.fst x) d) (Int.toNat (↑(Prod.fst x) : Int)) ((0 : Int), ((0 : Int), (0 : Int)), (0 : Int)))))), Prod.snd (Prod.snd (List.getD (mark4 (List.take (Prod.fst x) d) k ++ List.drop (Prod.fst x) d) (Int.toNat
  (↑(Prod.fst x) : Int)) ((0 : Int), ((0 : Int), (0 : Int)), (0 : Int)))))) (Int.toNat (↑(Prod.fst x) : Int)) ((0 : Int), ((0 : Int), (0 : Int)), (0 : Int)))))), Prod.snd (Prod.snd (List.getD (List.set (mark4 (List.take
  (Prod.fst x) d) k ++ List.drop (Prod.fst x) d) (Int.toNat (↑(Prod.fst x) : Int)) (Prod.snd x, (Prod.fst (Prod.fst (Prod.snd (List.getD (mark4 (List.take (Prod.fst x) d) k ++ List.drop (Prod.fst x) d) (Int.toNat
  (↑(Prod.fst x) : Int)) ((0 : Int), ((0 : Int), (0 : Int)), (0 : Int))))), Prod.snd (Prod.fst (Prod.snd (List.getD (mark4 (List.take (Prod.fst x) d) k ++ List.drop (Prod.fst x) d) (Int.toNat (↑(Prod.fst x) : Int)) ((0 :
  Int), ((0 : Int), (0 : Int)), (0 : Int)))))), Prod.snd (Prod.snd (List.getD (mark4 (List.take (Prod.fst x) d) k ++ List.drop (Prod.fst x) d) (Int.toNat (↑(Prod.fst x) : Int)) ((0 : Int), ((0 : Int), (0 : Int)), (0 :
  Int)))))) (Int.toNat (↑(Prod.fst x) : Int)) ((0 : Int), ((0 : Int), (0 : Int)), (0 : Int)))))) (Int.toNat (↑(Prod.fst x) : Int)) ((0 : Int), ((0 : Int), (0 : Int)), (0 : Int))))))) : Int)) ∧ ∃ (x' : Nat × Int),
  (Prod.fst x' ≤ List.length d ∧ Prod.snd x' = end4 (List.take (Prod.fst x') d) k) ∧ List.length d - Prod.fst x' < List.length d - Prod.fst x ∧ (IntKind.wrap IntKind.i64 (IntKind.wrap IntKind.i64 (IntKind.wrap
  IntKind.i64 (IntKind.wrap IntKind.i64 (Prod.snd x + (1 : Int)) + (1 : Int)) + (1 : Int)) + (1 : Int)) = Prod.snd x' ∧ IntKind.wrap IntKind.i64 ((↑(Prod.fst x) : Int) + (1 : Int)) = (↑(Prod.fst x') : Int)) ∧ List.set
  (List.set (List.set (List.set (mark4 (List.take (Prod.fst x) d) k ++ List.drop (Prod.fst x) d) (Int.toNat (↑(Prod.fst x) : Int)) (Prod.snd x, (Prod.fst (Prod.fst (Prod.snd (List.getD (mark4 (List.take (Prod.fst x) d) k
  ++ List.drop (Prod.fst x) d) (Int.toNat (↑(Prod.fst x) : Int)) ((0 : Int), ((0 : Int), (0 : Int)), (0 : Int))))), Prod.snd (Prod.fst (Prod.snd (List.getD (mark4 (List.take (Prod.fst x) d) k ++ List.drop (Prod.fst x) d)
  (Int.toNat (↑(Prod.fst x) : Int)) ((0 : Int), ((0 : Int), (0 : Int)), (0 : Int)))))), Prod.snd (Prod.snd (List.getD (mark4 (List.take (Prod.fst x) d) k ++ List.drop (Prod.fst x) d) (Int.toNat (↑(Prod.fst x) : Int)) ((0
  : Int), ((0 : Int), (0 : Int)), (0 : Int)))))) (Int.toNat (↑(Prod.fst x) : Int)) (Prod.fst (List.getD (List.set (mark4 (List.take (Prod.fst x) d) k ++ List.drop (Prod.fst x) d) (Int.toNat (↑(Prod.fst x) : Int))
  (Prod.snd x, (Prod.fst (Prod.fst (Prod.snd (List.getD (mark4 (List.take (Prod.fst x) d) k ++ List.drop (Prod.fst x) d) (Int.toNat (↑(Prod.fst x) : Int)) ((0 : Int), ((0 : Int), (0 : Int)), (0 : Int))))), Prod.snd
  (Prod.fst (Prod.snd (List.getD (mark4 (List.take (Prod.fst x) d) k ++ List.drop (Prod.fst x) d) (Int.toNat (↑(Prod.fst x) : Int)) ((0 : Int), ((0 : Int), (0 : Int)), (0 : Int)))))), Prod.snd (Prod.snd (List.getD (mark4
  (List.take (Prod.fst x) d) k ++ List.drop (Prod.fst x) d) (Int.toNat (↑(Prod.fst x) : Int)) ((0 : Int), ((0 : Int), (0 : Int)), (0 : Int)))))) (Int.toNat (↑(Prod.fst x) : Int)) ((0 : Int), ((0 : Int), (0 : Int)), (0 :
  Int))), (IntKind.wrap IntKind.i64 (Prod.snd x + (1 : Int)), Prod.snd (Prod.fst (Prod.snd (List.getD (List.set (mark4 (List.take (Prod.fst x) d) k ++ List.drop (Prod.fst x) d) (Int.toNat (↑(Prod.fst x) : Int)) (Prod.snd
  x, (Prod.fst (Prod.fst (Prod.snd (List.getD (mark4 (List.take (Prod.fst x) d) k ++ List.drop (Prod.fst x) d) (Int.toNat (↑(Prod.fst x) : Int)) ((0 : Int), ((0 : Int), (0 : Int)), (0 : Int))))), Prod.snd (Prod.fst
  (Prod.snd (List.getD (mark4 (List.take (Prod.fst x) d) k ++ List.drop (Prod.fst x) d) (Int.toNat (↑(Prod.fst x) : Int)) ((0 : Int), ((0 : Int), (0 : Int)), (0 : Int)))))), Prod.snd (Prod.snd (List.getD (mark4
  (List.take (Prod.fst x) d) k ++ List.drop (Prod.fst x) d) (Int.toNat (↑(Prod.fst x) : Int)) ((0 : Int), ((0 : Int), (0 : Int)), (0 : Int)))))) (Int.toNat (↑(Prod.fst x) : Int)) ((0 : Int), ((0 : Int), (0 : Int)), (0 :
  Int)))))), Prod.snd (Prod.snd (List.getD (List.set (mark4 (List.take (Prod.fst x) d) k ++ List.drop (Prod.fst x) d) (Int.toNat (↑(Prod.fst x) : Int)) (Prod.snd x, (Prod.fst (Prod.fst (Prod.snd (List.getD (mark4
  (List.take (Prod.fst x) d) k ++ List.drop (Prod.fst x) d) (Int.toNat (↑(Prod.fst x) : Int)) ((0 : Int), ((0 : Int), (0 : Int)), (0 : Int))))), Prod.snd (Prod.fst (Prod.snd (List.getD (mark4 (List.take (Prod.fst x) d) k
  ++ List.drop (Prod.fst x) d) (Int.toNat (↑(Prod.fst x) : Int)) ((0 : Int), ((0 : Int), (0 : Int)), (0 : Int)))))), Prod.snd (Prod.snd (List.getD (mark4 (List.take (Prod.fst x) d) k ++ List.drop (Prod.fst x) d)
  (Int.toNat (↑(Prod.fst x) : Int)) ((0 : Int), ((0 : Int), (0 : Int)), (0 : Int)))))) (Int.toNat (↑(Prod.fst x) : Int)) ((0 : Int), ((0 : Int), (0 : Int)), (0 : Int)))))) (Int.toNat (↑(Prod.fst x) : Int)) (Prod.fst
  (List.getD (List.set (List.set (mark4 (List.take (Prod.fst x) d) k ++ List.drop (Prod.fst x) d) (Int.toNat (↑(Prod.fst x) : Int)) (Prod.snd x, (Prod.fst (Prod.fst (Prod.snd (List.getD (mark4 (List.take (Prod.fst x) d)
  k ++ List.drop (Prod.fst x) d) (Int.toNat (↑(Prod.fst x) : Int)) ((0 : Int), ((0 : Int), (0 : Int)), (0 : Int))))), Prod.snd (Prod.fst (Prod.snd (List.getD (mark4 (List.take (Prod.fst x) d) k ++ List.drop (Prod.fst x)
  d) (Int.toNat (↑(Prod.fst x) : Int)) ((0 : Int), ((0 : Int), (0 : Int)), (0 : Int)))))), Prod.snd (Prod.snd (List.getD (mark4 (List.take (Prod.fst x) d) k ++ List.drop (Prod.fst x) d) (Int.toNat (↑(Prod.fst x) : Int))
  ((0 : Int), ((0 : Int), (0 : Int)), (0 : Int)))))) (Int.toNat (↑(Prod.fst x) : Int)) (Prod.fst (List.getD (List.set (mark4 (List.take (Prod.fst x) d) k ++ List.drop (Prod.fst x) d) (Int.toNat (↑(Prod.fst x) : Int))
  (Prod.snd x, (Prod.fst (Prod.fst (Prod.snd (List.getD (mark4 (List.take (Prod.fst x) d) k ++ List.drop (Prod.fst x) d) (Int.toNat (↑(Prod.fst x) : Int)) ((0 : Int), ((0 : Int), (0 : Int)), (0 : Int))))), Prod.snd
  (Prod.fst (Prod.snd (List.getD (mark4 (List.take (Prod.fst x) d) k ++ List.drop (Prod.fst x) d) (Int.toNat (↑(Prod.fst x) : Int)) ((0 : Int), ((0 : Int), (0 : Int)), (0 : Int)))))), Prod.snd (Prod.snd (List.getD (mark4
  (List.take (Prod.fst x) d) k ++ List.drop (Prod.fst x) d) (Int.toNat (↑(Prod.fst x) : Int)) ((0 : Int), ((0 : Int), (0 : Int)), (0 : Int)))))) (Int.toNat (↑(Prod.fst x) : Int)) ((0 : Int), ((0 : Int), (0 : Int)), (0 :
  Int))), (IntKind.wrap IntKind.i64 (Prod.snd x + (1 : Int)), Prod.snd (Prod.fst (Prod.snd (List.getD (List.set (mark4 (List.take (Prod.fst x) d) k ++ List.drop (Prod.fst x) d) (Int.toNat (↑(Prod.fst x) : Int)) (Prod.snd
  x, (Prod.fst (Prod.fst (Prod.snd (List.getD (mark4 (List.take (Prod.fst x) d) k ++ List.drop (Prod.fst x) d) (Int.toNat (↑(Prod.fst x) : Int)) ((0 : Int), ((0 : Int), (0 : Int)), (0 : Int))))), Prod.snd (Prod.fst
  (Prod.snd (List.getD (mark4 (List.take (Prod.fst x) d) k ++ List.drop (Prod.fst x) d) (Int.toNat (↑(Prod.fst x) : Int)) ((0 : Int), ((0 : Int), (0 : Int)), (0 : Int)))))), Prod.snd (Prod.snd (List.getD (mark4
  (List.take (Prod.fst x) d) k ++ List.drop (Prod.fst x) d) (Int.toNat (↑(Prod.fst x) : Int)) ((0 : Int), ((0 : Int), (0 : Int)), (0 : Int)))))) (Int.toNat (↑(Prod.fst x) : Int)) ((0 : Int), ((0 : Int), (0 : Int)), (0 :
  Int)))))), Prod.snd (Prod.snd (List.getD (List.set (mark4 (List.take (Prod.fst x) d) k ++ List.drop (Prod.fst x) d) (Int.toNat (↑(Prod.fst x) : Int)) (Prod.snd x, (Prod.fst (Prod.fst (Prod.snd (List.getD (mark4
  (List.take (Prod.fst x) d) k ++ List.drop (Prod.fst x) d) (Int.toNat (↑(Prod.fst x) : Int)) ((0 : Int), ((0 : Int), (0 : Int)), (0 : Int))))), Prod.snd (Prod.fst (Prod.snd (List.getD (mark4 (List.take (Prod.fst x) d) k
  ++ List.drop (Prod.fst x) d) (Int.toNat (↑(Prod.fst x) : Int)) ((0 : Int), ((0 : Int), (0 : Int)), (0 : Int)))))), Prod.snd (Prod.snd (List.getD (mark4 (List.take (Prod.fst x) d) k ++ List.drop (Prod.fst x) d)
  (Int.toNat (↑(Prod.fst x) : Int)) ((0 : Int), ((0 : Int), (0 : Int)), (0 : Int)))))) (Int.toNat (↑(Prod.fst x) : Int)) ((0 : Int), ((0 : Int), (0 : Int)), (0 : Int)))))) (Int.toNat (↑(Prod.fst x) : Int)) ((0 : Int),
  ((0 : Int), (0 : Int)), (0 : Int))), (Prod.fst (Prod.fst (Prod.snd (List.getD (List.set (List.set (mark4 (List.take (Prod.fst x) d) k ++ List.drop (Prod.fst x) d) (Int.toNat (↑(Prod.fst x) : Int)) (Prod.snd x,
  (Prod.fst (Prod.fst (Prod.snd (List.getD (mark4 (List.take (Prod.fst x) d) k ++ List.drop (Prod.fst x) d) (Int.toNat (↑(Prod.fst x) : Int)) ((0 : Int), ((0 : Int), (0 : Int)), (0 : Int))))), Prod.snd (Prod.fst
  (Prod.snd (List.getD (mark4 (List.take (Prod.fst x) d) k ++ List.drop (Prod.fst x) d) (Int.toNat (↑(Prod.fst x) : Int)) ((0 : Int), ((0 : Int), (0 : Int)), (0 : Int)))))), Prod.snd (Prod.snd (List.getD (mark4
  (List.take (Prod.fst x) d) k ++ List.drop (Prod.fst x) d) (Int.toNat (↑(Prod.fst x) : Int)) ((0 : Int), ((0 : Int), (0 : Int)), (0 : Int)))))) (Int.toNat (↑(Prod.fst x) : Int)) (Prod.fst (List.getD (List.set (mark4
  (List.take (Prod.fst x) d) k ++ List.drop (Prod.fst x) d) (Int.toNat (↑(Prod.fst x) : Int)) (Prod.snd x, (Prod.fst (Prod.fst (Prod.snd (List.getD (mark4 (List.take (Prod.fst x) d) k ++ List.drop (Prod.fst x) d)
  (Int.toNat (↑(Prod.fst x) : Int)) ((0 : Int), ((0 : Int), (0 : Int)), (0 : Int))))), Prod.snd (Prod.fst (Prod.snd (List.getD (mark4 (List.take (Prod.fst x) d) k ++ List.drop (Prod.fst x) d) (Int.toNat (↑(Prod.fst x) :
  Int)) ((0 : Int), ((0 : Int), (0 : Int)), (0 : Int)))))), Prod.snd (Prod.snd (List.getD (mark4 (List.take (Prod.fst x) d) k ++ List.drop (Prod.fst x) d) (Int.toNat (↑(Prod.fst x) : Int)) ((0 : Int), ((0 : Int), (0 :
  Int)), (0 : Int)))))) (Int.toNat (↑(Prod.fst x) : Int)) ((0 : Int), ((0 : Int), (0 : Int)), (0 : Int))), (IntKind.wrap IntKind.i64 (Prod.snd x + (1 : Int)), Prod.snd (Prod.fst (Prod.snd (List.getD (List.set (mark4
  (List.take (Prod.fst x) d) k ++ List.drop (Prod.fst x) d) (Int.toNat (↑(Prod.fst x) : Int)) (Prod.snd x, (Prod.fst (Prod.fst (Prod.snd (List.getD (mark4 (List.take (Prod.fst x) d) k ++ List.drop (Prod.fst x) d)
  (Int.toNat (↑(Prod.fst x) : Int)) ((0 : Int), ((0 : Int), (0 : Int)), (0 : Int))))), Prod.snd (Prod.fst (Prod.snd (List.getD (mark4 (List.take (Prod.fst x) d) k ++ List.drop (Prod.fst x) d) (Int.toNat (↑(Prod.fst x) :
  Int)) ((0 : Int), ((0 : Int), (0 : Int)), (0 : Int)))))), Prod.snd (Prod.snd (List.getD (mark4 (List.take (Prod.fst x) d) k ++ List.drop (Prod.fst x) d) (Int.toNat (↑(Prod.fst x) : Int)) ((0 : Int), ((0 : Int), (0 :
  Int)), (0 : Int)))))) (Int.toNat (↑(Prod.fst x) : Int)) ((0 : Int), ((0 : Int), (0 : Int)), (0 : Int)))))), Prod.snd (Prod.snd (List.getD (List.set (mark4 (List.take (Prod.fst x) d) k ++ List.drop (Prod.fst x) d)
  (Int.toNat (↑(Prod.fst x) : Int)) (Prod.snd x, (Prod.fst (Prod.fst (Prod.snd (List.getD (mark4 (List.take (Prod.fst x) d) k ++ List.drop (Prod.fst x) d) (Int.toNat (↑(Prod.fst x) : Int)) ((0 : Int), ((0 : Int), (0 :
  Int)), (0 : Int))))), Prod.snd (Prod.fst (Prod.snd (List.getD (mark4 (List.take (Prod.fst x) d) k ++ List.drop (Prod.fst x) d) (Int.toNat (↑(Prod.fst x) : Int)) ((0 : Int), ((0 : Int), (0 : Int)), (0 : Int)))))),
  Prod.snd (Prod.snd (List.getD (mark4 (List.take (Prod.fst x) d) k ++ List.drop (Prod.fst x) d) (Int.toNat (↑(Prod.fst x) : Int)) ((0 : Int), ((0 : Int), (0 : Int)), (0 : Int)))))) (Int.toNat (↑(Prod.fst x) : Int)) ((0
  : Int), ((0 : Int), (0 : Int)), (0 : Int)))))) (Int.toNat (↑(Prod.fst x) : Int)) ((0 : Int), ((0 : Int), (0 : Int)), (0 : Int))))), IntKind.wrap IntKind.i64 (IntKind.wrap IntKind.i64 (Prod.snd x + (1 : Int)) + (1 :
  Int))), Prod.snd (Prod.snd (List.getD (List.set (List.set (mark4 (List.take (Prod.fst x) d) k ++ List.drop (Prod.fst x) d) (Int.toNat (↑(Prod.fst x) : Int)) (Prod.snd x, (Prod.fst (Prod.fst (Prod.snd (List.getD (mark4
  (List.take (Prod.fst x) d) k ++ List.drop (Prod.fst x) d) (Int.toNat (↑(Prod.fst x) : Int)) ((0 : Int), ((0 : Int), (0 : Int)), (0 : Int))))), Prod.snd (Prod.fst (Prod.snd (List.getD (mark4 (List.take (Prod.fst x) d) k
  ++ List.drop (Prod.fst x) d) (Int.toNat (↑(Prod.fst x) : Int)) ((0 : Int), ((0 : Int), (0 : Int)), (0 : Int)))))), Prod.snd (Prod.snd (List.getD (mark4 (List.take (Prod.fst x) d) k ++ List.drop (Prod.fst x) d)
  (Int.toNat (↑(Prod.fst x) : Int)) ((0 : Int), ((0 : Int), (0 : Int)), (0 : Int)))))) (Int.toNat (↑(Prod.fst x) : Int)) (Prod.fst (List.getD (List.set (mark4 (List.take (Prod.fst x) d) k ++ List.drop (Prod.fst x) d)
  (Int.toNat (↑(Prod.fst x) : Int)) (Prod.snd x, (Prod.fst (Prod.fst (Prod.snd (List.getD (mark4 (List.take (Prod.fst x) d) k ++ List.drop (Prod.fst x) d) (Int.toNat (↑(Prod.fst x) : Int)) ((0 : Int), ((0 : Int), (0 :
  Int)), (0 : Int))))), Prod.snd (Prod.fst (Prod.snd (List.getD (mark4 (List.take (Prod.fst x) d) k ++ List.drop (Prod.fst x) d) (Int.toNat (↑(Prod.fst x) : Int)) ((0 : Int), ((0 : Int), (0 : Int)), (0 : Int)))))),
  Prod.snd (Prod.snd (List.getD (mark4 (List.take (Prod.fst x) d) k ++ List.drop (Prod.fst x) d) (Int.toNat (↑(Prod.fst x) : Int)) ((0 : Int), ((0 : Int), (0 : Int)), (0 : Int)))))) (Int.toNat (↑(Prod.fst x) : Int)) ((0
  : Int), ((0 : Int), (0 : Int)), (0 : Int))), (IntKind.wrap IntKind.i64 (Prod.snd x + (1 : Int)), Prod.snd (Prod.fst (Prod.snd (List.getD (List.set (mark4 (List.take (Prod.fst x) d) k ++ List.drop (Prod.fst x) d)
  (Int.toNat (↑(Prod.fst x) : Int)) (Prod.snd x, (Prod.fst (Prod.fst (Prod.snd (List.getD (mark4 (List.take (Prod.fst x) d) k ++ List.drop (Prod.fst x) d) (Int.toNat (↑(Prod.fst x) : Int)) ((0 : Int), ((0 : Int), (0 :
  Int)), (0 : Int))))), Prod.snd (Prod.fst (Prod.snd (List.getD (mark4 (List.take (Prod.fst x) d) k ++ List.drop (Prod.fst x) d) (Int.toNat (↑(Prod.fst x) : Int)) ((0 : Int), ((0 : Int), (0 : Int)), (0 : Int)))))),
  Prod.snd (Prod.snd (List.getD (mark4 (List.take (Prod.fst x) d) k ++ List.drop (Prod.fst x) d) (Int.toNat (↑(Prod.fst x) : Int)) ((0 : Int), ((0 : Int), (0 : Int)), (0 : Int)))))) (Int.toNat (↑(Prod.fst x) : Int)) ((0
  : Int), ((0 : Int), (0 : Int)), (0 : Int)))))), Prod.snd (Prod.snd (List.getD (List.set (mark4 (List.take (Prod.fst x) d) k ++ List.drop (Prod.fst x) d) (Int.toNat (↑(Prod.fst x) : Int)) (Prod.snd x, (Prod.fst
  (Prod.fst (Prod.snd (List.getD (mark4 (List.take (Prod.fst x) d) k ++ List.drop (Prod.fst x) d) (Int.toNat (↑(Prod.fst x) : Int)) ((0 : Int), ((0 : Int), (0 : Int)), (0 : Int))))), Prod.snd (Prod.fst (Prod.snd
  (List.getD (mark4 (List.take (Prod.fst x) d) k ++ List.drop (Prod.fst x) d) (Int.toNat (↑(Prod.fst x) : Int)) ((0 : Int), ((0 : Int), (0 : Int)), (0 : Int)))))), Prod.snd (Prod.snd (List.getD (mark4 (List.take
  (Prod.fst x) d) k ++ List.drop (Prod.fst x) d) (Int.toNat (↑(Prod.fst x) : Int)) ((0 : Int), ((0 : Int), (0 : Int)), (0 : Int)))))) (Int.toNat (↑(Prod.fst x) : Int)) ((0 : Int), ((0 : Int), (0 : Int)), (0 : Int))))))
  (Int.toNat (↑(Prod.fst x) : Int)) ((0 : Int), ((0 : Int), (0 : Int)), (0 : Int)))))) (Int.toNat (↑(Prod.fst x) : Int)) (Prod.fst (List.getD (List.set (List.set (List.set (mark4 (List.take (Prod.fst x) d) k ++ List.drop
  (Prod.fst x) d) (Int.toNat (↑(Prod.fst x) : Int)) (Prod.snd x, (Prod.fst (Prod.fst (Prod.snd (List.getD (mark4 (List.take (Prod.fst x) d) k ++ List.drop (Prod.fst x) d) (Int.toNat (↑(Prod.fst x) : Int)) ((0 : Int), ((0
  : Int), (0 : Int)), (0 : Int))))), Prod.snd (Prod.fst (Prod.snd (List.getD (mark4 (List.take (Prod.fst x) d) k ++ List.drop (Prod.fst x) d) (Int.toNat (↑(Prod.fst x) : Int)) ((0 : Int), ((0 : Int), (0 : Int)), (0 :
  Int)))))), Prod.snd (Prod.snd (List.getD (mark4 (List.take (Prod.fst x) d) k ++ List.drop (Prod.fst x) d) (Int.toNat (↑(Prod.fst x) : Int)) ((0 : Int), ((0 : Int), (0 : Int)), (0 : Int)))))) (Int.toNat (↑(Prod.fst x) :
  Int)) (Prod.fst (List.getD (List.set (mark4 (List.take (Prod.fst x) d) k ++ List.drop (Prod.fst x) d) (Int.toNat (↑(Prod.fst x) : Int)) (Prod.snd x, (Prod.fst (Prod.fst (Prod.snd (List.getD (mark4 (List.take (Prod.fst
  x) d) k ++ List.drop (Prod.fst x) d) (Int.toNat (↑(Prod.fst x) : Int)) ((0 : Int), ((0 : Int), (0 : Int)), (0 : Int))))), Prod.snd (Prod.fst (Prod.snd (List.getD (mark4 (List.take (Prod.fst x) d) k ++ List.drop
  (Prod.fst x) d) (Int.toNat (↑(Prod.fst x) : Int)) ((0 : Int), ((0 : Int), (0 : Int)), (0 : Int)))))), Prod.snd (Prod.snd (List.getD (mark4 (List.take (Prod.fst x) d) k ++ List.drop (Prod.fst x) d) (Int.toNat
  (↑(Prod.fst x) : Int)) ((0 : Int), ((0 : Int), (0 : Int)), (0 : Int)))))) (Int.toNat (↑(Prod.fst x) : Int)) ((0 : Int), ((0 : Int), (0 : Int)), (0 : Int))), (IntKind.wrap IntKind.i64 (Prod.snd x + (1 : Int)), Prod.snd
  (Prod.fst (Prod.snd (List.getD (List.set (mark4 (List.take (Prod.fst x) d) k ++ List.drop (Prod.fst x) d) (Int.toNat (↑(Prod.fst x) : Int)) (Prod.snd x, (Prod.fst (Prod.fst (Prod.snd (List.getD (mark4 (List.take
  (Prod.fst x) d) k ++ List.drop (Prod.fst x) d) (Int.toNat (↑(Prod.fst x) : Int)) ((0 : Int), ((0 : Int), (0 : Int)), (0 : Int))))), Prod.snd (Prod.fst (Prod.snd (List.getD (mark4 (List.take (Prod.fst x) d) k ++
  List.drop (Prod.fst x) d) (Int.toNat (↑(Prod.fst x) : Int)) ((0 : Int), ((0 : Int), (0 : Int)), (0 : Int)))))), Prod.snd (Prod.snd (List.getD (mark4 (List.take (Prod.fst x) d) k ++ List.drop (Prod.fst x) d) (Int.toNat
  (↑(Prod.fst x) : Int)) ((0 : Int), ((0 : Int), (0 : Int)), (0 : Int)))))) (Int.toNat (↑(Prod.fst x) : Int)) ((0 : Int), ((0 : Int), (0 : Int)), (0 : Int)))))), Prod.snd (Prod.snd (List.getD (List.set (mark4 (List.take
  (Prod.fst x) d) k ++ List.drop (Prod.fst x) d) (Int.toNat (↑(Prod.fst x) : Int)) (Prod.snd x, (Prod.fst (Prod.fst (Prod.snd (List.getD (mark4 (List.take (Prod.fst x) d) k ++ List.drop (Prod.fst x) d) (Int.toNat
  (↑(Prod.fst x) : Int)) ((0 : Int), ((0 : Int), (0 : Int)), (0 : Int))))), Prod.snd (Prod.fst (Prod.snd (List.getD (mark4 (List.take (Prod.fst x) d) k ++ List.drop (Prod.fst x) d) (Int.toNat (↑(Prod.fst x) : Int)) ((0 :
  Int), ((0 : Int), (0 : Int)), (0 : Int)))))), Prod.snd (Prod.snd (List.getD (mark4 (List.take (Prod.fst x) d) k ++ List.drop (Prod.fst x) d) (Int.toNat (↑(Prod.fst x) : Int)) ((0 : Int), ((0 : Int), (0 : Int)), (0 :
  Int)))))) (Int.toNat (↑(Prod.fst x) : Int)) ((0 : Int), ((0 : Int), (0 : Int)), (0 : Int)))))) (Int.toNat (↑(Prod.fst x) : Int)) (Prod.fst (List.getD (List.set (List.set (mark4 (List.take (Prod.fst x) d) k ++ List.drop
  (Prod.fst x) d) (Int.toNat (↑(Prod.fst x) : Int)) (Prod.snd x, (Prod.fst (Prod.fst (Prod.snd (List.getD (mark4 (List.take (Prod.fst x) d) k ++ List.drop (Prod.fst x) d) (Int.toNat (↑(Prod.fst x) : Int)) ((0 : Int), ((0
  : Int), (0 : Int)), (0 : Int))))), Prod.snd (Prod.fst (Prod.snd (List.getD (mark4 (List.take (Prod.fst x) d) k ++ List.drop (Prod.fst x) d) (Int.toNat (↑(Prod.fst x) : Int)) ((0 : Int), ((0 : Int), (0 : Int)), (0 :
  Int)))))), Prod.snd (Prod.snd (List.getD (mark4 (List.take (Prod.fst x) d) k ++ List.drop (Prod.fst x) d) (Int.toNat (↑(Prod.fst x) : Int)) ((0 : Int), ((0 : Int), (0 : Int)), (0 : Int)))))) (Int.toNat (↑(Prod.fst x) :
  Int)) (Prod.fst (List.getD (List.set (mark4 (List.take (Prod.fst x) d) k ++ List.drop (Prod.fst x) d) (Int.toNat (↑(Prod.fst x) : Int)) (Prod.snd x, (Prod.fst (Prod.fst (Prod.snd (List.getD (mark4 (List.take (Prod.fst
  x) d) k ++ List.drop (Prod.fst x) d) (Int.toNat (↑(Prod.fst x) : Int)) ((0 : Int), ((0 : Int), (0 : Int)), (0 : Int))))), Prod.snd (Prod.fst (Prod.snd (List.getD (mark4 (List.take (Prod.fst x) d) k ++ List.drop
  (Prod.fst x) d) (Int.toNat (↑(Prod.fst x) : Int)) ((0 : Int), ((0 : Int), (0 : Int)), (0 : Int)))))), Prod.snd (Prod.snd (List.getD (mark4 (List.take (Prod.fst x) d) k ++ List.drop (Prod.fst x) d) (Int.toNat
  (↑(Prod.fst x) : Int)) ((0 : Int), ((0 : Int), (0 : Int)), (0 : Int)))))) (Int.toNat (↑(Prod.fst x) : Int)) ((0 : Int), ((0 : Int), (0 : Int)), (0 : Int))), (IntKind.wrap IntKind.i64 (Prod.snd x + (1 : Int)), Prod.snd
  (Prod.fst (Prod.snd (List.getD (List.set (mark4 (List.take (Prod.fst x) d) k ++ List.drop (Prod.fst x) d) (Int.toNat (↑(Prod.fst x) : Int)) (Prod.snd x, (Prod.fst (Prod.fst (Prod.snd (List.getD (mark4 (List.take
  (Prod.fst x) d) k ++ List.drop (Prod.fst x) d) (Int.toNat (↑(Prod.fst x) : Int)) ((0 : Int), ((0 : Int), (0 : Int)), (0 : Int))))), Prod.snd (Prod.fst (Prod.snd (List.getD (mark4 (List.take (Prod.fst x) d) k ++
  List.drop (Prod.fst x) d) (Int.toNat (↑(Prod.fst x) : Int)) ((0 : Int), ((0 : Int), (0 : Int)), (0 : Int)))))), Prod.snd (Prod.snd (List.getD (mark4 (List.take (Prod.fst x) d) k ++ List.drop (Prod.fst x) d) (Int.toNat
  (↑(Prod.fst x) : Int)) ((0 : Int), ((0 : Int), (0 : Int)), (0 : Int)))))) (Int.toNat (↑(Prod.fst x) : Int)) ((0 : Int), ((0 : Int), (0 : Int)), (0 : Int)))))), Prod.snd (Prod.snd (List.getD (List.set (mark4 (List.take
  (Prod.fst x) d) k ++ List.drop (Prod.fst x) d) (Int.toNat (↑(Prod.fst x) : Int)) (Prod.snd x, (Prod.fst (Prod.fst (Prod.snd (List.getD (mark4 (List.take (Prod.fst x) d) k ++ List.drop (Prod.fst x) d) (Int.toNat
  (↑(Prod.fst x) : Int)) ((0 : Int), ((0 : Int), (0 : Int)), (0 : Int))))), Prod.snd (Prod.fst (Prod.snd (List.getD (mark4 (List.take (Prod.fst x) d) k ++ List.drop (Prod.fst x) d) (Int.toNat (↑(Prod.fst x) : Int)) ((0 :
  Int), ((0 : Int), (0 : Int)), (0 : Int)))))), Prod.snd (Prod.snd (List.getD (mark4 (List.take (Prod.fst x) d) k ++ List.drop (Prod.fst x) d) (Int.toNat (↑(Prod.fst x) : Int)) ((0 : Int), ((0 : Int), (0 : Int)), (0 :
  Int)))))) (Int.toNat (↑(Prod.fst x) : Int)) ((0 : Int), ((0 : Int), (0 : Int)), (0 : Int)))))) (Int.toNat (↑(Prod.fst x) : Int)) ((0 : Int), ((0 : Int), (0 : Int)), (0 : Int))), (Prod.fst (Prod.fst (Prod.snd (List.getD
  (List.set (List.set (mark4 (List.take (Prod.fst x) d) k ++ List.drop (Prod.fst x) d) (Int.toNat (↑(Prod.fst x) : Int)) (Prod.snd x, (Prod.fst (Prod.fst (Prod.snd (List.getD (mark4 (List.take (Prod.fst x) d) k ++
  List.drop (Prod.fst x) d) (Int.toNat (↑(Prod.fst x) : Int)) ((0 : Int), ((0 : Int), (0 : Int)), (0 : Int))))), Prod.snd (Prod.fst (Prod.snd (List.getD (mark4 (List.take (Prod.fst x) d) k ++ List.drop (Prod.fst x) d)
  (Int.toNat (↑(Prod.fst x) : Int)) ((0 : Int), ((0 : Int), (0 : Int)), (0 : Int)))))), Prod.snd (Prod.snd (List.getD (mark4 (List.take (Prod.fst x) d) k ++ List.drop (Prod.fst x) d) (Int.toNat (↑(Prod.fst x) : Int)) ((0
  : Int), ((0 : Int), (0 : Int)), (0 : Int)))))) (Int.toNat (↑(Prod.fst x) : Int)) (Prod.fst (List.getD (List.set (mark4 (List.take (Prod.fst x) d) k ++ List.drop (Prod.fst x) d) (Int.toNat (↑(Prod.fst x) : Int))
  (Prod.snd x, (Prod.fst (Prod.fst (Prod.snd (List.getD (mark4 (List.take (Prod.fst x) d) k ++ List.drop (Prod.fst x) d) (Int.toNat (↑(Prod.fst x) : Int)) ((0 : Int), ((0 : Int), (0 : Int)), (0 : Int))))), Prod.snd
  (Prod.fst (Prod.snd (List.getD (mark4 (List.take (Prod.fst x) d) k ++ List.drop (Prod.fst x) d) (Int.toNat (↑(Prod.fst x) : Int)) ((0 : Int), ((0 : Int), (0 : Int)), (0 : Int)))))), Prod.snd (Prod.snd (List.getD (mark4
  (List.take (Prod.fst x) d) k ++ List.drop (Prod.fst x) d) (Int.toNat (↑(Prod.fst x) : Int)) ((0 : Int), ((0 : Int), (0 : Int)), (0 : Int)))))) (Int.toNat (↑(Prod.fst x) : Int)) ((0 : Int), ((0 : Int), (0 : Int)), (0 :
  Int))), (IntKind.wrap IntKind.i64 (Prod.snd x + (1 : Int)), Prod.snd (Prod.fst (Prod.snd (List.getD (List.set (mark4 (List.take (Prod.fst x) d) k ++ List.drop (Prod.fst x) d) (Int.toNat (↑(Prod.fst x) : Int)) (Prod.snd
  x, (Prod.fst (Prod.fst (Prod.snd (List.getD (mark4 (List.take (Prod.fst x) d) k ++ List.drop (Prod.fst x) d) (Int.toNat (↑(Prod.fst x) : Int)) ((0 : Int), ((0 : Int), (0 : Int)), (0 : Int))))), Prod.snd (Prod.fst
  (Prod.snd (List.getD (mark4 (List.take (Prod.fst x) d) k ++ List.drop (Prod.fst x) d) (Int.toNat (↑(Prod.fst x) : Int)) ((0 : Int), ((0 : Int), (0 : Int)), (0 : Int)))))), Prod.snd (Prod.snd (List.getD (mark4
  (List.take (Prod.fst x) d) k ++ List.drop (Prod.fst x) d) (Int.toNat (↑(Prod.fst x) : Int)) ((0 : Int), ((0 : Int), (0 : Int)), (0 : Int)))))) (Int.toNat (↑(Prod.fst x) : Int)) ((0 : Int), ((0 : Int), (0 : Int)), (0 :
  Int)))))), Prod.snd (Prod.snd (List.getD (List.set (mark4 (List.take (Prod.fst x) d) k ++ List.drop (Prod.fst x) d) (Int.toNat (↑(Prod.fst x) : Int)) (Prod.snd x, (Prod.fst (Prod.fst (Prod.snd (List.getD (mark4
  (List.take (Prod.fst x) d) k ++ List.drop (Prod.fst x) d) (Int.toNat (↑(Prod.fst x) : Int)) ((0 : Int), ((0 : Int), (0 : Int)), (0 : Int))))), Prod.snd (Prod.fst (Prod.snd (List.getD (mark4 (List.take (Prod.fst x) d) k
  ++ List.drop (Prod.fst x) d) (Int.toNat (↑(Prod.fst x) : Int)) ((0 : Int), ((0 : Int), (0 : Int)), (0 : Int)))))), Prod.snd (Prod.snd (List.getD (mark4 (List.take (Prod.fst x) d) k ++ List.drop (Prod.fst x) d)
  (Int.toNat (↑(Prod.fst x) : Int)) ((0 : Int), ((0 : Int), (0 : Int)), (0 : Int)))))) (Int.toNat (↑(Prod.fst x) : Int)) ((0 : Int), ((0 : Int), (0 : Int)), (0 : Int)))))) (Int.toNat (↑(Prod.fst x) : Int)) ((0 : Int),
  ((0 : Int), (0 : Int)), (0 : Int))))), IntKind.wrap IntKind.i64 (IntKind.wrap IntKind.i64 (Prod.snd x + (1 : Int)) + (1 : Int))), Prod.snd (Prod.snd (List.getD (List.set (List.set (mark4 (List.take (Prod.fst x) d) k ++
  List.drop (Prod.fst x) d) (Int.toNat (↑(Prod.fst x) : Int)) (Prod.snd x, (Prod.fst (Prod.fst (Prod.snd (List.getD (mark4 (List.take (Prod.fst x) d) k ++ List.drop (Prod.fst x) d) (Int.toNat (↑(Prod.fst x) : Int)) ((0 :
  Int), ((0 : Int), (0 : Int)), (0 : Int))))), Prod.snd (Prod.fst (Prod.snd (List.getD (mark4 (List.take (Prod.fst x) d) k ++ List.drop (Prod.fst x) d) (Int.toNat (↑(Prod.fst x) : Int)) ((0 : Int), ((0 : Int), (0 :
  Int)), (0 : Int)))))), Prod.snd (Prod.snd (List.getD (mark4 (List.take (Prod.fst x) d) k ++ List.drop (Prod.fst x) d) (Int.toNat (↑(Prod.fst x) : Int)) ((0 : Int), ((0 : Int), (0 : Int)), (0 : Int)))))) (Int.toNat
  (↑(Prod.fst x) : Int)) (Prod.fst (List.getD (List.set (mark4 (List.take (Prod.fst x) d) k ++ List.drop (Prod.fst x) d) (Int.toNat (↑(Prod.fst x) : Int)) (Prod.snd x, (Prod.fst (Prod.fst (Prod.snd (List.getD (mark4
  (List.take (Prod.fst x) d) k ++ List.drop (Prod.fst x) d) (Int.toNat (↑(Prod.fst x) : Int)) ((0 : Int), ((0 : Int), (0 : Int)), (0 : Int))))), Prod.snd (Prod.fst (Prod.snd (List.getD (mark4 (List.take (Prod.fst x) d) k
  ++ List.drop (Prod.fst x) d) (Int.toNat (↑(Prod.fst x) : Int)) ((0 : Int), ((0 : Int), (0 : Int)), (0 : Int)))))), Prod.snd (Prod.snd (List.getD (mark4 (List.take (Prod.fst x) d) k ++ List.drop (Prod.fst x) d)
  (Int.toNat (↑(Prod.fst x) : Int)) ((0 : Int), ((0 : Int), (0 : Int)), (0 : Int)))))) (Int.toNat (↑(Prod.fst x) : Int)) ((0 : Int), ((0 : Int), (0 : Int)), (0 : Int))), (IntKind.wrap IntKind.i64 (Prod.snd x + (1 :
  Int)), Prod.snd (Prod.fst (Prod.snd (List.getD (List.set (mark4 (List.take (Prod.fst x) d) k ++ List.drop (Prod.fst x) d) (Int.toNat (↑(Prod.fst x) : Int)) (Prod.snd x, (Prod.fst (Prod.fst (Prod.snd (List.getD (mark4
  (List.take (Prod.fst x) d) k ++ List.drop (Prod.fst x) d) (Int.toNat (↑(Prod.fst x) : Int)) ((0 : Int), ((0 : Int), (0 : Int)), (0 : Int))))), Prod.snd (Prod.fst (Prod.snd (List.getD (mark4 (List.take (Prod.fst x) d) k
  ++ List.drop (Prod.fst x) d) (Int.toNat (↑(Prod.fst x) : Int)) ((0 : Int), ((0 : Int), (0 : Int)), (0 : Int)))))), Prod.snd (Prod.snd (List.getD (mark4 (List.take (Prod.fst x) d) k ++ List.drop (Prod.fst x) d)
  (Int.toNat (↑(Prod.fst x) : Int)) ((0 : Int), ((0 : Int), (0 : Int)), (0 : Int)))))) (Int.toNat (↑(Prod.fst x) : Int)) ((0 : Int), ((0 : Int), (0 : Int)), (0 : Int)))))), Prod.snd (Prod.snd (List.getD (List.set (mark4
  (List.take (Prod.fst x) d) k ++ List.drop (Prod.fst x) d) (Int.toNat (↑(Prod.fst x) : Int)) (Prod.snd x, (Prod.fst (Prod.fst (Prod.snd (List.getD (mark4 (List.take (Prod.fst x) d) k ++ List.drop (Prod.fst x) d)
  (Int.toNat (↑(Prod.fst x) : Int)) ((0 : Int), ((0 : Int), (0 : Int)), (0 : Int))))), Prod.snd (Prod.fst (Prod.snd (List.getD (mark4 (List.take (Prod.fst x) d) k ++ List.drop (Prod.fst x) d) (Int.toNat (↑(Prod.fst x) :
  Int)) ((0 : Int), ((0 : Int), (0 : Int)), (0 : Int)))))), Prod.snd (Prod.snd (List.getD (mark4 (List.take (Prod.fst x) d) k ++ List.drop (Prod.fst x) d) (Int.toNat (↑(Prod.fst x) : Int)) ((0 : Int), ((0 : Int), (0 :
  Int)), (0 : Int)))))) (Int.toNat (↑(Prod.fst x) : Int)) ((0 : Int), ((0 : Int), (0 : Int)), (0 : Int)))))) (Int.toNat (↑(Prod.fst x) : Int)) ((0 : Int), ((0 : Int), (0 : Int)), (0 : Int)))))) (Int.toNat (↑(Prod.fst x)
  : Int)) ((0 : Int), ((0 : Int), (0 : Int)), (0 : Int))), (Prod.fst (Prod.fst (Prod.snd (List.getD (List.set (List.set (List.set (mark4 (List.take (Prod.fst x) d) k ++ List.drop (Prod.fst x) d) (Int.toNat (↑(Prod.fst x)
  : Int)) (Prod.snd x, (Prod.fst (Prod.fst (Prod.snd (List.getD (mark4 (List.take (Prod.fst x) d) k ++ List.drop (Prod.fst x) d) (Int.toNat (↑(Prod.fst x) : Int)) ((0 : Int), ((0 : Int), (0 : Int)), (0 : Int))))),
  Prod.snd (Prod.fst (Prod.snd (List.getD (mark4 (List.take (Prod.fst x) d) k ++ List.drop (Prod.fst x) d) (Int.toNat (↑(Prod.fst x) : Int)) ((0 : Int), ((0 : Int), (0 : Int)), (0 : Int)))))), Prod.snd (Prod.snd
  (List.getD (mark4 (List.take (Prod.fst x) d) k ++ List.drop (Prod.fst x) d) (Int.toNat (↑(Prod.fst x) : Int)) ((0 : Int), ((0 : Int), (0 : Int)), (0 : Int)))))) (Int.toNat (↑(Prod.fst x) : Int)) (Prod.fst (List.getD
  (List.set (mark4 (List.take (Prod.fst x) d) k ++ List.drop (Prod.fst x) d) (Int.toNat (↑(Prod.fst x) : Int)) (Prod.snd x, (Prod.fst (Prod.fst (Prod.snd (List.getD (mark4 (List.take (Prod.fst x) d) k ++ List.drop
  (Prod.fst x) d) (Int.toNat (↑(Prod.fst x) : Int)) ((0 : Int), ((0 : Int), (0 : Int)), (0 : Int))))), Prod.snd (Prod.fst (Prod.snd (List.getD (mark4 (List.take (Prod.fst x) d) k ++ List.drop (Prod.fst x) d) (Int.toNat
  (↑(Prod.fst x) : Int)) ((0 : Int), ((0 : Int), (0 : Int)), (0 : Int)))))), Prod.snd (Prod.snd (List.getD (mark4 (List.take (Prod.fst x) d) k ++ List.drop (Prod.fst x) d) (Int.toNat (↑(Prod.fst x) : Int)) ((0 : Int),
  ((0 : Int), (0 : Int)), (0 : Int)))))) (Int.toNat (↑(Prod.fst x) : Int)) ((0 : Int), ((0 : Int), (0 : Int)), (0 : Int))), (IntKind.wrap IntKind.i64 (Prod.snd x + (1 : Int)), Prod.snd (Prod.fst (Prod.snd (List.getD
  (List.set (mark4 (List.take (Prod.fst x) d) k ++ List.drop (Prod.fst x) d) (Int.toNat (↑(Prod.fst x) : Int)) (Prod.snd x, (Prod.fst (Prod.fst (Prod.snd (List.getD (mark4 (List.take (Prod.fst x) d) k ++ List.drop
  (Prod.fst x) d) (Int.toNat (↑(Prod.fst x) : Int)) ((0 : Int), ((0 : Int), (0 : Int)), (0 : Int))))), Prod.snd (Prod.fst (Prod.snd (List.getD (mark4 (List.take (Prod.fst x) d) k ++ List.drop (Prod.fst x) d) (Int.toNat
  (↑(Prod.fst x) : Int)) ((0 : Int), ((0 : Int), (0 : Int)), (0 : Int)))))), Prod.snd (Prod.snd (List.getD (mark4 (List.take (Prod.fst x) d) k ++ List.drop (Prod.fst x) d) (Int.toNat (↑(Prod.fst x) : Int)) ((0 : Int),
  ((0 : Int), (0 : Int)), (0 : Int)))))) (Int.toNat (↑(Prod.fst x) : Int)) ((0 : Int), ((0 : Int), (0 : Int)), (0 : Int)))))), Prod.snd (Prod.snd (List.getD (List.set (mark4 (List.take (Prod.fst x) d) k ++ List.drop
  (Prod.fst x) d) (Int.toNat (↑(Prod.fst x) : Int)) (Prod.snd x, (Prod.fst (Prod.fst (Prod.snd (List.getD (mark4 (List.take (Prod.fst x) d) k ++ List.drop (Prod.fst x) d) (Int.toNat (↑(Prod.fst x) : Int)) ((0 : Int), ((0
  : Int), (0 : Int)), (0 : Int))))), Prod.snd (Prod.fst (Prod.snd (List.getD (mark4 (List.take (Prod.fst x) d) k ++ List.drop (Prod.fst x) d) (Int.toNat (↑(Prod.fst x) : Int)) ((0 : Int), ((0 : Int), (0 : Int)), (0 :
  Int)))))), Prod.snd (Prod.snd (List.getD (mark4 (List.take (Prod.fst x) d) k ++ List.drop (Prod.fst x) d) (Int.toNat (↑(Prod.fst x) : Int)) ((0 : Int), ((0 : Int), (0 : Int)), (0 : Int)))))) (Int.toNat (↑(Prod.fst x) :
  Int)) ((0 : Int), ((0 : Int), (0 : Int)), (0 : Int)))))) (Int.toNat (↑(Prod.fst x) : Int)) (Prod.fst (List.getD (List.set (List.set (mark4 (List.take (Prod.fst x) d) k ++ List.drop (Prod.fst x) d) (Int.toNat
  (↑(Prod.fst x) : Int)) (Prod.snd x, (Prod.fst (Prod.fst (Prod.snd (List.getD (mark4 (List.take (Prod.fst x) d) k ++ List.drop (Prod.fst x) d) (Int.toNat (↑(Prod.fst x) : Int)) ((0 : Int), ((0 : Int), (0 : Int)), (0 :
  Int))))), Prod.snd (Prod.fst (Prod.snd (List.getD (mark4 (List.take (Prod.fst x) d) k ++ List.drop (Prod.fst x) d) (Int.toNat (↑(Prod.fst x) : Int)) ((0 : Int), ((0 : Int), (0 : Int)), (0 : Int)))))), Prod.snd
  (Prod.snd (List.getD (mark4 (List.take (Prod.fst x) d) k ++ List.drop (Prod.fst x) d) (Int.toNat (↑(Prod.fst x) : Int)) ((0 : Int), ((0 : Int), (0 : Int)), (0 : Int)))))) (Int.toNat (↑(Prod.fst x) : Int)) (Prod.fst
  (List.getD (List.set (mark4 (List.take (Prod.fst x) d) k ++ List.drop (Prod.fst x) d) (Int.toNat (↑(Prod.fst x) : Int)) (Prod.snd x, (Prod.fst (Prod.fst (Prod.snd (List.getD (mark4 (List.take (Prod.fst x) d) k ++
  List.drop (Prod.fst x) d) (Int.toNat (↑(Prod.fst x) : Int)) ((0 : Int), ((0 : Int), (0 : Int)), (0 : Int))))), Prod.snd (Prod.fst (Prod.snd (List.getD (mark4 (List.take (Prod.fst x) d) k ++ List.drop (Prod.fst x) d)
  (Int.toNat (↑(Prod.fst x) : Int)) ((0 : Int), ((0 : Int), (0 : Int)), (0 : Int)))))), Prod.snd (Prod.snd (List.getD (mark4 (List.take (Prod.fst x) d) k ++ List.drop (Prod.fst x) d) (Int.toNat (↑(Prod.fst x) : Int)) ((0
  : Int), ((0 : Int), (0 : Int)), (0 : Int)))))) (Int.toNat (↑(Prod.fst x) : Int)) ((0 : Int), ((0 : Int), (0 : Int)), (0 : Int))), (IntKind.wrap IntKind.i64 (Prod.snd x + (1 : Int)), Prod.snd (Prod.fst (Prod.snd
  (List.getD (List.set (mark4 (List.take (Prod.fst x) d) k ++ List.drop (Prod.fst x) d) (Int.toNat (↑(Prod.fst x) : Int)) (Prod.snd x, (Prod.fst (Prod.fst (Prod.snd (List.getD (mark4 (List.take (Prod.fst x) d) k ++
  List.drop (Prod.fst x) d) (Int.toNat (↑(Prod.fst x) : Int)) ((0 : Int), ((0 : Int), (0 : Int)), (0 : Int))))), Prod.snd (Prod.fst (Prod.snd (List.getD (mark4 (List.take (Prod.fst x) d) k ++ List.drop (Prod.fst x) d)
  (Int.toNat (↑(Prod.fst x) : Int)) ((0 : Int), ((0 : Int), (0 : Int)), (0 : Int)))))), Prod.snd (Prod.snd (List.getD (mark4 (List.take (Prod.fst x) d) k ++ List.drop (Prod.fst x) d) (Int.toNat (↑(Prod.fst x) : Int)) ((0
  : Int), ((0 : Int), (0 : Int)), (0 : Int)))))) (Int.toNat (↑(Prod.fst x) : Int)) ((0 : Int), ((0 : Int), (0 : Int)), (0 : Int)))))), Prod.snd (Prod.snd (List.getD (List.set (mark4 (List.take (Prod.fst x) d) k ++
  List.drop (Prod.fst x) d) (Int.toNat (↑(Prod.fst x) : Int)) (Prod.snd x, (Prod.fst (Prod.fst (Prod.snd (List.getD (mark4 (List.take (Prod.fst x) d) k ++ List.drop (Prod.fst x) d) (Int.toNat (↑(Prod.fst x) : Int)) ((0 :
  Int), ((0 : Int), (0 : Int)), (0 : Int))))), Prod.snd (Prod.fst (Prod.snd (List.getD (mark4 (List.take (Prod.fst x) d) k ++ List.drop (Prod.fst x) d) (Int.toNat (↑(Prod.fst x) : Int)) ((0 : Int), ((0 : Int), (0 :
  Int)), (0 : Int)))))), Prod.snd (Prod.snd (List.getD (mark4 (List.take (Prod.fst x) d) k ++ List.drop (Prod.fst x) d) (Int.toNat (↑(Prod.fst x) : Int)) ((0 : Int), ((0 : Int), (0 : Int)), (0 : Int)))))) (Int.toNat
  (↑(Prod.fst x) : Int)) ((0 : Int), ((0 : Int), (0 : Int)), (0 : Int)))))) (Int.toNat (↑(Prod.fst x) : Int)) ((0 : Int), ((0 : Int), (0 : Int)), (0 : Int))), (Prod.fst (Prod.fst (Prod.snd (List.getD (List.set (List.set
  (mark4 (List.take (Prod.fst x) d) k ++ List.drop (Prod.fst x) d) (Int.toNat (↑(Prod.fst x) : Int)) (Prod.snd x, (Prod.fst (Prod.fst (Prod.snd (List.getD (mark4 (List.take (Prod.fst x) d) k ++ List.drop (Prod.fst x) d)
  (Int.toNat (↑(Prod.fst x) : Int)) ((0 : Int), ((0 : Int), (0 : Int)), (0 : Int))))), Prod.snd (Prod.fst (Prod.snd (List.getD (mark4 (List.take (Prod.fst x) d) k ++ List.drop (Prod.fst x) d) (Int.toNat (↑(Prod.fst x) :
  Int)) ((0 : Int), ((0 : Int), (0 : Int)), (0 : Int)))))), Prod.snd (Prod.snd (List.getD (mark4 (List.take (Prod.fst x) d) k ++ List.drop (Prod.fst x) d) (Int.toNat (↑(Prod.fst x) : Int)) ((0 : Int), ((0 : Int), (0 :
  Int)), (0 : Int)))))) (Int.toNat (↑(Prod.fst x) : Int)) (Prod.fst (List.getD (List.set (mark4 (List.take (Prod.fst x) d) k ++ List.drop (Prod.fst x) d) (Int.toNat (↑(Prod.fst x) : Int)) (Prod.snd x, (Prod.fst (Prod.fst
  (Prod.snd (List.getD (mark4 (List.take (Prod.fst x) d) k ++ List.drop (Prod.fst x) d) (Int.toNat (↑(Prod.fst x) : Int)) ((0 : Int), ((0 : Int), (0 : Int)), (0 : Int))))), Prod.snd (Prod.fst (Prod.snd (List.getD (mark4
  (List.take (Prod.fst x) d) k ++ List.drop (Prod.fst x) d) (Int.toNat (↑(Prod.fst x) : Int)) ((0 : Int), ((0 : Int), (0 : Int)), (0 : Int)))))), Prod.snd (Prod.snd (List.getD (mark4 (List.take (Prod.fst x) d) k ++
  List.drop (Prod.fst x) d) (Int.toNat (↑(Prod.fst x) : Int)) ((0 : Int), ((0 : Int), (0 : Int)), (0 : Int)))))) (Int.toNat (↑(Prod.fst x) : Int)) ((0 : Int), ((0 : Int), (0 : Int)), (0 : Int))), (IntKind.wrap
  IntKind.i64 (Prod.snd x + (1 : Int)), Prod.snd (Prod.fst (Prod.snd (List.getD (List.set (mark4 (List.take (Prod.fst x) d) k ++ List.drop (Prod.fst x) d) (Int.toNat (↑(Prod.fst x) : Int)) (Prod.snd x, (Prod.fst
  (Prod.fst (Prod.snd (List.getD (mark4 (List.take (Prod.fst x) d) k ++ List.drop (Prod.fst x) d) (Int.toNat (↑(Prod.fst x) : Int)) ((0 : Int), ((0 : Int), (0 : Int)), (0 : Int))))), Prod.snd (Prod.fst (Prod.snd
  (List.getD (mark4 (List.take (Prod.fst x) d) k ++ List.drop (Prod.fst x) d) (Int.toNat (↑(Prod.fst x) : Int)) ((0 : Int), ((0 : Int), (0 : Int)), (0 : Int)))))), Prod.snd (Prod.snd (List.getD (mark4 (List.take
  (Prod.fst x) d) k ++ List.drop (Prod.fst x) d) (Int.toNat (↑(Prod.fst x) : Int)) ((0 : Int), ((0 : Int), (0 : Int)), (0 : Int)))))) (Int.toNat (↑(Prod.fst x) : Int)) ((0 : Int), ((0 : Int), (0 : Int)), (0 : Int)))))),
  Prod.snd (Prod.snd (List.getD (List.set (mark4 (List.take (Prod.fst x) d) k ++ List.drop (Prod.fst x) d) (Int.toNat (↑(Prod.fst x) : Int)) (Prod.snd x, (Prod.fst (Prod.fst (Prod.snd (List.getD (mark4 (List.take
  (Prod.fst x) d) k ++ List.drop (Prod.fst x) d) (Int.toNat (↑(Prod.fst x) : Int)) ((0 : Int), ((0 : Int), (0 : Int)), (0 : Int))))), Prod.snd (Prod.fst (Prod.snd (List.getD (mark4 (List.take (Prod.fst x) d) k ++
  List.drop (Prod.fst x) d) (Int.toNat (↑(Prod.fst x) : Int)) ((0 : Int), ((0 : Int), (0 : Int)), (0 : Int)))))), Prod.snd (Prod.snd (List.getD (mark4 (List.take (Prod.fst x) d) k ++ List.drop (Prod.fst x) d) (Int.toNat
  (↑(Prod.fst x) : Int)) ((0 : Int), ((0 : Int), (0 : Int)), (0 : Int)))))) (Int.toNat (↑(Prod.fst x) : Int)) ((0 : Int), ((0 : Int), (0 : Int)), (0 : Int)))))) (Int.toNat (↑(Prod.fst x) : Int)) ((0 : Int), ((0 : Int),
  (0 : Int)), (0 : Int))))), IntKind.wrap IntKind.i64 (IntKind.wrap IntKind.i64 (Prod.snd x + (1 : Int)) + (1 : Int))), Prod.snd (Prod.snd (List.getD (List.set (List.set (mark4 (List.take (Prod.fst x) d) k ++ List.drop
  (Prod.fst x) d) (Int.toNat (↑(Prod.fst x) : Int)) (Prod.snd x, (Prod.fst (Prod.fst (Prod.snd (List.getD (mark4 (List.take (Prod.fst x) d) k ++ List.drop (Prod.fst x) d) (Int.toNat (↑(Prod.fst x) : Int)) ((0 : Int), ((0
  : Int), (0 : Int)), (0 : Int))))), Prod.snd (Prod.fst (Prod.snd (List.getD (mark4 (List.take (Prod.fst x) d) k ++ List.drop (Prod.fst x) d) (Int.toNat (↑(Prod.fst x) : Int)) ((0 : Int), ((0 : Int), (0 : Int)), (0 :
  Int)))))), Prod.snd (Prod.snd (List.getD (mark4 (List.take (Prod.fst x) d) k ++ List.drop (Prod.fst x) d) (Int.toNat (↑(Prod.fst x) : Int)) ((0 : Int), ((0 : Int), (0 : Int)), (0 : Int)))))) (Int.toNat (↑(Prod.fst x) :
  Int)) (Prod.fst (List.getD (List.set (mark4 (List.take (Prod.fst x) d) k ++ List.drop (Prod.fst x) d) (Int.toNat (↑(Prod.fst x) : Int)) (Prod.snd x, (Prod.fst (Prod.fst (Prod.snd (List.getD (mark4 (List.take (Prod.fst
  x) d) k ++ List.drop (Prod.fst x) d) (Int.toNat (↑(Prod.fst x) : Int)) ((0 : Int), ((0 : Int), (0 : Int)), (0 : Int))))), Prod.snd (Prod.fst (Prod.snd (List.getD (mark4 (List.take (Prod.fst x) d) k ++ List.drop
  (Prod.fst x) d) (Int.toNat (↑(Prod.fst x) : Int)) ((0 : Int), ((0 : Int), (0 : Int)), (0 : Int)))))), Prod.snd (Prod.snd (List.getD (mark4 (List.take (Prod.fst x) d) k ++ List.drop (Prod.fst x) d) (Int.toNat
  (↑(Prod.fst x) : Int)) ((0 : Int), ((0 : Int), (0 : Int)), (0 : Int)))))) (Int.toNat (↑(Prod.fst x) : Int)) ((0 : Int), ((0 : Int), (0 : Int)), (0 : Int))), (IntKind.wrap IntKind.i64 (Prod.snd x + (1 : Int)), Prod.snd
  (Prod.fst (Prod.snd (List.getD (List.set (mark4 (List.take (Prod.fst x) d) k ++ List.drop (Prod.fst x) d) (Int.toNat (↑(Prod.fst x) : Int)) (Prod.snd x, (Prod.fst (Prod.fst (Prod.snd (List.getD (mark4 (List.take
  (Prod.fst x) d) k ++ List.drop (Prod.fst x) d) (Int.toNat (↑(Prod.fst x) : Int)) ((0 : Int), ((0 : Int), (0 : Int)), (0 : Int))))), Prod.snd (Prod.fst (Prod.snd (List.getD (mark4 (List.take (Prod.fst x) d) k ++
  List.drop (Prod.fst x) d) (Int.toNat (↑(Prod.fst x) : Int)) ((0 : Int), ((0 : Int), (0 : Int)), (0 : Int)))))), Prod.snd (Prod.snd (List.getD (mark4 (List.take (Prod.fst x) d) k ++ List.drop (Prod.fst x) d) (Int.toNat
  (↑(Prod.fst x) : Int)) ((0 : Int), ((0 : Int), (0 : Int)), (0 : Int)))))) (Int.toNat (↑(Prod.fst x) : Int)) ((0 : Int), ((0 : Int), (0 : Int)), (0 : Int)))))), Prod.snd (Prod.snd (List.getD (List.set (mark4 (List.take
  (Prod.fst x) d) k ++ List.drop (Prod.fst x) d) (Int.toNat (↑(Prod.fst x) : Int)) (Prod.snd x, (Prod.fst (Prod.fst (Prod.snd (List.getD (mark4 (List.take (Prod.fst x) d) k ++ List.drop (Prod.fst x) d) (Int.toNat
  (↑(Prod.fst x) : Int)) ((0 : Int), ((0 : Int), (0 : Int)), (0 : Int))))), Prod.snd (Prod.fst (Prod.snd (List.getD (mark4 (List.take (Prod.fst x) d) k ++ List.drop (Prod.fst x) d) (Int.toNat (↑(Prod.fst x) : Int)) ((0 :
  Int), ((0 : Int), (0 : Int)), (0 : Int)))))), Prod.snd (Prod.snd (List.getD (mark4 (List.take (Prod.fst x) d) k ++ List.drop (Prod.fst x) d) (Int.toNat (↑(Prod.fst x) : Int)) ((0 : Int), ((0 : Int), (0 : Int)), (0 :
  Int)))))) (Int.toNat (↑(Prod.fst x) : Int)) ((0 : Int), ((0 : Int), (0 : Int)), (0 : Int)))))) (Int.toNat (↑(Prod.fst x) : Int)) ((0 : Int), ((0 : Int), (0 : Int)), (0 : Int)))))) (Int.toNat (↑(Prod.fst x) : Int)) ((0
  : Int), ((0 : Int), (0 : Int)), (0 : Int))))), Prod.snd (Prod.fst (Prod.snd (List.getD (List.set (List.set (List.set (mark4 (List.take (Prod.fst x) d) k ++ List.drop (Prod.fst x) d) (Int.toNat (↑(Prod.fst x) : Int))
  (Prod.snd x, (Prod.fst (Prod.fst (Prod.snd (List.getD (mark4 (List.take (Prod.fst x) d) k ++ List.drop (Prod.fst x) d) (Int.toNat (↑(Prod.fst x) : Int)) ((0 : Int), ((0 : Int), (0 : Int)), (0 : Int))))), Prod.snd
  (Prod.fst (Prod.snd (List.getD (mark4 (List.take (Prod.fst x) d) k ++ List.drop (Prod.fst x) d) (Int.toNat (↑(Prod.fst x) : Int)) ((0 : Int), ((0 : Int), (0 : Int)), (0 : Int)))))), Prod.snd (Prod.snd (List.getD (mark4
  (List.take (Prod.fst x) d) k ++ List.drop (Prod.fst x) d) (Int.toNat (↑(Prod.fst x) : Int)) ((0 : Int), ((0 : Int), (0 : Int)), (0 : Int)))))) (Int.toNat (↑(Prod.fst x) : Int)) (Prod.fst (List.getD (List.set (mark4
  (List.take (Prod.fst x) d) k ++ List.drop (Prod.fst x) d) (Int.toNat (↑(Prod.fst x) : Int)) (Prod.snd x, (Prod.fst (Prod.fst (Prod.snd (List.getD (mark4 (List.take (Prod.fst x) d) k ++ List.drop (Prod.fst x) d)
  (Int.toNat (↑(Prod.fst x) : Int)) ((0 : Int), ((0 : Int), (0 : Int)), (0 : Int))))), Prod.snd (Prod.fst (Prod.snd (List.getD (mark4 (List.take (Prod.fst x) d) k ++ List.drop (Prod.fst x) d) (Int.toNat (↑(Prod.fst x) :
  Int)) ((0 : Int), ((0 : Int), (0 : Int)), (0 : Int)))))), Prod.snd (Prod.snd (List.getD (mark4 (List.take (Prod.fst x) d) k ++ List.drop (Prod.fst x) d) (Int.toNat (↑(Prod.fst x) : Int)) ((0 : Int), ((0 : Int), (0 :
  Int)), (0 : Int)))))) (Int.toNat (↑(Prod.fst x) : Int)) ((0 : Int), ((0 : Int), (0 : Int)), (0 : Int))), (IntKind.wrap IntKind.i64 (Prod.snd x + (1 : Int)), Prod.snd (Prod.fst (Prod.snd (List.getD (List.set (mark4
  (List.take (Prod.fst x) d) k ++ List.drop (Prod.fst x) d) (Int.toNat (↑(Prod.fst x) : Int)) (Prod.snd x, (Prod.fst (Prod.fst (Prod.snd (List.getD (mark4 (List.take (Prod.fst x) d) k ++ List.drop (Prod.fst x) d)
  (Int.toNat (↑(Prod.fst x) : Int)) ((0 : Int), ((0 : Int), (0 : Int)), (0 : Int))))), Prod.snd (Prod.fst (Prod.snd (List.getD (mark4 (List.take (Prod.fst x) d) k ++ List.drop (Prod.fst x) d) (Int.toNat (↑(Prod.fst x) :
  Int)) ((0 : Int), ((0 : Int), (0 : Int)), (0 : Int)))))), Prod.snd (Prod.snd (List.getD (mark4 (List.take (Prod.fst x) d) k ++ List.drop (Prod.fst x) d) (Int.toNat (↑(Prod.fst x) : Int)) ((0 : Int), ((0 : Int), (0 :
  Int)), (0 : Int)))))) (Int.toNat (↑(Prod.fst x) : Int)) ((0 : Int), ((0 : Int), (0 : Int)), (0 : Int)))))), Prod.snd (Prod.snd (List.getD (List.set (mark4 (List.take (Prod.fst x) d) k ++ List.drop (Prod.fst x) d)
  (Int.toNat (↑(Prod.fst x) : Int)) (Prod.snd x, (Prod.fst (Prod.fst (Prod.snd (List.getD (mark4 (List.take (Prod.fst x) d) k ++ List.drop (Prod.fst x) d) (Int.toNat (↑(Prod.fst x) : Int)) ((0 : Int), ((0 : Int), (0 :
  Int)), (0 : Int))))), Prod.snd (Prod.fst (Prod.snd (List.getD (mark4 (List.take (Prod.fst x) d) k ++ List.drop (Prod.fst x) d) (Int.toNat (↑(Prod.fst x) : Int)) ((0 : Int), ((0 : Int), (0 : Int)), (0 : Int)))))),
  Prod.snd (Prod.snd (List.getD (mark4 (List.take (Prod.fst x) d) k ++ List.drop (Prod.fst x) d) (Int.toNat (↑(Prod.fst x) : Int)) ((0 : Int), ((0 : Int), (0 : Int)), (0 : Int)))))) (Int.toNat (↑(Prod.fst x) : Int)) ((0
  : Int), ((0 : Int), (0 : Int)), (0 : Int)))))) (Int.toNat (↑(Prod.fst x) : Int)) (Prod.fst (List.getD (List.set (List.set (mark4 (List.take (Prod.fst x) d) k ++ List.drop (Prod.fst x) d) (Int.toNat (↑(Prod.fst x) :
  Int)) (Prod.snd x, (Prod.fst (Prod.fst (Prod.snd (List.getD (mark4 (List.take (Prod.fst x) d) k ++ List.drop (Prod.fst x) d) (Int.toNat (↑(Prod.fst x) : Int)) ((0 : Int), ((0 : Int), (0 : Int)), (0 : Int))))), Prod.snd
  (Prod.fst (Prod.snd (List.getD (mark4 (List.take (Prod.fst x) d) k ++ List.drop (Prod.fst x) d) (Int.toNat (↑(Prod.fst x) : Int)) ((0 : Int), ((0 : Int), (0 : Int)), (0 : Int)))))), Prod.snd (Prod.snd (List.getD (mark4
  (List.take (Prod.fst x) d) k ++ List.drop (Prod.fst x) d) (Int.toNat (↑(Prod.fst x) : Int)) ((0 : Int), ((0 : Int), (0 : Int)), (0 : Int)))))) (Int.toNat (↑(Prod.fst x) : Int)) (Prod.fst (List.getD (List.set (mark4
  (List.take (Prod.fst x) d) k ++ List.drop (Prod.fst x) d) (Int.toNat (↑(Prod.fst x) : Int)) (Prod.snd x, (Prod.fst (Prod.fst (Prod.snd (List.getD (mark4 (List.take (Prod.fst x) d) k ++ List.drop (Prod.fst x) d)
  (Int.toNat (↑(Prod.fst x) : Int)) ((0 : Int), ((0 : Int), (0 : Int)), (0 : Int))))), Prod.snd (Prod.fst (Prod.snd (List.getD (mark4 (List.take (Prod.fst x) d) k ++ List.drop (Prod.fst x) d) (Int.toNat (↑(Prod.fst x) :
  Int)) ((0 : Int), ((0 : Int), (0 : Int)), (0 : Int)))))), Prod.snd (Prod.snd (List.getD (mark4 (List.take (Prod.fst x) d) k ++ List.drop (Prod.fst x) d) (Int.toNat (↑(Prod.fst x) : Int)) ((0 : Int), ((0 : Int), (0 :
  Int)), (0 : Int)))))) (Int.toNat (↑(Prod.fst x) : Int)) ((0 : Int), ((0 : Int), (0 : Int)), (0 : Int))), (IntKind.wrap IntKind.i64 (Prod.snd x + (1 : Int)), Prod.snd (Prod.fst (Prod.snd (List.getD (List.set (mark4
  (List.take (Prod.fst x) d) k ++ List.drop (Prod.fst x) d) (Int.toNat (↑(Prod.fst x) : Int)) (Prod.snd x, (Prod.fst (Prod.fst (Prod.snd (List.getD (mark4 (List.take (Prod.fst x) d) k ++ List.drop (Prod.fst x) d)
  (Int.toNat (↑(Prod.fst x) : Int)) ((0 : Int), ((0 : Int), (0 : Int)), (0 : Int))))), Prod.snd (Prod.fst (Prod.snd (List.getD (mark4 (List.take (Prod.fst x) d) k ++ List.drop (Prod.fst x) d) (Int.toNat (↑(Prod.fst x) :
  Int)) ((0 : Int), ((0 : Int), (0 : Int)), (0 : Int)))))), Prod.snd (Prod.snd (List.getD (mark4 (List.take (Prod.fst x) d) k ++ List.drop (Prod.fst x) d) (Int.toNat (↑(Prod.fst x) : Int)) ((0 : Int), ((0 : Int), (0 :
  Int)), (0 : Int)))))) (Int.toNat (↑(Prod.fst x) : Int)) ((0 : Int), ((0 : Int), (0 : Int)), (0 : Int)))))), Prod.snd (Prod.snd (List.getD (List.set (mark4 (List.take (Prod.fst x) d) k ++ List.drop (Prod.fst x) d)
  (Int.toNat (↑(Prod.fst x) : Int)) (Prod.snd x, (Prod.fst (Prod.fst (Prod.snd (List.getD (mark4 (List.take (Prod.fst x) d) k ++ List.drop (Prod.fst x) d) (Int.toNat (↑(Prod.fst x) : Int)) ((0 : Int), ((0 : Int), (0 :
  Int)), (0 : Int))))), Prod.snd (Prod.fst (Prod.snd (List.getD (mark4 (List.take (Prod.fst x) d) k ++ List.drop (Prod.fst x) d) (Int.toNat (↑(Prod.fst x) : Int)) ((0 : Int), ((0 : Int), (0 : Int)), (0 : Int)))))),
  Prod.snd (Prod.snd (List.getD (mark4 (List.take (Prod.fst x) d) k ++ List.drop (Prod.fst x) d) (Int.toNat (↑(Prod.fst x) : Int)) ((0 : Int), ((0 : Int), (0 : Int)), (0 : Int)))))) (Int.toNat (↑(Prod.fst x) : Int)) ((0
  : Int), ((0 : Int), (0 : Int)), (0 : Int)))))) (Int.toNat (↑(Prod.fst x) : Int)) ((0 : Int), ((0 : Int), (0 : Int)), (0 : Int))), (Prod.fst (Prod.fst (Prod.snd (List.getD (List.set (List.set (mark4 (List.take (Prod.fst
  x) d) k ++ List.drop (Prod.fst x) d) (Int.toNat (↑(Prod.fst x) : Int)) (Prod.snd x, (Prod.fst (Prod.fst (Prod.snd (List.getD (mark4 (List.take (Prod.fst x) d) k ++ List.drop (Prod.fst x) d) (Int.toNat (↑(Prod.fst x) :
  Int)) ((0 : Int), ((0 : Int), (0 : Int)), (0 : Int))))), Prod.snd (Prod.fst (Prod.snd (List.getD (mark4 (List.take (Prod.fst x) d) k ++ List.drop (Prod.fst x) d) (Int.toNat (↑(Prod.fst x) : Int)) ((0 : Int), ((0 :
  Int), (0 : Int)), (0 : Int)))))), Prod.snd (Prod.snd (List.getD (mark4 (List.take (Prod.fst x) d) k ++ List.drop (Prod.fst x) d) (Int.toNat (↑(Prod.fst x) : Int)) ((0 : Int), ((0 : Int), (0 : Int)), (0 : Int))))))
  (Int.toNat (↑(Prod.fst x) : Int)) (Prod.fst (List.getD (List.set (mark4 (List.take (Prod.fst x) d) k ++ List.drop (Prod.fst x) d) (Int.toNat (↑(Prod.fst x) : Int)) (Prod.snd x, (Prod.fst (Prod.fst (Prod.snd (List.getD
  (mark4 (List.take (Prod.fst x) d) k ++ List.drop (Prod.fst x) d) (Int.toNat (↑(Prod.fst x) : Int)) ((0 : Int), ((0 : Int), (0 : Int)), (0 : Int))))), Prod.snd (Prod.fst (Prod.snd (List.getD (mark4 (List.take (Prod.fst
  x) d) k ++ List.drop (Prod.fst x) d) (Int.toNat (↑(Prod.fst x) : Int)) ((0 : Int), ((0 : Int), (0 : Int)), (0 : Int)))))), Prod.snd (Prod.snd (List.getD (mark4 (List.take (Prod.fst x) d) k ++ List.drop (Prod.fst x) d)
  (Int.toNat (↑(Prod.fst x) : Int)) ((0 : Int), ((0 : Int), (0 : Int)), (0 : Int)))))) (Int.toNat (↑(Prod.fst x) : Int)) ((0 : Int), ((0 : Int), (0 : Int)), (0 : Int))), (IntKind.wrap IntKind.i64 (Prod.snd x + (1 :
  Int)), Prod.snd (Prod.fst (Prod.snd (List.getD (List.set (mark4 (List.take (Prod.fst x) d) k ++ List.drop (Prod.fst x) d) (Int.toNat (↑(Prod.fst x) : Int)) (Prod.snd x, (Prod.fst (Prod.fst (Prod.snd (List.getD (mark4
  (List.take (Prod.fst x) d) k ++ List.drop (Prod.fst x) d) (Int.toNat (↑(Prod.fst x) : Int)) ((0 : Int), ((0 : Int), (0 : Int)), (0 : Int))))), Prod.snd (Prod.fst (Prod.snd (List.getD (mark4 (List.take (Prod.fst x) d) k
  ++ List.drop (Prod.fst x) d) (Int.toNat (↑(Prod.fst x) : Int)) ((0 : Int), ((0 : Int), (0 : Int)), (0 : Int)))))), Prod.snd (Prod.snd (List.getD (mark4 (List.take (Prod.fst x) d) k ++ List.drop (Prod.fst x) d)
  (Int.toNat (↑(Prod.fst x) : Int)) ((0 : Int), ((0 : Int), (0 : Int)), (0 : Int)))))) (Int.toNat (↑(Prod.fst x) : Int)) ((0 : Int), ((0 : Int), (0 : Int)), (0 : Int)))))), Prod.snd (Prod.snd (List.getD (List.set (mark4
  (List.take (Prod.fst x) d) k ++ List.drop (Prod.fst x) d) (Int.toNat (↑(Prod.fst x) : Int)) (Prod.snd x, (Prod.fst (Prod.fst (Prod.snd (List.getD (mark4 (List.take (Prod.fst x) d) k ++ List.drop (Prod.fst x) d)
  (Int.toNat (↑(Prod.fst x) : Int)) ((0 : Int), ((0 : Int), (0 : Int)), (0 : Int))))), Prod.snd (Prod.fst (Prod.snd (List.getD (mark4 (List.take (Prod.fst x) d) k ++ List.drop (Prod.fst x) d) (Int.toNat (↑(Prod.fst x) :
  Int)) ((0 : Int), ((0 : Int), (0 : Int)), (0 : Int)))))), Prod.snd (Prod.snd (List.getD (mark4 (List.take (Prod.fst x) d) k ++ List.drop (Prod.fst x) d) (Int.toNat (↑(Prod.fst x) : Int)) ((0 : Int), ((0 : Int), (0 :
  Int)), (0 : Int)))))) (Int.toNat (↑(Prod.fst x) : Int)) ((0 : Int), ((0 : Int), (0 : Int)), (0 : Int)))))) (Int.toNat (↑(Prod.fst x) : Int)) ((0 : Int), ((0 : Int), (0 : Int)), (0 : Int))))), IntKind.wrap IntKind.i64
  (IntKind.wrap IntKind.i64 (Prod.snd x + (1 : Int)) + (1 : Int))), Prod.snd (Prod.snd (List.getD (List.set (List.set (mark4 (List.take (Prod.fst x) d) k ++ List.drop (Prod.fst x) d) (Int.toNat (↑(Prod.fst x) : Int))
  (Prod.snd x, (Prod.fst (Prod.fst (Prod.snd (List.getD (mark4 (List.take (Prod.fst x) d) k ++ List.drop (Prod.fst x) d) (Int.toNat (↑(Prod.fst x) : Int)) ((0 : Int), ((0 : Int), (0 : Int)), (0 : Int))))), Prod.snd
  (Prod.fst (Prod.snd (List.getD (mark4 (List.take (Prod.fst x) d) k ++ List.drop (Prod.fst x) d) (Int.toNat (↑(Prod.fst x) : Int)) ((0 : Int), ((0 : Int), (0 : Int)), (0 : Int)))))), Prod.snd (Prod.snd (List.getD (mark4
  (List.take (Prod.fst x) d) k ++ List.drop (Prod.fst x) d) (Int.toNat (↑(Prod.fst x) : Int)) ((0 : Int), ((0 : Int), (0 : Int)), (0 : Int)))))) (Int.toNat (↑(Prod.fst x) : Int)) (Prod.fst (List.getD (List.set (mark4
  (List.take (Prod.fst x) d) k ++ List.drop (Prod.fst x) d) (Int.toNat (↑(Prod.fst x) : Int)) (Prod.snd x, (Prod.fst (Prod.fst (Prod.snd (List.getD (mark4 (List.take (Prod.fst x) d) k ++ List.drop (Prod.fst x) d)
  (Int.toNat (↑(Prod.fst x) : Int)) ((0 : Int), ((0 : Int), (0 : Int)), (0 : Int))))), Prod.snd (Prod.fst (Prod.snd (List.getD (mark4 (List.take (Prod.fst x) d) k ++ List.drop (Prod.fst x) d) (Int.toNat (↑(Prod.fst x) :
  Int)) ((0 : Int), ((0 : Int), (0 : Int)), (0 : Int)))))), Prod.snd (Prod.snd (List.getD (mark4 (List.take (Prod.fst x) d) k ++ List.drop (Prod.fst x) d) (Int.toNat (↑(Prod.fst x) : Int)) ((0 : Int), ((0 : Int), (0 :
  Int)), (0 : Int)))))) (Int.toNat (↑(Prod.fst x) : Int)) ((0 : Int), ((0 : Int), (0 : Int)), (0 : Int))), (IntKind.wrap IntKind.i64 (Prod.snd x + (1 : Int)), Prod.snd (Prod.fst (Prod.snd (List.getD (List.set (mark4
  (List.take (Prod.fst x) d) k ++ List.drop (Prod.fst x) d) (Int.toNat (↑(Prod.fst x) : Int)) (Prod.snd x, (Prod.fst (Prod.fst (Prod.snd (List.getD (mark4 (List.take (Prod.fst x) d) k ++ List.drop (Prod.fst x) d)
  (Int.toNat (↑(Prod.fst x) : Int)) ((0 : Int), ((0 : Int), (0 : Int)), (0 : Int))))), Prod.snd (Prod.fst (Prod.snd (List.getD (mark4 (List.take (Prod.fst x) d) k ++ List.drop (Prod.fst x) d) (Int.toNat (↑(Prod.fst x) :
  Int)) ((0 : Int), ((0 : Int), (0 : Int)), (0 : Int)))))), Prod.snd (Prod.snd (List.getD (mark4 (List.take (Prod.fst x) d) k ++ List.drop (Prod.fst x) d) (Int.toNat (↑(Prod.fst x) : Int)) ((0 : Int), ((0 : Int), (0 :
  Int)), (0 : Int)))))) (Int.toNat (↑(Prod.fst x) : Int)) ((0 : Int), ((0 : Int), (0 : Int)), (0 : Int)))))), Prod.snd (Prod.snd (List.getD (List.set (mark4 (List.take (Prod.fst x) d) k ++ List.drop (Prod.fst x) d)
  (Int.toNat (↑(Prod.fst x) : Int)) (Prod.snd x, (Prod.fst (Prod.fst (Prod.snd (List.getD (mark4 (List.take (Prod.fst x) d) k ++ List.drop (Prod.fst x) d) (Int.toNat (↑(Prod.fst x) : Int)) ((0 : Int), ((0 : Int), (0 :
  Int)), (0 : Int))))), Prod.snd (Prod.fst (Prod.snd (List.getD (mark4 (List.take (Prod.fst x) d) k ++ List.drop (Prod.fst x) d) (Int.toNat (↑(Prod.fst x) : Int)) ((0 : Int), ((0 : Int), (0 : Int)), (0 : Int)))))),
  Prod.snd (Prod.snd (List.getD (mark4 (List.take (Prod.fst x) d) k ++ List.drop (Prod.fst x) d) (Int.toNat (↑(Prod.fst x) : Int)) ((0 : Int), ((0 : Int), (0 : Int)), (0 : Int)))))) (Int.toNat (↑(Prod.fst x) : Int)) ((0
  : Int), ((0 : Int), (0 : Int)), (0 : Int)))))) (Int.toNat (↑(Prod.fst x) : Int)) ((0 : Int), ((0 : Int), (0 : Int)), (0 : Int)))))) (Int.toNat (↑(Prod.fst x) : Int)) ((0 : Int), ((0 : Int), (0 : Int)), (0 : Int)))))),
  IntKind.wrap IntKind.i64 (IntKind.wrap IntKind.i64 (IntKind.wrap IntKind.i64 (Prod.snd x + (1 : Int)) + (1 : Int)) + (1 : Int))) = mark4 (List.take (Prod.fst x') d) k ++ List.drop (Prod.fst x') d) ∧ (decide
  ((↑(Prod.fst x) : Int) < (↑(List.length (mark4 (List.take (Prod.fst x) d) k ++ List.drop (Prod.fst x) d)) : Int)) = false → Prod.snd x = end4 d k ∧ mark4 (List.take (Prod.fst x) d) k ++ List.drop (Prod.fst x) d = mark4
  d k) := by
  intro (d : List Op') k hw hk _
  have hl : d.length ≤ 9223372036854775807 := hw.1
  refine ⟨mark4_length d k, ⟨Nat.zero_le _, by simp [end4, mkEnd]⟩, ⟨⟨rfl, rfl⟩, by simp [mark4, mkGo]⟩, fun x ⟨h1, h2⟩ => ?_⟩
  obtain ⟨j, kk⟩ := x
  simp only at h1 h2
  have hlen : (mark4 (d.take j) k ++ d.drop j).length = d.length := by rw [List.length_append, mark4_length, List.length_take, List.length_drop]; omega
  have hstep : j < d.length → (mark4 (d.take j) k ++ d.drop j).set j (el4 (end4 (d.take j) k)) = mark4 (d.take (j + 1)) k ++ d.drop (j + 1) := fun h => mk_step el4 n4 d k j h
  have hend : j < d.length → end4 (d.take (j + 1)) k = n4 (end4 (d.take j) k) := fun h => mkEnd_take n4 d k j h
  refine ⟨fun h3 => ?_, fun h3 => ?_⟩
  · have h3 : j < d.length := by rw [hlen] at h3; simpa using h3
    replace hstep := hstep h3
    replace hend := hend h3
    simp only [Int.toNat_natCast]
    generalize mark4 (d.take j) k ++ d.drop j = ys at *
    have h4 : j < ys.length := by omega
    simp only [List.length_set, List.set_set, getD_set h4]
    rw [wrap_succ (by omega), hlen]
    refine ⟨⟨by omega, by omega⟩, ⟨by omega, by omega⟩, ⟨by omega, by omega⟩, ⟨by omega, by omega⟩, (j + 1, n4 kk), ⟨by simp only; omega, by simp only; rw [hend, h2]⟩, by simp only; omega, ⟨rfl, rfl⟩, ?_⟩
    rw [← hstep, h2]; rfl
  · have h4 : j = d.length := by rw [hlen] at h3; simp at h3; omega
    subst h4
    rw [List.take_length] at h2 ⊢
    rw [List.drop_length, List.append_nil]
    exact ⟨h2, rfl⟩
theorem step0 {xs : List Tk} {op : Op'} (h : op.1 = 0) : stepF xs op = ((pushF xs op.2.1).1, if (pushF xs op.2.1).2 = true then op.2.1.1 else 0) := by unfold stepF; rw [if_pos h]
theorem step1 {xs : List Tk} {op : Op'} (h : op.1 = 1) : stepF xs op = ((popF xs).1, (popF xs).2.1.1) := by unfold stepF; rw [if_neg (by omega), if_pos h]
theorem step2 {xs : List Tk} {op : Op'} (h : op.1 = 2) : stepF xs op = ((cancelSF xs op.2.2).1, (cancelSF xs op.2.2).2.1.1) := by unfold stepF; rw [if_neg (by omega), if_neg (by omega), if_pos h]
theorem step3 {xs : List Tk} {op : Op'} (h0 : ¬ op.1 = 0) (h1 : ¬ op.1 = 1) (h2 : ¬ op.1 = 2) : stepF xs op = (xs, 0) := by unfold stepF; rw [if_neg h0, if_neg h1, if_neg h2]
theorem play_at {x : List Tk × List Op'} {k : Nat × List Tk × List Int} {y : List Tk × Int} (h : PlayP x k) (hl : k.1 < x.2.length) (hy : StepP x k y) : PlayP x (k.1 + 1, y.1, k.2.2 ++ [y.2]) := by
  obtain ⟨h1, h2, h3, h4⟩ := h
  unfold StepP at hy
  refine ⟨hl, ?_, ?_, by simp [h4]⟩
  · rw [← h2, play_step hl, hy]
  · rw [hy]; exact step_ok h3 _
theorem play_end {x : List Tk × List Op'} {k : Nat × List Tk × List Int} (h : PlayP x k) (hl : ¬ k.1 < x.2.length) (h0 : lineOkF x.1 = true) (h1 : ¬ 400 < (x.2.length : Int)) : (k.2.1, k.2.2) = playF x.1 x.2 := by
  obtain ⟨k1, k2, _, _⟩ := h
  unfold playF
  rw [if_pos ⟨h0, by omega⟩, ← k2, List.drop_eq_nil_of_le (by omega)]
  rfl
theorem v_S_PlayLine :
  ∀ (d : List (Int × Int) × List (Int × (Int × Int) × Int)), Ty.wf lineT (Prod.fst d) ∧ Ty.wf (Ty.sl opT) (Prod.snd d) → List.length (Prod.fst d) ≤ (1048576 : Nat) → True ∧ ((!lineOkF (Prod.fst d)) = true → ([], []) =
  playF (Prod.fst d) (Prod.snd d)) ∧ ((!lineOkF (Prod.fst d)) = false → (decide ((400 : Int) < (↑(List.length (Prod.snd d)) : Int)) = true → ([], []) = playF (Prod.fst d) (Prod.snd d)) ∧ (decide ((400 : Int) <
  (↑(List.length (Prod.snd d)) : Int)) = false → List.length (Prod.fst d) ≤ (1048576 : Nat) ∧ (Ty.wf lineT (Prod.fst d) → PlayP d ((0 : Nat), Prod.fst d, []) ∧ ((Prod.fst d = Prod.fst d ∧ Prod.snd d = Prod.snd d ∧
  Value.slice none (0 : Nat) (0 : Nat) = Value.slice none (0 : Nat) (0 : Nat) ∧ (0 : Int) = (↑(0 : Nat) : Int)) ∧ Prod.fst d = Prod.fst d ∧ Value.slice none (0 : Nat) (0 : Nat) = Value.slice none (0 : Nat) (0 : Nat) ∧
  Prod.fst d = Prod.fst d ∧ ([] : List Int) = []) ∧ ∀ (x : Nat × List (Int × Int) × List Int), PlayP d x → (decide ((↑(Prod.fst x) : Int) < (↑(List.length (Prod.snd d)) : Int)) = true → (((0 : Int) ≤ (↑(Prod.fst x) :
  Int) ∧ (↑(Prod.fst x) : Int) < (↑(List.length (Prod.snd d)) : Int)) ∧ (decide (Prod.fst (List.getD (Prod.snd d) (Int.toNat (↑(Prod.fst x) : Int)) ((0 : Int), ((0 : Int), (0 : Int)), (0 : Int))) = (0 : Int)) = true →
  ((0 : Int) ≤ (↑(Prod.fst x) : Int) ∧ (↑(Prod.fst x) : Int) < (↑(List.length (Prod.snd d)) : Int)) ∧ List.length (Prod.fst (Prod.snd x)) ≤ (1048576 : Nat) ∧ (Ty.wf lineT (Prod.fst (pushF (Prod.fst (Prod.snd x))
  (Prod.fst (Prod.fst (Prod.snd (List.getD (Prod.snd d) (Int.toNat (↑(Prod.fst x) : Int)) ((0 : Int), ((0 : Int), (0 : Int)), (0 : Int))))), Prod.snd (Prod.fst (Prod.snd (List.getD (Prod.snd d) (Int.toNat (↑(Prod.fst x)
  : Int)) ((0 : Int), ((0 : Int), (0 : Int)), (0 : Int)))))))) ∧ Ty.wf Ty.bool (Prod.snd (pushF (Prod.fst (Prod.snd x)) (Prod.fst (Prod.fst (Prod.snd (List.getD (Prod.snd d) (Int.toNat (↑(Prod.fst x) : Int)) ((0 : Int),
  ((0 : Int), (0 : Int)), (0 : Int))))), Prod.snd (Prod.fst (Prod.snd (List.getD (Prod.snd d) (Int.toNat (↑(Prod.fst x) : Int)) ((0 : Int), ((0 : Int), (0 : Int)), (0 : Int)))))))) → (Prod.snd (pushF (Prod.fst (Prod.snd
  x)) (Prod.fst (Prod.fst (Prod.snd (List.getD (Prod.snd d) (Int.toNat (↑(Prod.fst x) : Int)) ((0 : Int), ((0 : Int), (0 : Int)), (0 : Int))))), Prod.snd (Prod.fst (Prod.snd (List.getD (Prod.snd d) (Int.toNat (↑(Prod.fst
  x) : Int)) ((0 : Int), ((0 : Int), (0 : Int)), (0 : Int))))))) = true → ((0 : Int) ≤ (↑(Prod.fst x) : Int) ∧ (↑(Prod.fst x) : Int) < (↑(List.length (Prod.snd d)) : Int)) ∧ ∃ (x' : List (Int × Int) × Int), StepP d x x'
  ∧ (Prod.fst d = Prod.fst d ∧ Prod.snd d = Prod.snd d ∧ Value.slice none (0 : Nat) (0 : Nat) = Value.slice none (0 : Nat) (0 : Nat) ∧ (↑(Prod.fst x) : Int) = (↑(Prod.fst x) : Int) ∧ Prod.fst (Prod.fst (Prod.snd
  (List.getD (Prod.snd d) (Int.toNat (↑(Prod.fst x) : Int)) ((0 : Int), ((0 : Int), (0 : Int)), (0 : Int))))) = Prod.snd x') ∧ Prod.fst d = Prod.fst d ∧ Value.slice none (0 : Nat) (0 : Nat) = Value.slice none (0 : Nat)
  (0 : Nat) ∧ Prod.fst (pushF (Prod.fst (Prod.snd x)) (Prod.fst (Prod.fst (Prod.snd (List.getD (Prod.snd d) (Int.toNat (↑(Prod.fst x) : Int)) ((0 : Int), ((0 : Int), (0 : Int)), (0 : Int))))), Prod.snd (Prod.fst
  (Prod.snd (List.getD (Prod.snd d) (Int.toNat (↑(Prod.fst x) : Int)) ((0 : Int), ((0 : Int), (0 : Int)), (0 : Int))))))) = Prod.fst x' ∧ Prod.snd (Prod.snd x) = Prod.snd (Prod.snd x)) ∧ (Prod.snd (pushF (Prod.fst
  (Prod.snd x)) (Prod.fst (Prod.fst (Prod.snd (List.getD (Prod.snd d) (Int.toNat (↑(Prod.fst x) : Int)) ((0 : Int), ((0 : Int), (0 : Int)), (0 : Int))))), Prod.snd (Prod.fst (Prod.snd (List.getD (Prod.snd d) (Int.toNat
  (↑(Prod.fst x) : Int)) ((0 : Int), ((0 : Int), (0 : Int)), (0 : Int))))))) = false → ∃ (x' : List (Int × Int) × Int), StepP d x x' ∧ (Prod.fst d = Prod.fst d ∧ Prod.snd d = Prod.snd d ∧ Value.slice none (0 : Nat) (0 :
  Nat) = Value.slice none (0 : Nat) (0 : Nat) ∧ (↑(Prod.fst x) : Int) = (↑(Prod.fst x) : Int) ∧ (0 : Int) = Prod.snd x') ∧ Prod.fst d = Prod.fst d ∧ Value.slice none (0 : Nat) (0 : Nat) = Value.slice none (0 : Nat) (0 :
  Nat) ∧ Prod.fst (pushF (Prod.fst (Prod.snd x)) (Prod.fst (Prod.fst (Prod.snd (List.getD (Prod.snd d) (Int.toNat (↑(Prod.fst x) : Int)) ((0 : Int), ((0 : Int), (0 : Int)), (0 : Int))))), Prod.snd (Prod.fst (Prod.snd
  (List.getD (Prod.snd d) (Int.toNat (↑(Prod.fst x) : Int)) ((0 : Int), ((0 : Int), (0 : Int)), (0 : Int))))))) = Prod.fst x' ∧ Prod.snd (Prod.snd x) = Prod.snd (Prod.snd x)))) ∧ (decide (Prod.fst (List.getD (Prod.snd d)
  (Int.toNat (↑(Prod.fst x) : Int)) ((0 : Int), ((0 : Int), (0 : Int)), (0 : Int))) = (0 : Int)) = false → (decide (Prod.fst (List.getD (Prod.snd d) (Int.toNat (↑(Prod.fst x) : Int)) ((0 : Int), ((0 : Int), (0 : Int)),
  (0 : Int))) = (1 : Int)) = true → List.length (Prod.fst (Prod.snd x)) ≤ (1048576 : Nat) ∧ (Ty.wf lineT (Prod.fst (popF (Prod.fst (Prod.snd x)))) ∧ Ty.wf tkT (Prod.fst (Prod.snd (popF (Prod.fst (Prod.snd x))))) ∧ Ty.wf
  Ty.bool (Prod.snd (Prod.snd (popF (Prod.fst (Prod.snd x))))) → ∃ (x' : List (Int × Int) × Int), StepP d x x' ∧ (Prod.fst d = Prod.fst d ∧ Prod.snd d = Prod.snd d ∧ Value.slice none (0 : Nat) (0 : Nat) = Value.slice
  none (0 : Nat) (0 : Nat) ∧ (↑(Prod.fst x) : Int) = (↑(Prod.fst x) : Int) ∧ Prod.fst (Prod.fst (Prod.snd (popF (Prod.fst (Prod.snd x))))) = Prod.snd x') ∧ Prod.fst d = Prod.fst d ∧ Value.slice none (0 : Nat) (0 : Nat) =
  Value.slice none (0 : Nat) (0 : Nat) ∧ Prod.fst (popF (Prod.fst (Prod.snd x))) = Prod.fst x' ∧ Prod.snd (Prod.snd x) = Prod.snd (Prod.snd x))) ∧ (decide (Prod.fst (List.getD (Prod.snd d) (Int.toNat (↑(Prod.fst x) :
  Int)) ((0 : Int), ((0 : Int), (0 : Int)), (0 : Int))) = (1 : Int)) = false → (decide (Prod.fst (List.getD (Prod.snd d) (Int.toNat (↑(Prod.fst x) : Int)) ((0 : Int), ((0 : Int), (0 : Int)), (0 : Int))) = (2 : Int)) =
  true → ((0 : Int) ≤ (↑(Prod.fst x) : Int) ∧ (↑(Prod.fst x) : Int) < (↑(List.length (Prod.snd d)) : Int)) ∧ List.length (Prod.fst (Prod.snd x)) ≤ (1048576 : Nat) ∧ (Ty.wf lineT (Prod.fst (cancelSF (Prod.fst (Prod.snd
  x)) (Prod.snd (Prod.snd (List.getD (Prod.snd d) (Int.toNat (↑(Prod.fst x) : Int)) ((0 : Int), ((0 : Int), (0 : Int)), (0 : Int))))))) ∧ Ty.wf tkT (Prod.fst (Prod.snd (cancelSF (Prod.fst (Prod.snd x)) (Prod.snd
  (Prod.snd (List.getD (Prod.snd d) (Int.toNat (↑(Prod.fst x) : Int)) ((0 : Int), ((0 : Int), (0 : Int)), (0 : Int)))))))) ∧ Ty.wf Ty.bool (Prod.snd (Prod.snd (cancelSF (Prod.fst (Prod.snd x)) (Prod.snd (Prod.snd
  (List.getD (Prod.snd d) (Int.toNat (↑(Prod.fst x) : Int)) ((0 : Int), ((0 : Int), (0 : Int)), (0 : Int)))))))) → ∃ (x' : List (Int × Int) × Int), StepP d x x' ∧ (Prod.fst d = Prod.fst d ∧ Prod.snd d = Prod.snd d ∧
  Value.slice none (0 : Nat) (0 : Nat) = Value.slice none (0 : Nat) (0 : Nat) ∧ (↑(Prod.fst x) : Int) = (↑(Prod.fst x) : Int) ∧ Prod.fst (Prod.fst (Prod.snd (cancelSF (Prod.fst (Prod.snd x)) (Prod.snd (Prod.snd
  (List.getD (Prod.snd d) (Int.toNat (↑(Prod.fst x) : Int)) ((0 : Int), ((0 : Int), (0 : Int)), (0 : Int)))))))) = Prod.snd x') ∧ Prod.fst d = Prod.fst d ∧ Value.slice none (0 : Nat) (0 : Nat) = Value.slice none (0 :
  Nat) (0 : Nat) ∧ Prod.fst (cancelSF (Prod.fst (Prod.snd x)) (Prod.snd (Prod.snd (List.getD (Prod.snd d) (Int.toNat (↑(Prod.fst x) : Int)) ((0 : Int), ((0 : Int), (0 : Int)), (0 : Int)))))) = Prod.fst x' ∧ Prod.snd
  (Prod.snd x) = Prod.snd (Prod.snd x))) ∧ (decide (Prod.fst (List.getD (Prod.snd d) (Int.toNat (↑(Prod.fst x) : Int)) ((0 : Int), ((0 : Int), (0 : Int)), (0 : Int))) = (2 : Int)) = false → ∃ (x' : List (Int × Int) ×
  Int), StepP d x x' ∧ (Prod.fst d = Prod.fst d ∧ Prod.snd d = Prod.snd d ∧ Value.slice none (0 : Nat) (0 : Nat) = Value.slice none (0 : Nat) (0 : Nat) ∧ (↑(Prod.fst x) : Int) = (↑(Prod.fst x) : Int) ∧ (0 : Int) =
  Prod.snd x') ∧ Prod.fst d = Prod.fst d ∧ Value.slice none (0 : Nat) (0 : Nat) = Value.slice none (0 : Nat) (0 : Nat) ∧ Prod.fst (Prod.snd x) = Prod.fst x' ∧ Prod.snd (Prod.snd x) = Prod.snd (Prod.snd x))))) ∧ ∀ (x_1 :
  List (Int × Int) × Int), StepP d x x_1 → (List.length (Prod.snd (Prod.snd x)) + List.length [Prod.snd x_1]) * (8 : Nat) ≤ (140737488355328 : Nat) ∧ ∃ (x' : Nat × List (Int × Int) × List Int), PlayP d x' ∧ List.length
  (Prod.snd d) - Prod.fst x' < List.length (Prod.snd d) - Prod.fst x ∧ (Prod.fst d = Prod.fst d ∧ Prod.snd d = Prod.snd d ∧ Value.slice none (0 : Nat) (0 : Nat) = Value.slice none (0 : Nat) (0 : Nat) ∧ IntKind.wrap
  IntKind.i64 ((↑(Prod.fst x) : Int) + (1 : Int)) = (↑(Prod.fst x') : Int)) ∧ Prod.fst d = Prod.fst d ∧ Value.slice none (0 : Nat) (0 : Nat) = Value.slice none (0 : Nat) (0 : Nat) ∧ Prod.fst x_1 = Prod.fst (Prod.snd x')
  ∧ Prod.snd (Prod.snd x) ++ [Prod.snd x_1] = Prod.snd (Prod.snd x')) ∧ (decide ((↑(Prod.fst x) : Int) < (↑(List.length (Prod.snd d)) : Int)) = false → (Prod.fst (Prod.snd x), Prod.snd (Prod.snd x)) = playF (Prod.fst d)
  (Prod.snd d))))) := by
  intro (d : List Tk × List Op') hw (hp : d.1.length ≤ 1048576)
  simp only [Int.toNat_natCast, exists_const, and_true, true_and, implies_true, decide_eq_true_eq, decide_eq_false_iff_not, Bool.not_eq_true', Bool.not_eq_false', beq_iff_eq, forall_const]
  refine ⟨fun h => ?_, fun h => ⟨fun h4 => ?_, fun h4 => ⟨hp, fun _ => ⟨⟨Nat.zero_le _, rfl, h, rfl⟩, rfl, fun x hx => ⟨fun h3 => ?_, fun h3 => play_end hx (by omega) h h4⟩⟩⟩⟩⟩
  · unfold playF; rw [if_neg (fun hh => by rw [hh.1] at h; cases h)]
  · unfold playF; rw [if_neg (fun hh => by omega)]
  · have hlt : x.1 < d.2.length := by omega
    have hline := line_len hx.2.2.1
    have ht := hx.2.2.2
    refine ⟨?_, fun y hy => ⟨by simp; omega, _, play_at hx hlt hy, by simp only; omega, wrap_succ (by omega), rfl, rfl⟩⟩
    unfold StepP
    generalize d.2.getD x.1 (0, (0, 0), 0) = op
    refine ⟨⟨by omega, by omega⟩, fun k0 => ⟨⟨by omega, by omega⟩, by omega, fun _ => ⟨fun hb => ⟨⟨by omega, by omega⟩, _, rfl, ?_, ?_⟩, fun hb => ⟨_, rfl, ?_, ?_⟩⟩⟩, fun k0 => ⟨fun k1 => ⟨by omega, fun _ => ⟨_, rfl, ?_, ?_⟩⟩, fun k1 => ⟨fun k2 => ⟨⟨by omega, by omega⟩, by omega, fun _ => ⟨_, rfl, ?_, ?_⟩⟩, fun k2 => ⟨_, rfl, ?_, ?_⟩⟩⟩⟩
    · rw [step0 k0]; exact (if_pos hb).symm
    · rw [step0 k0]
    · rw [step0 k0]; exact (if_neg (fun e => by rw [show (pushF x.2.1 op.2.1).2 = false from hb] at e; cases e)).symm
    · rw [step0 k0]
    · rw [step1 k1]
    · rw [step1 k1]
    · rw [step2 k2]
    · rw [step2 k2]
    · rw [step3 k0 k1 k2]
    · rw [step3 k0 k1 k2]
theorem push_same {xs : List Tk} (h : lineOkF xs = true) (t : Tk) : pushF xs t = ipushF xs t := by
  unfold pushF ipushF
  by_cases h1 : lineOkF (xs ++ [t]) = true
  · rw [if_pos ⟨h, h1⟩, if_pos h1]
  · rw [if_neg (fun hh => h1 hh.2), if_neg h1]
theorem ipush_no {xs : List Tk} {t : Tk} (h : (ipushF xs t).2 = false) : (ipushF xs t).1 = xs := by
  unfold ipushF at *
  split
  case isTrue h1 => rw [if_pos h1] at h; cases h
  case isFalse => rfl
theorem pop_some {xs : List Tk} (h : lineOkF xs = true) (h0 : 0 < xs.length) : popF xs = (delAt xs 0, xs.getD 0 (0, 0), true) := by
  unfold popF delAt; rw [if_pos ⟨h, by omega⟩]; rfl
theorem pop_none {xs : List Tk} (h0 : ¬ 0 < xs.length) : popF xs = (xs, (0, 0), false) := by
  unfold popF; rw [if_neg (fun hh => by omega)]
theorem v_I_PlayLine :
  ∀ (d : List (Int × Int) × List (Int × (Int × Int) × Int)), Ty.wf lineT (Prod.fst d) ∧ Ty.wf (Ty.sl opT) (Prod.snd d) → List.length (Prod.fst d) ≤ (1048576 : Nat) → True ∧ ((!lineOkF (Prod.fst d)) = true → ([], []) =
  playF (Prod.fst d) (Prod.snd d)) ∧ ((!lineOkF (Prod.fst d)) = false → (decide ((400 : Int) < (↑(List.length (Prod.snd d)) : Int)) = true → ([], []) = playF (Prod.fst d) (Prod.snd d)) ∧ (decide ((400 : Int) <
  (↑(List.length (Prod.snd d)) : Int)) = false → List.length (Prod.fst d) ≤ (1048576 : Nat) ∧ (Ty.wf lineT (Prod.fst d) → PlayP d ((0 : Nat), Prod.fst d, []) ∧ ((Prod.fst d = Prod.fst d ∧ Prod.snd d = Prod.snd d ∧
  Value.slice none (0 : Nat) (0 : Nat) = Value.slice none (0 : Nat) (0 : Nat) ∧ Prod.snd d = Prod.snd d ∧ (↑(List.length (Prod.snd d)) : Int) = (↑(List.length (Prod.snd d)) : Int) ∧ (0 : Int) = (↑(0 : Nat) : Int)) ∧
  Value.slice none (0 : Nat) (0 : Nat) = Value.slice none (0 : Nat) (0 : Nat) ∧ Prod.fst d = Prod.fst d ∧ ([] : List Int) = []) ∧ ∀ (x : Nat × List (Int × Int) × List Int), PlayP d x → (decide ((↑(Prod.fst x) : Int) <
  (↑(List.length (Prod.snd d)) : Int)) = true → ((0 : Int) ≤ (↑(Prod.fst x) : Int) ∧ (↑(Prod.fst x) : Int) < (↑(List.length (Prod.snd d)) : Int)) ∧ ((decide (Prod.fst (List.getD (Prod.snd d) (Int.toNat (↑(Prod.fst x) :
  Int)) ((0 : Int), ((0 : Int), (0 : Int)), (0 : Int))) = (0 : Int)) = true → List.length (Prod.fst (Prod.snd x)) ≤ (1048576 : Nat) ∧ (Ty.wf lineT (Prod.fst (ipushF (Prod.fst (Prod.snd x)) (Prod.fst (Prod.fst (Prod.snd
  (List.getD (Prod.snd d) (Int.toNat (↑(Prod.fst x) : Int)) ((0 : Int), ((0 : Int), (0 : Int)), (0 : Int))))), Prod.snd (Prod.fst (Prod.snd (List.getD (Prod.snd d) (Int.toNat (↑(Prod.fst x) : Int)) ((0 : Int), ((0 :
  Int), (0 : Int)), (0 : Int)))))))) ∧ Ty.wf Ty.bool (Prod.snd (ipushF (Prod.fst (Prod.snd x)) (Prod.fst (Prod.fst (Prod.snd (List.getD (Prod.snd d) (Int.toNat (↑(Prod.fst x) : Int)) ((0 : Int), ((0 : Int), (0 : Int)),
  (0 : Int))))), Prod.snd (Prod.fst (Prod.snd (List.getD (Prod.snd d) (Int.toNat (↑(Prod.fst x) : Int)) ((0 : Int), ((0 : Int), (0 : Int)), (0 : Int)))))))) → (Prod.snd (ipushF (Prod.fst (Prod.snd x)) (Prod.fst (Prod.fst
  (Prod.snd (List.getD (Prod.snd d) (Int.toNat (↑(Prod.fst x) : Int)) ((0 : Int), ((0 : Int), (0 : Int)), (0 : Int))))), Prod.snd (Prod.fst (Prod.snd (List.getD (Prod.snd d) (Int.toNat (↑(Prod.fst x) : Int)) ((0 : Int),
  ((0 : Int), (0 : Int)), (0 : Int))))))) = true → ∃ (x' : List (Int × Int) × Int), StepP d x x' ∧ (Prod.fst d = Prod.fst d ∧ Prod.snd d = Prod.snd d ∧ Value.slice none (0 : Nat) (0 : Nat) = Value.slice none (0 : Nat) (0
  : Nat) ∧ Prod.fst (Prod.fst (Prod.snd (List.getD (Prod.snd d) (Int.toNat (↑(Prod.fst x) : Int)) ((0 : Int), ((0 : Int), (0 : Int)), (0 : Int))))) = Prod.snd x' ∧ Prod.snd d = Prod.snd d ∧ (↑(List.length (Prod.snd d)) :
  Int) = (↑(List.length (Prod.snd d)) : Int) ∧ (↑(Prod.fst x) : Int) = (↑(Prod.fst x) : Int)) ∧ Value.slice none (0 : Nat) (0 : Nat) = Value.slice none (0 : Nat) (0 : Nat) ∧ Prod.fst (ipushF (Prod.fst (Prod.snd x))
  (Prod.fst (Prod.fst (Prod.snd (List.getD (Prod.snd d) (Int.toNat (↑(Prod.fst x) : Int)) ((0 : Int), ((0 : Int), (0 : Int)), (0 : Int))))), Prod.snd (Prod.fst (Prod.snd (List.getD (Prod.snd d) (Int.toNat (↑(Prod.fst x)
  : Int)) ((0 : Int), ((0 : Int), (0 : Int)), (0 : Int))))))) = Prod.fst x' ∧ Prod.snd (Prod.snd x) = Prod.snd (Prod.snd x) ∧ Prod.fst (List.getD (Prod.snd d) (Int.toNat (↑(Prod.fst x) : Int)) ((0 : Int), ((0 : Int), (0
  : Int)), (0 : Int))) = Prod.fst (List.getD (Prod.snd d) (Int.toNat (↑(Prod.fst x) : Int)) ((0 : Int), ((0 : Int), (0 : Int)), (0 : Int))) ∧ Prod.fst (Prod.fst (Prod.snd (List.getD (Prod.snd d) (Int.toNat (↑(Prod.fst x)
  : Int)) ((0 : Int), ((0 : Int), (0 : Int)), (0 : Int))))) = Prod.fst (Prod.fst (Prod.snd (List.getD (Prod.snd d) (Int.toNat (↑(Prod.fst x) : Int)) ((0 : Int), ((0 : Int), (0 : Int)), (0 : Int))))) ∧ Prod.snd (Prod.fst
  (Prod.snd (List.getD (Prod.snd d) (Int.toNat (↑(Prod.fst x) : Int)) ((0 : Int), ((0 : Int), (0 : Int)), (0 : Int))))) = Prod.snd (Prod.fst (Prod.snd (List.getD (Prod.snd d) (Int.toNat (↑(Prod.fst x) : Int)) ((0 : Int),
  ((0 : Int), (0 : Int)), (0 : Int))))) ∧ Prod.snd (Prod.snd (List.getD (Prod.snd d) (Int.toNat (↑(Prod.fst x) : Int)) ((0 : Int), ((0 : Int), (0 : Int)), (0 : Int)))) = Prod.snd (Prod.snd (List.getD (Prod.snd d)
  (Int.toNat (↑(Prod.fst x) : Int)) ((0 : Int), ((0 : Int), (0 : Int)), (0 : Int))))) ∧ (Prod.snd (ipushF (Prod.fst (Prod.snd x)) (Prod.fst (Prod.fst (Prod.snd (List.getD (Prod.snd d) (Int.toNat (↑(Prod.fst x) : Int))
  ((0 : Int), ((0 : Int), (0 : Int)), (0 : Int))))), Prod.snd (Prod.fst (Prod.snd (List.getD (Prod.snd d) (Int.toNat (↑(Prod.fst x) : Int)) ((0 : Int), ((0 : Int), (0 : Int)), (0 : Int))))))) = false → ∃ (x' : List (Int
  × Int) × Int), StepP d x x' ∧ (Prod.fst d = Prod.fst d ∧ Prod.snd d = Prod.snd d ∧ Value.slice none (0 : Nat) (0 : Nat) = Value.slice none (0 : Nat) (0 : Nat) ∧ (0 : Int) = Prod.snd x' ∧ Prod.snd d = Prod.snd d ∧
  (↑(List.length (Prod.snd d)) : Int) = (↑(List.length (Prod.snd d)) : Int) ∧ (↑(Prod.fst x) : Int) = (↑(Prod.fst x) : Int)) ∧ Value.slice none (0 : Nat) (0 : Nat) = Value.slice none (0 : Nat) (0 : Nat) ∧ Prod.fst
  (Prod.snd x) = Prod.fst x' ∧ Prod.snd (Prod.snd x) = Prod.snd (Prod.snd x) ∧ Prod.fst (List.getD (Prod.snd d) (Int.toNat (↑(Prod.fst x) : Int)) ((0 : Int), ((0 : Int), (0 : Int)), (0 : Int))) = Prod.fst (List.getD
  (Prod.snd d) (Int.toNat (↑(Prod.fst x) : Int)) ((0 : Int), ((0 : Int), (0 : Int)), (0 : Int))) ∧ Prod.fst (Prod.fst (Prod.snd (List.getD (Prod.snd d) (Int.toNat (↑(Prod.fst x) : Int)) ((0 : Int), ((0 : Int), (0 :
  Int)), (0 : Int))))) = Prod.fst (Prod.fst (Prod.snd (List.getD (Prod.snd d) (Int.toNat (↑(Prod.fst x) : Int)) ((0 : Int), ((0 : Int), (0 : Int)), (0 : Int))))) ∧ Prod.snd (Prod.fst (Prod.snd (List.getD (Prod.snd d)
  (Int.toNat (↑(Prod.fst x) : Int)) ((0 : Int), ((0 : Int), (0 : Int)), (0 : Int))))) = Prod.snd (Prod.fst (Prod.snd (List.getD (Prod.snd d) (Int.toNat (↑(Prod.fst x) : Int)) ((0 : Int), ((0 : Int), (0 : Int)), (0 :
  Int))))) ∧ Prod.snd (Prod.snd (List.getD (Prod.snd d) (Int.toNat (↑(Prod.fst x) : Int)) ((0 : Int), ((0 : Int), (0 : Int)), (0 : Int)))) = Prod.snd (Prod.snd (List.getD (Prod.snd d) (Int.toNat (↑(Prod.fst x) : Int))
  ((0 : Int), ((0 : Int), (0 : Int)), (0 : Int))))))) ∧ (decide (Prod.fst (List.getD (Prod.snd d) (Int.toNat (↑(Prod.fst x) : Int)) ((0 : Int), ((0 : Int), (0 : Int)), (0 : Int))) = (0 : Int)) = false → (decide (Prod.fst
  (List.getD (Prod.snd d) (Int.toNat (↑(Prod.fst x) : Int)) ((0 : Int), ((0 : Int), (0 : Int)), (0 : Int))) = (1 : Int)) = true → (decide ((0 : Int) < (↑(List.length (Prod.fst (Prod.snd x))) : Int)) = true → ((0 : Int) ≤
  (0 : Int) ∧ (0 : Int) < (↑(List.length (Prod.fst (Prod.snd x))) : Int)) ∧ ((0 : Tup [i64T]) ≤ (0 : Int) ∧ (0 : Int) < (↑(List.length (Prod.fst (Prod.snd x))) : Int) ∧ List.length (Prod.fst (Prod.snd x)) ≤ (1048576 :
  Nat)) ∧ (Ty.wf lineT (delAt (Prod.fst (Prod.snd x)) (0 : Int)) → ∃ (x' : List (Int × Int) × Int), StepP d x x' ∧ (Prod.fst d = Prod.fst d ∧ Prod.snd d = Prod.snd d ∧ Value.slice none (0 : Nat) (0 : Nat) = Value.slice
  none (0 : Nat) (0 : Nat) ∧ Prod.fst (List.getD (Prod.fst (Prod.snd x)) (Int.toNat (0 : Int)) ((0 : Int), (0 : Int))) = Prod.snd x' ∧ Prod.snd d = Prod.snd d ∧ (↑(List.length (Prod.snd d)) : Int) = (↑(List.length
  (Prod.snd d)) : Int) ∧ (↑(Prod.fst x) : Int) = (↑(Prod.fst x) : Int)) ∧ Value.slice none (0 : Nat) (0 : Nat) = Value.slice none (0 : Nat) (0 : Nat) ∧ delAt (Prod.fst (Prod.snd x)) (0 : Int) = Prod.fst x' ∧ Prod.snd
  (Prod.snd x) = Prod.snd (Prod.snd x) ∧ Prod.fst (List.getD (Prod.snd d) (Int.toNat (↑(Prod.fst x) : Int)) ((0 : Int), ((0 : Int), (0 : Int)), (0 : Int))) = Prod.fst (List.getD (Prod.snd d) (Int.toNat (↑(Prod.fst x) :
  Int)) ((0 : Int), ((0 : Int), (0 : Int)), (0 : Int))) ∧ Prod.fst (Prod.fst (Prod.snd (List.getD (Prod.snd d) (Int.toNat (↑(Prod.fst x) : Int)) ((0 : Int), ((0 : Int), (0 : Int)), (0 : Int))))) = Prod.fst (Prod.fst
  (Prod.snd (List.getD (Prod.snd d) (Int.toNat (↑(Prod.fst x) : Int)) ((0 : Int), ((0 : Int), (0 : Int)), (0 : Int))))) ∧ Prod.snd (Prod.fst (Prod.snd (List.getD (Prod.snd d) (Int.toNat (↑(Prod.fst x) : Int)) ((0 : Int),
  ((0 : Int), (0 : Int)), (0 : Int))))) = Prod.snd (Prod.fst (Prod.snd (List.getD (Prod.snd d) (Int.toNat (↑(Prod.fst x) : Int)) ((0 : Int), ((0 : Int), (0 : Int)), (0 : Int))))) ∧ Prod.snd (Prod.snd (List.getD (Prod.snd
  d) (Int.toNat (↑(Prod.fst x) : Int)) ((0 : Int), ((0 : Int), (0 : Int)), (0 : Int)))) = Prod.snd (Prod.snd (List.getD (Prod.snd d) (Int.toNat (↑(Prod.fst x) : Int)) ((0 : Int), ((0 : Int), (0 : Int)), (0 : Int)))))) ∧
  (decide ((0 : Int) < (↑(List.length (Prod.fst (Prod.snd x))) : Int)) = false → ∃ (x' : List (Int × Int) × Int), StepP d x x' ∧ (Prod.fst d = Prod.fst d ∧ Prod.snd d = Prod.snd d ∧ Value.slice none (0 : Nat) (0 : Nat) =
  Value.slice none (0 : Nat) (0 : Nat) ∧ (0 : Int) = Prod.snd x' ∧ Prod.snd d = Prod.snd d ∧ (↑(List.length (Prod.snd d)) : Int) = (↑(List.length (Prod.snd d)) : Int) ∧ (↑(Prod.fst x) : Int) = (↑(Prod.fst x) : Int)) ∧
  Value.slice none (0 : Nat) (0 : Nat) = Value.slice none (0 : Nat) (0 : Nat) ∧ Prod.fst (Prod.snd x) = Prod.fst x' ∧ Prod.snd (Prod.snd x) = Prod.snd (Prod.snd x) ∧ Prod.fst (List.getD (Prod.snd d) (Int.toNat
  (↑(Prod.fst x) : Int)) ((0 : Int), ((0 : Int), (0 : Int)), (0 : Int))) = Prod.fst (List.getD (Prod.snd d) (Int.toNat (↑(Prod.fst x) : Int)) ((0 : Int), ((0 : Int), (0 : Int)), (0 : Int))) ∧ Prod.fst (Prod.fst (Prod.snd
  (List.getD (Prod.snd d) (Int.toNat (↑(Prod.fst x) : Int)) ((0 : Int), ((0 : Int), (0 : Int)), (0 : Int))))) = Prod.fst (Prod.fst (Prod.snd (List.getD (Prod.snd d) (Int.toNat (↑(Prod.fst x) : Int)) ((0 : Int), ((0 :
  Int), (0 : Int)), (0 : Int))))) ∧ Prod.snd (Prod.fst (Prod.snd (List.getD (Prod.snd d) (Int.toNat (↑(Prod.fst x) : Int)) ((0 : Int), ((0 : Int), (0 : Int)), (0 : Int))))) = Prod.snd (Prod.fst (Prod.snd (List.getD
  (Prod.snd d) (Int.toNat (↑(Prod.fst x) : Int)) ((0 : Int), ((0 : Int), (0 : Int)), (0 : Int))))) ∧ Prod.snd (Prod.snd (List.getD (Prod.snd d) (Int.toNat (↑(Prod.fst x) : Int)) ((0 : Int), ((0 : Int), (0 : Int)), (0 :
  Int)))) = Prod.snd (Prod.snd (List.getD (Prod.snd d) (Int.toNat (↑(Prod.fst x) : Int)) ((0 : Int), ((0 : Int), (0 : Int)), (0 : Int)))))) ∧ (decide (Prod.fst (List.getD (Prod.snd d) (Int.toNat (↑(Prod.fst x) : Int))
  ((0 : Int), ((0 : Int), (0 : Int)), (0 : Int))) = (1 : Int)) = false → (decide (Prod.fst (List.getD (Prod.snd d) (Int.toNat (↑(Prod.fst x) : Int)) ((0 : Int), ((0 : Int), (0 : Int)), (0 : Int))) = (2 : Int)) = true →
  True ∧ (Ty.wf i64T (idxGo (Prod.snd (Prod.snd (List.getD (Prod.snd d) (Int.toNat (↑(Prod.fst x) : Int)) ((0 : Int), ((0 : Int), (0 : Int)), (0 : Int))))) (Prod.fst (Prod.snd x)) (0 : Nat)) → (decide ((0 : Int) ≤ idxGo
  (Prod.snd (Prod.snd (List.getD (Prod.snd d) (Int.toNat (↑(Prod.fst x) : Int)) ((0 : Int), ((0 : Int), (0 : Int)), (0 : Int))))) (Prod.fst (Prod.snd x)) (0 : Nat)) = true → ((0 : Tup [i64T]) ≤ idxGo (Prod.snd (Prod.snd
  (List.getD (Prod.snd d) (Int.toNat (↑(Prod.fst x) : Int)) ((0 : Int), ((0 : Int), (0 : Int)), (0 : Int))))) (Prod.fst (Prod.snd x)) (0 : Nat) ∧ idxGo (Prod.snd (Prod.snd (List.getD (Prod.snd d) (Int.toNat (↑(Prod.fst
  x) : Int)) ((0 : Int), ((0 : Int), (0 : Int)), (0 : Int))))) (Prod.fst (Prod.snd x)) (0 : Nat) < (↑(List.length (Prod.fst (Prod.snd x))) : Int) ∧ List.length (Prod.fst (Prod.snd x)) ≤ (1048576 : Nat)) ∧ (Ty.wf lineT
  (delAt (Prod.fst (Prod.snd x)) (idxGo (Prod.snd (Prod.snd (List.getD (Prod.snd d) (Int.toNat (↑(Prod.fst x) : Int)) ((0 : Int), ((0 : Int), (0 : Int)), (0 : Int))))) (Prod.fst (Prod.snd x)) (0 : Nat))) → ∃ (x' : List
  (Int × Int) × Int), StepP d x x' ∧ (Prod.fst d = Prod.fst d ∧ Prod.snd d = Prod.snd d ∧ Value.slice none (0 : Nat) (0 : Nat) = Value.slice none (0 : Nat) (0 : Nat) ∧ Prod.snd (Prod.snd (List.getD (Prod.snd d)
  (Int.toNat (↑(Prod.fst x) : Int)) ((0 : Int), ((0 : Int), (0 : Int)), (0 : Int)))) = Prod.snd x' ∧ Prod.snd d = Prod.snd d ∧ (↑(List.length (Prod.snd d)) : Int) = (↑(List.length (Prod.snd d)) : Int) ∧ (↑(Prod.fst x) :
  Int) = (↑(Prod.fst x) : Int)) ∧ Value.slice none (0 : Nat) (0 : Nat) = Value.slice none (0 : Nat) (0 : Nat) ∧ delAt (Prod.fst (Prod.snd x)) (idxGo (Prod.snd (Prod.snd (List.getD (Prod.snd d) (Int.toNat (↑(Prod.fst x) :
  Int)) ((0 : Int), ((0 : Int), (0 : Int)), (0 : Int))))) (Prod.fst (Prod.snd x)) (0 : Nat)) = Prod.fst x' ∧ Prod.snd (Prod.snd x) = Prod.snd (Prod.snd x) ∧ Prod.fst (List.getD (Prod.snd d) (Int.toNat (↑(Prod.fst x) :
  Int)) ((0 : Int), ((0 : Int), (0 : Int)), (0 : Int))) = Prod.fst (List.getD (Prod.snd d) (Int.toNat (↑(Prod.fst x) : Int)) ((0 : Int), ((0 : Int), (0 : Int)), (0 : Int))) ∧ Prod.fst (Prod.fst (Prod.snd (List.getD
  (Prod.snd d) (Int.toNat (↑(Prod.fst x) : Int)) ((0 : Int), ((0 : Int), (0 : Int)), (0 : Int))))) = Prod.fst (Prod.fst (Prod.snd (List.getD (Prod.snd d) (Int.toNat (↑(Prod.fst x) : Int)) ((0 : Int), ((0 : Int), (0 :
  Int)), (0 : Int))))) ∧ Prod.snd (Prod.fst (Prod.snd (List.getD (Prod.snd d) (Int.toNat (↑(Prod.fst x) : Int)) ((0 : Int), ((0 : Int), (0 : Int)), (0 : Int))))) = Prod.snd (Prod.fst (Prod.snd (List.getD (Prod.snd d)
  (Int.toNat (↑(Prod.fst x) : Int)) ((0 : Int), ((0 : Int), (0 : Int)), (0 : Int))))) ∧ Prod.snd (Prod.snd (List.getD (Prod.snd d) (Int.toNat (↑(Prod.fst x) : Int)) ((0 : Int), ((0 : Int), (0 : Int)), (0 : Int)))) =
  Prod.snd (Prod.snd (List.getD (Prod.snd d) (Int.toNat (↑(Prod.fst x) : Int)) ((0 : Int), ((0 : Int), (0 : Int)), (0 : Int)))))) ∧ (decide ((0 : Int) ≤ idxGo (Prod.snd (Prod.snd (List.getD (Prod.snd d) (Int.toNat
  (↑(Prod.fst x) : Int)) ((0 : Int), ((0 : Int), (0 : Int)), (0 : Int))))) (Prod.fst (Prod.snd x)) (0 : Nat)) = false → ∃ (x' : List (Int × Int) × Int), StepP d x x' ∧ (Prod.fst d = Prod.fst d ∧ Prod.snd d = Prod.snd d ∧
  Value.slice none (0 : Nat) (0 : Nat) = Value.slice none (0 : Nat) (0 : Nat) ∧ (0 : Int) = Prod.snd x' ∧ Prod.snd d = Prod.snd d ∧ (↑(List.length (Prod.snd d)) : Int) = (↑(List.length (Prod.snd d)) : Int) ∧ (↑(Prod.fst
  x) : Int) = (↑(Prod.fst x) : Int)) ∧ Value.slice none (0 : Nat) (0 : Nat) = Value.slice none (0 : Nat) (0 : Nat) ∧ Prod.fst (Prod.snd x) = Prod.fst x' ∧ Prod.snd (Prod.snd x) = Prod.snd (Prod.snd x) ∧ Prod.fst
  (List.getD (Prod.snd d) (Int.toNat (↑(Prod.fst x) : Int)) ((0 : Int), ((0 : Int), (0 : Int)), (0 : Int))) = Prod.fst (List.getD (Prod.snd d) (Int.toNat (↑(Prod.fst x) : Int)) ((0 : Int), ((0 : Int), (0 : Int)), (0 :
  Int))) ∧ Prod.fst (Prod.fst (Prod.snd (List.getD (Prod.snd d) (Int.toNat (↑(Prod.fst x) : Int)) ((0 : Int), ((0 : Int), (0 : Int)), (0 : Int))))) = Prod.fst (Prod.fst (Prod.snd (List.getD (Prod.snd d) (Int.toNat
  (↑(Prod.fst x) : Int)) ((0 : Int), ((0 : Int), (0 : Int)), (0 : Int))))) ∧ Prod.snd (Prod.fst (Prod.snd (List.getD (Prod.snd d) (Int.toNat (↑(Prod.fst x) : Int)) ((0 : Int), ((0 : Int), (0 : Int)), (0 : Int))))) =
  Prod.snd (Prod.fst (Prod.snd (List.getD (Prod.snd d) (Int.toNat (↑(Prod.fst x) : Int)) ((0 : Int), ((0 : Int), (0 : Int)), (0 : Int))))) ∧ Prod.snd (Prod.snd (List.getD (Prod.snd d) (Int.toNat (↑(Prod.fst x) : Int))
  ((0 : Int), ((0 : Int), (0 : Int)), (0 : Int)))) = Prod.snd (Prod.snd (List.getD (Prod.snd d) (Int.toNat (↑(Prod.fst x) : Int)) ((0 : Int), ((0 : Int), (0 : Int)), (0 : Int))))))) ∧ (decide (Prod.fst (List.getD
  (Prod.snd d) (Int.toNat (↑(Prod.fst x) : Int)) ((0 : Int), ((0 : Int), (0 : Int)), (0 : Int))) = (2 : Int)) = false → ∃ (x' : List (Int × Int) × Int), StepP d x x' ∧ (Prod.fst d = Prod.fst d ∧ Prod.snd d = Prod.snd d ∧
  Value.slice none (0 : Nat) (0 : Nat) = Value.slice none (0 : Nat) (0 : Nat) ∧ (0 : Int) = Prod.snd x' ∧ Prod.snd d = Prod.snd d ∧ (↑(List.length (Prod.snd d)) : Int) = (↑(List.length (Prod.snd d)) : Int) ∧ (↑(Prod.fst
  x) : Int) = (↑(Prod.fst x) : Int)) ∧ Value.slice none (0 : Nat) (0 : Nat) = Value.slice none (0 : Nat) (0 : Nat) ∧ Prod.fst (Prod.snd x) = Prod.fst x' ∧ Prod.snd (Prod.snd x) = Prod.snd (Prod.snd x) ∧ Prod.fst
  (List.getD (Prod.snd d) (Int.toNat (↑(Prod.fst x) : Int)) ((0 : Int), ((0 : Int), (0 : Int)), (0 : Int))) = Prod.fst (List.getD (Prod.snd d) (Int.toNat (↑(Prod.fst x) : Int)) ((0 : Int), ((0 : Int), (0 : Int)), (0 :
  Int))) ∧ Prod.fst (Prod.fst (Prod.snd (List.getD (Prod.snd d) (Int.toNat (↑(Prod.fst x) : Int)) ((0 : Int), ((0 : Int), (0 : Int)), (0 : Int))))) = Prod.fst (Prod.fst (Prod.snd (List.getD (Prod.snd d) (Int.toNat
  (↑(Prod.fst x) : Int)) ((0 : Int), ((0 : Int), (0 : Int)), (0 : Int))))) ∧ Prod.snd (Prod.fst (Prod.snd (List.getD (Prod.snd d) (Int.toNat (↑(Prod.fst x) : Int)) ((0 : Int), ((0 : Int), (0 : Int)), (0 : Int))))) =
  Prod.snd (Prod.fst (Prod.snd (List.getD (Prod.snd d) (Int.toNat (↑(Prod.fst x) : Int)) ((0 : Int), ((0 : Int), (0 : Int)), (0 : Int))))) ∧ Prod.snd (Prod.snd (List.getD (Prod.snd d) (Int.toNat (↑(Prod.fst x) : Int))
  ((0 : Int), ((0 : Int), (0 : Int)), (0 : Int)))) = Prod.snd (Prod.snd (List.getD (Prod.snd d) (Int.toNat (↑(Prod.fst x) : Int)) ((0 : Int), ((0 : Int), (0 : Int)), (0 : Int)))))))) ∧ ∀ (x_1 : List (Int × Int) × Int),
  StepP d x x_1 → (List.length (Prod.snd (Prod.snd x)) + List.length [Prod.snd x_1]) * (8 : Nat) ≤ (140737488355328 : Nat) ∧ ∃ (x' : Nat × List (Int × Int) × List Int), PlayP d x' ∧ List.length (Prod.snd d) - Prod.fst x'
  < List.length (Prod.snd d) - Prod.fst x ∧ (Prod.fst d = Prod.fst d ∧ Prod.snd d = Prod.snd d ∧ Value.slice none (0 : Nat) (0 : Nat) = Value.slice none (0 : Nat) (0 : Nat) ∧ Prod.snd d = Prod.snd d ∧ (↑(List.length
  (Prod.snd d)) : Int) = (↑(List.length (Prod.snd d)) : Int) ∧ IntKind.wrap IntKind.i64 ((↑(Prod.fst x) : Int) + (1 : Int)) = (↑(Prod.fst x') : Int)) ∧ Value.slice none (0 : Nat) (0 : Nat) = Value.slice none (0 : Nat) (0
  : Nat) ∧ Prod.fst x_1 = Prod.fst (Prod.snd x') ∧ Prod.snd (Prod.snd x) ++ [Prod.snd x_1] = Prod.snd (Prod.snd x')) ∧ (decide ((↑(Prod.fst x) : Int) < (↑(List.length (Prod.snd d)) : Int)) = false → (Prod.fst (Prod.snd
  x), Prod.snd (Prod.snd x)) = playF (Prod.fst d) (Prod.snd d))))) := by
  intro (d : List Tk × List Op') hw (hp : d.1.length ≤ 1048576)
  simp only [Int.toNat_natCast, exists_const, and_true, true_and, implies_true, decide_eq_true_eq, decide_eq_false_iff_not, Bool.not_eq_true', Bool.not_eq_false', beq_iff_eq, forall_const]
  refine ⟨fun h => ?_, fun h => ⟨fun h4 => ?_, fun h4 => ⟨hp, fun _ => ⟨⟨Nat.zero_le _, rfl, h, rfl⟩, rfl, fun x hx => ⟨fun h3 => ?_, fun h3 => play_end hx (by omega) h h4⟩⟩⟩⟩⟩
  · unfold playF; rw [if_neg (fun hh => by rw [hh.1] at h; cases h)]
  · unfold playF; rw [if_neg (fun hh => by omega)]
  · have hlt : x.1 < d.2.length := by omega
    have hok := hx.2.2.1
    have hline := line_len hx.2.2.1
    have ht := hx.2.2.2
    refine ⟨⟨by omega, by omega⟩, ?_, fun y hy => ⟨by simp; omega, _, play_at hx hlt hy, by simp only; omega, wrap_succ (by omega), rfl, rfl⟩⟩
    unfold StepP
    generalize d.2.getD x.1 (0, (0, 0), 0) = op
    have hcut := line_cut hok op.2.2
    refine ⟨fun k0 => ⟨by omega, fun _ => ⟨fun hb => ⟨_, rfl, ?_, ?_⟩, fun hb => ⟨_, rfl, ?_, ?_⟩⟩⟩, fun k0 => ⟨fun k1 => ⟨fun k2 => ⟨⟨by omega, by omega⟩, ⟨Int.le_refl _, k2, by omega⟩, fun _ => ⟨_, rfl, ?_, ?_⟩⟩, fun k2 => ⟨_, rfl, ?_, ?_⟩⟩, fun k1 => ⟨fun k2 _ => ⟨fun hi => ⟨⟨hi, ?_, by omega⟩, fun _ => ⟨_, rfl, ?_, ?_⟩⟩, fun hi => ⟨_, rfl, ?_, ?_⟩⟩, fun k2 => ⟨_, rfl, ?_, ?_⟩⟩⟩⟩
    · rw [step0 k0, push_same hok]; exact (if_pos hb).symm
    · rw [step0 k0, push_same hok]
    · rw [step0 k0, push_same hok]; exact (if_neg (fun e => by rw [show (ipushF x.2.1 op.2.1).2 = false from hb] at e; cases e)).symm
    · rw [step0 k0, push_same hok]; exact (ipush_no hb).symm
    · rw [step1 k1, pop_some hok (by omega)]; rfl
    · rw [step1 k1, pop_some hok (by omega)]
    · rw [step1 k1, pop_none (by omega)]
    · rw [step1 k1, pop_none (by omega)]
    · rcases hcut with ⟨h1, _⟩ | ⟨j, h1, h2, _⟩ <;> omega
    · rcases hcut with ⟨h1, _⟩ | ⟨j, h1, h2, h5, h6, h7, h8⟩
      · omega
      · rw [step2 k2]; unfold cancelSF; rw [if_pos hok]; simp only; rw [h6, h7]
    · rcases hcut with ⟨h1, _⟩ | ⟨j, h1, h2, h5, h6, h7, h8⟩
      · omega
      · rw [step2 k2]; unfold cancelSF; rw [if_pos hok]; simp only; rw [h2, h5]
    · rcases hcut with ⟨h1, h2, h5⟩ | ⟨j, h1, h2, h5, h6, h7, h8⟩
      · rw [step2 k2]; unfold cancelSF; rw [if_pos hok]; simp only; rw [h5]
      · omega
    · rcases hcut with ⟨h1, h2, h5⟩ | ⟨j, h1, h2, h5, h6, h7, h8⟩
      · rw [step2 k2]; unfold cancelSF; rw [if_pos hok]; simp only; rw [h2]
      · omega
    · rw [step3 k0 k1 k2]
    · rw [step3 k0 k1 k2]
end Go.SF
