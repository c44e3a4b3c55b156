/- What is owed of the code of the functions that make lines anew. No condition. -/
import Derived.Test.YtnjihkeflkemdaaSxC
import Derived.Test.YtnjihkeflkemdaaSxPLine
import Derived.Test.YtnjihkeflkemdaaSxPMark
namespace Go.SF
open Go.SX Go
set_option linter.unusedVariables false
set_option linter.unusedSimpArgs false
set_option maxRecDepth 10000
theorem take_succ' {α : Type} {xs : List α} {x : Nat} {z : α} (h : x < xs.length) : xs.take x ++ [xs.getD x z] = xs.take (x + 1) := by
  rw [List.take_add_one, List.getElem?_eq_getElem h, List.getD_eq_getElem?_getD, List.getElem?_eq_getElem h]; rfl
theorem goneGo_append (id : Int) : ∀ (xs ys : List Tk) (g : Tk), goneGo id (xs ++ ys) g = goneGo id ys (goneGo id xs g)
  | [], ys, g => rfl
  | x :: xs, ys, g => goneGo_append id xs ys _
theorem held2_pos {xs : List (Int × Int)} (h : xs.length ≤ 4194304) : neg1 (held2 (mark2 xs 1) 1) = end2 xs 1 ∧ 0 ≤ end2 xs 1 := by
  have h1 := end2_small xs (k := 1) (by omega) (by omega)
  rw [held2_mark]
  unfold neg1
  rw [if_neg (by omega)]
  exact ⟨rfl, by omega⟩
theorem push_len (xs : List Tk) (t : Tk) : (pushF xs t).1.length ≤ xs.length + 1 := by
  unfold pushF; split
  · simp
  · simp
theorem pop_len (xs : List Tk) : (popF xs).1.length ≤ xs.length := by
  unfold popF; split
  · simp
  · simp
theorem line_ids {xs : List Tk} (h : lineOkF xs = true) : (∀ j, j < xs.length → 1 ≤ (xs.getD j (0, 0)).1) ∧ ∀ i j, i < j → j < xs.length → (xs.getD i (0, 0)).1 < (xs.getD j (0, 0)).1 := by
  unfold lineOkF at h
  rw [Bool.and_eq_true, decide_eq_true_eq, decide_eq_true_eq] at h
  have hp := h.2
  refine ⟨fun j hj => ?_, fun i j hij hj => ?_⟩
  · have := (hp j hj).1
    unfold isTicketF at this
    simp only [Bool.and_eq_true, decide_eq_true_eq] at this
    omega
  · induction j with
    | zero => omega
    | succ j ih =>
      have h1 := (hp (j + 1) hj).2 (by omega)
      rw [Nat.add_sub_cancel] at h1
      by_cases e : i = j
      · subst e; exact h1
      · have := ih (by omega) (by omega); omega
/-- To cancel the first ticket of a line is to pop it. -/
theorem cancel_head {xs : List Tk} (h : lineOkF xs = true) (h0 : xs.length ≠ 0) : cancelSF xs (xs.getD 0 (0, 0)).1 = (xs.drop 1, xs.getD 0 (0, 0), true) := by
  obtain ⟨i1, i2⟩ := line_ids h
  cases xs with
  | nil => exact absurd rfl h0
  | cons x xs =>
    have hne : ∀ y ∈ xs, ¬ y.1 = x.1 := by
      intro y hy e
      obtain ⟨j, hj, rfl⟩ := List.getElem_of_mem hy
      have := i2 0 (j + 1) (by omega) (by simp; exact hj)
      simp only [List.getD_cons_zero, List.getD_cons_succ] at this
      rw [List.getD_eq_getElem?_getD, List.getElem?_eq_getElem hj] at this
      simp only [Option.getD_some] at this
      omega
    have h1 : 1 ≤ x.1 := i1 0 (by simp)
    unfold cancelSF
    rw [if_pos h]
    simp only [List.getD_cons_zero, List.drop_one, List.tail_cons]
    have hg : ∀ (ys : List Tk) (g : Tk), (∀ y ∈ ys, ¬ y.1 = x.1) → goneGo x.1 ys g = g := by
      intro ys
      induction ys with
      | nil => intro g _; rfl
      | cons y ys ih => intro g hy; unfold goneGo; rw [if_neg (hy y (List.mem_cons_self ..))]; exact ih g (fun z hz => hy z (List.mem_cons_of_mem _ hz))
    have e1 : goneGo x.1 (x :: xs) (0, 0) = x := by unfold goneGo; rw [if_pos rfl]; exact hg xs x hne
    have e2 : restF x.1 (x :: xs) = xs := by
      unfold restF
      rw [List.filter_cons_of_neg (by simp)]
      exact List.filter_eq_self.2 (fun y hy => by simp [hne y hy])
    rw [e1, e2, show decide (x.1 = 0) = false from decide_eq_false (by omega)]
    rfl
theorem v_S_l13Copy :
  ∀ (d : List (Int × Int)), Ty.wf lineT d → List.length d ≤ (1048576 : Nat) → (0 : Nat) ≤ List.length d ∧ ((d = d ∧ (0 : Int) = (↑(0 : Nat) : Int)) ∧ d = d ∧ Value.slice none (0 : Nat) (0 : Nat) = Value.slice none (0 :
  Nat) (0 : Nat) ∧ List.take (0 : Nat) d = []) ∧ ∀ (x : Nat), x ≤ List.length d → (decide ((↑x : Int) < (↑(List.length d) : Int)) = true → ((0 : Int) ≤ (↑x : Int) ∧ (↑x : Int) < (↑(List.length d) : Int)) ∧ (List.length
  (List.take x d) + List.length [(Prod.fst (List.getD d (Int.toNat (↑x : Int)) ((0 : Int), (0 : Int))), Prod.snd (List.getD d (Int.toNat (↑x : Int)) ((0 : Int), (0 : Int))))]) * (16 : Nat) ≤ (140737488355328 : Nat) ∧ ∃
  (x' : Nat), x' ≤ List.length d ∧ List.length d - x' < List.length d - x ∧ (d = d ∧ IntKind.wrap IntKind.i64 ((↑x : Int) + (1 : Int)) = (↑x' : Int)) ∧ d = d ∧ Value.slice none (0 : Nat) (0 : Nat) = Value.slice none (0 :
  Nat) (0 : Nat) ∧ List.take x d ++ [(Prod.fst (List.getD d (Int.toNat (↑x : Int)) ((0 : Int), (0 : Int))), Prod.snd (List.getD d (Int.toNat (↑x : Int)) ((0 : Int), (0 : Int))))] = List.take x' d) ∧ (decide ((↑x : Int) <
  (↑(List.length d) : Int)) = false → List.take x d = d) := by
  intro (d : List Tk) hw (hp : d.length ≤ 1048576)
  simp only [Int.toNat_natCast, exists_const, and_true, true_and, implies_true, decide_eq_true_eq, decide_eq_false_iff_not, Bool.not_eq_true', Bool.not_eq_false', beq_iff_eq, forall_const]
  refine ⟨by omega, by simp, fun x h1 => ⟨fun h3 => ?_, fun h3 => ?_⟩⟩
  · have h4 : x < d.length := by omega
    rw [wrap_succ (by omega)]
    refine ⟨⟨by omega, by omega⟩, ?_, x + 1, by omega, by omega, rfl, take_succ' h4⟩
    simp; omega
  · have h4 : x = d.length := by omega
    subst h4
    rw [List.take_length]
theorem v_I_copyLine :
  ∀ (d : List (Int × Int)), Ty.wf lineT d → List.length d ≤ (1048576 : Nat) → ((0 : Nat) + List.length d) * (16 : Nat) ≤ (140737488355328 : Nat) ∧ [] ++ d = d := by
  intro (d : List Tk) hw (hp : d.length ≤ 1048576)
  exact ⟨by omega, rfl⟩
theorem v_S_Cancel :
  ∀ (d : List (Int × Int) × Int), Ty.wf lineT (Prod.fst d) ∧ Ty.wf i64T (Prod.snd d) → List.length (Prod.fst d) ≤ (1048576 : Nat) → True ∧ ((!lineOkF (Prod.fst d)) = true → List.length (Prod.fst d) ≤ (1048576 : Nat) ∧
  (Ty.wf lineT (Prod.fst d) → (Prod.fst d, ((0 : Int), (0 : Int)), false) = cancelSF (Prod.fst d) (Prod.snd d))) ∧ ((!lineOkF (Prod.fst d)) = false → ((0 : Nat) ≤ List.length (Prod.fst d) ∧ ((0 : Int), (0 : Int)) =
  goneGo (Prod.snd d) (List.take (0 : Nat) (Prod.fst d)) ((0 : Int), (0 : Int))) ∧ ((Prod.fst d = Prod.fst d ∧ Prod.snd d = Prod.snd d ∧ (0 : Int) = (↑(0 : Nat) : Int)) ∧ Prod.fst d = Prod.fst d ∧ Value.slice none (0 :
  Nat) (0 : Nat) = Value.slice none (0 : Nat) (0 : Nat) ∧ ((0 : Int) = (0 : Int) ∧ (0 : Int) = (0 : Int)) ∧ ((0 : Int) = (0 : Int) ∧ (0 : Int) = (0 : Int)) ∧ restF (Prod.snd d) (List.take (0 : Nat) (Prod.fst d)) = []) ∧
  ∀ (x : Nat × Int × Int), Prod.fst x ≤ List.length (Prod.fst d) ∧ Prod.snd x = goneGo (Prod.snd d) (List.take (Prod.fst x) (Prod.fst d)) ((0 : Int), (0 : Int)) → (decide ((↑(Prod.fst x) : Int) < (↑(List.length (Prod.fst
  d)) : Int)) = true → ((0 : Int) ≤ (↑(Prod.fst x) : Int) ∧ (↑(Prod.fst x) : Int) < (↑(List.length (Prod.fst d)) : Int)) ∧ (decide (Prod.fst (List.getD (Prod.fst d) (Int.toNat (↑(Prod.fst x) : Int)) ((0 : Int), (0 :
  Int))) = Prod.snd d) = true → ((0 : Int) ≤ (↑(Prod.fst x) : Int) ∧ (↑(Prod.fst x) : Int) < (↑(List.length (Prod.fst d)) : Int)) ∧ ∃ (x' : Nat × Int × Int), (Prod.fst x' ≤ List.length (Prod.fst d) ∧ Prod.snd x' = goneGo
  (Prod.snd d) (List.take (Prod.fst x') (Prod.fst d)) ((0 : Int), (0 : Int))) ∧ List.length (Prod.fst d) - Prod.fst x' < List.length (Prod.fst d) - Prod.fst x ∧ (Prod.fst d = Prod.fst d ∧ Prod.snd d = Prod.snd d ∧
  IntKind.wrap IntKind.i64 ((↑(Prod.fst x) : Int) + (1 : Int)) = (↑(Prod.fst x') : Int)) ∧ Prod.fst d = Prod.fst d ∧ Value.slice none (0 : Nat) (0 : Nat) = Value.slice none (0 : Nat) (0 : Nat) ∧ ((0 : Int) = (0 : Int) ∧
  (0 : Int) = (0 : Int)) ∧ (Prod.fst (List.getD (Prod.fst d) (Int.toNat (↑(Prod.fst x) : Int)) ((0 : Int), (0 : Int))) = Prod.fst (Prod.snd x') ∧ Prod.snd (List.getD (Prod.fst d) (Int.toNat (↑(Prod.fst x) : Int)) ((0 :
  Int), (0 : Int))) = Prod.snd (Prod.snd x')) ∧ restF (Prod.snd d) (List.take (Prod.fst x) (Prod.fst d)) = restF (Prod.snd d) (List.take (Prod.fst x') (Prod.fst d))) ∧ (decide (Prod.fst (List.getD (Prod.fst d) (Int.toNat
  (↑(Prod.fst x) : Int)) ((0 : Int), (0 : Int))) = Prod.snd d) = false → ((0 : Int) ≤ (↑(Prod.fst x) : Int) ∧ (↑(Prod.fst x) : Int) < (↑(List.length (Prod.fst d)) : Int)) ∧ (List.length (restF (Prod.snd d) (List.take
  (Prod.fst x) (Prod.fst d))) + List.length [(Prod.fst (List.getD (Prod.fst d) (Int.toNat (↑(Prod.fst x) : Int)) ((0 : Int), (0 : Int))), Prod.snd (List.getD (Prod.fst d) (Int.toNat (↑(Prod.fst x) : Int)) ((0 : Int), (0
  : Int))))]) * (16 : Nat) ≤ (140737488355328 : Nat) ∧ ∃ (x' : Nat × Int × Int), (Prod.fst x' ≤ List.length (Prod.fst d) ∧ Prod.snd x' = goneGo (Prod.snd d) (List.take (Prod.fst x') (Prod.fst d)) ((0 : Int), (0 : Int)))
  ∧ List.length (Prod.fst d) - Prod.fst x' < List.length (Prod.fst d) - Prod.fst x ∧ (Prod.fst d = Prod.fst d ∧ Prod.snd d = Prod.snd d ∧ IntKind.wrap IntKind.i64 ((↑(Prod.fst x) : Int) + (1 : Int)) = (↑(Prod.fst x') :
  Int)) ∧ Prod.fst d = Prod.fst d ∧ Value.slice none (0 : Nat) (0 : Nat) = Value.slice none (0 : Nat) (0 : Nat) ∧ ((0 : Int) = (0 : Int) ∧ (0 : Int) = (0 : Int)) ∧ (Prod.fst (Prod.snd x) = Prod.fst (Prod.snd x') ∧
  Prod.snd (Prod.snd x) = Prod.snd (Prod.snd x')) ∧ restF (Prod.snd d) (List.take (Prod.fst x) (Prod.fst d)) ++ [(Prod.fst (List.getD (Prod.fst d) (Int.toNat (↑(Prod.fst x) : Int)) ((0 : Int), (0 : Int))), Prod.snd
  (List.getD (Prod.fst d) (Int.toNat (↑(Prod.fst x) : Int)) ((0 : Int), (0 : Int))))] = restF (Prod.snd d) (List.take (Prod.fst x') (Prod.fst d)))) ∧ (decide ((↑(Prod.fst x) : Int) < (↑(List.length (Prod.fst d)) : Int))
  = false → ((((restF (Prod.snd d) (List.take (Prod.fst x) (Prod.fst d)), (Prod.fst (Prod.snd x), Prod.snd (Prod.snd x)), !decide (Prod.fst (Prod.snd x) = (0 : Int))) = cancelSF (Prod.fst d) (Prod.snd d) ∧ (restF
  (Prod.snd d) (List.take (Prod.fst x) (Prod.fst d)), (Prod.fst (Prod.snd x), Prod.snd (Prod.snd x)), !decide (Prod.fst (Prod.snd x) = (0 : Int))) = cancelSF (Prod.fst d) (Prod.snd d) ∧ (restF (Prod.snd d) (List.take
  (Prod.fst x) (Prod.fst d)), (Prod.fst (Prod.snd x), Prod.snd (Prod.snd x)), !decide (Prod.fst (Prod.snd x) = (0 : Int))) = cancelSF (Prod.fst d) (Prod.snd d)) ∧ ((restF (Prod.snd d) (List.take (Prod.fst x) (Prod.fst
  d)), (Prod.fst (Prod.snd x), Prod.snd (Prod.snd x)), !decide (Prod.fst (Prod.snd x) = (0 : Int))) = cancelSF (Prod.fst d) (Prod.snd d) ∧ (restF (Prod.snd d) (List.take (Prod.fst x) (Prod.fst d)), (Prod.fst (Prod.snd
  x), Prod.snd (Prod.snd x)), !decide (Prod.fst (Prod.snd x) = (0 : Int))) = cancelSF (Prod.fst d) (Prod.snd d)) ∧ (restF (Prod.snd d) (List.take (Prod.fst x) (Prod.fst d)), (Prod.fst (Prod.snd x), Prod.snd (Prod.snd
  x)), !decide (Prod.fst (Prod.snd x) = (0 : Int))) = cancelSF (Prod.fst d) (Prod.snd d)) ∧ (((restF (Prod.snd d) (List.take (Prod.fst x) (Prod.fst d)), (Prod.fst (Prod.snd x), Prod.snd (Prod.snd x)), !decide (Prod.fst
  (Prod.snd x) = (0 : Int))) = cancelSF (Prod.fst d) (Prod.snd d) ∧ (restF (Prod.snd d) (List.take (Prod.fst x) (Prod.fst d)), (Prod.fst (Prod.snd x), Prod.snd (Prod.snd x)), !decide (Prod.fst (Prod.snd x) = (0 : Int)))
  = cancelSF (Prod.fst d) (Prod.snd d) ∧ (restF (Prod.snd d) (List.take (Prod.fst x) (Prod.fst d)), (Prod.fst (Prod.snd x), Prod.snd (Prod.snd x)), !decide (Prod.fst (Prod.snd x) = (0 : Int))) = cancelSF (Prod.fst d)
  (Prod.snd d)) ∧ ((restF (Prod.snd d) (List.take (Prod.fst x) (Prod.fst d)), (Prod.fst (Prod.snd x), Prod.snd (Prod.snd x)), !decide (Prod.fst (Prod.snd x) = (0 : Int))) = cancelSF (Prod.fst d) (Prod.snd d) ∧ (restF
  (Prod.snd d) (List.take (Prod.fst x) (Prod.fst d)), (Prod.fst (Prod.snd x), Prod.snd (Prod.snd x)), !decide (Prod.fst (Prod.snd x) = (0 : Int))) = cancelSF (Prod.fst d) (Prod.snd d)) ∧ ((restF (Prod.snd d) (List.take
  (Prod.fst x) (Prod.fst d)), (Prod.fst (Prod.snd x), Prod.snd (Prod.snd x)), !decide (Prod.fst (Prod.snd x) = (0 : Int))) = cancelSF (Prod.fst d) (Prod.snd d) ∧ (restF (Prod.snd d) (List.take (Prod.fst x) (Prod.fst d)),
  (Prod.fst (Prod.snd x), Prod.snd (Prod.snd x)), !decide (Prod.fst (Prod.snd x) = (0 : Int))) = cancelSF (Prod.fst d) (Prod.snd d)) ∧ (restF (Prod.snd d) (List.take (Prod.fst x) (Prod.fst d)), (Prod.fst (Prod.snd x),
  Prod.snd (Prod.snd x)), !decide (Prod.fst (Prod.snd x) = (0 : Int))) = cancelSF (Prod.fst d) (Prod.snd d)) ∧ (((restF (Prod.snd d) (List.take (Prod.fst x) (Prod.fst d)), (Prod.fst (Prod.snd x), Prod.snd (Prod.snd x)),
  !decide (Prod.fst (Prod.snd x) = (0 : Int))) = cancelSF (Prod.fst d) (Prod.snd d) ∧ (restF (Prod.snd d) (List.take (Prod.fst x) (Prod.fst d)), (Prod.fst (Prod.snd x), Prod.snd (Prod.snd x)), !decide (Prod.fst (Prod.snd
  x) = (0 : Int))) = cancelSF (Prod.fst d) (Prod.snd d)) ∧ (restF (Prod.snd d) (List.take (Prod.fst x) (Prod.fst d)), (Prod.fst (Prod.snd x), Prod.snd (Prod.snd x)), !decide (Prod.fst (Prod.snd x) = (0 : Int))) =
  cancelSF (Prod.fst d) (Prod.snd d)) ∧ ((restF (Prod.snd d) (List.take (Prod.fst x) (Prod.fst d)), (Prod.fst (Prod.snd x), Prod.snd (Prod.snd x)), !decide (Prod.fst (Prod.snd x) = (0 : Int))) = cancelSF (Prod.fst d)
  (Prod.snd d) ∧ (restF (Prod.snd d) (List.take (Prod.fst x) (Prod.fst d)), (Prod.fst (Prod.snd x), Prod.snd (Prod.snd x)), !decide (Prod.fst (Prod.snd x) = (0 : Int))) = cancelSF (Prod.fst d) (Prod.snd d)) ∧ (restF
  (Prod.snd d) (List.take (Prod.fst x) (Prod.fst d)), (Prod.fst (Prod.snd x), Prod.snd (Prod.snd x)), !decide (Prod.fst (Prod.snd x) = (0 : Int))) = cancelSF (Prod.fst d) (Prod.snd d)) ∧ ((((restF (Prod.snd d) (List.take
  (Prod.fst x) (Prod.fst d)), (Prod.fst (Prod.snd x), Prod.snd (Prod.snd x)), !decide (Prod.fst (Prod.snd x) = (0 : Int))) = cancelSF (Prod.fst d) (Prod.snd d) ∧ (restF (Prod.snd d) (List.take (Prod.fst x) (Prod.fst d)),
  (Prod.fst (Prod.snd x), Prod.snd (Prod.snd x)), !decide (Prod.fst (Prod.snd x) = (0 : Int))) = cancelSF (Prod.fst d) (Prod.snd d) ∧ (restF (Prod.snd d) (List.take (Prod.fst x) (Prod.fst d)), (Prod.fst (Prod.snd x),
  Prod.snd (Prod.snd x)), !decide (Prod.fst (Prod.snd x) = (0 : Int))) = cancelSF (Prod.fst d) (Prod.snd d)) ∧ ((restF (Prod.snd d) (List.take (Prod.fst x) (Prod.fst d)), (Prod.fst (Prod.snd x), Prod.snd (Prod.snd x)),
  !decide (Prod.fst (Prod.snd x) = (0 : Int))) = cancelSF (Prod.fst d) (Prod.snd d) ∧ (restF (Prod.snd d) (List.take (Prod.fst x) (Prod.fst d)), (Prod.fst (Prod.snd x), Prod.snd (Prod.snd x)), !decide (Prod.fst (Prod.snd
  x) = (0 : Int))) = cancelSF (Prod.fst d) (Prod.snd d)) ∧ (restF (Prod.snd d) (List.take (Prod.fst x) (Prod.fst d)), (Prod.fst (Prod.snd x), Prod.snd (Prod.snd x)), !decide (Prod.fst (Prod.snd x) = (0 : Int))) =
  cancelSF (Prod.fst d) (Prod.snd d)) ∧ ((restF (Prod.snd d) (List.take (Prod.fst x) (Prod.fst d)), (Prod.fst (Prod.snd x), Prod.snd (Prod.snd x)), !decide (Prod.fst (Prod.snd x) = (0 : Int))) = cancelSF (Prod.fst d)
  (Prod.snd d) ∧ (restF (Prod.snd d) (List.take (Prod.fst x) (Prod.fst d)), (Prod.fst (Prod.snd x), Prod.snd (Prod.snd x)), !decide (Prod.fst (Prod.snd x) = (0 : Int))) = cancelSF (Prod.fst d) (Prod.snd d) ∧ (restF
  (Prod.snd d) (List.take (Prod.fst x) (Prod.fst d)), (Prod.fst (Prod.snd x), Prod.snd (Prod.snd x)), !decide (Prod.fst (Prod.snd x) = (0 : Int))) = cancelSF (Prod.fst d) (Prod.snd d)) ∧ (restF (Prod.snd d) (List.take
  (Prod.fst x) (Prod.fst d)), (Prod.fst (Prod.snd x), Prod.snd (Prod.snd x)), !decide (Prod.fst (Prod.snd x) = (0 : Int))) = cancelSF (Prod.fst d) (Prod.snd d)) ∧ (((restF (Prod.snd d) (List.take (Prod.fst x) (Prod.fst
  d)), (Prod.fst (Prod.snd x), Prod.snd (Prod.snd x)), !decide (Prod.fst (Prod.snd x) = (0 : Int))) = cancelSF (Prod.fst d) (Prod.snd d) ∧ (restF (Prod.snd d) (List.take (Prod.fst x) (Prod.fst d)), (Prod.fst (Prod.snd
  x), Prod.snd (Prod.snd x)), !decide (Prod.fst (Prod.snd x) = (0 : Int))) = cancelSF (Prod.fst d) (Prod.snd d) ∧ (restF (Prod.snd d) (List.take (Prod.fst x) (Prod.fst d)), (Prod.fst (Prod.snd x), Prod.snd (Prod.snd x)),
  !decide (Prod.fst (Prod.snd x) = (0 : Int))) = cancelSF (Prod.fst d) (Prod.snd d)) ∧ ((restF (Prod.snd d) (List.take (Prod.fst x) (Prod.fst d)), (Prod.fst (Prod.snd x), Prod.snd (Prod.snd x)), !decide (Prod.fst
  (Prod.snd x) = (0 : Int))) = cancelSF (Prod.fst d) (Prod.snd d) ∧ (restF (Prod.snd d) (List.take (Prod.fst x) (Prod.fst d)), (Prod.fst (Prod.snd x), Prod.snd (Prod.snd x)), !decide (Prod.fst (Prod.snd x) = (0 : Int)))
  = cancelSF (Prod.fst d) (Prod.snd d)) ∧ ((restF (Prod.snd d) (List.take (Prod.fst x) (Prod.fst d)), (Prod.fst (Prod.snd x), Prod.snd (Prod.snd x)), !decide (Prod.fst (Prod.snd x) = (0 : Int))) = cancelSF (Prod.fst d)
  (Prod.snd d) ∧ (restF (Prod.snd d) (List.take (Prod.fst x) (Prod.fst d)), (Prod.fst (Prod.snd x), Prod.snd (Prod.snd x)), !decide (Prod.fst (Prod.snd x) = (0 : Int))) = cancelSF (Prod.fst d) (Prod.snd d)) ∧ (restF
  (Prod.snd d) (List.take (Prod.fst x) (Prod.fst d)), (Prod.fst (Prod.snd x), Prod.snd (Prod.snd x)), !decide (Prod.fst (Prod.snd x) = (0 : Int))) = cancelSF (Prod.fst d) (Prod.snd d)) ∧ (((restF (Prod.snd d) (List.take
  (Prod.fst x) (Prod.fst d)), (Prod.fst (Prod.snd x), Prod.snd (Prod.snd x)), !decide (Prod.fst (Prod.snd x) = (0 : Int))) = cancelSF (Prod.fst d) (Prod.snd d) ∧ (restF (Prod.snd d) (List.take (Prod.fst x) (Prod.fst d)),
  (Prod.fst (Prod.snd x), Prod.snd (Prod.snd x)), !decide (Prod.fst (Prod.snd x) = (0 : Int))) = cancelSF (Prod.fst d) (Prod.snd d) ∧ (restF (Prod.snd d) (List.take (Prod.fst x) (Prod.fst d)), (Prod.fst (Prod.snd x),
  Prod.snd (Prod.snd x)), !decide (Prod.fst (Prod.snd x) = (0 : Int))) = cancelSF (Prod.fst d) (Prod.snd d)) ∧ (restF (Prod.snd d) (List.take (Prod.fst x) (Prod.fst d)), (Prod.fst (Prod.snd x), Prod.snd (Prod.snd x)),
  !decide (Prod.fst (Prod.snd x) = (0 : Int))) = cancelSF (Prod.fst d) (Prod.snd d)) ∧ ((restF (Prod.snd d) (List.take (Prod.fst x) (Prod.fst d)), (Prod.fst (Prod.snd x), Prod.snd (Prod.snd x)), !decide (Prod.fst
  (Prod.snd x) = (0 : Int))) = cancelSF (Prod.fst d) (Prod.snd d) ∧ (restF (Prod.snd d) (List.take (Prod.fst x) (Prod.fst d)), (Prod.fst (Prod.snd x), Prod.snd (Prod.snd x)), !decide (Prod.fst (Prod.snd x) = (0 : Int)))
  = cancelSF (Prod.fst d) (Prod.snd d)) ∧ (restF (Prod.snd d) (List.take (Prod.fst x) (Prod.fst d)), (Prod.fst (Prod.snd x), Prod.snd (Prod.snd x)), !decide (Prod.fst (Prod.snd x) = (0 : Int))) = cancelSF (Prod.fst d)
  (Prod.snd d))) := by
  intro (d : List Tk × Int) hw (hp : d.1.length ≤ 1048576)
  obtain ⟨xs, id⟩ := d
  simp only at hp
  simp only [Int.toNat_natCast, exists_const, and_true, true_and, implies_true, decide_eq_true_eq, decide_eq_false_iff_not, Bool.not_eq_true', Bool.not_eq_false', beq_iff_eq, forall_const]
  refine ⟨fun h => ⟨hp, fun _ => ?_⟩, fun hc => ⟨⟨by omega, by simp [goneGo]⟩, ⟨rfl, by simp [restF]⟩, fun x ⟨h1, h2⟩ => ⟨fun h3 => ⟨⟨by omega, by omega⟩, ?_⟩, fun h3 => ?_⟩⟩⟩
  · unfold cancelSF; rw [if_neg (fun hh => by rw [hh] at h; cases h)]
  · have h4 : x.1 < xs.length := by omega
    rw [wrap_succ (by omega)]
    have hg : goneGo id (xs.take (x.1 + 1)) (0, 0) = if (xs.getD x.1 (0, 0)).1 = id then xs.getD x.1 (0, 0) else x.2 := by
      rw [← take_succ' (z := ((0 : Int), (0 : Int))) h4, goneGo_append, ← h2]; rfl
    have hr : restF id (xs.take (x.1 + 1)) = restF id (xs.take x.1) ++ (if (xs.getD x.1 (0, 0)).1 = id then [] else [xs.getD x.1 (0, 0)]) := by
      rw [← take_succ' (z := ((0 : Int), (0 : Int))) h4]
      unfold restF
      rw [List.filter_append]
      congr 1
      by_cases e : (xs.getD x.1 (0, 0)).1 = id
      · rw [if_pos e, List.filter_cons_of_neg (by simp only [e, decide_true]; simp)]; rfl
      · rw [if_neg e, List.filter_cons_of_pos (by simp only [e, decide_false]; simp)]; rfl
    have hfl : (restF id (xs.take x.1)).length ≤ x.1 := by
      unfold restF
      refine Nat.le_trans (List.length_filter_le _ _) ?_
      rw [List.length_take]; omega
    refine ⟨fun e => ⟨⟨by omega, by omega⟩, (x.1 + 1, xs.getD x.1 (0, 0)), ⟨by simp only; omega, ?_⟩, by simp only; omega, rfl, ⟨rfl, rfl⟩, ?_⟩, fun e => ⟨⟨by omega, by omega⟩, ?_, (x.1 + 1, x.2), ⟨by simp only; omega, ?_⟩, by simp only; omega, rfl, ⟨rfl, rfl⟩, ?_⟩⟩
    · simp only; rw [hg, if_pos e]
    · simp only; rw [hr, if_pos e, List.append_nil]
    · simp only [List.length_cons, List.length_nil]; omega
    · simp only; rw [hg, if_neg e]
    · simp only; rw [hr, if_neg e]
  · have h4 : x.1 = xs.length := by omega
    have hf : (restF id (xs.take x.1), (x.2.1, x.2.2), !decide (x.2.1 = 0)) = cancelSF xs id := by
      have h5 : x.2 = goneGo id xs (0, 0) := by rw [h2, h4, List.take_length]
      unfold cancelSF
      rw [if_pos hc, h5, h4, List.take_length]
    simp only [hf, and_self]
theorem v_S_Pop :
  ∀ (d : List (Int × Int)), Ty.wf lineT d → List.length d ≤ (1048576 : Nat) → True ∧ ((!lineOkF d) = true → List.length d ≤ (1048576 : Nat) ∧ (Ty.wf lineT d → (d, ((0 : Int), (0 : Int)), false) = popF d)) ∧ ((!lineOkF d)
  = false → (decide ((↑(List.length d) : Int) = (0 : Int)) = true → List.length d ≤ (1048576 : Nat) ∧ (Ty.wf lineT d → (d, ((0 : Int), (0 : Int)), false) = popF d)) ∧ (decide ((↑(List.length d) : Int) = (0 : Int)) =
  false → ((0 : Int) ≤ (0 : Int) ∧ (0 : Int) < (↑(List.length d) : Int)) ∧ List.length d ≤ (1048576 : Nat) ∧ (Ty.wf lineT (Prod.fst (cancelSF d (Prod.fst (List.getD d (Int.toNat (0 : Int)) ((0 : Int), (0 : Int)))))) ∧
  Ty.wf tkT (Prod.fst (Prod.snd (cancelSF d (Prod.fst (List.getD d (Int.toNat (0 : Int)) ((0 : Int), (0 : Int))))))) ∧ Ty.wf Ty.bool (Prod.snd (Prod.snd (cancelSF d (Prod.fst (List.getD d (Int.toNat (0 : Int)) ((0 :
  Int), (0 : Int))))))) → (Prod.fst (cancelSF d (Prod.fst (List.getD d (Int.toNat (0 : Int)) ((0 : Int), (0 : Int))))), (Prod.fst (Prod.fst (Prod.snd (cancelSF d (Prod.fst (List.getD d (Int.toNat (0 : Int)) ((0 : Int),
  (0 : Int))))))), Prod.snd (Prod.fst (Prod.snd (cancelSF d (Prod.fst (List.getD d (Int.toNat (0 : Int)) ((0 : Int), (0 : Int)))))))), Prod.snd (Prod.snd (cancelSF d (Prod.fst (List.getD d (Int.toNat (0 : Int)) ((0 :
  Int), (0 : Int))))))) = popF d))) := by
  intro (d : List Tk) hw (hp : d.length ≤ 1048576)
  simp only [Int.toNat_natCast, exists_const, and_true, true_and, implies_true, decide_eq_true_eq, decide_eq_false_iff_not, Bool.not_eq_true', Bool.not_eq_false', beq_iff_eq, forall_const]
  refine ⟨fun h => ⟨hp, fun _ => ?_⟩, fun h1 => ⟨fun h => ⟨hp, fun _ => ?_⟩, fun h => ?_⟩⟩
  · unfold popF; rw [if_neg (fun hh => by rw [hh.1] at h; cases h)]
  · unfold popF; rw [if_neg (fun hh => hh.2 (by omega))]
  · have hc := cancel_head h1 (by omega)
    have hf : popF d = (d.drop 1, d.getD 0 (0, 0), true) := by unfold popF; rw [if_pos ⟨h1, by omega⟩]
    rw [show Int.toNat 0 = 0 from rfl, hc, hf]
    exact ⟨⟨by omega, by omega⟩, hp, fun _ => rfl⟩
end Go.SF
