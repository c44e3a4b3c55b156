/- What is owed of the code of the functions that make lines anew. No condition. -/
import Derived.Test.YtnjihkeflkemdaaSxC
import Derived.Test.YtnjihkeflkemdaaSxPLine
import Derived.Test.YtnjihkeflkemdaaSxPMark
namespace Go.SF
open Go.SX Go
set_option linter.unusedVariables false
set_option linter.unusedSimpArgs false
set_option maxRecDepth 10000
theorem take_succ' {α : Type} {xs : List α} {x : Nat} {z : α} (h : x < xs.length) : xs.take x ++ [xs.getD x z] = xs.take (x + 1) := by
  rw [List.take_add_one, List.getElem?_eq_getElem h, List.getD_eq_getElem?_getD, List.getElem?_eq_getElem h]; rfl
theorem goneGo_append (id : Int) : ∀ (xs ys : List Tk) (g : Tk), goneGo id (xs ++ ys) g = goneGo id ys (goneGo id xs g)
  | [], ys, g => rfl
  | x :: xs, ys, g => goneGo_append id xs ys _
theorem held2_pos {xs : List (Int × Int)} (h : xs.length ≤ 4194304) : neg1 (held2 (mark2 xs 1) 1) = end2 xs 1 ∧ 0 ≤ end2 xs 1 := by
  have h1 := end2_small xs (k := 1) (by omega) (by omega)
  rw [held2_mark]
  unfold neg1
  rw [if_neg (by omega)]
  exact ⟨rfl, by omega⟩
theorem push_len (xs : List Tk) (t : Tk) : (pushF xs t).1.length ≤ xs.length + 1 := by
  unfold pushF; split
  · simp
  · simp
theorem pop_len (xs : List Tk) : (popF xs).1.length ≤ xs.length := by
  unfold popF; split
  · simp
  · simp
theorem line_ids {xs : List Tk} (h : lineOkF xs = true) : (∀ j, j < xs.length → 1 ≤ (xs.getD j (0, 0)).1) ∧ ∀ i j, i < j → j < xs.length → (xs.getD i (0, 0)).1 < (xs.getD j (0, 0)).1 := by
  unfold lineOkF at h
  rw [Bool.and_eq_true, decide_eq_true_eq, decide_eq_true_eq] at h
  have hp := h.2
  refine ⟨fun j hj => ?_, fun i j hij hj => ?_⟩
  · have := (hp j hj).1
    unfold isTicketF at this
    simp only [Bool.and_eq_true, decide_eq_true_eq] at this
    omega
  · induction j with
    | zero => omega
    | succ j ih =>
      have h1 := (hp (j + 1) hj).2 (by omega)
      rw [Nat.add_sub_cancel] at h1
      by_cases e : i = j
      · subst e; exact h1
      · have := ih (by omega) (by omega); omega
/-- To cancel the first ticket of a line is to pop it. -/
theorem cancel_head {xs : List Tk} (h : lineOkF xs = true) (h0 : xs.length ≠ 0) : cancelSF xs (xs.getD 0 (0, 0)).1 = (xs.drop 1, xs.getD 0 (0, 0), true) := by
  obtain ⟨i1, i2⟩ := line_ids h
  cases xs with
  | nil => exact absurd rfl h0
  | cons x xs =>
    have hne : ∀ y ∈ xs, ¬ y.1 = x.1 := by
      intro y hy e
      obtain ⟨j, hj, rfl⟩ := List.getElem_of_mem hy
      have := i2 0 (j + 1) (by omega) (by simp; exact hj)
      simp only [List.getD_cons_zero, List.getD_cons_succ] at this
      rw [List.getD_eq_getElem?_getD, List.getElem?_eq_getElem hj] at this
      simp only [Option.getD_some] at this
      omega
    have h1 : 1 ≤ x.1 := i1 0 (by simp)
    unfold cancelSF
    rw [if_pos h]
    simp only [List.getD_cons_zero, List.drop_one, List.tail_cons]
    have hg : ∀ (ys : List Tk) (g : Tk), (∀ y ∈ ys, ¬ y.1 = x.1) → goneGo x.1 ys g = g := by
      intro ys
      induction ys with
      | nil => intro g _; rfl
      | cons y ys ih => intro g hy; unfold goneGo; rw [if_neg (hy y (List.mem_cons_self ..))]; exact ih g (fun z hz => hy z (List.mem_cons_of_mem _ hz))
    have e1 : goneGo x.1 (x :: xs) (0, 0) = x := by unfold goneGo; rw [if_pos rfl]; exact hg xs x hne
    have e2 : restF x.1 (x :: xs) = xs := by
      unfold restF
      rw [List.filter_cons_of_neg (by simp)]
      exact List.filter_eq_self.2 (fun y hy => by simp [hne y hy])
    rw [e1, e2, show decide (x.1 = 0) = false from decide_eq_false (by omega)]
    rfl
theorem v_I_copyLine :
  ∀ (d : List (Int × Int)), Ty.wf lineT d → List.length d ≤ (1048576 : Nat) → ((0 : Nat) + List.length d) * (16 : Nat) ≤ (140737488355328 : Nat) ∧ [] ++ d = d := by
  intro (d : List Tk) hw (hp : d.length ≤ 1048576)
  exact ⟨by omega, rfl⟩
theorem v_I_push :
  ∀ (d : List (Int × Int) × Int × Int), Ty.wf lineT (Prod.fst d) ∧ Ty.wf tkT (Prod.snd d) → List.length (Prod.fst d) ≤ (1048576 : Nat) → List.length (Prod.fst d) ≤ (1048576 : Nat) ∧ (Ty.wf lineT (Prod.fst d) →
  (List.length (Prod.fst d) + List.length [(Prod.fst (Prod.snd d), Prod.snd (Prod.snd d))]) * (16 : Nat) ≤ (140737488355328 : Nat) ∧ True ∧ ((!lineOkF (Prod.fst d ++ [(Prod.fst (Prod.snd d), Prod.snd (Prod.snd d))])) =
  true → List.length (Prod.fst d) ≤ (1048576 : Nat) ∧ (Ty.wf lineT (Prod.fst d) → (Prod.fst d, false) = ipushF (Prod.fst d) (Prod.snd d))) ∧ ((!lineOkF (Prod.fst d ++ [(Prod.fst (Prod.snd d), Prod.snd (Prod.snd d))])) =
  false → (Prod.fst d ++ [(Prod.fst (Prod.snd d), Prod.snd (Prod.snd d))], true) = ipushF (Prod.fst d) (Prod.snd d))) := by
  intro (d : List Tk × Int × Int) hw (hp : d.1.length ≤ 1048576)
  obtain ⟨xs, t⟩ := d
  simp only at hp
  simp only [Int.toNat_natCast, exists_const, and_true, true_and, implies_true, decide_eq_true_eq, decide_eq_false_iff_not, Bool.not_eq_true', Bool.not_eq_false', beq_iff_eq, forall_const]
  refine ⟨hp, fun _ => ⟨by simp; omega, fun h => ⟨hp, fun _ => ?_⟩, fun h => ?_⟩⟩
  · unfold ipushF; rw [if_neg (by rw [show lineOkF (xs ++ [t]) = false from h]; simp)]
  · unfold ipushF; rw [if_pos h]
end Go.SF
