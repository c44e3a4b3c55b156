/- Flows added. No condition. -/
import Derived.Test.YtnjihkeflkemdaaSxC
import Derived.Test.YtnjihkeflkemdaaSxPRingU
namespace Go.SF
open Go.SX Go
set_option linter.unusedVariables false
set_option linter.unusedSimpArgs false
theorem addAt_le (t : Int) : ∀ xs : List Fl, addAtGo t xs ≤ xs.length
  | [] => Nat.le_refl _
  | f :: fs => by
    unfold addAtGo
    split
    · rw [List.length_cons]; have := addAt_le t fs; omega
    · exact Nat.zero_le _
theorem addAt_iff (t : Int) : ∀ (xs : List Fl) (j : Nat), j ≤ addAtGo t xs → j < xs.length → (((xs.getD j fl0).1 < t → j + 1 ≤ addAtGo t xs) ∧ (¬ (xs.getD j fl0).1 < t → j = addAtGo t xs))
  | [], j, _, h => by simp at h
  | f :: fs, 0, h, _ => by
    rw [List.getD_cons_zero]
    unfold addAtGo
    split
    · rename_i h; exact ⟨fun _ => by omega, fun h2 => absurd h h2⟩
    · rename_i h; exact ⟨fun h2 => absurd h2 h, fun _ => rfl⟩
  | f :: fs, j + 1, h, hl => by
    rw [List.getD_cons_succ]
    unfold addAtGo at h ⊢
    split at h
    · rename_i hf
      rw [if_pos hf]
      obtain ⟨h1, h2⟩ := addAt_iff t fs j (by omega) (by rw [List.length_cons] at hl; omega)
      exact ⟨fun q => by have := h1 q; omega, fun q => by have := h2 q; omega⟩
    · omega
theorem add_no {xs : List Fl} {tn : Int} {fr : Bool} {t q : Int} (h : ringOkF xs tn fr = false ∨ 0 ≤ fidxGo t xs 0 ∨ ringOkF (insF xs (addAtGo t xs) (t, q, 0, [])) (if 0 < xs.length ∧ (addAtGo t xs : Int) ≤ tn then tn + 1 else tn) fr = false) : addFlF (xs, tn, fr) t q = ((xs, tn, fr), false) := by
  unfold addFlF
  rw [if_neg]
  intro ⟨h1, h2, h3⟩
  rcases h with h | h | h
  · simp only at h1; rw [h] at h1; cases h1
  · simp only at h2; omega
  · unfold addOutF at h3; simp only at h3; rw [h] at h3; cases h3
theorem add_yes {xs : List Fl} {tn : Int} {fr : Bool} {t q : Int} (h1 : ringOkF xs tn fr = true) (h2 : ¬ 0 ≤ fidxGo t xs 0) (h3 : ringOkF (insF xs (addAtGo t xs) (t, q, 0, [])) (if 0 < xs.length ∧ (addAtGo t xs : Int) ≤ tn then tn + 1 else tn) fr = true) :
    addFlF (xs, tn, fr) t q = ((insF xs (addAtGo t xs) (t, q, 0, []), (if 0 < xs.length ∧ (addAtGo t xs : Int) ≤ tn then tn + 1 else tn), fr), true) := by
  unfold addFlF
  rw [if_pos ⟨h1, by simp only; omega, h3⟩]
  rfl
theorem ins_un {L : List FlG} {xs : List Fl} (h : L.map unF = xs) (a : Nat) (t q : Int) : List.map unF (List.take a L ++ List.map (tell0 flG) [(t, q, (0 : Int), ([] : List Tk))] ++ List.drop a L) = insF xs a (t, q, 0, []) := by
  subst h
  unfold insF
  rw [List.map_append, List.map_append, List.map_take, List.map_drop]
  rfl
theorem ins_ids {L : List FlG} (h : (idsF L).Nodup) (a : Nat) (t q : Int) : (idsF (List.take a L ++ List.map (tell0 flG) [(t, q, (0 : Int), ([] : List Tk))] ++ List.drop a L)).Nodup := by
  have h1 : idsF (List.take a L ++ List.map (tell0 flG) [(t, q, (0 : Int), ([] : List Tk))] ++ List.drop a L) = idsF L := by
    conv => rhs; rw [← List.take_append_drop a L]
    unfold idsF
    rw [List.flatMap_append, List.flatMap_append, List.flatMap_append]
    congr 1
    rw [show (List.map (tell0 flG) [(t, q, (0 : Int), ([] : List Tk))]).flatMap idF = [] from rfl, List.append_nil]
  rw [h1]; exact h
theorem ring_small {xs : List Fl} {tn : Int} {fr : Bool} (h : ringOkF xs tn fr = true) : xs.length ≤ 12 ∧ 0 ≤ tn ∧ tn ≤ 12 ∧ (0 < xs.length → tn < (xs.length : Int)) := by
  have h1 := (ring_iff.1 h).1
  unfold RingHd at h1
  simp only at h1
  refine ⟨?_, ?_, ?_, ?_⟩ <;> omega
theorem nil_new (t q : Int) : ∀ (y : Int × Int × Int × List (Int × Int)), y ∈ [(t, q, (0 : Int), ([] : List (Int × Int)))] → nilD flG y := by
  intro y hy
  rw [List.mem_singleton] at hy
  subst hy
  exact ⟨trivial, trivial, trivial, rfl⟩
theorem fidx_no (t : Int) : ∀ (xs : List Fl) (k : Nat), fidxGo t xs k < 0 → ∀ j, j < xs.length → (xs.getD j fl0).1 ≠ t
  | [], k, _, j, h => by simp at h
  | f :: fs, k, h, j, hj => by
    unfold fidxGo at h
    split at h
    · omega
    · rename_i hf
      cases j with
      | zero => rw [List.getD_cons_zero]; exact hf
      | succ j => rw [List.getD_cons_succ]; exact fidx_no t fs (k + 1) h j (by rw [List.length_cons] at hj; omega)
theorem take_one {xs : List Fl} {x : Nat} (h : x < xs.length) (d : Fl) : xs.take (x + 1) = xs.take x ++ [xs.getD x d] := by
  rw [List.take_succ_eq_append_getElem h]; simp [h]
theorem insK_len (xs : List Fl) (a : Nat) (f : Fl) (k : Nat) : (insK xs a f k).length ≤ xs.length + 1 := by
  unfold insK
  split
  · simp only [List.length_append, List.length_take, List.length_drop, List.length_singleton]; omega
  · rw [List.length_take]; omega
theorem insK_at {xs : List Fl} {a : Nat} {f : Fl} (h : a < xs.length) (d : Fl) : insK xs a f a ++ [f] ++ [xs.getD a d] = insK xs a f (a + 1) := by
  unfold insK
  rw [if_neg (by omega), if_pos (by omega), take_one h d]
  congr 1
  rw [List.drop_append_of_le_length (by rw [List.length_take]; omega), List.drop_eq_nil_of_le (by rw [List.length_take]; omega)]
  rfl
theorem insK_lt {xs : List Fl} {a x : Nat} {f : Fl} (h : x < xs.length) (hx : x + 1 ≤ a) (d : Fl) : insK xs a f x ++ [xs.getD x d] = insK xs a f (x + 1) := by
  unfold insK
  rw [if_neg (by omega), if_neg (by omega), take_one h d]
theorem insK_gt {xs : List Fl} {a x : Nat} {f : Fl} (h : x < xs.length) (hx : a < x) (d : Fl) : insK xs a f x ++ [xs.getD x d] = insK xs a f (x + 1) := by
  unfold insK
  rw [if_pos hx, if_pos (by omega), take_one h d, List.append_assoc, List.drop_append_of_le_length (by rw [List.length_take]; omega)]
theorem insK_end {xs : List Fl} {a : Nat} {f : Fl} (h : a < xs.length) : insK xs a f xs.length = insF xs a f := by
  unfold insK insF
  rw [if_pos h, List.take_length]
theorem insK_last {xs : List Fl} {f : Fl} : insK xs xs.length f xs.length ++ [f] = insF xs xs.length f := by
  unfold insK insF
  rw [if_neg (by omega), List.take_length, List.drop_length, List.append_nil]
theorem add_tot {fs : List Fl} {y : Int × Bool} (hT : totF fs ≤ 1048576) (t q : Int) : totF (addFlF (fs, y) t q).1.1 ≤ 4000000 := by
  unfold addFlF
  split
  · show totF (insF fs (addAtGo t fs) (t, q, 0, [])) ≤ _
    unfold insF
    rw [totF_app, totF_app]
    have h1 := totF_sub (List.take_sublist (addAtGo t fs) fs)
    have h2 := totF_sub (List.drop_sublist (addAtGo t fs) fs)
    have h3 : totF [(t, q, 0, [])] = 1 := rfl
    omega
  · show totF fs ≤ _
    omega
theorem eq3a {r : (List FlG × Int × Bool) × Bool} {s : List FlG × Int × Bool} {y : Int × Bool} {t i : Int} {L : List Fl} (e : ((r.1.1.map unF, r.1.2.1, r.1.2.2), r.2) = addFlF (s.1.map unF, s.2) t i) (h : (s.1.map unF, s.2.1, s.2.2) = (L, y)) : r.1.1.map unF = (addFlF (L, y) t i).1.1 ∧ r.1.2.1 = (addFlF (L, y) t i).1.2.1 ∧ r.1.2.2 = (addFlF (L, y) t i).1.2.2 ∧ r.2 = (addFlF (L, y) t i).2 := by
  rw [(eq1' h).1, (eq1' h).2] at e
  exact eq2 e
end Go.SF
