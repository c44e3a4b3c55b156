/- Flows added. No condition. -/
import Derived.Test.YtnjihkeflkemdaaSxC
import Derived.Test.YtnjihkeflkemdaaSxPRingU
namespace Go.SF
open Go.SX Go
set_option linter.unusedVariables false
set_option linter.unusedSimpArgs false
theorem addAt_le (t : Int) : ∀ xs : List Fl, addAtGo t xs ≤ xs.length
  | [] => Nat.le_refl _
  | f :: fs => by
    unfold addAtGo
    split
    · rw [List.length_cons]; have := addAt_le t fs; omega
    · exact Nat.zero_le _
theorem addAt_iff (t : Int) : ∀ (xs : List Fl) (j : Nat), j ≤ addAtGo t xs → j < xs.length → (((xs.getD j fl0).1 < t → j + 1 ≤ addAtGo t xs) ∧ (¬ (xs.getD j fl0).1 < t → j = addAtGo t xs))
  | [], j, _, h => by simp at h
  | f :: fs, 0, h, _ => by
    rw [List.getD_cons_zero]
    unfold addAtGo
    split
    · rename_i h; exact ⟨fun _ => by omega, fun h2 => absurd h h2⟩
    · rename_i h; exact ⟨fun h2 => absurd h2 h, fun _ => rfl⟩
  | f :: fs, j + 1, h, hl => by
    rw [List.getD_cons_succ]
    unfold addAtGo at h ⊢
    split at h
    · rename_i hf
      rw [if_pos hf]
      obtain ⟨h1, h2⟩ := addAt_iff t fs j (by omega) (by rw [List.length_cons] at hl; omega)
      exact ⟨fun q => by have := h1 q; omega, fun q => by have := h2 q; omega⟩
    · omega
theorem add_no {xs : List Fl} {tn : Int} {fr : Bool} {t q : Int} (h : ringOkF xs tn fr = false ∨ 0 ≤ fidxGo t xs 0 ∨ ringOkF (insF xs (addAtGo t xs) (t, q, 0, [])) (if 0 < xs.length ∧ (addAtGo t xs : Int) ≤ tn then tn + 1 else tn) fr = false) : addFlF (xs, tn, fr) t q = ((xs, tn, fr), false) := by
  unfold addFlF
  rw [if_neg]
  intro ⟨h1, h2, h3⟩
  rcases h with h | h | h
  · simp only at h1; rw [h] at h1; cases h1
  · simp only at h2; omega
  · unfold addOutF at h3; simp only at h3; rw [h] at h3; cases h3
theorem add_yes {xs : List Fl} {tn : Int} {fr : Bool} {t q : Int} (h1 : ringOkF xs tn fr = true) (h2 : ¬ 0 ≤ fidxGo t xs 0) (h3 : ringOkF (insF xs (addAtGo t xs) (t, q, 0, [])) (if 0 < xs.length ∧ (addAtGo t xs : Int) ≤ tn then tn + 1 else tn) fr = true) :
    addFlF (xs, tn, fr) t q = ((insF xs (addAtGo t xs) (t, q, 0, []), (if 0 < xs.length ∧ (addAtGo t xs : Int) ≤ tn then tn + 1 else tn), fr), true) := by
  unfold addFlF
  rw [if_pos ⟨h1, by simp only; omega, h3⟩]
  rfl
theorem ins_un {L : List FlG} {xs : List Fl} (h : L.map unF = xs) (a : Nat) (t q : Int) : List.map unF (List.take a L ++ List.map (tell0 flG) [(t, q, (0 : Int), ([] : List Tk))] ++ List.drop a L) = insF xs a (t, q, 0, []) := by
  subst h
  unfold insF
  rw [List.map_append, List.map_append, List.map_take, List.map_drop]
  rfl
theorem ins_ids {L : List FlG} (h : (idsF L).Nodup) (a : Nat) (t q : Int) : (idsF (List.take a L ++ List.map (tell0 flG) [(t, q, (0 : Int), ([] : List Tk))] ++ List.drop a L)).Nodup := by
  have h1 : idsF (List.take a L ++ List.map (tell0 flG) [(t, q, (0 : Int), ([] : List Tk))] ++ List.drop a L) = idsF L := by
    conv => rhs; rw [← List.take_append_drop a L]
    unfold idsF
    rw [List.flatMap_append, List.flatMap_append, List.flatMap_append]
    congr 1
    rw [show (List.map (tell0 flG) [(t, q, (0 : Int), ([] : List Tk))]).flatMap idF = [] from rfl, List.append_nil]
  rw [h1]; exact h
theorem ring_small {xs : List Fl} {tn : Int} {fr : Bool} (h : ringOkF xs tn fr = true) : xs.length ≤ 12 ∧ 0 ≤ tn ∧ tn ≤ 12 ∧ (0 < xs.length → tn < (xs.length : Int)) := by
  have h1 := (ring_iff.1 h).1
  unfold RingHd at h1
  simp only at h1
  refine ⟨?_, ?_, ?_, ?_⟩ <;> omega
theorem nil_new (t q : Int) : ∀ (y : Int × Int × Int × List (Int × Int)), y ∈ [(t, q, (0 : Int), ([] : List (Int × Int)))] → nilD flG y := by
  intro y hy
  rw [List.mem_singleton] at hy
  subst hy
  exact ⟨trivial, trivial, trivial, rfl⟩
theorem v_I_AddFlowT :
  ∀ (d : (List (Int × Int × Int × List (Int × Int)) × Int × Bool) × Int × Int), Ty.wf ringT (Prod.fst d) ∧ Ty.wf i64T (Prod.fst (Prod.snd d)) ∧ Ty.wf i64T (Prod.snd (Prod.snd d)) → FlsP (Prod.fst (Prod.fst d)) → FlsP
  (Prod.fst (Prod.fst d)) ∧ ∀ (r : List (Int × Int × Int × Nat × List (Int × Int)) × Int × Bool), unD ringG r = Prod.fst d → List.Nodup (ids ringG r) → Ty.wf ringG r → True → True ∧ ((!ringOkF (Prod.fst (Prod.fst d))
  (Prod.fst (Prod.snd (Prod.fst d))) (Prod.snd (Prod.snd (Prod.fst d)))) = true → (unD ringG r, unD Ty.bool false) = addFlF (Prod.fst d) (Prod.fst (Prod.snd d)) (Prod.snd (Prod.snd d)) ∧ List.Nodup (ids ringG r ++ ids
  Ty.bool false)) ∧ ((!ringOkF (Prod.fst (Prod.fst d)) (Prod.fst (Prod.snd (Prod.fst d))) (Prod.snd (Prod.snd (Prod.fst d)))) = false → True ∧ (Ty.wf i64T (fidxGo (Prod.fst (Prod.snd d)) (Prod.fst (Prod.fst d)) (0 :
  Nat)) → (decide ((0 : Int) ≤ fidxGo (Prod.fst (Prod.snd d)) (Prod.fst (Prod.fst d)) (0 : Nat)) = true → (unD ringG r, unD Ty.bool false) = addFlF (Prod.fst d) (Prod.fst (Prod.snd d)) (Prod.snd (Prod.snd d)) ∧
  List.Nodup (ids ringG r ++ ids Ty.bool false)) ∧ (decide ((0 : Int) ≤ fidxGo (Prod.fst (Prod.snd d)) (Prod.fst (Prod.fst d)) (0 : Nat)) = false → (0 : Nat) ≤ addAtGo (Prod.fst (Prod.snd d)) (Prod.fst (Prod.fst d)) ∧
  (((Prod.fst (Prod.fst d) = Prod.fst (Prod.fst d) ∧ Prod.fst (Prod.snd (Prod.fst d)) = Prod.fst (Prod.snd (Prod.fst d)) ∧ Prod.snd (Prod.snd (Prod.fst d)) = Prod.snd (Prod.snd (Prod.fst d))) ∧ Prod.fst (Prod.snd d) =
  Prod.fst (Prod.snd d) ∧ Prod.snd (Prod.snd d) = Prod.snd (Prod.snd d) ∧ (0 : Int) = (↑(0 : Nat) : Int)) ∧ (Prod.fst (Prod.fst d) = Prod.fst (Prod.fst d) ∧ Prod.fst (Prod.snd (Prod.fst d)) = Prod.fst (Prod.snd (Prod.fst
  d)) ∧ Prod.snd (Prod.snd (Prod.fst d)) = Prod.snd (Prod.snd (Prod.fst d))) ∧ (Value.slice none (0 : Nat) (0 : Nat) = Value.slice none (0 : Nat) (0 : Nat) ∧ (0 : Int) = (0 : Int)) ∧ Prod.fst r = Prod.fst r ∧ Prod.fst
  (Prod.snd r) = Prod.fst (Prod.snd r) ∧ Prod.snd (Prod.snd r) = Prod.snd (Prod.snd r)) ∧ ∀ (x : Nat), x ≤ addAtGo (Prod.fst (Prod.snd d)) (Prod.fst (Prod.fst d)) → (decide ((↑x : Int) < (↑(List.length (Prod.fst
  (Prod.fst d))) : Int)) = true → ((0 : Int) ≤ (↑x : Int) ∧ (↑x : Int) < (↑(List.length (Prod.fst (Prod.fst d))) : Int)) ∧ (decide (Prod.fst (List.getD (Prod.fst (Prod.fst d)) (Int.toNat (↑x : Int)) ((0 : Int), (0 :
  Int), (0 : Int), [])) < Prod.fst (Prod.snd d)) = true → ∃ (x' : Nat), x' ≤ addAtGo (Prod.fst (Prod.snd d)) (Prod.fst (Prod.fst d)) ∧ List.length (Prod.fst (Prod.fst d)) - x' < List.length (Prod.fst (Prod.fst d)) - x ∧
  ((Prod.fst (Prod.fst d) = Prod.fst (Prod.fst d) ∧ Prod.fst (Prod.snd (Prod.fst d)) = Prod.fst (Prod.snd (Prod.fst d)) ∧ Prod.snd (Prod.snd (Prod.fst d)) = Prod.snd (Prod.snd (Prod.fst d))) ∧ Prod.fst (Prod.snd d) =
  Prod.fst (Prod.snd d) ∧ Prod.snd (Prod.snd d) = Prod.snd (Prod.snd d) ∧ IntKind.wrap IntKind.i64 ((↑x : Int) + (1 : Int)) = (↑x' : Int)) ∧ (Prod.fst (Prod.fst d) = Prod.fst (Prod.fst d) ∧ Prod.fst (Prod.snd (Prod.fst
  d)) = Prod.fst (Prod.snd (Prod.fst d)) ∧ Prod.snd (Prod.snd (Prod.fst d)) = Prod.snd (Prod.snd (Prod.fst d))) ∧ (Value.slice none (0 : Nat) (0 : Nat) = Value.slice none (0 : Nat) (0 : Nat) ∧ (0 : Int) = (0 : Int)) ∧
  Prod.fst r = Prod.fst r ∧ Prod.fst (Prod.snd r) = Prod.fst (Prod.snd r) ∧ Prod.snd (Prod.snd r) = Prod.snd (Prod.snd r)) ∧ (decide (Prod.fst (List.getD (Prod.fst (Prod.fst d)) (Int.toNat (↑x : Int)) ((0 : Int), (0 :
  Int), (0 : Int), [])) < Prod.fst (Prod.snd d)) = false → (decide ((0 : Int) < (↑(List.length (Prod.fst (Prod.fst d))) : Int)) = true → (decide ((↑x : Int) ≤ Prod.fst (Prod.snd (Prod.fst d))) = true → ((∀ (y : Int × Int
  × Int × List (Int × Int)), y ∈ [(Prod.fst (Prod.snd d), Prod.snd (Prod.snd d), (0 : Int), [])] → nilD flG y) ∧ (0 : Int) ≤ (↑x : Int) ∧ (↑x : Int) ≤ (↑(List.length (Prod.fst r)) : Int) ∧ List.length (List.map (tell0
  flG) [(Prod.fst (Prod.snd d), Prod.snd (Prod.snd d), (0 : Int), [])]) = (1 : Nat) ∧ (List.length (Prod.fst r) + (1 : Nat)) * (48 : Nat) ≤ (140737488355328 : Nat)) ∧ True ∧ ((!ringOkF (unL flG (List.take (Int.toNat (↑x
  : Int)) (Prod.fst r) ++ List.map (tell0 flG) [(Prod.fst (Prod.snd d), Prod.snd (Prod.snd d), (0 : Int), [])] ++ List.drop (Int.toNat (↑x : Int)) (Prod.fst r))) (IntKind.wrap IntKind.i64 (Prod.fst (Prod.snd r) + (1 :
  Int))) (Prod.snd (Prod.snd r))) = true → ∀ (xs' : List (Int × Int × Int × Nat × List (Int × Int))), unL (Ty.st (Ty.pr (Ty.int IntKind.i64) (Ty.pr (Ty.int IntKind.i64) (Ty.pr (Ty.int IntKind.i64) (Ty.st (Ty.gs false
  (Ty.st (Ty.pr (Ty.int IntKind.i64) (Ty.int IntKind.i64))))))))) xs' = [(Prod.fst (Prod.snd d), Prod.snd (Prod.snd d), (0 : Int), [])] → FlsP (Prod.fst (Prod.fst d)) ∧ ∀ (r_1 : List (Int × Int × Int × Nat × List (Int ×
  Int)) × Int × Bool), unD ringG r_1 = Prod.fst d → List.Nodup (ids ringG r_1) → Ty.wf ringG r_1 → Apart (ids ringG r_1) (idsL flG (List.take (Int.toNat (↑x : Int)) (Prod.fst r) ++ List.map (tell0 flG) [(Prod.fst
  (Prod.snd d), Prod.snd (Prod.snd d), (0 : Int), [])] ++ List.drop (Int.toNat (↑x : Int)) (Prod.fst r))) ∧ Apart (ids ringG r_1) (idsL (Ty.st (Ty.pr (Ty.int IntKind.i64) (Ty.pr (Ty.int IntKind.i64) (Ty.pr (Ty.int
  IntKind.i64) (Ty.st (Ty.gs false (Ty.st (Ty.pr (Ty.int IntKind.i64) (Ty.int IntKind.i64))))))))) xs') → (unD ringG r_1, unD Ty.bool false) = addFlF (Prod.fst d) (Prod.fst (Prod.snd d)) (Prod.snd (Prod.snd d)) ∧
  List.Nodup (ids ringG r_1 ++ ids Ty.bool false)) ∧ ((!ringOkF (unL flG (List.take (Int.toNat (↑x : Int)) (Prod.fst r) ++ List.map (tell0 flG) [(Prod.fst (Prod.snd d), Prod.snd (Prod.snd d), (0 : Int), [])] ++ List.drop
  (Int.toNat (↑x : Int)) (Prod.fst r))) (IntKind.wrap IntKind.i64 (Prod.fst (Prod.snd r) + (1 : Int))) (Prod.snd (Prod.snd r))) = false → (unD ringG (List.take (Int.toNat (↑x : Int)) (Prod.fst r) ++ List.map (tell0 flG)
  [(Prod.fst (Prod.snd d), Prod.snd (Prod.snd d), (0 : Int), [])] ++ List.drop (Int.toNat (↑x : Int)) (Prod.fst r), IntKind.wrap IntKind.i64 (Prod.fst (Prod.snd r) + (1 : Int)), Prod.snd (Prod.snd r)), unD Ty.bool true)
  = addFlF (Prod.fst d) (Prod.fst (Prod.snd d)) (Prod.snd (Prod.snd d)) ∧ List.Nodup (ids ringG (List.take (Int.toNat (↑x : Int)) (Prod.fst r) ++ List.map (tell0 flG) [(Prod.fst (Prod.snd d), Prod.snd (Prod.snd d), (0 :
  Int), [])] ++ List.drop (Int.toNat (↑x : Int)) (Prod.fst r), IntKind.wrap IntKind.i64 (Prod.fst (Prod.snd r) + (1 : Int)), Prod.snd (Prod.snd r)) ++ ids Ty.bool true))) ∧ (decide ((↑x : Int) ≤ Prod.fst (Prod.snd
  (Prod.fst d))) = false → ((∀ (y : Int × Int × Int × List (Int × Int)), y ∈ [(Prod.fst (Prod.snd d), Prod.snd (Prod.snd d), (0 : Int), [])] → nilD flG y) ∧ (0 : Int) ≤ (↑x : Int) ∧ (↑x : Int) ≤ (↑(List.length (Prod.fst
  r)) : Int) ∧ List.length (List.map (tell0 flG) [(Prod.fst (Prod.snd d), Prod.snd (Prod.snd d), (0 : Int), [])]) = (1 : Nat) ∧ (List.length (Prod.fst r) + (1 : Nat)) * (48 : Nat) ≤ (140737488355328 : Nat)) ∧ True ∧
  ((!ringOkF (unL flG (List.take (Int.toNat (↑x : Int)) (Prod.fst r) ++ List.map (tell0 flG) [(Prod.fst (Prod.snd d), Prod.snd (Prod.snd d), (0 : Int), [])] ++ List.drop (Int.toNat (↑x : Int)) (Prod.fst r))) (Prod.fst
  (Prod.snd r)) (Prod.snd (Prod.snd r))) = true → ∀ (xs' : List (Int × Int × Int × Nat × List (Int × Int))), unL (Ty.st (Ty.pr (Ty.int IntKind.i64) (Ty.pr (Ty.int IntKind.i64) (Ty.pr (Ty.int IntKind.i64) (Ty.st (Ty.gs
  false (Ty.st (Ty.pr (Ty.int IntKind.i64) (Ty.int IntKind.i64))))))))) xs' = [(Prod.fst (Prod.snd d), Prod.snd (Prod.snd d), (0 : Int), [])] → FlsP (Prod.fst (Prod.fst d)) ∧ ∀ (r_1 : List (Int × Int × Int × Nat × List
  (Int × Int)) × Int × Bool), unD ringG r_1 = Prod.fst d → List.Nodup (ids ringG r_1) → Ty.wf ringG r_1 → Apart (ids ringG r_1) (idsL flG (List.take (Int.toNat (↑x : Int)) (Prod.fst r) ++ List.map (tell0 flG) [(Prod.fst
  (Prod.snd d), Prod.snd (Prod.snd d), (0 : Int), [])] ++ List.drop (Int.toNat (↑x : Int)) (Prod.fst r))) ∧ Apart (ids ringG r_1) (idsL (Ty.st (Ty.pr (Ty.int IntKind.i64) (Ty.pr (Ty.int IntKind.i64) (Ty.pr (Ty.int
  IntKind.i64) (Ty.st (Ty.gs false (Ty.st (Ty.pr (Ty.int IntKind.i64) (Ty.int IntKind.i64))))))))) xs') → (unD ringG r_1, unD Ty.bool false) = addFlF (Prod.fst d) (Prod.fst (Prod.snd d)) (Prod.snd (Prod.snd d)) ∧
  List.Nodup (ids ringG r_1 ++ ids Ty.bool false)) ∧ ((!ringOkF (unL flG (List.take (Int.toNat (↑x : Int)) (Prod.fst r) ++ List.map (tell0 flG) [(Prod.fst (Prod.snd d), Prod.snd (Prod.snd d), (0 : Int), [])] ++ List.drop
  (Int.toNat (↑x : Int)) (Prod.fst r))) (Prod.fst (Prod.snd r)) (Prod.snd (Prod.snd r))) = false → (unD ringG (List.take (Int.toNat (↑x : Int)) (Prod.fst r) ++ List.map (tell0 flG) [(Prod.fst (Prod.snd d), Prod.snd
  (Prod.snd d), (0 : Int), [])] ++ List.drop (Int.toNat (↑x : Int)) (Prod.fst r), Prod.snd r), unD Ty.bool true) = addFlF (Prod.fst d) (Prod.fst (Prod.snd d)) (Prod.snd (Prod.snd d)) ∧ List.Nodup (ids ringG (List.take
  (Int.toNat (↑x : Int)) (Prod.fst r) ++ List.map (tell0 flG) [(Prod.fst (Prod.snd d), Prod.snd (Prod.snd d), (0 : Int), [])] ++ List.drop (Int.toNat (↑x : Int)) (Prod.fst r), Prod.snd r) ++ ids Ty.bool true)))) ∧
  (decide ((0 : Int) < (↑(List.length (Prod.fst (Prod.fst d))) : Int)) = false → ((∀ (y : Int × Int × Int × List (Int × Int)), y ∈ [(Prod.fst (Prod.snd d), Prod.snd (Prod.snd d), (0 : Int), [])] → nilD flG y) ∧ (0 : Int)
  ≤ (↑x : Int) ∧ (↑x : Int) ≤ (↑(List.length (Prod.fst r)) : Int) ∧ List.length (List.map (tell0 flG) [(Prod.fst (Prod.snd d), Prod.snd (Prod.snd d), (0 : Int), [])]) = (1 : Nat) ∧ (List.length (Prod.fst r) + (1 : Nat))
  * (48 : Nat) ≤ (140737488355328 : Nat)) ∧ True ∧ ((!ringOkF (unL flG (List.take (Int.toNat (↑x : Int)) (Prod.fst r) ++ List.map (tell0 flG) [(Prod.fst (Prod.snd d), Prod.snd (Prod.snd d), (0 : Int), [])] ++ List.drop
  (Int.toNat (↑x : Int)) (Prod.fst r))) (Prod.fst (Prod.snd r)) (Prod.snd (Prod.snd r))) = true → ∀ (xs' : List (Int × Int × Int × Nat × List (Int × Int))), unL (Ty.st (Ty.pr (Ty.int IntKind.i64) (Ty.pr (Ty.int
  IntKind.i64) (Ty.pr (Ty.int IntKind.i64) (Ty.st (Ty.gs false (Ty.st (Ty.pr (Ty.int IntKind.i64) (Ty.int IntKind.i64))))))))) xs' = [(Prod.fst (Prod.snd d), Prod.snd (Prod.snd d), (0 : Int), [])] → FlsP (Prod.fst
  (Prod.fst d)) ∧ ∀ (r_1 : List (Int × Int × Int × Nat × List (Int × Int)) × Int × Bool), unD ringG r_1 = Prod.fst d → List.Nodup (ids ringG r_1) → Ty.wf ringG r_1 → Apart (ids ringG r_1) (idsL flG (List.take (Int.toNat
  (↑x : Int)) (Prod.fst r) ++ List.map (tell0 flG) [(Prod.fst (Prod.snd d), Prod.snd (Prod.snd d), (0 : Int), [])] ++ List.drop (Int.toNat (↑x : Int)) (Prod.fst r))) ∧ Apart (ids ringG r_1) (idsL (Ty.st (Ty.pr (Ty.int
  IntKind.i64) (Ty.pr (Ty.int IntKind.i64) (Ty.pr (Ty.int IntKind.i64) (Ty.st (Ty.gs false (Ty.st (Ty.pr (Ty.int IntKind.i64) (Ty.int IntKind.i64))))))))) xs') → (unD ringG r_1, unD Ty.bool false) = addFlF (Prod.fst d)
  (Prod.fst (Prod.snd d)) (Prod.snd (Prod.snd d)) ∧ List.Nodup (ids ringG r_1 ++ ids Ty.bool false)) ∧ ((!ringOkF (unL flG (List.take (Int.toNat (↑x : Int)) (Prod.fst r) ++ List.map (tell0 flG) [(Prod.fst (Prod.snd d),
  Prod.snd (Prod.snd d), (0 : Int), [])] ++ List.drop (Int.toNat (↑x : Int)) (Prod.fst r))) (Prod.fst (Prod.snd r)) (Prod.snd (Prod.snd r))) = false → (unD ringG (List.take (Int.toNat (↑x : Int)) (Prod.fst r) ++ List.map
  (tell0 flG) [(Prod.fst (Prod.snd d), Prod.snd (Prod.snd d), (0 : Int), [])] ++ List.drop (Int.toNat (↑x : Int)) (Prod.fst r), Prod.snd r), unD Ty.bool true) = addFlF (Prod.fst d) (Prod.fst (Prod.snd d)) (Prod.snd
  (Prod.snd d)) ∧ List.Nodup (ids ringG (List.take (Int.toNat (↑x : Int)) (Prod.fst r) ++ List.map (tell0 flG) [(Prod.fst (Prod.snd d), Prod.snd (Prod.snd d), (0 : Int), [])] ++ List.drop (Int.toNat (↑x : Int)) (Prod.fst
  r), Prod.snd r) ++ ids Ty.bool true))))) ∧ (decide ((↑x : Int) < (↑(List.length (Prod.fst (Prod.fst d))) : Int)) = false → (decide ((0 : Int) < (↑(List.length (Prod.fst (Prod.fst d))) : Int)) = true → (decide ((↑x :
  Int) ≤ Prod.fst (Prod.snd (Prod.fst d))) = true → ((∀ (y : Int × Int × Int × List (Int × Int)), y ∈ [(Prod.fst (Prod.snd d), Prod.snd (Prod.snd d), (0 : Int), [])] → nilD flG y) ∧ (0 : Int) ≤ (↑x : Int) ∧ (↑x : Int) ≤
  (↑(List.length (Prod.fst r)) : Int) ∧ List.length (List.map (tell0 flG) [(Prod.fst (Prod.snd d), Prod.snd (Prod.snd d), (0 : Int), [])]) = (1 : Nat) ∧ (List.length (Prod.fst r) + (1 : Nat)) * (48 : Nat) ≤
  (140737488355328 : Nat)) ∧ True ∧ ((!ringOkF (unL flG (List.take (Int.toNat (↑x : Int)) (Prod.fst r) ++ List.map (tell0 flG) [(Prod.fst (Prod.snd d), Prod.snd (Prod.snd d), (0 : Int), [])] ++ List.drop (Int.toNat (↑x :
  Int)) (Prod.fst r))) (IntKind.wrap IntKind.i64 (Prod.fst (Prod.snd r) + (1 : Int))) (Prod.snd (Prod.snd r))) = true → ∀ (xs' : List (Int × Int × Int × Nat × List (Int × Int))), unL (Ty.st (Ty.pr (Ty.int IntKind.i64)
  (Ty.pr (Ty.int IntKind.i64) (Ty.pr (Ty.int IntKind.i64) (Ty.st (Ty.gs false (Ty.st (Ty.pr (Ty.int IntKind.i64) (Ty.int IntKind.i64))))))))) xs' = [(Prod.fst (Prod.snd d), Prod.snd (Prod.snd d), (0 : Int), [])] → FlsP
  (Prod.fst (Prod.fst d)) ∧ ∀ (r_1 : List (Int × Int × Int × Nat × List (Int × Int)) × Int × Bool), unD ringG r_1 = Prod.fst d → List.Nodup (ids ringG r_1) → Ty.wf ringG r_1 → Apart (ids ringG r_1) (idsL flG (List.take
  (Int.toNat (↑x : Int)) (Prod.fst r) ++ List.map (tell0 flG) [(Prod.fst (Prod.snd d), Prod.snd (Prod.snd d), (0 : Int), [])] ++ List.drop (Int.toNat (↑x : Int)) (Prod.fst r))) ∧ Apart (ids ringG r_1) (idsL (Ty.st (Ty.pr
  (Ty.int IntKind.i64) (Ty.pr (Ty.int IntKind.i64) (Ty.pr (Ty.int IntKind.i64) (Ty.st (Ty.gs false (Ty.st (Ty.pr (Ty.int IntKind.i64) (Ty.int IntKind.i64))))))))) xs') → (unD ringG r_1, unD Ty.bool false) = addFlF
  (Prod.fst d) (Prod.fst (Prod.snd d)) (Prod.snd (Prod.snd d)) ∧ List.Nodup (ids ringG r_1 ++ ids Ty.bool false)) ∧ ((!ringOkF (unL flG (List.take (Int.toNat (↑x : Int)) (Prod.fst r) ++ List.map (tell0 flG) [(Prod.fst
  (Prod.snd d), Prod.snd (Prod.snd d), (0 : Int), [])] ++ List.drop (Int.toNat (↑x : Int)) (Prod.fst r))) (IntKind.wrap IntKind.i64 (Prod.fst (Prod.snd r) + (1 : Int))) (Prod.snd (Prod.snd r))) = false → (unD ringG
  (List.take (Int.toNat (↑x : Int)) (Prod.fst r) ++ List.map (tell0 flG) [(Prod.fst (Prod.snd d), Prod.snd (Prod.snd d), (0 : Int), [])] ++ List.drop (Int.toNat (↑x : Int)) (Prod.fst r), IntKind.wrap IntKind.i64
  (Prod.fst (Prod.snd r) + (1 : Int)), Prod.snd (Prod.snd r)), unD Ty.bool true) = addFlF (Prod.fst d) (Prod.fst (Prod.snd d)) (Prod.snd (Prod.snd d)) ∧ List.Nodup (ids ringG (List.take (Int.toNat (↑x : Int)) (Prod.fst
  r) ++ List.map (tell0 flG) [(Prod.fst (Prod.snd d), Prod.snd (Prod.snd d), (0 : Int), [])] ++ List.drop (Int.toNat (↑x : Int)) (Prod.fst r), IntKind.wrap IntKind.i64 (Prod.fst (Prod.snd r) + (1 : Int)), Prod.snd
  (Prod.snd r)) ++ ids Ty.bool true))) ∧ (decide ((↑x : Int) ≤ Prod.fst (Prod.snd (Prod.fst d))) = false → ((∀ (y : Int × Int × Int × List (Int × Int)), y ∈ [(Prod.fst (Prod.snd d), Prod.snd (Prod.snd d), (0 : Int), [])]
  → nilD flG y) ∧ (0 : Int) ≤ (↑x : Int) ∧ (↑x : Int) ≤ (↑(List.length (Prod.fst r)) : Int) ∧ List.length (List.map (tell0 flG) [(Prod.fst (Prod.snd d), Prod.snd (Prod.snd d), (0 : Int), [])]) = (1 : Nat) ∧ (List.length
  (Prod.fst r) + (1 : Nat)) * (48 : Nat) ≤ (140737488355328 : Nat)) ∧ True ∧ ((!ringOkF (unL flG (List.take (Int.toNat (↑x : Int)) (Prod.fst r) ++ List.map (tell0 flG) [(Prod.fst (Prod.snd d), Prod.snd (Prod.snd d), (0 :
  Int), [])] ++ List.drop (Int.toNat (↑x : Int)) (Prod.fst r))) (Prod.fst (Prod.snd r)) (Prod.snd (Prod.snd r))) = true → ∀ (xs' : List (Int × Int × Int × Nat × List (Int × Int))), unL (Ty.st (Ty.pr (Ty.int IntKind.i64)
  (Ty.pr (Ty.int IntKind.i64) (Ty.pr (Ty.int IntKind.i64) (Ty.st (Ty.gs false (Ty.st (Ty.pr (Ty.int IntKind.i64) (Ty.int IntKind.i64))))))))) xs' = [(Prod.fst (Prod.snd d), Prod.snd (Prod.snd d), (0 : Int), [])] → FlsP
  (Prod.fst (Prod.fst d)) ∧ ∀ (r_1 : List (Int × Int × Int × Nat × List (Int × Int)) × Int × Bool), unD ringG r_1 = Prod.fst d → List.Nodup (ids ringG r_1) → Ty.wf ringG r_1 → Apart (ids ringG r_1) (idsL flG (List.take
  (Int.toNat (↑x : Int)) (Prod.fst r) ++ List.map (tell0 flG) [(Prod.fst (Prod.snd d), Prod.snd (Prod.snd d), (0 : Int), [])] ++ List.drop (Int.toNat (↑x : Int)) (Prod.fst r))) ∧ Apart (ids ringG r_1) (idsL (Ty.st (Ty.pr
  (Ty.int IntKind.i64) (Ty.pr (Ty.int IntKind.i64) (Ty.pr (Ty.int IntKind.i64) (Ty.st (Ty.gs false (Ty.st (Ty.pr (Ty.int IntKind.i64) (Ty.int IntKind.i64))))))))) xs') → (unD ringG r_1, unD Ty.bool false) = addFlF
  (Prod.fst d) (Prod.fst (Prod.snd d)) (Prod.snd (Prod.snd d)) ∧ List.Nodup (ids ringG r_1 ++ ids Ty.bool false)) ∧ ((!ringOkF (unL flG (List.take (Int.toNat (↑x : Int)) (Prod.fst r) ++ List.map (tell0 flG) [(Prod.fst
  (Prod.snd d), Prod.snd (Prod.snd d), (0 : Int), [])] ++ List.drop (Int.toNat (↑x : Int)) (Prod.fst r))) (Prod.fst (Prod.snd r)) (Prod.snd (Prod.snd r))) = false → (unD ringG (List.take (Int.toNat (↑x : Int)) (Prod.fst
  r) ++ List.map (tell0 flG) [(Prod.fst (Prod.snd d), Prod.snd (Prod.snd d), (0 : Int), [])] ++ List.drop (Int.toNat (↑x : Int)) (Prod.fst r), Prod.snd r), unD Ty.bool true) = addFlF (Prod.fst d) (Prod.fst (Prod.snd d))
  (Prod.snd (Prod.snd d)) ∧ List.Nodup (ids ringG (List.take (Int.toNat (↑x : Int)) (Prod.fst r) ++ List.map (tell0 flG) [(Prod.fst (Prod.snd d), Prod.snd (Prod.snd d), (0 : Int), [])] ++ List.drop (Int.toNat (↑x : Int))
  (Prod.fst r), Prod.snd r) ++ ids Ty.bool true)))) ∧ (decide ((0 : Int) < (↑(List.length (Prod.fst (Prod.fst d))) : Int)) = false → ((∀ (y : Int × Int × Int × List (Int × Int)), y ∈ [(Prod.fst (Prod.snd d), Prod.snd
  (Prod.snd d), (0 : Int), [])] → nilD flG y) ∧ (0 : Int) ≤ (↑x : Int) ∧ (↑x : Int) ≤ (↑(List.length (Prod.fst r)) : Int) ∧ List.length (List.map (tell0 flG) [(Prod.fst (Prod.snd d), Prod.snd (Prod.snd d), (0 : Int),
  [])]) = (1 : Nat) ∧ (List.length (Prod.fst r) + (1 : Nat)) * (48 : Nat) ≤ (140737488355328 : Nat)) ∧ True ∧ ((!ringOkF (unL flG (List.take (Int.toNat (↑x : Int)) (Prod.fst r) ++ List.map (tell0 flG) [(Prod.fst
  (Prod.snd d), Prod.snd (Prod.snd d), (0 : Int), [])] ++ List.drop (Int.toNat (↑x : Int)) (Prod.fst r))) (Prod.fst (Prod.snd r)) (Prod.snd (Prod.snd r))) = true → ∀ (xs' : List (Int × Int × Int × Nat × List (Int ×
  Int))), unL (Ty.st (Ty.pr (Ty.int IntKind.i64) (Ty.pr (Ty.int IntKind.i64) (Ty.pr (Ty.int IntKind.i64) (Ty.st (Ty.gs false (Ty.st (Ty.pr (Ty.int IntKind.i64) (Ty.int IntKind.i64))))))))) xs' = [(Prod.fst (Prod.snd d),
  Prod.snd (Prod.snd d), (0 : Int), [])] → FlsP (Prod.fst (Prod.fst d)) ∧ ∀ (r_1 : List (Int × Int × Int × Nat × List (Int × Int)) × Int × Bool), unD ringG r_1 = Prod.fst d → List.Nodup (ids ringG r_1) → Ty.wf ringG r_1
  → Apart (ids ringG r_1) (idsL flG (List.take (Int.toNat (↑x : Int)) (Prod.fst r) ++ List.map (tell0 flG) [(Prod.fst (Prod.snd d), Prod.snd (Prod.snd d), (0 : Int), [])] ++ List.drop (Int.toNat (↑x : Int)) (Prod.fst
  r))) ∧ Apart (ids ringG r_1) (idsL (Ty.st (Ty.pr (Ty.int IntKind.i64) (Ty.pr (Ty.int IntKind.i64) (Ty.pr (Ty.int IntKind.i64) (Ty.st (Ty.gs false (Ty.st (Ty.pr (Ty.int IntKind.i64) (Ty.int IntKind.i64))))))))) xs') →
  (unD ringG r_1, unD Ty.bool false) = addFlF (Prod.fst d) (Prod.fst (Prod.snd d)) (Prod.snd (Prod.snd d)) ∧ List.Nodup (ids ringG r_1 ++ ids Ty.bool false)) ∧ ((!ringOkF (unL flG (List.take (Int.toNat (↑x : Int))
  (Prod.fst r) ++ List.map (tell0 flG) [(Prod.fst (Prod.snd d), Prod.snd (Prod.snd d), (0 : Int), [])] ++ List.drop (Int.toNat (↑x : Int)) (Prod.fst r))) (Prod.fst (Prod.snd r)) (Prod.snd (Prod.snd r))) = false → (unD
  ringG (List.take (Int.toNat (↑x : Int)) (Prod.fst r) ++ List.map (tell0 flG) [(Prod.fst (Prod.snd d), Prod.snd (Prod.snd d), (0 : Int), [])] ++ List.drop (Int.toNat (↑x : Int)) (Prod.fst r), Prod.snd r), unD Ty.bool
  true) = addFlF (Prod.fst d) (Prod.fst (Prod.snd d)) (Prod.snd (Prod.snd d)) ∧ List.Nodup (ids ringG (List.take (Int.toNat (↑x : Int)) (Prod.fst r) ++ List.map (tell0 flG) [(Prod.fst (Prod.snd d), Prod.snd (Prod.snd d),
  (0 : Int), [])] ++ List.drop (Int.toNat (↑x : Int)) (Prod.fst r), Prod.snd r) ++ ids Ty.bool true))))))) := by
  intro d hw hp
  obtain ⟨⟨xs, tn, fr⟩, t, q⟩ := d
  have hp : FlsP xs := hp
  simp only [Int.toNat_natCast, exists_const, and_true, true_and, implies_true, decide_eq_true_eq, decide_eq_false_iff_not, Bool.not_eq_true', Bool.not_eq_false', beq_iff_eq, forall_const]
  simp only [unG1', idN1, idG1', idG3', unG2, idBool, unBool, idTk, unTk1, List.append_nil, true_and, and_true]
  refine ⟨hp, fun r h1 h2 h3 => ⟨fun h4 => ⟨by rw [h1, add_no (.inl h4)]; rfl, h2⟩, fun h4 _ => ⟨fun h5 => ⟨by rw [h1, add_no (.inr (.inl h5))]; rfl, h2⟩, fun h5 => ?_⟩⟩⟩
  obtain ⟨q1, q2, q3⟩ := eq1 h1
  simp only at q2 q3
  have hl := len_un q1
  obtain ⟨s1, s2, s3, s4⟩ := ring_small h4
  have hw1 : IntKind.i64.wrap (r.2.1 + 1) = tn + 1 := by rw [q2]; exact wrap_small (by omega)
  have hle := addAt_le t xs
  refine ⟨Nat.zero_le _, rfl, fun x hx => ?_⟩
  have key : ∀ turn', x = addAtGo t xs → turn' = (if 0 < xs.length ∧ (addAtGo t xs : Int) ≤ tn then tn + 1 else tn) →
      (ringOkF (List.map unF (List.take x r.1 ++ List.map (tell0 flG) [(t, q, (0 : Int), ([] : List Tk))] ++ List.drop x r.1)) turn' r.2.2 = false → addFlF (xs, tn, fr) t q = ((xs, tn, fr), false)) ∧
      (ringOkF (List.map unF (List.take x r.1 ++ List.map (tell0 flG) [(t, q, (0 : Int), ([] : List Tk))] ++ List.drop x r.1)) turn' r.2.2 = true → ((List.map unF (List.take x r.1 ++ List.map (tell0 flG) [(t, q, (0 : Int), ([] : List Tk))] ++ List.drop x r.1), turn', r.2.2), true) = addFlF (xs, tn, fr) t q) := by
    intro turn' hxa ht
    rw [ins_un q1, hxa, q3, ht]
    exact ⟨fun h => add_no (.inr (.inr h)), fun h => (add_yes h4 h5 h).symm⟩
  have hn := ins_ids h2 x t q
  have hb : (r.1.length + 1) * 48 ≤ 140737488355328 := by omega
  rw [hw1]
  have fin : x = addAtGo t xs → (0 < (xs.length : Int) → ((x : Int) ≤ tn → tn + 1 = (if 0 < xs.length ∧ (addAtGo t xs : Int) ≤ tn then tn + 1 else tn)) ∧ (¬ (x : Int) ≤ tn → r.2.1 = (if 0 < xs.length ∧ (addAtGo t xs : Int) ≤ tn then tn + 1 else tn))) ∧ (¬ 0 < (xs.length : Int) → r.2.1 = (if 0 < xs.length ∧ (addAtGo t xs : Int) ≤ tn then tn + 1 else tn)) := by
    intro hxa
    rw [q2, ← hxa]
    refine ⟨fun a1 => ⟨fun a2 => ?_, fun a2 => ?_⟩, fun a1 => ?_⟩
    · rw [if_pos ⟨by omega, a2⟩]
    · rw [if_neg (fun h => a2 h.2)]
    · rw [if_neg (fun h => a1 (by omega))]
  refine ⟨fun h6 => ⟨⟨by omega, h6⟩, fun h7 => ?_, fun h7 => ?_⟩, fun h6 => ?_⟩
  · have := (addAt_iff t xs x hx (by omega)).1 h7
    exact ⟨x + 1, by omega, by omega, by rw [wrap_small (by omega)]; rfl⟩
  · have hxa := (addAt_iff t xs x hx (by omega)).2 h7
    obtain ⟨f1, f2⟩ := fin hxa
    refine ⟨fun h8 => ⟨fun h10 => ?_, fun h10 => ?_⟩, fun h8 => ?_⟩
    · exact ⟨⟨nil_new t q, by omega, by omega, rfl, hb⟩, fun h9 xs' _ => ⟨hp, fun r1 e1 n1 _ _ => ⟨(congrArg (fun z => (z, false)) e1).trans ((key _ hxa ((f1 h8).1 h10)).1 h9).symm, n1⟩⟩, fun h9 => ⟨(key _ hxa ((f1 h8).1 h10)).2 h9, hn⟩⟩
    · exact ⟨⟨nil_new t q, by omega, by omega, rfl, hb⟩, fun h9 xs' _ => ⟨hp, fun r1 e1 n1 _ _ => ⟨(congrArg (fun z => (z, false)) e1).trans ((key _ hxa ((f1 h8).2 h10)).1 h9).symm, n1⟩⟩, fun h9 => ⟨(key _ hxa ((f1 h8).2 h10)).2 h9, hn⟩⟩
    · exact ⟨⟨nil_new t q, by omega, by omega, rfl, hb⟩, fun h9 xs' _ => ⟨hp, fun r1 e1 n1 _ _ => ⟨(congrArg (fun z => (z, false)) e1).trans ((key _ hxa (f2 h8)).1 h9).symm, n1⟩⟩, fun h9 => ⟨(key _ hxa (f2 h8)).2 h9, hn⟩⟩
  · have hxa : x = addAtGo t xs := by omega
    obtain ⟨f1, f2⟩ := fin hxa
    refine ⟨fun h8 => ⟨fun h10 => ?_, fun h10 => ?_⟩, fun h8 => ?_⟩
    · exact ⟨⟨nil_new t q, by omega, by omega, rfl, hb⟩, fun h9 xs' _ => ⟨hp, fun r1 e1 n1 _ _ => ⟨(congrArg (fun z => (z, false)) e1).trans ((key _ hxa ((f1 h8).1 h10)).1 h9).symm, n1⟩⟩, fun h9 => ⟨(key _ hxa ((f1 h8).1 h10)).2 h9, hn⟩⟩
    · exact ⟨⟨nil_new t q, by omega, by omega, rfl, hb⟩, fun h9 xs' _ => ⟨hp, fun r1 e1 n1 _ _ => ⟨(congrArg (fun z => (z, false)) e1).trans ((key _ hxa ((f1 h8).2 h10)).1 h9).symm, n1⟩⟩, fun h9 => ⟨(key _ hxa ((f1 h8).2 h10)).2 h9, hn⟩⟩
    · exact ⟨⟨nil_new t q, by omega, by omega, rfl, hb⟩, fun h9 xs' _ => ⟨hp, fun r1 e1 n1 _ _ => ⟨(congrArg (fun z => (z, false)) e1).trans ((key _ hxa (f2 h8)).1 h9).symm, n1⟩⟩, fun h9 => ⟨(key _ hxa (f2 h8)).2 h9, hn⟩⟩
theorem fidx_no (t : Int) : ∀ (xs : List Fl) (k : Nat), fidxGo t xs k < 0 → ∀ j, j < xs.length → (xs.getD j fl0).1 ≠ t
  | [], k, _, j, h => by simp at h
  | f :: fs, k, h, j, hj => by
    unfold fidxGo at h
    split at h
    · omega
    · rename_i hf
      cases j with
      | zero => rw [List.getD_cons_zero]; exact hf
      | succ j => rw [List.getD_cons_succ]; exact fidx_no t fs (k + 1) h j (by rw [List.length_cons] at hj; omega)
theorem take_one {xs : List Fl} {x : Nat} (h : x < xs.length) (d : Fl) : xs.take (x + 1) = xs.take x ++ [xs.getD x d] := by
  rw [List.take_succ_eq_append_getElem h]; simp [h]
theorem insK_len (xs : List Fl) (a : Nat) (f : Fl) (k : Nat) : (insK xs a f k).length ≤ xs.length + 1 := by
  unfold insK
  split
  · simp only [List.length_append, List.length_take, List.length_drop, List.length_singleton]; omega
  · rw [List.length_take]; omega
theorem insK_at {xs : List Fl} {a : Nat} {f : Fl} (h : a < xs.length) (d : Fl) : insK xs a f a ++ [f] ++ [xs.getD a d] = insK xs a f (a + 1) := by
  unfold insK
  rw [if_neg (by omega), if_pos (by omega), take_one h d]
  congr 1
  rw [List.drop_append_of_le_length (by rw [List.length_take]; omega), List.drop_eq_nil_of_le (by rw [List.length_take]; omega)]
  rfl
theorem insK_lt {xs : List Fl} {a x : Nat} {f : Fl} (h : x < xs.length) (hx : x + 1 ≤ a) (d : Fl) : insK xs a f x ++ [xs.getD x d] = insK xs a f (x + 1) := by
  unfold insK
  rw [if_neg (by omega), if_neg (by omega), take_one h d]
theorem insK_gt {xs : List Fl} {a x : Nat} {f : Fl} (h : x < xs.length) (hx : a < x) (d : Fl) : insK xs a f x ++ [xs.getD x d] = insK xs a f (x + 1) := by
  unfold insK
  rw [if_pos hx, if_pos (by omega), take_one h d, List.append_assoc, List.drop_append_of_le_length (by rw [List.length_take]; omega)]
theorem insK_end {xs : List Fl} {a : Nat} {f : Fl} (h : a < xs.length) : insK xs a f xs.length = insF xs a f := by
  unfold insK insF
  rw [if_pos h, List.take_length]
theorem insK_last {xs : List Fl} {f : Fl} : insK xs xs.length f xs.length ++ [f] = insF xs xs.length f := by
  unfold insK insF
  rw [if_neg (by omega), List.take_length, List.drop_length, List.append_nil]
theorem add_tot {fs : List Fl} {y : Int × Bool} (hT : totF fs ≤ 1048576) (t q : Int) : totF (addFlF (fs, y) t q).1.1 ≤ 4000000 := by
  unfold addFlF
  split
  · show totF (insF fs (addAtGo t fs) (t, q, 0, [])) ≤ _
    unfold insF
    rw [totF_app, totF_app]
    have h1 := totF_sub (List.take_sublist (addAtGo t fs) fs)
    have h2 := totF_sub (List.drop_sublist (addAtGo t fs) fs)
    have h3 : totF [(t, q, 0, [])] = 1 := rfl
    omega
  · show totF fs ≤ _
    omega
theorem eq3a {r : (List FlG × Int × Bool) × Bool} {s : List FlG × Int × Bool} {y : Int × Bool} {t i : Int} {L : List Fl} (e : ((r.1.1.map unF, r.1.2.1, r.1.2.2), r.2) = addFlF (s.1.map unF, s.2) t i) (h : (s.1.map unF, s.2.1, s.2.2) = (L, y)) : r.1.1.map unF = (addFlF (L, y) t i).1.1 ∧ r.1.2.1 = (addFlF (L, y) t i).1.2.1 ∧ r.1.2.2 = (addFlF (L, y) t i).1.2.2 ∧ r.2 = (addFlF (L, y) t i).2 := by
  rw [(eq1' h).1, (eq1' h).2] at e
  exact eq2 e
end Go.SF
