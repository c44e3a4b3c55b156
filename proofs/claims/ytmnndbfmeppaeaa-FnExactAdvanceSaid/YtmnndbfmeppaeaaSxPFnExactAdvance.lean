/- What is owed of the law's code: FnExactAdvance. No condition. -/
import Derived.Test.YtmnndbfmeppaeaaSxPAdv
namespace Go.SF
open Go.SX Go
set_option linter.unusedVariables false
set_option linter.unusedSimpArgs false
set_option maxRecDepth 10000
theorem go_len (d : Fd) (xs : List Sp) (units : Int) : ∀ (k : Nat) (v : List Int) (n : Nat) (u : Int), (advGo d xs units k v n u).1.length = v.length
  | 0, v, n, u => rfl
  | k + 1, v, n, u => by
    unfold advGo
    split
    · rw [go_len d xs units k]; exact rg_len _ _ _ _ _
    · rfl
theorem adv_len (t : Tn) (units : Int) : (advF t units).1.1 = t.1 ∧ (advF t units).1.2.1.length = t.2.1.length := by
  unfold advF
  split
  · exact ⟨rfl, go_len _ _ _ _ _ _ _⟩
  · exact ⟨rfl, rfl⟩
theorem held_tn {a b n : Int} {xs : List Sp} {v : List Int} (h : xs.length ≤ 1048576) (h1 : v.length ≤ 1048576) : heldTn ((a, b, mark3 xs 1), mark1 v (end3 xs 1), n) 1 = end1 v (end3 xs 1) ∧ 0 ≤ end1 v (end3 xs 1) := by
  have e1 := end3_small xs (k := 1) (by omega) (by omega)
  have e2 := end1_small v (k := end3 xs 1) (by omega) (by omega)
  have n1 : neg1 (end3 xs 1) = end3 xs 1 := by unfold neg1; rw [if_neg (by omega)]
  have n2 : neg1 (end1 v (end3 xs 1)) = end1 v (end3 xs 1) := by unfold neg1; rw [if_neg (by omega)]
  unfold heldTn
  simp only [held3_mark, n1, held1_mark, n2]
  rw [if_neg (by omega)]
  exact ⟨rfl, by omega⟩
theorem v_FnExactAdvance :
  ∀ (d : ((Int × Int × List (Int × Int × Int)) × List Int × Int) × Int), Ty.wf turnT (Prod.fst d) ∧ Ty.wf i64T (Prod.snd d) → True → True ∧ (Ty.wf i64T (szTnF ((Prod.fst (Prod.fst (Prod.fst d)), Prod.fst (Prod.snd
  (Prod.fst (Prod.fst d))), Prod.snd (Prod.snd (Prod.fst (Prod.fst d)))), Prod.fst (Prod.snd (Prod.fst d)), Prod.snd (Prod.snd (Prod.fst d))) (1048576 : Int)) → (decide (szTnF ((Prod.fst (Prod.fst (Prod.fst d)), Prod.fst
  (Prod.snd (Prod.fst (Prod.fst d))), Prod.snd (Prod.snd (Prod.fst (Prod.fst d)))), Prod.fst (Prod.snd (Prod.fst d)), Prod.snd (Prod.snd (Prod.fst d))) (1048576 : Int) < (0 : Int)) = true → true = true) ∧ (decide (szTnF
  ((Prod.fst (Prod.fst (Prod.fst d)), Prod.fst (Prod.snd (Prod.fst (Prod.fst d))), Prod.snd (Prod.snd (Prod.fst (Prod.fst d)))), Prod.fst (Prod.snd (Prod.fst d)), Prod.snd (Prod.snd (Prod.fst d))) (1048576 : Int) < (0 :
  Int)) = false → (List.length (Prod.snd (Prod.snd (Prod.fst (Prod.fst d)))) ≤ (1048576 : Nat) ∧ List.length (Prod.fst (Prod.snd (Prod.fst d))) ≤ (1048576 : Nat)) ∧ (Ty.wf turnT ((Prod.fst (Prod.fst (Prod.fst d)),
  Prod.fst (Prod.snd (Prod.fst (Prod.fst d))), Prod.snd (Prod.snd (Prod.fst (Prod.fst d)))), Prod.fst (Prod.snd (Prod.fst d)), Prod.snd (Prod.snd (Prod.fst d))) → (List.length (Prod.snd (Prod.snd (Prod.fst (Prod.fst
  d)))) ≤ (1048576 : Nat) ∧ List.length (Prod.fst (Prod.snd (Prod.fst d))) ≤ (1048576 : Nat)) ∧ (Ty.wf turnT (Prod.fst (advF ((Prod.fst (Prod.fst (Prod.fst d)), Prod.fst (Prod.snd (Prod.fst (Prod.fst d))), Prod.snd
  (Prod.snd (Prod.fst (Prod.fst d)))), Prod.fst (Prod.snd (Prod.fst d)), Prod.snd (Prod.snd (Prod.fst d))) (Prod.snd d))) ∧ Ty.wf i64T (Prod.snd (advF ((Prod.fst (Prod.fst (Prod.fst d)), Prod.fst (Prod.snd (Prod.fst
  (Prod.fst d))), Prod.snd (Prod.snd (Prod.fst (Prod.fst d)))), Prod.fst (Prod.snd (Prod.fst d)), Prod.snd (Prod.snd (Prod.fst d))) (Prod.snd d))) → (List.length (Prod.snd (Prod.snd (Prod.fst (Prod.fst d)))) ≤ (1048576 :
  Nat) ∧ List.length (Prod.fst (Prod.snd (Prod.fst d))) ≤ (1048576 : Nat)) ∧ (Ty.wf turnT ((Prod.fst (Prod.fst (Prod.fst d)), Prod.fst (Prod.snd (Prod.fst (Prod.fst d))), Prod.snd (Prod.snd (Prod.fst (Prod.fst d)))),
  Prod.fst (Prod.snd (Prod.fst d)), Prod.snd (Prod.snd (Prod.fst d))) → (List.length (Prod.snd (Prod.snd (Prod.fst (Prod.fst d)))) ≤ (1048576 : Nat) ∧ List.length (Prod.fst (Prod.snd (Prod.fst d))) ≤ (1048576 : Nat)) ∧
  (Ty.wf turnT (Prod.fst (advF ((Prod.fst (Prod.fst (Prod.fst d)), Prod.fst (Prod.snd (Prod.fst (Prod.fst d))), Prod.snd (Prod.snd (Prod.fst (Prod.fst d)))), Prod.fst (Prod.snd (Prod.fst d)), Prod.snd (Prod.snd (Prod.fst
  d))) (Prod.snd d))) ∧ Ty.wf i64T (Prod.snd (advF ((Prod.fst (Prod.fst (Prod.fst d)), Prod.fst (Prod.snd (Prod.fst (Prod.fst d))), Prod.snd (Prod.snd (Prod.fst (Prod.fst d)))), Prod.fst (Prod.snd (Prod.fst d)), Prod.snd
  (Prod.snd (Prod.fst d))) (Prod.snd d))) → True ∧ ((!decide (((Prod.fst (Prod.fst (Prod.fst (advF ((Prod.fst (Prod.fst (Prod.fst d)), Prod.fst (Prod.snd (Prod.fst (Prod.fst d))), Prod.snd (Prod.snd (Prod.fst (Prod.fst
  d)))), Prod.fst (Prod.snd (Prod.fst d)), Prod.snd (Prod.snd (Prod.fst d))) (Prod.snd d)))), Prod.fst (Prod.snd (Prod.fst (Prod.fst (advF ((Prod.fst (Prod.fst (Prod.fst d)), Prod.fst (Prod.snd (Prod.fst (Prod.fst d))),
  Prod.snd (Prod.snd (Prod.fst (Prod.fst d)))), Prod.fst (Prod.snd (Prod.fst d)), Prod.snd (Prod.snd (Prod.fst d))) (Prod.snd d))))), Prod.snd (Prod.snd (Prod.fst (Prod.fst (advF ((Prod.fst (Prod.fst (Prod.fst d)),
  Prod.fst (Prod.snd (Prod.fst (Prod.fst d))), Prod.snd (Prod.snd (Prod.fst (Prod.fst d)))), Prod.fst (Prod.snd (Prod.fst d)), Prod.snd (Prod.snd (Prod.fst d))) (Prod.snd d)))))), Prod.fst (Prod.snd (Prod.fst (advF
  ((Prod.fst (Prod.fst (Prod.fst d)), Prod.fst (Prod.snd (Prod.fst (Prod.fst d))), Prod.snd (Prod.snd (Prod.fst (Prod.fst d)))), Prod.fst (Prod.snd (Prod.fst d)), Prod.snd (Prod.snd (Prod.fst d))) (Prod.snd d)))),
  Prod.snd (Prod.snd (Prod.fst (advF ((Prod.fst (Prod.fst (Prod.fst d)), Prod.fst (Prod.snd (Prod.fst (Prod.fst d))), Prod.snd (Prod.snd (Prod.fst (Prod.fst d)))), Prod.fst (Prod.snd (Prod.fst d)), Prod.snd (Prod.snd
  (Prod.fst d))) (Prod.snd d))))) = ((Prod.fst (Prod.fst (Prod.fst (advF ((Prod.fst (Prod.fst (Prod.fst d)), Prod.fst (Prod.snd (Prod.fst (Prod.fst d))), Prod.snd (Prod.snd (Prod.fst (Prod.fst d)))), Prod.fst (Prod.snd
  (Prod.fst d)), Prod.snd (Prod.snd (Prod.fst d))) (Prod.snd d)))), Prod.fst (Prod.snd (Prod.fst (Prod.fst (advF ((Prod.fst (Prod.fst (Prod.fst d)), Prod.fst (Prod.snd (Prod.fst (Prod.fst d))), Prod.snd (Prod.snd
  (Prod.fst (Prod.fst d)))), Prod.fst (Prod.snd (Prod.fst d)), Prod.snd (Prod.snd (Prod.fst d))) (Prod.snd d))))), Prod.snd (Prod.snd (Prod.fst (Prod.fst (advF ((Prod.fst (Prod.fst (Prod.fst d)), Prod.fst (Prod.snd
  (Prod.fst (Prod.fst d))), Prod.snd (Prod.snd (Prod.fst (Prod.fst d)))), Prod.fst (Prod.snd (Prod.fst d)), Prod.snd (Prod.snd (Prod.fst d))) (Prod.snd d)))))), Prod.fst (Prod.snd (Prod.fst (advF ((Prod.fst (Prod.fst
  (Prod.fst d)), Prod.fst (Prod.snd (Prod.fst (Prod.fst d))), Prod.snd (Prod.snd (Prod.fst (Prod.fst d)))), Prod.fst (Prod.snd (Prod.fst d)), Prod.snd (Prod.snd (Prod.fst d))) (Prod.snd d)))), Prod.snd (Prod.snd
  (Prod.fst (advF ((Prod.fst (Prod.fst (Prod.fst d)), Prod.fst (Prod.snd (Prod.fst (Prod.fst d))), Prod.snd (Prod.snd (Prod.fst (Prod.fst d)))), Prod.fst (Prod.snd (Prod.fst d)), Prod.snd (Prod.snd (Prod.fst d)))
  (Prod.snd d))))))) = true → false = true) ∧ ((!decide (((Prod.fst (Prod.fst (Prod.fst (advF ((Prod.fst (Prod.fst (Prod.fst d)), Prod.fst (Prod.snd (Prod.fst (Prod.fst d))), Prod.snd (Prod.snd (Prod.fst (Prod.fst d)))),
  Prod.fst (Prod.snd (Prod.fst d)), Prod.snd (Prod.snd (Prod.fst d))) (Prod.snd d)))), Prod.fst (Prod.snd (Prod.fst (Prod.fst (advF ((Prod.fst (Prod.fst (Prod.fst d)), Prod.fst (Prod.snd (Prod.fst (Prod.fst d))),
  Prod.snd (Prod.snd (Prod.fst (Prod.fst d)))), Prod.fst (Prod.snd (Prod.fst d)), Prod.snd (Prod.snd (Prod.fst d))) (Prod.snd d))))), Prod.snd (Prod.snd (Prod.fst (Prod.fst (advF ((Prod.fst (Prod.fst (Prod.fst d)),
  Prod.fst (Prod.snd (Prod.fst (Prod.fst d))), Prod.snd (Prod.snd (Prod.fst (Prod.fst d)))), Prod.fst (Prod.snd (Prod.fst d)), Prod.snd (Prod.snd (Prod.fst d))) (Prod.snd d)))))), Prod.fst (Prod.snd (Prod.fst (advF
  ((Prod.fst (Prod.fst (Prod.fst d)), Prod.fst (Prod.snd (Prod.fst (Prod.fst d))), Prod.snd (Prod.snd (Prod.fst (Prod.fst d)))), Prod.fst (Prod.snd (Prod.fst d)), Prod.snd (Prod.snd (Prod.fst d))) (Prod.snd d)))),
  Prod.snd (Prod.snd (Prod.fst (advF ((Prod.fst (Prod.fst (Prod.fst d)), Prod.fst (Prod.snd (Prod.fst (Prod.fst d))), Prod.snd (Prod.snd (Prod.fst (Prod.fst d)))), Prod.fst (Prod.snd (Prod.fst d)), Prod.snd (Prod.snd
  (Prod.fst d))) (Prod.snd d))))) = ((Prod.fst (Prod.fst (Prod.fst (advF ((Prod.fst (Prod.fst (Prod.fst d)), Prod.fst (Prod.snd (Prod.fst (Prod.fst d))), Prod.snd (Prod.snd (Prod.fst (Prod.fst d)))), Prod.fst (Prod.snd
  (Prod.fst d)), Prod.snd (Prod.snd (Prod.fst d))) (Prod.snd d)))), Prod.fst (Prod.snd (Prod.fst (Prod.fst (advF ((Prod.fst (Prod.fst (Prod.fst d)), Prod.fst (Prod.snd (Prod.fst (Prod.fst d))), Prod.snd (Prod.snd
  (Prod.fst (Prod.fst d)))), Prod.fst (Prod.snd (Prod.fst d)), Prod.snd (Prod.snd (Prod.fst d))) (Prod.snd d))))), Prod.snd (Prod.snd (Prod.fst (Prod.fst (advF ((Prod.fst (Prod.fst (Prod.fst d)), Prod.fst (Prod.snd
  (Prod.fst (Prod.fst d))), Prod.snd (Prod.snd (Prod.fst (Prod.fst d)))), Prod.fst (Prod.snd (Prod.fst d)), Prod.snd (Prod.snd (Prod.fst d))) (Prod.snd d)))))), Prod.fst (Prod.snd (Prod.fst (advF ((Prod.fst (Prod.fst
  (Prod.fst d)), Prod.fst (Prod.snd (Prod.fst (Prod.fst d))), Prod.snd (Prod.snd (Prod.fst (Prod.fst d)))), Prod.fst (Prod.snd (Prod.fst d)), Prod.snd (Prod.snd (Prod.fst d))) (Prod.snd d)))), Prod.snd (Prod.snd
  (Prod.fst (advF ((Prod.fst (Prod.fst (Prod.fst d)), Prod.fst (Prod.snd (Prod.fst (Prod.fst d))), Prod.snd (Prod.snd (Prod.fst (Prod.fst d)))), Prod.fst (Prod.snd (Prod.fst d)), Prod.snd (Prod.snd (Prod.fst d)))
  (Prod.snd d))))))) = false → ((!decide (Prod.snd (advF ((Prod.fst (Prod.fst (Prod.fst d)), Prod.fst (Prod.snd (Prod.fst (Prod.fst d))), Prod.snd (Prod.snd (Prod.fst (Prod.fst d)))), Prod.fst (Prod.snd (Prod.fst d)),
  Prod.snd (Prod.snd (Prod.fst d))) (Prod.snd d)) = Prod.snd (advF ((Prod.fst (Prod.fst (Prod.fst d)), Prod.fst (Prod.snd (Prod.fst (Prod.fst d))), Prod.snd (Prod.snd (Prod.fst (Prod.fst d)))), Prod.fst (Prod.snd
  (Prod.fst d)), Prod.snd (Prod.snd (Prod.fst d))) (Prod.snd d)))) = true → false = true) ∧ ((!decide (Prod.snd (advF ((Prod.fst (Prod.fst (Prod.fst d)), Prod.fst (Prod.snd (Prod.fst (Prod.fst d))), Prod.snd (Prod.snd
  (Prod.fst (Prod.fst d)))), Prod.fst (Prod.snd (Prod.fst d)), Prod.snd (Prod.snd (Prod.fst d))) (Prod.snd d)) = Prod.snd (advF ((Prod.fst (Prod.fst (Prod.fst d)), Prod.fst (Prod.snd (Prod.fst (Prod.fst d))), Prod.snd
  (Prod.snd (Prod.fst (Prod.fst d)))), Prod.fst (Prod.snd (Prod.fst d)), Prod.snd (Prod.snd (Prod.fst d))) (Prod.snd d)))) = false → (List.length (Prod.snd (Prod.snd (Prod.fst (Prod.fst d)))) ≤ (1048576 : Nat) ∧
  List.length (Prod.fst (Prod.snd (Prod.fst d))) ≤ (1048576 : Nat)) ∧ True ∧ (Ty.wf turnT ((Prod.fst (Prod.fst (Prod.fst d)), Prod.fst (Prod.snd (Prod.fst (Prod.fst d))), Prod.snd (Prod.snd (Prod.fst (Prod.fst d)))),
  Prod.fst (Prod.snd (Prod.fst d)), Prod.snd (Prod.snd (Prod.fst d))) → ((!decide (((Prod.fst (Prod.fst (Prod.fst d)), Prod.fst (Prod.snd (Prod.fst (Prod.fst d))), Prod.snd (Prod.snd (Prod.fst (Prod.fst d)))), Prod.fst
  (Prod.snd (Prod.fst d)), Prod.snd (Prod.snd (Prod.fst d))) = ((Prod.fst (Prod.fst (Prod.fst d)), Prod.fst (Prod.snd (Prod.fst (Prod.fst d))), Prod.snd (Prod.snd (Prod.fst (Prod.fst d)))), Prod.fst (Prod.snd (Prod.fst
  d)), Prod.snd (Prod.snd (Prod.fst d))))) = true → false = true) ∧ ((!decide (((Prod.fst (Prod.fst (Prod.fst d)), Prod.fst (Prod.snd (Prod.fst (Prod.fst d))), Prod.snd (Prod.snd (Prod.fst (Prod.fst d)))), Prod.fst
  (Prod.snd (Prod.fst d)), Prod.snd (Prod.snd (Prod.fst d))) = ((Prod.fst (Prod.fst (Prod.fst d)), Prod.fst (Prod.snd (Prod.fst (Prod.fst d))), Prod.snd (Prod.snd (Prod.fst (Prod.fst d)))), Prod.fst (Prod.snd (Prod.fst
  d)), Prod.snd (Prod.snd (Prod.fst d))))) = false → True ∧ (decide (end1 (Prod.fst (Prod.snd (Prod.fst d))) (end3 (Prod.snd (Prod.snd (Prod.fst (Prod.fst d)))) (1 : Int)) < (0 : Int)) = true → false = true) ∧ (decide
  (end1 (Prod.fst (Prod.snd (Prod.fst d))) (end3 (Prod.snd (Prod.snd (Prod.fst (Prod.fst d)))) (1 : Int)) < (0 : Int)) = false → True ∧ ((!decide (((Prod.fst (Prod.fst (Prod.fst (advF ((Prod.fst (Prod.fst (Prod.fst d)),
  Prod.fst (Prod.snd (Prod.fst (Prod.fst d))), Prod.snd (Prod.snd (Prod.fst (Prod.fst d)))), Prod.fst (Prod.snd (Prod.fst d)), Prod.snd (Prod.snd (Prod.fst d))) (Prod.snd d)))), Prod.fst (Prod.snd (Prod.fst (Prod.fst
  (advF ((Prod.fst (Prod.fst (Prod.fst d)), Prod.fst (Prod.snd (Prod.fst (Prod.fst d))), Prod.snd (Prod.snd (Prod.fst (Prod.fst d)))), Prod.fst (Prod.snd (Prod.fst d)), Prod.snd (Prod.snd (Prod.fst d))) (Prod.snd d))))),
  Prod.snd (Prod.snd (Prod.fst (Prod.fst (advF ((Prod.fst (Prod.fst (Prod.fst d)), Prod.fst (Prod.snd (Prod.fst (Prod.fst d))), Prod.snd (Prod.snd (Prod.fst (Prod.fst d)))), Prod.fst (Prod.snd (Prod.fst d)), Prod.snd
  (Prod.snd (Prod.fst d))) (Prod.snd d)))))), Prod.fst (Prod.snd (Prod.fst (advF ((Prod.fst (Prod.fst (Prod.fst d)), Prod.fst (Prod.snd (Prod.fst (Prod.fst d))), Prod.snd (Prod.snd (Prod.fst (Prod.fst d)))), Prod.fst
  (Prod.snd (Prod.fst d)), Prod.snd (Prod.snd (Prod.fst d))) (Prod.snd d)))), Prod.snd (Prod.snd (Prod.fst (advF ((Prod.fst (Prod.fst (Prod.fst d)), Prod.fst (Prod.snd (Prod.fst (Prod.fst d))), Prod.snd (Prod.snd
  (Prod.fst (Prod.fst d)))), Prod.fst (Prod.snd (Prod.fst d)), Prod.snd (Prod.snd (Prod.fst d))) (Prod.snd d))))) = ((Prod.fst (Prod.fst (Prod.fst (advF ((Prod.fst (Prod.fst (Prod.fst d)), Prod.fst (Prod.snd (Prod.fst
  (Prod.fst d))), Prod.snd (Prod.snd (Prod.fst (Prod.fst d)))), Prod.fst (Prod.snd (Prod.fst d)), Prod.snd (Prod.snd (Prod.fst d))) (Prod.snd d)))), Prod.fst (Prod.snd (Prod.fst (Prod.fst (advF ((Prod.fst (Prod.fst
  (Prod.fst d)), Prod.fst (Prod.snd (Prod.fst (Prod.fst d))), Prod.snd (Prod.snd (Prod.fst (Prod.fst d)))), Prod.fst (Prod.snd (Prod.fst d)), Prod.snd (Prod.snd (Prod.fst d))) (Prod.snd d))))), Prod.snd (Prod.snd
  (Prod.fst (Prod.fst (advF ((Prod.fst (Prod.fst (Prod.fst d)), Prod.fst (Prod.snd (Prod.fst (Prod.fst d))), Prod.snd (Prod.snd (Prod.fst (Prod.fst d)))), Prod.fst (Prod.snd (Prod.fst d)), Prod.snd (Prod.snd (Prod.fst
  d))) (Prod.snd d)))))), Prod.fst (Prod.snd (Prod.fst (advF ((Prod.fst (Prod.fst (Prod.fst d)), Prod.fst (Prod.snd (Prod.fst (Prod.fst d))), Prod.snd (Prod.snd (Prod.fst (Prod.fst d)))), Prod.fst (Prod.snd (Prod.fst
  d)), Prod.snd (Prod.snd (Prod.fst d))) (Prod.snd d)))), Prod.snd (Prod.snd (Prod.fst (advF ((Prod.fst (Prod.fst (Prod.fst d)), Prod.fst (Prod.snd (Prod.fst (Prod.fst d))), Prod.snd (Prod.snd (Prod.fst (Prod.fst d)))),
  Prod.fst (Prod.snd (Prod.fst d)), Prod.snd (Prod.snd (Prod.fst d))) (Prod.snd d))))))) = true → false = true) ∧ ((!decide (((Prod.fst (Prod.fst (Prod.fst (advF ((Prod.fst (Prod.fst (Prod.fst d)), Prod.fst (Prod.snd
  (Prod.fst (Prod.fst d))), Prod.snd (Prod.snd (Prod.fst (Prod.fst d)))), Prod.fst (Prod.snd (Prod.fst d)), Prod.snd (Prod.snd (Prod.fst d))) (Prod.snd d)))), Prod.fst (Prod.snd (Prod.fst (Prod.fst (advF ((Prod.fst
  (Prod.fst (Prod.fst d)), Prod.fst (Prod.snd (Prod.fst (Prod.fst d))), Prod.snd (Prod.snd (Prod.fst (Prod.fst d)))), Prod.fst (Prod.snd (Prod.fst d)), Prod.snd (Prod.snd (Prod.fst d))) (Prod.snd d))))), Prod.snd
  (Prod.snd (Prod.fst (Prod.fst (advF ((Prod.fst (Prod.fst (Prod.fst d)), Prod.fst (Prod.snd (Prod.fst (Prod.fst d))), Prod.snd (Prod.snd (Prod.fst (Prod.fst d)))), Prod.fst (Prod.snd (Prod.fst d)), Prod.snd (Prod.snd
  (Prod.fst d))) (Prod.snd d)))))), Prod.fst (Prod.snd (Prod.fst (advF ((Prod.fst (Prod.fst (Prod.fst d)), Prod.fst (Prod.snd (Prod.fst (Prod.fst d))), Prod.snd (Prod.snd (Prod.fst (Prod.fst d)))), Prod.fst (Prod.snd
  (Prod.fst d)), Prod.snd (Prod.snd (Prod.fst d))) (Prod.snd d)))), Prod.snd (Prod.snd (Prod.fst (advF ((Prod.fst (Prod.fst (Prod.fst d)), Prod.fst (Prod.snd (Prod.fst (Prod.fst d))), Prod.snd (Prod.snd (Prod.fst
  (Prod.fst d)))), Prod.fst (Prod.snd (Prod.fst d)), Prod.snd (Prod.snd (Prod.fst d))) (Prod.snd d))))) = ((Prod.fst (Prod.fst (Prod.fst (advF ((Prod.fst (Prod.fst (Prod.fst d)), Prod.fst (Prod.snd (Prod.fst (Prod.fst
  d))), Prod.snd (Prod.snd (Prod.fst (Prod.fst d)))), Prod.fst (Prod.snd (Prod.fst d)), Prod.snd (Prod.snd (Prod.fst d))) (Prod.snd d)))), Prod.fst (Prod.snd (Prod.fst (Prod.fst (advF ((Prod.fst (Prod.fst (Prod.fst d)),
  Prod.fst (Prod.snd (Prod.fst (Prod.fst d))), Prod.snd (Prod.snd (Prod.fst (Prod.fst d)))), Prod.fst (Prod.snd (Prod.fst d)), Prod.snd (Prod.snd (Prod.fst d))) (Prod.snd d))))), Prod.snd (Prod.snd (Prod.fst (Prod.fst
  (advF ((Prod.fst (Prod.fst (Prod.fst d)), Prod.fst (Prod.snd (Prod.fst (Prod.fst d))), Prod.snd (Prod.snd (Prod.fst (Prod.fst d)))), Prod.fst (Prod.snd (Prod.fst d)), Prod.snd (Prod.snd (Prod.fst d))) (Prod.snd
  d)))))), Prod.fst (Prod.snd (Prod.fst (advF ((Prod.fst (Prod.fst (Prod.fst d)), Prod.fst (Prod.snd (Prod.fst (Prod.fst d))), Prod.snd (Prod.snd (Prod.fst (Prod.fst d)))), Prod.fst (Prod.snd (Prod.fst d)), Prod.snd
  (Prod.snd (Prod.fst d))) (Prod.snd d)))), Prod.snd (Prod.snd (Prod.fst (advF ((Prod.fst (Prod.fst (Prod.fst d)), Prod.fst (Prod.snd (Prod.fst (Prod.fst d))), Prod.snd (Prod.snd (Prod.fst (Prod.fst d)))), Prod.fst
  (Prod.snd (Prod.fst d)), Prod.snd (Prod.snd (Prod.fst d))) (Prod.snd d))))))) = false → ((!decide (Prod.snd (advF ((Prod.fst (Prod.fst (Prod.fst d)), Prod.fst (Prod.snd (Prod.fst (Prod.fst d))), Prod.snd (Prod.snd
  (Prod.fst (Prod.fst d)))), Prod.fst (Prod.snd (Prod.fst d)), Prod.snd (Prod.snd (Prod.fst d))) (Prod.snd d)) = Prod.snd (advF ((Prod.fst (Prod.fst (Prod.fst d)), Prod.fst (Prod.snd (Prod.fst (Prod.fst d))), Prod.snd
  (Prod.snd (Prod.fst (Prod.fst d)))), Prod.fst (Prod.snd (Prod.fst d)), Prod.snd (Prod.snd (Prod.fst d))) (Prod.snd d)))) = true → false = true) ∧ ((!decide (Prod.snd (advF ((Prod.fst (Prod.fst (Prod.fst d)), Prod.fst
  (Prod.snd (Prod.fst (Prod.fst d))), Prod.snd (Prod.snd (Prod.fst (Prod.fst d)))), Prod.fst (Prod.snd (Prod.fst d)), Prod.snd (Prod.snd (Prod.fst d))) (Prod.snd d)) = Prod.snd (advF ((Prod.fst (Prod.fst (Prod.fst d)),
  Prod.fst (Prod.snd (Prod.fst (Prod.fst d))), Prod.snd (Prod.snd (Prod.fst (Prod.fst d)))), Prod.fst (Prod.snd (Prod.fst d)), Prod.snd (Prod.snd (Prod.fst d))) (Prod.snd d)))) = false → True ∧ True ∧ (Ty.wf i64T (heldTn
  ((Prod.fst (Prod.fst (Prod.fst (advF ((Prod.fst (Prod.fst (Prod.fst d)), Prod.fst (Prod.snd (Prod.fst (Prod.fst d))), Prod.snd (Prod.snd (Prod.fst (Prod.fst d)))), Prod.fst (Prod.snd (Prod.fst d)), Prod.snd (Prod.snd
  (Prod.fst d))) (Prod.snd d)))), Prod.fst (Prod.snd (Prod.fst (Prod.fst (advF ((Prod.fst (Prod.fst (Prod.fst d)), Prod.fst (Prod.snd (Prod.fst (Prod.fst d))), Prod.snd (Prod.snd (Prod.fst (Prod.fst d)))), Prod.fst
  (Prod.snd (Prod.fst d)), Prod.snd (Prod.snd (Prod.fst d))) (Prod.snd d))))), mark3 (Prod.snd (Prod.snd (Prod.fst (Prod.fst (advF ((Prod.fst (Prod.fst (Prod.fst d)), Prod.fst (Prod.snd (Prod.fst (Prod.fst d))), Prod.snd
  (Prod.snd (Prod.fst (Prod.fst d)))), Prod.fst (Prod.snd (Prod.fst d)), Prod.snd (Prod.snd (Prod.fst d))) (Prod.snd d)))))) (1 : Int)), mark1 (Prod.fst (Prod.snd (Prod.fst (advF ((Prod.fst (Prod.fst (Prod.fst d)),
  Prod.fst (Prod.snd (Prod.fst (Prod.fst d))), Prod.snd (Prod.snd (Prod.fst (Prod.fst d)))), Prod.fst (Prod.snd (Prod.fst d)), Prod.snd (Prod.snd (Prod.fst d))) (Prod.snd d))))) (end3 (Prod.snd (Prod.snd (Prod.fst
  (Prod.fst (advF ((Prod.fst (Prod.fst (Prod.fst d)), Prod.fst (Prod.snd (Prod.fst (Prod.fst d))), Prod.snd (Prod.snd (Prod.fst (Prod.fst d)))), Prod.fst (Prod.snd (Prod.fst d)), Prod.snd (Prod.snd (Prod.fst d)))
  (Prod.snd d)))))) (1 : Int)), Prod.snd (Prod.snd (Prod.fst (advF ((Prod.fst (Prod.fst (Prod.fst d)), Prod.fst (Prod.snd (Prod.fst (Prod.fst d))), Prod.snd (Prod.snd (Prod.fst (Prod.fst d)))), Prod.fst (Prod.snd
  (Prod.fst d)), Prod.snd (Prod.snd (Prod.fst d))) (Prod.snd d))))) (1 : Int)) → (decide (heldTn ((Prod.fst (Prod.fst (Prod.fst (advF ((Prod.fst (Prod.fst (Prod.fst d)), Prod.fst (Prod.snd (Prod.fst (Prod.fst d))),
  Prod.snd (Prod.snd (Prod.fst (Prod.fst d)))), Prod.fst (Prod.snd (Prod.fst d)), Prod.snd (Prod.snd (Prod.fst d))) (Prod.snd d)))), Prod.fst (Prod.snd (Prod.fst (Prod.fst (advF ((Prod.fst (Prod.fst (Prod.fst d)),
  Prod.fst (Prod.snd (Prod.fst (Prod.fst d))), Prod.snd (Prod.snd (Prod.fst (Prod.fst d)))), Prod.fst (Prod.snd (Prod.fst d)), Prod.snd (Prod.snd (Prod.fst d))) (Prod.snd d))))), mark3 (Prod.snd (Prod.snd (Prod.fst
  (Prod.fst (advF ((Prod.fst (Prod.fst (Prod.fst d)), Prod.fst (Prod.snd (Prod.fst (Prod.fst d))), Prod.snd (Prod.snd (Prod.fst (Prod.fst d)))), Prod.fst (Prod.snd (Prod.fst d)), Prod.snd (Prod.snd (Prod.fst d)))
  (Prod.snd d)))))) (1 : Int)), mark1 (Prod.fst (Prod.snd (Prod.fst (advF ((Prod.fst (Prod.fst (Prod.fst d)), Prod.fst (Prod.snd (Prod.fst (Prod.fst d))), Prod.snd (Prod.snd (Prod.fst (Prod.fst d)))), Prod.fst (Prod.snd
  (Prod.fst d)), Prod.snd (Prod.snd (Prod.fst d))) (Prod.snd d))))) (end3 (Prod.snd (Prod.snd (Prod.fst (Prod.fst (advF ((Prod.fst (Prod.fst (Prod.fst d)), Prod.fst (Prod.snd (Prod.fst (Prod.fst d))), Prod.snd (Prod.snd
  (Prod.fst (Prod.fst d)))), Prod.fst (Prod.snd (Prod.fst d)), Prod.snd (Prod.snd (Prod.fst d))) (Prod.snd d)))))) (1 : Int)), Prod.snd (Prod.snd (Prod.fst (advF ((Prod.fst (Prod.fst (Prod.fst d)), Prod.fst (Prod.snd
  (Prod.fst (Prod.fst d))), Prod.snd (Prod.snd (Prod.fst (Prod.fst d)))), Prod.fst (Prod.snd (Prod.fst d)), Prod.snd (Prod.snd (Prod.fst d))) (Prod.snd d))))) (1 : Int) < (0 : Int)) = true → false = true) ∧ (decide
  (heldTn ((Prod.fst (Prod.fst (Prod.fst (advF ((Prod.fst (Prod.fst (Prod.fst d)), Prod.fst (Prod.snd (Prod.fst (Prod.fst d))), Prod.snd (Prod.snd (Prod.fst (Prod.fst d)))), Prod.fst (Prod.snd (Prod.fst d)), Prod.snd
  (Prod.snd (Prod.fst d))) (Prod.snd d)))), Prod.fst (Prod.snd (Prod.fst (Prod.fst (advF ((Prod.fst (Prod.fst (Prod.fst d)), Prod.fst (Prod.snd (Prod.fst (Prod.fst d))), Prod.snd (Prod.snd (Prod.fst (Prod.fst d)))),
  Prod.fst (Prod.snd (Prod.fst d)), Prod.snd (Prod.snd (Prod.fst d))) (Prod.snd d))))), mark3 (Prod.snd (Prod.snd (Prod.fst (Prod.fst (advF ((Prod.fst (Prod.fst (Prod.fst d)), Prod.fst (Prod.snd (Prod.fst (Prod.fst d))),
  Prod.snd (Prod.snd (Prod.fst (Prod.fst d)))), Prod.fst (Prod.snd (Prod.fst d)), Prod.snd (Prod.snd (Prod.fst d))) (Prod.snd d)))))) (1 : Int)), mark1 (Prod.fst (Prod.snd (Prod.fst (advF ((Prod.fst (Prod.fst (Prod.fst
  d)), Prod.fst (Prod.snd (Prod.fst (Prod.fst d))), Prod.snd (Prod.snd (Prod.fst (Prod.fst d)))), Prod.fst (Prod.snd (Prod.fst d)), Prod.snd (Prod.snd (Prod.fst d))) (Prod.snd d))))) (end3 (Prod.snd (Prod.snd (Prod.fst
  (Prod.fst (advF ((Prod.fst (Prod.fst (Prod.fst d)), Prod.fst (Prod.snd (Prod.fst (Prod.fst d))), Prod.snd (Prod.snd (Prod.fst (Prod.fst d)))), Prod.fst (Prod.snd (Prod.fst d)), Prod.snd (Prod.snd (Prod.fst d)))
  (Prod.snd d)))))) (1 : Int)), Prod.snd (Prod.snd (Prod.fst (advF ((Prod.fst (Prod.fst (Prod.fst d)), Prod.fst (Prod.snd (Prod.fst (Prod.fst d))), Prod.snd (Prod.snd (Prod.fst (Prod.fst d)))), Prod.fst (Prod.snd
  (Prod.fst d)), Prod.snd (Prod.snd (Prod.fst d))) (Prod.snd d))))) (1 : Int) < (0 : Int)) = false → ((!decide (heldTn ((Prod.fst (Prod.fst (Prod.fst (advF ((Prod.fst (Prod.fst (Prod.fst d)), Prod.fst (Prod.snd (Prod.fst
  (Prod.fst d))), Prod.snd (Prod.snd (Prod.fst (Prod.fst d)))), Prod.fst (Prod.snd (Prod.fst d)), Prod.snd (Prod.snd (Prod.fst d))) (Prod.snd d)))), Prod.fst (Prod.snd (Prod.fst (Prod.fst (advF ((Prod.fst (Prod.fst
  (Prod.fst d)), Prod.fst (Prod.snd (Prod.fst (Prod.fst d))), Prod.snd (Prod.snd (Prod.fst (Prod.fst d)))), Prod.fst (Prod.snd (Prod.fst d)), Prod.snd (Prod.snd (Prod.fst d))) (Prod.snd d))))), mark3 (Prod.snd (Prod.snd
  (Prod.fst (Prod.fst (advF ((Prod.fst (Prod.fst (Prod.fst d)), Prod.fst (Prod.snd (Prod.fst (Prod.fst d))), Prod.snd (Prod.snd (Prod.fst (Prod.fst d)))), Prod.fst (Prod.snd (Prod.fst d)), Prod.snd (Prod.snd (Prod.fst
  d))) (Prod.snd d)))))) (1 : Int)), mark1 (Prod.fst (Prod.snd (Prod.fst (advF ((Prod.fst (Prod.fst (Prod.fst d)), Prod.fst (Prod.snd (Prod.fst (Prod.fst d))), Prod.snd (Prod.snd (Prod.fst (Prod.fst d)))), Prod.fst
  (Prod.snd (Prod.fst d)), Prod.snd (Prod.snd (Prod.fst d))) (Prod.snd d))))) (end3 (Prod.snd (Prod.snd (Prod.fst (Prod.fst (advF ((Prod.fst (Prod.fst (Prod.fst d)), Prod.fst (Prod.snd (Prod.fst (Prod.fst d))), Prod.snd
  (Prod.snd (Prod.fst (Prod.fst d)))), Prod.fst (Prod.snd (Prod.fst d)), Prod.snd (Prod.snd (Prod.fst d))) (Prod.snd d)))))) (1 : Int)), Prod.snd (Prod.snd (Prod.fst (advF ((Prod.fst (Prod.fst (Prod.fst d)), Prod.fst
  (Prod.snd (Prod.fst (Prod.fst d))), Prod.snd (Prod.snd (Prod.fst (Prod.fst d)))), Prod.fst (Prod.snd (Prod.fst d)), Prod.snd (Prod.snd (Prod.fst d))) (Prod.snd d))))) (1 : Int) = end1 (Prod.fst (Prod.snd (Prod.fst
  (advF ((Prod.fst (Prod.fst (Prod.fst d)), Prod.fst (Prod.snd (Prod.fst (Prod.fst d))), Prod.snd (Prod.snd (Prod.fst (Prod.fst d)))), Prod.fst (Prod.snd (Prod.fst d)), Prod.snd (Prod.snd (Prod.fst d))) (Prod.snd d)))))
  (end3 (Prod.snd (Prod.snd (Prod.fst (Prod.fst (advF ((Prod.fst (Prod.fst (Prod.fst d)), Prod.fst (Prod.snd (Prod.fst (Prod.fst d))), Prod.snd (Prod.snd (Prod.fst (Prod.fst d)))), Prod.fst (Prod.snd (Prod.fst d)),
  Prod.snd (Prod.snd (Prod.fst d))) (Prod.snd d)))))) (1 : Int)))) = true → false = true) ∧ ((!decide (heldTn ((Prod.fst (Prod.fst (Prod.fst (advF ((Prod.fst (Prod.fst (Prod.fst d)), Prod.fst (Prod.snd (Prod.fst
  (Prod.fst d))), Prod.snd (Prod.snd (Prod.fst (Prod.fst d)))), Prod.fst (Prod.snd (Prod.fst d)), Prod.snd (Prod.snd (Prod.fst d))) (Prod.snd d)))), Prod.fst (Prod.snd (Prod.fst (Prod.fst (advF ((Prod.fst (Prod.fst
  (Prod.fst d)), Prod.fst (Prod.snd (Prod.fst (Prod.fst d))), Prod.snd (Prod.snd (Prod.fst (Prod.fst d)))), Prod.fst (Prod.snd (Prod.fst d)), Prod.snd (Prod.snd (Prod.fst d))) (Prod.snd d))))), mark3 (Prod.snd (Prod.snd
  (Prod.fst (Prod.fst (advF ((Prod.fst (Prod.fst (Prod.fst d)), Prod.fst (Prod.snd (Prod.fst (Prod.fst d))), Prod.snd (Prod.snd (Prod.fst (Prod.fst d)))), Prod.fst (Prod.snd (Prod.fst d)), Prod.snd (Prod.snd (Prod.fst
  d))) (Prod.snd d)))))) (1 : Int)), mark1 (Prod.fst (Prod.snd (Prod.fst (advF ((Prod.fst (Prod.fst (Prod.fst d)), Prod.fst (Prod.snd (Prod.fst (Prod.fst d))), Prod.snd (Prod.snd (Prod.fst (Prod.fst d)))), Prod.fst
  (Prod.snd (Prod.fst d)), Prod.snd (Prod.snd (Prod.fst d))) (Prod.snd d))))) (end3 (Prod.snd (Prod.snd (Prod.fst (Prod.fst (advF ((Prod.fst (Prod.fst (Prod.fst d)), Prod.fst (Prod.snd (Prod.fst (Prod.fst d))), Prod.snd
  (Prod.snd (Prod.fst (Prod.fst d)))), Prod.fst (Prod.snd (Prod.fst d)), Prod.snd (Prod.snd (Prod.fst d))) (Prod.snd d)))))) (1 : Int)), Prod.snd (Prod.snd (Prod.fst (advF ((Prod.fst (Prod.fst (Prod.fst d)), Prod.fst
  (Prod.snd (Prod.fst (Prod.fst d))), Prod.snd (Prod.snd (Prod.fst (Prod.fst d)))), Prod.fst (Prod.snd (Prod.fst d)), Prod.snd (Prod.snd (Prod.fst d))) (Prod.snd d))))) (1 : Int) = end1 (Prod.fst (Prod.snd (Prod.fst
  (advF ((Prod.fst (Prod.fst (Prod.fst d)), Prod.fst (Prod.snd (Prod.fst (Prod.fst d))), Prod.snd (Prod.snd (Prod.fst (Prod.fst d)))), Prod.fst (Prod.snd (Prod.fst d)), Prod.snd (Prod.snd (Prod.fst d))) (Prod.snd d)))))
  (end3 (Prod.snd (Prod.snd (Prod.fst (Prod.fst (advF ((Prod.fst (Prod.fst (Prod.fst d)), Prod.fst (Prod.snd (Prod.fst (Prod.fst d))), Prod.snd (Prod.snd (Prod.fst (Prod.fst d)))), Prod.fst (Prod.snd (Prod.fst d)),
  Prod.snd (Prod.snd (Prod.fst d))) (Prod.snd d)))))) (1 : Int)))) = false → (List.length (Prod.snd (Prod.snd (Prod.fst (Prod.fst d)))) ≤ (1048576 : Nat) ∧ List.length (Prod.fst (Prod.snd (Prod.fst d))) ≤ (1048576 :
  Nat)) ∧ (Ty.wf turnT ((Prod.fst (Prod.fst (Prod.fst d)), Prod.fst (Prod.snd (Prod.fst (Prod.fst d))), Prod.snd (Prod.snd (Prod.fst (Prod.fst d)))), Prod.fst (Prod.snd (Prod.fst d)), Prod.snd (Prod.snd (Prod.fst d))) →
  (List.length (Prod.snd (Prod.snd (Prod.fst (Prod.fst d)))) ≤ (1048576 : Nat) ∧ List.length (Prod.fst (Prod.snd (Prod.fst d))) ≤ (1048576 : Nat)) ∧ (Ty.wf turnT (Prod.fst (advF ((Prod.fst (Prod.fst (Prod.fst d)),
  Prod.fst (Prod.snd (Prod.fst (Prod.fst d))), Prod.snd (Prod.snd (Prod.fst (Prod.fst d)))), Prod.fst (Prod.snd (Prod.fst d)), Prod.snd (Prod.snd (Prod.fst d))) (Prod.snd d))) ∧ Ty.wf i64T (Prod.snd (advF ((Prod.fst
  (Prod.fst (Prod.fst d)), Prod.fst (Prod.snd (Prod.fst (Prod.fst d))), Prod.snd (Prod.snd (Prod.fst (Prod.fst d)))), Prod.fst (Prod.snd (Prod.fst d)), Prod.snd (Prod.snd (Prod.fst d))) (Prod.snd d))) → True ∧ ((!decide
  (((Prod.fst (Prod.fst (Prod.fst (advF ((Prod.fst (Prod.fst (Prod.fst d)), Prod.fst (Prod.snd (Prod.fst (Prod.fst d))), Prod.snd (Prod.snd (Prod.fst (Prod.fst d)))), Prod.fst (Prod.snd (Prod.fst d)), Prod.snd (Prod.snd
  (Prod.fst d))) (Prod.snd d)))), Prod.fst (Prod.snd (Prod.fst (Prod.fst (advF ((Prod.fst (Prod.fst (Prod.fst d)), Prod.fst (Prod.snd (Prod.fst (Prod.fst d))), Prod.snd (Prod.snd (Prod.fst (Prod.fst d)))), Prod.fst
  (Prod.snd (Prod.fst d)), Prod.snd (Prod.snd (Prod.fst d))) (Prod.snd d))))), Prod.snd (Prod.snd (Prod.fst (Prod.fst (advF ((Prod.fst (Prod.fst (Prod.fst d)), Prod.fst (Prod.snd (Prod.fst (Prod.fst d))), Prod.snd
  (Prod.snd (Prod.fst (Prod.fst d)))), Prod.fst (Prod.snd (Prod.fst d)), Prod.snd (Prod.snd (Prod.fst d))) (Prod.snd d)))))), Prod.fst (Prod.snd (Prod.fst (advF ((Prod.fst (Prod.fst (Prod.fst d)), Prod.fst (Prod.snd
  (Prod.fst (Prod.fst d))), Prod.snd (Prod.snd (Prod.fst (Prod.fst d)))), Prod.fst (Prod.snd (Prod.fst d)), Prod.snd (Prod.snd (Prod.fst d))) (Prod.snd d)))), Prod.snd (Prod.snd (Prod.fst (advF ((Prod.fst (Prod.fst
  (Prod.fst d)), Prod.fst (Prod.snd (Prod.fst (Prod.fst d))), Prod.snd (Prod.snd (Prod.fst (Prod.fst d)))), Prod.fst (Prod.snd (Prod.fst d)), Prod.snd (Prod.snd (Prod.fst d))) (Prod.snd d))))) = ((Prod.fst (Prod.fst
  (Prod.fst (advF ((Prod.fst (Prod.fst (Prod.fst d)), Prod.fst (Prod.snd (Prod.fst (Prod.fst d))), Prod.snd (Prod.snd (Prod.fst (Prod.fst d)))), Prod.fst (Prod.snd (Prod.fst d)), Prod.snd (Prod.snd (Prod.fst d)))
  (Prod.snd d)))), Prod.fst (Prod.snd (Prod.fst (Prod.fst (advF ((Prod.fst (Prod.fst (Prod.fst d)), Prod.fst (Prod.snd (Prod.fst (Prod.fst d))), Prod.snd (Prod.snd (Prod.fst (Prod.fst d)))), Prod.fst (Prod.snd (Prod.fst
  d)), Prod.snd (Prod.snd (Prod.fst d))) (Prod.snd d))))), Prod.snd (Prod.snd (Prod.fst (Prod.fst (advF ((Prod.fst (Prod.fst (Prod.fst d)), Prod.fst (Prod.snd (Prod.fst (Prod.fst d))), Prod.snd (Prod.snd (Prod.fst
  (Prod.fst d)))), Prod.fst (Prod.snd (Prod.fst d)), Prod.snd (Prod.snd (Prod.fst d))) (Prod.snd d)))))), Prod.fst (Prod.snd (Prod.fst (advF ((Prod.fst (Prod.fst (Prod.fst d)), Prod.fst (Prod.snd (Prod.fst (Prod.fst
  d))), Prod.snd (Prod.snd (Prod.fst (Prod.fst d)))), Prod.fst (Prod.snd (Prod.fst d)), Prod.snd (Prod.snd (Prod.fst d))) (Prod.snd d)))), Prod.snd (Prod.snd (Prod.fst (advF ((Prod.fst (Prod.fst (Prod.fst d)), Prod.fst
  (Prod.snd (Prod.fst (Prod.fst d))), Prod.snd (Prod.snd (Prod.fst (Prod.fst d)))), Prod.fst (Prod.snd (Prod.fst d)), Prod.snd (Prod.snd (Prod.fst d))) (Prod.snd d))))))) = true → false = true) ∧ ((!decide (((Prod.fst
  (Prod.fst (Prod.fst (advF ((Prod.fst (Prod.fst (Prod.fst d)), Prod.fst (Prod.snd (Prod.fst (Prod.fst d))), Prod.snd (Prod.snd (Prod.fst (Prod.fst d)))), Prod.fst (Prod.snd (Prod.fst d)), Prod.snd (Prod.snd (Prod.fst
  d))) (Prod.snd d)))), Prod.fst (Prod.snd (Prod.fst (Prod.fst (advF ((Prod.fst (Prod.fst (Prod.fst d)), Prod.fst (Prod.snd (Prod.fst (Prod.fst d))), Prod.snd (Prod.snd (Prod.fst (Prod.fst d)))), Prod.fst (Prod.snd
  (Prod.fst d)), Prod.snd (Prod.snd (Prod.fst d))) (Prod.snd d))))), Prod.snd (Prod.snd (Prod.fst (Prod.fst (advF ((Prod.fst (Prod.fst (Prod.fst d)), Prod.fst (Prod.snd (Prod.fst (Prod.fst d))), Prod.snd (Prod.snd
  (Prod.fst (Prod.fst d)))), Prod.fst (Prod.snd (Prod.fst d)), Prod.snd (Prod.snd (Prod.fst d))) (Prod.snd d)))))), Prod.fst (Prod.snd (Prod.fst (advF ((Prod.fst (Prod.fst (Prod.fst d)), Prod.fst (Prod.snd (Prod.fst
  (Prod.fst d))), Prod.snd (Prod.snd (Prod.fst (Prod.fst d)))), Prod.fst (Prod.snd (Prod.fst d)), Prod.snd (Prod.snd (Prod.fst d))) (Prod.snd d)))), Prod.snd (Prod.snd (Prod.fst (advF ((Prod.fst (Prod.fst (Prod.fst d)),
  Prod.fst (Prod.snd (Prod.fst (Prod.fst d))), Prod.snd (Prod.snd (Prod.fst (Prod.fst d)))), Prod.fst (Prod.snd (Prod.fst d)), Prod.snd (Prod.snd (Prod.fst d))) (Prod.snd d))))) = ((Prod.fst (Prod.fst (Prod.fst (advF
  ((Prod.fst (Prod.fst (Prod.fst d)), Prod.fst (Prod.snd (Prod.fst (Prod.fst d))), Prod.snd (Prod.snd (Prod.fst (Prod.fst d)))), Prod.fst (Prod.snd (Prod.fst d)), Prod.snd (Prod.snd (Prod.fst d))) (Prod.snd d)))),
  Prod.fst (Prod.snd (Prod.fst (Prod.fst (advF ((Prod.fst (Prod.fst (Prod.fst d)), Prod.fst (Prod.snd (Prod.fst (Prod.fst d))), Prod.snd (Prod.snd (Prod.fst (Prod.fst d)))), Prod.fst (Prod.snd (Prod.fst d)), Prod.snd
  (Prod.snd (Prod.fst d))) (Prod.snd d))))), Prod.snd (Prod.snd (Prod.fst (Prod.fst (advF ((Prod.fst (Prod.fst (Prod.fst d)), Prod.fst (Prod.snd (Prod.fst (Prod.fst d))), Prod.snd (Prod.snd (Prod.fst (Prod.fst d)))),
  Prod.fst (Prod.snd (Prod.fst d)), Prod.snd (Prod.snd (Prod.fst d))) (Prod.snd d)))))), Prod.fst (Prod.snd (Prod.fst (advF ((Prod.fst (Prod.fst (Prod.fst d)), Prod.fst (Prod.snd (Prod.fst (Prod.fst d))), Prod.snd
  (Prod.snd (Prod.fst (Prod.fst d)))), Prod.fst (Prod.snd (Prod.fst d)), Prod.snd (Prod.snd (Prod.fst d))) (Prod.snd d)))), Prod.snd (Prod.snd (Prod.fst (advF ((Prod.fst (Prod.fst (Prod.fst d)), Prod.fst (Prod.snd
  (Prod.fst (Prod.fst d))), Prod.snd (Prod.snd (Prod.fst (Prod.fst d)))), Prod.fst (Prod.snd (Prod.fst d)), Prod.snd (Prod.snd (Prod.fst d))) (Prod.snd d))))))) = false → ((!decide (Prod.snd (advF ((Prod.fst (Prod.fst
  (Prod.fst d)), Prod.fst (Prod.snd (Prod.fst (Prod.fst d))), Prod.snd (Prod.snd (Prod.fst (Prod.fst d)))), Prod.fst (Prod.snd (Prod.fst d)), Prod.snd (Prod.snd (Prod.fst d))) (Prod.snd d)) = Prod.snd (advF ((Prod.fst
  (Prod.fst (Prod.fst d)), Prod.fst (Prod.snd (Prod.fst (Prod.fst d))), Prod.snd (Prod.snd (Prod.fst (Prod.fst d)))), Prod.fst (Prod.snd (Prod.fst d)), Prod.snd (Prod.snd (Prod.fst d))) (Prod.snd d)))) = true → false =
  true) ∧ ((!decide (Prod.snd (advF ((Prod.fst (Prod.fst (Prod.fst d)), Prod.fst (Prod.snd (Prod.fst (Prod.fst d))), Prod.snd (Prod.snd (Prod.fst (Prod.fst d)))), Prod.fst (Prod.snd (Prod.fst d)), Prod.snd (Prod.snd
  (Prod.fst d))) (Prod.snd d)) = Prod.snd (advF ((Prod.fst (Prod.fst (Prod.fst d)), Prod.fst (Prod.snd (Prod.fst (Prod.fst d))), Prod.snd (Prod.snd (Prod.fst (Prod.fst d)))), Prod.fst (Prod.snd (Prod.fst d)), Prod.snd
  (Prod.snd (Prod.fst d))) (Prod.snd d)))) = false → True ∧ (Ty.wf i64T (heldTn ((Prod.fst (Prod.fst (Prod.fst (advF ((Prod.fst (Prod.fst (Prod.fst d)), Prod.fst (Prod.snd (Prod.fst (Prod.fst d))), Prod.snd (Prod.snd
  (Prod.fst (Prod.fst d)))), Prod.fst (Prod.snd (Prod.fst d)), Prod.snd (Prod.snd (Prod.fst d))) (Prod.snd d)))), Prod.fst (Prod.snd (Prod.fst (Prod.fst (advF ((Prod.fst (Prod.fst (Prod.fst d)), Prod.fst (Prod.snd
  (Prod.fst (Prod.fst d))), Prod.snd (Prod.snd (Prod.fst (Prod.fst d)))), Prod.fst (Prod.snd (Prod.fst d)), Prod.snd (Prod.snd (Prod.fst d))) (Prod.snd d))))), mark3 (Prod.snd (Prod.snd (Prod.fst (Prod.fst (advF
  ((Prod.fst (Prod.fst (Prod.fst d)), Prod.fst (Prod.snd (Prod.fst (Prod.fst d))), Prod.snd (Prod.snd (Prod.fst (Prod.fst d)))), Prod.fst (Prod.snd (Prod.fst d)), Prod.snd (Prod.snd (Prod.fst d))) (Prod.snd d)))))) (1 :
  Int)), mark1 (Prod.fst (Prod.snd (Prod.fst (advF ((Prod.fst (Prod.fst (Prod.fst d)), Prod.fst (Prod.snd (Prod.fst (Prod.fst d))), Prod.snd (Prod.snd (Prod.fst (Prod.fst d)))), Prod.fst (Prod.snd (Prod.fst d)), Prod.snd
  (Prod.snd (Prod.fst d))) (Prod.snd d))))) (end3 (Prod.snd (Prod.snd (Prod.fst (Prod.fst (advF ((Prod.fst (Prod.fst (Prod.fst d)), Prod.fst (Prod.snd (Prod.fst (Prod.fst d))), Prod.snd (Prod.snd (Prod.fst (Prod.fst
  d)))), Prod.fst (Prod.snd (Prod.fst d)), Prod.snd (Prod.snd (Prod.fst d))) (Prod.snd d)))))) (1 : Int)), Prod.snd (Prod.snd (Prod.fst (advF ((Prod.fst (Prod.fst (Prod.fst d)), Prod.fst (Prod.snd (Prod.fst (Prod.fst
  d))), Prod.snd (Prod.snd (Prod.fst (Prod.fst d)))), Prod.fst (Prod.snd (Prod.fst d)), Prod.snd (Prod.snd (Prod.fst d))) (Prod.snd d))))) (1 : Int)) → (decide (heldTn ((Prod.fst (Prod.fst (Prod.fst (advF ((Prod.fst
  (Prod.fst (Prod.fst d)), Prod.fst (Prod.snd (Prod.fst (Prod.fst d))), Prod.snd (Prod.snd (Prod.fst (Prod.fst d)))), Prod.fst (Prod.snd (Prod.fst d)), Prod.snd (Prod.snd (Prod.fst d))) (Prod.snd d)))), Prod.fst
  (Prod.snd (Prod.fst (Prod.fst (advF ((Prod.fst (Prod.fst (Prod.fst d)), Prod.fst (Prod.snd (Prod.fst (Prod.fst d))), Prod.snd (Prod.snd (Prod.fst (Prod.fst d)))), Prod.fst (Prod.snd (Prod.fst d)), Prod.snd (Prod.snd
  (Prod.fst d))) (Prod.snd d))))), mark3 (Prod.snd (Prod.snd (Prod.fst (Prod.fst (advF ((Prod.fst (Prod.fst (Prod.fst d)), Prod.fst (Prod.snd (Prod.fst (Prod.fst d))), Prod.snd (Prod.snd (Prod.fst (Prod.fst d)))),
  Prod.fst (Prod.snd (Prod.fst d)), Prod.snd (Prod.snd (Prod.fst d))) (Prod.snd d)))))) (1 : Int)), mark1 (Prod.fst (Prod.snd (Prod.fst (advF ((Prod.fst (Prod.fst (Prod.fst d)), Prod.fst (Prod.snd (Prod.fst (Prod.fst
  d))), Prod.snd (Prod.snd (Prod.fst (Prod.fst d)))), Prod.fst (Prod.snd (Prod.fst d)), Prod.snd (Prod.snd (Prod.fst d))) (Prod.snd d))))) (end3 (Prod.snd (Prod.snd (Prod.fst (Prod.fst (advF ((Prod.fst (Prod.fst
  (Prod.fst d)), Prod.fst (Prod.snd (Prod.fst (Prod.fst d))), Prod.snd (Prod.snd (Prod.fst (Prod.fst d)))), Prod.fst (Prod.snd (Prod.fst d)), Prod.snd (Prod.snd (Prod.fst d))) (Prod.snd d)))))) (1 : Int)), Prod.snd
  (Prod.snd (Prod.fst (advF ((Prod.fst (Prod.fst (Prod.fst d)), Prod.fst (Prod.snd (Prod.fst (Prod.fst d))), Prod.snd (Prod.snd (Prod.fst (Prod.fst d)))), Prod.fst (Prod.snd (Prod.fst d)), Prod.snd (Prod.snd (Prod.fst
  d))) (Prod.snd d))))) (1 : Int) < (0 : Int)) = true → false = true) ∧ (decide (heldTn ((Prod.fst (Prod.fst (Prod.fst (advF ((Prod.fst (Prod.fst (Prod.fst d)), Prod.fst (Prod.snd (Prod.fst (Prod.fst d))), Prod.snd
  (Prod.snd (Prod.fst (Prod.fst d)))), Prod.fst (Prod.snd (Prod.fst d)), Prod.snd (Prod.snd (Prod.fst d))) (Prod.snd d)))), Prod.fst (Prod.snd (Prod.fst (Prod.fst (advF ((Prod.fst (Prod.fst (Prod.fst d)), Prod.fst
  (Prod.snd (Prod.fst (Prod.fst d))), Prod.snd (Prod.snd (Prod.fst (Prod.fst d)))), Prod.fst (Prod.snd (Prod.fst d)), Prod.snd (Prod.snd (Prod.fst d))) (Prod.snd d))))), mark3 (Prod.snd (Prod.snd (Prod.fst (Prod.fst
  (advF ((Prod.fst (Prod.fst (Prod.fst d)), Prod.fst (Prod.snd (Prod.fst (Prod.fst d))), Prod.snd (Prod.snd (Prod.fst (Prod.fst d)))), Prod.fst (Prod.snd (Prod.fst d)), Prod.snd (Prod.snd (Prod.fst d))) (Prod.snd d))))))
  (1 : Int)), mark1 (Prod.fst (Prod.snd (Prod.fst (advF ((Prod.fst (Prod.fst (Prod.fst d)), Prod.fst (Prod.snd (Prod.fst (Prod.fst d))), Prod.snd (Prod.snd (Prod.fst (Prod.fst d)))), Prod.fst (Prod.snd (Prod.fst d)),
  Prod.snd (Prod.snd (Prod.fst d))) (Prod.snd d))))) (end3 (Prod.snd (Prod.snd (Prod.fst (Prod.fst (advF ((Prod.fst (Prod.fst (Prod.fst d)), Prod.fst (Prod.snd (Prod.fst (Prod.fst d))), Prod.snd (Prod.snd (Prod.fst
  (Prod.fst d)))), Prod.fst (Prod.snd (Prod.fst d)), Prod.snd (Prod.snd (Prod.fst d))) (Prod.snd d)))))) (1 : Int)), Prod.snd (Prod.snd (Prod.fst (advF ((Prod.fst (Prod.fst (Prod.fst d)), Prod.fst (Prod.snd (Prod.fst
  (Prod.fst d))), Prod.snd (Prod.snd (Prod.fst (Prod.fst d)))), Prod.fst (Prod.snd (Prod.fst d)), Prod.snd (Prod.snd (Prod.fst d))) (Prod.snd d))))) (1 : Int) < (0 : Int)) = false → ((!decide (heldTn ((Prod.fst (Prod.fst
  (Prod.fst (advF ((Prod.fst (Prod.fst (Prod.fst d)), Prod.fst (Prod.snd (Prod.fst (Prod.fst d))), Prod.snd (Prod.snd (Prod.fst (Prod.fst d)))), Prod.fst (Prod.snd (Prod.fst d)), Prod.snd (Prod.snd (Prod.fst d)))
  (Prod.snd d)))), Prod.fst (Prod.snd (Prod.fst (Prod.fst (advF ((Prod.fst (Prod.fst (Prod.fst d)), Prod.fst (Prod.snd (Prod.fst (Prod.fst d))), Prod.snd (Prod.snd (Prod.fst (Prod.fst d)))), Prod.fst (Prod.snd (Prod.fst
  d)), Prod.snd (Prod.snd (Prod.fst d))) (Prod.snd d))))), mark3 (Prod.snd (Prod.snd (Prod.fst (Prod.fst (advF ((Prod.fst (Prod.fst (Prod.fst d)), Prod.fst (Prod.snd (Prod.fst (Prod.fst d))), Prod.snd (Prod.snd (Prod.fst
  (Prod.fst d)))), Prod.fst (Prod.snd (Prod.fst d)), Prod.snd (Prod.snd (Prod.fst d))) (Prod.snd d)))))) (1 : Int)), mark1 (Prod.fst (Prod.snd (Prod.fst (advF ((Prod.fst (Prod.fst (Prod.fst d)), Prod.fst (Prod.snd
  (Prod.fst (Prod.fst d))), Prod.snd (Prod.snd (Prod.fst (Prod.fst d)))), Prod.fst (Prod.snd (Prod.fst d)), Prod.snd (Prod.snd (Prod.fst d))) (Prod.snd d))))) (end3 (Prod.snd (Prod.snd (Prod.fst (Prod.fst (advF
  ((Prod.fst (Prod.fst (Prod.fst d)), Prod.fst (Prod.snd (Prod.fst (Prod.fst d))), Prod.snd (Prod.snd (Prod.fst (Prod.fst d)))), Prod.fst (Prod.snd (Prod.fst d)), Prod.snd (Prod.snd (Prod.fst d))) (Prod.snd d)))))) (1 :
  Int)), Prod.snd (Prod.snd (Prod.fst (advF ((Prod.fst (Prod.fst (Prod.fst d)), Prod.fst (Prod.snd (Prod.fst (Prod.fst d))), Prod.snd (Prod.snd (Prod.fst (Prod.fst d)))), Prod.fst (Prod.snd (Prod.fst d)), Prod.snd
  (Prod.snd (Prod.fst d))) (Prod.snd d))))) (1 : Int) = end1 (Prod.fst (Prod.snd (Prod.fst (advF ((Prod.fst (Prod.fst (Prod.fst d)), Prod.fst (Prod.snd (Prod.fst (Prod.fst d))), Prod.snd (Prod.snd (Prod.fst (Prod.fst
  d)))), Prod.fst (Prod.snd (Prod.fst d)), Prod.snd (Prod.snd (Prod.fst d))) (Prod.snd d))))) (end3 (Prod.snd (Prod.snd (Prod.fst (Prod.fst (advF ((Prod.fst (Prod.fst (Prod.fst d)), Prod.fst (Prod.snd (Prod.fst (Prod.fst
  d))), Prod.snd (Prod.snd (Prod.fst (Prod.fst d)))), Prod.fst (Prod.snd (Prod.fst d)), Prod.snd (Prod.snd (Prod.fst d))) (Prod.snd d)))))) (1 : Int)))) = true → false = true) ∧ ((!decide (heldTn ((Prod.fst (Prod.fst
  (Prod.fst (advF ((Prod.fst (Prod.fst (Prod.fst d)), Prod.fst (Prod.snd (Prod.fst (Prod.fst d))), Prod.snd (Prod.snd (Prod.fst (Prod.fst d)))), Prod.fst (Prod.snd (Prod.fst d)), Prod.snd (Prod.snd (Prod.fst d)))
  (Prod.snd d)))), Prod.fst (Prod.snd (Prod.fst (Prod.fst (advF ((Prod.fst (Prod.fst (Prod.fst d)), Prod.fst (Prod.snd (Prod.fst (Prod.fst d))), Prod.snd (Prod.snd (Prod.fst (Prod.fst d)))), Prod.fst (Prod.snd (Prod.fst
  d)), Prod.snd (Prod.snd (Prod.fst d))) (Prod.snd d))))), mark3 (Prod.snd (Prod.snd (Prod.fst (Prod.fst (advF ((Prod.fst (Prod.fst (Prod.fst d)), Prod.fst (Prod.snd (Prod.fst (Prod.fst d))), Prod.snd (Prod.snd (Prod.fst
  (Prod.fst d)))), Prod.fst (Prod.snd (Prod.fst d)), Prod.snd (Prod.snd (Prod.fst d))) (Prod.snd d)))))) (1 : Int)), mark1 (Prod.fst (Prod.snd (Prod.fst (advF ((Prod.fst (Prod.fst (Prod.fst d)), Prod.fst (Prod.snd
  (Prod.fst (Prod.fst d))), Prod.snd (Prod.snd (Prod.fst (Prod.fst d)))), Prod.fst (Prod.snd (Prod.fst d)), Prod.snd (Prod.snd (Prod.fst d))) (Prod.snd d))))) (end3 (Prod.snd (Prod.snd (Prod.fst (Prod.fst (advF
  ((Prod.fst (Prod.fst (Prod.fst d)), Prod.fst (Prod.snd (Prod.fst (Prod.fst d))), Prod.snd (Prod.snd (Prod.fst (Prod.fst d)))), Prod.fst (Prod.snd (Prod.fst d)), Prod.snd (Prod.snd (Prod.fst d))) (Prod.snd d)))))) (1 :
  Int)), Prod.snd (Prod.snd (Prod.fst (advF ((Prod.fst (Prod.fst (Prod.fst d)), Prod.fst (Prod.snd (Prod.fst (Prod.fst d))), Prod.snd (Prod.snd (Prod.fst (Prod.fst d)))), Prod.fst (Prod.snd (Prod.fst d)), Prod.snd
  (Prod.snd (Prod.fst d))) (Prod.snd d))))) (1 : Int) = end1 (Prod.fst (Prod.snd (Prod.fst (advF ((Prod.fst (Prod.fst (Prod.fst d)), Prod.fst (Prod.snd (Prod.fst (Prod.fst d))), Prod.snd (Prod.snd (Prod.fst (Prod.fst
  d)))), Prod.fst (Prod.snd (Prod.fst d)), Prod.snd (Prod.snd (Prod.fst d))) (Prod.snd d))))) (end3 (Prod.snd (Prod.snd (Prod.fst (Prod.fst (advF ((Prod.fst (Prod.fst (Prod.fst d)), Prod.fst (Prod.snd (Prod.fst (Prod.fst
  d))), Prod.snd (Prod.snd (Prod.fst (Prod.fst d)))), Prod.fst (Prod.snd (Prod.fst d)), Prod.snd (Prod.snd (Prod.fst d))) (Prod.snd d)))))) (1 : Int)))) = false → true = true))))))))))))))))))))))) := by
  intro (d : Tn × Int) hw hp
  obtain ⟨⟨⟨f, k, xs⟩, v, n⟩, units⟩ := d
  have hl1 : xs.length ≤ 9223372036854775807 := hw.1.1.2.2.1
  have hl2 : v.length ≤ 9223372036854775807 := hw.1.2.1.1
  have hroom := tn_room (t := ((f, k, xs), v, n)) hl1 hl2
  have hg := adv_len ((f, k, xs), v, n) units
  simp only [Int.toNat_natCast, exists_const, and_true, true_and, implies_true, decide_eq_true_eq, decide_eq_false_iff_not, Bool.not_eq_true', Bool.not_eq_false', beq_iff_eq, forall_const]
  generalize advF ((f, k, xs), v, n) units = g at *
  obtain ⟨⟨⟨a, b, ys⟩, u, m⟩, c⟩ := g
  simp only at *
  obtain ⟨hg1, hg2⟩ := hg
  obtain rfl : ys = xs := congrArg (fun z : Pl => z.2.2) hg1
  simp only [decide_true, Bool.not_true, Bool.true_eq_false, Bool.false_eq_true, false_implies, and_true, true_and, implies_true, beq_self_eq_true, not_true_eq_false]
  intro _ hz
  obtain ⟨hx, hv⟩ := hroom hz
  have hu : u.length ≤ 1048576 := by omega
  obtain ⟨g1, g2⟩ := held_tn (a := a) (b := b) (n := m) (xs := ys) (v := u) hx hu
  have e1 := end3_small ys (k := 1) (by omega) (by omega)
  have e2 := end1_small v (k := end3 ys 1) (by omega) (by omega)
  rw [g1]
  have k1 : ¬ end1 v (end3 ys 1) < 0 := by omega
  have k2 : ¬ end1 u (end3 ys 1) < 0 := by omega
  simp only [hx, hv, k1, k2, true_and, and_true, implies_true, false_implies, not_true_eq_false, not_false_eq_true, forall_const, true_implies]
end Go.SF
