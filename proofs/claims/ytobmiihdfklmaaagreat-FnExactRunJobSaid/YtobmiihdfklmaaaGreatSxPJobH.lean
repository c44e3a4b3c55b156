/- General division, from the code. No condition. -/
import Derived.Test.YtobmiihdfklmaaaGreatSxPJobG
namespace Go.SF
open Go.SX Go
set_option linter.unusedVariables false
set_option linter.unusedSimpArgs false
theorem dvStep_zero (p : Int) (b L : List Int) (i : Nat) (c : Int) : L = dvStep p b L i c 0 := by
  refine List.ext_getElem (by rw [dvStep_len]) fun t h1 h2 => ?_
  have := dvStep_get p b L i c 0 h1
  rw [if_neg (by omega), List.getD_eq_getElem?_getD, List.getD_eq_getElem?_getD, List.getElem?_eq_getElem h1, List.getElem?_eq_getElem h2] at this
  exact this.symm
theorem dvStep_set {p : Int} {b L : List Int} {i : Nat} {c : Int} {y : Nat} (h : i + y < L.length) : (dvStep p b L i c y).set (i + y) (subM p ((dvStep p b L i c y).getD (i + y) 0) (mulM p c (b.getD y 0))) = dvStep p b L i c (y + 1) := by
  rw [dvStep_get _ _ _ _ _ _ h, if_neg (by omega)]
  unfold dvStep
  rw [mr_set]
  refine mr_congr (fun t _ => ?_)
  by_cases ht : t = i + y
  · subst ht
    rw [if_pos rfl, if_pos (by omega), Nat.add_sub_cancel_left]
  · rw [if_neg ht]
    by_cases h2 : i ≤ t ∧ t < i + y
    · rw [if_pos h2, if_pos (by omega)]
    · rw [if_neg h2, if_neg (by omega)]
theorem dvQ_zero (p r : Int) (a b : List Int) (n : Nat) : List.replicate n 0 = dvQ p r a b n 0 := by
  rw [mr_const]
  exact mr_congr (fun t _ => (if_neg (by omega)).symm)
theorem dvQ_set {p r : Int} {a b : List Int} {n k : Nat} (h : b.length + k ≤ a.length) : (dvQ p r a b n k).set (a.length - b.length - k) (dvC p r a b k) = dvQ p r a b n (k + 1) := by
  unfold dvQ
  rw [mr_set]
  refine mr_congr (fun t _ => ?_)
  by_cases ht : t = a.length - b.length - k
  · rw [if_pos ht, if_pos (by omega), show a.length - b.length - t = k by omega]
  · rw [if_neg ht]
    by_cases h2 : a.length - b.length < t + k ∧ t ≤ a.length - b.length
    · rw [if_pos h2, if_pos (by omega)]
    · rw [if_neg h2, if_neg (by omega)]
theorem div_small {f : Int} {a b : List Int} (ha : polyB f a = true) (r : Int) (n : Nat) (h : a.length < b.length) : (trimF (dvQ (modF f) r a b n 0), trimF a) = divG (modF f) a b := by
  unfold divG
  rw [if_pos h, cut_full (poly_ok ha).2.2.2, ← dvQ_zero]
  congr 1
  have : trimF (List.replicate n (0 : Int)) = trimF [] := trim_ext (fun t => by
    rw [mr_const, mr_get]
    split <;> rfl)
  rw [this]; rfl
theorem top_ne {f : Int} {b : List Int} (hb : polyB f b = true) (h : 0 < b.length) : b.getD (b.length - 1) 0 % modF f ≠ 0 := by
  obtain ⟨hm, he, _, ht⟩ := poly_ok hb
  have hh := el_get (mod_is hm).1 he (b.length - 1)
  unfold El at hh
  rw [Int.emod_eq_of_lt hh.1 hh.2]
  exact top_last ht h
theorem v_S_l03DivMod :
 ∀ (d : Int × List Int × List Int), Ty.wf i64T d.1 ∧ Ty.wf listT d.2.1 ∧ Ty.wf listT d.2.2 → polyB d.1 d.2.1 = true ∧ polyB d.1 d.2.2 = true ∧ d.2.2.length ≠ (0 : Nat) → d.2.1.length ≤ (1048576 : Nat) ∧ (Ty.wf listT
 d.2.1 → (0 : Nat) ≤ d.2.1.length ∧ ((d.1 = d.1 ∧ d.2.1 = d.2.1 ∧ d.2.2 = d.2.2 ∧ Value.slice none (0 : Nat) (0 : Nat) = Value.slice none (0 : Nat) (0 : Nat) ∧ Value.slice none (0 : Nat) (0 : Nat) = Value.slice none (0 :
 Nat) (0 : Nat) ∧ (0 : Int) = (↑(0 : Nat) : Int)) ∧ d.2.1 = d.2.1 ∧ [] = List.replicate (0 : Nat) (0 : Ty.den i64T)) ∧ ∀ (x : Nat), x ≤ d.2.1.length → (decide ((↑x : Int) < (↑d.2.1.length : Int)) = true → (List.length
 (List.replicate x (0 : Ty.den i64T)) + List.length [(0 : Int)]) * (8 : Nat) ≤ (140737488355328 : Nat) ∧ ∃ (x' : Nat), x' ≤ d.2.1.length ∧ d.2.1.length - x' < d.2.1.length - x ∧ (d.1 = d.1 ∧ d.2.1 = d.2.1 ∧ d.2.2 = d.2.2
 ∧ Value.slice none (0 : Nat) (0 : Nat) = Value.slice none (0 : Nat) (0 : Nat) ∧ Value.slice none (0 : Nat) (0 : Nat) = Value.slice none (0 : Nat) (0 : Nat) ∧ IntKind.wrap IntKind.i64 ((↑x : Int) + (1 : Int)) = (↑x' :
 Int)) ∧ d.2.1 = d.2.1 ∧ List.replicate x (0 : Ty.den i64T) ++ [(0 : Int)] = List.replicate x' (0 : Ty.den i64T)) ∧ (decide ((↑x : Int) < (↑d.2.1.length : Int)) = false → ((0 : Int) ≤ IntKind.wrap IntKind.i64
 ((↑d.2.2.length : Int) - (1 : Int)) ∧ IntKind.wrap IntKind.i64 ((↑d.2.2.length : Int) - (1 : Int)) < (↑d.2.2.length : Int)) ∧ True ∧ (Ty.wf i64T (powS d.1 (d.2.2.getD (Int.toNat (IntKind.wrap IntKind.i64 ((↑d.2.2.length
 : Int) - (1 : Int)))) (0 : Int)) (-1 : Int)) → (0 : Nat) ≤ d.2.1.length + (1 : Nat) - d.2.2.length ∧ ((d.1 = d.1 ∧ d.2.1 = d.2.1 ∧ d.2.2 = d.2.2 ∧ Value.slice none (0 : Nat) (0 : Nat) = Value.slice none (0 : Nat) (0 :
 Nat) ∧ Value.slice none (0 : Nat) (0 : Nat) = Value.slice none (0 : Nat) (0 : Nat) ∧ (↑x : Int) = (↑x : Int) ∧ powS d.1 (d.2.2.getD (Int.toNat (IntKind.wrap IntKind.i64 ((↑d.2.2.length : Int) - (1 : Int)))) (0 : Int))
 (-1 : Int) = powS d.1 (d.2.2.getD (Int.toNat (IntKind.wrap IntKind.i64 ((↑d.2.2.length : Int) - (1 : Int)))) (0 : Int)) (-1 : Int) ∧ (↑d.2.1.length : Int) = (↑d.2.1.length : Int) - (↑(0 : Nat) : Int)) ∧ d.2.1 = dvL
 (modF d.1) (dvR (modF d.1) d.2.2) d.2.1 d.2.2 (0 : Nat) ∧ List.replicate x (0 : Ty.den i64T) = dvQ (modF d.1) (dvR (modF d.1) d.2.2) d.2.1 d.2.2 d.2.1.length (0 : Nat)) ∧ ∀ (x_1 : Nat), x_1 ≤ d.2.1.length + (1 : Nat) -
 d.2.2.length → (decide ((↑d.2.2.length : Int) ≤ (↑d.2.1.length : Int) - (↑x_1 : Int)) = true → ((0 : Int) ≤ IntKind.wrap IntKind.i64 ((↑d.2.1.length : Int) - (↑x_1 : Int) - (1 : Int)) ∧ IntKind.wrap IntKind.i64
 ((↑d.2.1.length : Int) - (↑x_1 : Int) - (1 : Int)) < (↑(List.length (dvL (modF d.1) (dvR (modF d.1) d.2.2) d.2.1 d.2.2 x_1)) : Int)) ∧ True ∧ (Ty.wf i64T (mulS d.1 (List.getD (dvL (modF d.1) (dvR (modF d.1) d.2.2) d.2.1
 d.2.2 x_1) (Int.toNat (IntKind.wrap IntKind.i64 ((↑d.2.1.length : Int) - (↑x_1 : Int) - (1 : Int)))) (0 : Int)) (powS d.1 (d.2.2.getD (Int.toNat (IntKind.wrap IntKind.i64 ((↑d.2.2.length : Int) - (1 : Int)))) (0 : Int))
 (-1 : Int))) → ((0 : Int) ≤ IntKind.wrap IntKind.i64 ((↑d.2.1.length : Int) - (↑x_1 : Int) - (↑d.2.2.length : Int)) ∧ IntKind.wrap IntKind.i64 ((↑d.2.1.length : Int) - (↑x_1 : Int) - (↑d.2.2.length : Int)) <
 (↑(List.length (dvQ (modF d.1) (dvR (modF d.1) d.2.2) d.2.1 d.2.2 d.2.1.length x_1)) : Int)) ∧ (0 : Nat) ≤ d.2.2.length ∧ ((d.1 = d.1 ∧ d.2.1 = d.2.1 ∧ d.2.2 = d.2.2 ∧ Value.slice none (0 : Nat) (0 : Nat) = Value.slice
 none (0 : Nat) (0 : Nat) ∧ Value.slice none (0 : Nat) (0 : Nat) = Value.slice none (0 : Nat) (0 : Nat) ∧ (↑x : Int) = (↑x : Int) ∧ powS d.1 (d.2.2.getD (Int.toNat (IntKind.wrap IntKind.i64 ((↑d.2.2.length : Int) - (1 :
 Int)))) (0 : Int)) (-1 : Int) = powS d.1 (d.2.2.getD (Int.toNat (IntKind.wrap IntKind.i64 ((↑d.2.2.length : Int) - (1 : Int)))) (0 : Int)) (-1 : Int) ∧ (↑d.2.1.length : Int) - (↑x_1 : Int) = (↑d.2.1.length : Int) -
 (↑x_1 : Int) ∧ mulS d.1 (List.getD (dvL (modF d.1) (dvR (modF d.1) d.2.2) d.2.1 d.2.2 x_1) (Int.toNat (IntKind.wrap IntKind.i64 ((↑d.2.1.length : Int) - (↑x_1 : Int) - (1 : Int)))) (0 : Int)) (powS d.1 (d.2.2.getD
 (Int.toNat (IntKind.wrap IntKind.i64 ((↑d.2.2.length : Int) - (1 : Int)))) (0 : Int)) (-1 : Int)) = mulS d.1 (List.getD (dvL (modF d.1) (dvR (modF d.1) d.2.2) d.2.1 d.2.2 x_1) (Int.toNat (IntKind.wrap IntKind.i64
 ((↑d.2.1.length : Int) - (↑x_1 : Int) - (1 : Int)))) (0 : Int)) (powS d.1 (d.2.2.getD (Int.toNat (IntKind.wrap IntKind.i64 ((↑d.2.2.length : Int) - (1 : Int)))) (0 : Int)) (-1 : Int)) ∧ (0 : Int) = (↑(0 : Nat) : Int)) ∧
 dvL (modF d.1) (dvR (modF d.1) d.2.2) d.2.1 d.2.2 x_1 = dvStep (modF d.1) d.2.2 (dvL (modF d.1) (dvR (modF d.1) d.2.2) d.2.1 d.2.2 x_1) (d.2.1.length - d.2.2.length - x_1) (dvC (modF d.1) (dvR (modF d.1) d.2.2) d.2.1
 d.2.2 x_1) (0 : Nat) ∧ List.set (dvQ (modF d.1) (dvR (modF d.1) d.2.2) d.2.1 d.2.2 d.2.1.length x_1) (Int.toNat (IntKind.wrap IntKind.i64 ((↑d.2.1.length : Int) - (↑x_1 : Int) - (↑d.2.2.length : Int)))) (mulS d.1
 (List.getD (dvL (modF d.1) (dvR (modF d.1) d.2.2) d.2.1 d.2.2 x_1) (Int.toNat (IntKind.wrap IntKind.i64 ((↑d.2.1.length : Int) - (↑x_1 : Int) - (1 : Int)))) (0 : Int)) (powS d.1 (d.2.2.getD (Int.toNat (IntKind.wrap
 IntKind.i64 ((↑d.2.2.length : Int) - (1 : Int)))) (0 : Int)) (-1 : Int))) = dvQ (modF d.1) (dvR (modF d.1) d.2.2) d.2.1 d.2.2 d.2.1.length (x_1 + (1 : Nat))) ∧ ∀ (x_2 : Nat), x_2 ≤ d.2.2.length → (decide ((↑x_2 : Int) <
 (↑d.2.2.length : Int)) = true → ((0 : Int) ≤ IntKind.wrap IntKind.i64 (IntKind.wrap IntKind.i64 ((↑d.2.1.length : Int) - (↑x_1 : Int) - (↑d.2.2.length : Int)) + (↑x_2 : Int)) ∧ IntKind.wrap IntKind.i64 (IntKind.wrap
 IntKind.i64 ((↑d.2.1.length : Int) - (↑x_1 : Int) - (↑d.2.2.length : Int)) + (↑x_2 : Int)) < (↑(List.length (dvStep (modF d.1) d.2.2 (dvL (modF d.1) (dvR (modF d.1) d.2.2) d.2.1 d.2.2 x_1) (d.2.1.length - d.2.2.length -
 x_1) (dvC (modF d.1) (dvR (modF d.1) d.2.2) d.2.1 d.2.2 x_1) x_2)) : Int)) ∧ ((0 : Int) ≤ (↑x_2 : Int) ∧ (↑x_2 : Int) < (↑d.2.2.length : Int)) ∧ True ∧ True ∧ ((0 : Int) ≤ IntKind.wrap IntKind.i64 (IntKind.wrap
 IntKind.i64 ((↑d.2.1.length : Int) - (↑x_1 : Int) - (↑d.2.2.length : Int)) + (↑x_2 : Int)) ∧ IntKind.wrap IntKind.i64 (IntKind.wrap IntKind.i64 ((↑d.2.1.length : Int) - (↑x_1 : Int) - (↑d.2.2.length : Int)) + (↑x_2 :
 Int)) < (↑(List.length (dvStep (modF d.1) d.2.2 (dvL (modF d.1) (dvR (modF d.1) d.2.2) d.2.1 d.2.2 x_1) (d.2.1.length - d.2.2.length - x_1) (dvC (modF d.1) (dvR (modF d.1) d.2.2) d.2.1 d.2.2 x_1) x_2)) : Int)) ∧ (Ty.wf
 i64T (subS d.1 (List.getD (dvStep (modF d.1) d.2.2 (dvL (modF d.1) (dvR (modF d.1) d.2.2) d.2.1 d.2.2 x_1) (d.2.1.length - d.2.2.length - x_1) (dvC (modF d.1) (dvR (modF d.1) d.2.2) d.2.1 d.2.2 x_1) x_2) (Int.toNat
 (IntKind.wrap IntKind.i64 (IntKind.wrap IntKind.i64 ((↑d.2.1.length : Int) - (↑x_1 : Int) - (↑d.2.2.length : Int)) + (↑x_2 : Int)))) (0 : Int)) (mulS d.1 (mulS d.1 (List.getD (dvL (modF d.1) (dvR (modF d.1) d.2.2) d.2.1
 d.2.2 x_1) (Int.toNat (IntKind.wrap IntKind.i64 ((↑d.2.1.length : Int) - (↑x_1 : Int) - (1 : Int)))) (0 : Int)) (powS d.1 (d.2.2.getD (Int.toNat (IntKind.wrap IntKind.i64 ((↑d.2.2.length : Int) - (1 : Int)))) (0 : Int))
 (-1 : Int))) (d.2.2.getD (Int.toNat (↑x_2 : Int)) (0 : Int)))) → Ty.wf i64T (mulS d.1 (mulS d.1 (List.getD (dvL (modF d.1) (dvR (modF d.1) d.2.2) d.2.1 d.2.2 x_1) (Int.toNat (IntKind.wrap IntKind.i64 ((↑d.2.1.length :
 Int) - (↑x_1 : Int) - (1 : Int)))) (0 : Int)) (powS d.1 (d.2.2.getD (Int.toNat (IntKind.wrap IntKind.i64 ((↑d.2.2.length : Int) - (1 : Int)))) (0 : Int)) (-1 : Int))) (d.2.2.getD (Int.toNat (↑x_2 : Int)) (0 : Int))) → ∃
 (x' : Nat), x' ≤ d.2.2.length ∧ d.2.2.length - x' < d.2.2.length - x_2 ∧ (d.1 = d.1 ∧ d.2.1 = d.2.1 ∧ d.2.2 = d.2.2 ∧ Value.slice none (0 : Nat) (0 : Nat) = Value.slice none (0 : Nat) (0 : Nat) ∧ Value.slice none (0 :
 Nat) (0 : Nat) = Value.slice none (0 : Nat) (0 : Nat) ∧ (↑x : Int) = (↑x : Int) ∧ powS d.1 (d.2.2.getD (Int.toNat (IntKind.wrap IntKind.i64 ((↑d.2.2.length : Int) - (1 : Int)))) (0 : Int)) (-1 : Int) = powS d.1
 (d.2.2.getD (Int.toNat (IntKind.wrap IntKind.i64 ((↑d.2.2.length : Int) - (1 : Int)))) (0 : Int)) (-1 : Int) ∧ (↑d.2.1.length : Int) - (↑x_1 : Int) = (↑d.2.1.length : Int) - (↑x_1 : Int) ∧ mulS d.1 (List.getD (dvL (modF
 d.1) (dvR (modF d.1) d.2.2) d.2.1 d.2.2 x_1) (Int.toNat (IntKind.wrap IntKind.i64 ((↑d.2.1.length : Int) - (↑x_1 : Int) - (1 : Int)))) (0 : Int)) (powS d.1 (d.2.2.getD (Int.toNat (IntKind.wrap IntKind.i64
 ((↑d.2.2.length : Int) - (1 : Int)))) (0 : Int)) (-1 : Int)) = mulS d.1 (List.getD (dvL (modF d.1) (dvR (modF d.1) d.2.2) d.2.1 d.2.2 x_1) (Int.toNat (IntKind.wrap IntKind.i64 ((↑d.2.1.length : Int) - (↑x_1 : Int) - (1
 : Int)))) (0 : Int)) (powS d.1 (d.2.2.getD (Int.toNat (IntKind.wrap IntKind.i64 ((↑d.2.2.length : Int) - (1 : Int)))) (0 : Int)) (-1 : Int)) ∧ IntKind.wrap IntKind.i64 ((↑x_2 : Int) + (1 : Int)) = (↑x' : Int)) ∧
 List.set (dvStep (modF d.1) d.2.2 (dvL (modF d.1) (dvR (modF d.1) d.2.2) d.2.1 d.2.2 x_1) (d.2.1.length - d.2.2.length - x_1) (dvC (modF d.1) (dvR (modF d.1) d.2.2) d.2.1 d.2.2 x_1) x_2) (Int.toNat (IntKind.wrap
 IntKind.i64 (IntKind.wrap IntKind.i64 ((↑d.2.1.length : Int) - (↑x_1 : Int) - (↑d.2.2.length : Int)) + (↑x_2 : Int)))) (subS d.1 (List.getD (dvStep (modF d.1) d.2.2 (dvL (modF d.1) (dvR (modF d.1) d.2.2) d.2.1 d.2.2
 x_1) (d.2.1.length - d.2.2.length - x_1) (dvC (modF d.1) (dvR (modF d.1) d.2.2) d.2.1 d.2.2 x_1) x_2) (Int.toNat (IntKind.wrap IntKind.i64 (IntKind.wrap IntKind.i64 ((↑d.2.1.length : Int) - (↑x_1 : Int) - (↑d.2.2.length
 : Int)) + (↑x_2 : Int)))) (0 : Int)) (mulS d.1 (mulS d.1 (List.getD (dvL (modF d.1) (dvR (modF d.1) d.2.2) d.2.1 d.2.2 x_1) (Int.toNat (IntKind.wrap IntKind.i64 ((↑d.2.1.length : Int) - (↑x_1 : Int) - (1 : Int)))) (0 :
 Int)) (powS d.1 (d.2.2.getD (Int.toNat (IntKind.wrap IntKind.i64 ((↑d.2.2.length : Int) - (1 : Int)))) (0 : Int)) (-1 : Int))) (d.2.2.getD (Int.toNat (↑x_2 : Int)) (0 : Int)))) = dvStep (modF d.1) d.2.2 (dvL (modF d.1)
 (dvR (modF d.1) d.2.2) d.2.1 d.2.2 x_1) (d.2.1.length - d.2.2.length - x_1) (dvC (modF d.1) (dvR (modF d.1) d.2.2) d.2.1 d.2.2 x_1) x' ∧ dvQ (modF d.1) (dvR (modF d.1) d.2.2) d.2.1 d.2.2 d.2.1.length (x_1 + (1 : Nat)) =
 dvQ (modF d.1) (dvR (modF d.1) d.2.2) d.2.1 d.2.2 d.2.1.length (x_1 + (1 : Nat)))) ∧ (decide ((↑x_2 : Int) < (↑d.2.2.length : Int)) = false → ∃ (x' : Nat), x' ≤ d.2.1.length + (1 : Nat) - d.2.2.length ∧ d.2.1.length +
 (1 : Nat) - d.2.2.length - x' < d.2.1.length + (1 : Nat) - d.2.2.length - x_1 ∧ (d.1 = d.1 ∧ d.2.1 = d.2.1 ∧ d.2.2 = d.2.2 ∧ Value.slice none (0 : Nat) (0 : Nat) = Value.slice none (0 : Nat) (0 : Nat) ∧ Value.slice none
 (0 : Nat) (0 : Nat) = Value.slice none (0 : Nat) (0 : Nat) ∧ (↑x : Int) = (↑x : Int) ∧ powS d.1 (d.2.2.getD (Int.toNat (IntKind.wrap IntKind.i64 ((↑d.2.2.length : Int) - (1 : Int)))) (0 : Int)) (-1 : Int) = powS d.1
 (d.2.2.getD (Int.toNat (IntKind.wrap IntKind.i64 ((↑d.2.2.length : Int) - (1 : Int)))) (0 : Int)) (-1 : Int) ∧ IntKind.wrap IntKind.i64 ((↑d.2.1.length : Int) - (↑x_1 : Int) - (1 : Int)) = (↑d.2.1.length : Int) - (↑x' :
 Int)) ∧ dvStep (modF d.1) d.2.2 (dvL (modF d.1) (dvR (modF d.1) d.2.2) d.2.1 d.2.2 x_1) (d.2.1.length - d.2.2.length - x_1) (dvC (modF d.1) (dvR (modF d.1) d.2.2) d.2.1 d.2.2 x_1) x_2 = dvL (modF d.1) (dvR (modF d.1)
 d.2.2) d.2.1 d.2.2 x' ∧ dvQ (modF d.1) (dvR (modF d.1) d.2.2) d.2.1 d.2.2 d.2.1.length (x_1 + (1 : Nat)) = dvQ (modF d.1) (dvR (modF d.1) d.2.2) d.2.1 d.2.2 d.2.1.length x'))) ∧ (decide ((↑d.2.2.length : Int) ≤
 (↑d.2.1.length : Int) - (↑x_1 : Int)) = false → List.length (dvQ (modF d.1) (dvR (modF d.1) d.2.2) d.2.1 d.2.2 d.2.1.length x_1) ≤ (1048576 : Nat) ∧ (Ty.wf listT (trimF (dvQ (modF d.1) (dvR (modF d.1) d.2.2) d.2.1 d.2.2
 d.2.1.length x_1)) → List.length (dvL (modF d.1) (dvR (modF d.1) d.2.2) d.2.1 d.2.2 x_1) ≤ (1048576 : Nat) ∧ (Ty.wf listT (trimF (dvL (modF d.1) (dvR (modF d.1) d.2.2) d.2.1 d.2.2 x_1)) → (trimF (dvQ (modF d.1) (dvR
 (modF d.1) d.2.2) d.2.1 d.2.2 d.2.1.length x_1), trimF (dvL (modF d.1) (dvR (modF d.1) d.2.2) d.2.1 d.2.2 x_1)) = divG (modF d.1) d.2.1 d.2.2)))))) := by
  intro (d : Int × List Int × List Int) hw hp
  obtain ⟨f, a, b⟩ := d
  replace hp : polyB f a = true ∧ polyB f b = true ∧ b.length ≠ 0 := hp
  simp only [Int.toNat_natCast, exists_const, and_true, true_and, implies_true, decide_eq_true_eq, decide_eq_false_iff_not, Bool.not_eq_true', Bool.not_eq_false', beq_iff_eq, forall_const]
  obtain ⟨ha, hb, hb0⟩ := hp
  obtain ⟨hm, hea, hla, _⟩ := poly_ok ha
  obtain ⟨_, heb, hlb, _⟩ := poly_ok hb
  have hq := (mod_is hm).1
  have hw0 : IntKind.i64.wrap ((b.length : Int) - 1) = ((b.length - 1 : Nat) : Int) := by rw [wrap_small (by omega)]; omega
  simp only [hw0, Int.toNat_natCast, dvL_len, dvQ_len, dvStep_len]
  have hz : powS f (b.getD (b.length - 1) 0) (-1) = dvR (modF f) b := pow_inv hm (top_ne hb (by omega))
  rw [hz]
  refine ⟨by omega, fun _ => ⟨by omega, ⟨rfl, rfl⟩, fun x hx => ⟨fun h1 => ⟨by simp only [List.length_replicate, List.length_cons, List.length_nil]; omega, x + 1, by omega, by omega, wrap_succ (by omega), List.replicate_succ'.symm⟩, fun h1 => ⟨⟨by omega, by omega⟩, fun _ => ⟨by omega, ⟨by omega, rfl, by rw [show x = a.length by omega]; exact dvQ_zero _ _ _ _ _⟩, fun k hk => ⟨fun h2 => ?_, fun h2 => ?_⟩⟩⟩⟩⟩⟩
  · have hw1 : IntKind.i64.wrap ((a.length : Int) - (k : Int) - 1) = ((a.length - 1 - k : Nat) : Int) := by rw [wrap_small (by omega)]; omega
    have hw2 : IntKind.i64.wrap ((a.length : Int) - (k : Int) - (b.length : Int)) = ((a.length - b.length - k : Nat) : Int) := by rw [wrap_small (by omega)]; omega
    have hC : mulS f ((dvL (modF f) (dvR (modF f) b) a b k).getD (a.length - 1 - k) 0) (dvR (modF f) b) = dvC (modF f) (dvR (modF f) b) a b k := by rw [mulS_at hm]; rfl
    rw [hw1, hw2]
    simp only [Int.toNat_natCast]
    rw [hC]
    refine ⟨⟨by omega, by omega⟩, fun _ => ⟨⟨by omega, by omega⟩, by omega, ⟨rfl, dvStep_zero _ _ _ _ _, dvQ_set (by omega)⟩, fun y hy => ⟨fun h3 => ?_, fun h3 => ?_⟩⟩⟩
    · have hw3 : IntKind.i64.wrap (((a.length - b.length - k : Nat) : Int) + (y : Int)) = ((a.length - b.length - k + y : Nat) : Int) := by rw [wrap_small (by omega)]; omega
      rw [hw3, Int.toNat_natCast]
      refine ⟨⟨by omega, by omega⟩, ⟨by omega, by omega⟩, ⟨by omega, by omega⟩, fun _ _ => ⟨y + 1, by omega, by omega, wrap_succ (by omega), ?_⟩⟩
      rw [subS_at hm, mulS_at hm]
      exact dvStep_set (by rw [dvL_len]; omega)
    · refine ⟨k + 1, by omega, by omega, by omega, ?_, rfl⟩
      rw [show y = b.length by omega]; rfl
  · refine ⟨by omega, fun _ => ⟨by omega, fun _ => ?_⟩⟩
    rcases Nat.lt_or_ge a.length b.length with h3 | h3
    · rw [show k = 0 by omega]
      exact div_small ha _ _ h3
    · rw [show k = a.length - b.length + 1 by omega]
      exact div_spec hm ha (top_ne hb (by omega)) (by omega) h3
end Go.SF
