/- General division, from the code of the other side. No condition. -/
import Derived.Test.YtobmiihdfklmaaaGreatSxPJobH
namespace Go.SF
open Go.SX Go
set_option linter.unusedVariables false
set_option linter.unusedSimpArgs false
theorem dvStep_el {p : Int} (hp : IsMod p) {L : List Int} (hL : ∀ t, El p (L.getD t 0)) (b : List Int) (i : Nat) (c : Int) (j t : Nat) : El p ((dvStep p b L i c j).getD t 0) := by
  rcases Nat.lt_or_ge t L.length with ht | ht
  · rw [dvStep_get _ _ _ _ _ _ ht]
    split
    · exact el_subM hp _ _
    · exact hL t
  · rw [get_out (by rw [dvStep_len]; exact ht)]
    exact el_zero hp
theorem dvL_skip {p r : Int} (hp : IsMod p) {a b : List Int} (ha : elemsF p a = true) {k : Nat} (h : dvC p r a b k = 0) : dvL p r a b k = dvL p r a b (k + 1) := by
  show _ = dvStep p b (dvL p r a b k) (a.length - b.length - k) (dvC p r a b k) b.length
  rw [h]
  have hel := dvL_el (r := r) (b := b) hp ha k
  generalize dvL p r a b k = L at *
  refine List.ext_getElem (by rw [dvStep_len]) fun t h1 h2 => ?_
  have := dvStep_get p b L (a.length - b.length - k) 0 b.length h1
  have e : (if a.length - b.length - k ≤ t ∧ t < a.length - b.length - k + b.length then subM p (L.getD t 0) (mulM p 0 (b.getD (t - (a.length - b.length - k)) 0)) else L.getD t 0) = L.getD t 0 := by
    split
    · have hh := hel t
      unfold El at hh
      unfold subM mulM
      rw [Int.zero_mul, Int.zero_emod, Int.sub_zero, Int.emod_eq_of_lt hh.1 hh.2]
    · rfl
  rw [e, List.getD_eq_getElem?_getD, List.getD_eq_getElem?_getD, List.getElem?_eq_getElem h1, List.getElem?_eq_getElem h2] at this
  exact this.symm
theorem v_I_divModG :
 ∀ (d : (Int × Int × Int) × List Int × List Int), Ty.wf fldT d.1 ∧ Ty.wf listT d.2.1 ∧ Ty.wf listT d.2.2 → DivP d.1.1 d.2.1 d.2.2 → ((0 : Nat) + d.2.1.length) * (8 : Nat) ≤ (140737488355328 : Nat) ∧ (decide
 ((↑d.2.1.length : Int) < (↑d.2.2.length : Int)) = true → ([], [] ++ d.2.1) = divG d.1.1 d.2.1 d.2.2) ∧ (decide ((↑d.2.1.length : Int) < (↑d.2.2.length : Int)) = false → ((0 : Int) ≤ IntKind.wrap IntKind.i64
 (IntKind.wrap IntKind.i64 ((↑d.2.1.length : Int) - (↑d.2.2.length : Int)) + (1 : Int)) ∧ IntKind.wrap IntKind.i64 (IntKind.wrap IntKind.i64 ((↑d.2.1.length : Int) - (↑d.2.2.length : Int)) + (1 : Int)) ≤ IntKind.wrap
 IntKind.i64 (IntKind.wrap IntKind.i64 ((↑d.2.1.length : Int) - (↑d.2.2.length : Int)) + (1 : Int)) ∧ IntKind.wrap IntKind.i64 (IntKind.wrap IntKind.i64 ((↑d.2.1.length : Int) - (↑d.2.2.length : Int)) + (1 : Int)) * (↑(8
 : Nat) : Int) ≤ (140737488355328 : Int)) ∧ ((0 : Int) ≤ IntKind.wrap IntKind.i64 ((↑d.2.2.length : Int) - (1 : Int)) ∧ IntKind.wrap IntKind.i64 ((↑d.2.2.length : Int) - (1 : Int)) < (↑d.2.2.length : Int)) ∧ (IsMod d.1.1
 ∧ El d.1.1 (d.2.2.getD (Int.toNat (IntKind.wrap IntKind.i64 ((↑d.2.2.length : Int) - (1 : Int)))) (0 : Int))) ∧ (Ty.wf i64T (invM d.1.1 (d.2.2.getD (Int.toNat (IntKind.wrap IntKind.i64 ((↑d.2.2.length : Int) - (1 :
 Int)))) (0 : Int))) → (0 : Nat) ≤ d.2.1.length - d.2.2.length + (1 : Nat) ∧ (((d.1.1 = d.1.1 ∧ d.1.2.1 = d.1.2.1 ∧ d.1.2.2 = d.1.2.2) ∧ d.2.1 = d.2.1 ∧ d.2.2 = d.2.2 ∧ Value.slice none (0 : Nat) (0 : Nat) = Value.slice
 none (0 : Nat) (0 : Nat) ∧ Value.slice none (0 : Nat) (0 : Nat) = Value.slice none (0 : Nat) (0 : Nat) ∧ invM d.1.1 (d.2.2.getD (Int.toNat (IntKind.wrap IntKind.i64 ((↑d.2.2.length : Int) - (1 : Int)))) (0 : Int)) =
 invM d.1.1 (d.2.2.getD (Int.toNat (IntKind.wrap IntKind.i64 ((↑d.2.2.length : Int) - (1 : Int)))) (0 : Int)) ∧ IntKind.wrap IntKind.i64 ((↑(List.length (List.replicate (Int.toNat (IntKind.wrap IntKind.i64 (IntKind.wrap
 IntKind.i64 ((↑d.2.1.length : Int) - (↑d.2.2.length : Int)) + (1 : Int)))) (0 : Int))) : Int) - (1 : Int)) = (↑d.2.1.length : Int) - (↑d.2.2.length : Int) - (↑(0 : Nat) : Int)) ∧ (d.1.1 = d.1.1 ∧ d.1.2.1 = d.1.2.1 ∧
 d.1.2.2 = d.1.2.2) ∧ [] ++ d.2.1 = dvL d.1.1 (dvR d.1.1 d.2.2) d.2.1 d.2.2 (0 : Nat) ∧ List.replicate (Int.toNat (IntKind.wrap IntKind.i64 (IntKind.wrap IntKind.i64 ((↑d.2.1.length : Int) - (↑d.2.2.length : Int)) + (1 :
 Int)))) (0 : Int) = dvQ d.1.1 (dvR d.1.1 d.2.2) d.2.1 d.2.2 (d.2.1.length - d.2.2.length + (1 : Nat)) (0 : Nat)) ∧ ∀ (x : Nat), x ≤ d.2.1.length - d.2.2.length + (1 : Nat) → (decide ((0 : Int) ≤ (↑d.2.1.length : Int) -
 (↑d.2.2.length : Int) - (↑x : Int)) = true → ((0 : Int) ≤ IntKind.wrap IntKind.i64 (IntKind.wrap IntKind.i64 ((↑d.2.1.length : Int) - (↑d.2.2.length : Int) - (↑x : Int) + (↑d.2.2.length : Int)) - (1 : Int)) ∧
 IntKind.wrap IntKind.i64 (IntKind.wrap IntKind.i64 ((↑d.2.1.length : Int) - (↑d.2.2.length : Int) - (↑x : Int) + (↑d.2.2.length : Int)) - (1 : Int)) < (↑(List.length (dvL d.1.1 (dvR d.1.1 d.2.2) d.2.1 d.2.2 x)) : Int))
 ∧ (IsMod d.1.1 ∧ El d.1.1 (List.getD (dvL d.1.1 (dvR d.1.1 d.2.2) d.2.1 d.2.2 x) (Int.toNat (IntKind.wrap IntKind.i64 (IntKind.wrap IntKind.i64 ((↑d.2.1.length : Int) - (↑d.2.2.length : Int) - (↑x : Int) +
 (↑d.2.2.length : Int)) - (1 : Int)))) (0 : Int)) ∧ El d.1.1 (invM d.1.1 (d.2.2.getD (Int.toNat (IntKind.wrap IntKind.i64 ((↑d.2.2.length : Int) - (1 : Int)))) (0 : Int)))) ∧ (Ty.wf i64T (mulM d.1.1 (List.getD (dvL d.1.1
 (dvR d.1.1 d.2.2) d.2.1 d.2.2 x) (Int.toNat (IntKind.wrap IntKind.i64 (IntKind.wrap IntKind.i64 ((↑d.2.1.length : Int) - (↑d.2.2.length : Int) - (↑x : Int) + (↑d.2.2.length : Int)) - (1 : Int)))) (0 : Int)) (invM d.1.1
 (d.2.2.getD (Int.toNat (IntKind.wrap IntKind.i64 ((↑d.2.2.length : Int) - (1 : Int)))) (0 : Int)))) → ((0 : Int) ≤ (↑d.2.1.length : Int) - (↑d.2.2.length : Int) - (↑x : Int) ∧ (↑d.2.1.length : Int) - (↑d.2.2.length :
 Int) - (↑x : Int) < (↑(List.length (dvQ d.1.1 (dvR d.1.1 d.2.2) d.2.1 d.2.2 (d.2.1.length - d.2.2.length + (1 : Nat)) x)) : Int)) ∧ (decide (mulM d.1.1 (List.getD (dvL d.1.1 (dvR d.1.1 d.2.2) d.2.1 d.2.2 x) (Int.toNat
 (IntKind.wrap IntKind.i64 (IntKind.wrap IntKind.i64 ((↑d.2.1.length : Int) - (↑d.2.2.length : Int) - (↑x : Int) + (↑d.2.2.length : Int)) - (1 : Int)))) (0 : Int)) (invM d.1.1 (d.2.2.getD (Int.toNat (IntKind.wrap
 IntKind.i64 ((↑d.2.2.length : Int) - (1 : Int)))) (0 : Int))) = (0 : Int)) = true → ∃ (x' : Nat), x' ≤ d.2.1.length - d.2.2.length + (1 : Nat) ∧ d.2.1.length - d.2.2.length + (1 : Nat) - x' < d.2.1.length - d.2.2.length
 + (1 : Nat) - x ∧ ((d.1.1 = d.1.1 ∧ d.1.2.1 = d.1.2.1 ∧ d.1.2.2 = d.1.2.2) ∧ d.2.1 = d.2.1 ∧ d.2.2 = d.2.2 ∧ Value.slice none (0 : Nat) (0 : Nat) = Value.slice none (0 : Nat) (0 : Nat) ∧ Value.slice none (0 : Nat) (0 :
 Nat) = Value.slice none (0 : Nat) (0 : Nat) ∧ invM d.1.1 (d.2.2.getD (Int.toNat (IntKind.wrap IntKind.i64 ((↑d.2.2.length : Int) - (1 : Int)))) (0 : Int)) = invM d.1.1 (d.2.2.getD (Int.toNat (IntKind.wrap IntKind.i64
 ((↑d.2.2.length : Int) - (1 : Int)))) (0 : Int)) ∧ IntKind.wrap IntKind.i64 ((↑d.2.1.length : Int) - (↑d.2.2.length : Int) - (↑x : Int) - (1 : Int)) = (↑d.2.1.length : Int) - (↑d.2.2.length : Int) - (↑x' : Int)) ∧
 (d.1.1 = d.1.1 ∧ d.1.2.1 = d.1.2.1 ∧ d.1.2.2 = d.1.2.2) ∧ dvL d.1.1 (dvR d.1.1 d.2.2) d.2.1 d.2.2 x = dvL d.1.1 (dvR d.1.1 d.2.2) d.2.1 d.2.2 x' ∧ List.set (dvQ d.1.1 (dvR d.1.1 d.2.2) d.2.1 d.2.2 (d.2.1.length -
 d.2.2.length + (1 : Nat)) x) (Int.toNat ((↑d.2.1.length : Int) - (↑d.2.2.length : Int) - (↑x : Int))) (mulM d.1.1 (List.getD (dvL d.1.1 (dvR d.1.1 d.2.2) d.2.1 d.2.2 x) (Int.toNat (IntKind.wrap IntKind.i64 (IntKind.wrap
 IntKind.i64 ((↑d.2.1.length : Int) - (↑d.2.2.length : Int) - (↑x : Int) + (↑d.2.2.length : Int)) - (1 : Int)))) (0 : Int)) (invM d.1.1 (d.2.2.getD (Int.toNat (IntKind.wrap IntKind.i64 ((↑d.2.2.length : Int) - (1 :
 Int)))) (0 : Int)))) = dvQ d.1.1 (dvR d.1.1 d.2.2) d.2.1 d.2.2 (d.2.1.length - d.2.2.length + (1 : Nat)) x') ∧ (decide (mulM d.1.1 (List.getD (dvL d.1.1 (dvR d.1.1 d.2.2) d.2.1 d.2.2 x) (Int.toNat (IntKind.wrap
 IntKind.i64 (IntKind.wrap IntKind.i64 ((↑d.2.1.length : Int) - (↑d.2.2.length : Int) - (↑x : Int) + (↑d.2.2.length : Int)) - (1 : Int)))) (0 : Int)) (invM d.1.1 (d.2.2.getD (Int.toNat (IntKind.wrap IntKind.i64
 ((↑d.2.2.length : Int) - (1 : Int)))) (0 : Int))) = (0 : Int)) = false → (0 : Nat) ≤ d.2.2.length ∧ (((d.1.1 = d.1.1 ∧ d.1.2.1 = d.1.2.1 ∧ d.1.2.2 = d.1.2.2) ∧ d.2.1 = d.2.1 ∧ d.2.2 = d.2.2 ∧ Value.slice none (0 : Nat)
 (0 : Nat) = Value.slice none (0 : Nat) (0 : Nat) ∧ Value.slice none (0 : Nat) (0 : Nat) = Value.slice none (0 : Nat) (0 : Nat) ∧ invM d.1.1 (d.2.2.getD (Int.toNat (IntKind.wrap IntKind.i64 ((↑d.2.2.length : Int) - (1 :
 Int)))) (0 : Int)) = invM d.1.1 (d.2.2.getD (Int.toNat (IntKind.wrap IntKind.i64 ((↑d.2.2.length : Int) - (1 : Int)))) (0 : Int)) ∧ (↑d.2.1.length : Int) - (↑d.2.2.length : Int) - (↑x : Int) = (↑d.2.1.length : Int) -
 (↑d.2.2.length : Int) - (↑x : Int) ∧ mulM d.1.1 (List.getD (dvL d.1.1 (dvR d.1.1 d.2.2) d.2.1 d.2.2 x) (Int.toNat (IntKind.wrap IntKind.i64 (IntKind.wrap IntKind.i64 ((↑d.2.1.length : Int) - (↑d.2.2.length : Int) - (↑x
 : Int) + (↑d.2.2.length : Int)) - (1 : Int)))) (0 : Int)) (invM d.1.1 (d.2.2.getD (Int.toNat (IntKind.wrap IntKind.i64 ((↑d.2.2.length : Int) - (1 : Int)))) (0 : Int))) = mulM d.1.1 (List.getD (dvL d.1.1 (dvR d.1.1
 d.2.2) d.2.1 d.2.2 x) (Int.toNat (IntKind.wrap IntKind.i64 (IntKind.wrap IntKind.i64 ((↑d.2.1.length : Int) - (↑d.2.2.length : Int) - (↑x : Int) + (↑d.2.2.length : Int)) - (1 : Int)))) (0 : Int)) (invM d.1.1 (d.2.2.getD
 (Int.toNat (IntKind.wrap IntKind.i64 ((↑d.2.2.length : Int) - (1 : Int)))) (0 : Int))) ∧ d.2.2 = d.2.2 ∧ (↑d.2.2.length : Int) = (↑d.2.2.length : Int) ∧ (0 : Int) = (↑(0 : Nat) : Int)) ∧ (d.1.1 = d.1.1 ∧ d.1.2.1 =
 d.1.2.1 ∧ d.1.2.2 = d.1.2.2) ∧ dvL d.1.1 (dvR d.1.1 d.2.2) d.2.1 d.2.2 x = dvStep d.1.1 d.2.2 (dvL d.1.1 (dvR d.1.1 d.2.2) d.2.1 d.2.2 x) (d.2.1.length - d.2.2.length - x) (dvC d.1.1 (dvR d.1.1 d.2.2) d.2.1 d.2.2 x) (0
 : Nat) ∧ List.set (dvQ d.1.1 (dvR d.1.1 d.2.2) d.2.1 d.2.2 (d.2.1.length - d.2.2.length + (1 : Nat)) x) (Int.toNat ((↑d.2.1.length : Int) - (↑d.2.2.length : Int) - (↑x : Int))) (mulM d.1.1 (List.getD (dvL d.1.1 (dvR
 d.1.1 d.2.2) d.2.1 d.2.2 x) (Int.toNat (IntKind.wrap IntKind.i64 (IntKind.wrap IntKind.i64 ((↑d.2.1.length : Int) - (↑d.2.2.length : Int) - (↑x : Int) + (↑d.2.2.length : Int)) - (1 : Int)))) (0 : Int)) (invM d.1.1
 (d.2.2.getD (Int.toNat (IntKind.wrap IntKind.i64 ((↑d.2.2.length : Int) - (1 : Int)))) (0 : Int)))) = dvQ d.1.1 (dvR d.1.1 d.2.2) d.2.1 d.2.2 (d.2.1.length - d.2.2.length + (1 : Nat)) (x + (1 : Nat))) ∧ ∀ (x_1 : Nat),
 x_1 ≤ d.2.2.length → (decide ((↑x_1 : Int) < (↑d.2.2.length : Int)) = true → ((0 : Int) ≤ (↑x_1 : Int) ∧ (↑x_1 : Int) < (↑d.2.2.length : Int)) ∧ ((0 : Int) ≤ IntKind.wrap IntKind.i64 ((↑d.2.1.length : Int) -
 (↑d.2.2.length : Int) - (↑x : Int) + (↑x_1 : Int)) ∧ IntKind.wrap IntKind.i64 ((↑d.2.1.length : Int) - (↑d.2.2.length : Int) - (↑x : Int) + (↑x_1 : Int)) < (↑(List.length (dvStep d.1.1 d.2.2 (dvL d.1.1 (dvR d.1.1 d.2.2)
 d.2.1 d.2.2 x) (d.2.1.length - d.2.2.length - x) (dvC d.1.1 (dvR d.1.1 d.2.2) d.2.1 d.2.2 x) x_1)) : Int)) ∧ (IsMod d.1.1 ∧ El d.1.1 (mulM d.1.1 (List.getD (dvL d.1.1 (dvR d.1.1 d.2.2) d.2.1 d.2.2 x) (Int.toNat
 (IntKind.wrap IntKind.i64 (IntKind.wrap IntKind.i64 ((↑d.2.1.length : Int) - (↑d.2.2.length : Int) - (↑x : Int) + (↑d.2.2.length : Int)) - (1 : Int)))) (0 : Int)) (invM d.1.1 (d.2.2.getD (Int.toNat (IntKind.wrap
 IntKind.i64 ((↑d.2.2.length : Int) - (1 : Int)))) (0 : Int)))) ∧ El d.1.1 (d.2.2.getD (Int.toNat (↑x_1 : Int)) (0 : Int))) ∧ (IsMod d.1.1 ∧ El d.1.1 (List.getD (dvStep d.1.1 d.2.2 (dvL d.1.1 (dvR d.1.1 d.2.2) d.2.1
 d.2.2 x) (d.2.1.length - d.2.2.length - x) (dvC d.1.1 (dvR d.1.1 d.2.2) d.2.1 d.2.2 x) x_1) (Int.toNat (IntKind.wrap IntKind.i64 ((↑d.2.1.length : Int) - (↑d.2.2.length : Int) - (↑x : Int) + (↑x_1 : Int)))) (0 : Int)) ∧
 El d.1.1 (mulM d.1.1 (mulM d.1.1 (List.getD (dvL d.1.1 (dvR d.1.1 d.2.2) d.2.1 d.2.2 x) (Int.toNat (IntKind.wrap IntKind.i64 (IntKind.wrap IntKind.i64 ((↑d.2.1.length : Int) - (↑d.2.2.length : Int) - (↑x : Int) +
 (↑d.2.2.length : Int)) - (1 : Int)))) (0 : Int)) (invM d.1.1 (d.2.2.getD (Int.toNat (IntKind.wrap IntKind.i64 ((↑d.2.2.length : Int) - (1 : Int)))) (0 : Int)))) (d.2.2.getD (Int.toNat (↑x_1 : Int)) (0 : Int)))) ∧ ((0 :
 Int) ≤ IntKind.wrap IntKind.i64 ((↑d.2.1.length : Int) - (↑d.2.2.length : Int) - (↑x : Int) + (↑x_1 : Int)) ∧ IntKind.wrap IntKind.i64 ((↑d.2.1.length : Int) - (↑d.2.2.length : Int) - (↑x : Int) + (↑x_1 : Int)) <
 (↑(List.length (dvStep d.1.1 d.2.2 (dvL d.1.1 (dvR d.1.1 d.2.2) d.2.1 d.2.2 x) (d.2.1.length - d.2.2.length - x) (dvC d.1.1 (dvR d.1.1 d.2.2) d.2.1 d.2.2 x) x_1)) : Int)) ∧ (Ty.wf i64T (subM d.1.1 (List.getD (dvStep
 d.1.1 d.2.2 (dvL d.1.1 (dvR d.1.1 d.2.2) d.2.1 d.2.2 x) (d.2.1.length - d.2.2.length - x) (dvC d.1.1 (dvR d.1.1 d.2.2) d.2.1 d.2.2 x) x_1) (Int.toNat (IntKind.wrap IntKind.i64 ((↑d.2.1.length : Int) - (↑d.2.2.length :
 Int) - (↑x : Int) + (↑x_1 : Int)))) (0 : Int)) (mulM d.1.1 (mulM d.1.1 (List.getD (dvL d.1.1 (dvR d.1.1 d.2.2) d.2.1 d.2.2 x) (Int.toNat (IntKind.wrap IntKind.i64 (IntKind.wrap IntKind.i64 ((↑d.2.1.length : Int) -
 (↑d.2.2.length : Int) - (↑x : Int) + (↑d.2.2.length : Int)) - (1 : Int)))) (0 : Int)) (invM d.1.1 (d.2.2.getD (Int.toNat (IntKind.wrap IntKind.i64 ((↑d.2.2.length : Int) - (1 : Int)))) (0 : Int)))) (d.2.2.getD
 (Int.toNat (↑x_1 : Int)) (0 : Int)))) → Ty.wf i64T (mulM d.1.1 (mulM d.1.1 (List.getD (dvL d.1.1 (dvR d.1.1 d.2.2) d.2.1 d.2.2 x) (Int.toNat (IntKind.wrap IntKind.i64 (IntKind.wrap IntKind.i64 ((↑d.2.1.length : Int) -
 (↑d.2.2.length : Int) - (↑x : Int) + (↑d.2.2.length : Int)) - (1 : Int)))) (0 : Int)) (invM d.1.1 (d.2.2.getD (Int.toNat (IntKind.wrap IntKind.i64 ((↑d.2.2.length : Int) - (1 : Int)))) (0 : Int)))) (d.2.2.getD
 (Int.toNat (↑x_1 : Int)) (0 : Int))) → ∃ (x' : Nat), x' ≤ d.2.2.length ∧ d.2.2.length - x' < d.2.2.length - x_1 ∧ ((d.1.1 = d.1.1 ∧ d.1.2.1 = d.1.2.1 ∧ d.1.2.2 = d.1.2.2) ∧ d.2.1 = d.2.1 ∧ d.2.2 = d.2.2 ∧ Value.slice
 none (0 : Nat) (0 : Nat) = Value.slice none (0 : Nat) (0 : Nat) ∧ Value.slice none (0 : Nat) (0 : Nat) = Value.slice none (0 : Nat) (0 : Nat) ∧ invM d.1.1 (d.2.2.getD (Int.toNat (IntKind.wrap IntKind.i64 ((↑d.2.2.length
 : Int) - (1 : Int)))) (0 : Int)) = invM d.1.1 (d.2.2.getD (Int.toNat (IntKind.wrap IntKind.i64 ((↑d.2.2.length : Int) - (1 : Int)))) (0 : Int)) ∧ (↑d.2.1.length : Int) - (↑d.2.2.length : Int) - (↑x : Int) =
 (↑d.2.1.length : Int) - (↑d.2.2.length : Int) - (↑x : Int) ∧ mulM d.1.1 (List.getD (dvL d.1.1 (dvR d.1.1 d.2.2) d.2.1 d.2.2 x) (Int.toNat (IntKind.wrap IntKind.i64 (IntKind.wrap IntKind.i64 ((↑d.2.1.length : Int) -
 (↑d.2.2.length : Int) - (↑x : Int) + (↑d.2.2.length : Int)) - (1 : Int)))) (0 : Int)) (invM d.1.1 (d.2.2.getD (Int.toNat (IntKind.wrap IntKind.i64 ((↑d.2.2.length : Int) - (1 : Int)))) (0 : Int))) = mulM d.1.1
 (List.getD (dvL d.1.1 (dvR d.1.1 d.2.2) d.2.1 d.2.2 x) (Int.toNat (IntKind.wrap IntKind.i64 (IntKind.wrap IntKind.i64 ((↑d.2.1.length : Int) - (↑d.2.2.length : Int) - (↑x : Int) + (↑d.2.2.length : Int)) - (1 : Int))))
 (0 : Int)) (invM d.1.1 (d.2.2.getD (Int.toNat (IntKind.wrap IntKind.i64 ((↑d.2.2.length : Int) - (1 : Int)))) (0 : Int))) ∧ d.2.2 = d.2.2 ∧ (↑d.2.2.length : Int) = (↑d.2.2.length : Int) ∧ IntKind.wrap IntKind.i64 ((↑x_1
 : Int) + (1 : Int)) = (↑x' : Int)) ∧ (d.1.1 = d.1.1 ∧ d.1.2.1 = d.1.2.1 ∧ d.1.2.2 = d.1.2.2) ∧ List.set (dvStep d.1.1 d.2.2 (dvL d.1.1 (dvR d.1.1 d.2.2) d.2.1 d.2.2 x) (d.2.1.length - d.2.2.length - x) (dvC d.1.1 (dvR
 d.1.1 d.2.2) d.2.1 d.2.2 x) x_1) (Int.toNat (IntKind.wrap IntKind.i64 ((↑d.2.1.length : Int) - (↑d.2.2.length : Int) - (↑x : Int) + (↑x_1 : Int)))) (subM d.1.1 (List.getD (dvStep d.1.1 d.2.2 (dvL d.1.1 (dvR d.1.1 d.2.2)
 d.2.1 d.2.2 x) (d.2.1.length - d.2.2.length - x) (dvC d.1.1 (dvR d.1.1 d.2.2) d.2.1 d.2.2 x) x_1) (Int.toNat (IntKind.wrap IntKind.i64 ((↑d.2.1.length : Int) - (↑d.2.2.length : Int) - (↑x : Int) + (↑x_1 : Int)))) (0 :
 Int)) (mulM d.1.1 (mulM d.1.1 (List.getD (dvL d.1.1 (dvR d.1.1 d.2.2) d.2.1 d.2.2 x) (Int.toNat (IntKind.wrap IntKind.i64 (IntKind.wrap IntKind.i64 ((↑d.2.1.length : Int) - (↑d.2.2.length : Int) - (↑x : Int) +
 (↑d.2.2.length : Int)) - (1 : Int)))) (0 : Int)) (invM d.1.1 (d.2.2.getD (Int.toNat (IntKind.wrap IntKind.i64 ((↑d.2.2.length : Int) - (1 : Int)))) (0 : Int)))) (d.2.2.getD (Int.toNat (↑x_1 : Int)) (0 : Int)))) = dvStep
 d.1.1 d.2.2 (dvL d.1.1 (dvR d.1.1 d.2.2) d.2.1 d.2.2 x) (d.2.1.length - d.2.2.length - x) (dvC d.1.1 (dvR d.1.1 d.2.2) d.2.1 d.2.2 x) x' ∧ dvQ d.1.1 (dvR d.1.1 d.2.2) d.2.1 d.2.2 (d.2.1.length - d.2.2.length + (1 :
 Nat)) (x + (1 : Nat)) = dvQ d.1.1 (dvR d.1.1 d.2.2) d.2.1 d.2.2 (d.2.1.length - d.2.2.length + (1 : Nat)) (x + (1 : Nat)))) ∧ (decide ((↑x_1 : Int) < (↑d.2.2.length : Int)) = false → ∃ (x' : Nat), x' ≤ d.2.1.length -
 d.2.2.length + (1 : Nat) ∧ d.2.1.length - d.2.2.length + (1 : Nat) - x' < d.2.1.length - d.2.2.length + (1 : Nat) - x ∧ ((d.1.1 = d.1.1 ∧ d.1.2.1 = d.1.2.1 ∧ d.1.2.2 = d.1.2.2) ∧ d.2.1 = d.2.1 ∧ d.2.2 = d.2.2 ∧
 Value.slice none (0 : Nat) (0 : Nat) = Value.slice none (0 : Nat) (0 : Nat) ∧ Value.slice none (0 : Nat) (0 : Nat) = Value.slice none (0 : Nat) (0 : Nat) ∧ invM d.1.1 (d.2.2.getD (Int.toNat (IntKind.wrap IntKind.i64
 ((↑d.2.2.length : Int) - (1 : Int)))) (0 : Int)) = invM d.1.1 (d.2.2.getD (Int.toNat (IntKind.wrap IntKind.i64 ((↑d.2.2.length : Int) - (1 : Int)))) (0 : Int)) ∧ IntKind.wrap IntKind.i64 ((↑d.2.1.length : Int) -
 (↑d.2.2.length : Int) - (↑x : Int) - (1 : Int)) = (↑d.2.1.length : Int) - (↑d.2.2.length : Int) - (↑x' : Int)) ∧ (d.1.1 = d.1.1 ∧ d.1.2.1 = d.1.2.1 ∧ d.1.2.2 = d.1.2.2) ∧ dvStep d.1.1 d.2.2 (dvL d.1.1 (dvR d.1.1 d.2.2)
 d.2.1 d.2.2 x) (d.2.1.length - d.2.2.length - x) (dvC d.1.1 (dvR d.1.1 d.2.2) d.2.1 d.2.2 x) x_1 = dvL d.1.1 (dvR d.1.1 d.2.2) d.2.1 d.2.2 x' ∧ dvQ d.1.1 (dvR d.1.1 d.2.2) d.2.1 d.2.2 (d.2.1.length - d.2.2.length + (1 :
 Nat)) (x + (1 : Nat)) = dvQ d.1.1 (dvR d.1.1 d.2.2) d.2.1 d.2.2 (d.2.1.length - d.2.2.length + (1 : Nat)) x')))) ∧ (decide ((0 : Int) ≤ (↑d.2.1.length : Int) - (↑d.2.2.length : Int) - (↑x : Int)) = false → ((0 : Int) ≤
 IntKind.wrap IntKind.i64 ((↑d.2.2.length : Int) - (1 : Int)) ∧ IntKind.wrap IntKind.i64 ((↑d.2.2.length : Int) - (1 : Int)) ≤ (↑(List.length (dvL d.1.1 (dvR d.1.1 d.2.2) d.2.1 d.2.2 x)) : Int)) ∧ (dvQ d.1.1 (dvR d.1.1
 d.2.2) d.2.1 d.2.2 (d.2.1.length - d.2.2.length + (1 : Nat)) x, List.take (cutF (List.take (Int.toNat (IntKind.wrap IntKind.i64 ((↑d.2.2.length : Int) - (1 : Int)))) (dvL d.1.1 (dvR d.1.1 d.2.2) d.2.1 d.2.2 x)))
 (List.take (Int.toNat (IntKind.wrap IntKind.i64 ((↑d.2.2.length : Int) - (1 : Int)))) (dvL d.1.1 (dvR d.1.1 d.2.2) d.2.1 d.2.2 x))) = divG d.1.1 d.2.1 d.2.2))) := by
  intro (d : Fd × List Int × List Int) hw hp
  obtain ⟨⟨p, g, t⟩, a, b⟩ := d
  replace hp : DivP p a b := hp
  simp only [Int.toNat_natCast, exists_const, and_true, true_and, implies_true, decide_eq_true_eq, decide_eq_false_iff_not, Bool.not_eq_true', Bool.not_eq_false', beq_iff_eq, forall_const]
  obtain ⟨f, rfl, ha, hb, hb0⟩ := hp
  obtain ⟨hm, hea, hla, _⟩ := poly_ok ha
  obtain ⟨_, heb, hlb, _⟩ := poly_ok hb
  have hq := (mod_is hm).1
  have hw0 : IntKind.i64.wrap ((b.length : Int) - 1) = ((b.length - 1 : Nat) : Int) := by rw [wrap_small (by omega)]; omega
  simp only [hw0, Int.toNat_natCast, dvL_len, dvQ_len, dvStep_len, List.length_replicate]
  refine ⟨by omega, fun h => ?_, fun h => ?_⟩
  · unfold divG
    rw [if_pos (by omega)]; rfl
  have hw1 : IntKind.i64.wrap (IntKind.i64.wrap ((a.length : Int) - (b.length : Int)) + 1) = ((a.length - b.length + 1 : Nat) : Int) := by
    rw [wrap_small (n := (a.length : Int) - (b.length : Int)) (by omega), wrap_small (by omega)]; omega
  rw [hw1, Int.toNat_natCast]
  refine ⟨⟨by omega, by omega, by omega⟩, ⟨by omega, by omega⟩, ⟨hq, el_get hq heb _⟩, fun _ => ⟨by omega, ⟨by rw [wrap_small (by omega)]; omega, rfl, dvQ_zero _ _ _ _ _⟩, fun k hk => ⟨fun h2 => ?_, fun h2 => ?_⟩⟩⟩
  · have hw2 : IntKind.i64.wrap (IntKind.i64.wrap ((a.length : Int) - (b.length : Int) - (k : Int) + (b.length : Int)) - 1) = ((a.length - 1 - k : Nat) : Int) := by
      rw [wrap_small (n := (a.length : Int) - (b.length : Int) - (k : Int) + (b.length : Int)) (by omega), wrap_small (by omega)]; omega
    have hw4 : (a.length : Int) - (b.length : Int) - (k : Int) = ((a.length - b.length - k : Nat) : Int) := by omega
    have hC : mulM (modF f) ((dvL (modF f) (dvR (modF f) b) a b k).getD (a.length - 1 - k) 0) (invM (modF f) (b.getD (b.length - 1) 0)) = dvC (modF f) (dvR (modF f) b) a b k := rfl
    have hel := dvL_el (r := dvR (modF f) b) (b := b) hq hea k
    rw [hw2]
    simp only [Int.toNat_natCast]
    rw [hC]
    have hnx : ((a.length : Int) - (b.length : Int) - ((k + 1 : Nat) : Int)) = IntKind.i64.wrap ((a.length : Int) - (b.length : Int) - (k : Int) - 1) := by rw [wrap_small (by omega)]; omega
    have htn : ((a.length : Int) - (b.length : Int) - (k : Int)).toNat = a.length - b.length - k := by omega
    rw [htn]
    refine ⟨⟨by omega, by omega⟩, ⟨hq, hel _, el_invM hq _⟩, fun _ => ⟨⟨by omega, by omega⟩, fun h5 => ⟨k + 1, by omega, by omega, hnx.symm, dvL_skip hq hea h5, dvQ_set (by omega)⟩, fun h5 => ⟨by omega, ⟨rfl, dvStep_zero _ _ _ _ _, dvQ_set (by omega)⟩, fun y hy => ⟨fun h3 => ?_, fun h3 => ?_⟩⟩⟩⟩
    · have hw3 : IntKind.i64.wrap ((a.length : Int) - (b.length : Int) - (k : Int) + (y : Int)) = ((a.length - b.length - k + y : Nat) : Int) := by rw [wrap_small (by omega)]; omega
      rw [hw3, Int.toNat_natCast]
      refine ⟨⟨by omega, by omega⟩, ⟨by omega, by omega⟩, ⟨hq, el_mulM hq _ _, el_get hq heb _⟩, ⟨hq, dvStep_el hq hel _ _ _ _ _, el_mulM hq _ _⟩, ⟨by omega, by omega⟩, fun _ _ => ⟨y + 1, by omega, by omega, wrap_succ (by omega), ?_⟩⟩
      exact dvStep_set (by rw [dvL_len]; omega)
    · refine ⟨k + 1, by omega, by omega, hnx.symm, ?_, rfl⟩
      rw [show y = b.length by omega]; rfl
  · rw [show k = a.length - b.length + 1 by omega]
    exact ⟨⟨by omega, by omega⟩, div_impl hm ha (top_ne hb (by omega)) (by omega) (by omega)⟩
end Go.SF
