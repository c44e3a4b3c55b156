/- What is owed of the code of points and their weights. No condition. -/
import Derived.Test.YtobmiihdfklmaaaGreatSxC
import Derived.Test.YtobmiihdfklmaaaGreatSxPModB
namespace Go.SF
open Go.SX Go
set_option linter.unusedVariables false
set_option linter.unusedSimpArgs false
set_option maxRecDepth 10000
theorem el_at {p : Int} {xs : List Int} (h : elemsF p xs = true) {i : Nat} (hi : i < xs.length) : El p (xs.getD i 0) := by
  unfold elemsF at h
  rw [decide_eq_true_eq] at h
  have h1 := h (xs.getD i 0) (by rw [List.getD_eq_getElem?_getD, List.getElem?_eq_getElem hi]; exact List.getElem_mem hi)
  unfold El
  omega
theorem pt_ok {f : Int} {xs : List Int} (h : pointsF f xs = true) : modF f ≠ 0 ∧ 1 ≤ xs.length ∧ xs.length ≤ 40 ∧ elemsF (modF f) xs = true ∧ xs.Nodup := by
  unfold pointsF specElemsF at h
  simp only [Bool.and_eq_true, decide_eq_true_eq] at h
  exact ⟨h.1.2.1, h.1.1.1, h.1.1.2, h.1.2.2, h.2⟩
theorem pt_of {f : Int} {xs : List Int} (h1 : modF f ≠ 0) (h2 : 1 ≤ xs.length) (h3 : xs.length ≤ 40) (h4 : elemsF (modF f) xs = true) (h5 : xs.Nodup) : pointsF f xs = true := by
  unfold pointsF specElemsF
  simp only [Bool.and_eq_true, decide_eq_true_eq]
  exact ⟨⟨⟨h2, h3⟩, h1, h4⟩, h5⟩
theorem nodup_succ {xs : List Int} {x : Nat} (hx : x < xs.length) : (xs.take (x + 1)).Nodup ↔ (xs.take x).Nodup ∧ xs.getD x 0 ∉ xs.take x := by
  rw [← tk_succ (z := (0 : Int)) hx, List.nodup_append]
  constructor
  · rintro ⟨h1, _, h2⟩
    exact ⟨h1, fun hm => h2 _ hm _ (List.mem_singleton.2 rfl) rfl⟩
  · rintro ⟨h1, h2⟩
    refine ⟨h1, List.nodup_cons.2 ⟨by simp, List.nodup_nil⟩, fun a ha b hb e => ?_⟩
    rw [List.mem_singleton.1 hb] at e
    subst e
    exact h2 ha
theorem nodup_take {xs : List Int} (h : xs.Nodup) (n : Nat) : (xs.take n).Nodup := h.sublist (List.take_sublist n xs)
theorem mem_succ {xs : List Int} {x : Nat} {y : Int} (hx : x < xs.length) (h : y ∉ xs.take x) (hy : ¬ xs.getD x 0 = y) : y ∉ xs.take (x + 1) := by
  rw [← tk_succ (z := (0 : Int)) hx]
  intro hm
  rcases List.mem_append.1 hm with hm | hm
  · exact h hm
  · exact hy (List.mem_singleton.1 hm).symm
theorem getD_take {xs : List Int} {x y : Nat} (h : y < x) : (xs.take x).getD y 0 = xs.getD y 0 := by
  rw [List.getD_eq_getElem?_getD, List.getD_eq_getElem?_getD, List.getElem?_take, if_pos h]
theorem mem_getD {xs : List Int} {x : Nat} (h : x < xs.length) : xs.getD x 0 ∈ xs := by
  rw [List.getD_eq_getElem?_getD, List.getElem?_eq_getElem h]; exact List.getElem_mem h
theorem nodup_ne {xs : List Int} (h : xs.Nodup) {i j : Nat} (hi : i < xs.length) (hj : j < xs.length) (hij : i ≠ j) : xs.getD i 0 ≠ xs.getD j 0 := by
  rw [List.getD_eq_getElem?_getD, List.getD_eq_getElem?_getD, List.getElem?_eq_getElem hi, List.getElem?_eq_getElem hj]
  exact fun e => hij ((List.getElem_inj h).1 e)
theorem el_by {p : Int} (hp : IsMod p) (xs : List Int) (i : Nat) : ∀ n, El p (byF p xs i n)
  | 0 => el_one hp
  | n + 1 => by
    unfold byF
    split
    · exact el_by hp xs i n
    · exact el_mulM hp _ _
theorem by_ne {p : Int} (hp : IsPr p) {xs : List Int} (he : elemsF p xs = true) (hn : xs.Nodup) {i : Nat} (hi : i < xs.length) : ∀ n, n ≤ xs.length → byF p xs i n % p ≠ 0
  | 0, _ => by
    rw [show byF p xs i 0 = 1 from rfl, el_self (el_one hp.mod)]; decide
  | n + 1, h => by
    unfold byF
    split
    · exact by_ne hp he hn hi n (by omega)
    · rename_i hne
      unfold mulM subM
      rw [mod_mod]
      refine mul_ne hp (by_ne hp he hn hi n (by omega)) ?_
      rw [mod_mod]
      exact el_ne (el_at he hi) (el_at he (by omega)) (nodup_ne hn hi (by omega) (Ne.symm hne))
theorem pt_row {f : Int} {xs : List Int} (h : pointsF f xs = true) : ptF f xs = ((fieldF f).1, true) := by unfold ptF; rw [if_pos h]
theorem pt_no {f : Int} {xs : List Int} (h : pointsF f xs = false) : ptF f xs = ((0, 0, 0), false) := by unfold ptF; rw [h]; rfl
theorem pt_snd {f : Int} {xs : List Int} : (ptF f xs).2 = pointsF f xs := by
  cases h : pointsF f xs
  · rw [pt_no h]
  · rw [pt_row h]
theorem pt_mod {f : Int} {xs : List Int} (h : pointsF f xs = true) : (ptF f xs).1.1 = modF f := by rw [pt_row h]; rfl
theorem v_S_l01Has :
 ∀ (d : List Int × Int), Ty.wf listT d.1 ∧ Ty.wf i64T d.2 → True → ((0 : Nat) ≤ d.1.length ∧ ¬d.2 ∈ List.take (0 : Nat) d.1) ∧ (d.1 = d.1 ∧ d.2 = d.2 ∧ (0 : Int) = (↑(0 : Nat) : Int)) ∧ ∀ (x : Nat), x ≤ d.1.length ∧ ¬d.2
 ∈ List.take x d.1 → (decide ((↑x : Int) < (↑d.1.length : Int)) = true → ((0 : Int) ≤ (↑x : Int) ∧ (↑x : Int) < (↑d.1.length : Int)) ∧ (decide (d.1.getD (Int.toNat (↑x : Int)) (0 : Int) = d.2) = true → true = hasF d.1
 d.2) ∧ (decide (d.1.getD (Int.toNat (↑x : Int)) (0 : Int) = d.2) = false → ∃ (x' : Nat), (x' ≤ d.1.length ∧ ¬d.2 ∈ List.take x' d.1) ∧ d.1.length - x' < d.1.length - x ∧ d.1 = d.1 ∧ d.2 = d.2 ∧ IntKind.wrap IntKind.i64
 ((↑x : Int) + (1 : Int)) = (↑x' : Int))) ∧ (decide ((↑x : Int) < (↑d.1.length : Int)) = false → false = hasF d.1 d.2) := by
  intro (d : List Int × Int) hw _
  obtain ⟨l, y⟩ := d
  have hl : l.length ≤ 9223372036854775807 := hw.1.1
  simp only [Int.toNat_natCast, exists_const, and_true, true_and, implies_true, decide_eq_true_eq, decide_eq_false_iff_not, Bool.not_eq_true', Bool.not_eq_false', beq_iff_eq, forall_const]
  refine ⟨⟨by omega, by simp⟩, rfl, fun x hx => ⟨fun h => ⟨⟨by omega, by omega⟩, fun h1 => ?_, fun h1 => ?_⟩, fun h => ?_⟩⟩
  · unfold hasF
    refine (decide_eq_true ?_).symm
    rw [← h1]; exact mem_getD (by omega)
  · exact ⟨x + 1, ⟨by omega, mem_succ (by omega) hx.2 h1⟩, by omega, wrap_succ (by omega)⟩
  · unfold hasF
    refine (decide_eq_false ?_).symm
    have := hx.2
    rwa [List.take_of_length_le (by omega)] at this
theorem v_S_PointsOk :
 ∀ (d : Int × List Int), Ty.wf i64T d.1 ∧ Ty.wf listT d.2 → True → True ∧ ((!(decide ((1 : Int) ≤ (↑d.2.length : Int)) && decide ((↑d.2.length : Int) ≤ (40 : Int)))) = true → false = pointsF d.1 d.2) ∧ ((!(decide ((1 :
 Int) ≤ (↑d.2.length : Int)) && decide ((↑d.2.length : Int) ≤ (40 : Int)))) = false → True ∧ ((!specElemsF d.1 d.2) = true → false = pointsF d.1 d.2) ∧ ((!specElemsF d.1 d.2) = false → ((0 : Nat) ≤ d.2.length ∧
 List.Nodup (List.take (0 : Nat) d.2)) ∧ (d.1 = d.1 ∧ d.2 = d.2 ∧ (0 : Int) = (↑(0 : Nat) : Int)) ∧ ∀ (x : Nat), x ≤ d.2.length ∧ List.Nodup (List.take x d.2) → (decide ((↑x : Int) < (↑d.2.length : Int)) = true → ((0 :
 Int) ≤ (0 : Int) ∧ (0 : Int) ≤ (↑x : Int) ∧ (↑x : Int) ≤ (↑d.2.length : Int)) ∧ ((0 : Int) ≤ (↑x : Int) ∧ (↑x : Int) < (↑d.2.length : Int)) ∧ True ∧ (hasF (List.drop (Int.toNat (0 : Int)) (List.take (Int.toNat (↑x :
 Int)) d.2)) (d.2.getD (Int.toNat (↑x : Int)) (0 : Int)) = true → false = pointsF d.1 d.2) ∧ (hasF (List.drop (Int.toNat (0 : Int)) (List.take (Int.toNat (↑x : Int)) d.2)) (d.2.getD (Int.toNat (↑x : Int)) (0 : Int)) =
 false → ∃ (x' : Nat), (x' ≤ d.2.length ∧ List.Nodup (List.take x' d.2)) ∧ d.2.length - x' < d.2.length - x ∧ d.1 = d.1 ∧ d.2 = d.2 ∧ IntKind.wrap IntKind.i64 ((↑x : Int) + (1 : Int)) = (↑x' : Int))) ∧ (decide ((↑x :
 Int) < (↑d.2.length : Int)) = false → true = pointsF d.1 d.2))) := by
  intro (d : Int × List Int) hw _
  obtain ⟨f, xs⟩ := d
  have hl : xs.length ≤ 9223372036854775807 := hw.2.1
  simp only [Int.toNat_natCast, exists_const, and_true, true_and, implies_true, decide_eq_true_eq, decide_eq_false_iff_not, Bool.not_eq_true', Bool.not_eq_false', beq_iff_eq, forall_const]
  refine ⟨fun h => ?_, fun h => ⟨fun h1 => ?_, fun h1 => ⟨⟨by omega, by simp⟩, rfl, fun x hx => ⟨fun h2 => ⟨⟨by omega, by omega, by omega⟩, ⟨by omega, by omega⟩, fun h3 => ?_, fun h3 => ?_⟩, fun h2 => ?_⟩⟩⟩⟩
  · cases hp : pointsF f xs with
    | false => rfl
    | true =>
      have := pt_ok hp
      rw [decide_eq_true (show (1 : Int) ≤ xs.length by omega), decide_eq_true (show (xs.length : Int) ≤ 40 by omega)] at h
      cases h
  · unfold pointsF
    rw [h1, Bool.and_false]; rfl
  · simp only [Int.toNat_zero, List.drop_zero] at h3
    cases hp : pointsF f xs with
    | false => rfl
    | true =>
      have h4 := nodup_take (pt_ok hp).2.2.2.2 (x + 1)
      rw [nodup_succ (by omega)] at h4
      exact absurd (of_decide_eq_true h3) h4.2
  · simp only [Int.toNat_zero, List.drop_zero] at h3
    exact ⟨x + 1, ⟨by omega, (nodup_succ (by omega)).2 ⟨hx.2, of_decide_eq_false h3⟩⟩, by omega, wrap_succ (by omega)⟩
  · have h3 := hx.2
    rw [List.take_of_length_le (by omega)] at h3
    simp only [Bool.and_eq_true, decide_eq_true_eq] at h
    unfold specElemsF at h1
    rw [Bool.and_eq_true, decide_eq_true_eq] at h1
    exact (pt_of h1.1 (by omega) (by omega) h1.2 h3).symm
theorem v_I_pointField :
 ∀ (d : Int × List Int), Ty.wf i64T d.1 ∧ Ty.wf listT d.2 → True → True ∧ (Ty.wf fldT (Prod.fst (fieldF d.1)) ∧ Ty.wf Ty.bool (Prod.snd (fieldF d.1)) → ((!Prod.snd (fieldF d.1)) = true → (((0 : Int), (0 : Int), (0 :
 Int)), false) = ptF d.1 d.2) ∧ ((!Prod.snd (fieldF d.1)) = false → (decide ((↑d.2.length : Int) < (1 : Int)) = true → (((0 : Int), (0 : Int), (0 : Int)), false) = ptF d.1 d.2) ∧ (decide ((↑d.2.length : Int) < (1 : Int))
 = false → (decide ((40 : Int) < (↑d.2.length : Int)) = true → (((0 : Int), (0 : Int), (0 : Int)), false) = ptF d.1 d.2) ∧ (decide ((40 : Int) < (↑d.2.length : Int)) = false → True ∧ ((!elemsF (Prod.fst (Prod.fst (fieldF
 d.1))) d.2) = true → (((0 : Int), (0 : Int), (0 : Int)), false) = ptF d.1 d.2) ∧ ((!elemsF (Prod.fst (Prod.fst (fieldF d.1))) d.2) = false → ((0 : Nat) ≤ d.2.length ∧ List.Nodup (List.take (0 : Nat) d.2)) ∧ ((d.1 = d.1
 ∧ d.2 = d.2 ∧ Prod.snd (fieldF d.1) = Prod.snd (fieldF d.1) ∧ d.2 = d.2 ∧ (↑d.2.length : Int) = (↑d.2.length : Int) ∧ (0 : Int) = (↑(0 : Nat) : Int)) ∧ ((0 : Int) = (0 : Int) ∧ (0 : Int) = (0 : Int) ∧ (0 : Int) = (0 :
 Int)) ∧ Prod.fst (Prod.fst (fieldF d.1)) = Prod.fst (Prod.fst (fieldF d.1)) ∧ Prod.fst (Prod.snd (Prod.fst (fieldF d.1))) = Prod.fst (Prod.snd (Prod.fst (fieldF d.1))) ∧ Prod.snd (Prod.snd (Prod.fst (fieldF d.1))) =
 Prod.snd (Prod.snd (Prod.fst (fieldF d.1)))) ∧ ∀ (x : Nat), x ≤ d.2.length ∧ List.Nodup (List.take x d.2) → (decide ((↑x : Int) < (↑d.2.length : Int)) = true → ((0 : Int) ≤ (↑x : Int) ∧ (↑x : Int) < (↑d.2.length : Int))
 ∧ ((0 : Int) ≤ (0 : Int) ∧ (0 : Int) ≤ (↑x : Int) ∧ (↑x : Int) ≤ (↑d.2.length : Int)) ∧ ((0 : Nat) ≤ x ∧ ¬d.2.getD x (0 : Int) ∈ List.take (0 : Nat) d.2) ∧ ((d.1 = d.1 ∧ d.2 = d.2 ∧ Prod.snd (fieldF d.1) = Prod.snd
 (fieldF d.1) ∧ (↑x : Int) = (↑x : Int) ∧ d.2.getD (Int.toNat (↑x : Int)) (0 : Int) = d.2.getD (Int.toNat (↑x : Int)) (0 : Int) ∧ d.2 = d.2 ∧ (↑d.2.length : Int) = (↑d.2.length : Int) ∧ (↑x : Int) = (↑x : Int) ∧
 List.drop (Int.toNat (0 : Int)) (List.take (Int.toNat (↑x : Int)) d.2) = List.drop (Int.toNat (0 : Int)) (List.take (Int.toNat (↑x : Int)) d.2) ∧ (↑(List.length (List.drop (Int.toNat (0 : Int)) (List.take (Int.toNat (↑x
 : Int)) d.2))) : Int) = (↑(List.length (List.drop (Int.toNat (0 : Int)) (List.take (Int.toNat (↑x : Int)) d.2))) : Int) ∧ (0 : Int) = (↑(0 : Nat) : Int)) ∧ ((0 : Int) = (0 : Int) ∧ (0 : Int) = (0 : Int) ∧ (0 : Int) = (0
 : Int)) ∧ Prod.fst (Prod.fst (fieldF d.1)) = Prod.fst (Prod.fst (fieldF d.1)) ∧ Prod.fst (Prod.snd (Prod.fst (fieldF d.1))) = Prod.fst (Prod.snd (Prod.fst (fieldF d.1))) ∧ Prod.snd (Prod.snd (Prod.fst (fieldF d.1))) =
 Prod.snd (Prod.snd (Prod.fst (fieldF d.1)))) ∧ ∀ (x_1 : Nat), x_1 ≤ x ∧ ¬d.2.getD x (0 : Int) ∈ List.take x_1 d.2 → (decide ((↑x_1 : Int) < (↑(List.length (List.drop (Int.toNat (0 : Int)) (List.take (Int.toNat (↑x :
 Int)) d.2))) : Int)) = true → ((0 : Int) ≤ (↑x_1 : Int) ∧ (↑x_1 : Int) < (↑(List.length (List.drop (Int.toNat (0 : Int)) (List.take (Int.toNat (↑x : Int)) d.2))) : Int)) ∧ (decide (d.2.getD (Int.toNat (↑x : Int)) (0 :
 Int) = List.getD (List.drop (Int.toNat (0 : Int)) (List.take (Int.toNat (↑x : Int)) d.2)) (Int.toNat (↑x_1 : Int)) (0 : Int)) = true → (((0 : Int), (0 : Int), (0 : Int)), false) = ptF d.1 d.2) ∧ (decide (d.2.getD
 (Int.toNat (↑x : Int)) (0 : Int) = List.getD (List.drop (Int.toNat (0 : Int)) (List.take (Int.toNat (↑x : Int)) d.2)) (Int.toNat (↑x_1 : Int)) (0 : Int)) = false → ∃ (x' : Nat), (x' ≤ x ∧ ¬d.2.getD x (0 : Int) ∈
 List.take x' d.2) ∧ x - x' < x - x_1 ∧ (d.1 = d.1 ∧ d.2 = d.2 ∧ Prod.snd (fieldF d.1) = Prod.snd (fieldF d.1) ∧ (↑x : Int) = (↑x : Int) ∧ d.2.getD (Int.toNat (↑x : Int)) (0 : Int) = d.2.getD (Int.toNat (↑x : Int)) (0 :
 Int) ∧ d.2 = d.2 ∧ (↑d.2.length : Int) = (↑d.2.length : Int) ∧ (↑x : Int) = (↑x : Int) ∧ List.drop (Int.toNat (0 : Int)) (List.take (Int.toNat (↑x : Int)) d.2) = List.drop (Int.toNat (0 : Int)) (List.take (Int.toNat (↑x
 : Int)) d.2) ∧ (↑(List.length (List.drop (Int.toNat (0 : Int)) (List.take (Int.toNat (↑x : Int)) d.2))) : Int) = (↑(List.length (List.drop (Int.toNat (0 : Int)) (List.take (Int.toNat (↑x : Int)) d.2))) : Int) ∧
 IntKind.wrap IntKind.i64 ((↑x_1 : Int) + (1 : Int)) = (↑x' : Int)) ∧ ((0 : Int) = (0 : Int) ∧ (0 : Int) = (0 : Int) ∧ (0 : Int) = (0 : Int)) ∧ Prod.fst (Prod.fst (fieldF d.1)) = Prod.fst (Prod.fst (fieldF d.1)) ∧
 Prod.fst (Prod.snd (Prod.fst (fieldF d.1))) = Prod.fst (Prod.snd (Prod.fst (fieldF d.1))) ∧ Prod.snd (Prod.snd (Prod.fst (fieldF d.1))) = Prod.snd (Prod.snd (Prod.fst (fieldF d.1))))) ∧ (decide ((↑x_1 : Int) <
 (↑(List.length (List.drop (Int.toNat (0 : Int)) (List.take (Int.toNat (↑x : Int)) d.2))) : Int)) = false → ∃ (x' : Nat), (x' ≤ d.2.length ∧ List.Nodup (List.take x' d.2)) ∧ d.2.length - x' < d.2.length - x ∧ (d.1 = d.1
 ∧ d.2 = d.2 ∧ Prod.snd (fieldF d.1) = Prod.snd (fieldF d.1) ∧ d.2 = d.2 ∧ (↑d.2.length : Int) = (↑d.2.length : Int) ∧ IntKind.wrap IntKind.i64 ((↑x : Int) + (1 : Int)) = (↑x' : Int)) ∧ ((0 : Int) = (0 : Int) ∧ (0 : Int)
 = (0 : Int) ∧ (0 : Int) = (0 : Int)) ∧ Prod.fst (Prod.fst (fieldF d.1)) = Prod.fst (Prod.fst (fieldF d.1)) ∧ Prod.fst (Prod.snd (Prod.fst (fieldF d.1))) = Prod.fst (Prod.snd (Prod.fst (fieldF d.1))) ∧ Prod.snd (Prod.snd
 (Prod.fst (fieldF d.1))) = Prod.snd (Prod.snd (Prod.fst (fieldF d.1))))) ∧ (decide ((↑x : Int) < (↑d.2.length : Int)) = false → ((Prod.fst (Prod.fst (fieldF d.1)), Prod.fst (Prod.snd (Prod.fst (fieldF d.1))), Prod.snd
 (Prod.snd (Prod.fst (fieldF d.1)))), true) = ptF d.1 d.2)))))) := by
  intro (d : Int × List Int) hw _
  obtain ⟨f, xs⟩ := d
  have hl : xs.length ≤ 9223372036854775807 := hw.2.1
  simp only [Int.toNat_natCast, exists_const, and_true, true_and, implies_true, decide_eq_true_eq, decide_eq_false_iff_not, Bool.not_eq_true', Bool.not_eq_false', beq_iff_eq, forall_const]
  intro _
  have hno : ∀ {P : Prop}, (pointsF f xs = true → False) → ((0, 0, 0), false) = ptF f xs := fun h => by
    cases hp : pointsF f xs with
    | false => rw [pt_no hp]
    | true => exact (h hp).elim
  have hf : ∀ {b}, (fieldF f).2 = b → b = true → modF f ≠ 0 := fun h e => by
    subst e
    have := mod_pos (field_ok.1 h)
    omega
  refine ⟨fun h => hno (P := True) (fun hp => ?_), fun h => ⟨fun h1 => hno (P := True) (fun hp => ?_), fun h1 => ⟨fun h2 => hno (P := True) (fun hp => ?_), fun h2 => ⟨fun h3 => hno (P := True) (fun hp => ?_), fun h3 => ?_⟩⟩⟩⟩
  · have := pt_ok hp
    have h4 : ¬ (0 ≤ f ∧ f < 9) := fun hh => by rw [field_ok.2 hh] at h; cases h
    exact this.1 (mod_none h4)
  · have := pt_ok hp; omega
  · have := pt_ok hp; omega
  · have := (pt_ok hp).2.2.2.1
    rw [show modF f = (fieldF f).1.1 from rfl, h3] at this; cases this
  · refine ⟨⟨by omega, by simp⟩, rfl, fun x hx => ⟨fun h4 => ⟨⟨by omega, by omega⟩, ⟨by omega, by omega, by omega⟩, ⟨by omega, by simp⟩, rfl, fun y hy => ?_⟩, fun h4 => ?_⟩⟩
    · simp only [Int.toNat_zero, List.drop_zero, List.length_take]
      rw [Nat.min_eq_left (by omega)]
      refine ⟨fun h5 => ⟨⟨by omega, by omega⟩, ?_⟩, fun h5 => ?_⟩
      · rw [getD_take (by omega)]
        refine ⟨fun h6 => hno (P := True) (fun hp => ?_), fun h6 => ?_⟩
        · exact nodup_ne (pt_ok hp).2.2.2.2 (i := x) (j := y) (by omega) (by omega) (by omega) h6
        · exact ⟨y + 1, ⟨by omega, mem_succ (by omega) hy.2 (Ne.symm h6)⟩, by omega, wrap_succ (by omega)⟩
      · obtain rfl : y = x := by omega
        exact ⟨y + 1, ⟨by omega, (nodup_succ (by omega)).2 ⟨hx.2, hy.2⟩⟩, by omega, wrap_succ (by omega)⟩
    · have h5 := hx.2
      rw [List.take_of_length_le (by omega)] at h5
      rw [pt_row (pt_of (hf h rfl) (by omega) (by omega) h3 h5)]
theorem v_I_weight :
 ∀ (d : (Int × Int × Int) × List Int × Int), Ty.wf fldT d.1 ∧ Ty.wf listT d.2.1 ∧ Ty.wf i64T d.2.2 → IsMod d.1.1 ∧ elemsF d.1.1 d.2.1 = true ∧ (0 : Tup [i64T]) ≤ d.2.2 ∧ d.2.2 < (↑d.2.1.length : Tup [i64T]) → (0 : Nat) ≤
 d.2.1.length ∧ (((d.1.1 = d.1.1 ∧ d.1.2.1 = d.1.2.1 ∧ d.1.2.2 = d.1.2.2) ∧ d.2.1 = d.2.1 ∧ d.2.2 = d.2.2 ∧ (0 : Int) = (0 : Int) ∧ (1 : Int) = byF d.1.1 d.2.1 d.2.2.toNat (0 : Nat) ∧ d.2.1 = d.2.1 ∧ (↑d.2.1.length :
 Int) = (↑d.2.1.length : Int) ∧ (0 : Int) = (↑(0 : Nat) : Int)) ∧ d.1.1 = d.1.1 ∧ d.1.2.1 = d.1.2.1 ∧ d.1.2.2 = d.1.2.2) ∧ ∀ (x : Nat), x ≤ d.2.1.length → (decide ((↑x : Int) < (↑d.2.1.length : Int)) = true → ((0 : Int)
 ≤ (↑x : Int) ∧ (↑x : Int) < (↑d.2.1.length : Int)) ∧ ((!decide ((↑x : Int) = d.2.2)) = true → ((0 : Int) ≤ d.2.2 ∧ d.2.2 < (↑d.2.1.length : Int)) ∧ (IsMod d.1.1 ∧ El d.1.1 (d.2.1.getD d.2.2.toNat (0 : Int)) ∧ El d.1.1
 (d.2.1.getD (Int.toNat (↑x : Int)) (0 : Int))) ∧ (IsMod d.1.1 ∧ El d.1.1 (byF d.1.1 d.2.1 d.2.2.toNat x) ∧ El d.1.1 (subM d.1.1 (d.2.1.getD d.2.2.toNat (0 : Int)) (d.2.1.getD (Int.toNat (↑x : Int)) (0 : Int)))) ∧ (Ty.wf
 i64T (mulM d.1.1 (byF d.1.1 d.2.1 d.2.2.toNat x) (subM d.1.1 (d.2.1.getD d.2.2.toNat (0 : Int)) (d.2.1.getD (Int.toNat (↑x : Int)) (0 : Int)))) → Ty.wf i64T (subM d.1.1 (d.2.1.getD d.2.2.toNat (0 : Int)) (d.2.1.getD
 (Int.toNat (↑x : Int)) (0 : Int))) → ∃ (x' : Nat), x' ≤ d.2.1.length ∧ d.2.1.length - x' < d.2.1.length - x ∧ ((d.1.1 = d.1.1 ∧ d.1.2.1 = d.1.2.1 ∧ d.1.2.2 = d.1.2.2) ∧ d.2.1 = d.2.1 ∧ d.2.2 = d.2.2 ∧ (0 : Int) = (0 :
 Int) ∧ mulM d.1.1 (byF d.1.1 d.2.1 d.2.2.toNat x) (subM d.1.1 (d.2.1.getD d.2.2.toNat (0 : Int)) (d.2.1.getD (Int.toNat (↑x : Int)) (0 : Int))) = byF d.1.1 d.2.1 d.2.2.toNat x' ∧ d.2.1 = d.2.1 ∧ (↑d.2.1.length : Int) =
 (↑d.2.1.length : Int) ∧ IntKind.wrap IntKind.i64 ((↑x : Int) + (1 : Int)) = (↑x' : Int)) ∧ d.1.1 = d.1.1 ∧ d.1.2.1 = d.1.2.1 ∧ d.1.2.2 = d.1.2.2)) ∧ ((!decide ((↑x : Int) = d.2.2)) = false → ∃ (x' : Nat), x' ≤
 d.2.1.length ∧ d.2.1.length - x' < d.2.1.length - x ∧ ((d.1.1 = d.1.1 ∧ d.1.2.1 = d.1.2.1 ∧ d.1.2.2 = d.1.2.2) ∧ d.2.1 = d.2.1 ∧ d.2.2 = d.2.2 ∧ (0 : Int) = (0 : Int) ∧ byF d.1.1 d.2.1 d.2.2.toNat x = byF d.1.1 d.2.1
 d.2.2.toNat x' ∧ d.2.1 = d.2.1 ∧ (↑d.2.1.length : Int) = (↑d.2.1.length : Int) ∧ IntKind.wrap IntKind.i64 ((↑x : Int) + (1 : Int)) = (↑x' : Int)) ∧ d.1.1 = d.1.1 ∧ d.1.2.1 = d.1.2.1 ∧ d.1.2.2 = d.1.2.2)) ∧ (decide ((↑x
 : Int) < (↑d.2.1.length : Int)) = false → (IsMod d.1.1 ∧ El d.1.1 (byF d.1.1 d.2.1 d.2.2.toNat x)) ∧ (Ty.wf i64T (invM d.1.1 (byF d.1.1 d.2.1 d.2.2.toNat x)) → invM d.1.1 (byF d.1.1 d.2.1 d.2.2.toNat x) = wtF d.1.1
 d.2.1 d.2.2.toNat)) := by
  intro (d : Fd × List Int × Int) hw hp
  obtain ⟨⟨p, g, t⟩, xs, i⟩ := d
  have hl : xs.length ≤ 9223372036854775807 := hw.2.1.1
  replace hp : IsMod p ∧ elemsF p xs = true ∧ (0 : Int) ≤ i ∧ i < (xs.length : Nat) := hp
  simp only [Int.toNat_natCast, exists_const, and_true, true_and, implies_true, decide_eq_true_eq, decide_eq_false_iff_not, Bool.not_eq_true', Bool.not_eq_false', beq_iff_eq, forall_const]
  obtain ⟨h0, h1, h2, h3⟩ := hp
  obtain ⟨n, rfl⟩ := Int.eq_ofNat_of_zero_le h2
  simp only [Int.toNat_natCast]
  refine ⟨by omega, ⟨rfl, rfl⟩, fun x hx => ⟨fun h4 => ⟨⟨by omega, by omega⟩, fun h5 => ⟨⟨by omega, by omega⟩, ⟨h0, el_at h1 (by omega), el_at h1 (by omega)⟩, ⟨h0, el_by h0 _ _ _, el_subM h0 _ _⟩, fun _ _ => ?_⟩, fun h5 => ?_⟩, fun h4 => ?_⟩⟩
  · refine ⟨x + 1, by omega, by omega, ?_, wrap_succ (by omega)⟩
    show _ = if x = n then _ else _
    rw [if_neg (by omega)]
  · refine ⟨x + 1, by omega, by omega, ?_, wrap_succ (by omega)⟩
    show _ = if x = n then _ else _
    rw [if_pos (by omega)]
  · obtain rfl : x = xs.length := by omega
    exact ⟨⟨h0, el_by h0 _ _ _⟩, fun _ => rfl⟩
end Go.SF
