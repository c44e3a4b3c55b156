/- Transforms, from the code: products. No condition. -/
import Derived.Test.YtobmiihdfklmaaaGreatSxPTrfB
import Derived.Test.YtobmiihdfklmaaaGreatSxPAdv
namespace Go.SF
open Go.SX Go
set_option linter.unusedVariables false
set_option linter.unusedSimpArgs false
theorem pwL_vec {f : Int} {a b c : List Int} (h : vectorOkF f a = true) (hl : b.length = a.length) : vectorOkF f (pwL (modF f) b c) = true := by
  obtain ⟨hm, _, _⟩ := vecL_ok h
  refine vecL_of h (by unfold pwL; rw [rgm_len]; exact hl) ?_
  unfold elemsF pwL
  refine decide_eq_true fun x hx => ?_
  obtain ⟨t, ht, rfl⟩ := List.mem_map.1 hx
  have := el_mulM (mod_is hm).1 (b.getD t 0) (c.getD t 0)
  exact ⟨this.1, Int.le_sub_one_of_lt this.2⟩
theorem dftL_elems {f : Int} (hm : modF f ≠ 0) (v : List Int) (w : Int) (n : Nat) : elemsF (modF f) (dftL (modF f) v w n) = true := by
  have hp := (mod_is hm).1
  unfold IsMod at hp
  unfold elemsF dftL
  refine decide_eq_true fun x hx => ?_
  obtain ⟨t, ht, rfl⟩ := List.mem_map.1 hx
  have := el_mod (p := modF f) (by omega) (sigN (dftT v w t) v.length)
  exact ⟨this.1, Int.le_sub_one_of_lt this.2⟩
theorem twRow_len (p : Int) (a b : List Int) (x y : Nat) : (twRow p a b x y).length = a.length := rgm_len _ _
theorem twRow_get (p : Int) (a b : List Int) (x y : Nat) {t : Nat} (h : t < a.length) : (twRow p a b x y).getD t 0 = if (t + a.length - x) % a.length < y then twA p a b t (x + 1) else twA p a b t x := by
  simp [twRow, List.getD_eq_getElem?_getD, h]
theorem twRow_set {p : Int} {a b : List Int} {x y t : Nat} (hab : a.length = b.length) (hx : x < a.length) (hy : y < a.length) (ht : t < a.length) (hi : if x + y < a.length then t = x + y else t = x + y - a.length) :
    (twRow p a b x y).set t (if x + y < a.length then addM p ((twRow p a b x y).getD t 0) (mulM p (a.getD x 0) (b.getD y 0)) else subM p ((twRow p a b x y).getD t 0) (mulM p (a.getD x 0) (b.getD y 0))) = twRow p a b x (y + 1) := by
  have hidx := (tw_idx hx hy ht).2 hi
  refine List.ext_getElem (by rw [List.length_set, twRow_len, twRow_len]) fun s h1 h2 => ?_
  rw [twRow_len] at h2
  rw [List.getElem_set]
  by_cases hs : t = s
  · rw [if_pos hs]
    subst hs
    rw [twRow_get _ _ _ _ _ ht, hidx, if_neg (Nat.lt_irrefl y)]
    simp only [twRow, List.getElem_map, List.getElem_range]
    rw [hidx, if_pos (Nat.lt_succ_self y), twA]
    by_cases hc : x + y < a.length
    · rw [if_pos hc] at hi
      rw [if_pos hc, if_pos (by omega), show t - x = y by omega]
    · rw [if_neg hc] at hi
      rw [if_neg hc, if_neg (by omega), show t + a.length - x = y by omega]
  · rw [if_neg hs]
    simp only [twRow, List.getElem_map, List.getElem_range]
    have hne : (s + a.length - x) % a.length ≠ y := by
      intro e
      have := (tw_idx hx hy h2).1 e
      apply hs
      by_cases hc : x + y < a.length
      · rw [if_pos hc] at this hi; omega
      · rw [if_neg hc] at this hi; omega
    by_cases hc : (s + a.length - x) % a.length < y
    · rw [if_pos hc, if_pos (by omega)]
    · rw [if_neg hc, if_neg (by omega)]
theorem rz_step {d : Fd} {v : List Int} {l B : Nat} : ((rgZ d v l B).set (idxB (2 ^ l) B) (stgAt d v l (idxB (2 ^ l) B))).set (idxB (2 ^ l) B + 2 ^ l) (stgAt d v l (idxB (2 ^ l) B + 2 ^ l)) = rgZ d v l (B + 1) := by
  unfold rgZ
  rw [mr_set, mr_set]
  refine mr_congr (fun t _ => ?_)
  by_cases h1 : t = idxB (2 ^ l) B + 2 ^ l
  · have hb : bOf l t = B := by rw [h1]; exact bOf_idx' l B
    rw [if_pos h1, if_pos (by omega), h1]
  · rw [if_neg h1]
    by_cases h2 : t = idxB (2 ^ l) B
    · have hb : bOf l t = B := by rw [h2]; exact bOf_idx l B
      rw [if_pos h2, if_pos (by omega), h2]
    · rw [if_neg h2]
      have hb : bOf l t ≠ B := by
        intro e
        have := bOf_inv l t
        rw [e] at this
        split at this
        · exact h2 this
        · exact h1 this
      by_cases h3 : bOf l t < B
      · rw [if_pos h3, if_pos (by omega)]
      · rw [if_neg h3, if_neg (by omega)]
theorem v_I_Cyclic :
 ∀ (d : Int × List Int × List Int), Ty.wf i64T d.1 ∧ Ty.wf listT d.2.1 ∧ Ty.wf listT d.2.2 → True → List.length [d.2.1, d.2.2] = (2 : Nat) ∧ (Ty.wf fldT (Prod.fst (vecsF d.1 [d.2.1, d.2.2])) ∧ Ty.wf Ty.bool (Prod.snd
 (vecsF d.1 [d.2.1, d.2.2])) → ((!Prod.snd (vecsF d.1 [d.2.1, d.2.2])) = true → [] = cycF d.1 d.2.1 d.2.2) ∧ ((!Prod.snd (vecsF d.1 [d.2.1, d.2.2])) = false → VecD (Prod.fst (vecsF d.1 [d.2.1, d.2.2])) d.2.1 ∧ VecD
 (Prod.fst (vecsF d.1 [d.2.1, d.2.2])) d.2.2 ∧ (IsMod (Prod.fst (Prod.fst (vecsF d.1 [d.2.1, d.2.2]))) ∧ elemsF (Prod.fst (Prod.fst (vecsF d.1 [d.2.1, d.2.2]))) (dftL (Prod.fst (Prod.fst (vecsF d.1 [d.2.1, d.2.2])))
 d.2.1 (rootI (Prod.fst (vecsF d.1 [d.2.1, d.2.2])) (logF (↑d.2.1.length : Int))) d.2.1.length) = true ∧ elemsF (Prod.fst (Prod.fst (vecsF d.1 [d.2.1, d.2.2]))) (dftL (Prod.fst (Prod.fst (vecsF d.1 [d.2.1, d.2.2])))
 d.2.2 (rootI (Prod.fst (vecsF d.1 [d.2.1, d.2.2])) (logF (↑d.2.2.length : Int))) d.2.2.length) = true ∧ List.length (dftL (Prod.fst (Prod.fst (vecsF d.1 [d.2.1, d.2.2]))) d.2.1 (rootI (Prod.fst (vecsF d.1 [d.2.1,
 d.2.2])) (logF (↑d.2.1.length : Int))) d.2.1.length) = List.length (dftL (Prod.fst (Prod.fst (vecsF d.1 [d.2.1, d.2.2]))) d.2.2 (rootI (Prod.fst (vecsF d.1 [d.2.1, d.2.2])) (logF (↑d.2.2.length : Int))) d.2.2.length) ∧
 List.length (dftL (Prod.fst (Prod.fst (vecsF d.1 [d.2.1, d.2.2]))) d.2.1 (rootI (Prod.fst (vecsF d.1 [d.2.1, d.2.2])) (logF (↑d.2.1.length : Int))) d.2.1.length) ≤ (1048576 : Nat)) ∧ VecD (Prod.fst (vecsF d.1 [d.2.1,
 d.2.2])) (pwL (Prod.fst (Prod.fst (vecsF d.1 [d.2.1, d.2.2]))) (dftL (Prod.fst (Prod.fst (vecsF d.1 [d.2.1, d.2.2]))) d.2.1 (rootI (Prod.fst (vecsF d.1 [d.2.1, d.2.2])) (logF (↑d.2.1.length : Int))) d.2.1.length) (dftL
 (Prod.fst (Prod.fst (vecsF d.1 [d.2.1, d.2.2]))) d.2.2 (rootI (Prod.fst (vecsF d.1 [d.2.1, d.2.2])) (logF (↑d.2.2.length : Int))) d.2.2.length)) ∧ (Ty.wf listT (bkL (Prod.fst (Prod.fst (vecsF d.1 [d.2.1, d.2.2])))
 (rootI (Prod.fst (vecsF d.1 [d.2.1, d.2.2])) (logF (↑(List.length (pwL (Prod.fst (Prod.fst (vecsF d.1 [d.2.1, d.2.2]))) (dftL (Prod.fst (Prod.fst (vecsF d.1 [d.2.1, d.2.2]))) d.2.1 (rootI (Prod.fst (vecsF d.1 [d.2.1,
 d.2.2])) (logF (↑d.2.1.length : Int))) d.2.1.length) (dftL (Prod.fst (Prod.fst (vecsF d.1 [d.2.1, d.2.2]))) d.2.2 (rootI (Prod.fst (vecsF d.1 [d.2.1, d.2.2])) (logF (↑d.2.2.length : Int))) d.2.2.length))) : Int))) (invM
 (Prod.fst (Prod.fst (vecsF d.1 [d.2.1, d.2.2]))) (↑(List.length (pwL (Prod.fst (Prod.fst (vecsF d.1 [d.2.1, d.2.2]))) (dftL (Prod.fst (Prod.fst (vecsF d.1 [d.2.1, d.2.2]))) d.2.1 (rootI (Prod.fst (vecsF d.1 [d.2.1,
 d.2.2])) (logF (↑d.2.1.length : Int))) d.2.1.length) (dftL (Prod.fst (Prod.fst (vecsF d.1 [d.2.1, d.2.2]))) d.2.2 (rootI (Prod.fst (vecsF d.1 [d.2.1, d.2.2])) (logF (↑d.2.2.length : Int))) d.2.2.length))) : Int)) (pwL
 (Prod.fst (Prod.fst (vecsF d.1 [d.2.1, d.2.2]))) (dftL (Prod.fst (Prod.fst (vecsF d.1 [d.2.1, d.2.2]))) d.2.1 (rootI (Prod.fst (vecsF d.1 [d.2.1, d.2.2])) (logF (↑d.2.1.length : Int))) d.2.1.length) (dftL (Prod.fst
 (Prod.fst (vecsF d.1 [d.2.1, d.2.2]))) d.2.2 (rootI (Prod.fst (vecsF d.1 [d.2.1, d.2.2])) (logF (↑d.2.2.length : Int))) d.2.2.length))) → Ty.wf listT (pwL (Prod.fst (Prod.fst (vecsF d.1 [d.2.1, d.2.2]))) (dftL (Prod.fst
 (Prod.fst (vecsF d.1 [d.2.1, d.2.2]))) d.2.1 (rootI (Prod.fst (vecsF d.1 [d.2.1, d.2.2])) (logF (↑d.2.1.length : Int))) d.2.1.length) (dftL (Prod.fst (Prod.fst (vecsF d.1 [d.2.1, d.2.2]))) d.2.2 (rootI (Prod.fst (vecsF
 d.1 [d.2.1, d.2.2])) (logF (↑d.2.2.length : Int))) d.2.2.length)) → Ty.wf listT (dftL (Prod.fst (Prod.fst (vecsF d.1 [d.2.1, d.2.2]))) d.2.2 (rootI (Prod.fst (vecsF d.1 [d.2.1, d.2.2])) (logF (↑d.2.2.length : Int)))
 d.2.2.length) → Ty.wf listT (dftL (Prod.fst (Prod.fst (vecsF d.1 [d.2.1, d.2.2]))) d.2.1 (rootI (Prod.fst (vecsF d.1 [d.2.1, d.2.2])) (logF (↑d.2.1.length : Int))) d.2.1.length) → bkL (Prod.fst (Prod.fst (vecsF d.1
 [d.2.1, d.2.2]))) (rootI (Prod.fst (vecsF d.1 [d.2.1, d.2.2])) (logF (↑(List.length (pwL (Prod.fst (Prod.fst (vecsF d.1 [d.2.1, d.2.2]))) (dftL (Prod.fst (Prod.fst (vecsF d.1 [d.2.1, d.2.2]))) d.2.1 (rootI (Prod.fst
 (vecsF d.1 [d.2.1, d.2.2])) (logF (↑d.2.1.length : Int))) d.2.1.length) (dftL (Prod.fst (Prod.fst (vecsF d.1 [d.2.1, d.2.2]))) d.2.2 (rootI (Prod.fst (vecsF d.1 [d.2.1, d.2.2])) (logF (↑d.2.2.length : Int)))
 d.2.2.length))) : Int))) (invM (Prod.fst (Prod.fst (vecsF d.1 [d.2.1, d.2.2]))) (↑(List.length (pwL (Prod.fst (Prod.fst (vecsF d.1 [d.2.1, d.2.2]))) (dftL (Prod.fst (Prod.fst (vecsF d.1 [d.2.1, d.2.2]))) d.2.1 (rootI
 (Prod.fst (vecsF d.1 [d.2.1, d.2.2])) (logF (↑d.2.1.length : Int))) d.2.1.length) (dftL (Prod.fst (Prod.fst (vecsF d.1 [d.2.1, d.2.2]))) d.2.2 (rootI (Prod.fst (vecsF d.1 [d.2.1, d.2.2])) (logF (↑d.2.2.length : Int)))
 d.2.2.length))) : Int)) (pwL (Prod.fst (Prod.fst (vecsF d.1 [d.2.1, d.2.2]))) (dftL (Prod.fst (Prod.fst (vecsF d.1 [d.2.1, d.2.2]))) d.2.1 (rootI (Prod.fst (vecsF d.1 [d.2.1, d.2.2])) (logF (↑d.2.1.length : Int)))
 d.2.1.length) (dftL (Prod.fst (Prod.fst (vecsF d.1 [d.2.1, d.2.2]))) d.2.2 (rootI (Prod.fst (vecsF d.1 [d.2.1, d.2.2])) (logF (↑d.2.2.length : Int))) d.2.2.length)) = cycF d.1 d.2.1 d.2.2))) := by
  intro d hw hp
  obtain ⟨f, a, b⟩ := d
  simp only [Int.toNat_natCast, exists_const, and_true, true_and, implies_true, decide_eq_true_eq, decide_eq_false_iff_not, Bool.not_eq_true', Bool.not_eq_false', beq_iff_eq, forall_const]
  refine ⟨rfl, fun _ => ?_⟩
  rw [vecs_two.1]
  refine ⟨fun h => by unfold cycF; rw [if_neg (by rw [h]; simp)], fun h => ?_⟩
  obtain ⟨hab, ha, hb⟩ := two_vec h
  obtain ⟨hm, hea, K, hK, hK9, hlen, hKt⟩ := vecL_ok ha
  obtain ⟨l1, l2, l3, l4⟩ := vec512 ha
  rw [vecs_two.2 h]
  have hd1 : (fieldF f).1.1 = modF f := rfl
  simp only [hd1]
  have hr : rootI (fieldF f).1 (logF a.length) = rootS f (logF a.length) := by rw [hK]; exact root_same hm hKt
  rw [← hab, hr]
  have hpl : (pwL (modF f) (dftL (modF f) a (rootS f (logF a.length)) a.length) (dftL (modF f) b (rootS f (logF a.length)) a.length)).length = a.length := by unfold pwL; rw [rgm_len, dftL_len]
  rw [hpl, hr]
  refine ⟨⟨f, ha, rfl⟩, ⟨f, hb, rfl⟩, ⟨(mod_is hm).1, dftL_elems hm _ _ _, dftL_elems hm _ _ _, by rw [dftL_len, dftL_len], by rw [dftL_len]; omega⟩, ⟨f, pwL_vec ha (dftL_len _ _ _ _), rfl⟩, fun _ _ _ _ => ?_⟩
  unfold cycF
  rw [if_pos h]
  unfold bkL
  rw [hpl]
  refine List.map_congr_left fun k hk => ?_
  have := cyc_same (a := a) (b := b) ha hab (k := k) (List.mem_range.1 hk)
  rw [← hab] at this
  exact this
theorem v_I_twisted :
 ∀ (d : (Int × Int × Int) × List Int × List Int), Ty.wf fldT d.1 ∧ Ty.wf listT d.2.1 ∧ Ty.wf listT d.2.2 → IsMod d.1.1 ∧ elemsF d.1.1 d.2.1 = true ∧ elemsF d.1.1 d.2.2 = true ∧ d.2.1.length = d.2.2.length ∧ d.2.1.length
 ≤ (512 : Nat) → ((0 : Int) ≤ (↑d.2.1.length : Int) ∧ (↑d.2.1.length : Int) ≤ (↑d.2.1.length : Int) ∧ (↑d.2.1.length : Int) * (↑(8 : Nat) : Int) ≤ (140737488355328 : Int)) ∧ (0 : Nat) ≤ d.2.1.length ∧ (((d.1.1 = d.1.1 ∧
 d.1.2.1 = d.1.2.1 ∧ d.1.2.2 = d.1.2.2) ∧ d.2.1 = d.2.1 ∧ d.2.2 = d.2.2 ∧ Value.slice none (0 : Nat) (0 : Nat) = Value.slice none (0 : Nat) (0 : Nat) ∧ (↑d.2.1.length : Int) = (↑d.2.1.length : Int) ∧ d.2.1 = d.2.1 ∧
 (↑d.2.1.length : Int) = (↑d.2.1.length : Int) ∧ (0 : Int) = (↑(0 : Nat) : Int)) ∧ (d.1.1 = d.1.1 ∧ d.1.2.1 = d.1.2.1 ∧ d.1.2.2 = d.1.2.2) ∧ List.replicate (Int.toNat (↑d.2.1.length : Int)) (0 : Int) = twRow d.1.1 d.2.1
 d.2.2 (0 : Nat) (0 : Nat)) ∧ ∀ (x : Nat), x ≤ d.2.1.length → (decide ((↑x : Int) < (↑d.2.1.length : Int)) = true → ((0 : Int) ≤ (↑x : Int) ∧ (↑x : Int) < (↑d.2.1.length : Int)) ∧ (0 : Nat) ≤ d.2.2.length ∧ (((d.1.1 =
 d.1.1 ∧ d.1.2.1 = d.1.2.1 ∧ d.1.2.2 = d.1.2.2) ∧ d.2.1 = d.2.1 ∧ d.2.2 = d.2.2 ∧ Value.slice none (0 : Nat) (0 : Nat) = Value.slice none (0 : Nat) (0 : Nat) ∧ (↑d.2.1.length : Int) = (↑d.2.1.length : Int) ∧ (↑x : Int) =
 (↑x : Int) ∧ d.2.1.getD (Int.toNat (↑x : Int)) (0 : Int) = d.2.1.getD (Int.toNat (↑x : Int)) (0 : Int) ∧ d.2.1 = d.2.1 ∧ (↑d.2.1.length : Int) = (↑d.2.1.length : Int) ∧ (↑x : Int) = (↑x : Int) ∧ d.2.2 = d.2.2 ∧
 (↑d.2.2.length : Int) = (↑d.2.2.length : Int) ∧ (0 : Int) = (↑(0 : Nat) : Int)) ∧ (d.1.1 = d.1.1 ∧ d.1.2.1 = d.1.2.1 ∧ d.1.2.2 = d.1.2.2) ∧ twRow d.1.1 d.2.1 d.2.2 x (0 : Nat) = twRow d.1.1 d.2.1 d.2.2 x (0 : Nat)) ∧ ∀
 (x_1 : Nat), x_1 ≤ d.2.2.length → (decide ((↑x_1 : Int) < (↑d.2.2.length : Int)) = true → ((0 : Int) ≤ (↑x_1 : Int) ∧ (↑x_1 : Int) < (↑d.2.2.length : Int)) ∧ (IsMod d.1.1 ∧ El d.1.1 (d.2.1.getD (Int.toNat (↑x : Int)) (0
 : Int)) ∧ El d.1.1 (d.2.2.getD (Int.toNat (↑x_1 : Int)) (0 : Int))) ∧ (Ty.wf i64T (mulM d.1.1 (d.2.1.getD (Int.toNat (↑x : Int)) (0 : Int)) (d.2.2.getD (Int.toNat (↑x_1 : Int)) (0 : Int))) → (decide (IntKind.wrap
 IntKind.i64 ((↑x : Int) + (↑x_1 : Int)) < (↑d.2.1.length : Int)) = true → ((0 : Int) ≤ IntKind.wrap IntKind.i64 ((↑x : Int) + (↑x_1 : Int)) ∧ IntKind.wrap IntKind.i64 ((↑x : Int) + (↑x_1 : Int)) < (↑(List.length (twRow
 d.1.1 d.2.1 d.2.2 x x_1)) : Int)) ∧ (IsMod d.1.1 ∧ El d.1.1 (List.getD (twRow d.1.1 d.2.1 d.2.2 x x_1) (Int.toNat (IntKind.wrap IntKind.i64 ((↑x : Int) + (↑x_1 : Int)))) (0 : Int)) ∧ El d.1.1 (mulM d.1.1 (d.2.1.getD
 (Int.toNat (↑x : Int)) (0 : Int)) (d.2.2.getD (Int.toNat (↑x_1 : Int)) (0 : Int)))) ∧ ((0 : Int) ≤ IntKind.wrap IntKind.i64 ((↑x : Int) + (↑x_1 : Int)) ∧ IntKind.wrap IntKind.i64 ((↑x : Int) + (↑x_1 : Int)) <
 (↑(List.length (twRow d.1.1 d.2.1 d.2.2 x x_1)) : Int)) ∧ (Ty.wf i64T (addM d.1.1 (List.getD (twRow d.1.1 d.2.1 d.2.2 x x_1) (Int.toNat (IntKind.wrap IntKind.i64 ((↑x : Int) + (↑x_1 : Int)))) (0 : Int)) (mulM d.1.1
 (d.2.1.getD (Int.toNat (↑x : Int)) (0 : Int)) (d.2.2.getD (Int.toNat (↑x_1 : Int)) (0 : Int)))) → ∃ (x' : Nat), x' ≤ d.2.2.length ∧ d.2.2.length - x' < d.2.2.length - x_1 ∧ ((d.1.1 = d.1.1 ∧ d.1.2.1 = d.1.2.1 ∧ d.1.2.2
 = d.1.2.2) ∧ d.2.1 = d.2.1 ∧ d.2.2 = d.2.2 ∧ Value.slice none (0 : Nat) (0 : Nat) = Value.slice none (0 : Nat) (0 : Nat) ∧ (↑d.2.1.length : Int) = (↑d.2.1.length : Int) ∧ (↑x : Int) = (↑x : Int) ∧ d.2.1.getD (Int.toNat
 (↑x : Int)) (0 : Int) = d.2.1.getD (Int.toNat (↑x : Int)) (0 : Int) ∧ d.2.1 = d.2.1 ∧ (↑d.2.1.length : Int) = (↑d.2.1.length : Int) ∧ (↑x : Int) = (↑x : Int) ∧ d.2.2 = d.2.2 ∧ (↑d.2.2.length : Int) = (↑d.2.2.length :
 Int) ∧ IntKind.wrap IntKind.i64 ((↑x_1 : Int) + (1 : Int)) = (↑x' : Int)) ∧ (d.1.1 = d.1.1 ∧ d.1.2.1 = d.1.2.1 ∧ d.1.2.2 = d.1.2.2) ∧ List.set (twRow d.1.1 d.2.1 d.2.2 x x_1) (Int.toNat (IntKind.wrap IntKind.i64 ((↑x :
 Int) + (↑x_1 : Int)))) (addM d.1.1 (List.getD (twRow d.1.1 d.2.1 d.2.2 x x_1) (Int.toNat (IntKind.wrap IntKind.i64 ((↑x : Int) + (↑x_1 : Int)))) (0 : Int)) (mulM d.1.1 (d.2.1.getD (Int.toNat (↑x : Int)) (0 : Int))
 (d.2.2.getD (Int.toNat (↑x_1 : Int)) (0 : Int)))) = twRow d.1.1 d.2.1 d.2.2 x x')) ∧ (decide (IntKind.wrap IntKind.i64 ((↑x : Int) + (↑x_1 : Int)) < (↑d.2.1.length : Int)) = false → ((0 : Int) ≤ IntKind.wrap IntKind.i64
 (IntKind.wrap IntKind.i64 ((↑x : Int) + (↑x_1 : Int)) - (↑d.2.1.length : Int)) ∧ IntKind.wrap IntKind.i64 (IntKind.wrap IntKind.i64 ((↑x : Int) + (↑x_1 : Int)) - (↑d.2.1.length : Int)) < (↑(List.length (twRow d.1.1
 d.2.1 d.2.2 x x_1)) : Int)) ∧ (IsMod d.1.1 ∧ El d.1.1 (List.getD (twRow d.1.1 d.2.1 d.2.2 x x_1) (Int.toNat (IntKind.wrap IntKind.i64 (IntKind.wrap IntKind.i64 ((↑x : Int) + (↑x_1 : Int)) - (↑d.2.1.length : Int)))) (0 :
 Int)) ∧ El d.1.1 (mulM d.1.1 (d.2.1.getD (Int.toNat (↑x : Int)) (0 : Int)) (d.2.2.getD (Int.toNat (↑x_1 : Int)) (0 : Int)))) ∧ ((0 : Int) ≤ IntKind.wrap IntKind.i64 (IntKind.wrap IntKind.i64 ((↑x : Int) + (↑x_1 : Int))
 - (↑d.2.1.length : Int)) ∧ IntKind.wrap IntKind.i64 (IntKind.wrap IntKind.i64 ((↑x : Int) + (↑x_1 : Int)) - (↑d.2.1.length : Int)) < (↑(List.length (twRow d.1.1 d.2.1 d.2.2 x x_1)) : Int)) ∧ (Ty.wf i64T (subM d.1.1
 (List.getD (twRow d.1.1 d.2.1 d.2.2 x x_1) (Int.toNat (IntKind.wrap IntKind.i64 (IntKind.wrap IntKind.i64 ((↑x : Int) + (↑x_1 : Int)) - (↑d.2.1.length : Int)))) (0 : Int)) (mulM d.1.1 (d.2.1.getD (Int.toNat (↑x : Int))
 (0 : Int)) (d.2.2.getD (Int.toNat (↑x_1 : Int)) (0 : Int)))) → ∃ (x' : Nat), x' ≤ d.2.2.length ∧ d.2.2.length - x' < d.2.2.length - x_1 ∧ ((d.1.1 = d.1.1 ∧ d.1.2.1 = d.1.2.1 ∧ d.1.2.2 = d.1.2.2) ∧ d.2.1 = d.2.1 ∧ d.2.2
 = d.2.2 ∧ Value.slice none (0 : Nat) (0 : Nat) = Value.slice none (0 : Nat) (0 : Nat) ∧ (↑d.2.1.length : Int) = (↑d.2.1.length : Int) ∧ (↑x : Int) = (↑x : Int) ∧ d.2.1.getD (Int.toNat (↑x : Int)) (0 : Int) = d.2.1.getD
 (Int.toNat (↑x : Int)) (0 : Int) ∧ d.2.1 = d.2.1 ∧ (↑d.2.1.length : Int) = (↑d.2.1.length : Int) ∧ (↑x : Int) = (↑x : Int) ∧ d.2.2 = d.2.2 ∧ (↑d.2.2.length : Int) = (↑d.2.2.length : Int) ∧ IntKind.wrap IntKind.i64
 ((↑x_1 : Int) + (1 : Int)) = (↑x' : Int)) ∧ (d.1.1 = d.1.1 ∧ d.1.2.1 = d.1.2.1 ∧ d.1.2.2 = d.1.2.2) ∧ List.set (twRow d.1.1 d.2.1 d.2.2 x x_1) (Int.toNat (IntKind.wrap IntKind.i64 (IntKind.wrap IntKind.i64 ((↑x : Int) +
 (↑x_1 : Int)) - (↑d.2.1.length : Int)))) (subM d.1.1 (List.getD (twRow d.1.1 d.2.1 d.2.2 x x_1) (Int.toNat (IntKind.wrap IntKind.i64 (IntKind.wrap IntKind.i64 ((↑x : Int) + (↑x_1 : Int)) - (↑d.2.1.length : Int)))) (0 :
 Int)) (mulM d.1.1 (d.2.1.getD (Int.toNat (↑x : Int)) (0 : Int)) (d.2.2.getD (Int.toNat (↑x_1 : Int)) (0 : Int)))) = twRow d.1.1 d.2.1 d.2.2 x x')))) ∧ (decide ((↑x_1 : Int) < (↑d.2.2.length : Int)) = false → ∃ (x' :
 Nat), x' ≤ d.2.1.length ∧ d.2.1.length - x' < d.2.1.length - x ∧ ((d.1.1 = d.1.1 ∧ d.1.2.1 = d.1.2.1 ∧ d.1.2.2 = d.1.2.2) ∧ d.2.1 = d.2.1 ∧ d.2.2 = d.2.2 ∧ Value.slice none (0 : Nat) (0 : Nat) = Value.slice none (0 :
 Nat) (0 : Nat) ∧ (↑d.2.1.length : Int) = (↑d.2.1.length : Int) ∧ d.2.1 = d.2.1 ∧ (↑d.2.1.length : Int) = (↑d.2.1.length : Int) ∧ IntKind.wrap IntKind.i64 ((↑x : Int) + (1 : Int)) = (↑x' : Int)) ∧ (d.1.1 = d.1.1 ∧
 d.1.2.1 = d.1.2.1 ∧ d.1.2.2 = d.1.2.2) ∧ twRow d.1.1 d.2.1 d.2.2 x x_1 = twRow d.1.1 d.2.1 d.2.2 x' (0 : Nat))) ∧ (decide ((↑x : Int) < (↑d.2.1.length : Int)) = false → twRow d.1.1 d.2.1 d.2.2 x (0 : Nat) = List.map
 (fun (t : Nat) => twA d.1.1 d.2.1 d.2.2 t d.2.1.length) (List.range d.2.1.length)) := by
  intro d hw hp
  obtain ⟨d, a, b⟩ := d
  obtain ⟨p1, p2, p3, p4, p5⟩ := hp
  replace p1 : IsMod d.1 := p1
  replace p2 : elemsF d.1 a = true := p2
  replace p3 : elemsF d.1 b = true := p3
  replace p4 : a.length = b.length := p4
  replace p5 : a.length ≤ 512 := p5
  simp only [Int.toNat_natCast, exists_const, and_true, true_and, implies_true, decide_eq_true_eq, decide_eq_false_iff_not, Bool.not_eq_true', Bool.not_eq_false', beq_iff_eq, forall_const]
  refine ⟨⟨by omega, by omega, by show (a.length : Int) * ((8 : Nat) : Int) ≤ 140737488355328; omega⟩, Nat.zero_le _, ⟨rfl, ?_⟩, fun x hx => ⟨fun hxl => ⟨⟨by omega, hxl⟩, Nat.zero_le _, rfl, fun y hy => ⟨fun hyl => ⟨⟨by omega, hyl⟩, ⟨p1, elems_getD p1 p2 x, elems_getD p1 p3 y⟩, fun _ => ?_⟩, fun hyg => ⟨x + 1, by omega, by omega, ?_, ?_⟩⟩⟩, fun hxg => ?_⟩⟩
  · refine List.ext_getElem (by rw [List.length_replicate, twRow_len]) fun t h1 h2 => ?_
    simp [twRow, twA]
  · have hx' : x < a.length := by omega
    have hy' : y < a.length := by omega
    have hel : ∀ t, t < a.length → El d.1 ((twRow d.1 a b x y).getD t 0) := fun t ht => by
      rw [twRow_get _ _ _ _ _ ht]
      split <;> exact tw_el p1 _ _ _ _
    rw [wrap_small (n := (x : Int) + y) (by omega), twRow_len]
    refine ⟨fun hc => ?_, fun hc => ?_⟩
    · have e : ((x : Int) + y).toNat = x + y := by omega
      rw [e]
      refine ⟨⟨by omega, hc⟩, ⟨p1, hel _ (by omega), el_mulM p1 _ _⟩, ⟨by omega, hc⟩, fun _ => ⟨y + 1, by omega, by omega, ?_, ?_⟩⟩
      · rw [wrap_small (by omega)]; rfl
      · have := twRow_set (p := d.1) (a := a) (b := b) (x := x) (y := y) (t := x + y) p4 hx' hy' (by omega) (by rw [if_pos (by omega)])
        rw [if_pos (by omega)] at this
        exact this
    · rw [wrap_small (n := (x : Int) + y - a.length) (by omega)]
      have e : ((x : Int) + y - a.length).toNat = x + y - a.length := by omega
      rw [e]
      refine ⟨⟨by omega, by omega⟩, ⟨p1, hel _ (by omega), el_mulM p1 _ _⟩, ⟨by omega, by omega⟩, fun _ => ⟨y + 1, by omega, by omega, ?_, ?_⟩⟩
      · rw [wrap_small (by omega)]; rfl
      · have := twRow_set (p := d.1) (a := a) (b := b) (x := x) (y := y) (t := x + y - a.length) p4 hx' hy' (by omega) (by rw [if_neg (by omega)])
        rw [if_neg (by omega)] at this
        exact this
  · rw [wrap_small (by omega)]; rfl
  · refine List.ext_getElem (by rw [twRow_len, twRow_len]) fun t h1 h2 => ?_
    rw [twRow_len] at h2
    simp only [twRow, List.getElem_map, List.getElem_range]
    rw [if_pos (Nat.lt_of_lt_of_le (Nat.mod_lt _ (by omega)) (by omega)), if_neg (Nat.not_lt_zero _)]
  · rw [show x = a.length by omega]
    refine List.ext_getElem (by rw [twRow_len]; simp) fun t h1 h2 => ?_
    simp only [twRow, List.getElem_map, List.getElem_range]
    rw [if_neg (Nat.not_lt_zero _)]
theorem v_I_stage :
 ∀ (d : (Int × Int × Int) × List Int × Int), Ty.wf fldT d.1 ∧ Ty.wf listT d.2.1 ∧ Ty.wf i64T d.2.2 → VecD d.1 d.2.1 ∧ (0 : Tup [i64T]) ≤ d.2.2 ∧ d.2.2 ≤ logF (↑d.2.1.length : Int) - (1 : Tup [i64T]) → ((0 : Int) ≤
 (↑d.2.1.length : Int) ∧ (↑d.2.1.length : Int) ≤ (↑d.2.1.length : Int) ∧ (↑d.2.1.length : Int) * (↑(8 : Nat) : Int) ≤ (140737488355328 : Int)) ∧ (0 : Int) ≤ d.2.2 ∧ (IsMod d.1.1 ∧ El d.1.1 d.1.2.1 ∧ (0 : Tup [i64T]) ≤
 IntKind.wrap IntKind.i64 (d.2.2 + (1 : Int)) ∧ IntKind.wrap IntKind.i64 (d.2.2 + (1 : Int)) ≤ (30 : Tup [i64T])) ∧ (Ty.wf i64T (rootI d.1 (IntKind.wrap IntKind.i64 (d.2.2 + (1 : Int)))) → (0 : Nat) * ((2 : Nat) * (2 :
 Nat) ^ d.2.2.toNat) ≤ d.2.1.length ∧ (((d.1.1 = d.1.1 ∧ d.1.2.1 = d.1.2.1 ∧ d.1.2.2 = d.1.2.2) ∧ d.2.1 = d.2.1 ∧ d.2.2 = d.2.2 ∧ Value.slice none (0 : Nat) (0 : Nat) = Value.slice none (0 : Nat) (0 : Nat) ∧ ishl
 IntKind.i64 (1 : Int) d.2.2 = ishl IntKind.i64 (1 : Int) d.2.2 ∧ rootI d.1 (IntKind.wrap IntKind.i64 (d.2.2 + (1 : Int))) = rootI d.1 (IntKind.wrap IntKind.i64 (d.2.2 + (1 : Int))) ∧ (0 : Int) = (↑((0 : Nat) * ((2 :
 Nat) * (2 : Nat) ^ d.2.2.toNat)) : Int)) ∧ (d.1.1 = d.1.1 ∧ d.1.2.1 = d.1.2.1 ∧ d.1.2.2 = d.1.2.2) ∧ List.replicate (Int.toNat (↑d.2.1.length : Int)) (0 : Int) = rgZ d.1 d.2.1 d.2.2.toNat ((0 : Nat) * (2 : Nat) ^
 d.2.2.toNat)) ∧ ∀ (x : Nat), x * ((2 : Nat) * (2 : Nat) ^ d.2.2.toNat) ≤ d.2.1.length → (decide ((↑(x * ((2 : Nat) * (2 : Nat) ^ d.2.2.toNat)) : Int) < (↑d.2.1.length : Int)) = true → (0 : Nat) ≤ (2 : Nat) ^ d.2.2.toNat
 ∧ (((d.1.1 = d.1.1 ∧ d.1.2.1 = d.1.2.1 ∧ d.1.2.2 = d.1.2.2) ∧ d.2.1 = d.2.1 ∧ d.2.2 = d.2.2 ∧ Value.slice none (0 : Nat) (0 : Nat) = Value.slice none (0 : Nat) (0 : Nat) ∧ ishl IntKind.i64 (1 : Int) d.2.2 = ishl
 IntKind.i64 (1 : Int) d.2.2 ∧ rootI d.1 (IntKind.wrap IntKind.i64 (d.2.2 + (1 : Int))) = rootI d.1 (IntKind.wrap IntKind.i64 (d.2.2 + (1 : Int))) ∧ (↑(x * ((2 : Nat) * (2 : Nat) ^ d.2.2.toNat)) : Int) = (↑(x * ((2 :
 Nat) * (2 : Nat) ^ d.2.2.toNat)) : Int) ∧ (1 : Int) = powM d.1.1 (rootI d.1 (d.2.2 + (1 : Int))) (0 : Nat) ∧ ishl IntKind.i64 (1 : Int) d.2.2 = ishl IntKind.i64 (1 : Int) d.2.2 ∧ (0 : Int) = (↑(0 : Nat) : Int)) ∧ (d.1.1
 = d.1.1 ∧ d.1.2.1 = d.1.2.1 ∧ d.1.2.2 = d.1.2.2) ∧ rgZ d.1 d.2.1 d.2.2.toNat (x * (2 : Nat) ^ d.2.2.toNat) = rgZ d.1 d.2.1 d.2.2.toNat (x * (2 : Nat) ^ d.2.2.toNat + (0 : Nat))) ∧ ∀ (x_1 : Nat), x_1 ≤ (2 : Nat) ^
 d.2.2.toNat → (decide ((↑x_1 : Int) < ishl IntKind.i64 (1 : Int) d.2.2) = true → ((0 : Int) ≤ IntKind.wrap IntKind.i64 ((↑(x * ((2 : Nat) * (2 : Nat) ^ d.2.2.toNat)) : Int) + (↑x_1 : Int)) ∧ IntKind.wrap IntKind.i64
 ((↑(x * ((2 : Nat) * (2 : Nat) ^ d.2.2.toNat)) : Int) + (↑x_1 : Int)) < (↑d.2.1.length : Int)) ∧ ((0 : Int) ≤ IntKind.wrap IntKind.i64 (IntKind.wrap IntKind.i64 ((↑(x * ((2 : Nat) * (2 : Nat) ^ d.2.2.toNat)) : Int) +
 (↑x_1 : Int)) + ishl IntKind.i64 (1 : Int) d.2.2) ∧ IntKind.wrap IntKind.i64 (IntKind.wrap IntKind.i64 ((↑(x * ((2 : Nat) * (2 : Nat) ^ d.2.2.toNat)) : Int) + (↑x_1 : Int)) + ishl IntKind.i64 (1 : Int) d.2.2) <
 (↑d.2.1.length : Int)) ∧ (IsMod d.1.1 ∧ El d.1.1 (d.2.1.getD (Int.toNat (IntKind.wrap IntKind.i64 (IntKind.wrap IntKind.i64 ((↑(x * ((2 : Nat) * (2 : Nat) ^ d.2.2.toNat)) : Int) + (↑x_1 : Int)) + ishl IntKind.i64 (1 :
 Int) d.2.2))) (0 : Int)) ∧ El d.1.1 (powM d.1.1 (rootI d.1 (d.2.2 + (1 : Int))) x_1)) ∧ (Ty.wf i64T (mulM d.1.1 (d.2.1.getD (Int.toNat (IntKind.wrap IntKind.i64 (IntKind.wrap IntKind.i64 ((↑(x * ((2 : Nat) * (2 : Nat) ^
 d.2.2.toNat)) : Int) + (↑x_1 : Int)) + ishl IntKind.i64 (1 : Int) d.2.2))) (0 : Int)) (powM d.1.1 (rootI d.1 (d.2.2 + (1 : Int))) x_1)) → (IsMod d.1.1 ∧ El d.1.1 (d.2.1.getD (Int.toNat (IntKind.wrap IntKind.i64 ((↑(x *
 ((2 : Nat) * (2 : Nat) ^ d.2.2.toNat)) : Int) + (↑x_1 : Int)))) (0 : Int)) ∧ El d.1.1 (mulM d.1.1 (d.2.1.getD (Int.toNat (IntKind.wrap IntKind.i64 (IntKind.wrap IntKind.i64 ((↑(x * ((2 : Nat) * (2 : Nat) ^ d.2.2.toNat))
 : Int) + (↑x_1 : Int)) + ishl IntKind.i64 (1 : Int) d.2.2))) (0 : Int)) (powM d.1.1 (rootI d.1 (d.2.2 + (1 : Int))) x_1))) ∧ (Ty.wf i64T (addM d.1.1 (d.2.1.getD (Int.toNat (IntKind.wrap IntKind.i64 ((↑(x * ((2 : Nat) *
 (2 : Nat) ^ d.2.2.toNat)) : Int) + (↑x_1 : Int)))) (0 : Int)) (mulM d.1.1 (d.2.1.getD (Int.toNat (IntKind.wrap IntKind.i64 (IntKind.wrap IntKind.i64 ((↑(x * ((2 : Nat) * (2 : Nat) ^ d.2.2.toNat)) : Int) + (↑x_1 : Int))
 + ishl IntKind.i64 (1 : Int) d.2.2))) (0 : Int)) (powM d.1.1 (rootI d.1 (d.2.2 + (1 : Int))) x_1))) → ((0 : Int) ≤ IntKind.wrap IntKind.i64 ((↑(x * ((2 : Nat) * (2 : Nat) ^ d.2.2.toNat)) : Int) + (↑x_1 : Int)) ∧
 IntKind.wrap IntKind.i64 ((↑(x * ((2 : Nat) * (2 : Nat) ^ d.2.2.toNat)) : Int) + (↑x_1 : Int)) < (↑(List.length (rgZ d.1 d.2.1 d.2.2.toNat (x * (2 : Nat) ^ d.2.2.toNat + x_1))) : Int)) ∧ (IsMod d.1.1 ∧ El d.1.1
 (d.2.1.getD (Int.toNat (IntKind.wrap IntKind.i64 ((↑(x * ((2 : Nat) * (2 : Nat) ^ d.2.2.toNat)) : Int) + (↑x_1 : Int)))) (0 : Int)) ∧ El d.1.1 (mulM d.1.1 (d.2.1.getD (Int.toNat (IntKind.wrap IntKind.i64 (IntKind.wrap
 IntKind.i64 ((↑(x * ((2 : Nat) * (2 : Nat) ^ d.2.2.toNat)) : Int) + (↑x_1 : Int)) + ishl IntKind.i64 (1 : Int) d.2.2))) (0 : Int)) (powM d.1.1 (rootI d.1 (d.2.2 + (1 : Int))) x_1))) ∧ (Ty.wf i64T (subM d.1.1 (d.2.1.getD
 (Int.toNat (IntKind.wrap IntKind.i64 ((↑(x * ((2 : Nat) * (2 : Nat) ^ d.2.2.toNat)) : Int) + (↑x_1 : Int)))) (0 : Int)) (mulM d.1.1 (d.2.1.getD (Int.toNat (IntKind.wrap IntKind.i64 (IntKind.wrap IntKind.i64 ((↑(x * ((2
 : Nat) * (2 : Nat) ^ d.2.2.toNat)) : Int) + (↑x_1 : Int)) + ishl IntKind.i64 (1 : Int) d.2.2))) (0 : Int)) (powM d.1.1 (rootI d.1 (d.2.2 + (1 : Int))) x_1))) → ((0 : Int) ≤ IntKind.wrap IntKind.i64 (IntKind.wrap
 IntKind.i64 ((↑(x * ((2 : Nat) * (2 : Nat) ^ d.2.2.toNat)) : Int) + (↑x_1 : Int)) + ishl IntKind.i64 (1 : Int) d.2.2) ∧ IntKind.wrap IntKind.i64 (IntKind.wrap IntKind.i64 ((↑(x * ((2 : Nat) * (2 : Nat) ^ d.2.2.toNat)) :
 Int) + (↑x_1 : Int)) + ishl IntKind.i64 (1 : Int) d.2.2) < (↑(List.length (List.set (rgZ d.1 d.2.1 d.2.2.toNat (x * (2 : Nat) ^ d.2.2.toNat + x_1)) (Int.toNat (IntKind.wrap IntKind.i64 ((↑(x * ((2 : Nat) * (2 : Nat) ^
 d.2.2.toNat)) : Int) + (↑x_1 : Int)))) (addM d.1.1 (d.2.1.getD (Int.toNat (IntKind.wrap IntKind.i64 ((↑(x * ((2 : Nat) * (2 : Nat) ^ d.2.2.toNat)) : Int) + (↑x_1 : Int)))) (0 : Int)) (mulM d.1.1 (d.2.1.getD (Int.toNat
 (IntKind.wrap IntKind.i64 (IntKind.wrap IntKind.i64 ((↑(x * ((2 : Nat) * (2 : Nat) ^ d.2.2.toNat)) : Int) + (↑x_1 : Int)) + ishl IntKind.i64 (1 : Int) d.2.2))) (0 : Int)) (powM d.1.1 (rootI d.1 (d.2.2 + (1 : Int)))
 x_1))))) : Int)) ∧ (IsMod d.1.1 ∧ El d.1.1 (powM d.1.1 (rootI d.1 (d.2.2 + (1 : Int))) x_1) ∧ El d.1.1 (rootI d.1 (IntKind.wrap IntKind.i64 (d.2.2 + (1 : Int))))) ∧ (Ty.wf i64T (mulM d.1.1 (powM d.1.1 (rootI d.1 (d.2.2
 + (1 : Int))) x_1) (rootI d.1 (IntKind.wrap IntKind.i64 (d.2.2 + (1 : Int))))) → ∃ (x' : Nat), x' ≤ (2 : Nat) ^ d.2.2.toNat ∧ (2 : Nat) ^ d.2.2.toNat - x' < (2 : Nat) ^ d.2.2.toNat - x_1 ∧ ((d.1.1 = d.1.1 ∧ d.1.2.1 =
 d.1.2.1 ∧ d.1.2.2 = d.1.2.2) ∧ d.2.1 = d.2.1 ∧ d.2.2 = d.2.2 ∧ Value.slice none (0 : Nat) (0 : Nat) = Value.slice none (0 : Nat) (0 : Nat) ∧ ishl IntKind.i64 (1 : Int) d.2.2 = ishl IntKind.i64 (1 : Int) d.2.2 ∧ rootI
 d.1 (IntKind.wrap IntKind.i64 (d.2.2 + (1 : Int))) = rootI d.1 (IntKind.wrap IntKind.i64 (d.2.2 + (1 : Int))) ∧ (↑(x * ((2 : Nat) * (2 : Nat) ^ d.2.2.toNat)) : Int) = (↑(x * ((2 : Nat) * (2 : Nat) ^ d.2.2.toNat)) : Int)
 ∧ mulM d.1.1 (powM d.1.1 (rootI d.1 (d.2.2 + (1 : Int))) x_1) (rootI d.1 (IntKind.wrap IntKind.i64 (d.2.2 + (1 : Int)))) = powM d.1.1 (rootI d.1 (d.2.2 + (1 : Int))) x' ∧ ishl IntKind.i64 (1 : Int) d.2.2 = ishl
 IntKind.i64 (1 : Int) d.2.2 ∧ IntKind.wrap IntKind.i64 ((↑x_1 : Int) + (1 : Int)) = (↑x' : Int)) ∧ (d.1.1 = d.1.1 ∧ d.1.2.1 = d.1.2.1 ∧ d.1.2.2 = d.1.2.2) ∧ List.set (List.set (rgZ d.1 d.2.1 d.2.2.toNat (x * (2 : Nat) ^
 d.2.2.toNat + x_1)) (Int.toNat (IntKind.wrap IntKind.i64 ((↑(x * ((2 : Nat) * (2 : Nat) ^ d.2.2.toNat)) : Int) + (↑x_1 : Int)))) (addM d.1.1 (d.2.1.getD (Int.toNat (IntKind.wrap IntKind.i64 ((↑(x * ((2 : Nat) * (2 :
 Nat) ^ d.2.2.toNat)) : Int) + (↑x_1 : Int)))) (0 : Int)) (mulM d.1.1 (d.2.1.getD (Int.toNat (IntKind.wrap IntKind.i64 (IntKind.wrap IntKind.i64 ((↑(x * ((2 : Nat) * (2 : Nat) ^ d.2.2.toNat)) : Int) + (↑x_1 : Int)) +
 ishl IntKind.i64 (1 : Int) d.2.2))) (0 : Int)) (powM d.1.1 (rootI d.1 (d.2.2 + (1 : Int))) x_1)))) (Int.toNat (IntKind.wrap IntKind.i64 (IntKind.wrap IntKind.i64 ((↑(x * ((2 : Nat) * (2 : Nat) ^ d.2.2.toNat)) : Int) +
 (↑x_1 : Int)) + ishl IntKind.i64 (1 : Int) d.2.2))) (subM d.1.1 (d.2.1.getD (Int.toNat (IntKind.wrap IntKind.i64 ((↑(x * ((2 : Nat) * (2 : Nat) ^ d.2.2.toNat)) : Int) + (↑x_1 : Int)))) (0 : Int)) (mulM d.1.1 (d.2.1.getD
 (Int.toNat (IntKind.wrap IntKind.i64 (IntKind.wrap IntKind.i64 ((↑(x * ((2 : Nat) * (2 : Nat) ^ d.2.2.toNat)) : Int) + (↑x_1 : Int)) + ishl IntKind.i64 (1 : Int) d.2.2))) (0 : Int)) (powM d.1.1 (rootI d.1 (d.2.2 + (1 :
 Int))) x_1))) = rgZ d.1 d.2.1 d.2.2.toNat (x * (2 : Nat) ^ d.2.2.toNat + x')))))) ∧ (decide ((↑x_1 : Int) < ishl IntKind.i64 (1 : Int) d.2.2) = false → ∃ (x' : Nat), x' * ((2 : Nat) * (2 : Nat) ^ d.2.2.toNat) ≤
 d.2.1.length ∧ d.2.1.length - x' < d.2.1.length - x ∧ ((d.1.1 = d.1.1 ∧ d.1.2.1 = d.1.2.1 ∧ d.1.2.2 = d.1.2.2) ∧ d.2.1 = d.2.1 ∧ d.2.2 = d.2.2 ∧ Value.slice none (0 : Nat) (0 : Nat) = Value.slice none (0 : Nat) (0 :
 Nat) ∧ ishl IntKind.i64 (1 : Int) d.2.2 = ishl IntKind.i64 (1 : Int) d.2.2 ∧ rootI d.1 (IntKind.wrap IntKind.i64 (d.2.2 + (1 : Int))) = rootI d.1 (IntKind.wrap IntKind.i64 (d.2.2 + (1 : Int))) ∧ IntKind.wrap IntKind.i64
 ((↑(x * ((2 : Nat) * (2 : Nat) ^ d.2.2.toNat)) : Int) + IntKind.wrap IntKind.i64 ((2 : Int) * ishl IntKind.i64 (1 : Int) d.2.2)) = (↑(x' * ((2 : Nat) * (2 : Nat) ^ d.2.2.toNat)) : Int)) ∧ (d.1.1 = d.1.1 ∧ d.1.2.1 =
 d.1.2.1 ∧ d.1.2.2 = d.1.2.2) ∧ rgZ d.1 d.2.1 d.2.2.toNat (x * (2 : Nat) ^ d.2.2.toNat + x_1) = rgZ d.1 d.2.1 d.2.2.toNat (x' * (2 : Nat) ^ d.2.2.toNat))) ∧ (decide ((↑(x * ((2 : Nat) * (2 : Nat) ^ d.2.2.toNat)) : Int) <
 (↑d.2.1.length : Int)) = false → rgZ d.1 d.2.1 d.2.2.toNat (x * (2 : Nat) ^ d.2.2.toNat) = rgL d.1 d.2.1 d.2.2.toNat (0 : Nat) (d.2.1.length / (2 : Nat)))) := by
  intro d hw hp
  obtain ⟨d, v, s⟩ := d
  obtain ⟨⟨f, h, hd⟩, s0, s1⟩ := hp
  replace h : vectorOkF f v = true := h
  replace hd : d = (fieldF f).1 := hd
  replace s0 : (0 : Int) ≤ s := s0
  replace s1 : s ≤ logF v.length - 1 := s1
  obtain ⟨hm, he, K, hK, hK9, hn, hKt⟩ := vecL_ok h
  have h512 := pow_le_512 hK9
  have hd1 : d.1 = modF f := by rw [hd]; rfl
  have hd2 : d.2.1 = genF f := by rw [hd]; rfl
  have hpm := (mod_is hm).1
  have hp' := hpm
  unfold IsMod at hp'
  have hpd : IsMod d.1 := by rw [hd1]; exact hpm
  obtain ⟨l, rfl⟩ := Int.eq_ofNat_of_zero_le s0
  rw [hK] at s1
  have hl : l < K := by omega
  have hsp := len_split hl
  have hhf := half_split hl
  have hh := pow_pos2 l
  have hel : ∀ t, El d.1 (v.getD t 0) := fun t => elems_getD hpd (by rw [hd1]; exact he) t
  have hzl : ∀ B, (rgZ d v l B).length = v.length := fun B => rgm_len _ _
  have hrt : rootI d ((l : Int) + 1) = rootI d ((l + 1 : Nat) : Int) := rfl
  simp only [Int.toNat_natCast, exists_const, and_true, true_and, implies_true, decide_eq_true_eq, decide_eq_false_iff_not, Bool.not_eq_true', Bool.not_eq_false', beq_iff_eq, forall_const]
  simp only [shlN (show l ≤ 10 by omega), Int.toNat_natCast, wrap_small (n := (l : Int) + 1) (by omega), hrt, tw_impl d hpd, hzl, List.length_set]
  refine ⟨⟨by omega, by omega, by show (v.length : Int) * ((8 : Nat) : Int) ≤ 140737488355328; omega⟩, by omega, ⟨hpd, by rw [hd1, hd2]; exact (gen_ok hm).1, (by show (0 : Int) ≤ (l : Int) + 1; omega), (by show (l : Int) + 1 ≤ (30 : Int); omega)⟩, fun _ => ⟨by omega, ⟨by omega, ?_⟩, fun x hx => ⟨fun h2 => ⟨Nat.zero_le _, ⟨⟨?_, rfl⟩, by rw [Nat.add_zero]⟩, fun y hy => ⟨fun h3 => ?_, fun h3 => ?_⟩⟩, fun h2 => ?_⟩⟩⟩
  · rw [Nat.zero_mul]
    refine List.ext_getElem (by rw [hzl, List.length_replicate]) fun t h1 h2 => ?_
    simp [rgZ]
  · unfold twF powM
    rw [Nat.mul_zero, Int.pow_zero, Int.emod_eq_of_lt (by omega) (by omega)]
  · have hy' : y < 2 ^ l := by omega
    have hx' : x < 2 ^ (K - l - 1) := by
      rcases Nat.lt_or_ge x (2 ^ (K - l - 1)) with e | e
      · exact e
      · have := Nat.mul_le_mul_right (2 * 2 ^ l) e
        rw [Nat.mul_comm (2 ^ (K - l - 1))] at this
        omega
    have hB : x * 2 ^ l + y < 2 ^ l * 2 ^ (K - l - 1) := by
      have := Nat.mul_le_mul_right (2 ^ l) (show x + 1 ≤ 2 ^ (K - l - 1) by omega)
      rw [Nat.add_mul, Nat.one_mul, Nat.mul_comm (2 ^ (K - l - 1))] at this
      omega
    have hid := B_idx (x := x) hy'
    have hlt := idx_lt hh hB
    have i1 : IntKind.i64.wrap (((x * (2 * 2 ^ l) : Nat) : Int) + (y : Int)) = ((idxB (2 ^ l) (x * 2 ^ l + y) : Nat) : Int) := by rw [hid, wrap_small (by omega)]; omega
    have i2 : IntKind.i64.wrap (((idxB (2 ^ l) (x * 2 ^ l + y) : Nat) : Int) + ((2 ^ l : Nat) : Int)) = ((idxB (2 ^ l) (x * 2 ^ l + y) + 2 ^ l : Nat) : Int) := by rw [wrap_small (by omega)]; omega
    have hst := rz_step (d := d) (v := v) (l := l) (B := x * 2 ^ l + y)
    rw [stg_lo, stg_hi, (B_div (x := x) hy').2] at hst
    have htw : mulM d.1 (twF d l y) (rootI d ((l + 1 : Nat) : Int)) = twF d l (y + 1) := by
      rw [← tw_impl d hpd, ← tw_impl d hpd]
      unfold mulM powM
      rw [mul_mod_l, ← Int.pow_succ]
    have etw : ∀ j, El d.1 (twF d l j) := fun j => el_powM hpd _ _
    simp only [i1, i2, htw, Int.toNat_natCast]
    refine ⟨⟨by omega, by omega⟩, ⟨by omega, by omega⟩, ⟨hpd, hel _, etw _⟩, fun _ => ⟨⟨hpd, hel _, el_mulM hpd _ _⟩, fun _ => ⟨⟨by omega, by omega⟩, ⟨hpd, hel _, el_mulM hpd _ _⟩, fun _ => ⟨⟨by omega, by omega⟩, ⟨hpd, etw _, by unfold rootI; exact el_powM hpd _ _⟩, fun _ => ⟨y + 1, by omega, by omega, ⟨rfl, wrap_succ (by omega)⟩, hst⟩⟩⟩⟩⟩
  · obtain rfl : y = 2 ^ l := by omega
    have hx' : x < 2 ^ (K - l - 1) := by
      rcases Nat.lt_or_ge x (2 ^ (K - l - 1)) with e | e
      · exact e
      · have := Nat.mul_le_mul_right (2 * 2 ^ l) e
        rw [Nat.mul_comm (2 ^ (K - l - 1))] at this
        omega
    have hx2 := Nat.mul_le_mul_right (2 * 2 ^ l) (show x + 1 ≤ 2 ^ (K - l - 1) by omega)
    rw [Nat.mul_comm (2 ^ (K - l - 1))] at hx2
    have hx3 : (x + 1) * (2 * 2 ^ l) = x * (2 * 2 ^ l) + 2 * 2 ^ l := by rw [Nat.add_mul, Nat.one_mul]
    have hx4 : x < 2 ^ K := by
      have : x * 1 ≤ x * (2 * 2 ^ l) := Nat.mul_le_mul_left x (by omega)
      omega
    refine ⟨x + 1, by omega, by omega, ?_, by rw [Nat.add_mul, Nat.one_mul]⟩
    rw [wrap_small (n := 2 * ((2 ^ l : Nat) : Int)) (by omega), wrap_small (by omega)]
    omega
  · have hxe : x * (2 * 2 ^ l) = 2 ^ (K - l - 1) * (2 * 2 ^ l) := by rw [Nat.mul_comm (2 ^ (K - l - 1))]; omega
    have hxm := Nat.eq_of_mul_eq_mul_right (show 0 < 2 * 2 ^ l by omega) hxe
    rw [hn, hhf, hxm, Nat.mul_comm]
    refine List.ext_getElem (by rw [hzl, rg_len]) fun t h1 h2 => ?_
    rw [hzl] at h1
    have hb : bOf l t < 2 ^ l * 2 ^ (K - l - 1) := bOf_lt (by omega)
    simp only [rgZ, rgL, List.getElem_map, List.getElem_range]
    rw [if_pos hb, if_pos ⟨Nat.zero_le _, hb⟩]
end Go.SF
