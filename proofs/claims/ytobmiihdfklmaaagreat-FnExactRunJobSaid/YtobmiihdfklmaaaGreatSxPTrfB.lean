/- Transforms, from the code: what is left. No condition. -/
import Derived.Test.YtobmiihdfklmaaaGreatSxPTrf
import Derived.Test.YtobmiihdfklmaaaGreatSxPJobT
namespace Go.SF
open Go.SX Go
set_option linter.unusedVariables false
set_option linter.unusedSimpArgs false
theorem twP_len (p : Int) (a b : List Int) (n : Nat) : (twP p a b n).length = n := rgm_len _ _
theorem v_S_Twisted :
 ∀ (d : Int × List Int × List Int), Ty.wf i64T d.1 ∧ Ty.wf listT d.2.1 ∧ Ty.wf listT d.2.2 → True → True ∧ ((!twoVF d.1 d.2.1 d.2.2) = true → [] = twstF d.1 d.2.1 d.2.2) ∧ ((!twoVF d.1 d.2.1 d.2.2) = false → True ∧
 (Ty.wf i64T (modF d.1) → (0 : Nat) ≤ d.2.1.length ∧ ((d.1 = d.1 ∧ d.2.1 = d.2.1 ∧ d.2.2 = d.2.2 ∧ Value.slice none (0 : Nat) (0 : Nat) = Value.slice none (0 : Nat) (0 : Nat) ∧ modF d.1 = modF d.1 ∧ (↑d.2.1.length : Int)
 = (↑d.2.1.length : Int) ∧ (0 : Int) = (↑(0 : Nat) : Int)) ∧ [] = twP (modF d.1) d.2.1 d.2.2 (0 : Nat)) ∧ ∀ (x : Nat), x ≤ d.2.1.length → (decide ((↑x : Int) < (↑d.2.1.length : Int)) = true → (0 : Nat) ≤ d.2.1.length ∧
 ((d.1 = d.1 ∧ d.2.1 = d.2.1 ∧ d.2.2 = d.2.2 ∧ Value.slice none (0 : Nat) (0 : Nat) = Value.slice none (0 : Nat) (0 : Nat) ∧ modF d.1 = modF d.1 ∧ (↑d.2.1.length : Int) = (↑d.2.1.length : Int) ∧ (↑x : Int) = (↑x : Int) ∧
 (0 : Int) = twA (modF d.1) d.2.1 d.2.2 x (0 : Nat) ∧ (0 : Int) = (↑(0 : Nat) : Int)) ∧ twP (modF d.1) d.2.1 d.2.2 x = twP (modF d.1) d.2.1 d.2.2 x) ∧ ∀ (x_1 : Nat), x_1 ≤ d.2.1.length → (decide ((↑x_1 : Int) <
 (↑d.2.1.length : Int)) = true → ((0 : Int) ≤ (↑x_1 : Int) ∧ (↑x_1 : Int) < (↑d.2.1.length : Int)) ∧ (↑d.2.1.length : Int) ≠ (0 : Int) ∧ ((0 : Int) ≤ Int.tmod (IntKind.wrap IntKind.i64 (IntKind.wrap IntKind.i64 ((↑x :
 Int) - (↑x_1 : Int)) + (↑d.2.1.length : Int))) (↑d.2.1.length : Int) ∧ Int.tmod (IntKind.wrap IntKind.i64 (IntKind.wrap IntKind.i64 ((↑x : Int) - (↑x_1 : Int)) + (↑d.2.1.length : Int))) (↑d.2.1.length : Int) <
 (↑d.2.2.length : Int)) ∧ modF d.1 ≠ (0 : Int) ∧ (decide ((↑x : Int) < (↑x_1 : Int)) = true → modF d.1 ≠ (0 : Int) ∧ ∃ (x' : Nat), x' ≤ d.2.1.length ∧ d.2.1.length - x' < d.2.1.length - x_1 ∧ (d.1 = d.1 ∧ d.2.1 = d.2.1 ∧
 d.2.2 = d.2.2 ∧ Value.slice none (0 : Nat) (0 : Nat) = Value.slice none (0 : Nat) (0 : Nat) ∧ modF d.1 = modF d.1 ∧ (↑d.2.1.length : Int) = (↑d.2.1.length : Int) ∧ (↑x : Int) = (↑x : Int) ∧ Int.tmod (IntKind.wrap
 IntKind.i64 (twA (modF d.1) d.2.1 d.2.2 x x_1 + IntKind.wrap IntKind.i64 (modF d.1 - Int.tmod (IntKind.wrap IntKind.i64 (d.2.1.getD (Int.toNat (↑x_1 : Int)) (0 : Int) * d.2.2.getD (Int.toNat (Int.tmod (IntKind.wrap
 IntKind.i64 (IntKind.wrap IntKind.i64 ((↑x : Int) - (↑x_1 : Int)) + (↑d.2.1.length : Int))) (↑d.2.1.length : Int))) (0 : Int))) (modF d.1)))) (modF d.1) = twA (modF d.1) d.2.1 d.2.2 x x' ∧ IntKind.wrap IntKind.i64
 ((↑x_1 : Int) + (1 : Int)) = (↑x' : Int)) ∧ twP (modF d.1) d.2.1 d.2.2 x = twP (modF d.1) d.2.1 d.2.2 x) ∧ (decide ((↑x : Int) < (↑x_1 : Int)) = false → modF d.1 ≠ (0 : Int) ∧ ∃ (x' : Nat), x' ≤ d.2.1.length ∧
 d.2.1.length - x' < d.2.1.length - x_1 ∧ (d.1 = d.1 ∧ d.2.1 = d.2.1 ∧ d.2.2 = d.2.2 ∧ Value.slice none (0 : Nat) (0 : Nat) = Value.slice none (0 : Nat) (0 : Nat) ∧ modF d.1 = modF d.1 ∧ (↑d.2.1.length : Int) =
 (↑d.2.1.length : Int) ∧ (↑x : Int) = (↑x : Int) ∧ Int.tmod (IntKind.wrap IntKind.i64 (twA (modF d.1) d.2.1 d.2.2 x x_1 + Int.tmod (IntKind.wrap IntKind.i64 (d.2.1.getD (Int.toNat (↑x_1 : Int)) (0 : Int) * d.2.2.getD
 (Int.toNat (Int.tmod (IntKind.wrap IntKind.i64 (IntKind.wrap IntKind.i64 ((↑x : Int) - (↑x_1 : Int)) + (↑d.2.1.length : Int))) (↑d.2.1.length : Int))) (0 : Int))) (modF d.1))) (modF d.1) = twA (modF d.1) d.2.1 d.2.2 x
 x' ∧ IntKind.wrap IntKind.i64 ((↑x_1 : Int) + (1 : Int)) = (↑x' : Int)) ∧ twP (modF d.1) d.2.1 d.2.2 x = twP (modF d.1) d.2.1 d.2.2 x)) ∧ (decide ((↑x_1 : Int) < (↑d.2.1.length : Int)) = false → (List.length (twP (modF
 d.1) d.2.1 d.2.2 x) + List.length [twA (modF d.1) d.2.1 d.2.2 x x_1]) * (8 : Nat) ≤ (140737488355328 : Nat) ∧ ∃ (x' : Nat), x' ≤ d.2.1.length ∧ d.2.1.length - x' < d.2.1.length - x ∧ (d.1 = d.1 ∧ d.2.1 = d.2.1 ∧ d.2.2 =
 d.2.2 ∧ Value.slice none (0 : Nat) (0 : Nat) = Value.slice none (0 : Nat) (0 : Nat) ∧ modF d.1 = modF d.1 ∧ (↑d.2.1.length : Int) = (↑d.2.1.length : Int) ∧ IntKind.wrap IntKind.i64 ((↑x : Int) + (1 : Int)) = (↑x' :
 Int)) ∧ twP (modF d.1) d.2.1 d.2.2 x ++ [twA (modF d.1) d.2.1 d.2.2 x x_1] = twP (modF d.1) d.2.1 d.2.2 x')) ∧ (decide ((↑x : Int) < (↑d.2.1.length : Int)) = false → twP (modF d.1) d.2.1 d.2.2 x = twstF d.1 d.2.1
 d.2.2))) := by
  intro d hw hp
  obtain ⟨f, a, b⟩ := d
  simp only [Int.toNat_natCast, exists_const, and_true, true_and, implies_true, decide_eq_true_eq, decide_eq_false_iff_not, Bool.not_eq_true', Bool.not_eq_false', beq_iff_eq, forall_const]
  refine ⟨fun h => by unfold twstF; rw [if_neg (by rw [h]; simp)], fun h _ => ?_⟩
  obtain ⟨hab, ha, hb⟩ := two_vec h
  obtain ⟨hm, hea, _⟩ := vecL_ok ha
  obtain ⟨_, heb, _⟩ := vecL_ok hb
  obtain ⟨l1, l2, l3, l4⟩ := vec512 ha
  have hpm := (mod_is hm).1
  have hp' := hpm
  unfold IsMod at hp'
  refine ⟨Nat.zero_le _, ⟨rfl, rfl⟩, fun i hi => ⟨fun hil => ⟨Nat.zero_le _, ⟨rfl, rfl⟩, fun j hj => ⟨fun hjl => ?_, fun hjg => ⟨?_, i + 1, by omega, by omega, ?_, ?_⟩⟩⟩, fun hig => ?_⟩⟩
  · have hidx : (IntKind.i64.wrap (IntKind.i64.wrap ((i : Int) - (j : Int)) + (a.length : Int))).tmod (a.length : Int) = (((i + a.length - j) % a.length : Nat) : Int) := by
      rw [wrap_small (n := (i : Int) - j) (by omega), wrap_small (by omega), Int.tmod_eq_emod_of_nonneg (by omega)]
      have : (i : Int) - j + a.length = ((i + a.length - j : Nat) : Int) := by omega
      rw [this]; rfl
    have hlt : (i + a.length - j) % a.length < a.length := Nat.mod_lt _ l1
    have hts := ts_same (p := modF f) (a := a) (b := b) (i := i) (by omega) j (by omega)
    have hts1 := ts_same (p := modF f) (a := a) (b := b) (i := i) (by omega) (j + 1) (by omega)
    rw [tsS, hts] at hts1
    have e4 := tw_el hpm a b i j
    unfold El at e4
    have e1 := mul_le_sq hpm (elems_getD hpm hea j) (elems_getD hpm heb ((i + a.length - j) % a.length))
    rw [hidx, Int.toNat_natCast, wrap_small (n := a.getD j 0 * b.getD ((i + a.length - j) % a.length) 0) (by omega), Int.tmod_eq_emod_of_nonneg e1.1]
    have e5 := el_mod (p := modF f) (by omega) (a.getD j 0 * b.getD ((i + a.length - j) % a.length) 0)
    unfold El at e5
    generalize a.getD j 0 * b.getD ((i + a.length - j) % a.length) 0 % modF f = X at *
    refine ⟨⟨by omega, hjl⟩, by omega, ⟨by omega, by omega⟩, hm, fun hc => ⟨hm, j + 1, by omega, by omega, ?_, ?_⟩, fun hc => ⟨hm, j + 1, by omega, by omega, ?_, ?_⟩⟩
    · rw [if_pos (by omega)] at hts1
      rw [wrap_small (n := modF f - X) (by omega), wrap_small (by omega), Int.tmod_eq_emod_of_nonneg (by omega), hts1]
    · rw [wrap_small (by omega)]; rfl
    · rw [if_neg (by omega)] at hts1
      rw [wrap_small (by omega), Int.tmod_eq_emod_of_nonneg (by omega), hts1]
    · rw [wrap_small (by omega)]; rfl
  · rw [twP_len, List.length_singleton]; omega
  · rw [wrap_small (by omega)]; rfl
  · rw [show j = a.length by omega]
    simp [twP, List.range_succ]
  · rw [show i = a.length by omega]
    unfold twstF twP
    rw [if_pos h]
theorem vecs_no {f : Int} {ls : List (List Int)} {k : Nat} (hk : k < ls.length) (h : ¬ (vectorOkF f (ls.getD k []) = true ∧ (ls.getD k []).length = (ls.getD 0 []).length)) : ((0, 0, 0), false) = vecsF f ls := by
  unfold vecsF
  rw [if_neg]
  intro hb
  unfold vecsB at hb
  have hb := of_decide_eq_true hb
  apply h
  refine hb _ ?_
  rw [List.getD_eq_getElem?_getD, List.getElem?_eq_getElem hk]
  exact List.getElem_mem _
theorem v_I_vectorField2 :
 ∀ (d : Int × List (List Int)), Ty.wf i64T d.1 ∧ Ty.wf (Ty.sl listT) d.2 → d.2.length = (2 : Nat) → True ∧ (Ty.wf fldT (Prod.fst (fieldF d.1)) ∧ Ty.wf Ty.bool (Prod.snd (fieldF d.1)) → ((!Prod.snd (fieldF d.1)) = true →
 (((0 : Int), (0 : Int), (0 : Int)), false) = vecsF d.1 d.2) ∧ ((!Prod.snd (fieldF d.1)) = false → ((0 : Nat) ≤ d.2.length ∧ VecJ d.1 d.2 (0 : Nat)) ∧ ((d.1 = d.1 ∧ d.2 = d.2 ∧ Prod.snd (fieldF d.1) = Prod.snd (fieldF
 d.1) ∧ d.2 = d.2 ∧ (↑d.2.length : Int) = (↑d.2.length : Int) ∧ (0 : Int) = (↑(0 : Nat) : Int)) ∧ ((0 : Int) = (0 : Int) ∧ (0 : Int) = (0 : Int) ∧ (0 : Int) = (0 : Int)) ∧ Prod.fst (Prod.fst (fieldF d.1)) = Prod.fst
 (Prod.fst (fieldF d.1)) ∧ Prod.fst (Prod.snd (Prod.fst (fieldF d.1))) = Prod.fst (Prod.snd (Prod.fst (fieldF d.1))) ∧ Prod.snd (Prod.snd (Prod.fst (fieldF d.1))) = Prod.snd (Prod.snd (Prod.fst (fieldF d.1)))) ∧ ∀ (x :
 Nat), x ≤ d.2.length ∧ VecJ d.1 d.2 x → (decide ((↑x : Int) < (↑d.2.length : Int)) = true → ((0 : Int) ≤ (↑x : Int) ∧ (↑x : Int) < (↑d.2.length : Int)) ∧ True ∧ (Ty.wf i64T (logF (↑(List.length (d.2.getD (Int.toNat (↑x
 : Int)) [])) : Int)) → (decide (logF (↑(List.length (d.2.getD (Int.toNat (↑x : Int)) [])) : Int) < (0 : Int)) = true → (((0 : Int), (0 : Int), (0 : Int)), false) = vecsF d.1 d.2) ∧ (decide (logF (↑(List.length (d.2.getD
 (Int.toNat (↑x : Int)) [])) : Int) < (0 : Int)) = false → (decide (Prod.snd (Prod.snd (Prod.fst (fieldF d.1))) < logF (↑(List.length (d.2.getD (Int.toNat (↑x : Int)) [])) : Int)) = true → (((0 : Int), (0 : Int), (0 :
 Int)), false) = vecsF d.1 d.2) ∧ (decide (Prod.snd (Prod.snd (Prod.fst (fieldF d.1))) < logF (↑(List.length (d.2.getD (Int.toNat (↑x : Int)) [])) : Int)) = false → True ∧ ((!elemsF (Prod.fst (Prod.fst (fieldF d.1)))
 (d.2.getD (Int.toNat (↑x : Int)) [])) = true → (((0 : Int), (0 : Int), (0 : Int)), false) = vecsF d.1 d.2) ∧ ((!elemsF (Prod.fst (Prod.fst (fieldF d.1))) (d.2.getD (Int.toNat (↑x : Int)) [])) = false → ((0 : Int) ≤ (0 :
 Int) ∧ (0 : Int) < (↑d.2.length : Int)) ∧ ((!decide ((↑(List.length (d.2.getD (Int.toNat (↑x : Int)) [])) : Int) = (↑(List.length (d.2.getD (Int.toNat (0 : Int)) [])) : Int))) = true → (((0 : Int), (0 : Int), (0 :
 Int)), false) = vecsF d.1 d.2) ∧ ((!decide ((↑(List.length (d.2.getD (Int.toNat (↑x : Int)) [])) : Int) = (↑(List.length (d.2.getD (Int.toNat (0 : Int)) [])) : Int))) = false → ∃ (x' : Nat), (x' ≤ d.2.length ∧ VecJ d.1
 d.2 x') ∧ d.2.length - x' < d.2.length - x ∧ (d.1 = d.1 ∧ d.2 = d.2 ∧ Prod.snd (fieldF d.1) = Prod.snd (fieldF d.1) ∧ d.2 = d.2 ∧ (↑d.2.length : Int) = (↑d.2.length : Int) ∧ IntKind.wrap IntKind.i64 ((↑x : Int) + (1 :
 Int)) = (↑x' : Int)) ∧ ((0 : Int) = (0 : Int) ∧ (0 : Int) = (0 : Int) ∧ (0 : Int) = (0 : Int)) ∧ Prod.fst (Prod.fst (fieldF d.1)) = Prod.fst (Prod.fst (fieldF d.1)) ∧ Prod.fst (Prod.snd (Prod.fst (fieldF d.1))) =
 Prod.fst (Prod.snd (Prod.fst (fieldF d.1))) ∧ Prod.snd (Prod.snd (Prod.fst (fieldF d.1))) = Prod.snd (Prod.snd (Prod.fst (fieldF d.1))))))))) ∧ (decide ((↑x : Int) < (↑d.2.length : Int)) = false → (Prod.fst (fieldF
 d.1), true) = vecsF d.1 d.2))) := by
  intro d hw hp
  obtain ⟨f, ls⟩ := d
  replace hp : ls.length = 2 := hp
  simp only [Int.toNat_natCast, exists_const, and_true, true_and, implies_true, decide_eq_true_eq, decide_eq_false_iff_not, Bool.not_eq_true', Bool.not_eq_false', beq_iff_eq, forall_const]
  refine fun _ => ⟨fun h => ?_, fun h => ?_⟩
  · have hm : modF f = 0 := by
      rcases mod_cases f with h1 | h1
      · exact h1.1
      · have := field_ok.2 h1.2
        rw [h] at this; cases this
    refine vecs_no (k := 0) (by omega) (fun hv => ?_)
    exact (vecL_ok hv.1).1 hm
  · have hf := field_ok.1 h
    have hm : modF f ≠ 0 := by have := (mod_pos hf).1; omega
    have ht : twoF f = (fieldF f).1.2.2 := by unfold twoF; rw [if_pos h]
    have hmo : (fieldF f).1.1 = modF f := rfl
    refine ⟨⟨Nat.zero_le _, fun i hi => absurd hi (Nat.not_lt_zero _)⟩, rfl, fun k hk => ⟨fun hlt => ⟨⟨by omega, hlt⟩, fun _ => ?_⟩, fun hge => ?_⟩⟩
    · have hkl : k < ls.length := by omega
      refine ⟨fun h1 => ?_, fun h1 => ⟨fun h2 => ?_, fun h2 => ⟨fun h3 => ?_, fun h3 => ⟨⟨by omega, by omega⟩, fun h4 => ?_, fun h4 => ⟨k + 1, ⟨by omega, fun i hi => ?_⟩, by omega, ?_⟩⟩⟩⟩⟩
      · refine vecs_no hkl (fun hv => ?_)
        have := (vec512 hv.1).2.2.1
        omega
      · refine vecs_no hkl (fun hv => ?_)
        obtain ⟨_, _, K, hK, _, _, hKt⟩ := vecL_ok hv.1
        omega
      · refine vecs_no hkl (fun hv => ?_)
        obtain ⟨_, he, _⟩ := vecL_ok hv.1
        rw [hmo, he] at h3; cases h3
      · refine vecs_no hkl (fun hv => ?_)
        have := hv.2
        rw [this] at h4
        exact h4 rfl
      · rcases Nat.lt_or_ge i k with hik | hik
        · exact hk.2 i hik
        · have : i = k := by omega
          subst this
          refine ⟨?_, by exact_mod_cast h4⟩
          unfold vectorOkF
          simp only [Bool.and_eq_true, decide_eq_true_eq]
          exact ⟨⟨by omega, by omega⟩, spec_of hm (by rw [← hmo]; exact h3)⟩
      · have := hk.1
        rw [wrap_small (by omega)]; rfl
    · unfold vecsF
      have hb : vecsB f ls = true := by
        unfold vecsB
        refine decide_eq_true fun v hv => ?_
        obtain ⟨i, hi, rfl⟩ := List.getElem_of_mem hv
        have := hk.2 i (by have := hk.1; omega)
        rw [List.getD_eq_getElem?_getD, List.getElem?_eq_getElem hi] at this
        exact this
      rw [if_pos hb]
theorem v_I_backward :
 ∀ (d : (Int × Int × Int) × List Int), Ty.wf fldT d.1 ∧ Ty.wf listT d.2 → VecD d.1 d.2 → d.1.1 ≠ (0 : Int) ∧ (IsMod d.1.1 ∧ El d.1.1 (Int.tmod (↑d.2.length : Int) d.1.1)) ∧ (Ty.wf i64T (invM d.1.1 (Int.tmod (↑d.2.length
 : Int) d.1.1)) → ((0 : Int) ≤ (↑d.2.length : Int) ∧ (↑d.2.length : Int) ≤ (↑d.2.length : Int) ∧ (↑d.2.length : Int) * (↑(8 : Nat) : Int) ≤ (140737488355328 : Int)) ∧ VecD d.1 d.2 ∧ (Ty.wf listT (dftL d.1.1 d.2 (rootI
 d.1 (logF (↑d.2.length : Int))) d.2.length) → (0 : Nat) ≤ d.2.length ∧ (((d.1.1 = d.1.1 ∧ d.1.2.1 = d.1.2.1 ∧ d.1.2.2 = d.1.2.2) ∧ d.2 = d.2 ∧ Value.slice none (0 : Nat) (0 : Nat) = Value.slice none (0 : Nat) (0 : Nat)
 ∧ (↑d.2.length : Int) = (↑d.2.length : Int) ∧ invM d.1.1 (Int.tmod (↑d.2.length : Int) d.1.1) = invM d.1.1 (Int.tmod (↑d.2.length : Int) d.1.1) ∧ (↑(List.length (dftL d.1.1 d.2 (rootI d.1 (logF (↑d.2.length : Int)))
 d.2.length)) : Int) = (↑(List.length (dftL d.1.1 d.2 (rootI d.1 (logF (↑d.2.length : Int))) d.2.length)) : Int) ∧ (0 : Int) = (↑(0 : Nat) : Int)) ∧ (d.1.1 = d.1.1 ∧ d.1.2.1 = d.1.2.1 ∧ d.1.2.2 = d.1.2.2) ∧
 List.replicate (Int.toNat (↑d.2.length : Int)) (0 : Int) = bkP d.1.1 (rootI d.1 (logF (↑d.2.length : Int))) (invM d.1.1 (redM d.1.1 (↑d.2.length : Int))) d.2 (0 : Nat) ∧ dftL d.1.1 d.2 (rootI d.1 (logF (↑d.2.length :
 Int))) d.2.length = dftL d.1.1 d.2 (rootI d.1 (logF (↑d.2.length : Int))) d.2.length) ∧ ∀ (x : Nat), x ≤ d.2.length → (decide ((↑x : Int) < (↑(List.length (dftL d.1.1 d.2 (rootI d.1 (logF (↑d.2.length : Int)))
 d.2.length)) : Int)) = true → ((0 : Int) ≤ (↑x : Int) ∧ (↑x : Int) < (↑(List.length (dftL d.1.1 d.2 (rootI d.1 (logF (↑d.2.length : Int))) d.2.length)) : Int)) ∧ (↑d.2.length : Int) ≠ (0 : Int) ∧ (IsMod d.1.1 ∧ El d.1.1
 (List.getD (dftL d.1.1 d.2 (rootI d.1 (logF (↑d.2.length : Int))) d.2.length) (Int.toNat (↑x : Int)) (0 : Int)) ∧ El d.1.1 (invM d.1.1 (Int.tmod (↑d.2.length : Int) d.1.1))) ∧ ((0 : Int) ≤ Int.tmod (IntKind.wrap
 IntKind.i64 ((↑d.2.length : Int) - (↑x : Int))) (↑d.2.length : Int) ∧ Int.tmod (IntKind.wrap IntKind.i64 ((↑d.2.length : Int) - (↑x : Int))) (↑d.2.length : Int) < (↑(List.length (bkP d.1.1 (rootI d.1 (logF (↑d.2.length
 : Int))) (invM d.1.1 (redM d.1.1 (↑d.2.length : Int))) d.2 x)) : Int)) ∧ (Ty.wf i64T (mulM d.1.1 (List.getD (dftL d.1.1 d.2 (rootI d.1 (logF (↑d.2.length : Int))) d.2.length) (Int.toNat (↑x : Int)) (0 : Int)) (invM
 d.1.1 (Int.tmod (↑d.2.length : Int) d.1.1))) → ∃ (x' : Nat), x' ≤ d.2.length ∧ d.2.length - x' < d.2.length - x ∧ ((d.1.1 = d.1.1 ∧ d.1.2.1 = d.1.2.1 ∧ d.1.2.2 = d.1.2.2) ∧ d.2 = d.2 ∧ Value.slice none (0 : Nat) (0 :
 Nat) = Value.slice none (0 : Nat) (0 : Nat) ∧ (↑d.2.length : Int) = (↑d.2.length : Int) ∧ invM d.1.1 (Int.tmod (↑d.2.length : Int) d.1.1) = invM d.1.1 (Int.tmod (↑d.2.length : Int) d.1.1) ∧ (↑(List.length (dftL d.1.1
 d.2 (rootI d.1 (logF (↑d.2.length : Int))) d.2.length)) : Int) = (↑(List.length (dftL d.1.1 d.2 (rootI d.1 (logF (↑d.2.length : Int))) d.2.length)) : Int) ∧ IntKind.wrap IntKind.i64 ((↑x : Int) + (1 : Int)) = (↑x' :
 Int)) ∧ (d.1.1 = d.1.1 ∧ d.1.2.1 = d.1.2.1 ∧ d.1.2.2 = d.1.2.2) ∧ List.set (bkP d.1.1 (rootI d.1 (logF (↑d.2.length : Int))) (invM d.1.1 (redM d.1.1 (↑d.2.length : Int))) d.2 x) (Int.toNat (Int.tmod (IntKind.wrap
 IntKind.i64 ((↑d.2.length : Int) - (↑x : Int))) (↑d.2.length : Int))) (mulM d.1.1 (List.getD (dftL d.1.1 d.2 (rootI d.1 (logF (↑d.2.length : Int))) d.2.length) (Int.toNat (↑x : Int)) (0 : Int)) (invM d.1.1 (Int.tmod
 (↑d.2.length : Int) d.1.1))) = bkP d.1.1 (rootI d.1 (logF (↑d.2.length : Int))) (invM d.1.1 (redM d.1.1 (↑d.2.length : Int))) d.2 x' ∧ dftL d.1.1 d.2 (rootI d.1 (logF (↑d.2.length : Int))) d.2.length = dftL d.1.1 d.2
 (rootI d.1 (logF (↑d.2.length : Int))) d.2.length)) ∧ (decide ((↑x : Int) < (↑(List.length (dftL d.1.1 d.2 (rootI d.1 (logF (↑d.2.length : Int))) d.2.length)) : Int)) = false → bkP d.1.1 (rootI d.1 (logF (↑d.2.length :
 Int))) (invM d.1.1 (redM d.1.1 (↑d.2.length : Int))) d.2 x = bkL d.1.1 (rootI d.1 (logF (↑d.2.length : Int))) (invM d.1.1 (↑d.2.length : Int)) d.2))) := by
  intro d hw hp
  obtain ⟨d, v⟩ := d
  obtain ⟨f, h, hd⟩ := hp
  replace h : vectorOkF f v = true := h
  replace hd : d = (fieldF f).1 := hd
  obtain ⟨hm, he, K, hK, hK9, hlen, hKt⟩ := vecL_ok h
  obtain ⟨l1, l2, l3, l4⟩ := vec512 h
  have hpm := (mod_is hm).1
  have hp' := hpm
  unfold IsMod at hp'
  have hd1 : d.1 = modF f := by rw [hd]; rfl
  have htm : (v.length : Int).tmod d.1 = redM d.1 v.length := by rw [Int.tmod_eq_emod_of_nonneg (by omega)]; rfl
  have hpd : IsMod d.1 := by rw [hd1]; exact hpm
  have hbl : ∀ w r i, (bkP d.1 w r v i).length = v.length := fun w r i => rgm_len _ _
  simp only [Int.toNat_natCast, exists_const, and_true, true_and, implies_true, decide_eq_true_eq, decide_eq_false_iff_not, Bool.not_eq_true', Bool.not_eq_false', beq_iff_eq, forall_const]
  rw [htm]
  have hinv : invM d.1 (redM d.1 v.length) = invM d.1 v.length := by unfold invM powM redM; rw [pow_mod]
  generalize hw0 : rootI d (logF v.length) = w at *
  refine ⟨by omega, ⟨hpd, el_mod (by omega) _⟩, fun _ => ⟨⟨by omega, by omega, by show (v.length : Int) * ((8 : Nat) : Int) ≤ 140737488355328; omega⟩, ⟨f, h, hd⟩, fun _ => ⟨Nat.zero_le _, ⟨rfl, ?_⟩, fun i hi => ⟨fun hlt => ?_, fun hge => ?_⟩⟩⟩⟩
  · refine List.ext_getElem (by rw [hbl, List.length_replicate]) fun t h1 h2 => ?_
    simp [bkP]
  · rw [dftL_len] at hlt ⊢
    have hi' : i < v.length := by omega
    have hidx : (IntKind.i64.wrap ((v.length : Int) - (i : Int))).tmod (v.length : Int) = (((v.length - i) % v.length : Nat) : Int) := by
      rw [wrap_small (by omega), Int.tmod_eq_emod_of_nonneg (by omega)]
      have : (v.length : Int) - i = ((v.length - i : Nat) : Int) := by omega
      rw [this]; rfl
    have hml : (v.length - i) % v.length < v.length := Nat.mod_lt _ l1
    rw [dftL_get _ _ _ hi', hidx, Int.toNat_natCast, hbl]
    refine ⟨⟨by omega, hlt⟩, by omega, ⟨hpd, el_mod (by omega) _, el_invM hpd _⟩, ⟨by omega, by omega⟩, fun _ => ⟨i + 1, by omega, by omega, ?_, ?_⟩⟩
    · rw [wrap_small (by omega)]; rfl
    · have hback : (v.length - (v.length - i) % v.length) % v.length = i := by
        rcases Nat.eq_zero_or_pos i with h0 | h0
        · subst h0; rw [Nat.sub_zero, Nat.mod_self, Nat.sub_zero, Nat.mod_self]
        · rw [Nat.mod_eq_of_lt (by omega : v.length - i < v.length), show v.length - (v.length - i) = i by omega, Nat.mod_eq_of_lt hi']
      refine List.ext_getElem (by rw [List.length_set, hbl, hbl]) fun t h1 h2 => ?_
      rw [hbl] at h2
      rw [List.getElem_set]
      have htl : (v.length - t) % v.length < v.length := Nat.mod_lt _ l1
      by_cases ht : (v.length - i) % v.length = t
      · rw [if_pos ht]
        subst ht
        simp only [bkP, List.getElem_map, List.getElem_range]
        rw [hback, if_pos (Nat.lt_succ_self i)]
        unfold bkAt
        rw [hback]
      · rw [if_neg ht]
        simp only [bkP, List.getElem_map, List.getElem_range]
        have hne : (v.length - t) % v.length ≠ i := by
          intro e
          apply ht
          rw [← e]
          rcases Nat.eq_zero_or_pos t with h0 | h0
          · subst h0; rw [Nat.sub_zero, Nat.mod_self, Nat.sub_zero, Nat.mod_self]
          · rw [Nat.mod_eq_of_lt (by omega : v.length - t < v.length), show v.length - (v.length - t) = t by omega, Nat.mod_eq_of_lt h2]
        by_cases hc : (v.length - t) % v.length < i
        · rw [if_pos hc, if_pos (by omega)]
        · rw [if_neg hc, if_neg (by omega)]
  · rw [dftL_len] at hge
    rw [show i = v.length by omega, hinv]
    refine List.ext_getElem (by rw [hbl]; unfold bkL; rw [rgm_len]) fun t h1 h2 => ?_
    simp only [bkP, bkL, List.getElem_map, List.getElem_range]
    rw [if_pos (Nat.mod_lt _ l1)]
end Go.SF
