/- Transforms, from the code. No condition. -/
import Derived.Test.YtobmiihdfklmaaaGreatSxC
import Derived.Test.YtobmiihdfklmaaaGreatSxPTrfT
import Derived.Test.YtobmiihdfklmaaaGreatSxPPlanC
namespace Go.SF
open Go.SX Go
set_option linter.unusedVariables false
set_option linter.unusedSimpArgs false
theorem bkS_len (p wi r : Int) (v : List Int) (n : Nat) : (bkS p wi r v n).length = n := rgm_len _ _
theorem dftL_get (p : Int) (v : List Int) (w : Int) {n t : Nat} (h : t < n) : (dftL p v w n).getD t 0 = dftAt p v w t := by simp [dftL, List.getD_eq_getElem?_getD, h]
theorem vec512 {f : Int} {v : List Int} (h : vectorOkF f v = true) : 0 < v.length ∧ v.length ≤ 512 ∧ 0 ≤ logF v.length ∧ logF v.length ≤ 9 := by
  obtain ⟨_, _, K, hK, hK9, hlen, _⟩ := vecL_ok h
  have h512 := pow_le_512 hK9
  exact ⟨by rw [hlen]; exact Nat.pow_pos (by omega), by omega, by omega, by omega⟩
theorem two_vec {f : Int} {a b : List Int} (h : twoVF f a b = true) : a.length = b.length ∧ vectorOkF f a = true ∧ vectorOkF f b = true := by
  unfold twoVF at h
  simp only [Bool.and_eq_true, decide_eq_true_eq] at h
  exact ⟨h.1.1, h.1.2, h.2⟩
theorem bk_all {f : Int} {v : List Int} (h : vectorOkF f v = true) : bkS (modF f) (invM (modF f) (rootS f (logF v.length))) (invM (modF f) v.length) v v.length = backF f v := by
  unfold backF
  rw [if_pos h]
  refine List.ext_getElem (by rw [bkS_len]; unfold bkL; rw [rgm_len]) fun t h1 h2 => ?_
  rw [bkS_len] at h1
  simp only [bkS, bkL, List.getElem_map, List.getElem_range]
  unfold bkAt
  rw [bk_same h h1]
theorem pow_inv {f : Int} (hm : modF f ≠ 0) {a : Int} (ha : a % modF f ≠ 0) : powS f a (-1) = invM (modF f) a := by
  rw [powS_at hm, powP_neg (mod_is hm).1 ha]
theorem one_ne {f : Int} (hm : modF f ≠ 0) {a r : Int} (h : a * r % modF f = 1 % modF f) : a % modF f ≠ 0 := by
  intro h0
  have hp := (mod_is hm).1
  unfold IsMod at hp
  rw [← mul_mod_l, h0, Int.zero_mul, Int.zero_emod, Int.emod_eq_of_lt (by omega) (by omega)] at h
  exact absurd h (by decide)
theorem v_S_Backward :
 ∀ (d : Int × List Int), Ty.wf i64T d.1 ∧ Ty.wf listT d.2 → True → True ∧ ((!vectorOkF d.1 d.2) = true → [] = backF d.1 d.2) ∧ ((!vectorOkF d.1 d.2) = false → True ∧ (Ty.wf i64T (logF (↑d.2.length : Int)) → True ∧ (Ty.wf
 i64T (rootS d.1 (logF (↑d.2.length : Int))) → True ∧ (Ty.wf i64T (powS d.1 (rootS d.1 (logF (↑d.2.length : Int))) (-1 : Int)) → (vectorOkF d.1 d.2 = true ∧ El (modF d.1) (powS d.1 (rootS d.1 (logF (↑d.2.length : Int)))
 (-1 : Int))) ∧ (Ty.wf listT (dftL (modF d.1) d.2 (powS d.1 (rootS d.1 (logF (↑d.2.length : Int))) (-1 : Int)) d.2.length) → True ∧ (Ty.wf i64T (powS d.1 (↑d.2.length : Int) (-1 : Int)) → (0 : Nat) ≤ d.2.length ∧ ((d.1 =
 d.1 ∧ d.2 = d.2 ∧ Value.slice none (0 : Nat) (0 : Nat) = Value.slice none (0 : Nat) (0 : Nat) ∧ powS d.1 (↑d.2.length : Int) (-1 : Int) = powS d.1 (↑d.2.length : Int) (-1 : Int) ∧ (0 : Int) = (↑(0 : Nat) : Int)) ∧ [] =
 bkS (modF d.1) (powS d.1 (rootS d.1 (logF (↑d.2.length : Int))) (-1 : Int)) (powS d.1 (↑d.2.length : Int) (-1 : Int)) d.2 (0 : Nat) ∧ dftL (modF d.1) d.2 (powS d.1 (rootS d.1 (logF (↑d.2.length : Int))) (-1 : Int))
 d.2.length = dftL (modF d.1) d.2 (powS d.1 (rootS d.1 (logF (↑d.2.length : Int))) (-1 : Int)) d.2.length) ∧ ∀ (x : Nat), x ≤ d.2.length → (decide ((↑x : Int) < (↑(List.length (dftL (modF d.1) d.2 (powS d.1 (rootS d.1
 (logF (↑d.2.length : Int))) (-1 : Int)) d.2.length)) : Int)) = true → ((0 : Int) ≤ (↑x : Int) ∧ (↑x : Int) < (↑(List.length (dftL (modF d.1) d.2 (powS d.1 (rootS d.1 (logF (↑d.2.length : Int))) (-1 : Int)) d.2.length))
 : Int)) ∧ True ∧ (Ty.wf i64T (mulS d.1 (List.getD (dftL (modF d.1) d.2 (powS d.1 (rootS d.1 (logF (↑d.2.length : Int))) (-1 : Int)) d.2.length) (Int.toNat (↑x : Int)) (0 : Int)) (powS d.1 (↑d.2.length : Int) (-1 :
 Int))) → (List.length (bkS (modF d.1) (powS d.1 (rootS d.1 (logF (↑d.2.length : Int))) (-1 : Int)) (powS d.1 (↑d.2.length : Int) (-1 : Int)) d.2 x) + List.length [mulS d.1 (List.getD (dftL (modF d.1) d.2 (powS d.1
 (rootS d.1 (logF (↑d.2.length : Int))) (-1 : Int)) d.2.length) (Int.toNat (↑x : Int)) (0 : Int)) (powS d.1 (↑d.2.length : Int) (-1 : Int))]) * (8 : Nat) ≤ (140737488355328 : Nat) ∧ ∃ (x' : Nat), x' ≤ d.2.length ∧
 d.2.length - x' < d.2.length - x ∧ (d.1 = d.1 ∧ d.2 = d.2 ∧ Value.slice none (0 : Nat) (0 : Nat) = Value.slice none (0 : Nat) (0 : Nat) ∧ powS d.1 (↑d.2.length : Int) (-1 : Int) = powS d.1 (↑d.2.length : Int) (-1 : Int)
 ∧ IntKind.wrap IntKind.i64 ((↑x : Int) + (1 : Int)) = (↑x' : Int)) ∧ bkS (modF d.1) (powS d.1 (rootS d.1 (logF (↑d.2.length : Int))) (-1 : Int)) (powS d.1 (↑d.2.length : Int) (-1 : Int)) d.2 x ++ [mulS d.1 (List.getD
 (dftL (modF d.1) d.2 (powS d.1 (rootS d.1 (logF (↑d.2.length : Int))) (-1 : Int)) d.2.length) (Int.toNat (↑x : Int)) (0 : Int)) (powS d.1 (↑d.2.length : Int) (-1 : Int))] = bkS (modF d.1) (powS d.1 (rootS d.1 (logF
 (↑d.2.length : Int))) (-1 : Int)) (powS d.1 (↑d.2.length : Int) (-1 : Int)) d.2 x' ∧ dftL (modF d.1) d.2 (powS d.1 (rootS d.1 (logF (↑d.2.length : Int))) (-1 : Int)) d.2.length = dftL (modF d.1) d.2 (powS d.1 (rootS d.1
 (logF (↑d.2.length : Int))) (-1 : Int)) d.2.length)) ∧ (decide ((↑x : Int) < (↑(List.length (dftL (modF d.1) d.2 (powS d.1 (rootS d.1 (logF (↑d.2.length : Int))) (-1 : Int)) d.2.length)) : Int)) = false → bkS (modF d.1)
 (powS d.1 (rootS d.1 (logF (↑d.2.length : Int))) (-1 : Int)) (powS d.1 (↑d.2.length : Int) (-1 : Int)) d.2 x = backF d.1 d.2))))))) := by
  intro d hw hp
  obtain ⟨f, v⟩ := d
  simp only [Int.toNat_natCast, exists_const, and_true, true_and, implies_true, decide_eq_true_eq, decide_eq_false_iff_not, Bool.not_eq_true', Bool.not_eq_false', beq_iff_eq, forall_const]
  refine ⟨fun h => by unfold backF; rw [if_neg (by rw [h]; simp)], fun h _ _ _ => ?_⟩
  obtain ⟨hm, he, K, hK, hK9, hlen, hKt⟩ := vecL_ok h
  obtain ⟨l1, l2, l3, l4⟩ := vec512 h
  have hr1 : powS f (rootS f (logF v.length)) (-1) = invM (modF f) (rootS f (logF v.length)) := by
    rw [hK]
    exact pow_inv hm (one_ne hm (root_inv hm hKt))
  have hr2 : powS f (v.length : Int) (-1) = invM (modF f) v.length := by
    refine pow_inv hm (one_ne hm (r := invM (modF f) v.length) ?_)
    rw [hlen]
    exact two_inv hm K
  rw [hr1, hr2]
  refine ⟨⟨h, el_invM (mod_is hm).1 _⟩, fun _ _ => ⟨Nat.zero_le _, ⟨rfl, rfl⟩, fun x hx => ⟨fun hlt => ?_, fun hge => ?_⟩⟩⟩
  · rw [dftL_len] at hlt ⊢
    rw [dftL_get _ _ _ (by omega), mulS_at hm]
    refine ⟨⟨by omega, hlt⟩, fun _ => ⟨by rw [bkS_len, List.length_singleton]; omega, x + 1, by omega, by omega, ?_, ?_⟩⟩
    · rw [wrap_small (by omega)]; rfl
    · simp [bkS, List.range_succ]
  · rw [dftL_len] at hge
    rw [show x = v.length by omega]
    exact bk_all h
theorem v_S_l04Two :
 ∀ (d : Int × List Int × List Int), Ty.wf i64T d.1 ∧ Ty.wf listT d.2.1 ∧ Ty.wf listT d.2.2 → True → (decide ((↑d.2.1.length : Int) = (↑d.2.2.length : Int)) = true → True ∧ (vectorOkF d.1 d.2.1 = true → True ∧ vectorOkF
 d.1 d.2.2 = twoVF d.1 d.2.1 d.2.2) ∧ (vectorOkF d.1 d.2.1 = false → false = twoVF d.1 d.2.1 d.2.2)) ∧ (decide ((↑d.2.1.length : Int) = (↑d.2.2.length : Int)) = false → false = twoVF d.1 d.2.1 d.2.2) := by
  intro d hw hp
  obtain ⟨f, a, b⟩ := d
  simp only [Int.toNat_natCast, exists_const, and_true, true_and, implies_true, decide_eq_true_eq, decide_eq_false_iff_not, Bool.not_eq_true', Bool.not_eq_false', beq_iff_eq, forall_const]
  unfold twoVF
  refine ⟨fun h => ⟨fun h1 => ?_, fun h1 => ?_⟩, fun h => ?_⟩
  · rw [decide_eq_true (show a.length = b.length by omega), h1]; rfl
  · rw [h1, Bool.and_false]; rfl
  · rw [decide_eq_false (show ¬ a.length = b.length by omega)]; rfl
theorem v_S_Cyclic :
 ∀ (d : Int × List Int × List Int), Ty.wf i64T d.1 ∧ Ty.wf listT d.2.1 ∧ Ty.wf listT d.2.2 → True → True ∧ ((!twoVF d.1 d.2.1 d.2.2) = true → [] = cycF d.1 d.2.1 d.2.2) ∧ ((!twoVF d.1 d.2.1 d.2.2) = false → True ∧ (Ty.wf
 i64T (modF d.1) → (0 : Nat) ≤ d.2.1.length ∧ ((d.1 = d.1 ∧ d.2.1 = d.2.1 ∧ d.2.2 = d.2.2 ∧ Value.slice none (0 : Nat) (0 : Nat) = Value.slice none (0 : Nat) (0 : Nat) ∧ modF d.1 = modF d.1 ∧ (↑d.2.1.length : Int) =
 (↑d.2.1.length : Int) ∧ (0 : Int) = (↑(0 : Nat) : Int)) ∧ [] = cycP (modF d.1) d.2.1 d.2.2 (0 : Nat)) ∧ ∀ (x : Nat), x ≤ d.2.1.length → (decide ((↑x : Int) < (↑d.2.1.length : Int)) = true → (0 : Nat) ≤ d.2.1.length ∧
 ((d.1 = d.1 ∧ d.2.1 = d.2.1 ∧ d.2.2 = d.2.2 ∧ Value.slice none (0 : Nat) (0 : Nat) = Value.slice none (0 : Nat) (0 : Nat) ∧ modF d.1 = modF d.1 ∧ (↑d.2.1.length : Int) = (↑d.2.1.length : Int) ∧ (↑x : Int) = (↑x : Int) ∧
 (0 : Int) = sigN (fun (j : Nat) => d.2.1.getD j (0 : Int) * d.2.2.getD ((x + d.2.1.length - j) % d.2.1.length) (0 : Int)) (0 : Nat) % modF d.1 ∧ (0 : Int) = (↑(0 : Nat) : Int)) ∧ cycP (modF d.1) d.2.1 d.2.2 x = cycP
 (modF d.1) d.2.1 d.2.2 x) ∧ ∀ (x_1 : Nat), x_1 ≤ d.2.1.length → (decide ((↑x_1 : Int) < (↑d.2.1.length : Int)) = true → ((0 : Int) ≤ (↑x_1 : Int) ∧ (↑x_1 : Int) < (↑d.2.1.length : Int)) ∧ (↑d.2.1.length : Int) ≠ (0 :
 Int) ∧ ((0 : Int) ≤ Int.tmod (IntKind.wrap IntKind.i64 (IntKind.wrap IntKind.i64 ((↑x : Int) - (↑x_1 : Int)) + (↑d.2.1.length : Int))) (↑d.2.1.length : Int) ∧ Int.tmod (IntKind.wrap IntKind.i64 (IntKind.wrap IntKind.i64
 ((↑x : Int) - (↑x_1 : Int)) + (↑d.2.1.length : Int))) (↑d.2.1.length : Int) < (↑d.2.2.length : Int)) ∧ modF d.1 ≠ (0 : Int) ∧ ∃ (x' : Nat), x' ≤ d.2.1.length ∧ d.2.1.length - x' < d.2.1.length - x_1 ∧ (d.1 = d.1 ∧ d.2.1
 = d.2.1 ∧ d.2.2 = d.2.2 ∧ Value.slice none (0 : Nat) (0 : Nat) = Value.slice none (0 : Nat) (0 : Nat) ∧ modF d.1 = modF d.1 ∧ (↑d.2.1.length : Int) = (↑d.2.1.length : Int) ∧ (↑x : Int) = (↑x : Int) ∧ Int.tmod
 (IntKind.wrap IntKind.i64 (sigN (fun (j : Nat) => d.2.1.getD j (0 : Int) * d.2.2.getD ((x + d.2.1.length - j) % d.2.1.length) (0 : Int)) x_1 % modF d.1 + IntKind.wrap IntKind.i64 (d.2.1.getD (Int.toNat (↑x_1 : Int)) (0
 : Int) * d.2.2.getD (Int.toNat (Int.tmod (IntKind.wrap IntKind.i64 (IntKind.wrap IntKind.i64 ((↑x : Int) - (↑x_1 : Int)) + (↑d.2.1.length : Int))) (↑d.2.1.length : Int))) (0 : Int)))) (modF d.1) = sigN (fun (j : Nat) =>
 d.2.1.getD j (0 : Int) * d.2.2.getD ((x + d.2.1.length - j) % d.2.1.length) (0 : Int)) x' % modF d.1 ∧ IntKind.wrap IntKind.i64 ((↑x_1 : Int) + (1 : Int)) = (↑x' : Int)) ∧ cycP (modF d.1) d.2.1 d.2.2 x = cycP (modF d.1)
 d.2.1 d.2.2 x) ∧ (decide ((↑x_1 : Int) < (↑d.2.1.length : Int)) = false → (List.length (cycP (modF d.1) d.2.1 d.2.2 x) + List.length [sigN (fun (j : Nat) => d.2.1.getD j (0 : Int) * d.2.2.getD ((x + d.2.1.length - j) %
 d.2.1.length) (0 : Int)) x_1 % modF d.1]) * (8 : Nat) ≤ (140737488355328 : Nat) ∧ ∃ (x' : Nat), x' ≤ d.2.1.length ∧ d.2.1.length - x' < d.2.1.length - x ∧ (d.1 = d.1 ∧ d.2.1 = d.2.1 ∧ d.2.2 = d.2.2 ∧ Value.slice none (0
 : Nat) (0 : Nat) = Value.slice none (0 : Nat) (0 : Nat) ∧ modF d.1 = modF d.1 ∧ (↑d.2.1.length : Int) = (↑d.2.1.length : Int) ∧ IntKind.wrap IntKind.i64 ((↑x : Int) + (1 : Int)) = (↑x' : Int)) ∧ cycP (modF d.1) d.2.1
 d.2.2 x ++ [sigN (fun (j : Nat) => d.2.1.getD j (0 : Int) * d.2.2.getD ((x + d.2.1.length - j) % d.2.1.length) (0 : Int)) x_1 % modF d.1] = cycP (modF d.1) d.2.1 d.2.2 x')) ∧ (decide ((↑x : Int) < (↑d.2.1.length : Int))
 = false → cycP (modF d.1) d.2.1 d.2.2 x = cycF d.1 d.2.1 d.2.2))) := by
  intro d hw hp
  obtain ⟨f, a, b⟩ := d
  simp only [Int.toNat_natCast, exists_const, and_true, true_and, implies_true, decide_eq_true_eq, decide_eq_false_iff_not, Bool.not_eq_true', Bool.not_eq_false', beq_iff_eq, forall_const]
  refine ⟨fun h => by unfold cycF; rw [if_neg (by rw [h]; simp)], fun h _ => ?_⟩
  obtain ⟨hab, ha, hb⟩ := two_vec h
  obtain ⟨hm, hea, _⟩ := vecL_ok ha
  obtain ⟨_, heb, _⟩ := vecL_ok hb
  obtain ⟨l1, l2, l3, l4⟩ := vec512 ha
  have hpm := (mod_is hm).1
  have hp' := hpm
  unfold IsMod at hp'
  have hcl : ∀ n, (cycP (modF f) a b n).length = n := fun n => rgm_len _ _
  refine ⟨Nat.zero_le _, ⟨rfl, rfl⟩, fun i hi => ⟨fun hil => ⟨Nat.zero_le _, ⟨?_, rfl⟩, fun j hj => ⟨fun hjl => ?_, fun hjg => ⟨?_, i + 1, by omega, by omega, ?_, ?_⟩⟩⟩, fun hig => ?_⟩⟩
  · show (0 : Int) = 0 % modF f
    rw [Int.zero_emod]
  · have hidx : (IntKind.i64.wrap (IntKind.i64.wrap ((i : Int) - (j : Int)) + (a.length : Int))).tmod (a.length : Int) = (((i + a.length - j) % a.length : Nat) : Int) := by
      rw [wrap_small (n := (i : Int) - j) (by omega), wrap_small (by omega), Int.tmod_eq_emod_of_nonneg (by omega)]
      have : (i : Int) - j + a.length = ((i + a.length - j : Nat) : Int) := by omega
      rw [this]; rfl
    have hlt : (i + a.length - j) % a.length < a.length := Nat.mod_lt _ l1
    rw [hidx, Int.toNat_natCast]
    refine ⟨⟨by omega, hjl⟩, by omega, ⟨by omega, by omega⟩, hm, j + 1, by omega, by omega, ?_, ?_⟩
    · have e1 := mul_le_sq hpm (elems_getD hpm hea j) (elems_getD hpm heb ((i + a.length - j) % a.length))
      have e4 := el_mod (p := modF f) (by omega) (sigN (fun j => a.getD j 0 * b.getD ((i + a.length - j) % a.length) 0) j)
      unfold El at e4
      rw [wrap_small (n := a.getD j 0 * b.getD ((i + a.length - j) % a.length) 0) (by omega), wrap_small (by omega), Int.tmod_eq_emod_of_nonneg (by omega), sigN, add_mod_l]
    · rw [wrap_small (by omega)]; rfl
  · rw [hcl, List.length_singleton]; omega
  · rw [wrap_small (by omega)]; rfl
  · rw [show j = a.length by omega]
    simp [cycP, List.range_succ, cycAt]
  · rw [show i = a.length by omega]
    unfold cycF cycP
    rw [if_pos h]
theorem v_I_VectorOk :
 ∀ (d : Int × List Int), Ty.wf i64T d.1 ∧ Ty.wf listT d.2 → True → List.length [d.2] = (1 : Nat) ∧ (Ty.wf fldT (Prod.fst (vecF d.1 (List.getD [d.2] (0 : Nat) []))) ∧ Ty.wf Ty.bool (Prod.snd (vecF d.1 (List.getD [d.2] (0
 : Nat) []))) → Prod.snd (vecF d.1 (List.getD [d.2] (0 : Nat) [])) = vectorOkF d.1 d.2) := by
  intro d hw hp
  obtain ⟨f, v⟩ := d
  simp only [Int.toNat_natCast, exists_const, and_true, true_and, implies_true, decide_eq_true_eq, decide_eq_false_iff_not, Bool.not_eq_true', Bool.not_eq_false', beq_iff_eq, forall_const]
  refine ⟨rfl, fun _ => ?_⟩
  exact vec_ok f v
theorem v_I_Forward :
 ∀ (d : Int × List Int), Ty.wf i64T d.1 ∧ Ty.wf listT d.2 → True → List.length [d.2] = (1 : Nat) ∧ (Ty.wf fldT (Prod.fst (vecF d.1 (List.getD [d.2] (0 : Nat) []))) ∧ Ty.wf Ty.bool (Prod.snd (vecF d.1 (List.getD [d.2] (0
 : Nat) []))) → ((!Prod.snd (vecF d.1 (List.getD [d.2] (0 : Nat) []))) = true → [] = fwdF d.1 d.2) ∧ ((!Prod.snd (vecF d.1 (List.getD [d.2] (0 : Nat) []))) = false → VecD (Prod.fst (vecF d.1 (List.getD [d.2] (0 : Nat)
 []))) d.2 ∧ (Ty.wf listT (dftL (Prod.fst (Prod.fst (vecF d.1 (List.getD [d.2] (0 : Nat) [])))) d.2 (rootI (Prod.fst (vecF d.1 (List.getD [d.2] (0 : Nat) []))) (logF (↑d.2.length : Int))) d.2.length) → dftL (Prod.fst
 (Prod.fst (vecF d.1 (List.getD [d.2] (0 : Nat) [])))) d.2 (rootI (Prod.fst (vecF d.1 (List.getD [d.2] (0 : Nat) []))) (logF (↑d.2.length : Int))) d.2.length = fwdF d.1 d.2))) := by
  intro d hw hp
  obtain ⟨f, v⟩ := d
  simp only [Int.toNat_natCast, exists_const, and_true, true_and, implies_true, decide_eq_true_eq, decide_eq_false_iff_not, Bool.not_eq_true', Bool.not_eq_false', beq_iff_eq, forall_const]
  refine ⟨rfl, fun _ => ?_⟩
  show ((vecF f v).2 = false → _) ∧ ((vecF f v).2 = true → VecD (vecF f v).1 v ∧ (_ → dftL (vecF f v).1.1 v (rootI (vecF f v).1 (logF v.length)) v.length = fwdF f v))
  rw [vec_ok]
  refine ⟨fun h => by unfold fwdF; rw [if_neg (by rw [h]; simp)], fun h => ?_⟩
  have e : vecF f v = ((fieldF f).1, true) := if_pos h
  obtain ⟨hm, he, K, hK, hK9, hlen, hKt⟩ := vecL_ok h
  rw [e]
  refine ⟨⟨f, h, rfl⟩, fun _ => ?_⟩
  unfold fwdF
  rw [if_pos h, hK]
  simp only
  rw [root_same hm hKt]
  rfl
theorem v_I_Backward :
 ∀ (d : Int × List Int), Ty.wf i64T d.1 ∧ Ty.wf listT d.2 → True → List.length [d.2] = (1 : Nat) ∧ (Ty.wf fldT (Prod.fst (vecF d.1 (List.getD [d.2] (0 : Nat) []))) ∧ Ty.wf Ty.bool (Prod.snd (vecF d.1 (List.getD [d.2] (0
 : Nat) []))) → ((!Prod.snd (vecF d.1 (List.getD [d.2] (0 : Nat) []))) = true → [] = backF d.1 d.2) ∧ ((!Prod.snd (vecF d.1 (List.getD [d.2] (0 : Nat) []))) = false → VecD (Prod.fst (vecF d.1 (List.getD [d.2] (0 : Nat)
 []))) d.2 ∧ (Ty.wf listT (bkL (Prod.fst (Prod.fst (vecF d.1 (List.getD [d.2] (0 : Nat) [])))) (rootI (Prod.fst (vecF d.1 (List.getD [d.2] (0 : Nat) []))) (logF (↑d.2.length : Int))) (invM (Prod.fst (Prod.fst (vecF d.1
 (List.getD [d.2] (0 : Nat) [])))) (↑d.2.length : Int)) d.2) → bkL (Prod.fst (Prod.fst (vecF d.1 (List.getD [d.2] (0 : Nat) [])))) (rootI (Prod.fst (vecF d.1 (List.getD [d.2] (0 : Nat) []))) (logF (↑d.2.length : Int)))
 (invM (Prod.fst (Prod.fst (vecF d.1 (List.getD [d.2] (0 : Nat) [])))) (↑d.2.length : Int)) d.2 = backF d.1 d.2))) := by
  intro d hw hp
  obtain ⟨f, v⟩ := d
  simp only [Int.toNat_natCast, exists_const, and_true, true_and, implies_true, decide_eq_true_eq, decide_eq_false_iff_not, Bool.not_eq_true', Bool.not_eq_false', beq_iff_eq, forall_const]
  refine ⟨rfl, fun _ => ?_⟩
  show ((vecF f v).2 = false → _) ∧ ((vecF f v).2 = true → VecD (vecF f v).1 v ∧ (_ → bkL (vecF f v).1.1 (rootI (vecF f v).1 (logF v.length)) (invM (vecF f v).1.1 v.length) v = backF f v))
  rw [vec_ok]
  refine ⟨fun h => by unfold backF; rw [if_neg (by rw [h]; simp)], fun h => ?_⟩
  have e : vecF f v = ((fieldF f).1, true) := if_pos h
  obtain ⟨hm, he, K, hK, hK9, hlen, hKt⟩ := vecL_ok h
  rw [e]
  refine ⟨⟨f, h, rfl⟩, fun _ => ?_⟩
  unfold backF
  rw [if_pos h, hK]
  simp only
  rw [root_same hm hKt]
  rfl
theorem vecs_two {f : Int} {a b : List Int} : (vecsF f [a, b]).2 = twoVF f a b ∧ (twoVF f a b = true → vecsF f [a, b] = ((fieldF f).1, true)) := by
  have hb : vecsB f [a, b] = twoVF f a b := by
    unfold vecsB twoVF
    by_cases h3 : a.length = b.length
    · by_cases h1 : vectorOkF f a = true <;> by_cases h2 : vectorOkF f b = true <;> simp [h1, h2, h3]
    · have h3' : ¬ b.length = a.length := fun e => h3 e.symm
      by_cases h1 : vectorOkF f a = true <;> by_cases h2 : vectorOkF f b = true <;> simp [h1, h2, h3, h3']
  unfold vecsF
  rw [hb]
  cases h : twoVF f a b with
  | true => exact ⟨rfl, fun _ => rfl⟩
  | false => exact ⟨rfl, fun h => by cases h⟩
theorem v_I_Twisted :
 ∀ (d : Int × List Int × List Int), Ty.wf i64T d.1 ∧ Ty.wf listT d.2.1 ∧ Ty.wf listT d.2.2 → True → List.length [d.2.1, d.2.2] = (2 : Nat) ∧ (Ty.wf fldT (Prod.fst (vecsF d.1 [d.2.1, d.2.2])) ∧ Ty.wf Ty.bool (Prod.snd
 (vecsF d.1 [d.2.1, d.2.2])) → ((!Prod.snd (vecsF d.1 [d.2.1, d.2.2])) = true → [] = twstF d.1 d.2.1 d.2.2) ∧ ((!Prod.snd (vecsF d.1 [d.2.1, d.2.2])) = false → (IsMod (Prod.fst (Prod.fst (vecsF d.1 [d.2.1, d.2.2]))) ∧
 elemsF (Prod.fst (Prod.fst (vecsF d.1 [d.2.1, d.2.2]))) d.2.1 = true ∧ elemsF (Prod.fst (Prod.fst (vecsF d.1 [d.2.1, d.2.2]))) d.2.2 = true ∧ d.2.1.length = d.2.2.length ∧ d.2.1.length ≤ (512 : Nat)) ∧ (Ty.wf listT
 (List.map (fun (t : Nat) => twA (Prod.fst (Prod.fst (Prod.fst (vecsF d.1 [d.2.1, d.2.2]), d.2))) (Prod.fst (Prod.snd (Prod.fst (vecsF d.1 [d.2.1, d.2.2]), d.2))) (Prod.snd (Prod.snd (Prod.fst (vecsF d.1 [d.2.1, d.2.2]),
 d.2))) t (List.length (Prod.fst (Prod.snd (Prod.fst (vecsF d.1 [d.2.1, d.2.2]), d.2))))) (List.range d.2.1.length)) → List.map (fun (t : Nat) => twA (Prod.fst (Prod.fst (Prod.fst (vecsF d.1 [d.2.1, d.2.2]), d.2)))
 (Prod.fst (Prod.snd (Prod.fst (vecsF d.1 [d.2.1, d.2.2]), d.2))) (Prod.snd (Prod.snd (Prod.fst (vecsF d.1 [d.2.1, d.2.2]), d.2))) t (List.length (Prod.fst (Prod.snd (Prod.fst (vecsF d.1 [d.2.1, d.2.2]), d.2)))))
 (List.range d.2.1.length) = twstF d.1 d.2.1 d.2.2))) := by
  intro d hw hp
  obtain ⟨f, a, b⟩ := d
  simp only [Int.toNat_natCast, exists_const, and_true, true_and, implies_true, decide_eq_true_eq, decide_eq_false_iff_not, Bool.not_eq_true', Bool.not_eq_false', beq_iff_eq, forall_const]
  refine ⟨rfl, fun _ => ?_⟩
  rw [vecs_two.1]
  refine ⟨fun h => by unfold twstF; rw [if_neg (by rw [h]; simp)], fun h => ?_⟩
  obtain ⟨hab, ha, hb⟩ := two_vec h
  obtain ⟨hm, hea, _⟩ := vecL_ok ha
  obtain ⟨_, heb, _⟩ := vecL_ok hb
  obtain ⟨l1, l2, l3, l4⟩ := vec512 ha
  rw [vecs_two.2 h]
  refine ⟨⟨(mod_is hm).1, hea, heb, hab, l2⟩, fun _ => ?_⟩
  unfold twstF
  rw [if_pos h]
  rfl
theorem v_I_pointwise :
 ∀ (d : (Int × Int × Int) × List Int × List Int), Ty.wf fldT d.1 ∧ Ty.wf listT d.2.1 ∧ Ty.wf listT d.2.2 → IsMod d.1.1 ∧ elemsF d.1.1 d.2.1 = true ∧ elemsF d.1.1 d.2.2 = true ∧ d.2.1.length = d.2.2.length ∧ d.2.1.length
 ≤ (1048576 : Nat) → (0 : Nat) ≤ d.2.1.length ∧ (((d.1.1 = d.1.1 ∧ d.1.2.1 = d.1.2.1 ∧ d.1.2.2 = d.1.2.2) ∧ d.2.1 = d.2.1 ∧ d.2.2 = d.2.2 ∧ Value.slice none (0 : Nat) (0 : Nat) = Value.slice none (0 : Nat) (0 : Nat) ∧
 d.2.1 = d.2.1 ∧ (↑d.2.1.length : Int) = (↑d.2.1.length : Int) ∧ (0 : Int) = (↑(0 : Nat) : Int)) ∧ (d.1.1 = d.1.1 ∧ d.1.2.1 = d.1.2.1 ∧ d.1.2.2 = d.1.2.2) ∧ [] = pwP d.1.1 d.2.1 d.2.2 (0 : Nat)) ∧ ∀ (x : Nat), x ≤
 d.2.1.length → (decide ((↑x : Int) < (↑d.2.1.length : Int)) = true → ((0 : Int) ≤ (↑x : Int) ∧ (↑x : Int) < (↑d.2.1.length : Int)) ∧ ((0 : Int) ≤ (↑x : Int) ∧ (↑x : Int) < (↑d.2.2.length : Int)) ∧ (IsMod d.1.1 ∧ El
 d.1.1 (d.2.1.getD (Int.toNat (↑x : Int)) (0 : Int)) ∧ El d.1.1 (d.2.2.getD (Int.toNat (↑x : Int)) (0 : Int))) ∧ (Ty.wf i64T (mulM d.1.1 (d.2.1.getD (Int.toNat (↑x : Int)) (0 : Int)) (d.2.2.getD (Int.toNat (↑x : Int)) (0
 : Int))) → (List.length (pwP d.1.1 d.2.1 d.2.2 x) + List.length [mulM d.1.1 (d.2.1.getD (Int.toNat (↑x : Int)) (0 : Int)) (d.2.2.getD (Int.toNat (↑x : Int)) (0 : Int))]) * (8 : Nat) ≤ (140737488355328 : Nat) ∧ ∃ (x' :
 Nat), x' ≤ d.2.1.length ∧ d.2.1.length - x' < d.2.1.length - x ∧ ((d.1.1 = d.1.1 ∧ d.1.2.1 = d.1.2.1 ∧ d.1.2.2 = d.1.2.2) ∧ d.2.1 = d.2.1 ∧ d.2.2 = d.2.2 ∧ Value.slice none (0 : Nat) (0 : Nat) = Value.slice none (0 :
 Nat) (0 : Nat) ∧ d.2.1 = d.2.1 ∧ (↑d.2.1.length : Int) = (↑d.2.1.length : Int) ∧ IntKind.wrap IntKind.i64 ((↑x : Int) + (1 : Int)) = (↑x' : Int)) ∧ (d.1.1 = d.1.1 ∧ d.1.2.1 = d.1.2.1 ∧ d.1.2.2 = d.1.2.2) ∧ pwP d.1.1
 d.2.1 d.2.2 x ++ [mulM d.1.1 (d.2.1.getD (Int.toNat (↑x : Int)) (0 : Int)) (d.2.2.getD (Int.toNat (↑x : Int)) (0 : Int))] = pwP d.1.1 d.2.1 d.2.2 x')) ∧ (decide ((↑x : Int) < (↑d.2.1.length : Int)) = false → pwP d.1.1
 d.2.1 d.2.2 x = pwL d.1.1 d.2.1 d.2.2) := by
  intro d hw hp
  obtain ⟨d, a, b⟩ := d
  obtain ⟨p1, p2, p3, p4, p5⟩ := hp
  replace p1 : IsMod d.1 := p1
  replace p2 : elemsF d.1 a = true := p2
  replace p3 : elemsF d.1 b = true := p3
  replace p4 : a.length = b.length := p4
  replace p5 : a.length ≤ 1048576 := p5
  have hcl : ∀ n, (pwP d.1 a b n).length = n := fun n => rgm_len _ _
  simp only [Int.toNat_natCast, exists_const, and_true, true_and, implies_true, decide_eq_true_eq, decide_eq_false_iff_not, Bool.not_eq_true', Bool.not_eq_false', beq_iff_eq, forall_const]
  refine ⟨Nat.zero_le _, ⟨rfl, rfl⟩, fun x hx => ⟨fun hlt => ⟨⟨by omega, hlt⟩, ⟨by omega, by omega⟩, ⟨p1, elems_getD p1 p2 x, elems_getD p1 p3 x⟩, fun _ => ⟨?_, x + 1, by omega, by omega, ?_, ?_⟩⟩, fun hge => ?_⟩⟩
  · rw [hcl, List.length_singleton]; omega
  · rw [wrap_small (by omega)]; rfl
  · simp [pwP, List.range_succ]
  · rw [show x = a.length by omega]; rfl
theorem v_I_forward :
 ∀ (d : (Int × Int × Int) × List Int), Ty.wf fldT d.1 ∧ Ty.wf listT d.2 → VecD d.1 d.2 → (0 : Int) ≤ logF (↑d.2.length : Int) ∧ (Ty.wf listT (permF d.2) → True ∧ (Ty.wf i64T (logF (↑d.2.length : Int)) → (↑(0 : Nat) :
 Int) ≤ logF (↑d.2.length : Int) ∧ (((d.1.1 = d.1.1 ∧ d.1.2.1 = d.1.2.1 ∧ d.1.2.2 = d.1.2.2) ∧ d.2 = d.2 ∧ Value.slice none (0 : Nat) (0 : Nat) = Value.slice none (0 : Nat) (0 : Nat) ∧ logF (↑d.2.length : Int) = logF
 (↑d.2.length : Int) ∧ (0 : Int) = (↑(0 : Nat) : Int)) ∧ (d.1.1 = d.1.1 ∧ d.1.2.1 = d.1.2.1 ∧ d.1.2.2 = d.1.2.2) ∧ permF d.2 = levL d.1 (permF d.2) (0 : Nat)) ∧ ∀ (x : Nat), (↑x : Int) ≤ logF (↑d.2.length : Int) →
 (decide ((↑x : Int) < logF (↑d.2.length : Int)) = true → (VecD d.1 (levL d.1 (permF d.2) x) ∧ (0 : Tup [i64T]) ≤ (↑x : Int) ∧ (↑x : Int) ≤ logF (↑(List.length (levL d.1 (permF d.2) x)) : Int) - (1 : Tup [i64T])) ∧
 (Ty.wf listT (rgL d.1 (levL d.1 (permF d.2) x) (Int.toNat (↑x : Int)) (0 : Nat) (List.length (levL d.1 (permF d.2) x) / (2 : Nat))) → ∃ (x' : Nat), (↑x' : Int) ≤ logF (↑d.2.length : Int) ∧ Int.toNat (logF (↑d.2.length :
 Int)) - x' < Int.toNat (logF (↑d.2.length : Int)) - x ∧ ((d.1.1 = d.1.1 ∧ d.1.2.1 = d.1.2.1 ∧ d.1.2.2 = d.1.2.2) ∧ d.2 = d.2 ∧ Value.slice none (0 : Nat) (0 : Nat) = Value.slice none (0 : Nat) (0 : Nat) ∧ logF
 (↑d.2.length : Int) = logF (↑d.2.length : Int) ∧ IntKind.wrap IntKind.i64 ((↑x : Int) + (1 : Int)) = (↑x' : Int)) ∧ (d.1.1 = d.1.1 ∧ d.1.2.1 = d.1.2.1 ∧ d.1.2.2 = d.1.2.2) ∧ rgL d.1 (levL d.1 (permF d.2) x) (Int.toNat
 (↑x : Int)) (0 : Nat) (List.length (levL d.1 (permF d.2) x) / (2 : Nat)) = levL d.1 (permF d.2) x')) ∧ (decide ((↑x : Int) < logF (↑d.2.length : Int)) = false → levL d.1 (permF d.2) x = dftL d.1.1 d.2 (rootI d.1 (logF
 (↑d.2.length : Int))) d.2.length))) := by
  intro d hw hp
  obtain ⟨d, v⟩ := d
  obtain ⟨f, h, hd⟩ := hp
  replace h : vectorOkF f v = true := h
  replace hd : d = (fieldF f).1 := hd
  obtain ⟨hm, he, K, hK, hK9, hlen, hKt⟩ := vecL_ok h
  obtain ⟨l1, l2, l3, l4⟩ := vec512 h
  have hpl : (permF v).length = v.length := by unfold permF; rw [if_pos l3]; exact perm_len _ _
  simp only [Int.toNat_natCast, exists_const, and_true, true_and, implies_true, decide_eq_true_eq, decide_eq_false_iff_not, Bool.not_eq_true', Bool.not_eq_false', beq_iff_eq, forall_const]
  refine ⟨l3, fun _ _ => ⟨by omega, ⟨rfl, (levL_zero _ _).symm⟩, fun s hs => ⟨fun hlt => ⟨⟨⟨f, ?_, hd⟩, Int.natCast_nonneg s, ?_⟩, fun _ => ⟨s + 1, by omega, by omega, ?_, ?_⟩⟩, fun hge => ?_⟩⟩⟩
  · refine vecL_of h (by rw [levL_len, hpl]) ?_
    subst hd
    unfold elemsF
    refine decide_eq_true fun x hx => ?_
    obtain ⟨t, ht, rfl⟩ := List.getElem_of_mem hx
    have := lev_el (g := genF f) (T := (fieldF f).1.2.2) (mod_is hm).1 (perm_getD (mod_is hm).1 he) s t
    simp only [levL, List.getElem_map, List.getElem_range]
    have h2 : El (modF f) (lev (fieldF f).1 (permF v) s t) := this
    exact ⟨h2.1, Int.le_sub_one_of_lt h2.2⟩
  · rw [levL_len, hpl]; omega
  · rw [wrap_small (by omega)]; rfl
  · rw [levL_len]
    exact levL_succ (K := K) (by rw [hpl]; exact hlen) (by omega)
  · have hs' : s = (logF v.length).toNat := by omega
    rw [hs', hd, fwd_levL h, hK, root_same hm hKt]
    rfl
end Go.SF
