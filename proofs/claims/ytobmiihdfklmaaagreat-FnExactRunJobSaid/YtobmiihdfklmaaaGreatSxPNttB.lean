/- The transform's sums, from the code. No condition. -/
import Derived.Test.YtobmiihdfklmaaaGreatSxPNtt
namespace Go.SF
open Go.SX Go
set_option linter.unusedVariables false
set_option linter.unusedSimpArgs false
theorem powL_len (p w : Int) (n : Nat) : (powL p w n).length = n := rgm_len _ _
theorem dftL_len (p : Int) (v : List Int) (w : Int) (n : Nat) : (dftL p v w n).length = n := rgm_len _ _
theorem powL_snoc (p w : Int) (n : Nat) : powL p w n ++ [w ^ n % p] = powL p w (n + 1) := by simp [powL, List.range_succ]
theorem dftL_snoc (p : Int) (v : List Int) (w : Int) (n : Nat) : dftL p v w n ++ [dftAt p v w n] = dftL p v w (n + 1) := by simp [dftL, List.range_succ]
theorem powL_get (p w : Int) {n m : Nat} (h : m < n) : (powL p w n).getD m 0 = w ^ m % p := by simp [powL, List.getD_eq_getElem?_getD, h]
theorem v_S_l04Sum :
 ∀ (d : Int × List Int × Int), Ty.wf i64T d.1 ∧ Ty.wf listT d.2.1 ∧ Ty.wf i64T d.2.2 → vectorOkF d.1 d.2.1 = true ∧ El (modF d.1) d.2.2 → True ∧ (Ty.wf i64T (modF d.1) → (0 : Nat) ≤ d.2.1.length ∧ ((d.1 = d.1 ∧ d.2.1 =
 d.2.1 ∧ d.2.2 = d.2.2 ∧ Value.slice none (0 : Nat) (0 : Nat) = Value.slice none (0 : Nat) (0 : Nat) ∧ modF d.1 = modF d.1 ∧ (↑d.2.1.length : Int) = (↑d.2.1.length : Int) ∧ (1 : Int) = d.2.2 ^ (0 : Nat) % modF d.1 ∧ (0 :
 Int) = (↑(0 : Nat) : Int)) ∧ [] = powL (modF d.1) d.2.2 (0 : Nat)) ∧ ∀ (x : Nat), x ≤ d.2.1.length → (decide ((↑x : Int) < (↑d.2.1.length : Int)) = true → (List.length (powL (modF d.1) d.2.2 x) + List.length [d.2.2 ^ x
 % modF d.1]) * (8 : Nat) ≤ (140737488355328 : Nat) ∧ modF d.1 ≠ (0 : Int) ∧ ∃ (x' : Nat), x' ≤ d.2.1.length ∧ d.2.1.length - x' < d.2.1.length - x ∧ (d.1 = d.1 ∧ d.2.1 = d.2.1 ∧ d.2.2 = d.2.2 ∧ Value.slice none (0 :
 Nat) (0 : Nat) = Value.slice none (0 : Nat) (0 : Nat) ∧ modF d.1 = modF d.1 ∧ (↑d.2.1.length : Int) = (↑d.2.1.length : Int) ∧ Int.tmod (IntKind.wrap IntKind.i64 (d.2.2 ^ x % modF d.1 * d.2.2)) (modF d.1) = d.2.2 ^ x' %
 modF d.1 ∧ IntKind.wrap IntKind.i64 ((↑x : Int) + (1 : Int)) = (↑x' : Int)) ∧ powL (modF d.1) d.2.2 x ++ [d.2.2 ^ x % modF d.1] = powL (modF d.1) d.2.2 x') ∧ (decide ((↑x : Int) < (↑d.2.1.length : Int)) = false → (0 :
 Nat) ≤ d.2.1.length ∧ ((d.1 = d.1 ∧ d.2.1 = d.2.1 ∧ d.2.2 = d.2.2 ∧ Value.slice none (0 : Nat) (0 : Nat) = Value.slice none (0 : Nat) (0 : Nat) ∧ modF d.1 = modF d.1 ∧ (↑d.2.1.length : Int) = (↑d.2.1.length : Int) ∧ (0
 : Int) = (↑(0 : Nat) : Int)) ∧ powL (modF d.1) d.2.2 x = powL (modF d.1) d.2.2 x ∧ [] = dftL (modF d.1) d.2.1 d.2.2 (0 : Nat)) ∧ ∀ (x_1 : Nat), x_1 ≤ d.2.1.length → (decide ((↑x_1 : Int) < (↑d.2.1.length : Int)) = true
 → (0 : Nat) ≤ d.2.1.length ∧ ((d.1 = d.1 ∧ d.2.1 = d.2.1 ∧ d.2.2 = d.2.2 ∧ Value.slice none (0 : Nat) (0 : Nat) = Value.slice none (0 : Nat) (0 : Nat) ∧ modF d.1 = modF d.1 ∧ (↑d.2.1.length : Int) = (↑d.2.1.length :
 Int) ∧ (↑x_1 : Int) = (↑x_1 : Int) ∧ (0 : Int) = sigN (dftT d.2.1 d.2.2 x_1) (0 : Nat) % modF d.1 ∧ (0 : Int) = (↑(0 : Nat) : Int)) ∧ powL (modF d.1) d.2.2 x = powL (modF d.1) d.2.2 x ∧ dftL (modF d.1) d.2.1 d.2.2 x_1 =
 dftL (modF d.1) d.2.1 d.2.2 x_1) ∧ ∀ (x_2 : Nat), x_2 ≤ d.2.1.length → (decide ((↑x_2 : Int) < (↑d.2.1.length : Int)) = true → ((0 : Int) ≤ (↑x_2 : Int) ∧ (↑x_2 : Int) < (↑d.2.1.length : Int)) ∧ (↑d.2.1.length : Int) ≠
 (0 : Int) ∧ ((0 : Int) ≤ Int.tmod (IntKind.wrap IntKind.i64 ((↑x_1 : Int) * (↑x_2 : Int))) (↑d.2.1.length : Int) ∧ Int.tmod (IntKind.wrap IntKind.i64 ((↑x_1 : Int) * (↑x_2 : Int))) (↑d.2.1.length : Int) < (↑(List.length
 (powL (modF d.1) d.2.2 x)) : Int)) ∧ modF d.1 ≠ (0 : Int) ∧ ∃ (x' : Nat), x' ≤ d.2.1.length ∧ d.2.1.length - x' < d.2.1.length - x_2 ∧ (d.1 = d.1 ∧ d.2.1 = d.2.1 ∧ d.2.2 = d.2.2 ∧ Value.slice none (0 : Nat) (0 : Nat) =
 Value.slice none (0 : Nat) (0 : Nat) ∧ modF d.1 = modF d.1 ∧ (↑d.2.1.length : Int) = (↑d.2.1.length : Int) ∧ (↑x_1 : Int) = (↑x_1 : Int) ∧ Int.tmod (IntKind.wrap IntKind.i64 (sigN (dftT d.2.1 d.2.2 x_1) x_2 % modF d.1 +
 IntKind.wrap IntKind.i64 (d.2.1.getD (Int.toNat (↑x_2 : Int)) (0 : Int) * List.getD (powL (modF d.1) d.2.2 x) (Int.toNat (Int.tmod (IntKind.wrap IntKind.i64 ((↑x_1 : Int) * (↑x_2 : Int))) (↑d.2.1.length : Int))) (0 :
 Int)))) (modF d.1) = sigN (dftT d.2.1 d.2.2 x_1) x' % modF d.1 ∧ IntKind.wrap IntKind.i64 ((↑x_2 : Int) + (1 : Int)) = (↑x' : Int)) ∧ powL (modF d.1) d.2.2 x = powL (modF d.1) d.2.2 x ∧ dftL (modF d.1) d.2.1 d.2.2 x_1 =
 dftL (modF d.1) d.2.1 d.2.2 x_1) ∧ (decide ((↑x_2 : Int) < (↑d.2.1.length : Int)) = false → (List.length (dftL (modF d.1) d.2.1 d.2.2 x_1) + List.length [sigN (dftT d.2.1 d.2.2 x_1) x_2 % modF d.1]) * (8 : Nat) ≤
 (140737488355328 : Nat) ∧ ∃ (x' : Nat), x' ≤ d.2.1.length ∧ d.2.1.length - x' < d.2.1.length - x_1 ∧ (d.1 = d.1 ∧ d.2.1 = d.2.1 ∧ d.2.2 = d.2.2 ∧ Value.slice none (0 : Nat) (0 : Nat) = Value.slice none (0 : Nat) (0 :
 Nat) ∧ modF d.1 = modF d.1 ∧ (↑d.2.1.length : Int) = (↑d.2.1.length : Int) ∧ IntKind.wrap IntKind.i64 ((↑x_1 : Int) + (1 : Int)) = (↑x' : Int)) ∧ powL (modF d.1) d.2.2 x = powL (modF d.1) d.2.2 x ∧ dftL (modF d.1) d.2.1
 d.2.2 x_1 ++ [sigN (dftT d.2.1 d.2.2 x_1) x_2 % modF d.1] = dftL (modF d.1) d.2.1 d.2.2 x')) ∧ (decide ((↑x_1 : Int) < (↑d.2.1.length : Int)) = false → dftL (modF d.1) d.2.1 d.2.2 x_1 = dftL (modF d.1) d.2.1 d.2.2
 d.2.1.length))) := by
  intro d hw hp
  obtain ⟨f, v, wt⟩ := d
  obtain ⟨hv, hel⟩ := hp
  replace hv : vectorOkF f v = true := hv
  replace hel : El (modF f) wt := hel
  obtain ⟨hm, he, K, hK, hK9, hlen, hKt⟩ := vecL_ok hv
  obtain ⟨hp, hf⟩ := mod_is hm
  have hp' := hp
  unfold IsMod at hp'
  have h512 := pow_le_512 hK9
  have hn : v.length ≤ 512 := by omega
  have hn0 : 0 < v.length := by rw [hlen]; exact Nat.pow_pos (by omega)
  simp only [Int.toNat_natCast, exists_const, and_true, true_and, implies_true, decide_eq_true_eq, decide_eq_false_iff_not, Bool.not_eq_true', Bool.not_eq_false', beq_iff_eq, forall_const]
  refine fun _ => ⟨Nat.zero_le _, ⟨⟨?_, rfl⟩, rfl⟩, fun x hx => ⟨fun hlt => ⟨?_, hm, x + 1, by omega, by omega, ⟨?_, ?_⟩, powL_snoc _ _ _⟩, fun hge => ⟨Nat.zero_le _, ⟨rfl, rfl⟩, fun i hi => ⟨fun hilt => ⟨Nat.zero_le _, ⟨?_, rfl⟩, fun j hj => ⟨fun hjlt => ?_, fun hjge => ⟨?_, i + 1, by omega, by omega, ?_, ?_⟩⟩⟩, fun hige => ?_⟩⟩⟩⟩
  · rw [Int.pow_zero, Int.emod_eq_of_lt (by omega) (by omega)]
  · rw [powL_len, List.length_singleton]; omega
  · have e := mulM_wrap hp (el_mod (p := modF f) (by omega) (wt ^ x)) hel
    rw [e]
    unfold mulM
    rw [mul_mod_l, ← Int.pow_succ]
  · rw [wrap_small (by omega)]; rfl
  · show (0 : Int) = 0 % modF f
    rw [Int.zero_emod]
  · have hx' : x = v.length := by omega
    have hij : i * j ≤ 512 * 512 := Nat.mul_le_mul (by omega) (by omega)
    have hm1 : (IntKind.i64.wrap ((i : Int) * (j : Int))).tmod (v.length : Int) = ((i * j % v.length : Nat) : Int) := by
      rw [← Int.natCast_mul, wrap_small (by omega), Int.tmod_eq_emod_of_nonneg (by omega)]
      rfl
    have hlt2 : i * j % v.length < v.length := Nat.mod_lt _ hn0
    rw [hm1, Int.toNat_natCast, powL_len, hx', powL_get _ _ hlt2]
    refine ⟨⟨by omega, hjlt⟩, by omega, ⟨by omega, by omega⟩, hm, j + 1, by omega, by omega, ?_, ?_⟩
    · have e1 := elems_getD hp he j
      have e2 := el_mod (p := modF f) (by omega) (wt ^ (i * j % v.length))
      have e3 := mul_le_sq hp e1 e2
      have e4 := el_mod (p := modF f) (by omega) (sigN (dftT v wt i) j)
      unfold El at e4
      rw [wrap_small (n := v.getD j 0 * (wt ^ (i * j % v.length) % modF f)) (by omega), wrap_small (by omega), Int.tmod_eq_emod_of_nonneg (by omega), sigN]
      refine add_congr_mod (mod_mod _ _) ?_
      unfold dftT
      rw [mul_mod_r]
    · rw [wrap_small (by omega)]; rfl
  · rw [dftL_len, List.length_singleton]; omega
  · rw [wrap_small (by omega)]; rfl
  · have hj' : j = v.length := by omega
    rw [hj']
    exact dftL_snoc _ _ _ _
  · have hi' : i = v.length := by omega
    rw [hi']
theorem root_el {f : Int} {v : List Int} (h : vectorOkF f v = true) : El (modF f) (rootS f (logF v.length)) := by
  obtain ⟨hm, he, K, hK, hK9, hlen, hKt⟩ := vecL_ok h
  obtain ⟨hp, hf⟩ := mod_is hm
  unfold rootS
  rw [hK, if_pos ⟨hm, by omega, hKt⟩]
  unfold powP
  split
  · exact absurd ‹_› (gen_ok hm).2
  · exact el_powM hp _ _
theorem v_S_Forward :
 ∀ (d : Int × List Int), Ty.wf i64T d.1 ∧ Ty.wf listT d.2 → True → True ∧ ((!vectorOkF d.1 d.2) = true → [] = fwdF d.1 d.2) ∧ ((!vectorOkF d.1 d.2) = false → True ∧ (Ty.wf i64T (logF (↑d.2.length : Int)) → True ∧ (Ty.wf
 i64T (rootS d.1 (logF (↑d.2.length : Int))) → (vectorOkF d.1 d.2 = true ∧ El (modF d.1) (rootS d.1 (logF (↑d.2.length : Int)))) ∧ (Ty.wf listT (dftL (modF d.1) d.2 (rootS d.1 (logF (↑d.2.length : Int))) d.2.length) →
 dftL (modF d.1) d.2 (rootS d.1 (logF (↑d.2.length : Int))) d.2.length = fwdF d.1 d.2)))) := by
  intro d hw hp
  obtain ⟨f, v⟩ := d
  simp only [Int.toNat_natCast, exists_const, and_true, true_and, implies_true, decide_eq_true_eq, decide_eq_false_iff_not, Bool.not_eq_true', Bool.not_eq_false', beq_iff_eq, forall_const]
  refine ⟨fun h => ?_, fun h _ _ => ⟨⟨h, root_el h⟩, fun _ => ?_⟩⟩
  · unfold fwdF; rw [if_neg (by rw [h]; simp)]
  · unfold fwdF; rw [if_pos h]
end Go.SF
