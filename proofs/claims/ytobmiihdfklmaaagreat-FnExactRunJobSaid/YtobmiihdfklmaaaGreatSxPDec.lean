/- What is owed of the code of words of a code. No condition. -/
import Derived.Test.YtobmiihdfklmaaaGreatSxPDecB
namespace Go.SF
open Go.SX Go
set_option linter.unusedVariables false
set_option linter.unusedSimpArgs false
set_option maxRecDepth 10000
theorem dif_go {a b : List Int} {x : Nat} (hb : max a.length b.length ≤ 4096) (hn : ¬ (x < a.length ∧ x < b.length ∧ a.getD x 0 = b.getD x 0)) (hlt : x < max a.length b.length) : ∃ x', x' ≤ max a.length b.length ∧ max a.length b.length - x' < max a.length b.length - x ∧ IntKind.i64.wrap (((difX a b x : Nat) : Int) + 1) = ((difX a b x' : Nat) : Int) ∧ IntKind.i64.wrap ((x : Int) + 1) = (x' : Int) := by
  have hd := dif_le a b x
  exact ⟨x + 1, by omega, by omega, by rw [dif_more hn]; exact wrap_succ (by omega), wrap_succ (by omega)⟩
theorem v_S_l07Code :
 ∀ (d : Int × List Int × Int), Ty.wf i64T d.1 ∧ Ty.wf listT d.2.1 ∧ Ty.wf i64T d.2.2 → True → (decide ((↑d.2.1.length : Int) ≤ (10 : Int)) = true → True ∧ (pointsF d.1 d.2.1 = true → True ∧ (decide ((1 : Int) ≤ d.2.2) &&
 decide (d.2.2 ≤ (↑d.2.1.length : Int))) = codeB d.1 d.2.1 d.2.2) ∧ (pointsF d.1 d.2.1 = false → false = codeB d.1 d.2.1 d.2.2)) ∧ (decide ((↑d.2.1.length : Int) ≤ (10 : Int)) = false → false = codeB d.1 d.2.1 d.2.2) := by
  intro (d : Int × List Int × Int) hw hp
  obtain ⟨f, xs, k⟩ := d
  simp only [Int.toNat_natCast, exists_const, and_true, true_and, implies_true, decide_eq_true_eq, decide_eq_false_iff_not, Bool.not_eq_true', Bool.not_eq_false', beq_iff_eq, forall_const]
  unfold codeB
  refine ⟨fun h => ⟨fun h1 => ?_, fun h1 => ?_⟩, fun h => ?_⟩
  · rw [decide_eq_true (show xs.length ≤ 10 by omega), h1, Bool.true_and, Bool.true_and, Bool.decide_and]
  · rw [h1, Bool.and_false]; rfl
  · rw [decide_eq_false (show ¬ xs.length ≤ 10 by omega)]; rfl
theorem v_I_codeField :
 ∀ (d : Int × List Int × Int), Ty.wf i64T d.1 ∧ Ty.wf listT d.2.1 ∧ Ty.wf i64T d.2.2 → True → True ∧ (Ty.wf fldT (Prod.fst (ptF d.1 d.2.1)) ∧ Ty.wf Ty.bool (Prod.snd (ptF d.1 d.2.1)) → ((!Prod.snd (ptF d.1 d.2.1)) = true
 → (((0 : Int), (0 : Int), (0 : Int)), false) = codF d.1 d.2.1 d.2.2) ∧ ((!Prod.snd (ptF d.1 d.2.1)) = false → (decide ((10 : Int) < (↑d.2.1.length : Int)) = true → (((0 : Int), (0 : Int), (0 : Int)), false) = codF d.1
 d.2.1 d.2.2) ∧ (decide ((10 : Int) < (↑d.2.1.length : Int)) = false → (decide (d.2.2 < (1 : Int)) = true → (((0 : Int), (0 : Int), (0 : Int)), false) = codF d.1 d.2.1 d.2.2) ∧ (decide (d.2.2 < (1 : Int)) = false →
 (decide ((↑d.2.1.length : Int) < d.2.2) = true → (((0 : Int), (0 : Int), (0 : Int)), false) = codF d.1 d.2.1 d.2.2) ∧ (decide ((↑d.2.1.length : Int) < d.2.2) = false → ((Prod.fst (Prod.fst (ptF d.1 d.2.1)), Prod.fst
 (Prod.snd (Prod.fst (ptF d.1 d.2.1))), Prod.snd (Prod.snd (Prod.fst (ptF d.1 d.2.1)))), true) = codF d.1 d.2.1 d.2.2))))) := by
  intro (d : Int × List Int × Int) hw hp
  obtain ⟨f, xs, k⟩ := d
  simp only [Int.toNat_natCast, exists_const, and_true, true_and, implies_true, decide_eq_true_eq, decide_eq_false_iff_not, Bool.not_eq_true', Bool.not_eq_false', beq_iff_eq, forall_const]
  intro _
  have no : (codeB f xs k = true → False) → ((0, 0, 0), false) = codF f xs k := fun h => by
    unfold codF
    cases hc : codeB f xs k with
    | false => rfl
    | true => exact (h hc).elim
  rw [pt_snd]
  refine ⟨fun h => no (fun hc => ?_), fun h => ⟨fun h1 => no (fun hc => ?_), fun h1 => ⟨fun h2 => no (fun hc => ?_), fun h2 => ⟨fun h3 => no (fun hc => ?_), fun h3 => ?_⟩⟩⟩⟩
  · rw [(code_ok hc).1] at h; cases h
  · have := (code_ok hc).2.1; omega
  · have := (code_ok hc).2.2.1; omega
  · have := (code_ok hc).2.2.2; omega
  · unfold codF
    rw [if_pos (code_of h (by omega) (by omega) (by omega)), pt_row h]
theorem v_S_EncodeWord :
 ∀ (d : Int × List Int × List Int), Ty.wf i64T d.1 ∧ Ty.wf listT d.2.1 ∧ Ty.wf listT d.2.2 → True → True ∧ ((!codeB d.1 d.2.1 (↑d.2.2.length : Int)) = true → [] = encS d.1 d.2.1 d.2.2) ∧ ((!codeB d.1 d.2.1 (↑d.2.2.length
 : Int)) = false → True ∧ ((!specElemsF d.1 d.2.2) = true → [] = encS d.1 d.2.1 d.2.2) ∧ ((!specElemsF d.1 d.2.2) = false → (0 : Nat) ≤ d.2.1.length ∧ ((d.1 = d.1 ∧ d.2.1 = d.2.1 ∧ d.2.2 = d.2.2 ∧ Value.slice none (0 :
 Nat) (0 : Nat) = Value.slice none (0 : Nat) (0 : Nat) ∧ (0 : Int) = (↑(0 : Nat) : Int)) ∧ [] = evM (modF d.1) (trimF d.2.2) d.2.1 (0 : Nat)) ∧ ∀ (x : Nat), x ≤ d.2.1.length → (decide ((↑x : Int) < (↑d.2.1.length : Int))
 = true → d.2.2.length ≤ (1048576 : Nat) ∧ ((0 : Int) ≤ (↑x : Int) ∧ (↑x : Int) < (↑d.2.1.length : Int)) ∧ True ∧ (Ty.wf i64T (evS d.1 (trimF d.2.2) (d.2.1.getD (Int.toNat (↑x : Int)) (0 : Int))) → Ty.wf listT (trimF
 d.2.2) → (List.length (evM (modF d.1) (trimF d.2.2) d.2.1 x) + List.length [evS d.1 (trimF d.2.2) (d.2.1.getD (Int.toNat (↑x : Int)) (0 : Int))]) * (8 : Nat) ≤ (140737488355328 : Nat) ∧ ∃ (x' : Nat), x' ≤ d.2.1.length ∧
 d.2.1.length - x' < d.2.1.length - x ∧ (d.1 = d.1 ∧ d.2.1 = d.2.1 ∧ d.2.2 = d.2.2 ∧ Value.slice none (0 : Nat) (0 : Nat) = Value.slice none (0 : Nat) (0 : Nat) ∧ IntKind.wrap IntKind.i64 ((↑x : Int) + (1 : Int)) = (↑x'
 : Int)) ∧ evM (modF d.1) (trimF d.2.2) d.2.1 x ++ [evS d.1 (trimF d.2.2) (d.2.1.getD (Int.toNat (↑x : Int)) (0 : Int))] = evM (modF d.1) (trimF d.2.2) d.2.1 x')) ∧ (decide ((↑x : Int) < (↑d.2.1.length : Int)) = false →
 evM (modF d.1) (trimF d.2.2) d.2.1 x = encS d.1 d.2.1 d.2.2))) := by
  intro (d : Int × List Int × List Int) hw hp
  obtain ⟨f, xs, m⟩ := d
  simp only [Int.toNat_natCast, exists_const, and_true, true_and, implies_true, decide_eq_true_eq, decide_eq_false_iff_not, Bool.not_eq_true', Bool.not_eq_false', beq_iff_eq, forall_const]
  refine ⟨fun h => by unfold encS; rw [h]; rfl, fun h => ⟨fun h1 => by unfold encS; rw [h1, Bool.and_false]; rfl, fun h1 => ?_⟩⟩
  obtain ⟨hpt, hl, hk1, hk2⟩ := code_ok h
  obtain ⟨hm, he⟩ := spec_el h1
  have hpoly : polyB f (trimF m) = true := poly_of hm (trim_elems he) (by rw [trim_len]; have := cutF_le m; omega) (top_trim m)
  refine ⟨by omega, ⟨rfl, rfl⟩, fun x hx => ⟨fun h2 => ⟨by omega, ⟨by omega, by omega⟩, fun _ _ => ?_⟩, fun h2 => ?_⟩⟩
  · rw [evM_len]
    refine ⟨by simp only [List.length_cons, List.length_nil]; omega, x + 1, by omega, by omega, wrap_succ (by omega), ?_⟩
    unfold evS
    rw [if_pos hpoly]
    exact evM_succ _ _ _ _
  · rw [show x = xs.length by omega]
    unfold encS
    rw [h, h1]; rfl
theorem v_S_Differ :
 ∀ (d : List Int × List Int), Ty.wf listT d.1 ∧ Ty.wf listT d.2 → True → (decide ((4096 : Int) < (↑d.1.length : Int)) = true → (-1 : Int) = difS d.1 d.2) ∧ (decide ((4096 : Int) < (↑d.1.length : Int)) = false → (decide
 ((4096 : Int) < (↑d.2.length : Int)) = true → (-1 : Int) = difS d.1 d.2) ∧ (decide ((4096 : Int) < (↑d.2.length : Int)) = false → (0 : Nat) ≤ max d.1.length d.2.length ∧ (d.1 = d.1 ∧ d.2 = d.2 ∧ (0 : Int) = (0 : Int) ∧
 (0 : Int) = (↑(difX d.1 d.2 (0 : Nat)) : Int) ∧ (0 : Int) = (↑(0 : Nat) : Int)) ∧ ∀ (x : Nat), x ≤ max d.1.length d.2.length → (decide ((↑x : Int) < (↑d.1.length : Int)) = true → (decide ((↑d.1.length : Int) ≤ (↑x :
 Int)) = true → ∃ (x' : Nat), x' ≤ max d.1.length d.2.length ∧ max d.1.length d.2.length - x' < max d.1.length d.2.length - x ∧ d.1 = d.1 ∧ d.2 = d.2 ∧ (0 : Int) = (0 : Int) ∧ IntKind.wrap IntKind.i64 ((↑(difX d.1 d.2 x)
 : Int) + (1 : Int)) = (↑(difX d.1 d.2 x') : Int) ∧ IntKind.wrap IntKind.i64 ((↑x : Int) + (1 : Int)) = (↑x' : Int)) ∧ (decide ((↑d.1.length : Int) ≤ (↑x : Int)) = false → (decide ((↑d.2.length : Int) ≤ (↑x : Int)) =
 true → ∃ (x' : Nat), x' ≤ max d.1.length d.2.length ∧ max d.1.length d.2.length - x' < max d.1.length d.2.length - x ∧ d.1 = d.1 ∧ d.2 = d.2 ∧ (0 : Int) = (0 : Int) ∧ IntKind.wrap IntKind.i64 ((↑(difX d.1 d.2 x) : Int)
 + (1 : Int)) = (↑(difX d.1 d.2 x') : Int) ∧ IntKind.wrap IntKind.i64 ((↑x : Int) + (1 : Int)) = (↑x' : Int)) ∧ (decide ((↑d.2.length : Int) ≤ (↑x : Int)) = false → ((0 : Int) ≤ (↑x : Int) ∧ (↑x : Int) < (↑d.1.length :
 Int)) ∧ ((0 : Int) ≤ (↑x : Int) ∧ (↑x : Int) < (↑d.2.length : Int)) ∧ ((!decide (d.1.getD (Int.toNat (↑x : Int)) (0 : Int) = d.2.getD (Int.toNat (↑x : Int)) (0 : Int))) = true → ∃ (x' : Nat), x' ≤ max d.1.length
 d.2.length ∧ max d.1.length d.2.length - x' < max d.1.length d.2.length - x ∧ d.1 = d.1 ∧ d.2 = d.2 ∧ (0 : Int) = (0 : Int) ∧ IntKind.wrap IntKind.i64 ((↑(difX d.1 d.2 x) : Int) + (1 : Int)) = (↑(difX d.1 d.2 x') : Int)
 ∧ IntKind.wrap IntKind.i64 ((↑x : Int) + (1 : Int)) = (↑x' : Int)) ∧ ((!decide (d.1.getD (Int.toNat (↑x : Int)) (0 : Int) = d.2.getD (Int.toNat (↑x : Int)) (0 : Int))) = false → ∃ (x' : Nat), x' ≤ max d.1.length
 d.2.length ∧ max d.1.length d.2.length - x' < max d.1.length d.2.length - x ∧ d.1 = d.1 ∧ d.2 = d.2 ∧ (0 : Int) = (0 : Int) ∧ (↑(difX d.1 d.2 x) : Int) = (↑(difX d.1 d.2 x') : Int) ∧ IntKind.wrap IntKind.i64 ((↑x : Int)
 + (1 : Int)) = (↑x' : Int))))) ∧ (decide ((↑x : Int) < (↑d.1.length : Int)) = false → (decide ((↑x : Int) < (↑d.2.length : Int)) = true → (decide ((↑d.1.length : Int) ≤ (↑x : Int)) = true → ∃ (x' : Nat), x' ≤ max
 d.1.length d.2.length ∧ max d.1.length d.2.length - x' < max d.1.length d.2.length - x ∧ d.1 = d.1 ∧ d.2 = d.2 ∧ (0 : Int) = (0 : Int) ∧ IntKind.wrap IntKind.i64 ((↑(difX d.1 d.2 x) : Int) + (1 : Int)) = (↑(difX d.1 d.2
 x') : Int) ∧ IntKind.wrap IntKind.i64 ((↑x : Int) + (1 : Int)) = (↑x' : Int)) ∧ (decide ((↑d.1.length : Int) ≤ (↑x : Int)) = false → (decide ((↑d.2.length : Int) ≤ (↑x : Int)) = true → ∃ (x' : Nat), x' ≤ max d.1.length
 d.2.length ∧ max d.1.length d.2.length - x' < max d.1.length d.2.length - x ∧ d.1 = d.1 ∧ d.2 = d.2 ∧ (0 : Int) = (0 : Int) ∧ IntKind.wrap IntKind.i64 ((↑(difX d.1 d.2 x) : Int) + (1 : Int)) = (↑(difX d.1 d.2 x') : Int)
 ∧ IntKind.wrap IntKind.i64 ((↑x : Int) + (1 : Int)) = (↑x' : Int)) ∧ (decide ((↑d.2.length : Int) ≤ (↑x : Int)) = false → ((0 : Int) ≤ (↑x : Int) ∧ (↑x : Int) < (↑d.1.length : Int)) ∧ ((0 : Int) ≤ (↑x : Int) ∧ (↑x :
 Int) < (↑d.2.length : Int)) ∧ ((!decide (d.1.getD (Int.toNat (↑x : Int)) (0 : Int) = d.2.getD (Int.toNat (↑x : Int)) (0 : Int))) = true → ∃ (x' : Nat), x' ≤ max d.1.length d.2.length ∧ max d.1.length d.2.length - x' <
 max d.1.length d.2.length - x ∧ d.1 = d.1 ∧ d.2 = d.2 ∧ (0 : Int) = (0 : Int) ∧ IntKind.wrap IntKind.i64 ((↑(difX d.1 d.2 x) : Int) + (1 : Int)) = (↑(difX d.1 d.2 x') : Int) ∧ IntKind.wrap IntKind.i64 ((↑x : Int) + (1 :
 Int)) = (↑x' : Int)) ∧ ((!decide (d.1.getD (Int.toNat (↑x : Int)) (0 : Int) = d.2.getD (Int.toNat (↑x : Int)) (0 : Int))) = false → ∃ (x' : Nat), x' ≤ max d.1.length d.2.length ∧ max d.1.length d.2.length - x' < max
 d.1.length d.2.length - x ∧ d.1 = d.1 ∧ d.2 = d.2 ∧ (0 : Int) = (0 : Int) ∧ (↑(difX d.1 d.2 x) : Int) = (↑(difX d.1 d.2 x') : Int) ∧ IntKind.wrap IntKind.i64 ((↑x : Int) + (1 : Int)) = (↑x' : Int))))) ∧ (decide ((↑x :
 Int) < (↑d.2.length : Int)) = false → (↑(difX d.1 d.2 x) : Int) = difS d.1 d.2)))) := by
  intro (d : List Int × List Int) hw hp
  obtain ⟨a, b⟩ := d
  simp only [Int.toNat_natCast, exists_const, and_true, true_and, implies_true, decide_eq_true_eq, decide_eq_false_iff_not, Bool.not_eq_true', Bool.not_eq_false', beq_iff_eq, forall_const]
  refine ⟨fun h => by unfold difS; rw [if_pos (by omega)], fun h => ⟨fun h1 => by unfold difS; rw [if_pos (by omega)], fun h1 => ⟨by omega, ⟨rfl, rfl⟩, fun x hx => ?_⟩⟩⟩
  have hd := dif_le a b x
  refine ⟨fun h2 => ⟨fun h3 => absurd h3 (by omega), fun h3 => ⟨fun h4 => dif_go (by omega) (fun hh => absurd hh.2.1 (by omega)) (by omega), fun h4 => ⟨⟨by omega, by omega⟩, ⟨by omega, by omega⟩, fun h5 => dif_go (by omega) (fun hh => h5 hh.2.2) (by omega), fun h5 => ⟨x + 1, by omega, by omega, by rw [dif_same ⟨by omega, by omega, h5⟩], wrap_succ (by omega)⟩⟩⟩⟩, fun h2 => ⟨fun h3 => ⟨fun h4 => dif_go (by omega) (fun hh => absurd hh.1 (by omega)) (by omega), fun h4 => absurd h2 (by omega)⟩, fun h3 => ?_⟩⟩
  rw [difS_small (by omega) (by omega), show x = max a.length b.length by omega]; rfl
theorem v_I_differ :
 ∀ (d : List Int × List Int), Ty.wf listT d.1 ∧ Ty.wf listT d.2 → d.1.length ≤ (1048576 : Nat) ∧ d.2.length ≤ (1048576 : Nat) → (0 : Nat) ≤ min d.1.length d.2.length ∧ (d.1 = d.1 ∧ d.2 = d.2 ∧ (0 : Int) = (0 : Int) ∧
 IntKind.wrap IntKind.i64 (imax (↑d.1.length : Int) (↑d.2.length : Int) - imin (↑d.1.length : Int) (↑d.2.length : Int)) = (↑(max d.1.length d.2.length - min d.1.length d.2.length + difX d.1 d.2 (0 : Nat)) : Int) ∧ imin
 (↑d.1.length : Int) (↑d.2.length : Int) = imin (↑d.1.length : Int) (↑d.2.length : Int) ∧ (0 : Int) = (↑(0 : Nat) : Int)) ∧ ∀ (x : Nat), x ≤ min d.1.length d.2.length → (decide ((↑x : Int) < imin (↑d.1.length : Int)
 (↑d.2.length : Int)) = true → ((0 : Int) ≤ (↑x : Int) ∧ (↑x : Int) < (↑d.1.length : Int)) ∧ ((0 : Int) ≤ (↑x : Int) ∧ (↑x : Int) < (↑d.2.length : Int)) ∧ ((!decide (d.1.getD (Int.toNat (↑x : Int)) (0 : Int) = d.2.getD
 (Int.toNat (↑x : Int)) (0 : Int))) = true → ∃ (x' : Nat), x' ≤ min d.1.length d.2.length ∧ min d.1.length d.2.length - x' < min d.1.length d.2.length - x ∧ d.1 = d.1 ∧ d.2 = d.2 ∧ (0 : Int) = (0 : Int) ∧ IntKind.wrap
 IntKind.i64 ((↑(max d.1.length d.2.length - min d.1.length d.2.length + difX d.1 d.2 x) : Int) + (1 : Int)) = (↑(max d.1.length d.2.length - min d.1.length d.2.length + difX d.1 d.2 x') : Int) ∧ imin (↑d.1.length : Int)
 (↑d.2.length : Int) = imin (↑d.1.length : Int) (↑d.2.length : Int) ∧ IntKind.wrap IntKind.i64 ((↑x : Int) + (1 : Int)) = (↑x' : Int)) ∧ ((!decide (d.1.getD (Int.toNat (↑x : Int)) (0 : Int) = d.2.getD (Int.toNat (↑x :
 Int)) (0 : Int))) = false → ∃ (x' : Nat), x' ≤ min d.1.length d.2.length ∧ min d.1.length d.2.length - x' < min d.1.length d.2.length - x ∧ d.1 = d.1 ∧ d.2 = d.2 ∧ (0 : Int) = (0 : Int) ∧ (↑(max d.1.length d.2.length -
 min d.1.length d.2.length + difX d.1 d.2 x) : Int) = (↑(max d.1.length d.2.length - min d.1.length d.2.length + difX d.1 d.2 x') : Int) ∧ imin (↑d.1.length : Int) (↑d.2.length : Int) = imin (↑d.1.length : Int)
 (↑d.2.length : Int) ∧ IntKind.wrap IntKind.i64 ((↑x : Int) + (1 : Int)) = (↑x' : Int))) ∧ (decide ((↑x : Int) < imin (↑d.1.length : Int) (↑d.2.length : Int)) = false → (↑(max d.1.length d.2.length - min d.1.length
 d.2.length + difX d.1 d.2 x) : Int) = difF d.1 d.2) := by
  intro (d : List Int × List Int) hw hp
  obtain ⟨a, b⟩ := d
  replace hp : a.length ≤ 1048576 ∧ b.length ≤ 1048576 := hp
  simp only [Int.toNat_natCast, exists_const, and_true, true_and, implies_true, decide_eq_true_eq, decide_eq_false_iff_not, Bool.not_eq_true', Bool.not_eq_false', beq_iff_eq, forall_const]
  obtain ⟨ha, hb⟩ := hp
  have hmx : imax (a.length : Int) (b.length : Int) = ((max a.length b.length : Nat) : Int) := by unfold imax; split <;> omega
  have hmn : imin (a.length : Int) (b.length : Int) = ((min a.length b.length : Nat) : Int) := by unfold imin; split <;> omega
  rw [hmx, hmn]
  refine ⟨by omega, ⟨?_, rfl⟩, fun x hx => ?_⟩
  · rw [wrap_small (by omega), show difX a b 0 = 0 from rfl]; omega
  have hd := dif_le a b x
  refine ⟨fun h => ⟨⟨by omega, by omega⟩, ⟨by omega, by omega⟩, fun h1 => ⟨x + 1, by omega, by omega, ?_, wrap_succ (by omega)⟩, fun h1 => ⟨x + 1, by omega, by omega, by rw [dif_same ⟨by omega, by omega, h1⟩], wrap_succ (by omega)⟩⟩, fun h => ?_⟩
  · rw [dif_more (fun hh => h1 hh.2.2)]; exact wrap_succ (by omega)
  · obtain rfl : x = min a.length b.length := by omega
    have := dif_tail (a := a) (b := b) rfl (max a.length b.length - min a.length b.length)
    unfold difF
    rw [show max a.length b.length = min a.length b.length + (max a.length b.length - min a.length b.length) by omega, this]
    congr 2
    omega
theorem v_I_evalMany :
 ∀ (d : (Int × Int × Int) × List Int × List Int), Ty.wf fldT d.1 ∧ Ty.wf listT d.2.1 ∧ Ty.wf listT d.2.2 → IsMod d.1.1 ∧ elemsF d.1.1 d.2.1 = true ∧ elemsF d.1.1 d.2.2 = true ∧ d.2.2.length ≤ (1000 : Nat) → (0 : Nat) ≤
 d.2.2.length ∧ (((d.1.1 = d.1.1 ∧ d.1.2.1 = d.1.2.1 ∧ d.1.2.2 = d.1.2.2) ∧ d.2.1 = d.2.1 ∧ d.2.2 = d.2.2 ∧ Value.slice none (0 : Nat) (0 : Nat) = Value.slice none (0 : Nat) (0 : Nat) ∧ d.2.2 = d.2.2 ∧ (↑d.2.2.length :
 Int) = (↑d.2.2.length : Int) ∧ (0 : Int) = (↑(0 : Nat) : Int)) ∧ (d.1.1 = d.1.1 ∧ d.1.2.1 = d.1.2.1 ∧ d.1.2.2 = d.1.2.2) ∧ [] = evM d.1.1 d.2.1 d.2.2 (0 : Nat)) ∧ ∀ (x : Nat), x ≤ d.2.2.length → (decide ((↑x : Int) <
 (↑d.2.2.length : Int)) = true → ((0 : Int) ≤ (↑x : Int) ∧ (↑x : Int) < (↑d.2.2.length : Int)) ∧ (IsMod d.1.1 ∧ elemsF d.1.1 d.2.1 = true ∧ El d.1.1 (d.2.2.getD (Int.toNat (↑x : Int)) (0 : Int))) ∧ (Ty.wf i64T (evP d.1.1
 d.2.1 (d.2.2.getD (Int.toNat (↑x : Int)) (0 : Int))) → (List.length (evM d.1.1 d.2.1 d.2.2 x) + List.length [evP d.1.1 d.2.1 (d.2.2.getD (Int.toNat (↑x : Int)) (0 : Int))]) * (8 : Nat) ≤ (140737488355328 : Nat) ∧ ∃ (x'
 : Nat), x' ≤ d.2.2.length ∧ d.2.2.length - x' < d.2.2.length - x ∧ ((d.1.1 = d.1.1 ∧ d.1.2.1 = d.1.2.1 ∧ d.1.2.2 = d.1.2.2) ∧ d.2.1 = d.2.1 ∧ d.2.2 = d.2.2 ∧ Value.slice none (0 : Nat) (0 : Nat) = Value.slice none (0 :
 Nat) (0 : Nat) ∧ d.2.2 = d.2.2 ∧ (↑d.2.2.length : Int) = (↑d.2.2.length : Int) ∧ IntKind.wrap IntKind.i64 ((↑x : Int) + (1 : Int)) = (↑x' : Int)) ∧ (d.1.1 = d.1.1 ∧ d.1.2.1 = d.1.2.1 ∧ d.1.2.2 = d.1.2.2) ∧ evM d.1.1
 d.2.1 d.2.2 x ++ [evP d.1.1 d.2.1 (d.2.2.getD (Int.toNat (↑x : Int)) (0 : Int))] = evM d.1.1 d.2.1 d.2.2 x')) ∧ (decide ((↑x : Int) < (↑d.2.2.length : Int)) = false → evM d.1.1 d.2.1 d.2.2 x = evM d.1.1 d.2.1 d.2.2
 d.2.2.length) := by
  intro (d : Fd × List Int × List Int) hw hp
  obtain ⟨⟨p, g, t⟩, a, xs⟩ := d
  replace hp : IsMod p ∧ elemsF p a = true ∧ elemsF p xs = true ∧ xs.length ≤ 1000 := hp
  simp only [Int.toNat_natCast, exists_const, and_true, true_and, implies_true, decide_eq_true_eq, decide_eq_false_iff_not, Bool.not_eq_true', Bool.not_eq_false', beq_iff_eq, forall_const]
  obtain ⟨h0, h1, h2, h3⟩ := hp
  refine ⟨by omega, ⟨rfl, rfl⟩, fun x hx => ⟨fun h => ⟨⟨by omega, by omega⟩, ⟨h0, h1, el_get h0 h2 _⟩, fun _ => ⟨by rw [evM_len]; simp only [List.length_cons, List.length_nil]; omega, x + 1, by omega, by omega, wrap_succ (by omega), evM_succ _ _ _ _⟩⟩, fun h => by rw [show x = xs.length by omega]⟩⟩
theorem v_S_DecodeWord :
 ∀ (d : Int × List Int × List Int × Int), Ty.wf i64T d.1 ∧ Ty.wf listT d.2.1 ∧ Ty.wf listT d.2.2.1 ∧ Ty.wf i64T d.2.2.2 → True → True ∧ ((!codeB d.1 d.2.1 d.2.2.2) = true → ([], (0 : Int), false) = decF d.1 d.2.1 d.2.2.1
 d.2.2.2) ∧ ((!codeB d.1 d.2.1 d.2.2.2) = false → ((!decide ((↑d.2.2.1.length : Int) = (↑d.2.1.length : Int))) = true → ([], (0 : Int), false) = decF d.1 d.2.1 d.2.2.1 d.2.2.2) ∧ ((!decide ((↑d.2.2.1.length : Int) =
 (↑d.2.1.length : Int))) = false → True ∧ ((!specElemsF d.1 d.2.2.1) = true → ([], (0 : Int), false) = decF d.1 d.2.1 d.2.2.1 d.2.2.2) ∧ ((!specElemsF d.1 d.2.2.1) = false → SetJ (modF d.1) d.2.1 d.2.2.1 d.2.2.2.toNat (0
 : Nat) ∧ (d.1 = d.1 ∧ d.2.1 = d.2.1 ∧ d.2.2.1 = d.2.2.1 ∧ d.2.2.2 = d.2.2.2 ∧ (↑d.2.1.length : Int) = (↑d.2.1.length : Int) ∧ (0 : Int) = (↑(0 : Nat) : Int)) ∧ ∀ (x : Nat), SetJ (modF d.1) d.2.1 d.2.2.1 d.2.2.2.toNat x
 → (0 : Int) ≤ IntKind.wrap IntKind.u64 (↑d.2.1.length : Int) ∧ (decide ((↑x : Int) < ishl IntKind.i64 (1 : Int) (IntKind.wrap IntKind.u64 (↑d.2.1.length : Int))) = true → (0 : Nat) ≤ d.2.1.length ∧ ((d.1 = d.1 ∧ d.2.1 =
 d.2.1 ∧ d.2.2.1 = d.2.2.1 ∧ d.2.2.2 = d.2.2.2 ∧ (↑d.2.1.length : Int) = (↑d.2.1.length : Int) ∧ (↑x : Int) = (↑x : Int) ∧ (0 : Int) = (↑(0 : Nat) : Int)) ∧ [] = subL d.2.1 x (0 : Nat) ∧ [] = subL d.2.2.1 x (0 : Nat)) ∧
 ∀ (x_1 : Nat), x_1 ≤ d.2.1.length → (decide ((↑x_1 : Int) < (↑d.2.1.length : Int)) = true → (0 : Int) ≤ IntKind.wrap IntKind.u64 (↑x_1 : Int) ∧ (2 : Int) ≠ (0 : Int) ∧ (decide (Int.tmod (ishr IntKind.i64 (↑x : Int)
 (IntKind.wrap IntKind.u64 (↑x_1 : Int))) (2 : Int) = (1 : Int)) = true → ((0 : Int) ≤ (↑x_1 : Int) ∧ (↑x_1 : Int) < (↑d.2.1.length : Int)) ∧ (List.length (subL d.2.1 x x_1) + List.length [d.2.1.getD (Int.toNat (↑x_1 :
 Int)) (0 : Int)]) * (8 : Nat) ≤ (140737488355328 : Nat) ∧ ((0 : Int) ≤ (↑x_1 : Int) ∧ (↑x_1 : Int) < (↑d.2.2.1.length : Int)) ∧ (List.length (subL d.2.2.1 x x_1) + List.length [d.2.2.1.getD (Int.toNat (↑x_1 : Int)) (0 :
 Int)]) * (8 : Nat) ≤ (140737488355328 : Nat) ∧ ∃ (x' : Nat), x' ≤ d.2.1.length ∧ d.2.1.length - x' < d.2.1.length - x_1 ∧ (d.1 = d.1 ∧ d.2.1 = d.2.1 ∧ d.2.2.1 = d.2.2.1 ∧ d.2.2.2 = d.2.2.2 ∧ (↑d.2.1.length : Int) =
 (↑d.2.1.length : Int) ∧ (↑x : Int) = (↑x : Int) ∧ IntKind.wrap IntKind.i64 ((↑x_1 : Int) + (1 : Int)) = (↑x' : Int)) ∧ subL d.2.1 x x_1 ++ [d.2.1.getD (Int.toNat (↑x_1 : Int)) (0 : Int)] = subL d.2.1 x x' ∧ subL d.2.2.1
 x x_1 ++ [d.2.2.1.getD (Int.toNat (↑x_1 : Int)) (0 : Int)] = subL d.2.2.1 x x') ∧ (decide (Int.tmod (ishr IntKind.i64 (↑x : Int) (IntKind.wrap IntKind.u64 (↑x_1 : Int))) (2 : Int) = (1 : Int)) = false → ∃ (x' : Nat), x'
 ≤ d.2.1.length ∧ d.2.1.length - x' < d.2.1.length - x_1 ∧ (d.1 = d.1 ∧ d.2.1 = d.2.1 ∧ d.2.2.1 = d.2.2.1 ∧ d.2.2.2 = d.2.2.2 ∧ (↑d.2.1.length : Int) = (↑d.2.1.length : Int) ∧ (↑x : Int) = (↑x : Int) ∧ IntKind.wrap
 IntKind.i64 ((↑x_1 : Int) + (1 : Int)) = (↑x' : Int)) ∧ subL d.2.1 x x_1 = subL d.2.1 x x' ∧ subL d.2.2.1 x x_1 = subL d.2.2.1 x x')) ∧ (decide ((↑x_1 : Int) < (↑d.2.1.length : Int)) = false → ((!decide ((↑(List.length
 (subL d.2.1 x x_1)) : Int) = d.2.2.2)) = true → ∃ (x' : Nat), SetJ (modF d.1) d.2.1 d.2.2.1 d.2.2.2.toNat x' ∧ (2 : Nat) ^ d.2.1.length - x' < (2 : Nat) ^ d.2.1.length - x ∧ d.1 = d.1 ∧ d.2.1 = d.2.1 ∧ d.2.2.1 = d.2.2.1
 ∧ d.2.2.2 = d.2.2.2 ∧ (↑d.2.1.length : Int) = (↑d.2.1.length : Int) ∧ IntKind.wrap IntKind.i64 ((↑x : Int) + (1 : Int)) = (↑x' : Int)) ∧ ((!decide ((↑(List.length (subL d.2.1 x x_1)) : Int) = d.2.2.2)) = false →
 (pointsF d.1 (subL d.2.1 x x_1) = true ∧ List.length (subL d.2.2.1 x x_1) = List.length (subL d.2.1 x x_1)) ∧ (Ty.wf listT (thrF (modF d.1) (subL d.2.1 x x_1) (subL d.2.2.1 x x_1)) → List.length (msgF (modF d.1) d.2.1
 d.2.2.1 x) + (0 : Nat) ≤ d.2.2.2.toNat ∧ ((d.1 = d.1 ∧ d.2.1 = d.2.1 ∧ d.2.2.1 = d.2.2.1 ∧ d.2.2.2 = d.2.2.2 ∧ (↑d.2.1.length : Int) = (↑d.2.1.length : Int) ∧ (↑x : Int) = (↑x : Int) ∧ (↑x_1 : Int) = (↑x_1 : Int)) ∧
 subL d.2.1 x x_1 = subL d.2.1 x x_1 ∧ subL d.2.2.1 x x_1 = subL d.2.2.1 x x_1 ∧ thrF (modF d.1) (subL d.2.1 x x_1) (subL d.2.2.1 x x_1) = msgF (modF d.1) d.2.1 d.2.2.1 x ++ List.replicate (0 : Nat) (0 : Int)) ∧ ∀ (x_2 :
 Nat), List.length (msgF (modF d.1) d.2.1 d.2.2.1 x) + x_2 ≤ d.2.2.2.toNat → (decide ((↑(List.length (msgF (modF d.1) d.2.1 d.2.2.1 x ++ List.replicate x_2 (0 : Int))) : Int) < d.2.2.2) = true → (List.length (msgF (modF
 d.1) d.2.1 d.2.2.1 x ++ List.replicate x_2 (0 : Int)) + List.length [(0 : Int)]) * (8 : Nat) ≤ (140737488355328 : Nat) ∧ ∃ (x' : Nat), List.length (msgF (modF d.1) d.2.1 d.2.2.1 x) + x' ≤ d.2.2.2.toNat ∧ d.2.2.2.toNat -
 x' < d.2.2.2.toNat - x_2 ∧ (d.1 = d.1 ∧ d.2.1 = d.2.1 ∧ d.2.2.1 = d.2.2.1 ∧ d.2.2.2 = d.2.2.2 ∧ (↑d.2.1.length : Int) = (↑d.2.1.length : Int) ∧ (↑x : Int) = (↑x : Int) ∧ (↑x_1 : Int) = (↑x_1 : Int)) ∧ subL d.2.1 x x_1 =
 subL d.2.1 x x_1 ∧ subL d.2.2.1 x x_1 = subL d.2.2.1 x x_1 ∧ msgF (modF d.1) d.2.1 d.2.2.1 x ++ List.replicate x_2 (0 : Int) ++ [(0 : Int)] = msgF (modF d.1) d.2.1 d.2.2.1 x ++ List.replicate x' (0 : Int)) ∧ (decide
 ((↑(List.length (msgF (modF d.1) d.2.1 d.2.2.1 x ++ List.replicate x_2 (0 : Int))) : Int) < d.2.2.2) = false → True ∧ (Ty.wf listT (encS d.1 d.2.1 (msgF (modF d.1) d.2.1 d.2.2.1 x ++ List.replicate x_2 (0 : Int))) →
 True ∧ (Ty.wf i64T (difS (encS d.1 d.2.1 (msgF (modF d.1) d.2.1 d.2.2.1 x ++ List.replicate x_2 (0 : Int))) d.2.2.1) → (2 : Int) ≠ (0 : Int) ∧ (decide (difS (encS d.1 d.2.1 (msgF (modF d.1) d.2.1 d.2.2.1 x ++
 List.replicate x_2 (0 : Int))) d.2.2.1 ≤ IntKind.wrap IntKind.i64 (Int.tdiv (IntKind.wrap IntKind.i64 ((↑d.2.1.length : Int) - d.2.2.2)) (2 : Int))) = true → (msgF (modF d.1) d.2.1 d.2.2.1 x ++ List.replicate x_2 (0 :
 Int), difS (encS d.1 d.2.1 (msgF (modF d.1) d.2.1 d.2.2.1 x ++ List.replicate x_2 (0 : Int))) d.2.2.1, true) = decF d.1 d.2.1 d.2.2.1 d.2.2.2) ∧ (decide (difS (encS d.1 d.2.1 (msgF (modF d.1) d.2.1 d.2.2.1 x ++
 List.replicate x_2 (0 : Int))) d.2.2.1 ≤ IntKind.wrap IntKind.i64 (Int.tdiv (IntKind.wrap IntKind.i64 ((↑d.2.1.length : Int) - d.2.2.2)) (2 : Int))) = false → ∃ (x' : Nat), SetJ (modF d.1) d.2.1 d.2.2.1 d.2.2.2.toNat x'
 ∧ (2 : Nat) ^ d.2.1.length - x' < (2 : Nat) ^ d.2.1.length - x ∧ d.1 = d.1 ∧ d.2.1 = d.2.1 ∧ d.2.2.1 = d.2.2.1 ∧ d.2.2.2 = d.2.2.2 ∧ (↑d.2.1.length : Int) = (↑d.2.1.length : Int) ∧ IntKind.wrap IntKind.i64 ((↑x : Int) +
 (1 : Int)) = (↑x' : Int))))))))) ∧ (decide ((↑x : Int) < ishl IntKind.i64 (1 : Int) (IntKind.wrap IntKind.u64 (↑d.2.1.length : Int))) = false → ([], (0 : Int), false) = decF d.1 d.2.1 d.2.2.1 d.2.2.2)))) := by
  intro (d : Int × List Int × List Int × Int) hw hp
  obtain ⟨f, xs, ys, k⟩ := d
  simp only [Int.toNat_natCast, exists_const, and_true, true_and, implies_true, decide_eq_true_eq, decide_eq_false_iff_not, Bool.not_eq_true', Bool.not_eq_false', beq_iff_eq, forall_const]
  refine ⟨fun h => dec_no (by rw [h]; rfl), fun h => ⟨fun h1 => dec_no (by rw [decide_eq_false (show ¬ ys.length = xs.length by omega), Bool.and_false]; rfl), fun h1 => ⟨fun h2 => dec_no (by rw [h2, Bool.and_false]), fun h2 => ⟨⟨Nat.zero_le _, fun t ht => absurd ht (by omega)⟩, rfl, fun x hx => ?_⟩⟩⟩⟩
  obtain ⟨hpt, hl, hk1, hk2⟩ := code_ok h
  obtain ⟨hm, hl1, hl2, he, hn⟩ := pt_ok hpt
  have h0 := (mod_pr hm).mod
  have hly : ys.length = xs.length := by omega
  obtain ⟨kk, rfl⟩ := Int.eq_ofNat_of_zero_le (show 0 ≤ k by omega)
  simp only [Int.toNat_natCast] at hx ⊢
  have hp1 := pow_1024 hl
  rw [u64_10 hl, shl_nat hl]
  refine ⟨by omega, fun h3 => ⟨by omega, ⟨rfl, rfl, rfl⟩, fun y hy => ⟨fun h4 => ?_, fun h4 => ?_⟩⟩, fun h3 => dec_end h hly h2 hx (by omega)⟩
  · have hsl := (sub_sub (xs := xs) x y (by omega)).length_le
    have hsl2 := sub_len ys xs x y
    rw [List.length_take] at hsl
    rw [u64_10 (show y ≤ 10 by omega), ishr_nat x y (by omega), tmod_nat]
    refine ⟨by omega, by decide, fun h5 => ⟨⟨by omega, by omega⟩, by simp only [List.length_cons, List.length_nil]; omega, ⟨by omega, by omega⟩, by simp only [List.length_cons, List.length_nil]; omega, y + 1, by omega, by omega, wrap_succ (by omega), sub_take (by omega), sub_take (by omega)⟩, fun h5 => ⟨y + 1, by omega, by omega, wrap_succ (by omega), sub_skip (by omega), sub_skip (by omega)⟩⟩
  · obtain rfl : y = xs.length := by omega
    have nxt : hitB (modF f) xs ys kk x = false → ∃ x', SetJ (modF f) xs ys kk x' ∧ 2 ^ xs.length - x' < 2 ^ xs.length - x ∧ IntKind.i64.wrap ((x : Int) + 1) = (x' : Int) :=
      fun hh => ⟨x + 1, set_next hx (by omega) hh, by omega, wrap_succ (by omega)⟩
    refine ⟨fun h5 => nxt (by unfold hitB; rw [decide_eq_false (by omega)]; rfl), fun h5 => ⟨⟨sub_pt hpt (by omega), sub_len _ _ _ _⟩, fun _ => ?_⟩⟩
    obtain ⟨hme, hml⟩ := msg_ok hpt hly x
    refine ⟨by omega, by rw [List.replicate_zero, List.append_nil]; rfl, fun z hz => ⟨fun h6 => ?_, fun h6 _ _ => ⟨by decide, ?_⟩⟩⟩
    · rw [List.length_append, List.length_replicate] at h6 ⊢
      refine ⟨by simp only [List.length_cons, List.length_nil]; omega, z + 1, by omega, by omega, ?_⟩
      rw [List.append_assoc, List.replicate_succ']
    · rw [List.length_append, List.length_replicate] at h6
      have hzk : z = kk - (msgF (modF f) xs ys x).length := by omega
      have hkl : (msgF (modF f) xs ys x ++ List.replicate z 0).length = kk := by rw [List.length_append, List.length_replicate]; omega
      have henc : encS f xs (msgF (modF f) xs ys x ++ List.replicate z 0) = evM (modF f) (msgF (modF f) xs ys x) xs xs.length := by
        unfold encS
        rw [hkl, h, spec_of hm (pad_elems h0 hme z)]
        exact evM_ext h0 (fun t => by rw [trim_getD, rep_getD]) _ _
      have hdif : difS (encS f xs (msgF (modF f) xs ys x ++ List.replicate z 0)) ys = ((errF (modF f) xs ys x : Nat) : Int) := by
        rw [henc, difS_small (by rw [evM_len]; omega) (by omega), difF_eq (evM_len _ _ _ _) hly]; rfl
      rw [hdif, half_nat (by omega) hl]
      refine ⟨fun h7 => ?_, fun h7 => nxt (by unfold hitB; rw [decide_eq_false (show ¬ errF (modF f) xs ys x ≤ (xs.length - kk) / 2 by omega), Bool.and_false])⟩
      have hh : hitB (modF f) xs ys (kk : Int).toNat x = true := by
        unfold hitB
        rw [Int.toNat_natCast, decide_eq_true (show (subL xs x xs.length).length = kk by omega), decide_eq_true (show errF (modF f) xs ys x ≤ (xs.length - kk) / 2 by omega)]; rfl
      rw [dec_hit h hly h2 (s := x) (by rw [Int.toNat_natCast]; exact hx) (by omega) hh, Int.toNat_natCast, hzk]
      rfl
theorem v_I_decodeWord :
 ∀ (d : Int × List Int × List Int × Int), Ty.wf i64T d.1 ∧ Ty.wf listT d.2.1 ∧ Ty.wf listT d.2.2.1 ∧ Ty.wf i64T d.2.2.2 → True → True ∧ (Ty.wf fldT (Prod.fst (codF d.1 d.2.1 d.2.2.2)) ∧ Ty.wf Ty.bool (Prod.snd (codF d.1
 d.2.1 d.2.2.2)) → ((!Prod.snd (codF d.1 d.2.1 d.2.2.2)) = true → ([], (0 : Int), false) = decF d.1 d.2.1 d.2.2.1 d.2.2.2) ∧ ((!Prod.snd (codF d.1 d.2.1 d.2.2.2)) = false → ((!decide ((↑d.2.2.1.length : Int) =
 (↑d.2.1.length : Int))) = true → ([], (0 : Int), false) = decF d.1 d.2.1 d.2.2.1 d.2.2.2) ∧ ((!decide ((↑d.2.2.1.length : Int) = (↑d.2.1.length : Int))) = false → True ∧ ((!elemsF (Prod.fst (Prod.fst (codF d.1 d.2.1
 d.2.2.2))) d.2.2.1) = true → ([], (0 : Int), false) = decF d.1 d.2.1 d.2.2.1 d.2.2.2) ∧ ((!elemsF (Prod.fst (Prod.fst (codF d.1 d.2.1 d.2.2.2))) d.2.2.1) = false → (0 : Int) ≤ (↑d.2.1.length : Int) ∧ SetJ (modF d.1)
 d.2.1 d.2.2.1 d.2.2.2.toNat (0 : Nat) ∧ ((d.1 = d.1 ∧ d.2.1 = d.2.1 ∧ d.2.2.1 = d.2.2.1 ∧ d.2.2.2 = d.2.2.2 ∧ Prod.snd (codF d.1 d.2.1 d.2.2.2) = Prod.snd (codF d.1 d.2.1 d.2.2.2) ∧ ishl IntKind.i64 (1 : Int)
 (↑d.2.1.length : Int) = ishl IntKind.i64 (1 : Int) (↑d.2.1.length : Int) ∧ (0 : Int) = (↑(0 : Nat) : Int)) ∧ Prod.fst (Prod.fst (codF d.1 d.2.1 d.2.2.2)) = Prod.fst (Prod.fst (codF d.1 d.2.1 d.2.2.2)) ∧ Prod.fst
 (Prod.snd (Prod.fst (codF d.1 d.2.1 d.2.2.2))) = Prod.fst (Prod.snd (Prod.fst (codF d.1 d.2.1 d.2.2.2))) ∧ Prod.snd (Prod.snd (Prod.fst (codF d.1 d.2.1 d.2.2.2))) = Prod.snd (Prod.snd (Prod.fst (codF d.1 d.2.1
 d.2.2.2)))) ∧ ∀ (x : Nat), SetJ (modF d.1) d.2.1 d.2.2.1 d.2.2.2.toNat x → (decide ((↑x : Int) < ishl IntKind.i64 (1 : Int) (↑d.2.1.length : Int)) = true → (0 : Nat) ≤ d.2.1.length ∧ ((d.1 = d.1 ∧ d.2.1 = d.2.1 ∧
 d.2.2.1 = d.2.2.1 ∧ d.2.2.2 = d.2.2.2 ∧ Prod.snd (codF d.1 d.2.1 d.2.2.2) = Prod.snd (codF d.1 d.2.1 d.2.2.2) ∧ (↑x : Int) = (↑x : Int) ∧ ishl IntKind.i64 (1 : Int) (↑d.2.1.length : Int) = ishl IntKind.i64 (1 : Int)
 (↑d.2.1.length : Int) ∧ (↑x : Int) = (↑x : Int) ∧ d.2.1 = d.2.1 ∧ (↑d.2.1.length : Int) = (↑d.2.1.length : Int) ∧ (0 : Int) = (↑(0 : Nat) : Int)) ∧ (Prod.fst (Prod.fst (codF d.1 d.2.1 d.2.2.2)) = Prod.fst (Prod.fst
 (codF d.1 d.2.1 d.2.2.2)) ∧ Prod.fst (Prod.snd (Prod.fst (codF d.1 d.2.1 d.2.2.2))) = Prod.fst (Prod.snd (Prod.fst (codF d.1 d.2.1 d.2.2.2))) ∧ Prod.snd (Prod.snd (Prod.fst (codF d.1 d.2.1 d.2.2.2))) = Prod.snd
 (Prod.snd (Prod.fst (codF d.1 d.2.1 d.2.2.2)))) ∧ [] = subL d.2.1 x (0 : Nat) ∧ [] = subL d.2.2.1 x (0 : Nat)) ∧ ∀ (x_1 : Nat), x_1 ≤ d.2.1.length → (decide ((↑x_1 : Int) < (↑d.2.1.length : Int)) = true → ((0 : Int) ≤
 (↑x_1 : Int) ∧ (↑x_1 : Int) < (↑d.2.1.length : Int)) ∧ (0 : Int) ≤ (↑x_1 : Int) ∧ (decide (iand IntKind.i64 (ishr IntKind.i64 (↑x : Int) (↑x_1 : Int)) (1 : Int) = (1 : Int)) = true → (List.length (subL d.2.1 x x_1) +
 List.length [d.2.1.getD (Int.toNat (↑x_1 : Int)) (0 : Int)]) * (8 : Nat) ≤ (140737488355328 : Nat) ∧ ((0 : Int) ≤ (↑x_1 : Int) ∧ (↑x_1 : Int) < (↑d.2.2.1.length : Int)) ∧ (List.length (subL d.2.2.1 x x_1) + List.length
 [d.2.2.1.getD (Int.toNat (↑x_1 : Int)) (0 : Int)]) * (8 : Nat) ≤ (140737488355328 : Nat) ∧ ∃ (x' : Nat), x' ≤ d.2.1.length ∧ d.2.1.length - x' < d.2.1.length - x_1 ∧ (d.1 = d.1 ∧ d.2.1 = d.2.1 ∧ d.2.2.1 = d.2.2.1 ∧
 d.2.2.2 = d.2.2.2 ∧ Prod.snd (codF d.1 d.2.1 d.2.2.2) = Prod.snd (codF d.1 d.2.1 d.2.2.2) ∧ (↑x : Int) = (↑x : Int) ∧ ishl IntKind.i64 (1 : Int) (↑d.2.1.length : Int) = ishl IntKind.i64 (1 : Int) (↑d.2.1.length : Int) ∧
 (↑x : Int) = (↑x : Int) ∧ d.2.1 = d.2.1 ∧ (↑d.2.1.length : Int) = (↑d.2.1.length : Int) ∧ IntKind.wrap IntKind.i64 ((↑x_1 : Int) + (1 : Int)) = (↑x' : Int)) ∧ (Prod.fst (Prod.fst (codF d.1 d.2.1 d.2.2.2)) = Prod.fst
 (Prod.fst (codF d.1 d.2.1 d.2.2.2)) ∧ Prod.fst (Prod.snd (Prod.fst (codF d.1 d.2.1 d.2.2.2))) = Prod.fst (Prod.snd (Prod.fst (codF d.1 d.2.1 d.2.2.2))) ∧ Prod.snd (Prod.snd (Prod.fst (codF d.1 d.2.1 d.2.2.2))) =
 Prod.snd (Prod.snd (Prod.fst (codF d.1 d.2.1 d.2.2.2)))) ∧ subL d.2.1 x x_1 ++ [d.2.1.getD (Int.toNat (↑x_1 : Int)) (0 : Int)] = subL d.2.1 x x' ∧ subL d.2.2.1 x x_1 ++ [d.2.2.1.getD (Int.toNat (↑x_1 : Int)) (0 : Int)]
 = subL d.2.2.1 x x') ∧ (decide (iand IntKind.i64 (ishr IntKind.i64 (↑x : Int) (↑x_1 : Int)) (1 : Int) = (1 : Int)) = false → ∃ (x' : Nat), x' ≤ d.2.1.length ∧ d.2.1.length - x' < d.2.1.length - x_1 ∧ (d.1 = d.1 ∧ d.2.1
 = d.2.1 ∧ d.2.2.1 = d.2.2.1 ∧ d.2.2.2 = d.2.2.2 ∧ Prod.snd (codF d.1 d.2.1 d.2.2.2) = Prod.snd (codF d.1 d.2.1 d.2.2.2) ∧ (↑x : Int) = (↑x : Int) ∧ ishl IntKind.i64 (1 : Int) (↑d.2.1.length : Int) = ishl IntKind.i64 (1
 : Int) (↑d.2.1.length : Int) ∧ (↑x : Int) = (↑x : Int) ∧ d.2.1 = d.2.1 ∧ (↑d.2.1.length : Int) = (↑d.2.1.length : Int) ∧ IntKind.wrap IntKind.i64 ((↑x_1 : Int) + (1 : Int)) = (↑x' : Int)) ∧ (Prod.fst (Prod.fst (codF d.1
 d.2.1 d.2.2.2)) = Prod.fst (Prod.fst (codF d.1 d.2.1 d.2.2.2)) ∧ Prod.fst (Prod.snd (Prod.fst (codF d.1 d.2.1 d.2.2.2))) = Prod.fst (Prod.snd (Prod.fst (codF d.1 d.2.1 d.2.2.2))) ∧ Prod.snd (Prod.snd (Prod.fst (codF d.1
 d.2.1 d.2.2.2))) = Prod.snd (Prod.snd (Prod.fst (codF d.1 d.2.1 d.2.2.2)))) ∧ subL d.2.1 x x_1 = subL d.2.1 x x' ∧ subL d.2.2.1 x x_1 = subL d.2.2.1 x x')) ∧ (decide ((↑x_1 : Int) < (↑d.2.1.length : Int)) = false →
 ((!decide ((↑(List.length (subL d.2.1 x x_1)) : Int) = d.2.2.2)) = true → ∃ (x' : Nat), SetJ (modF d.1) d.2.1 d.2.2.1 d.2.2.2.toNat x' ∧ (2 : Nat) ^ d.2.1.length - x' < (2 : Nat) ^ d.2.1.length - x ∧ (d.1 = d.1 ∧ d.2.1
 = d.2.1 ∧ d.2.2.1 = d.2.2.1 ∧ d.2.2.2 = d.2.2.2 ∧ Prod.snd (codF d.1 d.2.1 d.2.2.2) = Prod.snd (codF d.1 d.2.1 d.2.2.2) ∧ ishl IntKind.i64 (1 : Int) (↑d.2.1.length : Int) = ishl IntKind.i64 (1 : Int) (↑d.2.1.length :
 Int) ∧ IntKind.wrap IntKind.i64 ((↑x : Int) + (1 : Int)) = (↑x' : Int)) ∧ Prod.fst (Prod.fst (codF d.1 d.2.1 d.2.2.2)) = Prod.fst (Prod.fst (codF d.1 d.2.1 d.2.2.2)) ∧ Prod.fst (Prod.snd (Prod.fst (codF d.1 d.2.1
 d.2.2.2))) = Prod.fst (Prod.snd (Prod.fst (codF d.1 d.2.1 d.2.2.2))) ∧ Prod.snd (Prod.snd (Prod.fst (codF d.1 d.2.1 d.2.2.2))) = Prod.snd (Prod.snd (Prod.fst (codF d.1 d.2.1 d.2.2.2)))) ∧ ((!decide ((↑(List.length (subL
 d.2.1 x x_1)) : Int) = d.2.2.2)) = false → ((∃ (f : Int), pointsF f (subL d.2.1 x x_1) = true ∧ modF f = Prod.fst (Prod.fst (codF d.1 d.2.1 d.2.2.2))) ∧ elemsF (Prod.fst (Prod.fst (codF d.1 d.2.1 d.2.2.2))) (subL
 d.2.2.1 x x_1) = true ∧ List.length (subL d.2.2.1 x x_1) = List.length (subL d.2.1 x x_1)) ∧ (Ty.wf listT (thrF (Prod.fst (Prod.fst (codF d.1 d.2.1 d.2.2.2))) (subL d.2.1 x x_1) (subL d.2.2.1 x x_1)) → (IsMod (Prod.fst
 (Prod.fst (codF d.1 d.2.1 d.2.2.2))) ∧ elemsF (Prod.fst (Prod.fst (codF d.1 d.2.1 d.2.2.2))) (thrF (Prod.fst (Prod.fst (codF d.1 d.2.1 d.2.2.2))) (subL d.2.1 x x_1) (subL d.2.2.1 x x_1)) = true ∧ elemsF (Prod.fst
 (Prod.fst (codF d.1 d.2.1 d.2.2.2))) d.2.1 = true ∧ d.2.1.length ≤ (1000 : Nat)) ∧ (Ty.wf listT (evM (Prod.fst (Prod.fst (codF d.1 d.2.1 d.2.2.2))) (thrF (Prod.fst (Prod.fst (codF d.1 d.2.1 d.2.2.2))) (subL d.2.1 x x_1)
 (subL d.2.2.1 x x_1)) d.2.1 d.2.1.length) → (List.length (evM (Prod.fst (Prod.fst (codF d.1 d.2.1 d.2.2.2))) (thrF (Prod.fst (Prod.fst (codF d.1 d.2.1 d.2.2.2))) (subL d.2.1 x x_1) (subL d.2.2.1 x x_1)) d.2.1
 d.2.1.length) ≤ (1048576 : Nat) ∧ d.2.2.1.length ≤ (1048576 : Nat)) ∧ (Ty.wf i64T (difF (evM (Prod.fst (Prod.fst (codF d.1 d.2.1 d.2.2.2))) (thrF (Prod.fst (Prod.fst (codF d.1 d.2.1 d.2.2.2))) (subL d.2.1 x x_1) (subL
 d.2.2.1 x x_1)) d.2.1 d.2.1.length) d.2.2.1) → (2 : Int) ≠ (0 : Int) ∧ (decide (difF (evM (Prod.fst (Prod.fst (codF d.1 d.2.1 d.2.2.2))) (thrF (Prod.fst (Prod.fst (codF d.1 d.2.1 d.2.2.2))) (subL d.2.1 x x_1) (subL
 d.2.2.1 x x_1)) d.2.1 d.2.1.length) d.2.2.1 ≤ IntKind.wrap IntKind.i64 (Int.tdiv (IntKind.wrap IntKind.i64 ((↑d.2.1.length : Int) - d.2.2.2)) (2 : Int))) = true → List.length (msgF (modF d.1) d.2.1 d.2.2.1 x) + (0 :
 Nat) ≤ d.2.2.2.toNat ∧ ((d.1 = d.1 ∧ d.2.1 = d.2.1 ∧ d.2.2.1 = d.2.2.1 ∧ d.2.2.2 = d.2.2.2 ∧ Prod.snd (codF d.1 d.2.1 d.2.2.2) = Prod.snd (codF d.1 d.2.1 d.2.2.2) ∧ (↑x : Int) = (↑x : Int) ∧ difF (evM (Prod.fst
 (Prod.fst (codF d.1 d.2.1 d.2.2.2))) (thrF (Prod.fst (Prod.fst (codF d.1 d.2.1 d.2.2.2))) (subL d.2.1 x x_1) (subL d.2.2.1 x x_1)) d.2.1 d.2.1.length) d.2.2.1 = difF (evM (Prod.fst (Prod.fst (codF d.1 d.2.1 d.2.2.2)))
 (thrF (Prod.fst (Prod.fst (codF d.1 d.2.1 d.2.2.2))) (subL d.2.1 x x_1) (subL d.2.2.1 x x_1)) d.2.1 d.2.1.length) d.2.2.1 ∧ ishl IntKind.i64 (1 : Int) (↑d.2.1.length : Int) = ishl IntKind.i64 (1 : Int) (↑d.2.1.length :
 Int) ∧ (↑x : Int) = (↑x : Int)) ∧ (Prod.fst (Prod.fst (codF d.1 d.2.1 d.2.2.2)) = Prod.fst (Prod.fst (codF d.1 d.2.1 d.2.2.2)) ∧ Prod.fst (Prod.snd (Prod.fst (codF d.1 d.2.1 d.2.2.2))) = Prod.fst (Prod.snd (Prod.fst
 (codF d.1 d.2.1 d.2.2.2))) ∧ Prod.snd (Prod.snd (Prod.fst (codF d.1 d.2.1 d.2.2.2))) = Prod.snd (Prod.snd (Prod.fst (codF d.1 d.2.1 d.2.2.2)))) ∧ subL d.2.1 x x_1 = subL d.2.1 x x_1 ∧ subL d.2.2.1 x x_1 = subL d.2.2.1 x
 x_1 ∧ thrF (Prod.fst (Prod.fst (codF d.1 d.2.1 d.2.2.2))) (subL d.2.1 x x_1) (subL d.2.2.1 x x_1) = msgF (modF d.1) d.2.1 d.2.2.1 x ++ List.replicate (0 : Nat) (0 : Int) ∧ evM (Prod.fst (Prod.fst (codF d.1 d.2.1
 d.2.2.2))) (thrF (Prod.fst (Prod.fst (codF d.1 d.2.1 d.2.2.2))) (subL d.2.1 x x_1) (subL d.2.2.1 x x_1)) d.2.1 d.2.1.length = evM (Prod.fst (Prod.fst (codF d.1 d.2.1 d.2.2.2))) (thrF (Prod.fst (Prod.fst (codF d.1 d.2.1
 d.2.2.2))) (subL d.2.1 x x_1) (subL d.2.2.1 x x_1)) d.2.1 d.2.1.length) ∧ ∀ (x_2 : Nat), List.length (msgF (modF d.1) d.2.1 d.2.2.1 x) + x_2 ≤ d.2.2.2.toNat → (decide ((↑(List.length (msgF (modF d.1) d.2.1 d.2.2.1 x ++
 List.replicate x_2 (0 : Int))) : Int) < d.2.2.2) = true → (List.length (msgF (modF d.1) d.2.1 d.2.2.1 x ++ List.replicate x_2 (0 : Int)) + List.length [(0 : Int)]) * (8 : Nat) ≤ (140737488355328 : Nat) ∧ ∃ (x' : Nat),
 List.length (msgF (modF d.1) d.2.1 d.2.2.1 x) + x' ≤ d.2.2.2.toNat ∧ d.2.2.2.toNat - x' < d.2.2.2.toNat - x_2 ∧ (d.1 = d.1 ∧ d.2.1 = d.2.1 ∧ d.2.2.1 = d.2.2.1 ∧ d.2.2.2 = d.2.2.2 ∧ Prod.snd (codF d.1 d.2.1 d.2.2.2) =
 Prod.snd (codF d.1 d.2.1 d.2.2.2) ∧ (↑x : Int) = (↑x : Int) ∧ difF (evM (Prod.fst (Prod.fst (codF d.1 d.2.1 d.2.2.2))) (thrF (Prod.fst (Prod.fst (codF d.1 d.2.1 d.2.2.2))) (subL d.2.1 x x_1) (subL d.2.2.1 x x_1)) d.2.1
 d.2.1.length) d.2.2.1 = difF (evM (Prod.fst (Prod.fst (codF d.1 d.2.1 d.2.2.2))) (thrF (Prod.fst (Prod.fst (codF d.1 d.2.1 d.2.2.2))) (subL d.2.1 x x_1) (subL d.2.2.1 x x_1)) d.2.1 d.2.1.length) d.2.2.1 ∧ ishl
 IntKind.i64 (1 : Int) (↑d.2.1.length : Int) = ishl IntKind.i64 (1 : Int) (↑d.2.1.length : Int) ∧ (↑x : Int) = (↑x : Int)) ∧ (Prod.fst (Prod.fst (codF d.1 d.2.1 d.2.2.2)) = Prod.fst (Prod.fst (codF d.1 d.2.1 d.2.2.2)) ∧
 Prod.fst (Prod.snd (Prod.fst (codF d.1 d.2.1 d.2.2.2))) = Prod.fst (Prod.snd (Prod.fst (codF d.1 d.2.1 d.2.2.2))) ∧ Prod.snd (Prod.snd (Prod.fst (codF d.1 d.2.1 d.2.2.2))) = Prod.snd (Prod.snd (Prod.fst (codF d.1 d.2.1
 d.2.2.2)))) ∧ subL d.2.1 x x_1 = subL d.2.1 x x_1 ∧ subL d.2.2.1 x x_1 = subL d.2.2.1 x x_1 ∧ msgF (modF d.1) d.2.1 d.2.2.1 x ++ List.replicate x_2 (0 : Int) ++ [(0 : Int)] = msgF (modF d.1) d.2.1 d.2.2.1 x ++
 List.replicate x' (0 : Int) ∧ evM (Prod.fst (Prod.fst (codF d.1 d.2.1 d.2.2.2))) (thrF (Prod.fst (Prod.fst (codF d.1 d.2.1 d.2.2.2))) (subL d.2.1 x x_1) (subL d.2.2.1 x x_1)) d.2.1 d.2.1.length = evM (Prod.fst (Prod.fst
 (codF d.1 d.2.1 d.2.2.2))) (thrF (Prod.fst (Prod.fst (codF d.1 d.2.1 d.2.2.2))) (subL d.2.1 x x_1) (subL d.2.2.1 x x_1)) d.2.1 d.2.1.length) ∧ (decide ((↑(List.length (msgF (modF d.1) d.2.1 d.2.2.1 x ++ List.replicate
 x_2 (0 : Int))) : Int) < d.2.2.2) = false → (msgF (modF d.1) d.2.1 d.2.2.1 x ++ List.replicate x_2 (0 : Int), difF (evM (Prod.fst (Prod.fst (codF d.1 d.2.1 d.2.2.2))) (thrF (Prod.fst (Prod.fst (codF d.1 d.2.1 d.2.2.2)))
 (subL d.2.1 x x_1) (subL d.2.2.1 x x_1)) d.2.1 d.2.1.length) d.2.2.1, true) = decF d.1 d.2.1 d.2.2.1 d.2.2.2)) ∧ (decide (difF (evM (Prod.fst (Prod.fst (codF d.1 d.2.1 d.2.2.2))) (thrF (Prod.fst (Prod.fst (codF d.1
 d.2.1 d.2.2.2))) (subL d.2.1 x x_1) (subL d.2.2.1 x x_1)) d.2.1 d.2.1.length) d.2.2.1 ≤ IntKind.wrap IntKind.i64 (Int.tdiv (IntKind.wrap IntKind.i64 ((↑d.2.1.length : Int) - d.2.2.2)) (2 : Int))) = false → ∃ (x' : Nat),
 SetJ (modF d.1) d.2.1 d.2.2.1 d.2.2.2.toNat x' ∧ (2 : Nat) ^ d.2.1.length - x' < (2 : Nat) ^ d.2.1.length - x ∧ (d.1 = d.1 ∧ d.2.1 = d.2.1 ∧ d.2.2.1 = d.2.2.1 ∧ d.2.2.2 = d.2.2.2 ∧ Prod.snd (codF d.1 d.2.1 d.2.2.2) =
 Prod.snd (codF d.1 d.2.1 d.2.2.2) ∧ ishl IntKind.i64 (1 : Int) (↑d.2.1.length : Int) = ishl IntKind.i64 (1 : Int) (↑d.2.1.length : Int) ∧ IntKind.wrap IntKind.i64 ((↑x : Int) + (1 : Int)) = (↑x' : Int)) ∧ Prod.fst
 (Prod.fst (codF d.1 d.2.1 d.2.2.2)) = Prod.fst (Prod.fst (codF d.1 d.2.1 d.2.2.2)) ∧ Prod.fst (Prod.snd (Prod.fst (codF d.1 d.2.1 d.2.2.2))) = Prod.fst (Prod.snd (Prod.fst (codF d.1 d.2.1 d.2.2.2))) ∧ Prod.snd (Prod.snd
 (Prod.fst (codF d.1 d.2.1 d.2.2.2))) = Prod.snd (Prod.snd (Prod.fst (codF d.1 d.2.1 d.2.2.2)))))))))) ∧ (decide ((↑x : Int) < ishl IntKind.i64 (1 : Int) (↑d.2.1.length : Int)) = false → ([], (0 : Int), false) = decF d.1
 d.2.1 d.2.2.1 d.2.2.2))))) := by
  intro (d : Int × List Int × List Int × Int) hw hp
  obtain ⟨f, xs, ys, k⟩ := d
  simp only [Int.toNat_natCast, exists_const, and_true, true_and, implies_true, decide_eq_true_eq, decide_eq_false_iff_not, Bool.not_eq_true', Bool.not_eq_false', beq_iff_eq, forall_const]
  intro _
  rw [cod_snd]
  refine ⟨fun h => dec_no (by rw [h]; rfl), fun h => ?_⟩
  rw [cod_mod h]
  obtain ⟨hpt, hl, hk1, hk2⟩ := code_ok h
  obtain ⟨hm, hl1, hl2, he, hn⟩ := pt_ok hpt
  have h0 := (mod_pr hm).mod
  refine ⟨fun h1 => dec_no (by rw [decide_eq_false (show ¬ ys.length = xs.length by omega), Bool.and_false]; rfl), fun h1 => ⟨fun h2 => dec_no ?_, fun h2 => ⟨by omega, ⟨Nat.zero_le _, fun t ht => absurd ht (by omega)⟩, rfl, fun x hx => ?_⟩⟩⟩
  · unfold specElemsF
    rw [h2, Bool.and_false, Bool.and_false]
  have h2' := spec_of hm h2
  have hly : ys.length = xs.length := by omega
  obtain ⟨kk, rfl⟩ := Int.eq_ofNat_of_zero_le (show 0 ≤ k by omega)
  simp only [Int.toNat_natCast] at hx ⊢
  have hp1 := pow_1024 hl
  rw [shl_nat hl]
  refine ⟨fun h3 => ⟨by omega, ⟨rfl, rfl, rfl⟩, fun y hy => ⟨fun h4 => ?_, fun h4 => ?_⟩⟩, fun h3 => dec_end h hly h2' hx (by omega)⟩
  · have hsl := (sub_sub (xs := xs) x y (by omega)).length_le
    have hsl2 := sub_len ys xs x y
    rw [List.length_take] at hsl
    have hand : iand .i64 (((x / 2 ^ y : Nat)) : Int) 1 = ((x / 2 ^ y % 2 : Nat) : Int) := iand_1024 ⟨x / 2 ^ y, by have := Nat.div_le_self x (2 ^ y); omega⟩
    rw [ishr_nat x y (by omega), hand]
    refine ⟨⟨by omega, by omega⟩, by omega, fun h5 => ⟨by simp only [List.length_cons, List.length_nil]; omega, ⟨by omega, by omega⟩, by simp only [List.length_cons, List.length_nil]; omega, y + 1, by omega, by omega, wrap_succ (by omega), sub_take (by omega), sub_take (by omega)⟩, fun h5 => ⟨y + 1, by omega, by omega, wrap_succ (by omega), sub_skip (by omega), sub_skip (by omega)⟩⟩
  · obtain rfl : y = xs.length := by omega
    have nxt : hitB (modF f) xs ys kk x = false → ∃ x', SetJ (modF f) xs ys kk x' ∧ 2 ^ xs.length - x' < 2 ^ xs.length - x ∧ IntKind.i64.wrap ((x : Int) + 1) = (x' : Int) :=
      fun hh => ⟨x + 1, set_next hx (by omega) hh, by omega, wrap_succ (by omega)⟩
    obtain ⟨hme, hml⟩ := msg_ok hpt hly x
    have hms : thrF (modF f) (subL xs x xs.length) (subL ys x xs.length) = msgF (modF f) xs ys x := rfl
    have hdif : difF (evM (modF f) (msgF (modF f) xs ys x) xs xs.length) ys = ((errF (modF f) xs ys x : Nat) : Int) := difF_eq (evM_len _ _ _ _) hly
    rw [hms, hdif, evM_len]
    have hsy : elemsF (modF f) (subL ys x xs.length) = true := by
      have := sub_all (xs := ys) x
      rw [hly] at this
      exact sublist_elems this h2
    refine ⟨fun h5 => nxt (by unfold hitB; rw [decide_eq_false (by omega)]; rfl), fun h5 => ⟨⟨⟨f, sub_pt hpt (by omega), rfl⟩, hsy, sub_len _ _ _ _⟩, fun _ => ⟨⟨h0, hme, he, by omega⟩, fun _ => ⟨⟨by omega, by omega⟩, fun _ => ⟨by decide, ?_⟩⟩⟩⟩⟩
    rw [half_nat (by omega) hl]
    refine ⟨fun h7 => ⟨by omega, by rw [List.replicate_zero, List.append_nil], fun z hz => ⟨fun h6 => ?_, fun h6 => ?_⟩⟩, fun h7 => nxt (by unfold hitB; rw [decide_eq_false (show ¬ errF (modF f) xs ys x ≤ (xs.length - kk) / 2 by omega), Bool.and_false])⟩
    · rw [List.length_append, List.length_replicate] at h6 ⊢
      refine ⟨by simp only [List.length_cons, List.length_nil]; omega, z + 1, by omega, by omega, ?_⟩
      rw [List.append_assoc, List.replicate_succ']
    · rw [List.length_append, List.length_replicate] at h6
      have hzk : z = kk - (msgF (modF f) xs ys x).length := by omega
      have hh : hitB (modF f) xs ys (kk : Int).toNat x = true := by
        unfold hitB
        rw [Int.toNat_natCast, decide_eq_true (show (subL xs x xs.length).length = kk by omega), decide_eq_true (show errF (modF f) xs ys x ≤ (xs.length - kk) / 2 by omega)]; rfl
      rw [dec_hit h hly h2' (s := x) (by rw [Int.toNat_natCast]; exact hx) (by omega) hh, Int.toNat_natCast, hzk]
      rfl
theorem find_inv {h : Nat → Bool} {s : Nat} : ∀ n, findF h n = some s → h s = true ∧ s < n
  | 0, e => by cases e
  | n + 1, e => by
    unfold findF at e
    split at e
    · rename_i s' h1
      injection e with e
      subst e
      have := find_inv n h1
      exact ⟨this.1, by omega⟩
    · split at e
      · rename_i h2
        injection e with e
        subst e
        exact ⟨h2, by omega⟩
      · cases e
theorem dec_inv {f : Int} {xs ys : List Int} {k : Int} (h : (decF f xs ys k).2.2 = true) : codeB f xs k = true ∧ ys.length = xs.length ∧ specElemsF f ys = true ∧ ∃ s, s < 2 ^ xs.length ∧ hitB (modF f) xs ys k.toNat s = true ∧ decF f xs ys k = (padF (msgF (modF f) xs ys s) k.toNat, ((errF (modF f) xs ys s : Nat) : Int), true) := by
  by_cases hc : (codeB f xs k && decide (ys.length = xs.length) && specElemsF f ys) = true
  · have hc' := hc
    simp only [Bool.and_eq_true, decide_eq_true_eq] at hc'
    refine ⟨hc'.1.1, hc'.1.2, hc'.2, ?_⟩
    have he := dec_yes hc'.1.1 hc'.1.2 hc'.2
    rw [he] at h ⊢
    cases hf : findF (hitB (modF f) xs ys k.toNat) (2 ^ xs.length) with
    | none => rw [hf] at h; cases h
    | some s =>
      have := find_inv _ hf
      exact ⟨s, this.2, this.1, rfl⟩
  · rw [← dec_no (by simpa using hc)] at h
    cases h
end Go.SF
