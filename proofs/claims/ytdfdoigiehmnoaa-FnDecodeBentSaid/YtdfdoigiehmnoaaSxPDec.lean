/- What is owed of the code of words of a code. No condition. -/
import Derived.Test.YtdfdoigiehmnoaaSxPDecB
namespace Go.SF
open Go.SX Go
set_option linter.unusedVariables false
set_option linter.unusedSimpArgs false
set_option maxRecDepth 10000
theorem dif_go {a b : List Int} {x : Nat} (hb : max a.length b.length ≤ 4096) (hn : ¬ (x < a.length ∧ x < b.length ∧ a.getD x 0 = b.getD x 0)) (hlt : x < max a.length b.length) : ∃ x', x' ≤ max a.length b.length ∧ max a.length b.length - x' < max a.length b.length - x ∧ IntKind.i64.wrap (((difX a b x : Nat) : Int) + 1) = ((difX a b x' : Nat) : Int) ∧ IntKind.i64.wrap ((x : Int) + 1) = (x' : Int) := by
  have hd := dif_le a b x
  exact ⟨x + 1, by omega, by omega, by rw [dif_more hn]; exact wrap_succ (by omega), wrap_succ (by omega)⟩
theorem v_S_l07Code :
  ∀ (d : Int × List Int × Int), Ty.wf i64T (Prod.fst d) ∧ Ty.wf listT (Prod.fst (Prod.snd d)) ∧ Ty.wf i64T (Prod.snd (Prod.snd d)) → True → (decide ((↑(List.length (Prod.fst (Prod.snd d))) : Int) ≤ (10 : Int)) = true →
  True ∧ (pointsF (Prod.fst d) (Prod.fst (Prod.snd d)) = true → True ∧ (decide ((1 : Int) ≤ Prod.snd (Prod.snd d)) && decide (Prod.snd (Prod.snd d) ≤ (↑(List.length (Prod.fst (Prod.snd d))) : Int))) = codeB (Prod.fst d)
  (Prod.fst (Prod.snd d)) (Prod.snd (Prod.snd d))) ∧ (pointsF (Prod.fst d) (Prod.fst (Prod.snd d)) = false → false = codeB (Prod.fst d) (Prod.fst (Prod.snd d)) (Prod.snd (Prod.snd d)))) ∧ (decide ((↑(List.length
  (Prod.fst (Prod.snd d))) : Int) ≤ (10 : Int)) = false → false = codeB (Prod.fst d) (Prod.fst (Prod.snd d)) (Prod.snd (Prod.snd d))) := by
  intro (d : Int × List Int × Int) hw hp
  obtain ⟨f, xs, k⟩ := d
  simp only [Int.toNat_natCast, exists_const, and_true, true_and, implies_true, decide_eq_true_eq, decide_eq_false_iff_not, Bool.not_eq_true', Bool.not_eq_false', beq_iff_eq, forall_const]
  unfold codeB
  refine ⟨fun h => ⟨fun h1 => ?_, fun h1 => ?_⟩, fun h => ?_⟩
  · rw [decide_eq_true (show xs.length ≤ 10 by omega), h1, Bool.true_and, Bool.true_and, Bool.decide_and]
  · rw [h1, Bool.and_false]; rfl
  · rw [decide_eq_false (show ¬ xs.length ≤ 10 by omega)]; rfl
theorem v_I_codeField :
  ∀ (d : Int × List Int × Int), Ty.wf i64T (Prod.fst d) ∧ Ty.wf listT (Prod.fst (Prod.snd d)) ∧ Ty.wf i64T (Prod.snd (Prod.snd d)) → True → True ∧ (Ty.wf fldT (Prod.fst (ptF (Prod.fst d) (Prod.fst (Prod.snd d)))) ∧ Ty.wf
  Ty.bool (Prod.snd (ptF (Prod.fst d) (Prod.fst (Prod.snd d)))) → ((!Prod.snd (ptF (Prod.fst d) (Prod.fst (Prod.snd d)))) = true → (((0 : Int), (0 : Int), (0 : Int)), false) = codF (Prod.fst d) (Prod.fst (Prod.snd d))
  (Prod.snd (Prod.snd d))) ∧ ((!Prod.snd (ptF (Prod.fst d) (Prod.fst (Prod.snd d)))) = false → (decide ((10 : Int) < (↑(List.length (Prod.fst (Prod.snd d))) : Int)) = true → (((0 : Int), (0 : Int), (0 : Int)), false) =
  codF (Prod.fst d) (Prod.fst (Prod.snd d)) (Prod.snd (Prod.snd d))) ∧ (decide ((10 : Int) < (↑(List.length (Prod.fst (Prod.snd d))) : Int)) = false → (decide (Prod.snd (Prod.snd d) < (1 : Int)) = true → (((0 : Int), (0
  : Int), (0 : Int)), false) = codF (Prod.fst d) (Prod.fst (Prod.snd d)) (Prod.snd (Prod.snd d))) ∧ (decide (Prod.snd (Prod.snd d) < (1 : Int)) = false → (decide ((↑(List.length (Prod.fst (Prod.snd d))) : Int) < Prod.snd
  (Prod.snd d)) = true → (((0 : Int), (0 : Int), (0 : Int)), false) = codF (Prod.fst d) (Prod.fst (Prod.snd d)) (Prod.snd (Prod.snd d))) ∧ (decide ((↑(List.length (Prod.fst (Prod.snd d))) : Int) < Prod.snd (Prod.snd d))
  = false → ((Prod.fst (Prod.fst (ptF (Prod.fst d) (Prod.fst (Prod.snd d)))), Prod.fst (Prod.snd (Prod.fst (ptF (Prod.fst d) (Prod.fst (Prod.snd d))))), Prod.snd (Prod.snd (Prod.fst (ptF (Prod.fst d) (Prod.fst (Prod.snd
  d)))))), true) = codF (Prod.fst d) (Prod.fst (Prod.snd d)) (Prod.snd (Prod.snd d))))))) := by
  intro (d : Int × List Int × Int) hw hp
  obtain ⟨f, xs, k⟩ := d
  simp only [Int.toNat_natCast, exists_const, and_true, true_and, implies_true, decide_eq_true_eq, decide_eq_false_iff_not, Bool.not_eq_true', Bool.not_eq_false', beq_iff_eq, forall_const]
  intro _
  have no : (codeB f xs k = true → False) → ((0, 0, 0), false) = codF f xs k := fun h => by
    unfold codF
    cases hc : codeB f xs k with
    | false => rfl
    | true => exact (h hc).elim
  rw [pt_snd]
  refine ⟨fun h => no (fun hc => ?_), fun h => ⟨fun h1 => no (fun hc => ?_), fun h1 => ⟨fun h2 => no (fun hc => ?_), fun h2 => ⟨fun h3 => no (fun hc => ?_), fun h3 => ?_⟩⟩⟩⟩
  · rw [(code_ok hc).1] at h; cases h
  · have := (code_ok hc).2.1; omega
  · have := (code_ok hc).2.2.1; omega
  · have := (code_ok hc).2.2.2; omega
  · unfold codF
    rw [if_pos (code_of h (by omega) (by omega) (by omega)), pt_row h]
theorem v_S_EncodeWord :
  ∀ (d : Int × List Int × List Int), Ty.wf i64T (Prod.fst d) ∧ Ty.wf listT (Prod.fst (Prod.snd d)) ∧ Ty.wf listT (Prod.snd (Prod.snd d)) → True → True ∧ ((!codeB (Prod.fst d) (Prod.fst (Prod.snd d)) (↑(List.length
  (Prod.snd (Prod.snd d))) : Int)) = true → [] = encS (Prod.fst d) (Prod.fst (Prod.snd d)) (Prod.snd (Prod.snd d))) ∧ ((!codeB (Prod.fst d) (Prod.fst (Prod.snd d)) (↑(List.length (Prod.snd (Prod.snd d))) : Int)) = false
  → True ∧ ((!specElemsF (Prod.fst d) (Prod.snd (Prod.snd d))) = true → [] = encS (Prod.fst d) (Prod.fst (Prod.snd d)) (Prod.snd (Prod.snd d))) ∧ ((!specElemsF (Prod.fst d) (Prod.snd (Prod.snd d))) = false → (0 : Nat) ≤
  List.length (Prod.fst (Prod.snd d)) ∧ ((Prod.fst d = Prod.fst d ∧ Prod.fst (Prod.snd d) = Prod.fst (Prod.snd d) ∧ Prod.snd (Prod.snd d) = Prod.snd (Prod.snd d) ∧ Value.slice none (0 : Nat) (0 : Nat) = Value.slice none
  (0 : Nat) (0 : Nat) ∧ (0 : Int) = (↑(0 : Nat) : Int)) ∧ [] = evM (modF (Prod.fst d)) (trimF (Prod.snd (Prod.snd d))) (Prod.fst (Prod.snd d)) (0 : Nat)) ∧ ∀ (x : Nat), x ≤ List.length (Prod.fst (Prod.snd d)) → (decide
  ((↑x : Int) < (↑(List.length (Prod.fst (Prod.snd d))) : Int)) = true → List.length (Prod.snd (Prod.snd d)) ≤ (1048576 : Nat) ∧ ((0 : Int) ≤ (↑x : Int) ∧ (↑x : Int) < (↑(List.length (Prod.fst (Prod.snd d))) : Int)) ∧
  True ∧ (Ty.wf i64T (evS (Prod.fst d) (trimF (Prod.snd (Prod.snd d))) (List.getD (Prod.fst (Prod.snd d)) (Int.toNat (↑x : Int)) (0 : Int))) → Ty.wf listT (trimF (Prod.snd (Prod.snd d))) → (List.length (evM (modF
  (Prod.fst d)) (trimF (Prod.snd (Prod.snd d))) (Prod.fst (Prod.snd d)) x) + List.length [evS (Prod.fst d) (trimF (Prod.snd (Prod.snd d))) (List.getD (Prod.fst (Prod.snd d)) (Int.toNat (↑x : Int)) (0 : Int))]) * (8 :
  Nat) ≤ (140737488355328 : Nat) ∧ ∃ (x' : Nat), x' ≤ List.length (Prod.fst (Prod.snd d)) ∧ List.length (Prod.fst (Prod.snd d)) - x' < List.length (Prod.fst (Prod.snd d)) - x ∧ (Prod.fst d = Prod.fst d ∧ Prod.fst
  (Prod.snd d) = Prod.fst (Prod.snd d) ∧ Prod.snd (Prod.snd d) = Prod.snd (Prod.snd d) ∧ Value.slice none (0 : Nat) (0 : Nat) = Value.slice none (0 : Nat) (0 : Nat) ∧ IntKind.wrap IntKind.i64 ((↑x : Int) + (1 : Int)) =
  (↑x' : Int)) ∧ evM (modF (Prod.fst d)) (trimF (Prod.snd (Prod.snd d))) (Prod.fst (Prod.snd d)) x ++ [evS (Prod.fst d) (trimF (Prod.snd (Prod.snd d))) (List.getD (Prod.fst (Prod.snd d)) (Int.toNat (↑x : Int)) (0 :
  Int))] = evM (modF (Prod.fst d)) (trimF (Prod.snd (Prod.snd d))) (Prod.fst (Prod.snd d)) x')) ∧ (decide ((↑x : Int) < (↑(List.length (Prod.fst (Prod.snd d))) : Int)) = false → evM (modF (Prod.fst d)) (trimF (Prod.snd
  (Prod.snd d))) (Prod.fst (Prod.snd d)) x = encS (Prod.fst d) (Prod.fst (Prod.snd d)) (Prod.snd (Prod.snd d))))) := by
  intro (d : Int × List Int × List Int) hw hp
  obtain ⟨f, xs, m⟩ := d
  simp only [Int.toNat_natCast, exists_const, and_true, true_and, implies_true, decide_eq_true_eq, decide_eq_false_iff_not, Bool.not_eq_true', Bool.not_eq_false', beq_iff_eq, forall_const]
  refine ⟨fun h => by unfold encS; rw [h]; rfl, fun h => ⟨fun h1 => by unfold encS; rw [h1, Bool.and_false]; rfl, fun h1 => ?_⟩⟩
  obtain ⟨hpt, hl, hk1, hk2⟩ := code_ok h
  obtain ⟨hm, he⟩ := spec_el h1
  have hpoly : polyB f (trimF m) = true := poly_of hm (trim_elems he) (by rw [trim_len]; have := cutF_le m; omega) (top_trim m)
  refine ⟨by omega, ⟨rfl, rfl⟩, fun x hx => ⟨fun h2 => ⟨by omega, ⟨by omega, by omega⟩, fun _ _ => ?_⟩, fun h2 => ?_⟩⟩
  · rw [evM_len]
    refine ⟨by simp only [List.length_cons, List.length_nil]; omega, x + 1, by omega, by omega, wrap_succ (by omega), ?_⟩
    unfold evS
    rw [if_pos hpoly]
    exact evM_succ _ _ _ _
  · rw [show x = xs.length by omega]
    unfold encS
    rw [h, h1]; rfl
theorem v_I_differ :
  ∀ (d : List Int × List Int), Ty.wf listT (Prod.fst d) ∧ Ty.wf listT (Prod.snd d) → List.length (Prod.fst d) ≤ (1048576 : Nat) ∧ List.length (Prod.snd d) ≤ (1048576 : Nat) → (0 : Nat) ≤ min (List.length (Prod.fst d))
  (List.length (Prod.snd d)) ∧ (Prod.fst d = Prod.fst d ∧ Prod.snd d = Prod.snd d ∧ (0 : Int) = (0 : Int) ∧ IntKind.wrap IntKind.i64 (imax (↑(List.length (Prod.fst d)) : Int) (↑(List.length (Prod.snd d)) : Int) - imin
  (↑(List.length (Prod.fst d)) : Int) (↑(List.length (Prod.snd d)) : Int)) = (↑(max (List.length (Prod.fst d)) (List.length (Prod.snd d)) - min (List.length (Prod.fst d)) (List.length (Prod.snd d)) + difX (Prod.fst d)
  (Prod.snd d) (0 : Nat)) : Int) ∧ imin (↑(List.length (Prod.fst d)) : Int) (↑(List.length (Prod.snd d)) : Int) = imin (↑(List.length (Prod.fst d)) : Int) (↑(List.length (Prod.snd d)) : Int) ∧ (0 : Int) = (↑(0 : Nat) :
  Int)) ∧ ∀ (x : Nat), x ≤ min (List.length (Prod.fst d)) (List.length (Prod.snd d)) → (decide ((↑x : Int) < imin (↑(List.length (Prod.fst d)) : Int) (↑(List.length (Prod.snd d)) : Int)) = true → ((0 : Int) ≤ (↑x : Int)
  ∧ (↑x : Int) < (↑(List.length (Prod.fst d)) : Int)) ∧ ((0 : Int) ≤ (↑x : Int) ∧ (↑x : Int) < (↑(List.length (Prod.snd d)) : Int)) ∧ ((!decide (List.getD (Prod.fst d) (Int.toNat (↑x : Int)) (0 : Int) = List.getD
  (Prod.snd d) (Int.toNat (↑x : Int)) (0 : Int))) = true → ∃ (x' : Nat), x' ≤ min (List.length (Prod.fst d)) (List.length (Prod.snd d)) ∧ min (List.length (Prod.fst d)) (List.length (Prod.snd d)) - x' < min (List.length
  (Prod.fst d)) (List.length (Prod.snd d)) - x ∧ Prod.fst d = Prod.fst d ∧ Prod.snd d = Prod.snd d ∧ (0 : Int) = (0 : Int) ∧ IntKind.wrap IntKind.i64 ((↑(max (List.length (Prod.fst d)) (List.length (Prod.snd d)) - min
  (List.length (Prod.fst d)) (List.length (Prod.snd d)) + difX (Prod.fst d) (Prod.snd d) x) : Int) + (1 : Int)) = (↑(max (List.length (Prod.fst d)) (List.length (Prod.snd d)) - min (List.length (Prod.fst d)) (List.length
  (Prod.snd d)) + difX (Prod.fst d) (Prod.snd d) x') : Int) ∧ imin (↑(List.length (Prod.fst d)) : Int) (↑(List.length (Prod.snd d)) : Int) = imin (↑(List.length (Prod.fst d)) : Int) (↑(List.length (Prod.snd d)) : Int) ∧
  IntKind.wrap IntKind.i64 ((↑x : Int) + (1 : Int)) = (↑x' : Int)) ∧ ((!decide (List.getD (Prod.fst d) (Int.toNat (↑x : Int)) (0 : Int) = List.getD (Prod.snd d) (Int.toNat (↑x : Int)) (0 : Int))) = false → ∃ (x' : Nat),
  x' ≤ min (List.length (Prod.fst d)) (List.length (Prod.snd d)) ∧ min (List.length (Prod.fst d)) (List.length (Prod.snd d)) - x' < min (List.length (Prod.fst d)) (List.length (Prod.snd d)) - x ∧ Prod.fst d = Prod.fst d
  ∧ Prod.snd d = Prod.snd d ∧ (0 : Int) = (0 : Int) ∧ (↑(max (List.length (Prod.fst d)) (List.length (Prod.snd d)) - min (List.length (Prod.fst d)) (List.length (Prod.snd d)) + difX (Prod.fst d) (Prod.snd d) x) : Int) =
  (↑(max (List.length (Prod.fst d)) (List.length (Prod.snd d)) - min (List.length (Prod.fst d)) (List.length (Prod.snd d)) + difX (Prod.fst d) (Prod.snd d) x') : Int) ∧ imin (↑(List.length (Prod.fst d)) : Int)
  (↑(List.length (Prod.snd d)) : Int) = imin (↑(List.length (Prod.fst d)) : Int) (↑(List.length (Prod.snd d)) : Int) ∧ IntKind.wrap IntKind.i64 ((↑x : Int) + (1 : Int)) = (↑x' : Int))) ∧ (decide ((↑x : Int) < imin
  (↑(List.length (Prod.fst d)) : Int) (↑(List.length (Prod.snd d)) : Int)) = false → (↑(max (List.length (Prod.fst d)) (List.length (Prod.snd d)) - min (List.length (Prod.fst d)) (List.length (Prod.snd d)) + difX
  (Prod.fst d) (Prod.snd d) x) : Int) = difF (Prod.fst d) (Prod.snd d)) := by
  intro (d : List Int × List Int) hw hp
  obtain ⟨a, b⟩ := d
  replace hp : a.length ≤ 1048576 ∧ b.length ≤ 1048576 := hp
  simp only [Int.toNat_natCast, exists_const, and_true, true_and, implies_true, decide_eq_true_eq, decide_eq_false_iff_not, Bool.not_eq_true', Bool.not_eq_false', beq_iff_eq, forall_const]
  obtain ⟨ha, hb⟩ := hp
  have hmx : imax (a.length : Int) (b.length : Int) = ((max a.length b.length : Nat) : Int) := by unfold imax; split <;> omega
  have hmn : imin (a.length : Int) (b.length : Int) = ((min a.length b.length : Nat) : Int) := by unfold imin; split <;> omega
  rw [hmx, hmn]
  refine ⟨by omega, ⟨?_, rfl⟩, fun x hx => ?_⟩
  · rw [wrap_small (by omega), show difX a b 0 = 0 from rfl]; omega
  have hd := dif_le a b x
  refine ⟨fun h => ⟨⟨by omega, by omega⟩, ⟨by omega, by omega⟩, fun h1 => ⟨x + 1, by omega, by omega, ?_, wrap_succ (by omega)⟩, fun h1 => ⟨x + 1, by omega, by omega, by rw [dif_same ⟨by omega, by omega, h1⟩], wrap_succ (by omega)⟩⟩, fun h => ?_⟩
  · rw [dif_more (fun hh => h1 hh.2.2)]; exact wrap_succ (by omega)
  · obtain rfl : x = min a.length b.length := by omega
    have := dif_tail (a := a) (b := b) rfl (max a.length b.length - min a.length b.length)
    unfold difF
    rw [show max a.length b.length = min a.length b.length + (max a.length b.length - min a.length b.length) by omega, this]
    congr 2
    omega
theorem v_I_evalMany :
  ∀ (d : (Int × Int × Int) × List Int × List Int), Ty.wf fldT (Prod.fst d) ∧ Ty.wf listT (Prod.fst (Prod.snd d)) ∧ Ty.wf listT (Prod.snd (Prod.snd d)) → IsMod (Prod.fst (Prod.fst d)) ∧ elemsF (Prod.fst (Prod.fst d))
  (Prod.fst (Prod.snd d)) = true ∧ elemsF (Prod.fst (Prod.fst d)) (Prod.snd (Prod.snd d)) = true ∧ List.length (Prod.snd (Prod.snd d)) ≤ (1000 : Nat) → (0 : Nat) ≤ List.length (Prod.snd (Prod.snd d)) ∧ (((Prod.fst
  (Prod.fst d) = Prod.fst (Prod.fst d) ∧ Prod.fst (Prod.snd (Prod.fst d)) = Prod.fst (Prod.snd (Prod.fst d)) ∧ Prod.snd (Prod.snd (Prod.fst d)) = Prod.snd (Prod.snd (Prod.fst d))) ∧ Prod.fst (Prod.snd d) = Prod.fst
  (Prod.snd d) ∧ Prod.snd (Prod.snd d) = Prod.snd (Prod.snd d) ∧ Value.slice none (0 : Nat) (0 : Nat) = Value.slice none (0 : Nat) (0 : Nat) ∧ Prod.snd (Prod.snd d) = Prod.snd (Prod.snd d) ∧ (↑(List.length (Prod.snd
  (Prod.snd d))) : Int) = (↑(List.length (Prod.snd (Prod.snd d))) : Int) ∧ (0 : Int) = (↑(0 : Nat) : Int)) ∧ (Prod.fst (Prod.fst d) = Prod.fst (Prod.fst d) ∧ Prod.fst (Prod.snd (Prod.fst d)) = Prod.fst (Prod.snd
  (Prod.fst d)) ∧ Prod.snd (Prod.snd (Prod.fst d)) = Prod.snd (Prod.snd (Prod.fst d))) ∧ [] = evM (Prod.fst (Prod.fst d)) (Prod.fst (Prod.snd d)) (Prod.snd (Prod.snd d)) (0 : Nat)) ∧ ∀ (x : Nat), x ≤ List.length
  (Prod.snd (Prod.snd d)) → (decide ((↑x : Int) < (↑(List.length (Prod.snd (Prod.snd d))) : Int)) = true → ((0 : Int) ≤ (↑x : Int) ∧ (↑x : Int) < (↑(List.length (Prod.snd (Prod.snd d))) : Int)) ∧ (IsMod (Prod.fst
  (Prod.fst d)) ∧ elemsF (Prod.fst (Prod.fst d)) (Prod.fst (Prod.snd d)) = true ∧ El (Prod.fst (Prod.fst d)) (List.getD (Prod.snd (Prod.snd d)) (Int.toNat (↑x : Int)) (0 : Int))) ∧ (Ty.wf i64T (evP (Prod.fst (Prod.fst
  d)) (Prod.fst (Prod.snd d)) (List.getD (Prod.snd (Prod.snd d)) (Int.toNat (↑x : Int)) (0 : Int))) → (List.length (evM (Prod.fst (Prod.fst d)) (Prod.fst (Prod.snd d)) (Prod.snd (Prod.snd d)) x) + List.length [evP
  (Prod.fst (Prod.fst d)) (Prod.fst (Prod.snd d)) (List.getD (Prod.snd (Prod.snd d)) (Int.toNat (↑x : Int)) (0 : Int))]) * (8 : Nat) ≤ (140737488355328 : Nat) ∧ ∃ (x' : Nat), x' ≤ List.length (Prod.snd (Prod.snd d)) ∧
  List.length (Prod.snd (Prod.snd d)) - x' < List.length (Prod.snd (Prod.snd d)) - x ∧ ((Prod.fst (Prod.fst d) = Prod.fst (Prod.fst d) ∧ Prod.fst (Prod.snd (Prod.fst d)) = Prod.fst (Prod.snd (Prod.fst d)) ∧ Prod.snd
  (Prod.snd (Prod.fst d)) = Prod.snd (Prod.snd (Prod.fst d))) ∧ Prod.fst (Prod.snd d) = Prod.fst (Prod.snd d) ∧ Prod.snd (Prod.snd d) = Prod.snd (Prod.snd d) ∧ Value.slice none (0 : Nat) (0 : Nat) = Value.slice none (0 :
  Nat) (0 : Nat) ∧ Prod.snd (Prod.snd d) = Prod.snd (Prod.snd d) ∧ (↑(List.length (Prod.snd (Prod.snd d))) : Int) = (↑(List.length (Prod.snd (Prod.snd d))) : Int) ∧ IntKind.wrap IntKind.i64 ((↑x : Int) + (1 : Int)) =
  (↑x' : Int)) ∧ (Prod.fst (Prod.fst d) = Prod.fst (Prod.fst d) ∧ Prod.fst (Prod.snd (Prod.fst d)) = Prod.fst (Prod.snd (Prod.fst d)) ∧ Prod.snd (Prod.snd (Prod.fst d)) = Prod.snd (Prod.snd (Prod.fst d))) ∧ evM (Prod.fst
  (Prod.fst d)) (Prod.fst (Prod.snd d)) (Prod.snd (Prod.snd d)) x ++ [evP (Prod.fst (Prod.fst d)) (Prod.fst (Prod.snd d)) (List.getD (Prod.snd (Prod.snd d)) (Int.toNat (↑x : Int)) (0 : Int))] = evM (Prod.fst (Prod.fst
  d)) (Prod.fst (Prod.snd d)) (Prod.snd (Prod.snd d)) x')) ∧ (decide ((↑x : Int) < (↑(List.length (Prod.snd (Prod.snd d))) : Int)) = false → evM (Prod.fst (Prod.fst d)) (Prod.fst (Prod.snd d)) (Prod.snd (Prod.snd d)) x =
  evM (Prod.fst (Prod.fst d)) (Prod.fst (Prod.snd d)) (Prod.snd (Prod.snd d)) (List.length (Prod.snd (Prod.snd d)))) := by
  intro (d : Fd × List Int × List Int) hw hp
  obtain ⟨⟨p, g, t⟩, a, xs⟩ := d
  replace hp : IsMod p ∧ elemsF p a = true ∧ elemsF p xs = true ∧ xs.length ≤ 1000 := hp
  simp only [Int.toNat_natCast, exists_const, and_true, true_and, implies_true, decide_eq_true_eq, decide_eq_false_iff_not, Bool.not_eq_true', Bool.not_eq_false', beq_iff_eq, forall_const]
  obtain ⟨h0, h1, h2, h3⟩ := hp
  refine ⟨by omega, ⟨rfl, rfl⟩, fun x hx => ⟨fun h => ⟨⟨by omega, by omega⟩, ⟨h0, h1, el_get h0 h2 _⟩, fun _ => ⟨by rw [evM_len]; simp only [List.length_cons, List.length_nil]; omega, x + 1, by omega, by omega, wrap_succ (by omega), evM_succ _ _ _ _⟩⟩, fun h => by rw [show x = xs.length by omega]⟩⟩
theorem v_I_decodeWord :
  ∀ (d : Int × List Int × List Int × Int), Ty.wf i64T (Prod.fst d) ∧ Ty.wf listT (Prod.fst (Prod.snd d)) ∧ Ty.wf listT (Prod.fst (Prod.snd (Prod.snd d))) ∧ Ty.wf i64T (Prod.snd (Prod.snd (Prod.snd d))) → True → True ∧
  (Ty.wf fldT (Prod.fst (codF (Prod.fst d) (Prod.fst (Prod.snd d)) (Prod.snd (Prod.snd (Prod.snd d))))) ∧ Ty.wf Ty.bool (Prod.snd (codF (Prod.fst d) (Prod.fst (Prod.snd d)) (Prod.snd (Prod.snd (Prod.snd d))))) →
  ((!Prod.snd (codF (Prod.fst d) (Prod.fst (Prod.snd d)) (Prod.snd (Prod.snd (Prod.snd d))))) = true → ([], (0 : Int), false) = decF (Prod.fst d) (Prod.fst (Prod.snd d)) (Prod.fst (Prod.snd (Prod.snd d))) (Prod.snd
  (Prod.snd (Prod.snd d)))) ∧ ((!Prod.snd (codF (Prod.fst d) (Prod.fst (Prod.snd d)) (Prod.snd (Prod.snd (Prod.snd d))))) = false → ((!decide ((↑(List.length (Prod.fst (Prod.snd (Prod.snd d)))) : Int) = (↑(List.length
  (Prod.fst (Prod.snd d))) : Int))) = true → ([], (0 : Int), false) = decF (Prod.fst d) (Prod.fst (Prod.snd d)) (Prod.fst (Prod.snd (Prod.snd d))) (Prod.snd (Prod.snd (Prod.snd d)))) ∧ ((!decide ((↑(List.length (Prod.fst
  (Prod.snd (Prod.snd d)))) : Int) = (↑(List.length (Prod.fst (Prod.snd d))) : Int))) = false → True ∧ ((!elemsF (Prod.fst (Prod.fst (codF (Prod.fst d) (Prod.fst (Prod.snd d)) (Prod.snd (Prod.snd (Prod.snd d))))))
  (Prod.fst (Prod.snd (Prod.snd d)))) = true → ([], (0 : Int), false) = decF (Prod.fst d) (Prod.fst (Prod.snd d)) (Prod.fst (Prod.snd (Prod.snd d))) (Prod.snd (Prod.snd (Prod.snd d)))) ∧ ((!elemsF (Prod.fst (Prod.fst
  (codF (Prod.fst d) (Prod.fst (Prod.snd d)) (Prod.snd (Prod.snd (Prod.snd d)))))) (Prod.fst (Prod.snd (Prod.snd d)))) = false → (0 : Int) ≤ (↑(List.length (Prod.fst (Prod.snd d))) : Int) ∧ SetJ (modF (Prod.fst d))
  (Prod.fst (Prod.snd d)) (Prod.fst (Prod.snd (Prod.snd d))) (Int.toNat (Prod.snd (Prod.snd (Prod.snd d)))) (0 : Nat) ∧ ((Prod.fst d = Prod.fst d ∧ Prod.fst (Prod.snd d) = Prod.fst (Prod.snd d) ∧ Prod.fst (Prod.snd
  (Prod.snd d)) = Prod.fst (Prod.snd (Prod.snd d)) ∧ Prod.snd (Prod.snd (Prod.snd d)) = Prod.snd (Prod.snd (Prod.snd d)) ∧ Prod.snd (codF (Prod.fst d) (Prod.fst (Prod.snd d)) (Prod.snd (Prod.snd (Prod.snd d)))) =
  Prod.snd (codF (Prod.fst d) (Prod.fst (Prod.snd d)) (Prod.snd (Prod.snd (Prod.snd d)))) ∧ ishl IntKind.i64 (1 : Int) (↑(List.length (Prod.fst (Prod.snd d))) : Int) = ishl IntKind.i64 (1 : Int) (↑(List.length (Prod.fst
  (Prod.snd d))) : Int) ∧ (0 : Int) = (↑(0 : Nat) : Int)) ∧ Prod.fst (Prod.fst (codF (Prod.fst d) (Prod.fst (Prod.snd d)) (Prod.snd (Prod.snd (Prod.snd d))))) = Prod.fst (Prod.fst (codF (Prod.fst d) (Prod.fst (Prod.snd
  d)) (Prod.snd (Prod.snd (Prod.snd d))))) ∧ Prod.fst (Prod.snd (Prod.fst (codF (Prod.fst d) (Prod.fst (Prod.snd d)) (Prod.snd (Prod.snd (Prod.snd d)))))) = Prod.fst (Prod.snd (Prod.fst (codF (Prod.fst d) (Prod.fst
  (Prod.snd d)) (Prod.snd (Prod.snd (Prod.snd d)))))) ∧ Prod.snd (Prod.snd (Prod.fst (codF (Prod.fst d) (Prod.fst (Prod.snd d)) (Prod.snd (Prod.snd (Prod.snd d)))))) = Prod.snd (Prod.snd (Prod.fst (codF (Prod.fst d)
  (Prod.fst (Prod.snd d)) (Prod.snd (Prod.snd (Prod.snd d))))))) ∧ ∀ (x : Nat), SetJ (modF (Prod.fst d)) (Prod.fst (Prod.snd d)) (Prod.fst (Prod.snd (Prod.snd d))) (Int.toNat (Prod.snd (Prod.snd (Prod.snd d)))) x →
  (decide ((↑x : Int) < ishl IntKind.i64 (1 : Int) (↑(List.length (Prod.fst (Prod.snd d))) : Int)) = true → (0 : Nat) ≤ List.length (Prod.fst (Prod.snd d)) ∧ ((Prod.fst d = Prod.fst d ∧ Prod.fst (Prod.snd d) = Prod.fst
  (Prod.snd d) ∧ Prod.fst (Prod.snd (Prod.snd d)) = Prod.fst (Prod.snd (Prod.snd d)) ∧ Prod.snd (Prod.snd (Prod.snd d)) = Prod.snd (Prod.snd (Prod.snd d)) ∧ Prod.snd (codF (Prod.fst d) (Prod.fst (Prod.snd d)) (Prod.snd
  (Prod.snd (Prod.snd d)))) = Prod.snd (codF (Prod.fst d) (Prod.fst (Prod.snd d)) (Prod.snd (Prod.snd (Prod.snd d)))) ∧ (↑x : Int) = (↑x : Int) ∧ ishl IntKind.i64 (1 : Int) (↑(List.length (Prod.fst (Prod.snd d))) : Int)
  = ishl IntKind.i64 (1 : Int) (↑(List.length (Prod.fst (Prod.snd d))) : Int) ∧ (↑x : Int) = (↑x : Int) ∧ Prod.fst (Prod.snd d) = Prod.fst (Prod.snd d) ∧ (↑(List.length (Prod.fst (Prod.snd d))) : Int) = (↑(List.length
  (Prod.fst (Prod.snd d))) : Int) ∧ (0 : Int) = (↑(0 : Nat) : Int)) ∧ (Prod.fst (Prod.fst (codF (Prod.fst d) (Prod.fst (Prod.snd d)) (Prod.snd (Prod.snd (Prod.snd d))))) = Prod.fst (Prod.fst (codF (Prod.fst d) (Prod.fst
  (Prod.snd d)) (Prod.snd (Prod.snd (Prod.snd d))))) ∧ Prod.fst (Prod.snd (Prod.fst (codF (Prod.fst d) (Prod.fst (Prod.snd d)) (Prod.snd (Prod.snd (Prod.snd d)))))) = Prod.fst (Prod.snd (Prod.fst (codF (Prod.fst d)
  (Prod.fst (Prod.snd d)) (Prod.snd (Prod.snd (Prod.snd d)))))) ∧ Prod.snd (Prod.snd (Prod.fst (codF (Prod.fst d) (Prod.fst (Prod.snd d)) (Prod.snd (Prod.snd (Prod.snd d)))))) = Prod.snd (Prod.snd (Prod.fst (codF
  (Prod.fst d) (Prod.fst (Prod.snd d)) (Prod.snd (Prod.snd (Prod.snd d))))))) ∧ [] = subL (Prod.fst (Prod.snd d)) x (0 : Nat) ∧ [] = subL (Prod.fst (Prod.snd (Prod.snd d))) x (0 : Nat)) ∧ ∀ (x_1 : Nat), x_1 ≤ List.length
  (Prod.fst (Prod.snd d)) → (decide ((↑x_1 : Int) < (↑(List.length (Prod.fst (Prod.snd d))) : Int)) = true → ((0 : Int) ≤ (↑x_1 : Int) ∧ (↑x_1 : Int) < (↑(List.length (Prod.fst (Prod.snd d))) : Int)) ∧ (0 : Int) ≤ (↑x_1
  : Int) ∧ (decide (iand IntKind.i64 (ishr IntKind.i64 (↑x : Int) (↑x_1 : Int)) (1 : Int) = (1 : Int)) = true → (List.length (subL (Prod.fst (Prod.snd d)) x x_1) + List.length [List.getD (Prod.fst (Prod.snd d))
  (Int.toNat (↑x_1 : Int)) (0 : Int)]) * (8 : Nat) ≤ (140737488355328 : Nat) ∧ ((0 : Int) ≤ (↑x_1 : Int) ∧ (↑x_1 : Int) < (↑(List.length (Prod.fst (Prod.snd (Prod.snd d)))) : Int)) ∧ (List.length (subL (Prod.fst
  (Prod.snd (Prod.snd d))) x x_1) + List.length [List.getD (Prod.fst (Prod.snd (Prod.snd d))) (Int.toNat (↑x_1 : Int)) (0 : Int)]) * (8 : Nat) ≤ (140737488355328 : Nat) ∧ ∃ (x' : Nat), x' ≤ List.length (Prod.fst
  (Prod.snd d)) ∧ List.length (Prod.fst (Prod.snd d)) - x' < List.length (Prod.fst (Prod.snd d)) - x_1 ∧ (Prod.fst d = Prod.fst d ∧ Prod.fst (Prod.snd d) = Prod.fst (Prod.snd d) ∧ Prod.fst (Prod.snd (Prod.snd d)) =
  Prod.fst (Prod.snd (Prod.snd d)) ∧ Prod.snd (Prod.snd (Prod.snd d)) = Prod.snd (Prod.snd (Prod.snd d)) ∧ Prod.snd (codF (Prod.fst d) (Prod.fst (Prod.snd d)) (Prod.snd (Prod.snd (Prod.snd d)))) = Prod.snd (codF
  (Prod.fst d) (Prod.fst (Prod.snd d)) (Prod.snd (Prod.snd (Prod.snd d)))) ∧ (↑x : Int) = (↑x : Int) ∧ ishl IntKind.i64 (1 : Int) (↑(List.length (Prod.fst (Prod.snd d))) : Int) = ishl IntKind.i64 (1 : Int) (↑(List.length
  (Prod.fst (Prod.snd d))) : Int) ∧ (↑x : Int) = (↑x : Int) ∧ Prod.fst (Prod.snd d) = Prod.fst (Prod.snd d) ∧ (↑(List.length (Prod.fst (Prod.snd d))) : Int) = (↑(List.length (Prod.fst (Prod.snd d))) : Int) ∧ IntKind.wrap
  IntKind.i64 ((↑x_1 : Int) + (1 : Int)) = (↑x' : Int)) ∧ (Prod.fst (Prod.fst (codF (Prod.fst d) (Prod.fst (Prod.snd d)) (Prod.snd (Prod.snd (Prod.snd d))))) = Prod.fst (Prod.fst (codF (Prod.fst d) (Prod.fst (Prod.snd
  d)) (Prod.snd (Prod.snd (Prod.snd d))))) ∧ Prod.fst (Prod.snd (Prod.fst (codF (Prod.fst d) (Prod.fst (Prod.snd d)) (Prod.snd (Prod.snd (Prod.snd d)))))) = Prod.fst (Prod.snd (Prod.fst (codF (Prod.fst d) (Prod.fst
  (Prod.snd d)) (Prod.snd (Prod.snd (Prod.snd d)))))) ∧ Prod.snd (Prod.snd (Prod.fst (codF (Prod.fst d) (Prod.fst (Prod.snd d)) (Prod.snd (Prod.snd (Prod.snd d)))))) = Prod.snd (Prod.snd (Prod.fst (codF (Prod.fst d)
  (Prod.fst (Prod.snd d)) (Prod.snd (Prod.snd (Prod.snd d))))))) ∧ subL (Prod.fst (Prod.snd d)) x x_1 ++ [List.getD (Prod.fst (Prod.snd d)) (Int.toNat (↑x_1 : Int)) (0 : Int)] = subL (Prod.fst (Prod.snd d)) x x' ∧ subL
  (Prod.fst (Prod.snd (Prod.snd d))) x x_1 ++ [List.getD (Prod.fst (Prod.snd (Prod.snd d))) (Int.toNat (↑x_1 : Int)) (0 : Int)] = subL (Prod.fst (Prod.snd (Prod.snd d))) x x') ∧ (decide (iand IntKind.i64 (ishr
  IntKind.i64 (↑x : Int) (↑x_1 : Int)) (1 : Int) = (1 : Int)) = false → ∃ (x' : Nat), x' ≤ List.length (Prod.fst (Prod.snd d)) ∧ List.length (Prod.fst (Prod.snd d)) - x' < List.length (Prod.fst (Prod.snd d)) - x_1 ∧
  (Prod.fst d = Prod.fst d ∧ Prod.fst (Prod.snd d) = Prod.fst (Prod.snd d) ∧ Prod.fst (Prod.snd (Prod.snd d)) = Prod.fst (Prod.snd (Prod.snd d)) ∧ Prod.snd (Prod.snd (Prod.snd d)) = Prod.snd (Prod.snd (Prod.snd d)) ∧
  Prod.snd (codF (Prod.fst d) (Prod.fst (Prod.snd d)) (Prod.snd (Prod.snd (Prod.snd d)))) = Prod.snd (codF (Prod.fst d) (Prod.fst (Prod.snd d)) (Prod.snd (Prod.snd (Prod.snd d)))) ∧ (↑x : Int) = (↑x : Int) ∧ ishl
  IntKind.i64 (1 : Int) (↑(List.length (Prod.fst (Prod.snd d))) : Int) = ishl IntKind.i64 (1 : Int) (↑(List.length (Prod.fst (Prod.snd d))) : Int) ∧ (↑x : Int) = (↑x : Int) ∧ Prod.fst (Prod.snd d) = Prod.fst (Prod.snd d)
  ∧ (↑(List.length (Prod.fst (Prod.snd d))) : Int) = (↑(List.length (Prod.fst (Prod.snd d))) : Int) ∧ IntKind.wrap IntKind.i64 ((↑x_1 : Int) + (1 : Int)) = (↑x' : Int)) ∧ (Prod.fst (Prod.fst (codF (Prod.fst d) (Prod.fst
  (Prod.snd d)) (Prod.snd (Prod.snd (Prod.snd d))))) = Prod.fst (Prod.fst (codF (Prod.fst d) (Prod.fst (Prod.snd d)) (Prod.snd (Prod.snd (Prod.snd d))))) ∧ Prod.fst (Prod.snd (Prod.fst (codF (Prod.fst d) (Prod.fst
  (Prod.snd d)) (Prod.snd (Prod.snd (Prod.snd d)))))) = Prod.fst (Prod.snd (Prod.fst (codF (Prod.fst d) (Prod.fst (Prod.snd d)) (Prod.snd (Prod.snd (Prod.snd d)))))) ∧ Prod.snd (Prod.snd (Prod.fst (codF (Prod.fst d)
  (Prod.fst (Prod.snd d)) (Prod.snd (Prod.snd (Prod.snd d)))))) = Prod.snd (Prod.snd (Prod.fst (codF (Prod.fst d) (Prod.fst (Prod.snd d)) (Prod.snd (Prod.snd (Prod.snd d))))))) ∧ subL (Prod.fst (Prod.snd d)) x x_1 = subL
  (Prod.fst (Prod.snd d)) x x' ∧ subL (Prod.fst (Prod.snd (Prod.snd d))) x x_1 = subL (Prod.fst (Prod.snd (Prod.snd d))) x x')) ∧ (decide ((↑x_1 : Int) < (↑(List.length (Prod.fst (Prod.snd d))) : Int)) = false →
  ((!decide ((↑(List.length (subL (Prod.fst (Prod.snd d)) x x_1)) : Int) = Prod.snd (Prod.snd (Prod.snd d)))) = true → ∃ (x' : Nat), SetJ (modF (Prod.fst d)) (Prod.fst (Prod.snd d)) (Prod.fst (Prod.snd (Prod.snd d)))
  (Int.toNat (Prod.snd (Prod.snd (Prod.snd d)))) x' ∧ (2 : Nat) ^ List.length (Prod.fst (Prod.snd d)) - x' < (2 : Nat) ^ List.length (Prod.fst (Prod.snd d)) - x ∧ (Prod.fst d = Prod.fst d ∧ Prod.fst (Prod.snd d) =
  Prod.fst (Prod.snd d) ∧ Prod.fst (Prod.snd (Prod.snd d)) = Prod.fst (Prod.snd (Prod.snd d)) ∧ Prod.snd (Prod.snd (Prod.snd d)) = Prod.snd (Prod.snd (Prod.snd d)) ∧ Prod.snd (codF (Prod.fst d) (Prod.fst (Prod.snd d))
  (Prod.snd (Prod.snd (Prod.snd d)))) = Prod.snd (codF (Prod.fst d) (Prod.fst (Prod.snd d)) (Prod.snd (Prod.snd (Prod.snd d)))) ∧ ishl IntKind.i64 (1 : Int) (↑(List.length (Prod.fst (Prod.snd d))) : Int) = ishl
  IntKind.i64 (1 : Int) (↑(List.length (Prod.fst (Prod.snd d))) : Int) ∧ IntKind.wrap IntKind.i64 ((↑x : Int) + (1 : Int)) = (↑x' : Int)) ∧ Prod.fst (Prod.fst (codF (Prod.fst d) (Prod.fst (Prod.snd d)) (Prod.snd
  (Prod.snd (Prod.snd d))))) = Prod.fst (Prod.fst (codF (Prod.fst d) (Prod.fst (Prod.snd d)) (Prod.snd (Prod.snd (Prod.snd d))))) ∧ Prod.fst (Prod.snd (Prod.fst (codF (Prod.fst d) (Prod.fst (Prod.snd d)) (Prod.snd
  (Prod.snd (Prod.snd d)))))) = Prod.fst (Prod.snd (Prod.fst (codF (Prod.fst d) (Prod.fst (Prod.snd d)) (Prod.snd (Prod.snd (Prod.snd d)))))) ∧ Prod.snd (Prod.snd (Prod.fst (codF (Prod.fst d) (Prod.fst (Prod.snd d))
  (Prod.snd (Prod.snd (Prod.snd d)))))) = Prod.snd (Prod.snd (Prod.fst (codF (Prod.fst d) (Prod.fst (Prod.snd d)) (Prod.snd (Prod.snd (Prod.snd d))))))) ∧ ((!decide ((↑(List.length (subL (Prod.fst (Prod.snd d)) x x_1)) :
  Int) = Prod.snd (Prod.snd (Prod.snd d)))) = false → ((∃ (f : Int), pointsF f (subL (Prod.fst (Prod.snd d)) x x_1) = true ∧ modF f = Prod.fst (Prod.fst (codF (Prod.fst d) (Prod.fst (Prod.snd d)) (Prod.snd (Prod.snd
  (Prod.snd d)))))) ∧ elemsF (Prod.fst (Prod.fst (codF (Prod.fst d) (Prod.fst (Prod.snd d)) (Prod.snd (Prod.snd (Prod.snd d)))))) (subL (Prod.fst (Prod.snd (Prod.snd d))) x x_1) = true ∧ List.length (subL (Prod.fst
  (Prod.snd (Prod.snd d))) x x_1) = List.length (subL (Prod.fst (Prod.snd d)) x x_1)) ∧ (Ty.wf listT (thrF (Prod.fst (Prod.fst (codF (Prod.fst d) (Prod.fst (Prod.snd d)) (Prod.snd (Prod.snd (Prod.snd d)))))) (subL
  (Prod.fst (Prod.snd d)) x x_1) (subL (Prod.fst (Prod.snd (Prod.snd d))) x x_1)) → (IsMod (Prod.fst (Prod.fst (codF (Prod.fst d) (Prod.fst (Prod.snd d)) (Prod.snd (Prod.snd (Prod.snd d)))))) ∧ elemsF (Prod.fst (Prod.fst
  (codF (Prod.fst d) (Prod.fst (Prod.snd d)) (Prod.snd (Prod.snd (Prod.snd d)))))) (thrF (Prod.fst (Prod.fst (codF (Prod.fst d) (Prod.fst (Prod.snd d)) (Prod.snd (Prod.snd (Prod.snd d)))))) (subL (Prod.fst (Prod.snd d))
  x x_1) (subL (Prod.fst (Prod.snd (Prod.snd d))) x x_1)) = true ∧ elemsF (Prod.fst (Prod.fst (codF (Prod.fst d) (Prod.fst (Prod.snd d)) (Prod.snd (Prod.snd (Prod.snd d)))))) (Prod.fst (Prod.snd d)) = true ∧ List.length
  (Prod.fst (Prod.snd d)) ≤ (1000 : Nat)) ∧ (Ty.wf listT (evM (Prod.fst (Prod.fst (codF (Prod.fst d) (Prod.fst (Prod.snd d)) (Prod.snd (Prod.snd (Prod.snd d)))))) (thrF (Prod.fst (Prod.fst (codF (Prod.fst d) (Prod.fst
  (Prod.snd d)) (Prod.snd (Prod.snd (Prod.snd d)))))) (subL (Prod.fst (Prod.snd d)) x x_1) (subL (Prod.fst (Prod.snd (Prod.snd d))) x x_1)) (Prod.fst (Prod.snd d)) (List.length (Prod.fst (Prod.snd d)))) → (List.length
  (evM (Prod.fst (Prod.fst (codF (Prod.fst d) (Prod.fst (Prod.snd d)) (Prod.snd (Prod.snd (Prod.snd d)))))) (thrF (Prod.fst (Prod.fst (codF (Prod.fst d) (Prod.fst (Prod.snd d)) (Prod.snd (Prod.snd (Prod.snd d)))))) (subL
  (Prod.fst (Prod.snd d)) x x_1) (subL (Prod.fst (Prod.snd (Prod.snd d))) x x_1)) (Prod.fst (Prod.snd d)) (List.length (Prod.fst (Prod.snd d)))) ≤ (1048576 : Nat) ∧ List.length (Prod.fst (Prod.snd (Prod.snd d))) ≤
  (1048576 : Nat)) ∧ (Ty.wf i64T (difF (evM (Prod.fst (Prod.fst (codF (Prod.fst d) (Prod.fst (Prod.snd d)) (Prod.snd (Prod.snd (Prod.snd d)))))) (thrF (Prod.fst (Prod.fst (codF (Prod.fst d) (Prod.fst (Prod.snd d))
  (Prod.snd (Prod.snd (Prod.snd d)))))) (subL (Prod.fst (Prod.snd d)) x x_1) (subL (Prod.fst (Prod.snd (Prod.snd d))) x x_1)) (Prod.fst (Prod.snd d)) (List.length (Prod.fst (Prod.snd d)))) (Prod.fst (Prod.snd (Prod.snd
  d)))) → (2 : Int) ≠ (0 : Int) ∧ (decide (difF (evM (Prod.fst (Prod.fst (codF (Prod.fst d) (Prod.fst (Prod.snd d)) (Prod.snd (Prod.snd (Prod.snd d)))))) (thrF (Prod.fst (Prod.fst (codF (Prod.fst d) (Prod.fst (Prod.snd
  d)) (Prod.snd (Prod.snd (Prod.snd d)))))) (subL (Prod.fst (Prod.snd d)) x x_1) (subL (Prod.fst (Prod.snd (Prod.snd d))) x x_1)) (Prod.fst (Prod.snd d)) (List.length (Prod.fst (Prod.snd d)))) (Prod.fst (Prod.snd
  (Prod.snd d))) ≤ IntKind.wrap IntKind.i64 (Int.tdiv (IntKind.wrap IntKind.i64 ((↑(List.length (Prod.fst (Prod.snd d))) : Int) - Prod.snd (Prod.snd (Prod.snd d)))) (2 : Int))) = true → List.length (msgF (modF (Prod.fst
  d)) (Prod.fst (Prod.snd d)) (Prod.fst (Prod.snd (Prod.snd d))) x) + (0 : Nat) ≤ Int.toNat (Prod.snd (Prod.snd (Prod.snd d))) ∧ ((Prod.fst d = Prod.fst d ∧ Prod.fst (Prod.snd d) = Prod.fst (Prod.snd d) ∧ Prod.fst
  (Prod.snd (Prod.snd d)) = Prod.fst (Prod.snd (Prod.snd d)) ∧ Prod.snd (Prod.snd (Prod.snd d)) = Prod.snd (Prod.snd (Prod.snd d)) ∧ Prod.snd (codF (Prod.fst d) (Prod.fst (Prod.snd d)) (Prod.snd (Prod.snd (Prod.snd d))))
  = Prod.snd (codF (Prod.fst d) (Prod.fst (Prod.snd d)) (Prod.snd (Prod.snd (Prod.snd d)))) ∧ (↑x : Int) = (↑x : Int) ∧ difF (evM (Prod.fst (Prod.fst (codF (Prod.fst d) (Prod.fst (Prod.snd d)) (Prod.snd (Prod.snd
  (Prod.snd d)))))) (thrF (Prod.fst (Prod.fst (codF (Prod.fst d) (Prod.fst (Prod.snd d)) (Prod.snd (Prod.snd (Prod.snd d)))))) (subL (Prod.fst (Prod.snd d)) x x_1) (subL (Prod.fst (Prod.snd (Prod.snd d))) x x_1))
  (Prod.fst (Prod.snd d)) (List.length (Prod.fst (Prod.snd d)))) (Prod.fst (Prod.snd (Prod.snd d))) = difF (evM (Prod.fst (Prod.fst (codF (Prod.fst d) (Prod.fst (Prod.snd d)) (Prod.snd (Prod.snd (Prod.snd d)))))) (thrF
  (Prod.fst (Prod.fst (codF (Prod.fst d) (Prod.fst (Prod.snd d)) (Prod.snd (Prod.snd (Prod.snd d)))))) (subL (Prod.fst (Prod.snd d)) x x_1) (subL (Prod.fst (Prod.snd (Prod.snd d))) x x_1)) (Prod.fst (Prod.snd d))
  (List.length (Prod.fst (Prod.snd d)))) (Prod.fst (Prod.snd (Prod.snd d))) ∧ ishl IntKind.i64 (1 : Int) (↑(List.length (Prod.fst (Prod.snd d))) : Int) = ishl IntKind.i64 (1 : Int) (↑(List.length (Prod.fst (Prod.snd d)))
  : Int) ∧ (↑x : Int) = (↑x : Int)) ∧ (Prod.fst (Prod.fst (codF (Prod.fst d) (Prod.fst (Prod.snd d)) (Prod.snd (Prod.snd (Prod.snd d))))) = Prod.fst (Prod.fst (codF (Prod.fst d) (Prod.fst (Prod.snd d)) (Prod.snd
  (Prod.snd (Prod.snd d))))) ∧ Prod.fst (Prod.snd (Prod.fst (codF (Prod.fst d) (Prod.fst (Prod.snd d)) (Prod.snd (Prod.snd (Prod.snd d)))))) = Prod.fst (Prod.snd (Prod.fst (codF (Prod.fst d) (Prod.fst (Prod.snd d))
  (Prod.snd (Prod.snd (Prod.snd d)))))) ∧ Prod.snd (Prod.snd (Prod.fst (codF (Prod.fst d) (Prod.fst (Prod.snd d)) (Prod.snd (Prod.snd (Prod.snd d)))))) = Prod.snd (Prod.snd (Prod.fst (codF (Prod.fst d) (Prod.fst
  (Prod.snd d)) (Prod.snd (Prod.snd (Prod.snd d))))))) ∧ subL (Prod.fst (Prod.snd d)) x x_1 = subL (Prod.fst (Prod.snd d)) x x_1 ∧ subL (Prod.fst (Prod.snd (Prod.snd d))) x x_1 = subL (Prod.fst (Prod.snd (Prod.snd d))) x
  x_1 ∧ thrF (Prod.fst (Prod.fst (codF (Prod.fst d) (Prod.fst (Prod.snd d)) (Prod.snd (Prod.snd (Prod.snd d)))))) (subL (Prod.fst (Prod.snd d)) x x_1) (subL (Prod.fst (Prod.snd (Prod.snd d))) x x_1) = msgF (modF
  (Prod.fst d)) (Prod.fst (Prod.snd d)) (Prod.fst (Prod.snd (Prod.snd d))) x ++ List.replicate (0 : Nat) (0 : Int) ∧ evM (Prod.fst (Prod.fst (codF (Prod.fst d) (Prod.fst (Prod.snd d)) (Prod.snd (Prod.snd (Prod.snd
  d)))))) (thrF (Prod.fst (Prod.fst (codF (Prod.fst d) (Prod.fst (Prod.snd d)) (Prod.snd (Prod.snd (Prod.snd d)))))) (subL (Prod.fst (Prod.snd d)) x x_1) (subL (Prod.fst (Prod.snd (Prod.snd d))) x x_1)) (Prod.fst
  (Prod.snd d)) (List.length (Prod.fst (Prod.snd d))) = evM (Prod.fst (Prod.fst (codF (Prod.fst d) (Prod.fst (Prod.snd d)) (Prod.snd (Prod.snd (Prod.snd d)))))) (thrF (Prod.fst (Prod.fst (codF (Prod.fst d) (Prod.fst
  (Prod.snd d)) (Prod.snd (Prod.snd (Prod.snd d)))))) (subL (Prod.fst (Prod.snd d)) x x_1) (subL (Prod.fst (Prod.snd (Prod.snd d))) x x_1)) (Prod.fst (Prod.snd d)) (List.length (Prod.fst (Prod.snd d)))) ∧ ∀ (x_2 : Nat),
  List.length (msgF (modF (Prod.fst d)) (Prod.fst (Prod.snd d)) (Prod.fst (Prod.snd (Prod.snd d))) x) + x_2 ≤ Int.toNat (Prod.snd (Prod.snd (Prod.snd d))) → (decide ((↑(List.length (msgF (modF (Prod.fst d)) (Prod.fst
  (Prod.snd d)) (Prod.fst (Prod.snd (Prod.snd d))) x ++ List.replicate x_2 (0 : Int))) : Int) < Prod.snd (Prod.snd (Prod.snd d))) = true → (List.length (msgF (modF (Prod.fst d)) (Prod.fst (Prod.snd d)) (Prod.fst
  (Prod.snd (Prod.snd d))) x ++ List.replicate x_2 (0 : Int)) + List.length [(0 : Int)]) * (8 : Nat) ≤ (140737488355328 : Nat) ∧ ∃ (x' : Nat), List.length (msgF (modF (Prod.fst d)) (Prod.fst (Prod.snd d)) (Prod.fst
  (Prod.snd (Prod.snd d))) x) + x' ≤ Int.toNat (Prod.snd (Prod.snd (Prod.snd d))) ∧ Int.toNat (Prod.snd (Prod.snd (Prod.snd d))) - x' < Int.toNat (Prod.snd (Prod.snd (Prod.snd d))) - x_2 ∧ (Prod.fst d = Prod.fst d ∧
  Prod.fst (Prod.snd d) = Prod.fst (Prod.snd d) ∧ Prod.fst (Prod.snd (Prod.snd d)) = Prod.fst (Prod.snd (Prod.snd d)) ∧ Prod.snd (Prod.snd (Prod.snd d)) = Prod.snd (Prod.snd (Prod.snd d)) ∧ Prod.snd (codF (Prod.fst d)
  (Prod.fst (Prod.snd d)) (Prod.snd (Prod.snd (Prod.snd d)))) = Prod.snd (codF (Prod.fst d) (Prod.fst (Prod.snd d)) (Prod.snd (Prod.snd (Prod.snd d)))) ∧ (↑x : Int) = (↑x : Int) ∧ difF (evM (Prod.fst (Prod.fst (codF
  (Prod.fst d) (Prod.fst (Prod.snd d)) (Prod.snd (Prod.snd (Prod.snd d)))))) (thrF (Prod.fst (Prod.fst (codF (Prod.fst d) (Prod.fst (Prod.snd d)) (Prod.snd (Prod.snd (Prod.snd d)))))) (subL (Prod.fst (Prod.snd d)) x x_1)
  (subL (Prod.fst (Prod.snd (Prod.snd d))) x x_1)) (Prod.fst (Prod.snd d)) (List.length (Prod.fst (Prod.snd d)))) (Prod.fst (Prod.snd (Prod.snd d))) = difF (evM (Prod.fst (Prod.fst (codF (Prod.fst d) (Prod.fst (Prod.snd
  d)) (Prod.snd (Prod.snd (Prod.snd d)))))) (thrF (Prod.fst (Prod.fst (codF (Prod.fst d) (Prod.fst (Prod.snd d)) (Prod.snd (Prod.snd (Prod.snd d)))))) (subL (Prod.fst (Prod.snd d)) x x_1) (subL (Prod.fst (Prod.snd
  (Prod.snd d))) x x_1)) (Prod.fst (Prod.snd d)) (List.length (Prod.fst (Prod.snd d)))) (Prod.fst (Prod.snd (Prod.snd d))) ∧ ishl IntKind.i64 (1 : Int) (↑(List.length (Prod.fst (Prod.snd d))) : Int) = ishl IntKind.i64 (1
  : Int) (↑(List.length (Prod.fst (Prod.snd d))) : Int) ∧ (↑x : Int) = (↑x : Int)) ∧ (Prod.fst (Prod.fst (codF (Prod.fst d) (Prod.fst (Prod.snd d)) (Prod.snd (Prod.snd (Prod.snd d))))) = Prod.fst (Prod.fst (codF
  (Prod.fst d) (Prod.fst (Prod.snd d)) (Prod.snd (Prod.snd (Prod.snd d))))) ∧ Prod.fst (Prod.snd (Prod.fst (codF (Prod.fst d) (Prod.fst (Prod.snd d)) (Prod.snd (Prod.snd (Prod.snd d)))))) = Prod.fst (Prod.snd (Prod.fst
  (codF (Prod.fst d) (Prod.fst (Prod.snd d)) (Prod.snd (Prod.snd (Prod.snd d)))))) ∧ Prod.snd (Prod.snd (Prod.fst (codF (Prod.fst d) (Prod.fst (Prod.snd d)) (Prod.snd (Prod.snd (Prod.snd d)))))) = Prod.snd (Prod.snd
  (Prod.fst (codF (Prod.fst d) (Prod.fst (Prod.snd d)) (Prod.snd (Prod.snd (Prod.snd d))))))) ∧ subL (Prod.fst (Prod.snd d)) x x_1 = subL (Prod.fst (Prod.snd d)) x x_1 ∧ subL (Prod.fst (Prod.snd (Prod.snd d))) x x_1 =
  subL (Prod.fst (Prod.snd (Prod.snd d))) x x_1 ∧ msgF (modF (Prod.fst d)) (Prod.fst (Prod.snd d)) (Prod.fst (Prod.snd (Prod.snd d))) x ++ List.replicate x_2 (0 : Int) ++ [(0 : Int)] = msgF (modF (Prod.fst d)) (Prod.fst
  (Prod.snd d)) (Prod.fst (Prod.snd (Prod.snd d))) x ++ List.replicate x' (0 : Int) ∧ evM (Prod.fst (Prod.fst (codF (Prod.fst d) (Prod.fst (Prod.snd d)) (Prod.snd (Prod.snd (Prod.snd d)))))) (thrF (Prod.fst (Prod.fst
  (codF (Prod.fst d) (Prod.fst (Prod.snd d)) (Prod.snd (Prod.snd (Prod.snd d)))))) (subL (Prod.fst (Prod.snd d)) x x_1) (subL (Prod.fst (Prod.snd (Prod.snd d))) x x_1)) (Prod.fst (Prod.snd d)) (List.length (Prod.fst
  (Prod.snd d))) = evM (Prod.fst (Prod.fst (codF (Prod.fst d) (Prod.fst (Prod.snd d)) (Prod.snd (Prod.snd (Prod.snd d)))))) (thrF (Prod.fst (Prod.fst (codF (Prod.fst d) (Prod.fst (Prod.snd d)) (Prod.snd (Prod.snd
  (Prod.snd d)))))) (subL (Prod.fst (Prod.snd d)) x x_1) (subL (Prod.fst (Prod.snd (Prod.snd d))) x x_1)) (Prod.fst (Prod.snd d)) (List.length (Prod.fst (Prod.snd d)))) ∧ (decide ((↑(List.length (msgF (modF (Prod.fst d))
  (Prod.fst (Prod.snd d)) (Prod.fst (Prod.snd (Prod.snd d))) x ++ List.replicate x_2 (0 : Int))) : Int) < Prod.snd (Prod.snd (Prod.snd d))) = false → (msgF (modF (Prod.fst d)) (Prod.fst (Prod.snd d)) (Prod.fst (Prod.snd
  (Prod.snd d))) x ++ List.replicate x_2 (0 : Int), difF (evM (Prod.fst (Prod.fst (codF (Prod.fst d) (Prod.fst (Prod.snd d)) (Prod.snd (Prod.snd (Prod.snd d)))))) (thrF (Prod.fst (Prod.fst (codF (Prod.fst d) (Prod.fst
  (Prod.snd d)) (Prod.snd (Prod.snd (Prod.snd d)))))) (subL (Prod.fst (Prod.snd d)) x x_1) (subL (Prod.fst (Prod.snd (Prod.snd d))) x x_1)) (Prod.fst (Prod.snd d)) (List.length (Prod.fst (Prod.snd d)))) (Prod.fst
  (Prod.snd (Prod.snd d))), true) = decF (Prod.fst d) (Prod.fst (Prod.snd d)) (Prod.fst (Prod.snd (Prod.snd d))) (Prod.snd (Prod.snd (Prod.snd d))))) ∧ (decide (difF (evM (Prod.fst (Prod.fst (codF (Prod.fst d) (Prod.fst
  (Prod.snd d)) (Prod.snd (Prod.snd (Prod.snd d)))))) (thrF (Prod.fst (Prod.fst (codF (Prod.fst d) (Prod.fst (Prod.snd d)) (Prod.snd (Prod.snd (Prod.snd d)))))) (subL (Prod.fst (Prod.snd d)) x x_1) (subL (Prod.fst
  (Prod.snd (Prod.snd d))) x x_1)) (Prod.fst (Prod.snd d)) (List.length (Prod.fst (Prod.snd d)))) (Prod.fst (Prod.snd (Prod.snd d))) ≤ IntKind.wrap IntKind.i64 (Int.tdiv (IntKind.wrap IntKind.i64 ((↑(List.length
  (Prod.fst (Prod.snd d))) : Int) - Prod.snd (Prod.snd (Prod.snd d)))) (2 : Int))) = false → ∃ (x' : Nat), SetJ (modF (Prod.fst d)) (Prod.fst (Prod.snd d)) (Prod.fst (Prod.snd (Prod.snd d))) (Int.toNat (Prod.snd
  (Prod.snd (Prod.snd d)))) x' ∧ (2 : Nat) ^ List.length (Prod.fst (Prod.snd d)) - x' < (2 : Nat) ^ List.length (Prod.fst (Prod.snd d)) - x ∧ (Prod.fst d = Prod.fst d ∧ Prod.fst (Prod.snd d) = Prod.fst (Prod.snd d) ∧
  Prod.fst (Prod.snd (Prod.snd d)) = Prod.fst (Prod.snd (Prod.snd d)) ∧ Prod.snd (Prod.snd (Prod.snd d)) = Prod.snd (Prod.snd (Prod.snd d)) ∧ Prod.snd (codF (Prod.fst d) (Prod.fst (Prod.snd d)) (Prod.snd (Prod.snd
  (Prod.snd d)))) = Prod.snd (codF (Prod.fst d) (Prod.fst (Prod.snd d)) (Prod.snd (Prod.snd (Prod.snd d)))) ∧ ishl IntKind.i64 (1 : Int) (↑(List.length (Prod.fst (Prod.snd d))) : Int) = ishl IntKind.i64 (1 : Int)
  (↑(List.length (Prod.fst (Prod.snd d))) : Int) ∧ IntKind.wrap IntKind.i64 ((↑x : Int) + (1 : Int)) = (↑x' : Int)) ∧ Prod.fst (Prod.fst (codF (Prod.fst d) (Prod.fst (Prod.snd d)) (Prod.snd (Prod.snd (Prod.snd d))))) =
  Prod.fst (Prod.fst (codF (Prod.fst d) (Prod.fst (Prod.snd d)) (Prod.snd (Prod.snd (Prod.snd d))))) ∧ Prod.fst (Prod.snd (Prod.fst (codF (Prod.fst d) (Prod.fst (Prod.snd d)) (Prod.snd (Prod.snd (Prod.snd d)))))) =
  Prod.fst (Prod.snd (Prod.fst (codF (Prod.fst d) (Prod.fst (Prod.snd d)) (Prod.snd (Prod.snd (Prod.snd d)))))) ∧ Prod.snd (Prod.snd (Prod.fst (codF (Prod.fst d) (Prod.fst (Prod.snd d)) (Prod.snd (Prod.snd (Prod.snd
  d)))))) = Prod.snd (Prod.snd (Prod.fst (codF (Prod.fst d) (Prod.fst (Prod.snd d)) (Prod.snd (Prod.snd (Prod.snd d))))))))))))) ∧ (decide ((↑x : Int) < ishl IntKind.i64 (1 : Int) (↑(List.length (Prod.fst (Prod.snd d)))
  : Int)) = false → ([], (0 : Int), false) = decF (Prod.fst d) (Prod.fst (Prod.snd d)) (Prod.fst (Prod.snd (Prod.snd d))) (Prod.snd (Prod.snd (Prod.snd d)))))))) := by
  intro (d : Int × List Int × List Int × Int) hw hp
  obtain ⟨f, xs, ys, k⟩ := d
  simp only [Int.toNat_natCast, exists_const, and_true, true_and, implies_true, decide_eq_true_eq, decide_eq_false_iff_not, Bool.not_eq_true', Bool.not_eq_false', beq_iff_eq, forall_const]
  intro _
  rw [cod_snd]
  refine ⟨fun h => dec_no (by rw [h]; rfl), fun h => ?_⟩
  rw [cod_mod h]
  obtain ⟨hpt, hl, hk1, hk2⟩ := code_ok h
  obtain ⟨hm, hl1, hl2, he, hn⟩ := pt_ok hpt
  have h0 := (mod_pr hm).mod
  refine ⟨fun h1 => dec_no (by rw [decide_eq_false (show ¬ ys.length = xs.length by omega), Bool.and_false]; rfl), fun h1 => ⟨fun h2 => dec_no ?_, fun h2 => ⟨by omega, ⟨Nat.zero_le _, fun t ht => absurd ht (by omega)⟩, rfl, fun x hx => ?_⟩⟩⟩
  · unfold specElemsF
    rw [h2, Bool.and_false, Bool.and_false]
  have h2' := spec_of hm h2
  have hly : ys.length = xs.length := by omega
  obtain ⟨kk, rfl⟩ := Int.eq_ofNat_of_zero_le (show 0 ≤ k by omega)
  simp only [Int.toNat_natCast] at hx ⊢
  have hp1 := pow_1024 hl
  rw [shl_nat hl]
  refine ⟨fun h3 => ⟨by omega, ⟨rfl, rfl, rfl⟩, fun y hy => ⟨fun h4 => ?_, fun h4 => ?_⟩⟩, fun h3 => dec_end h hly h2' hx (by omega)⟩
  · have hsl := (sub_sub (xs := xs) x y (by omega)).length_le
    have hsl2 := sub_len ys xs x y
    rw [List.length_take] at hsl
    have hand : iand .i64 (((x / 2 ^ y : Nat)) : Int) 1 = ((x / 2 ^ y % 2 : Nat) : Int) := iand_1024 ⟨x / 2 ^ y, by have := Nat.div_le_self x (2 ^ y); omega⟩
    rw [ishr_nat x y (by omega), hand]
    refine ⟨⟨by omega, by omega⟩, by omega, fun h5 => ⟨by simp only [List.length_cons, List.length_nil]; omega, ⟨by omega, by omega⟩, by simp only [List.length_cons, List.length_nil]; omega, y + 1, by omega, by omega, wrap_succ (by omega), sub_take (by omega), sub_take (by omega)⟩, fun h5 => ⟨y + 1, by omega, by omega, wrap_succ (by omega), sub_skip (by omega), sub_skip (by omega)⟩⟩
  · obtain rfl : y = xs.length := by omega
    have nxt : hitB (modF f) xs ys kk x = false → ∃ x', SetJ (modF f) xs ys kk x' ∧ 2 ^ xs.length - x' < 2 ^ xs.length - x ∧ IntKind.i64.wrap ((x : Int) + 1) = (x' : Int) :=
      fun hh => ⟨x + 1, set_next hx (by omega) hh, by omega, wrap_succ (by omega)⟩
    obtain ⟨hme, hml⟩ := msg_ok hpt hly x
    have hms : thrF (modF f) (subL xs x xs.length) (subL ys x xs.length) = msgF (modF f) xs ys x := rfl
    have hdif : difF (evM (modF f) (msgF (modF f) xs ys x) xs xs.length) ys = ((errF (modF f) xs ys x : Nat) : Int) := difF_eq (evM_len _ _ _ _) hly
    rw [hms, hdif, evM_len]
    have hsy : elemsF (modF f) (subL ys x xs.length) = true := by
      have := sub_all (xs := ys) x
      rw [hly] at this
      exact sublist_elems this h2
    refine ⟨fun h5 => nxt (by unfold hitB; rw [decide_eq_false (by omega)]; rfl), fun h5 => ⟨⟨⟨f, sub_pt hpt (by omega), rfl⟩, hsy, sub_len _ _ _ _⟩, fun _ => ⟨⟨h0, hme, he, by omega⟩, fun _ => ⟨⟨by omega, by omega⟩, fun _ => ⟨by decide, ?_⟩⟩⟩⟩⟩
    rw [half_nat (by omega) hl]
    refine ⟨fun h7 => ⟨by omega, by rw [List.replicate_zero, List.append_nil], fun z hz => ⟨fun h6 => ?_, fun h6 => ?_⟩⟩, fun h7 => nxt (by unfold hitB; rw [decide_eq_false (show ¬ errF (modF f) xs ys x ≤ (xs.length - kk) / 2 by omega), Bool.and_false])⟩
    · rw [List.length_append, List.length_replicate] at h6 ⊢
      refine ⟨by simp only [List.length_cons, List.length_nil]; omega, z + 1, by omega, by omega, ?_⟩
      rw [List.append_assoc, List.replicate_succ']
    · rw [List.length_append, List.length_replicate] at h6
      have hzk : z = kk - (msgF (modF f) xs ys x).length := by omega
      have hh : hitB (modF f) xs ys (kk : Int).toNat x = true := by
        unfold hitB
        rw [Int.toNat_natCast, decide_eq_true (show (subL xs x xs.length).length = kk by omega), decide_eq_true (show errF (modF f) xs ys x ≤ (xs.length - kk) / 2 by omega)]; rfl
      rw [dec_hit h hly h2' (s := x) (by rw [Int.toNat_natCast]; exact hx) (by omega) hh, Int.toNat_natCast, hzk]
      rfl
theorem v_I_DecodeWord :
  ∀ (d : Int × List Int × List Int × Int), Ty.wf i64T (Prod.fst d) ∧ Ty.wf listT (Prod.fst (Prod.snd d)) ∧ Ty.wf listT (Prod.fst (Prod.snd (Prod.snd d))) ∧ Ty.wf i64T (Prod.snd (Prod.snd (Prod.snd d))) → True → True ∧
  (Ty.wf listT (Prod.fst (decF (Prod.fst d) (Prod.fst (Prod.snd d)) (Prod.fst (Prod.snd (Prod.snd d))) (Prod.snd (Prod.snd (Prod.snd d))))) ∧ Ty.wf i64T (Prod.fst (Prod.snd (decF (Prod.fst d) (Prod.fst (Prod.snd d))
  (Prod.fst (Prod.snd (Prod.snd d))) (Prod.snd (Prod.snd (Prod.snd d)))))) ∧ Ty.wf Ty.bool (Prod.snd (Prod.snd (decF (Prod.fst d) (Prod.fst (Prod.snd d)) (Prod.fst (Prod.snd (Prod.snd d))) (Prod.snd (Prod.snd (Prod.snd
  d)))))) → (Prod.fst (decF (Prod.fst d) (Prod.fst (Prod.snd d)) (Prod.fst (Prod.snd (Prod.snd d))) (Prod.snd (Prod.snd (Prod.snd d)))), Prod.fst (Prod.snd (decF (Prod.fst d) (Prod.fst (Prod.snd d)) (Prod.fst (Prod.snd
  (Prod.snd d))) (Prod.snd (Prod.snd (Prod.snd d))))), Prod.snd (Prod.snd (decF (Prod.fst d) (Prod.fst (Prod.snd d)) (Prod.fst (Prod.snd (Prod.snd d))) (Prod.snd (Prod.snd (Prod.snd d)))))) = decF (Prod.fst d) (Prod.fst
  (Prod.snd d)) (Prod.fst (Prod.snd (Prod.snd d))) (Prod.snd (Prod.snd (Prod.snd d)))) := by
  intro (d : Int × List Int × List Int × Int) hw hp
  simp only [Int.toNat_natCast, exists_const, and_true, true_and, implies_true, decide_eq_true_eq, decide_eq_false_iff_not, Bool.not_eq_true', Bool.not_eq_false', beq_iff_eq, forall_const]
theorem find_inv {h : Nat → Bool} {s : Nat} : ∀ n, findF h n = some s → h s = true ∧ s < n
  | 0, e => by cases e
  | n + 1, e => by
    unfold findF at e
    split at e
    · rename_i s' h1
      injection e with e
      subst e
      have := find_inv n h1
      exact ⟨this.1, by omega⟩
    · split at e
      · rename_i h2
        injection e with e
        subst e
        exact ⟨h2, by omega⟩
      · cases e
theorem dec_inv {f : Int} {xs ys : List Int} {k : Int} (h : (decF f xs ys k).2.2 = true) : codeB f xs k = true ∧ ys.length = xs.length ∧ specElemsF f ys = true ∧ ∃ s, s < 2 ^ xs.length ∧ hitB (modF f) xs ys k.toNat s = true ∧ decF f xs ys k = (padF (msgF (modF f) xs ys s) k.toNat, ((errF (modF f) xs ys s : Nat) : Int), true) := by
  by_cases hc : (codeB f xs k && decide (ys.length = xs.length) && specElemsF f ys) = true
  · have hc' := hc
    simp only [Bool.and_eq_true, decide_eq_true_eq] at hc'
    refine ⟨hc'.1.1, hc'.1.2, hc'.2, ?_⟩
    have he := dec_yes hc'.1.1 hc'.1.2 hc'.2
    rw [he] at h ⊢
    cases hf : findF (hitB (modF f) xs ys k.toNat) (2 ^ xs.length) with
    | none => rw [hf] at h; cases h
    | some s =>
      have := find_inv _ hf
      exact ⟨s, this.2, this.1, rfl⟩
  · rw [← dec_no (by simpa using hc)] at h
    cases h
theorem dec_msg {f : Int} {xs ys : List Int} {k : Int} (h : (decF f xs ys k).2.2 = true) : codeB f xs k = true ∧ ys.length = xs.length ∧ specElemsF f ys = true ∧ elemsF (modF f) (decF f xs ys k).1 = true ∧ encS f xs (decF f xs ys k).1 = evM (modF f) (decF f xs ys k).1 xs xs.length := by
  obtain ⟨h1, h2, h3, s, h4, h5, h6⟩ := dec_inv h
  obtain ⟨hpt, hl, hk1, hk2⟩ := code_ok h1
  obtain ⟨hm, _, _, _, _⟩ := pt_ok hpt
  have h0 := (mod_pr hm).mod
  obtain ⟨m1, m2⟩ := msg_ok hpt h2 s
  unfold hitB at h5
  rw [Bool.and_eq_true, decide_eq_true_eq] at h5
  have he : elemsF (modF f) (padF (msgF (modF f) xs ys s) k.toNat) = true := pad_elems h0 m1 _
  have hlen : ((padF (msgF (modF f) xs ys s) k.toNat).length : Int) = k := by
    unfold padF
    rw [List.length_append, List.length_replicate]
    omega
  rw [h6]
  refine ⟨h1, h2, h3, he, ?_⟩
  unfold encS
  rw [hlen, h1, spec_of hm he]
  exact evM_ext h0 (fun t => trim_getD _ t) _ _
theorem blm_more {w ys : List Int} {n : Nat} (h : ¬ w.getD n 0 = ys.getD n 0) : blmL w ys n ++ [(n : Int)] = blmL w ys (n + 1) := by
  show _ = if _ then _ else _
  rw [if_neg h]
theorem blm_same {w ys : List Int} {n : Nat} (h : w.getD n 0 = ys.getD n 0) : blmL w ys n = blmL w ys (n + 1) := by
  show _ = if _ then _ else _
  rw [if_pos h]
theorem blm_len (w ys : List Int) : ∀ n, (blmL w ys n).length ≤ n
  | 0 => Nat.le_refl _
  | n + 1 => by
    have := blm_len w ys n
    unfold blmL
    split
    · omega
    · rw [List.length_append]; simp only [List.length_cons, List.length_nil]; omega
theorem gap_no {f : Int} {xs ys : List Int} {k : Int} {gone : List Int} (h : (codeB f xs k && decide (ys.length = xs.length) && decide (GonJ xs.length gone gone.length)) = false) : ([], 0, false) = gapF f xs ys k gone := by unfold gapF; rw [h]; rfl
theorem gap_yes {f : Int} {xs ys : List Int} {k : Int} {gone : List Int} (h1 : codeB f xs k = true) (h2 : ys.length = xs.length) (h3 : GonJ xs.length gone gone.length) : gapF f xs ys k gone = decF f (dropL xs gone xs.length) (dropL ys gone xs.length) k := by
  unfold gapF
  rw [h1, decide_eq_true h2, decide_eq_true h3]; rfl
theorem gap_bad {f : Int} {xs ys : List Int} {k : Int} {gone : List Int} (h : ¬ GonJ xs.length gone gone.length) : ([], 0, false) = gapF f xs ys k gone := gap_no (by rw [decide_eq_false h, Bool.and_false])
theorem gon_mono {n : Nat} {gone : List Int} {a b : Nat} (h : GonJ n gone b) (hab : a ≤ b) : GonJ n gone a := fun i hi => h i (by omega)
theorem gon_succ {n : Nat} {gone : List Int} {x : Nat} (h : GonJ n gone x) (h1 : 0 ≤ gone.getD x 0) (h2 : gone.getD x 0 < n) (h3 : 0 < x → gone.getD (x - 1) 0 < gone.getD x 0) : GonJ n gone (x + 1) := by
  intro i hi
  by_cases e : i = x
  · subst e; exact ⟨h1, h2, h3⟩
  · exact h i (by omega)
theorem gon_ge {n : Nat} {gone : List Int} {k : Nat} (h : GonJ n gone k) : ∀ i, i < k → (i : Int) ≤ gone.getD i 0
  | 0, hi => (h 0 hi).1
  | i + 1, hi => by
    have h1 := gon_ge h i (by omega)
    have h2 := (h (i + 1) hi).2.2 (by omega)
    rw [Nat.add_sub_cancel] at h2
    omega
theorem gon_len {n : Nat} {gone : List Int} {k : Nat} (h : GonJ n gone k) : k ≤ n := by
  match k, h with
  | 0, _ => exact Nat.zero_le _
  | k + 1, h =>
    have h1 := gon_ge h k (by omega)
    have h2 := (h k (by omega)).2.1
    omega
theorem gon_last {n : Nat} {gone : List Int} {k : Nat} (h : GonJ n gone k) : ∀ j, j < k → ∀ i, i ≤ j → gone.getD i 0 ≤ gone.getD j 0
  | 0, hj, i, hi => by
    obtain rfl : i = 0 := by omega
    exact Int.le_refl _
  | j + 1, hj, i, hi => by
    by_cases e : i = j + 1
    · rw [e]; exact Int.le_refl _
    · have h1 := gon_last h j (by omega) i (by omega)
      have h2 := (h (j + 1) hj).2.2 (by omega)
      rw [Nat.add_sub_cancel] at h2
      omega
theorem fr_ok {n : Nat} {gone : List Int} {x : Nat} (h : GonJ n gone x) (hx : x ≤ gone.length) : frG gone x ≤ n ∧ ∀ t : Nat, frG gone x ≤ t → (t : Int) ∉ gone.take x := by
  unfold frG
  by_cases e : x = 0
  · subst e
    exact ⟨Nat.zero_le _, fun t _ hm => by simp at hm⟩
  · rw [if_neg e]
    have h1 := h (x - 1) (by omega)
    refine ⟨by omega, fun t ht hm => ?_⟩
    obtain ⟨i, hi, he⟩ := List.getElem_of_mem hm
    rw [List.length_take] at hi
    have h2 := gon_last h (x - 1) (by omega) i (by omega)
    have h3 : gone.getD i 0 = (t : Int) := by
      rw [← he, List.getElem_take, List.getD_eq_getElem?_getD, List.getElem?_eq_getElem (by omega)]; rfl
    omega
theorem drop_in {l gone : List Int} {n : Nat} (h : (n : Int) ∈ gone) : dropL l gone (n + 1) = dropL l gone n := by
  show (if _ then _ else _) = _
  rw [if_pos h]
theorem drop_out {l gone : List Int} {n : Nat} (h : (n : Int) ∉ gone) : dropL l gone (n + 1) = dropL l gone n ++ [l.getD n 0] := by
  show (if _ then _ else _) = _
  rw [if_neg h]
theorem drop_seg {l gone : List Int} {a : Nat} : ∀ b, a ≤ b → b ≤ l.length → (∀ t : Nat, a ≤ t → t < b → (t : Int) ∉ gone) → dropL l gone b = dropL l gone a ++ List.drop a (List.take b l)
  | 0, h1, _, _ => by
    obtain rfl : a = 0 := by omega
    simp [dropL]
  | b + 1, h1, h2, h3 => by
    by_cases e : a = b + 1
    · subst e
      rw [List.drop_eq_nil_of_le (by rw [List.length_take]; omega), List.append_nil]
    · have h4 := drop_seg (l := l) b (by omega) (by omega) (fun t ht1 ht2 => h3 t ht1 (by omega))
      rw [drop_out (h3 b (by omega) (by omega)), h4, ← tk_succ (z := (0 : Int)) (show b < l.length by omega), List.drop_append_of_le_length (by rw [List.length_take]; omega), List.append_assoc]
theorem drop_congr {l g h : List Int} : ∀ n, (∀ t : Nat, t < n → ((t : Int) ∈ g ↔ (t : Int) ∈ h)) → dropL l g n = dropL l h n
  | 0, _ => rfl
  | n + 1, e => by
    have h1 := drop_congr (l := l) n (fun t ht => e t (by omega))
    by_cases hm : (n : Int) ∈ g
    · rw [drop_in hm, drop_in ((e n (by omega)).1 hm), h1]
    · rw [drop_out hm, drop_out (fun hh => hm ((e n (by omega)).2 hh)), h1]
theorem drop_len (l gone : List Int) : ∀ n, (dropL l gone n).length ≤ n
  | 0 => Nat.le_refl _
  | n + 1 => by
    have := drop_len l gone n
    unfold dropL
    split
    · omega
    · rw [List.length_append]; simp only [List.length_cons, List.length_nil]; omega
theorem drop_step {l gone : List Int} {n x g : Nat} (hJ : GonJ n gone x) (hx : x < gone.length) (hg : gone.getD x 0 = (g : Int)) (h1 : frG gone x ≤ g) (h2 : g < n) (hl : l.length = n) : dropL l (gone.take x) (frG gone x) ++ List.drop (frG gone x) (List.take g l) = dropL l (gone.take (x + 1)) (g + 1) := by
  have hfr := fr_ok hJ (by omega)
  have hmem : (g : Int) ∈ gone.take (x + 1) := by rw [← hg]; exact mem_getD_take (by omega) (by omega)
  rw [drop_in hmem, ← drop_seg g h1 (by omega) (fun t ht1 _ => hfr.2 t ht1)]
  refine drop_congr g (fun t ht => ?_)
  rw [← tk_succ (z := (0 : Int)) hx, List.mem_append, List.mem_singleton, hg]
  exact ⟨.inl, fun h => h.elim id (fun e => absurd e (by omega))⟩
theorem v_I_Blame :
  ∀ (d : Int × List Int × List Int × Int), Ty.wf i64T (Prod.fst d) ∧ Ty.wf listT (Prod.fst (Prod.snd d)) ∧ Ty.wf listT (Prod.fst (Prod.snd (Prod.snd d))) ∧ Ty.wf i64T (Prod.snd (Prod.snd (Prod.snd d))) → True → True ∧
  (Ty.wf listT (Prod.fst (decF (Prod.fst d) (Prod.fst (Prod.snd d)) (Prod.fst (Prod.snd (Prod.snd d))) (Prod.snd (Prod.snd (Prod.snd d))))) ∧ Ty.wf i64T (Prod.fst (Prod.snd (decF (Prod.fst d) (Prod.fst (Prod.snd d))
  (Prod.fst (Prod.snd (Prod.snd d))) (Prod.snd (Prod.snd (Prod.snd d)))))) ∧ Ty.wf Ty.bool (Prod.snd (Prod.snd (decF (Prod.fst d) (Prod.fst (Prod.snd d)) (Prod.fst (Prod.snd (Prod.snd d))) (Prod.snd (Prod.snd (Prod.snd
  d)))))) → ((!Prod.snd (Prod.snd (decF (Prod.fst d) (Prod.fst (Prod.snd d)) (Prod.fst (Prod.snd (Prod.snd d))) (Prod.snd (Prod.snd (Prod.snd d)))))) = true → [] = blmF (Prod.fst d) (Prod.fst (Prod.snd d)) (Prod.fst
  (Prod.snd (Prod.snd d))) (Prod.snd (Prod.snd (Prod.snd d)))) ∧ ((!Prod.snd (Prod.snd (decF (Prod.fst d) (Prod.fst (Prod.snd d)) (Prod.fst (Prod.snd (Prod.snd d))) (Prod.snd (Prod.snd (Prod.snd d)))))) = false → True ∧
  (Ty.wf fldT (Prod.fst (fieldF (Prod.fst d))) ∧ Ty.wf Ty.bool (Prod.snd (fieldF (Prod.fst d))) → (IsMod (Prod.fst (Prod.fst (fieldF (Prod.fst d)))) ∧ elemsF (Prod.fst (Prod.fst (fieldF (Prod.fst d)))) (Prod.fst (decF
  (Prod.fst d) (Prod.fst (Prod.snd d)) (Prod.fst (Prod.snd (Prod.snd d))) (Prod.snd (Prod.snd (Prod.snd d))))) = true ∧ elemsF (Prod.fst (Prod.fst (fieldF (Prod.fst d)))) (Prod.fst (Prod.snd d)) = true ∧ List.length
  (Prod.fst (Prod.snd d)) ≤ (1000 : Nat)) ∧ (Ty.wf listT (evM (Prod.fst (Prod.fst (fieldF (Prod.fst d)))) (Prod.fst (decF (Prod.fst d) (Prod.fst (Prod.snd d)) (Prod.fst (Prod.snd (Prod.snd d))) (Prod.snd (Prod.snd
  (Prod.snd d))))) (Prod.fst (Prod.snd d)) (List.length (Prod.fst (Prod.snd d)))) → (0 : Nat) ≤ List.length (Prod.fst (Prod.snd d)) ∧ ((Prod.fst d = Prod.fst d ∧ Prod.fst (Prod.snd d) = Prod.fst (Prod.snd d) ∧ Prod.fst
  (Prod.snd (Prod.snd d)) = Prod.fst (Prod.snd (Prod.snd d)) ∧ Prod.snd (Prod.snd (Prod.snd d)) = Prod.snd (Prod.snd (Prod.snd d)) ∧ Value.slice none (0 : Nat) (0 : Nat) = Value.slice none (0 : Nat) (0 : Nat) ∧ Prod.fst
  (Prod.snd (decF (Prod.fst d) (Prod.fst (Prod.snd d)) (Prod.fst (Prod.snd (Prod.snd d))) (Prod.snd (Prod.snd (Prod.snd d))))) = Prod.fst (Prod.snd (decF (Prod.fst d) (Prod.fst (Prod.snd d)) (Prod.fst (Prod.snd (Prod.snd
  d))) (Prod.snd (Prod.snd (Prod.snd d))))) ∧ Prod.snd (Prod.snd (decF (Prod.fst d) (Prod.fst (Prod.snd d)) (Prod.fst (Prod.snd (Prod.snd d))) (Prod.snd (Prod.snd (Prod.snd d))))) = Prod.snd (Prod.snd (decF (Prod.fst d)
  (Prod.fst (Prod.snd d)) (Prod.fst (Prod.snd (Prod.snd d))) (Prod.snd (Prod.snd (Prod.snd d))))) ∧ Prod.snd (fieldF (Prod.fst d)) = Prod.snd (fieldF (Prod.fst d)) ∧ (↑(List.length (evM (Prod.fst (Prod.fst (fieldF
  (Prod.fst d)))) (Prod.fst (decF (Prod.fst d) (Prod.fst (Prod.snd d)) (Prod.fst (Prod.snd (Prod.snd d))) (Prod.snd (Prod.snd (Prod.snd d))))) (Prod.fst (Prod.snd d)) (List.length (Prod.fst (Prod.snd d))))) : Int) =
  (↑(List.length (evM (Prod.fst (Prod.fst (fieldF (Prod.fst d)))) (Prod.fst (decF (Prod.fst d) (Prod.fst (Prod.snd d)) (Prod.fst (Prod.snd (Prod.snd d))) (Prod.snd (Prod.snd (Prod.snd d))))) (Prod.fst (Prod.snd d))
  (List.length (Prod.fst (Prod.snd d))))) : Int) ∧ (0 : Int) = (↑(0 : Nat) : Int)) ∧ Prod.fst (decF (Prod.fst d) (Prod.fst (Prod.snd d)) (Prod.fst (Prod.snd (Prod.snd d))) (Prod.snd (Prod.snd (Prod.snd d)))) = Prod.fst
  (decF (Prod.fst d) (Prod.fst (Prod.snd d)) (Prod.fst (Prod.snd (Prod.snd d))) (Prod.snd (Prod.snd (Prod.snd d)))) ∧ (Prod.fst (Prod.fst (fieldF (Prod.fst d))) = Prod.fst (Prod.fst (fieldF (Prod.fst d))) ∧ Prod.fst
  (Prod.snd (Prod.fst (fieldF (Prod.fst d)))) = Prod.fst (Prod.snd (Prod.fst (fieldF (Prod.fst d)))) ∧ Prod.snd (Prod.snd (Prod.fst (fieldF (Prod.fst d)))) = Prod.snd (Prod.snd (Prod.fst (fieldF (Prod.fst d))))) ∧ [] =
  blmL (evM (modF (Prod.fst d)) (Prod.fst (decF (Prod.fst d) (Prod.fst (Prod.snd d)) (Prod.fst (Prod.snd (Prod.snd d))) (Prod.snd (Prod.snd (Prod.snd d))))) (Prod.fst (Prod.snd d)) (List.length (Prod.fst (Prod.snd d))))
  (Prod.fst (Prod.snd (Prod.snd d))) (0 : Nat) ∧ evM (Prod.fst (Prod.fst (fieldF (Prod.fst d)))) (Prod.fst (decF (Prod.fst d) (Prod.fst (Prod.snd d)) (Prod.fst (Prod.snd (Prod.snd d))) (Prod.snd (Prod.snd (Prod.snd
  d))))) (Prod.fst (Prod.snd d)) (List.length (Prod.fst (Prod.snd d))) = evM (Prod.fst (Prod.fst (fieldF (Prod.fst d)))) (Prod.fst (decF (Prod.fst d) (Prod.fst (Prod.snd d)) (Prod.fst (Prod.snd (Prod.snd d))) (Prod.snd
  (Prod.snd (Prod.snd d))))) (Prod.fst (Prod.snd d)) (List.length (Prod.fst (Prod.snd d)))) ∧ ∀ (x : Nat), x ≤ List.length (Prod.fst (Prod.snd d)) → (decide ((↑x : Int) < (↑(List.length (evM (Prod.fst (Prod.fst (fieldF
  (Prod.fst d)))) (Prod.fst (decF (Prod.fst d) (Prod.fst (Prod.snd d)) (Prod.fst (Prod.snd (Prod.snd d))) (Prod.snd (Prod.snd (Prod.snd d))))) (Prod.fst (Prod.snd d)) (List.length (Prod.fst (Prod.snd d))))) : Int)) =
  true → ((0 : Int) ≤ (↑x : Int) ∧ (↑x : Int) < (↑(List.length (evM (Prod.fst (Prod.fst (fieldF (Prod.fst d)))) (Prod.fst (decF (Prod.fst d) (Prod.fst (Prod.snd d)) (Prod.fst (Prod.snd (Prod.snd d))) (Prod.snd (Prod.snd
  (Prod.snd d))))) (Prod.fst (Prod.snd d)) (List.length (Prod.fst (Prod.snd d))))) : Int)) ∧ ((0 : Int) ≤ (↑x : Int) ∧ (↑x : Int) < (↑(List.length (Prod.fst (Prod.snd (Prod.snd d)))) : Int)) ∧ ((!decide (List.getD (evM
  (Prod.fst (Prod.fst (fieldF (Prod.fst d)))) (Prod.fst (decF (Prod.fst d) (Prod.fst (Prod.snd d)) (Prod.fst (Prod.snd (Prod.snd d))) (Prod.snd (Prod.snd (Prod.snd d))))) (Prod.fst (Prod.snd d)) (List.length (Prod.fst
  (Prod.snd d)))) (Int.toNat (↑x : Int)) (0 : Int) = List.getD (Prod.fst (Prod.snd (Prod.snd d))) (Int.toNat (↑x : Int)) (0 : Int))) = true → (List.length (blmL (evM (modF (Prod.fst d)) (Prod.fst (decF (Prod.fst d)
  (Prod.fst (Prod.snd d)) (Prod.fst (Prod.snd (Prod.snd d))) (Prod.snd (Prod.snd (Prod.snd d))))) (Prod.fst (Prod.snd d)) (List.length (Prod.fst (Prod.snd d)))) (Prod.fst (Prod.snd (Prod.snd d))) x) + List.length [(↑x :
  Int)]) * (8 : Nat) ≤ (140737488355328 : Nat) ∧ ∃ (x' : Nat), x' ≤ List.length (Prod.fst (Prod.snd d)) ∧ List.length (Prod.fst (Prod.snd d)) - x' < List.length (Prod.fst (Prod.snd d)) - x ∧ (Prod.fst d = Prod.fst d ∧
  Prod.fst (Prod.snd d) = Prod.fst (Prod.snd d) ∧ Prod.fst (Prod.snd (Prod.snd d)) = Prod.fst (Prod.snd (Prod.snd d)) ∧ Prod.snd (Prod.snd (Prod.snd d)) = Prod.snd (Prod.snd (Prod.snd d)) ∧ Value.slice none (0 : Nat) (0
  : Nat) = Value.slice none (0 : Nat) (0 : Nat) ∧ Prod.fst (Prod.snd (decF (Prod.fst d) (Prod.fst (Prod.snd d)) (Prod.fst (Prod.snd (Prod.snd d))) (Prod.snd (Prod.snd (Prod.snd d))))) = Prod.fst (Prod.snd (decF (Prod.fst
  d) (Prod.fst (Prod.snd d)) (Prod.fst (Prod.snd (Prod.snd d))) (Prod.snd (Prod.snd (Prod.snd d))))) ∧ Prod.snd (Prod.snd (decF (Prod.fst d) (Prod.fst (Prod.snd d)) (Prod.fst (Prod.snd (Prod.snd d))) (Prod.snd (Prod.snd
  (Prod.snd d))))) = Prod.snd (Prod.snd (decF (Prod.fst d) (Prod.fst (Prod.snd d)) (Prod.fst (Prod.snd (Prod.snd d))) (Prod.snd (Prod.snd (Prod.snd d))))) ∧ Prod.snd (fieldF (Prod.fst d)) = Prod.snd (fieldF (Prod.fst d))
  ∧ (↑(List.length (evM (Prod.fst (Prod.fst (fieldF (Prod.fst d)))) (Prod.fst (decF (Prod.fst d) (Prod.fst (Prod.snd d)) (Prod.fst (Prod.snd (Prod.snd d))) (Prod.snd (Prod.snd (Prod.snd d))))) (Prod.fst (Prod.snd d))
  (List.length (Prod.fst (Prod.snd d))))) : Int) = (↑(List.length (evM (Prod.fst (Prod.fst (fieldF (Prod.fst d)))) (Prod.fst (decF (Prod.fst d) (Prod.fst (Prod.snd d)) (Prod.fst (Prod.snd (Prod.snd d))) (Prod.snd
  (Prod.snd (Prod.snd d))))) (Prod.fst (Prod.snd d)) (List.length (Prod.fst (Prod.snd d))))) : Int) ∧ IntKind.wrap IntKind.i64 ((↑x : Int) + (1 : Int)) = (↑x' : Int)) ∧ Prod.fst (decF (Prod.fst d) (Prod.fst (Prod.snd d))
  (Prod.fst (Prod.snd (Prod.snd d))) (Prod.snd (Prod.snd (Prod.snd d)))) = Prod.fst (decF (Prod.fst d) (Prod.fst (Prod.snd d)) (Prod.fst (Prod.snd (Prod.snd d))) (Prod.snd (Prod.snd (Prod.snd d)))) ∧ (Prod.fst (Prod.fst
  (fieldF (Prod.fst d))) = Prod.fst (Prod.fst (fieldF (Prod.fst d))) ∧ Prod.fst (Prod.snd (Prod.fst (fieldF (Prod.fst d)))) = Prod.fst (Prod.snd (Prod.fst (fieldF (Prod.fst d)))) ∧ Prod.snd (Prod.snd (Prod.fst (fieldF
  (Prod.fst d)))) = Prod.snd (Prod.snd (Prod.fst (fieldF (Prod.fst d))))) ∧ blmL (evM (modF (Prod.fst d)) (Prod.fst (decF (Prod.fst d) (Prod.fst (Prod.snd d)) (Prod.fst (Prod.snd (Prod.snd d))) (Prod.snd (Prod.snd
  (Prod.snd d))))) (Prod.fst (Prod.snd d)) (List.length (Prod.fst (Prod.snd d)))) (Prod.fst (Prod.snd (Prod.snd d))) x ++ [(↑x : Int)] = blmL (evM (modF (Prod.fst d)) (Prod.fst (decF (Prod.fst d) (Prod.fst (Prod.snd d))
  (Prod.fst (Prod.snd (Prod.snd d))) (Prod.snd (Prod.snd (Prod.snd d))))) (Prod.fst (Prod.snd d)) (List.length (Prod.fst (Prod.snd d)))) (Prod.fst (Prod.snd (Prod.snd d))) x' ∧ evM (Prod.fst (Prod.fst (fieldF (Prod.fst
  d)))) (Prod.fst (decF (Prod.fst d) (Prod.fst (Prod.snd d)) (Prod.fst (Prod.snd (Prod.snd d))) (Prod.snd (Prod.snd (Prod.snd d))))) (Prod.fst (Prod.snd d)) (List.length (Prod.fst (Prod.snd d))) = evM (Prod.fst (Prod.fst
  (fieldF (Prod.fst d)))) (Prod.fst (decF (Prod.fst d) (Prod.fst (Prod.snd d)) (Prod.fst (Prod.snd (Prod.snd d))) (Prod.snd (Prod.snd (Prod.snd d))))) (Prod.fst (Prod.snd d)) (List.length (Prod.fst (Prod.snd d)))) ∧
  ((!decide (List.getD (evM (Prod.fst (Prod.fst (fieldF (Prod.fst d)))) (Prod.fst (decF (Prod.fst d) (Prod.fst (Prod.snd d)) (Prod.fst (Prod.snd (Prod.snd d))) (Prod.snd (Prod.snd (Prod.snd d))))) (Prod.fst (Prod.snd d))
  (List.length (Prod.fst (Prod.snd d)))) (Int.toNat (↑x : Int)) (0 : Int) = List.getD (Prod.fst (Prod.snd (Prod.snd d))) (Int.toNat (↑x : Int)) (0 : Int))) = false → ∃ (x' : Nat), x' ≤ List.length (Prod.fst (Prod.snd d))
  ∧ List.length (Prod.fst (Prod.snd d)) - x' < List.length (Prod.fst (Prod.snd d)) - x ∧ (Prod.fst d = Prod.fst d ∧ Prod.fst (Prod.snd d) = Prod.fst (Prod.snd d) ∧ Prod.fst (Prod.snd (Prod.snd d)) = Prod.fst (Prod.snd
  (Prod.snd d)) ∧ Prod.snd (Prod.snd (Prod.snd d)) = Prod.snd (Prod.snd (Prod.snd d)) ∧ Value.slice none (0 : Nat) (0 : Nat) = Value.slice none (0 : Nat) (0 : Nat) ∧ Prod.fst (Prod.snd (decF (Prod.fst d) (Prod.fst
  (Prod.snd d)) (Prod.fst (Prod.snd (Prod.snd d))) (Prod.snd (Prod.snd (Prod.snd d))))) = Prod.fst (Prod.snd (decF (Prod.fst d) (Prod.fst (Prod.snd d)) (Prod.fst (Prod.snd (Prod.snd d))) (Prod.snd (Prod.snd (Prod.snd
  d))))) ∧ Prod.snd (Prod.snd (decF (Prod.fst d) (Prod.fst (Prod.snd d)) (Prod.fst (Prod.snd (Prod.snd d))) (Prod.snd (Prod.snd (Prod.snd d))))) = Prod.snd (Prod.snd (decF (Prod.fst d) (Prod.fst (Prod.snd d)) (Prod.fst
  (Prod.snd (Prod.snd d))) (Prod.snd (Prod.snd (Prod.snd d))))) ∧ Prod.snd (fieldF (Prod.fst d)) = Prod.snd (fieldF (Prod.fst d)) ∧ (↑(List.length (evM (Prod.fst (Prod.fst (fieldF (Prod.fst d)))) (Prod.fst (decF
  (Prod.fst d) (Prod.fst (Prod.snd d)) (Prod.fst (Prod.snd (Prod.snd d))) (Prod.snd (Prod.snd (Prod.snd d))))) (Prod.fst (Prod.snd d)) (List.length (Prod.fst (Prod.snd d))))) : Int) = (↑(List.length (evM (Prod.fst
  (Prod.fst (fieldF (Prod.fst d)))) (Prod.fst (decF (Prod.fst d) (Prod.fst (Prod.snd d)) (Prod.fst (Prod.snd (Prod.snd d))) (Prod.snd (Prod.snd (Prod.snd d))))) (Prod.fst (Prod.snd d)) (List.length (Prod.fst (Prod.snd
  d))))) : Int) ∧ IntKind.wrap IntKind.i64 ((↑x : Int) + (1 : Int)) = (↑x' : Int)) ∧ Prod.fst (decF (Prod.fst d) (Prod.fst (Prod.snd d)) (Prod.fst (Prod.snd (Prod.snd d))) (Prod.snd (Prod.snd (Prod.snd d)))) = Prod.fst
  (decF (Prod.fst d) (Prod.fst (Prod.snd d)) (Prod.fst (Prod.snd (Prod.snd d))) (Prod.snd (Prod.snd (Prod.snd d)))) ∧ (Prod.fst (Prod.fst (fieldF (Prod.fst d))) = Prod.fst (Prod.fst (fieldF (Prod.fst d))) ∧ Prod.fst
  (Prod.snd (Prod.fst (fieldF (Prod.fst d)))) = Prod.fst (Prod.snd (Prod.fst (fieldF (Prod.fst d)))) ∧ Prod.snd (Prod.snd (Prod.fst (fieldF (Prod.fst d)))) = Prod.snd (Prod.snd (Prod.fst (fieldF (Prod.fst d))))) ∧ blmL
  (evM (modF (Prod.fst d)) (Prod.fst (decF (Prod.fst d) (Prod.fst (Prod.snd d)) (Prod.fst (Prod.snd (Prod.snd d))) (Prod.snd (Prod.snd (Prod.snd d))))) (Prod.fst (Prod.snd d)) (List.length (Prod.fst (Prod.snd d))))
  (Prod.fst (Prod.snd (Prod.snd d))) x = blmL (evM (modF (Prod.fst d)) (Prod.fst (decF (Prod.fst d) (Prod.fst (Prod.snd d)) (Prod.fst (Prod.snd (Prod.snd d))) (Prod.snd (Prod.snd (Prod.snd d))))) (Prod.fst (Prod.snd d))
  (List.length (Prod.fst (Prod.snd d)))) (Prod.fst (Prod.snd (Prod.snd d))) x' ∧ evM (Prod.fst (Prod.fst (fieldF (Prod.fst d)))) (Prod.fst (decF (Prod.fst d) (Prod.fst (Prod.snd d)) (Prod.fst (Prod.snd (Prod.snd d)))
  (Prod.snd (Prod.snd (Prod.snd d))))) (Prod.fst (Prod.snd d)) (List.length (Prod.fst (Prod.snd d))) = evM (Prod.fst (Prod.fst (fieldF (Prod.fst d)))) (Prod.fst (decF (Prod.fst d) (Prod.fst (Prod.snd d)) (Prod.fst
  (Prod.snd (Prod.snd d))) (Prod.snd (Prod.snd (Prod.snd d))))) (Prod.fst (Prod.snd d)) (List.length (Prod.fst (Prod.snd d))))) ∧ (decide ((↑x : Int) < (↑(List.length (evM (Prod.fst (Prod.fst (fieldF (Prod.fst d))))
  (Prod.fst (decF (Prod.fst d) (Prod.fst (Prod.snd d)) (Prod.fst (Prod.snd (Prod.snd d))) (Prod.snd (Prod.snd (Prod.snd d))))) (Prod.fst (Prod.snd d)) (List.length (Prod.fst (Prod.snd d))))) : Int)) = false → blmL (evM
  (modF (Prod.fst d)) (Prod.fst (decF (Prod.fst d) (Prod.fst (Prod.snd d)) (Prod.fst (Prod.snd (Prod.snd d))) (Prod.snd (Prod.snd (Prod.snd d))))) (Prod.fst (Prod.snd d)) (List.length (Prod.fst (Prod.snd d)))) (Prod.fst
  (Prod.snd (Prod.snd d))) x = blmF (Prod.fst d) (Prod.fst (Prod.snd d)) (Prod.fst (Prod.snd (Prod.snd d))) (Prod.snd (Prod.snd (Prod.snd d)))))))) := by
  intro (d : Int × List Int × List Int × Int) hw hp
  obtain ⟨f, xs, ys, k⟩ := d
  simp only [Int.toNat_natCast, exists_const, and_true, true_and, implies_true, decide_eq_true_eq, decide_eq_false_iff_not, Bool.not_eq_true', Bool.not_eq_false', beq_iff_eq, forall_const]
  intro _
  refine ⟨fun h => by unfold blmF; rw [h]; rfl, fun h _ => ?_⟩
  obtain ⟨h1, h2, h3, h4, h5⟩ := dec_msg h
  obtain ⟨hpt, hl, _, _⟩ := code_ok h1
  obtain ⟨hm, _, _, he, _⟩ := pt_ok hpt
  have hmf : (fieldF f).1.1 = modF f := rfl
  rw [hmf, evM_len]
  refine ⟨⟨(mod_pr hm).mod, h4, he, by omega⟩, fun _ => ⟨by omega, ⟨rfl, rfl⟩, fun x hx => ⟨fun h6 => ⟨⟨by omega, by omega⟩, ⟨by omega, by omega⟩, fun h7 => ⟨?_, x + 1, by omega, by omega, wrap_succ (by omega), blm_more h7⟩, fun h7 => ⟨x + 1, by omega, by omega, wrap_succ (by omega), blm_same h7⟩⟩, fun h6 => ?_⟩⟩⟩
  · have := blm_len (evM (modF f) (decF f xs ys k).1 xs xs.length) ys x
    simp only [List.length_cons, List.length_nil]; omega
  · rw [show x = ys.length by omega]
    unfold blmF
    rw [if_pos h]
end Go.SF
