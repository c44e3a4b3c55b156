/- What the laws of codes call keeps its contracts. No condition. -/
import Derived.Test.YtdfdoigiehmnoaaSxC
import Derived.Test.YtdfdoigiehmnoaaSxPDec
import Derived.Test.YtdfdoigiehmnoaaSxPCode
namespace Go.SF
open Go.SX Go
set_option linter.unusedVariables false
set_option linter.unusedSimpArgs false
set_option maxRecDepth 10000
theorem v_L_cp :
  ∀ (d : List Int), Ty.wf listT d → SmallL d → (0 : Nat) ≤ List.length d ∧ ((d = d ∧ Value.slice none (0 : Nat) (0 : Nat) = Value.slice none (0 : Nat) (0 : Nat) ∧ (0 : Int) = (↑(0 : Nat) : Int)) ∧ [] = List.take (0 :
  Nat) d) ∧ ∀ (x : Nat), x ≤ List.length d → (decide ((↑x : Int) < (↑(List.length d) : Int)) = true → ((0 : Int) ≤ (↑x : Int) ∧ (↑x : Int) < (↑(List.length d) : Int)) ∧ (List.length (List.take x d) + List.length
  [List.getD d (Int.toNat (↑x : Int)) (0 : Int)]) * (8 : Nat) ≤ (140737488355328 : Nat) ∧ ∃ (x' : Nat), x' ≤ List.length d ∧ List.length d - x' < List.length d - x ∧ (d = d ∧ Value.slice none (0 : Nat) (0 : Nat) =
  Value.slice none (0 : Nat) (0 : Nat) ∧ IntKind.wrap IntKind.i64 ((↑x : Int) + (1 : Int)) = (↑x' : Int)) ∧ List.take x d ++ [List.getD d (Int.toNat (↑x : Int)) (0 : Int)] = List.take x' d) ∧ (decide ((↑x : Int) <
  (↑(List.length d) : Int)) = false → List.take x d = d) := by
  intro (d : List Int) hw (hp : d.length ≤ 4096)
  simp only [Int.toNat_natCast, exists_const, and_true, true_and, implies_true, decide_eq_true_eq, decide_eq_false_iff_not, Bool.not_eq_true', Bool.not_eq_false', beq_iff_eq, forall_const]
  refine ⟨Nat.zero_le _, ⟨rfl, rfl⟩, fun x hx => ⟨fun h => ⟨⟨by omega, by omega⟩, ?_, x + 1, by omega, by omega, wrap_succ (by omega), tk_succ (by omega)⟩, fun h => ?_⟩⟩
  · simp; omega
  · rw [List.take_of_length_le (by omega)]
theorem v_L_same :
  ∀ (d : List Int × List Int), Ty.wf listT (Prod.fst d) ∧ Ty.wf listT (Prod.snd d) → True → ((!decide ((↑(List.length (Prod.fst d)) : Int) = (↑(List.length (Prod.snd d)) : Int))) = true → false = sameF (Prod.fst d)
  (Prod.snd d)) ∧ ((!decide ((↑(List.length (Prod.fst d)) : Int) = (↑(List.length (Prod.snd d)) : Int))) = false → ((0 : Nat) ≤ List.length (Prod.fst d) ∧ List.length (Prod.fst d) = List.length (Prod.snd d) ∧ List.take
  (0 : Nat) (Prod.fst d) = List.take (0 : Nat) (Prod.snd d)) ∧ (Prod.fst d = Prod.fst d ∧ Prod.snd d = Prod.snd d ∧ (0 : Int) = (↑(0 : Nat) : Int)) ∧ ∀ (x : Nat), x ≤ List.length (Prod.fst d) ∧ List.length (Prod.fst d) =
  List.length (Prod.snd d) ∧ List.take x (Prod.fst d) = List.take x (Prod.snd d) → (decide ((↑x : Int) < (↑(List.length (Prod.fst d)) : Int)) = true → ((0 : Int) ≤ (↑x : Int) ∧ (↑x : Int) < (↑(List.length (Prod.fst d)) :
  Int)) ∧ ((0 : Int) ≤ (↑x : Int) ∧ (↑x : Int) < (↑(List.length (Prod.snd d)) : Int)) ∧ ((!decide (List.getD (Prod.fst d) (Int.toNat (↑x : Int)) (0 : Int) = List.getD (Prod.snd d) (Int.toNat (↑x : Int)) (0 : Int))) =
  true → false = sameF (Prod.fst d) (Prod.snd d)) ∧ ((!decide (List.getD (Prod.fst d) (Int.toNat (↑x : Int)) (0 : Int) = List.getD (Prod.snd d) (Int.toNat (↑x : Int)) (0 : Int))) = false → ∃ (x' : Nat), (x' ≤ List.length
  (Prod.fst d) ∧ List.length (Prod.fst d) = List.length (Prod.snd d) ∧ List.take x' (Prod.fst d) = List.take x' (Prod.snd d)) ∧ List.length (Prod.fst d) - x' < List.length (Prod.fst d) - x ∧ Prod.fst d = Prod.fst d ∧
  Prod.snd d = Prod.snd d ∧ IntKind.wrap IntKind.i64 ((↑x : Int) + (1 : Int)) = (↑x' : Int))) ∧ (decide ((↑x : Int) < (↑(List.length (Prod.fst d)) : Int)) = false → true = sameF (Prod.fst d) (Prod.snd d))) := by
  intro (d : List Int × List Int) hw hp
  obtain ⟨xs, ys⟩ := d
  have hl : xs.length ≤ 9223372036854775807 := hw.1.1
  simp only [Int.toNat_natCast, exists_const, and_true, true_and, implies_true, decide_eq_true_eq, decide_eq_false_iff_not, Bool.not_eq_true', Bool.not_eq_false', beq_iff_eq, forall_const]
  refine ⟨fun h => ?_, fun h => ⟨⟨by omega, by omega, rfl⟩, rfl, fun x ⟨h1, h2, h0⟩ => ⟨fun h3 => ?_, fun h3 => ?_⟩⟩⟩
  · exact (decide_eq_false (fun e => h (by rw [e]))).symm
  · have h4 : x < xs.length := by omega
    obtain ⟨t1, t2⟩ := take_ext (z := (0 : Int)) h2 h4 h0
    rw [wrap_succ (by omega)]
    exact ⟨⟨by omega, by omega⟩, ⟨by omega, by omega⟩, fun h5 => (decide_eq_false (fun e => h5 (t2 e))).symm, fun h5 => ⟨x + 1, ⟨by omega, h2, t1.2 h5⟩, by omega, rfl⟩⟩
  · have h4 : x = xs.length := by omega
    subst h4
    have : xs = ys := by rw [List.take_length, h2, List.take_length] at h0; exact h0
    exact (decide_eq_true this).symm
theorem polyFd_no {f : Int} {a : List Int} (h : polyB f a = true → False) : ((0, 0, 0), false) = polyFd f a := by
  unfold polyFd; rw [if_neg h]
theorem polyFd_snd {f : Int} {a : List Int} : (polyFd f a).2 = polyB f a := by
  unfold polyFd; split
  · rename_i h; exact h.symm
  · rename_i h; exact (Bool.eq_false_iff.2 h).symm
theorem polyFd_mod {f : Int} {a : List Int} (h : polyB f a = true) : (polyFd f a).1.1 = modF f := by unfold polyFd; rw [if_pos h]; rfl
theorem v_I_polyField :
  ∀ (d : Int × List (List Int)), Ty.wf i64T (Prod.fst d) ∧ Ty.wf (Ty.sl listT) (Prod.snd d) → List.length (Prod.snd d) = (1 : Nat) → True ∧ (Ty.wf fldT (Prod.fst (fieldF (Prod.fst d))) ∧ Ty.wf Ty.bool (Prod.snd (fieldF
  (Prod.fst d))) → ((!Prod.snd (fieldF (Prod.fst d))) = true → (((0 : Int), (0 : Int), (0 : Int)), false) = polyFd (Prod.fst d) (List.getD (Prod.snd d) (0 : Nat) [])) ∧ ((!Prod.snd (fieldF (Prod.fst d))) = false → ((0 :
  Nat) ≤ (1 : Nat) ∧ ((0 : Nat) = (1 : Nat) → polyB (Prod.fst d) (List.getD (Prod.snd d) (0 : Nat) []) = true)) ∧ ((Prod.fst d = Prod.fst d ∧ Prod.snd d = Prod.snd d ∧ Prod.snd (fieldF (Prod.fst d)) = Prod.snd (fieldF
  (Prod.fst d)) ∧ Prod.snd d = Prod.snd d ∧ (↑(List.length (Prod.snd d)) : Int) = (↑(List.length (Prod.snd d)) : Int) ∧ (0 : Int) = (↑(0 : Nat) : Int)) ∧ ((0 : Int) = (0 : Int) ∧ (0 : Int) = (0 : Int) ∧ (0 : Int) = (0 :
  Int)) ∧ Prod.fst (Prod.fst (fieldF (Prod.fst d))) = Prod.fst (Prod.fst (fieldF (Prod.fst d))) ∧ Prod.fst (Prod.snd (Prod.fst (fieldF (Prod.fst d)))) = Prod.fst (Prod.snd (Prod.fst (fieldF (Prod.fst d)))) ∧ Prod.snd
  (Prod.snd (Prod.fst (fieldF (Prod.fst d)))) = Prod.snd (Prod.snd (Prod.fst (fieldF (Prod.fst d))))) ∧ ∀ (x : Nat), x ≤ (1 : Nat) ∧ (x = (1 : Nat) → polyB (Prod.fst d) (List.getD (Prod.snd d) (0 : Nat) []) = true) →
  (decide ((↑x : Int) < (↑(List.length (Prod.snd d)) : Int)) = true → ((0 : Int) ≤ (↑x : Int) ∧ (↑x : Int) < (↑(List.length (Prod.snd d)) : Int)) ∧ (decide ((400 : Int) < (↑(List.length (List.getD (Prod.snd d) (Int.toNat
  (↑x : Int)) [])) : Int)) = true → (((0 : Int), (0 : Int), (0 : Int)), false) = polyFd (Prod.fst d) (List.getD (Prod.snd d) (0 : Nat) [])) ∧ (decide ((400 : Int) < (↑(List.length (List.getD (Prod.snd d) (Int.toNat (↑x :
  Int)) [])) : Int)) = false → True ∧ ((!elemsF (Prod.fst (Prod.fst (fieldF (Prod.fst d)))) (List.getD (Prod.snd d) (Int.toNat (↑x : Int)) [])) = true → (((0 : Int), (0 : Int), (0 : Int)), false) = polyFd (Prod.fst d)
  (List.getD (Prod.snd d) (0 : Nat) [])) ∧ ((!elemsF (Prod.fst (Prod.fst (fieldF (Prod.fst d)))) (List.getD (Prod.snd d) (Int.toNat (↑x : Int)) [])) = false → (decide ((0 : Int) < (↑(List.length (List.getD (Prod.snd d)
  (Int.toNat (↑x : Int)) [])) : Int)) = true → ((0 : Int) ≤ IntKind.wrap IntKind.i64 ((↑(List.length (List.getD (Prod.snd d) (Int.toNat (↑x : Int)) [])) : Int) - (1 : Int)) ∧ IntKind.wrap IntKind.i64 ((↑(List.length
  (List.getD (Prod.snd d) (Int.toNat (↑x : Int)) [])) : Int) - (1 : Int)) < (↑(List.length (List.getD (Prod.snd d) (Int.toNat (↑x : Int)) [])) : Int)) ∧ (decide (List.getD (List.getD (Prod.snd d) (Int.toNat (↑x : Int))
  []) (Int.toNat (IntKind.wrap IntKind.i64 ((↑(List.length (List.getD (Prod.snd d) (Int.toNat (↑x : Int)) [])) : Int) - (1 : Int)))) (0 : Int) = (0 : Int)) = true → (((0 : Int), (0 : Int), (0 : Int)), false) = polyFd
  (Prod.fst d) (List.getD (Prod.snd d) (0 : Nat) [])) ∧ (decide (List.getD (List.getD (Prod.snd d) (Int.toNat (↑x : Int)) []) (Int.toNat (IntKind.wrap IntKind.i64 ((↑(List.length (List.getD (Prod.snd d) (Int.toNat (↑x :
  Int)) [])) : Int) - (1 : Int)))) (0 : Int) = (0 : Int)) = false → ∃ (x' : Nat), (x' ≤ (1 : Nat) ∧ (x' = (1 : Nat) → polyB (Prod.fst d) (List.getD (Prod.snd d) (0 : Nat) []) = true)) ∧ (1 : Nat) - x' < (1 : Nat) - x ∧
  (Prod.fst d = Prod.fst d ∧ Prod.snd d = Prod.snd d ∧ Prod.snd (fieldF (Prod.fst d)) = Prod.snd (fieldF (Prod.fst d)) ∧ Prod.snd d = Prod.snd d ∧ (↑(List.length (Prod.snd d)) : Int) = (↑(List.length (Prod.snd d)) : Int)
  ∧ IntKind.wrap IntKind.i64 ((↑x : Int) + (1 : Int)) = (↑x' : Int)) ∧ ((0 : Int) = (0 : Int) ∧ (0 : Int) = (0 : Int) ∧ (0 : Int) = (0 : Int)) ∧ Prod.fst (Prod.fst (fieldF (Prod.fst d))) = Prod.fst (Prod.fst (fieldF
  (Prod.fst d))) ∧ Prod.fst (Prod.snd (Prod.fst (fieldF (Prod.fst d)))) = Prod.fst (Prod.snd (Prod.fst (fieldF (Prod.fst d)))) ∧ Prod.snd (Prod.snd (Prod.fst (fieldF (Prod.fst d)))) = Prod.snd (Prod.snd (Prod.fst (fieldF
  (Prod.fst d)))))) ∧ (decide ((0 : Int) < (↑(List.length (List.getD (Prod.snd d) (Int.toNat (↑x : Int)) [])) : Int)) = false → ∃ (x' : Nat), (x' ≤ (1 : Nat) ∧ (x' = (1 : Nat) → polyB (Prod.fst d) (List.getD (Prod.snd d)
  (0 : Nat) []) = true)) ∧ (1 : Nat) - x' < (1 : Nat) - x ∧ (Prod.fst d = Prod.fst d ∧ Prod.snd d = Prod.snd d ∧ Prod.snd (fieldF (Prod.fst d)) = Prod.snd (fieldF (Prod.fst d)) ∧ Prod.snd d = Prod.snd d ∧ (↑(List.length
  (Prod.snd d)) : Int) = (↑(List.length (Prod.snd d)) : Int) ∧ IntKind.wrap IntKind.i64 ((↑x : Int) + (1 : Int)) = (↑x' : Int)) ∧ ((0 : Int) = (0 : Int) ∧ (0 : Int) = (0 : Int) ∧ (0 : Int) = (0 : Int)) ∧ Prod.fst
  (Prod.fst (fieldF (Prod.fst d))) = Prod.fst (Prod.fst (fieldF (Prod.fst d))) ∧ Prod.fst (Prod.snd (Prod.fst (fieldF (Prod.fst d)))) = Prod.fst (Prod.snd (Prod.fst (fieldF (Prod.fst d)))) ∧ Prod.snd (Prod.snd (Prod.fst
  (fieldF (Prod.fst d)))) = Prod.snd (Prod.snd (Prod.fst (fieldF (Prod.fst d)))))))) ∧ (decide ((↑x : Int) < (↑(List.length (Prod.snd d)) : Int)) = false → (Prod.fst (fieldF (Prod.fst d)), true) = polyFd (Prod.fst d)
  (List.getD (Prod.snd d) (0 : Nat) [])))) := by
  intro (d : Int × List (List Int)) hw hp
  obtain ⟨f, vs⟩ := d
  replace hp : vs.length = 1 := hp
  obtain ⟨v, rfl⟩ : ∃ v, vs = [v] := by
    match vs, hp with
    | [v], _ => exact ⟨v, rfl⟩
  have hl : v.length ≤ 9223372036854775807 := (hw.2.2 v (List.mem_cons_self ..)).1
  simp only [Int.toNat_natCast, exists_const, and_true, true_and, implies_true, decide_eq_true_eq, decide_eq_false_iff_not, Bool.not_eq_true', Bool.not_eq_false', beq_iff_eq, forall_const]
  intro _
  simp only [List.getD_cons_zero]
  refine ⟨fun h => polyFd_no (fun hh => ?_), fun h => ?_⟩
  · have hn : ¬ (0 ≤ f ∧ f < 9) := fun hh => by rw [field_ok.2 hh] at h; cases h
    exact (poly_ok hh).1 (mod_none hn)
  · have hf := field_ok.1 h
    have hb := mod_pos hf
    have hm0 : modF f ≠ 0 := by omega
    refine ⟨⟨by omega, fun h => by omega⟩, rfl, fun x hx => ⟨fun hlt => ?_, fun hge => ?_⟩⟩
    · have hx0 : x = 0 := by simp at hlt; omega
      subst hx0
      simp only [List.getD_cons_zero, List.length_cons, List.length_nil, Int.toNat_zero] at *
      refine ⟨⟨by omega, by omega⟩, fun h3 => polyFd_no (fun hh => ?_), fun h3 => ⟨fun h4 => polyFd_no (fun hh => ?_), fun h4 => ⟨fun h5 => ?_, fun h5 => ⟨1, ⟨by omega, fun _ => ?_⟩, by omega, rfl⟩⟩⟩⟩
      · have := (poly_ok hh).2.2.1; omega
      · have := (poly_ok hh).2.1
        rw [show elemsF (modF f) v = false from h4] at this; cases this
      · have e1 : IntKind.wrap IntKind.i64 ((v.length : Int) - 1) = ((v.length - 1 : Nat) : Int) := by rw [wrap_small (by omega)]; omega
        rw [e1]
        refine ⟨⟨by omega, by omega⟩, fun h6 => polyFd_no (fun hh => ?_), fun h6 => ⟨1, ⟨by omega, fun _ => ?_⟩, by omega, rfl⟩⟩
        · rcases (top_iff v).1 (poly_ok hh).2.2.2 with h7 | h7
          · omega
          · exact h7 h6
        · exact poly_of hm0 h4 (by omega) ((top_iff v).2 (.inr h6))
      · exact poly_of hm0 h4 (by omega) ((top_iff v).2 (.inl (by omega)))
    · have hx1 : x = 1 := by simp at hge; omega
      have := hx.2 hx1
      unfold polyFd
      rw [if_pos this]
theorem v_I_EvalPoly :
  ∀ (d : Int × List Int × Int), Ty.wf i64T (Prod.fst d) ∧ Ty.wf listT (Prod.fst (Prod.snd d)) ∧ Ty.wf i64T (Prod.snd (Prod.snd d)) → True → List.length [Prod.fst (Prod.snd d)] = (1 : Nat) ∧ (Ty.wf fldT (Prod.fst (polyFd
  (Prod.fst d) (List.getD [Prod.fst (Prod.snd d)] (0 : Nat) []))) ∧ Ty.wf Ty.bool (Prod.snd (polyFd (Prod.fst d) (List.getD [Prod.fst (Prod.snd d)] (0 : Nat) []))) → ((!Prod.snd (polyFd (Prod.fst d) (List.getD [Prod.fst
  (Prod.snd d)] (0 : Nat) []))) = true → (-1 : Int) = evPR (Prod.fst d) (Prod.fst (Prod.snd d)) (Prod.snd (Prod.snd d))) ∧ ((!Prod.snd (polyFd (Prod.fst d) (List.getD [Prod.fst (Prod.snd d)] (0 : Nat) []))) = false →
  IsMod (Prod.fst (Prod.fst (polyFd (Prod.fst d) (List.getD [Prod.fst (Prod.snd d)] (0 : Nat) [])))) ∧ (IsMod (Prod.fst (Prod.fst (polyFd (Prod.fst d) (List.getD [Prod.fst (Prod.snd d)] (0 : Nat) [])))) ∧ elemsF
  (Prod.fst (Prod.fst (polyFd (Prod.fst d) (List.getD [Prod.fst (Prod.snd d)] (0 : Nat) [])))) (Prod.fst (Prod.snd d)) = true ∧ El (Prod.fst (Prod.fst (polyFd (Prod.fst d) (List.getD [Prod.fst (Prod.snd d)] (0 : Nat)
  [])))) (redM (Prod.fst (Prod.fst (polyFd (Prod.fst d) (List.getD [Prod.fst (Prod.snd d)] (0 : Nat) [])))) (Prod.snd (Prod.snd d)))) ∧ (Ty.wf i64T (evP (Prod.fst (Prod.fst (polyFd (Prod.fst d) (List.getD [Prod.fst
  (Prod.snd d)] (0 : Nat) [])))) (Prod.fst (Prod.snd d)) (redM (Prod.fst (Prod.fst (polyFd (Prod.fst d) (List.getD [Prod.fst (Prod.snd d)] (0 : Nat) [])))) (Prod.snd (Prod.snd d)))) → Ty.wf i64T (redM (Prod.fst (Prod.fst
  (polyFd (Prod.fst d) (List.getD [Prod.fst (Prod.snd d)] (0 : Nat) [])))) (Prod.snd (Prod.snd d))) → evP (Prod.fst (Prod.fst (polyFd (Prod.fst d) (List.getD [Prod.fst (Prod.snd d)] (0 : Nat) [])))) (Prod.fst (Prod.snd
  d)) (redM (Prod.fst (Prod.fst (polyFd (Prod.fst d) (List.getD [Prod.fst (Prod.snd d)] (0 : Nat) [])))) (Prod.snd (Prod.snd d))) = evPR (Prod.fst d) (Prod.fst (Prod.snd d)) (Prod.snd (Prod.snd d))))) := by
  intro (d : Int × List Int × Int) hw hp
  obtain ⟨f, a, x⟩ := d
  simp only [Int.toNat_natCast, exists_const, and_true, true_and, implies_true, decide_eq_true_eq, decide_eq_false_iff_not, Bool.not_eq_true', Bool.not_eq_false', beq_iff_eq, forall_const]
  refine ⟨rfl, fun _ => ?_⟩
  simp only [List.getD_cons_zero]
  rw [polyFd_snd]
  refine ⟨fun h => ?_, fun h => ?_⟩
  · unfold evPR; rw [if_neg (by rw [h]; decide)]
  · obtain ⟨hm, he, _, _⟩ := poly_ok h
    rw [polyFd_mod h]
    have hi := (mod_is hm).1
    refine ⟨hi, ⟨hi, he, el_mod (by unfold IsMod at hi; omega) _⟩, fun _ _ => ?_⟩
    unfold evPR; rw [if_pos h]
theorem v_I_Vanish :
  ∀ (d : Int × List Int), Ty.wf i64T (Prod.fst d) ∧ Ty.wf listT (Prod.snd d) → True → True ∧ (Ty.wf fldT (Prod.fst (ptF (Prod.fst d) (Prod.snd d))) ∧ Ty.wf Ty.bool (Prod.snd (ptF (Prod.fst d) (Prod.snd d))) → ((!Prod.snd
  (ptF (Prod.fst d) (Prod.snd d))) = true → [] = vanR (Prod.fst d) (Prod.snd d)) ∧ ((!Prod.snd (ptF (Prod.fst d) (Prod.snd d))) = false → (IsMod (Prod.fst (Prod.fst (ptF (Prod.fst d) (Prod.snd d)))) ∧ elemsF (Prod.fst
  (Prod.fst (ptF (Prod.fst d) (Prod.snd d)))) (Prod.snd d) = true ∧ List.length (Prod.snd d) ≤ (40 : Nat)) ∧ (Ty.wf listT (vanF (Prod.fst (Prod.fst (ptF (Prod.fst d) (Prod.snd d)))) (Prod.snd d)) → vanF (Prod.fst
  (Prod.fst (ptF (Prod.fst d) (Prod.snd d)))) (Prod.snd d) = vanR (Prod.fst d) (Prod.snd d)))) := by
  intro (d : Int × List Int) hw hp
  obtain ⟨f, xs⟩ := d
  simp only [Int.toNat_natCast, exists_const, and_true, true_and, implies_true, decide_eq_true_eq, decide_eq_false_iff_not, Bool.not_eq_true', Bool.not_eq_false', beq_iff_eq, forall_const]
  intro _
  rw [pt_snd]
  refine ⟨fun h => ?_, fun h => ?_⟩
  · unfold vanR; rw [if_neg (by rw [h]; decide)]
  · obtain ⟨hm, h1, h2, he, _⟩ := pt_ok h
    rw [pt_mod h]
    refine ⟨⟨(mod_is hm).1, he, h2⟩, fun _ => ?_⟩
    unfold vanR; rw [if_pos h]
theorem v_I_EvalMany :
  ∀ (d : Int × List Int × List Int), Ty.wf i64T (Prod.fst d) ∧ Ty.wf listT (Prod.fst (Prod.snd d)) ∧ Ty.wf listT (Prod.snd (Prod.snd d)) → True → List.length [Prod.fst (Prod.snd d)] = (1 : Nat) ∧ (Ty.wf fldT (Prod.fst
  (polyFd (Prod.fst d) (List.getD [Prod.fst (Prod.snd d)] (0 : Nat) []))) ∧ Ty.wf Ty.bool (Prod.snd (polyFd (Prod.fst d) (List.getD [Prod.fst (Prod.snd d)] (0 : Nat) []))) → ((!Prod.snd (polyFd (Prod.fst d) (List.getD
  [Prod.fst (Prod.snd d)] (0 : Nat) []))) = true → [] = evMR (Prod.fst d) (Prod.fst (Prod.snd d)) (Prod.snd (Prod.snd d))) ∧ ((!Prod.snd (polyFd (Prod.fst d) (List.getD [Prod.fst (Prod.snd d)] (0 : Nat) []))) = false →
  (decide ((40 : Int) < (↑(List.length (Prod.snd (Prod.snd d))) : Int)) = true → [] = evMR (Prod.fst d) (Prod.fst (Prod.snd d)) (Prod.snd (Prod.snd d))) ∧ (decide ((40 : Int) < (↑(List.length (Prod.snd (Prod.snd d))) :
  Int)) = false → True ∧ ((!elemsF (Prod.fst (Prod.fst (polyFd (Prod.fst d) (List.getD [Prod.fst (Prod.snd d)] (0 : Nat) [])))) (Prod.snd (Prod.snd d))) = true → [] = evMR (Prod.fst d) (Prod.fst (Prod.snd d)) (Prod.snd
  (Prod.snd d))) ∧ ((!elemsF (Prod.fst (Prod.fst (polyFd (Prod.fst d) (List.getD [Prod.fst (Prod.snd d)] (0 : Nat) [])))) (Prod.snd (Prod.snd d))) = false → (IsMod (Prod.fst (Prod.fst (polyFd (Prod.fst d) (List.getD
  [Prod.fst (Prod.snd d)] (0 : Nat) [])))) ∧ elemsF (Prod.fst (Prod.fst (polyFd (Prod.fst d) (List.getD [Prod.fst (Prod.snd d)] (0 : Nat) [])))) (Prod.fst (Prod.snd d)) = true ∧ elemsF (Prod.fst (Prod.fst (polyFd
  (Prod.fst d) (List.getD [Prod.fst (Prod.snd d)] (0 : Nat) [])))) (Prod.snd (Prod.snd d)) = true ∧ List.length (Prod.snd (Prod.snd d)) ≤ (1000 : Nat)) ∧ (Ty.wf listT (evM (Prod.fst (Prod.fst (polyFd (Prod.fst d)
  (List.getD [Prod.fst (Prod.snd d)] (0 : Nat) [])))) (Prod.fst (Prod.snd d)) (Prod.snd (Prod.snd d)) (List.length (Prod.snd (Prod.snd d)))) → evM (Prod.fst (Prod.fst (polyFd (Prod.fst d) (List.getD [Prod.fst (Prod.snd
  d)] (0 : Nat) [])))) (Prod.fst (Prod.snd d)) (Prod.snd (Prod.snd d)) (List.length (Prod.snd (Prod.snd d))) = evMR (Prod.fst d) (Prod.fst (Prod.snd d)) (Prod.snd (Prod.snd d))))))) := by
  intro (d : Int × List Int × List Int) hw hp
  obtain ⟨f, a, xs⟩ := d
  simp only [Int.toNat_natCast, exists_const, and_true, true_and, implies_true, decide_eq_true_eq, decide_eq_false_iff_not, Bool.not_eq_true', Bool.not_eq_false', beq_iff_eq, forall_const]
  refine ⟨rfl, fun _ => ?_⟩
  simp only [List.getD_cons_zero]
  rw [polyFd_snd]
  have no : ((polyB f a && decide (xs.length ≤ 40) && specElemsF f xs) = true → False) → [] = evMR f a xs := fun h => by unfold evMR; rw [if_neg h]
  refine ⟨fun h => no (fun hh => ?_), fun h => ⟨fun h1 => no (fun hh => ?_), fun h1 => ?_⟩⟩
  · rw [h] at hh; cases hh
  · simp only [Bool.and_eq_true, decide_eq_true_eq] at hh; omega
  · obtain ⟨hm, he, _, _⟩ := poly_ok h
    rw [polyFd_mod h]
    refine ⟨fun h2 => no (fun hh => ?_), fun h2 => ⟨⟨(mod_is hm).1, he, h2, by omega⟩, fun _ => ?_⟩⟩
    · simp only [Bool.and_eq_true] at hh
      rw [(spec_el hh.2).2] at h2; cases h2
    · unfold evMR
      rw [if_pos (by rw [h, decide_eq_true (show xs.length ≤ 40 by omega), spec_of hm h2]; rfl)]
end Go.SF
