/- What the laws of codes call keeps its contracts. No condition. -/
import Derived.Test.YtobmiihdfklmaaaGreatSxC
import Derived.Test.YtobmiihdfklmaaaGreatSxPDec
import Derived.Test.YtobmiihdfklmaaaGreatSxPCode
namespace Go.SF
open Go.SX Go
set_option linter.unusedVariables false
set_option linter.unusedSimpArgs false
set_option maxRecDepth 10000
theorem polyFd_no {f : Int} {a : List Int} (h : polyB f a = true → False) : ((0, 0, 0), false) = polyFd f a := by
  unfold polyFd; rw [if_neg h]
theorem polyFd_snd {f : Int} {a : List Int} : (polyFd f a).2 = polyB f a := by
  unfold polyFd; split
  · rename_i h; exact h.symm
  · rename_i h; exact (Bool.eq_false_iff.2 h).symm
theorem polyFd_mod {f : Int} {a : List Int} (h : polyB f a = true) : (polyFd f a).1.1 = modF f := by unfold polyFd; rw [if_pos h]; rfl
theorem v_I_polyField :
 ∀ (d : Int × List (List Int)), Ty.wf i64T d.1 ∧ Ty.wf (Ty.sl listT) d.2 → d.2.length = (1 : Nat) → True ∧ (Ty.wf fldT (Prod.fst (fieldF d.1)) ∧ Ty.wf Ty.bool (Prod.snd (fieldF d.1)) → ((!Prod.snd (fieldF d.1)) = true →
 (((0 : Int), (0 : Int), (0 : Int)), false) = polyFd d.1 (d.2.getD (0 : Nat) [])) ∧ ((!Prod.snd (fieldF d.1)) = false → ((0 : Nat) ≤ (1 : Nat) ∧ ((0 : Nat) = (1 : Nat) → polyB d.1 (d.2.getD (0 : Nat) []) = true)) ∧ ((d.1
 = d.1 ∧ d.2 = d.2 ∧ Prod.snd (fieldF d.1) = Prod.snd (fieldF d.1) ∧ d.2 = d.2 ∧ (↑d.2.length : Int) = (↑d.2.length : Int) ∧ (0 : Int) = (↑(0 : Nat) : Int)) ∧ ((0 : Int) = (0 : Int) ∧ (0 : Int) = (0 : Int) ∧ (0 : Int) =
 (0 : Int)) ∧ Prod.fst (Prod.fst (fieldF d.1)) = Prod.fst (Prod.fst (fieldF d.1)) ∧ Prod.fst (Prod.snd (Prod.fst (fieldF d.1))) = Prod.fst (Prod.snd (Prod.fst (fieldF d.1))) ∧ Prod.snd (Prod.snd (Prod.fst (fieldF d.1)))
 = Prod.snd (Prod.snd (Prod.fst (fieldF d.1)))) ∧ ∀ (x : Nat), x ≤ (1 : Nat) ∧ (x = (1 : Nat) → polyB d.1 (d.2.getD (0 : Nat) []) = true) → (decide ((↑x : Int) < (↑d.2.length : Int)) = true → ((0 : Int) ≤ (↑x : Int) ∧
 (↑x : Int) < (↑d.2.length : Int)) ∧ (decide ((400 : Int) < (↑(List.length (d.2.getD (Int.toNat (↑x : Int)) [])) : Int)) = true → (((0 : Int), (0 : Int), (0 : Int)), false) = polyFd d.1 (d.2.getD (0 : Nat) [])) ∧ (decide
 ((400 : Int) < (↑(List.length (d.2.getD (Int.toNat (↑x : Int)) [])) : Int)) = false → True ∧ ((!elemsF (Prod.fst (Prod.fst (fieldF d.1))) (d.2.getD (Int.toNat (↑x : Int)) [])) = true → (((0 : Int), (0 : Int), (0 :
 Int)), false) = polyFd d.1 (d.2.getD (0 : Nat) [])) ∧ ((!elemsF (Prod.fst (Prod.fst (fieldF d.1))) (d.2.getD (Int.toNat (↑x : Int)) [])) = false → (decide ((0 : Int) < (↑(List.length (d.2.getD (Int.toNat (↑x : Int))
 [])) : Int)) = true → ((0 : Int) ≤ IntKind.wrap IntKind.i64 ((↑(List.length (d.2.getD (Int.toNat (↑x : Int)) [])) : Int) - (1 : Int)) ∧ IntKind.wrap IntKind.i64 ((↑(List.length (d.2.getD (Int.toNat (↑x : Int)) [])) :
 Int) - (1 : Int)) < (↑(List.length (d.2.getD (Int.toNat (↑x : Int)) [])) : Int)) ∧ (decide (List.getD (d.2.getD (Int.toNat (↑x : Int)) []) (Int.toNat (IntKind.wrap IntKind.i64 ((↑(List.length (d.2.getD (Int.toNat (↑x :
 Int)) [])) : Int) - (1 : Int)))) (0 : Int) = (0 : Int)) = true → (((0 : Int), (0 : Int), (0 : Int)), false) = polyFd d.1 (d.2.getD (0 : Nat) [])) ∧ (decide (List.getD (d.2.getD (Int.toNat (↑x : Int)) []) (Int.toNat
 (IntKind.wrap IntKind.i64 ((↑(List.length (d.2.getD (Int.toNat (↑x : Int)) [])) : Int) - (1 : Int)))) (0 : Int) = (0 : Int)) = false → ∃ (x' : Nat), (x' ≤ (1 : Nat) ∧ (x' = (1 : Nat) → polyB d.1 (d.2.getD (0 : Nat) [])
 = true)) ∧ (1 : Nat) - x' < (1 : Nat) - x ∧ (d.1 = d.1 ∧ d.2 = d.2 ∧ Prod.snd (fieldF d.1) = Prod.snd (fieldF d.1) ∧ d.2 = d.2 ∧ (↑d.2.length : Int) = (↑d.2.length : Int) ∧ IntKind.wrap IntKind.i64 ((↑x : Int) + (1 :
 Int)) = (↑x' : Int)) ∧ ((0 : Int) = (0 : Int) ∧ (0 : Int) = (0 : Int) ∧ (0 : Int) = (0 : Int)) ∧ Prod.fst (Prod.fst (fieldF d.1)) = Prod.fst (Prod.fst (fieldF d.1)) ∧ Prod.fst (Prod.snd (Prod.fst (fieldF d.1))) =
 Prod.fst (Prod.snd (Prod.fst (fieldF d.1))) ∧ Prod.snd (Prod.snd (Prod.fst (fieldF d.1))) = Prod.snd (Prod.snd (Prod.fst (fieldF d.1))))) ∧ (decide ((0 : Int) < (↑(List.length (d.2.getD (Int.toNat (↑x : Int)) [])) :
 Int)) = false → ∃ (x' : Nat), (x' ≤ (1 : Nat) ∧ (x' = (1 : Nat) → polyB d.1 (d.2.getD (0 : Nat) []) = true)) ∧ (1 : Nat) - x' < (1 : Nat) - x ∧ (d.1 = d.1 ∧ d.2 = d.2 ∧ Prod.snd (fieldF d.1) = Prod.snd (fieldF d.1) ∧
 d.2 = d.2 ∧ (↑d.2.length : Int) = (↑d.2.length : Int) ∧ IntKind.wrap IntKind.i64 ((↑x : Int) + (1 : Int)) = (↑x' : Int)) ∧ ((0 : Int) = (0 : Int) ∧ (0 : Int) = (0 : Int) ∧ (0 : Int) = (0 : Int)) ∧ Prod.fst (Prod.fst
 (fieldF d.1)) = Prod.fst (Prod.fst (fieldF d.1)) ∧ Prod.fst (Prod.snd (Prod.fst (fieldF d.1))) = Prod.fst (Prod.snd (Prod.fst (fieldF d.1))) ∧ Prod.snd (Prod.snd (Prod.fst (fieldF d.1))) = Prod.snd (Prod.snd (Prod.fst
 (fieldF d.1))))))) ∧ (decide ((↑x : Int) < (↑d.2.length : Int)) = false → (Prod.fst (fieldF d.1), true) = polyFd d.1 (d.2.getD (0 : Nat) [])))) := by
  intro (d : Int × List (List Int)) hw hp
  obtain ⟨f, vs⟩ := d
  replace hp : vs.length = 1 := hp
  obtain ⟨v, rfl⟩ : ∃ v, vs = [v] := by
    match vs, hp with
    | [v], _ => exact ⟨v, rfl⟩
  have hl : v.length ≤ 9223372036854775807 := (hw.2.2 v (List.mem_cons_self ..)).1
  simp only [Int.toNat_natCast, exists_const, and_true, true_and, implies_true, decide_eq_true_eq, decide_eq_false_iff_not, Bool.not_eq_true', Bool.not_eq_false', beq_iff_eq, forall_const]
  intro _
  simp only [List.getD_cons_zero]
  refine ⟨fun h => polyFd_no (fun hh => ?_), fun h => ?_⟩
  · have hn : ¬ (0 ≤ f ∧ f < 9) := fun hh => by rw [field_ok.2 hh] at h; cases h
    exact (poly_ok hh).1 (mod_none hn)
  · have hf := field_ok.1 h
    have hb := mod_pos hf
    have hm0 : modF f ≠ 0 := by omega
    refine ⟨⟨by omega, fun h => by omega⟩, rfl, fun x hx => ⟨fun hlt => ?_, fun hge => ?_⟩⟩
    · have hx0 : x = 0 := by simp at hlt; omega
      subst hx0
      simp only [List.getD_cons_zero, List.length_cons, List.length_nil, Int.toNat_zero] at *
      refine ⟨⟨by omega, by omega⟩, fun h3 => polyFd_no (fun hh => ?_), fun h3 => ⟨fun h4 => polyFd_no (fun hh => ?_), fun h4 => ⟨fun h5 => ?_, fun h5 => ⟨1, ⟨by omega, fun _ => ?_⟩, by omega, rfl⟩⟩⟩⟩
      · have := (poly_ok hh).2.2.1; omega
      · have := (poly_ok hh).2.1
        rw [show elemsF (modF f) v = false from h4] at this; cases this
      · have e1 : IntKind.wrap IntKind.i64 ((v.length : Int) - 1) = ((v.length - 1 : Nat) : Int) := by rw [wrap_small (by omega)]; omega
        rw [e1]
        refine ⟨⟨by omega, by omega⟩, fun h6 => polyFd_no (fun hh => ?_), fun h6 => ⟨1, ⟨by omega, fun _ => ?_⟩, by omega, rfl⟩⟩
        · rcases (top_iff v).1 (poly_ok hh).2.2.2 with h7 | h7
          · omega
          · exact h7 h6
        · exact poly_of hm0 h4 (by omega) ((top_iff v).2 (.inr h6))
      · exact poly_of hm0 h4 (by omega) ((top_iff v).2 (.inl (by omega)))
    · have hx1 : x = 1 := by simp at hge; omega
      have := hx.2 hx1
      unfold polyFd
      rw [if_pos this]
theorem v_I_EvalMany :
 ∀ (d : Int × List Int × List Int), Ty.wf i64T d.1 ∧ Ty.wf listT d.2.1 ∧ Ty.wf listT d.2.2 → True → List.length [d.2.1] = (1 : Nat) ∧ (Ty.wf fldT (Prod.fst (polyFd d.1 (List.getD [d.2.1] (0 : Nat) []))) ∧ Ty.wf Ty.bool
 (Prod.snd (polyFd d.1 (List.getD [d.2.1] (0 : Nat) []))) → ((!Prod.snd (polyFd d.1 (List.getD [d.2.1] (0 : Nat) []))) = true → [] = evMR d.1 d.2.1 d.2.2) ∧ ((!Prod.snd (polyFd d.1 (List.getD [d.2.1] (0 : Nat) []))) =
 false → (decide ((40 : Int) < (↑d.2.2.length : Int)) = true → [] = evMR d.1 d.2.1 d.2.2) ∧ (decide ((40 : Int) < (↑d.2.2.length : Int)) = false → True ∧ ((!elemsF (Prod.fst (Prod.fst (polyFd d.1 (List.getD [d.2.1] (0 :
 Nat) [])))) d.2.2) = true → [] = evMR d.1 d.2.1 d.2.2) ∧ ((!elemsF (Prod.fst (Prod.fst (polyFd d.1 (List.getD [d.2.1] (0 : Nat) [])))) d.2.2) = false → (IsMod (Prod.fst (Prod.fst (polyFd d.1 (List.getD [d.2.1] (0 : Nat)
 [])))) ∧ elemsF (Prod.fst (Prod.fst (polyFd d.1 (List.getD [d.2.1] (0 : Nat) [])))) d.2.1 = true ∧ elemsF (Prod.fst (Prod.fst (polyFd d.1 (List.getD [d.2.1] (0 : Nat) [])))) d.2.2 = true ∧ d.2.2.length ≤ (1000 : Nat)) ∧
 (Ty.wf listT (evM (Prod.fst (Prod.fst (polyFd d.1 (List.getD [d.2.1] (0 : Nat) [])))) d.2.1 d.2.2 d.2.2.length) → evM (Prod.fst (Prod.fst (polyFd d.1 (List.getD [d.2.1] (0 : Nat) [])))) d.2.1 d.2.2 d.2.2.length = evMR
 d.1 d.2.1 d.2.2))))) := by
  intro (d : Int × List Int × List Int) hw hp
  obtain ⟨f, a, xs⟩ := d
  simp only [Int.toNat_natCast, exists_const, and_true, true_and, implies_true, decide_eq_true_eq, decide_eq_false_iff_not, Bool.not_eq_true', Bool.not_eq_false', beq_iff_eq, forall_const]
  refine ⟨rfl, fun _ => ?_⟩
  simp only [List.getD_cons_zero]
  rw [polyFd_snd]
  have no : ((polyB f a && decide (xs.length ≤ 40) && specElemsF f xs) = true → False) → [] = evMR f a xs := fun h => by unfold evMR; rw [if_neg h]
  refine ⟨fun h => no (fun hh => ?_), fun h => ⟨fun h1 => no (fun hh => ?_), fun h1 => ?_⟩⟩
  · rw [h] at hh; cases hh
  · simp only [Bool.and_eq_true, decide_eq_true_eq] at hh; omega
  · obtain ⟨hm, he, _, _⟩ := poly_ok h
    rw [polyFd_mod h]
    refine ⟨fun h2 => no (fun hh => ?_), fun h2 => ⟨⟨(mod_is hm).1, he, h2, by omega⟩, fun _ => ?_⟩⟩
    · simp only [Bool.and_eq_true] at hh
      rw [(spec_el hh.2).2] at h2; cases h2
    · unfold evMR
      rw [if_pos (by rw [h, decide_eq_true (show xs.length ≤ 40 by omega), spec_of hm h2]; rfl)]
end Go.SF
