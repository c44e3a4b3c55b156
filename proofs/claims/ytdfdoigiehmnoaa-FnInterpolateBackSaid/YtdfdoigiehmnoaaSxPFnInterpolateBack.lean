/- FnInterpolateBack: what is owed of the law's code. No condition. -/
import Derived.Test.YtdfdoigiehmnoaaSxPWord
import Derived.Test.YtdfdoigiehmnoaaSxPDecC
import Derived.Test.YtdfdoigiehmnoaaSxPDraw
namespace Go.SF
open Go.SX Go
set_option linter.unusedVariables false
set_option linter.unusedSimpArgs false
set_option maxRecDepth 10000
theorem same_self (a : List Int) : sameF a a = true := decide_eq_true rfl
theorem small40 {l : List Int} (h : l.length ≤ 41) : SmallL l := by unfold SmallL; omega
theorem v_FnInterpolateBack :
  ∀ (d : List Int), Ty.wf (Ty.sl (Ty.int IntKind.u8)) d → True → True ∧ (bigF d = true → true = true) ∧ (bigF d = false → True ∧ (Ty.wf i64T (Prod.fst (pairsF d)) ∧ Ty.wf listT (Prod.fst (Prod.snd (pairsF d))) ∧ Ty.wf
  listT (Prod.snd (Prod.snd (pairsF d))) → True ∧ (Ty.wf listT (Prod.fst (interF (Prod.fst (pairsF d)) (Prod.fst (Prod.snd (pairsF d))) (Prod.snd (Prod.snd (pairsF d))))) ∧ Ty.wf Ty.bool (Prod.snd (interF (Prod.fst
  (pairsF d)) (Prod.fst (Prod.snd (pairsF d))) (Prod.snd (Prod.snd (pairsF d))))) → ((!Prod.snd (interF (Prod.fst (pairsF d)) (Prod.fst (Prod.snd (pairsF d))) (Prod.snd (Prod.snd (pairsF d))))) = true → true = true) ∧
  ((!Prod.snd (interF (Prod.fst (pairsF d)) (Prod.fst (Prod.snd (pairsF d))) (Prod.snd (Prod.snd (pairsF d))))) = false → SmallL (Prod.fst (Prod.snd (pairsF d))) ∧ (Ty.wf listT (Prod.fst (Prod.snd (pairsF d))) → SmallL
  (Prod.snd (Prod.snd (pairsF d))) ∧ (Ty.wf listT (Prod.snd (Prod.snd (pairsF d))) → True ∧ (Ty.wf listT (Prod.fst (interF (Prod.fst (pairsF d)) (Prod.fst (Prod.snd (pairsF d))) (Prod.snd (Prod.snd (pairsF d))))) ∧ Ty.wf
  Ty.bool (Prod.snd (interF (Prod.fst (pairsF d)) (Prod.fst (Prod.snd (pairsF d))) (Prod.snd (Prod.snd (pairsF d))))) → ((!Prod.snd (interF (Prod.fst (pairsF d)) (Prod.fst (Prod.snd (pairsF d))) (Prod.snd (Prod.snd
  (pairsF d))))) = true → false = true) ∧ ((!Prod.snd (interF (Prod.fst (pairsF d)) (Prod.fst (Prod.snd (pairsF d))) (Prod.snd (Prod.snd (pairsF d))))) = false → True ∧ ((!sameF (Prod.fst (interF (Prod.fst (pairsF d))
  (Prod.fst (Prod.snd (pairsF d))) (Prod.snd (Prod.snd (pairsF d))))) (Prod.fst (interF (Prod.fst (pairsF d)) (Prod.fst (Prod.snd (pairsF d))) (Prod.snd (Prod.snd (pairsF d)))))) = true → false = true) ∧ ((!sameF
  (Prod.fst (interF (Prod.fst (pairsF d)) (Prod.fst (Prod.snd (pairsF d))) (Prod.snd (Prod.snd (pairsF d))))) (Prod.fst (interF (Prod.fst (pairsF d)) (Prod.fst (Prod.snd (pairsF d))) (Prod.snd (Prod.snd (pairsF d)))))) =
  false → SmallL (Prod.fst (Prod.snd (pairsF d))) ∧ (Ty.wf listT (Prod.fst (Prod.snd (pairsF d))) → True ∧ (Ty.wf listT (evMR (Prod.fst (pairsF d)) (Prod.fst (interF (Prod.fst (pairsF d)) (Prod.fst (Prod.snd (pairsF d)))
  (Prod.snd (Prod.snd (pairsF d))))) (Prod.fst (Prod.snd (pairsF d)))) → True ∧ ((!sameF (evMR (Prod.fst (pairsF d)) (Prod.fst (interF (Prod.fst (pairsF d)) (Prod.fst (Prod.snd (pairsF d))) (Prod.snd (Prod.snd (pairsF
  d))))) (Prod.fst (Prod.snd (pairsF d)))) (Prod.snd (Prod.snd (pairsF d)))) = true → false = true) ∧ ((!sameF (evMR (Prod.fst (pairsF d)) (Prod.fst (interF (Prod.fst (pairsF d)) (Prod.fst (Prod.snd (pairsF d)))
  (Prod.snd (Prod.snd (pairsF d))))) (Prod.fst (Prod.snd (pairsF d)))) (Prod.snd (Prod.snd (pairsF d)))) = false → SmallL (Prod.fst (Prod.snd (pairsF d))) ∧ (Ty.wf listT (Prod.fst (Prod.snd (pairsF d))) → SmallL
  (Prod.fst (interF (Prod.fst (pairsF d)) (Prod.fst (Prod.snd (pairsF d))) (Prod.snd (Prod.snd (pairsF d))))) ∧ (Ty.wf listT (Prod.fst (interF (Prod.fst (pairsF d)) (Prod.fst (Prod.snd (pairsF d))) (Prod.snd (Prod.snd
  (pairsF d))))) → SmallL (Prod.fst (Prod.snd (pairsF d))) ∧ (Ty.wf listT (Prod.fst (Prod.snd (pairsF d))) → True ∧ (Ty.wf listT (evMR (Prod.fst (pairsF d)) (Prod.fst (interF (Prod.fst (pairsF d)) (Prod.fst (Prod.snd
  (pairsF d))) (Prod.snd (Prod.snd (pairsF d))))) (Prod.fst (Prod.snd (pairsF d)))) → True ∧ (Ty.wf listT (Prod.fst (interF (Prod.fst (pairsF d)) (Prod.fst (Prod.snd (pairsF d))) (evMR (Prod.fst (pairsF d)) (Prod.fst
  (interF (Prod.fst (pairsF d)) (Prod.fst (Prod.snd (pairsF d))) (Prod.snd (Prod.snd (pairsF d))))) (Prod.fst (Prod.snd (pairsF d)))))) ∧ Ty.wf Ty.bool (Prod.snd (interF (Prod.fst (pairsF d)) (Prod.fst (Prod.snd (pairsF
  d))) (evMR (Prod.fst (pairsF d)) (Prod.fst (interF (Prod.fst (pairsF d)) (Prod.fst (Prod.snd (pairsF d))) (Prod.snd (Prod.snd (pairsF d))))) (Prod.fst (Prod.snd (pairsF d)))))) → (0 : Tup [i64T]) ≤ (3 : Int) ∧ (Ty.wf
  i64T (codeAt d (3 : Int)) → True ∧ (Ty.wf i64T (modF (Prod.fst (pairsF d))) → modF (Prod.fst (pairsF d)) ≠ (0 : Int) ∧ (Prod.snd (interF (Prod.fst (pairsF d)) (Prod.fst (Prod.snd (pairsF d))) (evMR (Prod.fst (pairsF
  d)) (Prod.fst (interF (Prod.fst (pairsF d)) (Prod.fst (Prod.snd (pairsF d))) (Prod.snd (Prod.snd (pairsF d))))) (Prod.fst (Prod.snd (pairsF d))))) = true → True ∧ (sameF (Prod.fst (interF (Prod.fst (pairsF d))
  (Prod.fst (Prod.snd (pairsF d))) (evMR (Prod.fst (pairsF d)) (Prod.fst (interF (Prod.fst (pairsF d)) (Prod.fst (Prod.snd (pairsF d))) (Prod.snd (Prod.snd (pairsF d))))) (Prod.fst (Prod.snd (pairsF d)))))) (Prod.fst
  (interF (Prod.fst (pairsF d)) (Prod.fst (Prod.snd (pairsF d))) (Prod.snd (Prod.snd (pairsF d))))) = true → SmallL (Prod.fst (Prod.snd (pairsF d))) ∧ SmallL (Prod.snd (Prod.snd (pairsF d))) ∧ True ∧ True ∧ (decide (extF
  (Prod.fst (pairsF d)) (Prod.fst (Prod.snd (pairsF d))) (Prod.snd (Prod.snd (pairsF d))) (Int.tmod (codeAt d (3 : Int)) (modF (Prod.fst (pairsF d)))) = evS (Prod.fst (pairsF d)) (Prod.fst (interF (Prod.fst (pairsF d))
  (Prod.fst (Prod.snd (pairsF d))) (Prod.snd (Prod.snd (pairsF d))))) (Int.tmod (codeAt d (3 : Int)) (modF (Prod.fst (pairsF d))))) = true → SmallL (Prod.fst (Prod.snd (pairsF d))) ∧ True ∧ ((0 : Int) ≤ (0 : Int) ∧ (0 :
  Int) < (↑(List.length (Prod.fst (Prod.snd (pairsF d)))) : Int)) ∧ True ∧ (Ty.wf i64T (evPR (Prod.fst (pairsF d)) (vanR (Prod.fst (pairsF d)) (Prod.fst (Prod.snd (pairsF d)))) (List.getD (Prod.fst (Prod.snd (pairsF d)))
  (Int.toNat (0 : Int)) (0 : Int))) → Ty.wf listT (vanR (Prod.fst (pairsF d)) (Prod.fst (Prod.snd (pairsF d)))) → Ty.wf listT (Prod.fst (Prod.snd (pairsF d))) → Ty.wf i64T (evS (Prod.fst (pairsF d)) (Prod.fst (interF
  (Prod.fst (pairsF d)) (Prod.fst (Prod.snd (pairsF d))) (Prod.snd (Prod.snd (pairsF d))))) (Int.tmod (codeAt d (3 : Int)) (modF (Prod.fst (pairsF d))))) → Ty.wf i64T (extF (Prod.fst (pairsF d)) (Prod.fst (Prod.snd
  (pairsF d))) (Prod.snd (Prod.snd (pairsF d))) (Int.tmod (codeAt d (3 : Int)) (modF (Prod.fst (pairsF d))))) → Ty.wf listT (Prod.snd (Prod.snd (pairsF d))) → Ty.wf listT (Prod.fst (Prod.snd (pairsF d))) → decide (evPR
  (Prod.fst (pairsF d)) (vanR (Prod.fst (pairsF d)) (Prod.fst (Prod.snd (pairsF d)))) (List.getD (Prod.fst (Prod.snd (pairsF d))) (Int.toNat (0 : Int)) (0 : Int)) = (0 : Int)) = true)) ∧ (decide (extF (Prod.fst (pairsF
  d)) (Prod.fst (Prod.snd (pairsF d))) (Prod.snd (Prod.snd (pairsF d))) (Int.tmod (codeAt d (3 : Int)) (modF (Prod.fst (pairsF d)))) = evS (Prod.fst (pairsF d)) (Prod.fst (interF (Prod.fst (pairsF d)) (Prod.fst (Prod.snd
  (pairsF d))) (Prod.snd (Prod.snd (pairsF d))))) (Int.tmod (codeAt d (3 : Int)) (modF (Prod.fst (pairsF d))))) = false → Ty.wf i64T (evS (Prod.fst (pairsF d)) (Prod.fst (interF (Prod.fst (pairsF d)) (Prod.fst (Prod.snd
  (pairsF d))) (Prod.snd (Prod.snd (pairsF d))))) (Int.tmod (codeAt d (3 : Int)) (modF (Prod.fst (pairsF d))))) → Ty.wf i64T (extF (Prod.fst (pairsF d)) (Prod.fst (Prod.snd (pairsF d))) (Prod.snd (Prod.snd (pairsF d)))
  (Int.tmod (codeAt d (3 : Int)) (modF (Prod.fst (pairsF d))))) → Ty.wf listT (Prod.snd (Prod.snd (pairsF d))) → Ty.wf listT (Prod.fst (Prod.snd (pairsF d))) → false = true)) ∧ (sameF (Prod.fst (interF (Prod.fst (pairsF
  d)) (Prod.fst (Prod.snd (pairsF d))) (evMR (Prod.fst (pairsF d)) (Prod.fst (interF (Prod.fst (pairsF d)) (Prod.fst (Prod.snd (pairsF d))) (Prod.snd (Prod.snd (pairsF d))))) (Prod.fst (Prod.snd (pairsF d)))))) (Prod.fst
  (interF (Prod.fst (pairsF d)) (Prod.fst (Prod.snd (pairsF d))) (Prod.snd (Prod.snd (pairsF d))))) = false → false = true)) ∧ (Prod.snd (interF (Prod.fst (pairsF d)) (Prod.fst (Prod.snd (pairsF d))) (evMR (Prod.fst
  (pairsF d)) (Prod.fst (interF (Prod.fst (pairsF d)) (Prod.fst (Prod.snd (pairsF d))) (Prod.snd (Prod.snd (pairsF d))))) (Prod.fst (Prod.snd (pairsF d))))) = false → false = true)))))))))))))))))))) := by
  intro d hd _
  generalize pairsF d = P
  obtain ⟨f, xs, ys⟩ := P
  dsimp only
  refine ⟨trivial, fun _ => rfl, fun hb => ⟨trivial, fun _ => ⟨trivial, fun _ => ⟨fun _ => rfl, fun hf => ?_⟩⟩⟩⟩
  obtain ⟨hp, hl, hs, hI⟩ := inter_inv (show (interF f xs ys).2 = true by simpa using hf)
  obtain ⟨hm, h1, h2, he, hn⟩ := pt_ok hp
  have hpr := mod_pr hm
  have hi := hpr.mod
  obtain ⟨t1, t2, t3⟩ : elemsF (modF f) (thrF (modF f) xs ys) = true ∧ (thrF (modF f) xs ys).length ≤ 41 ∧ topB (thrF (modF f) xs ys) = true := thr_ok hi ys h2 xs.length
  have hpoly : polyB f (thrF (modF f) xs ys) = true := poly_of hm t1 (by omega) t3
  have hE : evMR f (thrF (modF f) xs ys) xs = ys := by
    unfold evMR
    rw [if_pos (by rw [hpoly, decide_eq_true h2, spec_of hm he]; rfl)]
    refine list_ext (by rw [evM_len, hl]) (fun t ht => ?_)
    rw [evM_len] at ht
    unfold evM
    rw [mr_get, if_pos ht]
    exact thr_at hpr he hn (spec_el hs).2 hl ht
  have sx : SmallL xs := small40 (by omega)
  have sy : SmallL ys := small40 (by omega)
  have st : SmallL (thrF (modF f) xs ys) := small40 t2
  simp only [hI, hE, same_self, sx, sy, st, Bool.not_true, Bool.false_eq_true, false_implies, true_implies, implies_true, true_and, and_true]
  have hlen : d.length ≤ 1048576 := by unfold bigF at hb; rw [decide_eq_false_iff_not] at hb; omega
  have hx := at_range hd hlen (i := 3) (by omega) (by omega)
  have hX : 0 ≤ (codeAt d 3).tmod (modF f) ∧ (codeAt d 3).tmod (modF f) < modF f := by
    unfold IsMod at hi
    rw [Int.tmod_eq_emod_of_nonneg hx.1]
    exact ⟨Int.emod_nonneg _ (by omega), Int.emod_lt_of_pos _ (by omega)⟩
  have e1 : extF f xs ys ((codeAt d 3).tmod (modF f)) = evS f (thrF (modF f) xs ys) ((codeAt d 3).tmod (modF f)) := by
    unfold extF evS
    rw [if_pos (by rw [hI, decide_eq_true hX]; rfl), if_pos hpoly]
  obtain ⟨v1, v2, v3⟩ := vanF_ok hi xs
  have hvp : polyB f (vanF (modF f) xs) = true := poly_of hm v2 (by omega) v3
  have e2 : evPR f (vanR f xs) (xs.getD (Int.toNat 0) 0) = 0 := by
    unfold evPR vanR
    rw [if_pos hp, if_pos hvp]
    have h0 : El (modF f) (xs.getD 0 0) := el_at he (by omega)
    show evP (modF f) (vanF (modF f) xs) (xs.getD 0 0 % modF f) = 0
    rw [el_self h0, evP_V]
    unfold vanF
    rw [V_van hi xs (xs.getD 0 0) xs.length, prd_zero (j := 0) rfl xs.length (by omega), Int.zero_emod]
  intro _ _ _ _ _ _ _ _ _ _
  refine ⟨by show (0 : Int) ≤ 3; decide, fun _ _ => ⟨hm, ⟨⟨fun _ => ⟨⟨by omega, by omega⟩, fun _ _ _ _ _ _ _ => decide_eq_true e2⟩, fun h => ?_⟩, fun h => (by cases h)⟩, fun h => (by cases h)⟩⟩
  rw [decide_eq_true e1] at h; cases h
end Go.SF
