/- FnWeights: what is owed of the law's code. No condition. -/
import Derived.Test.YtdfdoigiehmnoaaSxPWord
import Derived.Test.YtdfdoigiehmnoaaSxPDecC
import Derived.Test.YtdfdoigiehmnoaaSxPDraw
namespace Go.SF
open Go.SX Go
set_option linter.unusedVariables false
set_option linter.unusedSimpArgs false
set_option maxRecDepth 10000
theorem small41 {l : List Int} (h : l.length ≤ 41) : SmallL l := by unfold SmallL; omega
theorem wSum_step {p : Int} (hp : IsPr p) {y w q u W P O : Int} (hq : (u - q) % p ≠ 0) (hP : P = O * (u - q)) :
    (W + (y * w % p * invM p (u - q)) % p) % p * P % p = (W * P + y * w * O) % p := by
  have h1 := inv_mul hp hq
  rw [mul_mod_l, Int.add_mul]
  refine cg_add rfl ?_
  rw [mul_mod_l, hP]
  have e : y * w % p * invM p (u - q) * (O * (u - q)) = invM p (u - q) * (u - q) * (y * w % p * O) := by grind
  rw [e, ← mul_mod_l, h1, Int.one_mul, mul_mod_l]
theorem wSum_thS {f : Int} (hm : modF f ≠ 0) {xs ys : List Int} {X : Int} (he : elemsF (modF f) xs = true) (hX : El (modF f) X) : ∀ n, n ≤ xs.length → (∀ j, j < n → xs.getD j 0 ≠ X) →
    wSum f xs ys (wtsL (modF f) xs xs.length) X n * prd xs X xs.length % modF f = thS (modF f) xs ys X n % modF f
  | 0, _, _ => by show 0 * _ % _ = 0 % _; rw [Int.zero_mul]
  | n + 1, hn, hj => by
    have hpr := mod_pr hm
    have hi := hpr.mod
    have ih := wSum_thS (ys := ys) hm he hX n (by omega) (fun j h => hj j (by omega))
    have hq : El (modF f) (xs.getD n 0) := el_at he (by omega)
    have hne := el_ne hX hq (fun e => hj n (by omega) e.symm)
    have hw : w64 (X - xs.getD n 0) = X - xs.getD n 0 := by unfold El at hX hq; unfold IsMod at hi; exact wrap_small (by omega)
    have hwt : (wtsL (modF f) xs xs.length).getD n 0 = wtF (modF f) xs n := by unfold wtsL; rw [mr_get, if_pos (by omega)]
    show addS f (wSum f xs ys (wtsL (modF f) xs xs.length) X n) (mulS f (mulS f (ys.getD n 0) ((wtsL (modF f) xs xs.length).getD n 0)) (powS f (w64 (X - xs.getD n 0)) (-1))) * _ % _ = (thS (modF f) xs ys X n + ys.getD n 0 * wtF (modF f) xs n * prO xs n X xs.length) % _
    rw [addS_at hm, mulS_at hm, mulS_at hm, powS_at hm, hw, powP_neg hi hne, hwt]
    have hP : prd xs X xs.length = prO xs n X xs.length * (X - xs.getD n 0) := by rw [prO_mul xs n X xs.length, if_pos (by omega)]
    unfold addM mulM
    rw [wSum_step hpr hne hP]
    exact cg_add ih rfl
theorem v_FnWeights :
  ∀ (d : List Int), Ty.wf (Ty.sl (Ty.int IntKind.u8)) d → True → True ∧ (bigF d = true → true = true) ∧ (bigF d = false → True ∧ (Ty.wf i64T (Prod.fst (pairsF d)) ∧ Ty.wf listT (Prod.fst (Prod.snd (pairsF d))) ∧ Ty.wf
  listT (Prod.snd (Prod.snd (pairsF d))) → True ∧ (Ty.wf listT (Prod.fst (interF (Prod.fst (pairsF d)) (Prod.fst (Prod.snd (pairsF d))) (Prod.snd (Prod.snd (pairsF d))))) ∧ Ty.wf Ty.bool (Prod.snd (interF (Prod.fst
  (pairsF d)) (Prod.fst (Prod.snd (pairsF d))) (Prod.snd (Prod.snd (pairsF d))))) → ((!Prod.snd (interF (Prod.fst (pairsF d)) (Prod.fst (Prod.snd (pairsF d))) (Prod.snd (Prod.snd (pairsF d))))) = true → true = true) ∧
  ((!Prod.snd (interF (Prod.fst (pairsF d)) (Prod.fst (Prod.snd (pairsF d))) (Prod.snd (Prod.snd (pairsF d))))) = false → (0 : Tup [i64T]) ≤ (4 : Int) ∧ (Ty.wf i64T (codeAt d (4 : Int)) → True ∧ (Ty.wf i64T (modF
  (Prod.fst (pairsF d))) → modF (Prod.fst (pairsF d)) ≠ (0 : Int) ∧ SmallL (Prod.fst (Prod.snd (pairsF d))) ∧ (Ty.wf listT (Prod.fst (Prod.snd (pairsF d))) → True ∧ (Ty.wf listT (weightsF (Prod.fst (pairsF d)) (Prod.fst
  (Prod.snd (pairsF d)))) → ((!decide ((↑(List.length (weightsF (Prod.fst (pairsF d)) (Prod.fst (Prod.snd (pairsF d))))) : Int) = (↑(List.length (Prod.fst (Prod.snd (pairsF d)))) : Int))) = true → false = true) ∧
  ((!decide ((↑(List.length (weightsF (Prod.fst (pairsF d)) (Prod.fst (Prod.snd (pairsF d))))) : Int) = (↑(List.length (Prod.fst (Prod.snd (pairsF d)))) : Int))) = false → ((0 : Nat) ≤ List.length (Prod.fst (Prod.snd
  (pairsF d))) ∧ ∀ (j : Nat), j < (0 : Nat) → List.getD (Prod.fst (Prod.snd (pairsF d))) j (0 : Int) ≠ lwX d) ∧ ((d = d ∧ Prod.fst (pairsF d) = Prod.fst (pairsF d) ∧ Prod.snd (interF (Prod.fst (pairsF d)) (Prod.fst
  (Prod.snd (pairsF d))) (Prod.snd (Prod.snd (pairsF d)))) = Prod.snd (interF (Prod.fst (pairsF d)) (Prod.fst (Prod.snd (pairsF d))) (Prod.snd (Prod.snd (pairsF d)))) ∧ Int.tmod (codeAt d (4 : Int)) (modF (Prod.fst
  (pairsF d))) = Int.tmod (codeAt d (4 : Int)) (modF (Prod.fst (pairsF d))) ∧ (0 : Int) = wSum (Prod.fst (pairsF d)) (Prod.fst (Prod.snd (pairsF d))) (Prod.snd (Prod.snd (pairsF d))) (weightsF (Prod.fst (pairsF d))
  (Prod.fst (Prod.snd (pairsF d)))) (lwX d) (0 : Nat) ∧ (0 : Int) = (↑(0 : Nat) : Int)) ∧ Prod.fst (Prod.snd (pairsF d)) = Prod.fst (Prod.snd (pairsF d)) ∧ Prod.snd (Prod.snd (pairsF d)) = Prod.snd (Prod.snd (pairsF d))
  ∧ Prod.fst (interF (Prod.fst (pairsF d)) (Prod.fst (Prod.snd (pairsF d))) (Prod.snd (Prod.snd (pairsF d)))) = Prod.fst (interF (Prod.fst (pairsF d)) (Prod.fst (Prod.snd (pairsF d))) (Prod.snd (Prod.snd (pairsF d)))) ∧
  Prod.fst (Prod.snd (pairsF d)) = Prod.fst (Prod.snd (pairsF d)) ∧ weightsF (Prod.fst (pairsF d)) (Prod.fst (Prod.snd (pairsF d))) = weightsF (Prod.fst (pairsF d)) (Prod.fst (Prod.snd (pairsF d)))) ∧ ∀ (x : Nat), (x ≤
  List.length (Prod.fst (Prod.snd (pairsF d))) ∧ ∀ (j : Nat), j < x → List.getD (Prod.fst (Prod.snd (pairsF d))) j (0 : Int) ≠ lwX d) → (decide ((↑x : Int) < (↑(List.length (Prod.fst (Prod.snd (pairsF d)))) : Int)) =
  true → ((0 : Int) ≤ (↑x : Int) ∧ (↑x : Int) < (↑(List.length (Prod.fst (Prod.snd (pairsF d)))) : Int)) ∧ (decide (List.getD (Prod.fst (Prod.snd (pairsF d))) (Int.toNat (↑x : Int)) (0 : Int) = Int.tmod (codeAt d (4 :
  Int)) (modF (Prod.fst (pairsF d)))) = true → true = true) ∧ (decide (List.getD (Prod.fst (Prod.snd (pairsF d))) (Int.toNat (↑x : Int)) (0 : Int) = Int.tmod (codeAt d (4 : Int)) (modF (Prod.fst (pairsF d)))) = false →
  ((0 : Int) ≤ (↑x : Int) ∧ (↑x : Int) < (↑(List.length (Prod.snd (Prod.snd (pairsF d)))) : Int)) ∧ ((0 : Int) ≤ (↑x : Int) ∧ (↑x : Int) < (↑(List.length (weightsF (Prod.fst (pairsF d)) (Prod.fst (Prod.snd (pairsF d)))))
  : Int)) ∧ True ∧ ((0 : Int) ≤ (↑x : Int) ∧ (↑x : Int) < (↑(List.length (Prod.fst (Prod.snd (pairsF d)))) : Int)) ∧ True ∧ True ∧ True ∧ (Ty.wf i64T (addS (Prod.fst (pairsF d)) (wSum (Prod.fst (pairsF d)) (Prod.fst
  (Prod.snd (pairsF d))) (Prod.snd (Prod.snd (pairsF d))) (weightsF (Prod.fst (pairsF d)) (Prod.fst (Prod.snd (pairsF d)))) (lwX d) x) (mulS (Prod.fst (pairsF d)) (mulS (Prod.fst (pairsF d)) (List.getD (Prod.snd
  (Prod.snd (pairsF d))) (Int.toNat (↑x : Int)) (0 : Int)) (List.getD (weightsF (Prod.fst (pairsF d)) (Prod.fst (Prod.snd (pairsF d)))) (Int.toNat (↑x : Int)) (0 : Int))) (powS (Prod.fst (pairsF d)) (IntKind.wrap
  IntKind.i64 (Int.tmod (codeAt d (4 : Int)) (modF (Prod.fst (pairsF d))) - List.getD (Prod.fst (Prod.snd (pairsF d))) (Int.toNat (↑x : Int)) (0 : Int))) (-1 : Int)))) → Ty.wf i64T (mulS (Prod.fst (pairsF d)) (mulS
  (Prod.fst (pairsF d)) (List.getD (Prod.snd (Prod.snd (pairsF d))) (Int.toNat (↑x : Int)) (0 : Int)) (List.getD (weightsF (Prod.fst (pairsF d)) (Prod.fst (Prod.snd (pairsF d)))) (Int.toNat (↑x : Int)) (0 : Int))) (powS
  (Prod.fst (pairsF d)) (IntKind.wrap IntKind.i64 (Int.tmod (codeAt d (4 : Int)) (modF (Prod.fst (pairsF d))) - List.getD (Prod.fst (Prod.snd (pairsF d))) (Int.toNat (↑x : Int)) (0 : Int))) (-1 : Int))) → Ty.wf i64T
  (powS (Prod.fst (pairsF d)) (IntKind.wrap IntKind.i64 (Int.tmod (codeAt d (4 : Int)) (modF (Prod.fst (pairsF d))) - List.getD (Prod.fst (Prod.snd (pairsF d))) (Int.toNat (↑x : Int)) (0 : Int))) (-1 : Int)) → Ty.wf i64T
  (mulS (Prod.fst (pairsF d)) (List.getD (Prod.snd (Prod.snd (pairsF d))) (Int.toNat (↑x : Int)) (0 : Int)) (List.getD (weightsF (Prod.fst (pairsF d)) (Prod.fst (Prod.snd (pairsF d)))) (Int.toNat (↑x : Int)) (0 : Int)))
  → ∃ (x' : Nat), (x' ≤ List.length (Prod.fst (Prod.snd (pairsF d))) ∧ ∀ (j : Nat), j < x' → List.getD (Prod.fst (Prod.snd (pairsF d))) j (0 : Int) ≠ lwX d) ∧ List.length (Prod.fst (Prod.snd (pairsF d))) - x' <
  List.length (Prod.fst (Prod.snd (pairsF d))) - x ∧ (d = d ∧ Prod.fst (pairsF d) = Prod.fst (pairsF d) ∧ Prod.snd (interF (Prod.fst (pairsF d)) (Prod.fst (Prod.snd (pairsF d))) (Prod.snd (Prod.snd (pairsF d)))) =
  Prod.snd (interF (Prod.fst (pairsF d)) (Prod.fst (Prod.snd (pairsF d))) (Prod.snd (Prod.snd (pairsF d)))) ∧ Int.tmod (codeAt d (4 : Int)) (modF (Prod.fst (pairsF d))) = Int.tmod (codeAt d (4 : Int)) (modF (Prod.fst
  (pairsF d))) ∧ addS (Prod.fst (pairsF d)) (wSum (Prod.fst (pairsF d)) (Prod.fst (Prod.snd (pairsF d))) (Prod.snd (Prod.snd (pairsF d))) (weightsF (Prod.fst (pairsF d)) (Prod.fst (Prod.snd (pairsF d)))) (lwX d) x) (mulS
  (Prod.fst (pairsF d)) (mulS (Prod.fst (pairsF d)) (List.getD (Prod.snd (Prod.snd (pairsF d))) (Int.toNat (↑x : Int)) (0 : Int)) (List.getD (weightsF (Prod.fst (pairsF d)) (Prod.fst (Prod.snd (pairsF d)))) (Int.toNat
  (↑x : Int)) (0 : Int))) (powS (Prod.fst (pairsF d)) (IntKind.wrap IntKind.i64 (Int.tmod (codeAt d (4 : Int)) (modF (Prod.fst (pairsF d))) - List.getD (Prod.fst (Prod.snd (pairsF d))) (Int.toNat (↑x : Int)) (0 : Int)))
  (-1 : Int))) = wSum (Prod.fst (pairsF d)) (Prod.fst (Prod.snd (pairsF d))) (Prod.snd (Prod.snd (pairsF d))) (weightsF (Prod.fst (pairsF d)) (Prod.fst (Prod.snd (pairsF d)))) (lwX d) x' ∧ IntKind.wrap IntKind.i64 ((↑x :
  Int) + (1 : Int)) = (↑x' : Int)) ∧ Prod.fst (Prod.snd (pairsF d)) = Prod.fst (Prod.snd (pairsF d)) ∧ Prod.snd (Prod.snd (pairsF d)) = Prod.snd (Prod.snd (pairsF d)) ∧ Prod.fst (interF (Prod.fst (pairsF d)) (Prod.fst
  (Prod.snd (pairsF d))) (Prod.snd (Prod.snd (pairsF d)))) = Prod.fst (interF (Prod.fst (pairsF d)) (Prod.fst (Prod.snd (pairsF d))) (Prod.snd (Prod.snd (pairsF d)))) ∧ Prod.fst (Prod.snd (pairsF d)) = Prod.fst (Prod.snd
  (pairsF d)) ∧ weightsF (Prod.fst (pairsF d)) (Prod.fst (Prod.snd (pairsF d))) = weightsF (Prod.fst (pairsF d)) (Prod.fst (Prod.snd (pairsF d)))))) ∧ (decide ((↑x : Int) < (↑(List.length (Prod.fst (Prod.snd (pairsF
  d)))) : Int)) = false → SmallL (Prod.fst (Prod.snd (pairsF d))) ∧ (Ty.wf listT (Prod.fst (Prod.snd (pairsF d))) → SmallL (Prod.snd (Prod.snd (pairsF d))) ∧ (Ty.wf listT (Prod.snd (Prod.snd (pairsF d))) → True ∧ (Ty.wf
  i64T (extF (Prod.fst (pairsF d)) (Prod.fst (Prod.snd (pairsF d))) (Prod.snd (Prod.snd (pairsF d))) (Int.tmod (codeAt d (4 : Int)) (modF (Prod.fst (pairsF d))))) → SmallL (Prod.fst (Prod.snd (pairsF d))) ∧ (Ty.wf listT
  (Prod.fst (Prod.snd (pairsF d))) → True ∧ (Ty.wf listT (vanR (Prod.fst (pairsF d)) (Prod.fst (Prod.snd (pairsF d)))) → True ∧ (Ty.wf i64T (evPR (Prod.fst (pairsF d)) (vanR (Prod.fst (pairsF d)) (Prod.fst (Prod.snd
  (pairsF d)))) (Int.tmod (codeAt d (4 : Int)) (modF (Prod.fst (pairsF d))))) → True ∧ (Ty.wf i64T (mulS (Prod.fst (pairsF d)) (wSum (Prod.fst (pairsF d)) (Prod.fst (Prod.snd (pairsF d))) (Prod.snd (Prod.snd (pairsF d)))
  (weightsF (Prod.fst (pairsF d)) (Prod.fst (Prod.snd (pairsF d)))) (lwX d) x) (evPR (Prod.fst (pairsF d)) (vanR (Prod.fst (pairsF d)) (Prod.fst (Prod.snd (pairsF d)))) (Int.tmod (codeAt d (4 : Int)) (modF (Prod.fst
  (pairsF d)))))) → decide (extF (Prod.fst (pairsF d)) (Prod.fst (Prod.snd (pairsF d))) (Prod.snd (Prod.snd (pairsF d))) (Int.tmod (codeAt d (4 : Int)) (modF (Prod.fst (pairsF d)))) = mulS (Prod.fst (pairsF d)) (wSum
  (Prod.fst (pairsF d)) (Prod.fst (Prod.snd (pairsF d))) (Prod.snd (Prod.snd (pairsF d))) (weightsF (Prod.fst (pairsF d)) (Prod.fst (Prod.snd (pairsF d)))) (lwX d) x) (evPR (Prod.fst (pairsF d)) (vanR (Prod.fst (pairsF
  d)) (Prod.fst (Prod.snd (pairsF d)))) (Int.tmod (codeAt d (4 : Int)) (modF (Prod.fst (pairsF d)))))) = true))))))))))))))))) := by
  intro d hd _
  generalize hP : pairsF d = P
  obtain ⟨f, xs, ys⟩ := P
  dsimp only
  simp only [Int.toNat_natCast, exists_const, and_true, true_and, implies_true, decide_eq_true_eq, decide_eq_false_iff_not, Bool.not_eq_true', Bool.not_eq_false', beq_iff_eq, forall_const]
  intro hb _ _ hf
  have hlw : lwX d = (codeAt d 4).tmod (modF f) := by unfold lwX; rw [hP]
  obtain ⟨hp, hl, hs, hI⟩ := inter_inv hf
  obtain ⟨hm, h1, h2, he, hn⟩ := pt_ok hp
  have hpr := mod_pr hm
  have hi := hpr.mod
  have sx : SmallL xs := small41 (by omega)
  have sy : SmallL ys := small41 (by omega)
  have hlen : d.length ≤ 1048576 := by unfold bigF at hb; rw [decide_eq_false_iff_not] at hb; omega
  have hx := at_range hd hlen (i := 4) (by omega) (by omega)
  have hX : El (modF f) (lwX d) := by
    rw [hlw]
    unfold IsMod at hi
    rw [Int.tmod_eq_emod_of_nonneg hx.1]
    exact ⟨Int.emod_nonneg _ (by omega), Int.emod_lt_of_pos _ (by omega)⟩
  rw [← hlw]
  have hw : weightsF f xs = wtsL (modF f) xs xs.length := by unfold weightsF; rw [if_pos hp]
  have hwl : (weightsF f xs).length = xs.length := by rw [hw, wts_len]
  refine ⟨by show (0 : Int) ≤ 4; decide, fun _ _ => ⟨hm, sx, fun _ _ => ⟨fun h => absurd (by rw [hwl]) h, fun _ => ⟨⟨Nat.zero_le _, fun j hj => absurd hj (by omega)⟩, ⟨rfl, rfl⟩, fun x hx => ⟨fun hlt => ⟨⟨by omega, hlt⟩, fun hne => ⟨⟨by omega, by omega⟩, ⟨by omega, by omega⟩, ⟨by omega, by omega⟩, fun _ _ _ _ => ⟨x + 1, ⟨by omega, fun j hj => ?_⟩, by omega, rfl, wrap_succ (by omega)⟩⟩⟩, fun hge => ⟨sx, fun _ => ⟨sy, fun _ _ => ⟨sx, fun _ _ _ _ => ?_⟩⟩⟩⟩⟩⟩⟩⟩
  · by_cases e : j = x
    · subst e; exact hne
    · exact hx.2 j (by omega)
  · have hxx : x = xs.length := by omega
    subst hxx
    obtain ⟨v1, v2, v3⟩ := vanF_ok hi xs
    have hvp : polyB f (vanF (modF f) xs) = true := poly_of hm v2 (by omega) v3
    unfold extF evPR vanR
    rw [if_pos (by rw [hI, decide_eq_true (show 0 ≤ lwX d ∧ lwX d < modF f from hX)]; rfl), if_pos hp, if_pos hvp, mulS_at hm, hw]
    unfold mulM redM
    rw [el_self hX, evP_V, evP_V]
    unfold thrF
    rw [V_thr hi, mul_mod_r, ← wSum_thS hm he hX xs.length (Nat.le_refl _) hx.2]
    refine cg_mul rfl ?_
    unfold vanF
    rw [V_van hi]
end Go.SF
