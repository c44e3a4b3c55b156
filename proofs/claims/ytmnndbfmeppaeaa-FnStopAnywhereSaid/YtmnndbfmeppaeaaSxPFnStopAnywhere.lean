/- The law FnStopAnywhere. No condition. -/
import Derived.Test.YtmnndbfmeppaeaaSxPStopC
import Derived.Test.YtmnndbfmeppaeaaSxPWord
namespace Go.SF
open Go.SX Go
set_option linter.unusedVariables false
set_option linter.unusedSimpArgs false
theorem perm_vec {f : Int} {v : List Int} (h : vectorOkF f (permF v) = true) : vectorOkF f v = true ∧ (permF v).length = v.length := by
  by_cases h0 : 0 ≤ logF v.length
  · have hl := perm_len2 h0
    obtain ⟨hm, he, _⟩ := vecL_ok h
    refine ⟨vecL_of h hl.symm ?_, hl⟩
    unfold elemsF at he ⊢
    have he := of_decide_eq_true he
    refine decide_eq_true ?_
    unfold permF at he
    rw [if_pos h0] at he
    exact (perm_same h0 (fun x => 0 ≤ x ∧ x ≤ modF f - 1)).1 he
  · obtain ⟨hm, he, K, hK, hK9, hlen, _⟩ := vecL_ok h
    unfold permF at hlen
    rw [if_neg h0] at hlen
    have : 0 < 2 ^ K := Nat.pow_pos (by omega)
    simp at hlen
    omega
theorem stop_adv {p : Pl} {K : Nat} (hw : TnW p K) (hp : planOkF p = true) {v0 : List Int} (hl0 : (permF v0).length = 2 ^ K) {y : StX} (h : stopJ p v0 y) {units : Int} (hu : 0 ≤ units) :
    ∃ (v : List Int) (n : Nat) (u : Int), advF (p, y.1, (y.2.1 : Int)) units = ((p, v, (n : Int)), u) ∧ stopJ p v0 (v, n, y.2.2 + u) ∧ 0 ≤ u ∧ u ≤ units ∧ (153600 ≤ units → n = p.2.2.length) := by
  obtain ⟨h1, h2, h3⟩ := h
  obtain ⟨t1, t2, t3, t4, t5⟩ := turn_w h1
  obtain ⟨b1, b2⟩ := many_bound (k := (K : Int)) (by have := hw.K9; omega) y.2.1 (by omega) (fun j hj => hw.steps j (by omega))
  obtain ⟨m1, m2, m3⟩ := many_all hw
  obtain ⟨r1, r2, r3, r4, r5, r6⟩ := adv_run hw hp hl0 (units := units) (p.2.2.length - y.2.1) y.2.1 y.1 0 (by omega) h1 h2 hu
  refine ⟨_, _, _, ?_, ⟨r1, r2, ?_⟩, r5, r4, fun h => r6 (by omega)⟩
  · unfold advF
    rw [h1, decide_eq_true hu]
    unfold advR
    simp only [Int.toNat_natCast]
    rfl
  · show y.2.2 + _ = manyF (p.2.2.take (advGo (fieldF p.1).1 p.2.2 units (p.2.2.length - y.2.1) y.1 y.2.1 0).2.1)
    rw [r3, h3]
    omega
theorem v_FnStopAnywhere :
  ∀ (d : List Int), Ty.wf (Ty.sl (Ty.int IntKind.u8)) d → True → True ∧ (bigF d = true → true = true) ∧ (bigF d = false → (List.length d ≤ (9223372036854775807 : Nat) ∧ ∀ (r : (Int × Int × List (Int × Int × Int)) × List
  Int), drwQ r → Ty.wf planT r.1 ∧ Ty.wf listT r.2 → ∃ (x' : (Int × Int × List (Int × Int × Int)) × List Int), drwQ x' ∧ (d = d ∧ r.2 = x'.2) ∧ r.1.1 = x'.1.1 ∧ r.1.2.1 = x'.1.2.1 ∧ r.1.2.2 = x'.1.2.2) ∧ ∀ (x : (Int ×
  Int × List (Int × Int × Int)) × List Int), drwQ x → List.length x.1.2.2 ≤ (1048576 : Nat) ∧ (Ty.wf turnT (Prod.fst (startF x.1 x.2)) ∧ Ty.wf Ty.bool (Prod.snd (startF x.1 x.2)) → ((!Prod.snd (startF x.1 x.2)) = true →
  true = true) ∧ ((!Prod.snd (startF x.1 x.2)) = false → List.length x.1.2.2 ≤ (1048576 : Nat) ∧ (Ty.wf planT x.1 → SmallL x.2 ∧ (Ty.wf listT x.2 → (List.length x.1.2.2 ≤ (1048576 : Nat) ∧ List.length x.2 ≤ (1048576 :
  Nat)) ∧ (Ty.wf turnT (Prod.fst (startF x.1 x.2)) ∧ Ty.wf Ty.bool (Prod.snd (startF x.1 x.2)) → ((!Prod.snd (startF x.1 x.2)) = true → false = true) ∧ ((!Prod.snd (startF x.1 x.2)) = false → True ∧ True ∧ (Ty.wf i64T
  (planCostF x.1) → Ty.wf i64T (leftF (Prod.fst (startF x.1 x.2))) → ((!decide (leftF (Prod.fst (startF x.1 x.2)) = planCostF x.1)) = true → false = true) ∧ ((!decide (leftF (Prod.fst (startF x.1 x.2)) = planCostF x.1))
  = false → ((0 : Nat) ≤ (60 : Nat) ∧ stopJ x.1 x.2 (permF x.2, (0 : Nat), (0 : Int))) ∧ ((d = d ∧ x.2 = x.2 ∧ Prod.snd (startF x.1 x.2) = Prod.snd (startF x.1 x.2) ∧ Prod.snd (startF x.1 x.2) = Prod.snd (startF x.1 x.2)
  ∧ (0 : Int) = (0 : Int) ∧ (0 : Int) = (↑(0 : Nat) : Int)) ∧ (x.1.1 = x.1.1 ∧ x.1.2.1 = x.1.2.1 ∧ x.1.2.2 = x.1.2.2) ∧ Prod.snd (Prod.snd (Prod.fst (Prod.fst (startF x.1 x.2)))) = Prod.snd (Prod.snd (Prod.fst (Prod.fst
  (startF x.1 x.2)))) ∧ Prod.fst (Prod.snd (Prod.fst (startF x.1 x.2))) = Prod.fst (Prod.snd (Prod.fst (startF x.1 x.2))) ∧ (Prod.fst (Prod.fst (Prod.fst (startF x.1 x.2))) = Prod.fst (Prod.fst (Prod.fst (startF x.1
  x.2))) ∧ Prod.fst (Prod.snd (Prod.fst (Prod.fst (startF x.1 x.2)))) = Prod.fst (Prod.snd (Prod.fst (Prod.fst (startF x.1 x.2)))) ∧ Prod.snd (Prod.snd (Prod.fst (startF x.1 x.2))) = Prod.snd (Prod.snd (Prod.fst (startF
  x.1 x.2)))) ∧ x.1.2.2 = x.1.2.2 ∧ x.2 = x.2 ∧ Prod.snd (Prod.snd (Prod.fst (Prod.fst (startF x.1 x.2)))) = x.1.2.2 ∧ Prod.fst (Prod.snd (Prod.fst (startF x.1 x.2))) = permF x.2 ∧ Prod.fst (Prod.fst (Prod.fst (startF
  x.1 x.2))) = x.1.1 ∧ Prod.fst (Prod.snd (Prod.fst (Prod.fst (startF x.1 x.2)))) = x.1.2.1 ∧ Prod.snd (Prod.snd (Prod.fst (startF x.1 x.2))) = (↑(0 : Nat) : Int)) ∧ ∀ (x_1 : Nat × List Int × Nat × Int), x_1.1 ≤ (60 :
  Nat) ∧ stopJ x.1 x.2 x_1.2 → (decide ((↑x_1.1 : Int) < (60 : Int)) = true → (0 : Int) ≤ (↑x_1.1 : Int) ∧ (50 : Int) ≠ (0 : Int) ∧ (List.length x.1.2.2 ≤ (1048576 : Nat) ∧ List.length x_1.2.1 ≤ (1048576 : Nat)) ∧ (Ty.wf
  turnT (Prod.fst (advF (x.1, x_1.2.1, (↑x_1.2.2.1 : Int)) (Int.tmod (codeAt d (↑x_1.1 : Int)) (50 : Int)))) ∧ Ty.wf i64T (Prod.snd (advF (x.1, x_1.2.1, (↑x_1.2.2.1 : Int)) (Int.tmod (codeAt d (↑x_1.1 : Int)) (50 :
  Int)))) → Ty.wf i64T (codeAt d (↑x_1.1 : Int)) → (decide (Prod.snd (advF (x.1, x_1.2.1, (↑x_1.2.2.1 : Int)) (Int.tmod (codeAt d (↑x_1.1 : Int)) (50 : Int))) < (0 : Int)) = true → false = true) ∧ (decide (Prod.snd (advF
  (x.1, x_1.2.1, (↑x_1.2.2.1 : Int)) (Int.tmod (codeAt d (↑x_1.1 : Int)) (50 : Int))) < (0 : Int)) = false → (0 : Int) ≤ (↑x_1.1 : Int) ∧ (Ty.wf i64T (codeAt d (↑x_1.1 : Int)) → (50 : Int) ≠ (0 : Int) ∧ (decide (Int.tmod
  (codeAt d (↑x_1.1 : Int)) (50 : Int) < Prod.snd (advF (x.1, x_1.2.1, (↑x_1.2.2.1 : Int)) (Int.tmod (codeAt d (↑x_1.1 : Int)) (50 : Int)))) = true → false = true) ∧ (decide (Int.tmod (codeAt d (↑x_1.1 : Int)) (50 : Int)
  < Prod.snd (advF (x.1, x_1.2.1, (↑x_1.2.2.1 : Int)) (Int.tmod (codeAt d (↑x_1.1 : Int)) (50 : Int)))) = false → ∃ (x' : Nat × List Int × Nat × Int), (x'.1 ≤ (60 : Nat) ∧ stopJ x.1 x.2 x'.2) ∧ (60 : Nat) - x'.1 < (60 :
  Nat) - x_1.1 ∧ (d = d ∧ x.2 = x.2 ∧ Prod.snd (startF x.1 x.2) = Prod.snd (startF x.1 x.2) ∧ Prod.snd (startF x.1 x.2) = Prod.snd (startF x.1 x.2) ∧ IntKind.wrap IntKind.i64 (x_1.2.2.2 + Prod.snd (advF (x.1, x_1.2.1,
  (↑x_1.2.2.1 : Int)) (Int.tmod (codeAt d (↑x_1.1 : Int)) (50 : Int)))) = x'.2.2.2 ∧ IntKind.wrap IntKind.i64 ((↑x_1.1 : Int) + (1 : Int)) = (↑x'.1 : Int)) ∧ (x.1.1 = x.1.1 ∧ x.1.2.1 = x.1.2.1 ∧ x.1.2.2 = x.1.2.2) ∧
  Prod.snd (Prod.snd (Prod.fst (Prod.fst (startF x.1 x.2)))) = Prod.snd (Prod.snd (Prod.fst (Prod.fst (startF x.1 x.2)))) ∧ Prod.fst (Prod.snd (Prod.fst (startF x.1 x.2))) = Prod.fst (Prod.snd (Prod.fst (startF x.1
  x.2))) ∧ (Prod.fst (Prod.fst (Prod.fst (startF x.1 x.2))) = Prod.fst (Prod.fst (Prod.fst (startF x.1 x.2))) ∧ Prod.fst (Prod.snd (Prod.fst (Prod.fst (startF x.1 x.2)))) = Prod.fst (Prod.snd (Prod.fst (Prod.fst (startF
  x.1 x.2)))) ∧ Prod.snd (Prod.snd (Prod.fst (startF x.1 x.2))) = Prod.snd (Prod.snd (Prod.fst (startF x.1 x.2)))) ∧ x.1.2.2 = x.1.2.2 ∧ x.2 = x.2 ∧ Prod.snd (Prod.snd (Prod.fst (Prod.fst (advF (x.1, x_1.2.1, (↑x_1.2.2.1
  : Int)) (Int.tmod (codeAt d (↑x_1.1 : Int)) (50 : Int)))))) = x.1.2.2 ∧ Prod.fst (Prod.snd (Prod.fst (advF (x.1, x_1.2.1, (↑x_1.2.2.1 : Int)) (Int.tmod (codeAt d (↑x_1.1 : Int)) (50 : Int))))) = x'.2.1 ∧ Prod.fst
  (Prod.fst (Prod.fst (advF (x.1, x_1.2.1, (↑x_1.2.2.1 : Int)) (Int.tmod (codeAt d (↑x_1.1 : Int)) (50 : Int))))) = x.1.1 ∧ Prod.fst (Prod.snd (Prod.fst (Prod.fst (advF (x.1, x_1.2.1, (↑x_1.2.2.1 : Int)) (Int.tmod
  (codeAt d (↑x_1.1 : Int)) (50 : Int)))))) = x.1.2.1 ∧ Prod.snd (Prod.snd (Prod.fst (advF (x.1, x_1.2.1, (↑x_1.2.2.1 : Int)) (Int.tmod (codeAt d (↑x_1.1 : Int)) (50 : Int))))) = (↑x'.2.2.1 : Int)))))) ∧ (decide ((↑x_1.1
  : Int) < (60 : Int)) = false → (List.length x.1.2.2 ≤ (1048576 : Nat) ∧ List.length x_1.2.1 ≤ (1048576 : Nat)) ∧ (Ty.wf turnT (Prod.fst (advF (x.1, x_1.2.1, (↑x_1.2.2.1 : Int)) (1000000 : Int))) ∧ Ty.wf i64T (Prod.snd
  (advF (x.1, x_1.2.1, (↑x_1.2.2.1 : Int)) (1000000 : Int))) → List.length (Prod.fst (Prod.snd (Prod.fst (advF (x.1, x_1.2.1, (↑x_1.2.2.1 : Int)) (1000000 : Int))))) ≤ (1048576 : Nat) ∧ (Ty.wf listT (Prod.fst (finF
  (Prod.fst (advF (x.1, x_1.2.1, (↑x_1.2.2.1 : Int)) (1000000 : Int))))) ∧ Ty.wf Ty.bool (Prod.snd (finF (Prod.fst (advF (x.1, x_1.2.1, (↑x_1.2.2.1 : Int)) (1000000 : Int))))) → (Prod.snd (finF (Prod.fst (advF (x.1,
  x_1.2.1, (↑x_1.2.2.1 : Int)) (1000000 : Int)))) = true → True ∧ (Ty.wf listT (fwdF x.1.1 x.2) → True ∧ (sameF (Prod.fst (finF (Prod.fst (advF (x.1, x_1.2.1, (↑x_1.2.2.1 : Int)) (1000000 : Int))))) (fwdF x.1.1 x.2) =
  true → True ∧ (Ty.wf i64T (planCostF x.1) → (decide (IntKind.wrap IntKind.i64 (x_1.2.2.2 + Prod.snd (advF (x.1, x_1.2.1, (↑x_1.2.2.1 : Int)) (1000000 : Int))) = planCostF x.1) = true → True ∧ (Ty.wf i64T (leftF
  (Prod.fst (advF (x.1, x_1.2.1, (↑x_1.2.2.1 : Int)) (1000000 : Int)))) → decide (leftF (Prod.fst (advF (x.1, x_1.2.1, (↑x_1.2.2.1 : Int)) (1000000 : Int))) = (0 : Int)) = true)) ∧ (decide (IntKind.wrap IntKind.i64
  (x_1.2.2.2 + Prod.snd (advF (x.1, x_1.2.1, (↑x_1.2.2.1 : Int)) (1000000 : Int))) = planCostF x.1) = false → false = true))) ∧ (sameF (Prod.fst (finF (Prod.fst (advF (x.1, x_1.2.1, (↑x_1.2.2.1 : Int)) (1000000 :
  Int))))) (fwdF x.1.1 x.2) = false → false = true))) ∧ (Prod.snd (finF (Prod.fst (advF (x.1, x_1.2.1, (↑x_1.2.2.1 : Int)) (1000000 : Int)))) = false → false = true))))))))))))) := by
  intro d hd _
  simp only [Int.toNat_natCast, exists_const, and_true, true_and, implies_true, decide_eq_true_eq, decide_eq_false_iff_not, Bool.not_eq_true', Bool.not_eq_false', beq_iff_eq, forall_const]
  intro hb
  have hb2 : d.length ≤ 1048576 := by unfold bigF at hb; have := of_decide_eq_false hb; omega
  have hat : ∀ n : Nat, n ≤ 100 → 0 ≤ codeAt d (n : Int) ∧ codeAt d (n : Int) ≤ 255 := fun n h1 => at_range hd hb2 (by omega) (by omega)
  refine ⟨⟨by omega, fun r hr _ => ⟨r, hr, rfl, rfl, rfl, rfl⟩⟩, fun x hx => ?_⟩
  obtain ⟨x1, x2⟩ := hx
  refine ⟨by omega, fun _ hs => ?_⟩
  have hto : turnOkF (x.1, permF x.2, 0) = true := by
    unfold startF at hs
    split at hs
    · assumption
    · cases hs
  have hst : startF x.1 x.2 = ((x.1, permF x.2, 0), true) := by unfold startF; rw [if_pos hto]
  obtain ⟨t1, t2, t3, t4, t5⟩ := turn_w hto
  obtain ⟨K, hw⟩ := plan_w t1
  have hl0 := len_w hw t3
  obtain ⟨v1, v2⟩ := perm_vec t2
  obtain ⟨m1, m2, m3⟩ := many_all hw
  have hJ0 : stopJ x.1 x.2 (permF x.2, 0, 0) := ⟨hto, sta_start _ _, by simp [manyF]⟩
  have hlf : leftF (x.1, permF x.2, 0) = manyF x.1.2.2 := by
    have := left_is hw (n := 0) hto
    simp [manyF] at this ⊢
    exact this
  have hpc : planCostF x.1 = manyF x.1.2.2 := by
    unfold planCostF
    rw [if_pos t1, hw.hK, m1]
  have h512 := pow_le_512 hw.K9
  rw [hst, hlf, hpc]
  refine ⟨by omega, fun _ => ⟨by unfold SmallL; omega, fun _ => ⟨⟨by omega, by omega⟩, fun _ => ⟨nofun, fun _ _ _ => ⟨fun h => absurd rfl h, fun _ => ⟨⟨by omega, hJ0⟩, ⟨rfl, rfl, rfl, rfl, rfl, rfl⟩, fun y hy => ?_⟩⟩⟩⟩⟩⟩
  obtain ⟨y1, y2⟩ := hy
  have hyl := (turn_w y2.1).2.2.1
  have hyl2 := len_w hw hyl
  have hyu : y.2.2.2 = manyF (x.1.2.2.take y.2.2.1) := y2.2.2
  have hyn := (turn_w y2.1).2.2.2.2
  obtain ⟨b1, b2⟩ := many_bound (k := (K : Int)) (by have := hw.K9; omega) y.2.2.1 (by omega) (fun j hj => hw.steps j (by omega))
  refine ⟨fun hlt => ?_, fun hge => ?_⟩
  · have hc := hat y.1 (by omega)
    have hm : (codeAt d (y.1 : Int)).tmod 50 = codeAt d (y.1 : Int) % 50 := Int.tmod_eq_emod_of_nonneg hc.1
    obtain ⟨v, n, u, e1, e2, e3, e4, e5⟩ := stop_adv hw t1 hl0 y2 (units := codeAt d (y.1 : Int) % 50) (by omega)
    have hnb : (n : Int) ≤ (x.1.2.2.length : Int) := (turn_w e2.1).2.2.2.2
    have hub : y.2.2.2 + u = manyF (x.1.2.2.take n) := e2.2.2
    obtain ⟨c1, c2⟩ := many_bound (k := (K : Int)) (by have := hw.K9; omega) n (by omega) (fun j hj => hw.steps j (by omega))
    have hlen := hw.len
    rw [hm, e1]
    refine ⟨by omega, by decide, ⟨by omega, by omega⟩, fun _ _ => ⟨fun h => absurd h (by omega), fun _ => ⟨by omega, fun _ => ⟨by decide, fun h => absurd h (by omega), fun _ => ⟨(y.1 + 1, v, n, y.2.2.2 + u), ⟨by simp only; omega, e2⟩, by simp only; omega, ⟨?_, ?_⟩, rfl, rfl, rfl, rfl, rfl⟩⟩⟩⟩⟩
    · exact wrap_small (by omega)
    · exact wrap_small (n := (y.1 : Int) + 1) (by omega)
  · obtain ⟨v, n, u, e1, e2, e3, e4, e5⟩ := stop_adv hw t1 hl0 y2 (units := 1000000) (by omega)
    have hn := e5 (by omega)
    subst hn
    have hvl : v.length = 2 ^ K := len_w hw (turn_w e2.1).2.2.1
    have hub : y.2.2.2 + u = manyF (x.1.2.2.take x.1.2.2.length) := e2.2.2
    rw [List.take_length] at hub
    have hfin : finF (x.1, v, (x.1.2.2.length : Int)) = (v, true) := by
      unfold finF
      rw [if_pos ⟨e2.1, Int.le_refl _⟩]
    have hfw : v = fwdF x.1.1 x.2 := sta_end hw v1 (by rw [← v2]; exact hl0) hvl e2.2.1
    have hlf2 : leftF (x.1, v, (x.1.2.2.length : Int)) = 0 := by
      rw [left_is hw e2.1, List.take_length]; omega
    have hsm : sameF v (fwdF x.1.1 x.2) = true := by unfold sameF; rw [← hfw]; exact decide_eq_true rfl
    rw [e1]
    simp only
    rw [hfin, hlf2]
    simp only
    rw [hsm, wrap_small (by omega), hub]
    exact ⟨⟨by omega, by omega⟩, fun _ => ⟨by omega, fun _ => ⟨fun _ _ => ⟨fun _ _ => ⟨fun _ _ => trivial, fun h => absurd rfl h⟩, nofun⟩, nofun⟩⟩⟩
end Go.SF
