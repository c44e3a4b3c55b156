/- The fields of jobs, from the code. No condition. -/
import Derived.Test.YtobmiihdfklmaaaGreatSxPJobD
import Derived.Test.YtobmiihdfklmaaaGreatSxPWord
import Derived.Test.YtobmiihdfklmaaaGreatSxPDecB
namespace Go.SF
open Go.SX Go
set_option linter.unusedVariables false
set_option linter.unusedSimpArgs false
theorem polys_ok {f : Int} {ls : List (List Int)} : (polysF f ls).2 = true ↔ modF f ≠ 0 ∧ ∀ v ∈ ls, polyB f v = true := by
  unfold polysF
  constructor
  · intro h
    split at h
    · rename_i h1
      simpa only [Bool.and_eq_true, decide_eq_true_eq] using h1
    · cases h
  · intro h
    rw [if_pos (by simpa only [Bool.and_eq_true, decide_eq_true_eq] using h)]
theorem polys_no {f : Int} {ls : List (List Int)} (h : ¬ (modF f ≠ 0 ∧ ∀ v ∈ ls, polyB f v = true)) : ((0, 0, 0), false) = polysF f ls := by
  unfold polysF
  rw [if_neg (by simpa only [Bool.and_eq_true, decide_eq_true_eq] using h)]
theorem polys_yes {f : Int} {ls : List (List Int)} (h : modF f ≠ 0 ∧ ∀ v ∈ ls, polyB f v = true) : ((fieldF f).1, true) = polysF f ls := by
  unfold polysF
  rw [if_pos (by simpa only [Bool.and_eq_true, decide_eq_true_eq] using h)]
theorem get_in {ls : List (List Int)} {x : Nat} (h : x < ls.length) : ls.getD x [] ∈ ls := by
  rw [List.getD_eq_getElem?_getD, List.getElem?_eq_getElem h]
  exact List.getElem_mem _
theorem polys_bad {f : Int} {ls : List (List Int)} {x : Nat} (h : x < ls.length) (hb : polyB f (ls.getD x []) = true → False) : ((0, 0, 0), false) = polysF f ls := polys_no (fun hh => hb (hh.2 _ (get_in h)))
theorem ser_ok {f : Int} {a : List Int} : (serF f [a]).2 = true ↔ serB f a = true := by
  unfold serF
  rw [List.getD_cons_zero]
  split
  · rename_i h; exact ⟨fun _ => h, fun _ => rfl⟩
  · rename_i h; exact ⟨fun e => (by cases e), fun e => absurd e h⟩
theorem ser_mod {f : Int} {a : List Int} (h : serB f a = true) : (serF f [a]).1.1 = modF f := by
  unfold serF
  rw [List.getD_cons_zero, if_pos h]; rfl
theorem ser_of {f : Int} {a : List Int} (h1 : 1 ≤ a.length) (h2 : a.length ≤ 64) (hm : modF f ≠ 0) (he : elemsF (modF f) a = true) : serB f a = true := by
  unfold serB
  simp only [Bool.and_eq_true, decide_eq_true_eq]
  exact ⟨⟨h1, h2⟩, spec_of hm he⟩
theorem serF_no {f : Int} {a : List Int} (h : ¬ serB f a = true) : ((0, 0, 0), false) = serF f [a] := by
  unfold serF
  rw [List.getD_cons_zero, if_neg h]
theorem v_I_polyField2 :
 ∀ (d : Int × List (List Int)), Ty.wf i64T d.1 ∧ Ty.wf (Ty.sl listT) d.2 → d.2.length = (1 : Nat) ∨ d.2.length = (2 : Nat) → True ∧ (Ty.wf fldT (Prod.fst (fieldF d.1)) ∧ Ty.wf Ty.bool (Prod.snd (fieldF d.1)) →
 ((!Prod.snd (fieldF d.1)) = true → (((0 : Int), (0 : Int), (0 : Int)), false) = polysF d.1 d.2) ∧ ((!Prod.snd (fieldF d.1)) = false → ((0 : Nat) ≤ d.2.length ∧ PolyJ d.1 d.2 (0 : Nat)) ∧ ((d.1 = d.1 ∧ d.2 = d.2 ∧
 Prod.snd (fieldF d.1) = Prod.snd (fieldF d.1) ∧ d.2 = d.2 ∧ (↑d.2.length : Int) = (↑d.2.length : Int) ∧ (0 : Int) = (↑(0 : Nat) : Int)) ∧ ((0 : Int) = (0 : Int) ∧ (0 : Int) = (0 : Int) ∧ (0 : Int) = (0 : Int)) ∧
 Prod.fst (Prod.fst (fieldF d.1)) = Prod.fst (Prod.fst (fieldF d.1)) ∧ Prod.fst (Prod.snd (Prod.fst (fieldF d.1))) = Prod.fst (Prod.snd (Prod.fst (fieldF d.1))) ∧ Prod.snd (Prod.snd (Prod.fst (fieldF d.1))) = Prod.snd
 (Prod.snd (Prod.fst (fieldF d.1)))) ∧ ∀ (x : Nat), x ≤ d.2.length ∧ PolyJ d.1 d.2 x → (decide ((↑x : Int) < (↑d.2.length : Int)) = true → ((0 : Int) ≤ (↑x : Int) ∧ (↑x : Int) < (↑d.2.length : Int)) ∧ (decide ((400 :
 Int) < (↑(List.length (d.2.getD (Int.toNat (↑x : Int)) [])) : Int)) = true → (((0 : Int), (0 : Int), (0 : Int)), false) = polysF d.1 d.2) ∧ (decide ((400 : Int) < (↑(List.length (d.2.getD (Int.toNat (↑x : Int)) [])) :
 Int)) = false → True ∧ ((!elemsF (Prod.fst (Prod.fst (fieldF d.1))) (d.2.getD (Int.toNat (↑x : Int)) [])) = true → (((0 : Int), (0 : Int), (0 : Int)), false) = polysF d.1 d.2) ∧ ((!elemsF (Prod.fst (Prod.fst (fieldF
 d.1))) (d.2.getD (Int.toNat (↑x : Int)) [])) = false → (decide ((0 : Int) < (↑(List.length (d.2.getD (Int.toNat (↑x : Int)) [])) : Int)) = true → ((0 : Int) ≤ IntKind.wrap IntKind.i64 ((↑(List.length (d.2.getD
 (Int.toNat (↑x : Int)) [])) : Int) - (1 : Int)) ∧ IntKind.wrap IntKind.i64 ((↑(List.length (d.2.getD (Int.toNat (↑x : Int)) [])) : Int) - (1 : Int)) < (↑(List.length (d.2.getD (Int.toNat (↑x : Int)) [])) : Int)) ∧
 (decide (List.getD (d.2.getD (Int.toNat (↑x : Int)) []) (Int.toNat (IntKind.wrap IntKind.i64 ((↑(List.length (d.2.getD (Int.toNat (↑x : Int)) [])) : Int) - (1 : Int)))) (0 : Int) = (0 : Int)) = true → (((0 : Int), (0 :
 Int), (0 : Int)), false) = polysF d.1 d.2) ∧ (decide (List.getD (d.2.getD (Int.toNat (↑x : Int)) []) (Int.toNat (IntKind.wrap IntKind.i64 ((↑(List.length (d.2.getD (Int.toNat (↑x : Int)) [])) : Int) - (1 : Int)))) (0 :
 Int) = (0 : Int)) = false → ∃ (x' : Nat), (x' ≤ d.2.length ∧ PolyJ d.1 d.2 x') ∧ d.2.length - x' < d.2.length - x ∧ (d.1 = d.1 ∧ d.2 = d.2 ∧ Prod.snd (fieldF d.1) = Prod.snd (fieldF d.1) ∧ d.2 = d.2 ∧ (↑d.2.length :
 Int) = (↑d.2.length : Int) ∧ IntKind.wrap IntKind.i64 ((↑x : Int) + (1 : Int)) = (↑x' : Int)) ∧ ((0 : Int) = (0 : Int) ∧ (0 : Int) = (0 : Int) ∧ (0 : Int) = (0 : Int)) ∧ Prod.fst (Prod.fst (fieldF d.1)) = Prod.fst
 (Prod.fst (fieldF d.1)) ∧ Prod.fst (Prod.snd (Prod.fst (fieldF d.1))) = Prod.fst (Prod.snd (Prod.fst (fieldF d.1))) ∧ Prod.snd (Prod.snd (Prod.fst (fieldF d.1))) = Prod.snd (Prod.snd (Prod.fst (fieldF d.1))))) ∧ (decide
 ((0 : Int) < (↑(List.length (d.2.getD (Int.toNat (↑x : Int)) [])) : Int)) = false → ∃ (x' : Nat), (x' ≤ d.2.length ∧ PolyJ d.1 d.2 x') ∧ d.2.length - x' < d.2.length - x ∧ (d.1 = d.1 ∧ d.2 = d.2 ∧ Prod.snd (fieldF d.1)
 = Prod.snd (fieldF d.1) ∧ d.2 = d.2 ∧ (↑d.2.length : Int) = (↑d.2.length : Int) ∧ IntKind.wrap IntKind.i64 ((↑x : Int) + (1 : Int)) = (↑x' : Int)) ∧ ((0 : Int) = (0 : Int) ∧ (0 : Int) = (0 : Int) ∧ (0 : Int) = (0 :
 Int)) ∧ Prod.fst (Prod.fst (fieldF d.1)) = Prod.fst (Prod.fst (fieldF d.1)) ∧ Prod.fst (Prod.snd (Prod.fst (fieldF d.1))) = Prod.fst (Prod.snd (Prod.fst (fieldF d.1))) ∧ Prod.snd (Prod.snd (Prod.fst (fieldF d.1))) =
 Prod.snd (Prod.snd (Prod.fst (fieldF d.1))))))) ∧ (decide ((↑x : Int) < (↑d.2.length : Int)) = false → (Prod.fst (fieldF d.1), true) = polysF d.1 d.2))) := by
  intro d hw hp
  obtain ⟨f, ls⟩ := d
  replace hp : ls.length = 1 ∨ ls.length = 2 := hp
  have hl : ∀ v ∈ ls, v.length ≤ 9223372036854775807 := fun v hv => (hw.2.2 v hv).1
  simp only [Int.toNat_natCast, exists_const, and_true, true_and, implies_true, decide_eq_true_eq, decide_eq_false_iff_not, Bool.not_eq_true', Bool.not_eq_false', beq_iff_eq, forall_const]
  intro _
  refine ⟨fun h => polys_no (fun hh => ?_), fun h => ?_⟩
  · rw [fld_ok.2 hh.1] at h; cases h
  · have hm := fld_ok.1 h
    refine ⟨⟨by omega, fun i hi => absurd hi (Nat.not_lt_zero _)⟩, rfl, fun x hx => ⟨fun hlt => ?_, fun hge => ?_⟩⟩
    · have hxl : x < ls.length := by omega
      have hv := hl _ (get_in hxl)
      have step : polyB f (ls.getD x []) = true → ∃ x', (x' ≤ ls.length ∧ PolyJ f ls x') ∧ ls.length - x' < ls.length - x ∧ IntKind.i64.wrap ((x : Int) + 1) = (x' : Int) := fun hb =>
        ⟨x + 1, ⟨by omega, fun i hi => by
          rcases Nat.lt_or_ge i x with h1 | h1
          · exact hx.2 i h1
          · rw [show i = x by omega]; exact hb⟩, by omega, wrap_succ (by omega)⟩
      generalize hvg : ls.getD x [] = v at *
      refine ⟨⟨by omega, by omega⟩, fun h3 => polys_bad hxl (fun hh => ?_), fun h3 => ⟨fun h4 => polys_bad hxl (fun hh => ?_), fun h4 => ⟨fun h5 => ?_, fun h5 => ?_⟩⟩⟩
      · rw [hvg] at hh
        have := (poly_ok hh).2.2.1; omega
      · rw [hvg] at hh
        have := (poly_ok hh).2.1
        rw [show elemsF (modF f) v = false from h4] at this; cases this
      · have e1 : IntKind.wrap IntKind.i64 ((v.length : Int) - 1) = ((v.length - 1 : Nat) : Int) := by rw [wrap_small (by omega)]; omega
        rw [e1]
        refine ⟨⟨by omega, by omega⟩, fun h6 => polys_bad hxl (fun hh => ?_), fun h6 => step (poly_of hm h4 (by omega) ((top_iff v).2 (.inr h6)))⟩
        rw [hvg] at hh
        rcases (top_iff v).1 (poly_ok hh).2.2.2 with h7 | h7
        · omega
        · exact h7 h6
      · exact step (poly_of hm h4 (by omega) ((top_iff v).2 (.inl (by omega))))
    · refine polys_yes ⟨hm, fun v hv => ?_⟩
      obtain ⟨i, hi, rfl⟩ := List.getElem_of_mem hv
      have := hx.2 i (by omega)
      rw [List.getD_eq_getElem?_getD, List.getElem?_eq_getElem hi] at this
      exact this
theorem v_I_PolyOk :
 ∀ (d : Int × List Int), Ty.wf i64T d.1 ∧ Ty.wf listT d.2 → True → (List.length [d.2] = (1 : Nat) ∨ List.length [d.2] = (2 : Nat)) ∧ (Ty.wf fldT (Prod.fst (polysF d.1 [d.2])) ∧ Ty.wf Ty.bool (Prod.snd (polysF d.1 [d.2]))
 → Prod.snd (polysF d.1 [d.2]) = polyB d.1 d.2) := by
  intro (d : Int × List Int) hw hp
  obtain ⟨f, a⟩ := d
  simp only [Int.toNat_natCast, exists_const, and_true, true_and, implies_true, decide_eq_true_eq, decide_eq_false_iff_not, Bool.not_eq_true', Bool.not_eq_false', beq_iff_eq, forall_const]
  refine ⟨.inl rfl, fun _ => ?_⟩
  rw [Bool.eq_iff_iff, polys_ok]
  exact ⟨fun h => h.2 a (List.mem_singleton.2 rfl), fun h => ⟨(poly_ok h).1, fun v hv => by rw [List.mem_singleton.1 hv]; exact h⟩⟩
theorem v_I_DivMod :
 ∀ (d : Int × List Int × List Int), Ty.wf i64T d.1 ∧ Ty.wf listT d.2.1 ∧ Ty.wf listT d.2.2 → True → (List.length [d.2.1, d.2.2] = (1 : Nat) ∨ List.length [d.2.1, d.2.2] = (2 : Nat)) ∧ (Ty.wf fldT (Prod.fst (polysF d.1
 [d.2.1, d.2.2])) ∧ Ty.wf Ty.bool (Prod.snd (polysF d.1 [d.2.1, d.2.2])) → ((!Prod.snd (polysF d.1 [d.2.1, d.2.2])) = true → ([], [], false) = divModF d.1 d.2.1 d.2.2) ∧ ((!Prod.snd (polysF d.1 [d.2.1, d.2.2])) = false →
 (decide ((↑d.2.2.length : Int) = (0 : Int)) = true → ([], [], false) = divModF d.1 d.2.1 d.2.2) ∧ (decide ((↑d.2.2.length : Int) = (0 : Int)) = false → DivP (Prod.fst (Prod.fst (polysF d.1 [d.2.1, d.2.2]))) d.2.1 d.2.2
 ∧ (Ty.wf listT (Prod.fst (divG (Prod.fst (Prod.fst (polysF d.1 [d.2.1, d.2.2]))) d.2.1 d.2.2)) ∧ Ty.wf listT (Prod.snd (divG (Prod.fst (Prod.fst (polysF d.1 [d.2.1, d.2.2]))) d.2.1 d.2.2)) → (Prod.fst (divG (Prod.fst
 (Prod.fst (polysF d.1 [d.2.1, d.2.2]))) d.2.1 d.2.2), Prod.snd (divG (Prod.fst (Prod.fst (polysF d.1 [d.2.1, d.2.2]))) d.2.1 d.2.2), true) = divModF d.1 d.2.1 d.2.2)))) := by
  intro (d : Int × List Int × List Int) hw hp
  obtain ⟨f, a, b⟩ := d
  simp only [Int.toNat_natCast, exists_const, and_true, true_and, implies_true, decide_eq_true_eq, decide_eq_false_iff_not, Bool.not_eq_true', Bool.not_eq_false', beq_iff_eq, forall_const]
  refine ⟨.inr rfl, fun _ => ⟨fun h => ?_, fun h => ?_⟩⟩
  · unfold divModF
    rw [if_neg (fun hh => ?_)]
    simp only [Bool.and_eq_true, decide_eq_true_eq] at hh
    have : (polysF f [a, b]).2 = true := polys_ok.2 ⟨(poly_ok hh.1.1).1, fun v hv => by
      rcases List.mem_cons.1 hv with h1 | h1
      · rw [h1]; exact hh.1.1
      · rw [List.mem_singleton.1 h1]; exact hh.1.2⟩
    rw [h] at this; cases this
  · have hk := polys_ok.1 h
    have ha := hk.2 a (List.mem_cons_self ..)
    have hb := hk.2 b (List.mem_cons_of_mem _ (List.mem_cons_self ..))
    have hmo : (polysF f [a, b]).1.1 = modF f := by rw [← polys_yes hk]; rfl
    rw [hmo]
    refine ⟨fun h1 => ?_, fun h1 => ⟨⟨f, rfl, ha, hb, by omega⟩, fun _ => ?_⟩⟩
    · unfold divModF
      rw [if_neg (fun hh => ?_)]
      simp only [Bool.and_eq_true, decide_eq_true_eq] at hh
      omega
    · unfold divModF
      rw [if_pos (by simp only [Bool.and_eq_true, decide_eq_true_eq]; exact ⟨⟨ha, hb⟩, by omega⟩)]
theorem v_I_seriesField :
 ∀ (d : Int × List (List Int)), Ty.wf i64T d.1 ∧ Ty.wf (Ty.sl listT) d.2 → d.2.length = (1 : Nat) → True ∧ (Ty.wf fldT (Prod.fst (fieldF d.1)) ∧ Ty.wf Ty.bool (Prod.snd (fieldF d.1)) → ((!Prod.snd (fieldF d.1)) = true →
 (((0 : Int), (0 : Int), (0 : Int)), false) = serF d.1 d.2) ∧ ((!Prod.snd (fieldF d.1)) = false → ((0 : Nat) ≤ (1 : Nat) ∧ ((0 : Nat) = (1 : Nat) → serB d.1 (d.2.getD (0 : Nat) []) = true)) ∧ ((d.1 = d.1 ∧ d.2 = d.2 ∧
 Prod.snd (fieldF d.1) = Prod.snd (fieldF d.1) ∧ d.2 = d.2 ∧ (↑d.2.length : Int) = (↑d.2.length : Int) ∧ (0 : Int) = (↑(0 : Nat) : Int)) ∧ ((0 : Int) = (0 : Int) ∧ (0 : Int) = (0 : Int) ∧ (0 : Int) = (0 : Int)) ∧
 Prod.fst (Prod.fst (fieldF d.1)) = Prod.fst (Prod.fst (fieldF d.1)) ∧ Prod.fst (Prod.snd (Prod.fst (fieldF d.1))) = Prod.fst (Prod.snd (Prod.fst (fieldF d.1))) ∧ Prod.snd (Prod.snd (Prod.fst (fieldF d.1))) = Prod.snd
 (Prod.snd (Prod.fst (fieldF d.1)))) ∧ ∀ (x : Nat), x ≤ (1 : Nat) ∧ (x = (1 : Nat) → serB d.1 (d.2.getD (0 : Nat) []) = true) → (decide ((↑x : Int) < (↑d.2.length : Int)) = true → ((0 : Int) ≤ (↑x : Int) ∧ (↑x : Int) <
 (↑d.2.length : Int)) ∧ (decide ((↑(List.length (d.2.getD (Int.toNat (↑x : Int)) [])) : Int) < (1 : Int)) = true → (((0 : Int), (0 : Int), (0 : Int)), false) = serF d.1 d.2) ∧ (decide ((↑(List.length (d.2.getD (Int.toNat
 (↑x : Int)) [])) : Int) < (1 : Int)) = false → (decide ((64 : Int) < (↑(List.length (d.2.getD (Int.toNat (↑x : Int)) [])) : Int)) = true → (((0 : Int), (0 : Int), (0 : Int)), false) = serF d.1 d.2) ∧ (decide ((64 : Int)
 < (↑(List.length (d.2.getD (Int.toNat (↑x : Int)) [])) : Int)) = false → True ∧ ((!elemsF (Prod.fst (Prod.fst (fieldF d.1))) (d.2.getD (Int.toNat (↑x : Int)) [])) = true → (((0 : Int), (0 : Int), (0 : Int)), false) =
 serF d.1 d.2) ∧ ((!elemsF (Prod.fst (Prod.fst (fieldF d.1))) (d.2.getD (Int.toNat (↑x : Int)) [])) = false → ((0 : Int) ≤ (0 : Int) ∧ (0 : Int) < (↑d.2.length : Int)) ∧ ((!decide ((↑(List.length (d.2.getD (Int.toNat (↑x
 : Int)) [])) : Int) = (↑(List.length (d.2.getD (Int.toNat (0 : Int)) [])) : Int))) = true → (((0 : Int), (0 : Int), (0 : Int)), false) = serF d.1 d.2) ∧ ((!decide ((↑(List.length (d.2.getD (Int.toNat (↑x : Int)) [])) :
 Int) = (↑(List.length (d.2.getD (Int.toNat (0 : Int)) [])) : Int))) = false → ∃ (x' : Nat), (x' ≤ (1 : Nat) ∧ (x' = (1 : Nat) → serB d.1 (d.2.getD (0 : Nat) []) = true)) ∧ (1 : Nat) - x' < (1 : Nat) - x ∧ (d.1 = d.1 ∧
 d.2 = d.2 ∧ Prod.snd (fieldF d.1) = Prod.snd (fieldF d.1) ∧ d.2 = d.2 ∧ (↑d.2.length : Int) = (↑d.2.length : Int) ∧ IntKind.wrap IntKind.i64 ((↑x : Int) + (1 : Int)) = (↑x' : Int)) ∧ ((0 : Int) = (0 : Int) ∧ (0 : Int) =
 (0 : Int) ∧ (0 : Int) = (0 : Int)) ∧ Prod.fst (Prod.fst (fieldF d.1)) = Prod.fst (Prod.fst (fieldF d.1)) ∧ Prod.fst (Prod.snd (Prod.fst (fieldF d.1))) = Prod.fst (Prod.snd (Prod.fst (fieldF d.1))) ∧ Prod.snd (Prod.snd
 (Prod.fst (fieldF d.1))) = Prod.snd (Prod.snd (Prod.fst (fieldF d.1)))))))) ∧ (decide ((↑x : Int) < (↑d.2.length : Int)) = false → (Prod.fst (fieldF d.1), true) = serF d.1 d.2))) := by
  intro (d : Int × List (List Int)) hw hp
  obtain ⟨f, vs⟩ := d
  replace hp : vs.length = 1 := hp
  obtain ⟨v, rfl⟩ : ∃ v, vs = [v] := by
    match vs, hp with
    | [v], _ => exact ⟨v, rfl⟩
  simp only [Int.toNat_natCast, exists_const, and_true, true_and, implies_true, decide_eq_true_eq, decide_eq_false_iff_not, Bool.not_eq_true', Bool.not_eq_false', beq_iff_eq, forall_const]
  intro _
  simp only [List.getD_cons_zero, Int.toNat_zero]
  refine ⟨fun h => serF_no (fun hh => ?_), fun h => ?_⟩
  · rw [fld_ok.2 (ser_at hh).2.2.1] at h; cases h
  · have hm := fld_ok.1 h
    refine ⟨⟨by omega, fun h => by omega⟩, rfl, fun x hx => ⟨fun hlt => ?_, fun hge => ?_⟩⟩
    · have hx0 : x = 0 := by simp at hlt; omega
      subst hx0
      simp only [List.getD_cons_zero, List.length_cons, List.length_nil] at *
      refine ⟨⟨by omega, by omega⟩, fun h3 => serF_no (fun hh => ?_), fun h3 => ⟨fun h4 => serF_no (fun hh => ?_), fun h4 => ⟨fun h5 => serF_no (fun hh => ?_), fun h5 => ⟨⟨by omega, by omega⟩, fun h6 => absurd (by trivial) h6, fun _ => ⟨1, ⟨by omega, fun _ => ?_⟩, by omega, rfl⟩⟩⟩⟩⟩
      · have := (ser_at hh).1; omega
      · have := (ser_at hh).2.1; omega
      · have := (ser_at hh).2.2.2
        rw [show elemsF (modF f) v = false from h5] at this; cases this
      · exact ser_of (by omega) (by omega) hm h5
    · have hx1 : x = 1 := by simp at hge; omega
      have := hx.2 hx1
      unfold serF
      rw [List.getD_cons_zero, if_pos this]
theorem v_I_SeriesInv :
 ∀ (d : Int × List Int), Ty.wf i64T d.1 ∧ Ty.wf listT d.2 → True → List.length [d.2] = (1 : Nat) ∧ (Ty.wf fldT (Prod.fst (serF d.1 [d.2])) ∧ Ty.wf Ty.bool (Prod.snd (serF d.1 [d.2])) → ((!Prod.snd (serF d.1 [d.2])) =
 true → ([], false) = serInvF d.1 d.2) ∧ ((!Prod.snd (serF d.1 [d.2])) = false → ((0 : Int) ≤ (0 : Int) ∧ (0 : Int) < (↑d.2.length : Int)) ∧ (decide (d.2.getD (Int.toNat (0 : Int)) (0 : Int) = (0 : Int)) = true → ([],
 false) = serInvF d.1 d.2) ∧ (decide (d.2.getD (Int.toNat (0 : Int)) (0 : Int) = (0 : Int)) = false → (IsMod (Prod.fst (Prod.fst (serF d.1 [d.2]))) ∧ elemsF (Prod.fst (Prod.fst (serF d.1 [d.2]))) d.2 = true ∧ (1 : Nat) ≤
 d.2.length ∧ d.2.length ≤ (64 : Nat)) ∧ (Ty.wf listT (siL (Prod.fst (Prod.fst (serF d.1 [d.2]))) d.2 d.2.length) → (siL (Prod.fst (Prod.fst (serF d.1 [d.2]))) d.2 d.2.length, true) = serInvF d.1 d.2)))) := by
  intro (d : Int × List Int) hw hp
  obtain ⟨f, a⟩ := d
  simp only [Int.toNat_natCast, exists_const, and_true, true_and, implies_true, decide_eq_true_eq, decide_eq_false_iff_not, Bool.not_eq_true', Bool.not_eq_false', beq_iff_eq, forall_const]
  refine ⟨rfl, fun _ => ⟨fun h => ?_, fun h => ?_⟩⟩
  · exact (si_no (fun hh => by rw [ser_ok.2 hh.1] at h; cases h)).symm
  · have hs := ser_ok.1 h
    obtain ⟨h1, h2, hm, he⟩ := ser_at hs
    rw [ser_mod hs]
    refine ⟨⟨by omega, by omega⟩, fun h0 => (si_no (fun hh => hh.2 h0)).symm, fun h0 => ⟨⟨(mod_is hm).1, he, h1, h2⟩, fun _ => (si_yes hs h0).symm⟩⟩
theorem v_S_EvalMany :
 ∀ (d : Int × List Int × List Int), Ty.wf i64T d.1 ∧ Ty.wf listT d.2.1 ∧ Ty.wf listT d.2.2 → True → True ∧ ((!polyB d.1 d.2.1) = true → [] = evManyJ d.1 d.2.1 d.2.2) ∧ ((!polyB d.1 d.2.1) = false → (decide ((40 : Int) <
 (↑d.2.2.length : Int)) = true → [] = evManyJ d.1 d.2.1 d.2.2) ∧ (decide ((40 : Int) < (↑d.2.2.length : Int)) = false → True ∧ ((!specElemsF d.1 d.2.2) = true → [] = evManyJ d.1 d.2.1 d.2.2) ∧ ((!specElemsF d.1 d.2.2) =
 false → (0 : Nat) ≤ d.2.2.length ∧ ((d.1 = d.1 ∧ d.2.1 = d.2.1 ∧ d.2.2 = d.2.2 ∧ Value.slice none (0 : Nat) (0 : Nat) = Value.slice none (0 : Nat) (0 : Nat) ∧ (0 : Int) = (↑(0 : Nat) : Int)) ∧ [] = evM (modF d.1) d.2.1
 d.2.2 (0 : Nat)) ∧ ∀ (x : Nat), x ≤ d.2.2.length → (decide ((↑x : Int) < (↑d.2.2.length : Int)) = true → ((0 : Int) ≤ (↑x : Int) ∧ (↑x : Int) < (↑d.2.2.length : Int)) ∧ True ∧ (Ty.wf i64T (evS d.1 d.2.1 (d.2.2.getD
 (Int.toNat (↑x : Int)) (0 : Int))) → (List.length (evM (modF d.1) d.2.1 d.2.2 x) + List.length [evS d.1 d.2.1 (d.2.2.getD (Int.toNat (↑x : Int)) (0 : Int))]) * (8 : Nat) ≤ (140737488355328 : Nat) ∧ ∃ (x' : Nat), x' ≤
 d.2.2.length ∧ d.2.2.length - x' < d.2.2.length - x ∧ (d.1 = d.1 ∧ d.2.1 = d.2.1 ∧ d.2.2 = d.2.2 ∧ Value.slice none (0 : Nat) (0 : Nat) = Value.slice none (0 : Nat) (0 : Nat) ∧ IntKind.wrap IntKind.i64 ((↑x : Int) + (1
 : Int)) = (↑x' : Int)) ∧ evM (modF d.1) d.2.1 d.2.2 x ++ [evS d.1 d.2.1 (d.2.2.getD (Int.toNat (↑x : Int)) (0 : Int))] = evM (modF d.1) d.2.1 d.2.2 x')) ∧ (decide ((↑x : Int) < (↑d.2.2.length : Int)) = false → evM (modF
 d.1) d.2.1 d.2.2 x = evManyJ d.1 d.2.1 d.2.2)))) := by
  intro (d : Int × List Int × List Int) hw hp
  obtain ⟨f, a, xs⟩ := d
  simp only [Int.toNat_natCast, exists_const, and_true, true_and, implies_true, decide_eq_true_eq, decide_eq_false_iff_not, Bool.not_eq_true', Bool.not_eq_false', beq_iff_eq, forall_const]
  have no : ¬ (polyB f a = true ∧ xs.length ≤ 40 ∧ specElemsF f xs = true) → [] = evManyJ f a xs := fun h => by
    unfold evManyJ evOkF
    rw [if_neg (fun hh => h ?_)]
    simp only [Bool.and_eq_true, decide_eq_true_eq] at hh
    exact ⟨hh.1.1, hh.1.2, hh.2⟩
  refine ⟨fun h => no (by simp [h]), fun h => ⟨fun h1 => no (by omega), fun h1 => ⟨fun h2 => no (by simp [h2]), fun h2 => ⟨by omega, ⟨rfl, rfl⟩, fun x hx => ⟨fun h3 => ⟨⟨by omega, by omega⟩, fun _ => ⟨?_, x + 1, by omega, by omega, wrap_succ (by omega), ?_⟩⟩, fun h3 => ?_⟩⟩⟩⟩⟩
  · rw [evM_len]
    simp only [List.length_cons, List.length_nil]; omega
  · rw [show evS f a (xs.getD x 0) = evP (modF f) a (xs.getD x 0) by unfold evS; rw [if_pos h]]
    exact evM_succ _ _ _ _
  · unfold evManyJ evOkF
    rw [if_pos (by simp only [Bool.and_eq_true, decide_eq_true_eq]; exact ⟨⟨h, by omega⟩, h2⟩), show x = xs.length by omega]
end Go.SF
