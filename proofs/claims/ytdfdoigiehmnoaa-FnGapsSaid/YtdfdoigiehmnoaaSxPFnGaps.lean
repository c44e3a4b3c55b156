/- FnGaps: what is owed of the law's code. No condition. -/
import Derived.Test.YtdfdoigiehmnoaaSxPWordB
namespace Go.SF
open Go.SX Go
set_option linter.unusedVariables false
set_option linter.unusedSimpArgs false
set_option maxRecDepth 10000
theorem small10 {l : List Int} (h : l.length ≤ 10) : SmallL l := by unfold SmallL; omega
/-- What is left of a word is decoded. -/
theorem gap_word {f : Int} {xs m w : List Int} (hw : w = encS f xs m) (h0 : w.length ≠ 0) (g : Nat → Bool) (v : Nat → Int) {K : Nat} (hK : K ≤ w.length) (hn : (flL g K).length ≤ xs.length - m.length) :
    gapF f xs (chW g v w K) m.length (flL g K) = (m, 0, true) := by
  subst hw
  obtain ⟨hc, hm, he⟩ := encS_yes h0
  rw [he] at hK ⊢
  rw [evM_len] at hK
  obtain ⟨hpt, hn10, hk1, hk2⟩ := code_ok hc
  obtain ⟨hmod, hx1, hx2, hex, hnd⟩ := pt_ok hpt
  have hi := (mod_pr hmod).mod
  have hJ : GonJ xs.length (flL g K) (flL g K).length := fun i hi' => by
    obtain ⟨h1, h2, h3⟩ := fl_gon g K i hi'
    exact ⟨h1, by omega, h3⟩
  rw [gap_yes hc (by rw [ch_len, evM_len]) hJ]
  have hX := drop_fl xs g K xs.length
  rw [show min xs.length K = K by omega] at hX
  have hsub : (dropL xs (flL g K) xs.length).Sublist xs := by
    have := drop_sub (l := xs) (gone := flL g K) xs.length (Nat.le_refl _)
    rwa [List.take_length] at this
  have hY : dropL (chW g v (evM (modF f) m xs xs.length) K) (flL g K) xs.length = evM (modF f) m (dropL xs (flL g K) xs.length) (dropL xs (flL g K) xs.length).length := by
    rw [evM_map (modF f) m (dropL xs (flL g K) xs.length), ← drop_map (evP (modF f) m) xs.length (Nat.le_refl _), ← evM_map]
    refine drop_eq xs.length (fun t ht hg => ?_)
    rw [ch_get g v _ t (by rw [evM_len]; exact ht), if_neg (fun hh => hg ((fl_mem g t K).2 hh))]
  rw [hY]
  generalize dropL xs (flL g K) xs.length = X at *
  have hptX : pointsF f X = true := pt_of hmod (by omega) (by omega) (sublist_elems hsub hex) (hnd.sublist hsub)
  have hcX : codeB f X m.length = true := code_of hptX (by omega) hk1 (by omega)
  have hd := dif_self (a := evM (modF f) m X X.length) X.length (by rw [evM_len]; exact Nat.le_refl _)
  have h := dec_near (ys := evM (modF f) m X X.length) hcX hm (evM_len _ _ _ _) (spec_of hmod (elems_mr (fun i _ => el_evP hi _ _))) (by rw [hd]; omega)
  rw [h, hd]
  rfl
theorem v_FnGaps :
  ∀ (d : List Int), Ty.wf (Ty.sl (Ty.int IntKind.u8)) d → True → True ∧ (bigF d = true → true = true) ∧ (bigF d = false → True ∧ (Ty.wf i64T (Prod.fst (drawEW d)) ∧ Ty.wf listT (Prod.fst (Prod.snd (drawEW d))) ∧ Ty.wf
  listT (Prod.snd (Prod.snd (drawEW d))) → True ∧ (Ty.wf listT (encS (Prod.fst (drawEW d)) (Prod.fst (Prod.snd (drawEW d))) (Prod.snd (Prod.snd (drawEW d)))) → (decide ((↑(List.length (encS (Prod.fst (drawEW d))
  (Prod.fst (Prod.snd (drawEW d))) (Prod.snd (Prod.snd (drawEW d))))) : Int) = (0 : Int)) = true → true = true) ∧ (decide ((↑(List.length (encS (Prod.fst (drawEW d)) (Prod.fst (Prod.snd (drawEW d))) (Prod.snd (Prod.snd
  (drawEW d))))) : Int) = (0 : Int)) = false → ((0 : Nat) ≤ List.length (lwW d) ∧ List.length (flL (gpG d) (0 : Nat)) ≤ List.length (Prod.fst (Prod.snd (drawEW d))) - List.length (Prod.snd (Prod.snd (drawEW d)))) ∧ ((d =
  d ∧ Prod.fst (drawEW d) = Prod.fst (drawEW d) ∧ (0 : Int) = (↑(0 : Nat) : Int)) ∧ Prod.fst (Prod.snd (drawEW d)) = Prod.fst (Prod.snd (drawEW d)) ∧ Prod.snd (Prod.snd (drawEW d)) = Prod.snd (Prod.snd (drawEW d)) ∧ encS
  (Prod.fst (drawEW d)) (Prod.fst (Prod.snd (drawEW d))) (Prod.snd (Prod.snd (drawEW d))) = chW (gpG d) (gpV (Prod.fst (drawEW d)) (lwW d)) (lwW d) (0 : Nat) ∧ [] = flL (gpG d) (0 : Nat)) ∧ ∀ (x : Nat), x ≤ List.length
  (lwW d) ∧ List.length (flL (gpG d) x) ≤ List.length (Prod.fst (Prod.snd (drawEW d))) - List.length (Prod.snd (Prod.snd (drawEW d))) → (decide ((↑x : Int) < (↑(List.length (chW (gpG d) (gpV (Prod.fst (drawEW d)) (lwW
  d)) (lwW d) x)) : Int)) = true → (decide ((↑(List.length (Prod.snd (Prod.snd (drawEW d)))) : Int) < IntKind.wrap IntKind.i64 ((↑(List.length (Prod.fst (Prod.snd (drawEW d)))) : Int) - (↑(List.length (flL (gpG d) x)) :
  Int))) = true → (0 : Tup [i64T]) ≤ (↑x : Int) ∧ (Ty.wf i64T (codeAt d (↑x : Int)) → (3 : Int) ≠ (0 : Int) ∧ (decide (Int.tmod (codeAt d (↑x : Int)) (3 : Int) = (0 : Int)) = true → (List.length (flL (gpG d) x) +
  List.length [(↑x : Int)]) * (8 : Nat) ≤ (140737488355328 : Nat) ∧ ((0 : Int) ≤ (↑x : Int) ∧ (↑x : Int) < (↑(List.length (chW (gpG d) (gpV (Prod.fst (drawEW d)) (lwW d)) (lwW d) x)) : Int)) ∧ True ∧ (Ty.wf i64T (addS
  (Prod.fst (drawEW d)) (List.getD (chW (gpG d) (gpV (Prod.fst (drawEW d)) (lwW d)) (lwW d) x) (Int.toNat (↑x : Int)) (0 : Int)) (1 : Int)) → ((0 : Int) ≤ (↑x : Int) ∧ (↑x : Int) < (↑(List.length (chW (gpG d) (gpV
  (Prod.fst (drawEW d)) (lwW d)) (lwW d) x)) : Int)) ∧ ∃ (x' : Nat), (x' ≤ List.length (lwW d) ∧ List.length (flL (gpG d) x') ≤ List.length (Prod.fst (Prod.snd (drawEW d))) - List.length (Prod.snd (Prod.snd (drawEW d))))
  ∧ List.length (lwW d) - x' < List.length (lwW d) - x ∧ (d = d ∧ Prod.fst (drawEW d) = Prod.fst (drawEW d) ∧ IntKind.wrap IntKind.i64 ((↑x : Int) + (1 : Int)) = (↑x' : Int)) ∧ Prod.fst (Prod.snd (drawEW d)) = Prod.fst
  (Prod.snd (drawEW d)) ∧ Prod.snd (Prod.snd (drawEW d)) = Prod.snd (Prod.snd (drawEW d)) ∧ List.set (chW (gpG d) (gpV (Prod.fst (drawEW d)) (lwW d)) (lwW d) x) (Int.toNat (↑x : Int)) (addS (Prod.fst (drawEW d))
  (List.getD (chW (gpG d) (gpV (Prod.fst (drawEW d)) (lwW d)) (lwW d) x) (Int.toNat (↑x : Int)) (0 : Int)) (1 : Int)) = chW (gpG d) (gpV (Prod.fst (drawEW d)) (lwW d)) (lwW d) x' ∧ flL (gpG d) x ++ [(↑x : Int)] = flL
  (gpG d) x')) ∧ (decide (Int.tmod (codeAt d (↑x : Int)) (3 : Int) = (0 : Int)) = false → ∃ (x' : Nat), (x' ≤ List.length (lwW d) ∧ List.length (flL (gpG d) x') ≤ List.length (Prod.fst (Prod.snd (drawEW d))) -
  List.length (Prod.snd (Prod.snd (drawEW d)))) ∧ List.length (lwW d) - x' < List.length (lwW d) - x ∧ (d = d ∧ Prod.fst (drawEW d) = Prod.fst (drawEW d) ∧ IntKind.wrap IntKind.i64 ((↑x : Int) + (1 : Int)) = (↑x' : Int))
  ∧ Prod.fst (Prod.snd (drawEW d)) = Prod.fst (Prod.snd (drawEW d)) ∧ Prod.snd (Prod.snd (drawEW d)) = Prod.snd (Prod.snd (drawEW d)) ∧ chW (gpG d) (gpV (Prod.fst (drawEW d)) (lwW d)) (lwW d) x = chW (gpG d) (gpV
  (Prod.fst (drawEW d)) (lwW d)) (lwW d) x' ∧ flL (gpG d) x = flL (gpG d) x'))) ∧ (decide ((↑(List.length (Prod.snd (Prod.snd (drawEW d)))) : Int) < IntKind.wrap IntKind.i64 ((↑(List.length (Prod.fst (Prod.snd (drawEW
  d)))) : Int) - (↑(List.length (flL (gpG d) x)) : Int))) = false → SmallL (Prod.fst (Prod.snd (drawEW d))) ∧ (Ty.wf listT (Prod.fst (Prod.snd (drawEW d))) → SmallL (chW (gpG d) (gpV (Prod.fst (drawEW d)) (lwW d)) (lwW
  d) x) ∧ (Ty.wf listT (chW (gpG d) (gpV (Prod.fst (drawEW d)) (lwW d)) (lwW d) x) → SmallL (flL (gpG d) x) ∧ (Ty.wf listT (flL (gpG d) x) → True ∧ (Ty.wf listT (Prod.fst (gapF (Prod.fst (drawEW d)) (Prod.fst (Prod.snd
  (drawEW d))) (chW (gpG d) (gpV (Prod.fst (drawEW d)) (lwW d)) (lwW d) x) (↑(List.length (Prod.snd (Prod.snd (drawEW d)))) : Int) (flL (gpG d) x))) ∧ Ty.wf i64T (Prod.fst (Prod.snd (gapF (Prod.fst (drawEW d)) (Prod.fst
  (Prod.snd (drawEW d))) (chW (gpG d) (gpV (Prod.fst (drawEW d)) (lwW d)) (lwW d) x) (↑(List.length (Prod.snd (Prod.snd (drawEW d)))) : Int) (flL (gpG d) x)))) ∧ Ty.wf Ty.bool (Prod.snd (Prod.snd (gapF (Prod.fst (drawEW
  d)) (Prod.fst (Prod.snd (drawEW d))) (chW (gpG d) (gpV (Prod.fst (drawEW d)) (lwW d)) (lwW d) x) (↑(List.length (Prod.snd (Prod.snd (drawEW d)))) : Int) (flL (gpG d) x)))) → (Prod.snd (Prod.snd (gapF (Prod.fst (drawEW
  d)) (Prod.fst (Prod.snd (drawEW d))) (chW (gpG d) (gpV (Prod.fst (drawEW d)) (lwW d)) (lwW d) x) (↑(List.length (Prod.snd (Prod.snd (drawEW d)))) : Int) (flL (gpG d) x))) = true → (decide (Prod.fst (Prod.snd (gapF
  (Prod.fst (drawEW d)) (Prod.fst (Prod.snd (drawEW d))) (chW (gpG d) (gpV (Prod.fst (drawEW d)) (lwW d)) (lwW d) x) (↑(List.length (Prod.snd (Prod.snd (drawEW d)))) : Int) (flL (gpG d) x))) = (0 : Int)) = true → True ∧
  sameF (Prod.fst (gapF (Prod.fst (drawEW d)) (Prod.fst (Prod.snd (drawEW d))) (chW (gpG d) (gpV (Prod.fst (drawEW d)) (lwW d)) (lwW d) x) (↑(List.length (Prod.snd (Prod.snd (drawEW d)))) : Int) (flL (gpG d) x)))
  (Prod.snd (Prod.snd (drawEW d))) = true) ∧ (decide (Prod.fst (Prod.snd (gapF (Prod.fst (drawEW d)) (Prod.fst (Prod.snd (drawEW d))) (chW (gpG d) (gpV (Prod.fst (drawEW d)) (lwW d)) (lwW d) x) (↑(List.length (Prod.snd
  (Prod.snd (drawEW d)))) : Int) (flL (gpG d) x))) = (0 : Int)) = false → false = true)) ∧ (Prod.snd (Prod.snd (gapF (Prod.fst (drawEW d)) (Prod.fst (Prod.snd (drawEW d))) (chW (gpG d) (gpV (Prod.fst (drawEW d)) (lwW d))
  (lwW d) x) (↑(List.length (Prod.snd (Prod.snd (drawEW d)))) : Int) (flL (gpG d) x))) = false → false = true))))))) ∧ (decide ((↑x : Int) < (↑(List.length (chW (gpG d) (gpV (Prod.fst (drawEW d)) (lwW d)) (lwW d) x)) :
  Int)) = false → SmallL (Prod.fst (Prod.snd (drawEW d))) ∧ (Ty.wf listT (Prod.fst (Prod.snd (drawEW d))) → SmallL (chW (gpG d) (gpV (Prod.fst (drawEW d)) (lwW d)) (lwW d) x) ∧ (Ty.wf listT (chW (gpG d) (gpV (Prod.fst
  (drawEW d)) (lwW d)) (lwW d) x) → SmallL (flL (gpG d) x) ∧ (Ty.wf listT (flL (gpG d) x) → True ∧ (Ty.wf listT (Prod.fst (gapF (Prod.fst (drawEW d)) (Prod.fst (Prod.snd (drawEW d))) (chW (gpG d) (gpV (Prod.fst (drawEW
  d)) (lwW d)) (lwW d) x) (↑(List.length (Prod.snd (Prod.snd (drawEW d)))) : Int) (flL (gpG d) x))) ∧ Ty.wf i64T (Prod.fst (Prod.snd (gapF (Prod.fst (drawEW d)) (Prod.fst (Prod.snd (drawEW d))) (chW (gpG d) (gpV
  (Prod.fst (drawEW d)) (lwW d)) (lwW d) x) (↑(List.length (Prod.snd (Prod.snd (drawEW d)))) : Int) (flL (gpG d) x)))) ∧ Ty.wf Ty.bool (Prod.snd (Prod.snd (gapF (Prod.fst (drawEW d)) (Prod.fst (Prod.snd (drawEW d))) (chW
  (gpG d) (gpV (Prod.fst (drawEW d)) (lwW d)) (lwW d) x) (↑(List.length (Prod.snd (Prod.snd (drawEW d)))) : Int) (flL (gpG d) x)))) → (Prod.snd (Prod.snd (gapF (Prod.fst (drawEW d)) (Prod.fst (Prod.snd (drawEW d))) (chW
  (gpG d) (gpV (Prod.fst (drawEW d)) (lwW d)) (lwW d) x) (↑(List.length (Prod.snd (Prod.snd (drawEW d)))) : Int) (flL (gpG d) x))) = true → (decide (Prod.fst (Prod.snd (gapF (Prod.fst (drawEW d)) (Prod.fst (Prod.snd
  (drawEW d))) (chW (gpG d) (gpV (Prod.fst (drawEW d)) (lwW d)) (lwW d) x) (↑(List.length (Prod.snd (Prod.snd (drawEW d)))) : Int) (flL (gpG d) x))) = (0 : Int)) = true → True ∧ sameF (Prod.fst (gapF (Prod.fst (drawEW
  d)) (Prod.fst (Prod.snd (drawEW d))) (chW (gpG d) (gpV (Prod.fst (drawEW d)) (lwW d)) (lwW d) x) (↑(List.length (Prod.snd (Prod.snd (drawEW d)))) : Int) (flL (gpG d) x))) (Prod.snd (Prod.snd (drawEW d))) = true) ∧
  (decide (Prod.fst (Prod.snd (gapF (Prod.fst (drawEW d)) (Prod.fst (Prod.snd (drawEW d))) (chW (gpG d) (gpV (Prod.fst (drawEW d)) (lwW d)) (lwW d) x) (↑(List.length (Prod.snd (Prod.snd (drawEW d)))) : Int) (flL (gpG d)
  x))) = (0 : Int)) = false → false = true)) ∧ (Prod.snd (Prod.snd (gapF (Prod.fst (drawEW d)) (Prod.fst (Prod.snd (drawEW d))) (chW (gpG d) (gpV (Prod.fst (drawEW d)) (lwW d)) (lwW d) x) (↑(List.length (Prod.snd
  (Prod.snd (drawEW d)))) : Int) (flL (gpG d) x))) = false → false = true)))))))))) := by
  intro d hd _
  generalize hP : drawEW d = P
  obtain ⟨f, xs, m⟩ := P
  have hW : lwW d = encS f xs m := by unfold lwW; rw [hP]
  rw [hW]
  dsimp only
  generalize hw : encS f xs m = w at *
  simp only [Int.toNat_natCast, exists_const, and_true, true_and, implies_true, decide_eq_true_eq, decide_eq_false_iff_not, Bool.not_eq_true', Bool.not_eq_false', beq_iff_eq, forall_const]
  intro hb _ _ h0
  have h0' : w.length ≠ 0 := fun e => h0 (by rw [e]; rfl)
  obtain ⟨hc, hm, he⟩ := encS_yes (f := f) (xs := xs) (m := m) (by rw [hw]; exact h0')
  rw [hw] at he
  obtain ⟨hpt, hn10, hk1, hk2⟩ := code_ok hc
  have hwl : w.length = xs.length := by rw [he, evM_len]
  have hcl : ∀ n, (chW (gpG d) (gpV f w) w n).length = w.length := ch_len _ _ _
  have sx : SmallL xs := small10 hn10
  have hend : ∀ x, x ≤ w.length ∧ (flL (gpG d) x).length ≤ xs.length - m.length → gapF f xs (chW (gpG d) (gpV f w) w x) m.length (flL (gpG d) x) = (m, 0, true) := fun x hx => gap_word hw.symm h0' _ _ hx.1 hx.2
  refine ⟨⟨Nat.zero_le _, Nat.zero_le _⟩, ⟨rfl, rfl, rfl⟩, fun x hx => ?_⟩
  have hfl := fl_le (gpG d) x
  have hwr : IntKind.wrap IntKind.i64 ((xs.length : Int) - (flL (gpG d) x).length) = (xs.length : Int) - (flL (gpG d) x).length := wrap_small (by omega)
  have sc : SmallL (chW (gpG d) (gpV f w) w x) := small10 (by rw [hcl]; omega)
  have sf : SmallL (flL (gpG d) x) := small10 (by omega)
  have hfin : SmallL xs ∧ (Ty.wf listT xs → SmallL (chW (gpG d) (gpV f w) w x) ∧ (Ty.wf listT (chW (gpG d) (gpV f w) w x) → SmallL (flL (gpG d) x) ∧ (Ty.wf listT (flL (gpG d) x) →
      Ty.wf listT (gapF f xs (chW (gpG d) (gpV f w) w x) (m.length : Int) (flL (gpG d) x)).1 ∧ Ty.wf i64T (gapF f xs (chW (gpG d) (gpV f w) w x) (m.length : Int) (flL (gpG d) x)).2.1 ∧ Ty.wf Ty.bool (gapF f xs (chW (gpG d) (gpV f w) w x) (m.length : Int) (flL (gpG d) x)).2.2 →
      ((gapF f xs (chW (gpG d) (gpV f w) w x) (m.length : Int) (flL (gpG d) x)).2.2 = true →
        ((gapF f xs (chW (gpG d) (gpV f w) w x) (m.length : Int) (flL (gpG d) x)).2.1 = 0 → sameF (gapF f xs (chW (gpG d) (gpV f w) w x) (m.length : Int) (flL (gpG d) x)).1 m = true) ∧
        (¬ (gapF f xs (chW (gpG d) (gpV f w) w x) (m.length : Int) (flL (gpG d) x)).2.1 = 0 → false = true)) ∧
      ((gapF f xs (chW (gpG d) (gpV f w) w x) (m.length : Int) (flL (gpG d) x)).2.2 = false → false = true)))) := by
    rw [hend x hx]
    exact ⟨sx, fun _ => ⟨sc, fun _ => ⟨sf, fun _ _ => ⟨fun _ => ⟨fun _ => decide_eq_true rfl, fun h => absurd rfl h⟩, fun h => (by cases h)⟩⟩⟩⟩
  refine ⟨fun hlt => ⟨fun hgo => ⟨by show (0 : Int) ≤ (x : Int); omega, fun _ => ⟨by decide, fun hg => ?_, fun hg => ?_⟩⟩, fun _ => hfin⟩, fun _ => hfin⟩
  · have hgt : gpG d x = true := decide_eq_true hg
    rw [hwr] at hgo
    rw [hcl] at hlt
    refine ⟨by simp; omega, ⟨by omega, by rw [hcl]; omega⟩, fun _ => ⟨⟨by omega, by rw [hcl]; omega⟩, x + 1, ⟨by omega, ?_⟩, by omega, wrap_succ (by omega), ?_, ?_⟩⟩
    · rw [fl_succ, if_pos hgt, List.length_append]; simp only [List.length_cons, List.length_nil]; omega
    · rw [ch_succ, if_pos hgt, ch_get _ _ _ _ (by omega), if_neg (by omega)]; rfl
    · rw [fl_succ, if_pos hgt]
  · have hgt : ¬ gpG d x = true := fun h => hg (of_decide_eq_true h)
    rw [hcl] at hlt
    exact ⟨x + 1, ⟨by omega, by rw [fl_succ, if_neg hgt]; exact hx.2⟩, by omega, wrap_succ (by omega), by rw [ch_succ, if_neg hgt], by rw [fl_succ, if_neg hgt]⟩
end Go.SF
