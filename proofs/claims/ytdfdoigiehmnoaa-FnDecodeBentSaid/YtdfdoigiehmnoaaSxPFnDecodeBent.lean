/- FnDecodeBent: what is owed of the law's code. No condition. -/
import Derived.Test.YtdfdoigiehmnoaaSxPWordB
namespace Go.SF
open Go.SX Go
set_option linter.unusedVariables false
set_option linter.unusedSimpArgs false
set_option maxRecDepth 10000
theorem small10' {l : List Int} (h : l.length ≤ 10) : SmallL l := by unfold SmallL; omega
theorem min_succ_lt {i K : Nat} (h : i < K) : min (i + 1) K = i + 1 ∧ min i K = i := ⟨by omega, by omega⟩
theorem min_succ_ge {i K : Nat} (h : ¬ i < K) : min (i + 1) K = K ∧ min i K = K := ⟨by omega, by omega⟩
theorem bent_dif {g : Nat → Bool} {v : Nat → Int} {w : List Int} {K : Nat} (hv : ∀ t, t < w.length → v t ≠ w.getD t 0) : ∀ i, i ≤ w.length → difX w (chW g v w K) i = (flL g (min i K)).length
  | 0, _ => by rw [Nat.zero_min]; rfl
  | i + 1, h => by
    have ih := bent_dif (g := g) (K := K) hv i (by omega)
    have hg := ch_get g v w i (by omega) K
    have hl := ch_len g v w K
    rw [dif_succ]
    by_cases hK : i < K
    · rw [(min_succ_lt hK).1, fl_succ]
      rw [(min_succ_lt hK).2] at ih
      by_cases hgi : g i = true
      · rw [if_pos ⟨hK, hgi⟩] at hg
        rw [if_neg (fun hh => hv i (by omega) (hg.symm.trans hh.2.2.symm)), if_pos hgi, List.length_append]
        simp only [List.length_cons, List.length_nil]; omega
      · rw [if_neg (fun hh => hgi hh.2)] at hg
        rw [if_pos ⟨by omega, by omega, hg.symm⟩, if_neg hgi]; exact ih
    · rw [(min_succ_ge hK).1]
      rw [(min_succ_ge hK).2] at ih
      rw [if_neg (fun hh => hK hh.1)] at hg
      rw [if_pos ⟨by omega, by omega, hg.symm⟩]; exact ih
theorem bent_blm {g : Nat → Bool} {v : Nat → Int} {w : List Int} {K : Nat} (hv : ∀ t, t < w.length → v t ≠ w.getD t 0) : ∀ i, i ≤ w.length → blmL w (chW g v w K) i = flL g (min i K)
  | 0, _ => by rw [Nat.zero_min]; rfl
  | i + 1, h => by
    have ih := bent_blm (g := g) (K := K) hv i (by omega)
    have hg := ch_get g v w i (by omega) K
    show (if w.getD i 0 = (chW g v w K).getD i 0 then blmL w (chW g v w K) i else blmL w (chW g v w K) i ++ [(i : Int)]) = _
    by_cases hK : i < K
    · rw [(min_succ_lt hK).1, fl_succ]
      rw [(min_succ_lt hK).2] at ih
      by_cases hgi : g i = true
      · rw [if_pos ⟨hK, hgi⟩] at hg
        rw [if_neg (fun hh => hv i (by omega) (hg.symm.trans hh.symm)), if_pos hgi, ih]
      · rw [if_neg (fun hh => hgi hh.2)] at hg
        rw [if_pos hg.symm, if_neg hgi]; exact ih
    · rw [(min_succ_ge hK).1]
      rw [(min_succ_ge hK).2] at ih
      rw [if_neg (fun hh => hK hh.1)] at hg
      rw [if_pos hg.symm]; exact ih
theorem db_new {d : List Int} {f : Int} {w : List Int} (hd : Ty.wf codeT d) (hlen : d.length ≤ 1048576) (hm : modF f ≠ 0) (hw : elemsF (modF f) w = true) {t : Nat} (ht : t < w.length) (h10 : t ≤ 100) : El (modF f) (dbV d f w t) ∧ dbV d f w t ≠ w.getD t 0 := by
  have hi := (mod_is hm).1
  have he := el_at hw ht
  have e1 : w64 ((t : Int) + 1) = (t : Int) + 1 := wrap_small (by omega)
  have e2 : w64 (modF f - 1) = modF f - 1 := by unfold IsMod at hi; exact wrap_small (by omega)
  have hc := at_range hd hlen (i := (t : Int) + 1) (by omega) (by omega)
  unfold dbV
  rw [e1, e2, addS_at hm, Int.tmod_eq_emod_of_nonneg hc.1]
  unfold IsMod at hi
  have h1 := Int.emod_nonneg (codeAt d ((t : Int) + 1)) (show modF f - 1 ≠ 0 by omega)
  have h2 := Int.emod_lt_of_pos (codeAt d ((t : Int) + 1)) (show 0 < modF f - 1 by omega)
  have e3 : w64 (1 + codeAt d ((t : Int) + 1) % (modF f - 1)) = 1 + codeAt d ((t : Int) + 1) % (modF f - 1) := wrap_small (by omega)
  rw [e3]
  generalize codeAt d ((t : Int) + 1) % (modF f - 1) = u at *
  refine ⟨el_addM (mod_is hm).1 _ _, ?_⟩
  unfold addM
  unfold El at he
  generalize w.getD t 0 = y at *
  generalize modF f = p at *
  by_cases h : y + (1 + u) < p
  · rw [Int.emod_eq_of_lt (by omega) h]; omega
  · have : (y + (1 + u)) % p = y + (1 + u) - p := by
      rw [← Int.emod_eq_of_lt (a := y + (1 + u) - p) (b := p) (by omega) (by omega), Int.sub_emod_right]
    rw [this]; omega
/-- A bent word is decoded, and the bent places are told. -/
theorem bent_word {d : List Int} (hd : Ty.wf codeT d) (hlen : d.length ≤ 1048576) {f : Int} {xs m w : List Int} (hw : w = encS f xs m) (h0 : w.length ≠ 0) {K : Nat} (hK : K ≤ w.length) (hn : (flL (dbG d) K).length ≤ (xs.length - m.length) / 2) :
    decF f xs (chW (dbG d) (dbV d f w) w K) m.length = (m, ((flL (dbG d) K).length : Int), true) ∧ blmF f xs (chW (dbG d) (dbV d f w) w K) m.length = flL (dbG d) K ∧ difS w (chW (dbG d) (dbV d f w) w K) = ((flL (dbG d) K).length : Int) := by
  subst hw
  obtain ⟨hc, hm, he⟩ := encS_yes h0
  generalize encS f xs m = w at *
  obtain ⟨hpt, hn10, hk1, hk2⟩ := code_ok hc
  obtain ⟨hmod, hx1, hx2, hex, hnd⟩ := pt_ok hpt
  have hi := (mod_pr hmod).mod
  have hwl : w.length = xs.length := by rw [he, evM_len]
  have hwe : elemsF (modF f) w = true := by rw [he]; exact elems_mr (fun i _ => el_evP hi _ _)
  have hv : ∀ t, t < w.length → El (modF f) (dbV d f w t) ∧ dbV d f w t ≠ w.getD t 0 := fun t ht => db_new hd hlen hmod hwe ht (by omega)
  have hl := ch_len (dbG d) (dbV d f w) w K
  have h1 := bent_dif (g := dbG d) (K := K) (fun t ht => (hv t ht).2) w.length (Nat.le_refl _)
  have h2 := bent_blm (g := dbG d) (K := K) (fun t ht => (hv t ht).2) w.length (Nat.le_refl _)
  rw [show min w.length K = K by omega] at h1 h2
  have hbe : elemsF (modF f) (chW (dbG d) (dbV d f w) w K) = true := elems_of (fun t ht => by
    rw [hl] at ht
    rw [ch_get _ _ _ _ ht]
    split
    · exact (hv t ht).1
    · exact el_at hwe ht)
  generalize chW (dbG d) (dbV d f w) w K = b at *
  have hD := dec_near (ys := b) hc hm (by omega) (spec_of hmod hbe) (by rw [← he, ← hwl, h1]; rw [hwl]; exact hn)
  rw [← he, ← hwl, h1] at hD
  refine ⟨hD, ?_, ?_⟩
  · unfold blmF
    rw [hD]
    simp only [if_true]
    rw [← he, hl, h2]
  · rw [difS_small (by omega) (by omega), difF_eq rfl hl, h1]
theorem enc_same {f : Int} {xs m : List Int} (h0 : (encS f xs m).length ≠ 0) : encR f xs m = encS f xs m := by
  obtain ⟨hc, hm, he⟩ := encS_yes h0
  rw [he]
  unfold encR
  rw [if_pos (by rw [hc, hm]; rfl)]
theorem same_yes (a : List Int) : sameF a a = true := decide_eq_true rfl
theorem v_FnDecodeBent :
  ∀ (d : List Int), Ty.wf (Ty.sl (Ty.int IntKind.u8)) d → True → True ∧ (bigF d = true → true = true) ∧ (bigF d = false → True ∧ (Ty.wf i64T (Prod.fst (drawEW d)) ∧ Ty.wf listT (Prod.fst (Prod.snd (drawEW d))) ∧ Ty.wf
  listT (Prod.snd (Prod.snd (drawEW d))) → True ∧ (Ty.wf listT (encS (Prod.fst (drawEW d)) (Prod.fst (Prod.snd (drawEW d))) (Prod.snd (Prod.snd (drawEW d)))) → (decide ((↑(List.length (encS (Prod.fst (drawEW d))
  (Prod.fst (Prod.snd (drawEW d))) (Prod.snd (Prod.snd (drawEW d))))) : Int) = (0 : Int)) = true → true = true) ∧ (decide ((↑(List.length (encS (Prod.fst (drawEW d)) (Prod.fst (Prod.snd (drawEW d))) (Prod.snd (Prod.snd
  (drawEW d))))) : Int) = (0 : Int)) = false → SmallL (Prod.fst (Prod.snd (drawEW d))) ∧ (Ty.wf listT (Prod.fst (Prod.snd (drawEW d))) → SmallL (Prod.snd (Prod.snd (drawEW d))) ∧ (Ty.wf listT (Prod.snd (Prod.snd (drawEW
  d))) → True ∧ (Ty.wf listT (encR (Prod.fst (drawEW d)) (Prod.fst (Prod.snd (drawEW d))) (Prod.snd (Prod.snd (drawEW d)))) → True ∧ ((!sameF (encR (Prod.fst (drawEW d)) (Prod.fst (Prod.snd (drawEW d))) (Prod.snd
  (Prod.snd (drawEW d)))) (encS (Prod.fst (drawEW d)) (Prod.fst (Prod.snd (drawEW d))) (Prod.snd (Prod.snd (drawEW d))))) = true → false = true) ∧ ((!sameF (encR (Prod.fst (drawEW d)) (Prod.fst (Prod.snd (drawEW d)))
  (Prod.snd (Prod.snd (drawEW d)))) (encS (Prod.fst (drawEW d)) (Prod.fst (Prod.snd (drawEW d))) (Prod.snd (Prod.snd (drawEW d))))) = false → ((0 : Nat) ≤ List.length (lwW d) ∧ List.length (flL (dbG d) (0 : Nat)) ≤
  (List.length (Prod.fst (Prod.snd (drawEW d))) - List.length (Prod.snd (Prod.snd (drawEW d)))) / (2 : Nat)) ∧ ((d = d ∧ Prod.fst (drawEW d) = Prod.fst (drawEW d) ∧ (0 : Int) = (↑(0 : Nat) : Int)) ∧ Prod.fst (Prod.snd
  (drawEW d)) = Prod.fst (Prod.snd (drawEW d)) ∧ Prod.snd (Prod.snd (drawEW d)) = Prod.snd (Prod.snd (drawEW d)) ∧ encS (Prod.fst (drawEW d)) (Prod.fst (Prod.snd (drawEW d))) (Prod.snd (Prod.snd (drawEW d))) = encS
  (Prod.fst (drawEW d)) (Prod.fst (Prod.snd (drawEW d))) (Prod.snd (Prod.snd (drawEW d))) ∧ Prod.fst (Prod.snd (drawEW d)) = Prod.fst (Prod.snd (drawEW d)) ∧ Prod.snd (Prod.snd (drawEW d)) = Prod.snd (Prod.snd (drawEW
  d)) ∧ encR (Prod.fst (drawEW d)) (Prod.fst (Prod.snd (drawEW d))) (Prod.snd (Prod.snd (drawEW d))) = chW (dbG d) (dbV d (Prod.fst (drawEW d)) (lwW d)) (lwW d) (0 : Nat) ∧ [] = flL (dbG d) (0 : Nat)) ∧ ∀ (x : Nat), x ≤
  List.length (lwW d) ∧ List.length (flL (dbG d) x) ≤ (List.length (Prod.fst (Prod.snd (drawEW d))) - List.length (Prod.snd (Prod.snd (drawEW d)))) / (2 : Nat) → (decide ((↑x : Int) < (↑(List.length (encS (Prod.fst
  (drawEW d)) (Prod.fst (Prod.snd (drawEW d))) (Prod.snd (Prod.snd (drawEW d))))) : Int)) = true → (2 : Int) ≠ (0 : Int) ∧ (decide ((↑(List.length (flL (dbG d) x)) : Int) < IntKind.wrap IntKind.i64 (Int.tdiv
  (IntKind.wrap IntKind.i64 ((↑(List.length (Prod.fst (Prod.snd (drawEW d)))) : Int) - (↑(List.length (Prod.snd (Prod.snd (drawEW d)))) : Int))) (2 : Int))) = true → (0 : Tup [i64T]) ≤ (↑x : Int) ∧ (Ty.wf i64T (codeAt d
  (↑x : Int)) → (2 : Int) ≠ (0 : Int) ∧ (decide (Int.tmod (codeAt d (↑x : Int)) (2 : Int) = (1 : Int)) = true → ((0 : Int) ≤ (↑x : Int) ∧ (↑x : Int) < (↑(List.length (chW (dbG d) (dbV d (Prod.fst (drawEW d)) (lwW d))
  (lwW d) x)) : Int)) ∧ (0 : Tup [i64T]) ≤ IntKind.wrap IntKind.i64 ((↑x : Int) + (1 : Int)) ∧ True ∧ IntKind.wrap IntKind.i64 (modF (Prod.fst (drawEW d)) - (1 : Int)) ≠ (0 : Int) ∧ True ∧ ((0 : Int) ≤ (↑x : Int) ∧ (↑x :
  Int) < (↑(List.length (chW (dbG d) (dbV d (Prod.fst (drawEW d)) (lwW d)) (lwW d) x)) : Int)) ∧ (Ty.wf i64T (addS (Prod.fst (drawEW d)) (List.getD (chW (dbG d) (dbV d (Prod.fst (drawEW d)) (lwW d)) (lwW d) x) (Int.toNat
  (↑x : Int)) (0 : Int)) (IntKind.wrap IntKind.i64 ((1 : Int) + Int.tmod (codeAt d (IntKind.wrap IntKind.i64 ((↑x : Int) + (1 : Int)))) (IntKind.wrap IntKind.i64 (modF (Prod.fst (drawEW d)) - (1 : Int)))))) → Ty.wf i64T
  (modF (Prod.fst (drawEW d))) → Ty.wf i64T (codeAt d (IntKind.wrap IntKind.i64 ((↑x : Int) + (1 : Int)))) → (List.length (flL (dbG d) x) + List.length [(↑x : Int)]) * (8 : Nat) ≤ (140737488355328 : Nat) ∧ ∃ (x' : Nat),
  (x' ≤ List.length (lwW d) ∧ List.length (flL (dbG d) x') ≤ (List.length (Prod.fst (Prod.snd (drawEW d))) - List.length (Prod.snd (Prod.snd (drawEW d)))) / (2 : Nat)) ∧ List.length (lwW d) - x' < List.length (lwW d) - x
  ∧ (d = d ∧ Prod.fst (drawEW d) = Prod.fst (drawEW d) ∧ IntKind.wrap IntKind.i64 ((↑x : Int) + (1 : Int)) = (↑x' : Int)) ∧ Prod.fst (Prod.snd (drawEW d)) = Prod.fst (Prod.snd (drawEW d)) ∧ Prod.snd (Prod.snd (drawEW d))
  = Prod.snd (Prod.snd (drawEW d)) ∧ encS (Prod.fst (drawEW d)) (Prod.fst (Prod.snd (drawEW d))) (Prod.snd (Prod.snd (drawEW d))) = encS (Prod.fst (drawEW d)) (Prod.fst (Prod.snd (drawEW d))) (Prod.snd (Prod.snd (drawEW
  d))) ∧ Prod.fst (Prod.snd (drawEW d)) = Prod.fst (Prod.snd (drawEW d)) ∧ Prod.snd (Prod.snd (drawEW d)) = Prod.snd (Prod.snd (drawEW d)) ∧ List.set (chW (dbG d) (dbV d (Prod.fst (drawEW d)) (lwW d)) (lwW d) x)
  (Int.toNat (↑x : Int)) (addS (Prod.fst (drawEW d)) (List.getD (chW (dbG d) (dbV d (Prod.fst (drawEW d)) (lwW d)) (lwW d) x) (Int.toNat (↑x : Int)) (0 : Int)) (IntKind.wrap IntKind.i64 ((1 : Int) + Int.tmod (codeAt d
  (IntKind.wrap IntKind.i64 ((↑x : Int) + (1 : Int)))) (IntKind.wrap IntKind.i64 (modF (Prod.fst (drawEW d)) - (1 : Int)))))) = chW (dbG d) (dbV d (Prod.fst (drawEW d)) (lwW d)) (lwW d) x' ∧ flL (dbG d) x ++ [(↑x : Int)]
  = flL (dbG d) x')) ∧ (decide (Int.tmod (codeAt d (↑x : Int)) (2 : Int) = (1 : Int)) = false → ∃ (x' : Nat), (x' ≤ List.length (lwW d) ∧ List.length (flL (dbG d) x') ≤ (List.length (Prod.fst (Prod.snd (drawEW d))) -
  List.length (Prod.snd (Prod.snd (drawEW d)))) / (2 : Nat)) ∧ List.length (lwW d) - x' < List.length (lwW d) - x ∧ (d = d ∧ Prod.fst (drawEW d) = Prod.fst (drawEW d) ∧ IntKind.wrap IntKind.i64 ((↑x : Int) + (1 : Int)) =
  (↑x' : Int)) ∧ Prod.fst (Prod.snd (drawEW d)) = Prod.fst (Prod.snd (drawEW d)) ∧ Prod.snd (Prod.snd (drawEW d)) = Prod.snd (Prod.snd (drawEW d)) ∧ encS (Prod.fst (drawEW d)) (Prod.fst (Prod.snd (drawEW d))) (Prod.snd
  (Prod.snd (drawEW d))) = encS (Prod.fst (drawEW d)) (Prod.fst (Prod.snd (drawEW d))) (Prod.snd (Prod.snd (drawEW d))) ∧ Prod.fst (Prod.snd (drawEW d)) = Prod.fst (Prod.snd (drawEW d)) ∧ Prod.snd (Prod.snd (drawEW d)) =
  Prod.snd (Prod.snd (drawEW d)) ∧ chW (dbG d) (dbV d (Prod.fst (drawEW d)) (lwW d)) (lwW d) x = chW (dbG d) (dbV d (Prod.fst (drawEW d)) (lwW d)) (lwW d) x' ∧ flL (dbG d) x = flL (dbG d) x'))) ∧ (decide ((↑(List.length
  (flL (dbG d) x)) : Int) < IntKind.wrap IntKind.i64 (Int.tdiv (IntKind.wrap IntKind.i64 ((↑(List.length (Prod.fst (Prod.snd (drawEW d)))) : Int) - (↑(List.length (Prod.snd (Prod.snd (drawEW d)))) : Int))) (2 : Int))) =
  false → SmallL (Prod.fst (Prod.snd (drawEW d))) ∧ (Ty.wf listT (Prod.fst (Prod.snd (drawEW d))) → SmallL (chW (dbG d) (dbV d (Prod.fst (drawEW d)) (lwW d)) (lwW d) x) ∧ (Ty.wf listT (chW (dbG d) (dbV d (Prod.fst
  (drawEW d)) (lwW d)) (lwW d) x) → True ∧ (Ty.wf listT (Prod.fst (decF (Prod.fst (drawEW d)) (Prod.fst (Prod.snd (drawEW d))) (chW (dbG d) (dbV d (Prod.fst (drawEW d)) (lwW d)) (lwW d) x) (↑(List.length (Prod.snd
  (Prod.snd (drawEW d)))) : Int))) ∧ Ty.wf i64T (Prod.fst (Prod.snd (decF (Prod.fst (drawEW d)) (Prod.fst (Prod.snd (drawEW d))) (chW (dbG d) (dbV d (Prod.fst (drawEW d)) (lwW d)) (lwW d) x) (↑(List.length (Prod.snd
  (Prod.snd (drawEW d)))) : Int)))) ∧ Ty.wf Ty.bool (Prod.snd (Prod.snd (decF (Prod.fst (drawEW d)) (Prod.fst (Prod.snd (drawEW d))) (chW (dbG d) (dbV d (Prod.fst (drawEW d)) (lwW d)) (lwW d) x) (↑(List.length (Prod.snd
  (Prod.snd (drawEW d)))) : Int)))) → (Prod.snd (Prod.snd (decF (Prod.fst (drawEW d)) (Prod.fst (Prod.snd (drawEW d))) (chW (dbG d) (dbV d (Prod.fst (drawEW d)) (lwW d)) (lwW d) x) (↑(List.length (Prod.snd (Prod.snd
  (drawEW d)))) : Int))) = true → True ∧ (sameF (Prod.fst (decF (Prod.fst (drawEW d)) (Prod.fst (Prod.snd (drawEW d))) (chW (dbG d) (dbV d (Prod.fst (drawEW d)) (lwW d)) (lwW d) x) (↑(List.length (Prod.snd (Prod.snd
  (drawEW d)))) : Int))) (Prod.snd (Prod.snd (drawEW d))) = true → (decide (Prod.fst (Prod.snd (decF (Prod.fst (drawEW d)) (Prod.fst (Prod.snd (drawEW d))) (chW (dbG d) (dbV d (Prod.fst (drawEW d)) (lwW d)) (lwW d) x)
  (↑(List.length (Prod.snd (Prod.snd (drawEW d)))) : Int))) = (↑(List.length (flL (dbG d) x)) : Int)) = true → SmallL (Prod.fst (Prod.snd (drawEW d))) ∧ (Ty.wf listT (Prod.fst (Prod.snd (drawEW d))) → SmallL (chW (dbG d)
  (dbV d (Prod.fst (drawEW d)) (lwW d)) (lwW d) x) ∧ (Ty.wf listT (chW (dbG d) (dbV d (Prod.fst (drawEW d)) (lwW d)) (lwW d) x) → True ∧ (Ty.wf listT (blmF (Prod.fst (drawEW d)) (Prod.fst (Prod.snd (drawEW d))) (chW (dbG
  d) (dbV d (Prod.fst (drawEW d)) (lwW d)) (lwW d) x) (↑(List.length (Prod.snd (Prod.snd (drawEW d)))) : Int)) → True ∧ (sameF (blmF (Prod.fst (drawEW d)) (Prod.fst (Prod.snd (drawEW d))) (chW (dbG d) (dbV d (Prod.fst
  (drawEW d)) (lwW d)) (lwW d) x) (↑(List.length (Prod.snd (Prod.snd (drawEW d)))) : Int)) (flL (dbG d) x) = true → SmallL (encS (Prod.fst (drawEW d)) (Prod.fst (Prod.snd (drawEW d))) (Prod.snd (Prod.snd (drawEW d)))) ∧
  (Ty.wf listT (encS (Prod.fst (drawEW d)) (Prod.fst (Prod.snd (drawEW d))) (Prod.snd (Prod.snd (drawEW d)))) → SmallL (chW (dbG d) (dbV d (Prod.fst (drawEW d)) (lwW d)) (lwW d) x) ∧ (Ty.wf listT (chW (dbG d) (dbV d
  (Prod.fst (drawEW d)) (lwW d)) (lwW d) x) → True ∧ (Ty.wf i64T (difS (encS (Prod.fst (drawEW d)) (Prod.fst (Prod.snd (drawEW d))) (Prod.snd (Prod.snd (drawEW d)))) (chW (dbG d) (dbV d (Prod.fst (drawEW d)) (lwW d))
  (lwW d) x)) → decide (difS (encS (Prod.fst (drawEW d)) (Prod.fst (Prod.snd (drawEW d))) (Prod.snd (Prod.snd (drawEW d)))) (chW (dbG d) (dbV d (Prod.fst (drawEW d)) (lwW d)) (lwW d) x) = (↑(List.length (flL (dbG d) x))
  : Int)) = true)))) ∧ (sameF (blmF (Prod.fst (drawEW d)) (Prod.fst (Prod.snd (drawEW d))) (chW (dbG d) (dbV d (Prod.fst (drawEW d)) (lwW d)) (lwW d) x) (↑(List.length (Prod.snd (Prod.snd (drawEW d)))) : Int)) (flL (dbG
  d) x) = false → false = true))))) ∧ (decide (Prod.fst (Prod.snd (decF (Prod.fst (drawEW d)) (Prod.fst (Prod.snd (drawEW d))) (chW (dbG d) (dbV d (Prod.fst (drawEW d)) (lwW d)) (lwW d) x) (↑(List.length (Prod.snd
  (Prod.snd (drawEW d)))) : Int))) = (↑(List.length (flL (dbG d) x)) : Int)) = false → false = true)) ∧ (sameF (Prod.fst (decF (Prod.fst (drawEW d)) (Prod.fst (Prod.snd (drawEW d))) (chW (dbG d) (dbV d (Prod.fst (drawEW
  d)) (lwW d)) (lwW d) x) (↑(List.length (Prod.snd (Prod.snd (drawEW d)))) : Int))) (Prod.snd (Prod.snd (drawEW d))) = false → false = true)) ∧ (Prod.snd (Prod.snd (decF (Prod.fst (drawEW d)) (Prod.fst (Prod.snd (drawEW
  d))) (chW (dbG d) (dbV d (Prod.fst (drawEW d)) (lwW d)) (lwW d) x) (↑(List.length (Prod.snd (Prod.snd (drawEW d)))) : Int))) = false → false = true)))))) ∧ (decide ((↑x : Int) < (↑(List.length (encS (Prod.fst (drawEW
  d)) (Prod.fst (Prod.snd (drawEW d))) (Prod.snd (Prod.snd (drawEW d))))) : Int)) = false → SmallL (Prod.fst (Prod.snd (drawEW d))) ∧ (Ty.wf listT (Prod.fst (Prod.snd (drawEW d))) → SmallL (chW (dbG d) (dbV d (Prod.fst
  (drawEW d)) (lwW d)) (lwW d) x) ∧ (Ty.wf listT (chW (dbG d) (dbV d (Prod.fst (drawEW d)) (lwW d)) (lwW d) x) → True ∧ (Ty.wf listT (Prod.fst (decF (Prod.fst (drawEW d)) (Prod.fst (Prod.snd (drawEW d))) (chW (dbG d)
  (dbV d (Prod.fst (drawEW d)) (lwW d)) (lwW d) x) (↑(List.length (Prod.snd (Prod.snd (drawEW d)))) : Int))) ∧ Ty.wf i64T (Prod.fst (Prod.snd (decF (Prod.fst (drawEW d)) (Prod.fst (Prod.snd (drawEW d))) (chW (dbG d) (dbV
  d (Prod.fst (drawEW d)) (lwW d)) (lwW d) x) (↑(List.length (Prod.snd (Prod.snd (drawEW d)))) : Int)))) ∧ Ty.wf Ty.bool (Prod.snd (Prod.snd (decF (Prod.fst (drawEW d)) (Prod.fst (Prod.snd (drawEW d))) (chW (dbG d) (dbV
  d (Prod.fst (drawEW d)) (lwW d)) (lwW d) x) (↑(List.length (Prod.snd (Prod.snd (drawEW d)))) : Int)))) → (Prod.snd (Prod.snd (decF (Prod.fst (drawEW d)) (Prod.fst (Prod.snd (drawEW d))) (chW (dbG d) (dbV d (Prod.fst
  (drawEW d)) (lwW d)) (lwW d) x) (↑(List.length (Prod.snd (Prod.snd (drawEW d)))) : Int))) = true → True ∧ (sameF (Prod.fst (decF (Prod.fst (drawEW d)) (Prod.fst (Prod.snd (drawEW d))) (chW (dbG d) (dbV d (Prod.fst
  (drawEW d)) (lwW d)) (lwW d) x) (↑(List.length (Prod.snd (Prod.snd (drawEW d)))) : Int))) (Prod.snd (Prod.snd (drawEW d))) = true → (decide (Prod.fst (Prod.snd (decF (Prod.fst (drawEW d)) (Prod.fst (Prod.snd (drawEW
  d))) (chW (dbG d) (dbV d (Prod.fst (drawEW d)) (lwW d)) (lwW d) x) (↑(List.length (Prod.snd (Prod.snd (drawEW d)))) : Int))) = (↑(List.length (flL (dbG d) x)) : Int)) = true → SmallL (Prod.fst (Prod.snd (drawEW d))) ∧
  (Ty.wf listT (Prod.fst (Prod.snd (drawEW d))) → SmallL (chW (dbG d) (dbV d (Prod.fst (drawEW d)) (lwW d)) (lwW d) x) ∧ (Ty.wf listT (chW (dbG d) (dbV d (Prod.fst (drawEW d)) (lwW d)) (lwW d) x) → True ∧ (Ty.wf listT
  (blmF (Prod.fst (drawEW d)) (Prod.fst (Prod.snd (drawEW d))) (chW (dbG d) (dbV d (Prod.fst (drawEW d)) (lwW d)) (lwW d) x) (↑(List.length (Prod.snd (Prod.snd (drawEW d)))) : Int)) → True ∧ (sameF (blmF (Prod.fst
  (drawEW d)) (Prod.fst (Prod.snd (drawEW d))) (chW (dbG d) (dbV d (Prod.fst (drawEW d)) (lwW d)) (lwW d) x) (↑(List.length (Prod.snd (Prod.snd (drawEW d)))) : Int)) (flL (dbG d) x) = true → SmallL (encS (Prod.fst
  (drawEW d)) (Prod.fst (Prod.snd (drawEW d))) (Prod.snd (Prod.snd (drawEW d)))) ∧ (Ty.wf listT (encS (Prod.fst (drawEW d)) (Prod.fst (Prod.snd (drawEW d))) (Prod.snd (Prod.snd (drawEW d)))) → SmallL (chW (dbG d) (dbV d
  (Prod.fst (drawEW d)) (lwW d)) (lwW d) x) ∧ (Ty.wf listT (chW (dbG d) (dbV d (Prod.fst (drawEW d)) (lwW d)) (lwW d) x) → True ∧ (Ty.wf i64T (difS (encS (Prod.fst (drawEW d)) (Prod.fst (Prod.snd (drawEW d))) (Prod.snd
  (Prod.snd (drawEW d)))) (chW (dbG d) (dbV d (Prod.fst (drawEW d)) (lwW d)) (lwW d) x)) → decide (difS (encS (Prod.fst (drawEW d)) (Prod.fst (Prod.snd (drawEW d))) (Prod.snd (Prod.snd (drawEW d)))) (chW (dbG d) (dbV d
  (Prod.fst (drawEW d)) (lwW d)) (lwW d) x) = (↑(List.length (flL (dbG d) x)) : Int)) = true)))) ∧ (sameF (blmF (Prod.fst (drawEW d)) (Prod.fst (Prod.snd (drawEW d))) (chW (dbG d) (dbV d (Prod.fst (drawEW d)) (lwW d))
  (lwW d) x) (↑(List.length (Prod.snd (Prod.snd (drawEW d)))) : Int)) (flL (dbG d) x) = false → false = true))))) ∧ (decide (Prod.fst (Prod.snd (decF (Prod.fst (drawEW d)) (Prod.fst (Prod.snd (drawEW d))) (chW (dbG d)
  (dbV d (Prod.fst (drawEW d)) (lwW d)) (lwW d) x) (↑(List.length (Prod.snd (Prod.snd (drawEW d)))) : Int))) = (↑(List.length (flL (dbG d) x)) : Int)) = false → false = true)) ∧ (sameF (Prod.fst (decF (Prod.fst (drawEW
  d)) (Prod.fst (Prod.snd (drawEW d))) (chW (dbG d) (dbV d (Prod.fst (drawEW d)) (lwW d)) (lwW d) x) (↑(List.length (Prod.snd (Prod.snd (drawEW d)))) : Int))) (Prod.snd (Prod.snd (drawEW d))) = false → false = true)) ∧
  (Prod.snd (Prod.snd (decF (Prod.fst (drawEW d)) (Prod.fst (Prod.snd (drawEW d))) (chW (dbG d) (dbV d (Prod.fst (drawEW d)) (lwW d)) (lwW d) x) (↑(List.length (Prod.snd (Prod.snd (drawEW d)))) : Int))) = false → false =
  true))))))))))))) := by
  intro d hd _
  generalize hP : drawEW d = P
  obtain ⟨f, xs, m⟩ := P
  have hW : lwW d = encS f xs m := by unfold lwW; rw [hP]
  rw [hW]
  dsimp only
  generalize hw : encS f xs m = w at *
  simp only [Int.toNat_natCast, exists_const, and_true, true_and, implies_true, decide_eq_true_eq, decide_eq_false_iff_not, Bool.not_eq_true', Bool.not_eq_false', beq_iff_eq, forall_const]
  intro hb _ _ h0
  have h0' : w.length ≠ 0 := fun e => h0 (by rw [e]; rfl)
  have hr : encR f xs m = w := by rw [← hw]; exact enc_same (by rw [hw]; exact h0')
  obtain ⟨hc, hm, he⟩ := encS_yes (f := f) (xs := xs) (m := m) (by rw [hw]; exact h0')
  rw [hw] at he
  obtain ⟨hpt, hn10, hk1, hk2⟩ := code_ok hc
  have hmod := (pt_ok hpt).1
  have hi := (mod_is hmod).1
  have hwl : w.length = xs.length := by rw [he, evM_len]
  have hlen : d.length ≤ 1048576 := by unfold bigF at hb; rw [decide_eq_false_iff_not] at hb; omega
  have hcl : ∀ n, (chW (dbG d) (dbV d f w) w n).length = w.length := ch_len _ _ _
  have sx : SmallL xs := small10' hn10
  have sm : SmallL m := small10' (by omega)
  have sw : SmallL w := small10' (by omega)
  have e2 : w64 (modF f - 1) = modF f - 1 := by unfold IsMod at hi; exact wrap_small (by omega)
  rw [hr]
  refine ⟨sx, fun _ => ⟨sm, fun _ _ => ⟨fun h => (by rw [same_yes] at h; cases h), fun _ => ⟨⟨Nat.zero_le _, Nat.zero_le _⟩, ⟨rfl, rfl, rfl⟩, fun x hx => ?_⟩⟩⟩⟩
  obtain ⟨eD, eB, eS⟩ := bent_word hd hlen hw.symm h0' hx.1 hx.2
  have hfl := fl_le (dbG d) x
  have sc : SmallL (chW (dbG d) (dbV d f w) w x) := small10' (by rw [hcl]; omega)
  have hwr : IntKind.wrap IntKind.i64 ((IntKind.wrap IntKind.i64 ((xs.length : Int) - (m.length : Int))).tdiv 2) = (((xs.length - m.length) / 2 : Nat) : Int) := half_nat (by omega) hn10
  simp only [eD, eB, eS, sx, sc, sw, same_yes, true_implies, implies_true, and_true, true_and, not_true_eq_false, false_implies, reduceCtorEq, Bool.true_eq_false]
  intro hlt
  refine ⟨by decide, fun hgo => ⟨by show (0 : Int) ≤ (x : Int); omega, fun _ => ⟨by decide, fun hg => ?_, fun hg => ?_⟩⟩⟩
  · have hgt : dbG d x = true := decide_eq_true hg
    rw [hwr] at hgo
    have e1 : IntKind.wrap IntKind.i64 ((x : Int) + 1) = ((x + 1 : Nat) : Int) := wrap_succ (by omega)
    refine ⟨⟨by omega, by rw [hcl]; omega⟩, by rw [e1]; show (0 : Int) ≤ ((x + 1 : Nat) : Int); omega, ?_, ⟨by omega, by rw [hcl]; omega⟩, fun _ _ _ => ⟨by simp; omega, x + 1, ⟨by omega, ?_⟩, by omega, e1, ?_, ?_⟩⟩
    · have e3 : IntKind.wrap IntKind.i64 (modF f - 1) = modF f - 1 := e2
      rw [e3]; unfold IsMod at hi; omega
    · rw [fl_succ, if_pos hgt, List.length_append]; simp only [List.length_cons, List.length_nil]; omega
    · rw [ch_succ, if_pos hgt, ch_get _ _ _ _ (by omega), if_neg (by omega)]; rfl
    · rw [fl_succ, if_pos hgt]
  · have hgt : ¬ dbG d x = true := fun h => hg (of_decide_eq_true h)
    exact ⟨x + 1, ⟨by omega, by rw [fl_succ, if_neg hgt]; exact hx.2⟩, by omega, wrap_succ (by omega), by rw [ch_succ, if_neg hgt], by rw [fl_succ, if_neg hgt]⟩
end Go.SF
