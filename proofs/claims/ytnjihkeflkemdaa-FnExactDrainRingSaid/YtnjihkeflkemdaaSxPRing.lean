/- What is owed of the code of the rings' functions. No condition. -/
import Derived.Test.YtnjihkeflkemdaaSxC
import Derived.Test.YtnjihkeflkemdaaSxPLine
namespace Go.SF
open Go.SX Go
set_option linter.unusedVariables false
set_option linter.unusedSimpArgs false
set_option maxRecDepth 10000
theorem v_L_szFlow :
  ∀ (d : Ty.den flT × Tup [i64T]), Ty.wf flT (Prod.fst d) ∧ Ty.wf i64T (Prod.snd d) → True → True ∧ (Ty.wf i64T (szF (List.length (Prod.snd (Prod.snd (Prod.snd (Prod.fst d))))) (Prod.snd d)) → (decide (szF (List.length
  (Prod.snd (Prod.snd (Prod.snd (Prod.fst d))))) (Prod.snd d) < (0 : Int)) = true → (-1 : Int) = szF (List.length (Prod.snd (Prod.snd (Prod.snd (Prod.fst d))))) (Prod.snd d)) ∧ (decide (szF (List.length (Prod.snd
  (Prod.snd (Prod.snd (Prod.fst d))))) (Prod.snd d) < (0 : Int)) = false → szF (List.length (Prod.snd (Prod.snd (Prod.snd (Prod.fst d))))) (Prod.snd d) = szF (List.length (Prod.snd (Prod.snd (Prod.snd (Prod.fst d)))))
  (Prod.snd d))) := by
  intro d hw _
  simp only [szF]
  grind
theorem v_L_szFlowS :
  ∀ (d : Ty.den (Ty.sl flT) × Tup [i64T]), Ty.wf (Ty.sl flT) (Prod.fst d) ∧ Ty.wf i64T (Prod.snd d) → True → (decide (IntKind.wrap IntKind.i64 (Prod.snd d - (↑(List.length (Prod.fst d)) : Int)) < (0 : Int)) = true → (-1
  : Int) = szFlF (Prod.fst d) (Prod.snd d)) ∧ (decide (IntKind.wrap IntKind.i64 (Prod.snd d - (↑(List.length (Prod.fst d)) : Int)) < (0 : Int)) = false → ((0 : Nat) ≤ List.length (Prod.fst d) ∧ szFlGo (List.drop (0 :
  Nat) (Prod.fst d)) (w64 (Prod.snd d - (↑(List.length (Prod.fst d)) : Int))) = szFlGo (Prod.fst d) (w64 (Prod.snd d - (↑(List.length (Prod.fst d)) : Int)))) ∧ (Prod.fst d = Prod.fst d ∧ IntKind.wrap IntKind.i64
  (Prod.snd d - (↑(List.length (Prod.fst d)) : Int)) = w64 (Prod.snd d - (↑(List.length (Prod.fst d)) : Int)) ∧ (0 : Int) = (↑(0 : Nat) : Int)) ∧ ∀ (x : Nat × Int), Prod.fst x ≤ List.length (Prod.fst d) ∧ szFlGo
  (List.drop (Prod.fst x) (Prod.fst d)) (Prod.snd x) = szFlGo (Prod.fst d) (w64 (Prod.snd d - (↑(List.length (Prod.fst d)) : Int))) → (decide ((↑(Prod.fst x) : Int) < (↑(List.length (Prod.fst d)) : Int)) = true → ((0 :
  Int) ≤ (↑(Prod.fst x) : Int) ∧ (↑(Prod.fst x) : Int) < (↑(List.length (Prod.fst d)) : Int)) ∧ True ∧ (Ty.wf i64T (szF (List.length (Prod.snd (Prod.snd (Prod.snd (List.getD (Prod.fst d) (Int.toNat (↑(Prod.fst x) : Int))
  ((0 : Int), (0 : Int), (0 : Int), [])))))) (Prod.snd x)) → (decide (szF (List.length (Prod.snd (Prod.snd (Prod.snd (List.getD (Prod.fst d) (Int.toNat (↑(Prod.fst x) : Int)) ((0 : Int), (0 : Int), (0 : Int), []))))))
  (Prod.snd x) < (0 : Int)) = true → (-1 : Int) = szFlF (Prod.fst d) (Prod.snd d)) ∧ (decide (szF (List.length (Prod.snd (Prod.snd (Prod.snd (List.getD (Prod.fst d) (Int.toNat (↑(Prod.fst x) : Int)) ((0 : Int), (0 :
  Int), (0 : Int), [])))))) (Prod.snd x) < (0 : Int)) = false → ∃ (x' : Nat × Int), (Prod.fst x' ≤ List.length (Prod.fst d) ∧ szFlGo (List.drop (Prod.fst x') (Prod.fst d)) (Prod.snd x') = szFlGo (Prod.fst d) (w64
  (Prod.snd d - (↑(List.length (Prod.fst d)) : Int)))) ∧ List.length (Prod.fst d) - Prod.fst x' < List.length (Prod.fst d) - Prod.fst x ∧ Prod.fst d = Prod.fst d ∧ szF (List.length (Prod.snd (Prod.snd (Prod.snd
  (List.getD (Prod.fst d) (Int.toNat (↑(Prod.fst x) : Int)) ((0 : Int), (0 : Int), (0 : Int), [])))))) (Prod.snd x) = Prod.snd x' ∧ IntKind.wrap IntKind.i64 ((↑(Prod.fst x) : Int) + (1 : Int)) = (↑(Prod.fst x') : Int))))
  ∧ (decide ((↑(Prod.fst x) : Int) < (↑(List.length (Prod.fst d)) : Int)) = false → Prod.snd x = szFlF (Prod.fst d) (Prod.snd d))) := by
  intro d hw _
  obtain ⟨xs, l⟩ := d
  have hl : xs.length ≤ 9223372036854775807 := hw.1.1
  simp only [Int.toNat_natCast]
  unfold szFlF
  refine ⟨fun h => ?_, fun h => ⟨⟨by omega, by simp [w64]⟩, by simp [w64], fun x ⟨h1, h2⟩ => ⟨fun h3 => ?_, fun h3 => ?_⟩⟩⟩
  · rw [if_pos (show w64 (l - (xs.length : Int)) < 0 from of_decide_eq_true h)]
  · rw [if_neg (show ¬ w64 (l - (xs.length : Int)) < 0 from of_decide_eq_false h)]
    have h4 : x.1 < xs.length := by simpa using h3
    rw [getD_drop_cons (x := ((0 : Int), (0 : Int), (0 : Int), [])) h4, szFlGo] at h2
    rw [wrap_succ (by omega)]
    refine ⟨⟨by omega, by omega⟩, trivial, fun _ => ⟨fun h5 => ?_, fun h5 => ⟨(x.1 + 1, szF (xs.getD x.1 (0, 0, 0, [])).2.2.2.length x.2), ⟨by simp only; omega, ?_⟩, by simp only; omega, by simp⟩⟩⟩
    · rw [if_pos (of_decide_eq_true h5)] at h2; exact h2
    · rw [if_neg (of_decide_eq_false h5)] at h2; exact h2
  · rw [if_neg (show ¬ w64 (l - (xs.length : Int)) < 0 from of_decide_eq_false h)]
    have h4 : x.1 = xs.length := by simp at h3; omega
    rw [h4, List.drop_length, szFlGo] at h2
    exact h2
theorem v_L_szRing :
  ∀ (d : Ty.den ringT × Tup [i64T]), Ty.wf ringT (Prod.fst d) ∧ Ty.wf i64T (Prod.snd d) → True → True ∧ (Ty.wf i64T (szFlF (Prod.fst (Prod.fst d)) (Prod.snd d)) → (decide (szFlF (Prod.fst (Prod.fst d)) (Prod.snd d) < (0
  : Int)) = true → (-1 : Int) = szRgF (Prod.fst (Prod.fst d)) (Prod.snd d)) ∧ (decide (szFlF (Prod.fst (Prod.fst d)) (Prod.snd d) < (0 : Int)) = false → szFlF (Prod.fst (Prod.fst d)) (Prod.snd d) = szRgF (Prod.fst
  (Prod.fst d)) (Prod.snd d))) := by
  intro d hw _
  simp only [szRgF]
  grind
theorem v_L_toFlow :
  ∀ (d : Int × Ty.den (Ty.pr (Ty.int IntKind.i64) (Ty.pr (Ty.int IntKind.i64) lineT))), Ty.wf flT d → List.length (Prod.snd (Prod.snd (Prod.snd d))) ≤ (1048576 : Nat) → List.length (Prod.snd (Prod.snd (Prod.snd d))) ≤
  (1048576 : Nat) ∧ (Ty.wf lineT (Prod.snd (Prod.snd (Prod.snd d))) → (Prod.fst d, Prod.fst (Prod.snd d), Prod.fst (Prod.snd (Prod.snd d)), Prod.snd (Prod.snd (Prod.snd d))) = d) := by
  intro d hw hp
  exact ⟨hp, fun _ => rfl⟩
theorem v_L_toFlowS :
  ∀ (d : List (Ty.den flT)), Ty.wf (Ty.sl flT) d → FlsP d → ((0 : Int) ≤ (↑(List.length d) : Int) ∧ (↑(List.length d) : Int) ≤ (↑(List.length d) : Int) ∧ (↑(List.length d) : Int) * (↑(48 : Nat) : Int) ≤ (140737488355328
  : Int)) ∧ (0 : Nat) ≤ List.length d ∧ ((d = d ∧ Value.slice none (0 : Nat) (0 : Nat) = Value.slice none (0 : Nat) (0 : Nat) ∧ (0 : Int) = (↑(0 : Nat) : Int)) ∧ List.replicate (Int.toNat (↑(List.length d) : Int)) ((0 :
  Int), (0 : Int), (0 : Int), []) = List.take (0 : Nat) d ++ List.replicate (List.length d - (0 : Nat)) ((0 : Int), (0 : Int), (0 : Int), [])) ∧ ∀ (x : Nat), x ≤ List.length d → (decide ((↑x : Int) < (↑(List.length d) :
  Int)) = true → ((0 : Int) ≤ (↑x : Int) ∧ (↑x : Int) < (↑(List.length d) : Int)) ∧ List.length (Prod.snd (Prod.snd (Prod.snd (List.getD d (Int.toNat (↑x : Int)) ((0 : Int), (0 : Int), (0 : Int), []))))) ≤ (1048576 :
  Nat) ∧ (Ty.wf flT (Prod.fst (List.getD d (Int.toNat (↑x : Int)) ((0 : Int), (0 : Int), (0 : Int), [])), Prod.fst (Prod.snd (List.getD d (Int.toNat (↑x : Int)) ((0 : Int), (0 : Int), (0 : Int), []))), Prod.fst (Prod.snd
  (Prod.snd (List.getD d (Int.toNat (↑x : Int)) ((0 : Int), (0 : Int), (0 : Int), [])))), Prod.snd (Prod.snd (Prod.snd (List.getD d (Int.toNat (↑x : Int)) ((0 : Int), (0 : Int), (0 : Int), []))))) → ((0 : Int) ≤ (↑x :
  Int) ∧ (↑x : Int) < (↑(List.length (List.take x d ++ List.replicate (List.length d - x) ((0 : Int), (0 : Int), (0 : Int), []))) : Int)) ∧ ∃ (x' : Nat), x' ≤ List.length d ∧ List.length d - x' < List.length d - x ∧ (d =
  d ∧ Value.slice none (0 : Nat) (0 : Nat) = Value.slice none (0 : Nat) (0 : Nat) ∧ IntKind.wrap IntKind.i64 ((↑x : Int) + (1 : Int)) = (↑x' : Int)) ∧ List.set (List.take x d ++ List.replicate (List.length d - x) ((0 :
  Int), (0 : Int), (0 : Int), [])) (Int.toNat (↑x : Int)) (Prod.fst (List.getD d (Int.toNat (↑x : Int)) ((0 : Int), (0 : Int), (0 : Int), [])), Prod.fst (Prod.snd (List.getD d (Int.toNat (↑x : Int)) ((0 : Int), (0 :
  Int), (0 : Int), []))), Prod.fst (Prod.snd (Prod.snd (List.getD d (Int.toNat (↑x : Int)) ((0 : Int), (0 : Int), (0 : Int), [])))), Prod.snd (Prod.snd (Prod.snd (List.getD d (Int.toNat (↑x : Int)) ((0 : Int), (0 : Int),
  (0 : Int), []))))) = List.take x' d ++ List.replicate (List.length d - x') ((0 : Int), (0 : Int), (0 : Int), []))) ∧ (decide ((↑x : Int) < (↑(List.length d) : Int)) = false → List.take x d ++ List.replicate
  (List.length d - x) ((0 : Int), (0 : Int), (0 : Int), []) = d) := by
  intro d hw hp
  have hl : d.length ≤ 9223372036854775807 := hw.1
  have hlen := hp.1
  simp only [Int.toNat_natCast] at *
  refine ⟨⟨by omega, by omega, by omega⟩, by omega, by simp, fun x h1 => ⟨fun h3 => ?_, fun h3 => ?_⟩⟩
  · have h4 : x < d.length := by simpa using h3
    rw [wrap_succ (by omega)]
    refine ⟨⟨by omega, by omega⟩, ?_, fun _ => ⟨⟨by omega, ?_⟩, x + 1, by omega, by omega, ?_, ?_⟩⟩
    · refine hp.2 _ ?_
      rw [List.getD_eq_getElem?_getD, List.getElem?_eq_getElem h4]
      exact List.getElem_mem h4
    · simp; omega
    · simp
    · exact copy_step d _ h4
  · have h4 : x = d.length := by simp at h3; omega
    subst h4
    simp
theorem v_L_toRing :
  ∀ (d : Ty.den (Ty.sl flT) × Ty.den (Ty.pr (Ty.int IntKind.i64) Ty.bool)), Ty.wf ringT d → FlsP (Prod.fst d) → FlsP (Prod.fst d) ∧ (Ty.wf (Ty.sl flT) (Prod.fst d) → (Prod.fst d, Prod.fst (Prod.snd d), Prod.snd (Prod.snd
  d)) = d) := by
  intro d hw hp
  exact ⟨hp, fun _ => rfl⟩
theorem eqFl_iff {a b : Fl} : eqFl a b = true ↔ a = b := by unfold eqFl; exact decide_eq_true_iff
theorem eqFls_iff {a b : List Fl} : eqFls a b = true ↔ a = b := by unfold eqFls; exact decide_eq_true_iff
theorem eqRg_iff {a b : Rg} : eqRg a b = true ↔ a = b := by unfold eqRg; exact decide_eq_true_iff
theorem eqFl_eq {a b : Fl} : eqFl a b = (decide (a.1 = b.1) && (decide (a.2.1 = b.2.1) && (decide (a.2.2.1 = b.2.2.1) && decide (a.2.2.2 = b.2.2.2)))) := by
  obtain ⟨a1, a2, a3, a4⟩ := a
  obtain ⟨b1, b2, b3, b4⟩ := b
  rw [Bool.eq_iff_iff, eqFl_iff]
  simp
theorem eqRg_eq {a b : Rg} : eqRg a b = (eqFls a.1 b.1 && (decide (a.2.1 = b.2.1) && (a.2.2 == b.2.2))) := by
  obtain ⟨a1, a2, a3⟩ := a
  obtain ⟨b1, b2, b3⟩ := b
  rw [Bool.eq_iff_iff, eqRg_iff]
  simp [eqFls_iff]
theorem v_L_eqFlow :
  ∀ (d : Ty.den flT × Tup [flT]), Ty.wf flT (Prod.fst d) ∧ Ty.wf flT (Prod.snd d) → True → ((!decide (Prod.fst (Prod.fst d) = Prod.fst (Prod.snd d))) = true → false = eqFl (Prod.fst d) (Prod.snd d)) ∧ ((!decide (Prod.fst
  (Prod.fst d) = Prod.fst (Prod.snd d))) = false → ((!decide (Prod.fst (Prod.snd (Prod.fst d)) = Prod.fst (Prod.snd (Prod.snd d)))) = true → false = eqFl (Prod.fst d) (Prod.snd d)) ∧ ((!decide (Prod.fst (Prod.snd
  (Prod.fst d)) = Prod.fst (Prod.snd (Prod.snd d)))) = false → ((!decide (Prod.fst (Prod.snd (Prod.snd (Prod.fst d))) = Prod.fst (Prod.snd (Prod.snd (Prod.snd d))))) = true → false = eqFl (Prod.fst d) (Prod.snd d)) ∧
  ((!decide (Prod.fst (Prod.snd (Prod.snd (Prod.fst d))) = Prod.fst (Prod.snd (Prod.snd (Prod.snd d))))) = false → True ∧ ((!decide (Prod.snd (Prod.snd (Prod.snd (Prod.fst d))) = Prod.snd (Prod.snd (Prod.snd (Prod.snd
  d))))) = true → false = eqFl (Prod.fst d) (Prod.snd d)) ∧ ((!decide (Prod.snd (Prod.snd (Prod.snd (Prod.fst d))) = Prod.snd (Prod.snd (Prod.snd (Prod.snd d))))) = false → true = eqFl (Prod.fst d) (Prod.snd d))))) := by
  intro d _ _
  simp only [eqFl_eq]
  grind
theorem v_L_eqFlowS :
  ∀ (d : Ty.den (Ty.sl flT) × Tup [Ty.sl flT]), Ty.wf (Ty.sl flT) (Prod.fst d) ∧ Ty.wf (Ty.sl flT) (Prod.snd d) → True → ((!decide ((↑(List.length (Prod.fst d)) : Int) = (↑(List.length (Prod.snd d)) : Int))) = true →
  false = eqFls (Prod.fst d) (Prod.snd d)) ∧ ((!decide ((↑(List.length (Prod.fst d)) : Int) = (↑(List.length (Prod.snd d)) : Int))) = false → ((0 : Nat) ≤ List.length (Prod.fst d) ∧ List.length (Prod.fst d) = List.length
  (Prod.snd d) ∧ List.take (0 : Nat) (Prod.fst d) = List.take (0 : Nat) (Prod.snd d)) ∧ (Prod.fst d = Prod.fst d ∧ Prod.snd d = Prod.snd d ∧ (0 : Int) = (↑(0 : Nat) : Int)) ∧ ∀ (x : Nat), x ≤ List.length (Prod.fst d) ∧
  List.length (Prod.fst d) = List.length (Prod.snd d) ∧ List.take x (Prod.fst d) = List.take x (Prod.snd d) → (decide ((↑x : Int) < (↑(List.length (Prod.fst d)) : Int)) = true → ((0 : Int) ≤ (↑x : Int) ∧ (↑x : Int) <
  (↑(List.length (Prod.fst d)) : Int)) ∧ ((0 : Int) ≤ (↑x : Int) ∧ (↑x : Int) < (↑(List.length (Prod.snd d)) : Int)) ∧ True ∧ ((!eqFl (Prod.fst (List.getD (Prod.fst d) (Int.toNat (↑x : Int)) ((0 : Int), (0 : Int), (0 :
  Int), [])), Prod.fst (Prod.snd (List.getD (Prod.fst d) (Int.toNat (↑x : Int)) ((0 : Int), (0 : Int), (0 : Int), []))), Prod.fst (Prod.snd (Prod.snd (List.getD (Prod.fst d) (Int.toNat (↑x : Int)) ((0 : Int), (0 : Int),
  (0 : Int), [])))), Prod.snd (Prod.snd (Prod.snd (List.getD (Prod.fst d) (Int.toNat (↑x : Int)) ((0 : Int), (0 : Int), (0 : Int), []))))) (Prod.fst (List.getD (Prod.snd d) (Int.toNat (↑x : Int)) ((0 : Int), (0 : Int),
  (0 : Int), [])), Prod.fst (Prod.snd (List.getD (Prod.snd d) (Int.toNat (↑x : Int)) ((0 : Int), (0 : Int), (0 : Int), []))), Prod.fst (Prod.snd (Prod.snd (List.getD (Prod.snd d) (Int.toNat (↑x : Int)) ((0 : Int), (0 :
  Int), (0 : Int), [])))), Prod.snd (Prod.snd (Prod.snd (List.getD (Prod.snd d) (Int.toNat (↑x : Int)) ((0 : Int), (0 : Int), (0 : Int), [])))))) = true → false = eqFls (Prod.fst d) (Prod.snd d)) ∧ ((!eqFl (Prod.fst
  (List.getD (Prod.fst d) (Int.toNat (↑x : Int)) ((0 : Int), (0 : Int), (0 : Int), [])), Prod.fst (Prod.snd (List.getD (Prod.fst d) (Int.toNat (↑x : Int)) ((0 : Int), (0 : Int), (0 : Int), []))), Prod.fst (Prod.snd
  (Prod.snd (List.getD (Prod.fst d) (Int.toNat (↑x : Int)) ((0 : Int), (0 : Int), (0 : Int), [])))), Prod.snd (Prod.snd (Prod.snd (List.getD (Prod.fst d) (Int.toNat (↑x : Int)) ((0 : Int), (0 : Int), (0 : Int), [])))))
  (Prod.fst (List.getD (Prod.snd d) (Int.toNat (↑x : Int)) ((0 : Int), (0 : Int), (0 : Int), [])), Prod.fst (Prod.snd (List.getD (Prod.snd d) (Int.toNat (↑x : Int)) ((0 : Int), (0 : Int), (0 : Int), []))), Prod.fst
  (Prod.snd (Prod.snd (List.getD (Prod.snd d) (Int.toNat (↑x : Int)) ((0 : Int), (0 : Int), (0 : Int), [])))), Prod.snd (Prod.snd (Prod.snd (List.getD (Prod.snd d) (Int.toNat (↑x : Int)) ((0 : Int), (0 : Int), (0 : Int),
  [])))))) = false → ∃ (x' : Nat), (x' ≤ List.length (Prod.fst d) ∧ List.length (Prod.fst d) = List.length (Prod.snd d) ∧ List.take x' (Prod.fst d) = List.take x' (Prod.snd d)) ∧ List.length (Prod.fst d) - x' <
  List.length (Prod.fst d) - x ∧ Prod.fst d = Prod.fst d ∧ Prod.snd d = Prod.snd d ∧ IntKind.wrap IntKind.i64 ((↑x : Int) + (1 : Int)) = (↑x' : Int))) ∧ (decide ((↑x : Int) < (↑(List.length (Prod.fst d)) : Int)) = false
  → true = eqFls (Prod.fst d) (Prod.snd d))) := by
  intro d hw hp
  obtain ⟨xs, ys⟩ := d
  obtain ⟨⟨hl, _⟩, hl2, _⟩ := hw
  unfold lenMax at hl hl2
  simp only [Int.toNat_natCast] at *
  refine ⟨fun h => ?_, fun h => ⟨⟨by omega, by simp at h; omega, by simp⟩, by simp, fun x ⟨h1, h2, h0⟩ => ⟨fun h3 => ?_, fun h3 => ?_⟩⟩⟩
  · have : xs ≠ ys := fun e => by subst e; simp at h
    symm; rw [Bool.eq_false_iff]; exact fun e => this (eqFls_iff.1 e)
  · have h4 : x < xs.length := by simpa using h3
    obtain ⟨t1, t2⟩ := take_ext (z := ((0 : Int), (0 : Int), (0 : Int), ([] : List Tk))) h2 h4 h0
    rw [wrap_succ (by omega)]
    refine ⟨⟨by omega, by omega⟩, ⟨by omega, by omega⟩, trivial, fun h5 => ?_, fun h5 => ⟨x + 1, ⟨by omega, h2, ?_⟩, by omega, by simp⟩⟩
    · symm; rw [Bool.eq_false_iff]; intro e
      have e' := t2 (eqFls_iff.1 e)
      have h6 : eqFl (xs.getD x (0, 0, 0, [])) (ys.getD x (0, 0, 0, [])) = true := eqFl_iff.2 e'
      rw [Bool.not_eq_true'] at h5
      exact Bool.noConfusion (h6.symm.trans h5)
    · rw [Bool.not_eq_false'] at h5
      exact t1.2 (eqFl_iff.1 h5)
  · have h4 : x = xs.length := by simp at h3; omega
    subst h4
    have : xs = ys := by rw [List.take_length, h2, List.take_length] at h0; exact h0
    exact (eqFls_iff.2 this).symm
theorem v_L_eqRing :
  ∀ (d : Ty.den ringT × Tup [ringT]), Ty.wf ringT (Prod.fst d) ∧ Ty.wf ringT (Prod.snd d) → True → True ∧ ((!eqFls (Prod.fst (Prod.fst d)) (Prod.fst (Prod.snd d))) = true → false = eqRg (Prod.fst d) (Prod.snd d)) ∧
  ((!eqFls (Prod.fst (Prod.fst d)) (Prod.fst (Prod.snd d))) = false → ((!decide (Prod.fst (Prod.snd (Prod.fst d)) = Prod.fst (Prod.snd (Prod.snd d)))) = true → false = eqRg (Prod.fst d) (Prod.snd d)) ∧ ((!decide
  (Prod.fst (Prod.snd (Prod.fst d)) = Prod.fst (Prod.snd (Prod.snd d)))) = false → ((!Prod.snd (Prod.snd (Prod.fst d)) == Prod.snd (Prod.snd (Prod.snd d))) = true → false = eqRg (Prod.fst d) (Prod.snd d)) ∧ ((!Prod.snd
  (Prod.snd (Prod.fst d)) == Prod.snd (Prod.snd (Prod.snd d))) = false → true = eqRg (Prod.fst d) (Prod.snd d)))) := by
  intro d _ _
  simp only [eqRg_eq]
  grind
theorem szFl_room : ∀ (fs : List Fl) (l : Int), 0 ≤ szFlGo fs l → 0 ≤ l → l ≤ 1048576 → (∀ f ∈ fs, f.2.2.2.length ≤ 9223372036854775807) → ∀ f ∈ fs, f.2.2.2.length ≤ 1048576
  | [], l, _, _, _, _, f, hf => by cases hf
  | g :: fs, l, h, hl0, hl, hw, f, hf => by
    unfold szFlGo at h
    split at h
    · omega
    · rename_i hn
      have hg := hw g (List.mem_cons_self ..)
      have hs : g.2.2.2.length ≤ 1048576 ∧ 0 ≤ szF g.2.2.2.length l ∧ szF g.2.2.2.length l ≤ 1048576 := by
        unfold szF w64 at hn ⊢
        rw [IntKind.wrap_i64] at hn ⊢
        split at hn
        · omega
        · rename_i h2
          rw [if_neg h2]
          have h0 : (0 : Int) ≤ szFlGo fs (szF g.2.2.2.length l) := h
          refine ⟨?_, ?_, ?_⟩ <;> omega
      rcases List.mem_cons.1 hf with rfl | hf
      · exact hs.1
      · exact szFl_room fs _ h hs.2.1 hs.2.2 (fun f hf => hw f (List.mem_cons_of_mem _ hf)) f hf
end Go.SF
