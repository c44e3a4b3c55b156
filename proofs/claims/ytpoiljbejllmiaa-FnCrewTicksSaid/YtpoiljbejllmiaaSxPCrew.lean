/- What is owed of the code of the crews' functions. No condition. -/
import Derived.Test.YtpoiljbejllmiaaSxCCrew
import Derived.Test.YtpoiljbejllmiaaSxPLine
namespace Go.SF
open Go.SX Go
set_option linter.unusedVariables false
set_option linter.unusedSimpArgs false
set_option maxRecDepth 10000
theorem crew_iff {p : Int} {xs : List Hd} : crewOkF p xs = true ↔ (1 ≤ p ∧ p ≤ 200000) ∧ (1 ≤ xs.length ∧ xs.length ≤ 8) ∧ CrewP xs xs.length := by
  unfold crewOkF
  simp only [Bool.and_eq_true, decide_eq_true_eq, and_assoc]
theorem crew_hd {p : Int} {xs : List Hd} (h : ¬ ((1 ≤ p ∧ p ≤ 200000) ∧ (1 ≤ xs.length ∧ xs.length ≤ 8))) : false = crewOkF p xs := by
  symm; rw [Bool.eq_false_iff]; exact fun e => h ⟨(crew_iff.1 e).1, (crew_iff.1 e).2.1⟩
theorem crew_no {p : Int} {xs : List Hd} {x : Nat} (hx : x < xs.length) (h : ¬ (idleF (xs.getD x (0, 0, 0)) = true ∨ (handOkF (xs.getD x (0, 0, 0)) = true ∧ ClashP xs x x))) : false = crewOkF p xs := by
  symm; rw [Bool.eq_false_iff]; exact fun e => h ((crew_iff.1 e).2.2 x hx)
theorem crew_succ {xs : List Hd} {x : Nat} (h : CrewP xs x) (h1 : idleF (xs.getD x (0, 0, 0)) = true ∨ (handOkF (xs.getD x (0, 0, 0)) = true ∧ ClashP xs x x)) : CrewP xs (x + 1) := by
  intro j hj
  by_cases e : j = x
  · subst e; exact h1
  · exact h j (by omega)
theorem clash_succ {xs : List Hd} {k j : Nat} (h : ClashP xs k j) (h1 : ¬ ((xs.getD j (0, 0, 0)).1 = (xs.getD k (0, 0, 0)).1 ∧ (xs.getD j (0, 0, 0)).2.1 = (xs.getD k (0, 0, 0)).2.1)) : ClashP xs k (j + 1) := by
  intro i hi
  by_cases e : i = j
  · subst e; exact h1
  · exact h i (by omega)
theorem hand_iff {h : Hd} : handOkF h = true ↔ (0 ≤ h.1 ∧ h.1 ≤ 99) ∧ (1 ≤ h.2.1 ∧ h.2.1 ≤ 1000000000) ∧ (1 ≤ h.2.2 ∧ h.2.2 ≤ 200000) := by
  unfold handOkF isTicketF
  simp only [Bool.and_eq_true, decide_eq_true_eq, and_assoc]
theorem idle_iff {h : Hd} : idleF h = true ↔ h = (0, 0, 0) := by
  unfold idleF
  obtain ⟨a, b, c⟩ := h
  simp
theorem hidx_neg {t i : Int} : ∀ (xs : List Hd) (k : Nat), hidxGo t i xs k < 0 ↔ ∀ j, j < xs.length → ¬ ((xs.getD j (0, 0, 0)).2.1 ≠ 0 ∧ (xs.getD j (0, 0, 0)).1 = t ∧ (xs.getD j (0, 0, 0)).2.1 = i)
  | [], k => by simp [hidxGo]
  | h :: hs, k => by
    unfold hidxGo
    split
    · rename_i hh
      constructor
      · intro h; omega
      · intro h; exact absurd hh (h 0 (by simp))
    · rename_i hh
      rw [hidx_neg hs (k + 1)]
      constructor
      · intro h j hj
        cases j with
        | zero => exact hh
        | succ j => exact h j (by simpa using hj)
      · intro h j hj
        exact h (j + 1) (by simpa using hj)
theorem clash_iff {xs : List Hd} {x : Nat} (hx : x ≤ xs.length) (h0 : (xs.getD x (0, 0, 0)).2.1 ≠ 0) : ClashP xs x x ↔ hidxGo (xs.getD x (0, 0, 0)).1 (xs.getD x (0, 0, 0)).2.1 (xs.take x) 0 < 0 := by
  rw [hidx_neg]
  have hl : (xs.take x).length = x := by rw [List.length_take]; omega
  have hg : ∀ j, j < x → (xs.take x).getD j (0, 0, 0) = xs.getD j (0, 0, 0) := by
    intro j hj
    simp only [List.getD_eq_getElem?_getD, List.getElem?_take, if_pos hj]
  constructor
  · intro h j hj ⟨_, a, b⟩
    rw [hl] at hj
    rw [hg j hj] at a b
    exact h j hj ⟨a, b⟩
  · intro h j hj ⟨a, b⟩
    refine h j (by rw [hl]; exact hj) ?_
    rw [hg j hj]
    exact ⟨by rw [b]; exact h0, a, b⟩
theorem v_L_szHandS :
  ∀ (d : List (Int × Int × Int) × Int), Ty.wf (Ty.sl hdT) (Prod.fst d) ∧ Ty.wf i64T (Prod.snd d) → True → (decide (IntKind.wrap IntKind.i64 (Prod.snd d - (↑(List.length (Prod.fst d)) : Int)) < (0 : Int)) = true → (-1 :
  Int) = szF (List.length (Prod.fst d)) (Prod.snd d)) ∧ (decide (IntKind.wrap IntKind.i64 (Prod.snd d - (↑(List.length (Prod.fst d)) : Int)) < (0 : Int)) = false → IntKind.wrap IntKind.i64 (Prod.snd d - (↑(List.length
  (Prod.fst d)) : Int)) = szF (List.length (Prod.fst d)) (Prod.snd d)) := by
  intro (d : List Hd × Int) hw _
  obtain ⟨xs, l⟩ := d
  simp only [szF, w64]
  grind
theorem v_L_szCrew :
  ∀ (d : (Int × List (Int × Int × Int)) × Int), Ty.wf crewT (Prod.fst d) ∧ Ty.wf i64T (Prod.snd d) → True → True ∧ (Ty.wf i64T (szF (List.length (Prod.snd (Prod.fst d))) (Prod.snd d)) → (decide (szF (List.length
  (Prod.snd (Prod.fst d))) (Prod.snd d) < (0 : Int)) = true → (-1 : Int) = szF (List.length (Prod.snd (Prod.fst d))) (Prod.snd d)) ∧ (decide (szF (List.length (Prod.snd (Prod.fst d))) (Prod.snd d) < (0 : Int)) = false →
  szF (List.length (Prod.snd (Prod.fst d))) (Prod.snd d) = szF (List.length (Prod.snd (Prod.fst d))) (Prod.snd d))) := by
  intro d hw _
  simp only [szF]
  grind
theorem v_L_toHand :
  ∀ (d : Int × Int × Int), Ty.wf hdT d → True → (Prod.fst d, Prod.fst (Prod.snd d), Prod.snd (Prod.snd d)) = d := by
  intro d _ _; rfl
theorem v_L_toHandS :
  ∀ (d : List (Int × Int × Int)), Ty.wf (Ty.sl hdT) d → List.length d ≤ (1048576 : Nat) → ((0 : Int) ≤ (↑(List.length d) : Int) ∧ (↑(List.length d) : Int) ≤ (↑(List.length d) : Int) ∧ (↑(List.length d) : Int) * (↑(24 :
  Nat) : Int) ≤ (140737488355328 : Int)) ∧ (0 : Nat) ≤ List.length d ∧ ((d = d ∧ Value.slice none (0 : Nat) (0 : Nat) = Value.slice none (0 : Nat) (0 : Nat) ∧ (0 : Int) = (↑(0 : Nat) : Int)) ∧ List.replicate (Int.toNat
  (↑(List.length d) : Int)) ((0 : Int), (0 : Int), (0 : Int)) = List.take (0 : Nat) d ++ List.replicate (List.length d - (0 : Nat)) ((0 : Int), (0 : Int), (0 : Int))) ∧ ∀ (x : Nat), x ≤ List.length d → (decide ((↑x :
  Int) < (↑(List.length d) : Int)) = true → ((0 : Int) ≤ (↑x : Int) ∧ (↑x : Int) < (↑(List.length d) : Int)) ∧ True ∧ (Ty.wf hdT (Prod.fst (List.getD d (Int.toNat (↑x : Int)) ((0 : Int), (0 : Int), (0 : Int))), Prod.fst
  (Prod.snd (List.getD d (Int.toNat (↑x : Int)) ((0 : Int), (0 : Int), (0 : Int)))), Prod.snd (Prod.snd (List.getD d (Int.toNat (↑x : Int)) ((0 : Int), (0 : Int), (0 : Int))))) → ((0 : Int) ≤ (↑x : Int) ∧ (↑x : Int) <
  (↑(List.length (List.take x d ++ List.replicate (List.length d - x) ((0 : Int), (0 : Int), (0 : Int)))) : Int)) ∧ ∃ (x' : Nat), x' ≤ List.length d ∧ List.length d - x' < List.length d - x ∧ (d = d ∧ Value.slice none (0
  : Nat) (0 : Nat) = Value.slice none (0 : Nat) (0 : Nat) ∧ IntKind.wrap IntKind.i64 ((↑x : Int) + (1 : Int)) = (↑x' : Int)) ∧ List.set (List.take x d ++ List.replicate (List.length d - x) ((0 : Int), (0 : Int), (0 :
  Int))) (Int.toNat (↑x : Int)) (Prod.fst (List.getD d (Int.toNat (↑x : Int)) ((0 : Int), (0 : Int), (0 : Int))), Prod.fst (Prod.snd (List.getD d (Int.toNat (↑x : Int)) ((0 : Int), (0 : Int), (0 : Int)))), Prod.snd
  (Prod.snd (List.getD d (Int.toNat (↑x : Int)) ((0 : Int), (0 : Int), (0 : Int))))) = List.take x' d ++ List.replicate (List.length d - x') ((0 : Int), (0 : Int), (0 : Int)))) ∧ (decide ((↑x : Int) < (↑(List.length d) :
  Int)) = false → List.take x d ++ List.replicate (List.length d - x) ((0 : Int), (0 : Int), (0 : Int)) = d) := by
  intro (d : List Hd) hw hp
  have hl : d.length ≤ 9223372036854775807 := hw.1
  simp only [Int.toNat_natCast, exists_const, and_true, true_and, implies_true, decide_eq_true_eq, decide_eq_false_iff_not, Bool.not_eq_true', Bool.not_eq_false', beq_iff_eq, forall_const]
  refine ⟨⟨by omega, by omega, by omega⟩, by omega, by simp, fun x h1 => ⟨fun h3 => ?_, fun h3 => ?_⟩⟩
  · have h4 : x < d.length := by omega
    rw [wrap_succ (by omega)]
    refine ⟨⟨by omega, by omega⟩, fun _ => ⟨⟨by omega, ?_⟩, x + 1, by omega, by omega, ?_, ?_⟩⟩
    · simp; omega
    · simp
    · exact copy_step d _ h4
  · have h4 : x = d.length := by omega
    subst h4
    simp
theorem v_L_toCrew :
  ∀ (d : Int × List (Int × Int × Int)), Ty.wf crewT d → List.length (Prod.snd d) ≤ (1048576 : Nat) → List.length (Prod.snd d) ≤ (1048576 : Nat) ∧ (Ty.wf (Ty.sl hdT) (Prod.snd d) → (Prod.fst d, Prod.snd d) = d) := by
  intro d hw hp
  exact ⟨hp, fun _ => rfl⟩
theorem v_L_eqHand :
  ∀ (d : (Int × Int × Int) × Int × Int × Int), Ty.wf hdT (Prod.fst d) ∧ Ty.wf hdT (Prod.snd d) → True → ((!decide (Prod.fst (Prod.fst d) = Prod.fst (Prod.snd d))) = true → false = decide (Prod.fst d = Prod.snd d)) ∧
  ((!decide (Prod.fst (Prod.fst d) = Prod.fst (Prod.snd d))) = false → ((!decide (Prod.fst (Prod.snd (Prod.fst d)) = Prod.fst (Prod.snd (Prod.snd d)))) = true → false = decide (Prod.fst d = Prod.snd d)) ∧ ((!decide
  (Prod.fst (Prod.snd (Prod.fst d)) = Prod.fst (Prod.snd (Prod.snd d)))) = false → ((!decide (Prod.snd (Prod.snd (Prod.fst d)) = Prod.snd (Prod.snd (Prod.snd d)))) = true → false = decide (Prod.fst d = Prod.snd d)) ∧
  ((!decide (Prod.snd (Prod.snd (Prod.fst d)) = Prod.snd (Prod.snd (Prod.snd d)))) = false → true = decide (Prod.fst d = Prod.snd d)))) := by
  intro d _ _
  obtain ⟨⟨a, b, c⟩, ⟨a', b', c'⟩⟩ := d
  grind
theorem v_L_eqHandS :
  ∀ (d : List (Int × Int × Int) × List (Int × Int × Int)), Ty.wf (Ty.sl hdT) (Prod.fst d) ∧ Ty.wf (Ty.sl hdT) (Prod.snd d) → True → ((!decide ((↑(List.length (Prod.fst d)) : Int) = (↑(List.length (Prod.snd d)) : Int))) =
  true → false = decide (Prod.fst d = Prod.snd d)) ∧ ((!decide ((↑(List.length (Prod.fst d)) : Int) = (↑(List.length (Prod.snd d)) : Int))) = false → ((0 : Nat) ≤ List.length (Prod.fst d) ∧ List.length (Prod.fst d) =
  List.length (Prod.snd d) ∧ List.take (0 : Nat) (Prod.fst d) = List.take (0 : Nat) (Prod.snd d)) ∧ (Prod.fst d = Prod.fst d ∧ Prod.snd d = Prod.snd d ∧ (0 : Int) = (↑(0 : Nat) : Int)) ∧ ∀ (x : Nat), x ≤ List.length
  (Prod.fst d) ∧ List.length (Prod.fst d) = List.length (Prod.snd d) ∧ List.take x (Prod.fst d) = List.take x (Prod.snd d) → (decide ((↑x : Int) < (↑(List.length (Prod.fst d)) : Int)) = true → ((0 : Int) ≤ (↑x : Int) ∧
  (↑x : Int) < (↑(List.length (Prod.fst d)) : Int)) ∧ ((0 : Int) ≤ (↑x : Int) ∧ (↑x : Int) < (↑(List.length (Prod.snd d)) : Int)) ∧ True ∧ ((!decide ((Prod.fst (List.getD (Prod.fst d) (Int.toNat (↑x : Int)) ((0 : Int),
  (0 : Int), (0 : Int))), Prod.fst (Prod.snd (List.getD (Prod.fst d) (Int.toNat (↑x : Int)) ((0 : Int), (0 : Int), (0 : Int)))), Prod.snd (Prod.snd (List.getD (Prod.fst d) (Int.toNat (↑x : Int)) ((0 : Int), (0 : Int), (0
  : Int))))) = (Prod.fst (List.getD (Prod.snd d) (Int.toNat (↑x : Int)) ((0 : Int), (0 : Int), (0 : Int))), Prod.fst (Prod.snd (List.getD (Prod.snd d) (Int.toNat (↑x : Int)) ((0 : Int), (0 : Int), (0 : Int)))), Prod.snd
  (Prod.snd (List.getD (Prod.snd d) (Int.toNat (↑x : Int)) ((0 : Int), (0 : Int), (0 : Int))))))) = true → false = decide (Prod.fst d = Prod.snd d)) ∧ ((!decide ((Prod.fst (List.getD (Prod.fst d) (Int.toNat (↑x : Int))
  ((0 : Int), (0 : Int), (0 : Int))), Prod.fst (Prod.snd (List.getD (Prod.fst d) (Int.toNat (↑x : Int)) ((0 : Int), (0 : Int), (0 : Int)))), Prod.snd (Prod.snd (List.getD (Prod.fst d) (Int.toNat (↑x : Int)) ((0 : Int),
  (0 : Int), (0 : Int))))) = (Prod.fst (List.getD (Prod.snd d) (Int.toNat (↑x : Int)) ((0 : Int), (0 : Int), (0 : Int))), Prod.fst (Prod.snd (List.getD (Prod.snd d) (Int.toNat (↑x : Int)) ((0 : Int), (0 : Int), (0 :
  Int)))), Prod.snd (Prod.snd (List.getD (Prod.snd d) (Int.toNat (↑x : Int)) ((0 : Int), (0 : Int), (0 : Int))))))) = false → ∃ (x' : Nat), (x' ≤ List.length (Prod.fst d) ∧ List.length (Prod.fst d) = List.length
  (Prod.snd d) ∧ List.take x' (Prod.fst d) = List.take x' (Prod.snd d)) ∧ List.length (Prod.fst d) - x' < List.length (Prod.fst d) - x ∧ Prod.fst d = Prod.fst d ∧ Prod.snd d = Prod.snd d ∧ IntKind.wrap IntKind.i64 ((↑x :
  Int) + (1 : Int)) = (↑x' : Int))) ∧ (decide ((↑x : Int) < (↑(List.length (Prod.fst d)) : Int)) = false → true = decide (Prod.fst d = Prod.snd d))) := by
  intro (d : List Hd × List Hd) hw hp
  obtain ⟨xs, ys⟩ := d
  obtain ⟨⟨hl, _⟩, hl2, _⟩ := hw
  unfold lenMax at hl hl2
  simp only [Int.toNat_natCast, pe] at *
  refine ⟨fun h => ?_, fun h => ⟨⟨by omega, by simp at h; omega, by simp⟩, by simp, fun x ⟨h1, h2, h0⟩ => ⟨fun h3 => ?_, fun h3 => ?_⟩⟩⟩
  · grind
  · have h4 : x < xs.length := by simpa using h3
    obtain ⟨t1, t2⟩ := take_ext (z := ((0 : Int), (0 : Int), (0 : Int))) h2 h4 h0
    rw [wrap_succ (by omega)]
    refine ⟨⟨by omega, by omega⟩, ⟨by omega, by omega⟩, trivial, fun h5 => ?_, fun h5 => ⟨x + 1, ⟨by omega, h2, ?_⟩, by omega, by simp⟩⟩
    · have h6 : xs.getD x (0, 0, 0) ≠ ys.getD x (0, 0, 0) := by intro e; simp only [e] at h5; simp at h5
      have : xs ≠ ys := fun e => h6 (t2 e)
      simp [this]
    · exact t1.2 (by simpa using h5)
  · have h4 : x = xs.length := by simp at h3; omega
    subst h4
    have : xs = ys := by rw [List.take_length, h2, List.take_length] at h0; exact h0
    simp [this]
theorem v_L_eqCrew :
  ∀ (d : (Int × List (Int × Int × Int)) × Int × List (Int × Int × Int)), Ty.wf crewT (Prod.fst d) ∧ Ty.wf crewT (Prod.snd d) → True → ((!decide (Prod.fst (Prod.fst d) = Prod.fst (Prod.snd d))) = true → false = decide
  (Prod.fst d = Prod.snd d)) ∧ ((!decide (Prod.fst (Prod.fst d) = Prod.fst (Prod.snd d))) = false → True ∧ ((!decide (Prod.snd (Prod.fst d) = Prod.snd (Prod.snd d))) = true → false = decide (Prod.fst d = Prod.snd d)) ∧
  ((!decide (Prod.snd (Prod.fst d) = Prod.snd (Prod.snd d))) = false → true = decide (Prod.fst d = Prod.snd d))) := by
  intro d _ _
  obtain ⟨⟨a, b⟩, ⟨a', b'⟩⟩ := d
  grind
theorem v_S_l15Idle :
  ∀ (d : Int × Int × Int), Ty.wf hdT d → True → (decide (Prod.fst d = (0 : Int)) = true → (decide (Prod.fst (Prod.snd d) = (0 : Int)) = true → decide (Prod.snd (Prod.snd d) = (0 : Int)) = idleF d) ∧ (decide (Prod.fst
  (Prod.snd d) = (0 : Int)) = false → false = idleF d)) ∧ (decide (Prod.fst d = (0 : Int)) = false → false = idleF d) := by
  intro d _ _
  obtain ⟨a, b, c⟩ := d
  simp only [idleF]
  grind
theorem v_S_CrewOk :
  ∀ (d : Int × List (Int × Int × Int)), Ty.wf crewT d → True → True ∧ ((!(decide ((1 : Int) ≤ Prod.fst d) && decide (Prod.fst d ≤ (200000 : Int)))) = true → false = crewOkF (Prod.fst d) (Prod.snd d)) ∧ ((!(decide ((1 :
  Int) ≤ Prod.fst d) && decide (Prod.fst d ≤ (200000 : Int)))) = false → True ∧ ((!(decide ((1 : Int) ≤ (↑(List.length (Prod.snd d)) : Int)) && decide ((↑(List.length (Prod.snd d)) : Int) ≤ (8 : Int)))) = true → false =
  crewOkF (Prod.fst d) (Prod.snd d)) ∧ ((!(decide ((1 : Int) ≤ (↑(List.length (Prod.snd d)) : Int)) && decide ((↑(List.length (Prod.snd d)) : Int) ≤ (8 : Int)))) = false → ((0 : Nat) ≤ List.length (Prod.snd d) ∧ CrewP
  (Prod.snd d) (0 : Nat)) ∧ (((Prod.fst d = Prod.fst d ∧ Prod.snd d = Prod.snd d) ∧ (0 : Int) = (↑(0 : Nat) : Int)) ∧ Prod.fst d = Prod.fst d ∧ Prod.snd d = Prod.snd d) ∧ ∀ (x : Nat), x ≤ List.length (Prod.snd d) ∧ CrewP
  (Prod.snd d) x → (decide ((↑x : Int) < (↑(List.length (Prod.snd d)) : Int)) = true → ((0 : Int) ≤ (↑x : Int) ∧ (↑x : Int) < (↑(List.length (Prod.snd d)) : Int)) ∧ True ∧ (idleF (Prod.fst (List.getD (Prod.snd d)
  (Int.toNat (↑x : Int)) ((0 : Int), (0 : Int), (0 : Int))), Prod.fst (Prod.snd (List.getD (Prod.snd d) (Int.toNat (↑x : Int)) ((0 : Int), (0 : Int), (0 : Int)))), Prod.snd (Prod.snd (List.getD (Prod.snd d) (Int.toNat
  (↑x : Int)) ((0 : Int), (0 : Int), (0 : Int))))) = true → ∃ (x' : Nat), (x' ≤ List.length (Prod.snd d) ∧ CrewP (Prod.snd d) x') ∧ List.length (Prod.snd d) - x' < List.length (Prod.snd d) - x ∧ ((Prod.fst d = Prod.fst d
  ∧ Prod.snd d = Prod.snd d) ∧ IntKind.wrap IntKind.i64 ((↑x : Int) + (1 : Int)) = (↑x' : Int)) ∧ Prod.fst d = Prod.fst d ∧ Prod.snd d = Prod.snd d) ∧ (idleF (Prod.fst (List.getD (Prod.snd d) (Int.toNat (↑x : Int)) ((0 :
  Int), (0 : Int), (0 : Int))), Prod.fst (Prod.snd (List.getD (Prod.snd d) (Int.toNat (↑x : Int)) ((0 : Int), (0 : Int), (0 : Int)))), Prod.snd (Prod.snd (List.getD (Prod.snd d) (Int.toNat (↑x : Int)) ((0 : Int), (0 :
  Int), (0 : Int))))) = false → True ∧ ((!(decide ((0 : Int) ≤ Prod.fst (List.getD (Prod.snd d) (Int.toNat (↑x : Int)) ((0 : Int), (0 : Int), (0 : Int)))) && decide (Prod.fst (List.getD (Prod.snd d) (Int.toNat (↑x :
  Int)) ((0 : Int), (0 : Int), (0 : Int))) ≤ (99 : Int)))) = true → false = crewOkF (Prod.fst d) (Prod.snd d)) ∧ ((!(decide ((0 : Int) ≤ Prod.fst (List.getD (Prod.snd d) (Int.toNat (↑x : Int)) ((0 : Int), (0 : Int), (0 :
  Int)))) && decide (Prod.fst (List.getD (Prod.snd d) (Int.toNat (↑x : Int)) ((0 : Int), (0 : Int), (0 : Int))) ≤ (99 : Int)))) = false → True ∧ ((!(decide ((1 : Int) ≤ Prod.fst (Prod.snd (List.getD (Prod.snd d)
  (Int.toNat (↑x : Int)) ((0 : Int), (0 : Int), (0 : Int))))) && decide (Prod.fst (Prod.snd (List.getD (Prod.snd d) (Int.toNat (↑x : Int)) ((0 : Int), (0 : Int), (0 : Int)))) ≤ (1000000000 : Int)))) = true → false =
  crewOkF (Prod.fst d) (Prod.snd d)) ∧ ((!(decide ((1 : Int) ≤ Prod.fst (Prod.snd (List.getD (Prod.snd d) (Int.toNat (↑x : Int)) ((0 : Int), (0 : Int), (0 : Int))))) && decide (Prod.fst (Prod.snd (List.getD (Prod.snd d)
  (Int.toNat (↑x : Int)) ((0 : Int), (0 : Int), (0 : Int)))) ≤ (1000000000 : Int)))) = false → True ∧ ((!(decide ((1 : Int) ≤ Prod.snd (Prod.snd (List.getD (Prod.snd d) (Int.toNat (↑x : Int)) ((0 : Int), (0 : Int), (0 :
  Int))))) && decide (Prod.snd (Prod.snd (List.getD (Prod.snd d) (Int.toNat (↑x : Int)) ((0 : Int), (0 : Int), (0 : Int)))) ≤ (200000 : Int)))) = true → false = crewOkF (Prod.fst d) (Prod.snd d)) ∧ ((!(decide ((1 : Int)
  ≤ Prod.snd (Prod.snd (List.getD (Prod.snd d) (Int.toNat (↑x : Int)) ((0 : Int), (0 : Int), (0 : Int))))) && decide (Prod.snd (Prod.snd (List.getD (Prod.snd d) (Int.toNat (↑x : Int)) ((0 : Int), (0 : Int), (0 : Int))))
  ≤ (200000 : Int)))) = false → ((0 : Nat) ≤ x ∧ ClashP (Prod.snd d) x (0 : Nat)) ∧ (((Prod.fst d = Prod.fst d ∧ Prod.snd d = Prod.snd d) ∧ (↑x : Int) = (↑x : Int) ∧ (0 : Int) = (↑(0 : Nat) : Int)) ∧ (Prod.fst d =
  Prod.fst d ∧ Prod.snd d = Prod.snd d) ∧ Prod.fst (List.getD (Prod.snd d) (Int.toNat (↑x : Int)) ((0 : Int), (0 : Int), (0 : Int))) = Prod.fst (List.getD (Prod.snd d) (Int.toNat (↑x : Int)) ((0 : Int), (0 : Int), (0 :
  Int))) ∧ Prod.fst (Prod.snd (List.getD (Prod.snd d) (Int.toNat (↑x : Int)) ((0 : Int), (0 : Int), (0 : Int)))) = Prod.fst (Prod.snd (List.getD (Prod.snd d) (Int.toNat (↑x : Int)) ((0 : Int), (0 : Int), (0 : Int)))) ∧
  Prod.snd (Prod.snd (List.getD (Prod.snd d) (Int.toNat (↑x : Int)) ((0 : Int), (0 : Int), (0 : Int)))) = Prod.snd (Prod.snd (List.getD (Prod.snd d) (Int.toNat (↑x : Int)) ((0 : Int), (0 : Int), (0 : Int))))) ∧ ∀ (x_1 :
  Nat), x_1 ≤ x ∧ ClashP (Prod.snd d) x x_1 → (decide ((↑x_1 : Int) < (↑x : Int)) = true → ((0 : Int) ≤ (↑x_1 : Int) ∧ (↑x_1 : Int) < (↑(List.length (Prod.snd d)) : Int)) ∧ (decide (Prod.fst (List.getD (Prod.snd d)
  (Int.toNat (↑x_1 : Int)) ((0 : Int), (0 : Int), (0 : Int))) = Prod.fst (List.getD (Prod.snd d) (Int.toNat (↑x : Int)) ((0 : Int), (0 : Int), (0 : Int)))) = true → ((0 : Int) ≤ (↑x_1 : Int) ∧ (↑x_1 : Int) <
  (↑(List.length (Prod.snd d)) : Int)) ∧ (decide (Prod.fst (Prod.snd (List.getD (Prod.snd d) (Int.toNat (↑x_1 : Int)) ((0 : Int), (0 : Int), (0 : Int)))) = Prod.fst (Prod.snd (List.getD (Prod.snd d) (Int.toNat (↑x :
  Int)) ((0 : Int), (0 : Int), (0 : Int))))) = true → false = crewOkF (Prod.fst d) (Prod.snd d)) ∧ (decide (Prod.fst (Prod.snd (List.getD (Prod.snd d) (Int.toNat (↑x_1 : Int)) ((0 : Int), (0 : Int), (0 : Int)))) =
  Prod.fst (Prod.snd (List.getD (Prod.snd d) (Int.toNat (↑x : Int)) ((0 : Int), (0 : Int), (0 : Int))))) = false → ∃ (x' : Nat), (x' ≤ x ∧ ClashP (Prod.snd d) x x') ∧ x - x' < x - x_1 ∧ ((Prod.fst d = Prod.fst d ∧
  Prod.snd d = Prod.snd d) ∧ (↑x : Int) = (↑x : Int) ∧ IntKind.wrap IntKind.i64 ((↑x_1 : Int) + (1 : Int)) = (↑x' : Int)) ∧ (Prod.fst d = Prod.fst d ∧ Prod.snd d = Prod.snd d) ∧ Prod.fst (List.getD (Prod.snd d)
  (Int.toNat (↑x : Int)) ((0 : Int), (0 : Int), (0 : Int))) = Prod.fst (List.getD (Prod.snd d) (Int.toNat (↑x : Int)) ((0 : Int), (0 : Int), (0 : Int))) ∧ Prod.fst (Prod.snd (List.getD (Prod.snd d) (Int.toNat (↑x : Int))
  ((0 : Int), (0 : Int), (0 : Int)))) = Prod.fst (Prod.snd (List.getD (Prod.snd d) (Int.toNat (↑x : Int)) ((0 : Int), (0 : Int), (0 : Int)))) ∧ Prod.snd (Prod.snd (List.getD (Prod.snd d) (Int.toNat (↑x : Int)) ((0 :
  Int), (0 : Int), (0 : Int)))) = Prod.snd (Prod.snd (List.getD (Prod.snd d) (Int.toNat (↑x : Int)) ((0 : Int), (0 : Int), (0 : Int)))))) ∧ (decide (Prod.fst (List.getD (Prod.snd d) (Int.toNat (↑x_1 : Int)) ((0 : Int),
  (0 : Int), (0 : Int))) = Prod.fst (List.getD (Prod.snd d) (Int.toNat (↑x : Int)) ((0 : Int), (0 : Int), (0 : Int)))) = false → ∃ (x' : Nat), (x' ≤ x ∧ ClashP (Prod.snd d) x x') ∧ x - x' < x - x_1 ∧ ((Prod.fst d =
  Prod.fst d ∧ Prod.snd d = Prod.snd d) ∧ (↑x : Int) = (↑x : Int) ∧ IntKind.wrap IntKind.i64 ((↑x_1 : Int) + (1 : Int)) = (↑x' : Int)) ∧ (Prod.fst d = Prod.fst d ∧ Prod.snd d = Prod.snd d) ∧ Prod.fst (List.getD (Prod.snd
  d) (Int.toNat (↑x : Int)) ((0 : Int), (0 : Int), (0 : Int))) = Prod.fst (List.getD (Prod.snd d) (Int.toNat (↑x : Int)) ((0 : Int), (0 : Int), (0 : Int))) ∧ Prod.fst (Prod.snd (List.getD (Prod.snd d) (Int.toNat (↑x :
  Int)) ((0 : Int), (0 : Int), (0 : Int)))) = Prod.fst (Prod.snd (List.getD (Prod.snd d) (Int.toNat (↑x : Int)) ((0 : Int), (0 : Int), (0 : Int)))) ∧ Prod.snd (Prod.snd (List.getD (Prod.snd d) (Int.toNat (↑x : Int)) ((0
  : Int), (0 : Int), (0 : Int)))) = Prod.snd (Prod.snd (List.getD (Prod.snd d) (Int.toNat (↑x : Int)) ((0 : Int), (0 : Int), (0 : Int)))))) ∧ (decide ((↑x_1 : Int) < (↑x : Int)) = false → ∃ (x' : Nat), (x' ≤ List.length
  (Prod.snd d) ∧ CrewP (Prod.snd d) x') ∧ List.length (Prod.snd d) - x' < List.length (Prod.snd d) - x ∧ ((Prod.fst d = Prod.fst d ∧ Prod.snd d = Prod.snd d) ∧ IntKind.wrap IntKind.i64 ((↑x : Int) + (1 : Int)) = (↑x' :
  Int)) ∧ Prod.fst d = Prod.fst d ∧ Prod.snd d = Prod.snd d)))))) ∧ (decide ((↑x : Int) < (↑(List.length (Prod.snd d)) : Int)) = false → true = crewOkF (Prod.fst d) (Prod.snd d)))) := by
  intro (d : Int × List Hd) hw _
  obtain ⟨p, xs⟩ := d
  have hl : xs.length ≤ 9223372036854775807 := hw.2.1
  have hh := @crew_hd p xs
  simp only [Int.toNat_natCast, exists_const, and_true, true_and, implies_true, decide_eq_true_eq, decide_eq_false_iff_not, Bool.not_eq_true', Bool.not_eq_false', beq_iff_eq, forall_const]
  simp only [Bool.and_eq_false_iff, Bool.and_eq_true, decide_eq_true_eq, decide_eq_false_iff_not]
  refine ⟨fun h => hh (by omega), fun a1 => ⟨fun h => hh (by omega), fun a2 => ⟨⟨by omega, fun j hj => by omega⟩, rfl, fun x ⟨k1, k2⟩ => ⟨fun h3 => ⟨⟨by omega, by omega⟩, ?_⟩, fun h3 => ?_⟩⟩⟩⟩
  · have h3 : x < xs.length := by omega
    have hno := @crew_no p xs x h3
    have hsu := @crew_succ xs x k2
    have hhd := @hand_iff (xs.getD x (0, 0, 0))
    rw [wrap_succ (by omega)]
    refine ⟨fun hi => ⟨x + 1, ⟨by omega, hsu (.inl hi)⟩, by omega, rfl⟩, fun hi => ?_⟩
    have hi' : ¬ idleF (xs.getD x (0, 0, 0)) = true := by rw [show idleF (xs.getD x (0, 0, 0)) = false from hi]; simp
    have no : ¬ (handOkF (xs.getD x (0, 0, 0)) = true ∧ ClashP xs x x) → false = crewOkF p xs := fun h => hno (fun hx => hx.elim hi' h)
    refine ⟨fun h => no (fun hx => by have := hhd.1 hx.1; omega), fun b1 => ⟨fun h => no (fun hx => by have := hhd.1 hx.1; omega), fun b2 => ⟨fun h => no (fun hx => by have := hhd.1 hx.1; omega), fun b3 => ⟨⟨by omega, fun j hj => by omega⟩, rfl, fun j ⟨c1, c2⟩ => ⟨fun h4 => ⟨⟨by omega, by omega⟩, ?_⟩, fun h4 => ?_⟩⟩⟩⟩⟩
    · have h4 : j < x := by omega
      rw [wrap_succ (by omega)]
      have hcs := @clash_succ xs x j c2
      refine ⟨fun d1 => ⟨⟨by omega, by omega⟩, fun d2 => no (fun hx => hx.2 j h4 ⟨d1, d2⟩), fun d2 => ⟨j + 1, ⟨by omega, hcs (fun hx => d2 hx.2)⟩, by omega, rfl⟩⟩, fun d1 => ⟨j + 1, ⟨by omega, hcs (fun hx => d1 hx.1)⟩, by omega, rfl⟩⟩
    · have h5 : j = x := by omega
      subst h5
      exact ⟨j + 1, ⟨by omega, hsu (.inr ⟨hhd.2 ⟨by omega, by omega, by omega⟩, c2⟩)⟩, by omega, rfl⟩
  · have h4 : x = xs.length := by omega
    subst h4
    exact (crew_iff.2 ⟨by omega, by omega, k2⟩).symm
theorem v_I_handOf1 :
  ∀ (d : (Int × Int × Int) × Int × Int), Ty.wf hdT (Prod.fst d) ∧ Ty.wf (Ty.ptr i64T) (Prod.fst (Prod.snd d)) ∧ Ty.wf (Ty.ptr i64T) (Prod.snd (Prod.snd d)) → True → ((!decide (Prod.fst (Prod.snd (Prod.fst d)) = (0 :
  Int))) = true → (decide (Prod.fst (Prod.fst d) = Prod.fst (Prod.snd d)) = true → decide (Prod.fst (Prod.snd (Prod.fst d)) = Prod.snd (Prod.snd d)) = decide (Prod.fst (Prod.snd (Prod.fst d)) ≠ (0 : Int) ∧ Prod.fst
  (Prod.fst d) = Prod.fst (Prod.snd d) ∧ Prod.fst (Prod.snd (Prod.fst d)) = Prod.snd (Prod.snd d))) ∧ (decide (Prod.fst (Prod.fst d) = Prod.fst (Prod.snd d)) = false → false = decide (Prod.fst (Prod.snd (Prod.fst d)) ≠
  (0 : Int) ∧ Prod.fst (Prod.fst d) = Prod.fst (Prod.snd d) ∧ Prod.fst (Prod.snd (Prod.fst d)) = Prod.snd (Prod.snd d)))) ∧ ((!decide (Prod.fst (Prod.snd (Prod.fst d)) = (0 : Int))) = false → false = decide (Prod.fst
  (Prod.snd (Prod.fst d)) ≠ (0 : Int) ∧ Prod.fst (Prod.fst d) = Prod.fst (Prod.snd d) ∧ Prod.fst (Prod.snd (Prod.fst d)) = Prod.snd (Prod.snd d))) := by
  intro (d : Hd × Int × Int) _ _
  obtain ⟨⟨a, b, c⟩, t, i⟩ := d
  grind
theorem v_G_IndexFuncHd :
  ∀ (d : List (Int × Int × Int) × Int × Int), Ty.wf (Ty.sl hdT) (Prod.fst d) ∧ Ty.wf (Ty.clo (0 : Nat) (Ty.pr (Ty.ptr i64T) (Ty.ptr i64T))) (Prod.snd d) → True → ((0 : Nat) ≤ List.length (Prod.fst d) ∧ hidxGo (Prod.fst
  (Prod.snd d)) (Prod.snd (Prod.snd d)) (List.drop (0 : Nat) (Prod.fst d)) (0 : Nat) = hidxGo (Prod.fst (Prod.snd d)) (Prod.snd (Prod.snd d)) (Prod.fst d) (0 : Nat)) ∧ (Prod.fst d = Prod.fst d ∧ Prod.snd d = Prod.snd d ∧
  (↑(List.length (Prod.fst d)) : Int) = (↑(List.length (Prod.fst d)) : Int) ∧ (0 : Int) = (↑(0 : Nat) : Int)) ∧ ∀ (x : Nat), x ≤ List.length (Prod.fst d) ∧ hidxGo (Prod.fst (Prod.snd d)) (Prod.snd (Prod.snd d))
  (List.drop x (Prod.fst d)) x = hidxGo (Prod.fst (Prod.snd d)) (Prod.snd (Prod.snd d)) (Prod.fst d) (0 : Nat) → (decide ((↑x : Int) < (↑(List.length (Prod.fst d)) : Int)) = true → ((0 : Int) ≤ (↑x : Int) ∧ (↑x : Int) <
  (↑(List.length (Prod.fst d)) : Int)) ∧ True ∧ (decide (Prod.fst (Prod.snd (List.getD (Prod.fst d) (Int.toNat (↑x : Int)) ((0 : Int), (0 : Int), (0 : Int)))) ≠ (0 : Int) ∧ Prod.fst (List.getD (Prod.fst d) (Int.toNat (↑x
  : Int)) ((0 : Int), (0 : Int), (0 : Int))) = Prod.fst (Prod.snd d) ∧ Prod.fst (Prod.snd (List.getD (Prod.fst d) (Int.toNat (↑x : Int)) ((0 : Int), (0 : Int), (0 : Int)))) = Prod.snd (Prod.snd d)) = true → (↑x : Int) =
  hidxGo (Prod.fst (Prod.snd d)) (Prod.snd (Prod.snd d)) (Prod.fst d) (0 : Nat)) ∧ (decide (Prod.fst (Prod.snd (List.getD (Prod.fst d) (Int.toNat (↑x : Int)) ((0 : Int), (0 : Int), (0 : Int)))) ≠ (0 : Int) ∧ Prod.fst
  (List.getD (Prod.fst d) (Int.toNat (↑x : Int)) ((0 : Int), (0 : Int), (0 : Int))) = Prod.fst (Prod.snd d) ∧ Prod.fst (Prod.snd (List.getD (Prod.fst d) (Int.toNat (↑x : Int)) ((0 : Int), (0 : Int), (0 : Int)))) =
  Prod.snd (Prod.snd d)) = false → ∃ (x' : Nat), (x' ≤ List.length (Prod.fst d) ∧ hidxGo (Prod.fst (Prod.snd d)) (Prod.snd (Prod.snd d)) (List.drop x' (Prod.fst d)) x' = hidxGo (Prod.fst (Prod.snd d)) (Prod.snd (Prod.snd
  d)) (Prod.fst d) (0 : Nat)) ∧ List.length (Prod.fst d) - x' < List.length (Prod.fst d) - x ∧ Prod.fst d = Prod.fst d ∧ Prod.snd d = Prod.snd d ∧ (↑(List.length (Prod.fst d)) : Int) = (↑(List.length (Prod.fst d)) : Int)
  ∧ IntKind.wrap IntKind.i64 ((↑x : Int) + (1 : Int)) = (↑x' : Int))) ∧ (decide ((↑x : Int) < (↑(List.length (Prod.fst d)) : Int)) = false → (-1 : Int) = hidxGo (Prod.fst (Prod.snd d)) (Prod.snd (Prod.snd d)) (Prod.fst
  d) (0 : Nat)) := by
  intro (d : List Hd × Int × Int) hw _
  obtain ⟨xs, t, i⟩ := d
  have hl : xs.length ≤ 9223372036854775807 := hw.1.1
  simp only [Int.toNat_natCast, exists_const, and_true, true_and, implies_true, decide_eq_true_eq, decide_eq_false_iff_not, Bool.not_eq_true', Bool.not_eq_false', beq_iff_eq, forall_const]
  refine ⟨⟨by omega, by simp⟩, rfl, fun x ⟨h1, h2⟩ => ⟨fun h3 => ?_, fun h3 => ?_⟩⟩
  · have h4 : x < xs.length := by omega
    rw [getD_drop_cons (x := ((0 : Int), (0 : Int), (0 : Int))) h4, hidxGo] at h2
    rw [wrap_succ (by omega)]
    refine ⟨⟨by omega, by omega⟩, fun h5 => ?_, fun h5 => ⟨x + 1, ⟨by omega, ?_⟩, by omega, rfl⟩⟩
    · rw [if_pos h5] at h2; exact h2
    · rw [if_neg h5] at h2; exact h2
  · have h4 : x = xs.length := by omega
    rw [h4, List.drop_length, hidxGo] at h2
    exact h2
theorem v_I_handOf :
  ∀ (d : List (Int × Int × Int) × Int × Int), Ty.wf (Ty.sl hdT) (Prod.fst d) ∧ Ty.wf i64T (Prod.fst (Prod.snd d)) ∧ Ty.wf i64T (Prod.snd (Prod.snd d)) → True → True ∧ (Ty.wf i64T (hidxGo (Prod.fst (Prod.snd d)) (Prod.snd
  (Prod.snd d)) (Prod.fst d) (0 : Nat)) → hidxGo (Prod.fst (Prod.snd d)) (Prod.snd (Prod.snd d)) (Prod.fst d) (0 : Nat) = hidxGo (Prod.fst (Prod.snd d)) (Prod.snd (Prod.snd d)) (Prod.fst d) (0 : Nat)) := by
  intro d _ _
  exact ⟨trivial, fun _ => rfl⟩
theorem v_I_isCrew :
  ∀ (d : Int × List (Int × Int × Int)), Ty.wf crewT d → True → (decide (Prod.fst d < (1 : Int)) = true → false = crewOkF (Prod.fst d) (Prod.snd d)) ∧ (decide (Prod.fst d < (1 : Int)) = false → (decide ((200000 : Int) <
  Prod.fst d) = true → false = crewOkF (Prod.fst d) (Prod.snd d)) ∧ (decide ((200000 : Int) < Prod.fst d) = false → (decide ((↑(List.length (Prod.snd d)) : Int) < (1 : Int)) = true → false = crewOkF (Prod.fst d)
  (Prod.snd d)) ∧ (decide ((↑(List.length (Prod.snd d)) : Int) < (1 : Int)) = false → (decide ((8 : Int) < (↑(List.length (Prod.snd d)) : Int)) = true → false = crewOkF (Prod.fst d) (Prod.snd d)) ∧ (decide ((8 : Int) <
  (↑(List.length (Prod.snd d)) : Int)) = false → ((0 : Nat) ≤ List.length (Prod.snd d) ∧ CrewP (Prod.snd d) (0 : Nat)) ∧ (((Prod.fst d = Prod.fst d ∧ Prod.snd d = Prod.snd d) ∧ Prod.snd d = Prod.snd d ∧ (↑(List.length
  (Prod.snd d)) : Int) = (↑(List.length (Prod.snd d)) : Int) ∧ (0 : Int) = (↑(0 : Nat) : Int)) ∧ Prod.fst d = Prod.fst d ∧ Prod.snd d = Prod.snd d) ∧ ∀ (x : Nat), x ≤ List.length (Prod.snd d) ∧ CrewP (Prod.snd d) x →
  (decide ((↑x : Int) < (↑(List.length (Prod.snd d)) : Int)) = true → ((0 : Int) ≤ (↑x : Int) ∧ (↑x : Int) < (↑(List.length (Prod.snd d)) : Int)) ∧ ((decide (Prod.fst (List.getD (Prod.snd d) (Int.toNat (↑x : Int)) ((0 :
  Int), (0 : Int), (0 : Int))) = (0 : Int)) && (decide (Prod.fst (Prod.snd (List.getD (Prod.snd d) (Int.toNat (↑x : Int)) ((0 : Int), (0 : Int), (0 : Int)))) = (0 : Int)) && (decide (Prod.snd (Prod.snd (List.getD
  (Prod.snd d) (Int.toNat (↑x : Int)) ((0 : Int), (0 : Int), (0 : Int)))) = (0 : Int)) && true))) = true → ∃ (x' : Nat), (x' ≤ List.length (Prod.snd d) ∧ CrewP (Prod.snd d) x') ∧ List.length (Prod.snd d) - x' <
  List.length (Prod.snd d) - x ∧ ((Prod.fst d = Prod.fst d ∧ Prod.snd d = Prod.snd d) ∧ Prod.snd d = Prod.snd d ∧ (↑(List.length (Prod.snd d)) : Int) = (↑(List.length (Prod.snd d)) : Int) ∧ IntKind.wrap IntKind.i64 ((↑x
  : Int) + (1 : Int)) = (↑x' : Int)) ∧ Prod.fst d = Prod.fst d ∧ Prod.snd d = Prod.snd d) ∧ ((decide (Prod.fst (List.getD (Prod.snd d) (Int.toNat (↑x : Int)) ((0 : Int), (0 : Int), (0 : Int))) = (0 : Int)) && (decide
  (Prod.fst (Prod.snd (List.getD (Prod.snd d) (Int.toNat (↑x : Int)) ((0 : Int), (0 : Int), (0 : Int)))) = (0 : Int)) && (decide (Prod.snd (Prod.snd (List.getD (Prod.snd d) (Int.toNat (↑x : Int)) ((0 : Int), (0 : Int),
  (0 : Int)))) = (0 : Int)) && true))) = false → (decide (Prod.fst (List.getD (Prod.snd d) (Int.toNat (↑x : Int)) ((0 : Int), (0 : Int), (0 : Int))) < (0 : Int)) = true → false = crewOkF (Prod.fst d) (Prod.snd d)) ∧
  (decide (Prod.fst (List.getD (Prod.snd d) (Int.toNat (↑x : Int)) ((0 : Int), (0 : Int), (0 : Int))) < (0 : Int)) = false → (decide ((99 : Int) < Prod.fst (List.getD (Prod.snd d) (Int.toNat (↑x : Int)) ((0 : Int), (0 :
  Int), (0 : Int)))) = true → false = crewOkF (Prod.fst d) (Prod.snd d)) ∧ (decide ((99 : Int) < Prod.fst (List.getD (Prod.snd d) (Int.toNat (↑x : Int)) ((0 : Int), (0 : Int), (0 : Int)))) = false → True ∧ ((!isTicketF
  (Prod.fst (Prod.snd (List.getD (Prod.snd d) (Int.toNat (↑x : Int)) ((0 : Int), (0 : Int), (0 : Int)))), Prod.snd (Prod.snd (List.getD (Prod.snd d) (Int.toNat (↑x : Int)) ((0 : Int), (0 : Int), (0 : Int)))))) = true →
  false = crewOkF (Prod.fst d) (Prod.snd d)) ∧ ((!isTicketF (Prod.fst (Prod.snd (List.getD (Prod.snd d) (Int.toNat (↑x : Int)) ((0 : Int), (0 : Int), (0 : Int)))), Prod.snd (Prod.snd (List.getD (Prod.snd d) (Int.toNat
  (↑x : Int)) ((0 : Int), (0 : Int), (0 : Int)))))) = false → ((0 : Int) ≤ (0 : Int) ∧ (0 : Int) ≤ (↑x : Int) ∧ (↑x : Int) ≤ (↑(List.length (Prod.snd d)) : Int)) ∧ True ∧ (Ty.wf i64T (hidxGo (Prod.fst (List.getD
  (Prod.snd d) (Int.toNat (↑x : Int)) ((0 : Int), (0 : Int), (0 : Int)))) (Prod.fst (Prod.snd (List.getD (Prod.snd d) (Int.toNat (↑x : Int)) ((0 : Int), (0 : Int), (0 : Int))))) (List.drop (Int.toNat (0 : Int))
  (List.take (Int.toNat (↑x : Int)) (Prod.snd d))) (0 : Nat)) → (decide ((0 : Int) ≤ hidxGo (Prod.fst (List.getD (Prod.snd d) (Int.toNat (↑x : Int)) ((0 : Int), (0 : Int), (0 : Int)))) (Prod.fst (Prod.snd (List.getD
  (Prod.snd d) (Int.toNat (↑x : Int)) ((0 : Int), (0 : Int), (0 : Int))))) (List.drop (Int.toNat (0 : Int)) (List.take (Int.toNat (↑x : Int)) (Prod.snd d))) (0 : Nat)) = true → false = crewOkF (Prod.fst d) (Prod.snd d))
  ∧ (decide ((0 : Int) ≤ hidxGo (Prod.fst (List.getD (Prod.snd d) (Int.toNat (↑x : Int)) ((0 : Int), (0 : Int), (0 : Int)))) (Prod.fst (Prod.snd (List.getD (Prod.snd d) (Int.toNat (↑x : Int)) ((0 : Int), (0 : Int), (0 :
  Int))))) (List.drop (Int.toNat (0 : Int)) (List.take (Int.toNat (↑x : Int)) (Prod.snd d))) (0 : Nat)) = false → ∃ (x' : Nat), (x' ≤ List.length (Prod.snd d) ∧ CrewP (Prod.snd d) x') ∧ List.length (Prod.snd d) - x' <
  List.length (Prod.snd d) - x ∧ ((Prod.fst d = Prod.fst d ∧ Prod.snd d = Prod.snd d) ∧ Prod.snd d = Prod.snd d ∧ (↑(List.length (Prod.snd d)) : Int) = (↑(List.length (Prod.snd d)) : Int) ∧ IntKind.wrap IntKind.i64 ((↑x
  : Int) + (1 : Int)) = (↑x' : Int)) ∧ Prod.fst d = Prod.fst d ∧ Prod.snd d = Prod.snd d))))))) ∧ (decide ((↑x : Int) < (↑(List.length (Prod.snd d)) : Int)) = false → true = crewOkF (Prod.fst d) (Prod.snd d)))))) := by
  intro (d : Int × List Hd) hw _
  obtain ⟨p, xs⟩ := d
  have hl : xs.length ≤ 9223372036854775807 := hw.2.1
  have hh := @crew_hd p xs
  simp only [Int.toNat_natCast, exists_const, and_true, true_and, implies_true, decide_eq_true_eq, decide_eq_false_iff_not, Bool.not_eq_true', Bool.not_eq_false', beq_iff_eq, forall_const]
  refine ⟨fun h => hh (by omega), fun a1 => ⟨fun h => hh (by omega), fun a2 => ⟨fun h => hh (by omega), fun a3 => ⟨fun h => hh (by omega), fun a4 => ⟨⟨by omega, fun j hj => by omega⟩, rfl, fun x ⟨k1, k2⟩ => ⟨fun h3 => ⟨⟨by omega, by omega⟩, ?_⟩, fun h3 => ?_⟩⟩⟩⟩⟩⟩
  · have h3 : x < xs.length := by omega
    have hno := @crew_no p xs x h3
    have hsu := @crew_succ xs x k2
    have hhd := @hand_iff (xs.getD x (0, 0, 0))
    have hid := @idle_iff (xs.getD x (0, 0, 0))
    have hcl := @clash_iff xs x (by omega)
    rw [wrap_succ (by omega)]
    have hb : ((decide ((xs.getD x (0, 0, 0)).1 = 0) && (decide ((xs.getD x (0, 0, 0)).2.1 = 0) && (decide ((xs.getD x (0, 0, 0)).2.2 = 0) && true)))) = idleF (xs.getD x (0, 0, 0)) := by
      unfold idleF; rw [Bool.and_true]
    rw [hb, show Int.toNat 0 = 0 from rfl, List.drop_zero]
    refine ⟨fun hi => ⟨x + 1, ⟨by omega, hsu (.inl hi)⟩, by omega, rfl⟩, fun hi => ?_⟩
    have hi' : ¬ idleF (xs.getD x (0, 0, 0)) = true := by rw [hi]; simp
    have no : ¬ (handOkF (xs.getD x (0, 0, 0)) = true ∧ ClashP xs x x) → false = crewOkF p xs := fun h => hno (fun hx => hx.elim hi' h)
    have htk : isTicketF ((xs.getD x (0, 0, 0)).2.1, (xs.getD x (0, 0, 0)).2.2) = true ↔ (1 ≤ (xs.getD x (0, 0, 0)).2.1 ∧ (xs.getD x (0, 0, 0)).2.1 ≤ 1000000000) ∧ (1 ≤ (xs.getD x (0, 0, 0)).2.2 ∧ (xs.getD x (0, 0, 0)).2.2 ≤ 200000) := by
      unfold isTicketF; simp only [Bool.and_eq_true, decide_eq_true_eq, and_assoc]
    refine ⟨fun h => no (fun hx => by have := hhd.1 hx.1; omega), fun b1 => ⟨fun h => no (fun hx => by have := hhd.1 hx.1; omega), fun b2 => ⟨fun h => no (fun hx => by rw [htk.2 (hhd.1 hx.1).2] at h; cases h), fun b3 => ⟨⟨by omega, by omega, by omega⟩, fun _ => ?_⟩⟩⟩⟩
    have hcl := hcl (by have := htk.1 b3; omega)
    exact ⟨fun h => no (fun hx => by have := hcl.1 hx.2; omega), fun h => ⟨x + 1, ⟨by omega, hsu (.inr ⟨hhd.2 ⟨by omega, htk.1 b3⟩, hcl.2 (by omega)⟩)⟩, by omega, rfl⟩⟩
  · have h4 : x = xs.length := by omega
    subst h4
    exact (crew_iff.2 ⟨by omega, by omega, k2⟩).symm
theorem v_I_CrewOk :
  ∀ (d : Int × List (Int × Int × Int)), Ty.wf crewT d → True → True ∧ crewOkF (Prod.fst d) (Prod.snd d) = crewOkF (Prod.fst d) (Prod.snd d) := by
  intro d _ _
  exact ⟨trivial, rfl⟩
theorem v_S_BusyUnits :
  ∀ (d : Int × List (Int × Int × Int)), Ty.wf crewT d → True → True ∧ ((!crewOkF (Prod.fst d) (Prod.snd d)) = true → (-1 : Int) = busyF d) ∧ ((!crewOkF (Prod.fst d) (Prod.snd d)) = false → ((0 : Nat) ≤ List.length
  (Prod.snd d) ∧ busyGo (List.drop (0 : Nat) (Prod.snd d)) (0 : Int) = busyGo (Prod.snd d) (0 : Int)) ∧ (((Prod.fst d = Prod.fst d ∧ Prod.snd d = Prod.snd d) ∧ (0 : Int) = (0 : Int) ∧ (0 : Int) = (0 : Int) ∧ (0 : Int) =
  (↑(0 : Nat) : Int)) ∧ Prod.fst d = Prod.fst d ∧ Prod.snd d = Prod.snd d) ∧ ∀ (x : Nat × Int), Prod.fst x ≤ List.length (Prod.snd d) ∧ busyGo (List.drop (Prod.fst x) (Prod.snd d)) (Prod.snd x) = busyGo (Prod.snd d) (0 :
  Int) → (decide ((↑(Prod.fst x) : Int) < (↑(List.length (Prod.snd d)) : Int)) = true → ((0 : Int) ≤ (↑(Prod.fst x) : Int) ∧ (↑(Prod.fst x) : Int) < (↑(List.length (Prod.snd d)) : Int)) ∧ ∃ (x' : Nat × Int), (Prod.fst x'
  ≤ List.length (Prod.snd d) ∧ busyGo (List.drop (Prod.fst x') (Prod.snd d)) (Prod.snd x') = busyGo (Prod.snd d) (0 : Int)) ∧ List.length (Prod.snd d) - Prod.fst x' < List.length (Prod.snd d) - Prod.fst x ∧ ((Prod.fst d
  = Prod.fst d ∧ Prod.snd d = Prod.snd d) ∧ (0 : Int) = (0 : Int) ∧ IntKind.wrap IntKind.i64 (Prod.snd x + Prod.snd (Prod.snd (List.getD (Prod.snd d) (Int.toNat (↑(Prod.fst x) : Int)) ((0 : Int), (0 : Int), (0 : Int)))))
  = Prod.snd x' ∧ IntKind.wrap IntKind.i64 ((↑(Prod.fst x) : Int) + (1 : Int)) = (↑(Prod.fst x') : Int)) ∧ Prod.fst d = Prod.fst d ∧ Prod.snd d = Prod.snd d) ∧ (decide ((↑(Prod.fst x) : Int) < (↑(List.length (Prod.snd
  d)) : Int)) = false → Prod.snd x = busyF d)) := by
  intro (d : Int × List Hd) hw _
  obtain ⟨p, xs⟩ := d
  have hl : xs.length ≤ 9223372036854775807 := hw.2.1
  simp only [Int.toNat_natCast, exists_const, and_true, true_and, implies_true, decide_eq_true_eq, decide_eq_false_iff_not, Bool.not_eq_true', Bool.not_eq_false', beq_iff_eq, forall_const]
  refine ⟨fun h => by simp [busyF, h], fun h => ⟨⟨by omega, by simp⟩, rfl, fun x ⟨h1, h2⟩ => ⟨fun h3 => ?_, fun h3 => ?_⟩⟩⟩
  · have h4 : x.1 < xs.length := by omega
    rw [getD_drop_cons (x := ((0 : Int), (0 : Int), (0 : Int))) h4, busyGo] at h2
    rw [wrap_succ (by omega)]
    exact ⟨⟨by omega, by omega⟩, (x.1 + 1, w64 (x.2 + (xs.getD x.1 (0, 0, 0)).2.2)), ⟨by simp only; omega, h2⟩, by simp only; omega, by simp [w64]⟩
  · have h4 : x.1 = xs.length := by omega
    rw [h4, List.drop_length, busyGo] at h2
    simp [busyF, h, h2]
theorem v_I_BusyUnits :
  ∀ (d : Int × List (Int × Int × Int)), Ty.wf crewT d → True → True ∧ ((!crewOkF (Prod.fst d) (Prod.snd d)) = true → (-1 : Int) = busyF d) ∧ ((!crewOkF (Prod.fst d) (Prod.snd d)) = false → ((0 : Nat) ≤ List.length
  (Prod.snd d) ∧ busyGo (List.drop (0 : Nat) (Prod.snd d)) (0 : Int) = busyGo (Prod.snd d) (0 : Int)) ∧ (((Prod.fst d = Prod.fst d ∧ Prod.snd d = Prod.snd d) ∧ (0 : Int) = (0 : Int) ∧ (0 : Int) = (0 : Int) ∧ Prod.snd d =
  Prod.snd d ∧ (↑(List.length (Prod.snd d)) : Int) = (↑(List.length (Prod.snd d)) : Int) ∧ (0 : Int) = (↑(0 : Nat) : Int)) ∧ Prod.fst d = Prod.fst d ∧ Prod.snd d = Prod.snd d) ∧ ∀ (x : Nat × Int), Prod.fst x ≤
  List.length (Prod.snd d) ∧ busyGo (List.drop (Prod.fst x) (Prod.snd d)) (Prod.snd x) = busyGo (Prod.snd d) (0 : Int) → (decide ((↑(Prod.fst x) : Int) < (↑(List.length (Prod.snd d)) : Int)) = true → ((0 : Int) ≤
  (↑(Prod.fst x) : Int) ∧ (↑(Prod.fst x) : Int) < (↑(List.length (Prod.snd d)) : Int)) ∧ ∃ (x' : Nat × Int), (Prod.fst x' ≤ List.length (Prod.snd d) ∧ busyGo (List.drop (Prod.fst x') (Prod.snd d)) (Prod.snd x') = busyGo
  (Prod.snd d) (0 : Int)) ∧ List.length (Prod.snd d) - Prod.fst x' < List.length (Prod.snd d) - Prod.fst x ∧ ((Prod.fst d = Prod.fst d ∧ Prod.snd d = Prod.snd d) ∧ (0 : Int) = (0 : Int) ∧ IntKind.wrap IntKind.i64
  (Prod.snd x + Prod.snd (Prod.snd (List.getD (Prod.snd d) (Int.toNat (↑(Prod.fst x) : Int)) ((0 : Int), (0 : Int), (0 : Int))))) = Prod.snd x' ∧ Prod.snd d = Prod.snd d ∧ (↑(List.length (Prod.snd d)) : Int) =
  (↑(List.length (Prod.snd d)) : Int) ∧ IntKind.wrap IntKind.i64 ((↑(Prod.fst x) : Int) + (1 : Int)) = (↑(Prod.fst x') : Int)) ∧ Prod.fst d = Prod.fst d ∧ Prod.snd d = Prod.snd d) ∧ (decide ((↑(Prod.fst x) : Int) <
  (↑(List.length (Prod.snd d)) : Int)) = false → Prod.snd x = busyF d)) := by
  intro (d : Int × List Hd) hw _
  obtain ⟨p, xs⟩ := d
  have hl : xs.length ≤ 9223372036854775807 := hw.2.1
  simp only [Int.toNat_natCast, exists_const, and_true, true_and, implies_true, decide_eq_true_eq, decide_eq_false_iff_not, Bool.not_eq_true', Bool.not_eq_false', beq_iff_eq, forall_const]
  refine ⟨fun h => by simp [busyF, h], fun h => ⟨⟨by omega, by simp⟩, rfl, fun x ⟨h1, h2⟩ => ⟨fun h3 => ?_, fun h3 => ?_⟩⟩⟩
  · have h4 : x.1 < xs.length := by omega
    rw [getD_drop_cons (x := ((0 : Int), (0 : Int), (0 : Int))) h4, busyGo] at h2
    rw [wrap_succ (by omega)]
    exact ⟨⟨by omega, by omega⟩, (x.1 + 1, w64 (x.2 + (xs.getD x.1 (0, 0, 0)).2.2)), ⟨by simp only; omega, h2⟩, by simp only; omega, by simp [w64]⟩
  · have h4 : x.1 = xs.length := by omega
    rw [h4, List.drop_length, busyGo] at h2
    simp [busyF, h, h2]
theorem v_S_TicksLeft :
  ∀ (d : Int × List (Int × Int × Int)), Ty.wf crewT d → True → True ∧ ((!crewOkF (Prod.fst d) (Prod.snd d)) = true → (-1 : Int) = ticksF d) ∧ ((!crewOkF (Prod.fst d) (Prod.snd d)) = false → ((0 : Nat) ≤ List.length
  (Prod.snd d) ∧ ticksGo (Prod.fst d) (List.drop (0 : Nat) (Prod.snd d)) (0 : Int) = ticksGo (Prod.fst d) (Prod.snd d) (0 : Int)) ∧ (((Prod.fst d = Prod.fst d ∧ Prod.snd d = Prod.snd d) ∧ (0 : Int) = (0 : Int) ∧ (0 :
  Int) = (0 : Int) ∧ (0 : Int) = (↑(0 : Nat) : Int)) ∧ Prod.fst d = Prod.fst d ∧ Prod.snd d = Prod.snd d) ∧ ∀ (x : Nat × Int), Prod.fst x ≤ List.length (Prod.snd d) ∧ ticksGo (Prod.fst d) (List.drop (Prod.fst x)
  (Prod.snd d)) (Prod.snd x) = ticksGo (Prod.fst d) (Prod.snd d) (0 : Int) → (decide ((↑(Prod.fst x) : Int) < (↑(List.length (Prod.snd d)) : Int)) = true → ((0 : Int) ≤ (↑(Prod.fst x) : Int) ∧ (↑(Prod.fst x) : Int) <
  (↑(List.length (Prod.snd d)) : Int)) ∧ Prod.fst d ≠ (0 : Int) ∧ (decide (Prod.snd x < IntKind.wrap IntKind.i64 (Int.tdiv (IntKind.wrap IntKind.i64 (IntKind.wrap IntKind.i64 (Prod.snd (Prod.snd (List.getD (Prod.snd d)
  (Int.toNat (↑(Prod.fst x) : Int)) ((0 : Int), (0 : Int), (0 : Int)))) + Prod.fst d) - (1 : Int))) (Prod.fst d))) = true → ∃ (x' : Nat × Int), (Prod.fst x' ≤ List.length (Prod.snd d) ∧ ticksGo (Prod.fst d) (List.drop
  (Prod.fst x') (Prod.snd d)) (Prod.snd x') = ticksGo (Prod.fst d) (Prod.snd d) (0 : Int)) ∧ List.length (Prod.snd d) - Prod.fst x' < List.length (Prod.snd d) - Prod.fst x ∧ ((Prod.fst d = Prod.fst d ∧ Prod.snd d =
  Prod.snd d) ∧ (0 : Int) = (0 : Int) ∧ IntKind.wrap IntKind.i64 (Int.tdiv (IntKind.wrap IntKind.i64 (IntKind.wrap IntKind.i64 (Prod.snd (Prod.snd (List.getD (Prod.snd d) (Int.toNat (↑(Prod.fst x) : Int)) ((0 : Int), (0
  : Int), (0 : Int)))) + Prod.fst d) - (1 : Int))) (Prod.fst d)) = Prod.snd x' ∧ IntKind.wrap IntKind.i64 ((↑(Prod.fst x) : Int) + (1 : Int)) = (↑(Prod.fst x') : Int)) ∧ Prod.fst d = Prod.fst d ∧ Prod.snd d = Prod.snd d)
  ∧ (decide (Prod.snd x < IntKind.wrap IntKind.i64 (Int.tdiv (IntKind.wrap IntKind.i64 (IntKind.wrap IntKind.i64 (Prod.snd (Prod.snd (List.getD (Prod.snd d) (Int.toNat (↑(Prod.fst x) : Int)) ((0 : Int), (0 : Int), (0 :
  Int)))) + Prod.fst d) - (1 : Int))) (Prod.fst d))) = false → ∃ (x' : Nat × Int), (Prod.fst x' ≤ List.length (Prod.snd d) ∧ ticksGo (Prod.fst d) (List.drop (Prod.fst x') (Prod.snd d)) (Prod.snd x') = ticksGo (Prod.fst
  d) (Prod.snd d) (0 : Int)) ∧ List.length (Prod.snd d) - Prod.fst x' < List.length (Prod.snd d) - Prod.fst x ∧ ((Prod.fst d = Prod.fst d ∧ Prod.snd d = Prod.snd d) ∧ (0 : Int) = (0 : Int) ∧ Prod.snd x = Prod.snd x' ∧
  IntKind.wrap IntKind.i64 ((↑(Prod.fst x) : Int) + (1 : Int)) = (↑(Prod.fst x') : Int)) ∧ Prod.fst d = Prod.fst d ∧ Prod.snd d = Prod.snd d)) ∧ (decide ((↑(Prod.fst x) : Int) < (↑(List.length (Prod.snd d)) : Int)) =
  false → Prod.snd x = ticksF d)) := by
  intro (d : Int × List Hd) hw _
  obtain ⟨p, xs⟩ := d
  have hl : xs.length ≤ 9223372036854775807 := hw.2.1
  simp only [Int.toNat_natCast, exists_const, and_true, true_and, implies_true, decide_eq_true_eq, decide_eq_false_iff_not, Bool.not_eq_true', Bool.not_eq_false', beq_iff_eq, forall_const]
  refine ⟨fun h => by simp [ticksF, h], fun h => ⟨⟨by omega, by simp⟩, rfl, fun x ⟨h1, h2⟩ => ⟨fun h3 => ?_, fun h3 => ?_⟩⟩⟩
  · have h4 : x.1 < xs.length := by omega
    have hp := (crew_iff.1 h).1
    rw [getD_drop_cons (x := ((0 : Int), (0 : Int), (0 : Int))) h4, ticksGo] at h2
    rw [wrap_succ (by omega)]
    have ht : IntKind.i64.wrap ((IntKind.i64.wrap (IntKind.i64.wrap ((xs.getD x.1 (0, 0, 0)).2.2 + p) - 1)).tdiv p) = tickOf p (xs.getD x.1 (0, 0, 0)) := rfl
    rw [ht]
    generalize tickOf p (xs.getD x.1 (0, 0, 0)) = n at *
    refine ⟨⟨by omega, by omega⟩, by omega, fun hn => ⟨(x.1 + 1, n), ⟨by simp only; omega, ?_⟩, by simp only; omega, rfl, rfl⟩, fun hn => ⟨(x.1 + 1, x.2), ⟨by simp only; omega, ?_⟩, by simp only; omega, rfl, rfl⟩⟩
    · rw [show imax x.2 n = n from if_pos hn] at h2; exact h2
    · rw [show imax x.2 n = x.2 from if_neg hn] at h2; exact h2
  · have h4 : x.1 = xs.length := by omega
    rw [h4, List.drop_length, ticksGo] at h2
    simp [ticksF, h, h2]
theorem v_I_TicksLeft :
  ∀ (d : Int × List (Int × Int × Int)), Ty.wf crewT d → True → True ∧ ((!crewOkF (Prod.fst d) (Prod.snd d)) = true → (-1 : Int) = ticksF d) ∧ ((!crewOkF (Prod.fst d) (Prod.snd d)) = false → ((0 : Nat) ≤ List.length
  (Prod.snd d) ∧ ticksGo (Prod.fst d) (List.drop (0 : Nat) (Prod.snd d)) (0 : Int) = ticksGo (Prod.fst d) (Prod.snd d) (0 : Int)) ∧ (((Prod.fst d = Prod.fst d ∧ Prod.snd d = Prod.snd d) ∧ (0 : Int) = (0 : Int) ∧ (0 :
  Int) = (0 : Int) ∧ Prod.snd d = Prod.snd d ∧ (↑(List.length (Prod.snd d)) : Int) = (↑(List.length (Prod.snd d)) : Int) ∧ (0 : Int) = (↑(0 : Nat) : Int)) ∧ Prod.fst d = Prod.fst d ∧ Prod.snd d = Prod.snd d) ∧ ∀ (x : Nat
  × Int), Prod.fst x ≤ List.length (Prod.snd d) ∧ ticksGo (Prod.fst d) (List.drop (Prod.fst x) (Prod.snd d)) (Prod.snd x) = ticksGo (Prod.fst d) (Prod.snd d) (0 : Int) → (decide ((↑(Prod.fst x) : Int) < (↑(List.length
  (Prod.snd d)) : Int)) = true → ((0 : Int) ≤ (↑(Prod.fst x) : Int) ∧ (↑(Prod.fst x) : Int) < (↑(List.length (Prod.snd d)) : Int)) ∧ Prod.fst d ≠ (0 : Int) ∧ ∃ (x' : Nat × Int), (Prod.fst x' ≤ List.length (Prod.snd d) ∧
  ticksGo (Prod.fst d) (List.drop (Prod.fst x') (Prod.snd d)) (Prod.snd x') = ticksGo (Prod.fst d) (Prod.snd d) (0 : Int)) ∧ List.length (Prod.snd d) - Prod.fst x' < List.length (Prod.snd d) - Prod.fst x ∧ ((Prod.fst d =
  Prod.fst d ∧ Prod.snd d = Prod.snd d) ∧ (0 : Int) = (0 : Int) ∧ imax (Prod.snd x) (IntKind.wrap IntKind.i64 (Int.tdiv (IntKind.wrap IntKind.i64 (IntKind.wrap IntKind.i64 (Prod.snd (Prod.snd (List.getD (Prod.snd d)
  (Int.toNat (↑(Prod.fst x) : Int)) ((0 : Int), (0 : Int), (0 : Int)))) + Prod.fst d) - (1 : Int))) (Prod.fst d))) = Prod.snd x' ∧ Prod.snd d = Prod.snd d ∧ (↑(List.length (Prod.snd d)) : Int) = (↑(List.length (Prod.snd
  d)) : Int) ∧ IntKind.wrap IntKind.i64 ((↑(Prod.fst x) : Int) + (1 : Int)) = (↑(Prod.fst x') : Int)) ∧ Prod.fst d = Prod.fst d ∧ Prod.snd d = Prod.snd d) ∧ (decide ((↑(Prod.fst x) : Int) < (↑(List.length (Prod.snd d)) :
  Int)) = false → Prod.snd x = ticksF d)) := by
  intro (d : Int × List Hd) hw _
  obtain ⟨p, xs⟩ := d
  have hl : xs.length ≤ 9223372036854775807 := hw.2.1
  simp only [Int.toNat_natCast, exists_const, and_true, true_and, implies_true, decide_eq_true_eq, decide_eq_false_iff_not, Bool.not_eq_true', Bool.not_eq_false', beq_iff_eq, forall_const]
  refine ⟨fun h => by simp [ticksF, h], fun h => ⟨⟨by omega, by simp⟩, rfl, fun x ⟨h1, h2⟩ => ⟨fun h3 => ?_, fun h3 => ?_⟩⟩⟩
  · have h4 : x.1 < xs.length := by omega
    have hp := (crew_iff.1 h).1
    rw [getD_drop_cons (x := ((0 : Int), (0 : Int), (0 : Int))) h4, ticksGo] at h2
    rw [wrap_succ (by omega)]
    exact ⟨⟨by omega, by omega⟩, by omega, (x.1 + 1, imax x.2 (tickOf p (xs.getD x.1 (0, 0, 0)))), ⟨by simp only; omega, h2⟩, by simp only; omega, by simp [w64, tickOf]⟩
  · have h4 : x.1 = xs.length := by omega
    rw [h4, List.drop_length, ticksGo] at h2
    simp [ticksF, h, h2]
theorem v_S_IdleHand :
  ∀ (d : Int × List (Int × Int × Int)), Ty.wf crewT d → True → True ∧ ((!crewOkF (Prod.fst d) (Prod.snd d)) = true → (-1 : Int) = idleIdF d) ∧ ((!crewOkF (Prod.fst d) (Prod.snd d)) = false → ((0 : Nat) ≤ List.length
  (Prod.snd d) ∧ idleGo (List.drop (0 : Nat) (Prod.snd d)) (0 : Nat) = idleGo (Prod.snd d) (0 : Nat)) ∧ (((Prod.fst d = Prod.fst d ∧ Prod.snd d = Prod.snd d) ∧ (0 : Int) = (↑(0 : Nat) : Int)) ∧ Prod.fst d = Prod.fst d ∧
  Prod.snd d = Prod.snd d) ∧ ∀ (x : Nat), x ≤ List.length (Prod.snd d) ∧ idleGo (List.drop x (Prod.snd d)) x = idleGo (Prod.snd d) (0 : Nat) → (decide ((↑x : Int) < (↑(List.length (Prod.snd d)) : Int)) = true → ((0 :
  Int) ≤ (↑x : Int) ∧ (↑x : Int) < (↑(List.length (Prod.snd d)) : Int)) ∧ True ∧ (idleF (Prod.fst (List.getD (Prod.snd d) (Int.toNat (↑x : Int)) ((0 : Int), (0 : Int), (0 : Int))), Prod.fst (Prod.snd (List.getD (Prod.snd
  d) (Int.toNat (↑x : Int)) ((0 : Int), (0 : Int), (0 : Int)))), Prod.snd (Prod.snd (List.getD (Prod.snd d) (Int.toNat (↑x : Int)) ((0 : Int), (0 : Int), (0 : Int))))) = true → (↑x : Int) = idleIdF d) ∧ (idleF (Prod.fst
  (List.getD (Prod.snd d) (Int.toNat (↑x : Int)) ((0 : Int), (0 : Int), (0 : Int))), Prod.fst (Prod.snd (List.getD (Prod.snd d) (Int.toNat (↑x : Int)) ((0 : Int), (0 : Int), (0 : Int)))), Prod.snd (Prod.snd (List.getD
  (Prod.snd d) (Int.toNat (↑x : Int)) ((0 : Int), (0 : Int), (0 : Int))))) = false → ∃ (x' : Nat), (x' ≤ List.length (Prod.snd d) ∧ idleGo (List.drop x' (Prod.snd d)) x' = idleGo (Prod.snd d) (0 : Nat)) ∧ List.length
  (Prod.snd d) - x' < List.length (Prod.snd d) - x ∧ ((Prod.fst d = Prod.fst d ∧ Prod.snd d = Prod.snd d) ∧ IntKind.wrap IntKind.i64 ((↑x : Int) + (1 : Int)) = (↑x' : Int)) ∧ Prod.fst d = Prod.fst d ∧ Prod.snd d =
  Prod.snd d)) ∧ (decide ((↑x : Int) < (↑(List.length (Prod.snd d)) : Int)) = false → (-1 : Int) = idleIdF d)) := by
  intro (d : Int × List Hd) hw _
  obtain ⟨p, xs⟩ := d
  have hl : xs.length ≤ 9223372036854775807 := hw.2.1
  simp only [Int.toNat_natCast, exists_const, and_true, true_and, implies_true, decide_eq_true_eq, decide_eq_false_iff_not, Bool.not_eq_true', Bool.not_eq_false', beq_iff_eq, forall_const]
  refine ⟨fun h => by simp [idleIdF, h], fun h => ⟨⟨by omega, by simp⟩, rfl, fun x ⟨h1, h2⟩ => ⟨fun h3 => ?_, fun h3 => ?_⟩⟩⟩
  · have h4 : x < xs.length := by omega
    rw [getD_drop_cons (x := ((0 : Int), (0 : Int), (0 : Int))) h4, idleGo] at h2
    rw [wrap_succ (by omega)]
    refine ⟨⟨by omega, by omega⟩, fun h5 => ?_, fun h5 => ⟨x + 1, ⟨by omega, ?_⟩, by omega, rfl⟩⟩
    · rw [if_pos h5] at h2; simp [idleIdF, h, h2]
    · rw [if_neg (by rw [show idleF (xs.getD x (0, 0, 0)) = false from h5]; simp)] at h2; exact h2
  · have h4 : x = xs.length := by omega
    rw [h4, List.drop_length, idleGo] at h2
    simp [idleIdF, h, h2]
theorem v_G_IndexHd :
  ∀ (d : List (Int × Int × Int) × Int × Int × Int), Ty.wf (Ty.sl hdT) (Prod.fst d) ∧ Ty.wf hdT (Prod.snd d) → Prod.snd d = ((0 : Int), (0 : Int), (0 : Int)) → ((0 : Nat) ≤ List.length (Prod.fst d) ∧ idleGo (List.drop (0
  : Nat) (Prod.fst d)) (0 : Nat) = idleGo (Prod.fst d) (0 : Nat)) ∧ ((Prod.fst d = Prod.fst d ∧ (Prod.fst (Prod.snd d) = Prod.fst (Prod.snd d) ∧ Prod.fst (Prod.snd (Prod.snd d)) = Prod.fst (Prod.snd (Prod.snd d)) ∧
  Prod.snd (Prod.snd (Prod.snd d)) = Prod.snd (Prod.snd (Prod.snd d))) ∧ (↑(List.length (Prod.fst d)) : Int) = (↑(List.length (Prod.fst d)) : Int) ∧ (0 : Int) = (↑(0 : Nat) : Int)) ∧ Prod.fst (Prod.snd d) = Prod.fst
  (Prod.snd d) ∧ Prod.fst (Prod.snd (Prod.snd d)) = Prod.fst (Prod.snd (Prod.snd d)) ∧ Prod.snd (Prod.snd (Prod.snd d)) = Prod.snd (Prod.snd (Prod.snd d))) ∧ ∀ (x : Nat), x ≤ List.length (Prod.fst d) ∧ idleGo (List.drop
  x (Prod.fst d)) x = idleGo (Prod.fst d) (0 : Nat) → (decide ((↑x : Int) < (↑(List.length (Prod.fst d)) : Int)) = true → ((0 : Int) ≤ (↑x : Int) ∧ (↑x : Int) < (↑(List.length (Prod.fst d)) : Int)) ∧ ((decide (Prod.fst
  (Prod.snd d) = Prod.fst (List.getD (Prod.fst d) (Int.toNat (↑x : Int)) ((0 : Int), (0 : Int), (0 : Int)))) && (decide (Prod.fst (Prod.snd (Prod.snd d)) = Prod.fst (Prod.snd (List.getD (Prod.fst d) (Int.toNat (↑x :
  Int)) ((0 : Int), (0 : Int), (0 : Int))))) && (decide (Prod.snd (Prod.snd (Prod.snd d)) = Prod.snd (Prod.snd (List.getD (Prod.fst d) (Int.toNat (↑x : Int)) ((0 : Int), (0 : Int), (0 : Int))))) && true))) = true → (↑x :
  Int) = idleGo (Prod.fst d) (0 : Nat)) ∧ ((decide (Prod.fst (Prod.snd d) = Prod.fst (List.getD (Prod.fst d) (Int.toNat (↑x : Int)) ((0 : Int), (0 : Int), (0 : Int)))) && (decide (Prod.fst (Prod.snd (Prod.snd d)) =
  Prod.fst (Prod.snd (List.getD (Prod.fst d) (Int.toNat (↑x : Int)) ((0 : Int), (0 : Int), (0 : Int))))) && (decide (Prod.snd (Prod.snd (Prod.snd d)) = Prod.snd (Prod.snd (List.getD (Prod.fst d) (Int.toNat (↑x : Int))
  ((0 : Int), (0 : Int), (0 : Int))))) && true))) = false → ∃ (x' : Nat), (x' ≤ List.length (Prod.fst d) ∧ idleGo (List.drop x' (Prod.fst d)) x' = idleGo (Prod.fst d) (0 : Nat)) ∧ List.length (Prod.fst d) - x' <
  List.length (Prod.fst d) - x ∧ (Prod.fst d = Prod.fst d ∧ (Prod.fst (Prod.snd d) = Prod.fst (Prod.snd d) ∧ Prod.fst (Prod.snd (Prod.snd d)) = Prod.fst (Prod.snd (Prod.snd d)) ∧ Prod.snd (Prod.snd (Prod.snd d)) =
  Prod.snd (Prod.snd (Prod.snd d))) ∧ (↑(List.length (Prod.fst d)) : Int) = (↑(List.length (Prod.fst d)) : Int) ∧ IntKind.wrap IntKind.i64 ((↑x : Int) + (1 : Int)) = (↑x' : Int)) ∧ Prod.fst (Prod.snd d) = Prod.fst
  (Prod.snd d) ∧ Prod.fst (Prod.snd (Prod.snd d)) = Prod.fst (Prod.snd (Prod.snd d)) ∧ Prod.snd (Prod.snd (Prod.snd d)) = Prod.snd (Prod.snd (Prod.snd d)))) ∧ (decide ((↑x : Int) < (↑(List.length (Prod.fst d)) : Int)) =
  false → (-1 : Int) = idleGo (Prod.fst d) (0 : Nat)) := by
  intro (d : List Hd × Hd) hw hp
  obtain ⟨xs, h⟩ := d
  have hp : h = (0, 0, 0) := hp
  subst hp
  have hl : xs.length ≤ 9223372036854775807 := hw.1.1
  simp only [Int.toNat_natCast, exists_const, and_true, true_and, implies_true, decide_eq_true_eq, decide_eq_false_iff_not, Bool.not_eq_true', Bool.not_eq_false', beq_iff_eq, forall_const]
  refine ⟨⟨by omega, by simp⟩, rfl, fun x ⟨h1, h2⟩ => ⟨fun h3 => ?_, fun h3 => ?_⟩⟩
  · have h4 : x < xs.length := by omega
    rw [getD_drop_cons (x := ((0 : Int), (0 : Int), (0 : Int))) h4, idleGo] at h2
    rw [wrap_succ (by omega)]
    have hb : ((decide (0 = (xs.getD x (0, 0, 0)).1) && (decide (0 = (xs.getD x (0, 0, 0)).2.1) && (decide (0 = (xs.getD x (0, 0, 0)).2.2) && true)))) = idleF (xs.getD x (0, 0, 0)) := by
      unfold idleF
      rw [Bool.and_true, decide_eq_decide.2 (eq_comm (a := (0 : Int))), decide_eq_decide.2 (eq_comm (a := (0 : Int)) (b := (xs.getD x (0, 0, 0)).2.1)), decide_eq_decide.2 (eq_comm (a := (0 : Int)) (b := (xs.getD x (0, 0, 0)).2.2))]
    rw [hb]
    refine ⟨⟨by omega, by omega⟩, fun h5 => ?_, fun h5 => ⟨x + 1, ⟨by omega, ?_⟩, by omega, rfl⟩⟩
    · rw [if_pos h5] at h2; exact h2
    · rw [if_neg (by rw [h5]; simp)] at h2; exact h2
  · have h4 : x = xs.length := by omega
    rw [h4, List.drop_length, idleGo] at h2
    exact h2
theorem v_I_IdleHand :
  ∀ (d : Int × List (Int × Int × Int)), Ty.wf crewT d → True → True ∧ ((!crewOkF (Prod.fst d) (Prod.snd d)) = true → (-1 : Int) = idleIdF d) ∧ ((!crewOkF (Prod.fst d) (Prod.snd d)) = false → ((0 : Int), (0 : Int), (0 :
  Int)) = ((0 : Int), (0 : Int), (0 : Int)) ∧ (Ty.wf i64T (idleGo (Prod.snd d) (0 : Nat)) → idleGo (Prod.snd d) (0 : Nat) = idleIdF d)) := by
  intro (d : Int × List Hd) hw _
  obtain ⟨p, xs⟩ := d
  simp only [Int.toNat_natCast, exists_const, and_true, true_and, implies_true, decide_eq_true_eq, decide_eq_false_iff_not, Bool.not_eq_true', Bool.not_eq_false', beq_iff_eq, forall_const]
  refine ⟨fun h => by simp [idleIdF, h], fun h => fun _ => by simp [idleIdF, h]⟩
end Go.SF
