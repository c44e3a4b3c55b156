/- What is owed of the code of ServedCost's functions. No condition. -/
import Derived.Test.YtoikbmdjancdcaaSxC1
import Derived.IntWalk
namespace Go.SF
open Go.SX Go
set_option linter.unusedVariables false
set_option maxRecDepth 10000
set_option linter.unusedSimpArgs false
theorem getD_drop_cons {α : Type} {l : List α} {i : Nat} {x : α} (h : i < l.length) : l.drop i = l.getD i x :: l.drop (i + 1) := by
  rw [List.drop_eq_getElem_cons h]; simp [h]
theorem wrap_small {n : Int} (h : -9223372036854775808 ≤ n ∧ n ≤ 9223372036854775807) : IntKind.i64.wrap n = n := by
  rw [IntKind.wrap_i64]; omega
theorem v62 :
  ∀ (d : Ty.den (Ty.int IntKind.i64) × Ty.den (Ty.pr (Ty.int IntKind.i64) (Ty.int IntKind.i64))), Ty.wf svT d → True → (Prod.fst d, Prod.fst (Prod.snd d), Prod.snd (Prod.snd d)) = d := by
  intro d _ _; rfl
theorem v63 :
  ∀ (d : Ty.den svT × Tup [svT]), Ty.wf svT (Prod.fst d) ∧ Ty.wf svT (Prod.snd d) → True → ((!decide (Prod.fst (Prod.fst d) = Prod.fst (Prod.snd d))) = true → false = decide (Prod.fst d = Prod.snd d)) ∧ ((!decide
  (Prod.fst (Prod.fst d) = Prod.fst (Prod.snd d))) = false → ((!decide (Prod.fst (Prod.snd (Prod.fst d)) = Prod.fst (Prod.snd (Prod.snd d)))) = true → false = decide (Prod.fst d = Prod.snd d)) ∧ ((!decide (Prod.fst
  (Prod.snd (Prod.fst d)) = Prod.fst (Prod.snd (Prod.snd d)))) = false → ((!decide (Prod.snd (Prod.snd (Prod.fst d)) = Prod.snd (Prod.snd (Prod.snd d)))) = true → false = decide (Prod.fst d = Prod.snd d)) ∧ ((!decide
  (Prod.snd (Prod.snd (Prod.fst d)) = Prod.snd (Prod.snd (Prod.snd d)))) = false → true = decide (Prod.fst d = Prod.snd d)))) := by
  intro d _ _
  obtain ⟨⟨a, b, c⟩, ⟨a', b', c'⟩⟩ := d
  simp only [f63C]
  grind
theorem v61 :
  ∀ (d : Ty.den i64T × Tup [i64T, i64T]), Ty.wf i64T (Prod.fst d) ∧ Ty.wf i64T (Prod.fst (Prod.snd d)) ∧ Ty.wf i64T (Prod.snd (Prod.snd d)) → True → (decide (Prod.fst (Prod.snd d) ≤ Prod.fst d) = true → decide (Prod.fst
  d ≤ Prod.snd (Prod.snd d)) = (decide (Prod.fst (Prod.snd d) ≤ Prod.fst d) && decide (Prod.fst d ≤ Prod.snd (Prod.snd d)))) ∧ (decide (Prod.fst (Prod.snd d) ≤ Prod.fst d) = false → false = (decide (Prod.fst (Prod.snd d)
  ≤ Prod.fst d) && decide (Prod.fst d ≤ Prod.snd (Prod.snd d)))) := by
  intro d _ _
  obtain ⟨a, b, c⟩ := d
  simp only [f61C]
  grind
theorem v15 :
  ∀ (d : Ty.den (Ty.sl svT) × Tup [i64T]), Ty.wf (Ty.sl svT) (Prod.fst d) ∧ Ty.wf i64T (Prod.snd d) → True → (decide (IntKind.wrap IntKind.i64 (Prod.snd d - (↑(List.length (Prod.fst d)) : Int)) < (0 : Int)) = true → (-1
  : Int) = szF (List.length (Prod.fst d)) (Prod.snd d)) ∧ (decide (IntKind.wrap IntKind.i64 (Prod.snd d - (↑(List.length (Prod.fst d)) : Int)) < (0 : Int)) = false → IntKind.wrap IntKind.i64 (Prod.snd d - (↑(List.length
  (Prod.fst d)) : Int)) = szF (List.length (Prod.fst d)) (Prod.snd d)) := by
  intro d hw _
  obtain ⟨xs, l⟩ := d
  simp only [f15C, szF, w64]
  grind
theorem v16 :
  ∀ (d : Ty.den (Ty.sl svT) × Tup [i64T]), Ty.wf (Ty.sl svT) (Prod.fst d) ∧ Ty.wf i64T (Prod.snd d) → True → (decide ((4096 : Int) < (↑(List.length (Prod.fst d)) : Int)) = true → (-1 : Int) = servedF (Prod.fst d)
  (Prod.snd d)) ∧ (decide ((4096 : Int) < (↑(List.length (Prod.fst d)) : Int)) = false → ((0 : Nat) ≤ List.length (Prod.fst d) ∧ servedGo (Prod.snd d) (List.drop (0 : Nat) (Prod.fst d)) (0 : Int) = servedGo (Prod.snd d)
  (Prod.fst d) (0 : Int)) ∧ (Prod.fst d = Prod.fst d ∧ Prod.snd d = Prod.snd d ∧ (0 : Int) = (0 : Int) ∧ (0 : Int) = (↑(0 : Nat) : Int)) ∧ ∀ (x : Nat × Int), Prod.fst x ≤ List.length (Prod.fst d) ∧ servedGo (Prod.snd d)
  (List.drop (Prod.fst x) (Prod.fst d)) (Prod.snd x) = servedGo (Prod.snd d) (Prod.fst d) (0 : Int) → (decide ((↑(Prod.fst x) : Int) < (↑(List.length (Prod.fst d)) : Int)) = true → ((0 : Int) ≤ (↑(Prod.fst x) : Int) ∧
  (↑(Prod.fst x) : Int) < (↑(List.length (Prod.fst d)) : Int)) ∧ True ∧ ((!(decide ((1 : Int) ≤ Prod.snd (Prod.snd (List.getD (Prod.fst d) (Int.toNat (↑(Prod.fst x) : Int)) ((0 : Int), (0 : Int), (0 : Int))))) && decide
  (Prod.snd (Prod.snd (List.getD (Prod.fst d) (Int.toNat (↑(Prod.fst x) : Int)) ((0 : Int), (0 : Int), (0 : Int)))) ≤ (200000 : Int)))) = true → (-1 : Int) = servedF (Prod.fst d) (Prod.snd d)) ∧ ((!(decide ((1 : Int) ≤
  Prod.snd (Prod.snd (List.getD (Prod.fst d) (Int.toNat (↑(Prod.fst x) : Int)) ((0 : Int), (0 : Int), (0 : Int))))) && decide (Prod.snd (Prod.snd (List.getD (Prod.fst d) (Int.toNat (↑(Prod.fst x) : Int)) ((0 : Int), (0 :
  Int), (0 : Int)))) ≤ (200000 : Int)))) = false → ((0 : Int) ≤ (↑(Prod.fst x) : Int) ∧ (↑(Prod.fst x) : Int) < (↑(List.length (Prod.fst d)) : Int)) ∧ (decide (Prod.fst (List.getD (Prod.fst d) (Int.toNat (↑(Prod.fst x) :
  Int)) ((0 : Int), (0 : Int), (0 : Int))) = Prod.snd d) = true → ((0 : Int) ≤ (↑(Prod.fst x) : Int) ∧ (↑(Prod.fst x) : Int) < (↑(List.length (Prod.fst d)) : Int)) ∧ ∃ (x' : Nat × Int), (Prod.fst x' ≤ List.length
  (Prod.fst d) ∧ servedGo (Prod.snd d) (List.drop (Prod.fst x') (Prod.fst d)) (Prod.snd x') = servedGo (Prod.snd d) (Prod.fst d) (0 : Int)) ∧ List.length (Prod.fst d) - Prod.fst x' < List.length (Prod.fst d) - Prod.fst x
  ∧ Prod.fst d = Prod.fst d ∧ Prod.snd d = Prod.snd d ∧ IntKind.wrap IntKind.i64 (Prod.snd x + Prod.snd (Prod.snd (List.getD (Prod.fst d) (Int.toNat (↑(Prod.fst x) : Int)) ((0 : Int), (0 : Int), (0 : Int))))) = Prod.snd
  x' ∧ IntKind.wrap IntKind.i64 ((↑(Prod.fst x) : Int) + (1 : Int)) = (↑(Prod.fst x') : Int)) ∧ (decide (Prod.fst (List.getD (Prod.fst d) (Int.toNat (↑(Prod.fst x) : Int)) ((0 : Int), (0 : Int), (0 : Int))) = Prod.snd d)
  = false → ∃ (x' : Nat × Int), (Prod.fst x' ≤ List.length (Prod.fst d) ∧ servedGo (Prod.snd d) (List.drop (Prod.fst x') (Prod.fst d)) (Prod.snd x') = servedGo (Prod.snd d) (Prod.fst d) (0 : Int)) ∧ List.length (Prod.fst
  d) - Prod.fst x' < List.length (Prod.fst d) - Prod.fst x ∧ Prod.fst d = Prod.fst d ∧ Prod.snd d = Prod.snd d ∧ Prod.snd x = Prod.snd x' ∧ IntKind.wrap IntKind.i64 ((↑(Prod.fst x) : Int) + (1 : Int)) = (↑(Prod.fst x') :
  Int)))) ∧ (decide ((↑(Prod.fst x) : Int) < (↑(List.length (Prod.fst d)) : Int)) = false → Prod.snd x = servedF (Prod.fst d) (Prod.snd d))) := by
  intro d hw _
  obtain ⟨xs, t⟩ := d
  obtain ⟨⟨hl, _⟩, _⟩ := hw
  simp only [f16C, f61C, servedF] at *
  unfold lenMax at hl
  refine ⟨fun h => ?_, fun h => ⟨⟨Nat.zero_le _, by simp⟩, by simp, fun x ⟨h1, h2⟩ => ⟨fun h3 => ?_, fun h3 => ?_⟩⟩⟩
  · grind
  · have h4 : x.1 < xs.length := by simpa using h3
    rw [getD_drop_cons (x := ((0 : Int), (0 : Int), (0 : Int))) h4, servedGo] at h2
    have hw : IntKind.i64.wrap ((x.1 : Int) + 1) = ((x.1 + 1 : Nat) : Int) := by rw [wrap_small (by omega)]; rfl
    simp only [hw, Int.toNat_natCast]
    refine ⟨⟨by omega, by omega⟩, trivial, fun h5 => ?_, fun h5 => ⟨⟨by omega, by omega⟩, fun h6 => ⟨⟨by omega, by omega⟩, (x.1 + 1, w64 (x.2 + (xs.getD x.1 (0, 0, 0)).2.2)), ?_⟩, fun h6 => ⟨(x.1 + 1, x.2), ?_⟩⟩⟩
    · grind
    · refine ⟨⟨by simp only; omega, ?_⟩, by simp only; omega, by simp [w64]⟩
      grind
    · refine ⟨⟨by simp only; omega, ?_⟩, by simp only; omega, by simp [w64]⟩
      grind
  · have h4 : x.1 = xs.length := by simp at h3; omega
    rw [h4, List.drop_length, servedGo] at h2
    grind
theorem v18 :
  ∀ (d : Ty.den (Ty.sl svT) × Tup [i64T]), Ty.wf (Ty.sl svT) (Prod.fst d) ∧ Ty.wf i64T (Prod.snd d) → True → (decide ((4096 : Int) < (↑(List.length (Prod.fst d)) : Int)) = true → (-1 : Int) = servedF (Prod.fst d)
  (Prod.snd d)) ∧ (decide ((4096 : Int) < (↑(List.length (Prod.fst d)) : Int)) = false → ((0 : Nat) ≤ List.length (Prod.fst d) ∧ servedGo (Prod.snd d) (List.drop (0 : Nat) (Prod.fst d)) (0 : Int) = servedGo (Prod.snd d)
  (Prod.fst d) (0 : Int)) ∧ (Prod.fst d = Prod.fst d ∧ Prod.snd d = Prod.snd d ∧ (0 : Int) = (0 : Int) ∧ Prod.fst d = Prod.fst d ∧ (↑(List.length (Prod.fst d)) : Int) = (↑(List.length (Prod.fst d)) : Int) ∧ (0 : Int) =
  (↑(0 : Nat) : Int)) ∧ ∀ (x : Nat × Int), Prod.fst x ≤ List.length (Prod.fst d) ∧ servedGo (Prod.snd d) (List.drop (Prod.fst x) (Prod.fst d)) (Prod.snd x) = servedGo (Prod.snd d) (Prod.fst d) (0 : Int) → (decide
  ((↑(Prod.fst x) : Int) < (↑(List.length (Prod.fst d)) : Int)) = true → ((0 : Int) ≤ (↑(Prod.fst x) : Int) ∧ (↑(Prod.fst x) : Int) < (↑(List.length (Prod.fst d)) : Int)) ∧ (decide (Prod.snd (Prod.snd (List.getD
  (Prod.fst d) (Int.toNat (↑(Prod.fst x) : Int)) ((0 : Int), (0 : Int), (0 : Int)))) < (1 : Int)) = true → (-1 : Int) = servedF (Prod.fst d) (Prod.snd d)) ∧ (decide (Prod.snd (Prod.snd (List.getD (Prod.fst d) (Int.toNat
  (↑(Prod.fst x) : Int)) ((0 : Int), (0 : Int), (0 : Int)))) < (1 : Int)) = false → (decide ((200000 : Int) < Prod.snd (Prod.snd (List.getD (Prod.fst d) (Int.toNat (↑(Prod.fst x) : Int)) ((0 : Int), (0 : Int), (0 :
  Int))))) = true → (-1 : Int) = servedF (Prod.fst d) (Prod.snd d)) ∧ (decide ((200000 : Int) < Prod.snd (Prod.snd (List.getD (Prod.fst d) (Int.toNat (↑(Prod.fst x) : Int)) ((0 : Int), (0 : Int), (0 : Int))))) = false →
  (decide (Prod.fst (List.getD (Prod.fst d) (Int.toNat (↑(Prod.fst x) : Int)) ((0 : Int), (0 : Int), (0 : Int))) = Prod.snd d) = true → ∃ (x' : Nat × Int), (Prod.fst x' ≤ List.length (Prod.fst d) ∧ servedGo (Prod.snd d)
  (List.drop (Prod.fst x') (Prod.fst d)) (Prod.snd x') = servedGo (Prod.snd d) (Prod.fst d) (0 : Int)) ∧ List.length (Prod.fst d) - Prod.fst x' < List.length (Prod.fst d) - Prod.fst x ∧ Prod.fst d = Prod.fst d ∧ Prod.snd
  d = Prod.snd d ∧ IntKind.wrap IntKind.i64 (Prod.snd x + Prod.snd (Prod.snd (List.getD (Prod.fst d) (Int.toNat (↑(Prod.fst x) : Int)) ((0 : Int), (0 : Int), (0 : Int))))) = Prod.snd x' ∧ Prod.fst d = Prod.fst d ∧
  (↑(List.length (Prod.fst d)) : Int) = (↑(List.length (Prod.fst d)) : Int) ∧ IntKind.wrap IntKind.i64 ((↑(Prod.fst x) : Int) + (1 : Int)) = (↑(Prod.fst x') : Int)) ∧ (decide (Prod.fst (List.getD (Prod.fst d) (Int.toNat
  (↑(Prod.fst x) : Int)) ((0 : Int), (0 : Int), (0 : Int))) = Prod.snd d) = false → ∃ (x' : Nat × Int), (Prod.fst x' ≤ List.length (Prod.fst d) ∧ servedGo (Prod.snd d) (List.drop (Prod.fst x') (Prod.fst d)) (Prod.snd x')
  = servedGo (Prod.snd d) (Prod.fst d) (0 : Int)) ∧ List.length (Prod.fst d) - Prod.fst x' < List.length (Prod.fst d) - Prod.fst x ∧ Prod.fst d = Prod.fst d ∧ Prod.snd d = Prod.snd d ∧ Prod.snd x = Prod.snd x' ∧ Prod.fst
  d = Prod.fst d ∧ (↑(List.length (Prod.fst d)) : Int) = (↑(List.length (Prod.fst d)) : Int) ∧ IntKind.wrap IntKind.i64 ((↑(Prod.fst x) : Int) + (1 : Int)) = (↑(Prod.fst x') : Int))))) ∧ (decide ((↑(Prod.fst x) : Int) <
  (↑(List.length (Prod.fst d)) : Int)) = false → Prod.snd x = servedF (Prod.fst d) (Prod.snd d))) := by
  intro d hw _
  obtain ⟨xs, t⟩ := d
  obtain ⟨⟨hl, _⟩, _⟩ := hw
  simp only [f18C, servedF] at *
  unfold lenMax at hl
  refine ⟨fun h => ?_, fun h => ⟨⟨Nat.zero_le _, by simp⟩, by simp, fun x ⟨h1, h2⟩ => ⟨fun h3 => ?_, fun h3 => ?_⟩⟩⟩
  · grind
  · have h4 : x.1 < xs.length := by simpa using h3
    rw [getD_drop_cons (x := ((0 : Int), (0 : Int), (0 : Int))) h4, servedGo] at h2
    have hw : IntKind.i64.wrap ((x.1 : Int) + 1) = ((x.1 + 1 : Nat) : Int) := by rw [wrap_small (by omega)]; rfl
    simp only [hw, Int.toNat_natCast]
    refine ⟨⟨by omega, by omega⟩, fun h5 => ?_, fun h5 => ⟨fun h6 => ?_, fun h6 => ⟨fun h7 => ⟨(x.1 + 1, w64 (x.2 + (xs.getD x.1 (0, 0, 0)).2.2)), ?_⟩, fun h7 => ⟨(x.1 + 1, x.2), ?_⟩⟩⟩⟩
    · grind
    · grind
    · refine ⟨⟨by simp only; omega, ?_⟩, by simp only; omega, by simp [w64]⟩
      grind
    · refine ⟨⟨by simp only; omega, ?_⟩, by simp only; omega, by simp [w64]⟩
      grind
  · have h4 : x.1 = xs.length := by simp at h3; omega
    rw [h4, List.drop_length, servedGo] at h2
    grind
theorem copy_step {α : Type} (l : List α) (z : α) {i : Nat} (h : i < l.length) : (l.take i ++ List.replicate (l.length - i) z).set i (l.getD i z) = l.take (i + 1) ++ List.replicate (l.length - (i + 1)) z := by
  apply List.ext_getElem?
  intro j
  simp only [List.getElem?_set, List.getElem?_append, List.getElem?_take, List.getElem?_replicate, List.length_take, List.length_append, List.length_replicate, List.getD_eq_getElem?_getD]
  grind
theorem v17 :
  ∀ (d : List (Ty.den svT)), Ty.wf (Ty.sl svT) d → List.length d ≤ (1048576 : Nat) → ((0 : Int) ≤ (↑(List.length d) : Int) ∧ (↑(List.length d) : Int) ≤ (↑(List.length d) : Int) ∧ (↑(List.length d) : Int) * (↑(24 : Nat) :
  Int) ≤ (140737488355328 : Int)) ∧ (0 : Nat) ≤ List.length d ∧ ((d = d ∧ Value.slice none (0 : Nat) (0 : Nat) = Value.slice none (0 : Nat) (0 : Nat) ∧ (0 : Int) = (↑(0 : Nat) : Int)) ∧ List.replicate (Int.toNat
  (↑(List.length d) : Int)) ((0 : Int), (0 : Int), (0 : Int)) = List.take (0 : Nat) d ++ List.replicate (List.length d - (0 : Nat)) ((0 : Int), (0 : Int), (0 : Int))) ∧ ∀ (x : Nat), x ≤ List.length d → (decide ((↑x :
  Int) < (↑(List.length d) : Int)) = true → ((0 : Int) ≤ (↑x : Int) ∧ (↑x : Int) < (↑(List.length d) : Int)) ∧ True ∧ (Ty.wf svT (Prod.fst (List.getD d (Int.toNat (↑x : Int)) ((0 : Int), (0 : Int), (0 : Int))), Prod.fst
  (Prod.snd (List.getD d (Int.toNat (↑x : Int)) ((0 : Int), (0 : Int), (0 : Int)))), Prod.snd (Prod.snd (List.getD d (Int.toNat (↑x : Int)) ((0 : Int), (0 : Int), (0 : Int))))) → ((0 : Int) ≤ (↑x : Int) ∧ (↑x : Int) <
  (↑(List.length (List.take x d ++ List.replicate (List.length d - x) ((0 : Int), (0 : Int), (0 : Int)))) : Int)) ∧ ∃ (x' : Nat), x' ≤ List.length d ∧ List.length d - x' < List.length d - x ∧ (d = d ∧ Value.slice none (0
  : Nat) (0 : Nat) = Value.slice none (0 : Nat) (0 : Nat) ∧ IntKind.wrap IntKind.i64 ((↑x : Int) + (1 : Int)) = (↑x' : Int)) ∧ List.set (List.take x d ++ List.replicate (List.length d - x) ((0 : Int), (0 : Int), (0 :
  Int))) (Int.toNat (↑x : Int)) (Prod.fst (List.getD d (Int.toNat (↑x : Int)) ((0 : Int), (0 : Int), (0 : Int))), Prod.fst (Prod.snd (List.getD d (Int.toNat (↑x : Int)) ((0 : Int), (0 : Int), (0 : Int)))), Prod.snd
  (Prod.snd (List.getD d (Int.toNat (↑x : Int)) ((0 : Int), (0 : Int), (0 : Int))))) = List.take x' d ++ List.replicate (List.length d - x') ((0 : Int), (0 : Int), (0 : Int)))) ∧ (decide ((↑x : Int) < (↑(List.length d) :
  Int)) = false → List.take x d ++ List.replicate (List.length d - x) ((0 : Int), (0 : Int), (0 : Int)) = d) := by
  intro d hw hp
  obtain ⟨hl, _⟩ := hw
  simp only [f17C, f62C] at *
  unfold lenMax at hl
  refine ⟨⟨by omega, by omega, by omega⟩, by omega, by simp, fun x h1 => ⟨fun h3 => ?_, fun h3 => ?_⟩⟩
  · have h4 : x < d.length := by simpa using h3
    have hw : IntKind.i64.wrap ((x : Int) + 1) = ((x + 1 : Nat) : Int) := by rw [wrap_small (by omega)]; rfl
    simp only [hw, Int.toNat_natCast]
    refine ⟨⟨by omega, by omega⟩, trivial, fun _ => ⟨⟨by omega, ?_⟩, x + 1, by omega, by omega, ?_, ?_⟩⟩
    · simp; omega
    · simp
    · exact copy_step d _ h4
  · have h4 : x = d.length := by simp at h3; omega
    subst h4
    simp
theorem take_ext {α : Type} {a b : List α} {z : α} {i : Nat} (hl : a.length = b.length) (hi : i < a.length) (h : a.take i = b.take i) : (a.take (i + 1) = b.take (i + 1) ↔ a.getD i z = b.getD i z) ∧ (a = b → a.getD i z = b.getD i z) := by
  refine ⟨?_, fun e => by rw [e]⟩
  rw [List.take_add_one, List.take_add_one, h, List.append_cancel_left_eq]
  rw [List.getElem?_eq_getElem hi, List.getElem?_eq_getElem (show i < b.length by omega)]
  simp [hi, show i < b.length by omega]
theorem v19 :
  ∀ (d : Ty.den (Ty.sl svT) × Tup [Ty.sl svT]), Ty.wf (Ty.sl svT) (Prod.fst d) ∧ Ty.wf (Ty.sl svT) (Prod.snd d) → True → ((!decide ((↑(List.length (Prod.fst d)) : Int) = (↑(List.length (Prod.snd d)) : Int))) = true →
  false = decide (Prod.fst d = Prod.snd d)) ∧ ((!decide ((↑(List.length (Prod.fst d)) : Int) = (↑(List.length (Prod.snd d)) : Int))) = false → ((0 : Nat) ≤ List.length (Prod.fst d) ∧ List.length (Prod.fst d) =
  List.length (Prod.snd d) ∧ List.take (0 : Nat) (Prod.fst d) = List.take (0 : Nat) (Prod.snd d)) ∧ (Prod.fst d = Prod.fst d ∧ Prod.snd d = Prod.snd d ∧ (0 : Int) = (↑(0 : Nat) : Int)) ∧ ∀ (x : Nat), x ≤ List.length
  (Prod.fst d) ∧ List.length (Prod.fst d) = List.length (Prod.snd d) ∧ List.take x (Prod.fst d) = List.take x (Prod.snd d) → (decide ((↑x : Int) < (↑(List.length (Prod.fst d)) : Int)) = true → ((0 : Int) ≤ (↑x : Int) ∧
  (↑x : Int) < (↑(List.length (Prod.fst d)) : Int)) ∧ ((0 : Int) ≤ (↑x : Int) ∧ (↑x : Int) < (↑(List.length (Prod.snd d)) : Int)) ∧ True ∧ ((!decide ((Prod.fst (List.getD (Prod.fst d) (Int.toNat (↑x : Int)) ((0 : Int),
  (0 : Int), (0 : Int))), Prod.fst (Prod.snd (List.getD (Prod.fst d) (Int.toNat (↑x : Int)) ((0 : Int), (0 : Int), (0 : Int)))), Prod.snd (Prod.snd (List.getD (Prod.fst d) (Int.toNat (↑x : Int)) ((0 : Int), (0 : Int), (0
  : Int))))) = (Prod.fst (List.getD (Prod.snd d) (Int.toNat (↑x : Int)) ((0 : Int), (0 : Int), (0 : Int))), Prod.fst (Prod.snd (List.getD (Prod.snd d) (Int.toNat (↑x : Int)) ((0 : Int), (0 : Int), (0 : Int)))), Prod.snd
  (Prod.snd (List.getD (Prod.snd d) (Int.toNat (↑x : Int)) ((0 : Int), (0 : Int), (0 : Int))))))) = true → false = decide (Prod.fst d = Prod.snd d)) ∧ ((!decide ((Prod.fst (List.getD (Prod.fst d) (Int.toNat (↑x : Int))
  ((0 : Int), (0 : Int), (0 : Int))), Prod.fst (Prod.snd (List.getD (Prod.fst d) (Int.toNat (↑x : Int)) ((0 : Int), (0 : Int), (0 : Int)))), Prod.snd (Prod.snd (List.getD (Prod.fst d) (Int.toNat (↑x : Int)) ((0 : Int),
  (0 : Int), (0 : Int))))) = (Prod.fst (List.getD (Prod.snd d) (Int.toNat (↑x : Int)) ((0 : Int), (0 : Int), (0 : Int))), Prod.fst (Prod.snd (List.getD (Prod.snd d) (Int.toNat (↑x : Int)) ((0 : Int), (0 : Int), (0 :
  Int)))), Prod.snd (Prod.snd (List.getD (Prod.snd d) (Int.toNat (↑x : Int)) ((0 : Int), (0 : Int), (0 : Int))))))) = false → ∃ (x' : Nat), (x' ≤ List.length (Prod.fst d) ∧ List.length (Prod.fst d) = List.length
  (Prod.snd d) ∧ List.take x' (Prod.fst d) = List.take x' (Prod.snd d)) ∧ List.length (Prod.fst d) - x' < List.length (Prod.fst d) - x ∧ Prod.fst d = Prod.fst d ∧ Prod.snd d = Prod.snd d ∧ IntKind.wrap IntKind.i64 ((↑x :
  Int) + (1 : Int)) = (↑x' : Int))) ∧ (decide ((↑x : Int) < (↑(List.length (Prod.fst d)) : Int)) = false → true = decide (Prod.fst d = Prod.snd d))) := by
  intro d hw hp
  obtain ⟨xs, ys⟩ := d
  obtain ⟨⟨hl, _⟩, hl2, _⟩ := hw
  simp only [f19C, f63C] at *
  unfold lenMax at hl hl2
  refine ⟨fun h => ?_, fun h => ⟨⟨by omega, by simp at h; omega, by simp⟩, by simp, fun x ⟨h1, h2, h0⟩ => ⟨fun h3 => ?_, fun h3 => ?_⟩⟩⟩
  · grind
  · have h4 : x < xs.length := by simpa using h3
    have hw : IntKind.i64.wrap ((x : Int) + 1) = ((x + 1 : Nat) : Int) := by rw [wrap_small (by omega)]; rfl
    obtain ⟨t1, t2⟩ := take_ext (z := ((0 : Int), (0 : Int), (0 : Int))) h2 h4 h0
    simp only [hw, Int.toNat_natCast]
    refine ⟨⟨by omega, by omega⟩, ⟨by omega, by omega⟩, trivial, fun h5 => ?_, fun h5 => ⟨x + 1, ⟨by omega, h2, ?_⟩, by omega, by simp⟩⟩
    · have h6 : xs.getD x (0, 0, 0) ≠ ys.getD x (0, 0, 0) := by intro e; simp only [e] at h5; simp at h5
      have : xs ≠ ys := fun e => h6 (t2 e)
      simp [this]
    · exact t1.2 (by simp at h5; simp only [List.getD_eq_getElem?_getD]; grind)
  · have h4 : x = xs.length := by simp at h3; omega
    subst h4
    have : xs = ys := by rw [List.take_length, h2, List.take_length] at h0; exact h0
    simp [this]
theorem v3 :
  ∀ (d : Ty.den (Ty.sl svT) × Tup [i64T]), Ty.wf (Ty.sl svT) (Prod.fst d) ∧ Ty.wf i64T (Prod.snd d) → True → True ∧ (Ty.wf i64T (szF (List.length (Prod.fst d)) (1048576 : Int)) → (decide (szF (List.length (Prod.fst d))
  (1048576 : Int) < (0 : Int)) = true → true = true) ∧ (decide (szF (List.length (Prod.fst d)) (1048576 : Int) < (0 : Int)) = false → List.length (Prod.fst d) ≤ (1048576 : Nat) ∧ (Ty.wf (Ty.sl svT) (Prod.fst d) → True ∧
  (Ty.wf i64T (servedF (Prod.fst d) (Prod.snd d)) → List.length (Prod.fst d) ≤ (1048576 : Nat) ∧ (Ty.wf (Ty.sl svT) (Prod.fst d) → True ∧ (Ty.wf i64T (servedF (Prod.fst d) (Prod.snd d)) → ((!decide (servedF (Prod.fst d)
  (Prod.snd d) = servedF (Prod.fst d) (Prod.snd d))) = true → false = true) ∧ ((!decide (servedF (Prod.fst d) (Prod.snd d) = servedF (Prod.fst d) (Prod.snd d))) = false → List.length (Prod.fst d) ≤ (1048576 : Nat) ∧
  (Ty.wf (Ty.sl svT) (Prod.fst d) → True ∧ ((!decide (Prod.fst d = Prod.fst d)) = true → false = true) ∧ ((!decide (Prod.fst d = Prod.fst d)) = false → true = true))))))))) := by
  intro d hw hp
  obtain ⟨xs, t⟩ := d
  obtain ⟨⟨hl, _⟩, _⟩ := hw
  unfold lenMax at hl
  simp only at hl
  have h0 : IntKind.i64.wrap (1048576 - (xs.length : Int)) = 1048576 - (xs.length : Int) := wrap_small (by omega)
  have h1 : szF xs.length 1048576 < 0 ∨ xs.length ≤ 1048576 := by unfold szF w64; rw [h0]; split <;> omega
  simp only [decide_eq_true_eq, decide_eq_false_iff_not, decide_true, Bool.not_true, true_and, implies_true]
  refine fun _ h => ⟨by omega, fun _ _ => ⟨by omega, fun _ _ => ⟨nofun, fun _ => ⟨by omega, fun _ => ⟨nofun, trivial⟩⟩⟩⟩⟩
end Go.SF
