/- What is owed of the code of the rings' functions, second part. No condition. -/
import Derived.Test.YtnjihkeflkemdaaSxPRing
namespace Go.SF
open Go.SX Go
set_option linter.unusedVariables false
set_option linter.unusedSimpArgs false
set_option maxRecDepth 10000
theorem ring_iff {fs : List Fl} {turn : Int} {fresh : Bool} : ringOkF fs turn fresh = true ↔ RingHd (fs, turn, fresh) ∧ RingP fs turn fresh fs.length := by
  unfold ringOkF RingHd
  by_cases h0 : fs.length = 0
  · have hp : RingP fs turn fresh fs.length := by intro j hj; omega
    simp only [h0, if_true, Bool.and_eq_true, decide_eq_true_eq, Bool.not_eq_true']
    constructor
    · rintro ⟨_, h1, h2⟩; exact ⟨⟨by omega, fun _ => ⟨h1, h2⟩, fun h => absurd h (by omega)⟩, fun j hj => by omega⟩
    · rintro ⟨⟨_, h1, _⟩, _⟩; exact ⟨by omega, (h1 trivial).1, (h1 trivial).2⟩
  · simp only [if_neg h0, Bool.and_eq_true, decide_eq_true_eq]
    constructor
    · rintro ⟨h1, ⟨h2, h3⟩, h4⟩; exact ⟨⟨h1, fun h => absurd h h0, fun _ => ⟨h2, by omega⟩⟩, h4⟩
    · rintro ⟨⟨h1, _, h2⟩, h4⟩; exact ⟨h1, ⟨(h2 (by omega)).1, by have := (h2 (by omega)).2; omega⟩, h4⟩
theorem ringHd_mk {fs : List Fl} {turn : Int} {fresh : Bool} (a : fs.length ≤ 12) (b : fs.length = 0 → turn = 0 ∧ fresh = false) (c : 0 < fs.length → 0 ≤ turn ∧ turn < fs.length) : RingHd (fs, turn, fresh) := ⟨a, b, c⟩
theorem ring_hd {fs : List Fl} {turn : Int} {fresh : Bool} (h : ¬ RingHd (fs, turn, fresh)) : false = ringOkF fs turn fresh := by
  symm; rw [Bool.eq_false_iff]; exact fun e => h (ring_iff.1 e).1
theorem ring_no {fs : List Fl} {turn : Int} {fresh : Bool} {x : Nat} (hx : x < fs.length)
    (h : ¬ (flowOkF (fs.getD x (0, 0, 0, [])) (fresh && decide ((x : Int) = turn)) = true ∧ (0 < x → (fs.getD (x - 1) (0, 0, 0, [])).1 < (fs.getD x (0, 0, 0, [])).1))) : false = ringOkF fs turn fresh := by
  symm; rw [Bool.eq_false_iff]; exact fun e => h ((ring_iff.1 e).2 x hx)
theorem ring_succ {fs : List Fl} {turn : Int} {fresh : Bool} {x : Nat} (h : RingP fs turn fresh x)
    (h1 : flowOkF (fs.getD x (0, 0, 0, [])) (fresh && decide ((x : Int) = turn)) = true) (h2 : 0 < x → (fs.getD (x - 1) (0, 0, 0, [])).1 < (fs.getD x (0, 0, 0, [])).1) : RingP fs turn fresh (x + 1) := by
  intro j hj
  by_cases e : j = x
  · subst e; exact ⟨h1, h2⟩
  · exact h j (by omega)
theorem flow_iff {f : Fl} {b : Bool} : flowOkF f b = true ↔ (0 ≤ f.1 ∧ f.1 ≤ 99) ∧ (100 ≤ f.2.1 ∧ f.2.1 ≤ 100000) ∧ lineOkF f.2.2.2 = true ∧ 0 ≤ f.2.2.1 ∧
    (b = true → 0 < f.2.2.2.length ∧ f.2.2.1 ≤ 299999) ∧ (b = false → f.2.2.1 ≤ 199999 ∧ (0 < f.2.2.2.length ∨ f.2.2.1 = 0)) := by
  unfold flowOkF
  cases b <;> simp <;> grind
theorem v_I_isRing :
  ∀ (d : List (Int × Int × Int × List (Int × Int)) × Int × Bool), Ty.wf ringT d → True → ((decide ((12 : Int) < (↑(List.length (Prod.fst d)) : Int)) = true → false = ringOkF (Prod.fst d) (Prod.fst (Prod.snd d)) (Prod.snd
  (Prod.snd d))) ∧ (decide ((12 : Int) < (↑(List.length (Prod.fst d)) : Int)) = false → (decide ((↑(List.length (Prod.fst d)) : Int) = (0 : Int)) = true → ((!decide (Prod.fst (Prod.snd d) = (0 : Int))) = true → false =
  ringOkF (Prod.fst d) (Prod.fst (Prod.snd d)) (Prod.snd (Prod.snd d))) ∧ ((!decide (Prod.fst (Prod.snd d) = (0 : Int))) = false → (Prod.snd (Prod.snd d) = true → false = ringOkF (Prod.fst d) (Prod.fst (Prod.snd d))
  (Prod.snd (Prod.snd d))) ∧ (Prod.snd (Prod.snd d) = false → (decide ((0 : Int) < (↑(List.length (Prod.fst d)) : Int)) = true → (decide (Prod.fst (Prod.snd d) < (0 : Int)) = true → false = ringOkF (Prod.fst d) (Prod.fst
  (Prod.snd d)) (Prod.snd (Prod.snd d))) ∧ (decide (Prod.fst (Prod.snd d) < (0 : Int)) = false → (decide ((↑(List.length (Prod.fst d)) : Int) ≤ Prod.fst (Prod.snd d)) = true → false = ringOkF (Prod.fst d) (Prod.fst
  (Prod.snd d)) (Prod.snd (Prod.snd d))) ∧ (decide ((↑(List.length (Prod.fst d)) : Int) ≤ Prod.fst (Prod.snd d)) = false → ∃ (x' : Unit), RingHd d ∧ ((Prod.fst d = Prod.fst d ∧ Prod.fst (Prod.snd d) = Prod.fst (Prod.snd
  d) ∧ Prod.snd (Prod.snd d) = Prod.snd (Prod.snd d)) ∧ (↑(List.length (Prod.fst d)) : Int) = (↑(List.length (Prod.fst d)) : Int)) ∧ Prod.fst d = Prod.fst d ∧ Prod.fst (Prod.snd d) = Prod.fst (Prod.snd d) ∧ Prod.snd
  (Prod.snd d) = Prod.snd (Prod.snd d)))) ∧ (decide ((0 : Int) < (↑(List.length (Prod.fst d)) : Int)) = false → ∃ (x' : Unit), RingHd d ∧ ((Prod.fst d = Prod.fst d ∧ Prod.fst (Prod.snd d) = Prod.fst (Prod.snd d) ∧
  Prod.snd (Prod.snd d) = Prod.snd (Prod.snd d)) ∧ (↑(List.length (Prod.fst d)) : Int) = (↑(List.length (Prod.fst d)) : Int)) ∧ Prod.fst d = Prod.fst d ∧ Prod.fst (Prod.snd d) = Prod.fst (Prod.snd d) ∧ Prod.snd (Prod.snd
  d) = Prod.snd (Prod.snd d))))) ∧ (decide ((↑(List.length (Prod.fst d)) : Int) = (0 : Int)) = false → (decide ((0 : Int) < (↑(List.length (Prod.fst d)) : Int)) = true → (decide (Prod.fst (Prod.snd d) < (0 : Int)) = true
  → false = ringOkF (Prod.fst d) (Prod.fst (Prod.snd d)) (Prod.snd (Prod.snd d))) ∧ (decide (Prod.fst (Prod.snd d) < (0 : Int)) = false → (decide ((↑(List.length (Prod.fst d)) : Int) ≤ Prod.fst (Prod.snd d)) = true →
  false = ringOkF (Prod.fst d) (Prod.fst (Prod.snd d)) (Prod.snd (Prod.snd d))) ∧ (decide ((↑(List.length (Prod.fst d)) : Int) ≤ Prod.fst (Prod.snd d)) = false → ∃ (x' : Unit), RingHd d ∧ ((Prod.fst d = Prod.fst d ∧
  Prod.fst (Prod.snd d) = Prod.fst (Prod.snd d) ∧ Prod.snd (Prod.snd d) = Prod.snd (Prod.snd d)) ∧ (↑(List.length (Prod.fst d)) : Int) = (↑(List.length (Prod.fst d)) : Int)) ∧ Prod.fst d = Prod.fst d ∧ Prod.fst (Prod.snd
  d) = Prod.fst (Prod.snd d) ∧ Prod.snd (Prod.snd d) = Prod.snd (Prod.snd d)))) ∧ (decide ((0 : Int) < (↑(List.length (Prod.fst d)) : Int)) = false → ∃ (x' : Unit), RingHd d ∧ ((Prod.fst d = Prod.fst d ∧ Prod.fst
  (Prod.snd d) = Prod.fst (Prod.snd d) ∧ Prod.snd (Prod.snd d) = Prod.snd (Prod.snd d)) ∧ (↑(List.length (Prod.fst d)) : Int) = (↑(List.length (Prod.fst d)) : Int)) ∧ Prod.fst d = Prod.fst d ∧ Prod.fst (Prod.snd d) =
  Prod.fst (Prod.snd d) ∧ Prod.snd (Prod.snd d) = Prod.snd (Prod.snd d))))) ∧ ∀ (x : Unit), RingHd d → ((0 : Nat) ≤ List.length (Prod.fst d) ∧ RingP (Prod.fst d) (Prod.fst (Prod.snd d)) (Prod.snd (Prod.snd d)) (0 : Nat))
  ∧ (((Prod.fst d = Prod.fst d ∧ Prod.fst (Prod.snd d) = Prod.fst (Prod.snd d) ∧ Prod.snd (Prod.snd d) = Prod.snd (Prod.snd d)) ∧ (↑(List.length (Prod.fst d)) : Int) = (↑(List.length (Prod.fst d)) : Int) ∧ Prod.fst d =
  Prod.fst d ∧ (↑(List.length (Prod.fst d)) : Int) = (↑(List.length (Prod.fst d)) : Int) ∧ (0 : Int) = (↑(0 : Nat) : Int)) ∧ Prod.fst d = Prod.fst d ∧ Prod.fst (Prod.snd d) = Prod.fst (Prod.snd d) ∧ Prod.snd (Prod.snd d)
  = Prod.snd (Prod.snd d)) ∧ ∀ (x : Nat), x ≤ List.length (Prod.fst d) ∧ RingP (Prod.fst d) (Prod.fst (Prod.snd d)) (Prod.snd (Prod.snd d)) x → (decide ((↑x : Int) < (↑(List.length (Prod.fst d)) : Int)) = true → ((0 :
  Int) ≤ (↑x : Int) ∧ (↑x : Int) < (↑(List.length (Prod.fst d)) : Int)) ∧ ((decide (Prod.fst (List.getD (Prod.fst d) (Int.toNat (↑x : Int)) ((0 : Int), (0 : Int), (0 : Int), [])) < (0 : Int)) = true → false = ringOkF
  (Prod.fst d) (Prod.fst (Prod.snd d)) (Prod.snd (Prod.snd d))) ∧ (decide (Prod.fst (List.getD (Prod.fst d) (Int.toNat (↑x : Int)) ((0 : Int), (0 : Int), (0 : Int), [])) < (0 : Int)) = false → (decide ((99 : Int) <
  Prod.fst (List.getD (Prod.fst d) (Int.toNat (↑x : Int)) ((0 : Int), (0 : Int), (0 : Int), []))) = true → false = ringOkF (Prod.fst d) (Prod.fst (Prod.snd d)) (Prod.snd (Prod.snd d))) ∧ (decide ((99 : Int) < Prod.fst
  (List.getD (Prod.fst d) (Int.toNat (↑x : Int)) ((0 : Int), (0 : Int), (0 : Int), []))) = false → (decide (Prod.fst (Prod.snd (List.getD (Prod.fst d) (Int.toNat (↑x : Int)) ((0 : Int), (0 : Int), (0 : Int), []))) < (100
  : Int)) = true → false = ringOkF (Prod.fst d) (Prod.fst (Prod.snd d)) (Prod.snd (Prod.snd d))) ∧ (decide (Prod.fst (Prod.snd (List.getD (Prod.fst d) (Int.toNat (↑x : Int)) ((0 : Int), (0 : Int), (0 : Int), []))) < (100
  : Int)) = false → (decide ((100000 : Int) < Prod.fst (Prod.snd (List.getD (Prod.fst d) (Int.toNat (↑x : Int)) ((0 : Int), (0 : Int), (0 : Int), [])))) = true → false = ringOkF (Prod.fst d) (Prod.fst (Prod.snd d))
  (Prod.snd (Prod.snd d))) ∧ (decide ((100000 : Int) < Prod.fst (Prod.snd (List.getD (Prod.fst d) (Int.toNat (↑x : Int)) ((0 : Int), (0 : Int), (0 : Int), [])))) = false → True ∧ ((!lineOkF (Prod.snd (Prod.snd (Prod.snd
  (List.getD (Prod.fst d) (Int.toNat (↑x : Int)) ((0 : Int), (0 : Int), (0 : Int), [])))))) = true → false = ringOkF (Prod.fst d) (Prod.fst (Prod.snd d)) (Prod.snd (Prod.snd d))) ∧ ((!lineOkF (Prod.snd (Prod.snd
  (Prod.snd (List.getD (Prod.fst d) (Int.toNat (↑x : Int)) ((0 : Int), (0 : Int), (0 : Int), [])))))) = false → (decide ((0 : Int) < (↑x : Int)) = true → ((0 : Int) ≤ IntKind.wrap IntKind.i64 ((↑x : Int) - (1 : Int)) ∧
  IntKind.wrap IntKind.i64 ((↑x : Int) - (1 : Int)) < (↑(List.length (Prod.fst d)) : Int)) ∧ (decide (Prod.fst (List.getD (Prod.fst d) (Int.toNat (↑x : Int)) ((0 : Int), (0 : Int), (0 : Int), [])) ≤ Prod.fst (List.getD
  (Prod.fst d) (Int.toNat (IntKind.wrap IntKind.i64 ((↑x : Int) - (1 : Int)))) ((0 : Int), (0 : Int), (0 : Int), []))) = true → false = ringOkF (Prod.fst d) (Prod.fst (Prod.snd d)) (Prod.snd (Prod.snd d))) ∧ (decide
  (Prod.fst (List.getD (Prod.fst d) (Int.toNat (↑x : Int)) ((0 : Int), (0 : Int), (0 : Int), [])) ≤ Prod.fst (List.getD (Prod.fst d) (Int.toNat (IntKind.wrap IntKind.i64 ((↑x : Int) - (1 : Int)))) ((0 : Int), (0 : Int),
  (0 : Int), []))) = false → ∃ (x' : Unit), FlowHd (Prod.fst d) x ∧ ((Prod.fst d = Prod.fst d ∧ Prod.fst (Prod.snd d) = Prod.fst (Prod.snd d) ∧ Prod.snd (Prod.snd d) = Prod.snd (Prod.snd d)) ∧ (↑(List.length (Prod.fst
  d)) : Int) = (↑(List.length (Prod.fst d)) : Int) ∧ (↑x : Int) = (↑x : Int) ∧ Prod.fst d = Prod.fst d ∧ (↑(List.length (Prod.fst d)) : Int) = (↑(List.length (Prod.fst d)) : Int) ∧ (↑x : Int) = (↑x : Int)) ∧ (Prod.fst d
  = Prod.fst d ∧ Prod.fst (Prod.snd d) = Prod.fst (Prod.snd d) ∧ Prod.snd (Prod.snd d) = Prod.snd (Prod.snd d)) ∧ Prod.fst (List.getD (Prod.fst d) (Int.toNat (↑x : Int)) ((0 : Int), (0 : Int), (0 : Int), [])) = Prod.fst
  (List.getD (Prod.fst d) (Int.toNat (↑x : Int)) ((0 : Int), (0 : Int), (0 : Int), [])) ∧ Prod.fst (Prod.snd (List.getD (Prod.fst d) (Int.toNat (↑x : Int)) ((0 : Int), (0 : Int), (0 : Int), []))) = Prod.fst (Prod.snd
  (List.getD (Prod.fst d) (Int.toNat (↑x : Int)) ((0 : Int), (0 : Int), (0 : Int), []))) ∧ Prod.fst (Prod.snd (Prod.snd (List.getD (Prod.fst d) (Int.toNat (↑x : Int)) ((0 : Int), (0 : Int), (0 : Int), [])))) = Prod.fst
  (Prod.snd (Prod.snd (List.getD (Prod.fst d) (Int.toNat (↑x : Int)) ((0 : Int), (0 : Int), (0 : Int), [])))) ∧ Prod.snd (Prod.snd (Prod.snd (List.getD (Prod.fst d) (Int.toNat (↑x : Int)) ((0 : Int), (0 : Int), (0 :
  Int), [])))) = Prod.snd (Prod.snd (Prod.snd (List.getD (Prod.fst d) (Int.toNat (↑x : Int)) ((0 : Int), (0 : Int), (0 : Int), [])))))) ∧ (decide ((0 : Int) < (↑x : Int)) = false → ∃ (x' : Unit), FlowHd (Prod.fst d) x ∧
  ((Prod.fst d = Prod.fst d ∧ Prod.fst (Prod.snd d) = Prod.fst (Prod.snd d) ∧ Prod.snd (Prod.snd d) = Prod.snd (Prod.snd d)) ∧ (↑(List.length (Prod.fst d)) : Int) = (↑(List.length (Prod.fst d)) : Int) ∧ (↑x : Int) = (↑x
  : Int) ∧ Prod.fst d = Prod.fst d ∧ (↑(List.length (Prod.fst d)) : Int) = (↑(List.length (Prod.fst d)) : Int) ∧ (↑x : Int) = (↑x : Int)) ∧ (Prod.fst d = Prod.fst d ∧ Prod.fst (Prod.snd d) = Prod.fst (Prod.snd d) ∧
  Prod.snd (Prod.snd d) = Prod.snd (Prod.snd d)) ∧ Prod.fst (List.getD (Prod.fst d) (Int.toNat (↑x : Int)) ((0 : Int), (0 : Int), (0 : Int), [])) = Prod.fst (List.getD (Prod.fst d) (Int.toNat (↑x : Int)) ((0 : Int), (0 :
  Int), (0 : Int), [])) ∧ Prod.fst (Prod.snd (List.getD (Prod.fst d) (Int.toNat (↑x : Int)) ((0 : Int), (0 : Int), (0 : Int), []))) = Prod.fst (Prod.snd (List.getD (Prod.fst d) (Int.toNat (↑x : Int)) ((0 : Int), (0 :
  Int), (0 : Int), []))) ∧ Prod.fst (Prod.snd (Prod.snd (List.getD (Prod.fst d) (Int.toNat (↑x : Int)) ((0 : Int), (0 : Int), (0 : Int), [])))) = Prod.fst (Prod.snd (Prod.snd (List.getD (Prod.fst d) (Int.toNat (↑x :
  Int)) ((0 : Int), (0 : Int), (0 : Int), [])))) ∧ Prod.snd (Prod.snd (Prod.snd (List.getD (Prod.fst d) (Int.toNat (↑x : Int)) ((0 : Int), (0 : Int), (0 : Int), [])))) = Prod.snd (Prod.snd (Prod.snd (List.getD (Prod.fst
  d) (Int.toNat (↑x : Int)) ((0 : Int), (0 : Int), (0 : Int), []))))))))))) ∧ ∀ (x_1 : Unit), FlowHd (Prod.fst d) x → ((Prod.snd (Prod.snd d) = true → (decide ((↑x : Int) = Prod.fst (Prod.snd d)) = true → (decide
  ((↑(List.length (Prod.snd (Prod.snd (Prod.snd (List.getD (Prod.fst d) (Int.toNat (↑x : Int)) ((0 : Int), (0 : Int), (0 : Int), [])))))) : Int) = (0 : Int)) = true → false = ringOkF (Prod.fst d) (Prod.fst (Prod.snd d))
  (Prod.snd (Prod.snd d))) ∧ (decide ((↑(List.length (Prod.snd (Prod.snd (Prod.snd (List.getD (Prod.fst d) (Int.toNat (↑x : Int)) ((0 : Int), (0 : Int), (0 : Int), [])))))) : Int) = (0 : Int)) = false → ∃ (x' : Int),
  FlowMost d x x' ∧ ((Prod.fst d = Prod.fst d ∧ Prod.fst (Prod.snd d) = Prod.fst (Prod.snd d) ∧ Prod.snd (Prod.snd d) = Prod.snd (Prod.snd d)) ∧ (↑(List.length (Prod.fst d)) : Int) = (↑(List.length (Prod.fst d)) : Int) ∧
  (↑x : Int) = (↑x : Int) ∧ IntKind.wrap IntKind.i64 ((199999 : Int) + (100000 : Int)) = x' ∧ decide ((↑(List.length (Prod.snd (Prod.snd (Prod.snd (List.getD (Prod.fst d) (Int.toNat (↑x : Int)) ((0 : Int), (0 : Int), (0
  : Int), [])))))) : Int) = (0 : Int)) = decide ((↑(List.length (Prod.snd (Prod.snd (Prod.snd (List.getD (Prod.fst d) (Int.toNat (↑x : Int)) ((0 : Int), (0 : Int), (0 : Int), [])))))) : Int) = (0 : Int)) ∧ Prod.fst d =
  Prod.fst d ∧ (↑(List.length (Prod.fst d)) : Int) = (↑(List.length (Prod.fst d)) : Int) ∧ (↑x : Int) = (↑x : Int)) ∧ (Prod.fst d = Prod.fst d ∧ Prod.fst (Prod.snd d) = Prod.fst (Prod.snd d) ∧ Prod.snd (Prod.snd d) =
  Prod.snd (Prod.snd d)) ∧ Prod.fst (List.getD (Prod.fst d) (Int.toNat (↑x : Int)) ((0 : Int), (0 : Int), (0 : Int), [])) = Prod.fst (List.getD (Prod.fst d) (Int.toNat (↑x : Int)) ((0 : Int), (0 : Int), (0 : Int), [])) ∧
  Prod.fst (Prod.snd (List.getD (Prod.fst d) (Int.toNat (↑x : Int)) ((0 : Int), (0 : Int), (0 : Int), []))) = Prod.fst (Prod.snd (List.getD (Prod.fst d) (Int.toNat (↑x : Int)) ((0 : Int), (0 : Int), (0 : Int), []))) ∧
  Prod.fst (Prod.snd (Prod.snd (List.getD (Prod.fst d) (Int.toNat (↑x : Int)) ((0 : Int), (0 : Int), (0 : Int), [])))) = Prod.fst (Prod.snd (Prod.snd (List.getD (Prod.fst d) (Int.toNat (↑x : Int)) ((0 : Int), (0 : Int),
  (0 : Int), [])))) ∧ Prod.snd (Prod.snd (Prod.snd (List.getD (Prod.fst d) (Int.toNat (↑x : Int)) ((0 : Int), (0 : Int), (0 : Int), [])))) = Prod.snd (Prod.snd (Prod.snd (List.getD (Prod.fst d) (Int.toNat (↑x : Int)) ((0
  : Int), (0 : Int), (0 : Int), [])))))) ∧ (decide ((↑x : Int) = Prod.fst (Prod.snd d)) = false → ∃ (x' : Int), FlowMost d x x' ∧ ((Prod.fst d = Prod.fst d ∧ Prod.fst (Prod.snd d) = Prod.fst (Prod.snd d) ∧ Prod.snd
  (Prod.snd d) = Prod.snd (Prod.snd d)) ∧ (↑(List.length (Prod.fst d)) : Int) = (↑(List.length (Prod.fst d)) : Int) ∧ (↑x : Int) = (↑x : Int) ∧ (199999 : Int) = x' ∧ decide ((↑(List.length (Prod.snd (Prod.snd (Prod.snd
  (List.getD (Prod.fst d) (Int.toNat (↑x : Int)) ((0 : Int), (0 : Int), (0 : Int), [])))))) : Int) = (0 : Int)) = decide ((↑(List.length (Prod.snd (Prod.snd (Prod.snd (List.getD (Prod.fst d) (Int.toNat (↑x : Int)) ((0 :
  Int), (0 : Int), (0 : Int), [])))))) : Int) = (0 : Int)) ∧ Prod.fst d = Prod.fst d ∧ (↑(List.length (Prod.fst d)) : Int) = (↑(List.length (Prod.fst d)) : Int) ∧ (↑x : Int) = (↑x : Int)) ∧ (Prod.fst d = Prod.fst d ∧
  Prod.fst (Prod.snd d) = Prod.fst (Prod.snd d) ∧ Prod.snd (Prod.snd d) = Prod.snd (Prod.snd d)) ∧ Prod.fst (List.getD (Prod.fst d) (Int.toNat (↑x : Int)) ((0 : Int), (0 : Int), (0 : Int), [])) = Prod.fst (List.getD
  (Prod.fst d) (Int.toNat (↑x : Int)) ((0 : Int), (0 : Int), (0 : Int), [])) ∧ Prod.fst (Prod.snd (List.getD (Prod.fst d) (Int.toNat (↑x : Int)) ((0 : Int), (0 : Int), (0 : Int), []))) = Prod.fst (Prod.snd (List.getD
  (Prod.fst d) (Int.toNat (↑x : Int)) ((0 : Int), (0 : Int), (0 : Int), []))) ∧ Prod.fst (Prod.snd (Prod.snd (List.getD (Prod.fst d) (Int.toNat (↑x : Int)) ((0 : Int), (0 : Int), (0 : Int), [])))) = Prod.fst (Prod.snd
  (Prod.snd (List.getD (Prod.fst d) (Int.toNat (↑x : Int)) ((0 : Int), (0 : Int), (0 : Int), [])))) ∧ Prod.snd (Prod.snd (Prod.snd (List.getD (Prod.fst d) (Int.toNat (↑x : Int)) ((0 : Int), (0 : Int), (0 : Int), [])))) =
  Prod.snd (Prod.snd (Prod.snd (List.getD (Prod.fst d) (Int.toNat (↑x : Int)) ((0 : Int), (0 : Int), (0 : Int), [])))))) ∧ (Prod.snd (Prod.snd d) = false → ∃ (x' : Int), FlowMost d x x' ∧ ((Prod.fst d = Prod.fst d ∧
  Prod.fst (Prod.snd d) = Prod.fst (Prod.snd d) ∧ Prod.snd (Prod.snd d) = Prod.snd (Prod.snd d)) ∧ (↑(List.length (Prod.fst d)) : Int) = (↑(List.length (Prod.fst d)) : Int) ∧ (↑x : Int) = (↑x : Int) ∧ (199999 : Int) = x'
  ∧ decide ((↑(List.length (Prod.snd (Prod.snd (Prod.snd (List.getD (Prod.fst d) (Int.toNat (↑x : Int)) ((0 : Int), (0 : Int), (0 : Int), [])))))) : Int) = (0 : Int)) = decide ((↑(List.length (Prod.snd (Prod.snd
  (Prod.snd (List.getD (Prod.fst d) (Int.toNat (↑x : Int)) ((0 : Int), (0 : Int), (0 : Int), [])))))) : Int) = (0 : Int)) ∧ Prod.fst d = Prod.fst d ∧ (↑(List.length (Prod.fst d)) : Int) = (↑(List.length (Prod.fst d)) :
  Int) ∧ (↑x : Int) = (↑x : Int)) ∧ (Prod.fst d = Prod.fst d ∧ Prod.fst (Prod.snd d) = Prod.fst (Prod.snd d) ∧ Prod.snd (Prod.snd d) = Prod.snd (Prod.snd d)) ∧ Prod.fst (List.getD (Prod.fst d) (Int.toNat (↑x : Int)) ((0
  : Int), (0 : Int), (0 : Int), [])) = Prod.fst (List.getD (Prod.fst d) (Int.toNat (↑x : Int)) ((0 : Int), (0 : Int), (0 : Int), [])) ∧ Prod.fst (Prod.snd (List.getD (Prod.fst d) (Int.toNat (↑x : Int)) ((0 : Int), (0 :
  Int), (0 : Int), []))) = Prod.fst (Prod.snd (List.getD (Prod.fst d) (Int.toNat (↑x : Int)) ((0 : Int), (0 : Int), (0 : Int), []))) ∧ Prod.fst (Prod.snd (Prod.snd (List.getD (Prod.fst d) (Int.toNat (↑x : Int)) ((0 :
  Int), (0 : Int), (0 : Int), [])))) = Prod.fst (Prod.snd (Prod.snd (List.getD (Prod.fst d) (Int.toNat (↑x : Int)) ((0 : Int), (0 : Int), (0 : Int), [])))) ∧ Prod.snd (Prod.snd (Prod.snd (List.getD (Prod.fst d)
  (Int.toNat (↑x : Int)) ((0 : Int), (0 : Int), (0 : Int), [])))) = Prod.snd (Prod.snd (Prod.snd (List.getD (Prod.fst d) (Int.toNat (↑x : Int)) ((0 : Int), (0 : Int), (0 : Int), [])))))) ∧ ∀ (x_2 : Int), FlowMost d x x_2
  → (decide (Prod.fst (Prod.snd (Prod.snd (List.getD (Prod.fst d) (Int.toNat (↑x : Int)) ((0 : Int), (0 : Int), (0 : Int), [])))) < (0 : Int)) = true → false = ringOkF (Prod.fst d) (Prod.fst (Prod.snd d)) (Prod.snd
  (Prod.snd d))) ∧ (decide (Prod.fst (Prod.snd (Prod.snd (List.getD (Prod.fst d) (Int.toNat (↑x : Int)) ((0 : Int), (0 : Int), (0 : Int), [])))) < (0 : Int)) = false → (decide (x_2 < Prod.fst (Prod.snd (Prod.snd
  (List.getD (Prod.fst d) (Int.toNat (↑x : Int)) ((0 : Int), (0 : Int), (0 : Int), []))))) = true → false = ringOkF (Prod.fst d) (Prod.fst (Prod.snd d)) (Prod.snd (Prod.snd d))) ∧ (decide (x_2 < Prod.fst (Prod.snd
  (Prod.snd (List.getD (Prod.fst d) (Int.toNat (↑x : Int)) ((0 : Int), (0 : Int), (0 : Int), []))))) = false → (decide ((↑(List.length (Prod.snd (Prod.snd (Prod.snd (List.getD (Prod.fst d) (Int.toNat (↑x : Int)) ((0 :
  Int), (0 : Int), (0 : Int), [])))))) : Int) = (0 : Int)) = true → ((!decide (Prod.fst (Prod.snd (Prod.snd (List.getD (Prod.fst d) (Int.toNat (↑x : Int)) ((0 : Int), (0 : Int), (0 : Int), [])))) = (0 : Int))) = true →
  false = ringOkF (Prod.fst d) (Prod.fst (Prod.snd d)) (Prod.snd (Prod.snd d))) ∧ ((!decide (Prod.fst (Prod.snd (Prod.snd (List.getD (Prod.fst d) (Int.toNat (↑x : Int)) ((0 : Int), (0 : Int), (0 : Int), [])))) = (0 :
  Int))) = false → ∃ (x' : Nat), (x' ≤ List.length (Prod.fst d) ∧ RingP (Prod.fst d) (Prod.fst (Prod.snd d)) (Prod.snd (Prod.snd d)) x') ∧ List.length (Prod.fst d) - x' < List.length (Prod.fst d) - x ∧ ((Prod.fst d =
  Prod.fst d ∧ Prod.fst (Prod.snd d) = Prod.fst (Prod.snd d) ∧ Prod.snd (Prod.snd d) = Prod.snd (Prod.snd d)) ∧ (↑(List.length (Prod.fst d)) : Int) = (↑(List.length (Prod.fst d)) : Int) ∧ Prod.fst d = Prod.fst d ∧
  (↑(List.length (Prod.fst d)) : Int) = (↑(List.length (Prod.fst d)) : Int) ∧ IntKind.wrap IntKind.i64 ((↑x : Int) + (1 : Int)) = (↑x' : Int)) ∧ Prod.fst d = Prod.fst d ∧ Prod.fst (Prod.snd d) = Prod.fst (Prod.snd d) ∧
  Prod.snd (Prod.snd d) = Prod.snd (Prod.snd d))) ∧ (decide ((↑(List.length (Prod.snd (Prod.snd (Prod.snd (List.getD (Prod.fst d) (Int.toNat (↑x : Int)) ((0 : Int), (0 : Int), (0 : Int), [])))))) : Int) = (0 : Int)) =
  false → ∃ (x' : Nat), (x' ≤ List.length (Prod.fst d) ∧ RingP (Prod.fst d) (Prod.fst (Prod.snd d)) (Prod.snd (Prod.snd d)) x') ∧ List.length (Prod.fst d) - x' < List.length (Prod.fst d) - x ∧ ((Prod.fst d = Prod.fst d ∧
  Prod.fst (Prod.snd d) = Prod.fst (Prod.snd d) ∧ Prod.snd (Prod.snd d) = Prod.snd (Prod.snd d)) ∧ (↑(List.length (Prod.fst d)) : Int) = (↑(List.length (Prod.fst d)) : Int) ∧ Prod.fst d = Prod.fst d ∧ (↑(List.length
  (Prod.fst d)) : Int) = (↑(List.length (Prod.fst d)) : Int) ∧ IntKind.wrap IntKind.i64 ((↑x : Int) + (1 : Int)) = (↑x' : Int)) ∧ Prod.fst d = Prod.fst d ∧ Prod.fst (Prod.snd d) = Prod.fst (Prod.snd d) ∧ Prod.snd
  (Prod.snd d) = Prod.snd (Prod.snd d))))) ∧ (decide ((↑x : Int) < (↑(List.length (Prod.fst d)) : Int)) = false → true = ringOkF (Prod.fst d) (Prod.fst (Prod.snd d)) (Prod.snd (Prod.snd d))) := by
  intro (d : List Fl × Int × Bool) hw _
  obtain ⟨xs, turn, fresh⟩ := d
  have hl : xs.length ≤ 9223372036854775807 := hw.1.1
  simp only [Int.toNat_natCast, exists_const, and_true, true_and, implies_true, decide_eq_true_eq, decide_eq_false_iff_not, Bool.not_eq_true', Bool.not_eq_false', beq_iff_eq, forall_const]
  refine ⟨?_, fun hd => ⟨⟨Nat.zero_le _, fun j hj => absurd hj (Nat.not_lt_zero _)⟩, rfl, ?_⟩⟩
  · have hh := @ring_hd xs turn fresh
    generalize ringOkF xs turn fresh = r at *
    simp only [RingHd] at *
    refine ⟨fun h => hh (by omega), fun h => ⟨fun h1 => ⟨fun h2 => hh (fun hx => h2 (hx.2.1 (by omega)).1), fun h2 => ⟨fun h3 => hh (fun hx => by have := (hx.2.1 (by omega)).2; rw [h3] at this; cases this), fun h3 => ⟨fun h4 => by omega, fun h4 => ⟨by omega, fun _ => ⟨h2, h3⟩, fun h => by omega⟩⟩⟩⟩,
      fun h1 => ⟨fun h2 => ⟨fun h3 => hh (fun hx => by have := (hx.2.2 (by omega)).1; omega), fun h3 => ⟨fun h4 => hh (fun hx => by have := (hx.2.2 (by omega)).2; omega), fun h4 => ⟨by omega, fun h => by omega, fun _ => by omega⟩⟩⟩, fun h2 => by omega⟩⟩⟩
  · intro x ⟨h1, h2⟩
    have hno := @ring_no xs turn fresh x
    have hsu := @ring_succ xs turn fresh x h2
    refine ⟨fun h3 => ?_, fun h3 => ?_⟩
    · have h3 : x < xs.length := by omega
      replace hno := hno h3
      have hflow := @flow_iff (xs.getD x (0, 0, 0, [])) (fresh && decide ((x : Int) = turn))
      have hp : 0 < x → IntKind.i64.wrap ((x : Int) - 1) = ((x - 1 : Nat) : Int) := fun h => wrap_pred h (by omega)
      rw [wrap_succ (by omega)]
      unfold FlowHd FlowMost
      simp only
      clear h2 hw hd
      generalize xs.getD x (0, 0, 0, []) = f at *
      generalize hgg : xs.getD (x - 1) (0, 0, 0, []) = g at *
      generalize hrr : ringOkF xs turn fresh = r at *
      generalize hbb : flowOkF f (fresh && decide ((x : Int) = turn)) = b at *
      generalize hll : lineOkF f.2.2.2 = l at *
      refine ⟨⟨by omega, by omega⟩, ?_, fun hf => ⟨?_, fun m hm => ?_⟩⟩
      · clear hsu
        have no : (b = true → (0 < x → g.1 < f.1) → False) → false = r := fun h => hno (fun hx => h hx.1 hx.2)
        refine ⟨fun h => no (fun k _ => by have := hflow.1 k; omega), fun a1 => ⟨fun h => no (fun k _ => by have := hflow.1 k; omega), fun a2 => ⟨fun h => no (fun k _ => by have := hflow.1 k; omega), fun a3 => ⟨fun h => no (fun k _ => by have := hflow.1 k; omega), fun a4 =>
          ⟨fun h => no (fun k _ => by have := (hflow.1 k).2.2.1; rw [h] at this; cases this), fun a5 => ⟨fun h0 => ?_, fun h0 => ⟨by omega, by omega, by omega, by omega, a5, fun h => by omega⟩⟩⟩⟩⟩⟩⟩
        have hp := hp (by omega)
        rw [hp, Int.toNat_natCast, hgg]
        refine ⟨⟨by omega, by omega⟩, fun h => no (fun _ k => by have := k (by omega); omega), fun h => ⟨by omega, by omega, by omega, by omega, a5, fun _ => by omega⟩⟩
      · have hk : IntKind.i64.wrap (199999 + 100000) = 299999 := by decide
        rw [hk]
        refine ⟨fun a1 => ⟨fun a2 => ⟨fun h => hno (fun hx => by have := ((hflow.1 hx.1).2.2.2.2.1 (by simp [a1, a2])).1; omega), fun h => ⟨_, .inl ⟨a1, a2, by omega, rfl⟩, rfl⟩⟩, fun a2 => ⟨_, .inr ⟨fun h => a2 h.2, rfl⟩, rfl⟩⟩, fun a1 => ⟨_, .inr ⟨fun h => (by rw [a1] at h; cases h.1), rfl⟩, rfl⟩⟩
      · have hb : b = true ↔ (0 ≤ f.2.2.1 ∧ f.2.2.1 ≤ m ∧ (f.2.2.2.length = 0 → f.2.2.1 = 0)) := by
          rw [hflow]
          obtain ⟨c1, c2, c3, c4, c5, _⟩ := hf
          rcases hm with ⟨m1, m2, m3, m4⟩ | ⟨m1, m4⟩
          · have : (fresh && decide ((x : Int) = turn)) = true := by simp [m1, m2]
            rw [this]
            simp only [forall_const, Bool.true_eq_false, Bool.false_eq_true, false_implies, and_true, c5, true_and]
            omega
          · have : (fresh && decide ((x : Int) = turn)) = false := by
              cases fresh <;> simp_all
            rw [this]
            simp only [forall_const, Bool.true_eq_false, Bool.false_eq_true, false_implies, and_true, c5, true_and]
            omega
        refine ⟨fun h => hno (fun hx => by have := hb.1 hx.1; omega), fun a1 => ⟨fun h => hno (fun hx => by have := hb.1 hx.1; omega), fun a2 => ⟨fun a3 => ⟨fun h => hno (fun hx => by have := hb.1 hx.1; omega), fun h => ?_⟩, fun a3 => ?_⟩⟩⟩
        · exact ⟨x + 1, ⟨by omega, hsu (hb.2 ⟨by omega, by omega, by omega⟩) hf.2.2.2.2.2⟩, by omega, rfl⟩
        · exact ⟨x + 1, ⟨by omega, hsu (hb.2 ⟨by omega, by omega, by omega⟩) hf.2.2.2.2.2⟩, by omega, rfl⟩
    · have h4 : x = xs.length := by omega
      subst h4
      exact (ring_iff.2 ⟨hd, h2⟩).symm
theorem v_I_waiting :
  ∀ (d : List (Int × Int × Int × List (Int × Int)) × Int × Bool), Ty.wf ringT d → True → ((0 : Nat) ≤ List.length (Prod.fst d) ∧ waitGo (List.drop (0 : Nat) (Prod.fst d)) (0 : Int) = waitGo (Prod.fst d) (0 : Int)) ∧
  (((Prod.fst d = Prod.fst d ∧ Prod.fst (Prod.snd d) = Prod.fst (Prod.snd d) ∧ Prod.snd (Prod.snd d) = Prod.snd (Prod.snd d)) ∧ (0 : Int) = (0 : Int) ∧ (0 : Int) = (0 : Int) ∧ Prod.fst d = Prod.fst d ∧ (↑(List.length
  (Prod.fst d)) : Int) = (↑(List.length (Prod.fst d)) : Int) ∧ (0 : Int) = (↑(0 : Nat) : Int)) ∧ Prod.fst d = Prod.fst d ∧ Prod.fst (Prod.snd d) = Prod.fst (Prod.snd d) ∧ Prod.snd (Prod.snd d) = Prod.snd (Prod.snd d)) ∧
  ∀ (x : Nat × Int), Prod.fst x ≤ List.length (Prod.fst d) ∧ waitGo (List.drop (Prod.fst x) (Prod.fst d)) (Prod.snd x) = waitGo (Prod.fst d) (0 : Int) → (decide ((↑(Prod.fst x) : Int) < (↑(List.length (Prod.fst d)) :
  Int)) = true → ((0 : Int) ≤ (↑(Prod.fst x) : Int) ∧ (↑(Prod.fst x) : Int) < (↑(List.length (Prod.fst d)) : Int)) ∧ ∃ (x' : Nat × Int), (Prod.fst x' ≤ List.length (Prod.fst d) ∧ waitGo (List.drop (Prod.fst x') (Prod.fst
  d)) (Prod.snd x') = waitGo (Prod.fst d) (0 : Int)) ∧ List.length (Prod.fst d) - Prod.fst x' < List.length (Prod.fst d) - Prod.fst x ∧ ((Prod.fst d = Prod.fst d ∧ Prod.fst (Prod.snd d) = Prod.fst (Prod.snd d) ∧ Prod.snd
  (Prod.snd d) = Prod.snd (Prod.snd d)) ∧ (0 : Int) = (0 : Int) ∧ IntKind.wrap IntKind.i64 (Prod.snd x + (↑(List.length (Prod.snd (Prod.snd (Prod.snd (List.getD (Prod.fst d) (Int.toNat (↑(Prod.fst x) : Int)) ((0 : Int),
  (0 : Int), (0 : Int), [])))))) : Int)) = Prod.snd x' ∧ Prod.fst d = Prod.fst d ∧ (↑(List.length (Prod.fst d)) : Int) = (↑(List.length (Prod.fst d)) : Int) ∧ IntKind.wrap IntKind.i64 ((↑(Prod.fst x) : Int) + (1 : Int))
  = (↑(Prod.fst x') : Int)) ∧ Prod.fst d = Prod.fst d ∧ Prod.fst (Prod.snd d) = Prod.fst (Prod.snd d) ∧ Prod.snd (Prod.snd d) = Prod.snd (Prod.snd d)) ∧ (decide ((↑(Prod.fst x) : Int) < (↑(List.length (Prod.fst d)) :
  Int)) = false → Prod.snd x = waitGo (Prod.fst d) (0 : Int)) := by
  intro (d : List Fl × Int × Bool) hw _
  obtain ⟨xs, turn, fresh⟩ := d
  have hl : xs.length ≤ 9223372036854775807 := hw.1.1
  simp only [Int.toNat_natCast]
  refine ⟨⟨by omega, by simp⟩, by simp, fun x ⟨h1, h2⟩ => ⟨fun h3 => ?_, fun h3 => ?_⟩⟩
  · have h4 : x.1 < xs.length := by simpa using h3
    rw [getD_drop_cons (x := ((0 : Int), (0 : Int), (0 : Int), [])) h4, waitGo] at h2
    rw [wrap_succ (by omega)]
    exact ⟨⟨by omega, by omega⟩, (x.1 + 1, w64 (x.2 + (xs.getD x.1 (0, 0, 0, [])).2.2.2.length)), ⟨by simp only; omega, h2⟩, by simp only; omega, by simp [w64]⟩
  · have h4 : x.1 = xs.length := by simp at h3; omega
    rw [h4, List.drop_length, waitGo] at h2
    exact h2
theorem ring_room {xs : List Fl} {turn : Int} {fresh : Bool} (hw : Ty.wf ringT (xs, turn, fresh)) : szRgF xs 1048576 < 0 ∨ FlsP xs := by
  rcases Int.lt_or_le (szRgF xs 1048576) 0 with h | h
  · exact .inl h
  · right
    have hl : xs.length ≤ 9223372036854775807 := hw.1.1
    have hw2 : ∀ f ∈ xs, f.2.2.2.length ≤ 9223372036854775807 := fun f hf => (hw.1.2 f hf).2.2.2.1
    unfold szRgF szFlF w64 at h
    rw [wrap_small (show -9223372036854775808 ≤ (1048576 : Int) - (xs.length : Int) ∧ (1048576 : Int) - (xs.length : Int) ≤ 9223372036854775807 by omega)] at h
    split at h
    · omega
    · split at h
      · omega
      · refine ⟨by omega, szFl_room xs _ h (by omega) (by omega) hw2⟩
end Go.SF
