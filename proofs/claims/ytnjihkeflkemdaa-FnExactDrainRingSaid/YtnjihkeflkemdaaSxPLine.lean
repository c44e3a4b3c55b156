/- What is owed of the code of the lines' functions. No condition. -/
import Derived.Test.YtnjihkeflkemdaaSxC
import Derived.Test.YtnjihkeflkemdaaSxPBase
namespace Go.SF
open Go.SX Go
set_option linter.unusedVariables false
set_option linter.unusedSimpArgs false
set_option maxRecDepth 10000
theorem pe {α β : Type} (p : α × β) : (p.1, p.2) = p := rfl
theorem line_succ {d : List Tk} {x : Nat} (h : LineP d x) (h1 : isTicketF (d.getD x (0, 0)) = true) (h2 : 0 < x → (d.getD (x - 1) (0, 0)).1 < (d.getD x (0, 0)).1) : LineP d (x + 1) := by
  intro j hj
  by_cases e : j = x
  · subst e; exact ⟨h1, h2⟩
  · exact h j (by omega)
theorem line_no {d : List Tk} {x : Nat} (hx : x < d.length) (h : ¬ (isTicketF (d.getD x (0, 0)) = true ∧ (0 < x → (d.getD (x - 1) (0, 0)).1 < (d.getD x (0, 0)).1))) : lineOkF d = false := by
  unfold lineOkF
  rw [Bool.and_eq_false_iff]
  right
  exact decide_eq_false (fun hp => h (hp x hx))
theorem wrap_pred {n : Nat} (h0 : 0 < n) (h : n ≤ 9223372036854775807) : IntKind.i64.wrap ((n : Int) - 1) = ((n - 1 : Nat) : Int) := by
  rw [wrap_small (by omega)]; omega
theorem v_L_szTicketS :
  ∀ (d : Ty.den (Ty.sl tkT) × Tup [i64T]), Ty.wf (Ty.sl tkT) (Prod.fst d) ∧ Ty.wf i64T (Prod.snd d) → True → (decide (IntKind.wrap IntKind.i64 (Prod.snd d - (↑(List.length (Prod.fst d)) : Int)) < (0 : Int)) = true → (-1
  : Int) = szF (List.length (Prod.fst d)) (Prod.snd d)) ∧ (decide (IntKind.wrap IntKind.i64 (Prod.snd d - (↑(List.length (Prod.fst d)) : Int)) < (0 : Int)) = false → IntKind.wrap IntKind.i64 (Prod.snd d - (↑(List.length
  (Prod.fst d)) : Int)) = szF (List.length (Prod.fst d)) (Prod.snd d)) := by
  intro d hw _
  obtain ⟨xs, l⟩ := d
  simp only [szF, w64]
  grind
theorem v_L_szLine :
  ∀ (d : Ty.den lineT × Tup [i64T]), Ty.wf lineT (Prod.fst d) ∧ Ty.wf i64T (Prod.snd d) → True → True ∧ (Ty.wf i64T (szF (List.length (Prod.fst d)) (Prod.snd d)) → (decide (szF (List.length (Prod.fst d)) (Prod.snd d) <
  (0 : Int)) = true → (-1 : Int) = szF (List.length (Prod.fst d)) (Prod.snd d)) ∧ (decide (szF (List.length (Prod.fst d)) (Prod.snd d) < (0 : Int)) = false → szF (List.length (Prod.fst d)) (Prod.snd d) = szF (List.length
  (Prod.fst d)) (Prod.snd d))) := by
  intro d hw _
  simp only [szF]
  grind
theorem v_L_toTicket :
  ∀ (d : Int × Int), Ty.wf tkT d → True → (Prod.fst d, Prod.snd d) = d := by
  intro d _ _; rfl
theorem v_L_toTicketS :
  ∀ (d : List (Ty.den tkT)), Ty.wf (Ty.sl tkT) d → List.length d ≤ (1048576 : Nat) → ((0 : Int) ≤ (↑(List.length d) : Int) ∧ (↑(List.length d) : Int) ≤ (↑(List.length d) : Int) ∧ (↑(List.length d) : Int) * (↑(16 : Nat) :
  Int) ≤ (140737488355328 : Int)) ∧ (0 : Nat) ≤ List.length d ∧ ((d = d ∧ Value.slice none (0 : Nat) (0 : Nat) = Value.slice none (0 : Nat) (0 : Nat) ∧ (0 : Int) = (↑(0 : Nat) : Int)) ∧ List.replicate (Int.toNat
  (↑(List.length d) : Int)) ((0 : Int), (0 : Int)) = List.take (0 : Nat) d ++ List.replicate (List.length d - (0 : Nat)) ((0 : Int), (0 : Int))) ∧ ∀ (x : Nat), x ≤ List.length d → (decide ((↑x : Int) < (↑(List.length d)
  : Int)) = true → ((0 : Int) ≤ (↑x : Int) ∧ (↑x : Int) < (↑(List.length d) : Int)) ∧ True ∧ (Ty.wf tkT (Prod.fst (List.getD d (Int.toNat (↑x : Int)) ((0 : Int), (0 : Int))), Prod.snd (List.getD d (Int.toNat (↑x : Int))
  ((0 : Int), (0 : Int)))) → ((0 : Int) ≤ (↑x : Int) ∧ (↑x : Int) < (↑(List.length (List.take x d ++ List.replicate (List.length d - x) ((0 : Int), (0 : Int)))) : Int)) ∧ ∃ (x' : Nat), x' ≤ List.length d ∧ List.length d
  - x' < List.length d - x ∧ (d = d ∧ Value.slice none (0 : Nat) (0 : Nat) = Value.slice none (0 : Nat) (0 : Nat) ∧ IntKind.wrap IntKind.i64 ((↑x : Int) + (1 : Int)) = (↑x' : Int)) ∧ List.set (List.take x d ++
  List.replicate (List.length d - x) ((0 : Int), (0 : Int))) (Int.toNat (↑x : Int)) (Prod.fst (List.getD d (Int.toNat (↑x : Int)) ((0 : Int), (0 : Int))), Prod.snd (List.getD d (Int.toNat (↑x : Int)) ((0 : Int), (0 :
  Int)))) = List.take x' d ++ List.replicate (List.length d - x') ((0 : Int), (0 : Int)))) ∧ (decide ((↑x : Int) < (↑(List.length d) : Int)) = false → List.take x d ++ List.replicate (List.length d - x) ((0 : Int), (0 :
  Int)) = d) := by
  intro d hw hp
  have hl : d.length ≤ 9223372036854775807 := hw.1
  simp only [Int.toNat_natCast, pe] at *
  refine ⟨⟨by omega, by omega, by omega⟩, by omega, by simp, fun x h1 => ⟨fun h3 => ?_, fun h3 => ?_⟩⟩
  · have h4 : x < d.length := by simpa using h3
    rw [wrap_succ (by omega)]
    refine ⟨⟨by omega, by omega⟩, trivial, fun _ => ⟨⟨by omega, ?_⟩, x + 1, by omega, by omega, ?_, ?_⟩⟩
    · simp; omega
    · simp
    · exact copy_step d _ h4
  · have h4 : x = d.length := by simp at h3; omega
    subst h4
    simp
theorem v_L_toLine :
  ∀ (d : List (Ty.den tkT)), Ty.wf lineT d → List.length d ≤ (1048576 : Nat) → List.length d ≤ (1048576 : Nat) ∧ (Ty.wf (Ty.sl tkT) d → d = d) := by
  intro d hw hp
  exact ⟨hp, fun _ => rfl⟩
theorem v_L_eqTicket :
  ∀ (d : Ty.den tkT × Tup [tkT]), Ty.wf tkT (Prod.fst d) ∧ Ty.wf tkT (Prod.snd d) → True → ((!decide (Prod.fst (Prod.fst d) = Prod.fst (Prod.snd d))) = true → false = decide (Prod.fst d = Prod.snd d)) ∧ ((!decide
  (Prod.fst (Prod.fst d) = Prod.fst (Prod.snd d))) = false → ((!decide (Prod.snd (Prod.fst d) = Prod.snd (Prod.snd d))) = true → false = decide (Prod.fst d = Prod.snd d)) ∧ ((!decide (Prod.snd (Prod.fst d) = Prod.snd
  (Prod.snd d))) = false → true = decide (Prod.fst d = Prod.snd d))) := by
  intro d _ _
  obtain ⟨⟨a, b⟩, ⟨a', b'⟩⟩ := d
  grind
theorem v_L_eqTicketS :
  ∀ (d : Ty.den (Ty.sl tkT) × Tup [Ty.sl tkT]), Ty.wf (Ty.sl tkT) (Prod.fst d) ∧ Ty.wf (Ty.sl tkT) (Prod.snd d) → True → ((!decide ((↑(List.length (Prod.fst d)) : Int) = (↑(List.length (Prod.snd d)) : Int))) = true →
  false = decide (Prod.fst d = Prod.snd d)) ∧ ((!decide ((↑(List.length (Prod.fst d)) : Int) = (↑(List.length (Prod.snd d)) : Int))) = false → ((0 : Nat) ≤ List.length (Prod.fst d) ∧ List.length (Prod.fst d) =
  List.length (Prod.snd d) ∧ List.take (0 : Nat) (Prod.fst d) = List.take (0 : Nat) (Prod.snd d)) ∧ (Prod.fst d = Prod.fst d ∧ Prod.snd d = Prod.snd d ∧ (0 : Int) = (↑(0 : Nat) : Int)) ∧ ∀ (x : Nat), x ≤ List.length
  (Prod.fst d) ∧ List.length (Prod.fst d) = List.length (Prod.snd d) ∧ List.take x (Prod.fst d) = List.take x (Prod.snd d) → (decide ((↑x : Int) < (↑(List.length (Prod.fst d)) : Int)) = true → ((0 : Int) ≤ (↑x : Int) ∧
  (↑x : Int) < (↑(List.length (Prod.fst d)) : Int)) ∧ ((0 : Int) ≤ (↑x : Int) ∧ (↑x : Int) < (↑(List.length (Prod.snd d)) : Int)) ∧ True ∧ ((!decide ((Prod.fst (List.getD (Prod.fst d) (Int.toNat (↑x : Int)) ((0 : Int),
  (0 : Int))), Prod.snd (List.getD (Prod.fst d) (Int.toNat (↑x : Int)) ((0 : Int), (0 : Int)))) = (Prod.fst (List.getD (Prod.snd d) (Int.toNat (↑x : Int)) ((0 : Int), (0 : Int))), Prod.snd (List.getD (Prod.snd d)
  (Int.toNat (↑x : Int)) ((0 : Int), (0 : Int)))))) = true → false = decide (Prod.fst d = Prod.snd d)) ∧ ((!decide ((Prod.fst (List.getD (Prod.fst d) (Int.toNat (↑x : Int)) ((0 : Int), (0 : Int))), Prod.snd (List.getD
  (Prod.fst d) (Int.toNat (↑x : Int)) ((0 : Int), (0 : Int)))) = (Prod.fst (List.getD (Prod.snd d) (Int.toNat (↑x : Int)) ((0 : Int), (0 : Int))), Prod.snd (List.getD (Prod.snd d) (Int.toNat (↑x : Int)) ((0 : Int), (0 :
  Int)))))) = false → ∃ (x' : Nat), (x' ≤ List.length (Prod.fst d) ∧ List.length (Prod.fst d) = List.length (Prod.snd d) ∧ List.take x' (Prod.fst d) = List.take x' (Prod.snd d)) ∧ List.length (Prod.fst d) - x' <
  List.length (Prod.fst d) - x ∧ Prod.fst d = Prod.fst d ∧ Prod.snd d = Prod.snd d ∧ IntKind.wrap IntKind.i64 ((↑x : Int) + (1 : Int)) = (↑x' : Int))) ∧ (decide ((↑x : Int) < (↑(List.length (Prod.fst d)) : Int)) = false
  → true = decide (Prod.fst d = Prod.snd d))) := by
  intro d hw hp
  obtain ⟨xs, ys⟩ := d
  obtain ⟨⟨hl, _⟩, hl2, _⟩ := hw
  unfold lenMax at hl hl2
  simp only [Int.toNat_natCast, pe] at *
  refine ⟨fun h => ?_, fun h => ⟨⟨by omega, by simp at h; omega, by simp⟩, by simp, fun x ⟨h1, h2, h0⟩ => ⟨fun h3 => ?_, fun h3 => ?_⟩⟩⟩
  · grind
  · have h4 : x < xs.length := by simpa using h3
    obtain ⟨t1, t2⟩ := take_ext (z := ((0 : Int), (0 : Int))) h2 h4 h0
    rw [wrap_succ (by omega)]
    refine ⟨⟨by omega, by omega⟩, ⟨by omega, by omega⟩, trivial, fun h5 => ?_, fun h5 => ⟨x + 1, ⟨by omega, h2, ?_⟩, by omega, by simp⟩⟩
    · have h6 : xs.getD x (0, 0) ≠ ys.getD x (0, 0) := by intro e; simp only [e] at h5; simp at h5
      have : xs ≠ ys := fun e => h6 (t2 e)
      simp [this]
    · exact t1.2 (by simpa using h5)
  · have h4 : x = xs.length := by simp at h3; omega
    subst h4
    have : xs = ys := by rw [List.take_length, h2, List.take_length] at h0; exact h0
    simp [this]
theorem v_L_eqLine :
  ∀ (d : Ty.den lineT × Tup [lineT]), Ty.wf lineT (Prod.fst d) ∧ Ty.wf lineT (Prod.snd d) → True → True ∧ ((!decide (Prod.fst d = Prod.snd d)) = true → false = decide (Prod.fst d = Prod.snd d)) ∧ ((!decide (Prod.fst d =
  Prod.snd d)) = false → true = decide (Prod.fst d = Prod.snd d)) := by
  intro d _ _
  grind
theorem v_S_l13Ticket :
  ∀ (d : Int × Int), Ty.wf tkT d → True → True ∧ ((decide ((1 : Int) ≤ Prod.fst d) && decide (Prod.fst d ≤ (1000000000 : Int))) = true → True ∧ (decide ((1 : Int) ≤ Prod.snd d) && decide (Prod.snd d ≤ (200000 : Int))) =
  isTicketF d) ∧ ((decide ((1 : Int) ≤ Prod.fst d) && decide (Prod.fst d ≤ (1000000000 : Int))) = false → false = isTicketF d) := by
  intro d _ _
  obtain ⟨a, b⟩ := d
  simp only [isTicketF]
  grind
theorem v_I_isTicket :
  ∀ (d : Int × Int), Ty.wf tkT d → True → (decide ((1 : Int) ≤ Prod.fst d) = true → (decide (Prod.fst d ≤ (1000000000 : Int)) = true → (decide ((1 : Int) ≤ Prod.snd d) = true → decide (Prod.snd d ≤ (200000 : Int)) =
  isTicketF d) ∧ (decide ((1 : Int) ≤ Prod.snd d) = false → false = isTicketF d)) ∧ (decide (Prod.fst d ≤ (1000000000 : Int)) = false → false = isTicketF d)) ∧ (decide ((1 : Int) ≤ Prod.fst d) = false → false = isTicketF
  d) := by
  intro d _ _
  obtain ⟨a, b⟩ := d
  simp only [isTicketF]
  grind
theorem v_S_LineOk :
  ∀ (d : List (Ty.den tkT)), Ty.wf lineT d → True → (decide ((40 : Int) < (↑(List.length d) : Int)) = true → false = lineOkF d) ∧ (decide ((40 : Int) < (↑(List.length d) : Int)) = false → ((0 : Nat) ≤ List.length d ∧
  LineP d (0 : Nat)) ∧ ((d = d ∧ (0 : Int) = (↑(0 : Nat) : Int)) ∧ d = d) ∧ ∀ (x : Nat), x ≤ List.length d ∧ LineP d x → (decide ((↑x : Int) < (↑(List.length d) : Int)) = true → ((0 : Int) ≤ (↑x : Int) ∧ (↑x : Int) <
  (↑(List.length d) : Int)) ∧ True ∧ ((!isTicketF (Prod.fst (List.getD d (Int.toNat (↑x : Int)) ((0 : Int), (0 : Int))), Prod.snd (List.getD d (Int.toNat (↑x : Int)) ((0 : Int), (0 : Int))))) = true → false = lineOkF d)
  ∧ ((!isTicketF (Prod.fst (List.getD d (Int.toNat (↑x : Int)) ((0 : Int), (0 : Int))), Prod.snd (List.getD d (Int.toNat (↑x : Int)) ((0 : Int), (0 : Int))))) = false → (decide ((0 : Int) < (↑x : Int)) = true → ((0 :
  Int) ≤ IntKind.wrap IntKind.i64 ((↑x : Int) - (1 : Int)) ∧ IntKind.wrap IntKind.i64 ((↑x : Int) - (1 : Int)) < (↑(List.length d) : Int)) ∧ ((0 : Int) ≤ (↑x : Int) ∧ (↑x : Int) < (↑(List.length d) : Int)) ∧ (decide
  (Prod.fst (List.getD d (Int.toNat (↑x : Int)) ((0 : Int), (0 : Int))) ≤ Prod.fst (List.getD d (Int.toNat (IntKind.wrap IntKind.i64 ((↑x : Int) - (1 : Int)))) ((0 : Int), (0 : Int)))) = true → false = lineOkF d) ∧
  (decide (Prod.fst (List.getD d (Int.toNat (↑x : Int)) ((0 : Int), (0 : Int))) ≤ Prod.fst (List.getD d (Int.toNat (IntKind.wrap IntKind.i64 ((↑x : Int) - (1 : Int)))) ((0 : Int), (0 : Int)))) = false → ∃ (x' : Nat), (x'
  ≤ List.length d ∧ LineP d x') ∧ List.length d - x' < List.length d - x ∧ (d = d ∧ IntKind.wrap IntKind.i64 ((↑x : Int) + (1 : Int)) = (↑x' : Int)) ∧ d = d)) ∧ (decide ((0 : Int) < (↑x : Int)) = false → ∃ (x' : Nat),
  (x' ≤ List.length d ∧ LineP d x') ∧ List.length d - x' < List.length d - x ∧ (d = d ∧ IntKind.wrap IntKind.i64 ((↑x : Int) + (1 : Int)) = (↑x' : Int)) ∧ d = d))) ∧ (decide ((↑x : Int) < (↑(List.length d) : Int)) =
  false → true = lineOkF d)) := by
  intro d hw _
  have hl : d.length ≤ 9223372036854775807 := hw.1
  simp only [Int.toNat_natCast, pe]
  refine ⟨fun h => ?_, fun h => ⟨⟨by omega, fun j hj => by omega⟩, by simp, fun x ⟨h1, h2⟩ => ⟨fun h3 => ?_, fun h3 => ?_⟩⟩⟩
  · unfold lineOkF
    have : ¬ d.length ≤ 40 := by simp at h; omega
    simp [this]
  · have h4 : x < d.length := by simpa using h3
    refine ⟨⟨by omega, by omega⟩, trivial, fun h5 => ?_, fun h5 => ⟨fun h6 => ?_, fun h6 => ?_⟩⟩
    · rw [line_no h4 (fun hh => by rw [hh.1] at h5; cases h5)]
    · have h7 : 0 < x := by simp at h6; omega
      rw [wrap_pred h7 (by omega), wrap_succ (by omega)]
      simp only [Int.toNat_natCast]
      refine ⟨⟨by omega, by omega⟩, ⟨by omega, by omega⟩, fun h8 => ?_, fun h8 => ⟨x + 1, ⟨by omega, line_succ h2 (by simpa using h5) (fun _ => by simp at h8; simpa using h8)⟩, by omega, by simp⟩⟩
      rw [line_no h4 (fun hh => absurd (hh.2 h7) (Int.not_lt.2 (of_decide_eq_true h8)))]
    · rw [wrap_succ (by omega)]
      exact ⟨x + 1, ⟨by omega, line_succ h2 (by simpa using h5) (fun _ => by simp at h6; omega)⟩, by omega, by simp⟩
  · have h4 : x = d.length := by simp at h3; omega
    subst h4
    unfold lineOkF
    have : d.length ≤ 40 := by simp at h; omega
    simp [h2, this]
theorem v_I_isLine :
  ∀ (d : List (Ty.den tkT)), Ty.wf lineT d → True → ((0 : Nat) ≤ List.length d ∧ LineP d (0 : Nat)) ∧ ((d = d ∧ d = d ∧ (↑(List.length d) : Int) = (↑(List.length d) : Int) ∧ (0 : Int) = (↑(0 : Nat) : Int)) ∧ d = d) ∧ ∀
  (x : Nat), x ≤ List.length d ∧ LineP d x → (decide ((↑x : Int) < (↑(List.length d) : Int)) = true → ((0 : Int) ≤ (↑x : Int) ∧ (↑x : Int) < (↑(List.length d) : Int)) ∧ True ∧ ((!isTicketF (Prod.fst (List.getD d
  (Int.toNat (↑x : Int)) ((0 : Int), (0 : Int))), Prod.snd (List.getD d (Int.toNat (↑x : Int)) ((0 : Int), (0 : Int))))) = true → false = lineOkF d) ∧ ((!isTicketF (Prod.fst (List.getD d (Int.toNat (↑x : Int)) ((0 :
  Int), (0 : Int))), Prod.snd (List.getD d (Int.toNat (↑x : Int)) ((0 : Int), (0 : Int))))) = false → (decide ((0 : Int) < (↑x : Int)) = true → ((0 : Int) ≤ IntKind.wrap IntKind.i64 ((↑x : Int) - (1 : Int)) ∧
  IntKind.wrap IntKind.i64 ((↑x : Int) - (1 : Int)) < (↑(List.length d) : Int)) ∧ (decide (Prod.fst (List.getD d (Int.toNat (↑x : Int)) ((0 : Int), (0 : Int))) ≤ Prod.fst (List.getD d (Int.toNat (IntKind.wrap IntKind.i64
  ((↑x : Int) - (1 : Int)))) ((0 : Int), (0 : Int)))) = true → false = lineOkF d) ∧ (decide (Prod.fst (List.getD d (Int.toNat (↑x : Int)) ((0 : Int), (0 : Int))) ≤ Prod.fst (List.getD d (Int.toNat (IntKind.wrap
  IntKind.i64 ((↑x : Int) - (1 : Int)))) ((0 : Int), (0 : Int)))) = false → ∃ (x' : Nat), (x' ≤ List.length d ∧ LineP d x') ∧ List.length d - x' < List.length d - x ∧ (d = d ∧ d = d ∧ (↑(List.length d) : Int) =
  (↑(List.length d) : Int) ∧ IntKind.wrap IntKind.i64 ((↑x : Int) + (1 : Int)) = (↑x' : Int)) ∧ d = d)) ∧ (decide ((0 : Int) < (↑x : Int)) = false → ∃ (x' : Nat), (x' ≤ List.length d ∧ LineP d x') ∧ List.length d - x' <
  List.length d - x ∧ (d = d ∧ d = d ∧ (↑(List.length d) : Int) = (↑(List.length d) : Int) ∧ IntKind.wrap IntKind.i64 ((↑x : Int) + (1 : Int)) = (↑x' : Int)) ∧ d = d))) ∧ (decide ((↑x : Int) < (↑(List.length d) : Int)) =
  false → decide ((↑(List.length d) : Int) ≤ (40 : Int)) = lineOkF d) := by
  intro d hw _
  have hl : d.length ≤ 9223372036854775807 := hw.1
  simp only [Int.toNat_natCast, pe]
  refine ⟨⟨by omega, fun j hj => by omega⟩, by simp, fun x ⟨h1, h2⟩ => ⟨fun h3 => ?_, fun h3 => ?_⟩⟩
  · have h4 : x < d.length := by simpa using h3
    refine ⟨⟨by omega, by omega⟩, trivial, fun h5 => ?_, fun h5 => ⟨fun h6 => ?_, fun h6 => ?_⟩⟩
    · rw [line_no h4 (fun hh => by rw [hh.1] at h5; cases h5)]
    · have h7 : 0 < x := by simp at h6; omega
      rw [wrap_pred h7 (by omega), wrap_succ (by omega)]
      simp only [Int.toNat_natCast]
      refine ⟨⟨by omega, by omega⟩, fun h8 => ?_, fun h8 => ⟨x + 1, ⟨by omega, line_succ h2 (by simpa using h5) (fun _ => by simp at h8; simpa using h8)⟩, by omega, by simp⟩⟩
      rw [line_no h4 (fun hh => absurd (hh.2 h7) (Int.not_lt.2 (of_decide_eq_true h8)))]
    · rw [wrap_succ (by omega)]
      exact ⟨x + 1, ⟨by omega, line_succ h2 (by simpa using h5) (fun _ => by simp at h6; omega)⟩, by omega, by simp⟩
  · have h4 : x = d.length := by simp at h3; omega
    subst h4
    unfold lineOkF
    simp only [h2, decide_true, Bool.and_true]
    exact decide_eq_decide.2 (by omega)
theorem idx_range (id : Int) : ∀ (xs : List Tk) (k : Nat), idxGo id xs k = -1 ∨ ((k : Int) ≤ idxGo id xs k ∧ idxGo id xs k < (k : Int) + (xs.length : Int))
  | [], k => .inl rfl
  | x :: xs, k => by
    unfold idxGo
    split
    · right; simp only [List.length_cons]; omega
    · rcases idx_range id xs (k + 1) with h | h
      · exact .inl h
      · right; simp only [List.length_cons]; omega
theorem line_take {xs : List Tk} (h : lineOkF xs = true) (n : Nat) : lineOkF (xs.take n) = true := by
  unfold lineOkF at *
  rw [Bool.and_eq_true, decide_eq_true_eq, decide_eq_true_eq] at *
  obtain ⟨h1, h2⟩ := h
  refine ⟨by rw [List.length_take]; omega, fun j hj => ?_⟩
  rw [List.length_take] at hj
  have g : ∀ i, i < n → (xs.take n).getD i (0, 0) = xs.getD i (0, 0) := by
    intro i hi
    simp only [List.getD_eq_getElem?_getD, List.getElem?_take, if_pos hi]
  rw [g j (by omega), g (j - 1) (by omega)]
  exact h2 j (by omega)
theorem sz_room {n : Nat} (hl : n ≤ 9223372036854775807) : szF n 1048576 < 0 ∨ n ≤ 1048576 := by
  unfold szF w64
  rw [wrap_small (by omega)]
  split <;> omega
end Go.SF
