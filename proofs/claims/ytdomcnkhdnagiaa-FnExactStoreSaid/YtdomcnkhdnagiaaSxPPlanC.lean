/- What is owed of the code of turners. No condition. -/
import Derived.Test.YtdomcnkhdnagiaaSxC
import Derived.Test.YtdomcnkhdnagiaaSxPPlanB
namespace Go.SF
open Go.SX Go
set_option linter.unusedVariables false
set_option linter.unusedSimpArgs false
set_option maxRecDepth 10000
theorem plan_log {p : Pl} (h : planOkF p = true) : (0 ≤ p.2.1 ∧ p.2.1 ≤ 9) ∧ p.2.2.length ≤ 600 ∧ StepsP p.2.1 p.2.2 p.2.2.length := by
  unfold planOkF at h
  simp only [Bool.and_eq_true, decide_eq_true_eq] at h
  have := log_iff.1 h.1.1.1
  exact ⟨⟨this.2.1, this.2.2.1⟩, h.1.1.2, h.1.2⟩
theorem turn_plan {t : Tn} (h : turnOkF t = true) : planOkF t.1 = true ∧ vectorOkF t.1.1 t.2.1 = true ∧ (t.2.1.length : Int) = 2 ^ t.1.2.1.toNat ∧ 0 ≤ t.2.2 ∧ t.2.2 ≤ (t.1.2.2.length : Int) := by
  unfold turnOkF at h
  simp only [Bool.and_eq_true, decide_eq_true_eq] at h
  exact ⟨h.1.1.1, h.1.1.2, h.1.2, h.2.1, h.2.2⟩
theorem vec_ok (f : Int) (xs : List Int) : (vecF f xs).2 = vectorOkF f xs := by
  unfold vecF
  split
  case isTrue h => exact h.symm
  case isFalse h => exact (Bool.not_eq_true _ ▸ h : vectorOkF f xs = false).symm
theorem left_step {xs : List Sp} {i : Nat} {k : Int} (hi : i < xs.length) (n : Int) : leftGo (xs.drop i) n = leftGo (xs.drop (i + 1)) (w64 (n + w64 ((xs.getD i (0, 0, 0)).2.2 - (xs.getD i (0, 0, 0)).2.1))) := by
  rw [getD_drop_cons (x := ((0 : Int), (0 : Int), (0 : Int))) hi]; rfl
theorem left_no {t : Tn} (h : turnOkF t = false) : -1 = leftF t := by unfold leftF; rw [if_neg (by rw [h]; simp)]
theorem left_end {t : Tn} {n : Int} (h : turnOkF t = true) (e : leftGo [] n = leftGo (t.1.2.2.drop t.2.2.toNat) 0) : n = leftF t := by unfold leftF; rw [if_pos h, ← e]; rfl
theorem fin_no {t : Tn} (h : ¬ (turnOkF t = true ∧ (t.1.2.2.length : Int) ≤ t.2.2)) : ([], false) = finF t := by unfold finF; rw [if_neg h]
theorem fin_yes {t : Tn} (h : turnOkF t = true) (h1 : (t.1.2.2.length : Int) ≤ t.2.2) : (t.2.1, true) = finF t := by unfold finF; rw [if_pos ⟨h, h1⟩]
theorem v_S_l01Copy :
  ∀ (d : List Int), Ty.wf listT d → List.length d ≤ (1048576 : Nat) → (0 : Nat) ≤ List.length d ∧ ((d = d ∧ Value.slice none (0 : Nat) (0 : Nat) = Value.slice none (0 : Nat) (0 : Nat) ∧ (0 : Int) = (↑(0 : Nat) : Int)) ∧
  [] = List.take (0 : Nat) d) ∧ ∀ (x : Nat), x ≤ List.length d → (decide ((↑x : Int) < (↑(List.length d) : Int)) = true → ((0 : Int) ≤ (↑x : Int) ∧ (↑x : Int) < (↑(List.length d) : Int)) ∧ (List.length (List.take x d) +
  List.length [List.getD d (Int.toNat (↑x : Int)) (0 : Int)]) * (8 : Nat) ≤ (140737488355328 : Nat) ∧ ∃ (x' : Nat), x' ≤ List.length d ∧ List.length d - x' < List.length d - x ∧ (d = d ∧ Value.slice none (0 : Nat) (0 :
  Nat) = Value.slice none (0 : Nat) (0 : Nat) ∧ IntKind.wrap IntKind.i64 ((↑x : Int) + (1 : Int)) = (↑x' : Int)) ∧ List.take x d ++ [List.getD d (Int.toNat (↑x : Int)) (0 : Int)] = List.take x' d) ∧ (decide ((↑x : Int) <
  (↑(List.length d) : Int)) = false → List.take x d = d) := by
  intro (d : List Int) hw (hp : d.length ≤ 1048576)
  simp only [Int.toNat_natCast, exists_const, and_true, true_and, implies_true, decide_eq_true_eq, decide_eq_false_iff_not, Bool.not_eq_true', Bool.not_eq_false', beq_iff_eq, forall_const]
  refine ⟨Nat.zero_le _, ⟨rfl, rfl⟩, fun x hx => ⟨fun h => ⟨⟨by omega, by omega⟩, ?_, x + 1, by omega, by omega, wrap_succ (by omega), tk_succ (by omega)⟩, fun h => ?_⟩⟩
  · simp; omega
  · rw [List.take_of_length_le (by omega)]
theorem v_L_szIntS :
  ∀ (d : List Int × Int), Ty.wf listT (Prod.fst d) ∧ Ty.wf i64T (Prod.snd d) → True → (decide (IntKind.wrap IntKind.i64 (Prod.snd d - (↑(List.length (Prod.fst d)) : Int)) < (0 : Int)) = true → (-1 : Int) = szF
  (List.length (Prod.fst d)) (Prod.snd d)) ∧ (decide (IntKind.wrap IntKind.i64 (Prod.snd d - (↑(List.length (Prod.fst d)) : Int)) < (0 : Int)) = false → IntKind.wrap IntKind.i64 (Prod.snd d - (↑(List.length (Prod.fst d))
  : Int)) = szF (List.length (Prod.fst d)) (Prod.snd d)) := by
  intro d hw _
  obtain ⟨xs, l⟩ := d
  simp only [szF, w64]
  grind
theorem sz_neg {n : Nat} {l : Int} (h : szF n l < 0) : szF n l = -1 := by
  unfold szF at h ⊢
  by_cases e : w64 (l - n) < 0
  · rw [if_pos e]
  · rw [if_neg e] at h; exact absurd h e
theorem sz_room3 {n : Nat} {l : Int} (h : n ≤ 9223372036854775807) (h0 : 0 ≤ l) (h1 : l ≤ 1048576) : szF n l < 0 ∨ ((n : Int) ≤ l ∧ szF n l = l - n) := by
  unfold szF w64
  rw [wrap_small (by omega)]
  split <;> omega
theorem tn_room {t : Tn} (hl1 : t.1.2.2.length ≤ 9223372036854775807) (hl2 : t.2.1.length ≤ 9223372036854775807) (h : ¬ szTnF t 1048576 < 0) : t.1.2.2.length ≤ 1048576 ∧ t.2.1.length ≤ 1048576 := by
  unfold szTnF at h
  rcases sz_room3 (l := 1048576) hl1 (by omega) (by omega) with h1 | ⟨h1, e1⟩
  · rw [if_pos h1] at h; omega
  · rw [if_neg (by omega), e1] at h
    rcases sz_room3 (l := 1048576 - (t.1.2.2.length : Int)) hl2 (by omega) (by omega) with h2 | ⟨h2, e2⟩ <;> omega
theorem v_L_toIntS :
  ∀ (d : List Int), Ty.wf listT d → List.length d ≤ (1048576 : Nat) → ((0 : Int) ≤ (↑(List.length d) : Int) ∧ (↑(List.length d) : Int) ≤ (↑(List.length d) : Int) ∧ (↑(List.length d) : Int) * (↑(8 : Nat) : Int) ≤
  (140737488355328 : Int)) ∧ (0 : Nat) ≤ List.length d ∧ ((d = d ∧ Value.slice none (0 : Nat) (0 : Nat) = Value.slice none (0 : Nat) (0 : Nat) ∧ (0 : Int) = (↑(0 : Nat) : Int)) ∧ List.replicate (Int.toNat (↑(List.length
  d) : Int)) (0 : Int) = List.take (0 : Nat) d ++ List.replicate (List.length d - (0 : Nat)) (0 : Int)) ∧ ∀ (x : Nat), x ≤ List.length d → (decide ((↑x : Int) < (↑(List.length d) : Int)) = true → ((0 : Int) ≤ (↑x : Int)
  ∧ (↑x : Int) < (↑(List.length d) : Int)) ∧ ((0 : Int) ≤ (↑x : Int) ∧ (↑x : Int) < (↑(List.length (List.take x d ++ List.replicate (List.length d - x) (0 : Int))) : Int)) ∧ ∃ (x' : Nat), x' ≤ List.length d ∧ List.length
  d - x' < List.length d - x ∧ (d = d ∧ Value.slice none (0 : Nat) (0 : Nat) = Value.slice none (0 : Nat) (0 : Nat) ∧ IntKind.wrap IntKind.i64 ((↑x : Int) + (1 : Int)) = (↑x' : Int)) ∧ List.set (List.take x d ++
  List.replicate (List.length d - x) (0 : Int)) (Int.toNat (↑x : Int)) (List.getD d (Int.toNat (↑x : Int)) (0 : Int)) = List.take x' d ++ List.replicate (List.length d - x') (0 : Int)) ∧ (decide ((↑x : Int) <
  (↑(List.length d) : Int)) = false → List.take x d ++ List.replicate (List.length d - x) (0 : Int) = d) := by
  intro (d : List Int) hw (hp : d.length ≤ 1048576)
  simp only [Int.toNat_natCast, exists_const, and_true, true_and, implies_true, decide_eq_true_eq, decide_eq_false_iff_not, Bool.not_eq_true', Bool.not_eq_false', beq_iff_eq, forall_const]
  refine ⟨⟨by omega, by omega, by omega⟩, by omega, ⟨rfl, by simp⟩, fun x h1 => ⟨fun h3 => ⟨⟨by omega, by omega⟩, ⟨by omega, ?_⟩, x + 1, by omega, by omega, wrap_succ (by omega), copy_step d _ (by omega)⟩, fun h3 => ?_⟩⟩
  · simp; omega
  · have h4 : x = d.length := by omega
    subst h4
    simp
end Go.SF
