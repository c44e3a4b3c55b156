/- Series, from the code. No condition. -/
import Derived.Test.YtobmiihdfklmaaaGreatSxPJobB
namespace Go.SF
open Go.SX Go
set_option linter.unusedVariables false
set_option linter.unusedSimpArgs false
theorem ser_at {f : Int} {a : List Int} (h : serB f a = true) : 1 ≤ a.length ∧ a.length ≤ 64 ∧ modF f ≠ 0 ∧ elemsF (modF f) a = true := by
  unfold serB at h
  simp only [Bool.and_eq_true, decide_eq_true_eq] at h
  exact ⟨h.1.1, h.1.2, spec_el h.2⟩
theorem si_no {f : Int} {a : List Int} (h : ¬ (serB f a = true ∧ a.getD 0 0 ≠ 0)) : serInvF f a = ([], false) := by
  unfold serInvF
  rw [if_neg (by rw [Bool.and_eq_true, decide_eq_true_eq]; exact h)]
theorem si_yes {f : Int} {a : List Int} (h : serB f a = true) (h0 : a.getD 0 0 ≠ 0) : serInvF f a = (siL (modF f) a a.length, true) := by
  unfold serInvF
  rw [if_pos (by rw [Bool.and_eq_true, decide_eq_true_eq]; exact ⟨h, h0⟩)]
theorem siA_el {p : Int} (hp : IsMod p) (a out : List Int) (i : Nat) : ∀ j, El p (siA p a out i j)
  | 0 => el_zero hp
  | j + 1 => el_addM hp _ _
theorem siL_el {p : Int} (hp : IsMod p) (a : List Int) : ∀ k, elemsF p (siL p a k) = true
  | 0 => by unfold elemsF siL; simp
  | k + 1 => by
    have ih := siL_el hp a k
    have h := el_mulM hp (siP p a (siL p a k) k k) (invM p (a.getD 0 0))
    unfold elemsF at *
    unfold El at h
    rw [decide_eq_true_eq] at *
    rw [siL]
    intro x hx
    rcases List.mem_append.1 hx with hx | hx
    · exact ih x hx
    · rw [List.mem_singleton.1 hx]; omega
theorem si_one {p : Int} (hp : IsMod p) (a : List Int) : [invM p (a.getD 0 0)] = siL p a 1 := by
  have h := el_invM hp (a.getD 0 0)
  show [_] = [mulM p 1 _]
  unfold mulM
  unfold El at h
  rw [Int.one_mul, Int.emod_eq_of_lt h.1 h.2]
theorem si_term {p : Int} {a out : List Int} {i : Nat} (hi : i ≠ 0) (j : Nat) (c : Int) : mulM p (subM p 0 (siA p a out i j)) c = mulM p (siP p a out i j) c := by
  rw [← si_same hi]
  unfold mulM
  rw [Int.mul_emod, Int.emod_emod_of_dvd _ (Int.dvd_refl p), ← Int.mul_emod]
theorem v_S_SeriesInv :
 ∀ (d : Int × List Int), Ty.wf i64T d.1 ∧ Ty.wf listT d.2 → True → True ∧ ((!serB d.1 d.2) = true → ([], false) = serInvF d.1 d.2) ∧ ((!serB d.1 d.2) = false → ((0 : Int) ≤ (0 : Int) ∧ (0 : Int) < (↑d.2.length : Int)) ∧
 (decide (d.2.getD (Int.toNat (0 : Int)) (0 : Int) = (0 : Int)) = true → ([], false) = serInvF d.1 d.2) ∧ (decide (d.2.getD (Int.toNat (0 : Int)) (0 : Int) = (0 : Int)) = false → ((0 : Int) ≤ (0 : Int) ∧ (0 : Int) <
 (↑d.2.length : Int)) ∧ True ∧ (Ty.wf i64T (powS d.1 (d.2.getD (Int.toNat (0 : Int)) (0 : Int)) (-1 : Int)) → (0 : Nat) ≤ d.2.length ∧ ((d.1 = d.1 ∧ d.2 = d.2 ∧ Value.slice none (0 : Nat) (0 : Nat) = Value.slice none (0
 : Nat) (0 : Nat) ∧ powS d.1 (d.2.getD (Int.toNat (0 : Int)) (0 : Int)) (-1 : Int) = powS d.1 (d.2.getD (Int.toNat (0 : Int)) (0 : Int)) (-1 : Int) ∧ (0 : Int) = (↑(0 : Nat) : Int)) ∧ [] = siL (modF d.1) d.2 (0 : Nat)) ∧
 ∀ (x : Nat), x ≤ d.2.length → (decide ((↑x : Int) < (↑d.2.length : Int)) = true → (decide ((↑x : Int) = (0 : Int)) = true → (0 : Nat) ≤ x ∧ ((d.1 = d.1 ∧ d.2 = d.2 ∧ Value.slice none (0 : Nat) (0 : Nat) = Value.slice
 none (0 : Nat) (0 : Nat) ∧ powS d.1 (d.2.getD (Int.toNat (0 : Int)) (0 : Int)) (-1 : Int) = powS d.1 (d.2.getD (Int.toNat (0 : Int)) (0 : Int)) (-1 : Int) ∧ (↑x : Int) = (↑x : Int) ∧ (1 : Int) = siP (modF d.1) d.2 (siL
 (modF d.1) d.2 x) x (0 : Nat) ∧ (1 : Int) = (↑(0 : Nat) : Int) + (1 : Int)) ∧ siL (modF d.1) d.2 x = siL (modF d.1) d.2 x) ∧ ∀ (x_1 : Nat), x_1 ≤ x → (decide ((↑x_1 : Int) + (1 : Int) ≤ (↑x : Int)) = true → ((0 : Int) ≤
 (↑x_1 : Int) + (1 : Int) ∧ (↑x_1 : Int) + (1 : Int) < (↑d.2.length : Int)) ∧ ((0 : Int) ≤ IntKind.wrap IntKind.i64 ((↑x : Int) - ((↑x_1 : Int) + (1 : Int))) ∧ IntKind.wrap IntKind.i64 ((↑x : Int) - ((↑x_1 : Int) + (1 :
 Int))) < (↑(List.length (siL (modF d.1) d.2 x)) : Int)) ∧ True ∧ True ∧ (Ty.wf i64T (subS d.1 (siP (modF d.1) d.2 (siL (modF d.1) d.2 x) x x_1) (mulS d.1 (d.2.getD (Int.toNat ((↑x_1 : Int) + (1 : Int))) (0 : Int))
 (List.getD (siL (modF d.1) d.2 x) (Int.toNat (IntKind.wrap IntKind.i64 ((↑x : Int) - ((↑x_1 : Int) + (1 : Int))))) (0 : Int)))) → Ty.wf i64T (mulS d.1 (d.2.getD (Int.toNat ((↑x_1 : Int) + (1 : Int))) (0 : Int))
 (List.getD (siL (modF d.1) d.2 x) (Int.toNat (IntKind.wrap IntKind.i64 ((↑x : Int) - ((↑x_1 : Int) + (1 : Int))))) (0 : Int))) → ∃ (x' : Nat), x' ≤ x ∧ x - x' < x - x_1 ∧ (d.1 = d.1 ∧ d.2 = d.2 ∧ Value.slice none (0 :
 Nat) (0 : Nat) = Value.slice none (0 : Nat) (0 : Nat) ∧ powS d.1 (d.2.getD (Int.toNat (0 : Int)) (0 : Int)) (-1 : Int) = powS d.1 (d.2.getD (Int.toNat (0 : Int)) (0 : Int)) (-1 : Int) ∧ (↑x : Int) = (↑x : Int) ∧ subS
 d.1 (siP (modF d.1) d.2 (siL (modF d.1) d.2 x) x x_1) (mulS d.1 (d.2.getD (Int.toNat ((↑x_1 : Int) + (1 : Int))) (0 : Int)) (List.getD (siL (modF d.1) d.2 x) (Int.toNat (IntKind.wrap IntKind.i64 ((↑x : Int) - ((↑x_1 :
 Int) + (1 : Int))))) (0 : Int))) = siP (modF d.1) d.2 (siL (modF d.1) d.2 x) x x' ∧ IntKind.wrap IntKind.i64 ((↑x_1 : Int) + (1 : Int) + (1 : Int)) = (↑x' : Int) + (1 : Int)) ∧ siL (modF d.1) d.2 x = siL (modF d.1) d.2
 x)) ∧ (decide ((↑x_1 : Int) + (1 : Int) ≤ (↑x : Int)) = false → True ∧ (Ty.wf i64T (mulS d.1 (siP (modF d.1) d.2 (siL (modF d.1) d.2 x) x x_1) (powS d.1 (d.2.getD (Int.toNat (0 : Int)) (0 : Int)) (-1 : Int))) →
 (List.length (siL (modF d.1) d.2 x) + List.length [mulS d.1 (siP (modF d.1) d.2 (siL (modF d.1) d.2 x) x x_1) (powS d.1 (d.2.getD (Int.toNat (0 : Int)) (0 : Int)) (-1 : Int))]) * (8 : Nat) ≤ (140737488355328 : Nat) ∧ ∃
 (x' : Nat), x' ≤ d.2.length ∧ d.2.length - x' < d.2.length - x ∧ (d.1 = d.1 ∧ d.2 = d.2 ∧ Value.slice none (0 : Nat) (0 : Nat) = Value.slice none (0 : Nat) (0 : Nat) ∧ powS d.1 (d.2.getD (Int.toNat (0 : Int)) (0 : Int))
 (-1 : Int) = powS d.1 (d.2.getD (Int.toNat (0 : Int)) (0 : Int)) (-1 : Int) ∧ IntKind.wrap IntKind.i64 ((↑x : Int) + (1 : Int)) = (↑x' : Int)) ∧ siL (modF d.1) d.2 x ++ [mulS d.1 (siP (modF d.1) d.2 (siL (modF d.1) d.2
 x) x x_1) (powS d.1 (d.2.getD (Int.toNat (0 : Int)) (0 : Int)) (-1 : Int))] = siL (modF d.1) d.2 x'))) ∧ (decide ((↑x : Int) = (0 : Int)) = false → (0 : Nat) ≤ x ∧ ((d.1 = d.1 ∧ d.2 = d.2 ∧ Value.slice none (0 : Nat) (0
 : Nat) = Value.slice none (0 : Nat) (0 : Nat) ∧ powS d.1 (d.2.getD (Int.toNat (0 : Int)) (0 : Int)) (-1 : Int) = powS d.1 (d.2.getD (Int.toNat (0 : Int)) (0 : Int)) (-1 : Int) ∧ (↑x : Int) = (↑x : Int) ∧ (0 : Int) = siP
 (modF d.1) d.2 (siL (modF d.1) d.2 x) x (0 : Nat) ∧ (1 : Int) = (↑(0 : Nat) : Int) + (1 : Int)) ∧ siL (modF d.1) d.2 x = siL (modF d.1) d.2 x) ∧ ∀ (x_1 : Nat), x_1 ≤ x → (decide ((↑x_1 : Int) + (1 : Int) ≤ (↑x : Int)) =
 true → ((0 : Int) ≤ (↑x_1 : Int) + (1 : Int) ∧ (↑x_1 : Int) + (1 : Int) < (↑d.2.length : Int)) ∧ ((0 : Int) ≤ IntKind.wrap IntKind.i64 ((↑x : Int) - ((↑x_1 : Int) + (1 : Int))) ∧ IntKind.wrap IntKind.i64 ((↑x : Int) -
 ((↑x_1 : Int) + (1 : Int))) < (↑(List.length (siL (modF d.1) d.2 x)) : Int)) ∧ True ∧ True ∧ (Ty.wf i64T (subS d.1 (siP (modF d.1) d.2 (siL (modF d.1) d.2 x) x x_1) (mulS d.1 (d.2.getD (Int.toNat ((↑x_1 : Int) + (1 :
 Int))) (0 : Int)) (List.getD (siL (modF d.1) d.2 x) (Int.toNat (IntKind.wrap IntKind.i64 ((↑x : Int) - ((↑x_1 : Int) + (1 : Int))))) (0 : Int)))) → Ty.wf i64T (mulS d.1 (d.2.getD (Int.toNat ((↑x_1 : Int) + (1 : Int)))
 (0 : Int)) (List.getD (siL (modF d.1) d.2 x) (Int.toNat (IntKind.wrap IntKind.i64 ((↑x : Int) - ((↑x_1 : Int) + (1 : Int))))) (0 : Int))) → ∃ (x' : Nat), x' ≤ x ∧ x - x' < x - x_1 ∧ (d.1 = d.1 ∧ d.2 = d.2 ∧ Value.slice
 none (0 : Nat) (0 : Nat) = Value.slice none (0 : Nat) (0 : Nat) ∧ powS d.1 (d.2.getD (Int.toNat (0 : Int)) (0 : Int)) (-1 : Int) = powS d.1 (d.2.getD (Int.toNat (0 : Int)) (0 : Int)) (-1 : Int) ∧ (↑x : Int) = (↑x : Int)
 ∧ subS d.1 (siP (modF d.1) d.2 (siL (modF d.1) d.2 x) x x_1) (mulS d.1 (d.2.getD (Int.toNat ((↑x_1 : Int) + (1 : Int))) (0 : Int)) (List.getD (siL (modF d.1) d.2 x) (Int.toNat (IntKind.wrap IntKind.i64 ((↑x : Int) -
 ((↑x_1 : Int) + (1 : Int))))) (0 : Int))) = siP (modF d.1) d.2 (siL (modF d.1) d.2 x) x x' ∧ IntKind.wrap IntKind.i64 ((↑x_1 : Int) + (1 : Int) + (1 : Int)) = (↑x' : Int) + (1 : Int)) ∧ siL (modF d.1) d.2 x = siL (modF
 d.1) d.2 x)) ∧ (decide ((↑x_1 : Int) + (1 : Int) ≤ (↑x : Int)) = false → True ∧ (Ty.wf i64T (mulS d.1 (siP (modF d.1) d.2 (siL (modF d.1) d.2 x) x x_1) (powS d.1 (d.2.getD (Int.toNat (0 : Int)) (0 : Int)) (-1 : Int))) →
 (List.length (siL (modF d.1) d.2 x) + List.length [mulS d.1 (siP (modF d.1) d.2 (siL (modF d.1) d.2 x) x x_1) (powS d.1 (d.2.getD (Int.toNat (0 : Int)) (0 : Int)) (-1 : Int))]) * (8 : Nat) ≤ (140737488355328 : Nat) ∧ ∃
 (x' : Nat), x' ≤ d.2.length ∧ d.2.length - x' < d.2.length - x ∧ (d.1 = d.1 ∧ d.2 = d.2 ∧ Value.slice none (0 : Nat) (0 : Nat) = Value.slice none (0 : Nat) (0 : Nat) ∧ powS d.1 (d.2.getD (Int.toNat (0 : Int)) (0 : Int))
 (-1 : Int) = powS d.1 (d.2.getD (Int.toNat (0 : Int)) (0 : Int)) (-1 : Int) ∧ IntKind.wrap IntKind.i64 ((↑x : Int) + (1 : Int)) = (↑x' : Int)) ∧ siL (modF d.1) d.2 x ++ [mulS d.1 (siP (modF d.1) d.2 (siL (modF d.1) d.2
 x) x x_1) (powS d.1 (d.2.getD (Int.toNat (0 : Int)) (0 : Int)) (-1 : Int))] = siL (modF d.1) d.2 x')))) ∧ (decide ((↑x : Int) < (↑d.2.length : Int)) = false → (siL (modF d.1) d.2 x, true) = serInvF d.1 d.2)))) := by
  intro (d : Int × List Int) hw hp
  obtain ⟨f, a⟩ := d
  simp only [Int.toNat_natCast, exists_const, and_true, true_and, implies_true, decide_eq_true_eq, decide_eq_false_iff_not, Bool.not_eq_true', Bool.not_eq_false', beq_iff_eq, forall_const]
  refine ⟨fun h => (si_no (by simp [h])).symm, fun h => ?_⟩
  obtain ⟨h1, h2, hm, he⟩ := ser_at h
  have hq := (mod_is hm).1
  refine ⟨⟨by omega, by omega⟩, fun h0 => (si_no (fun hh => hh.2 h0)).symm, fun h0 => ⟨⟨by omega, by omega⟩, fun _ => ?_⟩⟩
  replace h0 : a.getD 0 0 ≠ 0 := h0
  have hz : powS f (a.getD (Int.toNat 0) 0) (-1) = invM (modF f) (a.getD 0 0) := pow_inv hm (by
    have hh := el_get hq he 0
    unfold El at hh
    rw [show (Int.toNat 0) = 0 from rfl, Int.emod_eq_of_lt hh.1 hh.2]; exact h0)
  refine ⟨by omega, ⟨rfl, rfl⟩, fun x hx => ?_⟩
  have body : ∀ x_1 : Nat, x_1 ≤ x → x < a.length → ((x_1 : Int) + 1 ≤ (x : Int) →
      (0 ≤ (x_1 : Int) + 1 ∧ (x_1 : Int) + 1 < (a.length : Int)) ∧ (0 ≤ IntKind.i64.wrap ((x : Int) - ((x_1 : Int) + 1)) ∧ IntKind.i64.wrap ((x : Int) - ((x_1 : Int) + 1)) < ((siL (modF f) a x).length : Int)) ∧
      (i64T.wf (subS f (siP (modF f) a (siL (modF f) a x) x x_1) (mulS f (a.getD ((x_1 : Int) + 1).toNat 0) ((siL (modF f) a x).getD (IntKind.i64.wrap ((x : Int) - ((x_1 : Int) + 1))).toNat 0))) →
       i64T.wf (mulS f (a.getD ((x_1 : Int) + 1).toNat 0) ((siL (modF f) a x).getD (IntKind.i64.wrap ((x : Int) - ((x_1 : Int) + 1))).toNat 0)) →
       ∃ x', x' ≤ x ∧ x - x' < x - x_1 ∧ subS f (siP (modF f) a (siL (modF f) a x) x x_1) (mulS f (a.getD ((x_1 : Int) + 1).toNat 0) ((siL (modF f) a x).getD (IntKind.i64.wrap ((x : Int) - ((x_1 : Int) + 1))).toNat 0)) = siP (modF f) a (siL (modF f) a x) x x' ∧ IntKind.i64.wrap ((x_1 : Int) + 1 + 1) = (x' : Int) + 1)) ∧
     (¬ (x_1 : Int) + 1 ≤ (x : Int) → i64T.wf (mulS f (siP (modF f) a (siL (modF f) a x) x x_1) (powS f (a.getD (Int.toNat 0) 0) (-1))) →
      ((siL (modF f) a x).length + [mulS f (siP (modF f) a (siL (modF f) a x) x x_1) (powS f (a.getD (Int.toNat 0) 0) (-1))].length) * 8 ≤ 140737488355328 ∧
      ∃ x', x' ≤ a.length ∧ a.length - x' < a.length - x ∧ IntKind.i64.wrap ((x : Int) + 1) = (x' : Int) ∧
        siL (modF f) a x ++ [mulS f (siP (modF f) a (siL (modF f) a x) x x_1) (powS f (a.getD (Int.toNat 0) 0) (-1))] = siL (modF f) a x') := by
    intro y hy hxl
    have hw2 : y + 1 ≤ x → IntKind.i64.wrap ((x : Int) - ((y : Int) + 1)) = ((x - (y + 1) : Nat) : Int) := fun _ => by rw [wrap_small (by omega)]; omega
    rw [siL_len]
    refine ⟨fun h3 => ?_, fun h3 _ => ?_⟩
    · rw [hw2 (by omega), Int.toNat_natCast, show ((y : Int) + 1).toNat = y + 1 by omega]
      refine ⟨⟨by omega, by omega⟩, ⟨by omega, by omega⟩, fun _ _ => ⟨y + 1, by omega, by omega, ?_, ?_⟩⟩
      · rw [subS_at hm, mulS_at hm]; rfl
      · rw [wrap_small (by omega)]; omega
    · rw [hz, mulS_at hm, show y = x by omega]
      exact ⟨by simp only [List.length_cons, List.length_nil]; omega, x + 1, by omega, by omega, wrap_succ (by omega), rfl⟩
  refine ⟨fun h3 => ⟨fun h4 => ⟨by omega, ⟨?_, rfl⟩, fun y hy => body y hy (by omega)⟩, fun h4 => ⟨by omega, ⟨?_, rfl⟩, fun y hy => body y hy (by omega)⟩⟩, fun h3 => ?_⟩
  · show _ = if _ then _ else _
    rw [if_pos (by omega)]
  · show _ = if _ then _ else _
    rw [if_neg (by omega)]
  · rw [si_yes h h0, show x = a.length by omega]
theorem v_I_seriesInv :
 ∀ (d : (Int × Int × Int) × List Int), Ty.wf fldT d.1 ∧ Ty.wf listT d.2 → IsMod d.1.1 ∧ elemsF d.1.1 d.2 = true ∧ (1 : Nat) ≤ d.2.length ∧ d.2.length ≤ (64 : Nat) → ((0 : Int) ≤ (0 : Int) ∧ (0 : Int) < (↑d.2.length :
 Int)) ∧ (IsMod d.1.1 ∧ El d.1.1 (d.2.getD (Int.toNat (0 : Int)) (0 : Int))) ∧ (Ty.wf i64T (invM d.1.1 (d.2.getD (Int.toNat (0 : Int)) (0 : Int))) → ((1 : Nat) ≤ (1 : Nat) ∧ (1 : Nat) ≤ d.2.length) ∧ (((d.1.1 = d.1.1 ∧
 d.1.2.1 = d.1.2.1 ∧ d.1.2.2 = d.1.2.2) ∧ d.2 = d.2 ∧ Value.slice none (0 : Nat) (0 : Nat) = Value.slice none (0 : Nat) (0 : Nat) ∧ invM d.1.1 (d.2.getD (Int.toNat (0 : Int)) (0 : Int)) = invM d.1.1 (d.2.getD (Int.toNat
 (0 : Int)) (0 : Int)) ∧ (1 : Int) = (↑(1 : Nat) : Int)) ∧ (d.1.1 = d.1.1 ∧ d.1.2.1 = d.1.2.1 ∧ d.1.2.2 = d.1.2.2) ∧ [invM d.1.1 (d.2.getD (Int.toNat (0 : Int)) (0 : Int))] = siL d.1.1 d.2 (1 : Nat)) ∧ ∀ (x : Nat), (1 :
 Nat) ≤ x ∧ x ≤ d.2.length → (decide ((↑x : Int) < (↑d.2.length : Int)) = true → (0 : Nat) ≤ x ∧ (((d.1.1 = d.1.1 ∧ d.1.2.1 = d.1.2.1 ∧ d.1.2.2 = d.1.2.2) ∧ d.2 = d.2 ∧ Value.slice none (0 : Nat) (0 : Nat) = Value.slice
 none (0 : Nat) (0 : Nat) ∧ invM d.1.1 (d.2.getD (Int.toNat (0 : Int)) (0 : Int)) = invM d.1.1 (d.2.getD (Int.toNat (0 : Int)) (0 : Int)) ∧ (↑x : Int) = (↑x : Int) ∧ (0 : Int) = siA d.1.1 d.2 (siL d.1.1 d.2 x) x (0 :
 Nat) ∧ (1 : Int) = (↑(0 : Nat) : Int) + (1 : Int)) ∧ (d.1.1 = d.1.1 ∧ d.1.2.1 = d.1.2.1 ∧ d.1.2.2 = d.1.2.2) ∧ siL d.1.1 d.2 x = siL d.1.1 d.2 x) ∧ ∀ (x_1 : Nat), x_1 ≤ x → (decide ((↑x_1 : Int) + (1 : Int) ≤ (↑x :
 Int)) = true → ((0 : Int) ≤ (↑x_1 : Int) + (1 : Int) ∧ (↑x_1 : Int) + (1 : Int) < (↑d.2.length : Int)) ∧ ((0 : Int) ≤ IntKind.wrap IntKind.i64 ((↑x : Int) - ((↑x_1 : Int) + (1 : Int))) ∧ IntKind.wrap IntKind.i64 ((↑x :
 Int) - ((↑x_1 : Int) + (1 : Int))) < (↑(List.length (siL d.1.1 d.2 x)) : Int)) ∧ (IsMod d.1.1 ∧ El d.1.1 (d.2.getD (Int.toNat ((↑x_1 : Int) + (1 : Int))) (0 : Int)) ∧ El d.1.1 (List.getD (siL d.1.1 d.2 x) (Int.toNat
 (IntKind.wrap IntKind.i64 ((↑x : Int) - ((↑x_1 : Int) + (1 : Int))))) (0 : Int))) ∧ (IsMod d.1.1 ∧ El d.1.1 (siA d.1.1 d.2 (siL d.1.1 d.2 x) x x_1) ∧ El d.1.1 (mulM d.1.1 (d.2.getD (Int.toNat ((↑x_1 : Int) + (1 : Int)))
 (0 : Int)) (List.getD (siL d.1.1 d.2 x) (Int.toNat (IntKind.wrap IntKind.i64 ((↑x : Int) - ((↑x_1 : Int) + (1 : Int))))) (0 : Int)))) ∧ (Ty.wf i64T (addM d.1.1 (siA d.1.1 d.2 (siL d.1.1 d.2 x) x x_1) (mulM d.1.1
 (d.2.getD (Int.toNat ((↑x_1 : Int) + (1 : Int))) (0 : Int)) (List.getD (siL d.1.1 d.2 x) (Int.toNat (IntKind.wrap IntKind.i64 ((↑x : Int) - ((↑x_1 : Int) + (1 : Int))))) (0 : Int)))) → Ty.wf i64T (mulM d.1.1 (d.2.getD
 (Int.toNat ((↑x_1 : Int) + (1 : Int))) (0 : Int)) (List.getD (siL d.1.1 d.2 x) (Int.toNat (IntKind.wrap IntKind.i64 ((↑x : Int) - ((↑x_1 : Int) + (1 : Int))))) (0 : Int))) → ∃ (x' : Nat), x' ≤ x ∧ x - x' < x - x_1 ∧
 ((d.1.1 = d.1.1 ∧ d.1.2.1 = d.1.2.1 ∧ d.1.2.2 = d.1.2.2) ∧ d.2 = d.2 ∧ Value.slice none (0 : Nat) (0 : Nat) = Value.slice none (0 : Nat) (0 : Nat) ∧ invM d.1.1 (d.2.getD (Int.toNat (0 : Int)) (0 : Int)) = invM d.1.1
 (d.2.getD (Int.toNat (0 : Int)) (0 : Int)) ∧ (↑x : Int) = (↑x : Int) ∧ addM d.1.1 (siA d.1.1 d.2 (siL d.1.1 d.2 x) x x_1) (mulM d.1.1 (d.2.getD (Int.toNat ((↑x_1 : Int) + (1 : Int))) (0 : Int)) (List.getD (siL d.1.1 d.2
 x) (Int.toNat (IntKind.wrap IntKind.i64 ((↑x : Int) - ((↑x_1 : Int) + (1 : Int))))) (0 : Int))) = siA d.1.1 d.2 (siL d.1.1 d.2 x) x x' ∧ IntKind.wrap IntKind.i64 ((↑x_1 : Int) + (1 : Int) + (1 : Int)) = (↑x' : Int) + (1
 : Int)) ∧ (d.1.1 = d.1.1 ∧ d.1.2.1 = d.1.2.1 ∧ d.1.2.2 = d.1.2.2) ∧ siL d.1.1 d.2 x = siL d.1.1 d.2 x)) ∧ (decide ((↑x_1 : Int) + (1 : Int) ≤ (↑x : Int)) = false → (IsMod d.1.1 ∧ El d.1.1 (0 : Int) ∧ El d.1.1 (siA d.1.1
 d.2 (siL d.1.1 d.2 x) x x_1)) ∧ (IsMod d.1.1 ∧ El d.1.1 (subM d.1.1 (0 : Int) (siA d.1.1 d.2 (siL d.1.1 d.2 x) x x_1)) ∧ El d.1.1 (invM d.1.1 (d.2.getD (Int.toNat (0 : Int)) (0 : Int)))) ∧ (Ty.wf i64T (mulM d.1.1 (subM
 d.1.1 (0 : Int) (siA d.1.1 d.2 (siL d.1.1 d.2 x) x x_1)) (invM d.1.1 (d.2.getD (Int.toNat (0 : Int)) (0 : Int)))) → Ty.wf i64T (subM d.1.1 (0 : Int) (siA d.1.1 d.2 (siL d.1.1 d.2 x) x x_1)) → (List.length (siL d.1.1 d.2
 x) + List.length [mulM d.1.1 (subM d.1.1 (0 : Int) (siA d.1.1 d.2 (siL d.1.1 d.2 x) x x_1)) (invM d.1.1 (d.2.getD (Int.toNat (0 : Int)) (0 : Int)))]) * (8 : Nat) ≤ (140737488355328 : Nat) ∧ ∃ (x' : Nat), ((1 : Nat) ≤ x'
 ∧ x' ≤ d.2.length) ∧ d.2.length - x' < d.2.length - x ∧ ((d.1.1 = d.1.1 ∧ d.1.2.1 = d.1.2.1 ∧ d.1.2.2 = d.1.2.2) ∧ d.2 = d.2 ∧ Value.slice none (0 : Nat) (0 : Nat) = Value.slice none (0 : Nat) (0 : Nat) ∧ invM d.1.1
 (d.2.getD (Int.toNat (0 : Int)) (0 : Int)) = invM d.1.1 (d.2.getD (Int.toNat (0 : Int)) (0 : Int)) ∧ IntKind.wrap IntKind.i64 ((↑x : Int) + (1 : Int)) = (↑x' : Int)) ∧ (d.1.1 = d.1.1 ∧ d.1.2.1 = d.1.2.1 ∧ d.1.2.2 =
 d.1.2.2) ∧ siL d.1.1 d.2 x ++ [mulM d.1.1 (subM d.1.1 (0 : Int) (siA d.1.1 d.2 (siL d.1.1 d.2 x) x x_1)) (invM d.1.1 (d.2.getD (Int.toNat (0 : Int)) (0 : Int)))] = siL d.1.1 d.2 x'))) ∧ (decide ((↑x : Int) <
 (↑d.2.length : Int)) = false → siL d.1.1 d.2 x = siL d.1.1 d.2 d.2.length)) := by
  intro (d : Fd × List Int) hw hp
  obtain ⟨⟨p, g, t⟩, a⟩ := d
  replace hp : IsMod p ∧ elemsF p a = true ∧ 1 ≤ a.length ∧ a.length ≤ 64 := hp
  simp only [Int.toNat_natCast, exists_const, and_true, true_and, implies_true, decide_eq_true_eq, decide_eq_false_iff_not, Bool.not_eq_true', Bool.not_eq_false', beq_iff_eq, forall_const]
  obtain ⟨hq, he, h1, h2⟩ := hp
  refine ⟨⟨by omega, by omega⟩, ⟨hq, el_get hq he _⟩, fun _ => ⟨⟨by omega, by omega⟩, ⟨rfl, si_one hq a⟩, fun x hx => ⟨fun h3 => ⟨by omega, ⟨rfl, rfl⟩, fun y hy => ?_⟩, fun h3 => by rw [show x = a.length by omega]⟩⟩⟩
  have hw2 : y + 1 ≤ x → IntKind.i64.wrap ((x : Int) - ((y : Int) + 1)) = ((x - (y + 1) : Nat) : Int) := fun _ => by rw [wrap_small (by omega)]; omega
  rw [siL_len]
  refine ⟨fun h4 => ?_, fun h4 => ⟨⟨hq, el_zero hq, siA_el hq _ _ _ _⟩, ⟨hq, el_subM hq _ _, el_invM hq _⟩, fun _ _ => ⟨by simp only [List.length_cons, List.length_nil]; omega, x + 1, ⟨by omega, by omega⟩, by omega, wrap_succ (by omega), ?_⟩⟩⟩
  · rw [hw2 (by omega), Int.toNat_natCast, show ((y : Int) + 1).toNat = y + 1 by omega]
    refine ⟨⟨by omega, by omega⟩, ⟨by omega, by omega⟩, ⟨hq, el_get hq he _, el_get hq (siL_el hq a x) _⟩, ⟨hq, siA_el hq _ _ _ _, el_mulM hq _ _⟩, fun _ _ => ⟨y + 1, by omega, by omega, rfl, ?_⟩⟩
    rw [wrap_small (by omega)]; omega
  · rw [si_term (by omega), show y = x by omega]
    rfl
end Go.SF
