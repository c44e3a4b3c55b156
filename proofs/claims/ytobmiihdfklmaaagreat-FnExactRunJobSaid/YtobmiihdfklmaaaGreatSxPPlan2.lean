/- What is owed of the code of turners that are begun and done. No condition. -/
import Derived.Test.YtobmiihdfklmaaaGreatSxC
import Derived.Test.YtobmiihdfklmaaaGreatSxPPlanC
import Derived.Test.YtobmiihdfklmaaaGreatSxPMark
namespace Go.SF
open Go.SX Go
set_option linter.unusedVariables false
set_option linter.unusedSimpArgs false
set_option maxRecDepth 10000
theorem logGo_val (n : Int) : ∀ m : Nat, m ≤ 10 → 0 ≤ logGo n m → ∃ k : Nat, k ≤ 9 ∧ logGo n m = (k : Int) ∧ n = 2 ^ k
  | 0, _, h => by have : logGo n 0 = -1 := rfl; omega
  | m + 1, hm, h => by
    unfold logGo at h ⊢
    by_cases e : n = 2 ^ (9 - m)
    · rw [if_pos e]; exact ⟨9 - m, by omega, rfl, e⟩
    · rw [if_neg e] at h ⊢
      exact logGo_val n m (by omega) h
theorem log_val {n : Nat} (h : 0 ≤ logF (n : Int)) : logF (n : Int) ≤ 9 ∧ n = 2 ^ (logF (n : Int)).toNat := by
  obtain ⟨k, h1, h2, h3⟩ := logGo_val (n : Int) 10 (Nat.le_refl _) h
  have h4 : logF (n : Int) = (k : Int) := h2
  rw [h4, Int.toNat_natCast]
  refine ⟨by omega, ?_⟩
  rw [show (2 : Int) ^ k = ((2 ^ k : Nat) : Int) from (Int.natCast_pow 2 k).symm] at h3
  exact Int.ofNat.inj h3
theorem rev_lt (x : Nat) : ∀ j, rev x j < 2 ^ j
  | 0 => by simp [rev]
  | j + 1 => by
    have := rev_lt x j
    simp only [rev, Nat.pow_succ]
    omega
theorem rev_inv_at : ∀ k : Fin 10, ∀ x : Fin 512, x.val < 2 ^ k.val → rev (rev x.val k.val) k.val = x.val := by decide +kernel
theorem pow_le_512 {k : Nat} (h : k ≤ 9) : 2 ^ k ≤ 512 := Nat.pow_le_pow_right (n := 2) (by omega) h
theorem rev_inv {k x : Nat} (hk : k ≤ 9) (hx : x < 2 ^ k) : rev (rev x k) k = x := by
  have := pow_le_512 hk
  exact rev_inv_at ⟨k, by omega⟩ ⟨x, by omega⟩ hx
theorem iand_one_at : ∀ a : Fin 512, iand .i64 (a.val : Int) 1 = ((a.val % 2 : Nat) : Int) := by decide +kernel
theorem ishr_nat (x i : Nat) (hi : i ≤ 63) : ishr .i64 (x : Int) (i : Int) = ((x / 2 ^ i : Nat) : Int) := by
  unfold ishr
  rw [Int.toNat_natCast, show min i IntKind.i64.bits = i by show min i 64 = i; omega, Int.fdiv_eq_ediv_of_nonneg _ (Int.le_of_lt (Int.pow_pos (by omega)))]
  rw [show ((2 : Int) ^ i) = ((2 ^ i : Nat) : Int) from (Int.natCast_pow 2 i).symm]
  rfl
theorem tmod_nat (n : Nat) : ((n : Nat) : Int).tmod 2 = ((n % 2 : Nat) : Int) := rfl
theorem perm_len (v : List Int) (n : Nat) : (permL v n).length = n := rgm_len _ _
theorem permM_zero (v : List Int) : List.replicate v.length 0 = permM v 0 := by
  unfold permM
  rw [show (fun i => if rev i (logF v.length).toNat < 0 then v.getD (rev i (logF v.length).toNat) 0 else 0) = fun _ => (0 : Int) by funext i; rw [if_neg (by omega)], List.map_const', List.length_range]
theorem v_I_reversed :
 ∀ (d : Int × Int), Ty.wf i64T d.1 ∧ Ty.wf i64T d.2 → ((0 : Tup [i64T]) ≤ d.2 ∧ d.2 ≤ (9 : Tup [i64T])) ∧ (0 : Ty.den i64T) ≤ d.1 ∧ d.1 < (2 : Ty.den i64T) ^ d.2.toNat → (↑(0 : Nat) : Int) ≤ d.2 ∧ (d.1 = (↑(d.1.toNat /
 (2 : Nat) ^ (0 : Nat)) : Int) ∧ d.2 = d.2 ∧ (0 : Int) = (0 : Int) ∧ (0 : Int) = (↑(rev d.1.toNat (0 : Nat)) : Int) ∧ d.2 = d.2 ∧ (0 : Int) = (↑(0 : Nat) : Int)) ∧ ∀ (x : Nat), (↑x : Int) ≤ d.2 → (decide ((↑x : Int) <
 d.2) = true → (0 : Int) ≤ (1 : Int) ∧ ∃ (x' : Nat), (↑x' : Int) ≤ d.2 ∧ d.2.toNat - x' < d.2.toNat - x ∧ ishr IntKind.i64 (↑(d.1.toNat / (2 : Nat) ^ x) : Int) (1 : Int) = (↑(d.1.toNat / (2 : Nat) ^ x') : Int) ∧ d.2 =
 d.2 ∧ (0 : Int) = (0 : Int) ∧ IntKind.wrap IntKind.i64 (IntKind.wrap IntKind.i64 ((2 : Int) * (↑(rev d.1.toNat x) : Int)) + iand IntKind.i64 (↑(d.1.toNat / (2 : Nat) ^ x) : Int) (1 : Int)) = (↑(rev d.1.toNat x') : Int)
 ∧ d.2 = d.2 ∧ IntKind.wrap IntKind.i64 ((↑x : Int) + (1 : Int)) = (↑x' : Int)) ∧ (decide ((↑x : Int) < d.2) = false → (↑(rev d.1.toNat x) : Int) = (↑(rev d.1.toNat d.2.toNat) : Int)) := by
  intro (d : Int × Int) _ hp
  obtain ⟨x, k⟩ := d
  replace hp : (0 ≤ k ∧ k ≤ 9) ∧ 0 ≤ x ∧ x < 2 ^ k.toNat := hp
  obtain ⟨hk, hx0, hx1⟩ := hp
  obtain ⟨n, rfl⟩ := Int.eq_ofNat_of_zero_le hx0
  obtain ⟨m, rfl⟩ := Int.eq_ofNat_of_zero_le hk.1
  simp only [Int.toNat_natCast, exists_const, and_true, true_and, implies_true, decide_eq_true_eq, decide_eq_false_iff_not, Bool.not_eq_true', Bool.not_eq_false', beq_iff_eq, forall_const]
  rw [Int.toNat_natCast] at hx1
  have hpw : (2 : Int) ^ m = ((2 ^ m : Nat) : Int) := (Int.natCast_pow 2 m).symm
  rw [hpw] at hx1
  have h512 := pow_le_512 (k := m) (by omega)
  refine ⟨by omega, ⟨by simp, rfl, rfl⟩, fun j hj => ⟨fun hlt => ⟨by omega, j + 1, by omega, by omega, ?_, ?_, wrap_succ (by omega)⟩, fun hge => ?_⟩⟩
  · have := ishr_nat (n / 2 ^ j) 1 (by omega)
    rw [show ((1 : Nat) : Int) = 1 from rfl] at this
    rw [this, Nat.pow_one, Nat.div_div_eq_div_mul, Nat.pow_succ]
  · have hle : n / 2 ^ j ≤ n := Nat.div_le_self _ _
    have h1 : iand .i64 ((n / 2 ^ j : Nat) : Int) 1 = ((n / 2 ^ j % 2 : Nat) : Int) := iand_one_at ⟨n / 2 ^ j, by omega⟩
    have r1 := rev_lt n j
    have r2 := pow_le_512 (k := j) (by omega)
    rw [h1, wrap_small (n := 2 * ((rev n j : Nat) : Int)) (by omega), wrap_small (by omega), rev]
    omega
  · have hje : j = m := by omega
    subst hje; rfl
theorem v_I_permuted :
 ∀ (d : List Int), Ty.wf listT d → (0 : Int) ≤ logF (↑d.length : Int) → True ∧ (Ty.wf i64T (logF (↑d.length : Int)) → ((0 : Int) ≤ (↑d.length : Int) ∧ (↑d.length : Int) ≤ (↑d.length : Int) ∧ (↑d.length : Int) * (↑(8 :
 Nat) : Int) ≤ (140737488355328 : Int)) ∧ (0 : Nat) ≤ d.length ∧ ((d = d ∧ Value.slice none (0 : Nat) (0 : Nat) = Value.slice none (0 : Nat) (0 : Nat) ∧ logF (↑d.length : Int) = logF (↑d.length : Int) ∧ d = d ∧
 (↑d.length : Int) = (↑d.length : Int) ∧ (0 : Int) = (↑(0 : Nat) : Int)) ∧ List.replicate (Int.toNat (↑d.length : Int)) (0 : Int) = permM d (0 : Nat)) ∧ ∀ (x : Nat), x ≤ d.length → (decide ((↑x : Int) < (↑d.length :
 Int)) = true → ((0 : Int) ≤ (↑x : Int) ∧ (↑x : Int) < (↑d.length : Int)) ∧ (((0 : Tup [i64T]) ≤ logF (↑d.length : Int) ∧ logF (↑d.length : Int) ≤ (9 : Tup [i64T])) ∧ (0 : Ty.den i64T) ≤ (↑x : Int) ∧ (↑x : Int) < (2 :
 Ty.den i64T) ^ Int.toNat (logF (↑d.length : Int))) ∧ (Ty.wf i64T (↑(rev (Int.toNat (↑x : Int)) (Int.toNat (logF (↑d.length : Int)))) : Int) → ((0 : Int) ≤ (↑(rev (Int.toNat (↑x : Int)) (Int.toNat (logF (↑d.length :
 Int)))) : Int) ∧ (↑(rev (Int.toNat (↑x : Int)) (Int.toNat (logF (↑d.length : Int)))) : Int) < (↑(List.length (permM d x)) : Int)) ∧ ∃ (x' : Nat), x' ≤ d.length ∧ d.length - x' < d.length - x ∧ (d = d ∧ Value.slice none
 (0 : Nat) (0 : Nat) = Value.slice none (0 : Nat) (0 : Nat) ∧ logF (↑d.length : Int) = logF (↑d.length : Int) ∧ d = d ∧ (↑d.length : Int) = (↑d.length : Int) ∧ IntKind.wrap IntKind.i64 ((↑x : Int) + (1 : Int)) = (↑x' :
 Int)) ∧ List.set (permM d x) (Int.toNat (↑(rev (Int.toNat (↑x : Int)) (Int.toNat (logF (↑d.length : Int)))) : Int)) (d.getD (Int.toNat (↑x : Int)) (0 : Int)) = permM d x')) ∧ (decide ((↑x : Int) < (↑d.length : Int)) =
 false → permM d x = permF d)) := by
  intro (v : List Int) hw (hp : 0 ≤ logF v.length)
  have hl : v.length ≤ 9223372036854775807 := hw.1
  simp only [Int.toNat_natCast, exists_const, and_true, true_and, implies_true, decide_eq_true_eq, decide_eq_false_iff_not, Bool.not_eq_true', Bool.not_eq_false', beq_iff_eq, forall_const]
  intro _
  obtain ⟨h1, h2⟩ := log_val (n := v.length) hp
  have h512 := pow_le_512 (k := (logF v.length).toNat) (by omega)
  have hml : ∀ x, (permM v x).length = v.length := fun x => rgm_len _ _
  refine ⟨⟨by omega, by omega, by omega⟩, Nat.zero_le _, ⟨rfl, permM_zero v⟩, fun x hx => ⟨fun hlt => ?_, fun hge => ?_⟩⟩
  · have hx' : x < v.length := by omega
    have hr := rev_lt x (logF v.length).toNat
    have hpw : (2 : Int) ^ (logF v.length).toNat = ((2 ^ (logF v.length).toNat : Nat) : Int) := (Int.natCast_pow 2 _).symm
    rw [hpw, hml]
    have hpre : (0 ≤ logF v.length ∧ logF v.length ≤ 9) ∧ 0 ≤ (x : Int) ∧ (x : Int) < ((2 ^ (logF v.length).toNat : Nat) : Int) := by omega
    refine ⟨⟨by omega, by omega⟩, hpre, fun _ => ⟨⟨by omega, by omega⟩, x + 1, by omega, by omega, wrap_succ (by omega), ?_⟩⟩
    have hinv := rev_inv (k := (logF v.length).toNat) (x := x) (by omega) (by omega)
    refine rgm_set ?_ (fun b hb hne => ?_)
    · rw [hinv, if_pos (by omega)]
    · have hne2 : rev b (logF v.length).toNat ≠ x := fun e => hne (by rw [← e]; exact (rev_inv (by omega) (by omega)).symm)
      by_cases e : rev b (logF v.length).toNat < x
      · rw [if_pos e, if_pos (by omega)]
      · rw [if_neg e, if_neg (by omega)]
  · have : x = v.length := by omega
    subst this
    unfold permF; rw [if_pos hp]
    refine rgm_eq (fun i _ => ?_)
    have hr := rev_lt i (logF v.length).toNat
    rw [if_pos (by omega)]
end Go.SF
