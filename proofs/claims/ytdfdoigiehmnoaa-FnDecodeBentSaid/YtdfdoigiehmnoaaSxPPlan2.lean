/- What is owed of the code of turners that are begun and done. No condition. -/
import Derived.Test.YtdfdoigiehmnoaaSxC
import Derived.Test.YtdfdoigiehmnoaaSxPPlanC
import Derived.Test.YtdfdoigiehmnoaaSxPMark
namespace Go.SF
open Go.SX Go
set_option linter.unusedVariables false
set_option linter.unusedSimpArgs false
set_option maxRecDepth 10000
theorem logGo_val (n : Int) : ∀ m : Nat, m ≤ 10 → 0 ≤ logGo n m → ∃ k : Nat, k ≤ 9 ∧ logGo n m = (k : Int) ∧ n = 2 ^ k
  | 0, _, h => by have : logGo n 0 = -1 := rfl; omega
  | m + 1, hm, h => by
    unfold logGo at h ⊢
    by_cases e : n = 2 ^ (9 - m)
    · rw [if_pos e]; exact ⟨9 - m, by omega, rfl, e⟩
    · rw [if_neg e] at h ⊢
      exact logGo_val n m (by omega) h
theorem log_val {n : Nat} (h : 0 ≤ logF (n : Int)) : logF (n : Int) ≤ 9 ∧ n = 2 ^ (logF (n : Int)).toNat := by
  obtain ⟨k, h1, h2, h3⟩ := logGo_val (n : Int) 10 (Nat.le_refl _) h
  have h4 : logF (n : Int) = (k : Int) := h2
  rw [h4, Int.toNat_natCast]
  refine ⟨by omega, ?_⟩
  rw [show (2 : Int) ^ k = ((2 ^ k : Nat) : Int) from (Int.natCast_pow 2 k).symm] at h3
  exact Int.ofNat.inj h3
theorem rev_lt (x : Nat) : ∀ j, rev x j < 2 ^ j
  | 0 => by simp [rev]
  | j + 1 => by
    have := rev_lt x j
    simp only [rev, Nat.pow_succ]
    omega
theorem rev_inv_at : ∀ k : Fin 10, ∀ x : Fin 512, x.val < 2 ^ k.val → rev (rev x.val k.val) k.val = x.val := by decide +kernel
theorem pow_le_512 {k : Nat} (h : k ≤ 9) : 2 ^ k ≤ 512 := Nat.pow_le_pow_right (n := 2) (by omega) h
theorem rev_inv {k x : Nat} (hk : k ≤ 9) (hx : x < 2 ^ k) : rev (rev x k) k = x := by
  have := pow_le_512 hk
  exact rev_inv_at ⟨k, by omega⟩ ⟨x, by omega⟩ hx
theorem iand_one_at : ∀ a : Fin 512, iand .i64 (a.val : Int) 1 = ((a.val % 2 : Nat) : Int) := by decide +kernel
theorem ishr_nat (x i : Nat) (hi : i ≤ 63) : ishr .i64 (x : Int) (i : Int) = ((x / 2 ^ i : Nat) : Int) := by
  unfold ishr
  rw [Int.toNat_natCast, show min i IntKind.i64.bits = i by show min i 64 = i; omega, Int.fdiv_eq_ediv_of_nonneg _ (Int.le_of_lt (Int.pow_pos (by omega)))]
  rw [show ((2 : Int) ^ i) = ((2 ^ i : Nat) : Int) from (Int.natCast_pow 2 i).symm]
  rfl
theorem i2_at : ∀ i : Fin 10, IntKind.u64.wrap (i.val : Int) = (i.val : Int) := by decide +kernel
theorem tmod_nat (n : Nat) : ((n : Nat) : Int).tmod 2 = ((n % 2 : Nat) : Int) := rfl
theorem perm_len (v : List Int) (n : Nat) : (permL v n).length = n := rgm_len _ _
theorem perm_snoc (v : List Int) (n : Nat) : permL v n ++ [v.getD (rev n (logF v.length).toNat) 0] = permL v (n + 1) := by simp [permL, List.range_succ]
theorem permM_zero (v : List Int) : List.replicate v.length 0 = permM v 0 := by
  unfold permM
  rw [show (fun i => if rev i (logF v.length).toNat < 0 then v.getD (rev i (logF v.length).toNat) 0 else 0) = fun _ => (0 : Int) by funext i; rw [if_neg (by omega)], List.map_const', List.length_range]
theorem perm_same {v : List Int} (h : 0 ≤ logF v.length) (P : Int → Prop) : (∀ x ∈ permL v v.length, P x) ↔ ∀ x ∈ v, P x := by
  obtain ⟨h1, h2⟩ := log_val h
  constructor
  · intro hh x hx
    obtain ⟨i, hi, rfl⟩ := List.getElem_of_mem hx
    have h3 := rev_lt i (logF v.length).toNat
    have h4 := rev_inv (k := (logF v.length).toNat) (x := i) (by omega) (by omega)
    refine hh _ ?_
    unfold permL
    rw [List.mem_map]
    refine ⟨rev i (logF v.length).toNat, List.mem_range.2 (by omega), ?_⟩
    rw [h4, List.getD_eq_getElem?_getD, List.getElem?_eq_getElem hi]; rfl
  · intro hh x hx
    unfold permL at hx
    rw [List.mem_map] at hx
    obtain ⟨i, hi, rfl⟩ := hx
    rw [List.mem_range] at hi
    have h3 := rev_lt i (logF v.length).toNat
    have h5 : rev i (logF v.length).toNat < v.length := by omega
    rw [List.getD_eq_getElem?_getD, List.getElem?_eq_getElem h5]
    exact hh _ (List.getElem_mem h5)
theorem elems_perm {v : List Int} (h : 0 ≤ logF v.length) (p : Int) : elemsF p (permL v v.length) = elemsF p v := by
  unfold elemsF
  exact decide_eq_decide.2 (perm_same h _)
theorem vec_perm (f : Int) (v : List Int) : vectorOkF f (permF v) = vectorOkF f v := by
  unfold permF
  split
  case isTrue h =>
    unfold vectorOkF specElemsF
    rw [perm_len, elems_perm h]
  case isFalse h =>
    unfold vectorOkF
    rw [decide_eq_false (show ¬ 0 ≤ logF ([] : List Int).length by decide), decide_eq_false h]
    rfl
theorem turn_perm (p : Pl) (v : List Int) : turnOkF (p, permF v, 0) = turnOkF (p, v, 0) := by
  unfold turnOkF
  simp only
  rw [vec_perm]
  by_cases h : 0 ≤ logF v.length
  · have : (permF v).length = v.length := by unfold permF; rw [if_pos h, perm_len]
    rw [this]
  · have : vectorOkF p.1 v = false := by unfold vectorOkF; rw [decide_eq_false h]; rfl
    rw [this]; simp
theorem vec_log {f : Int} {v : List Int} (h : vectorOkF f v = true) : 0 ≤ logF v.length := by
  unfold vectorOkF at h
  simp only [Bool.and_eq_true, decide_eq_true_eq] at h
  exact h.1.1
end Go.SF
