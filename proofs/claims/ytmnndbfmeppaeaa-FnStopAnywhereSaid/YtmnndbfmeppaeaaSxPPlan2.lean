/- What is owed of the code of turners that are begun and done. No condition. -/
import Derived.Test.YtmnndbfmeppaeaaSxC
import Derived.Test.YtmnndbfmeppaeaaSxPPlanC
import Derived.Test.YtmnndbfmeppaeaaSxPMark
namespace Go.SF
open Go.SX Go
set_option linter.unusedVariables false
set_option linter.unusedSimpArgs false
set_option maxRecDepth 10000
theorem logGo_val (n : Int) : ∀ m : Nat, m ≤ 10 → 0 ≤ logGo n m → ∃ k : Nat, k ≤ 9 ∧ logGo n m = (k : Int) ∧ n = 2 ^ k
  | 0, _, h => by have : logGo n 0 = -1 := rfl; omega
  | m + 1, hm, h => by
    unfold logGo at h ⊢
    by_cases e : n = 2 ^ (9 - m)
    · rw [if_pos e]; exact ⟨9 - m, by omega, rfl, e⟩
    · rw [if_neg e] at h ⊢
      exact logGo_val n m (by omega) h
theorem log_val {n : Nat} (h : 0 ≤ logF (n : Int)) : logF (n : Int) ≤ 9 ∧ n = 2 ^ (logF (n : Int)).toNat := by
  obtain ⟨k, h1, h2, h3⟩ := logGo_val (n : Int) 10 (Nat.le_refl _) h
  have h4 : logF (n : Int) = (k : Int) := h2
  rw [h4, Int.toNat_natCast]
  refine ⟨by omega, ?_⟩
  rw [show (2 : Int) ^ k = ((2 ^ k : Nat) : Int) from (Int.natCast_pow 2 k).symm] at h3
  exact Int.ofNat.inj h3
theorem rev_lt (x : Nat) : ∀ j, rev x j < 2 ^ j
  | 0 => by simp [rev]
  | j + 1 => by
    have := rev_lt x j
    simp only [rev, Nat.pow_succ]
    omega
theorem rev_inv_at : ∀ k : Fin 10, ∀ x : Fin 512, x.val < 2 ^ k.val → rev (rev x.val k.val) k.val = x.val := by decide +kernel
theorem pow_le_512 {k : Nat} (h : k ≤ 9) : 2 ^ k ≤ 512 := Nat.pow_le_pow_right (n := 2) (by omega) h
theorem rev_inv {k x : Nat} (hk : k ≤ 9) (hx : x < 2 ^ k) : rev (rev x k) k = x := by
  have := pow_le_512 hk
  exact rev_inv_at ⟨k, by omega⟩ ⟨x, by omega⟩ hx
theorem iand_one_at : ∀ a : Fin 512, iand .i64 (a.val : Int) 1 = ((a.val % 2 : Nat) : Int) := by decide +kernel
theorem ishr_nat (x i : Nat) (hi : i ≤ 63) : ishr .i64 (x : Int) (i : Int) = ((x / 2 ^ i : Nat) : Int) := by
  unfold ishr
  rw [Int.toNat_natCast, show min i IntKind.i64.bits = i by show min i 64 = i; omega, Int.fdiv_eq_ediv_of_nonneg _ (Int.le_of_lt (Int.pow_pos (by omega)))]
  rw [show ((2 : Int) ^ i) = ((2 ^ i : Nat) : Int) from (Int.natCast_pow 2 i).symm]
  rfl
theorem i2_at : ∀ i : Fin 10, IntKind.u64.wrap (i.val : Int) = (i.val : Int) := by decide +kernel
theorem tmod_nat (n : Nat) : ((n : Nat) : Int).tmod 2 = ((n % 2 : Nat) : Int) := rfl
theorem perm_len (v : List Int) (n : Nat) : (permL v n).length = n := rgm_len _ _
theorem perm_snoc (v : List Int) (n : Nat) : permL v n ++ [v.getD (rev n (logF v.length).toNat) 0] = permL v (n + 1) := by simp [permL, List.range_succ]
theorem permM_zero (v : List Int) : List.replicate v.length 0 = permM v 0 := by
  unfold permM
  rw [show (fun i => if rev i (logF v.length).toNat < 0 then v.getD (rev i (logF v.length).toNat) 0 else 0) = fun _ => (0 : Int) by funext i; rw [if_neg (by omega)], List.map_const', List.length_range]
theorem perm_same {v : List Int} (h : 0 ≤ logF v.length) (P : Int → Prop) : (∀ x ∈ permL v v.length, P x) ↔ ∀ x ∈ v, P x := by
  obtain ⟨h1, h2⟩ := log_val h
  constructor
  · intro hh x hx
    obtain ⟨i, hi, rfl⟩ := List.getElem_of_mem hx
    have h3 := rev_lt i (logF v.length).toNat
    have h4 := rev_inv (k := (logF v.length).toNat) (x := i) (by omega) (by omega)
    refine hh _ ?_
    unfold permL
    rw [List.mem_map]
    refine ⟨rev i (logF v.length).toNat, List.mem_range.2 (by omega), ?_⟩
    rw [h4, List.getD_eq_getElem?_getD, List.getElem?_eq_getElem hi]; rfl
  · intro hh x hx
    unfold permL at hx
    rw [List.mem_map] at hx
    obtain ⟨i, hi, rfl⟩ := hx
    rw [List.mem_range] at hi
    have h3 := rev_lt i (logF v.length).toNat
    have h5 : rev i (logF v.length).toNat < v.length := by omega
    rw [List.getD_eq_getElem?_getD, List.getElem?_eq_getElem h5]
    exact hh _ (List.getElem_mem h5)
theorem elems_perm {v : List Int} (h : 0 ≤ logF v.length) (p : Int) : elemsF p (permL v v.length) = elemsF p v := by
  unfold elemsF
  exact decide_eq_decide.2 (perm_same h _)
theorem vec_perm (f : Int) (v : List Int) : vectorOkF f (permF v) = vectorOkF f v := by
  unfold permF
  split
  case isTrue h =>
    unfold vectorOkF specElemsF
    rw [perm_len, elems_perm h]
  case isFalse h =>
    unfold vectorOkF
    rw [decide_eq_false (show ¬ 0 ≤ logF ([] : List Int).length by decide), decide_eq_false h]
    rfl
theorem turn_perm (p : Pl) (v : List Int) : turnOkF (p, permF v, 0) = turnOkF (p, v, 0) := by
  unfold turnOkF
  simp only
  rw [vec_perm]
  by_cases h : 0 ≤ logF v.length
  · have : (permF v).length = v.length := by unfold permF; rw [if_pos h, perm_len]
    rw [this]
  · have : vectorOkF p.1 v = false := by unfold vectorOkF; rw [decide_eq_false h]; rfl
    rw [this]; simp
theorem vec_log {f : Int} {v : List Int} (h : vectorOkF f v = true) : 0 ≤ logF v.length := by
  unfold vectorOkF at h
  simp only [Bool.and_eq_true, decide_eq_true_eq] at h
  exact h.1.1
theorem v_S_Reverse :
  ∀ (d : Int × Int), Ty.wf i64T (Prod.fst d) ∧ Ty.wf i64T (Prod.snd d) → ((0 : Tup [i64T]) ≤ Prod.snd d ∧ Prod.snd d ≤ (9 : Tup [i64T])) ∧ (0 : Ty.den i64T) ≤ Prod.fst d ∧ Prod.fst d < (2 : Ty.den i64T) ^ Int.toNat
  (Prod.snd d) → True ∧ ((!(decide ((0 : Int) ≤ Prod.snd d) && decide (Prod.snd d ≤ (9 : Int)))) = true → (-1 : Int) = (↑(rev (Int.toNat (Prod.fst d)) (Int.toNat (Prod.snd d))) : Int)) ∧ ((!(decide ((0 : Int) ≤ Prod.snd
  d) && decide (Prod.snd d ≤ (9 : Int)))) = false → (0 : Int) ≤ IntKind.wrap IntKind.u64 (Prod.snd d) ∧ True ∧ ((!(decide ((0 : Int) ≤ Prod.fst d) && decide (Prod.fst d ≤ IntKind.wrap IntKind.i64 (ishl IntKind.i64 (1 :
  Int) (IntKind.wrap IntKind.u64 (Prod.snd d)) - (1 : Int))))) = true → (-1 : Int) = (↑(rev (Int.toNat (Prod.fst d)) (Int.toNat (Prod.snd d))) : Int)) ∧ ((!(decide ((0 : Int) ≤ Prod.fst d) && decide (Prod.fst d ≤
  IntKind.wrap IntKind.i64 (ishl IntKind.i64 (1 : Int) (IntKind.wrap IntKind.u64 (Prod.snd d)) - (1 : Int))))) = false → (↑(0 : Nat) : Int) ≤ Prod.snd d ∧ (Prod.fst d = Prod.fst d ∧ Prod.snd d = Prod.snd d ∧ (0 : Int) =
  (0 : Int) ∧ (0 : Int) = (↑((2 : Nat) ^ (Int.toNat (Prod.snd d) - (0 : Nat)) * rev (Int.toNat (Prod.fst d)) (0 : Nat)) : Int) ∧ (0 : Int) = (↑(0 : Nat) : Int)) ∧ ∀ (x : Nat), (↑x : Int) ≤ Prod.snd d → (decide ((↑x :
  Int) < Prod.snd d) = true → (0 : Int) ≤ IntKind.wrap IntKind.u64 (↑x : Int) ∧ (2 : Int) ≠ (0 : Int) ∧ (decide (Int.tmod (ishr IntKind.i64 (Prod.fst d) (IntKind.wrap IntKind.u64 (↑x : Int))) (2 : Int) = (1 : Int)) =
  true → (0 : Int) ≤ IntKind.wrap IntKind.u64 (IntKind.wrap IntKind.i64 (IntKind.wrap IntKind.i64 (Prod.snd d - (1 : Int)) - (↑x : Int))) ∧ ∃ (x' : Nat), (↑x' : Int) ≤ Prod.snd d ∧ Int.toNat (Prod.snd d) - x' < Int.toNat
  (Prod.snd d) - x ∧ Prod.fst d = Prod.fst d ∧ Prod.snd d = Prod.snd d ∧ (0 : Int) = (0 : Int) ∧ IntKind.wrap IntKind.i64 ((↑((2 : Nat) ^ (Int.toNat (Prod.snd d) - x) * rev (Int.toNat (Prod.fst d)) x) : Int) + ishl
  IntKind.i64 (1 : Int) (IntKind.wrap IntKind.u64 (IntKind.wrap IntKind.i64 (IntKind.wrap IntKind.i64 (Prod.snd d - (1 : Int)) - (↑x : Int))))) = (↑((2 : Nat) ^ (Int.toNat (Prod.snd d) - x') * rev (Int.toNat (Prod.fst
  d)) x') : Int) ∧ IntKind.wrap IntKind.i64 ((↑x : Int) + (1 : Int)) = (↑x' : Int)) ∧ (decide (Int.tmod (ishr IntKind.i64 (Prod.fst d) (IntKind.wrap IntKind.u64 (↑x : Int))) (2 : Int) = (1 : Int)) = false → ∃ (x' : Nat),
  (↑x' : Int) ≤ Prod.snd d ∧ Int.toNat (Prod.snd d) - x' < Int.toNat (Prod.snd d) - x ∧ Prod.fst d = Prod.fst d ∧ Prod.snd d = Prod.snd d ∧ (0 : Int) = (0 : Int) ∧ (↑((2 : Nat) ^ (Int.toNat (Prod.snd d) - x) * rev
  (Int.toNat (Prod.fst d)) x) : Int) = (↑((2 : Nat) ^ (Int.toNat (Prod.snd d) - x') * rev (Int.toNat (Prod.fst d)) x') : Int) ∧ IntKind.wrap IntKind.i64 ((↑x : Int) + (1 : Int)) = (↑x' : Int))) ∧ (decide ((↑x : Int) <
  Prod.snd d) = false → (↑((2 : Nat) ^ (Int.toNat (Prod.snd d) - x) * rev (Int.toNat (Prod.fst d)) x) : Int) = (↑(rev (Int.toNat (Prod.fst d)) (Int.toNat (Prod.snd d))) : Int)))) := by
  intro (d : Int × Int) _ hp
  obtain ⟨x, k⟩ := d
  replace hp : (0 ≤ k ∧ k ≤ 9) ∧ 0 ≤ x ∧ x < 2 ^ k.toNat := hp
  obtain ⟨hk, hx0, hx1⟩ := hp
  obtain ⟨n, rfl⟩ := Int.eq_ofNat_of_zero_le hx0
  obtain ⟨m, rfl⟩ := Int.eq_ofNat_of_zero_le hk.1
  obtain ⟨_, _, _, p4, _, p6, _⟩ := half_spec hk
  simp only [Int.toNat_natCast, exists_const, and_true, true_and, implies_true, decide_eq_true_eq, decide_eq_false_iff_not, Bool.not_eq_true', Bool.not_eq_false', beq_iff_eq, forall_const]
  rw [Int.toNat_natCast] at p6 hx1
  rw [p6]
  have hpw : (2 : Int) ^ m = ((2 ^ m : Nat) : Int) := (Int.natCast_pow 2 m).symm
  rw [hpw] at hx1 ⊢
  have h512 := pow_le_512 (k := m) (by omega)
  rw [wrap_small (n := ((2 ^ m : Nat) : Int) - 1) (by omega)]
  have hn : n < 2 ^ m := by omega
  refine ⟨fun h => ?_, fun h => ⟨p4, fun h1 => ?_, fun h1 => ⟨by omega, ⟨by simp [rev], rfl⟩, fun i hi => ⟨fun hlt => ?_, fun hge => ?_⟩⟩⟩⟩
  · rw [decide_eq_true hk.1, decide_eq_true hk.2] at h; cases h
  · rw [decide_eq_true hx0, decide_eq_true (show (n : Int) ≤ ((2 ^ m : Nat) : Int) - 1 by omega)] at h1; cases h1
  · have hi' : i < m := by omega
    have u1 : IntKind.u64.wrap (i : Int) = (i : Int) := i2_at ⟨i, by omega⟩
    have u2 : IntKind.i64.wrap (IntKind.i64.wrap ((m : Int) - 1) - (i : Int)) = ((m - 1 - i : Nat) : Int) := by
      rw [wrap_small (n := (m : Int) - 1) (by omega), wrap_small (by omega)]; omega
    have u3 : IntKind.u64.wrap ((m - 1 - i : Nat) : Int) = ((m - 1 - i : Nat) : Int) := i2_at ⟨m - 1 - i, by omega⟩
    rw [u1, u2, u3, ishr_nat n i (by omega), tmod_nat, ishl_pow (by omega)]
    have hP : 2 ^ (m - i) = 2 * 2 ^ (m - 1 - i) := by rw [show m - i = (m - 1 - i) + 1 by omega, Nat.pow_succ, Nat.mul_comm]
    have hP' : m - (i + 1) = m - 1 - i := by omega
    have r1 := rev_lt n i
    have hPb := pow_le_512 (k := m - 1 - i) (by omega)
    have r2 := pow_le_512 (k := i) (by omega)
    have hmul : 2 ^ (m - 1 - i) * rev n i ≤ 512 * 512 := Nat.mul_le_mul hPb (by omega)
    have e0 : 2 ^ (m - i) * rev n i = 2 * (2 ^ (m - 1 - i) * rev n i) := by rw [hP, Nat.mul_assoc]
    have e1 : ∀ b, 2 ^ (m - 1 - i) * (2 * rev n i + b) = 2 * (2 ^ (m - 1 - i) * rev n i) + 2 ^ (m - 1 - i) * b := fun b => by rw [Nat.mul_add, Nat.mul_left_comm]
    have hp2 : (2 : Int) ^ (m - 1 - i) = ((2 ^ (m - 1 - i) : Nat) : Int) := (Int.natCast_pow 2 _).symm
    rw [hp2]
    refine ⟨by omega, by omega, fun hb => ⟨by omega, i + 1, by omega, by omega, ?_, wrap_succ (by omega)⟩, fun hb => ⟨i + 1, by omega, by omega, ?_, wrap_succ (by omega)⟩⟩
    · rw [e0, hP', rev, show n / 2 ^ i % 2 = 1 by omega, e1, Nat.mul_one]
      rw [wrap_small (by omega)]; omega
    · rw [e0, hP', rev, show n / 2 ^ i % 2 = 0 by omega, e1, Nat.mul_zero, Nat.add_zero]
  · have hie : i = m := by omega
    subst hie
    rw [Nat.sub_self, Nat.pow_zero, Nat.one_mul]
theorem v_I_reversed :
  ∀ (d : Int × Int), Ty.wf i64T (Prod.fst d) ∧ Ty.wf i64T (Prod.snd d) → ((0 : Tup [i64T]) ≤ Prod.snd d ∧ Prod.snd d ≤ (9 : Tup [i64T])) ∧ (0 : Ty.den i64T) ≤ Prod.fst d ∧ Prod.fst d < (2 : Ty.den i64T) ^ Int.toNat
  (Prod.snd d) → (↑(0 : Nat) : Int) ≤ Prod.snd d ∧ (Prod.fst d = (↑(Int.toNat (Prod.fst d) / (2 : Nat) ^ (0 : Nat)) : Int) ∧ Prod.snd d = Prod.snd d ∧ (0 : Int) = (0 : Int) ∧ (0 : Int) = (↑(rev (Int.toNat (Prod.fst d))
  (0 : Nat)) : Int) ∧ Prod.snd d = Prod.snd d ∧ (0 : Int) = (↑(0 : Nat) : Int)) ∧ ∀ (x : Nat), (↑x : Int) ≤ Prod.snd d → (decide ((↑x : Int) < Prod.snd d) = true → (0 : Int) ≤ (1 : Int) ∧ ∃ (x' : Nat), (↑x' : Int) ≤
  Prod.snd d ∧ Int.toNat (Prod.snd d) - x' < Int.toNat (Prod.snd d) - x ∧ ishr IntKind.i64 (↑(Int.toNat (Prod.fst d) / (2 : Nat) ^ x) : Int) (1 : Int) = (↑(Int.toNat (Prod.fst d) / (2 : Nat) ^ x') : Int) ∧ Prod.snd d =
  Prod.snd d ∧ (0 : Int) = (0 : Int) ∧ IntKind.wrap IntKind.i64 (IntKind.wrap IntKind.i64 ((2 : Int) * (↑(rev (Int.toNat (Prod.fst d)) x) : Int)) + iand IntKind.i64 (↑(Int.toNat (Prod.fst d) / (2 : Nat) ^ x) : Int) (1 :
  Int)) = (↑(rev (Int.toNat (Prod.fst d)) x') : Int) ∧ Prod.snd d = Prod.snd d ∧ IntKind.wrap IntKind.i64 ((↑x : Int) + (1 : Int)) = (↑x' : Int)) ∧ (decide ((↑x : Int) < Prod.snd d) = false → (↑(rev (Int.toNat (Prod.fst
  d)) x) : Int) = (↑(rev (Int.toNat (Prod.fst d)) (Int.toNat (Prod.snd d))) : Int)) := by
  intro (d : Int × Int) _ hp
  obtain ⟨x, k⟩ := d
  replace hp : (0 ≤ k ∧ k ≤ 9) ∧ 0 ≤ x ∧ x < 2 ^ k.toNat := hp
  obtain ⟨hk, hx0, hx1⟩ := hp
  obtain ⟨n, rfl⟩ := Int.eq_ofNat_of_zero_le hx0
  obtain ⟨m, rfl⟩ := Int.eq_ofNat_of_zero_le hk.1
  simp only [Int.toNat_natCast, exists_const, and_true, true_and, implies_true, decide_eq_true_eq, decide_eq_false_iff_not, Bool.not_eq_true', Bool.not_eq_false', beq_iff_eq, forall_const]
  rw [Int.toNat_natCast] at hx1
  have hpw : (2 : Int) ^ m = ((2 ^ m : Nat) : Int) := (Int.natCast_pow 2 m).symm
  rw [hpw] at hx1
  have h512 := pow_le_512 (k := m) (by omega)
  refine ⟨by omega, ⟨by simp, rfl, rfl⟩, fun j hj => ⟨fun hlt => ⟨by omega, j + 1, by omega, by omega, ?_, ?_, wrap_succ (by omega)⟩, fun hge => ?_⟩⟩
  · have := ishr_nat (n / 2 ^ j) 1 (by omega)
    rw [show ((1 : Nat) : Int) = 1 from rfl] at this
    rw [this, Nat.pow_one, Nat.div_div_eq_div_mul, Nat.pow_succ]
  · have hle : n / 2 ^ j ≤ n := Nat.div_le_self _ _
    have h1 : iand .i64 ((n / 2 ^ j : Nat) : Int) 1 = ((n / 2 ^ j % 2 : Nat) : Int) := iand_one_at ⟨n / 2 ^ j, by omega⟩
    have r1 := rev_lt n j
    have r2 := pow_le_512 (k := j) (by omega)
    rw [h1, wrap_small (n := 2 * ((rev n j : Nat) : Int)) (by omega), wrap_small (by omega), rev]
    omega
  · have hje : j = m := by omega
    subst hje; rfl
theorem v_S_Permute :
  ∀ (d : List Int), Ty.wf listT d → True → True ∧ (Ty.wf i64T (logF (↑(List.length d) : Int)) → (decide (logF (↑(List.length d) : Int) < (0 : Int)) = true → [] = permF d) ∧ (decide (logF (↑(List.length d) : Int) < (0 :
  Int)) = false → (0 : Nat) ≤ List.length d ∧ ((d = d ∧ Value.slice none (0 : Nat) (0 : Nat) = Value.slice none (0 : Nat) (0 : Nat) ∧ logF (↑(List.length d) : Int) = logF (↑(List.length d) : Int) ∧ (0 : Int) = (↑(0 :
  Nat) : Int)) ∧ [] = permL d (0 : Nat)) ∧ ∀ (x : Nat), x ≤ List.length d → (decide ((↑x : Int) < (↑(List.length d) : Int)) = true → (((0 : Tup [i64T]) ≤ logF (↑(List.length d) : Int) ∧ logF (↑(List.length d) : Int) ≤ (9
  : Tup [i64T])) ∧ (0 : Ty.den i64T) ≤ (↑x : Int) ∧ (↑x : Int) < (2 : Ty.den i64T) ^ Int.toNat (logF (↑(List.length d) : Int))) ∧ (Ty.wf i64T (↑(rev (Int.toNat (↑x : Int)) (Int.toNat (logF (↑(List.length d) : Int)))) :
  Int) → ((0 : Int) ≤ (↑(rev (Int.toNat (↑x : Int)) (Int.toNat (logF (↑(List.length d) : Int)))) : Int) ∧ (↑(rev (Int.toNat (↑x : Int)) (Int.toNat (logF (↑(List.length d) : Int)))) : Int) < (↑(List.length d) : Int)) ∧
  (List.length (permL d x) + List.length [List.getD d (Int.toNat (↑(rev (Int.toNat (↑x : Int)) (Int.toNat (logF (↑(List.length d) : Int)))) : Int)) (0 : Int)]) * (8 : Nat) ≤ (140737488355328 : Nat) ∧ ∃ (x' : Nat), x' ≤
  List.length d ∧ List.length d - x' < List.length d - x ∧ (d = d ∧ Value.slice none (0 : Nat) (0 : Nat) = Value.slice none (0 : Nat) (0 : Nat) ∧ logF (↑(List.length d) : Int) = logF (↑(List.length d) : Int) ∧
  IntKind.wrap IntKind.i64 ((↑x : Int) + (1 : Int)) = (↑x' : Int)) ∧ permL d x ++ [List.getD d (Int.toNat (↑(rev (Int.toNat (↑x : Int)) (Int.toNat (logF (↑(List.length d) : Int)))) : Int)) (0 : Int)] = permL d x')) ∧
  (decide ((↑x : Int) < (↑(List.length d) : Int)) = false → permL d x = permF d))) := by
  intro (v : List Int) hw _
  have hl : v.length ≤ 9223372036854775807 := hw.1
  simp only [Int.toNat_natCast, exists_const, and_true, true_and, implies_true, decide_eq_true_eq, decide_eq_false_iff_not, Bool.not_eq_true', Bool.not_eq_false', beq_iff_eq, forall_const]
  intro _
  refine ⟨fun h => by unfold permF; rw [if_neg (by omega)], fun h => ⟨Nat.zero_le _, ⟨rfl, rfl⟩, fun x hx => ⟨fun hlt => ?_, fun hge => ?_⟩⟩⟩
  · obtain ⟨h1, h2⟩ := log_val (n := v.length) (by omega)
    have h512 := pow_le_512 (k := (logF v.length).toNat) (by omega)
    have hr := rev_lt x (logF v.length).toNat
    have hpw : (2 : Int) ^ (logF v.length).toNat = ((2 ^ (logF v.length).toNat : Nat) : Int) := (Int.natCast_pow 2 _).symm
    rw [hpw, perm_len]
    have hpre : (0 ≤ logF v.length ∧ logF v.length ≤ 9) ∧ 0 ≤ (x : Int) ∧ (x : Int) < ((2 ^ (logF v.length).toNat : Nat) : Int) := by omega
    refine ⟨hpre, fun _ => ⟨⟨by omega, by omega⟩, by simp; omega, x + 1, by omega, by omega, wrap_succ (by omega), perm_snoc v x⟩⟩
  · have : x = v.length := by omega
    subst this
    unfold permF; rw [if_pos (by omega)]
theorem v_I_permuted :
  ∀ (d : List Int), Ty.wf listT d → (0 : Int) ≤ logF (↑(List.length d) : Int) → True ∧ (Ty.wf i64T (logF (↑(List.length d) : Int)) → ((0 : Int) ≤ (↑(List.length d) : Int) ∧ (↑(List.length d) : Int) ≤ (↑(List.length d) :
  Int) ∧ (↑(List.length d) : Int) * (↑(8 : Nat) : Int) ≤ (140737488355328 : Int)) ∧ (0 : Nat) ≤ List.length d ∧ ((d = d ∧ Value.slice none (0 : Nat) (0 : Nat) = Value.slice none (0 : Nat) (0 : Nat) ∧ logF (↑(List.length
  d) : Int) = logF (↑(List.length d) : Int) ∧ d = d ∧ (↑(List.length d) : Int) = (↑(List.length d) : Int) ∧ (0 : Int) = (↑(0 : Nat) : Int)) ∧ List.replicate (Int.toNat (↑(List.length d) : Int)) (0 : Int) = permM d (0 :
  Nat)) ∧ ∀ (x : Nat), x ≤ List.length d → (decide ((↑x : Int) < (↑(List.length d) : Int)) = true → ((0 : Int) ≤ (↑x : Int) ∧ (↑x : Int) < (↑(List.length d) : Int)) ∧ (((0 : Tup [i64T]) ≤ logF (↑(List.length d) : Int) ∧
  logF (↑(List.length d) : Int) ≤ (9 : Tup [i64T])) ∧ (0 : Ty.den i64T) ≤ (↑x : Int) ∧ (↑x : Int) < (2 : Ty.den i64T) ^ Int.toNat (logF (↑(List.length d) : Int))) ∧ (Ty.wf i64T (↑(rev (Int.toNat (↑x : Int)) (Int.toNat
  (logF (↑(List.length d) : Int)))) : Int) → ((0 : Int) ≤ (↑(rev (Int.toNat (↑x : Int)) (Int.toNat (logF (↑(List.length d) : Int)))) : Int) ∧ (↑(rev (Int.toNat (↑x : Int)) (Int.toNat (logF (↑(List.length d) : Int)))) :
  Int) < (↑(List.length (permM d x)) : Int)) ∧ ∃ (x' : Nat), x' ≤ List.length d ∧ List.length d - x' < List.length d - x ∧ (d = d ∧ Value.slice none (0 : Nat) (0 : Nat) = Value.slice none (0 : Nat) (0 : Nat) ∧ logF
  (↑(List.length d) : Int) = logF (↑(List.length d) : Int) ∧ d = d ∧ (↑(List.length d) : Int) = (↑(List.length d) : Int) ∧ IntKind.wrap IntKind.i64 ((↑x : Int) + (1 : Int)) = (↑x' : Int)) ∧ List.set (permM d x)
  (Int.toNat (↑(rev (Int.toNat (↑x : Int)) (Int.toNat (logF (↑(List.length d) : Int)))) : Int)) (List.getD d (Int.toNat (↑x : Int)) (0 : Int)) = permM d x')) ∧ (decide ((↑x : Int) < (↑(List.length d) : Int)) = false →
  permM d x = permF d)) := by
  intro (v : List Int) hw (hp : 0 ≤ logF v.length)
  have hl : v.length ≤ 9223372036854775807 := hw.1
  simp only [Int.toNat_natCast, exists_const, and_true, true_and, implies_true, decide_eq_true_eq, decide_eq_false_iff_not, Bool.not_eq_true', Bool.not_eq_false', beq_iff_eq, forall_const]
  intro _
  obtain ⟨h1, h2⟩ := log_val (n := v.length) hp
  have h512 := pow_le_512 (k := (logF v.length).toNat) (by omega)
  have hml : ∀ x, (permM v x).length = v.length := fun x => rgm_len _ _
  refine ⟨⟨by omega, by omega, by omega⟩, Nat.zero_le _, ⟨rfl, permM_zero v⟩, fun x hx => ⟨fun hlt => ?_, fun hge => ?_⟩⟩
  · have hx' : x < v.length := by omega
    have hr := rev_lt x (logF v.length).toNat
    have hpw : (2 : Int) ^ (logF v.length).toNat = ((2 ^ (logF v.length).toNat : Nat) : Int) := (Int.natCast_pow 2 _).symm
    rw [hpw, hml]
    have hpre : (0 ≤ logF v.length ∧ logF v.length ≤ 9) ∧ 0 ≤ (x : Int) ∧ (x : Int) < ((2 ^ (logF v.length).toNat : Nat) : Int) := by omega
    refine ⟨⟨by omega, by omega⟩, hpre, fun _ => ⟨⟨by omega, by omega⟩, x + 1, by omega, by omega, wrap_succ (by omega), ?_⟩⟩
    have hinv := rev_inv (k := (logF v.length).toNat) (x := x) (by omega) (by omega)
    refine rgm_set ?_ (fun b hb hne => ?_)
    · rw [hinv, if_pos (by omega)]
    · have hne2 : rev b (logF v.length).toNat ≠ x := fun e => hne (by rw [← e]; exact (rev_inv (by omega) (by omega)).symm)
      by_cases e : rev b (logF v.length).toNat < x
      · rw [if_pos e, if_pos (by omega)]
      · rw [if_neg e, if_neg (by omega)]
  · have : x = v.length := by omega
    subst this
    unfold permF; rw [if_pos hp]
    refine rgm_eq (fun i _ => ?_)
    have hr := rev_lt i (logF v.length).toNat
    rw [if_pos (by omega)]
theorem v_S_l09Steps :
  ∀ (d : List (Int × Int × Int)), Ty.wf (Ty.sl spT) d → List.length d ≤ (1048576 : Nat) → (0 : Nat) ≤ List.length d ∧ ((d = d ∧ Value.slice none (0 : Nat) (0 : Nat) = Value.slice none (0 : Nat) (0 : Nat) ∧ (0 : Int) =
  (↑(0 : Nat) : Int)) ∧ [] = List.take (0 : Nat) d) ∧ ∀ (x : Nat), x ≤ List.length d → (decide ((↑x : Int) < (↑(List.length d) : Int)) = true → ((0 : Int) ≤ (↑x : Int) ∧ (↑x : Int) < (↑(List.length d) : Int)) ∧
  (List.length (List.take x d) + List.length [(Prod.fst (List.getD d (Int.toNat (↑x : Int)) ((0 : Int), (0 : Int), (0 : Int))), Prod.fst (Prod.snd (List.getD d (Int.toNat (↑x : Int)) ((0 : Int), (0 : Int), (0 : Int)))),
  Prod.snd (Prod.snd (List.getD d (Int.toNat (↑x : Int)) ((0 : Int), (0 : Int), (0 : Int)))))]) * (24 : Nat) ≤ (140737488355328 : Nat) ∧ ∃ (x' : Nat), x' ≤ List.length d ∧ List.length d - x' < List.length d - x ∧ (d = d
  ∧ Value.slice none (0 : Nat) (0 : Nat) = Value.slice none (0 : Nat) (0 : Nat) ∧ IntKind.wrap IntKind.i64 ((↑x : Int) + (1 : Int)) = (↑x' : Int)) ∧ List.take x d ++ [(Prod.fst (List.getD d (Int.toNat (↑x : Int)) ((0 :
  Int), (0 : Int), (0 : Int))), Prod.fst (Prod.snd (List.getD d (Int.toNat (↑x : Int)) ((0 : Int), (0 : Int), (0 : Int)))), Prod.snd (Prod.snd (List.getD d (Int.toNat (↑x : Int)) ((0 : Int), (0 : Int), (0 : Int)))))] =
  List.take x' d) ∧ (decide ((↑x : Int) < (↑(List.length d) : Int)) = false → List.take x d = d) := by
  intro (d : List Sp) hw (hp : d.length ≤ 1048576)
  simp only [Int.toNat_natCast, exists_const, and_true, true_and, implies_true, decide_eq_true_eq, decide_eq_false_iff_not, Bool.not_eq_true', Bool.not_eq_false', beq_iff_eq, forall_const]
  refine ⟨Nat.zero_le _, ⟨rfl, rfl⟩, fun x hx => ⟨fun h => ⟨⟨by omega, by omega⟩, ?_, x + 1, by omega, by omega, wrap_succ (by omega), tk_succ (z := ((0 : Int), (0 : Int), (0 : Int))) (by omega)⟩, fun h => ?_⟩⟩
  · simp; omega
  · rw [List.take_of_length_le (by omega)]
theorem v_S_l15Plan :
  ∀ (d : Int × Int × List (Int × Int × Int)), Ty.wf planT d → List.length (Prod.snd (Prod.snd d)) ≤ (1048576 : Nat) → List.length (Prod.snd (Prod.snd d)) ≤ (1048576 : Nat) ∧ (Ty.wf (Ty.sl spT) (Prod.snd (Prod.snd d)) →
  (Prod.fst d, Prod.fst (Prod.snd d), Prod.snd (Prod.snd d)) = d) := by
  intro d hw hp
  exact ⟨hp, fun _ => rfl⟩
theorem v_I_copyTurner :
  ∀ (d : (Int × Int × List (Int × Int × Int)) × List Int × Int), Ty.wf turnT d → List.length (Prod.snd (Prod.snd (Prod.fst d))) ≤ (1048576 : Nat) ∧ List.length (Prod.fst (Prod.snd d)) ≤ (1048576 : Nat) → ((0 : Nat) +
  List.length (Prod.snd (Prod.snd (Prod.fst d)))) * (24 : Nat) ≤ (140737488355328 : Nat) ∧ ((0 : Nat) + List.length (Prod.fst (Prod.snd d))) * (8 : Nat) ≤ (140737488355328 : Nat) ∧ ((Prod.fst (Prod.fst d), Prod.fst
  (Prod.snd (Prod.fst d)), [] ++ Prod.snd (Prod.snd (Prod.fst d))), [] ++ Prod.fst (Prod.snd d), Prod.snd (Prod.snd d)) = d := by
  intro (d : Tn) hw hp
  obtain ⟨h1, h2⟩ := hp
  exact ⟨by omega, by omega, rfl⟩
theorem v_S_StartTurner :
  ∀ (d : (Int × Int × List (Int × Int × Int)) × List Int), Ty.wf planT (Prod.fst d) ∧ Ty.wf listT (Prod.snd d) → List.length (Prod.snd (Prod.snd (Prod.fst d))) ≤ (1048576 : Nat) → List.length (Prod.snd (Prod.snd
  (Prod.fst d))) ≤ (1048576 : Nat) ∧ (Ty.wf planT (Prod.fst (Prod.fst d), Prod.fst (Prod.snd (Prod.fst d)), Prod.snd (Prod.snd (Prod.fst d))) → True ∧ (Ty.wf listT (permF (Prod.snd d)) → True ∧ ((!turnOkF ((Prod.fst
  (Prod.fst d), Prod.fst (Prod.snd (Prod.fst d)), Prod.snd (Prod.snd (Prod.fst d))), permF (Prod.snd d), (0 : Int))) = true → ((((0 : Int), (0 : Int), []), [], (0 : Int)), false) = startF (Prod.fst d) (Prod.snd d)) ∧
  ((!turnOkF ((Prod.fst (Prod.fst d), Prod.fst (Prod.snd (Prod.fst d)), Prod.snd (Prod.snd (Prod.fst d))), permF (Prod.snd d), (0 : Int))) = false → (((Prod.fst (Prod.fst d), Prod.fst (Prod.snd (Prod.fst d)), Prod.snd
  (Prod.snd (Prod.fst d))), permF (Prod.snd d), (0 : Int)), true) = startF (Prod.fst d) (Prod.snd d)))) := by
  intro (d : Pl × List Int) _ (hp : d.1.2.2.length ≤ 1048576)
  simp only [Int.toNat_natCast, exists_const, and_true, true_and, implies_true, decide_eq_true_eq, decide_eq_false_iff_not, Bool.not_eq_true', Bool.not_eq_false', beq_iff_eq, forall_const]
  refine ⟨hp, fun _ _ => ⟨fun h => ?_, fun h => ?_⟩⟩
  · unfold startF; rw [if_neg (fun hh => by rw [show turnOkF (d.1, permF d.2, 0) = false from h] at hh; cases hh)]
  · unfold startF; rw [if_pos (show turnOkF (d.1, permF d.2, 0) = true from h)]
theorem v_I_StartTurner :
  ∀ (d : (Int × Int × List (Int × Int × Int)) × List Int), Ty.wf planT (Prod.fst d) ∧ Ty.wf listT (Prod.snd d) → List.length (Prod.snd (Prod.snd (Prod.fst d))) ≤ (1048576 : Nat) ∧ List.length (Prod.snd d) ≤ (1048576 :
  Nat) → True ∧ ((!turnOkF ((Prod.fst (Prod.fst d), Prod.fst (Prod.snd (Prod.fst d)), Prod.snd (Prod.snd (Prod.fst d))), Prod.snd d, (0 : Int))) = true → ((((0 : Int), (0 : Int), []), [], (0 : Int)), false) = startF
  (Prod.fst d) (Prod.snd d)) ∧ ((!turnOkF ((Prod.fst (Prod.fst d), Prod.fst (Prod.snd (Prod.fst d)), Prod.snd (Prod.snd (Prod.fst d))), Prod.snd d, (0 : Int))) = false → (List.length (Prod.snd (Prod.snd (Prod.fst d))) ≤
  (1048576 : Nat) ∧ List.length (Prod.snd d) ≤ (1048576 : Nat)) ∧ (Ty.wf turnT ((Prod.fst (Prod.fst d), Prod.fst (Prod.snd (Prod.fst d)), Prod.snd (Prod.snd (Prod.fst d))), Prod.snd d, (0 : Int)) → (0 : Int) ≤ logF
  (↑(List.length (Prod.snd d)) : Int) ∧ (Ty.wf listT (permF (Prod.snd d)) → (((Prod.fst (Prod.fst d), Prod.fst (Prod.snd (Prod.fst d)), Prod.snd (Prod.snd (Prod.fst d))), permF (Prod.snd d), (0 : Int)), true) = startF
  (Prod.fst d) (Prod.snd d)))) := by
  intro (d : Pl × List Int) _ hp
  replace hp : d.1.2.2.length ≤ 1048576 ∧ d.2.length ≤ 1048576 := hp
  simp only [Int.toNat_natCast, exists_const, and_true, true_and, implies_true, decide_eq_true_eq, decide_eq_false_iff_not, Bool.not_eq_true', Bool.not_eq_false', beq_iff_eq, forall_const]
  refine ⟨fun h => ?_, fun h => ⟨hp, fun _ => ⟨vec_log (turn_plan (show turnOkF (d.1, d.2, 0) = true from h)).2.1, fun _ => ?_⟩⟩⟩
  · unfold startF; rw [turn_perm, if_neg (fun hh => by rw [show turnOkF (d.1, d.2, 0) = false from h] at hh; cases hh)]
  · unfold startF; rw [turn_perm, if_pos (show turnOkF (d.1, d.2, 0) = true from h)]
end Go.SF
