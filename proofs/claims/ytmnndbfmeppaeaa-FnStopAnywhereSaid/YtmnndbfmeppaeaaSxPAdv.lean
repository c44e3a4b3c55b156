/- What is owed of the code of turners that go on. No condition. -/
import Derived.Test.YtmnndbfmeppaeaaSxPAdvB
namespace Go.SF
open Go.SX Go
set_option linter.unusedVariables false
set_option linter.unusedSimpArgs false
set_option maxRecDepth 10000
theorem shlN {n : Nat} (h : n ≤ 10) : ishl .i64 1 (n : Int) = ((2 ^ n : Nat) : Int) := by
  rw [ishl_pow (by omega)]
  exact (Int.natCast_pow 2 n).symm
theorem u64N {n : Nat} (h : n ≤ 26) : IntKind.u64.wrap (n : Int) = (n : Int) := u64_small ⟨n, by omega⟩
theorem ishr_div {x : Int} (hx : 0 ≤ x) {i : Nat} (hi : i ≤ 63) : ishr .i64 x (i : Int) = x / 2 ^ i := by
  unfold ishr
  rw [Int.toNat_natCast, show min i IntKind.i64.bits = i by show min i 64 = i; omega, Int.fdiv_eq_ediv_of_nonneg _ (Int.le_of_lt (Int.pow_pos (by omega)))]
theorem stg_no {f : Int} {v : List Int} {s : Int} (h : (vectorOkF f v && decide (0 ≤ s ∧ s ≤ logF v.length - 1)) = false) : [] = stgS f v s := by unfold stgS; rw [h]; rfl
theorem run_no {f : Int} {v : List Int} {s : Sp} (h : (vectorOkF f v && stepOkF (logF v.length) s) = false) : ([], false) = runS f v s := by unfold runS; rw [h]; rfl
theorem B_div {h x y : Nat} (hy : y < h) : (x * h + y) / h = x ∧ (x * h + y) % h = y := by
  rw [Nat.mul_comm, Nat.mul_add_div (by omega), Nat.div_eq_of_lt hy, Nat.mul_add_mod, Nat.mod_eq_of_lt hy]
  exact ⟨rfl, rfl⟩
theorem B_idx {h x y : Nat} (hy : y < h) : idxB h (x * h + y) = x * (2 * h) + y := by
  unfold idxB
  rw [(B_div hy).1, (B_div hy).2]
theorem v_S_Generator :
  ∀ (d : Int), Ty.wf i64T d → True → (decide (d = (0 : Int)) = true → (decide (d = (0 : Int)) = true → (3 : Int) = genF d) ∧ (decide (d = (0 : Int)) = false → (decide (d = (1 : Int)) = true → (decide (d = (1 : Int)) =
  true → (5 : Int) = genF d) ∧ (decide (d = (1 : Int)) = false → (decide (d = (4 : Int)) = true → (17 : Int) = genF d) ∧ (decide (d = (4 : Int)) = false → (decide (d = (5 : Int)) = true → (11 : Int) = genF d) ∧ (decide
  (d = (5 : Int)) = false → (0 : Int) = genF d)))) ∧ (decide (d = (1 : Int)) = false → (decide (d = (2 : Int)) = true → (5 : Int) = genF d) ∧ (decide (d = (2 : Int)) = false → (decide (d = (4 : Int)) = true → (17 : Int)
  = genF d) ∧ (decide (d = (4 : Int)) = false → (decide (d = (5 : Int)) = true → (11 : Int) = genF d) ∧ (decide (d = (5 : Int)) = false → (0 : Int) = genF d)))))) ∧ (decide (d = (0 : Int)) = false → (decide (d = (3 :
  Int)) = true → (decide (d = (3 : Int)) = true → (3 : Int) = genF d) ∧ (decide (d = (3 : Int)) = false → (decide (d = (1 : Int)) = true → (decide (d = (1 : Int)) = true → (5 : Int) = genF d) ∧ (decide (d = (1 : Int)) =
  false → (decide (d = (4 : Int)) = true → (17 : Int) = genF d) ∧ (decide (d = (4 : Int)) = false → (decide (d = (5 : Int)) = true → (11 : Int) = genF d) ∧ (decide (d = (5 : Int)) = false → (0 : Int) = genF d)))) ∧
  (decide (d = (1 : Int)) = false → (decide (d = (2 : Int)) = true → (5 : Int) = genF d) ∧ (decide (d = (2 : Int)) = false → (decide (d = (4 : Int)) = true → (17 : Int) = genF d) ∧ (decide (d = (4 : Int)) = false →
  (decide (d = (5 : Int)) = true → (11 : Int) = genF d) ∧ (decide (d = (5 : Int)) = false → (0 : Int) = genF d)))))) ∧ (decide (d = (3 : Int)) = false → (decide (d = (6 : Int)) = true → (decide (d = (6 : Int)) = true →
  (3 : Int) = genF d) ∧ (decide (d = (6 : Int)) = false → (decide (d = (1 : Int)) = true → (decide (d = (1 : Int)) = true → (5 : Int) = genF d) ∧ (decide (d = (1 : Int)) = false → (decide (d = (4 : Int)) = true → (17 :
  Int) = genF d) ∧ (decide (d = (4 : Int)) = false → (decide (d = (5 : Int)) = true → (11 : Int) = genF d) ∧ (decide (d = (5 : Int)) = false → (0 : Int) = genF d)))) ∧ (decide (d = (1 : Int)) = false → (decide (d = (2 :
  Int)) = true → (5 : Int) = genF d) ∧ (decide (d = (2 : Int)) = false → (decide (d = (4 : Int)) = true → (17 : Int) = genF d) ∧ (decide (d = (4 : Int)) = false → (decide (d = (5 : Int)) = true → (11 : Int) = genF d) ∧
  (decide (d = (5 : Int)) = false → (0 : Int) = genF d)))))) ∧ (decide (d = (6 : Int)) = false → (decide (d = (7 : Int)) = true → (decide (d = (7 : Int)) = true → (3 : Int) = genF d) ∧ (decide (d = (7 : Int)) = false →
  (decide (d = (1 : Int)) = true → (decide (d = (1 : Int)) = true → (5 : Int) = genF d) ∧ (decide (d = (1 : Int)) = false → (decide (d = (4 : Int)) = true → (17 : Int) = genF d) ∧ (decide (d = (4 : Int)) = false →
  (decide (d = (5 : Int)) = true → (11 : Int) = genF d) ∧ (decide (d = (5 : Int)) = false → (0 : Int) = genF d)))) ∧ (decide (d = (1 : Int)) = false → (decide (d = (2 : Int)) = true → (5 : Int) = genF d) ∧ (decide (d =
  (2 : Int)) = false → (decide (d = (4 : Int)) = true → (17 : Int) = genF d) ∧ (decide (d = (4 : Int)) = false → (decide (d = (5 : Int)) = true → (11 : Int) = genF d) ∧ (decide (d = (5 : Int)) = false → (0 : Int) = genF
  d)))))) ∧ (decide (d = (7 : Int)) = false → (decide (d = (8 : Int)) = true → (3 : Int) = genF d) ∧ (decide (d = (8 : Int)) = false → (decide (d = (1 : Int)) = true → (decide (d = (1 : Int)) = true → (5 : Int) = genF d)
  ∧ (decide (d = (1 : Int)) = false → (decide (d = (4 : Int)) = true → (17 : Int) = genF d) ∧ (decide (d = (4 : Int)) = false → (decide (d = (5 : Int)) = true → (11 : Int) = genF d) ∧ (decide (d = (5 : Int)) = false → (0
  : Int) = genF d)))) ∧ (decide (d = (1 : Int)) = false → (decide (d = (2 : Int)) = true → (5 : Int) = genF d) ∧ (decide (d = (2 : Int)) = false → (decide (d = (4 : Int)) = true → (17 : Int) = genF d) ∧ (decide (d = (4 :
  Int)) = false → (decide (d = (5 : Int)) = true → (11 : Int) = genF d) ∧ (decide (d = (5 : Int)) = false → (0 : Int) = genF d))))))))) := by
  intro (f : Int) _ _
  by_cases h : 0 ≤ f ∧ f < 9
  · rcases field_cases h with rfl | rfl | rfl | rfl | rfl | rfl | rfl | rfl | rfl <;> simp [show genF 0 = 3 from rfl, show genF 1 = 5 from rfl, show genF 2 = 5 from rfl, show genF 3 = 3 from rfl, show genF 4 = 17 from rfl, show genF 5 = 11 from rfl, show genF 6 = 3 from rfl, show genF 7 = 3 from rfl, show genF 8 = 3 from rfl]
  · rw [gen_none h]
    simp only [Int.toNat_natCast, exists_const, and_true, true_and, implies_true, decide_eq_true_eq, decide_eq_false_iff_not, Bool.not_eq_true', Bool.not_eq_false', beq_iff_eq, forall_const]
    omega
theorem v_S_RootOf :
  ∀ (d : Int × Int), Ty.wf i64T (Prod.fst d) ∧ Ty.wf i64T (Prod.snd d) → True → True ∧ (Ty.wf i64T (modF (Prod.fst d)) → (decide (modF (Prod.fst d) = (0 : Int)) = true → (-1 : Int) = rootS (Prod.fst d) (Prod.snd d)) ∧
  (decide (modF (Prod.fst d) = (0 : Int)) = false → True ∧ (Ty.wf i64T (twoF (Prod.fst d)) → True ∧ ((!(decide ((0 : Int) ≤ Prod.snd d) && decide (Prod.snd d ≤ twoF (Prod.fst d)))) = true → (-1 : Int) = rootS (Prod.fst
  d) (Prod.snd d)) ∧ ((!(decide ((0 : Int) ≤ Prod.snd d) && decide (Prod.snd d ≤ twoF (Prod.fst d)))) = false → True ∧ (Ty.wf i64T (genF (Prod.fst d)) → True ∧ (Ty.wf i64T (modF (Prod.fst d)) → (0 : Int) ≤ IntKind.wrap
  IntKind.u64 (Prod.snd d) ∧ True ∧ (Ty.wf i64T (powS (Prod.fst d) (genF (Prod.fst d)) (ishr IntKind.i64 (IntKind.wrap IntKind.i64 (modF (Prod.fst d) - (1 : Int))) (IntKind.wrap IntKind.u64 (Prod.snd d)))) → powS
  (Prod.fst d) (genF (Prod.fst d)) (ishr IntKind.i64 (IntKind.wrap IntKind.i64 (modF (Prod.fst d) - (1 : Int))) (IntKind.wrap IntKind.u64 (Prod.snd d))) = rootS (Prod.fst d) (Prod.snd d)))))))) := by
  intro (d : Int × Int) hw hp
  obtain ⟨f, k⟩ := d
  simp only [Int.toNat_natCast, exists_const, and_true, true_and, implies_true, decide_eq_true_eq, decide_eq_false_iff_not, Bool.not_eq_true', Bool.not_eq_false', beq_iff_eq, forall_const]
  intro _
  refine ⟨fun h => by unfold rootS; rw [if_neg (fun hh => hh.1 h)], fun h _ => ⟨fun h1 => ?_, fun h1 _ _ => ?_⟩⟩
  · unfold rootS
    rw [if_neg (fun hh => by rw [decide_eq_true hh.2.1, decide_eq_true hh.2.2] at h1; cases h1)]
  · simp only [Bool.and_eq_true, decide_eq_true_eq] at h1
    obtain ⟨hp, hf⟩ := mod_is h
    have hb := mod_pos hf
    obtain ⟨n, rfl⟩ := Int.eq_ofNat_of_zero_le h1.1
    unfold IsMod at hp
    rw [u64N (by omega), wrap_small (n := modF f - 1) (by omega), ishr_div (by omega) (by omega), powS_at h]
    refine ⟨by omega, fun _ => ?_⟩
    unfold rootS
    rw [if_pos ⟨h, h1⟩, Int.toNat_natCast]
theorem v_I_root :
  ∀ (d : (Int × Int × Int) × Int), Ty.wf fldT (Prod.fst d) ∧ Ty.wf i64T (Prod.snd d) → IsMod (Prod.fst (Prod.fst d)) ∧ El (Prod.fst (Prod.fst d)) (Prod.fst (Prod.snd (Prod.fst d))) ∧ (0 : Tup [i64T]) ≤ Prod.snd d ∧
  Prod.snd d ≤ (30 : Tup [i64T]) → (0 : Int) ≤ Prod.snd d ∧ (IsMod (Prod.fst (Prod.fst d)) ∧ El (Prod.fst (Prod.fst d)) (Prod.fst (Prod.snd (Prod.fst d))) ∧ (0 : Tup [i64T]) ≤ ishr IntKind.i64 (IntKind.wrap IntKind.i64
  (Prod.fst (Prod.fst d) - (1 : Int))) (Prod.snd d)) ∧ (Ty.wf i64T (powM (Prod.fst (Prod.fst d)) (Prod.fst (Prod.snd (Prod.fst d))) (Int.toNat (ishr IntKind.i64 (IntKind.wrap IntKind.i64 (Prod.fst (Prod.fst d) - (1 :
  Int))) (Prod.snd d)))) → powM (Prod.fst (Prod.fst d)) (Prod.fst (Prod.snd (Prod.fst d))) (Int.toNat (ishr IntKind.i64 (IntKind.wrap IntKind.i64 (Prod.fst (Prod.fst d) - (1 : Int))) (Prod.snd d))) = rootI (Prod.fst d)
  (Prod.snd d)) := by
  intro (d : Fd × Int) hw hp
  obtain ⟨⟨p, g, u⟩, k⟩ := d
  replace hp : IsMod p ∧ El p g ∧ (0 : Int) ≤ k ∧ k ≤ 30 := hp
  simp only [Int.toNat_natCast, exists_const, and_true, true_and, implies_true, decide_eq_true_eq, decide_eq_false_iff_not, Bool.not_eq_true', Bool.not_eq_false', beq_iff_eq, forall_const]
  obtain ⟨h0, h1, h2, h3⟩ := hp
  obtain ⟨n, rfl⟩ := Int.eq_ofNat_of_zero_le h2
  have h0' := h0
  unfold IsMod at h0'
  rw [wrap_small (n := p - 1) (by omega), ishr_div (by omega) (by omega)]
  refine ⟨by omega, ⟨h0, h1, ?_⟩, fun _ => rfl⟩
  exact Int.ediv_nonneg (by omega) (Int.le_of_lt (Int.pow_pos (by omega)))
theorem idx_go {h : Nat} (hh : 0 < h) {x : Nat} (hx : x ≤ 512) (hh5 : h ≤ 512) : IntKind.i64.wrap (IntKind.i64.wrap (IntKind.i64.wrap (IntKind.i64.wrap (((x : Nat) : Int).tdiv ((h : Nat) : Int)) * 2) * ((h : Nat) : Int)) + ((x : Nat) : Int).tmod ((h : Nat) : Int)) = ((idxB h x : Nat) : Int) := by
  have h1 : ((x : Nat) : Int).tdiv ((h : Nat) : Int) = ((x / h : Nat) : Int) := rfl
  have h2 : ((x : Nat) : Int).tmod ((h : Nat) : Int) = ((x % h : Nat) : Int) := rfl
  have h3 := Nat.div_le_self x h
  have h4 := Nat.mod_lt x hh
  have h5 : x / h * (2 * h) = x / h * 2 * h := by rw [Nat.mul_assoc]
  have h6 : x / h * 2 * h ≤ 2 * x := by
    have := Nat.div_mul_le_self x h
    rw [Nat.mul_comm (x / h) 2, Nat.mul_assoc]
    omega
  have h7 : ((x / h : Nat) : Int) * 2 * ((h : Nat) : Int) = ((x / h * 2 * h : Nat) : Int) := by rw [Int.natCast_mul, Int.natCast_mul]; rfl
  have n1 : (0 : Int) ≤ ((x / h : Nat) : Int) := Int.natCast_nonneg _
  have n2 : ((x / h : Nat) : Int) ≤ 512 := by
    have : ((x / h : Nat) : Int) ≤ ((x : Nat) : Int) := Int.ofNat_le.2 h3
    omega
  have n3 : ((x / h * 2 * h : Nat) : Int) ≤ 1024 := by
    have : ((x / h * 2 * h : Nat) : Int) ≤ ((2 * x : Nat) : Int) := Int.ofNat_le.2 h6
    omega
  have n4 : (0 : Int) ≤ ((x / h * 2 * h : Nat) : Int) := Int.natCast_nonneg _
  have n5 : (0 : Int) ≤ ((x % h : Nat) : Int) := Int.natCast_nonneg _
  have n6 : ((x % h : Nat) : Int) ≤ 512 := by
    have : ((x % h : Nat) : Int) < ((h : Nat) : Int) := Int.ofNat_lt.2 h4
    omega
  unfold idxB
  rw [h1, h2, h5, Int.natCast_add]
  generalize ((x % h : Nat) : Int) = r at *
  generalize ((x / h * 2 * h : Nat) : Int) = z at *
  generalize ((x / h : Nat) : Int) = q at *
  rw [wrap_small (n := q) (by omega), wrap_small (n := q * 2) (by omega), h7, wrap_small (n := z) (by omega), wrap_small (by omega)]
theorem halfN {K : Nat} : halfF (K : Int) = ((2 ^ K / 2 : Nat) : Int) := by
  unfold halfF
  rw [Int.toNat_natCast, show (2 : Int) ^ K = ((2 ^ K : Nat) : Int) from (Int.natCast_pow 2 K).symm]
  rfl
theorem v_I_runStep :
  ∀ (d : (Int × Int × Int) × List Int × Int × Int × Int), Ty.wf fldT (Prod.fst d) ∧ Ty.wf listT (Prod.fst (Prod.snd d)) ∧ Ty.wf spT (Prod.snd (Prod.snd d)) → (∃ (f : Int), vectorOkF f (Prod.fst (Prod.snd d)) = true ∧
  Prod.fst d = Prod.fst (fieldF f)) ∧ stepOkF (logF (↑(List.length (Prod.fst (Prod.snd d))) : Int)) (Prod.snd (Prod.snd d)) = true → ((0 : Nat) + List.length (Prod.fst (Prod.snd d))) * (8 : Nat) ≤ (140737488355328 : Nat)
  ∧ (0 : Int) ≤ Prod.fst (Prod.snd (Prod.snd d)) ∧ (IsMod (Prod.fst (Prod.fst d)) ∧ El (Prod.fst (Prod.fst d)) (Prod.fst (Prod.snd (Prod.fst d))) ∧ (0 : Tup [i64T]) ≤ IntKind.wrap IntKind.i64 (Prod.fst (Prod.snd
  (Prod.snd d)) + (1 : Int)) ∧ IntKind.wrap IntKind.i64 (Prod.fst (Prod.snd (Prod.snd d)) + (1 : Int)) ≤ (30 : Tup [i64T])) ∧ (Ty.wf i64T (rootI (Prod.fst (Prod.fst d), Prod.fst (Prod.snd (Prod.fst d)), Prod.snd
  (Prod.snd (Prod.fst d))) (IntKind.wrap IntKind.i64 (Prod.fst (Prod.snd (Prod.snd d)) + (1 : Int)))) → (Int.toNat (Prod.fst (Prod.snd (Prod.snd (Prod.snd d)))) ≤ Int.toNat (Prod.fst (Prod.snd (Prod.snd (Prod.snd d)))) ∧
  Int.toNat (Prod.fst (Prod.snd (Prod.snd (Prod.snd d)))) ≤ Int.toNat (Prod.snd (Prod.snd (Prod.snd (Prod.snd d))))) ∧ (((Prod.fst (Prod.fst d) = Prod.fst (Prod.fst d) ∧ Prod.fst (Prod.snd (Prod.fst d)) = Prod.fst
  (Prod.snd (Prod.fst d)) ∧ Prod.snd (Prod.snd (Prod.fst d)) = Prod.snd (Prod.snd (Prod.fst d))) ∧ Prod.fst (Prod.snd d) = Prod.fst (Prod.snd d) ∧ (Prod.fst (Prod.snd (Prod.snd d)) = Prod.fst (Prod.snd (Prod.snd d)) ∧
  Prod.fst (Prod.snd (Prod.snd (Prod.snd d))) = Prod.fst (Prod.snd (Prod.snd (Prod.snd d))) ∧ Prod.snd (Prod.snd (Prod.snd (Prod.snd d))) = Prod.snd (Prod.snd (Prod.snd (Prod.snd d)))) ∧ Value.slice none (0 : Nat) (0 :
  Nat) = Value.slice none (0 : Nat) (0 : Nat) ∧ ishl IntKind.i64 (1 : Int) (Prod.fst (Prod.snd (Prod.snd d))) = ishl IntKind.i64 (1 : Int) (Prod.fst (Prod.snd (Prod.snd d))) ∧ rootI (Prod.fst (Prod.fst d), Prod.fst
  (Prod.snd (Prod.fst d)), Prod.snd (Prod.snd (Prod.fst d))) (IntKind.wrap IntKind.i64 (Prod.fst (Prod.snd (Prod.snd d)) + (1 : Int))) = rootI (Prod.fst (Prod.fst d), Prod.fst (Prod.snd (Prod.fst d)), Prod.snd (Prod.snd
  (Prod.fst d))) (IntKind.wrap IntKind.i64 (Prod.fst (Prod.snd (Prod.snd d)) + (1 : Int))) ∧ Prod.fst (Prod.snd (Prod.snd (Prod.snd d))) = (↑(Int.toNat (Prod.fst (Prod.snd (Prod.snd (Prod.snd d))))) : Int)) ∧ (Prod.fst
  (Prod.fst d) = Prod.fst (Prod.fst d) ∧ Prod.fst (Prod.snd (Prod.fst d)) = Prod.fst (Prod.snd (Prod.fst d)) ∧ Prod.snd (Prod.snd (Prod.fst d)) = Prod.snd (Prod.snd (Prod.fst d))) ∧ (Prod.fst (Prod.snd (Prod.snd d)) =
  Prod.fst (Prod.snd (Prod.snd d)) ∧ Prod.fst (Prod.snd (Prod.snd (Prod.snd d))) = Prod.fst (Prod.snd (Prod.snd (Prod.snd d))) ∧ Prod.snd (Prod.snd (Prod.snd (Prod.snd d))) = Prod.snd (Prod.snd (Prod.snd (Prod.snd d))))
  ∧ [] ++ Prod.fst (Prod.snd d) = rgL (Prod.fst d) (Prod.fst (Prod.snd d)) (Int.toNat (Prod.fst (Prod.snd (Prod.snd d)))) (Int.toNat (Prod.fst (Prod.snd (Prod.snd (Prod.snd d))))) (Int.toNat (Prod.fst (Prod.snd (Prod.snd
  (Prod.snd d)))))) ∧ ∀ (x : Nat), Int.toNat (Prod.fst (Prod.snd (Prod.snd (Prod.snd d)))) ≤ x ∧ x ≤ Int.toNat (Prod.snd (Prod.snd (Prod.snd (Prod.snd d)))) → (decide ((↑x : Int) < Prod.snd (Prod.snd (Prod.snd (Prod.snd
  d)))) = true → ishl IntKind.i64 (1 : Int) (Prod.fst (Prod.snd (Prod.snd d))) ≠ (0 : Int) ∧ ishl IntKind.i64 (1 : Int) (Prod.fst (Prod.snd (Prod.snd d))) ≠ (0 : Int) ∧ ((0 : Int) ≤ IntKind.wrap IntKind.i64 (IntKind.wrap
  IntKind.i64 (IntKind.wrap IntKind.i64 (IntKind.wrap IntKind.i64 (Int.tdiv (↑x : Int) (ishl IntKind.i64 (1 : Int) (Prod.fst (Prod.snd (Prod.snd d))))) * (2 : Int)) * ishl IntKind.i64 (1 : Int) (Prod.fst (Prod.snd
  (Prod.snd d)))) + Int.tmod (↑x : Int) (ishl IntKind.i64 (1 : Int) (Prod.fst (Prod.snd (Prod.snd d))))) ∧ IntKind.wrap IntKind.i64 (IntKind.wrap IntKind.i64 (IntKind.wrap IntKind.i64 (IntKind.wrap IntKind.i64 (Int.tdiv
  (↑x : Int) (ishl IntKind.i64 (1 : Int) (Prod.fst (Prod.snd (Prod.snd d))))) * (2 : Int)) * ishl IntKind.i64 (1 : Int) (Prod.fst (Prod.snd (Prod.snd d)))) + Int.tmod (↑x : Int) (ishl IntKind.i64 (1 : Int) (Prod.fst
  (Prod.snd (Prod.snd d))))) < (↑(List.length (Prod.fst (Prod.snd d))) : Int)) ∧ ((0 : Int) ≤ IntKind.wrap IntKind.i64 (IntKind.wrap IntKind.i64 (IntKind.wrap IntKind.i64 (IntKind.wrap IntKind.i64 (IntKind.wrap
  IntKind.i64 (Int.tdiv (↑x : Int) (ishl IntKind.i64 (1 : Int) (Prod.fst (Prod.snd (Prod.snd d))))) * (2 : Int)) * ishl IntKind.i64 (1 : Int) (Prod.fst (Prod.snd (Prod.snd d)))) + Int.tmod (↑x : Int) (ishl IntKind.i64 (1
  : Int) (Prod.fst (Prod.snd (Prod.snd d))))) + ishl IntKind.i64 (1 : Int) (Prod.fst (Prod.snd (Prod.snd d)))) ∧ IntKind.wrap IntKind.i64 (IntKind.wrap IntKind.i64 (IntKind.wrap IntKind.i64 (IntKind.wrap IntKind.i64
  (IntKind.wrap IntKind.i64 (Int.tdiv (↑x : Int) (ishl IntKind.i64 (1 : Int) (Prod.fst (Prod.snd (Prod.snd d))))) * (2 : Int)) * ishl IntKind.i64 (1 : Int) (Prod.fst (Prod.snd (Prod.snd d)))) + Int.tmod (↑x : Int) (ishl
  IntKind.i64 (1 : Int) (Prod.fst (Prod.snd (Prod.snd d))))) + ishl IntKind.i64 (1 : Int) (Prod.fst (Prod.snd (Prod.snd d)))) < (↑(List.length (Prod.fst (Prod.snd d))) : Int)) ∧ ishl IntKind.i64 (1 : Int) (Prod.fst
  (Prod.snd (Prod.snd d))) ≠ (0 : Int) ∧ (IsMod (Prod.fst (Prod.fst d)) ∧ El (Prod.fst (Prod.fst d)) (rootI (Prod.fst (Prod.fst d), Prod.fst (Prod.snd (Prod.fst d)), Prod.snd (Prod.snd (Prod.fst d))) (IntKind.wrap
  IntKind.i64 (Prod.fst (Prod.snd (Prod.snd d)) + (1 : Int)))) ∧ (0 : Tup [i64T]) ≤ Int.tmod (↑x : Int) (ishl IntKind.i64 (1 : Int) (Prod.fst (Prod.snd (Prod.snd d))))) ∧ (IsMod (Prod.fst (Prod.fst d)) ∧ El (Prod.fst
  (Prod.fst d)) (List.getD (Prod.fst (Prod.snd d)) (Int.toNat (IntKind.wrap IntKind.i64 (IntKind.wrap IntKind.i64 (IntKind.wrap IntKind.i64 (IntKind.wrap IntKind.i64 (IntKind.wrap IntKind.i64 (Int.tdiv (↑x : Int) (ishl
  IntKind.i64 (1 : Int) (Prod.fst (Prod.snd (Prod.snd d))))) * (2 : Int)) * ishl IntKind.i64 (1 : Int) (Prod.fst (Prod.snd (Prod.snd d)))) + Int.tmod (↑x : Int) (ishl IntKind.i64 (1 : Int) (Prod.fst (Prod.snd (Prod.snd
  d))))) + ishl IntKind.i64 (1 : Int) (Prod.fst (Prod.snd (Prod.snd d)))))) (0 : Int)) ∧ El (Prod.fst (Prod.fst d)) (powM (Prod.fst (Prod.fst d)) (rootI (Prod.fst (Prod.fst d), Prod.fst (Prod.snd (Prod.fst d)), Prod.snd
  (Prod.snd (Prod.fst d))) (IntKind.wrap IntKind.i64 (Prod.fst (Prod.snd (Prod.snd d)) + (1 : Int)))) (Int.toNat (Int.tmod (↑x : Int) (ishl IntKind.i64 (1 : Int) (Prod.fst (Prod.snd (Prod.snd d)))))))) ∧ (Ty.wf i64T
  (mulM (Prod.fst (Prod.fst d)) (List.getD (Prod.fst (Prod.snd d)) (Int.toNat (IntKind.wrap IntKind.i64 (IntKind.wrap IntKind.i64 (IntKind.wrap IntKind.i64 (IntKind.wrap IntKind.i64 (IntKind.wrap IntKind.i64 (Int.tdiv
  (↑x : Int) (ishl IntKind.i64 (1 : Int) (Prod.fst (Prod.snd (Prod.snd d))))) * (2 : Int)) * ishl IntKind.i64 (1 : Int) (Prod.fst (Prod.snd (Prod.snd d)))) + Int.tmod (↑x : Int) (ishl IntKind.i64 (1 : Int) (Prod.fst
  (Prod.snd (Prod.snd d))))) + ishl IntKind.i64 (1 : Int) (Prod.fst (Prod.snd (Prod.snd d)))))) (0 : Int)) (powM (Prod.fst (Prod.fst d)) (rootI (Prod.fst (Prod.fst d), Prod.fst (Prod.snd (Prod.fst d)), Prod.snd (Prod.snd
  (Prod.fst d))) (IntKind.wrap IntKind.i64 (Prod.fst (Prod.snd (Prod.snd d)) + (1 : Int)))) (Int.toNat (Int.tmod (↑x : Int) (ishl IntKind.i64 (1 : Int) (Prod.fst (Prod.snd (Prod.snd d)))))))) → Ty.wf i64T (powM (Prod.fst
  (Prod.fst d)) (rootI (Prod.fst (Prod.fst d), Prod.fst (Prod.snd (Prod.fst d)), Prod.snd (Prod.snd (Prod.fst d))) (IntKind.wrap IntKind.i64 (Prod.fst (Prod.snd (Prod.snd d)) + (1 : Int)))) (Int.toNat (Int.tmod (↑x :
  Int) (ishl IntKind.i64 (1 : Int) (Prod.fst (Prod.snd (Prod.snd d))))))) → (IsMod (Prod.fst (Prod.fst d)) ∧ El (Prod.fst (Prod.fst d)) (List.getD (Prod.fst (Prod.snd d)) (Int.toNat (IntKind.wrap IntKind.i64
  (IntKind.wrap IntKind.i64 (IntKind.wrap IntKind.i64 (IntKind.wrap IntKind.i64 (Int.tdiv (↑x : Int) (ishl IntKind.i64 (1 : Int) (Prod.fst (Prod.snd (Prod.snd d))))) * (2 : Int)) * ishl IntKind.i64 (1 : Int) (Prod.fst
  (Prod.snd (Prod.snd d)))) + Int.tmod (↑x : Int) (ishl IntKind.i64 (1 : Int) (Prod.fst (Prod.snd (Prod.snd d))))))) (0 : Int)) ∧ El (Prod.fst (Prod.fst d)) (mulM (Prod.fst (Prod.fst d)) (List.getD (Prod.fst (Prod.snd
  d)) (Int.toNat (IntKind.wrap IntKind.i64 (IntKind.wrap IntKind.i64 (IntKind.wrap IntKind.i64 (IntKind.wrap IntKind.i64 (IntKind.wrap IntKind.i64 (Int.tdiv (↑x : Int) (ishl IntKind.i64 (1 : Int) (Prod.fst (Prod.snd
  (Prod.snd d))))) * (2 : Int)) * ishl IntKind.i64 (1 : Int) (Prod.fst (Prod.snd (Prod.snd d)))) + Int.tmod (↑x : Int) (ishl IntKind.i64 (1 : Int) (Prod.fst (Prod.snd (Prod.snd d))))) + ishl IntKind.i64 (1 : Int)
  (Prod.fst (Prod.snd (Prod.snd d)))))) (0 : Int)) (powM (Prod.fst (Prod.fst d)) (rootI (Prod.fst (Prod.fst d), Prod.fst (Prod.snd (Prod.fst d)), Prod.snd (Prod.snd (Prod.fst d))) (IntKind.wrap IntKind.i64 (Prod.fst
  (Prod.snd (Prod.snd d)) + (1 : Int)))) (Int.toNat (Int.tmod (↑x : Int) (ishl IntKind.i64 (1 : Int) (Prod.fst (Prod.snd (Prod.snd d))))))))) ∧ (Ty.wf i64T (addM (Prod.fst (Prod.fst d)) (List.getD (Prod.fst (Prod.snd d))
  (Int.toNat (IntKind.wrap IntKind.i64 (IntKind.wrap IntKind.i64 (IntKind.wrap IntKind.i64 (IntKind.wrap IntKind.i64 (Int.tdiv (↑x : Int) (ishl IntKind.i64 (1 : Int) (Prod.fst (Prod.snd (Prod.snd d))))) * (2 : Int)) *
  ishl IntKind.i64 (1 : Int) (Prod.fst (Prod.snd (Prod.snd d)))) + Int.tmod (↑x : Int) (ishl IntKind.i64 (1 : Int) (Prod.fst (Prod.snd (Prod.snd d))))))) (0 : Int)) (mulM (Prod.fst (Prod.fst d)) (List.getD (Prod.fst
  (Prod.snd d)) (Int.toNat (IntKind.wrap IntKind.i64 (IntKind.wrap IntKind.i64 (IntKind.wrap IntKind.i64 (IntKind.wrap IntKind.i64 (IntKind.wrap IntKind.i64 (Int.tdiv (↑x : Int) (ishl IntKind.i64 (1 : Int) (Prod.fst
  (Prod.snd (Prod.snd d))))) * (2 : Int)) * ishl IntKind.i64 (1 : Int) (Prod.fst (Prod.snd (Prod.snd d)))) + Int.tmod (↑x : Int) (ishl IntKind.i64 (1 : Int) (Prod.fst (Prod.snd (Prod.snd d))))) + ishl IntKind.i64 (1 :
  Int) (Prod.fst (Prod.snd (Prod.snd d)))))) (0 : Int)) (powM (Prod.fst (Prod.fst d)) (rootI (Prod.fst (Prod.fst d), Prod.fst (Prod.snd (Prod.fst d)), Prod.snd (Prod.snd (Prod.fst d))) (IntKind.wrap IntKind.i64 (Prod.fst
  (Prod.snd (Prod.snd d)) + (1 : Int)))) (Int.toNat (Int.tmod (↑x : Int) (ishl IntKind.i64 (1 : Int) (Prod.fst (Prod.snd (Prod.snd d))))))))) → ((0 : Int) ≤ IntKind.wrap IntKind.i64 (IntKind.wrap IntKind.i64
  (IntKind.wrap IntKind.i64 (IntKind.wrap IntKind.i64 (Int.tdiv (↑x : Int) (ishl IntKind.i64 (1 : Int) (Prod.fst (Prod.snd (Prod.snd d))))) * (2 : Int)) * ishl IntKind.i64 (1 : Int) (Prod.fst (Prod.snd (Prod.snd d)))) +
  Int.tmod (↑x : Int) (ishl IntKind.i64 (1 : Int) (Prod.fst (Prod.snd (Prod.snd d))))) ∧ IntKind.wrap IntKind.i64 (IntKind.wrap IntKind.i64 (IntKind.wrap IntKind.i64 (IntKind.wrap IntKind.i64 (Int.tdiv (↑x : Int) (ishl
  IntKind.i64 (1 : Int) (Prod.fst (Prod.snd (Prod.snd d))))) * (2 : Int)) * ishl IntKind.i64 (1 : Int) (Prod.fst (Prod.snd (Prod.snd d)))) + Int.tmod (↑x : Int) (ishl IntKind.i64 (1 : Int) (Prod.fst (Prod.snd (Prod.snd
  d))))) < (↑(List.length (rgL (Prod.fst d) (Prod.fst (Prod.snd d)) (Int.toNat (Prod.fst (Prod.snd (Prod.snd d)))) (Int.toNat (Prod.fst (Prod.snd (Prod.snd (Prod.snd d))))) x)) : Int)) ∧ (IsMod (Prod.fst (Prod.fst d)) ∧
  El (Prod.fst (Prod.fst d)) (List.getD (Prod.fst (Prod.snd d)) (Int.toNat (IntKind.wrap IntKind.i64 (IntKind.wrap IntKind.i64 (IntKind.wrap IntKind.i64 (IntKind.wrap IntKind.i64 (Int.tdiv (↑x : Int) (ishl IntKind.i64 (1
  : Int) (Prod.fst (Prod.snd (Prod.snd d))))) * (2 : Int)) * ishl IntKind.i64 (1 : Int) (Prod.fst (Prod.snd (Prod.snd d)))) + Int.tmod (↑x : Int) (ishl IntKind.i64 (1 : Int) (Prod.fst (Prod.snd (Prod.snd d))))))) (0 :
  Int)) ∧ El (Prod.fst (Prod.fst d)) (mulM (Prod.fst (Prod.fst d)) (List.getD (Prod.fst (Prod.snd d)) (Int.toNat (IntKind.wrap IntKind.i64 (IntKind.wrap IntKind.i64 (IntKind.wrap IntKind.i64 (IntKind.wrap IntKind.i64
  (IntKind.wrap IntKind.i64 (Int.tdiv (↑x : Int) (ishl IntKind.i64 (1 : Int) (Prod.fst (Prod.snd (Prod.snd d))))) * (2 : Int)) * ishl IntKind.i64 (1 : Int) (Prod.fst (Prod.snd (Prod.snd d)))) + Int.tmod (↑x : Int) (ishl
  IntKind.i64 (1 : Int) (Prod.fst (Prod.snd (Prod.snd d))))) + ishl IntKind.i64 (1 : Int) (Prod.fst (Prod.snd (Prod.snd d)))))) (0 : Int)) (powM (Prod.fst (Prod.fst d)) (rootI (Prod.fst (Prod.fst d), Prod.fst (Prod.snd
  (Prod.fst d)), Prod.snd (Prod.snd (Prod.fst d))) (IntKind.wrap IntKind.i64 (Prod.fst (Prod.snd (Prod.snd d)) + (1 : Int)))) (Int.toNat (Int.tmod (↑x : Int) (ishl IntKind.i64 (1 : Int) (Prod.fst (Prod.snd (Prod.snd
  d))))))))) ∧ (Ty.wf i64T (subM (Prod.fst (Prod.fst d)) (List.getD (Prod.fst (Prod.snd d)) (Int.toNat (IntKind.wrap IntKind.i64 (IntKind.wrap IntKind.i64 (IntKind.wrap IntKind.i64 (IntKind.wrap IntKind.i64 (Int.tdiv (↑x
  : Int) (ishl IntKind.i64 (1 : Int) (Prod.fst (Prod.snd (Prod.snd d))))) * (2 : Int)) * ishl IntKind.i64 (1 : Int) (Prod.fst (Prod.snd (Prod.snd d)))) + Int.tmod (↑x : Int) (ishl IntKind.i64 (1 : Int) (Prod.fst
  (Prod.snd (Prod.snd d))))))) (0 : Int)) (mulM (Prod.fst (Prod.fst d)) (List.getD (Prod.fst (Prod.snd d)) (Int.toNat (IntKind.wrap IntKind.i64 (IntKind.wrap IntKind.i64 (IntKind.wrap IntKind.i64 (IntKind.wrap
  IntKind.i64 (IntKind.wrap IntKind.i64 (Int.tdiv (↑x : Int) (ishl IntKind.i64 (1 : Int) (Prod.fst (Prod.snd (Prod.snd d))))) * (2 : Int)) * ishl IntKind.i64 (1 : Int) (Prod.fst (Prod.snd (Prod.snd d)))) + Int.tmod (↑x :
  Int) (ishl IntKind.i64 (1 : Int) (Prod.fst (Prod.snd (Prod.snd d))))) + ishl IntKind.i64 (1 : Int) (Prod.fst (Prod.snd (Prod.snd d)))))) (0 : Int)) (powM (Prod.fst (Prod.fst d)) (rootI (Prod.fst (Prod.fst d), Prod.fst
  (Prod.snd (Prod.fst d)), Prod.snd (Prod.snd (Prod.fst d))) (IntKind.wrap IntKind.i64 (Prod.fst (Prod.snd (Prod.snd d)) + (1 : Int)))) (Int.toNat (Int.tmod (↑x : Int) (ishl IntKind.i64 (1 : Int) (Prod.fst (Prod.snd
  (Prod.snd d))))))))) → ((0 : Int) ≤ IntKind.wrap IntKind.i64 (IntKind.wrap IntKind.i64 (IntKind.wrap IntKind.i64 (IntKind.wrap IntKind.i64 (IntKind.wrap IntKind.i64 (Int.tdiv (↑x : Int) (ishl IntKind.i64 (1 : Int)
  (Prod.fst (Prod.snd (Prod.snd d))))) * (2 : Int)) * ishl IntKind.i64 (1 : Int) (Prod.fst (Prod.snd (Prod.snd d)))) + Int.tmod (↑x : Int) (ishl IntKind.i64 (1 : Int) (Prod.fst (Prod.snd (Prod.snd d))))) + ishl
  IntKind.i64 (1 : Int) (Prod.fst (Prod.snd (Prod.snd d)))) ∧ IntKind.wrap IntKind.i64 (IntKind.wrap IntKind.i64 (IntKind.wrap IntKind.i64 (IntKind.wrap IntKind.i64 (IntKind.wrap IntKind.i64 (Int.tdiv (↑x : Int) (ishl
  IntKind.i64 (1 : Int) (Prod.fst (Prod.snd (Prod.snd d))))) * (2 : Int)) * ishl IntKind.i64 (1 : Int) (Prod.fst (Prod.snd (Prod.snd d)))) + Int.tmod (↑x : Int) (ishl IntKind.i64 (1 : Int) (Prod.fst (Prod.snd (Prod.snd
  d))))) + ishl IntKind.i64 (1 : Int) (Prod.fst (Prod.snd (Prod.snd d)))) < (↑(List.length (List.set (rgL (Prod.fst d) (Prod.fst (Prod.snd d)) (Int.toNat (Prod.fst (Prod.snd (Prod.snd d)))) (Int.toNat (Prod.fst (Prod.snd
  (Prod.snd (Prod.snd d))))) x) (Int.toNat (IntKind.wrap IntKind.i64 (IntKind.wrap IntKind.i64 (IntKind.wrap IntKind.i64 (IntKind.wrap IntKind.i64 (Int.tdiv (↑x : Int) (ishl IntKind.i64 (1 : Int) (Prod.fst (Prod.snd
  (Prod.snd d))))) * (2 : Int)) * ishl IntKind.i64 (1 : Int) (Prod.fst (Prod.snd (Prod.snd d)))) + Int.tmod (↑x : Int) (ishl IntKind.i64 (1 : Int) (Prod.fst (Prod.snd (Prod.snd d))))))) (addM (Prod.fst (Prod.fst d))
  (List.getD (Prod.fst (Prod.snd d)) (Int.toNat (IntKind.wrap IntKind.i64 (IntKind.wrap IntKind.i64 (IntKind.wrap IntKind.i64 (IntKind.wrap IntKind.i64 (Int.tdiv (↑x : Int) (ishl IntKind.i64 (1 : Int) (Prod.fst (Prod.snd
  (Prod.snd d))))) * (2 : Int)) * ishl IntKind.i64 (1 : Int) (Prod.fst (Prod.snd (Prod.snd d)))) + Int.tmod (↑x : Int) (ishl IntKind.i64 (1 : Int) (Prod.fst (Prod.snd (Prod.snd d))))))) (0 : Int)) (mulM (Prod.fst
  (Prod.fst d)) (List.getD (Prod.fst (Prod.snd d)) (Int.toNat (IntKind.wrap IntKind.i64 (IntKind.wrap IntKind.i64 (IntKind.wrap IntKind.i64 (IntKind.wrap IntKind.i64 (IntKind.wrap IntKind.i64 (Int.tdiv (↑x : Int) (ishl
  IntKind.i64 (1 : Int) (Prod.fst (Prod.snd (Prod.snd d))))) * (2 : Int)) * ishl IntKind.i64 (1 : Int) (Prod.fst (Prod.snd (Prod.snd d)))) + Int.tmod (↑x : Int) (ishl IntKind.i64 (1 : Int) (Prod.fst (Prod.snd (Prod.snd
  d))))) + ishl IntKind.i64 (1 : Int) (Prod.fst (Prod.snd (Prod.snd d)))))) (0 : Int)) (powM (Prod.fst (Prod.fst d)) (rootI (Prod.fst (Prod.fst d), Prod.fst (Prod.snd (Prod.fst d)), Prod.snd (Prod.snd (Prod.fst d)))
  (IntKind.wrap IntKind.i64 (Prod.fst (Prod.snd (Prod.snd d)) + (1 : Int)))) (Int.toNat (Int.tmod (↑x : Int) (ishl IntKind.i64 (1 : Int) (Prod.fst (Prod.snd (Prod.snd d))))))))))) : Int)) ∧ ∃ (x' : Nat), (Int.toNat
  (Prod.fst (Prod.snd (Prod.snd (Prod.snd d)))) ≤ x' ∧ x' ≤ Int.toNat (Prod.snd (Prod.snd (Prod.snd (Prod.snd d))))) ∧ Int.toNat (Prod.snd (Prod.snd (Prod.snd (Prod.snd d)))) - x' < Int.toNat (Prod.snd (Prod.snd
  (Prod.snd (Prod.snd d)))) - x ∧ ((Prod.fst (Prod.fst d) = Prod.fst (Prod.fst d) ∧ Prod.fst (Prod.snd (Prod.fst d)) = Prod.fst (Prod.snd (Prod.fst d)) ∧ Prod.snd (Prod.snd (Prod.fst d)) = Prod.snd (Prod.snd (Prod.fst
  d))) ∧ Prod.fst (Prod.snd d) = Prod.fst (Prod.snd d) ∧ (Prod.fst (Prod.snd (Prod.snd d)) = Prod.fst (Prod.snd (Prod.snd d)) ∧ Prod.fst (Prod.snd (Prod.snd (Prod.snd d))) = Prod.fst (Prod.snd (Prod.snd (Prod.snd d))) ∧
  Prod.snd (Prod.snd (Prod.snd (Prod.snd d))) = Prod.snd (Prod.snd (Prod.snd (Prod.snd d)))) ∧ Value.slice none (0 : Nat) (0 : Nat) = Value.slice none (0 : Nat) (0 : Nat) ∧ ishl IntKind.i64 (1 : Int) (Prod.fst (Prod.snd
  (Prod.snd d))) = ishl IntKind.i64 (1 : Int) (Prod.fst (Prod.snd (Prod.snd d))) ∧ rootI (Prod.fst (Prod.fst d), Prod.fst (Prod.snd (Prod.fst d)), Prod.snd (Prod.snd (Prod.fst d))) (IntKind.wrap IntKind.i64 (Prod.fst
  (Prod.snd (Prod.snd d)) + (1 : Int))) = rootI (Prod.fst (Prod.fst d), Prod.fst (Prod.snd (Prod.fst d)), Prod.snd (Prod.snd (Prod.fst d))) (IntKind.wrap IntKind.i64 (Prod.fst (Prod.snd (Prod.snd d)) + (1 : Int))) ∧
  IntKind.wrap IntKind.i64 ((↑x : Int) + (1 : Int)) = (↑x' : Int)) ∧ (Prod.fst (Prod.fst d) = Prod.fst (Prod.fst d) ∧ Prod.fst (Prod.snd (Prod.fst d)) = Prod.fst (Prod.snd (Prod.fst d)) ∧ Prod.snd (Prod.snd (Prod.fst d))
  = Prod.snd (Prod.snd (Prod.fst d))) ∧ (Prod.fst (Prod.snd (Prod.snd d)) = Prod.fst (Prod.snd (Prod.snd d)) ∧ Prod.fst (Prod.snd (Prod.snd (Prod.snd d))) = Prod.fst (Prod.snd (Prod.snd (Prod.snd d))) ∧ Prod.snd
  (Prod.snd (Prod.snd (Prod.snd d))) = Prod.snd (Prod.snd (Prod.snd (Prod.snd d)))) ∧ List.set (List.set (rgL (Prod.fst d) (Prod.fst (Prod.snd d)) (Int.toNat (Prod.fst (Prod.snd (Prod.snd d)))) (Int.toNat (Prod.fst
  (Prod.snd (Prod.snd (Prod.snd d))))) x) (Int.toNat (IntKind.wrap IntKind.i64 (IntKind.wrap IntKind.i64 (IntKind.wrap IntKind.i64 (IntKind.wrap IntKind.i64 (Int.tdiv (↑x : Int) (ishl IntKind.i64 (1 : Int) (Prod.fst
  (Prod.snd (Prod.snd d))))) * (2 : Int)) * ishl IntKind.i64 (1 : Int) (Prod.fst (Prod.snd (Prod.snd d)))) + Int.tmod (↑x : Int) (ishl IntKind.i64 (1 : Int) (Prod.fst (Prod.snd (Prod.snd d))))))) (addM (Prod.fst
  (Prod.fst d)) (List.getD (Prod.fst (Prod.snd d)) (Int.toNat (IntKind.wrap IntKind.i64 (IntKind.wrap IntKind.i64 (IntKind.wrap IntKind.i64 (IntKind.wrap IntKind.i64 (Int.tdiv (↑x : Int) (ishl IntKind.i64 (1 : Int)
  (Prod.fst (Prod.snd (Prod.snd d))))) * (2 : Int)) * ishl IntKind.i64 (1 : Int) (Prod.fst (Prod.snd (Prod.snd d)))) + Int.tmod (↑x : Int) (ishl IntKind.i64 (1 : Int) (Prod.fst (Prod.snd (Prod.snd d))))))) (0 : Int))
  (mulM (Prod.fst (Prod.fst d)) (List.getD (Prod.fst (Prod.snd d)) (Int.toNat (IntKind.wrap IntKind.i64 (IntKind.wrap IntKind.i64 (IntKind.wrap IntKind.i64 (IntKind.wrap IntKind.i64 (IntKind.wrap IntKind.i64 (Int.tdiv
  (↑x : Int) (ishl IntKind.i64 (1 : Int) (Prod.fst (Prod.snd (Prod.snd d))))) * (2 : Int)) * ishl IntKind.i64 (1 : Int) (Prod.fst (Prod.snd (Prod.snd d)))) + Int.tmod (↑x : Int) (ishl IntKind.i64 (1 : Int) (Prod.fst
  (Prod.snd (Prod.snd d))))) + ishl IntKind.i64 (1 : Int) (Prod.fst (Prod.snd (Prod.snd d)))))) (0 : Int)) (powM (Prod.fst (Prod.fst d)) (rootI (Prod.fst (Prod.fst d), Prod.fst (Prod.snd (Prod.fst d)), Prod.snd (Prod.snd
  (Prod.fst d))) (IntKind.wrap IntKind.i64 (Prod.fst (Prod.snd (Prod.snd d)) + (1 : Int)))) (Int.toNat (Int.tmod (↑x : Int) (ishl IntKind.i64 (1 : Int) (Prod.fst (Prod.snd (Prod.snd d)))))))))) (Int.toNat (IntKind.wrap
  IntKind.i64 (IntKind.wrap IntKind.i64 (IntKind.wrap IntKind.i64 (IntKind.wrap IntKind.i64 (IntKind.wrap IntKind.i64 (Int.tdiv (↑x : Int) (ishl IntKind.i64 (1 : Int) (Prod.fst (Prod.snd (Prod.snd d))))) * (2 : Int)) *
  ishl IntKind.i64 (1 : Int) (Prod.fst (Prod.snd (Prod.snd d)))) + Int.tmod (↑x : Int) (ishl IntKind.i64 (1 : Int) (Prod.fst (Prod.snd (Prod.snd d))))) + ishl IntKind.i64 (1 : Int) (Prod.fst (Prod.snd (Prod.snd d))))))
  (subM (Prod.fst (Prod.fst d)) (List.getD (Prod.fst (Prod.snd d)) (Int.toNat (IntKind.wrap IntKind.i64 (IntKind.wrap IntKind.i64 (IntKind.wrap IntKind.i64 (IntKind.wrap IntKind.i64 (Int.tdiv (↑x : Int) (ishl IntKind.i64
  (1 : Int) (Prod.fst (Prod.snd (Prod.snd d))))) * (2 : Int)) * ishl IntKind.i64 (1 : Int) (Prod.fst (Prod.snd (Prod.snd d)))) + Int.tmod (↑x : Int) (ishl IntKind.i64 (1 : Int) (Prod.fst (Prod.snd (Prod.snd d))))))) (0 :
  Int)) (mulM (Prod.fst (Prod.fst d)) (List.getD (Prod.fst (Prod.snd d)) (Int.toNat (IntKind.wrap IntKind.i64 (IntKind.wrap IntKind.i64 (IntKind.wrap IntKind.i64 (IntKind.wrap IntKind.i64 (IntKind.wrap IntKind.i64
  (Int.tdiv (↑x : Int) (ishl IntKind.i64 (1 : Int) (Prod.fst (Prod.snd (Prod.snd d))))) * (2 : Int)) * ishl IntKind.i64 (1 : Int) (Prod.fst (Prod.snd (Prod.snd d)))) + Int.tmod (↑x : Int) (ishl IntKind.i64 (1 : Int)
  (Prod.fst (Prod.snd (Prod.snd d))))) + ishl IntKind.i64 (1 : Int) (Prod.fst (Prod.snd (Prod.snd d)))))) (0 : Int)) (powM (Prod.fst (Prod.fst d)) (rootI (Prod.fst (Prod.fst d), Prod.fst (Prod.snd (Prod.fst d)), Prod.snd
  (Prod.snd (Prod.fst d))) (IntKind.wrap IntKind.i64 (Prod.fst (Prod.snd (Prod.snd d)) + (1 : Int)))) (Int.toNat (Int.tmod (↑x : Int) (ishl IntKind.i64 (1 : Int) (Prod.fst (Prod.snd (Prod.snd d))))))))) = rgL (Prod.fst
  d) (Prod.fst (Prod.snd d)) (Int.toNat (Prod.fst (Prod.snd (Prod.snd d)))) (Int.toNat (Prod.fst (Prod.snd (Prod.snd (Prod.snd d))))) x')))) ∧ (decide ((↑x : Int) < Prod.snd (Prod.snd (Prod.snd (Prod.snd d)))) = false →
  rgL (Prod.fst d) (Prod.fst (Prod.snd d)) (Int.toNat (Prod.fst (Prod.snd (Prod.snd d)))) (Int.toNat (Prod.fst (Prod.snd (Prod.snd (Prod.snd d))))) x = runD (Prod.fst d) (Prod.fst (Prod.snd d)) (Prod.snd (Prod.snd d)))) := by
  intro (d : Fd × List Int × Sp) hw hp
  obtain ⟨⟨p, g, u⟩, v, l, lo, hi⟩ := d
  replace hp : (∃ f, vectorOkF f v = true ∧ (p, g, u) = (fieldF f).1) ∧ stepOkF (logF v.length) (l, lo, hi) = true := hp
  simp only [Int.toNat_natCast, exists_const, and_true, true_and, implies_true, decide_eq_true_eq, decide_eq_false_iff_not, Bool.not_eq_true', Bool.not_eq_false', beq_iff_eq, forall_const]
  obtain ⟨⟨f, h, hd⟩, h1⟩ := hp
  obtain ⟨hm, he, K, hK, hK9, hn, hKt⟩ := vecL_ok h
  have h512 := pow_le_512 hK9
  rw [hK] at h1
  obtain ⟨s1, s2, s3, s4, s5⟩ := step_ok h1
  simp only at s1 s2 s3 s4 s5
  rw [halfN] at s5
  obtain ⟨l, rfl⟩ := Int.eq_ofNat_of_zero_le s1
  obtain ⟨a, rfl⟩ := Int.eq_ofNat_of_zero_le s3
  obtain ⟨b, rfl⟩ := Int.eq_ofNat_of_zero_le (show 0 ≤ hi by omega)
  have hl : l < K := by omega
  have hsp := len_split hl
  have hhf := half_split hl
  have hh := pow_pos2 l
  have hh5 := pow_le_512 (show l ≤ 9 by omega)
  have hp1 : p = modF f := by show (p, g, u).1 = _; rw [hd]; rfl
  have hg1 : g = genF f := by show (p, g, u).2.1 = _; rw [hd]; rfl
  have h0 : IsMod p := by rw [hp1]; exact (mod_is hm).1
  have hg : El p g := by rw [hp1, hg1]; exact (gen_ok hm).1
  have hep : elemsF p v = true := by rw [hp1]; exact he
  have w1 : IntKind.i64.wrap ((l : Int) + 1) = ((l + 1 : Nat) : Int) := wrap_succ (by omega)
  have e0 : El p (rootI (p, g, u) ((l + 1 : Nat) : Int)) := el_powM h0 _ _
  simp only [w1, shlN (show l ≤ 10 by omega), Int.toNat_natCast, List.nil_append]
  refine ⟨by omega, by omega, ⟨h0, hg, show (0 : Int) ≤ ((l + 1 : Nat) : Int) by omega, show ((l + 1 : Nat) : Int) ≤ 30 by omega⟩, fun _ => ⟨⟨by omega, by omega⟩, ⟨trivial, rg_zero _ _ _ _⟩, fun x hx => ⟨fun h2 => ?_, fun h2 => ?_⟩⟩⟩
  · have hxb : x < 2 ^ l * 2 ^ (K - l - 1) := by omega
    have hlt := idx_lt hh hxb
    have i1 := idx_go hh (show x ≤ 512 by omega) hh5
    have i2 : IntKind.i64.wrap (((idxB (2 ^ l) x : Nat) : Int) + ((2 ^ l : Nat) : Int)) = ((idxB (2 ^ l) x + 2 ^ l : Nat) : Int) := by rw [wrap_small (by omega)]; omega
    have i3 : ((x : Nat) : Int).tmod ((2 ^ l : Nat) : Int) = ((x % 2 ^ l : Nat) : Int) := rfl
    rw [i3] at i1
    have hr := rg_step (d := (p, g, u)) (v := v) (l := l) (lo := a) (B := x) (by omega)
    rw [stg_lo, stg_hi] at hr
    simp only at hr
    have htw := tw_impl (p, g, u) h0 l (x % 2 ^ l)
    simp only at htw
    simp only [i1, i2, i3, Int.toNat_natCast, List.length_set, rg_len, htw, hr]
    have hne : ((2 ^ l : Nat) : Int) ≠ 0 := by omega
    refine ⟨hne, hne, ⟨by omega, by omega⟩, ⟨by omega, by omega⟩, hne, ⟨h0, e0, Int.natCast_nonneg _⟩, ⟨h0, el_get h0 hep _, el_powM h0 _ _⟩, fun _ _ => ⟨⟨h0, el_get h0 hep _, el_mulM h0 _ _⟩, fun _ => ⟨⟨by omega, by omega⟩, ⟨h0, el_get h0 hep _, el_mulM h0 _ _⟩, fun _ => ⟨⟨by omega, by omega⟩, x + 1, by omega, by omega, wrap_succ (by omega), rfl⟩⟩⟩⟩
  · obtain rfl : x = b := by omega
    rfl
theorem turn_ok {f k : Int} {xs : List Sp} {v : List Int} {n : Int} (h : turnOkF ((f, k, xs), v, n) = true) : vectorOkF f v = true ∧ logF v.length = k ∧ (∀ i, i < xs.length → stepOkF k (xs.getD i (0, 0, 0)) = true) ∧ xs.length ≤ 600 ∧ 0 ≤ n ∧ n ≤ xs.length := by
  unfold turnOkF at h
  simp only [Bool.and_eq_true, decide_eq_true_eq] at h
  obtain ⟨⟨⟨h1, h2⟩, h3⟩, h4, h5⟩ := h
  unfold planOkF logOkF at h1
  simp only [Bool.and_eq_true, decide_eq_true_eq] at h1
  obtain ⟨⟨⟨⟨⟨_, k1, k2⟩, _⟩, h6⟩, h7⟩, _⟩ := h1
  obtain ⟨hm, he, K, hK, hK9, hn, hKt⟩ := vecL_ok h2
  obtain ⟨kk, rfl⟩ := Int.eq_ofNat_of_zero_le k1
  have hp2 : (2 : Int) ^ kk = ((2 ^ kk : Nat) : Int) := (Int.natCast_pow 2 kk).symm
  rw [Int.toNat_natCast, hp2, hn] at h3
  have h8 : K = kk := by
    rcases Nat.lt_trichotomy K kk with e | e | e
    · have := Nat.pow_lt_pow_right (a := 2) (by omega) e; omega
    · exact e
    · have := Nat.pow_lt_pow_right (a := 2) (by omega) e; omega
  exact ⟨h2, by rw [hK, h8], fun i hi => (h7 i hi).1, h6, h4, h5⟩
theorem run_vec {f : Int} {v : List Int} {s : Sp} (h : vectorOkF f v = true) : vectorOkF f (runD (fieldF f).1 v s) = true ∧ (runD (fieldF f).1 v s).length = v.length := by
  obtain ⟨hm, he, _⟩ := vecL_ok h
  have hl : (runD (fieldF f).1 v s).length = v.length := rg_len _ _ _ _ _
  exact ⟨vecL_of h hl (rg_elems (d := (fieldF f).1) (mod_is hm).1 he _ _ _), hl⟩
theorem adv_go {t : Tn} {units : Int} {y : List Int × Nat × Int} (h : AdvJ t units y) (hlt : y.2.1 < t.1.2.2.length) {c : Int} (hc : c = (t.1.2.2.getD y.2.1 (0, 0, 0)).2.2 - (t.1.2.2.getD y.2.1 (0, 0, 0)).2.1) (hc0 : 0 ≤ c) (hu : c ≤ units - y.2.2) :
    AdvJ t units (runD (fieldF t.1.1).1 y.1 (t.1.2.2.getD y.2.1 (0, 0, 0)), y.2.1 + 1, y.2.2 + c) := by
  obtain ⟨h1, h2, h3, h4, h5, h6⟩ := h
  obtain ⟨r1, r2⟩ := run_vec (s := t.1.2.2.getD y.2.1 (0, 0, 0)) h1
  refine ⟨r1, by show (runD _ _ _).length = _; omega, hlt, by show 0 ≤ y.2.2 + c; omega, by show y.2.2 + c ≤ units; omega, ?_⟩
  rw [← h6]
  obtain ⟨k, hk⟩ : ∃ k, t.1.2.2.length - y.2.1 = k + 1 := ⟨t.1.2.2.length - y.2.1 - 1, by omega⟩
  rw [hk]
  show advGo _ _ _ (t.1.2.2.length - (y.2.1 + 1)) _ _ _ = advGo _ _ _ (k + 1) _ _ _
  rw [show t.1.2.2.length - (y.2.1 + 1) = k by omega]
  conv => rhs; unfold advGo
  rw [if_pos ⟨hlt, by omega⟩, hc]
theorem adv_end {t : Tn} {units : Int} {y : List Int × Nat × Int} (ht : turnOkF t = true) (hu : 0 ≤ units) (h : AdvJ t units y) (hs : ¬ (y.2.1 < t.1.2.2.length ∧ (t.1.2.2.getD y.2.1 (0, 0, 0)).2.2 - (t.1.2.2.getD y.2.1 (0, 0, 0)).2.1 ≤ units - y.2.2)) : ((t.1, y.1, (y.2.1 : Int)), y.2.2) = advF t units := by
  obtain ⟨h1, h2, h3, h4, h5, h6⟩ := h
  have he : advR t units = y := by
    rw [← h6]
    cases hk : t.1.2.2.length - y.2.1 with
    | zero => rfl
    | succ k =>
      unfold advGo
      rw [if_neg hs]
  unfold advF
  rw [ht, decide_eq_true hu, he]
  rfl
theorem adv_no {t : Tn} {units : Int} (h : (turnOkF t && decide (0 ≤ units)) = false) : (t, -1) = advF t units := by unfold advF; rw [h]; rfl
theorem adv_start {t : Tn} {units : Int} (h1 : vectorOkF t.1.1 t.2.1 = true) (h2 : t.2.2.toNat ≤ t.1.2.2.length) (h3 : 0 ≤ units) : AdvJ t units (t.2.1, t.2.2.toNat, 0) := ⟨h1, rfl, h2, Int.le_refl _, h3, rfl⟩
theorem v_I_Advance :
  ∀ (d : ((Int × Int × List (Int × Int × Int)) × List Int × Int) × Int), Ty.wf turnT (Prod.fst d) ∧ Ty.wf i64T (Prod.snd d) → List.length (Prod.snd (Prod.snd (Prod.fst (Prod.fst d)))) ≤ (1048576 : Nat) ∧ List.length
  (Prod.fst (Prod.snd (Prod.fst d))) ≤ (1048576 : Nat) → True ∧ ((!turnOkF ((Prod.fst (Prod.fst (Prod.fst d)), Prod.fst (Prod.snd (Prod.fst (Prod.fst d))), Prod.snd (Prod.snd (Prod.fst (Prod.fst d)))), Prod.fst (Prod.snd
  (Prod.fst d)), Prod.snd (Prod.snd (Prod.fst d)))) = true → (List.length (Prod.snd (Prod.snd (Prod.fst (Prod.fst d)))) ≤ (1048576 : Nat) ∧ List.length (Prod.fst (Prod.snd (Prod.fst d))) ≤ (1048576 : Nat)) ∧ (Ty.wf turnT
  ((Prod.fst (Prod.fst (Prod.fst d)), Prod.fst (Prod.snd (Prod.fst (Prod.fst d))), Prod.snd (Prod.snd (Prod.fst (Prod.fst d)))), Prod.fst (Prod.snd (Prod.fst d)), Prod.snd (Prod.snd (Prod.fst d))) → (((Prod.fst (Prod.fst
  (Prod.fst d)), Prod.fst (Prod.snd (Prod.fst (Prod.fst d))), Prod.snd (Prod.snd (Prod.fst (Prod.fst d)))), Prod.fst (Prod.snd (Prod.fst d)), Prod.snd (Prod.snd (Prod.fst d))), (-1 : Int)) = advF (Prod.fst d) (Prod.snd
  d))) ∧ ((!turnOkF ((Prod.fst (Prod.fst (Prod.fst d)), Prod.fst (Prod.snd (Prod.fst (Prod.fst d))), Prod.snd (Prod.snd (Prod.fst (Prod.fst d)))), Prod.fst (Prod.snd (Prod.fst d)), Prod.snd (Prod.snd (Prod.fst d)))) =
  false → (decide (Prod.snd d < (0 : Int)) = true → (List.length (Prod.snd (Prod.snd (Prod.fst (Prod.fst d)))) ≤ (1048576 : Nat) ∧ List.length (Prod.fst (Prod.snd (Prod.fst d))) ≤ (1048576 : Nat)) ∧ (Ty.wf turnT
  ((Prod.fst (Prod.fst (Prod.fst d)), Prod.fst (Prod.snd (Prod.fst (Prod.fst d))), Prod.snd (Prod.snd (Prod.fst (Prod.fst d)))), Prod.fst (Prod.snd (Prod.fst d)), Prod.snd (Prod.snd (Prod.fst d))) → (((Prod.fst (Prod.fst
  (Prod.fst d)), Prod.fst (Prod.snd (Prod.fst (Prod.fst d))), Prod.snd (Prod.snd (Prod.fst (Prod.fst d)))), Prod.fst (Prod.snd (Prod.fst d)), Prod.snd (Prod.snd (Prod.fst d))), (-1 : Int)) = advF (Prod.fst d) (Prod.snd
  d))) ∧ (decide (Prod.snd d < (0 : Int)) = false → True ∧ (Ty.wf fldT (Prod.fst (fieldF (Prod.fst (Prod.fst (Prod.fst d))))) ∧ Ty.wf Ty.bool (Prod.snd (fieldF (Prod.fst (Prod.fst (Prod.fst d))))) → (List.length
  (Prod.snd (Prod.snd (Prod.fst (Prod.fst d)))) ≤ (1048576 : Nat) ∧ List.length (Prod.fst (Prod.snd (Prod.fst d))) ≤ (1048576 : Nat)) ∧ (Ty.wf turnT ((Prod.fst (Prod.fst (Prod.fst d)), Prod.fst (Prod.snd (Prod.fst
  (Prod.fst d))), Prod.snd (Prod.snd (Prod.fst (Prod.fst d)))), Prod.fst (Prod.snd (Prod.fst d)), Prod.snd (Prod.snd (Prod.fst d))) → AdvJ (Prod.fst d) (Prod.snd d) (Prod.fst (Prod.snd (Prod.fst d)), Int.toNat (Prod.snd
  (Prod.snd (Prod.fst d))), (0 : Int)) ∧ (((Prod.fst (Prod.fst (Prod.fst d)) = Prod.fst (Prod.fst (Prod.fst d)) ∧ Prod.fst (Prod.snd (Prod.fst (Prod.fst d))) = Prod.fst (Prod.snd (Prod.fst (Prod.fst d))) ∧ Prod.snd
  (Prod.snd (Prod.fst (Prod.fst d))) = Prod.snd (Prod.snd (Prod.fst (Prod.fst d))) ∧ Prod.fst (Prod.snd (Prod.fst d)) = Prod.fst (Prod.snd (Prod.fst d)) ∧ Prod.snd (Prod.snd (Prod.fst d)) = Prod.snd (Prod.snd (Prod.fst
  d))) ∧ Prod.snd d = Prod.snd d ∧ (0 : Int) = (0 : Int) ∧ Prod.snd (fieldF (Prod.fst (Prod.fst (Prod.fst d)))) = Prod.snd (fieldF (Prod.fst (Prod.fst (Prod.fst d)))) ∧ (0 : Int) = (0 : Int)) ∧ (Prod.fst (Prod.fst
  (Prod.fst d)) = Prod.fst (Prod.fst (Prod.fst d)) ∧ Prod.fst (Prod.snd (Prod.fst (Prod.fst d))) = Prod.fst (Prod.snd (Prod.fst (Prod.fst d))) ∧ Prod.snd (Prod.snd (Prod.fst d)) = (↑(Int.toNat (Prod.snd (Prod.snd
  (Prod.fst d)))) : Int)) ∧ ((0 : Int) = (0 : Int) ∧ (0 : Int) = (0 : Int) ∧ Value.slice none (0 : Nat) (0 : Nat) = Value.slice none (0 : Nat) (0 : Nat) ∧ Value.slice none (0 : Nat) (0 : Nat) = Value.slice none (0 : Nat)
  (0 : Nat) ∧ (0 : Int) = (0 : Int)) ∧ (Prod.fst (Prod.fst (fieldF (Prod.fst (Prod.fst (Prod.fst d))))) = Prod.fst (Prod.fst (fieldF (Prod.fst (Prod.fst (Prod.fst d))))) ∧ Prod.fst (Prod.snd (Prod.fst (fieldF (Prod.fst
  (Prod.fst (Prod.fst d)))))) = Prod.fst (Prod.snd (Prod.fst (fieldF (Prod.fst (Prod.fst (Prod.fst d)))))) ∧ Prod.snd (Prod.snd (Prod.fst (fieldF (Prod.fst (Prod.fst (Prod.fst d)))))) = Prod.snd (Prod.snd (Prod.fst
  (fieldF (Prod.fst (Prod.fst (Prod.fst d))))))) ∧ Prod.snd (Prod.snd (Prod.fst (Prod.fst d))) = Prod.snd (Prod.snd (Prod.fst (Prod.fst d))) ∧ Prod.fst (Prod.snd (Prod.fst d)) = Prod.fst (Prod.snd (Prod.fst d))) ∧ ∀ (x :
  List Int × Nat × Int), AdvJ (Prod.fst d) (Prod.snd d) x → (decide ((↑(Prod.fst (Prod.snd x)) : Int) < (↑(List.length (Prod.snd (Prod.snd (Prod.fst (Prod.fst d))))) : Int)) = true → ((0 : Int) ≤ (↑(Prod.fst (Prod.snd
  x)) : Int) ∧ (↑(Prod.fst (Prod.snd x)) : Int) < (↑(List.length (Prod.snd (Prod.snd (Prod.fst (Prod.fst d))))) : Int)) ∧ (decide (IntKind.wrap IntKind.i64 (Prod.snd d - Prod.snd (Prod.snd x)) < IntKind.wrap IntKind.i64
  (Prod.snd (Prod.snd (List.getD (Prod.snd (Prod.snd (Prod.fst (Prod.fst d)))) (Int.toNat (↑(Prod.fst (Prod.snd x)) : Int)) ((0 : Int), (0 : Int), (0 : Int)))) - Prod.fst (Prod.snd (List.getD (Prod.snd (Prod.snd
  (Prod.fst (Prod.fst d)))) (Int.toNat (↑(Prod.fst (Prod.snd x)) : Int)) ((0 : Int), (0 : Int), (0 : Int)))))) = true → (((Prod.fst (Prod.fst (Prod.fst d)), Prod.fst (Prod.snd (Prod.fst (Prod.fst d))), Prod.snd (Prod.snd
  (Prod.fst (Prod.fst d)))), Prod.fst x, (↑(Prod.fst (Prod.snd x)) : Int)), Prod.snd (Prod.snd x)) = advF (Prod.fst d) (Prod.snd d)) ∧ (decide (IntKind.wrap IntKind.i64 (Prod.snd d - Prod.snd (Prod.snd x)) < IntKind.wrap
  IntKind.i64 (Prod.snd (Prod.snd (List.getD (Prod.snd (Prod.snd (Prod.fst (Prod.fst d)))) (Int.toNat (↑(Prod.fst (Prod.snd x)) : Int)) ((0 : Int), (0 : Int), (0 : Int)))) - Prod.fst (Prod.snd (List.getD (Prod.snd
  (Prod.snd (Prod.fst (Prod.fst d)))) (Int.toNat (↑(Prod.fst (Prod.snd x)) : Int)) ((0 : Int), (0 : Int), (0 : Int)))))) = false → ((∃ (f : Int), vectorOkF f (Prod.fst x) = true ∧ (Prod.fst (Prod.fst (fieldF (Prod.fst
  (Prod.fst (Prod.fst d))))), Prod.fst (Prod.snd (Prod.fst (fieldF (Prod.fst (Prod.fst (Prod.fst d)))))), Prod.snd (Prod.snd (Prod.fst (fieldF (Prod.fst (Prod.fst (Prod.fst d))))))) = Prod.fst (fieldF f)) ∧ stepOkF (logF
  (↑(List.length (Prod.fst x)) : Int)) (Prod.fst (List.getD (Prod.snd (Prod.snd (Prod.fst (Prod.fst d)))) (Int.toNat (↑(Prod.fst (Prod.snd x)) : Int)) ((0 : Int), (0 : Int), (0 : Int))), Prod.fst (Prod.snd (List.getD
  (Prod.snd (Prod.snd (Prod.fst (Prod.fst d)))) (Int.toNat (↑(Prod.fst (Prod.snd x)) : Int)) ((0 : Int), (0 : Int), (0 : Int)))), Prod.snd (Prod.snd (List.getD (Prod.snd (Prod.snd (Prod.fst (Prod.fst d)))) (Int.toNat
  (↑(Prod.fst (Prod.snd x)) : Int)) ((0 : Int), (0 : Int), (0 : Int))))) = true) ∧ (Ty.wf listT (runD (Prod.fst (Prod.fst (fieldF (Prod.fst (Prod.fst (Prod.fst d))))), Prod.fst (Prod.snd (Prod.fst (fieldF (Prod.fst
  (Prod.fst (Prod.fst d)))))), Prod.snd (Prod.snd (Prod.fst (fieldF (Prod.fst (Prod.fst (Prod.fst d))))))) (Prod.fst x) (Prod.fst (List.getD (Prod.snd (Prod.snd (Prod.fst (Prod.fst d)))) (Int.toNat (↑(Prod.fst (Prod.snd
  x)) : Int)) ((0 : Int), (0 : Int), (0 : Int))), Prod.fst (Prod.snd (List.getD (Prod.snd (Prod.snd (Prod.fst (Prod.fst d)))) (Int.toNat (↑(Prod.fst (Prod.snd x)) : Int)) ((0 : Int), (0 : Int), (0 : Int)))), Prod.snd
  (Prod.snd (List.getD (Prod.snd (Prod.snd (Prod.fst (Prod.fst d)))) (Int.toNat (↑(Prod.fst (Prod.snd x)) : Int)) ((0 : Int), (0 : Int), (0 : Int)))))) → ∃ (x' : List Int × Nat × Int), AdvJ (Prod.fst d) (Prod.snd d) x' ∧
  List.length (Prod.snd (Prod.snd (Prod.fst (Prod.fst d)))) - Prod.fst (Prod.snd x') < List.length (Prod.snd (Prod.snd (Prod.fst (Prod.fst d)))) - Prod.fst (Prod.snd x) ∧ ((Prod.fst (Prod.fst (Prod.fst d)) = Prod.fst
  (Prod.fst (Prod.fst d)) ∧ Prod.fst (Prod.snd (Prod.fst (Prod.fst d))) = Prod.fst (Prod.snd (Prod.fst (Prod.fst d))) ∧ Prod.snd (Prod.snd (Prod.fst (Prod.fst d))) = Prod.snd (Prod.snd (Prod.fst (Prod.fst d))) ∧ Prod.fst
  (Prod.snd (Prod.fst d)) = Prod.fst (Prod.snd (Prod.fst d)) ∧ Prod.snd (Prod.snd (Prod.fst d)) = Prod.snd (Prod.snd (Prod.fst d))) ∧ Prod.snd d = Prod.snd d ∧ (0 : Int) = (0 : Int) ∧ Prod.snd (fieldF (Prod.fst (Prod.fst
  (Prod.fst d)))) = Prod.snd (fieldF (Prod.fst (Prod.fst (Prod.fst d)))) ∧ IntKind.wrap IntKind.i64 (Prod.snd (Prod.snd x) + IntKind.wrap IntKind.i64 (Prod.snd (Prod.snd (List.getD (Prod.snd (Prod.snd (Prod.fst (Prod.fst
  d)))) (Int.toNat (↑(Prod.fst (Prod.snd x)) : Int)) ((0 : Int), (0 : Int), (0 : Int)))) - Prod.fst (Prod.snd (List.getD (Prod.snd (Prod.snd (Prod.fst (Prod.fst d)))) (Int.toNat (↑(Prod.fst (Prod.snd x)) : Int)) ((0 :
  Int), (0 : Int), (0 : Int)))))) = Prod.snd (Prod.snd x')) ∧ (Prod.fst (Prod.fst (Prod.fst d)) = Prod.fst (Prod.fst (Prod.fst d)) ∧ Prod.fst (Prod.snd (Prod.fst (Prod.fst d))) = Prod.fst (Prod.snd (Prod.fst (Prod.fst
  d))) ∧ IntKind.wrap IntKind.i64 ((↑(Prod.fst (Prod.snd x)) : Int) + (1 : Int)) = (↑(Prod.fst (Prod.snd x')) : Int)) ∧ ((0 : Int) = (0 : Int) ∧ (0 : Int) = (0 : Int) ∧ Value.slice none (0 : Nat) (0 : Nat) = Value.slice
  none (0 : Nat) (0 : Nat) ∧ Value.slice none (0 : Nat) (0 : Nat) = Value.slice none (0 : Nat) (0 : Nat) ∧ (0 : Int) = (0 : Int)) ∧ (Prod.fst (Prod.fst (fieldF (Prod.fst (Prod.fst (Prod.fst d))))) = Prod.fst (Prod.fst
  (fieldF (Prod.fst (Prod.fst (Prod.fst d))))) ∧ Prod.fst (Prod.snd (Prod.fst (fieldF (Prod.fst (Prod.fst (Prod.fst d)))))) = Prod.fst (Prod.snd (Prod.fst (fieldF (Prod.fst (Prod.fst (Prod.fst d)))))) ∧ Prod.snd
  (Prod.snd (Prod.fst (fieldF (Prod.fst (Prod.fst (Prod.fst d)))))) = Prod.snd (Prod.snd (Prod.fst (fieldF (Prod.fst (Prod.fst (Prod.fst d))))))) ∧ Prod.snd (Prod.snd (Prod.fst (Prod.fst d))) = Prod.snd (Prod.snd
  (Prod.fst (Prod.fst d))) ∧ runD (Prod.fst (Prod.fst (fieldF (Prod.fst (Prod.fst (Prod.fst d))))), Prod.fst (Prod.snd (Prod.fst (fieldF (Prod.fst (Prod.fst (Prod.fst d)))))), Prod.snd (Prod.snd (Prod.fst (fieldF
  (Prod.fst (Prod.fst (Prod.fst d))))))) (Prod.fst x) (Prod.fst (List.getD (Prod.snd (Prod.snd (Prod.fst (Prod.fst d)))) (Int.toNat (↑(Prod.fst (Prod.snd x)) : Int)) ((0 : Int), (0 : Int), (0 : Int))), Prod.fst (Prod.snd
  (List.getD (Prod.snd (Prod.snd (Prod.fst (Prod.fst d)))) (Int.toNat (↑(Prod.fst (Prod.snd x)) : Int)) ((0 : Int), (0 : Int), (0 : Int)))), Prod.snd (Prod.snd (List.getD (Prod.snd (Prod.snd (Prod.fst (Prod.fst d))))
  (Int.toNat (↑(Prod.fst (Prod.snd x)) : Int)) ((0 : Int), (0 : Int), (0 : Int))))) = Prod.fst x'))) ∧ (decide ((↑(Prod.fst (Prod.snd x)) : Int) < (↑(List.length (Prod.snd (Prod.snd (Prod.fst (Prod.fst d))))) : Int)) =
  false → (((Prod.fst (Prod.fst (Prod.fst d)), Prod.fst (Prod.snd (Prod.fst (Prod.fst d))), Prod.snd (Prod.snd (Prod.fst (Prod.fst d)))), Prod.fst x, (↑(Prod.fst (Prod.snd x)) : Int)), Prod.snd (Prod.snd x)) = advF
  (Prod.fst d) (Prod.snd d)))))) := by
  intro (d : Tn × Int) hw hp
  obtain ⟨⟨⟨f, k, xs⟩, v, n⟩, units⟩ := d
  have hu9 : units ≤ 9223372036854775807 := hw.2.2
  replace hp : xs.length ≤ 1048576 ∧ v.length ≤ 1048576 := hp
  simp only [Int.toNat_natCast, exists_const, and_true, true_and, implies_true, decide_eq_true_eq, decide_eq_false_iff_not, Bool.not_eq_true', Bool.not_eq_false', beq_iff_eq, forall_const]
  refine ⟨fun h => ⟨hp, fun _ => adv_no (by rw [h]; rfl)⟩, fun h => ⟨fun h1 => ⟨hp, fun _ => adv_no (by rw [decide_eq_false (by omega), Bool.and_false])⟩, fun h1 _ => ⟨hp, fun _ => ?_⟩⟩⟩
  obtain ⟨hv, hk, hs, hx6, hn0, hn1⟩ := turn_ok h
  have hu : 0 ≤ units := by omega
  refine ⟨adv_start (t := ((f, k, xs), v, n)) hv (by show n.toNat ≤ xs.length; omega) hu, by omega, fun y hy => ?_⟩
  have hJ := hy
  obtain ⟨j1, j2, j3, j4, j5, j6⟩ := hy
  simp only at j1 j2 j3
  refine ⟨fun h2 => ⟨⟨by omega, by omega⟩, ?_⟩, fun h2 => adv_end h hu hJ (fun hh => h2 (Int.ofNat_lt.2 hh.1))⟩
  have hst := hs y.2.1 (by omega)
  obtain ⟨s1, s2, s3, s4, s5⟩ := step_ok hst
  have hkl : k ≤ 9 := by
    obtain ⟨_, _, K, hK, hK9, _⟩ := vecL_ok hv
    omega
  have hhf : halfF k ≤ 256 := by
    obtain ⟨kk, rfl⟩ := Int.eq_ofNat_of_zero_le (show 0 ≤ k by omega)
    rw [halfN]
    have := pow_le_512 (show kk ≤ 9 by omega)
    omega
  have hse : ((xs.getD y.2.1 (0, 0, 0)).1, (xs.getD y.2.1 (0, 0, 0)).2.1, (xs.getD y.2.1 (0, 0, 0)).2.2) = xs.getD y.2.1 (0, 0, 0) := rfl
  rw [hse, wrap_small (n := (xs.getD y.2.1 (0, 0, 0)).2.2 - (xs.getD y.2.1 (0, 0, 0)).2.1) (by omega), wrap_small (n := units - y.2.2) (by omega)]
  refine ⟨fun h3 => adv_end h hu hJ (fun hh => absurd hh.2 (show ¬ (xs.getD y.2.1 (0, 0, 0)).2.2 - (xs.getD y.2.1 (0, 0, 0)).2.1 ≤ units - y.2.2 by omega)), fun h3 => ⟨⟨⟨f, j1, rfl⟩, by rw [j2, hk]; exact hst⟩, fun _ => ⟨_, adv_go hJ (show y.2.1 < xs.length by omega) rfl (by show 0 ≤ (xs.getD y.2.1 (0, 0, 0)).2.2 - (xs.getD y.2.1 (0, 0, 0)).2.1; omega) (by show (xs.getD y.2.1 (0, 0, 0)).2.2 - (xs.getD y.2.1 (0, 0, 0)).2.1 ≤ units - y.2.2; omega), by show xs.length - (y.2.1 + 1) < _; omega, wrap_small (by omega), wrap_succ (by omega), rfl⟩⟩⟩
end Go.SF
