/- What is owed of the code of caches, as they are read. No condition. -/
import Derived.Test.YtdomcnkhdnagiaaSxC
import Derived.Test.YtdomcnkhdnagiaaSxPPlanC
import Derived.Test.YtdomcnkhdnagiaaSxPIntS
namespace Go.SF
open Go.SX Go
set_option linter.unusedVariables false
set_option linter.unusedSimpArgs false
set_option maxRecDepth 10000
theorem u8_inj {a b : Int} (ha : 0 ≤ a ∧ a ≤ 255) (hb : 0 ≤ b ∧ b ≤ 255) (h : UInt8.ofNat a.toNat = UInt8.ofNat b.toNat) : a = b := by
  have := congrArg UInt8.toNat h
  simp only [UInt8.toNat_ofNat'] at this
  omega
theorem nums_inj : ∀ {xs ys : List Int}, (∀ x ∈ xs, 0 ≤ x ∧ x ≤ 255) → (∀ y ∈ ys, 0 ≤ y ∧ y ≤ 255) → (xs.map fun n => UInt8.ofNat n.toNat) = (ys.map fun n => UInt8.ofNat n.toNat) → xs = ys
  | [], [], _, _, _ => rfl
  | [], y :: ys, _, _, h => by cases h
  | x :: xs, [], _, _, h => by cases h
  | x :: xs, y :: ys, hx, hy, h => by
    rw [List.map_cons, List.map_cons] at h
    injection h with h1 h2
    rw [u8_inj (hx x (List.mem_cons_self ..)) (hy y (List.mem_cons_self ..)) h1, nums_inj (fun z hz => hx z (List.mem_cons_of_mem _ hz)) (fun z hz => hy z (List.mem_cons_of_mem _ hz)) h2]
theorem str_inj {xs ys : List Int} (hx : ∀ x ∈ xs, 0 ≤ x ∧ x ≤ 255) (hy : ∀ y ∈ ys, 0 ≤ y ∧ y ≤ 255) : strOfNums xs = strOfNums ys ↔ xs = ys := by
  constructor
  · intro h
    have h1 := congrArg (fun s : ByteArray => s.data.toList) h
    simp only [strOfNums_data] at h1
    exact nums_inj hx hy h1
  · intro h; rw [h]
theorem key_none {key : List Int} : ∀ {es : List En} {k : Int}, 0 ≤ k → (keyGo key es k < 0 ↔ ∀ t, t < es.length → (es.getD t ([], 0, [], [])).1 ≠ key)
  | [], k, hk => ⟨fun _ t ht => absurd ht (Nat.not_lt_zero _), fun _ => by unfold keyGo; omega⟩
  | e :: es, k, hk => by
    unfold keyGo
    split
    · rename_i h
      exact ⟨fun h1 => by omega, fun h1 => absurd h (h1 0 (by simp))⟩
    · rename_i h
      rw [key_none (es := es) (k := k + 1) (by omega)]
      constructor
      · intro h1 t ht
        cases t with
        | zero => exact h
        | succ t => exact h1 t (by simpa using ht)
      · intro h1 t ht
        exact h1 (t + 1) (by simpa using ht)
theorem sum_app : ∀ (a b : List En), sumE (a ++ b) = sumE a + sumE b
  | [], b => by rw [List.nil_append]; show _ = 0 + _; omega
  | e :: a, b => by rw [List.cons_append]; show wtN e.2 + sumE (a ++ b) = wtN e.2 + sumE a + sumE b; rw [sum_app a b]; omega
theorem sum_succ {es : List En} {x : Nat} (h : x < es.length) : sumE (es.take (x + 1)) = sumE (es.take x) + wtN (es.getD x ([], 0, [], [])).2 := by
  rw [← tk_succ (z := ([], 0, [], [])) h, sum_app]; rfl
theorem wt_le {r : Rs} (h : RsP r) : wtN r ≤ 2097153 := by
  unfold RsP at h
  unfold wtN
  omega
theorem ens_at {es : List En} (h : EnsP es) {x : Nat} (hx : x < es.length) : EnP (es.getD x ([], 0, [], [])) := by
  refine h.2 _ ?_
  rw [List.getD_eq_getElem?_getD, List.getElem?_eq_getElem hx]
  exact List.getElem_mem hx
theorem sum_le {es : List En} (h : EnsP es) : ∀ x, x ≤ es.length → sumE (es.take x) ≤ x * 2097153
  | 0, _ => by simp [sumE]
  | x + 1, hx => by
    have h1 := sum_le h x (by omega)
    have h2 := wt_le (ens_at h (x := x) (by omega)).2
    rw [sum_succ (by omega), Nat.add_mul, Nat.one_mul]
    omega
theorem keys_succ {es : List En} {x : Nat} (h : KeysP es x) (h1 : (es.getD x ([], 0, [], [])).1.length ≤ 5000) (h2 : ∀ j, j < x → (es.getD j ([], 0, [], [])).1 ≠ (es.getD x ([], 0, [], [])).1) : KeysP es (x + 1) := by
  intro i hi
  by_cases e : i = x
  · subst e; exact ⟨h1, h2⟩
  · exact h i (by omega)
theorem cache_ok {c : Ca} (h : cacheB c = true) : 0 ≤ c.1 ∧ c.1 ≤ 5000 ∧ c.2.length ≤ 30 ∧ KeysP c.2 c.2.length ∧ (sumE c.2 : Int) ≤ c.1 := by
  unfold cacheB at h
  simp only [Bool.and_eq_true, decide_eq_true_eq] at h
  exact ⟨h.1.1.1.1, h.1.1.1.2, h.1.1.2, h.1.2, h.2⟩
theorem cache_no {c : Ca} (h : cacheB c = true → False) : false = cacheB c := by
  cases hc : cacheB c with
  | false => rfl
  | true => exact (h hc).elim
theorem cache_of {c : Ca} (h1 : 0 ≤ c.1) (h2 : c.1 ≤ 5000) (h3 : c.2.length ≤ 30) (h4 : KeysP c.2 c.2.length) : cacheB c = decide ((sumE c.2 : Int) ≤ c.1) := by
  unfold cacheB
  rw [decide_eq_true (show 0 ≤ c.1 ∧ c.1 ≤ 5000 from ⟨h1, h2⟩), decide_eq_true h3, decide_eq_true h4]; rfl
theorem v_L_szByteS :
  ∀ (d : List Int × Int), Ty.wf bytesT (Prod.fst d) ∧ Ty.wf i64T (Prod.snd d) → True → (decide (IntKind.wrap IntKind.i64 (Prod.snd d - (↑(List.length (Prod.fst d)) : Int)) < (0 : Int)) = true → (-1 : Int) = szF
  (List.length (Prod.fst d)) (Prod.snd d)) ∧ (decide (IntKind.wrap IntKind.i64 (Prod.snd d - (↑(List.length (Prod.fst d)) : Int)) < (0 : Int)) = false → IntKind.wrap IntKind.i64 (Prod.snd d - (↑(List.length (Prod.fst d))
  : Int)) = szF (List.length (Prod.fst d)) (Prod.snd d)) := by
  intro d hw _
  simp only [szF, w64]
  grind
theorem v_L_toByteS :
  ∀ (d : List Int), Ty.wf bytesT d → List.length d ≤ (1048576 : Nat) → ((0 : Int) ≤ (↑(List.length d) : Int) ∧ (↑(List.length d) : Int) ≤ (↑(List.length d) : Int) ∧ (↑(List.length d) : Int) * (↑(1 : Nat) : Int) ≤
  (140737488355328 : Int)) ∧ (0 : Nat) ≤ List.length d ∧ ((d = d ∧ Value.slice none (0 : Nat) (0 : Nat) = Value.slice none (0 : Nat) (0 : Nat) ∧ (0 : Int) = (↑(0 : Nat) : Int)) ∧ List.replicate (Int.toNat (↑(List.length
  d) : Int)) (0 : Int) = List.take (0 : Nat) d ++ List.replicate (List.length d - (0 : Nat)) (0 : Int)) ∧ ∀ (x : Nat), x ≤ List.length d → (decide ((↑x : Int) < (↑(List.length d) : Int)) = true → ((0 : Int) ≤ (↑x : Int)
  ∧ (↑x : Int) < (↑(List.length d) : Int)) ∧ ((0 : Int) ≤ (↑x : Int) ∧ (↑x : Int) < (↑(List.length (List.take x d ++ List.replicate (List.length d - x) (0 : Int))) : Int)) ∧ ∃ (x' : Nat), x' ≤ List.length d ∧ List.length
  d - x' < List.length d - x ∧ (d = d ∧ Value.slice none (0 : Nat) (0 : Nat) = Value.slice none (0 : Nat) (0 : Nat) ∧ IntKind.wrap IntKind.i64 ((↑x : Int) + (1 : Int)) = (↑x' : Int)) ∧ List.set (List.take x d ++
  List.replicate (List.length d - x) (0 : Int)) (Int.toNat (↑x : Int)) (List.getD d (Int.toNat (↑x : Int)) (0 : Int)) = List.take x' d ++ List.replicate (List.length d - x') (0 : Int)) ∧ (decide ((↑x : Int) <
  (↑(List.length d) : Int)) = false → List.take x d ++ List.replicate (List.length d - x) (0 : Int) = d) := by
  intro (d : List Int) hw (hp : d.length ≤ 1048576)
  simp only [Int.toNat_natCast, exists_const, and_true, true_and, implies_true, decide_eq_true_eq, decide_eq_false_iff_not, Bool.not_eq_true', Bool.not_eq_false', beq_iff_eq, forall_const]
  refine ⟨⟨by omega, by omega, by omega⟩, by omega, ⟨rfl, by simp⟩, fun x h1 => ⟨fun h3 => ⟨⟨by omega, by omega⟩, ⟨by omega, ?_⟩, x + 1, by omega, by omega, wrap_succ (by omega), copy_step d _ (by omega)⟩, fun h3 => ?_⟩⟩
  · simp; omega
  · have h4 : x = d.length := by omega
    subst h4
    simp
theorem v_L_eqByteS :
  ∀ (d : List Int × List Int), Ty.wf bytesT (Prod.fst d) ∧ Ty.wf bytesT (Prod.snd d) → True → ((!decide ((↑(List.length (Prod.fst d)) : Int) = (↑(List.length (Prod.snd d)) : Int))) = true → false = decide (Prod.fst d =
  Prod.snd d)) ∧ ((!decide ((↑(List.length (Prod.fst d)) : Int) = (↑(List.length (Prod.snd d)) : Int))) = false → ((0 : Nat) ≤ List.length (Prod.fst d) ∧ List.length (Prod.fst d) = List.length (Prod.snd d) ∧ List.take (0
  : Nat) (Prod.fst d) = List.take (0 : Nat) (Prod.snd d)) ∧ (Prod.fst d = Prod.fst d ∧ Prod.snd d = Prod.snd d ∧ (0 : Int) = (↑(0 : Nat) : Int)) ∧ ∀ (x : Nat), x ≤ List.length (Prod.fst d) ∧ List.length (Prod.fst d) =
  List.length (Prod.snd d) ∧ List.take x (Prod.fst d) = List.take x (Prod.snd d) → (decide ((↑x : Int) < (↑(List.length (Prod.fst d)) : Int)) = true → ((0 : Int) ≤ (↑x : Int) ∧ (↑x : Int) < (↑(List.length (Prod.fst d)) :
  Int)) ∧ ((0 : Int) ≤ (↑x : Int) ∧ (↑x : Int) < (↑(List.length (Prod.snd d)) : Int)) ∧ ((!decide (List.getD (Prod.fst d) (Int.toNat (↑x : Int)) (0 : Int) = List.getD (Prod.snd d) (Int.toNat (↑x : Int)) (0 : Int))) =
  true → false = decide (Prod.fst d = Prod.snd d)) ∧ ((!decide (List.getD (Prod.fst d) (Int.toNat (↑x : Int)) (0 : Int) = List.getD (Prod.snd d) (Int.toNat (↑x : Int)) (0 : Int))) = false → ∃ (x' : Nat), (x' ≤
  List.length (Prod.fst d) ∧ List.length (Prod.fst d) = List.length (Prod.snd d) ∧ List.take x' (Prod.fst d) = List.take x' (Prod.snd d)) ∧ List.length (Prod.fst d) - x' < List.length (Prod.fst d) - x ∧ Prod.fst d =
  Prod.fst d ∧ Prod.snd d = Prod.snd d ∧ IntKind.wrap IntKind.i64 ((↑x : Int) + (1 : Int)) = (↑x' : Int))) ∧ (decide ((↑x : Int) < (↑(List.length (Prod.fst d)) : Int)) = false → true = decide (Prod.fst d = Prod.snd d))) := by
  intro (d : List Int × List Int) hw hp
  obtain ⟨xs, ys⟩ := d
  have hl : xs.length ≤ 9223372036854775807 := hw.1.1
  simp only [Int.toNat_natCast, exists_const, and_true, true_and, implies_true, decide_eq_true_eq, decide_eq_false_iff_not, Bool.not_eq_true', Bool.not_eq_false', beq_iff_eq, forall_const]
  refine ⟨fun h => ?_, fun h => ⟨⟨by omega, by omega, rfl⟩, rfl, fun x ⟨h1, h2, h0⟩ => ⟨fun h3 => ?_, fun h3 => ?_⟩⟩⟩
  · exact (decide_eq_false (fun e => h (by rw [e]))).symm
  · have h4 : x < xs.length := by omega
    obtain ⟨t1, t2⟩ := take_ext (z := (0 : Int)) h2 h4 h0
    rw [wrap_succ (by omega)]
    exact ⟨⟨by omega, by omega⟩, ⟨by omega, by omega⟩, fun h5 => (decide_eq_false (fun e => h5 (t2 e))).symm, fun h5 => ⟨x + 1, ⟨by omega, h2, t1.2 h5⟩, by omega, rfl⟩⟩
  · have h4 : x = xs.length := by omega
    subst h4
    have : xs = ys := by rw [List.take_length, h2, List.take_length] at h0; exact h0
    exact (decide_eq_true this).symm
theorem v_L_szResult :
  ∀ (d : (Int × List Int × List Int) × Int), Ty.wf resT (Prod.fst d) ∧ Ty.wf i64T (Prod.snd d) → True → True ∧ (Ty.wf i64T (szF (List.length (Prod.fst (Prod.snd (Prod.fst d)))) (Prod.snd d)) → (decide (szF (List.length
  (Prod.fst (Prod.snd (Prod.fst d)))) (Prod.snd d) < (0 : Int)) = true → (-1 : Int) = szRsF (Prod.fst d) (Prod.snd d)) ∧ (decide (szF (List.length (Prod.fst (Prod.snd (Prod.fst d)))) (Prod.snd d) < (0 : Int)) = false →
  True ∧ (Ty.wf i64T (szF (List.length (Prod.snd (Prod.snd (Prod.fst d)))) (szF (List.length (Prod.fst (Prod.snd (Prod.fst d)))) (Prod.snd d))) → (decide (szF (List.length (Prod.snd (Prod.snd (Prod.fst d)))) (szF
  (List.length (Prod.fst (Prod.snd (Prod.fst d)))) (Prod.snd d)) < (0 : Int)) = true → (-1 : Int) = szRsF (Prod.fst d) (Prod.snd d)) ∧ (decide (szF (List.length (Prod.snd (Prod.snd (Prod.fst d)))) (szF (List.length
  (Prod.fst (Prod.snd (Prod.fst d)))) (Prod.snd d)) < (0 : Int)) = false → szF (List.length (Prod.snd (Prod.snd (Prod.fst d)))) (szF (List.length (Prod.fst (Prod.snd (Prod.fst d)))) (Prod.snd d)) = szRsF (Prod.fst d)
  (Prod.snd d))))) := by
  intro d hw _
  simp only [szRsF, szF]
  grind
theorem v_L_szEntry :
  ∀ (d : (List Int × Int × List Int × List Int) × Int), Ty.wf entT (Prod.fst d) ∧ Ty.wf i64T (Prod.snd d) → True → True ∧ (Ty.wf i64T (szF (List.length (Prod.fst (Prod.fst d))) (Prod.snd d)) → (decide (szF (List.length
  (Prod.fst (Prod.fst d))) (Prod.snd d) < (0 : Int)) = true → (-1 : Int) = szEnF (Prod.fst d) (Prod.snd d)) ∧ (decide (szF (List.length (Prod.fst (Prod.fst d))) (Prod.snd d) < (0 : Int)) = false → True ∧ (Ty.wf i64T
  (szRsF (Prod.fst (Prod.snd (Prod.fst d)), Prod.fst (Prod.snd (Prod.snd (Prod.fst d))), Prod.snd (Prod.snd (Prod.snd (Prod.fst d)))) (szF (List.length (Prod.fst (Prod.fst d))) (Prod.snd d))) → (decide (szRsF (Prod.fst
  (Prod.snd (Prod.fst d)), Prod.fst (Prod.snd (Prod.snd (Prod.fst d))), Prod.snd (Prod.snd (Prod.snd (Prod.fst d)))) (szF (List.length (Prod.fst (Prod.fst d))) (Prod.snd d)) < (0 : Int)) = true → (-1 : Int) = szEnF
  (Prod.fst d) (Prod.snd d)) ∧ (decide (szRsF (Prod.fst (Prod.snd (Prod.fst d)), Prod.fst (Prod.snd (Prod.snd (Prod.fst d))), Prod.snd (Prod.snd (Prod.snd (Prod.fst d)))) (szF (List.length (Prod.fst (Prod.fst d)))
  (Prod.snd d)) < (0 : Int)) = false → szRsF (Prod.fst (Prod.snd (Prod.fst d)), Prod.fst (Prod.snd (Prod.snd (Prod.fst d))), Prod.snd (Prod.snd (Prod.snd (Prod.fst d)))) (szF (List.length (Prod.fst (Prod.fst d)))
  (Prod.snd d)) = szEnF (Prod.fst d) (Prod.snd d))))) := by
  intro d hw _
  simp only [szEnF, szRsF, szF]
  grind
theorem v_L_szEntryS :
  ∀ (d : List (List Int × Int × List Int × List Int) × Int), Ty.wf (Ty.sl entT) (Prod.fst d) ∧ Ty.wf i64T (Prod.snd d) → True → (decide (IntKind.wrap IntKind.i64 (Prod.snd d - (↑(List.length (Prod.fst d)) : Int)) < (0 :
  Int)) = true → (-1 : Int) = szEnsF (Prod.fst d) (Prod.snd d)) ∧ (decide (IntKind.wrap IntKind.i64 (Prod.snd d - (↑(List.length (Prod.fst d)) : Int)) < (0 : Int)) = false → ((0 : Nat) ≤ List.length (Prod.fst d) ∧ szEnGo
  (List.drop (0 : Nat) (Prod.fst d)) (w64 (Prod.snd d - (↑(List.length (Prod.fst d)) : Int))) = szEnGo (Prod.fst d) (w64 (Prod.snd d - (↑(List.length (Prod.fst d)) : Int)))) ∧ (Prod.fst d = Prod.fst d ∧ IntKind.wrap
  IntKind.i64 (Prod.snd d - (↑(List.length (Prod.fst d)) : Int)) = w64 (Prod.snd d - (↑(List.length (Prod.fst d)) : Int)) ∧ (0 : Int) = (↑(0 : Nat) : Int)) ∧ ∀ (x : Nat × Int), Prod.fst x ≤ List.length (Prod.fst d) ∧
  szEnGo (List.drop (Prod.fst x) (Prod.fst d)) (Prod.snd x) = szEnGo (Prod.fst d) (w64 (Prod.snd d - (↑(List.length (Prod.fst d)) : Int))) → (decide ((↑(Prod.fst x) : Int) < (↑(List.length (Prod.fst d)) : Int)) = true →
  ((0 : Int) ≤ (↑(Prod.fst x) : Int) ∧ (↑(Prod.fst x) : Int) < (↑(List.length (Prod.fst d)) : Int)) ∧ True ∧ (Ty.wf i64T (szEnF (Prod.fst (List.getD (Prod.fst d) (Int.toNat (↑(Prod.fst x) : Int)) ([], (0 : Int), [],
  [])), Prod.fst (Prod.snd (List.getD (Prod.fst d) (Int.toNat (↑(Prod.fst x) : Int)) ([], (0 : Int), [], []))), Prod.fst (Prod.snd (Prod.snd (List.getD (Prod.fst d) (Int.toNat (↑(Prod.fst x) : Int)) ([], (0 : Int), [],
  [])))), Prod.snd (Prod.snd (Prod.snd (List.getD (Prod.fst d) (Int.toNat (↑(Prod.fst x) : Int)) ([], (0 : Int), [], []))))) (Prod.snd x)) → (decide (szEnF (Prod.fst (List.getD (Prod.fst d) (Int.toNat (↑(Prod.fst x) :
  Int)) ([], (0 : Int), [], [])), Prod.fst (Prod.snd (List.getD (Prod.fst d) (Int.toNat (↑(Prod.fst x) : Int)) ([], (0 : Int), [], []))), Prod.fst (Prod.snd (Prod.snd (List.getD (Prod.fst d) (Int.toNat (↑(Prod.fst x) :
  Int)) ([], (0 : Int), [], [])))), Prod.snd (Prod.snd (Prod.snd (List.getD (Prod.fst d) (Int.toNat (↑(Prod.fst x) : Int)) ([], (0 : Int), [], []))))) (Prod.snd x) < (0 : Int)) = true → (-1 : Int) = szEnsF (Prod.fst d)
  (Prod.snd d)) ∧ (decide (szEnF (Prod.fst (List.getD (Prod.fst d) (Int.toNat (↑(Prod.fst x) : Int)) ([], (0 : Int), [], [])), Prod.fst (Prod.snd (List.getD (Prod.fst d) (Int.toNat (↑(Prod.fst x) : Int)) ([], (0 : Int),
  [], []))), Prod.fst (Prod.snd (Prod.snd (List.getD (Prod.fst d) (Int.toNat (↑(Prod.fst x) : Int)) ([], (0 : Int), [], [])))), Prod.snd (Prod.snd (Prod.snd (List.getD (Prod.fst d) (Int.toNat (↑(Prod.fst x) : Int)) ([],
  (0 : Int), [], []))))) (Prod.snd x) < (0 : Int)) = false → ∃ (x' : Nat × Int), (Prod.fst x' ≤ List.length (Prod.fst d) ∧ szEnGo (List.drop (Prod.fst x') (Prod.fst d)) (Prod.snd x') = szEnGo (Prod.fst d) (w64 (Prod.snd
  d - (↑(List.length (Prod.fst d)) : Int)))) ∧ List.length (Prod.fst d) - Prod.fst x' < List.length (Prod.fst d) - Prod.fst x ∧ Prod.fst d = Prod.fst d ∧ szEnF (Prod.fst (List.getD (Prod.fst d) (Int.toNat (↑(Prod.fst x)
  : Int)) ([], (0 : Int), [], [])), Prod.fst (Prod.snd (List.getD (Prod.fst d) (Int.toNat (↑(Prod.fst x) : Int)) ([], (0 : Int), [], []))), Prod.fst (Prod.snd (Prod.snd (List.getD (Prod.fst d) (Int.toNat (↑(Prod.fst x) :
  Int)) ([], (0 : Int), [], [])))), Prod.snd (Prod.snd (Prod.snd (List.getD (Prod.fst d) (Int.toNat (↑(Prod.fst x) : Int)) ([], (0 : Int), [], []))))) (Prod.snd x) = Prod.snd x' ∧ IntKind.wrap IntKind.i64 ((↑(Prod.fst x)
  : Int) + (1 : Int)) = (↑(Prod.fst x') : Int)))) ∧ (decide ((↑(Prod.fst x) : Int) < (↑(List.length (Prod.fst d)) : Int)) = false → Prod.snd x = szEnsF (Prod.fst d) (Prod.snd d))) := by
  intro (d : List En × Int) hw _
  obtain ⟨es, l⟩ := d
  have hl : es.length ≤ 9223372036854775807 := hw.1.1
  simp only [Int.toNat_natCast, exists_const, and_true, true_and, implies_true, decide_eq_true_eq, decide_eq_false_iff_not, Bool.not_eq_true', Bool.not_eq_false', beq_iff_eq, forall_const]
  refine ⟨fun h => by unfold szEnsF w64; rw [if_pos h], fun h => ⟨⟨by omega, by rw [List.drop_zero]⟩, ⟨rfl, rfl⟩, fun x hx => ?_⟩⟩
  obtain ⟨h1, h2⟩ := hx
  have hs : szEnsF es l = szEnGo es (w64 (l - es.length)) := by
    unfold szEnsF w64
    rw [if_neg h]
  rw [hs, ← h2]
  have hse : ((es.getD x.1 ([], 0, [], [])).1, (es.getD x.1 ([], 0, [], [])).2.1, (es.getD x.1 ([], 0, [], [])).2.2.1, (es.getD x.1 ([], 0, [], [])).2.2.2) = es.getD x.1 ([], 0, [], []) := rfl
  refine ⟨fun h3 => ?_, fun h3 => ?_⟩
  · have h4 : x.1 < es.length := by omega
    rw [hse, getD_drop_cons (x := (([], 0, [], []) : En)) h4]
    refine ⟨⟨by omega, by omega⟩, fun _ => ⟨fun h5 => ?_, fun h5 => ⟨(x.1 + 1, szEnF (es.getD x.1 ([], 0, [], [])) x.2), ⟨h4, ?_⟩, by show es.length - (x.1 + 1) < _; omega, rfl, wrap_succ (by omega)⟩⟩⟩
    · unfold szEnGo; rw [if_pos h5]
    · show szEnGo (es.drop (x.1 + 1)) _ = _
      conv => rhs; unfold szEnGo
      rw [if_neg h5]
  · rw [show x.1 = es.length by omega, List.drop_length]; rfl
theorem v_L_szCache :
  ∀ (d : (Int × List (List Int × Int × List Int × List Int)) × Int), Ty.wf cacheT (Prod.fst d) ∧ Ty.wf i64T (Prod.snd d) → True → True ∧ (Ty.wf i64T (szEnsF (Prod.snd (Prod.fst d)) (Prod.snd d)) → (decide (szEnsF
  (Prod.snd (Prod.fst d)) (Prod.snd d) < (0 : Int)) = true → (-1 : Int) = szCaF (Prod.fst d) (Prod.snd d)) ∧ (decide (szEnsF (Prod.snd (Prod.fst d)) (Prod.snd d) < (0 : Int)) = false → szEnsF (Prod.snd (Prod.fst d))
  (Prod.snd d) = szCaF (Prod.fst d) (Prod.snd d))) := by
  intro d hw _
  simp only [szCaF]
  grind
theorem v_L_toResult :
  ∀ (d : Int × List Int × List Int), Ty.wf resT d → RsP d → List.length (Prod.fst (Prod.snd d)) ≤ (1048576 : Nat) ∧ (Ty.wf listT (Prod.fst (Prod.snd d)) → List.length (Prod.snd (Prod.snd d)) ≤ (1048576 : Nat) ∧ (Ty.wf
  listT (Prod.snd (Prod.snd d)) → (Prod.fst d, Prod.fst (Prod.snd d), Prod.snd (Prod.snd d)) = d)) := by
  intro (d : Rs) hw hp
  exact ⟨hp.1, fun _ => ⟨hp.2, fun _ => rfl⟩⟩
theorem v_L_toEntry :
  ∀ (d : List Int × Int × List Int × List Int), Ty.wf entT d → EnP d → List.length (Prod.fst d) ≤ (1048576 : Nat) ∧ (Ty.wf bytesT (Prod.fst d) → RsP (Prod.fst (Prod.snd d), Prod.fst (Prod.snd (Prod.snd d)), Prod.snd
  (Prod.snd (Prod.snd d))) ∧ (Ty.wf resT (Prod.fst (Prod.snd d), Prod.fst (Prod.snd (Prod.snd d)), Prod.snd (Prod.snd (Prod.snd d))) → (Prod.fst d, Prod.fst (Prod.snd d), Prod.fst (Prod.snd (Prod.snd d)), Prod.snd
  (Prod.snd (Prod.snd d))) = d)) := by
  intro (d : En) hw hp
  simp only [Int.toNat_natCast, exists_const, and_true, true_and, implies_true, decide_eq_true_eq, decide_eq_false_iff_not, Bool.not_eq_true', Bool.not_eq_false', beq_iff_eq, forall_const]
  exact ⟨hp.1, fun _ => hp.2⟩
theorem v_L_toEntryS :
  ∀ (d : List (List Int × Int × List Int × List Int)), Ty.wf (Ty.sl entT) d → EnsP d → ((0 : Int) ≤ (↑(List.length d) : Int) ∧ (↑(List.length d) : Int) ≤ (↑(List.length d) : Int) ∧ (↑(List.length d) : Int) * (↑(80 : Nat)
  : Int) ≤ (140737488355328 : Int)) ∧ (0 : Nat) ≤ List.length d ∧ ((d = d ∧ Value.slice none (0 : Nat) (0 : Nat) = Value.slice none (0 : Nat) (0 : Nat) ∧ (0 : Int) = (↑(0 : Nat) : Int)) ∧ List.replicate (Int.toNat
  (↑(List.length d) : Int)) ([], (0 : Int), [], []) = List.take (0 : Nat) d ++ List.replicate (List.length d - (0 : Nat)) ([], (0 : Int), [], [])) ∧ ∀ (x : Nat), x ≤ List.length d → (decide ((↑x : Int) < (↑(List.length
  d) : Int)) = true → ((0 : Int) ≤ (↑x : Int) ∧ (↑x : Int) < (↑(List.length d) : Int)) ∧ EnP (Prod.fst (List.getD d (Int.toNat (↑x : Int)) ([], (0 : Int), [], [])), Prod.fst (Prod.snd (List.getD d (Int.toNat (↑x : Int))
  ([], (0 : Int), [], []))), Prod.fst (Prod.snd (Prod.snd (List.getD d (Int.toNat (↑x : Int)) ([], (0 : Int), [], [])))), Prod.snd (Prod.snd (Prod.snd (List.getD d (Int.toNat (↑x : Int)) ([], (0 : Int), [], []))))) ∧
  (Ty.wf entT (Prod.fst (List.getD d (Int.toNat (↑x : Int)) ([], (0 : Int), [], [])), Prod.fst (Prod.snd (List.getD d (Int.toNat (↑x : Int)) ([], (0 : Int), [], []))), Prod.fst (Prod.snd (Prod.snd (List.getD d (Int.toNat
  (↑x : Int)) ([], (0 : Int), [], [])))), Prod.snd (Prod.snd (Prod.snd (List.getD d (Int.toNat (↑x : Int)) ([], (0 : Int), [], []))))) → ((0 : Int) ≤ (↑x : Int) ∧ (↑x : Int) < (↑(List.length (List.take x d ++
  List.replicate (List.length d - x) ([], (0 : Int), [], []))) : Int)) ∧ ∃ (x' : Nat), x' ≤ List.length d ∧ List.length d - x' < List.length d - x ∧ (d = d ∧ Value.slice none (0 : Nat) (0 : Nat) = Value.slice none (0 :
  Nat) (0 : Nat) ∧ IntKind.wrap IntKind.i64 ((↑x : Int) + (1 : Int)) = (↑x' : Int)) ∧ List.set (List.take x d ++ List.replicate (List.length d - x) ([], (0 : Int), [], [])) (Int.toNat (↑x : Int)) (Prod.fst (List.getD d
  (Int.toNat (↑x : Int)) ([], (0 : Int), [], [])), Prod.fst (Prod.snd (List.getD d (Int.toNat (↑x : Int)) ([], (0 : Int), [], []))), Prod.fst (Prod.snd (Prod.snd (List.getD d (Int.toNat (↑x : Int)) ([], (0 : Int), [],
  [])))), Prod.snd (Prod.snd (Prod.snd (List.getD d (Int.toNat (↑x : Int)) ([], (0 : Int), [], []))))) = List.take x' d ++ List.replicate (List.length d - x') ([], (0 : Int), [], []))) ∧ (decide ((↑x : Int) <
  (↑(List.length d) : Int)) = false → List.take x d ++ List.replicate (List.length d - x) ([], (0 : Int), [], []) = d) := by
  intro (d : List En) hw (hp : EnsP d)
  simp only [Int.toNat_natCast, exists_const, and_true, true_and, implies_true, decide_eq_true_eq, decide_eq_false_iff_not, Bool.not_eq_true', Bool.not_eq_false', beq_iff_eq, forall_const]
  have hl := hp.1
  refine ⟨⟨by omega, by omega, by omega⟩, by omega, ⟨rfl, by simp⟩, fun x h1 => ⟨fun h3 => ⟨⟨by omega, by omega⟩, ens_at hp (by omega), fun _ => ⟨⟨by omega, ?_⟩, x + 1, by omega, by omega, wrap_succ (by omega), copy_step d _ (by omega)⟩⟩, fun h3 => ?_⟩⟩
  · simp; omega
  · have h4 : x = d.length := by omega
    subst h4
    simp
theorem v_L_toCache :
  ∀ (d : Int × List (List Int × Int × List Int × List Int)), Ty.wf cacheT d → EnsP (Prod.snd d) → EnsP (Prod.snd d) ∧ (Ty.wf (Ty.sl entT) (Prod.snd d) → (Prod.fst d, Prod.snd d) = d) := by
  intro (d : Ca) hw hp
  exact ⟨hp, fun _ => rfl⟩
theorem v_L_eqResult :
  ∀ (d : (Int × List Int × List Int) × Int × List Int × List Int), Ty.wf resT (Prod.fst d) ∧ Ty.wf resT (Prod.snd d) → True → ((!decide (Prod.fst (Prod.fst d) = Prod.fst (Prod.snd d))) = true → false = eqRs (Prod.fst d)
  (Prod.snd d)) ∧ ((!decide (Prod.fst (Prod.fst d) = Prod.fst (Prod.snd d))) = false → True ∧ ((!decide (Prod.fst (Prod.snd (Prod.fst d)) = Prod.fst (Prod.snd (Prod.snd d)))) = true → false = eqRs (Prod.fst d) (Prod.snd
  d)) ∧ ((!decide (Prod.fst (Prod.snd (Prod.fst d)) = Prod.fst (Prod.snd (Prod.snd d)))) = false → True ∧ ((!decide (Prod.snd (Prod.snd (Prod.fst d)) = Prod.snd (Prod.snd (Prod.snd d)))) = true → false = eqRs (Prod.fst
  d) (Prod.snd d)) ∧ ((!decide (Prod.snd (Prod.snd (Prod.fst d)) = Prod.snd (Prod.snd (Prod.snd d)))) = false → true = eqRs (Prod.fst d) (Prod.snd d)))) := by
  intro (d : Rs × Rs) hw _
  obtain ⟨⟨a, b, c⟩, a', b', c'⟩ := d
  simp only [Int.toNat_natCast, exists_const, and_true, true_and, implies_true, decide_eq_true_eq, decide_eq_false_iff_not, Bool.not_eq_true', Bool.not_eq_false', beq_iff_eq, forall_const]
  unfold eqRs
  refine ⟨fun h => (decide_eq_false (fun e => h (by injection e))).symm, fun h => ⟨fun h1 => (decide_eq_false (fun e => h1 (by injection e with _ e; injection e))).symm, fun h1 => ⟨fun h2 => (decide_eq_false (fun e => h2 (by injection e with _ e; injection e))).symm, fun h2 => (decide_eq_true (by rw [h, h1, h2])).symm⟩⟩⟩
theorem v_L_eqEntry :
  ∀ (d : (List Int × Int × List Int × List Int) × List Int × Int × List Int × List Int), Ty.wf entT (Prod.fst d) ∧ Ty.wf entT (Prod.snd d) → True → True ∧ ((!decide (Prod.fst (Prod.fst d) = Prod.fst (Prod.snd d))) = true
  → false = eqEn (Prod.fst d) (Prod.snd d)) ∧ ((!decide (Prod.fst (Prod.fst d) = Prod.fst (Prod.snd d))) = false → True ∧ ((!eqRs (Prod.fst (Prod.snd (Prod.fst d)), Prod.fst (Prod.snd (Prod.snd (Prod.fst d))), Prod.snd
  (Prod.snd (Prod.snd (Prod.fst d)))) (Prod.fst (Prod.snd (Prod.snd d)), Prod.fst (Prod.snd (Prod.snd (Prod.snd d))), Prod.snd (Prod.snd (Prod.snd (Prod.snd d))))) = true → false = eqEn (Prod.fst d) (Prod.snd d)) ∧
  ((!eqRs (Prod.fst (Prod.snd (Prod.fst d)), Prod.fst (Prod.snd (Prod.snd (Prod.fst d))), Prod.snd (Prod.snd (Prod.snd (Prod.fst d)))) (Prod.fst (Prod.snd (Prod.snd d)), Prod.fst (Prod.snd (Prod.snd (Prod.snd d))),
  Prod.snd (Prod.snd (Prod.snd (Prod.snd d))))) = false → true = eqEn (Prod.fst d) (Prod.snd d))) := by
  intro (d : En × En) hw _
  obtain ⟨⟨a, r⟩, a', r'⟩ := d
  simp only [Int.toNat_natCast, exists_const, and_true, true_and, implies_true, decide_eq_true_eq, decide_eq_false_iff_not, Bool.not_eq_true', Bool.not_eq_false', beq_iff_eq, forall_const]
  unfold eqEn
  refine ⟨fun h => (decide_eq_false (fun e => h (by injection e))).symm, fun h => ⟨fun h1 => (decide_eq_false (fun e => ?_)).symm, fun h1 => (decide_eq_true ?_).symm⟩⟩
  · injection e with _ e
    subst e
    unfold eqRs at h1
    exact absurd rfl (of_decide_eq_false h1)
  · have h2 : (r.1, r.2.1, r.2.2) = (r'.1, r'.2.1, r'.2.2) := by unfold eqRs at h1; exact of_decide_eq_true h1
    rw [h, show r = r' from h2]
theorem v_L_eqEntryS :
  ∀ (d : List (List Int × Int × List Int × List Int) × List (List Int × Int × List Int × List Int)), Ty.wf (Ty.sl entT) (Prod.fst d) ∧ Ty.wf (Ty.sl entT) (Prod.snd d) → True → ((!decide ((↑(List.length (Prod.fst d)) :
  Int) = (↑(List.length (Prod.snd d)) : Int))) = true → false = eqEns (Prod.fst d) (Prod.snd d)) ∧ ((!decide ((↑(List.length (Prod.fst d)) : Int) = (↑(List.length (Prod.snd d)) : Int))) = false → ((0 : Nat) ≤ List.length
  (Prod.fst d) ∧ List.length (Prod.fst d) = List.length (Prod.snd d) ∧ List.take (0 : Nat) (Prod.fst d) = List.take (0 : Nat) (Prod.snd d)) ∧ (Prod.fst d = Prod.fst d ∧ Prod.snd d = Prod.snd d ∧ (0 : Int) = (↑(0 : Nat) :
  Int)) ∧ ∀ (x : Nat), x ≤ List.length (Prod.fst d) ∧ List.length (Prod.fst d) = List.length (Prod.snd d) ∧ List.take x (Prod.fst d) = List.take x (Prod.snd d) → (decide ((↑x : Int) < (↑(List.length (Prod.fst d)) : Int))
  = true → ((0 : Int) ≤ (↑x : Int) ∧ (↑x : Int) < (↑(List.length (Prod.fst d)) : Int)) ∧ ((0 : Int) ≤ (↑x : Int) ∧ (↑x : Int) < (↑(List.length (Prod.snd d)) : Int)) ∧ True ∧ ((!eqEn (Prod.fst (List.getD (Prod.fst d)
  (Int.toNat (↑x : Int)) ([], (0 : Int), [], [])), Prod.fst (Prod.snd (List.getD (Prod.fst d) (Int.toNat (↑x : Int)) ([], (0 : Int), [], []))), Prod.fst (Prod.snd (Prod.snd (List.getD (Prod.fst d) (Int.toNat (↑x : Int))
  ([], (0 : Int), [], [])))), Prod.snd (Prod.snd (Prod.snd (List.getD (Prod.fst d) (Int.toNat (↑x : Int)) ([], (0 : Int), [], []))))) (Prod.fst (List.getD (Prod.snd d) (Int.toNat (↑x : Int)) ([], (0 : Int), [], [])),
  Prod.fst (Prod.snd (List.getD (Prod.snd d) (Int.toNat (↑x : Int)) ([], (0 : Int), [], []))), Prod.fst (Prod.snd (Prod.snd (List.getD (Prod.snd d) (Int.toNat (↑x : Int)) ([], (0 : Int), [], [])))), Prod.snd (Prod.snd
  (Prod.snd (List.getD (Prod.snd d) (Int.toNat (↑x : Int)) ([], (0 : Int), [], [])))))) = true → false = eqEns (Prod.fst d) (Prod.snd d)) ∧ ((!eqEn (Prod.fst (List.getD (Prod.fst d) (Int.toNat (↑x : Int)) ([], (0 : Int),
  [], [])), Prod.fst (Prod.snd (List.getD (Prod.fst d) (Int.toNat (↑x : Int)) ([], (0 : Int), [], []))), Prod.fst (Prod.snd (Prod.snd (List.getD (Prod.fst d) (Int.toNat (↑x : Int)) ([], (0 : Int), [], [])))), Prod.snd
  (Prod.snd (Prod.snd (List.getD (Prod.fst d) (Int.toNat (↑x : Int)) ([], (0 : Int), [], []))))) (Prod.fst (List.getD (Prod.snd d) (Int.toNat (↑x : Int)) ([], (0 : Int), [], [])), Prod.fst (Prod.snd (List.getD (Prod.snd
  d) (Int.toNat (↑x : Int)) ([], (0 : Int), [], []))), Prod.fst (Prod.snd (Prod.snd (List.getD (Prod.snd d) (Int.toNat (↑x : Int)) ([], (0 : Int), [], [])))), Prod.snd (Prod.snd (Prod.snd (List.getD (Prod.snd d)
  (Int.toNat (↑x : Int)) ([], (0 : Int), [], [])))))) = false → ∃ (x' : Nat), (x' ≤ List.length (Prod.fst d) ∧ List.length (Prod.fst d) = List.length (Prod.snd d) ∧ List.take x' (Prod.fst d) = List.take x' (Prod.snd d))
  ∧ List.length (Prod.fst d) - x' < List.length (Prod.fst d) - x ∧ Prod.fst d = Prod.fst d ∧ Prod.snd d = Prod.snd d ∧ IntKind.wrap IntKind.i64 ((↑x : Int) + (1 : Int)) = (↑x' : Int))) ∧ (decide ((↑x : Int) <
  (↑(List.length (Prod.fst d)) : Int)) = false → true = eqEns (Prod.fst d) (Prod.snd d))) := by
  intro (d : List En × List En) hw hp
  obtain ⟨xs, ys⟩ := d
  have hl : xs.length ≤ 9223372036854775807 := hw.1.1
  simp only [Int.toNat_natCast, exists_const, and_true, true_and, implies_true, decide_eq_true_eq, decide_eq_false_iff_not, Bool.not_eq_true', Bool.not_eq_false', beq_iff_eq, forall_const]
  unfold eqEns
  refine ⟨fun h => ?_, fun h => ⟨⟨by omega, by omega, rfl⟩, rfl, fun x ⟨h1, h2, h0⟩ => ⟨fun h3 => ?_, fun h3 => ?_⟩⟩⟩
  · exact (decide_eq_false (fun e => h (by rw [e]))).symm
  · have h4 : x < xs.length := by omega
    obtain ⟨t1, t2⟩ := take_ext (z := (([], 0, [], []) : En)) h2 h4 h0
    rw [wrap_succ (by omega)]
    refine ⟨⟨by omega, by omega⟩, ⟨by omega, by omega⟩, fun h5 => (decide_eq_false (fun e => ?_)).symm, fun h5 => ⟨x + 1, ⟨by omega, h2, t1.2 ?_⟩, by omega, rfl⟩⟩
    · have h6 := t2 e
      unfold eqEn at h5
      exact absurd h6 (of_decide_eq_false h5)
    · unfold eqEn at h5
      exact of_decide_eq_true h5
  · have h4 : x = xs.length := by omega
    subst h4
    have : xs = ys := by rw [List.take_length, h2, List.take_length] at h0; exact h0
    exact (decide_eq_true this).symm
theorem v_L_eqCache :
  ∀ (d : (Int × List (List Int × Int × List Int × List Int)) × Int × List (List Int × Int × List Int × List Int)), Ty.wf cacheT (Prod.fst d) ∧ Ty.wf cacheT (Prod.snd d) → True → ((!decide (Prod.fst (Prod.fst d) =
  Prod.fst (Prod.snd d))) = true → false = eqCa (Prod.fst d) (Prod.snd d)) ∧ ((!decide (Prod.fst (Prod.fst d) = Prod.fst (Prod.snd d))) = false → True ∧ ((!eqEns (Prod.snd (Prod.fst d)) (Prod.snd (Prod.snd d))) = true →
  false = eqCa (Prod.fst d) (Prod.snd d)) ∧ ((!eqEns (Prod.snd (Prod.fst d)) (Prod.snd (Prod.snd d))) = false → true = eqCa (Prod.fst d) (Prod.snd d))) := by
  intro (d : Ca × Ca) hw _
  obtain ⟨⟨a, r⟩, a', r'⟩ := d
  simp only [Int.toNat_natCast, exists_const, and_true, true_and, implies_true, decide_eq_true_eq, decide_eq_false_iff_not, Bool.not_eq_true', Bool.not_eq_false', beq_iff_eq, forall_const]
  unfold eqCa
  refine ⟨fun h => (decide_eq_false (fun e => h (by injection e))).symm, fun h => ⟨fun h1 => (decide_eq_false (fun e => ?_)).symm, fun h1 => (decide_eq_true ?_).symm⟩⟩
  · injection e with _ e
    unfold eqEns at h1
    exact absurd e (of_decide_eq_false h1)
  · unfold eqEns at h1
    rw [h, of_decide_eq_true h1]
theorem v_S_l01Same :
  ∀ (d : List Int × List Int), Ty.wf bytesT (Prod.fst d) ∧ Ty.wf bytesT (Prod.snd d) → True → ((!decide ((↑(List.length (Prod.fst d)) : Int) = (↑(List.length (Prod.snd d)) : Int))) = true → false = decide (Prod.fst d =
  Prod.snd d)) ∧ ((!decide ((↑(List.length (Prod.fst d)) : Int) = (↑(List.length (Prod.snd d)) : Int))) = false → ((0 : Nat) ≤ List.length (Prod.fst d) ∧ List.length (Prod.fst d) = List.length (Prod.snd d) ∧ List.take (0
  : Nat) (Prod.fst d) = List.take (0 : Nat) (Prod.snd d)) ∧ (Prod.fst d = Prod.fst d ∧ Prod.snd d = Prod.snd d ∧ (0 : Int) = (↑(0 : Nat) : Int)) ∧ ∀ (x : Nat), x ≤ List.length (Prod.fst d) ∧ List.length (Prod.fst d) =
  List.length (Prod.snd d) ∧ List.take x (Prod.fst d) = List.take x (Prod.snd d) → (decide ((↑x : Int) < (↑(List.length (Prod.fst d)) : Int)) = true → ((0 : Int) ≤ (↑x : Int) ∧ (↑x : Int) < (↑(List.length (Prod.fst d)) :
  Int)) ∧ ((0 : Int) ≤ (↑x : Int) ∧ (↑x : Int) < (↑(List.length (Prod.snd d)) : Int)) ∧ ((!decide (List.getD (Prod.fst d) (Int.toNat (↑x : Int)) (0 : Int) = List.getD (Prod.snd d) (Int.toNat (↑x : Int)) (0 : Int))) =
  true → false = decide (Prod.fst d = Prod.snd d)) ∧ ((!decide (List.getD (Prod.fst d) (Int.toNat (↑x : Int)) (0 : Int) = List.getD (Prod.snd d) (Int.toNat (↑x : Int)) (0 : Int))) = false → ∃ (x' : Nat), (x' ≤
  List.length (Prod.fst d) ∧ List.length (Prod.fst d) = List.length (Prod.snd d) ∧ List.take x' (Prod.fst d) = List.take x' (Prod.snd d)) ∧ List.length (Prod.fst d) - x' < List.length (Prod.fst d) - x ∧ Prod.fst d =
  Prod.fst d ∧ Prod.snd d = Prod.snd d ∧ IntKind.wrap IntKind.i64 ((↑x : Int) + (1 : Int)) = (↑x' : Int))) ∧ (decide ((↑x : Int) < (↑(List.length (Prod.fst d)) : Int)) = false → true = decide (Prod.fst d = Prod.snd d))) := by
  intro (d : List Int × List Int) hw hp
  obtain ⟨xs, ys⟩ := d
  have hl : xs.length ≤ 9223372036854775807 := hw.1.1
  simp only [Int.toNat_natCast, exists_const, and_true, true_and, implies_true, decide_eq_true_eq, decide_eq_false_iff_not, Bool.not_eq_true', Bool.not_eq_false', beq_iff_eq, forall_const]
  refine ⟨fun h => ?_, fun h => ⟨⟨by omega, by omega, rfl⟩, rfl, fun x ⟨h1, h2, h0⟩ => ⟨fun h3 => ?_, fun h3 => ?_⟩⟩⟩
  · exact (decide_eq_false (fun e => h (by rw [e]))).symm
  · have h4 : x < xs.length := by omega
    obtain ⟨t1, t2⟩ := take_ext (z := (0 : Int)) h2 h4 h0
    rw [wrap_succ (by omega)]
    exact ⟨⟨by omega, by omega⟩, ⟨by omega, by omega⟩, fun h5 => (decide_eq_false (fun e => h5 (t2 e))).symm, fun h5 => ⟨x + 1, ⟨by omega, h2, t1.2 h5⟩, by omega, rfl⟩⟩
  · have h4 : x = xs.length := by omega
    subst h4
    have : xs = ys := by rw [List.take_length, h2, List.take_length] at h0; exact h0
    exact (decide_eq_true this).symm
theorem v_G_bytesEqual :
  ∀ (d : List Int × List Int), Ty.wf bytesT (Prod.fst d) ∧ Ty.wf bytesT (Prod.snd d) → True → decide (strOfNums (Prod.fst d) = strOfNums (Prod.snd d)) = decide (Prod.fst d = Prod.snd d) := by
  intro (d : List Int × List Int) hw _
  obtain ⟨xs, ys⟩ := d
  exact decide_eq_decide.2 (str_inj (fun x hx => hw.1.2 x hx) (fun y hy => hw.2.2 y hy))
theorem v_S_l16Weight :
  ∀ (d : Int × List Int × List Int), Ty.wf resT d → RsP d → IntKind.wrap IntKind.i64 (IntKind.wrap IntKind.i64 ((1 : Int) + (↑(List.length (Prod.fst (Prod.snd d))) : Int)) + (↑(List.length (Prod.snd (Prod.snd d))) :
  Int)) = (↑(wtN d) : Int) := by
  intro (d : Rs) hw (hp : RsP d)
  have h := wt_le hp
  unfold wtN at *
  rw [wrap_small (n := 1 + (d.2.1.length : Int)) (by omega), wrap_small (by omega)]
  omega
theorem v_I_weightE :
  ∀ (d : List Int × Int × List Int × List Int), Ty.wf entT d → EnP d → IntKind.wrap IntKind.i64 (IntKind.wrap IntKind.i64 ((1 : Int) + (↑(List.length (Prod.fst (Prod.snd (Prod.snd d)))) : Int)) + (↑(List.length (Prod.snd
  (Prod.snd (Prod.snd d)))) : Int)) = (↑(wtN (Prod.snd d)) : Int) := by
  intro (d : En) hw (hp : EnP d)
  have h := wt_le hp.2
  unfold wtN at *
  rw [wrap_small (n := 1 + (d.2.2.1.length : Int)) (by omega), wrap_small (by omega)]
  omega
theorem v_I_weightOf :
  ∀ (d : Int × List (List Int × Int × List Int × List Int)), Ty.wf cacheT d → EnsP (Prod.snd d) → (0 : Nat) ≤ List.length (Prod.snd d) ∧ (((Prod.fst d = Prod.fst d ∧ Prod.snd d = Prod.snd d) ∧ (0 : Int) = (0 : Int) ∧ (0
  : Int) = (↑(sumE (List.take (0 : Nat) (Prod.snd d))) : Int) ∧ Prod.snd d = Prod.snd d ∧ (↑(List.length (Prod.snd d)) : Int) = (↑(List.length (Prod.snd d)) : Int) ∧ (0 : Int) = (↑(0 : Nat) : Int)) ∧ Prod.fst d =
  Prod.fst d ∧ Prod.snd d = Prod.snd d) ∧ ∀ (x : Nat), x ≤ List.length (Prod.snd d) → (decide ((↑x : Int) < (↑(List.length (Prod.snd d)) : Int)) = true → ((0 : Int) ≤ (↑x : Int) ∧ (↑x : Int) < (↑(List.length (Prod.snd
  d)) : Int)) ∧ EnP (Prod.fst (List.getD (Prod.snd d) (Int.toNat (↑x : Int)) ([], (0 : Int), [], [])), Prod.fst (Prod.snd (List.getD (Prod.snd d) (Int.toNat (↑x : Int)) ([], (0 : Int), [], []))), Prod.fst (Prod.snd
  (Prod.snd (List.getD (Prod.snd d) (Int.toNat (↑x : Int)) ([], (0 : Int), [], [])))), Prod.snd (Prod.snd (Prod.snd (List.getD (Prod.snd d) (Int.toNat (↑x : Int)) ([], (0 : Int), [], []))))) ∧ (Ty.wf i64T (↑(wtN
  (Prod.fst (Prod.snd (List.getD (Prod.snd d) (Int.toNat (↑x : Int)) ([], (0 : Int), [], []))), Prod.fst (Prod.snd (Prod.snd (List.getD (Prod.snd d) (Int.toNat (↑x : Int)) ([], (0 : Int), [], [])))), Prod.snd (Prod.snd
  (Prod.snd (List.getD (Prod.snd d) (Int.toNat (↑x : Int)) ([], (0 : Int), [], [])))))) : Int) → ∃ (x' : Nat), x' ≤ List.length (Prod.snd d) ∧ List.length (Prod.snd d) - x' < List.length (Prod.snd d) - x ∧ ((Prod.fst d =
  Prod.fst d ∧ Prod.snd d = Prod.snd d) ∧ (0 : Int) = (0 : Int) ∧ IntKind.wrap IntKind.i64 ((↑(sumE (List.take x (Prod.snd d))) : Int) + (↑(wtN (Prod.fst (Prod.snd (List.getD (Prod.snd d) (Int.toNat (↑x : Int)) ([], (0 :
  Int), [], []))), Prod.fst (Prod.snd (Prod.snd (List.getD (Prod.snd d) (Int.toNat (↑x : Int)) ([], (0 : Int), [], [])))), Prod.snd (Prod.snd (Prod.snd (List.getD (Prod.snd d) (Int.toNat (↑x : Int)) ([], (0 : Int), [],
  [])))))) : Int)) = (↑(sumE (List.take x' (Prod.snd d))) : Int) ∧ Prod.snd d = Prod.snd d ∧ (↑(List.length (Prod.snd d)) : Int) = (↑(List.length (Prod.snd d)) : Int) ∧ IntKind.wrap IntKind.i64 ((↑x : Int) + (1 : Int)) =
  (↑x' : Int)) ∧ Prod.fst d = Prod.fst d ∧ Prod.snd d = Prod.snd d)) ∧ (decide ((↑x : Int) < (↑(List.length (Prod.snd d)) : Int)) = false → (↑(sumE (List.take x (Prod.snd d))) : Int) = (↑(sumE (Prod.snd d)) : Int)) := by
  intro (d : Ca) hw hp
  obtain ⟨cap, es⟩ := d
  replace hp : EnsP es := hp
  have hl := hp.1
  simp only [Int.toNat_natCast, exists_const, and_true, true_and, implies_true, decide_eq_true_eq, decide_eq_false_iff_not, Bool.not_eq_true', Bool.not_eq_false', beq_iff_eq, forall_const]
  refine ⟨by omega, ⟨by rw [List.take_zero]; rfl, rfl⟩, fun x hx => ⟨fun h => ?_, fun h => by rw [List.take_of_length_le (by omega)]⟩⟩
  have he := ens_at hp (x := x) (by omega)
  have hw1 := wt_le he.2
  have hs := sum_le hp x hx
  have hs2 : x * 2097153 ≤ 1048576 * 2097153 := Nat.mul_le_mul_right _ (by omega)
  have hse : ((es.getD x ([], 0, [], [])).2.1, (es.getD x ([], 0, [], [])).2.2.1, (es.getD x ([], 0, [], [])).2.2.2) = (es.getD x ([], 0, [], [])).2 := rfl
  rw [hse]
  refine ⟨⟨by omega, by omega⟩, he, fun _ => ⟨x + 1, by omega, by omega, ?_, wrap_succ (by omega)⟩⟩
  rw [sum_succ (by omega), wrap_small (by omega)]; rfl
theorem v_S_l16Sum :
  ∀ (d : Int × List (List Int × Int × List Int × List Int)), Ty.wf cacheT d → EnsP (Prod.snd d) → (0 : Nat) ≤ List.length (Prod.snd d) ∧ (((Prod.fst d = Prod.fst d ∧ Prod.snd d = Prod.snd d) ∧ (0 : Int) = (0 : Int) ∧ (0
  : Int) = (↑(sumE (List.take (0 : Nat) (Prod.snd d))) : Int) ∧ (0 : Int) = (↑(0 : Nat) : Int)) ∧ Prod.fst d = Prod.fst d ∧ Prod.snd d = Prod.snd d) ∧ ∀ (x : Nat), x ≤ List.length (Prod.snd d) → (decide ((↑x : Int) <
  (↑(List.length (Prod.snd d)) : Int)) = true → ((0 : Int) ≤ (↑x : Int) ∧ (↑x : Int) < (↑(List.length (Prod.snd d)) : Int)) ∧ RsP (Prod.fst (Prod.snd (List.getD (Prod.snd d) (Int.toNat (↑x : Int)) ([], (0 : Int), [],
  []))), Prod.fst (Prod.snd (Prod.snd (List.getD (Prod.snd d) (Int.toNat (↑x : Int)) ([], (0 : Int), [], [])))), Prod.snd (Prod.snd (Prod.snd (List.getD (Prod.snd d) (Int.toNat (↑x : Int)) ([], (0 : Int), [], []))))) ∧
  (Ty.wf i64T (↑(wtN (Prod.fst (Prod.snd (List.getD (Prod.snd d) (Int.toNat (↑x : Int)) ([], (0 : Int), [], []))), Prod.fst (Prod.snd (Prod.snd (List.getD (Prod.snd d) (Int.toNat (↑x : Int)) ([], (0 : Int), [], [])))),
  Prod.snd (Prod.snd (Prod.snd (List.getD (Prod.snd d) (Int.toNat (↑x : Int)) ([], (0 : Int), [], [])))))) : Int) → ∃ (x' : Nat), x' ≤ List.length (Prod.snd d) ∧ List.length (Prod.snd d) - x' < List.length (Prod.snd d) -
  x ∧ ((Prod.fst d = Prod.fst d ∧ Prod.snd d = Prod.snd d) ∧ (0 : Int) = (0 : Int) ∧ IntKind.wrap IntKind.i64 ((↑(sumE (List.take x (Prod.snd d))) : Int) + (↑(wtN (Prod.fst (Prod.snd (List.getD (Prod.snd d) (Int.toNat
  (↑x : Int)) ([], (0 : Int), [], []))), Prod.fst (Prod.snd (Prod.snd (List.getD (Prod.snd d) (Int.toNat (↑x : Int)) ([], (0 : Int), [], [])))), Prod.snd (Prod.snd (Prod.snd (List.getD (Prod.snd d) (Int.toNat (↑x : Int))
  ([], (0 : Int), [], [])))))) : Int)) = (↑(sumE (List.take x' (Prod.snd d))) : Int) ∧ IntKind.wrap IntKind.i64 ((↑x : Int) + (1 : Int)) = (↑x' : Int)) ∧ Prod.fst d = Prod.fst d ∧ Prod.snd d = Prod.snd d)) ∧ (decide ((↑x
  : Int) < (↑(List.length (Prod.snd d)) : Int)) = false → (↑(sumE (List.take x (Prod.snd d))) : Int) = (↑(sumE (Prod.snd d)) : Int)) := by
  intro (d : Ca) hw hp
  obtain ⟨cap, es⟩ := d
  replace hp : EnsP es := hp
  have hl := hp.1
  simp only [Int.toNat_natCast, exists_const, and_true, true_and, implies_true, decide_eq_true_eq, decide_eq_false_iff_not, Bool.not_eq_true', Bool.not_eq_false', beq_iff_eq, forall_const]
  refine ⟨by omega, ⟨by rw [List.take_zero]; rfl, rfl⟩, fun x hx => ⟨fun h => ?_, fun h => by rw [List.take_of_length_le (by omega)]⟩⟩
  have he := ens_at hp (x := x) (by omega)
  have hw1 := wt_le he.2
  have hs := sum_le hp x hx
  have hs2 : x * 2097153 ≤ 1048576 * 2097153 := Nat.mul_le_mul_right _ (by omega)
  have hse : ((es.getD x ([], 0, [], [])).2.1, (es.getD x ([], 0, [], [])).2.2.1, (es.getD x ([], 0, [], [])).2.2.2) = (es.getD x ([], 0, [], [])).2 := rfl
  rw [hse]
  refine ⟨⟨by omega, by omega⟩, he.2, fun _ => ⟨x + 1, by omega, by omega, ?_, wrap_succ (by omega)⟩⟩
  rw [sum_succ (by omega), wrap_small (by omega)]; rfl
theorem v_I_entryOf1 :
  ∀ (d : (List Int × Int × List Int × List Int) × List Int), Ty.wf entT (Prod.fst d) ∧ Ty.wf (Ty.ptr bytesT) (Prod.snd d) → True → True ∧ decide (Prod.fst (Prod.fst d) = Prod.snd d) = decide (Prod.fst (Prod.fst d) =
  Prod.snd d) := by
  intro d _ _
  exact ⟨trivial, rfl⟩
theorem v_G_IndexFuncEn :
  ∀ (d : List (List Int × Int × List Int × List Int) × List Int), Ty.wf (Ty.sl entT) (Prod.fst d) ∧ Ty.wf (Ty.clo (0 : Nat) (Ty.ptr bytesT)) (Prod.snd d) → True → ((0 : Nat) ≤ List.length (Prod.fst d) ∧ keyGo (Prod.snd
  d) (List.drop (0 : Nat) (Prod.fst d)) (↑(0 : Nat) : Int) = keyGo (Prod.snd d) (Prod.fst d) (0 : Int)) ∧ (Prod.fst d = Prod.fst d ∧ Prod.snd d = Prod.snd d ∧ (↑(List.length (Prod.fst d)) : Int) = (↑(List.length
  (Prod.fst d)) : Int) ∧ (0 : Int) = (↑(0 : Nat) : Int)) ∧ ∀ (x : Nat), x ≤ List.length (Prod.fst d) ∧ keyGo (Prod.snd d) (List.drop x (Prod.fst d)) (↑x : Int) = keyGo (Prod.snd d) (Prod.fst d) (0 : Int) → (decide ((↑x :
  Int) < (↑(List.length (Prod.fst d)) : Int)) = true → ((0 : Int) ≤ (↑x : Int) ∧ (↑x : Int) < (↑(List.length (Prod.fst d)) : Int)) ∧ True ∧ (decide (Prod.fst (List.getD (Prod.fst d) (Int.toNat (↑x : Int)) ([], (0 : Int),
  [], [])) = Prod.snd d) = true → (↑x : Int) = keyGo (Prod.snd d) (Prod.fst d) (0 : Int)) ∧ (decide (Prod.fst (List.getD (Prod.fst d) (Int.toNat (↑x : Int)) ([], (0 : Int), [], [])) = Prod.snd d) = false → ∃ (x' : Nat),
  (x' ≤ List.length (Prod.fst d) ∧ keyGo (Prod.snd d) (List.drop x' (Prod.fst d)) (↑x' : Int) = keyGo (Prod.snd d) (Prod.fst d) (0 : Int)) ∧ List.length (Prod.fst d) - x' < List.length (Prod.fst d) - x ∧ Prod.fst d =
  Prod.fst d ∧ Prod.snd d = Prod.snd d ∧ (↑(List.length (Prod.fst d)) : Int) = (↑(List.length (Prod.fst d)) : Int) ∧ IntKind.wrap IntKind.i64 ((↑x : Int) + (1 : Int)) = (↑x' : Int))) ∧ (decide ((↑x : Int) <
  (↑(List.length (Prod.fst d)) : Int)) = false → (-1 : Int) = keyGo (Prod.snd d) (Prod.fst d) (0 : Int)) := by
  intro (d : List En × List Int) hw _
  obtain ⟨xs, t⟩ := d
  have hl : xs.length ≤ 9223372036854775807 := hw.1.1
  simp only [Int.toNat_natCast, exists_const, and_true, true_and, implies_true, decide_eq_true_eq, decide_eq_false_iff_not, Bool.not_eq_true', Bool.not_eq_false', beq_iff_eq, forall_const]
  refine ⟨⟨by omega, by simp⟩, rfl, fun x ⟨h1, h2⟩ => ⟨fun h3 => ?_, fun h3 => ?_⟩⟩
  · have h4 : x < xs.length := by omega
    rw [getD_drop_cons (x := (([], 0, [], []) : En)) h4, keyGo] at h2
    rw [wrap_succ (by omega)]
    refine ⟨⟨by omega, by omega⟩, fun h5 => ?_, fun h5 => ⟨x + 1, ⟨by omega, ?_⟩, by omega, rfl⟩⟩
    · rw [if_pos h5] at h2; exact h2
    · rw [if_neg h5] at h2; exact h2
  · have h4 : x = xs.length := by omega
    rw [h4, List.drop_length, keyGo] at h2
    exact h2
theorem v_I_entryOf :
  ∀ (d : List (List Int × Int × List Int × List Int) × List Int), Ty.wf (Ty.sl entT) (Prod.fst d) ∧ Ty.wf bytesT (Prod.snd d) → True → True ∧ (Ty.wf i64T (keyGo (Prod.snd d) (Prod.fst d) (0 : Int)) → keyGo (Prod.snd d)
  (Prod.fst d) (0 : Int) = keyGo (Prod.snd d) (Prod.fst d) (0 : Int)) := by
  intro d _ _
  exact ⟨trivial, fun _ => rfl⟩
theorem v_S_CacheOk :
  ∀ (d : Int × List (List Int × Int × List Int × List Int)), Ty.wf cacheT d → EnsP (Prod.snd d) → True ∧ ((!(decide ((0 : Int) ≤ Prod.fst d) && decide (Prod.fst d ≤ (5000 : Int)))) = true → false = cacheB d) ∧ ((!(decide
  ((0 : Int) ≤ Prod.fst d) && decide (Prod.fst d ≤ (5000 : Int)))) = false → (decide ((30 : Int) < (↑(List.length (Prod.snd d)) : Int)) = true → false = cacheB d) ∧ (decide ((30 : Int) < (↑(List.length (Prod.snd d)) :
  Int)) = false → ((0 : Nat) ≤ List.length (Prod.snd d) ∧ KeysP (Prod.snd d) (0 : Nat)) ∧ (((Prod.fst d = Prod.fst d ∧ Prod.snd d = Prod.snd d) ∧ (0 : Int) = (↑(sumE (List.take (0 : Nat) (Prod.snd d))) : Int) ∧ (0 : Int)
  = (↑(0 : Nat) : Int)) ∧ Prod.fst d = Prod.fst d ∧ Prod.snd d = Prod.snd d) ∧ ∀ (x : Nat), x ≤ List.length (Prod.snd d) ∧ KeysP (Prod.snd d) x → (decide ((↑x : Int) < (↑(List.length (Prod.snd d)) : Int)) = true → ((0 :
  Int) ≤ (↑x : Int) ∧ (↑x : Int) < (↑(List.length (Prod.snd d)) : Int)) ∧ (decide ((5000 : Int) < (↑(List.length (Prod.fst (List.getD (Prod.snd d) (Int.toNat (↑x : Int)) ([], (0 : Int), [], [])))) : Int)) = true → false
  = cacheB d) ∧ (decide ((5000 : Int) < (↑(List.length (Prod.fst (List.getD (Prod.snd d) (Int.toNat (↑x : Int)) ([], (0 : Int), [], [])))) : Int)) = false → ((0 : Nat) ≤ x ∧ ∀ (t : Nat), t < (0 : Nat) → Prod.fst
  (List.getD (Prod.snd d) t ([], (0 : Int), [], [])) ≠ Prod.fst (List.getD (Prod.snd d) x ([], (0 : Int), [], []))) ∧ (((Prod.fst d = Prod.fst d ∧ Prod.snd d = Prod.snd d) ∧ (↑(sumE (List.take x (Prod.snd d))) : Int) =
  (↑(sumE (List.take x (Prod.snd d))) : Int) ∧ (↑x : Int) = (↑x : Int) ∧ (0 : Int) = (↑(0 : Nat) : Int)) ∧ Prod.fst d = Prod.fst d ∧ Prod.snd d = Prod.snd d) ∧ ∀ (x_1 : Nat), (x_1 ≤ x ∧ ∀ (t : Nat), t < x_1 → Prod.fst
  (List.getD (Prod.snd d) t ([], (0 : Int), [], [])) ≠ Prod.fst (List.getD (Prod.snd d) x ([], (0 : Int), [], []))) → (decide ((↑x_1 : Int) < (↑x : Int)) = true → ((0 : Int) ≤ (↑x : Int) ∧ (↑x : Int) < (↑(List.length
  (Prod.snd d)) : Int)) ∧ ((0 : Int) ≤ (↑x_1 : Int) ∧ (↑x_1 : Int) < (↑(List.length (Prod.snd d)) : Int)) ∧ True ∧ (decide (Prod.fst (List.getD (Prod.snd d) (Int.toNat (↑x : Int)) ([], (0 : Int), [], [])) = Prod.fst
  (List.getD (Prod.snd d) (Int.toNat (↑x_1 : Int)) ([], (0 : Int), [], []))) = true → false = cacheB d) ∧ (decide (Prod.fst (List.getD (Prod.snd d) (Int.toNat (↑x : Int)) ([], (0 : Int), [], [])) = Prod.fst (List.getD
  (Prod.snd d) (Int.toNat (↑x_1 : Int)) ([], (0 : Int), [], []))) = false → ∃ (x' : Nat), (x' ≤ x ∧ ∀ (t : Nat), t < x' → Prod.fst (List.getD (Prod.snd d) t ([], (0 : Int), [], [])) ≠ Prod.fst (List.getD (Prod.snd d) x
  ([], (0 : Int), [], []))) ∧ x - x' < x - x_1 ∧ ((Prod.fst d = Prod.fst d ∧ Prod.snd d = Prod.snd d) ∧ (↑(sumE (List.take x (Prod.snd d))) : Int) = (↑(sumE (List.take x (Prod.snd d))) : Int) ∧ (↑x : Int) = (↑x : Int) ∧
  IntKind.wrap IntKind.i64 ((↑x_1 : Int) + (1 : Int)) = (↑x' : Int)) ∧ Prod.fst d = Prod.fst d ∧ Prod.snd d = Prod.snd d)) ∧ (decide ((↑x_1 : Int) < (↑x : Int)) = false → ((0 : Int) ≤ (↑x : Int) ∧ (↑x : Int) <
  (↑(List.length (Prod.snd d)) : Int)) ∧ RsP (Prod.fst (Prod.snd (List.getD (Prod.snd d) (Int.toNat (↑x : Int)) ([], (0 : Int), [], []))), Prod.fst (Prod.snd (Prod.snd (List.getD (Prod.snd d) (Int.toNat (↑x : Int)) ([],
  (0 : Int), [], [])))), Prod.snd (Prod.snd (Prod.snd (List.getD (Prod.snd d) (Int.toNat (↑x : Int)) ([], (0 : Int), [], []))))) ∧ (Ty.wf i64T (↑(wtN (Prod.fst (Prod.snd (List.getD (Prod.snd d) (Int.toNat (↑x : Int))
  ([], (0 : Int), [], []))), Prod.fst (Prod.snd (Prod.snd (List.getD (Prod.snd d) (Int.toNat (↑x : Int)) ([], (0 : Int), [], [])))), Prod.snd (Prod.snd (Prod.snd (List.getD (Prod.snd d) (Int.toNat (↑x : Int)) ([], (0 :
  Int), [], [])))))) : Int) → ∃ (x' : Nat), (x' ≤ List.length (Prod.snd d) ∧ KeysP (Prod.snd d) x') ∧ List.length (Prod.snd d) - x' < List.length (Prod.snd d) - x ∧ ((Prod.fst d = Prod.fst d ∧ Prod.snd d = Prod.snd d) ∧
  IntKind.wrap IntKind.i64 ((↑(sumE (List.take x (Prod.snd d))) : Int) + (↑(wtN (Prod.fst (Prod.snd (List.getD (Prod.snd d) (Int.toNat (↑x : Int)) ([], (0 : Int), [], []))), Prod.fst (Prod.snd (Prod.snd (List.getD
  (Prod.snd d) (Int.toNat (↑x : Int)) ([], (0 : Int), [], [])))), Prod.snd (Prod.snd (Prod.snd (List.getD (Prod.snd d) (Int.toNat (↑x : Int)) ([], (0 : Int), [], [])))))) : Int)) = (↑(sumE (List.take x' (Prod.snd d))) :
  Int) ∧ IntKind.wrap IntKind.i64 ((↑x : Int) + (1 : Int)) = (↑x' : Int)) ∧ Prod.fst d = Prod.fst d ∧ Prod.snd d = Prod.snd d)))) ∧ (decide ((↑x : Int) < (↑(List.length (Prod.snd d)) : Int)) = false → decide ((↑(sumE
  (List.take x (Prod.snd d))) : Int) ≤ Prod.fst d) = cacheB d))) := by
  intro (d : Ca) hw hp
  obtain ⟨cap, es⟩ := d
  replace hp : EnsP es := hp
  simp only [Int.toNat_natCast, exists_const, and_true, true_and, implies_true, decide_eq_true_eq, decide_eq_false_iff_not, Bool.not_eq_true', Bool.not_eq_false', beq_iff_eq, forall_const]
  refine ⟨fun h => cache_no (fun hc => ?_), fun h => ⟨fun h1 => cache_no (fun hc => ?_), fun h1 => ⟨⟨by omega, fun i hi => absurd hi (Nat.not_lt_zero _)⟩, ⟨by rw [List.take_zero]; rfl, rfl⟩, fun x hx => ⟨fun h2 => ?_, fun h2 => ?_⟩⟩⟩⟩
  · have := cache_ok hc
    rw [decide_eq_true (show 0 ≤ cap from this.1), decide_eq_true (show cap ≤ 5000 from this.2.1)] at h
    cases h
  · have := (cache_ok hc).2.2.1
    simp only at this
    omega
  · obtain ⟨hxl, hxk⟩ := hx
    refine ⟨⟨by omega, by omega⟩, fun h3 => cache_no (fun hc => ?_), fun h3 => ⟨⟨by omega, fun t ht => absurd ht (Nat.not_lt_zero _)⟩, rfl, fun y hy => ⟨fun h4 => ⟨⟨by omega, by omega⟩, ⟨by omega, by omega⟩, fun h5 => cache_no (fun hc => ?_), fun h5 => ?_⟩, fun h4 => ?_⟩⟩⟩
    · have := ((cache_ok hc).2.2.2.1 x (by show x < es.length; omega)).1
      simp only at this
      omega
    · have := ((cache_ok hc).2.2.2.1 x (by show x < es.length; omega)).2 y (by omega)
      exact this h5.symm
    · refine ⟨y + 1, ⟨by omega, fun t ht => ?_⟩, by omega, wrap_succ (by omega)⟩
      by_cases e : t = y
      · rw [e]; exact Ne.symm h5
      · exact hy.2 t (by omega)
    · have he := ens_at hp (x := x) (by omega)
      have hw1 := wt_le he.2
      have hs := sum_le hp x hxl
      have hse : ((es.getD x ([], 0, [], [])).2.1, (es.getD x ([], 0, [], [])).2.2.1, (es.getD x ([], 0, [], [])).2.2.2) = (es.getD x ([], 0, [], [])).2 := rfl
      rw [hse]
      refine ⟨⟨by omega, by omega⟩, he.2, fun _ => ⟨x + 1, ⟨by omega, keys_succ hxk (by omega) (fun j hj => hy.2 j (by omega))⟩, by omega, ?_, wrap_succ (by omega)⟩⟩
      rw [sum_succ (by omega), wrap_small (by omega)]; rfl
  · obtain rfl : x = es.length := by omega
    simp only [Bool.and_eq_true, decide_eq_true_eq] at h
    rw [List.take_length, cache_of (c := (cap, es)) h.1 h.2 (by show es.length ≤ 30; omega) hx.2]
theorem v_I_isCache :
  ∀ (d : Int × List (List Int × Int × List Int × List Int)), Ty.wf cacheT d → EnsP (Prod.snd d) → (decide (Prod.fst d < (0 : Int)) = true → false = cacheB d) ∧ (decide (Prod.fst d < (0 : Int)) = false → (decide ((5000 :
  Int) < Prod.fst d) = true → false = cacheB d) ∧ (decide ((5000 : Int) < Prod.fst d) = false → (decide ((30 : Int) < (↑(List.length (Prod.snd d)) : Int)) = true → false = cacheB d) ∧ (decide ((30 : Int) < (↑(List.length
  (Prod.snd d)) : Int)) = false → EnsP (Prod.snd d) ∧ (Ty.wf i64T (↑(sumE (Prod.snd d)) : Int) → (decide (Prod.fst d < (↑(sumE (Prod.snd d)) : Int)) = true → false = cacheB d) ∧ (decide (Prod.fst d < (↑(sumE (Prod.snd
  d)) : Int)) = false → ((0 : Nat) ≤ List.length (Prod.snd d) ∧ KeysP (Prod.snd d) (0 : Nat)) ∧ (((Prod.fst d = Prod.fst d ∧ Prod.snd d = Prod.snd d) ∧ Prod.snd d = Prod.snd d ∧ (↑(List.length (Prod.snd d)) : Int) =
  (↑(List.length (Prod.snd d)) : Int) ∧ (0 : Int) = (↑(0 : Nat) : Int)) ∧ Prod.fst d = Prod.fst d ∧ Prod.snd d = Prod.snd d) ∧ ∀ (x : Nat), x ≤ List.length (Prod.snd d) ∧ KeysP (Prod.snd d) x → (decide ((↑x : Int) <
  (↑(List.length (Prod.snd d)) : Int)) = true → ((0 : Int) ≤ (↑x : Int) ∧ (↑x : Int) < (↑(List.length (Prod.snd d)) : Int)) ∧ (decide ((5000 : Int) < (↑(List.length (Prod.fst (List.getD (Prod.snd d) (Int.toNat (↑x :
  Int)) ([], (0 : Int), [], [])))) : Int)) = true → false = cacheB d) ∧ (decide ((5000 : Int) < (↑(List.length (Prod.fst (List.getD (Prod.snd d) (Int.toNat (↑x : Int)) ([], (0 : Int), [], [])))) : Int)) = false → ((0 :
  Int) ≤ (0 : Int) ∧ (0 : Int) ≤ (↑x : Int) ∧ (↑x : Int) ≤ (↑(List.length (Prod.snd d)) : Int)) ∧ True ∧ (Ty.wf i64T (keyGo (Prod.fst (List.getD (Prod.snd d) (Int.toNat (↑x : Int)) ([], (0 : Int), [], []))) (List.drop
  (Int.toNat (0 : Int)) (List.take (Int.toNat (↑x : Int)) (Prod.snd d))) (0 : Int)) → (decide ((0 : Int) ≤ keyGo (Prod.fst (List.getD (Prod.snd d) (Int.toNat (↑x : Int)) ([], (0 : Int), [], []))) (List.drop (Int.toNat (0
  : Int)) (List.take (Int.toNat (↑x : Int)) (Prod.snd d))) (0 : Int)) = true → false = cacheB d) ∧ (decide ((0 : Int) ≤ keyGo (Prod.fst (List.getD (Prod.snd d) (Int.toNat (↑x : Int)) ([], (0 : Int), [], []))) (List.drop
  (Int.toNat (0 : Int)) (List.take (Int.toNat (↑x : Int)) (Prod.snd d))) (0 : Int)) = false → ∃ (x' : Nat), (x' ≤ List.length (Prod.snd d) ∧ KeysP (Prod.snd d) x') ∧ List.length (Prod.snd d) - x' < List.length (Prod.snd
  d) - x ∧ ((Prod.fst d = Prod.fst d ∧ Prod.snd d = Prod.snd d) ∧ Prod.snd d = Prod.snd d ∧ (↑(List.length (Prod.snd d)) : Int) = (↑(List.length (Prod.snd d)) : Int) ∧ IntKind.wrap IntKind.i64 ((↑x : Int) + (1 : Int)) =
  (↑x' : Int)) ∧ Prod.fst d = Prod.fst d ∧ Prod.snd d = Prod.snd d)))) ∧ (decide ((↑x : Int) < (↑(List.length (Prod.snd d)) : Int)) = false → true = cacheB d)))))) := by
  intro (d : Ca) hw hp
  obtain ⟨cap, es⟩ := d
  replace hp : EnsP es := hp
  simp only [Int.toNat_natCast, exists_const, and_true, true_and, implies_true, decide_eq_true_eq, decide_eq_false_iff_not, Bool.not_eq_true', Bool.not_eq_false', beq_iff_eq, forall_const]
  refine ⟨fun h => cache_no (fun hc => ?_), fun h => ⟨fun h1 => cache_no (fun hc => ?_), fun h1 => ⟨fun h2 => cache_no (fun hc => ?_), fun h2 => ⟨hp, fun _ => ⟨fun h3 => cache_no (fun hc => ?_), fun h3 => ⟨⟨by omega, fun i hi => absurd hi (Nat.not_lt_zero _)⟩, rfl, fun x hx => ⟨fun h4 => ?_, fun h4 => ?_⟩⟩⟩⟩⟩⟩⟩
  · have := (cache_ok hc).1; simp only at this; omega
  · have := (cache_ok hc).2.1; simp only at this; omega
  · have := (cache_ok hc).2.2.1; simp only at this; omega
  · have := (cache_ok hc).2.2.2.2; simp only at this; omega
  · obtain ⟨hxl, hxk⟩ := hx
    simp only [Int.toNat_zero, List.drop_zero]
    have htl : (es.take x).length = x := by rw [List.length_take]; omega
    have htg : ∀ t, t < x → (es.take x).getD t ([], 0, [], []) = es.getD t ([], 0, [], []) := fun t ht => by
      rw [List.getD_eq_getElem?_getD, List.getD_eq_getElem?_getD, List.getElem?_take, if_pos ht]
    have hkn := key_none (key := (es.getD x ([], 0, [], [])).1) (es := es.take x) (k := 0) (Int.le_refl 0)
    refine ⟨⟨by omega, by omega⟩, fun h5 => cache_no (fun hc => ?_), fun h5 => ⟨⟨by omega, by omega, by omega⟩, fun _ => ⟨fun h6 => cache_no (fun hc => ?_), fun h6 => ?_⟩⟩⟩
    · have := ((cache_ok hc).2.2.2.1 x (by show x < es.length; omega)).1
      simp only at this
      omega
    · have h7 := ((cache_ok hc).2.2.2.1 x (by show x < es.length; omega)).2
      have := hkn.2 (fun t ht => by rw [htl] at ht; rw [htg t ht]; exact h7 t ht)
      omega
    · have h7 := hkn.1 (by omega)
      exact ⟨x + 1, ⟨by omega, keys_succ hxk (by omega) (fun j hj => by have := h7 j (by omega); rw [htg j hj] at this; exact this)⟩, by omega, wrap_succ (by omega)⟩
  · obtain rfl : x = es.length := by omega
    rw [cache_of (c := (cap, es)) (by show 0 ≤ cap; omega) (by show cap ≤ 5000; omega) (by show es.length ≤ 30; omega) hx.2, decide_eq_true (show ((sumE es : Nat) : Int) ≤ cap by omega)]
theorem szF_room {n : Nat} {l : Int} (h0 : ¬ szF n l < 0) (hl0 : 0 ≤ l) (hl : l ≤ 1048576) (hn : n ≤ 9223372036854775807) : n ≤ 1048576 ∧ 0 ≤ szF n l ∧ szF n l ≤ 1048576 := by
  unfold szF w64 at *
  rw [IntKind.wrap_i64] at *
  split at h0
  · omega
  · rename_i h2
    rw [if_neg h2]
    omega
theorem szEn_room {e : En} {l : Int} (h0 : ¬ szEnF e l < 0) (hl0 : 0 ≤ l) (hl : l ≤ 1048576) (h1 : e.1.length ≤ 9223372036854775807) (h2 : e.2.2.1.length ≤ 9223372036854775807) (h3 : e.2.2.2.length ≤ 9223372036854775807) : EnP e ∧ 0 ≤ szEnF e l ∧ szEnF e l ≤ 1048576 := by
  unfold szEnF szRsF at *
  split at h0
  · omega
  · rename_i a
    rw [if_neg a]
    obtain ⟨b1, b2, b3⟩ := szF_room a hl0 hl h1
    split at h0
    · omega
    · rename_i c
      rw [if_neg c]
      obtain ⟨d1, d2, d3⟩ := szF_room c b2 b3 h2
      obtain ⟨e1, e2, e3⟩ := szF_room h0 d2 d3 h3
      exact ⟨⟨b1, d1, e1⟩, e2, e3⟩
theorem szEns_room : ∀ (es : List En) (l : Int), 0 ≤ szEnGo es l → 0 ≤ l → l ≤ 1048576 → (∀ e ∈ es, e.1.length ≤ 9223372036854775807 ∧ e.2.2.1.length ≤ 9223372036854775807 ∧ e.2.2.2.length ≤ 9223372036854775807) → ∀ e ∈ es, EnP e
  | [], l, _, _, _, _, e, he => by cases he
  | g :: es, l, h, hl0, hl, hw, e, he => by
    unfold szEnGo at h
    split at h
    · omega
    · rename_i hn
      obtain ⟨w1, w2, w3⟩ := hw g (List.mem_cons_self ..)
      obtain ⟨r1, r2, r3⟩ := szEn_room hn hl0 hl w1 w2 w3
      rcases List.mem_cons.1 he with rfl | he
      · exact r1
      · exact szEns_room es _ h r2 r3 (fun e he => hw e (List.mem_cons_of_mem _ he)) e he
theorem ca_room {c : Ca} (hw : cacheT.wf c) (h : ¬ szCaF c 1048576 < 0) : EnsP c.2 := by
  have hl : c.2.length ≤ 9223372036854775807 := hw.2.1
  unfold szCaF at h
  split at h
  · omega
  · rename_i h1
    unfold szEnsF at h1
    split at h1
    · omega
    · rename_i h2
      have h3 := szF_room (n := c.2.length) (l := 1048576) (by unfold szF; rw [if_neg h2]; exact h2) (by omega) (by omega) hl
      have h4 : szF c.2.length 1048576 = w64 (1048576 - c.2.length) := by unfold szF; rw [if_neg h2]
      rw [h4] at h3
      refine ⟨h3.1, szEns_room c.2 _ (by omega) h3.2.1 h3.2.2 (fun e he => ?_)⟩
      have := hw.2.2 e he
      exact ⟨this.1.1, this.2.2.1.1, this.2.2.2.1⟩
end Go.SF
