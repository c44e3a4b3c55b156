/- What is owed of the code of the functions that take tickets out of lines, and play lines. No condition. -/
import Derived.Test.YtnjihkeflkemdaaSxC
import Derived.Test.YtnjihkeflkemdaaSxPLine2
import Derived.Test.YtnjihkeflkemdaaSxPServed
import Derived.Test.YtnjihkeflkemdaaSxPIntS
namespace Go.SF
open Go.SX Go
set_option linter.unusedVariables false
set_option linter.unusedSimpArgs false
set_option maxRecDepth 10000
theorem mark4_length (xs : List Op') (k : Int) : (mark4 xs k).length = xs.length := mkGo_length _ _ _ _
theorem end4_small (xs : List Op') {k : Int} (h0 : 0 ≤ k) (h1 : k + 4 * xs.length ≤ 4611686018427387904) : end4 xs k = k + 4 * xs.length :=
  mkEnd_small 4 (fun k a b => by unfold n4 w64; rw [wrap_small (n := k + 1) (by omega), wrap_small (n := k + 1 + 1) (by omega), wrap_small (n := k + 1 + 1 + 1) (by omega), wrap_small (by omega)]; omega) xs k h0 h1
theorem line_iff {xs : List Tk} : lineOkF xs = true ↔ xs.length ≤ 40 ∧ (∀ x ∈ xs, isTicketF x = true) ∧ xs.Pairwise (fun a b => a.1 < b.1) := by
  constructor
  · intro h
    have hid := line_ids h
    unfold lineOkF at h
    rw [Bool.and_eq_true, decide_eq_true_eq, decide_eq_true_eq] at h
    refine ⟨h.1, fun x hx => ?_, ?_⟩
    · obtain ⟨j, hj, rfl⟩ := List.getElem_of_mem hx
      have := (h.2 j hj).1
      rw [List.getD_eq_getElem?_getD, List.getElem?_eq_getElem hj] at this
      exact this
    · rw [List.pairwise_iff_getElem]
      intro i j hi hj hij
      have := hid.2 i j hij hj
      rw [List.getD_eq_getElem?_getD, List.getD_eq_getElem?_getD, List.getElem?_eq_getElem hi, List.getElem?_eq_getElem hj] at this
      exact this
  · rintro ⟨h1, h2, h3⟩
    unfold lineOkF
    rw [Bool.and_eq_true, decide_eq_true_eq, decide_eq_true_eq]
    refine ⟨h1, fun j hj => ⟨?_, fun h0 => ?_⟩⟩
    · rw [List.getD_eq_getElem?_getD, List.getElem?_eq_getElem hj]
      exact h2 _ (List.getElem_mem hj)
    · rw [List.getD_eq_getElem?_getD, List.getD_eq_getElem?_getD, List.getElem?_eq_getElem hj, List.getElem?_eq_getElem (show j - 1 < xs.length by omega)]
      exact List.pairwise_iff_getElem.1 h3 _ _ _ _ (by omega)
theorem line_sub {xs ys : List Tk} (h : lineOkF xs = true) (s : ys.Sublist xs) : lineOkF ys = true := by
  rw [line_iff] at h ⊢
  exact ⟨Nat.le_trans s.length_le h.1, fun x hx => h.2.1 x (s.subset hx), h.2.2.sublist s⟩
theorem idx_cases (id : Int) : ∀ (xs : List Tk) (k : Nat), (idxGo id xs k = -1 ∧ ∀ x ∈ xs, x.1 ≠ id) ∨ ∃ as x bs, xs = as ++ x :: bs ∧ idxGo id xs k = ((k + as.length : Nat) : Int) ∧ x.1 = id ∧ ∀ a ∈ as, a.1 ≠ id
  | [], k => .inl ⟨rfl, by simp⟩
  | x :: xs, k => by
    by_cases h : x.1 = id
    · exact .inr ⟨[], x, xs, rfl, by simp [idxGo, h], h, by simp⟩
    · rcases idx_cases id xs (k + 1) with ⟨h1, h2⟩ | ⟨as, y, bs, h1, h2, h3, h4⟩
      · left
        refine ⟨by simp only [idxGo]; rw [if_neg h]; exact h1, fun y hy => ?_⟩
        rcases List.mem_cons.1 hy with rfl | hy
        · exact h
        · exact h2 y hy
      · right
        refine ⟨x :: as, y, bs, by rw [h1]; rfl, ?_, h3, fun a ha => ?_⟩
        · simp only [idxGo]
          rw [if_neg h, h2, List.length_cons]
          congr 1; omega
        · rcases List.mem_cons.1 ha with rfl | ha
          · exact h
          · exact h4 a ha
theorem gone_none (id : Int) : ∀ (ys : List Tk) (g : Tk), (∀ y ∈ ys, y.1 ≠ id) → goneGo id ys g = g
  | [], g, _ => rfl
  | y :: ys, g, h => by unfold goneGo; rw [if_neg (h y (List.mem_cons_self ..))]; exact gone_none id ys g (fun z hz => h z (List.mem_cons_of_mem _ hz))
theorem rest_none (id : Int) (ys : List Tk) (h : ∀ y ∈ ys, y.1 ≠ id) : restF id ys = ys := by
  unfold restF
  exact List.filter_eq_self.2 (fun y hy => by simp [h y hy])
theorem rest_app (id : Int) (xs ys : List Tk) : restF id (xs ++ ys) = restF id xs ++ restF id ys := List.filter_append ..
/-- In a line that is well, the number tells the ticket. -/
theorem line_cut {xs : List Tk} (h : lineOkF xs = true) (id : Int) : (idxGo id xs 0 = -1 ∧ restF id xs = xs ∧ goneGo id xs (0, 0) = (0, 0)) ∨
    (∃ j : Nat, j < xs.length ∧ idxGo id xs 0 = (j : Int) ∧ delAt xs (j : Int) = restF id xs ∧ goneGo id xs (0, 0) = xs.getD j (0, 0) ∧ (xs.getD j (0, 0)).1 = id ∧ 1 ≤ id) := by
  rcases idx_cases id xs 0 with ⟨h1, h2⟩ | ⟨as, x, bs, h1, h2, h3, h4⟩
  · exact .inl ⟨h1, rest_none id xs h2, gone_none id xs _ h2⟩
  · right
    have hp := (line_iff.1 h).2.2
    have ht := (line_iff.1 h).2.1 x (by rw [h1]; simp)
    have hb : ∀ b ∈ bs, b.1 ≠ id := by
      intro b hb e
      rw [h1, List.pairwise_append] at hp
      have := (List.pairwise_cons.1 hp.2.1).1 b hb
      omega
    have hx : restF id (x :: bs) = bs := by
      unfold restF
      rw [List.filter_cons_of_neg (by simp [h3])]
      exact rest_none id bs hb
    have hg : xs.getD as.length (0, 0) = x := by rw [h1]; simp
    refine ⟨as.length, by rw [h1]; simp, by rw [h2]; simp, ?_, ?_, by rw [hg]; exact h3, ?_⟩
    · rw [h1, rest_app, rest_none id as h4, hx]
      unfold delAt
      rw [show (((as.length : Nat) : Int) + 1).toNat = as.length + 1 by omega, Int.toNat_natCast]
      simp
    · rw [hg, h1, goneGo_append, gone_none id as _ h4]
      unfold goneGo
      rw [if_pos h3]
      exact gone_none id bs _ hb
    · unfold isTicketF at ht
      simp only [Bool.and_eq_true, decide_eq_true_eq] at ht
      omega
theorem icancel_eq (xs : List Tk) (id : Int) : icancelF xs id = cancelSF xs id := by
  unfold icancelF cancelSF
  by_cases h : lineOkF xs = true
  · rw [if_pos h]
    rcases line_cut h id with ⟨h1, h2, h3⟩ | ⟨j, h1, h2, h3, h4, h5, h6⟩
    · rw [if_neg (by omega), h2, h3]; rfl
    · rw [if_pos ⟨h, by omega⟩, h2, h3, h4, h5, Int.toNat_natCast, decide_eq_false (by omega)]; rfl
  · rw [if_neg h, if_neg (fun hh => h hh.1)]
theorem step_ok {xs : List Tk} (h : lineOkF xs = true) (op : Op') : lineOkF (stepF xs op).1 = true := by
  unfold stepF
  split
  · show lineOkF (pushF xs op.2.1).1 = true
    unfold pushF
    split
    case isTrue h1 => exact h1.2
    case isFalse => exact h
  · split
    · show lineOkF (popF xs).1 = true
      unfold popF
      split
      case isTrue => exact line_sub h (List.drop_sublist ..)
      case isFalse => exact h
    · split
      · show lineOkF (cancelSF xs op.2.2).1 = true
        unfold cancelSF
        rw [if_pos h]
        exact line_sub h List.filter_sublist
      · exact h
theorem play_step {ops : List Op'} {k : Nat} (h : k < ops.length) (xs : List Tk) (told : List Int) : playGo (ops.drop k) xs told = playGo (ops.drop (k + 1)) (stepF xs (ops.getD k (0, (0, 0), 0))).1 (told ++ [(stepF xs (ops.getD k (0, (0, 0), 0))).2]) := by
  rw [getD_drop_cons h]; rfl
theorem line_len {xs : List Tk} (h : lineOkF xs = true) : xs.length ≤ 40 := (line_iff.1 h).1
theorem v_I_withoutTicket :
  ∀ (d : List (Int × Int) × Int), Ty.wf lineT (Prod.fst d) ∧ Ty.wf i64T (Prod.snd d) → (0 : Tup [i64T]) ≤ Prod.snd d ∧ Prod.snd d < (↑(List.length (Prod.fst d)) : Int) ∧ List.length (Prod.fst d) ≤ (1048576 : Nat) →
  List.length (Prod.fst d) ≤ (1048576 : Nat) ∧ (Ty.wf lineT (Prod.fst d) → ((0 : Int) ≤ Prod.snd d ∧ Prod.snd d ≤ IntKind.wrap IntKind.i64 (Prod.snd d + (1 : Int)) ∧ IntKind.wrap IntKind.i64 (Prod.snd d + (1 : Int)) ≤
  (↑(List.length (Prod.fst d)) : Int)) ∧ List.take (Int.toNat (Prod.snd d)) (Prod.fst d) ++ List.drop (Int.toNat (IntKind.wrap IntKind.i64 (Prod.snd d + (1 : Int)))) (Prod.fst d) = delAt (Prod.fst d) (Prod.snd d)) := by
  intro (d : List Tk × Int) hw hp
  obtain ⟨xs, i⟩ := d
  obtain ⟨p1, p2, p3⟩ := hp
  replace p1 : (0 : Int) ≤ i := p1
  replace p2 : i < (xs.length : Int) := p2
  replace p3 : xs.length ≤ 1048576 := p3
  simp only [Int.toNat_natCast, exists_const, and_true, true_and, implies_true, decide_eq_true_eq, decide_eq_false_iff_not, Bool.not_eq_true', Bool.not_eq_false', beq_iff_eq, forall_const]
  rw [wrap_small (n := i + 1) (by omega)]
  exact ⟨p3, fun _ => ⟨⟨by omega, by omega, by omega⟩, rfl⟩⟩
theorem step0 {xs : List Tk} {op : Op'} (h : op.1 = 0) : stepF xs op = ((pushF xs op.2.1).1, if (pushF xs op.2.1).2 = true then op.2.1.1 else 0) := by unfold stepF; rw [if_pos h]
theorem step1 {xs : List Tk} {op : Op'} (h : op.1 = 1) : stepF xs op = ((popF xs).1, (popF xs).2.1.1) := by unfold stepF; rw [if_neg (by omega), if_pos h]
theorem step2 {xs : List Tk} {op : Op'} (h : op.1 = 2) : stepF xs op = ((cancelSF xs op.2.2).1, (cancelSF xs op.2.2).2.1.1) := by unfold stepF; rw [if_neg (by omega), if_neg (by omega), if_pos h]
theorem step3 {xs : List Tk} {op : Op'} (h0 : ¬ op.1 = 0) (h1 : ¬ op.1 = 1) (h2 : ¬ op.1 = 2) : stepF xs op = (xs, 0) := by unfold stepF; rw [if_neg h0, if_neg h1, if_neg h2]
theorem play_at {x : List Tk × List Op'} {k : Nat × List Tk × List Int} {y : List Tk × Int} (h : PlayP x k) (hl : k.1 < x.2.length) (hy : StepP x k y) : PlayP x (k.1 + 1, y.1, k.2.2 ++ [y.2]) := by
  obtain ⟨h1, h2, h3, h4⟩ := h
  unfold StepP at hy
  refine ⟨hl, ?_, ?_, by simp [h4]⟩
  · rw [← h2, play_step hl, hy]
  · rw [hy]; exact step_ok h3 _
theorem play_end {x : List Tk × List Op'} {k : Nat × List Tk × List Int} (h : PlayP x k) (hl : ¬ k.1 < x.2.length) (h0 : lineOkF x.1 = true) (h1 : ¬ 400 < (x.2.length : Int)) : (k.2.1, k.2.2) = playF x.1 x.2 := by
  obtain ⟨k1, k2, _, _⟩ := h
  unfold playF
  rw [if_pos ⟨h0, by omega⟩, ← k2, List.drop_eq_nil_of_le (by omega)]
  rfl
theorem push_same {xs : List Tk} (h : lineOkF xs = true) (t : Tk) : pushF xs t = ipushF xs t := by
  unfold pushF ipushF
  by_cases h1 : lineOkF (xs ++ [t]) = true
  · rw [if_pos ⟨h, h1⟩, if_pos h1]
  · rw [if_neg (fun hh => h1 hh.2), if_neg h1]
theorem ipush_no {xs : List Tk} {t : Tk} (h : (ipushF xs t).2 = false) : (ipushF xs t).1 = xs := by
  unfold ipushF at *
  split
  case isTrue h1 => rw [if_pos h1] at h; cases h
  case isFalse => rfl
theorem pop_some {xs : List Tk} (h : lineOkF xs = true) (h0 : 0 < xs.length) : popF xs = (delAt xs 0, xs.getD 0 (0, 0), true) := by
  unfold popF delAt; rw [if_pos ⟨h, by omega⟩]; rfl
theorem pop_none {xs : List Tk} (h0 : ¬ 0 < xs.length) : popF xs = (xs, (0, 0), false) := by
  unfold popF; rw [if_neg (fun hh => by omega)]
end Go.SF
