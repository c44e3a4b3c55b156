/- Rings drained: each flow's tickets come, in their order. No condition. -/
import Derived.Test.YtnjihkeflkemdaaSxC
import Derived.Test.YtnjihkeflkemdaaSxPRingW
import Derived.Test.YtnjihkeflkemdaaSxPServed
import Derived.Test.YtnjihkeflkemdaaSxPCode
namespace Go.SF
open Go.SX Go
set_option linter.unusedVariables false
set_option linter.unusedSimpArgs false
theorem ten_mono {fs : List Fl} {t : Int} {fr : Bool} (h : ringOkF fs t fr = true) : ∀ d i, i + d + 1 < fs.length → (fs.getD i fl0).1 < (fs.getD (i + d + 1) fl0).1
  | 0, i, hi => by have := ((ring_iff.1 h).2 (i + 1) hi).2 (by omega); exact this
  | d + 1, i, hi => by
    have h1 := ten_mono h d i (by omega)
    have h2 := ((ring_iff.1 h).2 (i + (d + 1) + 1) hi).2 (by omega)
    have h3 : i + (d + 1) + 1 - 1 = i + d + 1 := by omega
    rw [h3] at h2
    exact Int.lt_trans h1 h2
theorem ten_inj {fs : List Fl} {t : Int} {fr : Bool} (h : ringOkF fs t fr = true) {i j : Nat} (hi : i < fs.length) (hj : j < fs.length) (e : (fs.getD i fl0).1 = (fs.getD j fl0).1) : i = j := by
  rcases Nat.lt_trichotomy i j with hl | hl | hl
  · have := ten_mono h (j - i - 1) i (by omega)
    rw [show i + (j - i - 1) + 1 = j by omega] at this; omega
  · exact hl
  · have := ten_mono h (i - j - 1) j (by omega)
    rw [show j + (i - j - 1) + 1 = i by omega] at this; omega
theorem ofT_app (t : Int) (a b : List Sv) : ofT t (a ++ b) = ofT t a ++ ofT t b := by unfold ofT; rw [List.filter_append, List.map_append]
theorem ofT_at {l : List Sv} {m : Nat} {z : Sv} (t : Int) (h : m < l.length) : ofT t l = ofT t (l.take m) ++ ((if (l.getD m z).1 = t then [(l.getD m z).2] else []) ++ ofT t (l.drop (m + 1))) := by
  have h1 : l = l.take m ++ ([l.getD m z] ++ l.drop (m + 1)) := by
    conv => lhs; rw [← List.take_append_drop m l]
    rw [List.drop_eq_getElem_cons h]
    simp [h]
  conv => lhs; rw [h1]
  rw [ofT_app, ofT_app]
  congr 2
  unfold ofT
  rw [List.filter_cons]
  split <;> rename_i e <;> simp at e <;> simp [e]
theorem ofT_take {l : List Sv} {m : Nat} {z : Sv} (t : Int) (h : m < l.length) : ofT t (l.take (m + 1)) = ofT t (l.take m) ++ (if (l.getD m z).1 = t then [(l.getD m z).2] else []) := by
  rw [List.take_succ_eq_append_getElem h, ofT_app]
  congr 1
  unfold ofT
  rw [show l[m] = l.getD m z by simp [h], List.filter_cons]
  split <;> rename_i e <;> simp at e <;> simp [e]
def okC (s : Sv) : Prop := 1 ≤ s.2.2 ∧ s.2.2 ≤ 200000
/-- The lines that are left, and those that were served. -/
theorem dr_line {r : Rg} (h : ringOkF r.1 r.2.1 r.2.2 = true) : ∀ k, k ≤ totT r.1 → (drGo k r).1.1.map (fun f => (f.1, f.2.1)) = r.1.map (fun f => (f.1, f.2.1)) ∧ (∀ s ∈ (drGo k r).2, okC s) ∧ ∀ i, i < r.1.length → ofT (r.1.getD i fl0).1 (drGo k r).2 ++ ((drGo k r).1.1.getD i fl0).2.2.2 = (r.1.getD i fl0).2.2.2
  | 0, _ => ⟨rfl, (fun s hs => by cases hs), fun i _ => rfl⟩
  | k + 1, hk => by
    obtain ⟨h1, h2, h3⟩ := dr_ok h k (by omega)
    obtain ⟨g1, g2, g3⟩ := dr_line h k (by omega)
    obtain ⟨x, x1, x2, x3, x4, x5, x6, j, l, x7, x8, x9, x10⟩ := nx_ok h1 (by rw [(ring_tot h1).2]; omega)
    have e : nxR (drGo k r).1 = x.1 := by unfold nxR; rw [x2]
    have ev : nxV (drGo k r).1 = (x.2.1, x.2.2, true) := by unfold nxV; rw [x2]
    have hlen : (drGo k r).1.1.length = r.1.length := by have := congrArg List.length g1; simpa using this
    have hten : ∀ i, i < r.1.length → ((drGo k r).1.1.getD i fl0).1 = (r.1.getD i fl0).1 := by
      intro i hi
      have := congrArg (fun l => (l.getD i (0, 0)).1) g1
      simp only [List.getD_eq_getElem?_getD, List.getElem?_map] at this
      simp only [List.getD_eq_getElem?_getD]
      rw [List.getElem?_eq_getElem (by omega), List.getElem?_eq_getElem hi] at *
      simpa using this
    have hln : ∀ i, i < r.1.length → (x.1.1.getD i fl0).2.2.2 = if i = j then l else ((drGo k r).1.1.getD i fl0).2.2.2 := by
      intro i hi
      have h5 : (x.1.1.map (fun f => f.2.2.2)).getD i [] = (((drGo k r).1.1.map (fun f => f.2.2.2)).set j l).getD i [] := by rw [x8]
      rw [getD_set_eq (by rw [List.length_map]; exact x7)] at h5
      have h6 : ∀ fs : List Fl, (fs.map (fun f => f.2.2.2)).getD i [] = (fs.getD i fl0).2.2.2 := by
        intro fs
        simp only [List.getD_eq_getElem?_getD, List.getElem?_map]
        cases fs[i]? <;> rfl
      rw [h6, h6] at h5
      exact h5
    have hj : j < r.1.length := by omega
    have hs : (drGo (k + 1) r).2 = (drGo k r).2 ++ [(x.2.1, x.2.2.1, x.2.2.2)] := by
      show (drGo k r).2 ++ [((nxV (drGo k r).1).1, (nxV (drGo k r).1).2.1.1, (nxV (drGo k r).1).2.1.2)] = _
      rw [ev]
    have hd : (drGo (k + 1) r).1 = x.1 := e
    refine ⟨?_, ?_, ?_⟩
    · rw [hd, x6, g1]
    · intro s hs2
      rw [hs] at hs2
      rcases List.mem_append.mp hs2 with h4 | h4
      · exact g2 s h4
      · rw [List.mem_singleton.mp h4]
        have hok := (flow_iff.1 ((ring_iff.1 h1).2 j x7).1).2.2.1
        have hx9 : ((drGo k r).1.1.getD j (0, 0, 0, [])).2.2.2 = x.2.2 :: l := x9
        rw [hx9] at hok
        have hk2 : isTicketF x.2.2 = true := (line_iff.1 hok).2.1 _ (List.mem_cons_self ..)
        unfold isTicketF at hk2
        simp only [Bool.and_eq_true, decide_eq_true_eq] at hk2
        exact ⟨hk2.1.2, hk2.2⟩
    · intro i hi
      rw [hs, hd, hln i hi, ofT_app, List.append_assoc]
      by_cases hij : i = j
      · subst hij
        rw [if_pos rfl]
        have ht : (r.1.getD i fl0).1 = x.2.1 := by rw [x10, hten i hi]
        have : ofT (r.1.getD i fl0).1 [(x.2.1, x.2.2.1, x.2.2.2)] = [x.2.2] := by
          unfold ofT
          rw [List.filter_cons, if_pos (decide_eq_true ht.symm)]
          rfl
        rw [this, ← g3 i hi, x9]
        rfl
      · rw [if_neg hij]
        have ht : (r.1.getD i fl0).1 ≠ x.2.1 := by
          intro e2
          rw [x10, hten j hj] at e2
          exact hij (ten_inj h hi hj e2)
        have : ofT (r.1.getD i fl0).1 [(x.2.1, x.2.2.1, x.2.2.2)] = [] := by
          unfold ofT
          rw [List.filter_cons, if_neg (by simp; exact fun e => ht e.symm)]
          rfl
        rw [this]
        exact g3 i hi
theorem tot_zero : ∀ {fs : List Fl}, totT fs = 0 → ∀ i, i < fs.length → (fs.getD i fl0).2.2.2 = []
  | [], _, i, h => absurd h (Nat.not_lt_zero _)
  | f :: fs, h, 0, _ => by rw [totT] at h; exact List.length_eq_zero_iff.1 (by show f.2.2.2.length = 0; omega)
  | f :: fs, h, i + 1, hi => by rw [totT] at h; exact tot_zero (fs := fs) (by omega) i (by simpa using hi)
theorem served_cost (t : Int) : ∀ (xs : List Sv) (s : Int), (∀ x ∈ xs, okC x) → servedGo t xs s = costGo (ofT t xs) s
  | [], s, _ => rfl
  | x :: xs, s, h => by
    have h1 := h x (List.mem_cons_self ..)
    have h2 := fun s => served_cost t xs s (fun y hy => h y (List.mem_cons_of_mem _ hy))
    unfold okC at h1
    rw [servedGo, if_pos h1, h2]
    unfold ofT
    rw [List.filter_cons]
    by_cases e : x.1 = t
    · rw [if_pos e, if_pos (decide_eq_true e)]; rfl
    · rw [if_neg e, if_neg (by simp [e])]
/-- A ring drained. -/
theorem drained {r : Rg} (h : ringOkF r.1 r.2.1 r.2.2 = true) : (((drainF r 100000).2.length : Int) = waitF r ∧ waitF (drainF r 100000).1 = 0 ∧ ringOkF (drainF r 100000).1.1 (drainF r 100000).1.2.1 (drainF r 100000).1.2.2 = true) ∧ (dnL r).length ≤ 480 ∧ ∀ i, i < r.1.length → ofT (r.1.getD i fl0).1 (dnL r) = (r.1.getD i fl0).2.2.2 ∧ servedF (dnL r) (r.1.getD i fl0).1 = lineCostF (r.1.getD i fl0).2.2.2 := by
  obtain ⟨a1, a2⟩ := ring_tot h
  have hn : drainN r 100000 = totT r.1 := by unfold drainN; omega
  have hd : drainF r 100000 = drGo (totT r.1) r := by unfold drainF; rw [if_pos h, hn]
  obtain ⟨h1, h2, h3⟩ := dr_ok h _ (Nat.le_refl _)
  obtain ⟨g1, g2, g3⟩ := dr_line h _ (Nat.le_refl _)
  have hlen : (drGo (totT r.1) r).1.1.length = r.1.length := by have := congrArg List.length g1; simpa using this
  have hz := tot_zero (fs := (drGo (totT r.1) r).1.1) (by omega)
  have hw : waitF r = totT r.1 := by unfold waitF; rw [if_pos h]; exact a2
  have hw2 : waitF (drGo (totT r.1) r).1 = 0 := by unfold waitF; rw [if_pos h1, (ring_tot h1).2]; omega
  unfold dnL
  rw [hd]
  refine ⟨⟨by rw [h3, hw], hw2, h1⟩, by omega, fun i hi => ?_⟩
  have e : ofT (r.1.getD i fl0).1 (drGo (totT r.1) r).2 = (r.1.getD i fl0).2.2.2 := by
    have := g3 i hi
    rw [hz i (by omega), List.append_nil] at this
    exact this
  refine ⟨e, ?_⟩
  unfold servedF lineCostF
  have hok := (flow_iff.1 ((ring_iff.1 h).2 i hi).1).2.2.1
  have hok : lineOkF (r.1.getD i fl0).2.2.2 = true := hok
  rw [if_neg (by omega), if_pos hok, served_cost _ _ _ g2, e]
theorem v_FnDrained :
  ∀ (d : List Int), Ty.wf (Ty.sl (Ty.int IntKind.u8)) d → True → True ∧ (bigF d = true → true = true) ∧ (bigF d = false → List.length d ≤ (9223372036854775807 : Nat) ∧ ∀ (r : (List (Int × Int × Int × List (Int × Int)) ×
  Int × Bool) × Int), flowsQ r.1.1 → Ty.wf ringT r.1 ∧ Ty.wf i64T r.2 → (True ∧ ((!ringOkF r.1.1 r.1.2.1 r.1.2.2) = true → true = true) ∧ ((!ringOkF r.1.1 r.1.2.1 r.1.2.2) = false → ∃ (x' : List (Int × Int × Int × List
  (Int × Int)) × Int × Bool), (flowsQ x'.1 ∧ ringOkF x'.1 x'.2.1 x'.2.2 = true) ∧ d = d ∧ r.1.1 = x'.1 ∧ r.1.2.1 = x'.2.1 ∧ r.1.2.2 = x'.2.2)) ∧ ∀ (x : List (Int × Int × Int × List (Int × Int)) × Int × Bool), flowsQ x.1
  ∧ ringOkF x.1 x.2.1 x.2.2 = true → FlsP x.1 ∧ (Ty.wf ringT x → FlsP x.1 ∧ (Ty.wf ringT (Prod.fst (drainF x (100000 : Int))) ∧ Ty.wf (Ty.sl svT) (Prod.snd (drainF x (100000 : Int))) → True ∧ (Ty.wf i64T (waitF x) →
  ((!decide ((↑(List.length (Prod.snd (drainF x (100000 : Int)))) : Int) = waitF x)) = true → false = true) ∧ ((!decide ((↑(List.length (Prod.snd (drainF x (100000 : Int)))) : Int) = waitF x)) = false → True ∧ (Ty.wf
  i64T (waitF (Prod.fst (drainF x (100000 : Int)))) → ((!decide (waitF (Prod.fst (drainF x (100000 : Int))) = (0 : Int))) = true → false = true) ∧ ((!decide (waitF (Prod.fst (drainF x (100000 : Int))) = (0 : Int))) =
  false → True ∧ ((!ringOkF (Prod.fst (Prod.fst (drainF x (100000 : Int)))) (Prod.fst (Prod.snd (Prod.fst (drainF x (100000 : Int))))) (Prod.snd (Prod.snd (Prod.fst (drainF x (100000 : Int)))))) = true → false = true) ∧
  ((!ringOkF (Prod.fst (Prod.fst (drainF x (100000 : Int)))) (Prod.fst (Prod.snd (Prod.fst (drainF x (100000 : Int))))) (Prod.snd (Prod.snd (Prod.fst (drainF x (100000 : Int)))))) = false → (0 : Nat) ≤ List.length x.1 ∧
  ((d = d ∧ (0 : Int) = (↑(0 : Nat) : Int)) ∧ x.1 = x.1 ∧ (x.2.1 = x.2.1 ∧ x.2.2 = x.2.2) ∧ x.1 = x.1 ∧ Prod.fst (Prod.fst (drainF x (100000 : Int))) = Prod.fst (Prod.fst (drainF x (100000 : Int))) ∧ Prod.snd (drainF x
  (100000 : Int)) = Prod.snd (drainF x (100000 : Int)) ∧ Prod.fst (Prod.snd (Prod.fst (drainF x (100000 : Int)))) = Prod.fst (Prod.snd (Prod.fst (drainF x (100000 : Int)))) ∧ Prod.snd (Prod.snd (Prod.fst (drainF x
  (100000 : Int)))) = Prod.snd (Prod.snd (Prod.fst (drainF x (100000 : Int))))) ∧ ∀ (x_1 : Nat), x_1 ≤ List.length x.1 → (decide ((↑x_1 : Int) < (↑(List.length x.1) : Int)) = true → ((0 : Int) ≤ (↑x_1 : Int) ∧ (↑x_1 :
  Int) < (↑(List.length x.1) : Int)) ∧ (0 : Nat) ≤ List.length (dnL x) ∧ ((d = d ∧ (↑x_1 : Int) = (↑x_1 : Int) ∧ (0 : Int) = (↑(List.length (ofT (Prod.fst (List.getD x.1 x_1 fl0)) (List.take (0 : Nat) (dnL x)))) : Int) ∧
  Prod.snd (Prod.snd (Prod.snd (List.getD x.1 (Int.toNat (↑x_1 : Int)) ((0 : Int), (0 : Int), (0 : Int), [])))) = Prod.snd (Prod.snd (Prod.snd (List.getD x.1 (Int.toNat (↑x_1 : Int)) ((0 : Int), (0 : Int), (0 : Int),
  [])))) ∧ (0 : Int) = (↑(0 : Nat) : Int)) ∧ x.1 = x.1 ∧ (x.2.1 = x.2.1 ∧ x.2.2 = x.2.2) ∧ x.1 = x.1 ∧ Prod.fst (Prod.fst (drainF x (100000 : Int))) = Prod.fst (Prod.fst (drainF x (100000 : Int))) ∧ Prod.snd (drainF x
  (100000 : Int)) = Prod.snd (drainF x (100000 : Int)) ∧ Prod.fst (Prod.snd (Prod.fst (drainF x (100000 : Int)))) = Prod.fst (Prod.snd (Prod.fst (drainF x (100000 : Int)))) ∧ Prod.snd (Prod.snd (Prod.fst (drainF x
  (100000 : Int)))) = Prod.snd (Prod.snd (Prod.fst (drainF x (100000 : Int))))) ∧ ∀ (x_2 : Nat), x_2 ≤ List.length (dnL x) → (decide ((↑x_2 : Int) < (↑(List.length (Prod.snd (drainF x (100000 : Int)))) : Int)) = true →
  ((0 : Int) ≤ (↑x_2 : Int) ∧ (↑x_2 : Int) < (↑(List.length (Prod.snd (drainF x (100000 : Int)))) : Int)) ∧ ((0 : Int) ≤ (↑x_1 : Int) ∧ (↑x_1 : Int) < (↑(List.length x.1) : Int)) ∧ (decide (Prod.fst (List.getD (Prod.snd
  (drainF x (100000 : Int))) (Int.toNat (↑x_2 : Int)) ((0 : Int), (0 : Int), (0 : Int))) = Prod.fst (List.getD x.1 (Int.toNat (↑x_1 : Int)) ((0 : Int), (0 : Int), (0 : Int), []))) = true → (decide ((↑(List.length
  (Prod.snd (Prod.snd (Prod.snd (List.getD x.1 (Int.toNat (↑x_1 : Int)) ((0 : Int), (0 : Int), (0 : Int), [])))))) : Int) ≤ (↑(List.length (ofT (Prod.fst (List.getD x.1 x_1 fl0)) (List.take x_2 (dnL x)))) : Int)) = true
  → false = true) ∧ (decide ((↑(List.length (Prod.snd (Prod.snd (Prod.snd (List.getD x.1 (Int.toNat (↑x_1 : Int)) ((0 : Int), (0 : Int), (0 : Int), [])))))) : Int) ≤ (↑(List.length (ofT (Prod.fst (List.getD x.1 x_1 fl0))
  (List.take x_2 (dnL x)))) : Int)) = false → ((0 : Int) ≤ (↑x_2 : Int) ∧ (↑x_2 : Int) < (↑(List.length (Prod.snd (drainF x (100000 : Int)))) : Int)) ∧ ((0 : Int) ≤ (↑(List.length (ofT (Prod.fst (List.getD x.1 x_1 fl0))
  (List.take x_2 (dnL x)))) : Int) ∧ (↑(List.length (ofT (Prod.fst (List.getD x.1 x_1 fl0)) (List.take x_2 (dnL x)))) : Int) < (↑(List.length (Prod.snd (Prod.snd (Prod.snd (List.getD x.1 (Int.toNat (↑x_1 : Int)) ((0 :
  Int), (0 : Int), (0 : Int), [])))))) : Int)) ∧ ((!decide (Prod.fst (Prod.snd (List.getD (Prod.snd (drainF x (100000 : Int))) (Int.toNat (↑x_2 : Int)) ((0 : Int), (0 : Int), (0 : Int)))) = Prod.fst (List.getD (Prod.snd
  (Prod.snd (Prod.snd (List.getD x.1 (Int.toNat (↑x_1 : Int)) ((0 : Int), (0 : Int), (0 : Int), []))))) (Int.toNat (↑(List.length (ofT (Prod.fst (List.getD x.1 x_1 fl0)) (List.take x_2 (dnL x)))) : Int)) ((0 : Int), (0 :
  Int))))) = true → false = true) ∧ ((!decide (Prod.fst (Prod.snd (List.getD (Prod.snd (drainF x (100000 : Int))) (Int.toNat (↑x_2 : Int)) ((0 : Int), (0 : Int), (0 : Int)))) = Prod.fst (List.getD (Prod.snd (Prod.snd
  (Prod.snd (List.getD x.1 (Int.toNat (↑x_1 : Int)) ((0 : Int), (0 : Int), (0 : Int), []))))) (Int.toNat (↑(List.length (ofT (Prod.fst (List.getD x.1 x_1 fl0)) (List.take x_2 (dnL x)))) : Int)) ((0 : Int), (0 : Int)))))
  = false → ((0 : Int) ≤ (↑x_2 : Int) ∧ (↑x_2 : Int) < (↑(List.length (Prod.snd (drainF x (100000 : Int)))) : Int)) ∧ ((0 : Int) ≤ (↑(List.length (ofT (Prod.fst (List.getD x.1 x_1 fl0)) (List.take x_2 (dnL x)))) : Int) ∧
  (↑(List.length (ofT (Prod.fst (List.getD x.1 x_1 fl0)) (List.take x_2 (dnL x)))) : Int) < (↑(List.length (Prod.snd (Prod.snd (Prod.snd (List.getD x.1 (Int.toNat (↑x_1 : Int)) ((0 : Int), (0 : Int), (0 : Int), []))))))
  : Int)) ∧ ((!decide (Prod.snd (Prod.snd (List.getD (Prod.snd (drainF x (100000 : Int))) (Int.toNat (↑x_2 : Int)) ((0 : Int), (0 : Int), (0 : Int)))) = Prod.snd (List.getD (Prod.snd (Prod.snd (Prod.snd (List.getD x.1
  (Int.toNat (↑x_1 : Int)) ((0 : Int), (0 : Int), (0 : Int), []))))) (Int.toNat (↑(List.length (ofT (Prod.fst (List.getD x.1 x_1 fl0)) (List.take x_2 (dnL x)))) : Int)) ((0 : Int), (0 : Int))))) = true → false = true) ∧
  ((!decide (Prod.snd (Prod.snd (List.getD (Prod.snd (drainF x (100000 : Int))) (Int.toNat (↑x_2 : Int)) ((0 : Int), (0 : Int), (0 : Int)))) = Prod.snd (List.getD (Prod.snd (Prod.snd (Prod.snd (List.getD x.1 (Int.toNat
  (↑x_1 : Int)) ((0 : Int), (0 : Int), (0 : Int), []))))) (Int.toNat (↑(List.length (ofT (Prod.fst (List.getD x.1 x_1 fl0)) (List.take x_2 (dnL x)))) : Int)) ((0 : Int), (0 : Int))))) = false → ∃ (x' : Nat), x' ≤
  List.length (dnL x) ∧ List.length (dnL x) - x' < List.length (dnL x) - x_2 ∧ (d = d ∧ (↑x_1 : Int) = (↑x_1 : Int) ∧ IntKind.wrap IntKind.i64 ((↑(List.length (ofT (Prod.fst (List.getD x.1 x_1 fl0)) (List.take x_2 (dnL
  x)))) : Int) + (1 : Int)) = (↑(List.length (ofT (Prod.fst (List.getD x.1 x_1 fl0)) (List.take x' (dnL x)))) : Int) ∧ Prod.snd (Prod.snd (Prod.snd (List.getD x.1 (Int.toNat (↑x_1 : Int)) ((0 : Int), (0 : Int), (0 :
  Int), [])))) = Prod.snd (Prod.snd (Prod.snd (List.getD x.1 (Int.toNat (↑x_1 : Int)) ((0 : Int), (0 : Int), (0 : Int), [])))) ∧ IntKind.wrap IntKind.i64 ((↑x_2 : Int) + (1 : Int)) = (↑x' : Int)) ∧ x.1 = x.1 ∧ (x.2.1 =
  x.2.1 ∧ x.2.2 = x.2.2) ∧ x.1 = x.1 ∧ Prod.fst (Prod.fst (drainF x (100000 : Int))) = Prod.fst (Prod.fst (drainF x (100000 : Int))) ∧ Prod.snd (drainF x (100000 : Int)) = Prod.snd (drainF x (100000 : Int)) ∧ Prod.fst
  (Prod.snd (Prod.fst (drainF x (100000 : Int)))) = Prod.fst (Prod.snd (Prod.fst (drainF x (100000 : Int)))) ∧ Prod.snd (Prod.snd (Prod.fst (drainF x (100000 : Int)))) = Prod.snd (Prod.snd (Prod.fst (drainF x (100000 :
  Int)))))))) ∧ (decide (Prod.fst (List.getD (Prod.snd (drainF x (100000 : Int))) (Int.toNat (↑x_2 : Int)) ((0 : Int), (0 : Int), (0 : Int))) = Prod.fst (List.getD x.1 (Int.toNat (↑x_1 : Int)) ((0 : Int), (0 : Int), (0 :
  Int), []))) = false → ∃ (x' : Nat), x' ≤ List.length (dnL x) ∧ List.length (dnL x) - x' < List.length (dnL x) - x_2 ∧ (d = d ∧ (↑x_1 : Int) = (↑x_1 : Int) ∧ (↑(List.length (ofT (Prod.fst (List.getD x.1 x_1 fl0))
  (List.take x_2 (dnL x)))) : Int) = (↑(List.length (ofT (Prod.fst (List.getD x.1 x_1 fl0)) (List.take x' (dnL x)))) : Int) ∧ Prod.snd (Prod.snd (Prod.snd (List.getD x.1 (Int.toNat (↑x_1 : Int)) ((0 : Int), (0 : Int), (0
  : Int), [])))) = Prod.snd (Prod.snd (Prod.snd (List.getD x.1 (Int.toNat (↑x_1 : Int)) ((0 : Int), (0 : Int), (0 : Int), [])))) ∧ IntKind.wrap IntKind.i64 ((↑x_2 : Int) + (1 : Int)) = (↑x' : Int)) ∧ x.1 = x.1 ∧ (x.2.1 =
  x.2.1 ∧ x.2.2 = x.2.2) ∧ x.1 = x.1 ∧ Prod.fst (Prod.fst (drainF x (100000 : Int))) = Prod.fst (Prod.fst (drainF x (100000 : Int))) ∧ Prod.snd (drainF x (100000 : Int)) = Prod.snd (drainF x (100000 : Int)) ∧ Prod.fst
  (Prod.snd (Prod.fst (drainF x (100000 : Int)))) = Prod.fst (Prod.snd (Prod.fst (drainF x (100000 : Int)))) ∧ Prod.snd (Prod.snd (Prod.fst (drainF x (100000 : Int)))) = Prod.snd (Prod.snd (Prod.fst (drainF x (100000 :
  Int)))))) ∧ (decide ((↑x_2 : Int) < (↑(List.length (Prod.snd (drainF x (100000 : Int)))) : Int)) = false → ((!decide ((↑(List.length (ofT (Prod.fst (List.getD x.1 x_1 fl0)) (List.take x_2 (dnL x)))) : Int) =
  (↑(List.length (Prod.snd (Prod.snd (Prod.snd (List.getD x.1 (Int.toNat (↑x_1 : Int)) ((0 : Int), (0 : Int), (0 : Int), [])))))) : Int))) = true → false = true) ∧ ((!decide ((↑(List.length (ofT (Prod.fst (List.getD x.1
  x_1 fl0)) (List.take x_2 (dnL x)))) : Int) = (↑(List.length (Prod.snd (Prod.snd (Prod.snd (List.getD x.1 (Int.toNat (↑x_1 : Int)) ((0 : Int), (0 : Int), (0 : Int), [])))))) : Int))) = false → ((0 : Int) ≤ (↑x_1 : Int)
  ∧ (↑x_1 : Int) < (↑(List.length x.1) : Int)) ∧ True ∧ ((0 : Int) ≤ (↑x_1 : Int) ∧ (↑x_1 : Int) < (↑(List.length x.1) : Int)) ∧ True ∧ (Ty.wf i64T (lineCostF (Prod.snd (Prod.snd (Prod.snd (List.getD x.1 (Int.toNat (↑x_1
  : Int)) ((0 : Int), (0 : Int), (0 : Int), [])))))) → Ty.wf i64T (servedF (Prod.snd (drainF x (100000 : Int))) (Prod.fst (List.getD x.1 (Int.toNat (↑x_1 : Int)) ((0 : Int), (0 : Int), (0 : Int), [])))) → ((!decide
  (servedF (Prod.snd (drainF x (100000 : Int))) (Prod.fst (List.getD x.1 (Int.toNat (↑x_1 : Int)) ((0 : Int), (0 : Int), (0 : Int), []))) = lineCostF (Prod.snd (Prod.snd (Prod.snd (List.getD x.1 (Int.toNat (↑x_1 : Int))
  ((0 : Int), (0 : Int), (0 : Int), []))))))) = true → false = true) ∧ ((!decide (servedF (Prod.snd (drainF x (100000 : Int))) (Prod.fst (List.getD x.1 (Int.toNat (↑x_1 : Int)) ((0 : Int), (0 : Int), (0 : Int), []))) =
  lineCostF (Prod.snd (Prod.snd (Prod.snd (List.getD x.1 (Int.toNat (↑x_1 : Int)) ((0 : Int), (0 : Int), (0 : Int), []))))))) = false → ∃ (x' : Nat), x' ≤ List.length x.1 ∧ List.length x.1 - x' < List.length x.1 - x_1 ∧
  (d = d ∧ IntKind.wrap IntKind.i64 ((↑x_1 : Int) + (1 : Int)) = (↑x' : Int)) ∧ x.1 = x.1 ∧ (x.2.1 = x.2.1 ∧ x.2.2 = x.2.2) ∧ x.1 = x.1 ∧ Prod.fst (Prod.fst (drainF x (100000 : Int))) = Prod.fst (Prod.fst (drainF x
  (100000 : Int))) ∧ Prod.snd (drainF x (100000 : Int)) = Prod.snd (drainF x (100000 : Int)) ∧ Prod.fst (Prod.snd (Prod.fst (drainF x (100000 : Int)))) = Prod.fst (Prod.snd (Prod.fst (drainF x (100000 : Int)))) ∧
  Prod.snd (Prod.snd (Prod.fst (drainF x (100000 : Int)))) = Prod.snd (Prod.snd (Prod.fst (drainF x (100000 : Int))))))))) ∧ (decide ((↑x_1 : Int) < (↑(List.length x.1) : Int)) = false → true = true))))))))) := by
  intro d hd _
  simp only [Int.toNat_natCast, exists_const, and_true, true_and, implies_true, decide_eq_true_eq, decide_eq_false_iff_not, Bool.not_eq_true', Bool.not_eq_false', beq_iff_eq, forall_const]
  intro hb
  have hb2 : d.length ≤ 9223372036854775807 := by unfold bigF at hb; have := of_decide_eq_false hb; omega
  refine ⟨hb2, fun r hf hr => ⟨fun h => ⟨r.1, ⟨hf, h⟩, rfl, rfl, rfl⟩, fun x hx => ?_⟩⟩
  obtain ⟨hx1, hx2⟩ := hx
  obtain ⟨⟨d1, d2, d3⟩, d4, d5⟩ := drained hx2
  have hfl : FlsP x.1 := ⟨by have := hx1.1; omega, fun f hf => by have := hx1.2 f hf; omega⟩
  simp only [show ((0 : Int), (0 : Int), (0 : Int), ([] : List Tk)) = fl0 from rfl, show (drainF x 100000).2 = dnL x from rfl] at d1 ⊢
  refine ⟨hfl, fun _ => ⟨hfl, fun _ _ => ⟨fun h => absurd d1 h, fun _ _ => ⟨fun h => absurd d2 h, fun _ => ⟨fun h => (by rw [d3] at h; cases h), fun _ => ⟨Nat.zero_le _, rfl, fun i hi hlt => ?_⟩⟩⟩⟩⟩⟩
  have hi' : i < x.1.length := by omega
  obtain ⟨e1, e2⟩ := d5 i hi'
  have hle : (dnL x).length ≤ 480 := d4
  refine ⟨⟨by omega, hlt⟩, Nat.zero_le _, ⟨rfl, rfl⟩, fun m hm => ⟨fun hmlt => ⟨⟨by omega, hmlt⟩, ⟨by omega, hlt⟩, ?_⟩, fun hmge => ?_⟩⟩
  · have hm' : m < (dnL x).length := by omega
    have t1 := ofT_take (z := (0, 0, 0)) (x.1.getD i fl0).1 hm'
    have t2 := ofT_at (z := (0, 0, 0)) (x.1.getD i fl0).1 hm'
    have t3 : (ofT (x.1.getD i fl0).1 ((dnL x).take m)).length ≤ 480 := by
      unfold ofT
      rw [List.length_map]
      refine Nat.le_trans (List.length_filter_le _ _) ?_
      rw [List.length_take]; omega
    rw [e1] at t2
    refine ⟨fun he => ?_, fun he => ⟨m + 1, by omega, by omega, ?_, ?_⟩⟩
    · rw [if_pos he] at t1 t2
      have t4 : (ofT (x.1.getD i fl0).1 ((dnL x).take m)).length < (x.1.getD i fl0).2.2.2.length := by
        conv => rhs; rw [t2]
        simp only [List.length_append, List.length_singleton]; omega
      have t5 : (x.1.getD i fl0).2.2.2.getD (ofT (x.1.getD i fl0).1 ((dnL x).take m)).length (0, 0) = ((dnL x).getD m (0, 0, 0)).2 := by
        conv => lhs; arg 1; rw [t2]
        rw [List.getD_eq_getElem?_getD, List.getElem?_append_right (Nat.le_refl _), Nat.sub_self]
        rfl
      refine ⟨fun h => absurd h (by omega), fun h => ⟨⟨by omega, hmlt⟩, ⟨by omega, by omega⟩, fun h => absurd (congrArg Prod.fst t5).symm h, fun _ => ⟨⟨by omega, hmlt⟩, ⟨by omega, by omega⟩, fun h => absurd (congrArg Prod.snd t5).symm h, fun _ => ⟨m + 1, by omega, by omega, ?_, ?_⟩⟩⟩⟩
      · rw [t1, List.length_append, List.length_singleton, wrap_small (by omega)]; rfl
      · rw [wrap_small (by omega)]; rfl
    · rw [if_neg he, List.append_nil] at t1
      rw [t1]
    · rw [wrap_small (by omega)]; rfl
  · have hm' : (dnL x).take m = dnL x := List.take_of_length_le (by omega)
    rw [hm', e1]
    refine ⟨fun h => absurd rfl h, fun _ => ?_⟩
    have hxl : x.1.length ≤ 50 := hx1.1
    exact ⟨⟨by omega, hlt⟩, ⟨by omega, hlt⟩, fun _ _ => ⟨fun h => absurd e2 h, fun _ => ⟨i + 1, by omega, by omega, by rw [wrap_small (by omega)]; rfl⟩⟩⟩
end Go.SF
