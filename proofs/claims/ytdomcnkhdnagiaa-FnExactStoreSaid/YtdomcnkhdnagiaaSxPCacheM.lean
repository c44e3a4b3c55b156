/- Results looked up and stored. No condition. -/
import Derived.Test.YtdomcnkhdnagiaaSxC
import Derived.Test.YtdomcnkhdnagiaaSxPCacheL
namespace Go.SF
open Go.SX Go
set_option linter.unusedVariables false
set_option linter.unusedSimpArgs false
theorem key_some {key : List Int} : ∀ {es : List En} {k : Int}, 0 ≤ k → 0 ≤ keyGo key es k → ∃ i : Nat, i < es.length ∧ keyGo key es k = k + i ∧ (es.getD i en0).1 = key
  | [], k, hk, h => by unfold keyGo at h; omega
  | e :: es, k, hk, h => by
    unfold keyGo at h ⊢
    by_cases hh : e.1 = key
    · rw [if_pos hh]; exact ⟨0, by simp, by omega, by simpa using hh⟩
    · rw [if_neg hh] at h ⊢
      obtain ⟨i, h1, h2, h3⟩ := key_some (by omega) h
      exact ⟨i + 1, by simp; omega, by rw [h2]; omega, by simpa using h3⟩
theorem filt_at {es : List En} {i : Nat} (hi : i < es.length) (hk : KeysP es es.length) : es.filter (fun o => decide (o.1 ≠ (es.getD i en0).1)) = es.take i ++ es.drop (i + 1) := by
  have hd : es.getD i en0 = es[i] := by simp [hi]
  have hs : es = es.take i ++ es[i] :: es.drop (i + 1) := by rw [List.getElem_cons_drop, List.take_append_drop]
  have hg : ∀ j (hj : j < es.length), es.getD j ([], 0, [], []) = es[j] := fun j hj => by simp [hj]
  have hne : ∀ a b (ha : a < es.length) (hb : b < es.length), a < b → es[a].1 ≠ es[b].1 := fun a b ha hb hab => by
    have := (hk b hb).2 a hab
    rw [hg a ha, hg b hb] at this
    exact this
  conv => lhs; rw [hs]
  rw [List.filter_append, List.filter_cons, if_neg (by rw [decide_eq_true_eq]; simp only [ne_eq, Decidable.not_not]; rw [← hs, hd])]
  rw [List.filter_eq_self.2 (fun o ho => ?_), List.filter_eq_self.2 (fun o ho => ?_)]
  · rw [decide_eq_true_eq, ← hs, hd]
    obtain ⟨j, hj, rfl⟩ := List.getElem_of_mem ho
    rw [List.getElem_drop]
    rw [List.length_drop] at hj
    exact fun e => hne i (i + 1 + j) hi (by omega) (by omega) e.symm
  · rw [decide_eq_true_eq, ← hs, hd]
    obtain ⟨j, hj, rfl⟩ := List.getElem_of_mem ho
    rw [List.getElem_take]
    rw [List.length_take] at hj
    exact hne j i (by omega) hi (by omega)
theorem filt_none {es : List En} {key : List Int} (h : keyGo key es 0 < 0) : es.filter (fun o => decide (o.1 ≠ key)) = es := by
  have h' := (key_none (Int.le_refl 0)).1 h
  rw [List.filter_eq_self]
  intro o ho
  obtain ⟨j, hj, rfl⟩ := List.getElem_of_mem ho
  have := h' j hj
  rw [show es.getD j ([], 0, [], []) = es[j] by simp [hj]] at this
  simpa using this
theorem front_len (c : Ca) (e : En) : (frontF c e).2.length ≤ c.2.length + 1 := by
  show (e :: _).length ≤ _
  rw [List.length_cons]
  exact Nat.succ_le_succ (List.length_filter_le _ _)
theorem front_step {c : Int} {es : List En} {x : Nat} (hx : x < es.length) (e : En) :
    ((es.getD x en0).1 = e.1 → (frontF (c, es.take x) e).2 = (frontF (c, es.take (x + 1)) e).2) ∧ (¬ (es.getD x en0).1 = e.1 → (frontF (c, es.take x) e).2 ++ [es.getD x en0] = (frontF (c, es.take (x + 1)) e).2) := by
  have h1 : es.take (x + 1) = es.take x ++ [es.getD x en0] := by rw [List.take_succ_eq_append_getElem hx]; simp [hx]
  unfold frontF
  simp only
  rw [h1, List.filter_append]
  refine ⟨fun h => ?_, fun h => ?_⟩
  · rw [List.filter_cons, if_neg (by simpa using h)]; simp
  · rw [List.filter_cons, if_pos (by simpa using h)]; simp
theorem ens_front {c : Ca} {e : En} (h : EnsP c.2) (he : EnP e) (hl : c.2.length ≤ 1000) : EnsP (frontF c e).2 := by
  refine ⟨by have := front_len c e; omega, fun o ho => ?_⟩
  rcases List.mem_cons.1 ho with rfl | ho
  · exact he
  · exact h.2 o (List.mem_filter.1 ho).1
theorem v_S_l16Front :
  ∀ (d : (Int × List (List Int × Int × List Int × List Int)) × List Int × Int × List Int × List Int), Ty.wf cacheT (Prod.fst d) ∧ Ty.wf entT (Prod.snd d) → EnsP (Prod.snd (Prod.fst d)) ∧ EnP (Prod.snd d) → List.length
  (Prod.fst (Prod.snd d)) ≤ (1048576 : Nat) ∧ RsP (Prod.snd (Prod.snd d)) ∧ (Ty.wf resT (Prod.snd (Prod.snd d)) → Ty.wf bytesT (Prod.fst (Prod.snd d)) → EnsP (Prod.snd (Prod.fst d)) ∧ (Ty.wf cacheT (Prod.fst d) → (0 :
  Nat) ≤ List.length (Prod.snd (Prod.fst d)) ∧ (((Prod.fst (Prod.fst d) = Prod.fst (Prod.fst d) ∧ Prod.snd (Prod.fst d) = Prod.snd (Prod.fst d)) ∧ (Prod.fst (Prod.snd d) = Prod.fst (Prod.snd d) ∧ Prod.fst (Prod.snd
  (Prod.snd d)) = Prod.fst (Prod.snd (Prod.snd d)) ∧ Prod.fst (Prod.snd (Prod.snd (Prod.snd d))) = Prod.fst (Prod.snd (Prod.snd (Prod.snd d))) ∧ Prod.snd (Prod.snd (Prod.snd (Prod.snd d))) = Prod.snd (Prod.snd (Prod.snd
  (Prod.snd d)))) ∧ (0 : Int) = (↑(0 : Nat) : Int)) ∧ (Prod.fst (Prod.fst d) = Prod.fst (Prod.fst d) ∧ Prod.snd (Prod.fst d) = Prod.snd (Prod.fst d)) ∧ (Prod.fst (Prod.snd d) = Prod.fst (Prod.snd d) ∧ Prod.fst (Prod.snd
  (Prod.snd d)) = Prod.fst (Prod.snd (Prod.snd d)) ∧ Prod.fst (Prod.snd (Prod.snd (Prod.snd d))) = Prod.fst (Prod.snd (Prod.snd (Prod.snd d))) ∧ Prod.snd (Prod.snd (Prod.snd (Prod.snd d))) = Prod.snd (Prod.snd (Prod.snd
  (Prod.snd d)))) ∧ ((0 : Int) = (0 : Int) ∧ Value.slice none (0 : Nat) (0 : Nat) = Value.slice none (0 : Nat) (0 : Nat)) ∧ [Prod.snd d] = Prod.snd (frontF (Prod.fst (Prod.fst d), List.take (0 : Nat) (Prod.snd (Prod.fst
  d))) (Prod.snd d)) ∧ Prod.fst (Prod.fst d) = Prod.fst (Prod.fst d) ∧ Prod.snd (Prod.fst d) = Prod.snd (Prod.fst d) ∧ Prod.fst (Prod.fst d) = Prod.fst (Prod.fst d)) ∧ ∀ (x : Nat), x ≤ List.length (Prod.snd (Prod.fst d))
  → (decide ((↑x : Int) < (↑(List.length (Prod.snd (Prod.fst d))) : Int)) = true → ((0 : Int) ≤ (↑x : Int) ∧ (↑x : Int) < (↑(List.length (Prod.snd (Prod.fst d))) : Int)) ∧ True ∧ ((!decide (Prod.fst (List.getD (Prod.snd
  (Prod.fst d)) (Int.toNat (↑x : Int)) ([], (0 : Int), [], [])) = Prod.fst (Prod.snd d))) = true → ((0 : Int) ≤ (↑x : Int) ∧ (↑x : Int) < (↑(List.length (Prod.snd (Prod.fst d))) : Int)) ∧ (List.length (Prod.snd (frontF
  (Prod.fst (Prod.fst d), List.take x (Prod.snd (Prod.fst d))) (Prod.snd d))) + List.length [List.getD (Prod.snd (Prod.fst d)) (Int.toNat (↑x : Int)) ([], (0 : Int), [], [])]) * (80 : Nat) ≤ (140737488355328 : Nat) ∧ ∃
  (x' : Nat), x' ≤ List.length (Prod.snd (Prod.fst d)) ∧ List.length (Prod.snd (Prod.fst d)) - x' < List.length (Prod.snd (Prod.fst d)) - x ∧ ((Prod.fst (Prod.fst d) = Prod.fst (Prod.fst d) ∧ Prod.snd (Prod.fst d) =
  Prod.snd (Prod.fst d)) ∧ (Prod.fst (Prod.snd d) = Prod.fst (Prod.snd d) ∧ Prod.fst (Prod.snd (Prod.snd d)) = Prod.fst (Prod.snd (Prod.snd d)) ∧ Prod.fst (Prod.snd (Prod.snd (Prod.snd d))) = Prod.fst (Prod.snd (Prod.snd
  (Prod.snd d))) ∧ Prod.snd (Prod.snd (Prod.snd (Prod.snd d))) = Prod.snd (Prod.snd (Prod.snd (Prod.snd d)))) ∧ IntKind.wrap IntKind.i64 ((↑x : Int) + (1 : Int)) = (↑x' : Int)) ∧ (Prod.fst (Prod.fst d) = Prod.fst
  (Prod.fst d) ∧ Prod.snd (Prod.fst d) = Prod.snd (Prod.fst d)) ∧ (Prod.fst (Prod.snd d) = Prod.fst (Prod.snd d) ∧ Prod.fst (Prod.snd (Prod.snd d)) = Prod.fst (Prod.snd (Prod.snd d)) ∧ Prod.fst (Prod.snd (Prod.snd
  (Prod.snd d))) = Prod.fst (Prod.snd (Prod.snd (Prod.snd d))) ∧ Prod.snd (Prod.snd (Prod.snd (Prod.snd d))) = Prod.snd (Prod.snd (Prod.snd (Prod.snd d)))) ∧ ((0 : Int) = (0 : Int) ∧ Value.slice none (0 : Nat) (0 : Nat)
  = Value.slice none (0 : Nat) (0 : Nat)) ∧ Prod.snd (frontF (Prod.fst (Prod.fst d), List.take x (Prod.snd (Prod.fst d))) (Prod.snd d)) ++ [List.getD (Prod.snd (Prod.fst d)) (Int.toNat (↑x : Int)) ([], (0 : Int), [],
  [])] = Prod.snd (frontF (Prod.fst (Prod.fst d), List.take x' (Prod.snd (Prod.fst d))) (Prod.snd d)) ∧ Prod.fst (Prod.fst d) = Prod.fst (Prod.fst d) ∧ Prod.snd (Prod.fst d) = Prod.snd (Prod.fst d) ∧ Prod.fst (Prod.fst
  d) = Prod.fst (Prod.fst d)) ∧ ((!decide (Prod.fst (List.getD (Prod.snd (Prod.fst d)) (Int.toNat (↑x : Int)) ([], (0 : Int), [], [])) = Prod.fst (Prod.snd d))) = false → ∃ (x' : Nat), x' ≤ List.length (Prod.snd
  (Prod.fst d)) ∧ List.length (Prod.snd (Prod.fst d)) - x' < List.length (Prod.snd (Prod.fst d)) - x ∧ ((Prod.fst (Prod.fst d) = Prod.fst (Prod.fst d) ∧ Prod.snd (Prod.fst d) = Prod.snd (Prod.fst d)) ∧ (Prod.fst
  (Prod.snd d) = Prod.fst (Prod.snd d) ∧ Prod.fst (Prod.snd (Prod.snd d)) = Prod.fst (Prod.snd (Prod.snd d)) ∧ Prod.fst (Prod.snd (Prod.snd (Prod.snd d))) = Prod.fst (Prod.snd (Prod.snd (Prod.snd d))) ∧ Prod.snd
  (Prod.snd (Prod.snd (Prod.snd d))) = Prod.snd (Prod.snd (Prod.snd (Prod.snd d)))) ∧ IntKind.wrap IntKind.i64 ((↑x : Int) + (1 : Int)) = (↑x' : Int)) ∧ (Prod.fst (Prod.fst d) = Prod.fst (Prod.fst d) ∧ Prod.snd (Prod.fst
  d) = Prod.snd (Prod.fst d)) ∧ (Prod.fst (Prod.snd d) = Prod.fst (Prod.snd d) ∧ Prod.fst (Prod.snd (Prod.snd d)) = Prod.fst (Prod.snd (Prod.snd d)) ∧ Prod.fst (Prod.snd (Prod.snd (Prod.snd d))) = Prod.fst (Prod.snd
  (Prod.snd (Prod.snd d))) ∧ Prod.snd (Prod.snd (Prod.snd (Prod.snd d))) = Prod.snd (Prod.snd (Prod.snd (Prod.snd d)))) ∧ ((0 : Int) = (0 : Int) ∧ Value.slice none (0 : Nat) (0 : Nat) = Value.slice none (0 : Nat) (0 :
  Nat)) ∧ Prod.snd (frontF (Prod.fst (Prod.fst d), List.take x (Prod.snd (Prod.fst d))) (Prod.snd d)) = Prod.snd (frontF (Prod.fst (Prod.fst d), List.take x' (Prod.snd (Prod.fst d))) (Prod.snd d)) ∧ Prod.fst (Prod.fst d)
  = Prod.fst (Prod.fst d) ∧ Prod.snd (Prod.fst d) = Prod.snd (Prod.fst d) ∧ Prod.fst (Prod.fst d) = Prod.fst (Prod.fst d))) ∧ (decide ((↑x : Int) < (↑(List.length (Prod.snd (Prod.fst d))) : Int)) = false → (Prod.fst
  (Prod.fst d), Prod.snd (frontF (Prod.fst (Prod.fst d), List.take x (Prod.snd (Prod.fst d))) (Prod.snd d))) = frontF (Prod.fst d) (Prod.snd d)))) := by
  intro d hw hp
  obtain ⟨hp1, hp2⟩ := hp
  have hlen := hp1.1
  simp only [Int.toNat_natCast, exists_const, and_true, true_and, implies_true, decide_eq_true_eq, decide_eq_false_iff_not, Bool.not_eq_true', Bool.not_eq_false', beq_iff_eq, forall_const]
  refine ⟨hp2.1, hp2.2, fun _ _ => ⟨hp1, fun _ => ⟨Nat.zero_le _, ⟨rfl, by simp [frontF]⟩, fun x hx => ⟨fun h => ?_, fun h => ?_⟩⟩⟩⟩
  · have h6 : x < d.1.2.length := by omega
    have hw1 : IntKind.i64.wrap ((x : Int) + 1) = ((x + 1 : Nat) : Int) := by rw [wrap_small (by omega)]; rfl
    have hs := front_step (c := d.1.1) h6 d.2
    have hl := front_len (d.1.1, d.1.2.take x) d.2
    simp only [List.length_take] at hl
    refine ⟨⟨by omega, h⟩, fun h7 => ⟨⟨by omega, h⟩, by rw [List.length_singleton]; omega, x + 1, by omega, by omega, hw1, hs.2 h7⟩, fun h7 => ⟨x + 1, by omega, by omega, hw1, hs.1 h7⟩⟩
  · have h6 : x = d.1.2.length := by omega
    rw [h6, List.take_length]
    rfl
theorem look_no {c : Ca} {key : List Int} (h : cacheB c = false ∨ keyGo key c.2 0 < 0) : lookF c key = (c, (0, [], []), false) := by
  unfold lookF
  rw [if_neg]
  intro ⟨h1, h2⟩
  rcases h with h | h
  · rw [h] at h1; cases h1
  · omega
theorem unR (r : Rs) : unD resT r = r := by
  show (r.1, List.map (unD i64T) r.2.1, List.map (unD i64T) r.2.2) = r
  rw [unIn, unIn]; rfl
theorem idR (r : Rs) : ids resT r = [] := ids_noG resT rfl r
theorem idE_front {L : List EnG} {i : Nat} (hi : i < L.length) (h : (L.flatMap idE).Nodup) : ((L.getD i eg0 :: (L.take i ++ L.drop (i + 1))).flatMap idE).Nodup := by
  have hs : L = L.take i ++ L.getD i eg0 :: L.drop (i + 1) := by
    have : L.getD i eg0 = L[i] := by simp [hi]
    rw [this, List.getElem_cons_drop, List.take_append_drop]
  have hp : List.Perm (L.getD i eg0 :: (L.take i ++ L.drop (i + 1))) L := by
    conv => rhs; rw [hs]
    exact List.perm_middle.symm
  exact ((hp.flatMap_right idE).nodup_iff).2 h
theorem look_at {cap : Int} {r : Int × List EnG} {es : List En} {key : List Int} (h1 : r.1 = cap) (h2 : r.2.map unE = es) (h3 : cacheB (cap, es) = true) {i : Nat} (hi : i < es.length) (hk : keyGo key es 0 = i) :
    lookF (cap, es) key = ((r.1, (r.2.getD i eg0 :: (r.2.take i ++ r.2.drop (i + 1))).map unE), ((r.2.getD i eg0).2.1, (r.2.getD i eg0).2.2.1.2, (r.2.getD i eg0).2.2.2.2), true) := by
  obtain ⟨_, _, c3, c4, _⟩ := cache_ok h3
  have he : es.getD i en0 = unE (r.2.getD i eg0) := by
    have hl : r.2.length = es.length := by rw [← h2, List.length_map]
    rw [← h2]
    simp [List.getD_eq_getElem?_getD, hl, hi]
  unfold lookF
  simp only
  rw [if_pos ⟨h3, by omega⟩, hk, Int.toNat_natCast]
  unfold frontF
  simp only
  rw [filt_at hi c4, he, List.map_cons, List.map_append, List.map_take, List.map_drop, h2, h1]
  rfl
def ilk1 (d : (Int × List (List Int × Int × List Int × List Int)) × List Int) (r : Int × List ((Nat × List Int) × Int × (Nat × List Int) × Nat × List Int)) : Prop :=
  (Ty.wf resT (Prod.fst (Prod.snd (List.getD (Prod.snd r) (Int.toNat (keyGo (Prod.snd d) (Prod.snd (Prod.fst d)) (0 : Int))) (((0 : Nat), []), (0 : Int), ((0 : Nat), []), (0 : Nat), []))), Prod.snd (Prod.fst (Prod.snd
  (Prod.snd (List.getD (Prod.snd r) (Int.toNat (keyGo (Prod.snd d) (Prod.snd (Prod.fst d)) (0 : Int))) (((0 : Nat), []), (0 : Int), ((0 : Nat), []), (0 : Nat), []))))), Prod.snd (Prod.snd (Prod.snd (Prod.snd (List.getD
  (Prod.snd r) (Int.toNat (keyGo (Prod.snd d) (Prod.snd (Prod.fst d)) (0 : Int))) (((0 : Nat), []), (0 : Int), ((0 : Nat), []), (0 : Nat), [])))))) → (unD cacheG (Prod.fst r, List.take (Int.toNat (0 : Int)) (List.take
  (Int.toNat (keyGo (Prod.snd d) (Prod.snd (Prod.fst d)) (0 : Int))) (Prod.snd r) ++ List.drop (Int.toNat (IntKind.wrap IntKind.i64 (keyGo (Prod.snd d) (Prod.snd (Prod.fst d)) (0 : Int) + (1 : Int)))) (Prod.snd r)) ++
  [List.getD (Prod.snd r) (Int.toNat (keyGo (Prod.snd d) (Prod.snd (Prod.fst d)) (0 : Int))) (((0 : Nat), []), (0 : Int), ((0 : Nat), []), (0 : Nat), [])] ++ List.drop (Int.toNat (0 : Int)) (List.take (Int.toNat (keyGo
  (Prod.snd d) (Prod.snd (Prod.fst d)) (0 : Int))) (Prod.snd r) ++ List.drop (Int.toNat (IntKind.wrap IntKind.i64 (keyGo (Prod.snd d) (Prod.snd (Prod.fst d)) (0 : Int) + (1 : Int)))) (Prod.snd r))), unD resT (Prod.fst
  (Prod.snd (List.getD (Prod.snd r) (Int.toNat (keyGo (Prod.snd d) (Prod.snd (Prod.fst d)) (0 : Int))) (((0 : Nat), []), (0 : Int), ((0 : Nat), []), (0 : Nat), []))), Prod.snd (Prod.fst (Prod.snd (Prod.snd (List.getD
  (Prod.snd r) (Int.toNat (keyGo (Prod.snd d) (Prod.snd (Prod.fst d)) (0 : Int))) (((0 : Nat), []), (0 : Int), ((0 : Nat), []), (0 : Nat), []))))), Prod.snd (Prod.snd (Prod.snd (Prod.snd (List.getD (Prod.snd r)
  (Int.toNat (keyGo (Prod.snd d) (Prod.snd (Prod.fst d)) (0 : Int))) (((0 : Nat), []), (0 : Int), ((0 : Nat), []), (0 : Nat), [])))))), unD Ty.bool true) = lookF (Prod.fst d) (Prod.snd d) ∧ List.Nodup (ids cacheG
  (Prod.fst r, List.take (Int.toNat (0 : Int)) (List.take (Int.toNat (keyGo (Prod.snd d) (Prod.snd (Prod.fst d)) (0 : Int))) (Prod.snd r) ++ List.drop (Int.toNat (IntKind.wrap IntKind.i64 (keyGo (Prod.snd d) (Prod.snd
  (Prod.fst d)) (0 : Int) + (1 : Int)))) (Prod.snd r)) ++ [List.getD (Prod.snd r) (Int.toNat (keyGo (Prod.snd d) (Prod.snd (Prod.fst d)) (0 : Int))) (((0 : Nat), []), (0 : Int), ((0 : Nat), []), (0 : Nat), [])] ++
  List.drop (Int.toNat (0 : Int)) (List.take (Int.toNat (keyGo (Prod.snd d) (Prod.snd (Prod.fst d)) (0 : Int))) (Prod.snd r) ++ List.drop (Int.toNat (IntKind.wrap IntKind.i64 (keyGo (Prod.snd d) (Prod.snd (Prod.fst d))
  (0 : Int) + (1 : Int)))) (Prod.snd r))) ++ (ids resT (Prod.fst (Prod.snd (List.getD (Prod.snd r) (Int.toNat (keyGo (Prod.snd d) (Prod.snd (Prod.fst d)) (0 : Int))) (((0 : Nat), []), (0 : Int), ((0 : Nat), []), (0 :
  Nat), []))), Prod.snd (Prod.fst (Prod.snd (Prod.snd (List.getD (Prod.snd r) (Int.toNat (keyGo (Prod.snd d) (Prod.snd (Prod.fst d)) (0 : Int))) (((0 : Nat), []), (0 : Int), ((0 : Nat), []), (0 : Nat), []))))), Prod.snd
  (Prod.snd (Prod.snd (Prod.snd (List.getD (Prod.snd r) (Int.toNat (keyGo (Prod.snd d) (Prod.snd (Prod.fst d)) (0 : Int))) (((0 : Nat), []), (0 : Int), ((0 : Nat), []), (0 : Nat), [])))))) ++ ids Ty.bool true)))
def ilk2 (d : (Int × List (List Int × Int × List Int × List Int)) × List Int) (r : Int × List ((Nat × List Int) × Int × (Nat × List Int) × Nat × List Int)) : Prop :=
  (True ∧ (0 : Int) ≤ (0 : Int) ∧ (0 : Int) ≤ (↑(List.length (List.take (Int.toNat (keyGo (Prod.snd d) (Prod.snd (Prod.fst d)) (0 : Int))) (Prod.snd r) ++ List.drop (Int.toNat (IntKind.wrap IntKind.i64 (keyGo (Prod.snd
  d) (Prod.snd (Prod.fst d)) (0 : Int) + (1 : Int)))) (Prod.snd r))) : Int) ∧ List.length [List.getD (Prod.snd r) (Int.toNat (keyGo (Prod.snd d) (Prod.snd (Prod.fst d)) (0 : Int))) (((0 : Nat), []), (0 : Int), ((0 :
  Nat), []), (0 : Nat), [])] = (1 : Nat) ∧ (List.length (List.take (Int.toNat (keyGo (Prod.snd d) (Prod.snd (Prod.fst d)) (0 : Int))) (Prod.snd r) ++ List.drop (Int.toNat (IntKind.wrap IntKind.i64 (keyGo (Prod.snd d)
  (Prod.snd (Prod.fst d)) (0 : Int) + (1 : Int)))) (Prod.snd r)) + (1 : Nat)) * (80 : Nat) ≤ (140737488355328 : Nat))
def ilk4 (d : (Int × List (List Int × Int × List Int × List Int)) × List Int) (r : Int × List ((Nat × List Int) × Int × (Nat × List Int) × Nat × List Int)) : Prop :=
  ((0 : Int) ≤ keyGo (Prod.snd d) (Prod.snd (Prod.fst d)) (0 : Int) ∧ keyGo (Prod.snd d) (Prod.snd (Prod.fst d)) (0 : Int) ≤ IntKind.wrap IntKind.i64 (keyGo (Prod.snd d) (Prod.snd (Prod.fst d)) (0 : Int) + (1 : Int)) ∧
  IntKind.wrap IntKind.i64 (keyGo (Prod.snd d) (Prod.snd (Prod.fst d)) (0 : Int) + (1 : Int)) ≤ (↑(List.length (Prod.snd r)) : Int))
def ilk3 (d : (Int × List (List Int × Int × List Int × List Int)) × List Int) (r : Int × List ((Nat × List Int) × Int × (Nat × List Int) × Nat × List Int)) : Prop :=
  ((ilk4 d r) ∧ (ilk2 d r) ∧ RsP (Prod.fst (Prod.snd (List.getD (Prod.snd r) (Int.toNat (keyGo (Prod.snd d) (Prod.snd (Prod.fst d)) (0 : Int))) (((0 : Nat), []), (0 : Int), ((0 : Nat), []), (0 : Nat), []))), Prod.snd
  (Prod.fst (Prod.snd (Prod.snd (List.getD (Prod.snd r) (Int.toNat (keyGo (Prod.snd d) (Prod.snd (Prod.fst d)) (0 : Int))) (((0 : Nat), []), (0 : Int), ((0 : Nat), []), (0 : Nat), []))))), Prod.snd (Prod.snd (Prod.snd
  (Prod.snd (List.getD (Prod.snd r) (Int.toNat (keyGo (Prod.snd d) (Prod.snd (Prod.fst d)) (0 : Int))) (((0 : Nat), []), (0 : Int), ((0 : Nat), []), (0 : Nat), [])))))) ∧ (ilk1 d r))
def ilk5 (d : (Int × List (List Int × Int × List Int × List Int)) × List Int) (r : Int × List ((Nat × List Int) × Int × (Nat × List Int) × Nat × List Int)) : Prop :=
  (((ilk3 d r) ∧ (ilk3 d r) ∧ (ilk4 d r) ∧ (ilk2 d r) ∧ RsP (Prod.fst (Prod.snd (List.getD (Prod.snd r) (Int.toNat (keyGo (Prod.snd d) (Prod.snd (Prod.fst d)) (0 : Int))) (((0 : Nat), []), (0 : Int), ((0 : Nat), []), (0
  : Nat), []))), Prod.snd (Prod.fst (Prod.snd (Prod.snd (List.getD (Prod.snd r) (Int.toNat (keyGo (Prod.snd d) (Prod.snd (Prod.fst d)) (0 : Int))) (((0 : Nat), []), (0 : Int), ((0 : Nat), []), (0 : Nat), []))))),
  Prod.snd (Prod.snd (Prod.snd (Prod.snd (List.getD (Prod.snd r) (Int.toNat (keyGo (Prod.snd d) (Prod.snd (Prod.fst d)) (0 : Int))) (((0 : Nat), []), (0 : Int), ((0 : Nat), []), (0 : Nat), [])))))) ∧ (ilk1 d r)) ∧ ((ilk3
  d r) ∧ (ilk4 d r) ∧ (ilk2 d r) ∧ RsP (Prod.fst (Prod.snd (List.getD (Prod.snd r) (Int.toNat (keyGo (Prod.snd d) (Prod.snd (Prod.fst d)) (0 : Int))) (((0 : Nat), []), (0 : Int), ((0 : Nat), []), (0 : Nat), []))),
  Prod.snd (Prod.fst (Prod.snd (Prod.snd (List.getD (Prod.snd r) (Int.toNat (keyGo (Prod.snd d) (Prod.snd (Prod.fst d)) (0 : Int))) (((0 : Nat), []), (0 : Int), ((0 : Nat), []), (0 : Nat), []))))), Prod.snd (Prod.snd
  (Prod.snd (Prod.snd (List.getD (Prod.snd r) (Int.toNat (keyGo (Prod.snd d) (Prod.snd (Prod.fst d)) (0 : Int))) (((0 : Nat), []), (0 : Int), ((0 : Nat), []), (0 : Nat), [])))))) ∧ (ilk1 d r)) ∧ (ilk4 d r) ∧ (ilk2 d r) ∧
  RsP (Prod.fst (Prod.snd (List.getD (Prod.snd r) (Int.toNat (keyGo (Prod.snd d) (Prod.snd (Prod.fst d)) (0 : Int))) (((0 : Nat), []), (0 : Int), ((0 : Nat), []), (0 : Nat), []))), Prod.snd (Prod.fst (Prod.snd (Prod.snd
  (List.getD (Prod.snd r) (Int.toNat (keyGo (Prod.snd d) (Prod.snd (Prod.fst d)) (0 : Int))) (((0 : Nat), []), (0 : Int), ((0 : Nat), []), (0 : Nat), []))))), Prod.snd (Prod.snd (Prod.snd (Prod.snd (List.getD (Prod.snd
  r) (Int.toNat (keyGo (Prod.snd d) (Prod.snd (Prod.fst d)) (0 : Int))) (((0 : Nat), []), (0 : Int), ((0 : Nat), []), (0 : Nat), [])))))) ∧ (ilk1 d r))
def ilk6 (d : (Int × List (List Int × Int × List Int × List Int)) × List Int) (r : Int × List ((Nat × List Int) × Int × (Nat × List Int) × Nat × List Int)) : Prop :=
  (((ilk3 d r) ∧ (ilk4 d r) ∧ (ilk2 d r) ∧ RsP (Prod.fst (Prod.snd (List.getD (Prod.snd r) (Int.toNat (keyGo (Prod.snd d) (Prod.snd (Prod.fst d)) (0 : Int))) (((0 : Nat), []), (0 : Int), ((0 : Nat), []), (0 : Nat),
  []))), Prod.snd (Prod.fst (Prod.snd (Prod.snd (List.getD (Prod.snd r) (Int.toNat (keyGo (Prod.snd d) (Prod.snd (Prod.fst d)) (0 : Int))) (((0 : Nat), []), (0 : Int), ((0 : Nat), []), (0 : Nat), []))))), Prod.snd
  (Prod.snd (Prod.snd (Prod.snd (List.getD (Prod.snd r) (Int.toNat (keyGo (Prod.snd d) (Prod.snd (Prod.fst d)) (0 : Int))) (((0 : Nat), []), (0 : Int), ((0 : Nat), []), (0 : Nat), [])))))) ∧ (ilk1 d r)) ∧ (ilk4 d r) ∧
  (ilk2 d r) ∧ RsP (Prod.fst (Prod.snd (List.getD (Prod.snd r) (Int.toNat (keyGo (Prod.snd d) (Prod.snd (Prod.fst d)) (0 : Int))) (((0 : Nat), []), (0 : Int), ((0 : Nat), []), (0 : Nat), []))), Prod.snd (Prod.fst
  (Prod.snd (Prod.snd (List.getD (Prod.snd r) (Int.toNat (keyGo (Prod.snd d) (Prod.snd (Prod.fst d)) (0 : Int))) (((0 : Nat), []), (0 : Int), ((0 : Nat), []), (0 : Nat), []))))), Prod.snd (Prod.snd (Prod.snd (Prod.snd
  (List.getD (Prod.snd r) (Int.toNat (keyGo (Prod.snd d) (Prod.snd (Prod.fst d)) (0 : Int))) (((0 : Nat), []), (0 : Int), ((0 : Nat), []), (0 : Nat), [])))))) ∧ (ilk1 d r))

theorem store_no {c : Ca} {key : List Int} {r : Rs} (h : cacheB c = false ∨ 5000 < key.length ∨ c.1 < (wtN r : Int)) : storeF c key r = (c, false) := by
  unfold storeF
  rw [if_neg]
  intro ⟨h1, h2, h3⟩
  rcases h with h | h | h
  · rw [h] at h1; cases h1
  · omega
  · omega
theorem cacheN_eq {r : Int × List EnG} {c : Ca} (h : unD cacheNN r = c) : r.1 = c.1 ∧ r.2.map unE = c.2 := by
  rw [unEN2] at h
  exact ⟨congrArg Prod.fst h, congrArg Prod.snd h⟩
theorem store_yes {c : Ca} {key : List Int} {r : Rs} {x : List EnG} {k : Int} (h1 : cacheB c = true) (h2 : ¬ 5000 < key.length) (h3 : ¬ c.1 < (wtN r : Int)) (hx : x.map unE = (frontF c (key, r)).2) (hk : k = c.1) :
    ((k, (x.take (trimLen k (x.map unE) x.length)).map unE), true) = storeF c key r := by
  unfold storeF
  rw [if_pos ⟨h1, by omega, by omega⟩, trimE hx, hk]
  rfl
theorem v_S_StoreT :
  ∀ (d : (Int × List (List Int × Int × List Int × List Int)) × List Int × Int × List Int × List Int), Ty.wf cacheT (Prod.fst d) ∧ Ty.wf bytesT (Prod.fst (Prod.snd d)) ∧ Ty.wf resT (Prod.snd (Prod.snd d)) → EnsP (Prod.snd
  (Prod.fst d)) ∧ List.length (Prod.fst (Prod.snd d)) ≤ (1048576 : Nat) ∧ RsP (Prod.snd (Prod.snd d)) → EnsP (Prod.snd (Prod.fst d)) ∧ ((!cacheB (Prod.fst d)) = true → EnsP (Prod.snd (Prod.fst d)) ∧ ∀ (r : Int × List
  ((Nat × List Int) × Int × (Nat × List Int) × Nat × List Int)), unD cacheNN r = Prod.fst d → True → Ty.wf cacheNN r → True → (unD cacheNN r, unD Ty.bool false) = storeF (Prod.fst d) (Prod.fst (Prod.snd d)) (Prod.snd
  (Prod.snd d))) ∧ ((!cacheB (Prod.fst d)) = false → (decide ((5000 : Int) < (↑(List.length (Prod.fst (Prod.snd d))) : Int)) = true → EnsP (Prod.snd (Prod.fst d)) ∧ ∀ (r : Int × List ((Nat × List Int) × Int × (Nat × List
  Int) × Nat × List Int)), unD cacheNN r = Prod.fst d → True → Ty.wf cacheNN r → True → (unD cacheNN r, unD Ty.bool false) = storeF (Prod.fst d) (Prod.fst (Prod.snd d)) (Prod.snd (Prod.snd d))) ∧ (decide ((5000 : Int) <
  (↑(List.length (Prod.fst (Prod.snd d))) : Int)) = false → RsP (Prod.snd (Prod.snd d)) ∧ (Ty.wf i64T (↑(wtN (Prod.snd (Prod.snd d))) : Int) → (decide (Prod.fst (Prod.fst d) < (↑(wtN (Prod.snd (Prod.snd d))) : Int)) =
  true → EnsP (Prod.snd (Prod.fst d)) ∧ ∀ (r : Int × List ((Nat × List Int) × Int × (Nat × List Int) × Nat × List Int)), unD cacheNN r = Prod.fst d → True → Ty.wf cacheNN r → True → (unD cacheNN r, unD Ty.bool false) =
  storeF (Prod.fst d) (Prod.fst (Prod.snd d)) (Prod.snd (Prod.snd d))) ∧ (decide (Prod.fst (Prod.fst d) < (↑(wtN (Prod.snd (Prod.snd d))) : Int)) = false → (EnsP (Prod.snd (Prod.fst d)) ∧ EnP (Prod.snd d)) ∧ ∀ (r : Int ×
  List ((Nat × List Int) × Int × (Nat × List Int) × Nat × List Int)), unD cacheNN r = frontF (Prod.fst d) (Prod.snd d) → True → Ty.wf cacheNN r → True → (EnsP (List.map unE (Prod.snd r)) ∧ (0 : Int) ≤ Prod.fst r) ∧ True
  ∧ (unD cacheNN (Prod.fst r, List.take (trimLen (Prod.fst r) (List.map unE (Prod.snd r)) (List.length (Prod.snd r))) (Prod.snd r)), unD Ty.bool true) = storeF (Prod.fst d) (Prod.fst (Prod.snd d)) (Prod.snd (Prod.snd
  d)))))) := by
  intro d hw hp
  obtain ⟨hp1, hp2, hp3⟩ := hp
  have hu : ∀ b : Bool, unD Ty.bool b = b := fun b => rfl
  simp only [Int.toNat_natCast, exists_const, and_true, true_and, implies_true, decide_eq_true_eq, decide_eq_false_iff_not, Bool.not_eq_true', Bool.not_eq_false', beq_iff_eq, forall_const]
  simp only [hu]
  refine ⟨hp1, fun h => ⟨hp1, fun r h1 _ => by rw [store_no (.inl h)]; exact congrArg (fun x => (x, false)) h1⟩, fun h => ⟨fun h5 => ⟨hp1, fun r h1 _ => by rw [store_no (.inr (.inl (by omega)))]; exact congrArg (fun x => (x, false)) h1⟩, fun h5 => ⟨hp3, fun _ => ⟨fun h6 => ⟨hp1, fun r h1 _ => by rw [store_no (.inr (.inr h6))]; exact congrArg (fun x => (x, false)) h1⟩, fun h6 => ⟨⟨hp1, hp2, hp3⟩, fun r h1 _ => ?_⟩⟩⟩⟩⟩
  obtain ⟨c1, c2, c3, c4, _⟩ := cache_ok h
  obtain ⟨q1, q2⟩ := cacheN_eq h1
  have hF := ens_front (e := d.2) hp1 ⟨hp2, hp3⟩ (by omega)
  refine ⟨⟨by rw [q2]; exact hF, by rw [q1]; exact c1⟩, ?_⟩
  rw [unEN2]
  exact store_yes h (by omega) h6 q2 q1
theorem ndE_cons {L : List EnG} {e : EnG} (h : (L.flatMap idE).Nodup) (he : (idE e).Nodup) (hx : ∀ b ∈ idE e, b ∉ L.flatMap idE) : ((e :: L).flatMap idE).Nodup := by
  rw [List.flatMap_cons, List.nodup_append]
  exact ⟨he, h, fun a ha b hb e => by subst e; exact hx a ha hb⟩
theorem v_I_storeT :
  ∀ (d : (Int × List (List Int × Int × List Int × List Int)) × List Int × Int × List Int × List Int), Ty.wf cacheT (Prod.fst d) ∧ Ty.wf bytesT (Prod.fst (Prod.snd d)) ∧ Ty.wf resT (Prod.snd (Prod.snd d)) → EnsP (Prod.snd
  (Prod.fst d)) ∧ List.length (Prod.fst (Prod.snd d)) ≤ (1048576 : Nat) ∧ RsP (Prod.snd (Prod.snd d)) → EnsP (Prod.snd (Prod.fst d)) ∧ ∀ (r : Int × List ((Nat × List Int) × Int × (Nat × List Int) × Nat × List Int)), unD
  cacheG r = Prod.fst d → List.Nodup (ids cacheG r) → Ty.wf cacheG r → True → EnP (Prod.snd d) ∧ (Ty.wf entT (Prod.snd d) → EnsP (Prod.snd (Prod.fst d)) ∧ ((!cacheB (Prod.fst d)) = true → (unD cacheG r, unD Ty.bool
  false) = storeF (Prod.fst d) (Prod.fst (Prod.snd d)) (Prod.snd (Prod.snd d)) ∧ List.Nodup (ids cacheG r ++ ids Ty.bool false)) ∧ ((!cacheB (Prod.fst d)) = false → (decide ((5000 : Int) < (↑(List.length (Prod.fst
  (Prod.snd d))) : Int)) = true → (unD cacheG r, unD Ty.bool false) = storeF (Prod.fst d) (Prod.fst (Prod.snd d)) (Prod.snd (Prod.snd d)) ∧ List.Nodup (ids cacheG r ++ ids Ty.bool false)) ∧ (decide ((5000 : Int) <
  (↑(List.length (Prod.fst (Prod.snd d))) : Int)) = false → EnP (Prod.snd d) ∧ (Ty.wf i64T (↑(wtN (Prod.snd (Prod.snd d))) : Int) → (decide (Prod.fst (Prod.fst d) < (↑(wtN (Prod.snd (Prod.snd d))) : Int)) = true → (unD
  cacheG r, unD Ty.bool false) = storeF (Prod.fst d) (Prod.fst (Prod.snd d)) (Prod.snd (Prod.snd d)) ∧ List.Nodup (ids cacheG r ++ ids Ty.bool false)) ∧ (decide (Prod.fst (Prod.fst d) < (↑(wtN (Prod.snd (Prod.snd d))) :
  Int)) = false → (True ∧ (Ty.wf i64T (keyGo (Prod.fst (Prod.snd d)) (unL enG (Prod.snd r)) (0 : Int)) → (decide ((0 : Int) ≤ keyGo (Prod.fst (Prod.snd d)) (unL enG (Prod.snd r)) (0 : Int)) = true → ((0 : Int) ≤ keyGo
  (Prod.fst (Prod.snd d)) (unL enG (Prod.snd r)) (0 : Int) ∧ keyGo (Prod.fst (Prod.snd d)) (unL enG (Prod.snd r)) (0 : Int) ≤ IntKind.wrap IntKind.i64 (keyGo (Prod.fst (Prod.snd d)) (unL enG (Prod.snd r)) (0 : Int) + (1
  : Int)) ∧ IntKind.wrap IntKind.i64 (keyGo (Prod.fst (Prod.snd d)) (unL enG (Prod.snd r)) (0 : Int) + (1 : Int)) ≤ (↑(List.length (Prod.snd r)) : Int)) ∧ ∃ (x' : List ((Nat × List Int) × Int × (Nat × List Int) × Nat ×
  List Int)), (List.map unE x' = List.filter (fun (o : En) => decide (Prod.fst o ≠ Prod.fst (Prod.snd d))) (Prod.snd (Prod.fst d)) ∧ List.Nodup (idsE x') ∧ cacheB (Prod.fst d) = true ∧ List.length (Prod.fst (Prod.snd d))
  ≤ (5000 : Nat) ∧ (↑(wtN (Prod.snd (Prod.snd d))) : Int) ≤ Prod.fst (Prod.fst d)) ∧ ((Prod.fst (Prod.fst d) = Prod.fst (Prod.fst d) ∧ Prod.snd (Prod.fst d) = Prod.snd (Prod.fst d)) ∧ Prod.fst (Prod.snd d) = Prod.fst
  (Prod.snd d) ∧ Prod.fst (Prod.snd (Prod.snd d)) = Prod.fst (Prod.snd (Prod.snd d)) ∧ Prod.fst (Prod.snd (Prod.snd (Prod.snd d))) = Prod.fst (Prod.snd (Prod.snd (Prod.snd d))) ∧ Prod.snd (Prod.snd (Prod.snd (Prod.snd
  d))) = Prod.snd (Prod.snd (Prod.snd (Prod.snd d)))) ∧ (Prod.fst (Prod.fst d) = Prod.fst (Prod.fst d) ∧ Prod.snd (Prod.fst d) = Prod.snd (Prod.fst d)) ∧ (Prod.fst (Prod.snd (Prod.snd d)) = Prod.fst (Prod.snd (Prod.snd
  d)) ∧ Prod.fst (Prod.snd (Prod.snd (Prod.snd d))) = Prod.fst (Prod.snd (Prod.snd (Prod.snd d))) ∧ Prod.snd (Prod.snd (Prod.snd (Prod.snd d))) = Prod.snd (Prod.snd (Prod.snd (Prod.snd d)))) ∧ ((0 : Int) = (0 : Int) ∧
  Value.slice none (0 : Nat) (0 : Nat) = Value.slice none (0 : Nat) (0 : Nat)) ∧ List.take (Int.toNat (keyGo (Prod.fst (Prod.snd d)) (unL enG (Prod.snd r)) (0 : Int))) (Prod.snd r) ++ List.drop (Int.toNat (IntKind.wrap
  IntKind.i64 (keyGo (Prod.fst (Prod.snd d)) (unL enG (Prod.snd r)) (0 : Int) + (1 : Int)))) (Prod.snd r) = x' ∧ Prod.fst r = Prod.fst (Prod.fst d) ∧ Prod.fst (Prod.snd d) = Prod.fst (Prod.snd d) ∧ Prod.fst (Prod.snd
  (Prod.snd (Prod.snd d))) = Prod.fst (Prod.snd (Prod.snd (Prod.snd d))) ∧ Prod.snd (Prod.snd (Prod.snd (Prod.snd d))) = Prod.snd (Prod.snd (Prod.snd (Prod.snd d))) ∧ Prod.fst (Prod.snd (Prod.snd d)) = Prod.fst (Prod.snd
  (Prod.snd d))) ∧ (decide ((0 : Int) ≤ keyGo (Prod.fst (Prod.snd d)) (unL enG (Prod.snd r)) (0 : Int)) = false → ∃ (x' : List ((Nat × List Int) × Int × (Nat × List Int) × Nat × List Int)), (List.map unE x' = List.filter
  (fun (o : En) => decide (Prod.fst o ≠ Prod.fst (Prod.snd d))) (Prod.snd (Prod.fst d)) ∧ List.Nodup (idsE x') ∧ cacheB (Prod.fst d) = true ∧ List.length (Prod.fst (Prod.snd d)) ≤ (5000 : Nat) ∧ (↑(wtN (Prod.snd
  (Prod.snd d))) : Int) ≤ Prod.fst (Prod.fst d)) ∧ ((Prod.fst (Prod.fst d) = Prod.fst (Prod.fst d) ∧ Prod.snd (Prod.fst d) = Prod.snd (Prod.fst d)) ∧ Prod.fst (Prod.snd d) = Prod.fst (Prod.snd d) ∧ Prod.fst (Prod.snd
  (Prod.snd d)) = Prod.fst (Prod.snd (Prod.snd d)) ∧ Prod.fst (Prod.snd (Prod.snd (Prod.snd d))) = Prod.fst (Prod.snd (Prod.snd (Prod.snd d))) ∧ Prod.snd (Prod.snd (Prod.snd (Prod.snd d))) = Prod.snd (Prod.snd (Prod.snd
  (Prod.snd d)))) ∧ (Prod.fst (Prod.fst d) = Prod.fst (Prod.fst d) ∧ Prod.snd (Prod.fst d) = Prod.snd (Prod.fst d)) ∧ (Prod.fst (Prod.snd (Prod.snd d)) = Prod.fst (Prod.snd (Prod.snd d)) ∧ Prod.fst (Prod.snd (Prod.snd
  (Prod.snd d))) = Prod.fst (Prod.snd (Prod.snd (Prod.snd d))) ∧ Prod.snd (Prod.snd (Prod.snd (Prod.snd d))) = Prod.snd (Prod.snd (Prod.snd (Prod.snd d)))) ∧ ((0 : Int) = (0 : Int) ∧ Value.slice none (0 : Nat) (0 : Nat)
  = Value.slice none (0 : Nat) (0 : Nat)) ∧ Prod.snd r = x' ∧ Prod.fst r = Prod.fst (Prod.fst d) ∧ Prod.fst (Prod.snd d) = Prod.fst (Prod.snd d) ∧ Prod.fst (Prod.snd (Prod.snd (Prod.snd d))) = Prod.fst (Prod.snd
  (Prod.snd (Prod.snd d))) ∧ Prod.snd (Prod.snd (Prod.snd (Prod.snd d))) = Prod.snd (Prod.snd (Prod.snd (Prod.snd d))) ∧ Prod.fst (Prod.snd (Prod.snd d)) = Prod.fst (Prod.snd (Prod.snd d))))) ∧ ∀ (x : List ((Nat × List
  Int) × Int × (Nat × List Int) × Nat × List Int)), List.map unE x = List.filter (fun (o : En) => decide (Prod.fst o ≠ Prod.fst (Prod.snd d))) (Prod.snd (Prod.fst d)) ∧ List.Nodup (idsE x) ∧ cacheB (Prod.fst d) = true ∧
  List.length (Prod.fst (Prod.snd d)) ≤ (5000 : Nat) ∧ (↑(wtN (Prod.snd (Prod.snd d))) : Int) ≤ Prod.fst (Prod.fst d) → (∀ (b : Nat), ¬b ∈ idsL enG x → ∀ (b_1 : Nat), (¬b_1 ∈ idsL enG x ∧ ¬b_1 ∈ ids (Ty.gs true byT) (b,
  Prod.fst (Prod.snd d))) ∧ b_1 ≠ b → ∀ (b_2 : Nat), (¬b_2 ∈ idsL enG x ∧ ¬b_2 ∈ ids (Ty.gs true byT) (b, Prod.fst (Prod.snd d)) ∧ ¬b_2 ∈ ids (Ty.gs true (Ty.int IntKind.i64)) (b_1, Prod.fst (Prod.snd (Prod.snd (Prod.snd
  d))))) ∧ b_2 ≠ b_1 ∧ b_2 ≠ b → (True ∧ (0 : Int) ≤ (0 : Int) ∧ (0 : Int) ≤ (↑(List.length x) : Int) ∧ List.length [((b, Prod.fst (Prod.snd d)), Prod.fst (Prod.snd (Prod.snd d)), (b_1, Prod.fst (Prod.snd (Prod.snd
  (Prod.snd d)))), b_2, Prod.snd (Prod.snd (Prod.snd (Prod.snd d))))] = (1 : Nat) ∧ (List.length x + (1 : Nat)) * (80 : Nat) ≤ (140737488355328 : Nat)) ∧ ∃ (x' : List ((Nat × List Int) × Int × (Nat × List Int) × Nat ×
  List Int)), (List.map unE x' = Prod.snd (frontF (Prod.fst d) (Prod.snd d)) ∧ List.Nodup (idsE x') ∧ cacheB (Prod.fst d) = true ∧ List.length (Prod.fst (Prod.snd d)) ≤ (5000 : Nat) ∧ (↑(wtN (Prod.snd (Prod.snd d))) :
  Int) ≤ Prod.fst (Prod.fst d)) ∧ ((Prod.fst (Prod.fst d) = Prod.fst (Prod.fst d) ∧ Prod.snd (Prod.fst d) = Prod.snd (Prod.fst d)) ∧ Prod.fst (Prod.snd d) = Prod.fst (Prod.snd d) ∧ Prod.fst (Prod.snd (Prod.snd d)) =
  Prod.fst (Prod.snd (Prod.snd d)) ∧ Prod.fst (Prod.snd (Prod.snd (Prod.snd d))) = Prod.fst (Prod.snd (Prod.snd (Prod.snd d))) ∧ Prod.snd (Prod.snd (Prod.snd (Prod.snd d))) = Prod.snd (Prod.snd (Prod.snd (Prod.snd d))))
  ∧ (Prod.fst (Prod.fst d) = Prod.fst (Prod.fst d) ∧ Prod.snd (Prod.fst d) = Prod.snd (Prod.fst d)) ∧ (Prod.fst (Prod.snd (Prod.snd d)) = Prod.fst (Prod.snd (Prod.snd d)) ∧ Prod.fst (Prod.snd (Prod.snd (Prod.snd d))) =
  Prod.fst (Prod.snd (Prod.snd (Prod.snd d))) ∧ Prod.snd (Prod.snd (Prod.snd (Prod.snd d))) = Prod.snd (Prod.snd (Prod.snd (Prod.snd d)))) ∧ ((0 : Int) = (0 : Int) ∧ Value.slice none (0 : Nat) (0 : Nat) = Value.slice
  none (0 : Nat) (0 : Nat)) ∧ List.take (Int.toNat (0 : Int)) x ++ [((b, Prod.fst (Prod.snd d)), Prod.fst (Prod.snd (Prod.snd d)), (b_1, Prod.fst (Prod.snd (Prod.snd (Prod.snd d)))), b_2, Prod.snd (Prod.snd (Prod.snd
  (Prod.snd d))))] ++ List.drop (Int.toNat (0 : Int)) x = x' ∧ Prod.fst (Prod.fst d) = Prod.fst (Prod.fst d)) ∧ ∀ (x : List ((Nat × List Int) × Int × (Nat × List Int) × Nat × List Int)), List.map unE x = Prod.snd (frontF
  (Prod.fst d) (Prod.snd d)) ∧ List.Nodup (idsE x) ∧ cacheB (Prod.fst d) = true ∧ List.length (Prod.fst (Prod.snd d)) ≤ (5000 : Nat) ∧ (↑(wtN (Prod.snd (Prod.snd d))) : Int) ≤ Prod.fst (Prod.fst d) → (EnsP (List.map unE
  x) ∧ (0 : Int) ≤ Prod.fst (Prod.fst d)) ∧ True ∧ (unD cacheG (Prod.fst (Prod.fst d), List.take (trimLen (Prod.fst (Prod.fst d)) (List.map unE x) (List.length x)) x), unD Ty.bool true) = storeF (Prod.fst d) (Prod.fst
  (Prod.snd d)) (Prod.snd (Prod.snd d)) ∧ List.Nodup (ids cacheG (Prod.fst (Prod.fst d), List.take (trimLen (Prod.fst (Prod.fst d)) (List.map unE x) (List.length x)) x) ++ ids Ty.bool true)))))) := by
  intro d hw hp
  obtain ⟨hp1, hp2, hp3⟩ := hp
  have hu : ∀ b : Bool, unD Ty.bool b = b := fun b => rfl
  have hi : ∀ b : Bool, ids Ty.bool b = [] := fun b => rfl
  simp only [Int.toNat_natCast, exists_const, and_true, true_and, implies_true, decide_eq_true_eq, decide_eq_false_iff_not, Bool.not_eq_true', Bool.not_eq_false', beq_iff_eq, forall_const]
  simp only [hu, hi, List.append_nil, unE1, idE1, id1_gs, show Int.toNat 0 = 0 from rfl, List.take_zero, List.drop_zero, List.nil_append, List.singleton_append]
  refine ⟨hp1, fun r h1 h2 _ => ⟨⟨hp2, hp3⟩, fun _ => ⟨hp1, fun h => ⟨?_, h2⟩, fun h => ⟨fun h5 => ⟨?_, h2⟩, fun h5 => ⟨⟨hp2, hp3⟩, fun _ => ⟨fun h6 => ⟨?_, h2⟩, fun h6 => ⟨fun _ => ⟨fun h7 => ?_, fun h7 => ?_⟩, fun x hx => ⟨fun b hb b1 hb1 b2 hb2 => ?_, fun x hx => ?_⟩⟩⟩⟩⟩⟩⟩⟩
  · rw [store_no (.inl h)]; exact congrArg (fun x => (x, false)) h1
  · rw [store_no (.inr (.inl (by omega)))]; exact congrArg (fun x => (x, false)) h1
  · rw [store_no (.inr (.inr h6))]; exact congrArg (fun x => (x, false)) h1
  · obtain ⟨c1, c2, c3, c4, _⟩ := cache_ok h
    obtain ⟨q1, q2⟩ := cache_eq h1
    rw [q2] at h7 ⊢
    obtain ⟨i, hi', hki, hkey⟩ := key_some (Int.le_refl 0) h7
    rw [Int.zero_add] at hki
    have hl : r.2.length = d.1.2.length := by rw [← q2, List.length_map]
    have e2 : IntKind.i64.wrap (keyGo d.2.1 d.1.2 0 + 1) = ((i + 1 : Nat) : Int) := by rw [wrap_small (by omega)]; omega
    rw [e2, hki, Int.toNat_natCast, Int.toNat_natCast]
    refine ⟨by omega, _, ⟨?_, ?_, h, by omega, by omega⟩, rfl, q1⟩
    · rw [List.map_append, List.map_take, List.map_drop, q2, ← hkey]
      exact (filt_at hi' c4).symm
    · rw [idE3] at h2
      have := idE_front (i := i) (by omega) h2
      rw [List.flatMap_cons, List.nodup_append] at this
      exact this.2.1
  · obtain ⟨q1, q2⟩ := cache_eq h1
    rw [q2] at h7
    rw [idE3] at h2
    exact ⟨_, ⟨by rw [filt_none (by omega)]; exact q2, h2, h, by omega, by omega⟩, rfl, q1⟩
  · obtain ⟨x1, x2, x3, x4, x5⟩ := hx
    obtain ⟨c1, c2, c3, c4, _⟩ := cache_ok h
    have hl : x.length ≤ 30 := by
      rw [← List.length_map (f := unE), x1]
      exact Nat.le_trans (List.length_filter_le _ _) c3
    refine ⟨⟨by omega, by omega, rfl, by omega⟩, _, ⟨?_, ?_, h, x4, x5⟩, rfl⟩
    · rw [List.map_cons, x1]; rfl
    · refine ndE_cons x2 (idE_new hb1.2 hb2.2.1 hb2.2.2 _ _ _ _) (fun i hi => ?_)
      rcases idE_in hi with rfl | rfl | rfl
      · exact hb
      · exact hb1.1.1
      · exact hb2.1.1
  · obtain ⟨x1, x2, x3, x4, x5⟩ := hx
    obtain ⟨c1, c2, c3, c4, _⟩ := cache_ok h
    refine ⟨⟨by rw [x1]; exact ens_front hp1 ⟨hp2, hp3⟩ (by omega), c1⟩, ?_, ?_⟩
    · rw [unE2]
      exact store_yes h (by omega) h6 x1 rfl
    · rw [idE3]
      exact idE_take x2 _
theorem v_I_StoreT :
  ∀ (d : (Int × List (List Int × Int × List Int × List Int)) × List Int × Int × List Int × List Int), Ty.wf cacheT (Prod.fst d) ∧ Ty.wf bytesT (Prod.fst (Prod.snd d)) ∧ Ty.wf resT (Prod.snd (Prod.snd d)) → EnsP (Prod.snd
  (Prod.fst d)) ∧ List.length (Prod.fst (Prod.snd d)) ≤ (1048576 : Nat) ∧ RsP (Prod.snd (Prod.snd d)) → (EnsP (Prod.snd (Prod.fst d)) ∧ List.length (Prod.fst (Prod.snd d)) ≤ (1048576 : Nat) ∧ RsP (Prod.snd (Prod.snd d)))
  ∧ ∀ (r : (Int × List ((Nat × List Int) × Int × (Nat × List Int) × Nat × List Int)) × Bool), (unD cacheG (Prod.fst r), unD Ty.bool (Prod.snd r)) = storeF (Prod.fst d) (Prod.fst (Prod.snd d)) (Prod.snd (Prod.snd d)) →
  List.Nodup (ids cacheG (Prod.fst r) ++ ids Ty.bool (Prod.snd r)) → Ty.wf cacheG (Prod.fst r) ∧ Ty.wf Ty.bool (Prod.snd r) → True → (unD cacheG (Prod.fst r), unD Ty.bool (Prod.snd r)) = storeF (Prod.fst d) (Prod.fst
  (Prod.snd d)) (Prod.snd (Prod.snd d)) ∧ List.Nodup (ids cacheG (Prod.fst r) ++ ids Ty.bool (Prod.snd r)) := by
  intro d hw hp
  exact ⟨hp, fun r h1 h2 _ _ => ⟨h1, h2⟩⟩
theorem v_L_markResult :
  ∀ (d : Int × List Int × List Int) (k : Int), Ty.wf resT d → IntKind.min IntKind.i64 ≤ k ∧ k ≤ IntKind.max IntKind.i64 → True → (List.length (Prod.fst (Prod.snd (markR d k))) = List.length (Prod.fst (Prod.snd d)) ∧
  List.length (Prod.snd (Prod.snd (markR d k))) = List.length (Prod.snd (Prod.snd d))) ∧ True ∧ True ∧ end1 (Prod.snd (Prod.snd d)) (end1 (Prod.fst (Prod.snd d)) k) = endR d k ∧ mark1 (Prod.fst (Prod.snd d)) k = Prod.fst
  (Prod.snd (markR d k)) ∧ mark1 (Prod.snd (Prod.snd d)) (end1 (Prod.fst (Prod.snd d)) k) = Prod.snd (Prod.snd (markR d k)) := by
  intro d k hw hk _
  exact ⟨⟨mark1_length' _ _, mark1_length' _ _⟩, trivial, trivial, rfl, rfl, rfl⟩
end Go.SF
