/- Draws keep their contracts. No condition. -/
import Derived.Test.YtdfdoigiehmnoaaSxC
import Derived.Test.YtdfdoigiehmnoaaSxPDec
namespace Go.SF
open Go.SX Go
set_option linter.unusedVariables false
set_option linter.unusedSimpArgs false
set_option maxRecDepth 10000
theorem iand_255 (a : Int) : 0 ≤ iand .i64 a 255 ∧ iand .i64 a 255 ≤ 255 := by
  unfold iand
  have h : (BitVec.ofInt IntKind.i64.bits a &&& BitVec.ofInt IntKind.i64.bits 255).toNat ≤ 255 := by
    rw [BitVec.toNat_and]
    exact Nat.le_trans Nat.and_le_right (by decide)
  rw [wrap_small (by omega)]
  omega
theorem drB_range (c : Cur) : 0 ≤ drB c ∧ drB c ≤ 255 := by
  unfold drB
  split
  · exact iand_255 _
  · exact iand_255 _
theorem drBc_ok {c : Cur} (h : CurOk c) : CurOk (drBc c) := by
  unfold drBc
  obtain ⟨h1, h2⟩ := h
  split
  · rename_i hlt
    refine ⟨?_, h2⟩
    show 0 ≤ w64 (c.2.1 + 1)
    unfold w64
    rw [wrap_small (by omega)]
    omega
  · exact ⟨h1, h2⟩
theorem drNc_ok {c : Cur} (n : Int) (h : CurOk c) : CurOk (drNc c n) := by
  unfold drNc
  split
  · exact h
  · split
    · exact drBc_ok h
    · exact drBc_ok (drBc_ok (drBc_ok h))
theorem drN_range (c : Cur) {n : Int} (hn : 0 < n) : 0 ≤ drN c n ∧ drN c n < n := by
  unfold drN
  rw [if_neg (by omega)]
  split
  · have := drB_range c
    rw [Int.tmod_eq_emod_of_nonneg this.1]
    exact ⟨Int.emod_nonneg _ (by omega), Int.emod_lt_of_pos _ hn⟩
  · have h1 := drB_range c
    have h2 := drB_range (drBc c)
    have h3 := drB_range (drBc (drBc c))
    unfold w64
    rw [wrap_small (n := drB c * 65536) (by omega), wrap_small (n := drB (drBc c) * 256) (by omega), wrap_small (n := drB c * 65536 + drB (drBc c) * 256) (by omega), wrap_small (by omega)]
    rw [Int.tmod_eq_emod_of_nonneg (by omega)]
    exact ⟨Int.emod_nonneg _ (by omega), Int.emod_lt_of_pos _ hn⟩
theorem drN_le (c : Cur) {n m : Int} (hn : n ≤ m) (hm : 0 < m) : 0 ≤ drN c n ∧ drN c n < m := by
  by_cases h : 0 < n
  · have := drN_range c h; omega
  · unfold drN; rw [if_pos (by omega)]; omega
theorem drKc_ok {c : Cur} (l : List Int) (h : CurOk c) : CurOk (drKc c l) := drNc_ok _ h
theorem drFc_ok {c : Cur} (h : CurOk c) : CurOk (drFc c) := by
  unfold drFc
  split
  · exact drKc_ok _ (drNc_ok _ h)
  · exact drNc_ok _ (drNc_ok _ h)
theorem drEc_ok {c : Cur} (f : Int) (h : CurOk c) : CurOk (drEc c f) := by
  unfold drEc
  split
  · exact drNc_ok _ h
  · split
    · exact drNc_ok _ (drNc_ok _ h)
    · split
      · exact drNc_ok _ (drNc_ok _ h)
      · split
        · exact drNc_ok _ (drNc_ok _ (drNc_ok _ h))
        · exact drNc_ok _ (drNc_ok _ h)
theorem drL_ok {c : Cur} (f : Int) (h : CurOk c) : ∀ n, CurOk (drL c f n).2 ∧ (drL c f n).1.length = n
  | 0 => ⟨h, rfl⟩
  | n + 1 => ⟨drEc_ok f (drL_ok f h n).1, by simp [drL, (drL_ok f h n).2]⟩
theorem drPs_ok {s : List Int × Cur} (f : Int) (h : CurOk s.2) : CurOk (drPs s f).2 ∧ s.1.length ≤ (drPs s f).1.length ∧ (drPs s f).1.length ≤ s.1.length + 1 ∧ 0 < (drPs s f).1.length := by
  unfold drPs
  split
  · exact ⟨drEc_ok f h, by simp, by simp, by simp⟩
  · rename_i hm
    have hm : drE s.2 f ∈ s.1 := by simpa using hm
    have := List.length_pos_of_mem hm
    split
    · exact ⟨drNc_ok _ (drEc_ok f h), by simp, by simp, by simp⟩
    · exact ⟨drNc_ok _ (drEc_ok f h), Nat.le_refl _, Nat.le_succ _, this⟩
theorem drP_ok {c : Cur} (f : Int) (h : CurOk c) : ∀ n, CurOk (drP c f n).2 ∧ (drP c f n).1.length ≤ n ∧ (0 < n → 0 < (drP c f n).1.length)
  | 0 => ⟨h, Nat.le_refl _, fun h => absurd h (by omega)⟩
  | n + 1 => by
    obtain ⟨h1, h2, h3⟩ := drP_ok f h n
    obtain ⟨g1, g2, g3, g4⟩ := drPs_ok f h1
    exact ⟨g1, by show (drPs _ f).1.length ≤ _; omega, fun _ => g4⟩
theorem drPo_ok {c : Cur} (f n : Int) (h : CurOk c) : CurOk (drPo c f n).2 ∧ (drPo c f n).1.length ≤ n.toNat ∧ (0 < n → 0 < (drPo c f n).1.length) := by
  obtain ⟨h1, h2, h3⟩ := drP_ok f h n.toNat
  unfold drPo drQ
  split
  · exact ⟨drKc_ok _ (drNc_ok _ (drNc_ok _ h1)), by simpa using h2, fun hn => by simpa using h3 (by omega)⟩
  · exact ⟨drNc_ok _ h1, h2, fun hn => h3 (by omega)⟩
theorem sizeF_le (b : List Int) (m : Int) : sizeF b m ≤ m := by
  unfold sizeF
  split <;> omega
theorem drNew_ok {b : List Int} (h : b.length ≤ 9223372036854775807) : CurOk (drNew b) := ⟨Int.le_refl _, h⟩
theorem v_S_l01Byte :
  ∀ (d : List Int × Int × Int) (x : Unit), Ty.wf curT d → True → CurOk d → (0 : Int) ≤ (33 : Int) ∧ (0 : Int) ≤ (45 : Int) ∧ (decide (Prod.fst (Prod.snd d) < (↑(List.length (Prod.fst d)) : Int)) = true → ((0 : Int) ≤
  Prod.fst (Prod.snd d) ∧ Prod.fst (Prod.snd d) < (↑(List.length (Prod.fst d)) : Int)) ∧ iand IntKind.i64 (IntKind.wrap IntKind.i64 (iand IntKind.i64 (ixor IntKind.i64 (ishr IntKind.i64 (IntKind.wrap IntKind.i64
  (IntKind.wrap IntKind.i64 (Prod.snd (Prod.snd d) * (6364136223846793005 : Int)) + (1442695040888963407 : Int))) (33 : Int)) (ishr IntKind.i64 (IntKind.wrap IntKind.i64 (IntKind.wrap IntKind.i64 (Prod.snd (Prod.snd d) *
  (6364136223846793005 : Int)) + (1442695040888963407 : Int))) (45 : Int))) (255 : Int) + IntKind.wrap IntKind.i64 (List.getD (Prod.fst d) (Int.toNat (Prod.fst (Prod.snd d))) (0 : Int)))) (255 : Int) = drB d ∧ (Prod.fst
  d, IntKind.wrap IntKind.i64 (Prod.fst (Prod.snd d) + (1 : Int)), IntKind.wrap IntKind.i64 (IntKind.wrap IntKind.i64 (Prod.snd (Prod.snd d) * (6364136223846793005 : Int)) + (1442695040888963407 : Int))) = drBc d) ∧
  (decide (Prod.fst (Prod.snd d) < (↑(List.length (Prod.fst d)) : Int)) = false → iand IntKind.i64 (ixor IntKind.i64 (ishr IntKind.i64 (IntKind.wrap IntKind.i64 (IntKind.wrap IntKind.i64 (Prod.snd (Prod.snd d) *
  (6364136223846793005 : Int)) + (1442695040888963407 : Int))) (33 : Int)) (ishr IntKind.i64 (IntKind.wrap IntKind.i64 (IntKind.wrap IntKind.i64 (Prod.snd (Prod.snd d) * (6364136223846793005 : Int)) +
  (1442695040888963407 : Int))) (45 : Int))) (255 : Int) = drB d ∧ (Prod.fst d, Prod.fst (Prod.snd d), IntKind.wrap IntKind.i64 (IntKind.wrap IntKind.i64 (Prod.snd (Prod.snd d) * (6364136223846793005 : Int)) +
  (1442695040888963407 : Int))) = drBc d) := by
  intro d x hd _ hc
  refine ⟨by omega, by omega, fun h => ?_, fun h => ?_⟩
  · have h' := of_decide_eq_true h
    refine ⟨⟨hc.1, h'⟩, ?_, ?_⟩
    · unfold drB; rw [if_pos h']; rfl
    · unfold drBc; rw [if_pos h']; rfl
  · have h' := of_decide_eq_false h
    refine ⟨?_, ?_⟩
    · unfold drB; rw [if_neg h']; rfl
    · unfold drBc; rw [if_neg h']; rfl
theorem v_S_l01Below :
  ∀ (d : List Int × Int × Int) (x : Int), Ty.wf curT d → Ty.wf i64T x → CurOk d → (decide (x ≤ (0 : Int)) = true → (0 : Int) = drN d x ∧ d = drNc d x) ∧ (decide (x ≤ (0 : Int)) = false → (decide (x ≤ (256 : Int)) = true
  → CurOk d ∧ (Ty.wf i64T (drB d) → x ≠ (0 : Int) ∧ Int.tmod (drB d) x = drN d x ∧ drBc d = drNc d x)) ∧ (decide (x ≤ (256 : Int)) = false → CurOk d ∧ (Ty.wf i64T (drB d) → CurOk (drBc d) ∧ (Ty.wf i64T (drB (drBc d)) →
  CurOk (drBc (drBc d)) ∧ (Ty.wf i64T (drB (drBc (drBc d))) → x ≠ (0 : Int) ∧ Int.tmod (IntKind.wrap IntKind.i64 (IntKind.wrap IntKind.i64 (IntKind.wrap IntKind.i64 (drB d * (65536 : Int)) + IntKind.wrap IntKind.i64 (drB
  (drBc d) * (256 : Int))) + drB (drBc (drBc d)))) x = drN d x ∧ drBc (drBc (drBc d)) = drNc d x))))) := by
  intro d x hd hx hc
  refine ⟨fun h => ?_, fun h => ?_⟩
  · have h' := of_decide_eq_true h
    exact ⟨by unfold drN; rw [if_pos h'], by unfold drNc; rw [if_pos h']⟩
  · have h' := of_decide_eq_false h
    refine ⟨fun h2 => ?_, fun h2 => ?_⟩
    · have h2' := of_decide_eq_true h2
      exact ⟨hc, fun _ => ⟨by omega, by unfold drN; rw [if_neg h', if_pos h2'], by unfold drNc; rw [if_neg h', if_pos h2']⟩⟩
    · have h2' := of_decide_eq_false h2
      exact ⟨hc, fun _ => ⟨drBc_ok hc, fun _ => ⟨drBc_ok (drBc_ok hc), fun _ => ⟨by omega, by unfold drN; rw [if_neg h', if_neg h2']; rfl, by unfold drNc; rw [if_neg h', if_neg h2']⟩⟩⟩⟩
theorem v_S_l01Once :
  ∀ (d : List Int × Int × Int) (x : Int), Ty.wf curT d → Ty.wf i64T x → CurOk d → CurOk d ∧ (Ty.wf i64T (drN d x) → decide (drN d x = (0 : Int)) = drO d x ∧ drNc d x = drNc d x) := by
  intro d x hd hx hc
  exact ⟨hc, fun _ => ⟨rfl, rfl⟩⟩
theorem v_S_l01PickInt :
  ∀ (d : List Int × Int × Int) (x : List Int), Ty.wf curT d → Ty.wf listT x → CurOk d ∧ (0 : Nat) < List.length x → CurOk d ∧ (Ty.wf i64T (drN d (↑(List.length x) : Int)) → ((0 : Int) ≤ drN d (↑(List.length x) : Int) ∧
  drN d (↑(List.length x) : Int) < (↑(List.length x) : Int)) ∧ List.getD x (Int.toNat (drN d (↑(List.length x) : Int))) (0 : Int) = drK d x ∧ drNc d (↑(List.length x) : Int) = drKc d x) := by
  intro d x hd hx hc
  have := drN_range d (n := (x.length : Int)) (by have := hc.2; omega)
  exact ⟨hc.1, fun _ => ⟨this, rfl, rfl⟩⟩
theorem v_S_l01DrawField :
  ∀ (d : List Int × Int × Int) (x : Unit), Ty.wf curT d → True → CurOk d → CurOk d ∧ (drO d (20 : Int) = true → (CurOk (drNc d (20 : Int)) ∧ (0 : Nat) < List.length [(-1 : Int), (9 : Int), (100 : Int)]) ∧ (Ty.wf i64T
  (drK (drNc d (20 : Int)) [(-1 : Int), (9 : Int), (100 : Int)]) → drK (drNc d (20 : Int)) [(-1 : Int), (9 : Int), (100 : Int)] = drF d ∧ drKc (drNc d (20 : Int)) [(-1 : Int), (9 : Int), (100 : Int)] = drFc d)) ∧ (drO d
  (20 : Int) = false → CurOk (drNc d (20 : Int)) ∧ (Ty.wf i64T (drN (drNc d (20 : Int)) (9 : Int)) → drN (drNc d (20 : Int)) (9 : Int) = drF d ∧ drNc (drNc d (20 : Int)) (9 : Int) = drFc d)) := by
  intro d x hd _ hc
  refine ⟨hc, fun h => ⟨⟨drNc_ok _ hc, by decide⟩, fun _ => ?_⟩, fun h => ⟨drNc_ok _ hc, fun _ => ?_⟩⟩
  · unfold drF drFc
    rw [if_pos h, if_pos h]
    exact ⟨rfl, rfl⟩
  · unfold drF drFc
    rw [if_neg (by rw [h]; decide), if_neg (by rw [h]; decide)]
    exact ⟨rfl, rfl⟩
theorem v_S_l01DrawElement :
  ∀ (d : List Int × Int × Int) (x : Int), Ty.wf curT d → Ty.wf i64T x → CurOk d → True ∧ (Ty.wf i64T (modF x) → (decide (modF x = (0 : Int)) = true → CurOk d ∧ (Ty.wf i64T (drN d (50 : Int)) → drN d (50 : Int) = drE d x
  ∧ drNc d (50 : Int) = drEc d x)) ∧ (decide (modF x = (0 : Int)) = false → CurOk d ∧ (Ty.wf i64T (drN d (6 : Int)) → (decide (drN d (6 : Int) = (0 : Int)) = true → CurOk (drNc d (6 : Int)) ∧ (Ty.wf i64T (drN (drNc d (6
  : Int)) (3 : Int)) → modF x ≠ (0 : Int) ∧ Int.tmod (drN (drNc d (6 : Int)) (3 : Int)) (modF x) = drE d x ∧ drNc (drNc d (6 : Int)) (3 : Int) = drEc d x)) ∧ (decide (drN d (6 : Int) = (0 : Int)) = false → (decide (drN d
  (6 : Int) = (1 : Int)) = true → CurOk (drNc d (6 : Int)) ∧ (Ty.wf i64T (drN (drNc d (6 : Int)) (3 : Int)) → IntKind.wrap IntKind.i64 (IntKind.wrap IntKind.i64 (modF x - (1 : Int)) - drN (drNc d (6 : Int)) (3 : Int)) =
  drE d x ∧ drNc (drNc d (6 : Int)) (3 : Int) = drEc d x)) ∧ (decide (drN d (6 : Int) = (1 : Int)) = false → (decide (drN d (6 : Int) = (2 : Int)) = true → CurOk (drNc d (6 : Int)) ∧ (Ty.wf i64T (drN (drNc d (6 : Int))
  (16777216 : Int)) → CurOk (drNc (drNc d (6 : Int)) (16777216 : Int)) ∧ (Ty.wf i64T (drN (drNc (drNc d (6 : Int)) (16777216 : Int)) (256 : Int)) → modF x ≠ (0 : Int) ∧ Int.tmod (IntKind.wrap IntKind.i64 (IntKind.wrap
  IntKind.i64 (drN (drNc d (6 : Int)) (16777216 : Int) * (61 : Int)) + drN (drNc (drNc d (6 : Int)) (16777216 : Int)) (256 : Int))) (modF x) = drE d x ∧ drNc (drNc (drNc d (6 : Int)) (16777216 : Int)) (256 : Int) = drEc
  d x))) ∧ (decide (drN d (6 : Int) = (2 : Int)) = false → CurOk (drNc d (6 : Int)) ∧ (Ty.wf i64T (drN (drNc d (6 : Int)) (30 : Int)) → modF x ≠ (0 : Int) ∧ Int.tmod (drN (drNc d (6 : Int)) (30 : Int)) (modF x) = drE d x
  ∧ drNc (drNc d (6 : Int)) (30 : Int) = drEc d x))))))) := by
  intro d x hd hx hc
  have h6 := drNc_ok 6 hc
  refine ⟨trivial, fun _ => ⟨fun h => ⟨hc, fun _ => ?_⟩, fun h => ⟨hc, fun _ => ⟨fun h1 => ⟨h6, fun _ => ?_⟩, fun h1 => ⟨fun h2 => ⟨h6, fun _ => ?_⟩, fun h2 => ⟨fun h3 => ⟨h6, fun _ => ⟨drNc_ok _ h6, fun _ => ?_⟩⟩, fun h3 => ⟨h6, fun _ => ?_⟩⟩⟩⟩⟩⟩⟩
  · replace h := of_decide_eq_true h
    unfold drE drEc
    rw [if_pos h, if_pos h]; exact ⟨rfl, rfl⟩
  · replace h := of_decide_eq_false h
    replace h1 := of_decide_eq_true h1
    unfold drE drEc
    rw [if_neg h, if_neg h, if_pos h1, if_pos h1]; exact ⟨h, rfl, rfl⟩
  · replace h := of_decide_eq_false h
    replace h1 := of_decide_eq_false h1
    replace h2 := of_decide_eq_true h2
    unfold drE drEc
    rw [if_neg h, if_neg h, if_neg h1, if_neg h1, if_pos h2, if_pos h2]; exact ⟨rfl, rfl⟩
  · replace h := of_decide_eq_false h
    replace h1 := of_decide_eq_false h1
    replace h2 := of_decide_eq_false h2
    replace h3 := of_decide_eq_true h3
    unfold drE drEc
    rw [if_neg h, if_neg h, if_neg h1, if_neg h1, if_neg h2, if_neg h2, if_pos h3, if_pos h3]; exact ⟨h, rfl, rfl⟩
  · replace h := of_decide_eq_false h
    replace h1 := of_decide_eq_false h1
    replace h2 := of_decide_eq_false h2
    replace h3 := of_decide_eq_false h3
    unfold drE drEc
    rw [if_neg h, if_neg h, if_neg h1, if_neg h1, if_neg h2, if_neg h2, if_neg h3, if_neg h3]; exact ⟨h, rfl, rfl⟩
theorem v_S_l01DrawList :
  ∀ (d : List Int × Int × Int) (x : Int × Int), Ty.wf curT d → Ty.wf i64T (Prod.fst x) ∧ Ty.wf i64T (Prod.snd x) → CurOk d ∧ SmallN (Prod.snd x) → (0 : Nat) ≤ Int.toNat (Prod.snd x) ∧ ((Prod.fst x = Prod.fst x ∧ Prod.snd
  x = Prod.snd x ∧ Value.slice none (0 : Nat) (0 : Nat) = Value.slice none (0 : Nat) (0 : Nat) ∧ (0 : Int) = (↑(0 : Nat) : Int)) ∧ (Prod.fst d = Prod.fst (Prod.snd (drL d (Prod.fst x) (0 : Nat))) ∧ Prod.fst (Prod.snd d)
  = Prod.fst (Prod.snd (Prod.snd (drL d (Prod.fst x) (0 : Nat)))) ∧ Prod.snd (Prod.snd d) = Prod.snd (Prod.snd (Prod.snd (drL d (Prod.fst x) (0 : Nat))))) ∧ [] = Prod.fst (drL d (Prod.fst x) (0 : Nat))) ∧ ∀ (x_1 : Nat),
  x_1 ≤ Int.toNat (Prod.snd x) → (decide ((↑x_1 : Int) < Prod.snd x) = true → CurOk (Prod.snd (drL d (Prod.fst x) x_1)) ∧ (Ty.wf i64T (drE (Prod.snd (drL d (Prod.fst x) x_1)) (Prod.fst x)) → (List.length (Prod.fst (drL d
  (Prod.fst x) x_1)) + List.length [drE (Prod.snd (drL d (Prod.fst x) x_1)) (Prod.fst x)]) * (8 : Nat) ≤ (140737488355328 : Nat) ∧ ∃ (x' : Nat), x' ≤ Int.toNat (Prod.snd x) ∧ Int.toNat (Prod.snd x) - x' < Int.toNat
  (Prod.snd x) - x_1 ∧ (Prod.fst x = Prod.fst x ∧ Prod.snd x = Prod.snd x ∧ Value.slice none (0 : Nat) (0 : Nat) = Value.slice none (0 : Nat) (0 : Nat) ∧ IntKind.wrap IntKind.i64 ((↑x_1 : Int) + (1 : Int)) = (↑x' : Int))
  ∧ (Prod.fst (drEc (Prod.snd (drL d (Prod.fst x) x_1)) (Prod.fst x)) = Prod.fst (Prod.snd (drL d (Prod.fst x) x')) ∧ Prod.fst (Prod.snd (drEc (Prod.snd (drL d (Prod.fst x) x_1)) (Prod.fst x))) = Prod.fst (Prod.snd
  (Prod.snd (drL d (Prod.fst x) x'))) ∧ Prod.snd (Prod.snd (drEc (Prod.snd (drL d (Prod.fst x) x_1)) (Prod.fst x))) = Prod.snd (Prod.snd (Prod.snd (drL d (Prod.fst x) x')))) ∧ Prod.fst (drL d (Prod.fst x) x_1) ++ [drE
  (Prod.snd (drL d (Prod.fst x) x_1)) (Prod.fst x)] = Prod.fst (drL d (Prod.fst x) x'))) ∧ (decide ((↑x_1 : Int) < Prod.snd x) = false → Prod.fst (drL d (Prod.fst x) x_1) = Prod.fst (drL d (Prod.fst x) (Int.toNat
  (Prod.snd x))) ∧ Prod.snd (drL d (Prod.fst x) x_1) = Prod.snd (drL d (Prod.fst x) (Int.toNat (Prod.snd x)))) := by
  intro d x hd hx hc
  have hs : x.2 ≤ 4096 := hc.2
  refine ⟨Nat.zero_le _, ⟨⟨rfl, rfl, rfl, rfl⟩, ⟨rfl, rfl, rfl⟩, rfl⟩, fun k hk => ⟨fun h => ?_, fun h => ?_⟩⟩
  · have h' := of_decide_eq_true h
    obtain ⟨h1, h2⟩ := drL_ok x.1 hc.1 k
    refine ⟨h1, fun _ => ⟨?_, k + 1, by omega, by omega, ⟨rfl, rfl, rfl, wrap_succ (by omega)⟩, ⟨rfl, rfl, rfl⟩, rfl⟩⟩
    rw [h2]; simp only [List.length_cons, List.length_nil]; omega
  · have h' := of_decide_eq_false h
    have : k = x.2.toNat := by omega
    rw [this]; exact ⟨rfl, rfl⟩
theorem v_S_l01New :
  ∀ (x : List Int), Ty.wf byteL x → True → ((0 : Nat) ≤ List.length x ∧ (0 : Nat) ≤ (4000 : Nat)) ∧ (x = x ∧ Value.pointer none = Value.pointer none ∧ IntKind.wrap IntKind.i64 ((710710 : Int) + (↑(List.length x) : Int))
  = drSeed x (0 : Nat) ∧ (0 : Int) = (↑(0 : Nat) : Int)) ∧ ∀ (x_1 : Nat), x_1 ≤ List.length x ∧ x_1 ≤ (4000 : Nat) → (decide ((↑x_1 : Int) < (↑(List.length x) : Int)) = true → (decide ((↑x_1 : Int) < (4000 : Int)) = true
  → ((0 : Int) ≤ (↑x_1 : Int) ∧ (↑x_1 : Int) < (↑(List.length x) : Int)) ∧ ∃ (x' : Nat), (x' ≤ List.length x ∧ x' ≤ (4000 : Nat)) ∧ List.length x - x' < List.length x - x_1 ∧ x = x ∧ Value.pointer none = Value.pointer
  none ∧ iand IntKind.i64 (IntKind.wrap IntKind.i64 (IntKind.wrap IntKind.i64 (IntKind.wrap IntKind.i64 (drSeed x x_1 * (149 : Int)) + IntKind.wrap IntKind.i64 (List.getD x (Int.toNat (↑x_1 : Int)) (0 : Int))) + (11 :
  Int))) (1073741823 : Int) = drSeed x x' ∧ IntKind.wrap IntKind.i64 ((↑x_1 : Int) + (1 : Int)) = (↑x' : Int)) ∧ (decide ((↑x_1 : Int) < (4000 : Int)) = false → () = () ∧ (x, (0 : Int), drSeed x x_1) = drNew x)) ∧
  (decide ((↑x_1 : Int) < (↑(List.length x) : Int)) = false → () = () ∧ (x, (0 : Int), drSeed x x_1) = drNew x) := by
  intro x hx _
  replace hx : x.length ≤ 9223372036854775807 := Nat.le_trans hx.1 (by decide)
  refine ⟨⟨Nat.zero_le _, Nat.zero_le _⟩, ⟨rfl, rfl, rfl, rfl⟩, fun k hk => ⟨fun h => ⟨fun h2 => ?_, fun h2 => ⟨rfl, ?_⟩⟩, fun h => ⟨rfl, ?_⟩⟩⟩
  · have h' := of_decide_eq_true h
    have h2' := of_decide_eq_true h2
    exact ⟨⟨by omega, h'⟩, k + 1, ⟨by omega, by omega⟩, by omega, rfl, rfl, rfl, wrap_succ (by omega)⟩
  · have h' := of_decide_eq_true h
    have h2' := of_decide_eq_false h2
    unfold drNew
    rw [show min x.length 4000 = k by omega]
  · have h' := of_decide_eq_false h
    unfold drNew
    rw [show min x.length 4000 = k by omega]
theorem v_S_l07PickInts :
  ∀ (d : List Int × Int × Int) (x : List Int × List Int), Ty.wf curT d → Ty.wf listT (Prod.fst x) ∧ Ty.wf listT (Prod.snd x) → CurOk d ∧ SmallL (Prod.fst x) ∧ SmallL (Prod.snd x) → CurOk d ∧ (Ty.wf i64T (drN d (3 : Int))
  → (decide (drN d (3 : Int) = (0 : Int)) = true → [] = pickL d (Prod.fst x) (Prod.snd x) ∧ drNc d (3 : Int) = drNc d (3 : Int)) ∧ (decide (drN d (3 : Int) = (0 : Int)) = false → (decide (drN d (3 : Int) = (1 : Int)) =
  true → List.length (Prod.snd x) ≤ (1048576 : Nat) ∧ (Ty.wf listT (Prod.snd x) → Prod.snd x = pickL d (Prod.fst x) (Prod.snd x) ∧ drNc d (3 : Int) = drNc d (3 : Int))) ∧ (decide (drN d (3 : Int) = (1 : Int)) = false →
  List.length (Prod.fst x) ≤ (1048576 : Nat) ∧ (Ty.wf listT (Prod.fst x) → (List.length (Prod.fst x) + List.length [(-1 : Int)]) * (8 : Nat) ≤ (140737488355328 : Nat) ∧ Prod.fst x ++ [(-1 : Int)] = pickL d (Prod.fst x)
  (Prod.snd x) ∧ drNc d (3 : Int) = drNc d (3 : Int))))) := by
  intro d x hd hx hc
  obtain ⟨hc, ha, hb⟩ := hc
  have ha' : x.1.length ≤ 4096 := ha
  have hb' : x.2.length ≤ 4096 := hb
  refine ⟨hc, fun _ => ⟨fun h => ⟨?_, rfl⟩, fun h => ⟨fun h1 => ⟨by omega, fun _ => ⟨?_, rfl⟩⟩, fun h1 => ⟨by omega, fun _ => ⟨?_, ?_, rfl⟩⟩⟩⟩⟩
  · unfold pickL; rw [if_pos (of_decide_eq_true h)]
  · unfold pickL; rw [if_neg (of_decide_eq_false h), if_pos (of_decide_eq_true h1)]
  · simp only [List.length_cons, List.length_nil]; omega
  · unfold pickL; rw [if_neg (of_decide_eq_false h), if_neg (of_decide_eq_false h1)]
theorem drP_succ (c : Cur) (f : Int) (n : Nat) : drP c f (n + 1) = drPs (drP c f n) f := rfl
theorem has_not {l : List Int} {x : Int} (h : (!hasF l x) = true) : x ∉ l := by
  unfold hasF at h; simpa using h
theorem has_in {l : List Int} {x : Int} (h : (!hasF l x) = false) : x ∈ l := by
  unfold hasF at h; simpa using h
theorem v_S_l07DrawPoints :
  ∀ (d : List Int × Int × Int) (x : Int × Int), Ty.wf curT d → Ty.wf i64T (Prod.fst x) ∧ Ty.wf i64T (Prod.snd x) → CurOk d ∧ SmallN (Prod.snd x) → (0 : Nat) ≤ Int.toNat (Prod.snd x) ∧ ((Prod.fst x = Prod.fst x ∧ Prod.snd
  x = Prod.snd x ∧ Value.slice none (0 : Nat) (0 : Nat) = Value.slice none (0 : Nat) (0 : Nat) ∧ (0 : Int) = (↑(0 : Nat) : Int)) ∧ (Prod.fst d = Prod.fst (Prod.snd (drP d (Prod.fst x) (0 : Nat))) ∧ Prod.fst (Prod.snd d)
  = Prod.fst (Prod.snd (Prod.snd (drP d (Prod.fst x) (0 : Nat)))) ∧ Prod.snd (Prod.snd d) = Prod.snd (Prod.snd (Prod.snd (drP d (Prod.fst x) (0 : Nat))))) ∧ [] = Prod.fst (drP d (Prod.fst x) (0 : Nat))) ∧ ∀ (x_1 : Nat),
  x_1 ≤ Int.toNat (Prod.snd x) → (decide ((↑x_1 : Int) < Prod.snd x) = true → CurOk (Prod.snd (drP d (Prod.fst x) x_1)) ∧ (Ty.wf i64T (drE (Prod.snd (drP d (Prod.fst x) x_1)) (Prod.fst x)) → True ∧ ((!hasF (Prod.fst (drP
  d (Prod.fst x) x_1)) (drE (Prod.snd (drP d (Prod.fst x) x_1)) (Prod.fst x))) = true → (List.length (Prod.fst (drP d (Prod.fst x) x_1)) + List.length [drE (Prod.snd (drP d (Prod.fst x) x_1)) (Prod.fst x)]) * (8 : Nat) ≤
  (140737488355328 : Nat) ∧ ∃ (x' : Nat), x' ≤ Int.toNat (Prod.snd x) ∧ Int.toNat (Prod.snd x) - x' < Int.toNat (Prod.snd x) - x_1 ∧ (Prod.fst x = Prod.fst x ∧ Prod.snd x = Prod.snd x ∧ Value.slice none (0 : Nat) (0 :
  Nat) = Value.slice none (0 : Nat) (0 : Nat) ∧ IntKind.wrap IntKind.i64 ((↑x_1 : Int) + (1 : Int)) = (↑x' : Int)) ∧ (Prod.fst (drEc (Prod.snd (drP d (Prod.fst x) x_1)) (Prod.fst x)) = Prod.fst (Prod.snd (drP d (Prod.fst
  x) x')) ∧ Prod.fst (Prod.snd (drEc (Prod.snd (drP d (Prod.fst x) x_1)) (Prod.fst x))) = Prod.fst (Prod.snd (Prod.snd (drP d (Prod.fst x) x'))) ∧ Prod.snd (Prod.snd (drEc (Prod.snd (drP d (Prod.fst x) x_1)) (Prod.fst
  x))) = Prod.snd (Prod.snd (Prod.snd (drP d (Prod.fst x) x')))) ∧ Prod.fst (drP d (Prod.fst x) x_1) ++ [drE (Prod.snd (drP d (Prod.fst x) x_1)) (Prod.fst x)] = Prod.fst (drP d (Prod.fst x) x')) ∧ ((!hasF (Prod.fst (drP
  d (Prod.fst x) x_1)) (drE (Prod.snd (drP d (Prod.fst x) x_1)) (Prod.fst x))) = false → CurOk (drEc (Prod.snd (drP d (Prod.fst x) x_1)) (Prod.fst x)) ∧ (drO (drEc (Prod.snd (drP d (Prod.fst x) x_1)) (Prod.fst x)) (60 :
  Int) = true → (List.length (Prod.fst (drP d (Prod.fst x) x_1)) + List.length [drE (Prod.snd (drP d (Prod.fst x) x_1)) (Prod.fst x)]) * (8 : Nat) ≤ (140737488355328 : Nat) ∧ ∃ (x' : Nat), x' ≤ Int.toNat (Prod.snd x) ∧
  Int.toNat (Prod.snd x) - x' < Int.toNat (Prod.snd x) - x_1 ∧ (Prod.fst x = Prod.fst x ∧ Prod.snd x = Prod.snd x ∧ Value.slice none (0 : Nat) (0 : Nat) = Value.slice none (0 : Nat) (0 : Nat) ∧ IntKind.wrap IntKind.i64
  ((↑x_1 : Int) + (1 : Int)) = (↑x' : Int)) ∧ (Prod.fst (drNc (drEc (Prod.snd (drP d (Prod.fst x) x_1)) (Prod.fst x)) (60 : Int)) = Prod.fst (Prod.snd (drP d (Prod.fst x) x')) ∧ Prod.fst (Prod.snd (drNc (drEc (Prod.snd
  (drP d (Prod.fst x) x_1)) (Prod.fst x)) (60 : Int))) = Prod.fst (Prod.snd (Prod.snd (drP d (Prod.fst x) x'))) ∧ Prod.snd (Prod.snd (drNc (drEc (Prod.snd (drP d (Prod.fst x) x_1)) (Prod.fst x)) (60 : Int))) = Prod.snd
  (Prod.snd (Prod.snd (drP d (Prod.fst x) x')))) ∧ Prod.fst (drP d (Prod.fst x) x_1) ++ [drE (Prod.snd (drP d (Prod.fst x) x_1)) (Prod.fst x)] = Prod.fst (drP d (Prod.fst x) x')) ∧ (drO (drEc (Prod.snd (drP d (Prod.fst
  x) x_1)) (Prod.fst x)) (60 : Int) = false → ∃ (x' : Nat), x' ≤ Int.toNat (Prod.snd x) ∧ Int.toNat (Prod.snd x) - x' < Int.toNat (Prod.snd x) - x_1 ∧ (Prod.fst x = Prod.fst x ∧ Prod.snd x = Prod.snd x ∧ Value.slice none
  (0 : Nat) (0 : Nat) = Value.slice none (0 : Nat) (0 : Nat) ∧ IntKind.wrap IntKind.i64 ((↑x_1 : Int) + (1 : Int)) = (↑x' : Int)) ∧ (Prod.fst (drNc (drEc (Prod.snd (drP d (Prod.fst x) x_1)) (Prod.fst x)) (60 : Int)) =
  Prod.fst (Prod.snd (drP d (Prod.fst x) x')) ∧ Prod.fst (Prod.snd (drNc (drEc (Prod.snd (drP d (Prod.fst x) x_1)) (Prod.fst x)) (60 : Int))) = Prod.fst (Prod.snd (Prod.snd (drP d (Prod.fst x) x'))) ∧ Prod.snd (Prod.snd
  (drNc (drEc (Prod.snd (drP d (Prod.fst x) x_1)) (Prod.fst x)) (60 : Int))) = Prod.snd (Prod.snd (Prod.snd (drP d (Prod.fst x) x')))) ∧ Prod.fst (drP d (Prod.fst x) x_1) = Prod.fst (drP d (Prod.fst x) x'))))) ∧ (decide
  ((↑x_1 : Int) < Prod.snd x) = false → CurOk (Prod.snd (drP d (Prod.fst x) x_1)) ∧ (drO (Prod.snd (drP d (Prod.fst x) x_1)) (25 : Int) = true → (decide ((0 : Int) < (↑(List.length (Prod.fst (drP d (Prod.fst x) x_1))) :
  Int)) = true → CurOk (drNc (Prod.snd (drP d (Prod.fst x) x_1)) (25 : Int)) ∧ (Ty.wf i64T (drN (drNc (Prod.snd (drP d (Prod.fst x) x_1)) (25 : Int)) (↑(List.length (Prod.fst (drP d (Prod.fst x) x_1))) : Int)) → True ∧
  (Ty.wf i64T (modF (Prod.fst x)) → (CurOk (drNc (drNc (Prod.snd (drP d (Prod.fst x) x_1)) (25 : Int)) (↑(List.length (Prod.fst (drP d (Prod.fst x) x_1))) : Int)) ∧ (0 : Nat) < List.length [(-1 : Int), modF (Prod.fst
  x)]) ∧ (Ty.wf i64T (drK (drNc (drNc (Prod.snd (drP d (Prod.fst x) x_1)) (25 : Int)) (↑(List.length (Prod.fst (drP d (Prod.fst x) x_1))) : Int)) [(-1 : Int), modF (Prod.fst x)]) → ((0 : Int) ≤ drN (drNc (Prod.snd (drP d
  (Prod.fst x) x_1)) (25 : Int)) (↑(List.length (Prod.fst (drP d (Prod.fst x) x_1))) : Int) ∧ drN (drNc (Prod.snd (drP d (Prod.fst x) x_1)) (25 : Int)) (↑(List.length (Prod.fst (drP d (Prod.fst x) x_1))) : Int) <
  (↑(List.length (Prod.fst (drP d (Prod.fst x) x_1))) : Int)) ∧ List.set (Prod.fst (drP d (Prod.fst x) x_1)) (Int.toNat (drN (drNc (Prod.snd (drP d (Prod.fst x) x_1)) (25 : Int)) (↑(List.length (Prod.fst (drP d (Prod.fst
  x) x_1))) : Int))) (drK (drNc (drNc (Prod.snd (drP d (Prod.fst x) x_1)) (25 : Int)) (↑(List.length (Prod.fst (drP d (Prod.fst x) x_1))) : Int)) [(-1 : Int), modF (Prod.fst x)]) = Prod.fst (drPo d (Prod.fst x) (Prod.snd
  x)) ∧ drKc (drNc (drNc (Prod.snd (drP d (Prod.fst x) x_1)) (25 : Int)) (↑(List.length (Prod.fst (drP d (Prod.fst x) x_1))) : Int)) [(-1 : Int), modF (Prod.fst x)] = Prod.snd (drPo d (Prod.fst x) (Prod.snd x)))))) ∧
  (decide ((0 : Int) < (↑(List.length (Prod.fst (drP d (Prod.fst x) x_1))) : Int)) = false → Prod.fst (drP d (Prod.fst x) x_1) = Prod.fst (drPo d (Prod.fst x) (Prod.snd x)) ∧ drNc (Prod.snd (drP d (Prod.fst x) x_1)) (25
  : Int) = Prod.snd (drPo d (Prod.fst x) (Prod.snd x)))) ∧ (drO (Prod.snd (drP d (Prod.fst x) x_1)) (25 : Int) = false → Prod.fst (drP d (Prod.fst x) x_1) = Prod.fst (drPo d (Prod.fst x) (Prod.snd x)) ∧ drNc (Prod.snd
  (drP d (Prod.fst x) x_1)) (25 : Int) = Prod.snd (drPo d (Prod.fst x) (Prod.snd x)))) := by
  intro d x hd hx hc
  have hs : x.2 ≤ 4096 := hc.2
  refine ⟨Nat.zero_le _, ⟨⟨rfl, rfl, rfl, rfl⟩, ⟨rfl, rfl, rfl⟩, rfl⟩, fun k hk => ⟨fun h => ?_, fun h => ?_⟩⟩
  · have h' := of_decide_eq_true h
    obtain ⟨h1, h2, _⟩ := drP_ok x.1 hc.1 k
    have hlen : ∀ y : Int, ((drP d x.1 k).1.length + [y].length) * 8 ≤ 140737488355328 := fun y => by simp only [List.length_cons, List.length_nil]; omega
    refine ⟨h1, fun _ => ⟨trivial, fun g => ?_, fun g => ⟨drEc_ok _ h1, fun g2 => ?_, fun g2 => ?_⟩⟩⟩
    · have e : drP d x.1 (k + 1) = ((drP d x.1 k).1 ++ [drE (drP d x.1 k).2 x.1], drEc (drP d x.1 k).2 x.1) := by rw [drP_succ]; unfold drPs; rw [if_pos (has_not g)]
      exact ⟨hlen _, k + 1, by omega, by omega, ⟨rfl, rfl, rfl, wrap_succ (by omega)⟩, by rw [e]; exact ⟨rfl, rfl, rfl⟩, by rw [e]⟩
    · have e : drP d x.1 (k + 1) = ((drP d x.1 k).1 ++ [drE (drP d x.1 k).2 x.1], drNc (drEc (drP d x.1 k).2 x.1) 60) := by rw [drP_succ]; unfold drPs; rw [if_neg (fun h => h (has_in g)), if_pos g2]
      exact ⟨hlen _, k + 1, by omega, by omega, ⟨rfl, rfl, rfl, wrap_succ (by omega)⟩, by rw [e]; exact ⟨rfl, rfl, rfl⟩, by rw [e]⟩
    · have e : drP d x.1 (k + 1) = ((drP d x.1 k).1, drNc (drEc (drP d x.1 k).2 x.1) 60) := by rw [drP_succ]; unfold drPs; rw [if_neg (fun h => h (has_in g)), if_neg (by rw [g2]; decide)]
      exact ⟨k + 1, by omega, by omega, ⟨rfl, rfl, rfl, wrap_succ (by omega)⟩, by rw [e]; exact ⟨rfl, rfl, rfl⟩, by rw [e]⟩
  · have h' := of_decide_eq_false h
    have hkk : k = x.2.toNat := by omega
    obtain ⟨h1, h2, _⟩ := drP_ok x.1 hc.1 k
    refine ⟨h1, fun g => ⟨fun g2 => ⟨drNc_ok _ h1, fun _ => ⟨trivial, fun _ => ⟨⟨drNc_ok _ (drNc_ok _ h1), by show 0 < 2; decide⟩, fun _ => ⟨drN_range _ (of_decide_eq_true g2), ?_⟩⟩⟩⟩, fun g2 => ?_⟩, fun g => ?_⟩
    · have h0 : 0 < (drP d x.1 k).1.length := by have := of_decide_eq_true g2; omega
      unfold drPo drQ
      rw [← hkk, if_pos ⟨g, h0⟩]
      exact ⟨rfl, rfl⟩
    · unfold drPo drQ
      have h0 : ¬ 0 < (drP d x.1 k).1.length := by have := of_decide_eq_false g2; omega
      rw [← hkk, if_neg (fun h => h0 h.2)]
      exact ⟨rfl, rfl⟩
    · unfold drPo drQ
      rw [← hkk, if_neg (fun h => by rw [g] at h; cases h.1)]
      exact ⟨rfl, rfl⟩
theorem prN_range (x : List Int) : 1 ≤ prN x ∧ prN x ≤ 55 := by
  unfold prN
  split
  · omega
  · have := drN_le (prC1 x) (sizeF_le x 20) (by decide)
    unfold w64
    rw [wrap_small (by omega)]; omega
theorem drO_ne {c : Cur} {n : Int} (h : drO c n = false) : ¬ drO c n = true := by rw [h]; decide
theorem wdX_ok {c : Cur} (h : CurOk c) : CurOk (wdX c).2 ∧ 1 ≤ (wdX c).1.length ∧ (wdX c).1.length ≤ 10 := by
  have h1 := drNc_ok 8 (drFc_ok h)
  have h2 := drN_range (drFc c) (n := 8) (by decide)
  obtain ⟨x1, x2, x3⟩ := drPo_ok (drF c) (w64 (3 + drN (drFc c) 8)) h1
  have e : w64 (3 + drN (drFc c) 8) = 3 + drN (drFc c) 8 := wrap_small (by omega)
  refine ⟨x1, x3 (by omega), ?_⟩
  have : (wdX c).1.length ≤ (w64 (3 + drN (drFc c) 8)).toNat := x2
  omega
theorem wdH_eq {c : Cur} (h : CurOk c) : wdH c = ((wdX c).1.length + 1) / 2 := by
  have := wdX_ok h
  unfold wdH w64
  rw [wrap_small (n := ((wdX c).1.length : Int) + 1) (by omega), Int.tdiv_eq_ediv_of_nonneg (by omega), wrap_small (by omega)]
theorem wdK_range {c : Cur} (h : CurOk c) : 1 ≤ wdK c ∧ wdK c ≤ (wdX c).1.length := by
  have hx := wdX_ok h
  unfold wdK
  split
  · have h1 := wdH_eq h
    have := drN_range (drNc (wdC4 c) 2) (n := wdH c) (by omega)
    unfold w64
    rw [wrap_small (by omega)]; omega
  · have := drN_range (wdX c).2 (n := ((wdX c).1.length : Int)) (by omega)
    unfold w64
    rw [wrap_small (by omega)]; omega
theorem wdC4_ok {c : Cur} (h : CurOk c) : CurOk (wdC4 c) := drNc_ok _ (wdX_ok h).1
theorem wdC6_ok {c : Cur} (h : CurOk c) : CurOk (wdC6 c) := by
  unfold wdC6
  split
  · exact drNc_ok _ (drNc_ok _ (wdC4_ok h))
  · exact drNc_ok _ (wdC4_ok h)
theorem wdM_ok {c : Cur} (h : CurOk c) : CurOk (wdM c).2 ∧ (wdM c).1.length = (wdK c).toNat := drL_ok _ (wdC6_ok h) _
theorem encS_len (f : Int) (xs m : List Int) : (encS f xs m).length = xs.length ∨ (encS f xs m).length = 0 := by
  unfold encS
  split
  · left; unfold evM; simp
  · right; rfl
theorem wdY_ok {c : Cur} (h : CurOk c) : CurOk (wdY c).2 ∧ (wdY c).1.length = (wdX c).1.length := by
  unfold wdY
  split
  · exact drL_ok _ (wdM_ok h).1 _
  · rename_i h0
    refine ⟨(wdM_ok h).1, ?_⟩
    rcases encS_len (drF c) (wdX c).1 (wdM c).1 with e | e
    · exact e
    · exact absurd e h0
theorem wdC9_ok {c : Cur} (h : CurOk c) : CurOk (wdC9 c) := drNc_ok _ (wdY_ok h).1
theorem wdC11_ok {c : Cur} (h : CurOk c) : CurOk (wdC11 c) := by
  unfold wdC11
  split
  · exact drNc_ok _ (drNc_ok _ (wdC9_ok h))
  · exact drNc_ok _ (wdC9_ok h)
theorem wdB_le {c : Cur} (h : CurOk c) : wdB c ≤ 100 := by
  have hx := wdX_ok h
  have hk := wdK_range h
  unfold wdB
  split
  · have e : wdL c = (wdX c).1.length + 1 := wrap_small (by omega)
    have := drN_range (drNc (wdC9 c) 5) (n := wdL c) (by omega)
    omega
  · have e : wdG c = (((wdX c).1.length : Int) - wdK c) / 2 + 2 := by
      unfold wdG w64
      rw [wrap_small (n := ((wdX c).1.length : Int) - wdK c) (by omega), Int.tdiv_eq_ediv_of_nonneg (by omega), wrap_small (n := (((wdX c).1.length : Int) - wdK c) / 2) (by omega), wrap_small (by omega)]
    have := drN_range (wdY c).2 (n := wdG c) (by omega)
    omega
theorem wdW_ok {c : Cur} (h : CurOk c) : ∀ n, CurOk (wdW c n).2 ∧ (wdW c n).1.length = (wdX c).1.length
  | 0 => ⟨wdC11_ok h, (wdY_ok h).2⟩
  | n + 1 => by
    obtain ⟨h1, h2⟩ := wdW_ok h n
    exact ⟨drEc_ok _ (drNc_ok _ h1), by simp [wdW, h2]⟩
theorem v_S_l07DrawWord :
  ∀ (d : List Int × Int × Int) (x : Unit), Ty.wf curT d → True → CurOk d → CurOk d ∧ (Ty.wf i64T (drF d) → CurOk (drFc d) ∧ (Ty.wf i64T (drN (drFc d) (8 : Int)) → (CurOk (drNc (drFc d) (8 : Int)) ∧ SmallN (IntKind.wrap
  IntKind.i64 ((3 : Int) + drN (drFc d) (8 : Int)))) ∧ (Ty.wf listT (Prod.fst (drPo (drNc (drFc d) (8 : Int)) (drF d) (IntKind.wrap IntKind.i64 ((3 : Int) + drN (drFc d) (8 : Int))))) → CurOk (Prod.snd (drPo (drNc (drFc
  d) (8 : Int)) (drF d) (IntKind.wrap IntKind.i64 ((3 : Int) + drN (drFc d) (8 : Int))))) ∧ (Ty.wf i64T (drN (Prod.snd (drPo (drNc (drFc d) (8 : Int)) (drF d) (IntKind.wrap IntKind.i64 ((3 : Int) + drN (drFc d) (8 :
  Int))))) (↑(List.length (Prod.fst (drPo (drNc (drFc d) (8 : Int)) (drF d) (IntKind.wrap IntKind.i64 ((3 : Int) + drN (drFc d) (8 : Int)))))) : Int)) → (CurOk (drNc (Prod.snd (drPo (drNc (drFc d) (8 : Int)) (drF d)
  (IntKind.wrap IntKind.i64 ((3 : Int) + drN (drFc d) (8 : Int))))) (↑(List.length (Prod.fst (drPo (drNc (drFc d) (8 : Int)) (drF d) (IntKind.wrap IntKind.i64 ((3 : Int) + drN (drFc d) (8 : Int)))))) : Int)) ∧ (drO (drNc
  (Prod.snd (drPo (drNc (drFc d) (8 : Int)) (drF d) (IntKind.wrap IntKind.i64 ((3 : Int) + drN (drFc d) (8 : Int))))) (↑(List.length (Prod.fst (drPo (drNc (drFc d) (8 : Int)) (drF d) (IntKind.wrap IntKind.i64 ((3 : Int)
  + drN (drFc d) (8 : Int)))))) : Int)) (2 : Int) = true → (2 : Int) ≠ (0 : Int) ∧ CurOk (drNc (drNc (Prod.snd (drPo (drNc (drFc d) (8 : Int)) (drF d) (IntKind.wrap IntKind.i64 ((3 : Int) + drN (drFc d) (8 : Int)))))
  (↑(List.length (Prod.fst (drPo (drNc (drFc d) (8 : Int)) (drF d) (IntKind.wrap IntKind.i64 ((3 : Int) + drN (drFc d) (8 : Int)))))) : Int)) (2 : Int)) ∧ (Ty.wf i64T (drN (drNc (drNc (Prod.snd (drPo (drNc (drFc d) (8 :
  Int)) (drF d) (IntKind.wrap IntKind.i64 ((3 : Int) + drN (drFc d) (8 : Int))))) (↑(List.length (Prod.fst (drPo (drNc (drFc d) (8 : Int)) (drF d) (IntKind.wrap IntKind.i64 ((3 : Int) + drN (drFc d) (8 : Int)))))) :
  Int)) (2 : Int)) (IntKind.wrap IntKind.i64 (Int.tdiv (IntKind.wrap IntKind.i64 ((↑(List.length (Prod.fst (drPo (drNc (drFc d) (8 : Int)) (drF d) (IntKind.wrap IntKind.i64 ((3 : Int) + drN (drFc d) (8 : Int)))))) : Int)
  + (1 : Int))) (2 : Int)))) → ∃ (x' : Unit), True ∧ ((0 : Int) = (0 : Int) ∧ Value.slice none (0 : Nat) (0 : Nat) = Value.slice none (0 : Nat) (0 : Nat) ∧ Value.slice none (0 : Nat) (0 : Nat) = Value.slice none (0 :
  Nat) (0 : Nat) ∧ (0 : Int) = (0 : Int) ∧ Value.slice none (0 : Nat) (0 : Nat) = Value.slice none (0 : Nat) (0 : Nat) ∧ drF d = drF d ∧ IntKind.wrap IntKind.i64 ((1 : Int) + drN (drNc (drNc (Prod.snd (drPo (drNc (drFc
  d) (8 : Int)) (drF d) (IntKind.wrap IntKind.i64 ((3 : Int) + drN (drFc d) (8 : Int))))) (↑(List.length (Prod.fst (drPo (drNc (drFc d) (8 : Int)) (drF d) (IntKind.wrap IntKind.i64 ((3 : Int) + drN (drFc d) (8 :
  Int)))))) : Int)) (2 : Int)) (IntKind.wrap IntKind.i64 (Int.tdiv (IntKind.wrap IntKind.i64 ((↑(List.length (Prod.fst (drPo (drNc (drFc d) (8 : Int)) (drF d) (IntKind.wrap IntKind.i64 ((3 : Int) + drN (drFc d) (8 :
  Int)))))) : Int) + (1 : Int))) (2 : Int)))) = wdK d) ∧ (Prod.fst (drNc (drNc (drNc (Prod.snd (drPo (drNc (drFc d) (8 : Int)) (drF d) (IntKind.wrap IntKind.i64 ((3 : Int) + drN (drFc d) (8 : Int))))) (↑(List.length
  (Prod.fst (drPo (drNc (drFc d) (8 : Int)) (drF d) (IntKind.wrap IntKind.i64 ((3 : Int) + drN (drFc d) (8 : Int)))))) : Int)) (2 : Int)) (IntKind.wrap IntKind.i64 (Int.tdiv (IntKind.wrap IntKind.i64 ((↑(List.length
  (Prod.fst (drPo (drNc (drFc d) (8 : Int)) (drF d) (IntKind.wrap IntKind.i64 ((3 : Int) + drN (drFc d) (8 : Int)))))) : Int) + (1 : Int))) (2 : Int)))) = Prod.fst (wdC6 d) ∧ Prod.fst (Prod.snd (drNc (drNc (drNc
  (Prod.snd (drPo (drNc (drFc d) (8 : Int)) (drF d) (IntKind.wrap IntKind.i64 ((3 : Int) + drN (drFc d) (8 : Int))))) (↑(List.length (Prod.fst (drPo (drNc (drFc d) (8 : Int)) (drF d) (IntKind.wrap IntKind.i64 ((3 : Int)
  + drN (drFc d) (8 : Int)))))) : Int)) (2 : Int)) (IntKind.wrap IntKind.i64 (Int.tdiv (IntKind.wrap IntKind.i64 ((↑(List.length (Prod.fst (drPo (drNc (drFc d) (8 : Int)) (drF d) (IntKind.wrap IntKind.i64 ((3 : Int) +
  drN (drFc d) (8 : Int)))))) : Int) + (1 : Int))) (2 : Int))))) = Prod.fst (Prod.snd (wdC6 d)) ∧ Prod.snd (Prod.snd (drNc (drNc (drNc (Prod.snd (drPo (drNc (drFc d) (8 : Int)) (drF d) (IntKind.wrap IntKind.i64 ((3 :
  Int) + drN (drFc d) (8 : Int))))) (↑(List.length (Prod.fst (drPo (drNc (drFc d) (8 : Int)) (drF d) (IntKind.wrap IntKind.i64 ((3 : Int) + drN (drFc d) (8 : Int)))))) : Int)) (2 : Int)) (IntKind.wrap IntKind.i64
  (Int.tdiv (IntKind.wrap IntKind.i64 ((↑(List.length (Prod.fst (drPo (drNc (drFc d) (8 : Int)) (drF d) (IntKind.wrap IntKind.i64 ((3 : Int) + drN (drFc d) (8 : Int)))))) : Int) + (1 : Int))) (2 : Int))))) = Prod.snd
  (Prod.snd (wdC6 d))) ∧ Prod.fst (drPo (drNc (drFc d) (8 : Int)) (drF d) (IntKind.wrap IntKind.i64 ((3 : Int) + drN (drFc d) (8 : Int)))) = Prod.fst (drPo (drNc (drFc d) (8 : Int)) (drF d) (IntKind.wrap IntKind.i64 ((3
  : Int) + drN (drFc d) (8 : Int)))))) ∧ (drO (drNc (Prod.snd (drPo (drNc (drFc d) (8 : Int)) (drF d) (IntKind.wrap IntKind.i64 ((3 : Int) + drN (drFc d) (8 : Int))))) (↑(List.length (Prod.fst (drPo (drNc (drFc d) (8 :
  Int)) (drF d) (IntKind.wrap IntKind.i64 ((3 : Int) + drN (drFc d) (8 : Int)))))) : Int)) (2 : Int) = false → ∃ (x' : Unit), True ∧ ((0 : Int) = (0 : Int) ∧ Value.slice none (0 : Nat) (0 : Nat) = Value.slice none (0 :
  Nat) (0 : Nat) ∧ Value.slice none (0 : Nat) (0 : Nat) = Value.slice none (0 : Nat) (0 : Nat) ∧ (0 : Int) = (0 : Int) ∧ Value.slice none (0 : Nat) (0 : Nat) = Value.slice none (0 : Nat) (0 : Nat) ∧ drF d = drF d ∧
  IntKind.wrap IntKind.i64 ((1 : Int) + drN (Prod.snd (drPo (drNc (drFc d) (8 : Int)) (drF d) (IntKind.wrap IntKind.i64 ((3 : Int) + drN (drFc d) (8 : Int))))) (↑(List.length (Prod.fst (drPo (drNc (drFc d) (8 : Int))
  (drF d) (IntKind.wrap IntKind.i64 ((3 : Int) + drN (drFc d) (8 : Int)))))) : Int)) = wdK d) ∧ (Prod.fst (drNc (drNc (Prod.snd (drPo (drNc (drFc d) (8 : Int)) (drF d) (IntKind.wrap IntKind.i64 ((3 : Int) + drN (drFc d)
  (8 : Int))))) (↑(List.length (Prod.fst (drPo (drNc (drFc d) (8 : Int)) (drF d) (IntKind.wrap IntKind.i64 ((3 : Int) + drN (drFc d) (8 : Int)))))) : Int)) (2 : Int)) = Prod.fst (wdC6 d) ∧ Prod.fst (Prod.snd (drNc (drNc
  (Prod.snd (drPo (drNc (drFc d) (8 : Int)) (drF d) (IntKind.wrap IntKind.i64 ((3 : Int) + drN (drFc d) (8 : Int))))) (↑(List.length (Prod.fst (drPo (drNc (drFc d) (8 : Int)) (drF d) (IntKind.wrap IntKind.i64 ((3 : Int)
  + drN (drFc d) (8 : Int)))))) : Int)) (2 : Int))) = Prod.fst (Prod.snd (wdC6 d)) ∧ Prod.snd (Prod.snd (drNc (drNc (Prod.snd (drPo (drNc (drFc d) (8 : Int)) (drF d) (IntKind.wrap IntKind.i64 ((3 : Int) + drN (drFc d) (8
  : Int))))) (↑(List.length (Prod.fst (drPo (drNc (drFc d) (8 : Int)) (drF d) (IntKind.wrap IntKind.i64 ((3 : Int) + drN (drFc d) (8 : Int)))))) : Int)) (2 : Int))) = Prod.snd (Prod.snd (wdC6 d))) ∧ Prod.fst (drPo (drNc
  (drFc d) (8 : Int)) (drF d) (IntKind.wrap IntKind.i64 ((3 : Int) + drN (drFc d) (8 : Int)))) = Prod.fst (drPo (drNc (drFc d) (8 : Int)) (drF d) (IntKind.wrap IntKind.i64 ((3 : Int) + drN (drFc d) (8 : Int)))))) ∧ ∀ (x
  : Unit), True → (CurOk (wdC6 d) ∧ SmallN (wdK d)) ∧ (Ty.wf listT (Prod.fst (drL (wdC6 d) (drF d) (Int.toNat (wdK d)))) → True ∧ (Ty.wf listT (encS (drF d) (Prod.fst (drPo (drNc (drFc d) (8 : Int)) (drF d) (IntKind.wrap
  IntKind.i64 ((3 : Int) + drN (drFc d) (8 : Int))))) (Prod.fst (drL (wdC6 d) (drF d) (Int.toNat (wdK d))))) → ((decide ((↑(List.length (encS (drF d) (Prod.fst (drPo (drNc (drFc d) (8 : Int)) (drF d) (IntKind.wrap
  IntKind.i64 ((3 : Int) + drN (drFc d) (8 : Int))))) (Prod.fst (drL (wdC6 d) (drF d) (Int.toNat (wdK d)))))) : Int) = (0 : Int)) = true → (CurOk (Prod.snd (drL (wdC6 d) (drF d) (Int.toNat (wdK d)))) ∧ SmallN
  (↑(List.length (Prod.fst (drPo (drNc (drFc d) (8 : Int)) (drF d) (IntKind.wrap IntKind.i64 ((3 : Int) + drN (drFc d) (8 : Int)))))) : Int)) ∧ (Ty.wf listT (Prod.fst (drL (Prod.snd (drL (wdC6 d) (drF d) (Int.toNat (wdK
  d)))) (drF d) (Int.toNat (↑(List.length (Prod.fst (drPo (drNc (drFc d) (8 : Int)) (drF d) (IntKind.wrap IntKind.i64 ((3 : Int) + drN (drFc d) (8 : Int)))))) : Int)))) → ∃ (x' : Unit), True ∧ ((0 : Int) = (0 : Int) ∧
  Value.slice none (0 : Nat) (0 : Nat) = Value.slice none (0 : Nat) (0 : Nat) ∧ Value.slice none (0 : Nat) (0 : Nat) = Value.slice none (0 : Nat) (0 : Nat) ∧ (0 : Int) = (0 : Int) ∧ Value.slice none (0 : Nat) (0 : Nat) =
  Value.slice none (0 : Nat) (0 : Nat) ∧ drF d = drF d ∧ wdK d = wdK d) ∧ (Prod.fst (Prod.snd (drL (Prod.snd (drL (wdC6 d) (drF d) (Int.toNat (wdK d)))) (drF d) (Int.toNat (↑(List.length (Prod.fst (drPo (drNc (drFc d) (8
  : Int)) (drF d) (IntKind.wrap IntKind.i64 ((3 : Int) + drN (drFc d) (8 : Int)))))) : Int)))) = Prod.fst (Prod.snd (wdY d)) ∧ Prod.fst (Prod.snd (Prod.snd (drL (Prod.snd (drL (wdC6 d) (drF d) (Int.toNat (wdK d)))) (drF
  d) (Int.toNat (↑(List.length (Prod.fst (drPo (drNc (drFc d) (8 : Int)) (drF d) (IntKind.wrap IntKind.i64 ((3 : Int) + drN (drFc d) (8 : Int)))))) : Int))))) = Prod.fst (Prod.snd (Prod.snd (wdY d))) ∧ Prod.snd (Prod.snd
  (Prod.snd (drL (Prod.snd (drL (wdC6 d) (drF d) (Int.toNat (wdK d)))) (drF d) (Int.toNat (↑(List.length (Prod.fst (drPo (drNc (drFc d) (8 : Int)) (drF d) (IntKind.wrap IntKind.i64 ((3 : Int) + drN (drFc d) (8 :
  Int)))))) : Int))))) = Prod.snd (Prod.snd (Prod.snd (wdY d)))) ∧ Prod.fst (drPo (drNc (drFc d) (8 : Int)) (drF d) (IntKind.wrap IntKind.i64 ((3 : Int) + drN (drFc d) (8 : Int)))) = Prod.fst (drPo (drNc (drFc d) (8 :
  Int)) (drF d) (IntKind.wrap IntKind.i64 ((3 : Int) + drN (drFc d) (8 : Int)))) ∧ Prod.fst (drL (wdC6 d) (drF d) (Int.toNat (wdK d))) = Prod.fst (drL (wdC6 d) (drF d) (Int.toNat (wdK d))) ∧ Prod.fst (drL (Prod.snd (drL
  (wdC6 d) (drF d) (Int.toNat (wdK d)))) (drF d) (Int.toNat (↑(List.length (Prod.fst (drPo (drNc (drFc d) (8 : Int)) (drF d) (IntKind.wrap IntKind.i64 ((3 : Int) + drN (drFc d) (8 : Int)))))) : Int))) = Prod.fst (wdY
  d))) ∧ (decide ((↑(List.length (encS (drF d) (Prod.fst (drPo (drNc (drFc d) (8 : Int)) (drF d) (IntKind.wrap IntKind.i64 ((3 : Int) + drN (drFc d) (8 : Int))))) (Prod.fst (drL (wdC6 d) (drF d) (Int.toNat (wdK d)))))) :
  Int) = (0 : Int)) = false → ∃ (x' : Unit), True ∧ ((0 : Int) = (0 : Int) ∧ Value.slice none (0 : Nat) (0 : Nat) = Value.slice none (0 : Nat) (0 : Nat) ∧ Value.slice none (0 : Nat) (0 : Nat) = Value.slice none (0 : Nat)
  (0 : Nat) ∧ (0 : Int) = (0 : Int) ∧ Value.slice none (0 : Nat) (0 : Nat) = Value.slice none (0 : Nat) (0 : Nat) ∧ drF d = drF d ∧ wdK d = wdK d) ∧ (Prod.fst (Prod.snd (drL (wdC6 d) (drF d) (Int.toNat (wdK d)))) =
  Prod.fst (Prod.snd (wdY d)) ∧ Prod.fst (Prod.snd (Prod.snd (drL (wdC6 d) (drF d) (Int.toNat (wdK d))))) = Prod.fst (Prod.snd (Prod.snd (wdY d))) ∧ Prod.snd (Prod.snd (Prod.snd (drL (wdC6 d) (drF d) (Int.toNat (wdK
  d))))) = Prod.snd (Prod.snd (Prod.snd (wdY d)))) ∧ Prod.fst (drPo (drNc (drFc d) (8 : Int)) (drF d) (IntKind.wrap IntKind.i64 ((3 : Int) + drN (drFc d) (8 : Int)))) = Prod.fst (drPo (drNc (drFc d) (8 : Int)) (drF d)
  (IntKind.wrap IntKind.i64 ((3 : Int) + drN (drFc d) (8 : Int)))) ∧ Prod.fst (drL (wdC6 d) (drF d) (Int.toNat (wdK d))) = Prod.fst (drL (wdC6 d) (drF d) (Int.toNat (wdK d))) ∧ encS (drF d) (Prod.fst (drPo (drNc (drFc d)
  (8 : Int)) (drF d) (IntKind.wrap IntKind.i64 ((3 : Int) + drN (drFc d) (8 : Int))))) (Prod.fst (drL (wdC6 d) (drF d) (Int.toNat (wdK d)))) = Prod.fst (wdY d))) ∧ ∀ (x : Unit), True → (2 : Int) ≠ (0 : Int) ∧ CurOk
  (Prod.snd (wdY d)) ∧ (Ty.wf i64T (drN (Prod.snd (wdY d)) (IntKind.wrap IntKind.i64 (IntKind.wrap IntKind.i64 (Int.tdiv (IntKind.wrap IntKind.i64 ((↑(List.length (Prod.fst (drPo (drNc (drFc d) (8 : Int)) (drF d)
  (IntKind.wrap IntKind.i64 ((3 : Int) + drN (drFc d) (8 : Int)))))) : Int) - wdK d)) (2 : Int)) + (2 : Int)))) → (CurOk (drNc (Prod.snd (wdY d)) (IntKind.wrap IntKind.i64 (IntKind.wrap IntKind.i64 (Int.tdiv
  (IntKind.wrap IntKind.i64 ((↑(List.length (Prod.fst (drPo (drNc (drFc d) (8 : Int)) (drF d) (IntKind.wrap IntKind.i64 ((3 : Int) + drN (drFc d) (8 : Int)))))) : Int) - wdK d)) (2 : Int)) + (2 : Int)))) ∧ (drO (drNc
  (Prod.snd (wdY d)) (IntKind.wrap IntKind.i64 (IntKind.wrap IntKind.i64 (Int.tdiv (IntKind.wrap IntKind.i64 ((↑(List.length (Prod.fst (drPo (drNc (drFc d) (8 : Int)) (drF d) (IntKind.wrap IntKind.i64 ((3 : Int) + drN
  (drFc d) (8 : Int)))))) : Int) - wdK d)) (2 : Int)) + (2 : Int)))) (5 : Int) = true → CurOk (drNc (drNc (Prod.snd (wdY d)) (IntKind.wrap IntKind.i64 (IntKind.wrap IntKind.i64 (Int.tdiv (IntKind.wrap IntKind.i64
  ((↑(List.length (Prod.fst (drPo (drNc (drFc d) (8 : Int)) (drF d) (IntKind.wrap IntKind.i64 ((3 : Int) + drN (drFc d) (8 : Int)))))) : Int) - wdK d)) (2 : Int)) + (2 : Int)))) (5 : Int)) ∧ (Ty.wf i64T (drN (drNc (drNc
  (Prod.snd (wdY d)) (IntKind.wrap IntKind.i64 (IntKind.wrap IntKind.i64 (Int.tdiv (IntKind.wrap IntKind.i64 ((↑(List.length (Prod.fst (drPo (drNc (drFc d) (8 : Int)) (drF d) (IntKind.wrap IntKind.i64 ((3 : Int) + drN
  (drFc d) (8 : Int)))))) : Int) - wdK d)) (2 : Int)) + (2 : Int)))) (5 : Int)) (IntKind.wrap IntKind.i64 ((↑(List.length (Prod.fst (drPo (drNc (drFc d) (8 : Int)) (drF d) (IntKind.wrap IntKind.i64 ((3 : Int) + drN (drFc
  d) (8 : Int)))))) : Int) + (1 : Int)))) → ∃ (x' : Unit), True ∧ ((0 : Int) = (0 : Int) ∧ Value.slice none (0 : Nat) (0 : Nat) = Value.slice none (0 : Nat) (0 : Nat) ∧ Value.slice none (0 : Nat) (0 : Nat) = Value.slice
  none (0 : Nat) (0 : Nat) ∧ (0 : Int) = (0 : Int) ∧ Value.slice none (0 : Nat) (0 : Nat) = Value.slice none (0 : Nat) (0 : Nat) ∧ drF d = drF d ∧ wdK d = wdK d ∧ drN (drNc (drNc (Prod.snd (wdY d)) (IntKind.wrap
  IntKind.i64 (IntKind.wrap IntKind.i64 (Int.tdiv (IntKind.wrap IntKind.i64 ((↑(List.length (Prod.fst (drPo (drNc (drFc d) (8 : Int)) (drF d) (IntKind.wrap IntKind.i64 ((3 : Int) + drN (drFc d) (8 : Int)))))) : Int) -
  wdK d)) (2 : Int)) + (2 : Int)))) (5 : Int)) (IntKind.wrap IntKind.i64 ((↑(List.length (Prod.fst (drPo (drNc (drFc d) (8 : Int)) (drF d) (IntKind.wrap IntKind.i64 ((3 : Int) + drN (drFc d) (8 : Int)))))) : Int) + (1 :
  Int))) = wdB d) ∧ (Prod.fst (drNc (drNc (drNc (Prod.snd (wdY d)) (IntKind.wrap IntKind.i64 (IntKind.wrap IntKind.i64 (Int.tdiv (IntKind.wrap IntKind.i64 ((↑(List.length (Prod.fst (drPo (drNc (drFc d) (8 : Int)) (drF d)
  (IntKind.wrap IntKind.i64 ((3 : Int) + drN (drFc d) (8 : Int)))))) : Int) - wdK d)) (2 : Int)) + (2 : Int)))) (5 : Int)) (IntKind.wrap IntKind.i64 ((↑(List.length (Prod.fst (drPo (drNc (drFc d) (8 : Int)) (drF d)
  (IntKind.wrap IntKind.i64 ((3 : Int) + drN (drFc d) (8 : Int)))))) : Int) + (1 : Int)))) = Prod.fst (wdC11 d) ∧ Prod.fst (Prod.snd (drNc (drNc (drNc (Prod.snd (wdY d)) (IntKind.wrap IntKind.i64 (IntKind.wrap
  IntKind.i64 (Int.tdiv (IntKind.wrap IntKind.i64 ((↑(List.length (Prod.fst (drPo (drNc (drFc d) (8 : Int)) (drF d) (IntKind.wrap IntKind.i64 ((3 : Int) + drN (drFc d) (8 : Int)))))) : Int) - wdK d)) (2 : Int)) + (2 :
  Int)))) (5 : Int)) (IntKind.wrap IntKind.i64 ((↑(List.length (Prod.fst (drPo (drNc (drFc d) (8 : Int)) (drF d) (IntKind.wrap IntKind.i64 ((3 : Int) + drN (drFc d) (8 : Int)))))) : Int) + (1 : Int))))) = Prod.fst
  (Prod.snd (wdC11 d)) ∧ Prod.snd (Prod.snd (drNc (drNc (drNc (Prod.snd (wdY d)) (IntKind.wrap IntKind.i64 (IntKind.wrap IntKind.i64 (Int.tdiv (IntKind.wrap IntKind.i64 ((↑(List.length (Prod.fst (drPo (drNc (drFc d) (8 :
  Int)) (drF d) (IntKind.wrap IntKind.i64 ((3 : Int) + drN (drFc d) (8 : Int)))))) : Int) - wdK d)) (2 : Int)) + (2 : Int)))) (5 : Int)) (IntKind.wrap IntKind.i64 ((↑(List.length (Prod.fst (drPo (drNc (drFc d) (8 : Int))
  (drF d) (IntKind.wrap IntKind.i64 ((3 : Int) + drN (drFc d) (8 : Int)))))) : Int) + (1 : Int))))) = Prod.snd (Prod.snd (wdC11 d))) ∧ Prod.fst (drPo (drNc (drFc d) (8 : Int)) (drF d) (IntKind.wrap IntKind.i64 ((3 : Int)
  + drN (drFc d) (8 : Int)))) = Prod.fst (drPo (drNc (drFc d) (8 : Int)) (drF d) (IntKind.wrap IntKind.i64 ((3 : Int) + drN (drFc d) (8 : Int)))) ∧ Prod.fst (drL (wdC6 d) (drF d) (Int.toNat (wdK d))) = Prod.fst (drL
  (wdC6 d) (drF d) (Int.toNat (wdK d))) ∧ Prod.fst (wdY d) = Prod.fst (wdY d))) ∧ (drO (drNc (Prod.snd (wdY d)) (IntKind.wrap IntKind.i64 (IntKind.wrap IntKind.i64 (Int.tdiv (IntKind.wrap IntKind.i64 ((↑(List.length
  (Prod.fst (drPo (drNc (drFc d) (8 : Int)) (drF d) (IntKind.wrap IntKind.i64 ((3 : Int) + drN (drFc d) (8 : Int)))))) : Int) - wdK d)) (2 : Int)) + (2 : Int)))) (5 : Int) = false → ∃ (x' : Unit), True ∧ ((0 : Int) = (0
  : Int) ∧ Value.slice none (0 : Nat) (0 : Nat) = Value.slice none (0 : Nat) (0 : Nat) ∧ Value.slice none (0 : Nat) (0 : Nat) = Value.slice none (0 : Nat) (0 : Nat) ∧ (0 : Int) = (0 : Int) ∧ Value.slice none (0 : Nat) (0
  : Nat) = Value.slice none (0 : Nat) (0 : Nat) ∧ drF d = drF d ∧ wdK d = wdK d ∧ drN (Prod.snd (wdY d)) (IntKind.wrap IntKind.i64 (IntKind.wrap IntKind.i64 (Int.tdiv (IntKind.wrap IntKind.i64 ((↑(List.length (Prod.fst
  (drPo (drNc (drFc d) (8 : Int)) (drF d) (IntKind.wrap IntKind.i64 ((3 : Int) + drN (drFc d) (8 : Int)))))) : Int) - wdK d)) (2 : Int)) + (2 : Int))) = wdB d) ∧ (Prod.fst (drNc (drNc (Prod.snd (wdY d)) (IntKind.wrap
  IntKind.i64 (IntKind.wrap IntKind.i64 (Int.tdiv (IntKind.wrap IntKind.i64 ((↑(List.length (Prod.fst (drPo (drNc (drFc d) (8 : Int)) (drF d) (IntKind.wrap IntKind.i64 ((3 : Int) + drN (drFc d) (8 : Int)))))) : Int) -
  wdK d)) (2 : Int)) + (2 : Int)))) (5 : Int)) = Prod.fst (wdC11 d) ∧ Prod.fst (Prod.snd (drNc (drNc (Prod.snd (wdY d)) (IntKind.wrap IntKind.i64 (IntKind.wrap IntKind.i64 (Int.tdiv (IntKind.wrap IntKind.i64
  ((↑(List.length (Prod.fst (drPo (drNc (drFc d) (8 : Int)) (drF d) (IntKind.wrap IntKind.i64 ((3 : Int) + drN (drFc d) (8 : Int)))))) : Int) - wdK d)) (2 : Int)) + (2 : Int)))) (5 : Int))) = Prod.fst (Prod.snd (wdC11
  d)) ∧ Prod.snd (Prod.snd (drNc (drNc (Prod.snd (wdY d)) (IntKind.wrap IntKind.i64 (IntKind.wrap IntKind.i64 (Int.tdiv (IntKind.wrap IntKind.i64 ((↑(List.length (Prod.fst (drPo (drNc (drFc d) (8 : Int)) (drF d)
  (IntKind.wrap IntKind.i64 ((3 : Int) + drN (drFc d) (8 : Int)))))) : Int) - wdK d)) (2 : Int)) + (2 : Int)))) (5 : Int))) = Prod.snd (Prod.snd (wdC11 d))) ∧ Prod.fst (drPo (drNc (drFc d) (8 : Int)) (drF d)
  (IntKind.wrap IntKind.i64 ((3 : Int) + drN (drFc d) (8 : Int)))) = Prod.fst (drPo (drNc (drFc d) (8 : Int)) (drF d) (IntKind.wrap IntKind.i64 ((3 : Int) + drN (drFc d) (8 : Int)))) ∧ Prod.fst (drL (wdC6 d) (drF d)
  (Int.toNat (wdK d))) = Prod.fst (drL (wdC6 d) (drF d) (Int.toNat (wdK d))) ∧ Prod.fst (wdY d) = Prod.fst (wdY d))) ∧ ∀ (x : Unit), True → (0 : Nat) ≤ Int.toNat (wdB d) ∧ (((0 : Int) = (0 : Int) ∧ Value.slice none (0 :
  Nat) (0 : Nat) = Value.slice none (0 : Nat) (0 : Nat) ∧ Value.slice none (0 : Nat) (0 : Nat) = Value.slice none (0 : Nat) (0 : Nat) ∧ (0 : Int) = (0 : Int) ∧ Value.slice none (0 : Nat) (0 : Nat) = Value.slice none (0 :
  Nat) (0 : Nat) ∧ drF d = drF d ∧ wdK d = wdK d ∧ wdB d = wdB d ∧ (0 : Int) = (↑(0 : Nat) : Int)) ∧ (Prod.fst (wdC11 d) = Prod.fst (Prod.snd (wdW d (0 : Nat))) ∧ Prod.fst (Prod.snd (wdC11 d)) = Prod.fst (Prod.snd
  (Prod.snd (wdW d (0 : Nat)))) ∧ Prod.snd (Prod.snd (wdC11 d)) = Prod.snd (Prod.snd (Prod.snd (wdW d (0 : Nat))))) ∧ Prod.fst (drPo (drNc (drFc d) (8 : Int)) (drF d) (IntKind.wrap IntKind.i64 ((3 : Int) + drN (drFc d)
  (8 : Int)))) = Prod.fst (drPo (drNc (drFc d) (8 : Int)) (drF d) (IntKind.wrap IntKind.i64 ((3 : Int) + drN (drFc d) (8 : Int)))) ∧ Prod.fst (drL (wdC6 d) (drF d) (Int.toNat (wdK d))) = Prod.fst (drL (wdC6 d) (drF d)
  (Int.toNat (wdK d))) ∧ Prod.fst (wdY d) = Prod.fst (wdW d (0 : Nat))) ∧ ∀ (x : Nat), x ≤ Int.toNat (wdB d) → (decide ((↑x : Int) < wdB d) = true → CurOk (Prod.snd (wdW d x)) ∧ (Ty.wf i64T (drN (Prod.snd (wdW d x))
  (↑(List.length (Prod.fst (wdW d x))) : Int)) → CurOk (drNc (Prod.snd (wdW d x)) (↑(List.length (Prod.fst (wdW d x))) : Int)) ∧ (Ty.wf i64T (drE (drNc (Prod.snd (wdW d x)) (↑(List.length (Prod.fst (wdW d x))) : Int))
  (drF d)) → ((0 : Int) ≤ drN (Prod.snd (wdW d x)) (↑(List.length (Prod.fst (wdW d x))) : Int) ∧ drN (Prod.snd (wdW d x)) (↑(List.length (Prod.fst (wdW d x))) : Int) < (↑(List.length (Prod.fst (wdW d x))) : Int)) ∧ ∃ (x'
  : Nat), x' ≤ Int.toNat (wdB d) ∧ Int.toNat (wdB d) - x' < Int.toNat (wdB d) - x ∧ ((0 : Int) = (0 : Int) ∧ Value.slice none (0 : Nat) (0 : Nat) = Value.slice none (0 : Nat) (0 : Nat) ∧ Value.slice none (0 : Nat) (0 :
  Nat) = Value.slice none (0 : Nat) (0 : Nat) ∧ (0 : Int) = (0 : Int) ∧ Value.slice none (0 : Nat) (0 : Nat) = Value.slice none (0 : Nat) (0 : Nat) ∧ drF d = drF d ∧ wdK d = wdK d ∧ wdB d = wdB d ∧ IntKind.wrap
  IntKind.i64 ((↑x : Int) + (1 : Int)) = (↑x' : Int)) ∧ (Prod.fst (drEc (drNc (Prod.snd (wdW d x)) (↑(List.length (Prod.fst (wdW d x))) : Int)) (drF d)) = Prod.fst (Prod.snd (wdW d x')) ∧ Prod.fst (Prod.snd (drEc (drNc
  (Prod.snd (wdW d x)) (↑(List.length (Prod.fst (wdW d x))) : Int)) (drF d))) = Prod.fst (Prod.snd (Prod.snd (wdW d x'))) ∧ Prod.snd (Prod.snd (drEc (drNc (Prod.snd (wdW d x)) (↑(List.length (Prod.fst (wdW d x))) : Int))
  (drF d))) = Prod.snd (Prod.snd (Prod.snd (wdW d x')))) ∧ Prod.fst (drPo (drNc (drFc d) (8 : Int)) (drF d) (IntKind.wrap IntKind.i64 ((3 : Int) + drN (drFc d) (8 : Int)))) = Prod.fst (drPo (drNc (drFc d) (8 : Int)) (drF
  d) (IntKind.wrap IntKind.i64 ((3 : Int) + drN (drFc d) (8 : Int)))) ∧ Prod.fst (drL (wdC6 d) (drF d) (Int.toNat (wdK d))) = Prod.fst (drL (wdC6 d) (drF d) (Int.toNat (wdK d))) ∧ List.set (Prod.fst (wdW d x)) (Int.toNat
  (drN (Prod.snd (wdW d x)) (↑(List.length (Prod.fst (wdW d x))) : Int))) (drE (drNc (Prod.snd (wdW d x)) (↑(List.length (Prod.fst (wdW d x))) : Int)) (drF d)) = Prod.fst (wdW d x')))) ∧ (decide ((↑x : Int) < wdB d) =
  false → (drF d, Prod.fst (drPo (drNc (drFc d) (8 : Int)) (drF d) (IntKind.wrap IntKind.i64 ((3 : Int) + drN (drFc d) (8 : Int)))), Prod.fst (wdW d x), wdK d, Prod.fst (drL (wdC6 d) (drF d) (Int.toNat (wdK d)))) = wordF
  d ∧ Prod.snd (wdW d x) = wordC d)))))))) := by
  intro d u hd _ hc
  obtain ⟨x1, x2, x3⟩ := wdX_ok hc
  obtain ⟨k1, k2⟩ := wdK_range hc
  obtain ⟨m1, m2⟩ := wdM_ok hc
  obtain ⟨y1, y2⟩ := wdY_ok hc
  have hb := wdB_le hc
  have h8 := drN_range (drFc d) (n := 8) (by decide)
  have hS : SmallN (w64 (3 + drN (drFc d) 8)) := by show w64 (3 + drN (drFc d) 8) ≤ 4096; rw [show w64 (3 + drN (drFc d) 8) = 3 + drN (drFc d) 8 from wrap_small (by omega)]; omega
  refine ⟨hc, fun _ => ⟨drFc_ok hc, fun _ => ⟨⟨drNc_ok _ (drFc_ok hc), hS⟩, fun _ => ⟨x1, fun _ => ⟨⟨wdC4_ok hc, fun g => ⟨by decide, drNc_ok _ (wdC4_ok hc), fun _ => ⟨(), trivial, ⟨rfl, rfl, rfl, rfl, rfl, rfl, ?_⟩, ?_, rfl⟩⟩, fun g => ⟨(), trivial, ⟨rfl, rfl, rfl, rfl, rfl, rfl, ?_⟩, ?_, rfl⟩⟩, fun _ _ => ⟨⟨wdC6_ok hc, by show wdK d ≤ 4096; omega⟩, fun _ => ⟨trivial, fun _ => ⟨⟨fun g => ⟨⟨m1, by show ((wdX d).1.length : Int) ≤ 4096; omega⟩, fun _ => ⟨(), trivial, ⟨rfl, rfl, rfl, rfl, rfl, rfl, rfl⟩, ?_, rfl, rfl, ?_⟩⟩, fun g => ⟨(), trivial, ⟨rfl, rfl, rfl, rfl, rfl, rfl, rfl⟩, ?_, rfl, rfl, ?_⟩⟩, ?_⟩⟩⟩⟩⟩⟩⟩⟩
  · unfold wdK; exact (if_pos g).symm
  · have e : wdC6 d = drNc (drNc (wdC4 d) 2) (wdH d) := by unfold wdC6; exact if_pos g
    rw [e]; exact ⟨rfl, rfl, rfl⟩
  · unfold wdK; exact (if_neg (drO_ne g)).symm
  · have e : wdC6 d = drNc (wdC4 d) 2 := by unfold wdC6; exact if_neg (drO_ne g)
    rw [e]; exact ⟨rfl, rfl, rfl⟩
  · have h0 : (wdE d).length = 0 := by have h1 := of_decide_eq_true g; exact Int.ofNat_eq_zero.1 h1
    have e : wdY d = drL (wdM d).2 (drF d) (wdX d).1.length := by unfold wdY; exact if_pos h0
    rw [e]; exact ⟨rfl, rfl, rfl⟩
  · have h0 : (wdE d).length = 0 := by have h1 := of_decide_eq_true g; exact Int.ofNat_eq_zero.1 h1
    have e : wdY d = drL (wdM d).2 (drF d) (wdX d).1.length := by unfold wdY; exact if_pos h0
    rw [e]; rfl
  · have h0 : ¬ (wdE d).length = 0 := by have h1 := of_decide_eq_false g; exact fun h => h1 (Int.ofNat_eq_zero.2 h)
    have e : wdY d = (wdE d, (wdM d).2) := by unfold wdY; exact if_neg h0
    rw [e]; exact ⟨rfl, rfl, rfl⟩
  · have h0 : ¬ (wdE d).length = 0 := by have h1 := of_decide_eq_false g; exact fun h => h1 (Int.ofNat_eq_zero.2 h)
    have e : wdY d = (wdE d, (wdM d).2) := by unfold wdY; exact if_neg h0
    rw [e]; rfl
  · refine fun _ _ => ⟨by decide, y1, fun _ => ⟨⟨wdC9_ok hc, fun g => ⟨drNc_ok _ (wdC9_ok hc), fun _ => ⟨(), trivial, ⟨rfl, rfl, rfl, rfl, rfl, rfl, rfl, ?_⟩, ?_, rfl, rfl, rfl⟩⟩, fun g => ⟨(), trivial, ⟨rfl, rfl, rfl, rfl, rfl, rfl, rfl, ?_⟩, ?_, rfl, rfl, rfl⟩⟩, fun _ _ => ?_⟩⟩
    · unfold wdB; exact (if_pos g).symm
    · have e : wdC11 d = drNc (drNc (wdC9 d) 5) (wdL d) := by unfold wdC11; exact if_pos g
      rw [e]; exact ⟨rfl, rfl, rfl⟩
    · unfold wdB; exact (if_neg (drO_ne g)).symm
    · have e : wdC11 d = drNc (wdC9 d) 5 := by unfold wdC11; exact if_neg (drO_ne g)
      rw [e]; exact ⟨rfl, rfl, rfl⟩
    · refine ⟨Nat.zero_le _, ⟨⟨rfl, rfl, rfl, rfl, rfl, rfl, rfl, rfl, rfl⟩, ⟨rfl, rfl, rfl⟩, rfl, rfl, rfl⟩, fun n hn => ⟨fun g => ?_, fun g => ?_⟩⟩
      · have g' := of_decide_eq_true g
        obtain ⟨w1, w2⟩ := wdW_ok hc n
        exact ⟨w1, fun _ => ⟨drNc_ok _ w1, fun _ => ⟨drN_range _ (by omega), n + 1, by omega, by omega, ⟨rfl, rfl, rfl, rfl, rfl, rfl, rfl, rfl, wrap_succ (by omega)⟩, ⟨rfl, rfl, rfl⟩, rfl, rfl, rfl⟩⟩⟩
      · have g' := of_decide_eq_false g
        have e : n = (wdB d).toNat := by omega
        rw [e]; exact ⟨rfl, rfl⟩
theorem v_S_DrawEncodeWord :
  ∀ (d : List Int), Ty.wf byteL d → True → True ∧ CurOk (drNew d) ∧ (Ty.wf i64T (Prod.fst (wordF (drNew d))) ∧ Ty.wf listT (Prod.fst (Prod.snd (wordF (drNew d)))) ∧ Ty.wf listT (Prod.fst (Prod.snd (Prod.snd (wordF (drNew
  d))))) ∧ Ty.wf i64T (Prod.fst (Prod.snd (Prod.snd (Prod.snd (wordF (drNew d)))))) ∧ Ty.wf listT (Prod.snd (Prod.snd (Prod.snd (Prod.snd (wordF (drNew d)))))) → CurOk (wordC (drNew d)) ∧ (drO (wordC (drNew d)) (8 : Int)
  = true → (CurOk (drNc (wordC (drNew d)) (8 : Int)) ∧ SmallL (Prod.snd (Prod.snd (Prod.snd (Prod.snd (wordF (drNew d)))))) ∧ SmallL (Prod.fst (Prod.snd (wordF (drNew d))))) ∧ (Ty.wf listT (pickL (drNc (wordC (drNew d))
  (8 : Int)) (Prod.snd (Prod.snd (Prod.snd (Prod.snd (wordF (drNew d)))))) (Prod.fst (Prod.snd (wordF (drNew d))))) → (Prod.fst (wordF (drNew d)), Prod.fst (Prod.snd (wordF (drNew d))), pickL (drNc (wordC (drNew d)) (8 :
  Int)) (Prod.snd (Prod.snd (Prod.snd (Prod.snd (wordF (drNew d)))))) (Prod.fst (Prod.snd (wordF (drNew d))))) = drawEW d)) ∧ (drO (wordC (drNew d)) (8 : Int) = false → (Prod.fst (wordF (drNew d)), Prod.fst (Prod.snd
  (wordF (drNew d))), Prod.snd (Prod.snd (Prod.snd (Prod.snd (wordF (drNew d)))))) = drawEW d)) := by
  intro d hd _
  have hn := drNew_ok hd.1
  have hw : CurOk (wordC (drNew d)) := (wdW_ok hn _).1
  have hx := wdX_ok hn
  have hm := wdM_ok hn
  have hk := wdK_range hn
  refine ⟨trivial, hn, fun _ => ⟨hw, fun g => ⟨⟨drNc_ok _ hw, ?_, ?_⟩, fun _ => ?_⟩, fun g => ?_⟩⟩
  · show (wdM (drNew d)).1.length ≤ 4096
    omega
  · show (wdX (drNew d)).1.length ≤ 4096
    omega
  · unfold drawEW ewM; rw [if_pos g]
  · unfold drawEW ewM; rw [if_neg (drO_ne g)]
end Go.SF
