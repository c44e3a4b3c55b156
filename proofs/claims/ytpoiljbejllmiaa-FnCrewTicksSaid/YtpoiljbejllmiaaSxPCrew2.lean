/- What is owed of the code of the functions that make crews anew. No condition. -/
import Derived.Test.YtpoiljbejllmiaaSxCCrew2
import Derived.Test.YtpoiljbejllmiaaSxPCrew
import Derived.Test.YtpoiljbejllmiaaSxPMark
namespace Go.SF
open Go.SX Go
set_option linter.unusedVariables false
set_option linter.unusedSimpArgs false
set_option maxRecDepth 10000
theorem crew_zeros {p : Int} {n : Nat} : crewOkF p (List.replicate n (0, 0, 0)) = true ↔ (1 ≤ p ∧ p ≤ 200000) ∧ (1 ≤ n ∧ n ≤ 8) := by
  rw [crew_iff, List.length_replicate]
  constructor
  · rintro ⟨a, b, _⟩; exact ⟨a, b⟩
  · rintro ⟨a, b⟩
    refine ⟨a, b, fun j hj => .inl ?_⟩
    rw [idle_iff, List.getD_eq_getElem?_getD, List.getElem?_replicate]
    split <;> rfl
theorem idle_range : ∀ (xs : List Hd) (k : Nat), idleGo xs k = -1 ∨ ((k : Int) ≤ idleGo xs k ∧ idleGo xs k < (k : Int) + (xs.length : Int))
  | [], k => .inl rfl
  | x :: xs, k => by
    unfold idleGo
    split
    · right; simp only [List.length_cons]; omega
    · rcases idle_range xs (k + 1) with h | h
      · exact .inl h
      · right; simp only [List.length_cons]; omega
theorem hidx_range (t i : Int) : ∀ (xs : List Hd) (k : Nat), hidxGo t i xs k = -1 ∨ ((k : Int) ≤ hidxGo t i xs k ∧ hidxGo t i xs k < (k : Int) + (xs.length : Int))
  | [], k => .inl rfl
  | x :: xs, k => by
    unfold hidxGo
    split
    · right; simp only [List.length_cons]; omega
    · rcases hidx_range t i xs (k + 1) with h | h
      · exact .inl h
      · right; simp only [List.length_cons]; omega
/-- In a crew that is well a hand is idle just if it has no ticket. -/
theorem idle_id {p : Int} {xs : List Hd} (h : crewOkF p xs = true) {x : Nat} (hx : x < xs.length) : idleF (xs.getD x (0, 0, 0)) = true ↔ (xs.getD x (0, 0, 0)).2.1 = 0 := by
  rcases (crew_iff.1 h).2.2 x hx with h1 | ⟨h1, _⟩
  · rw [h1]; rw [idle_iff] at h1; rw [h1]; simp
  · have h2 := hand_iff.1 h1
    constructor
    · intro h3; rw [idle_iff] at h3; rw [h3]
    · intro h3; omega
theorem v_I_copyCrew :
  ∀ (d : Int × List (Int × Int × Int)), Ty.wf crewT d → List.length (Prod.snd d) ≤ (1048576 : Nat) → ((((0 : Nat) + List.length (Prod.snd d)) * (24 : Nat) ≤ (140737488355328 : Nat) ∧ (Prod.fst d, [] ++ Prod.snd d) = d) ∧
  ((0 : Nat) + List.length (Prod.snd d)) * (24 : Nat) ≤ (140737488355328 : Nat) ∧ (Prod.fst d, [] ++ Prod.snd d) = d) ∧ ((((0 : Nat) + List.length (Prod.snd d)) * (24 : Nat) ≤ (140737488355328 : Nat) ∧ (Prod.fst d, [] ++
  Prod.snd d) = d) ∧ (((0 : Nat) + List.length (Prod.snd d)) * (24 : Nat) ≤ (140737488355328 : Nat) ∧ (Prod.fst d, [] ++ Prod.snd d) = d) ∧ ((0 : Nat) + List.length (Prod.snd d)) * (24 : Nat) ≤ (140737488355328 : Nat) ∧
  (Prod.fst d, [] ++ Prod.snd d) = d) ∧ (((0 : Nat) + List.length (Prod.snd d)) * (24 : Nat) ≤ (140737488355328 : Nat) ∧ (Prod.fst d, [] ++ Prod.snd d) = d) ∧ (((0 : Nat) + List.length (Prod.snd d)) * (24 : Nat) ≤
  (140737488355328 : Nat) ∧ (Prod.fst d, [] ++ Prod.snd d) = d) ∧ ((0 : Nat) + List.length (Prod.snd d)) * (24 : Nat) ≤ (140737488355328 : Nat) ∧ (Prod.fst d, [] ++ Prod.snd d) = d := by
  intro (d : Int × List Hd) hw (hp : d.2.length ≤ 1048576)
  have h1 : (0 + d.2.length) * 24 ≤ 140737488355328 := by omega
  have h2 : (d.1, [] ++ d.2) = d := rfl
  exact ⟨⟨⟨h1, h2⟩, h1, h2⟩, ⟨⟨h1, h2⟩, ⟨h1, h2⟩, h1, h2⟩, ⟨h1, h2⟩, ⟨h1, h2⟩, h1, h2⟩
theorem held_pos {xs : List (Int × Int × Int)} (h : xs.length ≤ 4194304) : neg1 (held3 (mark3 xs 1) 1) = end3 xs 1 ∧ 0 ≤ end3 xs 1 := by
  have h1 := end3_small xs (k := 1) (by omega) (by omega)
  rw [held3_mark]
  unfold neg1
  rw [if_neg (by omega)]
  exact ⟨rfl, by omega⟩
theorem end_pos {xs : List (Int × Int × Int)} (h : xs.length ≤ 4194304) : 0 ≤ end3 xs 1 := (held_pos h).2
theorem assign_len (c : Cr) (t : Int) (k : Tk) : (assignF c t k).1.2.length = c.2.length := by
  unfold assignF; split
  · split
    · simp
    · rfl
  · rfl
theorem drop_len (c : Cr) (t k : Int) : (dropF c t k).1.2.length = c.2.length := by
  unfold dropF; split
  · simp
  · rfl
theorem v_S_l15CopyCrew :
  ∀ (d : Int × List (Int × Int × Int)), Ty.wf crewT d → List.length (Prod.snd d) ≤ (1048576 : Nat) → (0 : Nat) ≤ List.length (Prod.snd d) ∧ (((Prod.fst d = Prod.fst d ∧ Prod.snd d = Prod.snd d) ∧ (0 : Int) = (↑(0 : Nat)
  : Int)) ∧ (Prod.fst d = Prod.fst d ∧ Prod.snd d = Prod.snd d) ∧ ((0 : Int) = (0 : Int) ∧ Value.slice none (0 : Nat) (0 : Nat) = Value.slice none (0 : Nat) (0 : Nat)) ∧ Prod.fst d = Prod.fst d ∧ List.take (0 : Nat)
  (Prod.snd d) = []) ∧ ∀ (x : Nat), x ≤ List.length (Prod.snd d) → (decide ((↑x : Int) < (↑(List.length (Prod.snd d)) : Int)) = true → ((0 : Int) ≤ (↑x : Int) ∧ (↑x : Int) < (↑(List.length (Prod.snd d)) : Int)) ∧
  (List.length (List.take x (Prod.snd d)) + List.length [(Prod.fst (List.getD (Prod.snd d) (Int.toNat (↑x : Int)) ((0 : Int), (0 : Int), (0 : Int))), Prod.fst (Prod.snd (List.getD (Prod.snd d) (Int.toNat (↑x : Int)) ((0
  : Int), (0 : Int), (0 : Int)))), Prod.snd (Prod.snd (List.getD (Prod.snd d) (Int.toNat (↑x : Int)) ((0 : Int), (0 : Int), (0 : Int)))))]) * (24 : Nat) ≤ (140737488355328 : Nat) ∧ ∃ (x' : Nat), x' ≤ List.length
  (Prod.snd d) ∧ List.length (Prod.snd d) - x' < List.length (Prod.snd d) - x ∧ ((Prod.fst d = Prod.fst d ∧ Prod.snd d = Prod.snd d) ∧ IntKind.wrap IntKind.i64 ((↑x : Int) + (1 : Int)) = (↑x' : Int)) ∧ (Prod.fst d =
  Prod.fst d ∧ Prod.snd d = Prod.snd d) ∧ ((0 : Int) = (0 : Int) ∧ Value.slice none (0 : Nat) (0 : Nat) = Value.slice none (0 : Nat) (0 : Nat)) ∧ Prod.fst d = Prod.fst d ∧ List.take x (Prod.snd d) ++ [(Prod.fst
  (List.getD (Prod.snd d) (Int.toNat (↑x : Int)) ((0 : Int), (0 : Int), (0 : Int))), Prod.fst (Prod.snd (List.getD (Prod.snd d) (Int.toNat (↑x : Int)) ((0 : Int), (0 : Int), (0 : Int)))), Prod.snd (Prod.snd (List.getD
  (Prod.snd d) (Int.toNat (↑x : Int)) ((0 : Int), (0 : Int), (0 : Int)))))] = List.take x' (Prod.snd d)) ∧ (decide ((↑x : Int) < (↑(List.length (Prod.snd d)) : Int)) = false → (Prod.fst d, List.take x (Prod.snd d)) = d) := by
  intro (d : Int × List Hd) hw (hp : d.2.length ≤ 1048576)
  obtain ⟨p, xs⟩ := d
  simp only at hp
  simp only [Int.toNat_natCast, exists_const, and_true, true_and, implies_true, decide_eq_true_eq, decide_eq_false_iff_not, Bool.not_eq_true', Bool.not_eq_false', beq_iff_eq, forall_const]
  refine ⟨by omega, by simp, fun x h1 => ⟨fun h3 => ?_, fun h3 => ?_⟩⟩
  · have h4 : x < xs.length := by omega
    rw [wrap_succ (by omega)]
    refine ⟨⟨by omega, by omega⟩, ?_, x + 1, by omega, by omega, rfl, ?_⟩
    · simp; omega
    · rw [List.take_add_one, List.getElem?_eq_getElem h4, List.getD_eq_getElem?_getD, List.getElem?_eq_getElem h4]; rfl
  · have h4 : x = xs.length := by omega
    subst h4
    rw [List.take_length]
theorem v_S_NewCrew :
  ∀ (d : Int × Int), Ty.wf i64T (Prod.fst d) ∧ Ty.wf i64T (Prod.snd d) → True → (↑(0 : Nat) : Int) ≤ max (0 : Int) (min (Prod.fst d) (9 : Int)) ∧ ((Prod.fst d = Prod.fst d ∧ Prod.snd d = Prod.snd d ∧ (0 : Int) = (↑(0 :
  Nat) : Int)) ∧ ((0 : Int) = (0 : Int) ∧ Value.slice none (0 : Nat) (0 : Nat) = Value.slice none (0 : Nat) (0 : Nat)) ∧ Prod.snd d = Prod.snd d ∧ List.replicate (0 : Nat) ((0 : Int), (0 : Int), (0 : Int)) = []) ∧ ∀ (x :
  Nat), (↑x : Int) ≤ max (0 : Int) (min (Prod.fst d) (9 : Int)) → (decide ((↑x : Int) < Prod.fst d) = true → (decide ((↑x : Int) ≤ (8 : Int)) = true → (List.length (List.replicate x ((0 : Int), (0 : Int), (0 : Int))) +
  List.length [((0 : Int), (0 : Int), (0 : Int))]) * (24 : Nat) ≤ (140737488355328 : Nat) ∧ ∃ (x' : Nat), (↑x' : Int) ≤ max (0 : Int) (min (Prod.fst d) (9 : Int)) ∧ (9 : Nat) - x' < (9 : Nat) - x ∧ (Prod.fst d = Prod.fst
  d ∧ Prod.snd d = Prod.snd d ∧ IntKind.wrap IntKind.i64 ((↑x : Int) + (1 : Int)) = (↑x' : Int)) ∧ ((0 : Int) = (0 : Int) ∧ Value.slice none (0 : Nat) (0 : Nat) = Value.slice none (0 : Nat) (0 : Nat)) ∧ Prod.snd d =
  Prod.snd d ∧ List.replicate x ((0 : Int), (0 : Int), (0 : Int)) ++ [((0 : Int), (0 : Int), (0 : Int))] = List.replicate x' ((0 : Int), (0 : Int), (0 : Int))) ∧ (decide ((↑x : Int) ≤ (8 : Int)) = false → True ∧
  ((!crewOkF (Prod.snd d) (List.replicate x ((0 : Int), (0 : Int), (0 : Int)))) = true → (((0 : Int), []), false) = newCrewF (Prod.fst d) (Prod.snd d)) ∧ ((!crewOkF (Prod.snd d) (List.replicate x ((0 : Int), (0 : Int),
  (0 : Int)))) = false → ((Prod.snd d, List.replicate x ((0 : Int), (0 : Int), (0 : Int))), true) = newCrewF (Prod.fst d) (Prod.snd d)))) ∧ (decide ((↑x : Int) < Prod.fst d) = false → True ∧ ((!crewOkF (Prod.snd d)
  (List.replicate x ((0 : Int), (0 : Int), (0 : Int)))) = true → (((0 : Int), []), false) = newCrewF (Prod.fst d) (Prod.snd d)) ∧ ((!crewOkF (Prod.snd d) (List.replicate x ((0 : Int), (0 : Int), (0 : Int)))) = false →
  ((Prod.snd d, List.replicate x ((0 : Int), (0 : Int), (0 : Int))), true) = newCrewF (Prod.fst d) (Prod.snd d))) := by
  intro (d : Int × Int) hw _
  obtain ⟨n, p⟩ := d
  simp only [Int.toNat_natCast, exists_const, and_true, true_and, implies_true, decide_eq_true_eq, decide_eq_false_iff_not, Bool.not_eq_true', Bool.not_eq_false', beq_iff_eq, forall_const]
  have hz : ∀ x : Nat, crewOkF p (List.replicate x (0, 0, 0)) = true ↔ (1 ≤ p ∧ p ≤ 200000) ∧ (1 ≤ x ∧ x ≤ 8) := fun x => crew_zeros
  have fin : ∀ x : Nat, (x : Int) = max 0 (min n 9) → (crewOkF p (List.replicate x (0, 0, 0)) = false → (((0 : Int), ([] : List Hd)), false) = newCrewF n p) ∧ (crewOkF p (List.replicate x (0, 0, 0)) = true → ((p, List.replicate x (0, 0, 0)), true) = newCrewF n p) := by
    intro x hx
    have hz := hz x
    refine ⟨fun h => ?_, fun h => ?_⟩
    · unfold newCrewF
      rw [if_neg (fun hh => by rw [hz.2 ⟨by omega, by omega⟩] at h; cases h)]
    · have := hz.1 h
      unfold newCrewF
      rw [if_pos (by omega), show n.toNat = x by omega]
  refine ⟨by omega, by simp, fun x h1 => ⟨fun h3 => ⟨fun h4 => ⟨by simp; omega, ⟨x + 1, by omega, by omega, wrap_succ (by omega), ?_⟩⟩, fun h4 => fin x (by omega)⟩, fun h3 => fin x (by omega)⟩⟩
  rw [List.replicate_succ']
theorem v_I_NewCrew :
  ∀ (d : Int × Int), Ty.wf i64T (Prod.fst d) ∧ Ty.wf i64T (Prod.snd d) → True → (decide (Prod.fst d < (1 : Int)) = true → (((0 : Int), []), false) = newCrewF (Prod.fst d) (Prod.snd d)) ∧ (decide (Prod.fst d < (1 : Int))
  = false → (decide ((8 : Int) < Prod.fst d) = true → (((0 : Int), []), false) = newCrewF (Prod.fst d) (Prod.snd d)) ∧ (decide ((8 : Int) < Prod.fst d) = false → ((0 : Int) ≤ Prod.fst d ∧ Prod.fst d ≤ Prod.fst d ∧
  Prod.fst d * (↑(24 : Nat) : Int) ≤ (140737488355328 : Int)) ∧ True ∧ ((!crewOkF (Prod.snd d) (List.replicate (Int.toNat (Prod.fst d)) ((0 : Int), (0 : Int), (0 : Int)))) = true → (((0 : Int), []), false) = newCrewF
  (Prod.fst d) (Prod.snd d)) ∧ ((!crewOkF (Prod.snd d) (List.replicate (Int.toNat (Prod.fst d)) ((0 : Int), (0 : Int), (0 : Int)))) = false → ((Prod.snd d, List.replicate (Int.toNat (Prod.fst d)) ((0 : Int), (0 : Int),
  (0 : Int))), true) = newCrewF (Prod.fst d) (Prod.snd d)))) := by
  intro (d : Int × Int) hw _
  obtain ⟨n, p⟩ := d
  simp only [Int.toNat_natCast, exists_const, and_true, true_and, implies_true, decide_eq_true_eq, decide_eq_false_iff_not, Bool.not_eq_true', Bool.not_eq_false', beq_iff_eq, forall_const]
  have hz : crewOkF p (List.replicate n.toNat (0, 0, 0)) = true ↔ (1 ≤ p ∧ p ≤ 200000) ∧ (1 ≤ n.toNat ∧ n.toNat ≤ 8) := crew_zeros
  refine ⟨fun h => ?_, fun h1 => ⟨fun h => ?_, fun h2 => ⟨⟨by omega, by omega, by omega⟩, fun h => ?_, fun h => ?_⟩⟩⟩
  · unfold newCrewF; rw [if_neg (by omega)]
  · unfold newCrewF; rw [if_neg (by omega)]
  · unfold newCrewF; rw [if_neg (fun hh => by rw [hz.2 ⟨by omega, by omega⟩] at h; cases h)]
  · have := hz.1 h
    unfold newCrewF; rw [if_pos (by omega)]
theorem v_S_Assign :
  ∀ (d : (Int × List (Int × Int × Int)) × Int × Int × Int), Ty.wf crewT (Prod.fst d) ∧ Ty.wf i64T (Prod.fst (Prod.snd d)) ∧ Ty.wf tkT (Prod.snd (Prod.snd d)) → List.length (Prod.snd (Prod.fst d)) ≤ (1048576 : Nat) → True
  ∧ (Ty.wf i64T (idleIdF (Prod.fst (Prod.fst d), Prod.snd (Prod.fst d))) → List.length (Prod.snd (Prod.fst d)) ≤ (1048576 : Nat) ∧ (Ty.wf crewT (Prod.fst (Prod.fst d), Prod.snd (Prod.fst d)) → (decide (idleIdF (Prod.fst
  (Prod.fst d), Prod.snd (Prod.fst d)) < (0 : Int)) = true → ((Prod.fst (Prod.fst d), Prod.snd (Prod.fst d)), false) = assignF (Prod.fst d) (Prod.fst (Prod.snd d)) (Prod.snd (Prod.snd d))) ∧ (decide (idleIdF (Prod.fst
  (Prod.fst d), Prod.snd (Prod.fst d)) < (0 : Int)) = false → ((0 : Int) ≤ idleIdF (Prod.fst (Prod.fst d), Prod.snd (Prod.fst d)) ∧ idleIdF (Prod.fst (Prod.fst d), Prod.snd (Prod.fst d)) < (↑(List.length (Prod.snd
  (Prod.fst d))) : Int)) ∧ True ∧ ((!crewOkF (Prod.fst (Prod.fst d)) (List.set (Prod.snd (Prod.fst d)) (Int.toNat (idleIdF (Prod.fst (Prod.fst d), Prod.snd (Prod.fst d)))) (Prod.fst (Prod.snd d), Prod.fst (Prod.snd
  (Prod.snd d)), Prod.snd (Prod.snd (Prod.snd d))))) = true → List.length (Prod.snd (Prod.fst d)) ≤ (1048576 : Nat) ∧ (Ty.wf crewT (Prod.fst (Prod.fst d), Prod.snd (Prod.fst d)) → ((Prod.fst (Prod.fst d), Prod.snd
  (Prod.fst d)), false) = assignF (Prod.fst d) (Prod.fst (Prod.snd d)) (Prod.snd (Prod.snd d)))) ∧ ((!crewOkF (Prod.fst (Prod.fst d)) (List.set (Prod.snd (Prod.fst d)) (Int.toNat (idleIdF (Prod.fst (Prod.fst d), Prod.snd
  (Prod.fst d)))) (Prod.fst (Prod.snd d), Prod.fst (Prod.snd (Prod.snd d)), Prod.snd (Prod.snd (Prod.snd d))))) = false → ((0 : Int) ≤ idleIdF (Prod.fst (Prod.fst d), Prod.snd (Prod.fst d)) ∧ idleIdF (Prod.fst (Prod.fst
  d), Prod.snd (Prod.fst d)) < (↑(List.length (List.set (Prod.snd (Prod.fst d)) (Int.toNat (idleIdF (Prod.fst (Prod.fst d), Prod.snd (Prod.fst d)))) (Prod.fst (Prod.snd d), Prod.fst (Prod.snd (Prod.snd d)), Prod.snd
  (Prod.snd (Prod.snd d))))) : Int)) ∧ True ∧ (idleF (Prod.fst (List.getD (List.set (Prod.snd (Prod.fst d)) (Int.toNat (idleIdF (Prod.fst (Prod.fst d), Prod.snd (Prod.fst d)))) (Prod.fst (Prod.snd d), Prod.fst (Prod.snd
  (Prod.snd d)), Prod.snd (Prod.snd (Prod.snd d)))) (Int.toNat (idleIdF (Prod.fst (Prod.fst d), Prod.snd (Prod.fst d)))) ((0 : Int), (0 : Int), (0 : Int))), Prod.fst (Prod.snd (List.getD (List.set (Prod.snd (Prod.fst d))
  (Int.toNat (idleIdF (Prod.fst (Prod.fst d), Prod.snd (Prod.fst d)))) (Prod.fst (Prod.snd d), Prod.fst (Prod.snd (Prod.snd d)), Prod.snd (Prod.snd (Prod.snd d)))) (Int.toNat (idleIdF (Prod.fst (Prod.fst d), Prod.snd
  (Prod.fst d)))) ((0 : Int), (0 : Int), (0 : Int)))), Prod.snd (Prod.snd (List.getD (List.set (Prod.snd (Prod.fst d)) (Int.toNat (idleIdF (Prod.fst (Prod.fst d), Prod.snd (Prod.fst d)))) (Prod.fst (Prod.snd d), Prod.fst
  (Prod.snd (Prod.snd d)), Prod.snd (Prod.snd (Prod.snd d)))) (Int.toNat (idleIdF (Prod.fst (Prod.fst d), Prod.snd (Prod.fst d)))) ((0 : Int), (0 : Int), (0 : Int))))) = true → List.length (Prod.snd (Prod.fst d)) ≤
  (1048576 : Nat) ∧ (Ty.wf crewT (Prod.fst (Prod.fst d), Prod.snd (Prod.fst d)) → ((Prod.fst (Prod.fst d), Prod.snd (Prod.fst d)), false) = assignF (Prod.fst d) (Prod.fst (Prod.snd d)) (Prod.snd (Prod.snd d)))) ∧ (idleF
  (Prod.fst (List.getD (List.set (Prod.snd (Prod.fst d)) (Int.toNat (idleIdF (Prod.fst (Prod.fst d), Prod.snd (Prod.fst d)))) (Prod.fst (Prod.snd d), Prod.fst (Prod.snd (Prod.snd d)), Prod.snd (Prod.snd (Prod.snd d))))
  (Int.toNat (idleIdF (Prod.fst (Prod.fst d), Prod.snd (Prod.fst d)))) ((0 : Int), (0 : Int), (0 : Int))), Prod.fst (Prod.snd (List.getD (List.set (Prod.snd (Prod.fst d)) (Int.toNat (idleIdF (Prod.fst (Prod.fst d),
  Prod.snd (Prod.fst d)))) (Prod.fst (Prod.snd d), Prod.fst (Prod.snd (Prod.snd d)), Prod.snd (Prod.snd (Prod.snd d)))) (Int.toNat (idleIdF (Prod.fst (Prod.fst d), Prod.snd (Prod.fst d)))) ((0 : Int), (0 : Int), (0 :
  Int)))), Prod.snd (Prod.snd (List.getD (List.set (Prod.snd (Prod.fst d)) (Int.toNat (idleIdF (Prod.fst (Prod.fst d), Prod.snd (Prod.fst d)))) (Prod.fst (Prod.snd d), Prod.fst (Prod.snd (Prod.snd d)), Prod.snd (Prod.snd
  (Prod.snd d)))) (Int.toNat (idleIdF (Prod.fst (Prod.fst d), Prod.snd (Prod.fst d)))) ((0 : Int), (0 : Int), (0 : Int))))) = false → ((Prod.fst (Prod.fst d), List.set (Prod.snd (Prod.fst d)) (Int.toNat (idleIdF
  (Prod.fst (Prod.fst d), Prod.snd (Prod.fst d)))) (Prod.fst (Prod.snd d), Prod.fst (Prod.snd (Prod.snd d)), Prod.snd (Prod.snd (Prod.snd d)))), true) = assignF (Prod.fst d) (Prod.fst (Prod.snd d)) (Prod.snd (Prod.snd
  d))))))) := by
  intro (d : (Int × List Hd) × Int × Int × Int) hw (hp : d.1.2.length ≤ 1048576)
  obtain ⟨⟨p, xs⟩, t, i, c⟩ := d
  simp only at hp
  simp only [Int.toNat_natCast, exists_const, and_true, true_and, implies_true, decide_eq_true_eq, decide_eq_false_iff_not, Bool.not_eq_true', Bool.not_eq_false', beq_iff_eq, forall_const]
  have hr := idle_range xs 0
  have hi : idleIdF (p, xs) = if crewOkF p xs = true then idleGo xs 0 else -1 := rfl
  refine fun _ => ⟨hp, fun _ => ⟨fun h => ?_, fun h => ?_⟩⟩
  · unfold assignF
    rw [if_neg (fun hh => by rw [hi, if_pos hh.1] at h; exact absurd hh.2 (by simp only; omega))]
  · have hc : crewOkF p xs = true := by
      rw [hi] at h
      split at h
      · assumption
      · omega
    rw [hi, if_pos hc] at h ⊢
    have h5 : (idleGo xs 0).toNat < xs.length := by omega
    rw [getD_set h5, List.length_set]
    unfold assignF
    simp only
    rw [if_pos ⟨hc, by omega⟩]
    refine ⟨⟨by omega, by omega⟩, fun h6 => ⟨hp, fun _ => ?_⟩, fun h6 => ⟨⟨by omega, by omega⟩, fun h7 => ⟨hp, fun _ => ?_⟩, fun h7 => ?_⟩⟩
    · rw [if_neg (fun hh => by rw [hh.1] at h6; cases h6)]
    · rw [if_neg (fun hh => by rw [hh.2] at h7; cases h7)]
    · rw [if_pos ⟨h6, h7⟩]
theorem v_I_assign :
  ∀ (d : (Int × List (Int × Int × Int)) × Int × Int × Int), Ty.wf crewT (Prod.fst d) ∧ Ty.wf i64T (Prod.fst (Prod.snd d)) ∧ Ty.wf tkT (Prod.snd (Prod.snd d)) → List.length (Prod.snd (Prod.fst d)) ≤ (1048576 : Nat) →
  List.length (Prod.snd (Prod.fst d)) ≤ (1048576 : Nat) ∧ (Ty.wf crewT (Prod.fst (Prod.fst d), Prod.snd (Prod.fst d)) → ((0 : Int), (0 : Int), (0 : Int)) = ((0 : Int), (0 : Int), (0 : Int)) ∧ (Ty.wf i64T (idleGo
  (Prod.snd (Prod.fst d)) (0 : Nat)) → True ∧ ((!crewOkF (Prod.fst (Prod.fst d)) (Prod.snd (Prod.fst d))) = true → ((Prod.fst (Prod.fst d), Prod.snd (Prod.fst d)), false) = assignF (Prod.fst d) (Prod.fst (Prod.snd d))
  (Prod.snd (Prod.snd d))) ∧ ((!crewOkF (Prod.fst (Prod.fst d)) (Prod.snd (Prod.fst d))) = false → (decide (idleGo (Prod.snd (Prod.fst d)) (0 : Nat) < (0 : Int)) = true → ((Prod.fst (Prod.fst d), Prod.snd (Prod.fst d)),
  false) = assignF (Prod.fst d) (Prod.fst (Prod.snd d)) (Prod.snd (Prod.snd d))) ∧ (decide (idleGo (Prod.snd (Prod.fst d)) (0 : Nat) < (0 : Int)) = false → ((0 : Int) ≤ idleGo (Prod.snd (Prod.fst d)) (0 : Nat) ∧ idleGo
  (Prod.snd (Prod.fst d)) (0 : Nat) < (↑(List.length (Prod.snd (Prod.fst d))) : Int)) ∧ True ∧ ((!crewOkF (Prod.fst (Prod.fst d)) (List.set (Prod.snd (Prod.fst d)) (Int.toNat (idleGo (Prod.snd (Prod.fst d)) (0 : Nat)))
  (Prod.fst (Prod.snd d), Prod.fst (Prod.snd (Prod.snd d)), Prod.snd (Prod.snd (Prod.snd d))))) = true → List.length (Prod.snd (Prod.fst d)) ≤ (1048576 : Nat) ∧ (Ty.wf crewT (Prod.fst (Prod.fst d), Prod.snd (Prod.fst d))
  → ((Prod.fst (Prod.fst d), Prod.snd (Prod.fst d)), false) = assignF (Prod.fst d) (Prod.fst (Prod.snd d)) (Prod.snd (Prod.snd d)))) ∧ ((!crewOkF (Prod.fst (Prod.fst d)) (List.set (Prod.snd (Prod.fst d)) (Int.toNat
  (idleGo (Prod.snd (Prod.fst d)) (0 : Nat))) (Prod.fst (Prod.snd d), Prod.fst (Prod.snd (Prod.snd d)), Prod.snd (Prod.snd (Prod.snd d))))) = false → ((0 : Int) ≤ idleGo (Prod.snd (Prod.fst d)) (0 : Nat) ∧ idleGo
  (Prod.snd (Prod.fst d)) (0 : Nat) < (↑(List.length (List.set (Prod.snd (Prod.fst d)) (Int.toNat (idleGo (Prod.snd (Prod.fst d)) (0 : Nat))) (Prod.fst (Prod.snd d), Prod.fst (Prod.snd (Prod.snd d)), Prod.snd (Prod.snd
  (Prod.snd d))))) : Int)) ∧ ((decide (Prod.fst (List.getD (List.set (Prod.snd (Prod.fst d)) (Int.toNat (idleGo (Prod.snd (Prod.fst d)) (0 : Nat))) (Prod.fst (Prod.snd d), Prod.fst (Prod.snd (Prod.snd d)), Prod.snd
  (Prod.snd (Prod.snd d)))) (Int.toNat (idleGo (Prod.snd (Prod.fst d)) (0 : Nat))) ((0 : Int), (0 : Int), (0 : Int))) = (0 : Int)) && (decide (Prod.fst (Prod.snd (List.getD (List.set (Prod.snd (Prod.fst d)) (Int.toNat
  (idleGo (Prod.snd (Prod.fst d)) (0 : Nat))) (Prod.fst (Prod.snd d), Prod.fst (Prod.snd (Prod.snd d)), Prod.snd (Prod.snd (Prod.snd d)))) (Int.toNat (idleGo (Prod.snd (Prod.fst d)) (0 : Nat))) ((0 : Int), (0 : Int), (0
  : Int)))) = (0 : Int)) && (decide (Prod.snd (Prod.snd (List.getD (List.set (Prod.snd (Prod.fst d)) (Int.toNat (idleGo (Prod.snd (Prod.fst d)) (0 : Nat))) (Prod.fst (Prod.snd d), Prod.fst (Prod.snd (Prod.snd d)),
  Prod.snd (Prod.snd (Prod.snd d)))) (Int.toNat (idleGo (Prod.snd (Prod.fst d)) (0 : Nat))) ((0 : Int), (0 : Int), (0 : Int)))) = (0 : Int)) && true))) = true → List.length (Prod.snd (Prod.fst d)) ≤ (1048576 : Nat) ∧
  (Ty.wf crewT (Prod.fst (Prod.fst d), Prod.snd (Prod.fst d)) → ((Prod.fst (Prod.fst d), Prod.snd (Prod.fst d)), false) = assignF (Prod.fst d) (Prod.fst (Prod.snd d)) (Prod.snd (Prod.snd d)))) ∧ ((decide (Prod.fst
  (List.getD (List.set (Prod.snd (Prod.fst d)) (Int.toNat (idleGo (Prod.snd (Prod.fst d)) (0 : Nat))) (Prod.fst (Prod.snd d), Prod.fst (Prod.snd (Prod.snd d)), Prod.snd (Prod.snd (Prod.snd d)))) (Int.toNat (idleGo
  (Prod.snd (Prod.fst d)) (0 : Nat))) ((0 : Int), (0 : Int), (0 : Int))) = (0 : Int)) && (decide (Prod.fst (Prod.snd (List.getD (List.set (Prod.snd (Prod.fst d)) (Int.toNat (idleGo (Prod.snd (Prod.fst d)) (0 : Nat)))
  (Prod.fst (Prod.snd d), Prod.fst (Prod.snd (Prod.snd d)), Prod.snd (Prod.snd (Prod.snd d)))) (Int.toNat (idleGo (Prod.snd (Prod.fst d)) (0 : Nat))) ((0 : Int), (0 : Int), (0 : Int)))) = (0 : Int)) && (decide (Prod.snd
  (Prod.snd (List.getD (List.set (Prod.snd (Prod.fst d)) (Int.toNat (idleGo (Prod.snd (Prod.fst d)) (0 : Nat))) (Prod.fst (Prod.snd d), Prod.fst (Prod.snd (Prod.snd d)), Prod.snd (Prod.snd (Prod.snd d)))) (Int.toNat
  (idleGo (Prod.snd (Prod.fst d)) (0 : Nat))) ((0 : Int), (0 : Int), (0 : Int)))) = (0 : Int)) && true))) = false → ((Prod.fst (Prod.fst d), List.set (Prod.snd (Prod.fst d)) (Int.toNat (idleGo (Prod.snd (Prod.fst d)) (0
  : Nat))) (Prod.fst (Prod.snd d), Prod.fst (Prod.snd (Prod.snd d)), Prod.snd (Prod.snd (Prod.snd d)))), true) = assignF (Prod.fst d) (Prod.fst (Prod.snd d)) (Prod.snd (Prod.snd d)))))))) := by
  intro (d : (Int × List Hd) × Int × Int × Int) hw (hp : d.1.2.length ≤ 1048576)
  obtain ⟨⟨p, xs⟩, t, i, c⟩ := d
  simp only at hp
  simp only [Int.toNat_natCast, exists_const, and_true, true_and, implies_true, decide_eq_true_eq, decide_eq_false_iff_not, Bool.not_eq_true', Bool.not_eq_false', beq_iff_eq, forall_const]
  have hr := idle_range xs 0
  refine ⟨hp, fun _ => fun _ => ⟨fun h => ?_, fun hc => ⟨fun h => ?_, fun h => ?_⟩⟩⟩
  · unfold assignF
    rw [if_neg (fun hh => by simp only at hh; rw [hh.1] at h; cases h)]
  · unfold assignF
    rw [if_neg (fun hh => absurd hh.2 (by simp only; omega))]
  · have h5 : (idleGo xs 0).toNat < xs.length := by omega
    have hb : ∀ a b c : Int, (decide (a = 0) && (decide (b = 0) && (decide (c = 0) && true))) = idleF (a, b, c) := fun a b c => by unfold idleF; rw [Bool.and_true]
    rw [getD_set h5, List.length_set]
    simp only [hb]
    unfold assignF
    simp only
    rw [if_pos ⟨hc, by omega⟩]
    refine ⟨⟨by omega, by omega⟩, fun h6 => ⟨hp, fun _ => ?_⟩, fun h6 => ⟨⟨by omega, by omega⟩, fun h7 => ⟨hp, fun _ => ?_⟩, fun h7 => ?_⟩⟩
    · rw [if_neg (fun hh => by rw [hh.1] at h6; cases h6)]
    · rw [if_neg (fun hh => by rw [hh.2] at h7; cases h7)]
    · rw [if_pos ⟨h6, h7⟩]
theorem v_I_Assign :
  ∀ (d : (Int × List (Int × Int × Int)) × Int × Int × Int), Ty.wf crewT (Prod.fst d) ∧ Ty.wf i64T (Prod.fst (Prod.snd d)) ∧ Ty.wf tkT (Prod.snd (Prod.snd d)) → List.length (Prod.snd (Prod.fst d)) ≤ (1048576 : Nat) →
  List.length (Prod.snd (Prod.fst d)) ≤ (1048576 : Nat) ∧ (Ty.wf crewT (Prod.fst (assignF (Prod.fst (Prod.fst d), Prod.snd (Prod.fst d)) (Prod.fst (Prod.snd d)) (Prod.fst (Prod.snd (Prod.snd d)), Prod.snd (Prod.snd
  (Prod.snd d))))) ∧ Ty.wf Ty.bool (Prod.snd (assignF (Prod.fst (Prod.fst d), Prod.snd (Prod.fst d)) (Prod.fst (Prod.snd d)) (Prod.fst (Prod.snd (Prod.snd d)), Prod.snd (Prod.snd (Prod.snd d))))) → ((Prod.fst (Prod.fst
  (assignF (Prod.fst (Prod.fst d), Prod.snd (Prod.fst d)) (Prod.fst (Prod.snd d)) (Prod.fst (Prod.snd (Prod.snd d)), Prod.snd (Prod.snd (Prod.snd d))))), Prod.snd (Prod.fst (assignF (Prod.fst (Prod.fst d), Prod.snd
  (Prod.fst d)) (Prod.fst (Prod.snd d)) (Prod.fst (Prod.snd (Prod.snd d)), Prod.snd (Prod.snd (Prod.snd d)))))), Prod.snd (assignF (Prod.fst (Prod.fst d), Prod.snd (Prod.fst d)) (Prod.fst (Prod.snd d)) (Prod.fst
  (Prod.snd (Prod.snd d)), Prod.snd (Prod.snd (Prod.snd d))))) = assignF (Prod.fst d) (Prod.fst (Prod.snd d)) (Prod.snd (Prod.snd d))) := by
  intro (d : (Int × List Hd) × Int × Int × Int) hw (hp : d.1.2.length ≤ 1048576)
  exact ⟨hp, fun _ => rfl⟩
theorem v_I_dropWork :
  ∀ (d : (Int × List (Int × Int × Int)) × Int × Int), Ty.wf crewT (Prod.fst d) ∧ Ty.wf i64T (Prod.fst (Prod.snd d)) ∧ Ty.wf i64T (Prod.snd (Prod.snd d)) → List.length (Prod.snd (Prod.fst d)) ≤ (1048576 : Nat) →
  List.length (Prod.snd (Prod.fst d)) ≤ (1048576 : Nat) ∧ (Ty.wf crewT (Prod.fst (Prod.fst d), Prod.snd (Prod.fst d)) → True ∧ (Ty.wf i64T (hidxGo (Prod.fst (Prod.snd d)) (Prod.snd (Prod.snd d)) (Prod.snd (Prod.fst d))
  (0 : Nat)) → True ∧ ((!crewOkF (Prod.fst (Prod.fst d)) (Prod.snd (Prod.fst d))) = true → ((Prod.fst (Prod.fst d), Prod.snd (Prod.fst d)), false) = dropF (Prod.fst d) (Prod.fst (Prod.snd d)) (Prod.snd (Prod.snd d))) ∧
  ((!crewOkF (Prod.fst (Prod.fst d)) (Prod.snd (Prod.fst d))) = false → (decide (hidxGo (Prod.fst (Prod.snd d)) (Prod.snd (Prod.snd d)) (Prod.snd (Prod.fst d)) (0 : Nat) < (0 : Int)) = true → ((Prod.fst (Prod.fst d),
  Prod.snd (Prod.fst d)), false) = dropF (Prod.fst d) (Prod.fst (Prod.snd d)) (Prod.snd (Prod.snd d))) ∧ (decide (hidxGo (Prod.fst (Prod.snd d)) (Prod.snd (Prod.snd d)) (Prod.snd (Prod.fst d)) (0 : Nat) < (0 : Int)) =
  false → ((0 : Int) ≤ hidxGo (Prod.fst (Prod.snd d)) (Prod.snd (Prod.snd d)) (Prod.snd (Prod.fst d)) (0 : Nat) ∧ hidxGo (Prod.fst (Prod.snd d)) (Prod.snd (Prod.snd d)) (Prod.snd (Prod.fst d)) (0 : Nat) < (↑(List.length
  (Prod.snd (Prod.fst d))) : Int)) ∧ ((Prod.fst (Prod.fst d), List.set (Prod.snd (Prod.fst d)) (Int.toNat (hidxGo (Prod.fst (Prod.snd d)) (Prod.snd (Prod.snd d)) (Prod.snd (Prod.fst d)) (0 : Nat))) ((0 : Int), (0 : Int),
  (0 : Int))), true) = dropF (Prod.fst d) (Prod.fst (Prod.snd d)) (Prod.snd (Prod.snd d)))))) := by
  intro (d : (Int × List Hd) × Int × Int) hw (hp : d.1.2.length ≤ 1048576)
  obtain ⟨⟨p, xs⟩, t, i⟩ := d
  simp only at hp
  simp only [Int.toNat_natCast, exists_const, and_true, true_and, implies_true, decide_eq_true_eq, decide_eq_false_iff_not, Bool.not_eq_true', Bool.not_eq_false', beq_iff_eq, forall_const]
  have hr := hidx_range t i xs 0
  refine ⟨hp, fun _ => fun _ => ⟨fun h => ?_, fun hc => ⟨fun h => ?_, fun h => ⟨⟨by omega, by omega⟩, ?_⟩⟩⟩⟩
  · unfold dropF
    rw [if_neg (fun hh => by simp only at hh; rw [hh.1] at h; cases h)]
  · unfold dropF
    rw [if_neg (fun hh => absurd hh.2 (by simp only; omega))]
  · unfold dropF
    rw [if_pos ⟨hc, by simp only; omega⟩]
theorem v_I_DropWork :
  ∀ (d : (Int × List (Int × Int × Int)) × Int × Int), Ty.wf crewT (Prod.fst d) ∧ Ty.wf i64T (Prod.fst (Prod.snd d)) ∧ Ty.wf i64T (Prod.snd (Prod.snd d)) → List.length (Prod.snd (Prod.fst d)) ≤ (1048576 : Nat) →
  List.length (Prod.snd (Prod.fst d)) ≤ (1048576 : Nat) ∧ (Ty.wf crewT (Prod.fst (dropF (Prod.fst (Prod.fst d), Prod.snd (Prod.fst d)) (Prod.fst (Prod.snd d)) (Prod.snd (Prod.snd d)))) ∧ Ty.wf Ty.bool (Prod.snd (dropF
  (Prod.fst (Prod.fst d), Prod.snd (Prod.fst d)) (Prod.fst (Prod.snd d)) (Prod.snd (Prod.snd d)))) → ((Prod.fst (Prod.fst (dropF (Prod.fst (Prod.fst d), Prod.snd (Prod.fst d)) (Prod.fst (Prod.snd d)) (Prod.snd (Prod.snd
  d)))), Prod.snd (Prod.fst (dropF (Prod.fst (Prod.fst d), Prod.snd (Prod.fst d)) (Prod.fst (Prod.snd d)) (Prod.snd (Prod.snd d))))), Prod.snd (dropF (Prod.fst (Prod.fst d), Prod.snd (Prod.fst d)) (Prod.fst (Prod.snd d))
  (Prod.snd (Prod.snd d)))) = dropF (Prod.fst d) (Prod.fst (Prod.snd d)) (Prod.snd (Prod.snd d))) := by
  intro (d : (Int × List Hd) × Int × Int) hw (hp : d.1.2.length ≤ 1048576)
  exact ⟨hp, fun _ => rfl⟩
theorem tick_len {p : Int} {xs : List Hd} {x : Nat} (h : x ≤ xs.length) : ((xs.take x).map (tickH p) ++ xs.drop x).length = xs.length := by
  rw [List.length_append, List.length_map, List.length_take, List.length_drop]; omega
theorem tick_get {p : Int} {xs : List Hd} {x : Nat} (h : x < xs.length) : ((xs.take x).map (tickH p) ++ xs.drop x).getD x (0, 0, 0) = xs.getD x (0, 0, 0) := by
  have hl : ((xs.take x).map (tickH p)).length = x := by rw [List.length_map, List.length_take]; omega
  rw [List.getD_eq_getElem?_getD, List.getD_eq_getElem?_getD, List.getElem?_append_right (by omega), hl, Nat.sub_self, List.getElem?_drop, Nat.add_zero]
theorem tick_set {p : Int} {xs : List Hd} {x : Nat} (h : x < xs.length) {y : Hd} (hy : y = tickH p (xs.getD x (0, 0, 0))) :
    ((xs.take x).map (tickH p) ++ xs.drop x).set x y = (xs.take (x + 1)).map (tickH p) ++ xs.drop (x + 1) := by
  have hl : ((xs.take x).map (tickH p)).length = x := by rw [List.length_map, List.length_take]; omega
  rw [List.set_append_right _ _ (by omega), hl, Nat.sub_self, getD_drop_cons (x := ((0 : Int), (0 : Int), (0 : Int))) h, List.set_cons_zero, List.take_add_one, List.map_append, List.append_assoc, hy]
  congr 1
  rw [List.getElem?_eq_getElem h, List.getD_eq_getElem?_getD, List.getElem?_eq_getElem h]; rfl
theorem tick_same {p : Int} {xs : List Hd} {x : Nat} (h : x < xs.length) (hy : (xs.getD x (0, 0, 0)).2.1 = 0) :
    (xs.take x).map (tickH p) ++ xs.drop x = (xs.take (x + 1)).map (tickH p) ++ xs.drop (x + 1) := by
  rw [← tick_set h (y := xs.getD x (0, 0, 0)) (by unfold tickH; rw [if_pos hy])]
  conv => lhs; rw [show (xs.take x).map (tickH p) ++ xs.drop x = (((xs.take x).map (tickH p) ++ xs.drop x).set x (((xs.take x).map (tickH p) ++ xs.drop x).getD x (0, 0, 0))) from by
    rw [List.getD_eq_getElem?_getD, List.getElem?_eq_getElem (by rw [tick_len (by omega)]; exact h)]; simp]
  rw [tick_get h]
theorem tick_srv {p : Int} {xs : List Hd} {x : Nat} (h : x < xs.length) : (xs.take (x + 1)).flatMap (tickS p) = (xs.take x).flatMap (tickS p) ++ tickS p (xs.getD x (0, 0, 0)) := by
  rw [List.take_add_one, List.flatMap_append, List.getElem?_eq_getElem h, List.getD_eq_getElem?_getD, List.getElem?_eq_getElem h]
  simp
theorem tick_srv_len {p : Int} : ∀ xs : List Hd, (xs.flatMap (tickS p)).length ≤ xs.length
  | [] => Nat.le_refl _
  | x :: xs => by
    have := tick_srv_len (p := p) xs
    have h1 : (tickS p x).length ≤ 1 := by unfold tickS; split; simp; split <;> simp
    simp only [List.flatMap_cons, List.length_append, List.length_cons]; omega
theorem v_S_DropWork :
  ∀ (d : (Int × List (Int × Int × Int)) × Int × Int), Ty.wf crewT (Prod.fst d) ∧ Ty.wf i64T (Prod.fst (Prod.snd d)) ∧ Ty.wf i64T (Prod.snd (Prod.snd d)) → List.length (Prod.snd (Prod.fst d)) ≤ (1048576 : Nat) →
  List.length (Prod.snd (Prod.fst d)) ≤ (1048576 : Nat) ∧ (Ty.wf crewT (Prod.fst (Prod.fst d), Prod.snd (Prod.fst d)) → True ∧ ((!crewOkF (Prod.fst (Prod.fst d)) (Prod.snd (Prod.fst d))) = true → ((Prod.fst (Prod.fst d),
  Prod.snd (Prod.fst d)), false) = dropF (Prod.fst d) (Prod.fst (Prod.snd d)) (Prod.snd (Prod.snd d))) ∧ ((!crewOkF (Prod.fst (Prod.fst d)) (Prod.snd (Prod.fst d))) = false → ((0 : Nat) ≤ List.length (Prod.snd (Prod.fst
  d)) ∧ hidxGo (Prod.fst (Prod.snd d)) (Prod.snd (Prod.snd d)) (List.drop (0 : Nat) (Prod.snd (Prod.fst d))) (0 : Nat) = hidxGo (Prod.fst (Prod.snd d)) (Prod.snd (Prod.snd d)) (Prod.snd (Prod.fst d)) (0 : Nat)) ∧
  (((Prod.fst (Prod.fst d) = Prod.fst (Prod.fst d) ∧ Prod.snd (Prod.fst d) = Prod.snd (Prod.fst d)) ∧ Prod.fst (Prod.snd d) = Prod.fst (Prod.snd d) ∧ Prod.snd (Prod.snd d) = Prod.snd (Prod.snd d) ∧ (0 : Int) = (↑(0 :
  Nat) : Int)) ∧ (Prod.fst (Prod.fst d) = Prod.fst (Prod.fst d) ∧ Prod.snd (Prod.fst d) = Prod.snd (Prod.fst d)) ∧ ((0 : Int) = (0 : Int) ∧ Value.slice none (0 : Nat) (0 : Nat) = Value.slice none (0 : Nat) (0 : Nat)) ∧
  Prod.snd (Prod.fst d) = Prod.snd (Prod.fst d) ∧ Prod.fst (Prod.fst d) = Prod.fst (Prod.fst d)) ∧ ∀ (x : Nat), x ≤ List.length (Prod.snd (Prod.fst d)) ∧ hidxGo (Prod.fst (Prod.snd d)) (Prod.snd (Prod.snd d)) (List.drop
  x (Prod.snd (Prod.fst d))) x = hidxGo (Prod.fst (Prod.snd d)) (Prod.snd (Prod.snd d)) (Prod.snd (Prod.fst d)) (0 : Nat) → (decide ((↑x : Int) < (↑(List.length (Prod.snd (Prod.fst d))) : Int)) = true → ((0 : Int) ≤ (↑x
  : Int) ∧ (↑x : Int) < (↑(List.length (Prod.snd (Prod.fst d))) : Int)) ∧ True ∧ ((!idleF (Prod.fst (List.getD (Prod.snd (Prod.fst d)) (Int.toNat (↑x : Int)) ((0 : Int), (0 : Int), (0 : Int))), Prod.fst (Prod.snd
  (List.getD (Prod.snd (Prod.fst d)) (Int.toNat (↑x : Int)) ((0 : Int), (0 : Int), (0 : Int)))), Prod.snd (Prod.snd (List.getD (Prod.snd (Prod.fst d)) (Int.toNat (↑x : Int)) ((0 : Int), (0 : Int), (0 : Int)))))) = true →
  ((0 : Int) ≤ (↑x : Int) ∧ (↑x : Int) < (↑(List.length (Prod.snd (Prod.fst d))) : Int)) ∧ (decide (Prod.fst (List.getD (Prod.snd (Prod.fst d)) (Int.toNat (↑x : Int)) ((0 : Int), (0 : Int), (0 : Int))) = Prod.fst
  (Prod.snd d)) = true → ((0 : Int) ≤ (↑x : Int) ∧ (↑x : Int) < (↑(List.length (Prod.snd (Prod.fst d))) : Int)) ∧ (decide (Prod.fst (Prod.snd (List.getD (Prod.snd (Prod.fst d)) (Int.toNat (↑x : Int)) ((0 : Int), (0 :
  Int), (0 : Int)))) = Prod.snd (Prod.snd d)) = true → ((0 : Int) ≤ (↑x : Int) ∧ (↑x : Int) < (↑(List.length (Prod.snd (Prod.fst d))) : Int)) ∧ ((Prod.fst (Prod.fst d), List.set (Prod.snd (Prod.fst d)) (Int.toNat (↑x :
  Int)) ((0 : Int), (0 : Int), (0 : Int))), true) = dropF (Prod.fst d) (Prod.fst (Prod.snd d)) (Prod.snd (Prod.snd d))) ∧ (decide (Prod.fst (Prod.snd (List.getD (Prod.snd (Prod.fst d)) (Int.toNat (↑x : Int)) ((0 : Int),
  (0 : Int), (0 : Int)))) = Prod.snd (Prod.snd d)) = false → ∃ (x' : Nat), (x' ≤ List.length (Prod.snd (Prod.fst d)) ∧ hidxGo (Prod.fst (Prod.snd d)) (Prod.snd (Prod.snd d)) (List.drop x' (Prod.snd (Prod.fst d))) x' =
  hidxGo (Prod.fst (Prod.snd d)) (Prod.snd (Prod.snd d)) (Prod.snd (Prod.fst d)) (0 : Nat)) ∧ List.length (Prod.snd (Prod.fst d)) - x' < List.length (Prod.snd (Prod.fst d)) - x ∧ ((Prod.fst (Prod.fst d) = Prod.fst
  (Prod.fst d) ∧ Prod.snd (Prod.fst d) = Prod.snd (Prod.fst d)) ∧ Prod.fst (Prod.snd d) = Prod.fst (Prod.snd d) ∧ Prod.snd (Prod.snd d) = Prod.snd (Prod.snd d) ∧ IntKind.wrap IntKind.i64 ((↑x : Int) + (1 : Int)) = (↑x' :
  Int)) ∧ (Prod.fst (Prod.fst d) = Prod.fst (Prod.fst d) ∧ Prod.snd (Prod.fst d) = Prod.snd (Prod.fst d)) ∧ ((0 : Int) = (0 : Int) ∧ Value.slice none (0 : Nat) (0 : Nat) = Value.slice none (0 : Nat) (0 : Nat)) ∧ Prod.snd
  (Prod.fst d) = Prod.snd (Prod.fst d) ∧ Prod.fst (Prod.fst d) = Prod.fst (Prod.fst d))) ∧ (decide (Prod.fst (List.getD (Prod.snd (Prod.fst d)) (Int.toNat (↑x : Int)) ((0 : Int), (0 : Int), (0 : Int))) = Prod.fst
  (Prod.snd d)) = false → ∃ (x' : Nat), (x' ≤ List.length (Prod.snd (Prod.fst d)) ∧ hidxGo (Prod.fst (Prod.snd d)) (Prod.snd (Prod.snd d)) (List.drop x' (Prod.snd (Prod.fst d))) x' = hidxGo (Prod.fst (Prod.snd d))
  (Prod.snd (Prod.snd d)) (Prod.snd (Prod.fst d)) (0 : Nat)) ∧ List.length (Prod.snd (Prod.fst d)) - x' < List.length (Prod.snd (Prod.fst d)) - x ∧ ((Prod.fst (Prod.fst d) = Prod.fst (Prod.fst d) ∧ Prod.snd (Prod.fst d)
  = Prod.snd (Prod.fst d)) ∧ Prod.fst (Prod.snd d) = Prod.fst (Prod.snd d) ∧ Prod.snd (Prod.snd d) = Prod.snd (Prod.snd d) ∧ IntKind.wrap IntKind.i64 ((↑x : Int) + (1 : Int)) = (↑x' : Int)) ∧ (Prod.fst (Prod.fst d) =
  Prod.fst (Prod.fst d) ∧ Prod.snd (Prod.fst d) = Prod.snd (Prod.fst d)) ∧ ((0 : Int) = (0 : Int) ∧ Value.slice none (0 : Nat) (0 : Nat) = Value.slice none (0 : Nat) (0 : Nat)) ∧ Prod.snd (Prod.fst d) = Prod.snd
  (Prod.fst d) ∧ Prod.fst (Prod.fst d) = Prod.fst (Prod.fst d))) ∧ ((!idleF (Prod.fst (List.getD (Prod.snd (Prod.fst d)) (Int.toNat (↑x : Int)) ((0 : Int), (0 : Int), (0 : Int))), Prod.fst (Prod.snd (List.getD (Prod.snd
  (Prod.fst d)) (Int.toNat (↑x : Int)) ((0 : Int), (0 : Int), (0 : Int)))), Prod.snd (Prod.snd (List.getD (Prod.snd (Prod.fst d)) (Int.toNat (↑x : Int)) ((0 : Int), (0 : Int), (0 : Int)))))) = false → ∃ (x' : Nat), (x' ≤
  List.length (Prod.snd (Prod.fst d)) ∧ hidxGo (Prod.fst (Prod.snd d)) (Prod.snd (Prod.snd d)) (List.drop x' (Prod.snd (Prod.fst d))) x' = hidxGo (Prod.fst (Prod.snd d)) (Prod.snd (Prod.snd d)) (Prod.snd (Prod.fst d)) (0
  : Nat)) ∧ List.length (Prod.snd (Prod.fst d)) - x' < List.length (Prod.snd (Prod.fst d)) - x ∧ ((Prod.fst (Prod.fst d) = Prod.fst (Prod.fst d) ∧ Prod.snd (Prod.fst d) = Prod.snd (Prod.fst d)) ∧ Prod.fst (Prod.snd d) =
  Prod.fst (Prod.snd d) ∧ Prod.snd (Prod.snd d) = Prod.snd (Prod.snd d) ∧ IntKind.wrap IntKind.i64 ((↑x : Int) + (1 : Int)) = (↑x' : Int)) ∧ (Prod.fst (Prod.fst d) = Prod.fst (Prod.fst d) ∧ Prod.snd (Prod.fst d) =
  Prod.snd (Prod.fst d)) ∧ ((0 : Int) = (0 : Int) ∧ Value.slice none (0 : Nat) (0 : Nat) = Value.slice none (0 : Nat) (0 : Nat)) ∧ Prod.snd (Prod.fst d) = Prod.snd (Prod.fst d) ∧ Prod.fst (Prod.fst d) = Prod.fst
  (Prod.fst d))) ∧ (decide ((↑x : Int) < (↑(List.length (Prod.snd (Prod.fst d))) : Int)) = false → ((Prod.fst (Prod.fst d), Prod.snd (Prod.fst d)), false) = dropF (Prod.fst d) (Prod.fst (Prod.snd d)) (Prod.snd (Prod.snd
  d))))) := by
  intro (d : (Int × List Hd) × Int × Int) hw (hp : d.1.2.length ≤ 1048576)
  obtain ⟨⟨p, xs⟩, t, i⟩ := d
  simp only at hp
  simp only [Int.toNat_natCast, exists_const, and_true, true_and, implies_true, decide_eq_true_eq, decide_eq_false_iff_not, Bool.not_eq_true', Bool.not_eq_false', beq_iff_eq, forall_const]
  have hr := hidx_range t i xs 0
  refine ⟨hp, fun _ => ⟨fun h => ?_, fun hc => ⟨⟨by omega, by simp⟩, rfl, fun x ⟨h1, h2⟩ => ⟨fun h3 => ⟨⟨by omega, by omega⟩, ?_⟩, fun h3 => ?_⟩⟩⟩⟩
  · unfold dropF
    rw [if_neg (fun hh => by simp only at hh; rw [hh.1] at h; cases h)]
  · have h4 : x < xs.length := by omega
    have hid := idle_id hc h4
    have h2' := h2
    rw [getD_drop_cons (x := ((0 : Int), (0 : Int), (0 : Int))) h4, hidxGo] at h2'
    rw [wrap_succ (by omega)]
    have more : ¬ ((xs.getD x (0, 0, 0)).2.1 ≠ 0 ∧ (xs.getD x (0, 0, 0)).1 = t ∧ (xs.getD x (0, 0, 0)).2.1 = i) → ∃ x' : Nat, (x' ≤ xs.length ∧ hidxGo t i (xs.drop x') x' = hidxGo t i xs 0) ∧ xs.length - x' < xs.length - x ∧ ((x + 1 : Nat) : Int) = x' := by
      intro hn
      rw [if_neg hn] at h2'
      exact ⟨x + 1, ⟨by omega, h2'⟩, by omega, rfl⟩
    refine ⟨fun a1 => ⟨⟨by omega, by omega⟩, fun a2 => ⟨⟨by omega, by omega⟩, fun a3 => ⟨⟨by omega, by omega⟩, ?_⟩, fun a3 => more (fun hh => a3 hh.2.2)⟩, fun a2 => more (fun hh => a2 hh.2.1)⟩, fun a1 => more (fun hh => hh.1 (hid.1 a1))⟩
    have hne : (xs.getD x (0, 0, 0)).2.1 ≠ 0 := fun h => by rw [show idleF (xs.getD x (0, 0, 0)) = true from hid.2 h] at a1; cases a1
    rw [if_pos ⟨hne, a2, a3⟩] at h2'
    unfold dropF
    simp only
    rw [← h2', if_pos ⟨hc, by omega⟩, Int.toNat_natCast]
  · have h4 : x = xs.length := by omega
    rw [h4, List.drop_length, hidxGo] at h2
    unfold dropF
    rw [if_neg (fun hh => absurd hh.2 (by simp only; omega))]
theorem v_S_TickCrew :
  ∀ (d : Int × List (Int × Int × Int)), Ty.wf crewT d → List.length (Prod.snd d) ≤ (1048576 : Nat) → List.length (Prod.snd d) ≤ (1048576 : Nat) ∧ (Ty.wf crewT (Prod.fst d, Prod.snd d) → True ∧ ((!crewOkF (Prod.fst d)
  (Prod.snd d)) = true → ((Prod.fst d, Prod.snd d), []) = tickF d) ∧ ((!crewOkF (Prod.fst d) (Prod.snd d)) = false → (0 : Nat) ≤ List.length (Prod.snd d) ∧ (((Prod.fst d = Prod.fst d ∧ Prod.snd d = Prod.snd d) ∧
  Value.slice none (0 : Nat) (0 : Nat) = Value.slice none (0 : Nat) (0 : Nat) ∧ (0 : Int) = (↑(0 : Nat) : Int)) ∧ (Prod.fst d = Prod.fst d ∧ Prod.snd d = Prod.snd d) ∧ ((0 : Int) = (0 : Int) ∧ Value.slice none (0 : Nat)
  (0 : Nat) = Value.slice none (0 : Nat) (0 : Nat)) ∧ Prod.snd d = List.map (tickH (Prod.fst d)) (List.take (0 : Nat) (Prod.snd d)) ++ List.drop (0 : Nat) (Prod.snd d) ∧ Prod.fst d = Prod.fst d ∧ [] = List.flatMap (tickS
  (Prod.fst d)) (List.take (0 : Nat) (Prod.snd d))) ∧ ∀ (x : Nat), x ≤ List.length (Prod.snd d) → (decide ((↑x : Int) < (↑(List.length (Prod.snd d)) : Int)) = true → ((0 : Int) ≤ (↑x : Int) ∧ (↑x : Int) < (↑(List.length
  (Prod.snd d)) : Int)) ∧ True ∧ (idleF (Prod.fst (List.getD (Prod.snd d) (Int.toNat (↑x : Int)) ((0 : Int), (0 : Int), (0 : Int))), Prod.fst (Prod.snd (List.getD (Prod.snd d) (Int.toNat (↑x : Int)) ((0 : Int), (0 :
  Int), (0 : Int)))), Prod.snd (Prod.snd (List.getD (Prod.snd d) (Int.toNat (↑x : Int)) ((0 : Int), (0 : Int), (0 : Int))))) = true → ∃ (x' : Nat), x' ≤ List.length (Prod.snd d) ∧ List.length (Prod.snd d) - x' <
  List.length (Prod.snd d) - x ∧ ((Prod.fst d = Prod.fst d ∧ Prod.snd d = Prod.snd d) ∧ Value.slice none (0 : Nat) (0 : Nat) = Value.slice none (0 : Nat) (0 : Nat) ∧ IntKind.wrap IntKind.i64 ((↑x : Int) + (1 : Int)) =
  (↑x' : Int)) ∧ (Prod.fst d = Prod.fst d ∧ Prod.snd d = Prod.snd d) ∧ ((0 : Int) = (0 : Int) ∧ Value.slice none (0 : Nat) (0 : Nat) = Value.slice none (0 : Nat) (0 : Nat)) ∧ List.map (tickH (Prod.fst d)) (List.take x
  (Prod.snd d)) ++ List.drop x (Prod.snd d) = List.map (tickH (Prod.fst d)) (List.take x' (Prod.snd d)) ++ List.drop x' (Prod.snd d) ∧ Prod.fst d = Prod.fst d ∧ List.flatMap (tickS (Prod.fst d)) (List.take x (Prod.snd
  d)) = List.flatMap (tickS (Prod.fst d)) (List.take x' (Prod.snd d))) ∧ (idleF (Prod.fst (List.getD (Prod.snd d) (Int.toNat (↑x : Int)) ((0 : Int), (0 : Int), (0 : Int))), Prod.fst (Prod.snd (List.getD (Prod.snd d)
  (Int.toNat (↑x : Int)) ((0 : Int), (0 : Int), (0 : Int)))), Prod.snd (Prod.snd (List.getD (Prod.snd d) (Int.toNat (↑x : Int)) ((0 : Int), (0 : Int), (0 : Int))))) = false → (decide (Prod.snd (Prod.snd (List.getD
  (Prod.snd d) (Int.toNat (↑x : Int)) ((0 : Int), (0 : Int), (0 : Int)))) ≤ Prod.fst d) = true → (List.length (List.flatMap (tickS (Prod.fst d)) (List.take x (Prod.snd d))) + List.length [(Prod.fst (List.getD (Prod.snd
  d) (Int.toNat (↑x : Int)) ((0 : Int), (0 : Int), (0 : Int))), Prod.fst (Prod.snd (List.getD (Prod.snd d) (Int.toNat (↑x : Int)) ((0 : Int), (0 : Int), (0 : Int)))), (0 : Int))]) * (24 : Nat) ≤ (140737488355328 : Nat) ∧
  ((0 : Int) ≤ (↑x : Int) ∧ (↑x : Int) < (↑(List.length (List.map (tickH (Prod.fst d)) (List.take x (Prod.snd d)) ++ List.drop x (Prod.snd d))) : Int)) ∧ ∃ (x' : Nat), x' ≤ List.length (Prod.snd d) ∧ List.length
  (Prod.snd d) - x' < List.length (Prod.snd d) - x ∧ ((Prod.fst d = Prod.fst d ∧ Prod.snd d = Prod.snd d) ∧ Value.slice none (0 : Nat) (0 : Nat) = Value.slice none (0 : Nat) (0 : Nat) ∧ IntKind.wrap IntKind.i64 ((↑x :
  Int) + (1 : Int)) = (↑x' : Int)) ∧ (Prod.fst d = Prod.fst d ∧ Prod.snd d = Prod.snd d) ∧ ((0 : Int) = (0 : Int) ∧ Value.slice none (0 : Nat) (0 : Nat) = Value.slice none (0 : Nat) (0 : Nat)) ∧ List.set (List.map (tickH
  (Prod.fst d)) (List.take x (Prod.snd d)) ++ List.drop x (Prod.snd d)) (Int.toNat (↑x : Int)) ((0 : Int), (0 : Int), (0 : Int)) = List.map (tickH (Prod.fst d)) (List.take x' (Prod.snd d)) ++ List.drop x' (Prod.snd d) ∧
  Prod.fst d = Prod.fst d ∧ List.flatMap (tickS (Prod.fst d)) (List.take x (Prod.snd d)) ++ [(Prod.fst (List.getD (Prod.snd d) (Int.toNat (↑x : Int)) ((0 : Int), (0 : Int), (0 : Int))), Prod.fst (Prod.snd (List.getD
  (Prod.snd d) (Int.toNat (↑x : Int)) ((0 : Int), (0 : Int), (0 : Int)))), (0 : Int))] = List.flatMap (tickS (Prod.fst d)) (List.take x' (Prod.snd d))) ∧ (decide (Prod.snd (Prod.snd (List.getD (Prod.snd d) (Int.toNat (↑x
  : Int)) ((0 : Int), (0 : Int), (0 : Int)))) ≤ Prod.fst d) = false → ((0 : Int) ≤ (↑x : Int) ∧ (↑x : Int) < (↑(List.length (List.map (tickH (Prod.fst d)) (List.take x (Prod.snd d)) ++ List.drop x (Prod.snd d))) : Int))
  ∧ ∃ (x' : Nat), x' ≤ List.length (Prod.snd d) ∧ List.length (Prod.snd d) - x' < List.length (Prod.snd d) - x ∧ ((Prod.fst d = Prod.fst d ∧ Prod.snd d = Prod.snd d) ∧ Value.slice none (0 : Nat) (0 : Nat) = Value.slice
  none (0 : Nat) (0 : Nat) ∧ IntKind.wrap IntKind.i64 ((↑x : Int) + (1 : Int)) = (↑x' : Int)) ∧ (Prod.fst d = Prod.fst d ∧ Prod.snd d = Prod.snd d) ∧ ((0 : Int) = (0 : Int) ∧ Value.slice none (0 : Nat) (0 : Nat) =
  Value.slice none (0 : Nat) (0 : Nat)) ∧ List.set (List.map (tickH (Prod.fst d)) (List.take x (Prod.snd d)) ++ List.drop x (Prod.snd d)) (Int.toNat (↑x : Int)) (Prod.fst (List.getD (List.map (tickH (Prod.fst d))
  (List.take x (Prod.snd d)) ++ List.drop x (Prod.snd d)) (Int.toNat (↑x : Int)) ((0 : Int), (0 : Int), (0 : Int))), Prod.fst (Prod.snd (List.getD (List.map (tickH (Prod.fst d)) (List.take x (Prod.snd d)) ++ List.drop x
  (Prod.snd d)) (Int.toNat (↑x : Int)) ((0 : Int), (0 : Int), (0 : Int)))), IntKind.wrap IntKind.i64 (Prod.snd (Prod.snd (List.getD (Prod.snd d) (Int.toNat (↑x : Int)) ((0 : Int), (0 : Int), (0 : Int)))) - Prod.fst d)) =
  List.map (tickH (Prod.fst d)) (List.take x' (Prod.snd d)) ++ List.drop x' (Prod.snd d) ∧ Prod.fst d = Prod.fst d ∧ List.flatMap (tickS (Prod.fst d)) (List.take x (Prod.snd d)) = List.flatMap (tickS (Prod.fst d))
  (List.take x' (Prod.snd d))))) ∧ (decide ((↑x : Int) < (↑(List.length (Prod.snd d)) : Int)) = false → ((Prod.fst d, List.map (tickH (Prod.fst d)) (List.take x (Prod.snd d)) ++ List.drop x (Prod.snd d)), List.flatMap
  (tickS (Prod.fst d)) (List.take x (Prod.snd d))) = tickF d))) := by
  intro (d : Int × List Hd) hw (hp : d.2.length ≤ 1048576)
  obtain ⟨p, xs⟩ := d
  simp only at hp
  simp only [Int.toNat_natCast, exists_const, and_true, true_and, implies_true, decide_eq_true_eq, decide_eq_false_iff_not, Bool.not_eq_true', Bool.not_eq_false', beq_iff_eq, forall_const]
  refine ⟨hp, fun _ => ⟨fun h => ?_, fun hc => ⟨by omega, ⟨rfl, by simp, by simp⟩, fun x h1 => ⟨fun h3 => ⟨⟨by omega, by omega⟩, ?_⟩, fun h3 => ?_⟩⟩⟩⟩
  · unfold tickF
    rw [if_neg (fun hh => by simp only at hh; rw [hh] at h; cases h)]
  · have h4 : x < xs.length := by omega
    have hid := idle_id hc h4
    rw [wrap_succ (by omega), tick_len h1, tick_get h4]
    have hs := tick_srv_len (p := p) (xs.take x)
    rw [List.length_take] at hs
    refine ⟨fun a1 => ⟨x + 1, by omega, by omega, rfl, tick_same h4 (hid.1 a1), ?_⟩, fun a1 => ?_⟩
    · rw [tick_srv h4, show tickS p (xs.getD x (0, 0, 0)) = [] from if_pos (hid.1 a1), List.append_nil]
    · have hne : ¬ (xs.getD x (0, 0, 0)).2.1 = 0 := fun h => by rw [show idleF (xs.getD x (0, 0, 0)) = true from hid.2 h] at a1; cases a1
      refine ⟨fun a2 => ⟨?_, ⟨by omega, by omega⟩, x + 1, by omega, by omega, rfl, tick_set h4 ?_, ?_⟩, fun a2 => ⟨⟨by omega, by omega⟩, x + 1, by omega, by omega, rfl, tick_set h4 ?_, ?_⟩⟩
      · simp only [List.length_cons, List.length_nil]; omega
      · unfold tickH; rw [if_neg hne, if_pos a2]
      · rw [tick_srv h4]; unfold tickS; rw [if_neg hne, if_pos a2]
      · unfold tickH; rw [if_neg hne, if_neg a2]; rfl
      · rw [tick_srv h4]; unfold tickS; rw [if_neg hne, if_neg a2, List.append_nil]
  · have h4 : x = xs.length := by omega
    subst h4
    unfold tickF
    rw [if_pos hc, List.take_length, List.drop_length, List.append_nil]
theorem v_I_TickCrew :
  ∀ (d : Int × List (Int × Int × Int)), Ty.wf crewT d → List.length (Prod.snd d) ≤ (1048576 : Nat) → List.length (Prod.snd d) ≤ (1048576 : Nat) ∧ (Ty.wf crewT (Prod.fst d, Prod.snd d) → True ∧ ((!crewOkF (Prod.fst d)
  (Prod.snd d)) = true → ((Prod.fst d, Prod.snd d), []) = tickF d) ∧ ((!crewOkF (Prod.fst d) (Prod.snd d)) = false → (0 : Nat) ≤ List.length (Prod.snd d) ∧ (((Prod.fst d = Prod.fst d ∧ Prod.snd d = Prod.snd d) ∧
  Value.slice none (0 : Nat) (0 : Nat) = Value.slice none (0 : Nat) (0 : Nat) ∧ (↑(List.length (Prod.snd d)) : Int) = (↑(List.length (Prod.snd d)) : Int) ∧ (0 : Int) = (↑(0 : Nat) : Int)) ∧ (Prod.fst d = Prod.fst d ∧
  Prod.snd d = Prod.snd d) ∧ ((0 : Int) = (0 : Int) ∧ Value.slice none (0 : Nat) (0 : Nat) = Value.slice none (0 : Nat) (0 : Nat)) ∧ Prod.snd d = List.map (tickH (Prod.fst d)) (List.take (0 : Nat) (Prod.snd d)) ++
  List.drop (0 : Nat) (Prod.snd d) ∧ Prod.fst d = Prod.fst d ∧ [] = List.flatMap (tickS (Prod.fst d)) (List.take (0 : Nat) (Prod.snd d))) ∧ ∀ (x : Nat), x ≤ List.length (Prod.snd d) → (decide ((↑x : Int) < (↑(List.length
  (Prod.snd d)) : Int)) = true → ((0 : Int) ≤ (↑x : Int) ∧ (↑x : Int) < (↑(List.length (List.map (tickH (Prod.fst d)) (List.take x (Prod.snd d)) ++ List.drop x (Prod.snd d))) : Int)) ∧ (decide (Prod.fst (Prod.snd
  (List.getD (List.map (tickH (Prod.fst d)) (List.take x (Prod.snd d)) ++ List.drop x (Prod.snd d)) (Int.toNat (↑x : Int)) ((0 : Int), (0 : Int), (0 : Int)))) = (0 : Int)) = true → ∃ (x' : Nat), x' ≤ List.length
  (Prod.snd d) ∧ List.length (Prod.snd d) - x' < List.length (Prod.snd d) - x ∧ ((Prod.fst d = Prod.fst d ∧ Prod.snd d = Prod.snd d) ∧ Value.slice none (0 : Nat) (0 : Nat) = Value.slice none (0 : Nat) (0 : Nat) ∧
  (↑(List.length (Prod.snd d)) : Int) = (↑(List.length (Prod.snd d)) : Int) ∧ IntKind.wrap IntKind.i64 ((↑x : Int) + (1 : Int)) = (↑x' : Int)) ∧ (Prod.fst d = Prod.fst d ∧ Prod.snd d = Prod.snd d) ∧ ((0 : Int) = (0 :
  Int) ∧ Value.slice none (0 : Nat) (0 : Nat) = Value.slice none (0 : Nat) (0 : Nat)) ∧ List.map (tickH (Prod.fst d)) (List.take x (Prod.snd d)) ++ List.drop x (Prod.snd d) = List.map (tickH (Prod.fst d)) (List.take x'
  (Prod.snd d)) ++ List.drop x' (Prod.snd d) ∧ Prod.fst d = Prod.fst d ∧ List.flatMap (tickS (Prod.fst d)) (List.take x (Prod.snd d)) = List.flatMap (tickS (Prod.fst d)) (List.take x' (Prod.snd d))) ∧ (decide (Prod.fst
  (Prod.snd (List.getD (List.map (tickH (Prod.fst d)) (List.take x (Prod.snd d)) ++ List.drop x (Prod.snd d)) (Int.toNat (↑x : Int)) ((0 : Int), (0 : Int), (0 : Int)))) = (0 : Int)) = false → (decide (Prod.snd (Prod.snd
  (List.getD (List.map (tickH (Prod.fst d)) (List.take x (Prod.snd d)) ++ List.drop x (Prod.snd d)) (Int.toNat (↑x : Int)) ((0 : Int), (0 : Int), (0 : Int)))) ≤ Prod.fst d) = true → (List.length (List.flatMap (tickS
  (Prod.fst d)) (List.take x (Prod.snd d))) + List.length [(Prod.fst (List.getD (List.map (tickH (Prod.fst d)) (List.take x (Prod.snd d)) ++ List.drop x (Prod.snd d)) (Int.toNat (↑x : Int)) ((0 : Int), (0 : Int), (0 :
  Int))), Prod.fst (Prod.snd (List.getD (List.map (tickH (Prod.fst d)) (List.take x (Prod.snd d)) ++ List.drop x (Prod.snd d)) (Int.toNat (↑x : Int)) ((0 : Int), (0 : Int), (0 : Int)))), (0 : Int))]) * (24 : Nat) ≤
  (140737488355328 : Nat) ∧ ((0 : Int) ≤ (↑x : Int) ∧ (↑x : Int) < (↑(List.length (List.map (tickH (Prod.fst d)) (List.take x (Prod.snd d)) ++ List.drop x (Prod.snd d))) : Int)) ∧ ∃ (x' : Nat), x' ≤ List.length (Prod.snd
  d) ∧ List.length (Prod.snd d) - x' < List.length (Prod.snd d) - x ∧ ((Prod.fst d = Prod.fst d ∧ Prod.snd d = Prod.snd d) ∧ Value.slice none (0 : Nat) (0 : Nat) = Value.slice none (0 : Nat) (0 : Nat) ∧ (↑(List.length
  (Prod.snd d)) : Int) = (↑(List.length (Prod.snd d)) : Int) ∧ IntKind.wrap IntKind.i64 ((↑x : Int) + (1 : Int)) = (↑x' : Int)) ∧ (Prod.fst d = Prod.fst d ∧ Prod.snd d = Prod.snd d) ∧ ((0 : Int) = (0 : Int) ∧ Value.slice
  none (0 : Nat) (0 : Nat) = Value.slice none (0 : Nat) (0 : Nat)) ∧ List.set (List.map (tickH (Prod.fst d)) (List.take x (Prod.snd d)) ++ List.drop x (Prod.snd d)) (Int.toNat (↑x : Int)) ((0 : Int), (0 : Int), (0 :
  Int)) = List.map (tickH (Prod.fst d)) (List.take x' (Prod.snd d)) ++ List.drop x' (Prod.snd d) ∧ Prod.fst d = Prod.fst d ∧ List.flatMap (tickS (Prod.fst d)) (List.take x (Prod.snd d)) ++ [(Prod.fst (List.getD (List.map
  (tickH (Prod.fst d)) (List.take x (Prod.snd d)) ++ List.drop x (Prod.snd d)) (Int.toNat (↑x : Int)) ((0 : Int), (0 : Int), (0 : Int))), Prod.fst (Prod.snd (List.getD (List.map (tickH (Prod.fst d)) (List.take x
  (Prod.snd d)) ++ List.drop x (Prod.snd d)) (Int.toNat (↑x : Int)) ((0 : Int), (0 : Int), (0 : Int)))), (0 : Int))] = List.flatMap (tickS (Prod.fst d)) (List.take x' (Prod.snd d))) ∧ (decide (Prod.snd (Prod.snd
  (List.getD (List.map (tickH (Prod.fst d)) (List.take x (Prod.snd d)) ++ List.drop x (Prod.snd d)) (Int.toNat (↑x : Int)) ((0 : Int), (0 : Int), (0 : Int)))) ≤ Prod.fst d) = false → ((0 : Int) ≤ (↑x : Int) ∧ (↑x : Int)
  < (↑(List.length (List.map (tickH (Prod.fst d)) (List.take x (Prod.snd d)) ++ List.drop x (Prod.snd d))) : Int)) ∧ ((0 : Int) ≤ (↑x : Int) ∧ (↑x : Int) < (↑(List.length (List.map (tickH (Prod.fst d)) (List.take x
  (Prod.snd d)) ++ List.drop x (Prod.snd d))) : Int)) ∧ ∃ (x' : Nat), x' ≤ List.length (Prod.snd d) ∧ List.length (Prod.snd d) - x' < List.length (Prod.snd d) - x ∧ ((Prod.fst d = Prod.fst d ∧ Prod.snd d = Prod.snd d) ∧
  Value.slice none (0 : Nat) (0 : Nat) = Value.slice none (0 : Nat) (0 : Nat) ∧ (↑(List.length (Prod.snd d)) : Int) = (↑(List.length (Prod.snd d)) : Int) ∧ IntKind.wrap IntKind.i64 ((↑x : Int) + (1 : Int)) = (↑x' : Int))
  ∧ (Prod.fst d = Prod.fst d ∧ Prod.snd d = Prod.snd d) ∧ ((0 : Int) = (0 : Int) ∧ Value.slice none (0 : Nat) (0 : Nat) = Value.slice none (0 : Nat) (0 : Nat)) ∧ List.set (List.map (tickH (Prod.fst d)) (List.take x
  (Prod.snd d)) ++ List.drop x (Prod.snd d)) (Int.toNat (↑x : Int)) (Prod.fst (List.getD (List.map (tickH (Prod.fst d)) (List.take x (Prod.snd d)) ++ List.drop x (Prod.snd d)) (Int.toNat (↑x : Int)) ((0 : Int), (0 :
  Int), (0 : Int))), Prod.fst (Prod.snd (List.getD (List.map (tickH (Prod.fst d)) (List.take x (Prod.snd d)) ++ List.drop x (Prod.snd d)) (Int.toNat (↑x : Int)) ((0 : Int), (0 : Int), (0 : Int)))), IntKind.wrap
  IntKind.i64 (Prod.snd (Prod.snd (List.getD (List.map (tickH (Prod.fst d)) (List.take x (Prod.snd d)) ++ List.drop x (Prod.snd d)) (Int.toNat (↑x : Int)) ((0 : Int), (0 : Int), (0 : Int)))) - Prod.fst d)) = List.map
  (tickH (Prod.fst d)) (List.take x' (Prod.snd d)) ++ List.drop x' (Prod.snd d) ∧ Prod.fst d = Prod.fst d ∧ List.flatMap (tickS (Prod.fst d)) (List.take x (Prod.snd d)) = List.flatMap (tickS (Prod.fst d)) (List.take x'
  (Prod.snd d))))) ∧ (decide ((↑x : Int) < (↑(List.length (Prod.snd d)) : Int)) = false → ((Prod.fst d, List.map (tickH (Prod.fst d)) (List.take x (Prod.snd d)) ++ List.drop x (Prod.snd d)), List.flatMap (tickS (Prod.fst
  d)) (List.take x (Prod.snd d))) = tickF d))) := by
  intro (d : Int × List Hd) hw (hp : d.2.length ≤ 1048576)
  obtain ⟨p, xs⟩ := d
  simp only at hp
  simp only [Int.toNat_natCast, exists_const, and_true, true_and, implies_true, decide_eq_true_eq, decide_eq_false_iff_not, Bool.not_eq_true', Bool.not_eq_false', beq_iff_eq, forall_const]
  refine ⟨hp, fun _ => ⟨fun h => ?_, fun hc => ⟨by omega, ⟨rfl, by simp, by simp⟩, fun x h1 => ?_⟩⟩⟩
  · unfold tickF
    rw [if_neg (fun hh => by simp only at hh; rw [hh] at h; cases h)]
  rw [tick_len h1]
  refine ⟨fun h3 => ⟨⟨by omega, by omega⟩, ?_⟩, fun h3 => ?_⟩
  · have h4 : x < xs.length := by omega
    rw [wrap_succ (by omega), tick_get h4]
    have hs := tick_srv_len (p := p) (xs.take x)
    rw [List.length_take] at hs
    refine ⟨fun a1 => ⟨x + 1, by omega, by omega, rfl, tick_same h4 a1, ?_⟩, fun hne => ?_⟩
    · rw [tick_srv h4, show tickS p (xs.getD x (0, 0, 0)) = [] from if_pos a1, List.append_nil]
    · refine ⟨fun a2 => ⟨?_, ⟨by omega, by omega⟩, x + 1, by omega, by omega, rfl, tick_set h4 ?_, ?_⟩, fun a2 => ⟨⟨by omega, by omega⟩, ⟨by omega, by omega⟩, x + 1, by omega, by omega, rfl, tick_set h4 ?_, ?_⟩⟩
      · simp only [List.length_cons, List.length_nil]; omega
      · unfold tickH; rw [if_neg hne, if_pos a2]
      · rw [tick_srv h4]; unfold tickS; rw [if_neg hne, if_pos a2]
      · unfold tickH; rw [if_neg hne, if_neg a2]; rfl
      · rw [tick_srv h4]; unfold tickS; rw [if_neg hne, if_neg a2, List.append_nil]
  · have h4 : x = xs.length := by omega
    subst h4
    unfold tickF
    rw [if_pos hc, List.take_length, List.drop_length, List.append_nil]
end Go.SF
