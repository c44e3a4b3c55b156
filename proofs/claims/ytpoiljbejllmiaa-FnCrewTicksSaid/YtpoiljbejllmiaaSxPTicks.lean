/- The plain law of the crew's ticks. No condition. -/
import Derived.Test.YtpoiljbejllmiaaSxCTicks
import Derived.Test.YtpoiljbejllmiaaSxPCrew2
import Derived.Test.YtpoiljbejllmiaaSxPCode
namespace Go.SF
open Go.SX Go
set_option linter.unusedVariables false
set_option linter.unusedSimpArgs false
theorem due_le {c p m : Int} (hc : 1 ≤ c) (hp : 1 ≤ p) : (c + p - 1).tdiv p ≤ m ↔ c ≤ m * p := by
  rw [Int.tdiv_eq_ediv_of_nonneg (by omega)]
  rw [← Int.lt_add_one_iff, Int.ediv_lt_iff_lt_mul (by omega), Int.add_mul]
  omega
theorem rg_len (h : Nat) (g : Nat → Hd) : ((List.range h).map g).length = h := by simp
theorem rg_get {h i : Nat} (g : Nat → Hd) (hi : i < h) : ((List.range h).map g).getD i (0, 0, 0) = g i := by
  simp [List.getD_eq_getElem?_getD, hi]
theorem rg_ok {p : Int} {h : Nat} {g : Nat → Hd} (hp : 1 ≤ p ∧ p ≤ 200000) (hh : 1 ≤ h ∧ h ≤ 8)
    (hg : ∀ i, i < h → g i = (0, 0, 0) ∨ ∃ l : Int, g i = ((i : Int), 100 + (i : Int), l) ∧ 1 ≤ l ∧ l ≤ 200000) :
    crewOkF p ((List.range h).map g) = true := by
  rw [crew_iff, rg_len]
  refine ⟨hp, hh, fun j hj => ?_⟩
  rw [rg_get g hj]
  rcases hg j hj with h0 | ⟨l, hl, h1, h2⟩
  · left; rw [h0]; rfl
  · right
    refine ⟨?_, fun i hi => ?_⟩
    · rw [hl, hand_iff]; dsimp only; omega
    · rw [rg_get g hj, rg_get g (by omega), hl]
      rcases hg i (by omega) with h0 | ⟨l', hl', _, _⟩
      · rw [h0]; dsimp only; omega
      · rw [hl']; dsimp only; omega
theorem idleGo_at : ∀ (xs : List Hd) (s k : Nat), k < xs.length → (∀ j, j < k → idleF (xs.getD j (0, 0, 0)) = false) → idleF (xs.getD k (0, 0, 0)) = true → idleGo xs s = ((s + k : Nat) : Int)
  | [], _, _, h, _, _ => by simp at h
  | x :: xs, s, 0, _, _, h => by
    have : idleF x = true := h
    simp [idleGo, this]
  | x :: xs, s, k + 1, hl, h0, h => by
    have hx : idleF x = false := h0 0 (by omega)
    have := idleGo_at xs (s + 1) k (by simpa using hl) (fun j hj => by have := h0 (j + 1) (by omega); simpa using this) (by simpa using h)
    simp only [idleGo, hx]
    rw [if_neg (by simp), this]
    congr 1
    omega
theorem idleGo_none : ∀ (xs : List Hd) (s : Nat), (∀ j, j < xs.length → idleF (xs.getD j (0, 0, 0)) = false) → idleGo xs s = -1
  | [], _, _ => rfl
  | x :: xs, s, h0 => by
    have hx : idleF x = false := h0 0 (by simp)
    have := idleGo_none xs (s + 1) (fun j hj => by have := h0 (j + 1) (by simpa using hj); simpa using this)
    simp only [idleGo, hx]
    rw [if_neg (by simp), this]
theorem ticksGo_snoc (p : Int) (y : Hd) : ∀ (xs : List Hd) (m : Int), ticksGo p (xs ++ [y]) m = imax (ticksGo p xs m) (tickOf p y)
  | [], m => rfl
  | x :: xs, m => by
    simp only [List.cons_append, ticksGo]
    exact ticksGo_snoc p y xs _
theorem busyGo_zero : ∀ (xs : List Hd), (∀ x ∈ xs, x = (0, 0, 0)) → busyGo xs 0 = 0
  | [], _ => rfl
  | x :: xs, h => by
    have hx := h x (by simp)
    subst hx
    exact busyGo_zero xs (fun y hy => h y (by simp [hy]))
theorem flatMap_congr' {α β : Type} {f g : α → List β} : ∀ (xs : List α), (∀ x ∈ xs, f x = g x) → xs.flatMap f = xs.flatMap g
  | [], _ => rfl
  | x :: xs, h => by
    rw [List.flatMap_cons, List.flatMap_cons, h x (by simp), flatMap_congr' xs (fun y hy => h y (by simp [hy]))]
set_option linter.unusedSectionVars false
section
variable {c : List Int} (hw : Ty.wf codeT c) (hb : c.length ≤ 1048576)
include hw hb
theorem t_hands : 1 ≤ tHands c ∧ tHands c ≤ 8 := by
  have h := at_range hw hb (i := 0) (by omega) (by omega)
  have h1 := Int.tmod_nonneg (a := atF c 0) 8 (by omega)
  have h2 := Int.tmod_lt_of_pos (atF c 0) (show (0 : Int) < 8 by omega)
  unfold tHands; omega
theorem t_pace : 1 ≤ tPace c ∧ tPace c ≤ 256 := by
  have h := at_range hw hb (i := 1) (by omega) (by omega)
  unfold tPace; omega
theorem t_cost {i : Nat} (hi : i ≤ 8) : 1 ≤ tCost c i ∧ tCost c i ≤ 1276 := by
  have h := at_range hw hb (i := (i : Int) + 2) (by omega) (by omega)
  unfold tCost; omega
theorem t_due {i : Nat} (hi : i ≤ 8) (m : Int) : tDue c i ≤ m ↔ tCost c i ≤ m * tPace c :=
  due_le (t_cost hw hb hi).1 (t_pace hw hb).1
theorem t_due_pos {i : Nat} (hi : i ≤ 8) : 1 ≤ tDue c i ∧ tDue c i ≤ 1276 := by
  have h1 := t_due hw hb hi 0
  have h2 := t_due hw hb hi 1276
  have h3 := t_cost hw hb hi
  have h4 := t_pace hw hb
  have h5 : tDue c i ≤ 1276 := h2.2 (by omega)
  have h6 : ¬ tDue c i ≤ 0 := fun h => by have := h1.1 h; omega
  omega
theorem t_most : ∀ k, k ≤ 9 → 0 ≤ tMost c k ∧ tMost c k ≤ 1276 ∧ ∀ i, i < k → tDue c i ≤ tMost c k
  | 0, _ => ⟨Int.le_refl 0, by show (0 : Int) ≤ 1276; omega, fun i hi => by omega⟩
  | k + 1, hk => by
    obtain ⟨h0, h1, h2⟩ := t_most k (by omega)
    have h3 := t_due_pos hw hb (i := k) (by omega)
    have h4 : tMost c (k + 1) = if tMost c k < tDue c k then tDue c k else tMost c k := rfl
    rw [h4]
    refine ⟨by split <;> omega, by split <;> omega, fun i hi => ?_⟩
    rcases Nat.lt_succ_iff_lt_or_eq.1 hi with h | h
    · have := h2 i h; split <;> omega
    · subst h; split <;> omega
theorem t_wrapH : IntKind.i64.wrap (1 + (atF c 0).tmod 8) = tHands c := by
  have := t_hands hw hb
  exact wrap_small (by unfold tHands at this; omega)
theorem t_wrapP : IntKind.i64.wrap (1 + atF c 1) = tPace c := by
  have := t_pace hw hb
  exact wrap_small (by unfold tPace at this; omega)
theorem t_wrapC {x : Nat} (hx : x ≤ 8) : IntKind.i64.wrap (1 + IntKind.i64.wrap (atF c ((x : Int) + 2) * 5)) = tCost c x := by
  have := t_cost hw hb hx
  have h := at_range hw hb (i := (x : Int) + 2) (by omega) (by omega)
  rw [wrap_small (n := atF c ((x : Int) + 2) * 5) (by omega), wrap_small (by omega)]
  rfl
theorem t_wrapD {x : Nat} (hx : x ≤ 8) : IntKind.i64.wrap ((IntKind.i64.wrap (IntKind.i64.wrap (tCost c x + tPace c) - 1)).tdiv (tPace c)) = tDue c x := by
  have := t_cost hw hb hx
  have h1 := t_pace hw hb
  have h2 := t_due_pos hw hb hx
  rw [wrap_small (n := tCost c x + tPace c) (by omega), wrap_small (n := tCost c x + tPace c - 1) (by omega)]
  exact wrap_small (by unfold tDue at h2; omega)
theorem t_new : newCrewF (tHands c) (tPace c) = ((tPace c, tA c 0), true) := by
  have h1 := t_hands hw hb
  have h2 := t_pace hw hb
  unfold newCrewF tA
  rw [if_pos (by omega)]
  simp [List.map_const']
theorem tA_len (k : Nat) : (tA c k).length = (tHands c).toNat := rg_len _ _
theorem tT_len (k : Nat) : (tT c k).length = (tHands c).toNat := rg_len _ _
theorem tA_ok (k : Nat) : crewOkF (tPace c) (tA c k) = true := by
  have h1 := t_hands hw hb
  have h2 := t_pace hw hb
  refine rg_ok (by omega) (by omega) (fun i hi => ?_)
  have h3 := t_cost hw hb (i := i) (by omega)
  by_cases h : i < k
  · right; exact ⟨tCost c i, by rw [if_pos h], by omega, by omega⟩
  · left; rw [if_neg h]
theorem tT_ok (m : Nat) : crewOkF (tPace c) (tT c m) = true := by
  have h1 := t_hands hw hb
  have h2 := t_pace hw hb
  refine rg_ok (by omega) (by omega) (fun i hi => ?_)
  have h3 := t_cost hw hb (i := i) (by omega)
  by_cases h : tCost c i ≤ (m : Int) * tPace c
  · left; rw [if_pos h]
  · have h4 : 0 ≤ (m : Int) * tPace c := Int.mul_nonneg (by omega) (by omega)
    right; exact ⟨_, by rw [if_neg h], by omega, by omega⟩
theorem tA_get {k i : Nat} (hi : (i : Int) < tHands c) : (tA c k).getD i (0, 0, 0) = if i < k then ((i : Int), 100 + (i : Int), tCost c i) else (0, 0, 0) :=
  rg_get _ (by omega)
theorem tA_idle {k : Nat} (hk : (k : Int) < tHands c) : idleGo (tA c k) 0 = (k : Int) := by
  have := idleGo_at (tA c k) 0 k (by rw [tA_len hw hb]; omega) (fun j hj => by
    rw [tA_get hw hb (by omega), if_pos hj]
    cases h : idleF ((j : Int), 100 + (j : Int), tCost c j) with
    | false => rfl
    | true => rw [idle_iff] at h; injection h with h1 h2; injection h2 with h3 h4; omega) (by
    rw [tA_get hw hb (by omega), if_neg (by omega)]; rfl)
  rw [this]; simp
theorem tA_none {k : Nat} (hk : tHands c ≤ (k : Int)) : idleGo (tA c k) 0 = -1 := by
  refine idleGo_none _ _ (fun j hj => ?_)
  rw [tA_len hw hb] at hj
  rw [tA_get hw hb (by omega), if_pos (by omega)]
  cases h : idleF ((j : Int), 100 + (j : Int), tCost c j) with
  | false => rfl
  | true => rw [idle_iff] at h; injection h with h1 h2; injection h2 with h3 h4; omega
theorem tA_set {k : Nat} (hk : (k : Int) < tHands c) : (tA c k).set k ((k : Int), 100 + (k : Int), tCost c k) = tA c (k + 1) := by
  apply List.ext_getElem
  · rw [List.length_set, tA_len hw hb, tA_len hw hb]
  · intro i h1 h2
    rw [tA_len hw hb] at h2
    have e1 := tA_get hw hb (k := k) (i := i) (by omega)
    have e2 := tA_get hw hb (k := k + 1) (i := i) (by omega)
    rw [List.getElem_set]
    rw [List.getD_eq_getElem?_getD, List.getElem?_eq_getElem (by rw [tA_len hw hb]; omega)] at e1 e2
    simp only [Option.getD_some] at e1 e2
    rw [e1, e2]
    by_cases h : k = i
    · subst h; rw [if_pos rfl, if_pos (by omega)]
    · rw [if_neg h]
      by_cases h' : i < k
      · rw [if_pos h', if_pos (by omega)]
      · rw [if_neg h', if_neg (by omega)]
theorem t_assign {k : Nat} (hk : (k : Int) < tHands c) : assignF (tPace c, tA c k) (k : Int) (100 + (k : Int), tCost c k) = ((tPace c, tA c (k + 1)), true) := by
  unfold assignF
  have h1 := tA_idle hw hb hk
  dsimp only
  rw [h1, if_pos ⟨tA_ok hw hb k, by omega⟩, Int.toNat_natCast, tA_set hw hb hk]
  refine if_pos ⟨tA_ok hw hb _, ?_⟩
  show idleF ((k : Int), 100 + (k : Int), tCost c k) = false
  cases h : idleF ((k : Int), 100 + (k : Int), tCost c k) with
  | false => rfl
  | true => rw [idle_iff] at h; injection h with h1 h2; injection h2 with h3 h4; omega
theorem t_idleId {k : Nat} (hk : tHands c ≤ (k : Int)) : idleIdF (tPace c, tA c k) = -1 := by
  unfold idleIdF
  rw [if_pos (tA_ok hw hb k)]
  exact tA_none hw hb hk
theorem t_ticksGo : ∀ k, k ≤ 8 → ticksGo (tPace c) ((List.range k).map (fun i : Nat => ((i : Int), 100 + (i : Int), tCost c i))) 0 = tMost c k
  | 0, _ => rfl
  | k + 1, hk => by
    rw [List.range_succ, List.map_append, List.map_cons, List.map_nil, ticksGo_snoc, t_ticksGo k (by omega)]
    have h1 : tickOf (tPace c) ((k : Int), 100 + (k : Int), tCost c k) = tDue c k := t_wrapD hw hb (by omega)
    rw [h1]
    have h4 : tMost c (k + 1) = if tMost c k < tDue c k then tDue c k else tMost c k := rfl
    rw [h4]
    rfl
theorem tA_all {k : Nat} (hk : tHands c = (k : Int)) : tA c k = (List.range k).map (fun i : Nat => ((i : Int), 100 + (i : Int), tCost c i)) := by
  unfold tA
  rw [hk, Int.toNat_natCast]
  apply List.map_congr_left
  intro i hi
  rw [List.mem_range] at hi
  rw [if_pos hi]
theorem t_ticks {k : Nat} (hk : tHands c = (k : Int)) : ticksF (tPace c, tA c k) = tMost c k := by
  have h1 := t_hands hw hb
  unfold ticksF
  rw [if_pos (tA_ok hw hb k)]
  dsimp only
  rw [tA_all hw hb hk]
  exact t_ticksGo hw hb k (by omega)
theorem tT_zero {k : Nat} (hk : tHands c = (k : Int)) : tA c k = tT c 0 := by
  have h1 := t_hands hw hb
  rw [tA_all hw hb hk]
  unfold tT
  rw [hk, Int.toNat_natCast]
  apply List.map_congr_left
  intro i hi
  rw [List.mem_range] at hi
  have := t_cost hw hb (i := i) (by omega)
  rw [if_neg (by simp; omega)]
  simp
theorem t_tick (m : Nat) : tickF (tPace c, tT c m) = ((tPace c, tT c (m + 1)), tS c m (tHands c).toNat) := by
  have h1 := t_hands hw hb
  have h2 := t_pace hw hb
  unfold tickF
  rw [if_pos (tT_ok hw hb m)]
  dsimp only
  have hm : 0 ≤ (m : Int) * tPace c := Int.mul_nonneg (by omega) (by omega)
  have he : ((m + 1 : Nat) : Int) * tPace c = (m : Int) * tPace c + tPace c := by rw [Int.natCast_add, Int.add_mul]; simp
  congr 1
  · congr 1
    unfold tT
    rw [List.map_map]
    apply List.map_congr_left
    intro i hi
    rw [List.mem_range] at hi
    have h3 := t_cost hw hb (i := i) (by omega)
    rw [he]
    dsimp only [Function.comp]
    by_cases h : tCost c i ≤ (m : Int) * tPace c
    · rw [if_pos h, if_pos (by omega)]; rfl
    · rw [if_neg h]
      unfold tickH
      dsimp only
      rw [if_neg (by omega)]
      by_cases h' : tCost c i ≤ (m : Int) * tPace c + tPace c
      · rw [if_pos (by omega), if_pos h']
      · rw [if_neg (by omega), if_neg h']
        have : w64 (tCost c i - (m : Int) * tPace c - tPace c) = tCost c i - ((m : Int) * tPace c + tPace c) := by
          rw [show tCost c i - ((m : Int) * tPace c + tPace c) = tCost c i - (m : Int) * tPace c - tPace c by omega]
          exact wrap_small (by omega)
        rw [this]
  · unfold tT tS
    rw [List.flatMap_map]
    apply flatMap_congr'
    intro i hi
    rw [List.mem_range] at hi
    have h3 := t_cost hw hb (i := i) (by omega)
    have d1 := t_due hw hb (i := i) (by omega) (m : Int)
    have d2 := t_due hw hb (i := i) (by omega) ((m : Int) + 1)
    rw [show ((m : Int) + 1) * tPace c = (m : Int) * tPace c + tPace c by rw [Int.add_mul]; simp] at d2
    by_cases h : tCost c i ≤ (m : Int) * tPace c
    · rw [if_pos h, if_neg (by omega)]; rfl
    · rw [if_neg h]
      unfold tickS
      dsimp only
      rw [if_neg (by omega)]
      by_cases h' : tCost c i ≤ (m : Int) * tPace c + tPace c
      · rw [if_pos (by omega), if_pos (by omega)]
      · rw [if_neg (by omega), if_neg (by omega)]
theorem t_told (m : Nat) : ∀ h, tTold c (m + 1) h = tTold c m h + (tS c m h).length
  | 0 => rfl
  | h + 1 => by
    have ih := t_told m h
    unfold tTold tS at *
    rw [List.range_succ, List.filter_append, List.filter_append, List.flatMap_append, List.length_append, List.length_append, List.length_append, ih]
    simp only [List.filter_cons, List.filter_nil, List.flatMap_cons, List.flatMap_nil, List.append_nil, decide_eq_true_eq]
    split <;> split <;> split <;> simp <;> omega
theorem t_told0 {h : Nat} (hh : h ≤ 8) : tTold c 0 h = 0 := by
  unfold tTold
  rw [List.length_eq_zero_iff, List.filter_eq_nil_iff]
  intro i hi
  rw [List.mem_range] at hi
  have := t_due_pos hw hb (i := i) (by omega)
  simp; omega
theorem t_toldAll {m h : Nat} (hh : h ≤ 8) (hm : tMost c h ≤ (m : Int)) : tTold c m h = h := by
  unfold tTold
  rw [List.filter_eq_self.2, List.length_range]
  intro i hi
  rw [List.mem_range] at hi
  have := (t_most hw hb h (by omega)).2.2 i hi
  simp; omega
theorem t_told_le {m h : Nat} : tTold c m h ≤ h := by
  unfold tTold
  exact Nat.le_trans (List.length_filter_le _ _) (by simp)
theorem t_busy {m : Nat} (hm : tMost c (tHands c).toNat ≤ (m : Int)) : busyF (tPace c, tT c m) = 0 := by
  have h1 := t_hands hw hb
  unfold busyF
  rw [if_pos (tT_ok hw hb m)]
  apply busyGo_zero
  intro x hx
  unfold tT at hx
  rw [List.mem_map] at hx
  obtain ⟨i, hi, rfl⟩ := hx
  rw [List.mem_range] at hi
  have h2 := (t_most hw hb (tHands c).toNat (by omega)).2.2 i hi
  have h3 := t_due hw hb (i := i) (by omega) (m : Int)
  rw [if_pos (by omega)]
theorem tS_sorted (m : Nat) : ∀ h, (tS c m h).Pairwise (fun a b => a.1 < b.1) ∧ ∀ x ∈ tS c m h, ∃ i : Nat, i < h ∧ tDue c i = (m : Int) + 1 ∧ x = ((i : Int), 100 + (i : Int), 0)
  | 0 => ⟨by simp [tS], by simp [tS]⟩
  | h + 1 => by
    obtain ⟨h1, h2⟩ := tS_sorted m h
    have e : tS c m (h + 1) = tS c m h ++ (if tDue c h = (m : Int) + 1 then [((h : Int), 100 + (h : Int), 0)] else []) := by
      unfold tS
      rw [List.range_succ, List.flatMap_append]
      simp
    rw [e]
    split
    case isTrue hd =>
      refine ⟨List.pairwise_append.2 ⟨h1, by simp, fun a ha b hb' => ?_⟩, fun x hx => ?_⟩
      · obtain ⟨i, hi, _, rfl⟩ := h2 a ha
        simp at hb'
        subst hb'
        dsimp only; omega
      · rcases List.mem_append.1 hx with hx | hx
        · obtain ⟨i, hi, hh⟩ := h2 x hx
          exact ⟨i, by omega, hh⟩
        · simp at hx
          exact ⟨h, by omega, hd, hx⟩
    case isFalse hd =>
      rw [List.append_nil]
      exact ⟨h1, fun x hx => by obtain ⟨i, hi, hh⟩ := h2 x hx; exact ⟨i, by omega, hh⟩⟩
theorem tS_get {m h j : Nat} (hj : j < (tS c m h).length) : ∃ i : Nat, i < h ∧ tDue c i = (m : Int) + 1 ∧ (tS c m h).getD j (0, 0, 0) = ((i : Int), 100 + (i : Int), 0) := by
  rw [List.getD_eq_getElem?_getD, List.getElem?_eq_getElem hj]
  exact (tS_sorted hw hb m h).2 _ (List.getElem_mem hj)
theorem tS_lt {m h j : Nat} (h0 : 0 < j) (hj : j < (tS c m h).length) : ((tS c m h).getD (j - 1) (0, 0, 0)).1 < ((tS c m h).getD j (0, 0, 0)).1 := by
  rw [List.getD_eq_getElem?_getD, List.getD_eq_getElem?_getD, List.getElem?_eq_getElem hj, List.getElem?_eq_getElem (show j - 1 < (tS c m h).length by omega)]
  exact (List.pairwise_iff_getElem.1 (tS_sorted hw hb m h).1) _ _ _ _ (by omega)
theorem tD_len (k : Nat) : (tDues c k).length = k := by simp [tDues]
theorem tD_get {k i : Nat} (hi : i < k) : (tDues c k).getD i 0 = tDue c i := by
  simp [tDues, List.getD_eq_getElem?_getD, hi]
theorem tD_snoc (k : Nat) : tDues c k ++ [tDue c k] = tDues c (k + 1) := by
  simp [tDues, List.range_succ]
end
end Go.SF
