/- Two flows share a ring: what each is owed. No condition. -/
import Derived.Test.YtnjihkeflkemdaaSxC
import Derived.Test.YtnjihkeflkemdaaSxPRingW
import Derived.Test.YtnjihkeflkemdaaSxPCode
namespace Go.SF
open Go.SX Go
set_option linter.unusedVariables false
set_option linter.unusedSimpArgs false
/-! What each is owed -/
theorem frV_stepA {qa qb dA dB : Int} {fr : Bool} {a b : Int} {l : List Tk} (ha : 0 ≤ qa) (h : frV qa qb dA dB 1 fr a b) : frV qa qb (stepDf (4, qa, dA, l) fr) dB 1 true a b := by
  obtain ⟨X, Y, h1, h2, h3, h4, h5, h6, h7⟩ := h
  refine ⟨X, Y, h1, ?_, h3, ?_, h5, ?_, ?_⟩ <;> cases fr <;> simp [stepDf] at * <;> omega
theorem frV_serveA {qa qb dA dB a b c : Int} (h : frV qa qb dA dB 1 true a b) (h0 : 0 ≤ c) (hc : c ≤ dA) : frV qa qb (dA - c) dB 1 true (a + c) b := by
  obtain ⟨X, Y, h1, h2, h3, h4, h5, h6, h7⟩ := h
  refine ⟨X, Y, h1, ?_, h3, ?_, h5, ?_, ?_⟩ <;> simp at * <;> omega
theorem frV_waitA {qa qb dA dB a b : Int} (h : frV qa qb dA dB 1 true a b) (hd : dA ≤ 199999) : frV qa qb dA dB 2 false a b := by
  obtain ⟨X, Y, h1, h2, h3, h4, h5, h6, h7⟩ := h
  refine ⟨X, Y, h1, ?_, h3, ?_, h5, ?_, ?_⟩ <;> simp at * <;> omega
theorem frV_C {qa qb dA dB a b : Int} {fr fr' : Bool} (h : frV qa qb dA dB 2 fr a b) : frV qa qb dA dB 2 fr' a b := by
  obtain ⟨X, Y, h1, h2, h3, h4, h5, h6, h7⟩ := h
  refine ⟨X, Y, h1, ?_, h3, ?_, h5, ?_, ?_⟩ <;> simp at * <;> omega
theorem frV_C0 {qa qb dA dB a b : Int} {fr : Bool} (h : frV qa qb dA dB 2 fr a b) : frV qa qb dA dB 0 false a b := by
  obtain ⟨X, Y, h1, h2, h3, h4, h5, h6, h7⟩ := h
  refine ⟨X, Y, h1, ?_, h3, ?_, h5, ?_, ?_⟩ <;> simp at * <;> omega
theorem frV_stepB {qa qb dA dB : Int} {fr : Bool} {a b : Int} {l : List Tk} (hb : 0 ≤ qb) (h : frV qa qb dA dB 0 fr a b) : frV qa qb dA (stepDf (2, qb, dB, l) fr) 0 true a b := by
  obtain ⟨X, Y, h1, h2, h3, h4, h5, h6, h7⟩ := h
  cases fr with
  | true => refine ⟨X, Y, h1, ?_, ?_, h4, ?_, ?_, ?_⟩ <;> simp [stepDf] at * <;> omega
  | false =>
    refine ⟨X + qa, Y + qb, by rw [Int.add_mul, Int.add_mul, h1, Int.mul_comm qa qb], ?_, ?_, h4, ?_, ?_, ?_⟩ <;> simp [stepDf] at * <;> omega
theorem frV_serveB {qa qb dA dB a b c : Int} (h : frV qa qb dA dB 0 true a b) (h0 : 0 ≤ c) (hc : c ≤ dB) : frV qa qb dA (dB - c) 0 true a (b + c) := by
  obtain ⟨X, Y, h1, h2, h3, h4, h5, h6, h7⟩ := h
  refine ⟨X, Y, h1, ?_, ?_, h4, ?_, ?_, ?_⟩ <;> simp at * <;> omega
theorem frV_waitB {qa qb dA dB a b : Int} (h : frV qa qb dA dB 0 true a b) (hd : dB ≤ 199999) : frV qa qb dA dB 1 false a b := by
  obtain ⟨X, Y, h1, h2, h3, h4, h5, h6, h7⟩ := h
  refine ⟨X, Y, h1, ?_, h3, h4, h5, ?_, ?_⟩ <;> simp at * <;> omega
def frD (qa qb a b : Int) : Prop := a * qb - b * qa < 2 * (qa * qb) + 200000 * (qa + qb) ∧ -(2 * (qa * qb) + 200000 * (qa + qb)) < a * qb - b * qa
theorem frD_of {qa qb dA dB a b : Int} {t : Nat} {fr : Bool} (ha : 100 ≤ qa) (hb : 100 ≤ qb) (h : frV qa qb dA dB t fr a b) : frD qa qb a b := by
  obtain ⟨X, Y, h1, h2, h3, h4, h5, h6, h7⟩ := h
  have e : ∃ φ : Int, (φ = 0 ∨ φ = qa) ∧ dA = X + φ - a := by
    split at h2
    · exact ⟨0, .inl rfl, h2⟩
    · exact ⟨qa, .inr rfl, h2⟩
  obtain ⟨φ, hφ, hA⟩ := e
  have hq : 0 ≤ qa * qb := Int.mul_nonneg (by omega) (by omega)
  have hφ2 : 0 ≤ φ * qb ∧ φ * qb ≤ qa * qb := by
    rcases hφ with e | e
    · rw [e, Int.zero_mul]; exact ⟨Int.le_refl _, hq⟩
    · rw [e]; exact ⟨hq, Int.le_refl _⟩
  have a1 : a * qb = X * qb + φ * qb - dA * qb := by rw [← Int.add_mul, ← Int.sub_mul]; congr 1; omega
  have b1 : b * qa = Y * qa - dB * qa := by rw [← Int.sub_mul]; congr 1; omega
  have hdA : dA ≤ 199999 + qa := by split at h6 <;> omega
  have hdB : dB ≤ 199999 + qb := by split at h7 <;> omega
  have c1 : 0 ≤ dA * qb := Int.mul_nonneg h4 (by omega)
  have c2 : 0 ≤ dB * qa := Int.mul_nonneg h5 (by omega)
  have c3 : dA * qb ≤ (199999 + qa) * qb := Int.mul_le_mul_of_nonneg_right hdA (by omega)
  have c4 : dB * qa ≤ (199999 + qb) * qa := Int.mul_le_mul_of_nonneg_right hdB (by omega)
  rw [Int.add_mul] at c3 c4
  rw [Int.mul_comm qb qa] at c4
  unfold frD
  constructor <;> omega
/-- The rounds up to a ticket. -/
abbrev fr3 (qa qb dB dA dC : Int) (lB lA lC : List Tk) : List Fl := [(2, qb, dB, lB), (4, qa, dA, lA), (9, 100, dC, lC)]
def nx3R (qa qb : Int) (lA lB : List Tk) (a b : Int) (r : Rg × Int × Tk) : Prop :=
  ∃ (lB' lA' lC' : List Tk) (dB' dA' dC' : Int) (t' : Nat) (fr' : Bool), r.1 = (fr3 qa qb dB' dA' dC' lB' lA' lC', (t' : Int), fr') ∧ t' < 3 ∧ 1 ≤ r.2.2.2 ∧ r.2.2.2 ≤ 200000 ∧
    ((r.2.1 = 4 ∧ lA = r.2.2 :: lA' ∧ lB' = lB ∧ frD qa qb (a + r.2.2.2) b ∧ (lA' ≠ [] → lB' ≠ [] → frV qa qb dA' dB' t' fr' (a + r.2.2.2) b)) ∨
     (r.2.1 = 2 ∧ lB = r.2.2 :: lB' ∧ lA' = lA ∧ frD qa qb a (b + r.2.2.2) ∧ (lA' ≠ [] → lB' ≠ [] → frV qa qb dA' dB' t' fr' a (b + r.2.2.2))) ∨
     (r.2.1 = 9 ∧ lA' = lA ∧ lB' = lB ∧ frD qa qb a b ∧ (lA' ≠ [] → lB' ≠ [] → frV qa qb dA' dB' t' fr' a b)))
theorem fr3_mod {qa qb dB dA dC : Int} {lB lA lC : List Tk} : (2 + 1) % (fr3 qa qb dB dA dC lB lA lC).length = 0 := (rfl : (2 + 1) % 3 = 0)
theorem nx3 {qa qb : Int} (ha : 100 ≤ qa) (hb : 100 ≤ qb) : ∀ (n : Nat) (lB lA lC : List Tk) (dB dA dC : Int) (t : Nat) (fr : Bool) (a b : Int) (r : Rg × Int × Tk), ringOkF (fr3 qa qb dB dA dC lB lA lC) (t : Int) fr = true → t < 3 → lA ≠ [] → lB ≠ [] →
    frV qa qb dA dB t fr a b → nxGo n (fr3 qa qb dB dA dC lB lA lC) t fr = some r → nx3R qa qb lA lB a b r
  | 0, lB, lA, lC, dB, dA, dC, t, fr, a, b, r, _, _, _, _, _, h => by cases h
  | n + 1, lB, lA, lC, dB, dA, dC, 0, fr, a, b, r, hr, ht, hA, hB, hv, h => by
    obtain ⟨k, l, rfl⟩ : ∃ k l, lB = k :: l := by cases lB with | nil => exact absurd rfl hB | cons k l => exact ⟨k, l, rfl⟩
    have he : ((fr3 qa qb dB dA dC (k :: l) lA lC).getD 0 fl0).2.2.2 = k :: l := rfl
    obtain ⟨a1, a2, a3, a4, a5, a6, a7, a8, a9, a10⟩ := ring_head hr (show 0 < 3 by omega) he
    have hv2 := frV_stepB (l := k :: l) (by omega) hv
    by_cases hd : stepDf (2, qb, dB, k :: l) fr < k.2
    · rw [nx_wait he hd] at h
      have hr2 := ring_round hr (show 0 < 3 by omega) he hd
      exact nx3 ha hb n (k :: l) lA lC (stepDf (2, qb, dB, k :: l) fr) dA dC 1 false a b r hr2 (by omega) hA hB (frV_waitB hv2 (by omega)) h
    · have hv3 := frV_serveB hv2 (c := k.2) (by omega) (by omega)
      cases l with
      | nil =>
        rw [nx_last he hd] at h
        injection h with h
        subst h
        exact ⟨[], lA, lC, 0, dA, dC, 1, false, rfl, by omega, a3, a4, .inr (.inl ⟨rfl, rfl, rfl, frD_of ha hb hv3, fun _ h => absurd rfl h⟩)⟩
      | cons k2 l2 =>
        rw [nx_more he hd (by simp)] at h
        injection h with h
        subst h
        exact ⟨k2 :: l2, lA, lC, stepDf (2, qb, dB, k :: k2 :: l2) fr - k.2, dA, dC, 0, true, rfl, by omega, a3, a4, .inr (.inl ⟨rfl, rfl, rfl, frD_of ha hb hv3, fun _ _ => hv3⟩)⟩
  | n + 1, lB, lA, lC, dB, dA, dC, 1, fr, a, b, r, hr, ht, hA, hB, hv, h => by
    obtain ⟨k, l, rfl⟩ : ∃ k l, lA = k :: l := by cases lA with | nil => exact absurd rfl hA | cons k l => exact ⟨k, l, rfl⟩
    have he : ((fr3 qa qb dB dA dC lB (k :: l) lC).getD 1 fl0).2.2.2 = k :: l := rfl
    obtain ⟨a1, a2, a3, a4, a5, a6, a7, a8, a9, a10⟩ := ring_head hr (show 1 < 3 by omega) he
    have hv2 := frV_stepA (l := k :: l) (by omega) hv
    by_cases hd : stepDf (4, qa, dA, k :: l) fr < k.2
    · rw [nx_wait he hd] at h
      have hr2 := ring_round hr (show 1 < 3 by omega) he hd
      exact nx3 ha hb n lB (k :: l) lC dB (stepDf (4, qa, dA, k :: l) fr) dC 2 false a b r hr2 (by omega) hA hB (frV_waitA hv2 (by omega)) h
    · have hv3 := frV_serveA hv2 (c := k.2) (by omega) (by omega)
      cases l with
      | nil =>
        rw [nx_last he hd] at h
        injection h with h
        subst h
        exact ⟨lB, [], lC, dB, 0, dC, 2, false, rfl, by omega, a3, a4, .inl ⟨rfl, rfl, rfl, frD_of ha hb hv3, fun h => absurd rfl h⟩⟩
      | cons k2 l2 =>
        rw [nx_more he hd (by simp)] at h
        injection h with h
        subst h
        exact ⟨lB, k2 :: l2, lC, dB, stepDf (4, qa, dA, k :: k2 :: l2) fr - k.2, dC, 1, true, rfl, by omega, a3, a4, .inl ⟨rfl, rfl, rfl, frD_of ha hb hv3, fun _ _ => hv3⟩⟩
  | n + 1, lB, lA, [], dB, dA, dC, 2, fr, a, b, r, hr, ht, hA, hB, hv, h => by
    have he : ((fr3 qa qb dB dA dC lB lA []).getD 2 fl0).2.2.2 = [] := rfl
    have hf := ring_nil hr (show 2 < 3 by omega) he
    subst hf
    rw [nx_nil he, fr3_mod] at h
    exact nx3 ha hb n lB lA [] dB dA dC 0 false a b r (ring_turn0 hr (show 0 < 3 by omega)) (by omega) hA hB (frV_C0 hv) h
  | n + 1, lB, lA, k :: l, dB, dA, dC, 2, fr, a, b, r, hr, ht, hA, hB, hv, h => by
    have he : ((fr3 qa qb dB dA dC lB lA (k :: l)).getD 2 fl0).2.2.2 = k :: l := rfl
    obtain ⟨a1, a2, a3, a4, a5, a6, a7, a8, a9, a10⟩ := ring_head hr (show 2 < 3 by omega) he
    by_cases hd : stepDf (9, 100, dC, k :: l) fr < k.2
    · rw [nx_wait he hd, fr3_mod] at h
      have hr2 := ring_round hr (show 2 < 3 by omega) he hd
      rw [fr3_mod] at hr2
      exact nx3 ha hb n lB lA (k :: l) dB dA (stepDf (9, 100, dC, k :: l) fr) 0 false a b r hr2 (by omega) hA hB (frV_C0 hv) h
    · cases l with
      | nil =>
        rw [nx_last he hd, fr3_mod] at h
        injection h with h
        subst h
        exact ⟨lB, lA, [], dB, dA, 0, 0, false, rfl, by omega, a3, a4, .inr (.inr ⟨rfl, rfl, rfl, frD_of ha hb hv, fun _ _ => frV_C0 hv⟩)⟩
      | cons k2 l2 =>
        rw [nx_more he hd (by simp)] at h
        injection h with h
        subst h
        exact ⟨lB, lA, k2 :: l2, dB, dA, stepDf (9, 100, dC, k :: k2 :: l2) fr - k.2, 2, true, rfl, by omega, a3, a4, .inr (.inr ⟨rfl, rfl, rfl, frD_of ha hb hv, fun _ _ => frV_C hv⟩)⟩
  | n + 1, _, _, _, _, _, _, t + 3, _, _, _, _, _, ht, _, _, _, _ => absurd ht (by omega)
/-! The ring is made -/
theorem fl_empty {t q : Int} (ht : 0 ≤ t ∧ t ≤ 99) (hq : 100 ≤ q ∧ q ≤ 100000) : flowOkF (t, q, 0, []) false = true := flow_done (f := (t, q, 0, [])) ht hq
theorem fl_line {t q : Int} {l : List Tk} (ht : 0 ≤ t ∧ t ≤ 99) (hq : 100 ≤ q ∧ q ≤ 100000) (hl : lineOkF l = true) : flowOkF (t, q, 0, l) false = true := by
  refine flow_iff.2 ⟨ht, hq, hl, Int.le_refl _, (fun h => by cases h), fun _ => ⟨by show (0 : Int) ≤ 199999; omega, .inr rfl⟩⟩
theorem ring1 {qa : Int} (ha : 100 ≤ qa ∧ qa ≤ 100000) : ringOkF [(4, qa, 0, [])] 0 false = true := by
  refine ring_iff.2 ⟨ringHd_mk (by simp) (by simp) (by simp), fun j hj => ?_⟩
  have hj : j < 1 := hj
  have : j = 0 := by omega
  subst this
  exact ⟨fl_empty (by omega) ha, fun h => by omega⟩
theorem ring2 {qa qb : Int} (ha : 100 ≤ qa ∧ qa ≤ 100000) (hb : 100 ≤ qb ∧ qb ≤ 100000) : ringOkF [(2, qb, 0, []), (4, qa, 0, [])] 1 false = true := by
  refine ring_iff.2 ⟨ringHd_mk (by simp) (by simp) (by simp), fun j hj => ?_⟩
  have hj : j < 2 := hj
  have : j = 0 ∨ j = 1 := by omega
  rcases this with e | e <;> subst e
  · exact ⟨fl_empty (by omega) hb, fun h => by omega⟩
  · exact ⟨fl_empty (by omega) ha, fun _ => by show (2 : Int) < 4; omega⟩
theorem ring3 {qa qb : Int} {x : FrX} (ha : 100 ≤ qa ∧ qa ≤ 100000) (hb : 100 ≤ qb ∧ qb ≤ 100000) (h1 : lineOkF x.2.1 = true) (h2 : lineOkF x.2.2.1 = true) (h3 : lineOkF x.2.2.2 = true) : ringOkF (frR qa qb x) 1 false = true := by
  refine ring_iff.2 ⟨ringHd_mk (by simp [frR]) (by simp [frR]) (by simp [frR]), fun j hj => ?_⟩
  have hj : j < 3 := hj
  have : j = 0 ∨ j = 1 ∨ j = 2 := by omega
  rcases this with e | e | e <;> subst e
  · exact ⟨fl_line (by omega) hb h1, fun h => by omega⟩
  · exact ⟨fl_line (by omega) ha h2, fun _ => by show (2 : Int) < 4; omega⟩
  · exact ⟨fl_line (by omega) (by omega) h3, fun _ => by show (4 : Int) < 9; omega⟩
theorem lnJ_nil {id : Int} : lnJ [] id := ⟨line_iff.2 ⟨Nat.zero_le _, (fun x hx => by cases hx), List.Pairwise.nil⟩, fun t h => by cases h⟩
theorem add1 {qa : Int} (ha : 100 ≤ qa ∧ qa ≤ 100000) : addFlF ([], 0, false) 4 qa = (([(4, qa, 0, [])], 0, false), true) := by
  unfold addFlF
  have e : addOutF ([], 0, false) 4 qa = ([(4, qa, 0, [])], 0, false) := rfl
  rw [e, if_pos ⟨rfl, (by show (-1 : Int) < 0; omega), ring1 ha⟩]
theorem add2 {qa qb : Int} (ha : 100 ≤ qa ∧ qa ≤ 100000) (hb : 100 ≤ qb ∧ qb ≤ 100000) : addFlF ([(4, qa, 0, [])], 0, false) 2 qb = (([(2, qb, 0, []), (4, qa, 0, [])], 1, false), true) := by
  unfold addFlF
  have e : addOutF ([(4, qa, 0, [])], 0, false) 2 qb = ([(2, qb, 0, []), (4, qa, 0, [])], 1, false) := rfl
  rw [e, if_pos ⟨ring1 ha, (by show (-1 : Int) < 0; omega), ring2 ha hb⟩]
theorem add3 {qa qb : Int} (ha : 100 ≤ qa ∧ qa ≤ 100000) (hb : 100 ≤ qb ∧ qb ≤ 100000) : addFlF ([(2, qb, 0, []), (4, qa, 0, [])], 1, false) 9 100 = ((frR qa qb (0, [], [], []), 1, false), true) := by
  unfold addFlF
  have e : addOutF ([(2, qb, 0, []), (4, qa, 0, [])], 1, false) 9 100 = (frR qa qb (0, [], [], []), 1, false) := rfl
  rw [e, if_pos ⟨ring2 ha hb, (by show (-1 : Int) < 0; omega), ring3 ha hb (lnJ_nil (id := 0)).1 (lnJ_nil (id := 0)).1 (lnJ_nil (id := 0)).1⟩]
theorem lnJ_mono {l : List Tk} {id id' : Int} (h : lnJ l id) (hi : id ≤ id') : lnJ l id' := ⟨h.1, fun t ht => Int.le_trans (h.2 t ht) hi⟩
theorem lnJ_push {l : List Tk} {id c : Int} (h : lnJ l id) (h0 : 0 ≤ id) (h1 : id ≤ 100000) (hl : l.length < 40) (hc : 1 ≤ c ∧ c ≤ 200000) : lnJ (l ++ [(id + 1, c)]) (id + 1) := by
  obtain ⟨a, b⟩ := h
  obtain ⟨a1, a2, a3⟩ := line_iff.1 a
  refine ⟨line_iff.2 ⟨by simp; omega, fun x hx => ?_, ?_⟩, fun t ht => ?_⟩
  · rcases List.mem_append.1 hx with h | h
    · exact a2 x h
    · rw [List.mem_singleton.1 h]; unfold isTicketF
      simp only [Bool.and_eq_true, decide_eq_true_eq]
      omega
  · refine List.pairwise_append.2 ⟨a3, List.pairwise_singleton .., fun x hx y hy => ?_⟩
    rw [List.mem_singleton.1 hy]
    have := b x hx
    show x.1 < id + 1
    omega
  · rcases List.mem_append.1 ht with h | h
    · have := b t h; omega
    · rw [List.mem_singleton.1 h]; exact Int.le_refl _
def frPu (k : Nat) (x : FrX) (c : Int) : FrX :=
  if k = 0 then (x.1 + 1, x.2.1, x.2.2.1 ++ [(x.1 + 1, c)], x.2.2.2) else if k = 2 then (x.1 + 1, x.2.1, x.2.2.1, x.2.2.2 ++ [(x.1 + 1, c)]) else (x.1 + 1, x.2.1 ++ [(x.1 + 1, c)], x.2.2.1, x.2.2.2)
theorem ipush_ok {l : List Tk} {t : Tk} (h : lineOkF (l ++ [t]) = true) : ipushF l t = (l ++ [t], true) := if_pos h
theorem fr_push {qa qb : Int} {i k : Nat} {x : FrX} {c : Int} (ha : 100 ≤ qa ∧ qa ≤ 100000) (hb : 100 ≤ qb ∧ qb ≤ 100000) (hi : i < 40) (hk : k < 3) (h : frP i k x) (hc : 1 ≤ c ∧ c ≤ 200000) :
    pushTkF (frR qa qb x, 1, false) (tenK k) (x.1 + 1, c) = ((frR qa qb (frPu k x c), 1, false), true) ∧ frP i (k + 1) (frPu k x c) := by
  obtain ⟨h1, h2, h3, h4, h5, h6, h7, h8⟩ := h
  have hr := ring3 ha hb h3.1 h4.1 h5.1
  have hk3 : k = 0 ∨ k = 1 ∨ k = 2 := by omega
  rcases hk3 with e | e | e <;> subst e
  · have hp := lnJ_push (c := c) h4 h1 (by omega) (by simp at h7; omega) hc
    refine ⟨?_, by show 0 ≤ x.1 + 1; omega, ?_, lnJ_mono h3 (by show x.1 ≤ x.1 + 1; omega), hp, lnJ_mono h5 (by show x.1 ≤ x.1 + 1; omega), ?_, ?_, ?_⟩
    · unfold pushTkF
      have e : fidxGo (tenK 0) (frR qa qb x) 0 = 1 := rfl
      simp only [e]
      rw [if_pos ⟨hr, by omega⟩, show ((frR qa qb x).getD (1 : Int).toNat fl0).2.2.2 = x.2.2.1 from rfl, ipush_ok hp.1]
      rfl
    · show x.1 + 1 ≤ _; omega
    · exact h6
    · show (x.2.2.1 ++ [(x.1 + 1, c)]).length = _; rw [List.length_append, h7]; simp
    · exact h8
  · have hp := lnJ_push (c := c) h3 h1 (by omega) (by simp at h6; omega) hc
    refine ⟨?_, by show 0 ≤ x.1 + 1; omega, ?_, hp, lnJ_mono h4 (by show x.1 ≤ x.1 + 1; omega), lnJ_mono h5 (by show x.1 ≤ x.1 + 1; omega), ?_, ?_, ?_⟩
    · unfold pushTkF
      have e : fidxGo (tenK 1) (frR qa qb x) 0 = 0 := rfl
      simp only [e]
      rw [if_pos ⟨hr, by omega⟩, show ((frR qa qb x).getD (0 : Int).toNat fl0).2.2.2 = x.2.1 from rfl, ipush_ok hp.1]
      rfl
    · show x.1 + 1 ≤ _; omega
    · show (x.2.1 ++ [(x.1 + 1, c)]).length = _; rw [List.length_append, h6]; simp
    · exact h7
    · exact h8
  · have hp := lnJ_push (c := c) h5 h1 (by omega) (by simp at h8; omega) hc
    refine ⟨?_, by show 0 ≤ x.1 + 1; omega, ?_, lnJ_mono h3 (by show x.1 ≤ x.1 + 1; omega), lnJ_mono h4 (by show x.1 ≤ x.1 + 1; omega), hp, ?_, ?_, ?_⟩
    · unfold pushTkF
      have e : fidxGo (tenK 2) (frR qa qb x) 0 = 2 := rfl
      simp only [e]
      rw [if_pos ⟨hr, by omega⟩, show ((frR qa qb x).getD (2 : Int).toNat fl0).2.2.2 = x.2.2.2 from rfl, ipush_ok hp.1]
      rfl
    · show x.1 + 1 ≤ _; omega
    · exact h6
    · exact h7
    · show (x.2.2.2 ++ [(x.1 + 1, c)]).length ≤ _; rw [List.length_append]; simp at h8 ⊢; omega
theorem fr_skip {i : Nat} {x : FrX} (h : frP i 2 x) : frP i 3 x := by
  obtain ⟨h1, h2, h3, h4, h5, h6, h7, h8⟩ := h
  refine ⟨h1, by omega, h3, h4, h5, h6, h7, ?_⟩
  simp at h8 ⊢; omega
theorem fr_next {i k : Nat} {x : FrX} (hk : k = 3) (h : frP i k x) : frP (i + 1) 0 x := by
  subst hk
  obtain ⟨h1, h2, h3, h4, h5, h6, h7, h8⟩ := h
  exact ⟨h1, by omega, h3, h4, h5, h6, h7, h8⟩
theorem fr_gap {qa qb : Int} {x : FrX} (ha : 100 ≤ qa ∧ qa ≤ 2000) (hb : 100 ≤ qb ∧ qb ≤ 2000) (h : frP 40 0 x) : gapF (frR qa qb x, 1, false) 4 2 = gapOf qa qb ∧ gapOf qa qb = 2 * (qa * qb) + 200000 * (qa + qb) ∧ 0 ≤ qa * qb ∧ qa * qb ≤ 4000000 := by
  obtain ⟨h1, h2, h3, h4, h5, h6, h7, h8⟩ := h
  have hr := ring3 (qa := qa) (qb := qb) (by omega) (by omega) h3.1 h4.1 h5.1
  have p1 : 0 ≤ qa * qb := Int.mul_nonneg (by omega) (by omega)
  have p2 : qa * qb ≤ 2000 * 2000 := Int.le_trans (Int.mul_le_mul_of_nonneg_right ha.2 (by omega)) (Int.mul_le_mul_of_nonneg_left hb.2 (by omega))
  refine ⟨?_, ?_, p1, p2⟩
  · unfold gapF
    have e1 : fidxGo 4 (frR qa qb x) 0 = 1 := rfl
    have e2 : fidxGo 2 (frR qa qb x) 0 = 0 := rfl
    simp only [e1, e2]
    rw [if_pos ⟨hr, by omega, by omega⟩]
    rfl
  · unfold gapOf w64
    have : 2 * qa * qb = 2 * (qa * qb) := Int.mul_assoc ..
    rw [wrap_small (n := 2 * qa) (by omega), this, wrap_small (n := 2 * (qa * qb)) (by omega), wrap_small (n := qa + qb) (by omega), wrap_small (n := 200000 * (qa + qb)) (by omega), wrap_small (by omega)]
theorem fr_start {qa qb : Int} {x : FrX} (ha : 100 ≤ qa ∧ qa ≤ 2000) (hb : 100 ≤ qb ∧ qb ≤ 2000) (h : frP 40 0 x) : frH qa qb ((frR qa qb x, 1, false), 0, 0) := by
  obtain ⟨h1, h2, h3, h4, h5, h6, h7, h8⟩ := h
  have hr := ring3 (qa := qa) (qb := qb) (by omega) (by omega) h3.1 h4.1 h5.1
  refine ⟨hr, Int.le_refl _, Int.le_refl _, ?_, ?_, x.2.1, x.2.2.1, x.2.2.2, 0, 0, 0, 1, false, rfl, by omega, fun _ _ => ⟨0, 0, by simp, by simp, by simp, by omega, by omega, by simp, by simp⟩⟩
  · show (0 : Int) + 200000 * (x.2.2.1.length : Int) ≤ 8000000
    rw [h7]; simp
  · show (0 : Int) + 200000 * (x.2.1.length : Int) ≤ 8000000
    rw [h6]; simp
/-- One ticket more. -/
theorem fr_tick {qa qb : Int} {x : FrY} (ha : 100 ≤ qa ∧ qa ≤ 2000) (hb : 100 ≤ qb ∧ qb ≤ 2000) (h : frH qa qb x) (hA : 0 < lnA x.1) (hB : 0 < lnB x.1) :
    (nextTkF x.1).2.2.2 = true ∧ FlsP x.1.1 ∧ (waitGo (nextTkF x.1).1.1 0).toNat < (waitGo x.1.1 0).toNat ∧ 1 ≤ (nextTkF x.1).2.2.1.2 ∧ (nextTkF x.1).2.2.1.2 ≤ 200000 ∧
    (((nextTkF x.1).2.1 = 4 ∧ frH qa qb ((nextTkF x.1).1, x.2.1 + (nextTkF x.1).2.2.1.2, x.2.2) ∧ lnA x.1 = lnA (nextTkF x.1).1 + 1 ∧ lnB (nextTkF x.1).1 = lnB x.1 ∧ frD qa qb (x.2.1 + (nextTkF x.1).2.2.1.2) x.2.2) ∨
     ((nextTkF x.1).2.1 = 2 ∧ frH qa qb ((nextTkF x.1).1, x.2.1, x.2.2 + (nextTkF x.1).2.2.1.2) ∧ lnA (nextTkF x.1).1 = lnA x.1 ∧ lnB x.1 = lnB (nextTkF x.1).1 + 1 ∧ frD qa qb x.2.1 (x.2.2 + (nextTkF x.1).2.2.1.2)) ∨
     ((nextTkF x.1).2.1 = 9 ∧ frH qa qb ((nextTkF x.1).1, x.2.1, x.2.2) ∧ lnA (nextTkF x.1).1 = lnA x.1 ∧ lnB (nextTkF x.1).1 = lnB x.1 ∧ frD qa qb x.2.1 x.2.2)) := by
  obtain ⟨r, a, b⟩ := x
  obtain ⟨hr, h0a, h0b, hua, hub, lB, lA, lC, dB, dA, dC, t, fr, hx, ht, hv⟩ := h
  simp only at hr h0a h0b hua hub hx hv hA hB ⊢
  subst hx
  have eA : lnA (fr3 qa qb dB dA dC lB lA lC, (t : Int), fr) = lA.length := rfl
  have eB : lnB (fr3 qa qb dB dA dC lB lA lC, (t : Int), fr) = lB.length := rfl
  have hlA : lA ≠ [] := fun e => by rw [eA, e] at hA; exact absurd hA (Nat.lt_irrefl 0)
  have hlB : lB ≠ [] := fun e => by rw [eB, e] at hB; exact absurd hB (Nat.lt_irrefl 0)
  obtain ⟨w1, w2⟩ := ring_tot hr
  have w2 : waitGo (fr3 qa qb dB dA dC lB lA lC) 0 = totT (fr3 qa qb dB dA dC lB lA lC) := w2
  have w1 : totT (fr3 qa qb dB dA dC lB lA lC) ≤ 480 := w1
  have pA := List.length_pos_iff.2 hlA
  have htot : totT (fr3 qa qb dB dA dC lB lA lC) = lB.length + (lA.length + (lC.length + 0)) := rfl
  have hw : waitGo (fr3 qa qb dB dA dC lB lA lC) 0 ≠ 0 := by rw [w2, htot]; omega
  obtain ⟨y, y1, y2, y3, y4, y5, y6, i, l, y7, y8, y9, y10⟩ := nx_ok (r := (fr3 qa qb dB dA dC lB lA lC, (t : Int), fr)) hr hw
  have hn : nextTkF (fr3 qa qb dB dA dC lB lA lC, (t : Int), fr) = (y.1, y.2.1, y.2.2, true) := by unfold nextTkF; rw [if_pos hr, y2]
  obtain ⟨lB', lA', lC', dB', dA', dC', t', fr', z1, z2, z3, z4, z5⟩ := nx3 ha.1 hb.1 _ lB lA lC dB dA dC t fr a b y hr ht hlA hlB (hv hlA hlB) y1
  rw [hn]
  simp only
  have hf : FlsP (fr3 qa qb dB dA dC lB lA lC) := by
    rw [htot] at w1
    refine ⟨by simp, fun f hf => ?_⟩
    simp only [List.mem_cons, List.mem_nil_iff, or_false] at hf
    rcases hf with e | e | e <;> subst e <;> simp only <;> omega
  obtain ⟨v1, v2⟩ := ring_tot y3
  rw [eA] at hua
  rw [eB] at hub
  have y4 : totT y.1.1 + 1 = totT (fr3 qa qb dB dA dC lB lA lC) := y4
  refine ⟨trivial, hf, by rw [v2, w2]; omega, z3, z4, ?_⟩
  have eA' : lnA y.1 = lA'.length := by rw [z1]; rfl
  have eB' : lnB y.1 = lB'.length := by rw [z1]; rfl
  rw [eA, eB, eA', eB']
  rcases z5 with ⟨e1, e2, e3, e4, e5⟩ | ⟨e1, e2, e3, e4, e5⟩ | ⟨e1, e2, e3, e4, e5⟩
  · have hl := congrArg List.length e2
    rw [List.length_cons] at hl
    refine .inl ⟨e1, ⟨y3, by simp only; omega, h0b, ?_, ?_, lB', lA', lC', dB', dA', dC', t', fr', z1, z2, e5⟩, hl, by rw [e3], e4⟩
    · simp only; rw [eA']; omega
    · simp only; rw [eB', e3]; omega
  · have hl := congrArg List.length e2
    rw [List.length_cons] at hl
    refine .inr (.inl ⟨e1, ⟨y3, h0a, by simp only; omega, ?_, ?_, lB', lA', lC', dB', dA', dC', t', fr', z1, z2, e5⟩, by rw [e3], hl, e4⟩)
    · simp only; rw [eA', e3]; omega
    · simp only; rw [eB']; omega
  · refine .inr (.inr ⟨e1, ⟨y3, h0a, h0b, ?_, ?_, lB', lA', lC', dB', dA', dC', t', fr', z1, z2, e5⟩, by rw [e2], by rw [e3], e4⟩)
    · simp only; rw [eA', e2]; omega
    · simp only; rw [eB', e3]; omega
end Go.SF
