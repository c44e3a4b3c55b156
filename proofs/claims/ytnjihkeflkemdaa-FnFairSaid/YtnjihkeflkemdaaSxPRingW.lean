/- Tickets served. No condition. -/
import Derived.Test.YtnjihkeflkemdaaSxC
import Derived.Test.YtnjihkeflkemdaaSxPRingV
import Derived.Test.YtnjihkeflkemdaaSxPServed
namespace Go.SF
open Go.SX Go
set_option linter.unusedVariables false
set_option linter.unusedSimpArgs false
/-! Rounds -/
theorem getD_set_eq {α : Type} {l : List α} {t : Nat} {a d : α} (h : t < l.length) (k : Nat) : (l.set t a).getD k d = if k = t then a else l.getD k d := by
  simp only [List.getD_eq_getElem?_getD, List.getElem?_set]
  by_cases e : k = t
  · subst e; simp [h]
  · rw [if_neg (fun h => e h.symm), if_neg e]
theorem ring_set {fs : List Fl} {t t' : Nat} {fr fr' : Bool} {f' : Fl} (h : ringOkF fs t fr = true) (ht : t < fs.length) (ht' : t' < fs.length) (h1 : f'.1 = (fs.getD t fl0).1) (h2 : flowOkF f' fr' = true) (h3 : fr' = true → t' = t) : ringOkF (fs.set t f') t' fr' = true := by
  obtain ⟨a, b⟩ := ring_iff.1 h
  refine ring_iff.2 ⟨ringHd_mk (by rw [List.length_set]; exact a.1) (fun h => by rw [List.length_set] at h; omega) (fun _ => by rw [List.length_set]; omega), fun j hj => ?_⟩
  rw [List.length_set] at hj
  obtain ⟨b1, b2⟩ := b j hj
  have hg : ∀ k, (fs.set t f').getD k (0, 0, 0, []) = if k = t then f' else fs.getD k (0, 0, 0, []) := getD_set_eq ht
  have ht1 : ∀ k, ((fs.set t f').getD k (0, 0, 0, [])).1 = (fs.getD k (0, 0, 0, [])).1 := by
    intro k
    rw [hg]
    split
    · rename_i e; subst e; exact h1
    · rfl
  refine ⟨?_, fun h => by rw [ht1, ht1]; exact b2 h⟩
  rw [hg]
  by_cases e : j = t
  · subst e
    rw [if_pos rfl]
    have : (fr' && decide ((j : Int) = (t' : Int))) = fr' := by
      cases fr' with
      | false => rfl
      | true => rw [h3 rfl]; simp
    rw [this]; exact h2
  · rw [if_neg e]
    have : (fr' && decide ((j : Int) = (t' : Int))) = false := by
      cases fr' with
      | false => rfl
      | true =>
        rw [h3 rfl, Bool.true_and, decide_eq_false_iff_not]
        omega
    rw [this]
    have h0 : (fr && decide ((j : Int) = (t : Int))) = false := by
      rw [show decide ((j : Int) = (t : Int)) = false from decide_eq_false (by omega), Bool.and_false]
    rw [h0] at b1; exact b1
theorem ring_turn0 {fs : List Fl} {t t' : Nat} (h : ringOkF fs t false = true) (ht' : t' < fs.length) : ringOkF fs t' false = true := by
  obtain ⟨a, b⟩ := ring_iff.1 h
  exact ring_iff.2 ⟨ringHd_mk a.1 (fun h => by omega) (fun _ => by omega), fun j hj => b j hj⟩
theorem ring_at {fs : List Fl} {t : Nat} {fr : Bool} (h : ringOkF fs t fr = true) (ht : t < fs.length) : flowOkF (fs.getD t fl0) fr = true := by
  have := ((ring_iff.1 h).2 t ht).1
  rw [show decide ((t : Int) = (t : Int)) = true from decide_eq_true rfl, Bool.and_true] at this
  exact this
theorem ring_nil {fs : List Fl} {t : Nat} {fr : Bool} (h : ringOkF fs t fr = true) (ht : t < fs.length) (he : (fs.getD t fl0).2.2.2 = []) : fr = false := by
  have h1 := flow_iff.1 (ring_at h ht)
  cases fr with
  | false => rfl
  | true =>
    have := (h1.2.2.2.2.1 rfl).1
    rw [he] at this
    exact absurd this (Nat.lt_irrefl 0)
/-- The head of a line, and what a flow serves with. -/
theorem ring_head {fs : List Fl} {t : Nat} {fr : Bool} (h : ringOkF fs t fr = true) (ht : t < fs.length) {k : Tk} {l : List Tk} (he : (fs.getD t fl0).2.2.2 = k :: l) :
    0 ≤ stepDf (fs.getD t fl0) fr ∧ stepDf (fs.getD t fl0) fr ≤ 299999 ∧ 1 ≤ k.2 ∧ k.2 ≤ 200000 ∧ lineOkF (k :: l) = true ∧ lineOkF l = true ∧ (0 ≤ (fs.getD t fl0).1 ∧ (fs.getD t fl0).1 ≤ 99) ∧ (100 ≤ (fs.getD t fl0).2.1 ∧ (fs.getD t fl0).2.1 ≤ 100000) ∧ 0 ≤ (fs.getD t fl0).2.2.1 ∧ (fs.getD t fl0).2.2.1 ≤ 299999 := by
  have h1 := flow_iff.1 (ring_at h ht)
  rw [he] at h1
  obtain ⟨a, b, c, d, e, f⟩ := h1
  have hk : isTicketF k = true := (line_iff.1 c).2.1 k (List.mem_cons_self ..)
  unfold isTicketF at hk
  simp only [Bool.and_eq_true, decide_eq_true_eq] at hk
  unfold stepDf
  refine ⟨?_, ?_, hk.1.2, hk.2, c, line_sub c (List.sublist_cons_self _ _), a, b, d, ?_⟩
  · split <;> omega
  · cases fr with
    | true => rw [if_pos rfl]; exact (e rfl).2
    | false => rw [if_neg (by simp)]; have := (f rfl).1; omega
  · cases fr with
    | true => exact (e rfl).2
    | false => have := (f rfl).1; omega
theorem flow_wait {f : Fl} {k : Tk} {l : List Tk} {df : Int} (h1 : 0 ≤ f.1 ∧ f.1 ≤ 99) (h2 : 100 ≤ f.2.1 ∧ f.2.1 ≤ 100000) (h3 : lineOkF (k :: l) = true) (h4 : 0 ≤ df) (h5 : df ≤ 199999) : flowOkF (f.1, f.2.1, df, k :: l) false = true :=
  flow_iff.2 ⟨h1, h2, h3, h4, (fun h => by cases h), fun _ => ⟨h5, .inl (Nat.succ_pos _)⟩⟩
theorem flow_rest {f : Fl} {l : List Tk} {df : Int} (h1 : 0 ≤ f.1 ∧ f.1 ≤ 99) (h2 : 100 ≤ f.2.1 ∧ f.2.1 ≤ 100000) (h3 : lineOkF l = true) (h4 : 0 ≤ df) (h5 : df ≤ 299999) (h6 : l ≠ []) : flowOkF (f.1, f.2.1, df, l) true = true :=
  flow_iff.2 ⟨h1, h2, h3, h4, (fun _ => ⟨Nat.pos_of_ne_zero (fun h => h6 (List.length_eq_zero_iff.1 h)), h5⟩), fun h => by cases h⟩
theorem flow_done {f : Fl} (h1 : 0 ≤ f.1 ∧ f.1 ≤ 99) (h2 : 100 ≤ f.2.1 ∧ f.2.1 ≤ 100000) : flowOkF (f.1, f.2.1, 0, []) false = true :=
  flow_iff.2 ⟨h1, h2, line_iff.2 ⟨Nat.zero_le _, (fun x hx => by cases hx), List.Pairwise.nil⟩, Int.le_refl _, (fun h => by cases h), fun _ => ⟨by show (0 : Int) ≤ 199999; omega, .inr rfl⟩⟩
theorem ring_n {fs : List Fl} {t : Int} {fr : Bool} (h : ringOkF fs t fr = true) (hn : 0 < fs.length) : ∃ k : Nat, t = k ∧ k < fs.length := by
  have := (ring_iff.1 h).1.2.2 hn
  simp only at this
  exact ⟨t.toNat, by omega, by omega⟩
/-- One round that serves nothing keeps the ring well. -/
theorem ring_round {fs : List Fl} {t : Nat} {fr : Bool} (h : ringOkF fs t fr = true) (ht : t < fs.length) {k : Tk} {l : List Tk} (he : (fs.getD t fl0).2.2.2 = k :: l) (hd : stepDf (fs.getD t fl0) fr < k.2) :
    ringOkF (fs.set t ((fs.getD t fl0).1, (fs.getD t fl0).2.1, stepDf (fs.getD t fl0) fr, k :: l)) ((t + 1) % fs.length : Nat) false = true := by
  obtain ⟨a1, a2, a3, a4, a5, a6, a7, a8, a9, a10⟩ := ring_head h ht he
  exact ring_set h ht (Nat.mod_lt _ (by omega)) rfl (flow_wait a7 a8 a5 a1 (by omega)) (fun h => by cases h)
/-! The rounds end -/
theorem gap_le (fs : List Fl) : ∀ k t, gapN fs k t ≤ k
  | 0, _ => Nat.le_refl _
  | k + 1, t => by
    unfold gapN
    split
    · have := gap_le fs k ((t + 1) % fs.length); omega
    · omega
theorem gap_stable {fs : List Fl} : ∀ k t, (∃ j, j < k ∧ (fs.getD ((t + j) % fs.length) fl0).2.2.2 ≠ []) → t < fs.length → gapN fs (k + 1) t = gapN fs k t
  | 0, t, ⟨j, hj, _⟩, _ => absurd hj (Nat.not_lt_zero _)
  | k + 1, t, ⟨j, hj, hx⟩, ht => by
    rw [gapN, gapN.eq_def fs (k + 1) t]
    simp only
    by_cases he : (fs.getD t fl0).2.2.2 = []
    · rw [if_pos he, if_pos he]
      congr 1
      refine gap_stable k _ ?_ (Nat.mod_lt _ (by omega))
      cases j with
      | zero => rw [Nat.add_zero, Nat.mod_eq_of_lt ht] at hx; exact absurd he hx
      | succ j =>
        refine ⟨j, by omega, ?_⟩
        rw [Nat.mod_add_mod]
        rw [show t + 1 + j = t + (j + 1) by omega]
        exact hx
    · rw [if_neg he, if_neg he]
theorem need_set : ∀ (fs : List Fl) (t : Nat) (f : Fl), t < fs.length → need (fs.set t f) + needF (fs.getD t fl0) = need fs + needF f
  | [], t, f, h => absurd h (Nat.not_lt_zero _)
  | g :: fs, 0, f, _ => by show needF f + need fs + needF g = needF g + need fs + needF f; omega
  | g :: fs, t + 1, f, h => by
    have := need_set fs t f (by simpa using h)
    show needF g + need (fs.set t f) + needF (fs.getD t fl0) = needF g + need fs + needF f
    omega
/-- How many tickets wait. -/
def totT : List Fl → Nat
  | [] => 0
  | f :: fs => f.2.2.2.length + totT fs
theorem tot_has : ∀ {fs : List Fl}, totT fs ≠ 0 → ∃ i, i < fs.length ∧ (fs.getD i fl0).2.2.2 ≠ []
  | [], h => absurd rfl h
  | f :: fs, h => by
    by_cases hf : f.2.2.2 = []
    · obtain ⟨i, h1, h2⟩ := tot_has (fs := fs) (fun e => h (by rw [totT, hf, e]; rfl))
      exact ⟨i + 1, by simpa using h1, by simpa using h2⟩
    · exact ⟨0, Nat.succ_pos _, by simpa using hf⟩
theorem tot_set : ∀ (fs : List Fl) (t : Nat) (f : Fl), t < fs.length → totT (fs.set t f) + (fs.getD t fl0).2.2.2.length = totT fs + f.2.2.2.length
  | [], t, f, h => absurd h (Nat.not_lt_zero _)
  | g :: fs, 0, f, _ => by show f.2.2.2.length + totT fs + g.2.2.2.length = g.2.2.2.length + totT fs + f.2.2.2.length; omega
  | g :: fs, t + 1, f, h => by
    have := tot_set fs t f (by simpa using h)
    show g.2.2.2.length + totT (fs.set t f) + (fs.getD t fl0).2.2.2.length = g.2.2.2.length + totT fs + f.2.2.2.length
    omega
theorem turn_has {fs : List Fl} {t : Nat} (ht : t < fs.length) (h : totT fs ≠ 0) : ∃ j, j < fs.length ∧ (fs.getD ((t + j) % fs.length) fl0).2.2.2 ≠ [] := by
  obtain ⟨i, h1, h2⟩ := tot_has h
  by_cases hti : t ≤ i
  · exact ⟨i - t, by omega, by rw [show t + (i - t) = i by omega, Nat.mod_eq_of_lt h1]; exact h2⟩
  · exact ⟨i + fs.length - t, by omega, by rw [show t + (i + fs.length - t) = i + fs.length by omega, Nat.add_mod_right, Nat.mod_eq_of_lt h1]; exact h2⟩
theorem nx_some : ∀ (m : Nat) (fs : List Fl) (t : Nat) (fr : Bool), ringOkF fs t fr = true → t < fs.length → totT fs ≠ 0 → meas fs t fr < m → (nxGo m fs t fr).isSome = true
  | 0, _, _, _, _, _, _, h => absurd h (Nat.not_lt_zero _)
  | m + 1, fs, t, fr, hr, ht, hw, hm => by
    unfold nxGo
    split
    · rename_i he
      have hf := ring_nil hr ht he
      subst hf
      refine nx_some m fs _ false (ring_turn0 hr (Nat.mod_lt _ (by omega))) (Nat.mod_lt _ (by omega)) hw ?_
      unfold meas at hm ⊢
      obtain ⟨n, hn⟩ : ∃ n, fs.length = n + 1 := ⟨fs.length - 1, by omega⟩
      have h1 : gapN fs fs.length t = gapN fs n ((t + 1) % fs.length) + 1 := by
        conv => lhs; rw [hn, gapN]
        rw [if_pos he]
      have h2 : gapN fs (n + 1) ((t + 1) % fs.length) = gapN fs n ((t + 1) % fs.length) := by
        refine gap_stable n _ ?_ (Nat.mod_lt _ (by omega))
        obtain ⟨j, hj, hx⟩ := turn_has ht hw
        cases j with
        | zero => rw [Nat.add_zero, Nat.mod_eq_of_lt ht] at hx; exact absurd he hx
        | succ j =>
          refine ⟨j, by omega, ?_⟩
          rw [Nat.mod_add_mod, show t + 1 + j = t + (j + 1) by omega]
          exact hx
      rw [← hn] at h2
      rw [if_neg (by simp)] at hm ⊢
      omega
    · rename_i k l he
      obtain ⟨a1, a2, a3, a4, a5, a6, a7, a8, a9, a10⟩ := ring_head hr ht he
      split
      · rename_i hd
        have hlen : (fs.set t ((fs.getD t fl0).1, (fs.getD t fl0).2.1, stepDf (fs.getD t fl0) fr, k :: l)).length = fs.length := List.length_set ..
        refine nx_some m _ _ false (ring_round hr ht he hd) (by rw [hlen]; exact Nat.mod_lt _ (by omega)) ?_ ?_
        · have := tot_set fs t ((fs.getD t fl0).1, (fs.getD t fl0).2.1, stepDf (fs.getD t fl0) fr, k :: l) ht
          rw [he] at this
          simp only at this
          omega
        · have h1 := need_set fs t ((fs.getD t fl0).1, (fs.getD t fl0).2.1, stepDf (fs.getD t fl0) fr, k :: l) ht
          have h2 : needF (fs.getD t fl0) = (k.2 - (fs.getD t fl0).2.2.1).toNat := by unfold needF; rw [he]
          have h3 : needF ((fs.getD t fl0).1, (fs.getD t fl0).2.1, stepDf (fs.getD t fl0) fr, k :: l) = (k.2 - stepDf (fs.getD t fl0) fr).toNat := rfl
          have h4 := gap_le (fs.set t ((fs.getD t fl0).1, (fs.getD t fl0).2.1, stepDf (fs.getD t fl0) fr, k :: l)) fs.length ((t + 1) % fs.length)
          unfold meas at hm ⊢
          rw [hlen, if_neg (by simp)]
          generalize need (fs.set t ((fs.getD t fl0).1, (fs.getD t fl0).2.1, stepDf (fs.getD t fl0) fr, k :: l)) = N' at *
          cases fr with
          | true =>
            rw [if_pos rfl] at hm
            have e : stepDf (fs.getD t fl0) true = (fs.getD t fl0).2.2.1 := if_pos rfl
            have : N' = need fs := by omega
            rw [this]
            omega
          | false =>
            rw [if_neg (by simp)] at hm
            have e : stepDf (fs.getD t fl0) false = (fs.getD t fl0).2.2.1 + (fs.getD t fl0).2.1 := if_neg (by simp)
            have h5 : N' + 1 ≤ need fs := by omega
            have h6 := Nat.mul_le_mul_right (2 * (fs.length + 1)) h5
            rw [Nat.add_mul, Nat.one_mul] at h6
            omega
      · split <;> rfl
/-! What a serving round leaves -/
theorem nx_prop : ∀ (m : Nat) (fs : List Fl) (t : Nat) (fr : Bool) (r : Rg × Int × Tk), ringOkF fs t fr = true → t < fs.length → nxGo m fs t fr = some r →
    ringOkF r.1.1 r.1.2.1 r.1.2.2 = true ∧ r.1.1.length = fs.length ∧ r.1.1.map (fun f => (f.1, f.2.1)) = fs.map (fun f => (f.1, f.2.1)) ∧
      ∃ i l, i < fs.length ∧ r.1.1.map (fun f => f.2.2.2) = (fs.map (fun f => f.2.2.2)).set i l ∧ (fs.getD i fl0).2.2.2 = r.2.2 :: l ∧ r.2.1 = (fs.getD i fl0).1
  | 0, _, _, _, _, _, _, h => by cases h
  | m + 1, fs, t, fr, r, hr, ht, h => by
    have hmod : (t + 1) % fs.length < fs.length := Nat.mod_lt _ (by omega)
    have hgd : fs[t] = fs.getD t fl0 := by simp [ht]
    unfold nxGo at h
    split at h
    · rename_i he
      have hf := ring_nil hr ht he
      subst hf
      exact nx_prop m fs _ false r (ring_turn0 hr hmod) hmod h
    · rename_i k l he
      obtain ⟨a1, a2, a3, a4, a5, a6, a7, a8, a9, a10⟩ := ring_head hr ht he
      split at h
      · rename_i hd
        have hlen : (fs.set t ((fs.getD t fl0).1, (fs.getD t fl0).2.1, stepDf (fs.getD t fl0) fr, k :: l)).length = fs.length := List.length_set ..
        obtain ⟨b1, b2, b3, i, l', b4, b5, b6, b7⟩ := nx_prop m _ _ false r (ring_round hr ht he hd) (by rw [hlen]; exact hmod) h
        have hm1 : (fs.set t ((fs.getD t fl0).1, (fs.getD t fl0).2.1, stepDf (fs.getD t fl0) fr, k :: l)).map (fun f => (f.1, f.2.1)) = fs.map (fun f => (f.1, f.2.1)) := by
          rw [List.map_set]
          refine List.ext_getElem? fun j => ?_
          rw [List.getElem?_set]
          split
          · rename_i e; subst e; simp [ht]
          · rfl
        have hm2 : (fs.set t ((fs.getD t fl0).1, (fs.getD t fl0).2.1, stepDf (fs.getD t fl0) fr, k :: l)).map (fun f => f.2.2.2) = fs.map (fun f => f.2.2.2) := by
          rw [List.map_set]
          refine List.ext_getElem? fun j => ?_
          rw [List.getElem?_set]
          split
          · rename_i e; subst e; simp [ht, ← he]
          · rfl
        rw [hlen] at b2 b4
        rw [hm1] at b3
        rw [hm2] at b5
        refine ⟨b1, b2, b3, i, l', b4, b5, ?_, ?_⟩
        · rw [← b6, getD_set_eq ht]
          split
          · rename_i e; subst e; exact he
          · rfl
        · rw [b7, getD_set_eq ht]
          split
          · rename_i e; subst e; rfl
          · rfl
      · have fin : ∀ (f' : Fl) (t' : Nat) (fr' : Bool), t' < fs.length → f'.1 = (fs.getD t fl0).1 → f'.2.1 = (fs.getD t fl0).2.1 → f'.2.2.2 = l → flowOkF f' fr' = true → (fr' = true → t' = t) → some ((fs.set t f', (t' : Int), fr'), (fs.getD t fl0).1, k) = some r →
          ringOkF r.1.1 r.1.2.1 r.1.2.2 = true ∧ r.1.1.length = fs.length ∧ r.1.1.map (fun f => (f.1, f.2.1)) = fs.map (fun f => (f.1, f.2.1)) ∧
            ∃ i l, i < fs.length ∧ r.1.1.map (fun f => f.2.2.2) = (fs.map (fun f => f.2.2.2)).set i l ∧ (fs.getD i fl0).2.2.2 = r.2.2 :: l ∧ r.2.1 = (fs.getD i fl0).1 := by
          intro f' t' fr' h0 h1 h2 h3 h4 h5 h6
          injection h6 with h6
          subst h6
          refine ⟨ring_set hr ht h0 h1 h4 h5, List.length_set .., ?_, t, l, ht, by simp only [List.map_set, h3], he, rfl⟩
          simp only [List.map_set]
          refine List.ext_getElem? fun j => ?_
          rw [List.getElem?_set]
          split
          · rename_i e; subst e; simp [ht, h1, h2]
          · rfl
        split at h
        · rename_i hl
          exact fin (_, _, 0, []) _ false hmod rfl rfl hl.symm (flow_done a7 a8) (fun h => by cases h) h
        · rename_i hl
          exact fin (_, _, _, l) t true ht rfl rfl rfl (flow_rest a7 a8 a6 (by omega) (by omega) hl) (fun _ => rfl) h
theorem wait_tot : ∀ (fs : List Fl) (s : Int), 0 ≤ s → s + totT fs ≤ 4611686018427387904 → waitGo fs s = s + totT fs
  | [], s, _, _ => by simp [waitGo, totT]
  | f :: fs, s, h0, h => by
    rw [totT] at h
    have hw : w64 (s + f.2.2.2.length) = s + f.2.2.2.length := by unfold w64; rw [IntKind.wrap_i64]; omega
    rw [waitGo, hw, wait_tot fs _ (by omega) (by omega), totT]
    omega
theorem tot_le : ∀ {fs : List Fl}, (∀ f ∈ fs, f.2.2.2.length ≤ 40) → totT fs ≤ 40 * fs.length
  | [], _ => Nat.le_refl _
  | f :: fs, h => by
    have h1 := h f (List.mem_cons_self ..)
    have h2 := tot_le (fs := fs) (fun g hg => h g (List.mem_cons_of_mem _ hg))
    rw [totT, List.length_cons]
    omega
theorem ring_tot {fs : List Fl} {t : Int} {fr : Bool} (h : ringOkF fs t fr = true) : totT fs ≤ 480 ∧ waitGo fs 0 = totT fs := by
  have h1 := (ring_iff.1 h).1.1
  simp only at h1
  have h2 : totT fs ≤ 40 * fs.length := tot_le (fun f hf => by
    obtain ⟨j, hj, rfl⟩ := List.getElem_of_mem hf
    have := (flow_iff.1 ((ring_iff.1 h).2 j hj).1).2.2.1
    rw [show fs.getD j (0, 0, 0, []) = fs[j] by simp [hj]] at this
    exact line_len this)
  refine ⟨by omega, ?_⟩
  rw [wait_tot fs 0 (by omega) (by omega)]
  omega
theorem lens_set : ∀ (L : List (List Tk)) (i : Nat) (k : Tk) (l : List Tk), i < L.length → L.getD i [] = k :: l → ((L.set i l).map List.length).sum + 1 = (L.map List.length).sum
  | [], i, k, l, h, _ => absurd h (Nat.not_lt_zero _)
  | x :: L, 0, k, l, _, h => by
    have h : x = k :: l := by simpa using h
    subst h
    simp only [List.set_cons_zero, List.map_cons, List.sum_cons, List.length_cons]
    omega
  | x :: L, i + 1, k, l, h, h1 => by
    have := lens_set L i k l (by simpa using h) (by simpa using h1)
    simp only [List.set_cons_succ, List.map_cons, List.sum_cons]
    omega
theorem tot_lens : ∀ fs : List Fl, totT fs = ((fs.map (fun f => f.2.2.2)).map List.length).sum
  | [] => rfl
  | f :: fs => by rw [totT, tot_lens fs]; rfl
/-- The next ticket of a ring that is well and has one. -/
theorem nx_ok {r : Rg} (h : ringOkF r.1 r.2.1 r.2.2 = true) (hw : waitGo r.1 0 ≠ 0) : ∃ x, nxO r = some x ∧ nxTk r = (x.1, x.2.1, x.2.2, true) ∧ ringOkF x.1.1 x.1.2.1 x.1.2.2 = true ∧ totT x.1.1 + 1 = totT r.1 ∧ x.1.1.length = r.1.length ∧
    x.1.1.map (fun f => (f.1, f.2.1)) = r.1.map (fun f => (f.1, f.2.1)) ∧ ∃ i l, i < r.1.length ∧ x.1.1.map (fun f => f.2.2.2) = (r.1.map (fun f => f.2.2.2)).set i l ∧ (r.1.getD i fl0).2.2.2 = x.2.2 :: l ∧ x.2.1 = (r.1.getD i fl0).1 := by
  obtain ⟨h1, h2⟩ := ring_tot h
  have h3 : totT r.1 ≠ 0 := by omega
  obtain ⟨i0, hi0, _⟩ := tot_has h3
  obtain ⟨k, hk, hk2⟩ := ring_n h (by omega)
  have hr : ringOkF r.1 k r.2.2 = true := by rw [← hk]; exact h
  have hs := nx_some (meas r.1 k r.2.2 + 1) r.1 k r.2.2 hr hk2 h3 (Nat.lt_succ_self _)
  have ho : nxO r = nxGo (meas r.1 k r.2.2 + 1) r.1 k r.2.2 := by unfold nxO; rw [hk]; rfl
  cases hx : nxGo (meas r.1 k r.2.2 + 1) r.1 k r.2.2 with
  | none => rw [hx] at hs; cases hs
  | some x =>
    obtain ⟨b1, b2, b3, i, l, b4, b5, b6, b7⟩ := nx_prop _ _ _ _ _ hr hk2 hx
    refine ⟨x, ho.trans hx, ?_, b1, ?_, b2, b3, i, l, b4, b5, b6, b7⟩
    · unfold nxTk
      rw [if_neg hw, ho, hx]
    · rw [tot_lens, tot_lens, b5]
      refine lens_set _ i x.2.2 l (by rw [List.length_map]; exact b4) ?_
      rw [← b6]
      simp [List.getD_eq_getElem?_getD, b4]
theorem nx_none {r : Rg} (h : waitGo r.1 0 = 0) : nxTk r = (r, 0, (0, 0), false) := if_pos h
theorem dr_ok {r : Rg} (h : ringOkF r.1 r.2.1 r.2.2 = true) : ∀ k, k ≤ totT r.1 → ringOkF (drGo k r).1.1 (drGo k r).1.2.1 (drGo k r).1.2.2 = true ∧ totT (drGo k r).1.1 + k = totT r.1 ∧ (drGo k r).2.length = k
  | 0, _ => ⟨h, rfl, rfl⟩
  | k + 1, hk => by
    obtain ⟨h1, h2, h3⟩ := dr_ok h k (by omega)
    obtain ⟨x, x1, x2, x3, x4, _⟩ := nx_ok h1 (by rw [(ring_tot h1).2]; omega)
    have e : nxR (drGo k r).1 = x.1 := by unfold nxR; rw [x2]
    refine ⟨?_, ?_, ?_⟩
    · show ringOkF (nxR (drGo k r).1).1 (nxR (drGo k r).1).2.1 (nxR (drGo k r).1).2.2 = true
      rw [e]; exact x3
    · show totT (nxR (drGo k r).1).1 + (k + 1) = _
      rw [e]; omega
    · show ((drGo k r).2 ++ [_]).length = _
      rw [List.length_append, h3]; rfl
/-! The walks -/
theorem unN2 (r : List FlG × Int × Bool) : unD ringN r = (r.1.map unF, r.2.1, r.2.2) := by
  show (r.1.map (unD flN), r.2.1, r.2.2) = _
  congr 2
  funext f
  exact unN0 f
theorem nx_nil {n : Nat} {fs : List Fl} {t : Nat} {fr : Bool} (h : (fs.getD t fl0).2.2.2 = []) : nxGo (n + 1) fs t fr = nxGo n fs ((t + 1) % fs.length) fr := by
  conv => lhs; unfold nxGo
  rw [h]
theorem nx_wait {n : Nat} {fs : List Fl} {t : Nat} {fr : Bool} {k : Tk} {l : List Tk} (h : (fs.getD t fl0).2.2.2 = k :: l) (hd : stepDf (fs.getD t fl0) fr < k.2) :
    nxGo (n + 1) fs t fr = nxGo n (fs.set t ((fs.getD t fl0).1, (fs.getD t fl0).2.1, stepDf (fs.getD t fl0) fr, k :: l)) ((t + 1) % fs.length) false := by
  conv => lhs; unfold nxGo
  rw [h]
  simp only
  rw [if_pos hd]
theorem nx_last {n : Nat} {fs : List Fl} {t : Nat} {fr : Bool} {k : Tk} (h : (fs.getD t fl0).2.2.2 = [k]) (hd : ¬ stepDf (fs.getD t fl0) fr < k.2) :
    nxGo (n + 1) fs t fr = some ((fs.set t ((fs.getD t fl0).1, (fs.getD t fl0).2.1, 0, []), (((t + 1) % fs.length : Nat) : Int), false), (fs.getD t fl0).1, k) := by
  conv => lhs; unfold nxGo
  rw [h]
  simp only
  rw [if_neg hd]; simp only [if_true]
theorem nx_more {n : Nat} {fs : List Fl} {t : Nat} {fr : Bool} {k : Tk} {l : List Tk} (h : (fs.getD t fl0).2.2.2 = k :: l) (hd : ¬ stepDf (fs.getD t fl0) fr < k.2) (hl : l ≠ []) :
    nxGo (n + 1) fs t fr = some ((fs.set t ((fs.getD t fl0).1, (fs.getD t fl0).2.1, stepDf (fs.getD t fl0) fr - k.2, l), (t : Int), true), (fs.getD t fl0).1, k) := by
  conv => lhs; unfold nxGo
  rw [h]
  simp only
  rw [if_neg hd, if_neg hl]
theorem un_at {L : List FlG} {t : Nat} (h : t < L.length) : (L.map unF).getD t fl0 = unF (L.getD t fg0) := by simp [List.getD_eq_getElem?_getD, h]
theorem un_set (L : List FlG) (t : Nat) (f : FlG) : (L.set t f).map unF = (L.map unF).set t (unF f) := List.map_set ..
theorem set_get {α : Type} {L : List α} {t : Nat} {d : α} (h : t < L.length) : L.set t (L.getD t d) = L := by
  rw [show L.getD t d = L[t] by simp [h]]
  exact List.set_getElem_self h
theorem mod_next {t n : Nat} (h : t < n) (hn : n ≤ 100) : (IntKind.i64.wrap ((t : Int) + 1)).tmod (n : Int) = (((t + 1) % n : Nat) : Int) := by
  rw [wrap_small (by omega)]; rfl
theorem nodup_df {L : List FlG} {t : Nat} {f : FlG} (h : (idsF L).Nodup) (hf : f.2.2.2 = (L.getD t fg0).2.2.2) : (idsF (L.set t f)).Nodup := by
  refine nd_set h (fun b hb => .inr ?_)
  unfold idF at hb ⊢
  rw [hf] at hb
  exact hb
theorem nodup_new {L : List FlG} {t : Nat} {f : FlG} {b : Nat} (h : (idsF L).Nodup) (hb : b ∉ idsF L) (hf : f.2.2.2.1 = b) : (idsF (L.set t f)).Nodup := by
  refine nd_set h (fun c hc => .inl ?_)
  unfold idF at hc
  split at hc
  · cases hc
  · have : c = f.2.2.2.1 := by simpa using hc
    rw [this, hf]; exact hb
theorem ids_df {L : List FlG} {t : Nat} {f : FlG} {b : Nat} (ht : t < L.length) (hf : f.2.2.2 = (L.getD t fg0).2.2.2) (hb : b ∉ idsF (L.set t f)) : b ∉ idsF L := by
  intro h
  apply hb
  unfold idsF at h ⊢
  obtain ⟨g, hg, h1⟩ := List.mem_flatMap.1 h
  obtain ⟨j, hj, rfl⟩ := List.getElem_of_mem hg
  by_cases e : j = t
  · subst e
    refine List.mem_flatMap.2 ⟨f, List.mem_iff_getElem.2 ⟨j, by rw [List.length_set]; exact hj, by simp⟩, ?_⟩
    unfold idF at h1 ⊢
    rw [hf, show L.getD j fg0 = L[j] by simp [hj]]
    exact h1
  · exact List.mem_flatMap.2 ⟨L[j], List.mem_iff_getElem.2 ⟨j, by rw [List.length_set]; exact hj, by rw [List.getElem_set]; rw [if_neg (fun h => e h.symm)]⟩, h1⟩
theorem nxE_out {d : RgG} {x : NxX} {y : RgG} (hr : ringOkF (d.1.map unF) d.2.1 d.2.2 = true) (h0 : waitGo (d.1.map unF) 0 ≠ 0) (h : nxE d x y) :
    ((y.1.getD x.2.2.1 fg0).1, nxHd x, true) = nxV (List.map unF d.1, d.2.1, d.2.2) ∧ ((y.1.getD x.2.2.1 fg0).1, nxHd x) = nxV2 (List.map unF d.1, d.2.1, d.2.2) ∧ (List.map unF y.1, y.2.1, y.2.2) = nxR (List.map unF d.1, d.2.1, d.2.2) := by
  obtain ⟨z, z1, z2, _⟩ := nx_ok (r := (List.map unF d.1, d.2.1, d.2.2)) hr h0
  have h1 : nxO (d.1.map unF, d.2.1, d.2.2) = some ((y.1.map unF, y.2.1, y.2.2), (y.1.getD x.2.2.1 fg0).1, nxHd x) := h.1
  rw [z1] at h1
  injection h1 with h1
  unfold nxV nxR nxV2
  rw [z2, h1]
  exact ⟨rfl, rfl, rfl⟩
/-- A round at a flow without tickets. -/
theorem nxJ_nil {d : RgG} {n : Nat} {L : List FlG} {t : Nat} {fr : Bool} (h : nxJ d (n + 1, L, t, fr)) (he : (L.getD t fg0).2.2.2.2 = []) : nxJ d (n, L, (t + 1) % L.length, fr) := by
  obtain ⟨j1, j2, j3, j4, j5, j6, j7⟩ := h
  simp only at j1 j2 j3 j4 j5 j6 j7
  have ht : t < (L.map unF).length := by rw [List.length_map]; omega
  have hu := un_at (L := L) (t := t) (by omega)
  have he' : ((L.map unF).getD t fl0).2.2.2 = [] := by rw [hu]; exact he
  have hm : (t + 1) % L.length < L.length := Nat.mod_lt _ (by omega)
  have hfr := ring_nil j1 ht he'
  have hx := nx_nil (n := n) (fr := fr) he'
  rw [List.length_map] at hx
  subst hfr
  refine ⟨ring_turn0 j1 (by rw [List.length_map]; exact hm), j2, j3, by show (t + 1) % L.length < _; omega, ?_, ?_, j7⟩
  · rw [← hx]; exact j5
  · rw [← hx]; exact j6
/-- A round at a flow that waits. -/
theorem nxJ_wait {d : RgG} {n : Nat} {L : List FlG} {t : Nat} {fr : Bool} {f' : FlG} (h : nxJ d (n + 1, L, t, fr)) (hne : (L.getD t fg0).2.2.2.2 ≠ []) (hd : stepDf (unF (L.getD t fg0)) fr < ((L.getD t fg0).2.2.2.2.getD 0 (0, 0)).2)
    (hf : f' = ((L.getD t fg0).1, (L.getD t fg0).2.1, stepDf (unF (L.getD t fg0)) fr, (L.getD t fg0).2.2.2)) : nxJ d (n, L.set t f', (t + 1) % L.length, false) := by
  subst hf
  obtain ⟨j1, j2, j3, j4, j5, j6, j7⟩ := h
  simp only at j1 j2 j3 j4 j5 j6 j7
  have ht : t < (L.map unF).length := by rw [List.length_map]; omega
  have hu := un_at (L := L) (t := t) (by omega)
  have hm : (t + 1) % L.length < L.length := Nat.mod_lt _ (by omega)
  cases hl : (L.getD t fg0).2.2.2.2 with
  | nil => exact absurd hl hne
  | cons k l =>
    have he' : ((L.map unF).getD t fl0).2.2.2 = k :: l := by rw [hu]; exact hl
    rw [hl] at hd
    have hd' : stepDf ((L.map unF).getD t fl0) fr < k.2 := by rw [hu]; exact hd
    have hx := nx_wait (n := n) he' hd'
    have hr := ring_round j1 ht he' hd'
    rw [List.length_map, hu] at hx hr
    have hs : (L.set t ((L.getD t fg0).1, (L.getD t fg0).2.1, stepDf (unF (L.getD t fg0)) fr, (L.getD t fg0).2.2.2)).map unF = (L.map unF).set t ((unF (L.getD t fg0)).1, (unF (L.getD t fg0)).2.1, stepDf (unF (L.getD t fg0)) fr, k :: l) := by
      rw [un_set, ← hl]; rfl
    refine ⟨?_, ?_, j3, by show (t + 1) % L.length < _; omega, ?_, ?_, j7⟩
    · simp only; rw [hs]; exact hr
    · simp only; rw [List.length_set]; exact j2
    · simp only; rw [hs, ← hx]; exact j5
    · simp only; rw [hs, ← hx]; exact j6
/-- A round that serves. -/
theorem nxJ_done {d : RgG} {n : Nat} {L : List FlG} {t : Nat} {fr : Bool} {f' : FlG} {b : Nat} (h : nxJ d (n + 1, L, t, fr)) (hne : (L.getD t fg0).2.2.2.2 ≠ []) (hd : ¬ stepDf (unF (L.getD t fg0)) fr < ((L.getD t fg0).2.2.2.2.getD 0 (0, 0)).2)
    (hz : delAt (L.getD t fg0).2.2.2.2 0 = []) (hf : f' = ((L.getD t fg0).1, (L.getD t fg0).2.1, 0, b, delAt (L.getD t fg0).2.2.2.2 0)) : nxE d (n + 1, L, t, fr) (L.set t f', (((t + 1) % L.length : Nat) : Int), false) := by
  obtain ⟨j1, j2, j3, j4, j5, j6, j7⟩ := h
  simp only at j1 j2 j3 j4 j5 j6 j7
  have ht : t < (L.map unF).length := by rw [List.length_map]; omega
  have hu := un_at (L := L) (t := t) (by omega)
  cases hl : (L.getD t fg0).2.2.2.2 with
  | nil => exact absurd hl hne
  | cons k l =>
    rw [hl] at hz hd
    have hz : l = [] := hz
    subst hz
    have he' : ((L.map unF).getD t fl0).2.2.2 = [k] := by rw [hu]; exact hl
    have hd' : ¬ stepDf ((L.map unF).getD t fl0) fr < k.2 := by rw [hu]; exact hd
    have hx := nx_last (n := n) he' hd'
    rw [List.length_map, hu] at hx
    refine ⟨?_, by simp only; rw [List.length_set]; exact j2, by simp only; rw [List.length_set]; omega⟩
    rw [← j5, hx]
    have h2 : (L.set t f').getD t fg0 = f' := by rw [getD_set_eq (by omega), if_pos rfl]
    simp only [h2]
    rw [un_set, hf, hl]
    unfold nxHd
    simp only [hl]
    rfl
theorem nxJ_more {d : RgG} {n : Nat} {L : List FlG} {t : Nat} {fr : Bool} {f' : FlG} {b : Nat} (h : nxJ d (n + 1, L, t, fr)) (hne : (L.getD t fg0).2.2.2.2 ≠ []) (hd : ¬ stepDf (unF (L.getD t fg0)) fr < ((L.getD t fg0).2.2.2.2.getD 0 (0, 0)).2)
    (hz : delAt (L.getD t fg0).2.2.2.2 0 ≠ []) (hf : f' = ((L.getD t fg0).1, (L.getD t fg0).2.1, stepDf (unF (L.getD t fg0)) fr - ((L.getD t fg0).2.2.2.2.getD 0 (0, 0)).2, b, delAt (L.getD t fg0).2.2.2.2 0)) : nxE d (n + 1, L, t, fr) (L.set t f', (t : Int), true) := by
  obtain ⟨j1, j2, j3, j4, j5, j6, j7⟩ := h
  simp only at j1 j2 j3 j4 j5 j6 j7
  have ht : t < (L.map unF).length := by rw [List.length_map]; omega
  have hu := un_at (L := L) (t := t) (by omega)
  cases hl : (L.getD t fg0).2.2.2.2 with
  | nil => exact absurd hl hne
  | cons k l =>
    rw [hl] at hz hd hf
    have hz : l ≠ [] := hz
    have he' : ((L.map unF).getD t fl0).2.2.2 = k :: l := by rw [hu]; exact hl
    have hd' : ¬ stepDf ((L.map unF).getD t fl0) fr < k.2 := by rw [hu]; exact hd
    have hx := nx_more (n := n) he' hd' hz
    rw [hu] at hx
    refine ⟨?_, by simp only; rw [List.length_set]; exact j2, by simp only; rw [List.length_set]; omega⟩
    rw [← j5, hx]
    have h2 : (L.set t f').getD t fg0 = f' := by rw [getD_set_eq (by omega), if_pos rfl]
    simp only [h2]
    rw [un_set, hf]
    unfold nxHd
    simp only [hl]
    rfl
/-- Bounds at the flow whose turn it is. -/
theorem nxJ_bound {d : RgG} {n : Nat} {L : List FlG} {t : Nat} {fr : Bool} (h : nxJ d (n, L, t, fr)) (hne : (L.getD t fg0).2.2.2.2 ≠ []) :
    0 ≤ stepDf (unF (L.getD t fg0)) fr ∧ stepDf (unF (L.getD t fg0)) fr ≤ 299999 ∧ 1 ≤ ((L.getD t fg0).2.2.2.2.getD 0 (0, 0)).2 ∧ ((L.getD t fg0).2.2.2.2.getD 0 (0, 0)).2 ≤ 200000 ∧ (L.getD t fg0).2.2.2.2.length ≤ 40 ∧ lineOkF (L.getD t fg0).2.2.2.2 = true := by
  obtain ⟨j1, j2, j3, j4, j5, j6, j7⟩ := h
  simp only at j1 j2 j3 j4 j5 j6 j7
  have ht : t < (L.map unF).length := by rw [List.length_map]; omega
  have hu := un_at (L := L) (t := t) (by omega)
  cases hl : (L.getD t fg0).2.2.2.2 with
  | nil => exact absurd hl hne
  | cons k l =>
    have he' : ((L.map unF).getD t fl0).2.2.2 = k :: l := by rw [hu]; exact hl
    obtain ⟨a1, a2, a3, a4, a5, _⟩ := ring_head j1 ht he'
    rw [hu] at a1 a2
    exact ⟨a1, a2, a3, a4, line_len a5, a5⟩
theorem delAt_zero {k : Tk} {l : List Tk} : delAt (k :: l) 0 = l := rfl
theorem v_I_next :
  ∀ (d : List FlG × Int × Bool), Ty.wf ringG d → ringOkF (Prod.fst (unD ringG d)) (Prod.fst (Prod.snd (unD ringG d))) (Prod.snd (Prod.snd (unD ringG d))) = true → List.Nodup (ids ringG d) → True ∧ (Ty.wf i64T (waitGo
  (unL flG d.1) (0 : Int)) → (decide (waitGo (unL flG d.1) (0 : Int) = (0 : Int)) = true → ((0 : Int), ((0 : Int), (0 : Int)), false) = nxV (unD ringG d) ∧ unD ringG d = nxR (unD ringG d) ∧ List.Nodup (ids ringG d) ∧
  List.length d.1 = List.length d.1) ∧ (decide (waitGo (unL flG d.1) (0 : Int) = (0 : Int)) = false → (nxJ d (meas (List.map unF d.1) (Int.toNat d.2.1) d.2.2 + (1 : Nat), d.1, Int.toNat d.2.1, d.2.2) ∧ List.Nodup (idsF
  d.1)) ∧ ((d.2.1 = (↑(Int.toNat d.2.1) : Int) ∧ d.2.2 = d.2.2) ∧ d.1 = d.1 ∧ (0 : Int) = (0 : Int) ∧ (0 : Int) = (0 : Int)) ∧ ∀ (x : Nat × List FlG × Nat × Bool), nxJ d x ∧ List.Nodup (idsF x.2.1) → ((0 : Int) ≤
  (↑x.2.2.1 : Int) ∧ (↑x.2.2.1 : Int) < (↑(List.length x.2.1) : Int)) ∧ (↑(List.length x.2.1) : Int) ≠ (0 : Int) ∧ (decide ((↑(List.length (Prod.snd (Prod.snd (Prod.snd (Prod.snd (List.getD x.2.1 (Int.toNat (↑x.2.2.1 :
  Int)) ((0 : Int), (0 : Int), (0 : Int), (0 : Nat), []))))))) : Int) = (0 : Int)) = true → ∃ (x' : Nat × List FlG × Nat × Bool), (nxJ d x' ∧ List.Nodup (idsF x'.2.1)) ∧ x'.1 < x.1 ∧ (Int.tmod (IntKind.wrap IntKind.i64
  ((↑x.2.2.1 : Int) + (1 : Int))) (↑(List.length x.2.1) : Int) = (↑x'.2.2.1 : Int) ∧ x.2.2.2 = x'.2.2.2) ∧ x.2.1 = x'.2.1 ∧ (0 : Int) = (0 : Int) ∧ (0 : Int) = (0 : Int)) ∧ (decide ((↑(List.length (Prod.snd (Prod.snd
  (Prod.snd (Prod.snd (List.getD x.2.1 (Int.toNat (↑x.2.2.1 : Int)) ((0 : Int), (0 : Int), (0 : Int), (0 : Nat), []))))))) : Int) = (0 : Int)) = false → (((!x.2.2.2) = true → ∃ (x' : Unit), Prod.snd (Prod.snd (Prod.snd
  (Prod.snd (List.getD x.2.1 x.2.2.1 fg0)))) ≠ [] ∧ (Int.toNat (↑x.2.2.1 : Int) = Int.toNat (↑x.2.2.1 : Int) ∧ Int.tmod (IntKind.wrap IntKind.i64 ((↑x.2.2.1 : Int) + (1 : Int))) (↑(List.length x.2.1) : Int) = Int.tmod
  (IntKind.wrap IntKind.i64 ((↑x.2.2.1 : Int) + (1 : Int))) (↑(List.length x.2.1) : Int)) ∧ ((↑x.2.2.1 : Int) = (↑x.2.2.1 : Int) ∧ true = true) ∧ List.set x.2.1 (Int.toNat (↑x.2.2.1 : Int)) (Prod.fst (List.getD x.2.1
  (Int.toNat (↑x.2.2.1 : Int)) ((0 : Int), (0 : Int), (0 : Int), (0 : Nat), [])), Prod.fst (Prod.snd (List.getD x.2.1 (Int.toNat (↑x.2.2.1 : Int)) ((0 : Int), (0 : Int), (0 : Int), (0 : Nat), []))), IntKind.wrap
  IntKind.i64 (Prod.fst (Prod.snd (Prod.snd (List.getD x.2.1 (Int.toNat (↑x.2.2.1 : Int)) ((0 : Int), (0 : Int), (0 : Int), (0 : Nat), [])))) + Prod.fst (Prod.snd (List.getD x.2.1 (Int.toNat (↑x.2.2.1 : Int)) ((0 : Int),
  (0 : Int), (0 : Int), (0 : Nat), [])))), Prod.snd (Prod.snd (Prod.snd (List.getD x.2.1 (Int.toNat (↑x.2.2.1 : Int)) ((0 : Int), (0 : Int), (0 : Int), (0 : Nat), []))))) = List.set x.2.1 x.2.2.1 (nxFl x) ∧ (0 : Int) =
  (0 : Int) ∧ (0 : Int) = (0 : Int)) ∧ ((!x.2.2.2) = false → ∃ (x' : Unit), Prod.snd (Prod.snd (Prod.snd (Prod.snd (List.getD x.2.1 x.2.2.1 fg0)))) ≠ [] ∧ (Int.toNat (↑x.2.2.1 : Int) = Int.toNat (↑x.2.2.1 : Int) ∧
  Int.tmod (IntKind.wrap IntKind.i64 ((↑x.2.2.1 : Int) + (1 : Int))) (↑(List.length x.2.1) : Int) = Int.tmod (IntKind.wrap IntKind.i64 ((↑x.2.2.1 : Int) + (1 : Int))) (↑(List.length x.2.1) : Int)) ∧ ((↑x.2.2.1 : Int) =
  (↑x.2.2.1 : Int) ∧ x.2.2.2 = true) ∧ x.2.1 = List.set x.2.1 x.2.2.1 (nxFl x) ∧ (0 : Int) = (0 : Int) ∧ (0 : Int) = (0 : Int))) ∧ ∀ (x_1 : Unit), Prod.snd (Prod.snd (Prod.snd (Prod.snd (List.getD x.2.1 x.2.2.1 fg0)))) ≠
  [] → ((0 : Int) ≤ (0 : Int) ∧ (0 : Int) < (↑(List.length (Prod.snd (Prod.snd (Prod.snd (Prod.snd (List.getD (List.set x.2.1 x.2.2.1 (nxFl x)) (Int.toNat (↑x.2.2.1 : Int)) ((0 : Int), (0 : Int), (0 : Int), (0 : Nat),
  []))))))) : Int)) ∧ (decide (Prod.fst (Prod.snd (Prod.snd (List.getD (List.set x.2.1 x.2.2.1 (nxFl x)) (Int.toNat (↑x.2.2.1 : Int)) ((0 : Int), (0 : Int), (0 : Int), (0 : Nat), [])))) < Prod.snd (List.getD (Prod.snd
  (Prod.snd (Prod.snd (Prod.snd (List.getD (List.set x.2.1 x.2.2.1 (nxFl x)) (Int.toNat (↑x.2.2.1 : Int)) ((0 : Int), (0 : Int), (0 : Int), (0 : Nat), [])))))) (Int.toNat (0 : Int)) ((0 : Int), (0 : Int)))) = true → ∃
  (x' : Nat × List FlG × Nat × Bool), (nxJ d x' ∧ List.Nodup (idsF x'.2.1)) ∧ x'.1 < x.1 ∧ (Int.tmod (IntKind.wrap IntKind.i64 ((↑x.2.2.1 : Int) + (1 : Int))) (↑(List.length x.2.1) : Int) = (↑x'.2.2.1 : Int) ∧ x'.2.2.2 =
  false) ∧ List.set x.2.1 x.2.2.1 (nxFl x) = x'.2.1 ∧ (0 : Int) = (0 : Int) ∧ (0 : Int) = (0 : Int)) ∧ (decide (Prod.fst (Prod.snd (Prod.snd (List.getD (List.set x.2.1 x.2.2.1 (nxFl x)) (Int.toNat (↑x.2.2.1 : Int)) ((0 :
  Int), (0 : Int), (0 : Int), (0 : Nat), [])))) < Prod.snd (List.getD (Prod.snd (Prod.snd (Prod.snd (Prod.snd (List.getD (List.set x.2.1 x.2.2.1 (nxFl x)) (Int.toNat (↑x.2.2.1 : Int)) ((0 : Int), (0 : Int), (0 : Int), (0
  : Nat), [])))))) (Int.toNat (0 : Int)) ((0 : Int), (0 : Int)))) = false → ((0 : Tup [i64T]) ≤ (0 : Int) ∧ (0 : Int) < (↑(List.length (Prod.snd (Prod.snd (Prod.snd (Prod.snd (List.getD (List.set x.2.1 x.2.2.1 (nxFl x))
  (Int.toNat (↑x.2.2.1 : Int)) ((0 : Int), (0 : Int), (0 : Int), (0 : Nat), []))))))) : Int) ∧ List.length (Prod.snd (Prod.snd (Prod.snd (Prod.snd (List.getD (List.set x.2.1 x.2.2.1 (nxFl x)) (Int.toNat (↑x.2.2.1 : Int))
  ((0 : Int), (0 : Int), (0 : Int), (0 : Nat), [])))))) ≤ (1048576 : Nat)) ∧ (Ty.wf lineT (delAt (Prod.snd (Prod.snd (Prod.snd (Prod.snd (List.getD (List.set x.2.1 x.2.2.1 (nxFl x)) (Int.toNat (↑x.2.2.1 : Int)) ((0 :
  Int), (0 : Int), (0 : Int), (0 : Nat), [])))))) (0 : Int)) → ∀ (b : Nat), ¬b ∈ idsL flG (List.set x.2.1 x.2.2.1 (nxFl x)) → ((decide ((↑(List.length (Prod.snd (Prod.snd (Prod.snd (Prod.snd (List.getD (List.set
  (List.set (List.set x.2.1 x.2.2.1 (nxFl x)) (Int.toNat (↑x.2.2.1 : Int)) (Prod.fst (List.getD (List.set x.2.1 x.2.2.1 (nxFl x)) (Int.toNat (↑x.2.2.1 : Int)) ((0 : Int), (0 : Int), (0 : Int), (0 : Nat), [])), Prod.fst
  (Prod.snd (List.getD (List.set x.2.1 x.2.2.1 (nxFl x)) (Int.toNat (↑x.2.2.1 : Int)) ((0 : Int), (0 : Int), (0 : Int), (0 : Nat), []))), Prod.fst (Prod.snd (Prod.snd (List.getD (List.set x.2.1 x.2.2.1 (nxFl x))
  (Int.toNat (↑x.2.2.1 : Int)) ((0 : Int), (0 : Int), (0 : Int), (0 : Nat), [])))), b, delAt (Prod.snd (Prod.snd (Prod.snd (Prod.snd (List.getD (List.set x.2.1 x.2.2.1 (nxFl x)) (Int.toNat (↑x.2.2.1 : Int)) ((0 : Int),
  (0 : Int), (0 : Int), (0 : Nat), [])))))) (0 : Int))) (Int.toNat (↑x.2.2.1 : Int)) (Prod.fst (List.getD (List.set (List.set x.2.1 x.2.2.1 (nxFl x)) (Int.toNat (↑x.2.2.1 : Int)) (Prod.fst (List.getD (List.set x.2.1
  x.2.2.1 (nxFl x)) (Int.toNat (↑x.2.2.1 : Int)) ((0 : Int), (0 : Int), (0 : Int), (0 : Nat), [])), Prod.fst (Prod.snd (List.getD (List.set x.2.1 x.2.2.1 (nxFl x)) (Int.toNat (↑x.2.2.1 : Int)) ((0 : Int), (0 : Int), (0 :
  Int), (0 : Nat), []))), Prod.fst (Prod.snd (Prod.snd (List.getD (List.set x.2.1 x.2.2.1 (nxFl x)) (Int.toNat (↑x.2.2.1 : Int)) ((0 : Int), (0 : Int), (0 : Int), (0 : Nat), [])))), b, delAt (Prod.snd (Prod.snd (Prod.snd
  (Prod.snd (List.getD (List.set x.2.1 x.2.2.1 (nxFl x)) (Int.toNat (↑x.2.2.1 : Int)) ((0 : Int), (0 : Int), (0 : Int), (0 : Nat), [])))))) (0 : Int))) (Int.toNat (↑x.2.2.1 : Int)) ((0 : Int), (0 : Int), (0 : Int), (0 :
  Nat), [])), Prod.fst (Prod.snd (List.getD (List.set (List.set x.2.1 x.2.2.1 (nxFl x)) (Int.toNat (↑x.2.2.1 : Int)) (Prod.fst (List.getD (List.set x.2.1 x.2.2.1 (nxFl x)) (Int.toNat (↑x.2.2.1 : Int)) ((0 : Int), (0 :
  Int), (0 : Int), (0 : Nat), [])), Prod.fst (Prod.snd (List.getD (List.set x.2.1 x.2.2.1 (nxFl x)) (Int.toNat (↑x.2.2.1 : Int)) ((0 : Int), (0 : Int), (0 : Int), (0 : Nat), []))), Prod.fst (Prod.snd (Prod.snd (List.getD
  (List.set x.2.1 x.2.2.1 (nxFl x)) (Int.toNat (↑x.2.2.1 : Int)) ((0 : Int), (0 : Int), (0 : Int), (0 : Nat), [])))), b, delAt (Prod.snd (Prod.snd (Prod.snd (Prod.snd (List.getD (List.set x.2.1 x.2.2.1 (nxFl x))
  (Int.toNat (↑x.2.2.1 : Int)) ((0 : Int), (0 : Int), (0 : Int), (0 : Nat), [])))))) (0 : Int))) (Int.toNat (↑x.2.2.1 : Int)) ((0 : Int), (0 : Int), (0 : Int), (0 : Nat), []))), IntKind.wrap IntKind.i64 (Prod.fst
  (Prod.snd (Prod.snd (List.getD (List.set (List.set x.2.1 x.2.2.1 (nxFl x)) (Int.toNat (↑x.2.2.1 : Int)) (Prod.fst (List.getD (List.set x.2.1 x.2.2.1 (nxFl x)) (Int.toNat (↑x.2.2.1 : Int)) ((0 : Int), (0 : Int), (0 :
  Int), (0 : Nat), [])), Prod.fst (Prod.snd (List.getD (List.set x.2.1 x.2.2.1 (nxFl x)) (Int.toNat (↑x.2.2.1 : Int)) ((0 : Int), (0 : Int), (0 : Int), (0 : Nat), []))), Prod.fst (Prod.snd (Prod.snd (List.getD (List.set
  x.2.1 x.2.2.1 (nxFl x)) (Int.toNat (↑x.2.2.1 : Int)) ((0 : Int), (0 : Int), (0 : Int), (0 : Nat), [])))), b, delAt (Prod.snd (Prod.snd (Prod.snd (Prod.snd (List.getD (List.set x.2.1 x.2.2.1 (nxFl x)) (Int.toNat
  (↑x.2.2.1 : Int)) ((0 : Int), (0 : Int), (0 : Int), (0 : Nat), [])))))) (0 : Int))) (Int.toNat (↑x.2.2.1 : Int)) ((0 : Int), (0 : Int), (0 : Int), (0 : Nat), [])))) - Prod.snd (List.getD (Prod.snd (Prod.snd (Prod.snd
  (Prod.snd (List.getD (List.set x.2.1 x.2.2.1 (nxFl x)) (Int.toNat (↑x.2.2.1 : Int)) ((0 : Int), (0 : Int), (0 : Int), (0 : Nat), [])))))) (Int.toNat (0 : Int)) ((0 : Int), (0 : Int)))), Prod.snd (Prod.snd (Prod.snd
  (List.getD (List.set (List.set x.2.1 x.2.2.1 (nxFl x)) (Int.toNat (↑x.2.2.1 : Int)) (Prod.fst (List.getD (List.set x.2.1 x.2.2.1 (nxFl x)) (Int.toNat (↑x.2.2.1 : Int)) ((0 : Int), (0 : Int), (0 : Int), (0 : Nat), [])),
  Prod.fst (Prod.snd (List.getD (List.set x.2.1 x.2.2.1 (nxFl x)) (Int.toNat (↑x.2.2.1 : Int)) ((0 : Int), (0 : Int), (0 : Int), (0 : Nat), []))), Prod.fst (Prod.snd (Prod.snd (List.getD (List.set x.2.1 x.2.2.1 (nxFl x))
  (Int.toNat (↑x.2.2.1 : Int)) ((0 : Int), (0 : Int), (0 : Int), (0 : Nat), [])))), b, delAt (Prod.snd (Prod.snd (Prod.snd (Prod.snd (List.getD (List.set x.2.1 x.2.2.1 (nxFl x)) (Int.toNat (↑x.2.2.1 : Int)) ((0 : Int),
  (0 : Int), (0 : Int), (0 : Nat), [])))))) (0 : Int))) (Int.toNat (↑x.2.2.1 : Int)) ((0 : Int), (0 : Int), (0 : Int), (0 : Nat), [])))))) (Int.toNat (↑x.2.2.1 : Int)) ((0 : Int), (0 : Int), (0 : Int), (0 : Nat),
  []))))))) : Int) = (0 : Int)) = true → ∃ (x' : List FlG × Int × Bool), (nxE d x x' ∧ List.Nodup (idsF x'.1)) ∧ Int.toNat (↑x.2.2.1 : Int) = Int.toNat (↑x.2.2.1 : Int) ∧ (Int.tmod (IntKind.wrap IntKind.i64 ((↑x.2.2.1 :
  Int) + (1 : Int))) (↑(List.length x.2.1) : Int) = x'.2.1 ∧ x'.2.2 = false) ∧ List.set (List.set (List.set (List.set x.2.1 x.2.2.1 (nxFl x)) (Int.toNat (↑x.2.2.1 : Int)) (Prod.fst (List.getD (List.set x.2.1 x.2.2.1
  (nxFl x)) (Int.toNat (↑x.2.2.1 : Int)) ((0 : Int), (0 : Int), (0 : Int), (0 : Nat), [])), Prod.fst (Prod.snd (List.getD (List.set x.2.1 x.2.2.1 (nxFl x)) (Int.toNat (↑x.2.2.1 : Int)) ((0 : Int), (0 : Int), (0 : Int),
  (0 : Nat), []))), Prod.fst (Prod.snd (Prod.snd (List.getD (List.set x.2.1 x.2.2.1 (nxFl x)) (Int.toNat (↑x.2.2.1 : Int)) ((0 : Int), (0 : Int), (0 : Int), (0 : Nat), [])))), b, delAt (Prod.snd (Prod.snd (Prod.snd
  (Prod.snd (List.getD (List.set x.2.1 x.2.2.1 (nxFl x)) (Int.toNat (↑x.2.2.1 : Int)) ((0 : Int), (0 : Int), (0 : Int), (0 : Nat), [])))))) (0 : Int))) (Int.toNat (↑x.2.2.1 : Int)) (Prod.fst (List.getD (List.set
  (List.set x.2.1 x.2.2.1 (nxFl x)) (Int.toNat (↑x.2.2.1 : Int)) (Prod.fst (List.getD (List.set x.2.1 x.2.2.1 (nxFl x)) (Int.toNat (↑x.2.2.1 : Int)) ((0 : Int), (0 : Int), (0 : Int), (0 : Nat), [])), Prod.fst (Prod.snd
  (List.getD (List.set x.2.1 x.2.2.1 (nxFl x)) (Int.toNat (↑x.2.2.1 : Int)) ((0 : Int), (0 : Int), (0 : Int), (0 : Nat), []))), Prod.fst (Prod.snd (Prod.snd (List.getD (List.set x.2.1 x.2.2.1 (nxFl x)) (Int.toNat
  (↑x.2.2.1 : Int)) ((0 : Int), (0 : Int), (0 : Int), (0 : Nat), [])))), b, delAt (Prod.snd (Prod.snd (Prod.snd (Prod.snd (List.getD (List.set x.2.1 x.2.2.1 (nxFl x)) (Int.toNat (↑x.2.2.1 : Int)) ((0 : Int), (0 : Int),
  (0 : Int), (0 : Nat), [])))))) (0 : Int))) (Int.toNat (↑x.2.2.1 : Int)) ((0 : Int), (0 : Int), (0 : Int), (0 : Nat), [])), Prod.fst (Prod.snd (List.getD (List.set (List.set x.2.1 x.2.2.1 (nxFl x)) (Int.toNat (↑x.2.2.1
  : Int)) (Prod.fst (List.getD (List.set x.2.1 x.2.2.1 (nxFl x)) (Int.toNat (↑x.2.2.1 : Int)) ((0 : Int), (0 : Int), (0 : Int), (0 : Nat), [])), Prod.fst (Prod.snd (List.getD (List.set x.2.1 x.2.2.1 (nxFl x)) (Int.toNat
  (↑x.2.2.1 : Int)) ((0 : Int), (0 : Int), (0 : Int), (0 : Nat), []))), Prod.fst (Prod.snd (Prod.snd (List.getD (List.set x.2.1 x.2.2.1 (nxFl x)) (Int.toNat (↑x.2.2.1 : Int)) ((0 : Int), (0 : Int), (0 : Int), (0 : Nat),
  [])))), b, delAt (Prod.snd (Prod.snd (Prod.snd (Prod.snd (List.getD (List.set x.2.1 x.2.2.1 (nxFl x)) (Int.toNat (↑x.2.2.1 : Int)) ((0 : Int), (0 : Int), (0 : Int), (0 : Nat), [])))))) (0 : Int))) (Int.toNat (↑x.2.2.1
  : Int)) ((0 : Int), (0 : Int), (0 : Int), (0 : Nat), []))), IntKind.wrap IntKind.i64 (Prod.fst (Prod.snd (Prod.snd (List.getD (List.set (List.set x.2.1 x.2.2.1 (nxFl x)) (Int.toNat (↑x.2.2.1 : Int)) (Prod.fst
  (List.getD (List.set x.2.1 x.2.2.1 (nxFl x)) (Int.toNat (↑x.2.2.1 : Int)) ((0 : Int), (0 : Int), (0 : Int), (0 : Nat), [])), Prod.fst (Prod.snd (List.getD (List.set x.2.1 x.2.2.1 (nxFl x)) (Int.toNat (↑x.2.2.1 : Int))
  ((0 : Int), (0 : Int), (0 : Int), (0 : Nat), []))), Prod.fst (Prod.snd (Prod.snd (List.getD (List.set x.2.1 x.2.2.1 (nxFl x)) (Int.toNat (↑x.2.2.1 : Int)) ((0 : Int), (0 : Int), (0 : Int), (0 : Nat), [])))), b, delAt
  (Prod.snd (Prod.snd (Prod.snd (Prod.snd (List.getD (List.set x.2.1 x.2.2.1 (nxFl x)) (Int.toNat (↑x.2.2.1 : Int)) ((0 : Int), (0 : Int), (0 : Int), (0 : Nat), [])))))) (0 : Int))) (Int.toNat (↑x.2.2.1 : Int)) ((0 :
  Int), (0 : Int), (0 : Int), (0 : Nat), [])))) - Prod.snd (List.getD (Prod.snd (Prod.snd (Prod.snd (Prod.snd (List.getD (List.set x.2.1 x.2.2.1 (nxFl x)) (Int.toNat (↑x.2.2.1 : Int)) ((0 : Int), (0 : Int), (0 : Int), (0
  : Nat), [])))))) (Int.toNat (0 : Int)) ((0 : Int), (0 : Int)))), Prod.snd (Prod.snd (Prod.snd (List.getD (List.set (List.set x.2.1 x.2.2.1 (nxFl x)) (Int.toNat (↑x.2.2.1 : Int)) (Prod.fst (List.getD (List.set x.2.1
  x.2.2.1 (nxFl x)) (Int.toNat (↑x.2.2.1 : Int)) ((0 : Int), (0 : Int), (0 : Int), (0 : Nat), [])), Prod.fst (Prod.snd (List.getD (List.set x.2.1 x.2.2.1 (nxFl x)) (Int.toNat (↑x.2.2.1 : Int)) ((0 : Int), (0 : Int), (0 :
  Int), (0 : Nat), []))), Prod.fst (Prod.snd (Prod.snd (List.getD (List.set x.2.1 x.2.2.1 (nxFl x)) (Int.toNat (↑x.2.2.1 : Int)) ((0 : Int), (0 : Int), (0 : Int), (0 : Nat), [])))), b, delAt (Prod.snd (Prod.snd (Prod.snd
  (Prod.snd (List.getD (List.set x.2.1 x.2.2.1 (nxFl x)) (Int.toNat (↑x.2.2.1 : Int)) ((0 : Int), (0 : Int), (0 : Int), (0 : Nat), [])))))) (0 : Int))) (Int.toNat (↑x.2.2.1 : Int)) ((0 : Int), (0 : Int), (0 : Int), (0 :
  Nat), [])))))) (Int.toNat (↑x.2.2.1 : Int)) (Prod.fst (List.getD (List.set (List.set (List.set x.2.1 x.2.2.1 (nxFl x)) (Int.toNat (↑x.2.2.1 : Int)) (Prod.fst (List.getD (List.set x.2.1 x.2.2.1 (nxFl x)) (Int.toNat
  (↑x.2.2.1 : Int)) ((0 : Int), (0 : Int), (0 : Int), (0 : Nat), [])), Prod.fst (Prod.snd (List.getD (List.set x.2.1 x.2.2.1 (nxFl x)) (Int.toNat (↑x.2.2.1 : Int)) ((0 : Int), (0 : Int), (0 : Int), (0 : Nat), []))),
  Prod.fst (Prod.snd (Prod.snd (List.getD (List.set x.2.1 x.2.2.1 (nxFl x)) (Int.toNat (↑x.2.2.1 : Int)) ((0 : Int), (0 : Int), (0 : Int), (0 : Nat), [])))), b, delAt (Prod.snd (Prod.snd (Prod.snd (Prod.snd (List.getD
  (List.set x.2.1 x.2.2.1 (nxFl x)) (Int.toNat (↑x.2.2.1 : Int)) ((0 : Int), (0 : Int), (0 : Int), (0 : Nat), [])))))) (0 : Int))) (Int.toNat (↑x.2.2.1 : Int)) (Prod.fst (List.getD (List.set (List.set x.2.1 x.2.2.1 (nxFl
  x)) (Int.toNat (↑x.2.2.1 : Int)) (Prod.fst (List.getD (List.set x.2.1 x.2.2.1 (nxFl x)) (Int.toNat (↑x.2.2.1 : Int)) ((0 : Int), (0 : Int), (0 : Int), (0 : Nat), [])), Prod.fst (Prod.snd (List.getD (List.set x.2.1
  x.2.2.1 (nxFl x)) (Int.toNat (↑x.2.2.1 : Int)) ((0 : Int), (0 : Int), (0 : Int), (0 : Nat), []))), Prod.fst (Prod.snd (Prod.snd (List.getD (List.set x.2.1 x.2.2.1 (nxFl x)) (Int.toNat (↑x.2.2.1 : Int)) ((0 : Int), (0 :
  Int), (0 : Int), (0 : Nat), [])))), b, delAt (Prod.snd (Prod.snd (Prod.snd (Prod.snd (List.getD (List.set x.2.1 x.2.2.1 (nxFl x)) (Int.toNat (↑x.2.2.1 : Int)) ((0 : Int), (0 : Int), (0 : Int), (0 : Nat), [])))))) (0 :
  Int))) (Int.toNat (↑x.2.2.1 : Int)) ((0 : Int), (0 : Int), (0 : Int), (0 : Nat), [])), Prod.fst (Prod.snd (List.getD (List.set (List.set x.2.1 x.2.2.1 (nxFl x)) (Int.toNat (↑x.2.2.1 : Int)) (Prod.fst (List.getD
  (List.set x.2.1 x.2.2.1 (nxFl x)) (Int.toNat (↑x.2.2.1 : Int)) ((0 : Int), (0 : Int), (0 : Int), (0 : Nat), [])), Prod.fst (Prod.snd (List.getD (List.set x.2.1 x.2.2.1 (nxFl x)) (Int.toNat (↑x.2.2.1 : Int)) ((0 : Int),
  (0 : Int), (0 : Int), (0 : Nat), []))), Prod.fst (Prod.snd (Prod.snd (List.getD (List.set x.2.1 x.2.2.1 (nxFl x)) (Int.toNat (↑x.2.2.1 : Int)) ((0 : Int), (0 : Int), (0 : Int), (0 : Nat), [])))), b, delAt (Prod.snd
  (Prod.snd (Prod.snd (Prod.snd (List.getD (List.set x.2.1 x.2.2.1 (nxFl x)) (Int.toNat (↑x.2.2.1 : Int)) ((0 : Int), (0 : Int), (0 : Int), (0 : Nat), [])))))) (0 : Int))) (Int.toNat (↑x.2.2.1 : Int)) ((0 : Int), (0 :
  Int), (0 : Int), (0 : Nat), []))), IntKind.wrap IntKind.i64 (Prod.fst (Prod.snd (Prod.snd (List.getD (List.set (List.set x.2.1 x.2.2.1 (nxFl x)) (Int.toNat (↑x.2.2.1 : Int)) (Prod.fst (List.getD (List.set x.2.1 x.2.2.1
  (nxFl x)) (Int.toNat (↑x.2.2.1 : Int)) ((0 : Int), (0 : Int), (0 : Int), (0 : Nat), [])), Prod.fst (Prod.snd (List.getD (List.set x.2.1 x.2.2.1 (nxFl x)) (Int.toNat (↑x.2.2.1 : Int)) ((0 : Int), (0 : Int), (0 : Int),
  (0 : Nat), []))), Prod.fst (Prod.snd (Prod.snd (List.getD (List.set x.2.1 x.2.2.1 (nxFl x)) (Int.toNat (↑x.2.2.1 : Int)) ((0 : Int), (0 : Int), (0 : Int), (0 : Nat), [])))), b, delAt (Prod.snd (Prod.snd (Prod.snd
  (Prod.snd (List.getD (List.set x.2.1 x.2.2.1 (nxFl x)) (Int.toNat (↑x.2.2.1 : Int)) ((0 : Int), (0 : Int), (0 : Int), (0 : Nat), [])))))) (0 : Int))) (Int.toNat (↑x.2.2.1 : Int)) ((0 : Int), (0 : Int), (0 : Int), (0 :
  Nat), [])))) - Prod.snd (List.getD (Prod.snd (Prod.snd (Prod.snd (Prod.snd (List.getD (List.set x.2.1 x.2.2.1 (nxFl x)) (Int.toNat (↑x.2.2.1 : Int)) ((0 : Int), (0 : Int), (0 : Int), (0 : Nat), [])))))) (Int.toNat (0 :
  Int)) ((0 : Int), (0 : Int)))), Prod.snd (Prod.snd (Prod.snd (List.getD (List.set (List.set x.2.1 x.2.2.1 (nxFl x)) (Int.toNat (↑x.2.2.1 : Int)) (Prod.fst (List.getD (List.set x.2.1 x.2.2.1 (nxFl x)) (Int.toNat
  (↑x.2.2.1 : Int)) ((0 : Int), (0 : Int), (0 : Int), (0 : Nat), [])), Prod.fst (Prod.snd (List.getD (List.set x.2.1 x.2.2.1 (nxFl x)) (Int.toNat (↑x.2.2.1 : Int)) ((0 : Int), (0 : Int), (0 : Int), (0 : Nat), []))),
  Prod.fst (Prod.snd (Prod.snd (List.getD (List.set x.2.1 x.2.2.1 (nxFl x)) (Int.toNat (↑x.2.2.1 : Int)) ((0 : Int), (0 : Int), (0 : Int), (0 : Nat), [])))), b, delAt (Prod.snd (Prod.snd (Prod.snd (Prod.snd (List.getD
  (List.set x.2.1 x.2.2.1 (nxFl x)) (Int.toNat (↑x.2.2.1 : Int)) ((0 : Int), (0 : Int), (0 : Int), (0 : Nat), [])))))) (0 : Int))) (Int.toNat (↑x.2.2.1 : Int)) ((0 : Int), (0 : Int), (0 : Int), (0 : Nat), []))))))
  (Int.toNat (↑x.2.2.1 : Int)) ((0 : Int), (0 : Int), (0 : Int), (0 : Nat), [])), Prod.fst (Prod.snd (List.getD (List.set (List.set (List.set x.2.1 x.2.2.1 (nxFl x)) (Int.toNat (↑x.2.2.1 : Int)) (Prod.fst (List.getD
  (List.set x.2.1 x.2.2.1 (nxFl x)) (Int.toNat (↑x.2.2.1 : Int)) ((0 : Int), (0 : Int), (0 : Int), (0 : Nat), [])), Prod.fst (Prod.snd (List.getD (List.set x.2.1 x.2.2.1 (nxFl x)) (Int.toNat (↑x.2.2.1 : Int)) ((0 : Int),
  (0 : Int), (0 : Int), (0 : Nat), []))), Prod.fst (Prod.snd (Prod.snd (List.getD (List.set x.2.1 x.2.2.1 (nxFl x)) (Int.toNat (↑x.2.2.1 : Int)) ((0 : Int), (0 : Int), (0 : Int), (0 : Nat), [])))), b, delAt (Prod.snd
  (Prod.snd (Prod.snd (Prod.snd (List.getD (List.set x.2.1 x.2.2.1 (nxFl x)) (Int.toNat (↑x.2.2.1 : Int)) ((0 : Int), (0 : Int), (0 : Int), (0 : Nat), [])))))) (0 : Int))) (Int.toNat (↑x.2.2.1 : Int)) (Prod.fst
  (List.getD (List.set (List.set x.2.1 x.2.2.1 (nxFl x)) (Int.toNat (↑x.2.2.1 : Int)) (Prod.fst (List.getD (List.set x.2.1 x.2.2.1 (nxFl x)) (Int.toNat (↑x.2.2.1 : Int)) ((0 : Int), (0 : Int), (0 : Int), (0 : Nat), [])),
  Prod.fst (Prod.snd (List.getD (List.set x.2.1 x.2.2.1 (nxFl x)) (Int.toNat (↑x.2.2.1 : Int)) ((0 : Int), (0 : Int), (0 : Int), (0 : Nat), []))), Prod.fst (Prod.snd (Prod.snd (List.getD (List.set x.2.1 x.2.2.1 (nxFl x))
  (Int.toNat (↑x.2.2.1 : Int)) ((0 : Int), (0 : Int), (0 : Int), (0 : Nat), [])))), b, delAt (Prod.snd (Prod.snd (Prod.snd (Prod.snd (List.getD (List.set x.2.1 x.2.2.1 (nxFl x)) (Int.toNat (↑x.2.2.1 : Int)) ((0 : Int),
  (0 : Int), (0 : Int), (0 : Nat), [])))))) (0 : Int))) (Int.toNat (↑x.2.2.1 : Int)) ((0 : Int), (0 : Int), (0 : Int), (0 : Nat), [])), Prod.fst (Prod.snd (List.getD (List.set (List.set x.2.1 x.2.2.1 (nxFl x)) (Int.toNat
  (↑x.2.2.1 : Int)) (Prod.fst (List.getD (List.set x.2.1 x.2.2.1 (nxFl x)) (Int.toNat (↑x.2.2.1 : Int)) ((0 : Int), (0 : Int), (0 : Int), (0 : Nat), [])), Prod.fst (Prod.snd (List.getD (List.set x.2.1 x.2.2.1 (nxFl x))
  (Int.toNat (↑x.2.2.1 : Int)) ((0 : Int), (0 : Int), (0 : Int), (0 : Nat), []))), Prod.fst (Prod.snd (Prod.snd (List.getD (List.set x.2.1 x.2.2.1 (nxFl x)) (Int.toNat (↑x.2.2.1 : Int)) ((0 : Int), (0 : Int), (0 : Int),
  (0 : Nat), [])))), b, delAt (Prod.snd (Prod.snd (Prod.snd (Prod.snd (List.getD (List.set x.2.1 x.2.2.1 (nxFl x)) (Int.toNat (↑x.2.2.1 : Int)) ((0 : Int), (0 : Int), (0 : Int), (0 : Nat), [])))))) (0 : Int))) (Int.toNat
  (↑x.2.2.1 : Int)) ((0 : Int), (0 : Int), (0 : Int), (0 : Nat), []))), IntKind.wrap IntKind.i64 (Prod.fst (Prod.snd (Prod.snd (List.getD (List.set (List.set x.2.1 x.2.2.1 (nxFl x)) (Int.toNat (↑x.2.2.1 : Int)) (Prod.fst
  (List.getD (List.set x.2.1 x.2.2.1 (nxFl x)) (Int.toNat (↑x.2.2.1 : Int)) ((0 : Int), (0 : Int), (0 : Int), (0 : Nat), [])), Prod.fst (Prod.snd (List.getD (List.set x.2.1 x.2.2.1 (nxFl x)) (Int.toNat (↑x.2.2.1 : Int))
  ((0 : Int), (0 : Int), (0 : Int), (0 : Nat), []))), Prod.fst (Prod.snd (Prod.snd (List.getD (List.set x.2.1 x.2.2.1 (nxFl x)) (Int.toNat (↑x.2.2.1 : Int)) ((0 : Int), (0 : Int), (0 : Int), (0 : Nat), [])))), b, delAt
  (Prod.snd (Prod.snd (Prod.snd (Prod.snd (List.getD (List.set x.2.1 x.2.2.1 (nxFl x)) (Int.toNat (↑x.2.2.1 : Int)) ((0 : Int), (0 : Int), (0 : Int), (0 : Nat), [])))))) (0 : Int))) (Int.toNat (↑x.2.2.1 : Int)) ((0 :
  Int), (0 : Int), (0 : Int), (0 : Nat), [])))) - Prod.snd (List.getD (Prod.snd (Prod.snd (Prod.snd (Prod.snd (List.getD (List.set x.2.1 x.2.2.1 (nxFl x)) (Int.toNat (↑x.2.2.1 : Int)) ((0 : Int), (0 : Int), (0 : Int), (0
  : Nat), [])))))) (Int.toNat (0 : Int)) ((0 : Int), (0 : Int)))), Prod.snd (Prod.snd (Prod.snd (List.getD (List.set (List.set x.2.1 x.2.2.1 (nxFl x)) (Int.toNat (↑x.2.2.1 : Int)) (Prod.fst (List.getD (List.set x.2.1
  x.2.2.1 (nxFl x)) (Int.toNat (↑x.2.2.1 : Int)) ((0 : Int), (0 : Int), (0 : Int), (0 : Nat), [])), Prod.fst (Prod.snd (List.getD (List.set x.2.1 x.2.2.1 (nxFl x)) (Int.toNat (↑x.2.2.1 : Int)) ((0 : Int), (0 : Int), (0 :
  Int), (0 : Nat), []))), Prod.fst (Prod.snd (Prod.snd (List.getD (List.set x.2.1 x.2.2.1 (nxFl x)) (Int.toNat (↑x.2.2.1 : Int)) ((0 : Int), (0 : Int), (0 : Int), (0 : Nat), [])))), b, delAt (Prod.snd (Prod.snd (Prod.snd
  (Prod.snd (List.getD (List.set x.2.1 x.2.2.1 (nxFl x)) (Int.toNat (↑x.2.2.1 : Int)) ((0 : Int), (0 : Int), (0 : Int), (0 : Nat), [])))))) (0 : Int))) (Int.toNat (↑x.2.2.1 : Int)) ((0 : Int), (0 : Int), (0 : Int), (0 :
  Nat), [])))))) (Int.toNat (↑x.2.2.1 : Int)) ((0 : Int), (0 : Int), (0 : Int), (0 : Nat), []))), (0 : Int), Prod.snd (Prod.snd (Prod.snd (List.getD (List.set (List.set (List.set x.2.1 x.2.2.1 (nxFl x)) (Int.toNat
  (↑x.2.2.1 : Int)) (Prod.fst (List.getD (List.set x.2.1 x.2.2.1 (nxFl x)) (Int.toNat (↑x.2.2.1 : Int)) ((0 : Int), (0 : Int), (0 : Int), (0 : Nat), [])), Prod.fst (Prod.snd (List.getD (List.set x.2.1 x.2.2.1 (nxFl x))
  (Int.toNat (↑x.2.2.1 : Int)) ((0 : Int), (0 : Int), (0 : Int), (0 : Nat), []))), Prod.fst (Prod.snd (Prod.snd (List.getD (List.set x.2.1 x.2.2.1 (nxFl x)) (Int.toNat (↑x.2.2.1 : Int)) ((0 : Int), (0 : Int), (0 : Int),
  (0 : Nat), [])))), b, delAt (Prod.snd (Prod.snd (Prod.snd (Prod.snd (List.getD (List.set x.2.1 x.2.2.1 (nxFl x)) (Int.toNat (↑x.2.2.1 : Int)) ((0 : Int), (0 : Int), (0 : Int), (0 : Nat), [])))))) (0 : Int))) (Int.toNat
  (↑x.2.2.1 : Int)) (Prod.fst (List.getD (List.set (List.set x.2.1 x.2.2.1 (nxFl x)) (Int.toNat (↑x.2.2.1 : Int)) (Prod.fst (List.getD (List.set x.2.1 x.2.2.1 (nxFl x)) (Int.toNat (↑x.2.2.1 : Int)) ((0 : Int), (0 : Int),
  (0 : Int), (0 : Nat), [])), Prod.fst (Prod.snd (List.getD (List.set x.2.1 x.2.2.1 (nxFl x)) (Int.toNat (↑x.2.2.1 : Int)) ((0 : Int), (0 : Int), (0 : Int), (0 : Nat), []))), Prod.fst (Prod.snd (Prod.snd (List.getD
  (List.set x.2.1 x.2.2.1 (nxFl x)) (Int.toNat (↑x.2.2.1 : Int)) ((0 : Int), (0 : Int), (0 : Int), (0 : Nat), [])))), b, delAt (Prod.snd (Prod.snd (Prod.snd (Prod.snd (List.getD (List.set x.2.1 x.2.2.1 (nxFl x))
  (Int.toNat (↑x.2.2.1 : Int)) ((0 : Int), (0 : Int), (0 : Int), (0 : Nat), [])))))) (0 : Int))) (Int.toNat (↑x.2.2.1 : Int)) ((0 : Int), (0 : Int), (0 : Int), (0 : Nat), [])), Prod.fst (Prod.snd (List.getD (List.set
  (List.set x.2.1 x.2.2.1 (nxFl x)) (Int.toNat (↑x.2.2.1 : Int)) (Prod.fst (List.getD (List.set x.2.1 x.2.2.1 (nxFl x)) (Int.toNat (↑x.2.2.1 : Int)) ((0 : Int), (0 : Int), (0 : Int), (0 : Nat), [])), Prod.fst (Prod.snd
  (List.getD (List.set x.2.1 x.2.2.1 (nxFl x)) (Int.toNat (↑x.2.2.1 : Int)) ((0 : Int), (0 : Int), (0 : Int), (0 : Nat), []))), Prod.fst (Prod.snd (Prod.snd (List.getD (List.set x.2.1 x.2.2.1 (nxFl x)) (Int.toNat
  (↑x.2.2.1 : Int)) ((0 : Int), (0 : Int), (0 : Int), (0 : Nat), [])))), b, delAt (Prod.snd (Prod.snd (Prod.snd (Prod.snd (List.getD (List.set x.2.1 x.2.2.1 (nxFl x)) (Int.toNat (↑x.2.2.1 : Int)) ((0 : Int), (0 : Int),
  (0 : Int), (0 : Nat), [])))))) (0 : Int))) (Int.toNat (↑x.2.2.1 : Int)) ((0 : Int), (0 : Int), (0 : Int), (0 : Nat), []))), IntKind.wrap IntKind.i64 (Prod.fst (Prod.snd (Prod.snd (List.getD (List.set (List.set x.2.1
  x.2.2.1 (nxFl x)) (Int.toNat (↑x.2.2.1 : Int)) (Prod.fst (List.getD (List.set x.2.1 x.2.2.1 (nxFl x)) (Int.toNat (↑x.2.2.1 : Int)) ((0 : Int), (0 : Int), (0 : Int), (0 : Nat), [])), Prod.fst (Prod.snd (List.getD
  (List.set x.2.1 x.2.2.1 (nxFl x)) (Int.toNat (↑x.2.2.1 : Int)) ((0 : Int), (0 : Int), (0 : Int), (0 : Nat), []))), Prod.fst (Prod.snd (Prod.snd (List.getD (List.set x.2.1 x.2.2.1 (nxFl x)) (Int.toNat (↑x.2.2.1 : Int))
  ((0 : Int), (0 : Int), (0 : Int), (0 : Nat), [])))), b, delAt (Prod.snd (Prod.snd (Prod.snd (Prod.snd (List.getD (List.set x.2.1 x.2.2.1 (nxFl x)) (Int.toNat (↑x.2.2.1 : Int)) ((0 : Int), (0 : Int), (0 : Int), (0 :
  Nat), [])))))) (0 : Int))) (Int.toNat (↑x.2.2.1 : Int)) ((0 : Int), (0 : Int), (0 : Int), (0 : Nat), [])))) - Prod.snd (List.getD (Prod.snd (Prod.snd (Prod.snd (Prod.snd (List.getD (List.set x.2.1 x.2.2.1 (nxFl x))
  (Int.toNat (↑x.2.2.1 : Int)) ((0 : Int), (0 : Int), (0 : Int), (0 : Nat), [])))))) (Int.toNat (0 : Int)) ((0 : Int), (0 : Int)))), Prod.snd (Prod.snd (Prod.snd (List.getD (List.set (List.set x.2.1 x.2.2.1 (nxFl x))
  (Int.toNat (↑x.2.2.1 : Int)) (Prod.fst (List.getD (List.set x.2.1 x.2.2.1 (nxFl x)) (Int.toNat (↑x.2.2.1 : Int)) ((0 : Int), (0 : Int), (0 : Int), (0 : Nat), [])), Prod.fst (Prod.snd (List.getD (List.set x.2.1 x.2.2.1
  (nxFl x)) (Int.toNat (↑x.2.2.1 : Int)) ((0 : Int), (0 : Int), (0 : Int), (0 : Nat), []))), Prod.fst (Prod.snd (Prod.snd (List.getD (List.set x.2.1 x.2.2.1 (nxFl x)) (Int.toNat (↑x.2.2.1 : Int)) ((0 : Int), (0 : Int),
  (0 : Int), (0 : Nat), [])))), b, delAt (Prod.snd (Prod.snd (Prod.snd (Prod.snd (List.getD (List.set x.2.1 x.2.2.1 (nxFl x)) (Int.toNat (↑x.2.2.1 : Int)) ((0 : Int), (0 : Int), (0 : Int), (0 : Nat), [])))))) (0 : Int)))
  (Int.toNat (↑x.2.2.1 : Int)) ((0 : Int), (0 : Int), (0 : Int), (0 : Nat), [])))))) (Int.toNat (↑x.2.2.1 : Int)) ((0 : Int), (0 : Int), (0 : Int), (0 : Nat), []))))) = x'.1 ∧ ((0 : Int) = (0 : Int) ∧ (0 : Int) = (0 :
  Int)) ∧ Prod.fst (List.getD (Prod.snd (Prod.snd (Prod.snd (Prod.snd (List.getD (List.set x.2.1 x.2.2.1 (nxFl x)) (Int.toNat (↑x.2.2.1 : Int)) ((0 : Int), (0 : Int), (0 : Int), (0 : Nat), [])))))) (Int.toNat (0 : Int))
  ((0 : Int), (0 : Int))) = Prod.fst (nxHd x) ∧ Prod.snd (List.getD (Prod.snd (Prod.snd (Prod.snd (Prod.snd (List.getD (List.set x.2.1 x.2.2.1 (nxFl x)) (Int.toNat (↑x.2.2.1 : Int)) ((0 : Int), (0 : Int), (0 : Int), (0 :
  Nat), [])))))) (Int.toNat (0 : Int)) ((0 : Int), (0 : Int))) = Prod.snd (nxHd x)) ∧ (decide ((↑(List.length (Prod.snd (Prod.snd (Prod.snd (Prod.snd (List.getD (List.set (List.set (List.set x.2.1 x.2.2.1 (nxFl x))
  (Int.toNat (↑x.2.2.1 : Int)) (Prod.fst (List.getD (List.set x.2.1 x.2.2.1 (nxFl x)) (Int.toNat (↑x.2.2.1 : Int)) ((0 : Int), (0 : Int), (0 : Int), (0 : Nat), [])), Prod.fst (Prod.snd (List.getD (List.set x.2.1 x.2.2.1
  (nxFl x)) (Int.toNat (↑x.2.2.1 : Int)) ((0 : Int), (0 : Int), (0 : Int), (0 : Nat), []))), Prod.fst (Prod.snd (Prod.snd (List.getD (List.set x.2.1 x.2.2.1 (nxFl x)) (Int.toNat (↑x.2.2.1 : Int)) ((0 : Int), (0 : Int),
  (0 : Int), (0 : Nat), [])))), b, delAt (Prod.snd (Prod.snd (Prod.snd (Prod.snd (List.getD (List.set x.2.1 x.2.2.1 (nxFl x)) (Int.toNat (↑x.2.2.1 : Int)) ((0 : Int), (0 : Int), (0 : Int), (0 : Nat), [])))))) (0 : Int)))
  (Int.toNat (↑x.2.2.1 : Int)) (Prod.fst (List.getD (List.set (List.set x.2.1 x.2.2.1 (nxFl x)) (Int.toNat (↑x.2.2.1 : Int)) (Prod.fst (List.getD (List.set x.2.1 x.2.2.1 (nxFl x)) (Int.toNat (↑x.2.2.1 : Int)) ((0 : Int),
  (0 : Int), (0 : Int), (0 : Nat), [])), Prod.fst (Prod.snd (List.getD (List.set x.2.1 x.2.2.1 (nxFl x)) (Int.toNat (↑x.2.2.1 : Int)) ((0 : Int), (0 : Int), (0 : Int), (0 : Nat), []))), Prod.fst (Prod.snd (Prod.snd
  (List.getD (List.set x.2.1 x.2.2.1 (nxFl x)) (Int.toNat (↑x.2.2.1 : Int)) ((0 : Int), (0 : Int), (0 : Int), (0 : Nat), [])))), b, delAt (Prod.snd (Prod.snd (Prod.snd (Prod.snd (List.getD (List.set x.2.1 x.2.2.1 (nxFl
  x)) (Int.toNat (↑x.2.2.1 : Int)) ((0 : Int), (0 : Int), (0 : Int), (0 : Nat), [])))))) (0 : Int))) (Int.toNat (↑x.2.2.1 : Int)) ((0 : Int), (0 : Int), (0 : Int), (0 : Nat), [])), Prod.fst (Prod.snd (List.getD (List.set
  (List.set x.2.1 x.2.2.1 (nxFl x)) (Int.toNat (↑x.2.2.1 : Int)) (Prod.fst (List.getD (List.set x.2.1 x.2.2.1 (nxFl x)) (Int.toNat (↑x.2.2.1 : Int)) ((0 : Int), (0 : Int), (0 : Int), (0 : Nat), [])), Prod.fst (Prod.snd
  (List.getD (List.set x.2.1 x.2.2.1 (nxFl x)) (Int.toNat (↑x.2.2.1 : Int)) ((0 : Int), (0 : Int), (0 : Int), (0 : Nat), []))), Prod.fst (Prod.snd (Prod.snd (List.getD (List.set x.2.1 x.2.2.1 (nxFl x)) (Int.toNat
  (↑x.2.2.1 : Int)) ((0 : Int), (0 : Int), (0 : Int), (0 : Nat), [])))), b, delAt (Prod.snd (Prod.snd (Prod.snd (Prod.snd (List.getD (List.set x.2.1 x.2.2.1 (nxFl x)) (Int.toNat (↑x.2.2.1 : Int)) ((0 : Int), (0 : Int),
  (0 : Int), (0 : Nat), [])))))) (0 : Int))) (Int.toNat (↑x.2.2.1 : Int)) ((0 : Int), (0 : Int), (0 : Int), (0 : Nat), []))), IntKind.wrap IntKind.i64 (Prod.fst (Prod.snd (Prod.snd (List.getD (List.set (List.set x.2.1
  x.2.2.1 (nxFl x)) (Int.toNat (↑x.2.2.1 : Int)) (Prod.fst (List.getD (List.set x.2.1 x.2.2.1 (nxFl x)) (Int.toNat (↑x.2.2.1 : Int)) ((0 : Int), (0 : Int), (0 : Int), (0 : Nat), [])), Prod.fst (Prod.snd (List.getD
  (List.set x.2.1 x.2.2.1 (nxFl x)) (Int.toNat (↑x.2.2.1 : Int)) ((0 : Int), (0 : Int), (0 : Int), (0 : Nat), []))), Prod.fst (Prod.snd (Prod.snd (List.getD (List.set x.2.1 x.2.2.1 (nxFl x)) (Int.toNat (↑x.2.2.1 : Int))
  ((0 : Int), (0 : Int), (0 : Int), (0 : Nat), [])))), b, delAt (Prod.snd (Prod.snd (Prod.snd (Prod.snd (List.getD (List.set x.2.1 x.2.2.1 (nxFl x)) (Int.toNat (↑x.2.2.1 : Int)) ((0 : Int), (0 : Int), (0 : Int), (0 :
  Nat), [])))))) (0 : Int))) (Int.toNat (↑x.2.2.1 : Int)) ((0 : Int), (0 : Int), (0 : Int), (0 : Nat), [])))) - Prod.snd (List.getD (Prod.snd (Prod.snd (Prod.snd (Prod.snd (List.getD (List.set x.2.1 x.2.2.1 (nxFl x))
  (Int.toNat (↑x.2.2.1 : Int)) ((0 : Int), (0 : Int), (0 : Int), (0 : Nat), [])))))) (Int.toNat (0 : Int)) ((0 : Int), (0 : Int)))), Prod.snd (Prod.snd (Prod.snd (List.getD (List.set (List.set x.2.1 x.2.2.1 (nxFl x))
  (Int.toNat (↑x.2.2.1 : Int)) (Prod.fst (List.getD (List.set x.2.1 x.2.2.1 (nxFl x)) (Int.toNat (↑x.2.2.1 : Int)) ((0 : Int), (0 : Int), (0 : Int), (0 : Nat), [])), Prod.fst (Prod.snd (List.getD (List.set x.2.1 x.2.2.1
  (nxFl x)) (Int.toNat (↑x.2.2.1 : Int)) ((0 : Int), (0 : Int), (0 : Int), (0 : Nat), []))), Prod.fst (Prod.snd (Prod.snd (List.getD (List.set x.2.1 x.2.2.1 (nxFl x)) (Int.toNat (↑x.2.2.1 : Int)) ((0 : Int), (0 : Int),
  (0 : Int), (0 : Nat), [])))), b, delAt (Prod.snd (Prod.snd (Prod.snd (Prod.snd (List.getD (List.set x.2.1 x.2.2.1 (nxFl x)) (Int.toNat (↑x.2.2.1 : Int)) ((0 : Int), (0 : Int), (0 : Int), (0 : Nat), [])))))) (0 : Int)))
  (Int.toNat (↑x.2.2.1 : Int)) ((0 : Int), (0 : Int), (0 : Int), (0 : Nat), [])))))) (Int.toNat (↑x.2.2.1 : Int)) ((0 : Int), (0 : Int), (0 : Int), (0 : Nat), []))))))) : Int) = (0 : Int)) = false → ∃ (x' : List FlG ×
  Int × Bool), (nxE d x x' ∧ List.Nodup (idsF x'.1)) ∧ Int.toNat (↑x.2.2.1 : Int) = Int.toNat (↑x.2.2.1 : Int) ∧ ((↑x.2.2.1 : Int) = x'.2.1 ∧ true = x'.2.2) ∧ List.set (List.set (List.set x.2.1 x.2.2.1 (nxFl x))
  (Int.toNat (↑x.2.2.1 : Int)) (Prod.fst (List.getD (List.set x.2.1 x.2.2.1 (nxFl x)) (Int.toNat (↑x.2.2.1 : Int)) ((0 : Int), (0 : Int), (0 : Int), (0 : Nat), [])), Prod.fst (Prod.snd (List.getD (List.set x.2.1 x.2.2.1
  (nxFl x)) (Int.toNat (↑x.2.2.1 : Int)) ((0 : Int), (0 : Int), (0 : Int), (0 : Nat), []))), Prod.fst (Prod.snd (Prod.snd (List.getD (List.set x.2.1 x.2.2.1 (nxFl x)) (Int.toNat (↑x.2.2.1 : Int)) ((0 : Int), (0 : Int),
  (0 : Int), (0 : Nat), [])))), b, delAt (Prod.snd (Prod.snd (Prod.snd (Prod.snd (List.getD (List.set x.2.1 x.2.2.1 (nxFl x)) (Int.toNat (↑x.2.2.1 : Int)) ((0 : Int), (0 : Int), (0 : Int), (0 : Nat), [])))))) (0 : Int)))
  (Int.toNat (↑x.2.2.1 : Int)) (Prod.fst (List.getD (List.set (List.set x.2.1 x.2.2.1 (nxFl x)) (Int.toNat (↑x.2.2.1 : Int)) (Prod.fst (List.getD (List.set x.2.1 x.2.2.1 (nxFl x)) (Int.toNat (↑x.2.2.1 : Int)) ((0 : Int),
  (0 : Int), (0 : Int), (0 : Nat), [])), Prod.fst (Prod.snd (List.getD (List.set x.2.1 x.2.2.1 (nxFl x)) (Int.toNat (↑x.2.2.1 : Int)) ((0 : Int), (0 : Int), (0 : Int), (0 : Nat), []))), Prod.fst (Prod.snd (Prod.snd
  (List.getD (List.set x.2.1 x.2.2.1 (nxFl x)) (Int.toNat (↑x.2.2.1 : Int)) ((0 : Int), (0 : Int), (0 : Int), (0 : Nat), [])))), b, delAt (Prod.snd (Prod.snd (Prod.snd (Prod.snd (List.getD (List.set x.2.1 x.2.2.1 (nxFl
  x)) (Int.toNat (↑x.2.2.1 : Int)) ((0 : Int), (0 : Int), (0 : Int), (0 : Nat), [])))))) (0 : Int))) (Int.toNat (↑x.2.2.1 : Int)) ((0 : Int), (0 : Int), (0 : Int), (0 : Nat), [])), Prod.fst (Prod.snd (List.getD (List.set
  (List.set x.2.1 x.2.2.1 (nxFl x)) (Int.toNat (↑x.2.2.1 : Int)) (Prod.fst (List.getD (List.set x.2.1 x.2.2.1 (nxFl x)) (Int.toNat (↑x.2.2.1 : Int)) ((0 : Int), (0 : Int), (0 : Int), (0 : Nat), [])), Prod.fst (Prod.snd
  (List.getD (List.set x.2.1 x.2.2.1 (nxFl x)) (Int.toNat (↑x.2.2.1 : Int)) ((0 : Int), (0 : Int), (0 : Int), (0 : Nat), []))), Prod.fst (Prod.snd (Prod.snd (List.getD (List.set x.2.1 x.2.2.1 (nxFl x)) (Int.toNat
  (↑x.2.2.1 : Int)) ((0 : Int), (0 : Int), (0 : Int), (0 : Nat), [])))), b, delAt (Prod.snd (Prod.snd (Prod.snd (Prod.snd (List.getD (List.set x.2.1 x.2.2.1 (nxFl x)) (Int.toNat (↑x.2.2.1 : Int)) ((0 : Int), (0 : Int),
  (0 : Int), (0 : Nat), [])))))) (0 : Int))) (Int.toNat (↑x.2.2.1 : Int)) ((0 : Int), (0 : Int), (0 : Int), (0 : Nat), []))), IntKind.wrap IntKind.i64 (Prod.fst (Prod.snd (Prod.snd (List.getD (List.set (List.set x.2.1
  x.2.2.1 (nxFl x)) (Int.toNat (↑x.2.2.1 : Int)) (Prod.fst (List.getD (List.set x.2.1 x.2.2.1 (nxFl x)) (Int.toNat (↑x.2.2.1 : Int)) ((0 : Int), (0 : Int), (0 : Int), (0 : Nat), [])), Prod.fst (Prod.snd (List.getD
  (List.set x.2.1 x.2.2.1 (nxFl x)) (Int.toNat (↑x.2.2.1 : Int)) ((0 : Int), (0 : Int), (0 : Int), (0 : Nat), []))), Prod.fst (Prod.snd (Prod.snd (List.getD (List.set x.2.1 x.2.2.1 (nxFl x)) (Int.toNat (↑x.2.2.1 : Int))
  ((0 : Int), (0 : Int), (0 : Int), (0 : Nat), [])))), b, delAt (Prod.snd (Prod.snd (Prod.snd (Prod.snd (List.getD (List.set x.2.1 x.2.2.1 (nxFl x)) (Int.toNat (↑x.2.2.1 : Int)) ((0 : Int), (0 : Int), (0 : Int), (0 :
  Nat), [])))))) (0 : Int))) (Int.toNat (↑x.2.2.1 : Int)) ((0 : Int), (0 : Int), (0 : Int), (0 : Nat), [])))) - Prod.snd (List.getD (Prod.snd (Prod.snd (Prod.snd (Prod.snd (List.getD (List.set x.2.1 x.2.2.1 (nxFl x))
  (Int.toNat (↑x.2.2.1 : Int)) ((0 : Int), (0 : Int), (0 : Int), (0 : Nat), [])))))) (Int.toNat (0 : Int)) ((0 : Int), (0 : Int)))), Prod.snd (Prod.snd (Prod.snd (List.getD (List.set (List.set x.2.1 x.2.2.1 (nxFl x))
  (Int.toNat (↑x.2.2.1 : Int)) (Prod.fst (List.getD (List.set x.2.1 x.2.2.1 (nxFl x)) (Int.toNat (↑x.2.2.1 : Int)) ((0 : Int), (0 : Int), (0 : Int), (0 : Nat), [])), Prod.fst (Prod.snd (List.getD (List.set x.2.1 x.2.2.1
  (nxFl x)) (Int.toNat (↑x.2.2.1 : Int)) ((0 : Int), (0 : Int), (0 : Int), (0 : Nat), []))), Prod.fst (Prod.snd (Prod.snd (List.getD (List.set x.2.1 x.2.2.1 (nxFl x)) (Int.toNat (↑x.2.2.1 : Int)) ((0 : Int), (0 : Int),
  (0 : Int), (0 : Nat), [])))), b, delAt (Prod.snd (Prod.snd (Prod.snd (Prod.snd (List.getD (List.set x.2.1 x.2.2.1 (nxFl x)) (Int.toNat (↑x.2.2.1 : Int)) ((0 : Int), (0 : Int), (0 : Int), (0 : Nat), [])))))) (0 : Int)))
  (Int.toNat (↑x.2.2.1 : Int)) ((0 : Int), (0 : Int), (0 : Int), (0 : Nat), []))))) = x'.1 ∧ ((0 : Int) = (0 : Int) ∧ (0 : Int) = (0 : Int)) ∧ Prod.fst (List.getD (Prod.snd (Prod.snd (Prod.snd (Prod.snd (List.getD
  (List.set x.2.1 x.2.2.1 (nxFl x)) (Int.toNat (↑x.2.2.1 : Int)) ((0 : Int), (0 : Int), (0 : Int), (0 : Nat), [])))))) (Int.toNat (0 : Int)) ((0 : Int), (0 : Int))) = Prod.fst (nxHd x) ∧ Prod.snd (List.getD (Prod.snd
  (Prod.snd (Prod.snd (Prod.snd (List.getD (List.set x.2.1 x.2.2.1 (nxFl x)) (Int.toNat (↑x.2.2.1 : Int)) ((0 : Int), (0 : Int), (0 : Int), (0 : Nat), [])))))) (Int.toNat (0 : Int)) ((0 : Int), (0 : Int))) = Prod.snd
  (nxHd x))) ∧ ∀ (x_2 : List FlG × Int × Bool), nxE d x x_2 ∧ List.Nodup (idsF x_2.1) → (((Prod.fst (List.getD x_2.1 (Int.toNat (↑x.2.2.1 : Int)) ((0 : Int), (0 : Int), (0 : Int), (0 : Nat), [])), nxHd x, true) = nxV
  (unD ringG d) ∧ unD ringG x_2 = nxR (unD ringG d) ∧ List.Nodup (ids ringG x_2) ∧ List.length x_2.1 = List.length d.1) ∧ (Prod.fst (List.getD x_2.1 (Int.toNat (↑x.2.2.1 : Int)) ((0 : Int), (0 : Int), (0 : Int), (0 :
  Nat), [])), nxHd x, true) = nxV (unD ringG d) ∧ unD ringG x_2 = nxR (unD ringG d) ∧ List.Nodup (ids ringG x_2) ∧ List.length x_2.1 = List.length d.1) ∧ (Prod.fst (List.getD x_2.1 (Int.toNat (↑x.2.2.1 : Int)) ((0 :
  Int), (0 : Int), (0 : Int), (0 : Nat), [])), nxHd x, true) = nxV (unD ringG d) ∧ unD ringG x_2 = nxR (unD ringG d) ∧ List.Nodup (ids ringG x_2) ∧ List.length x_2.1 = List.length d.1))))) := by
  intro d hw hp hnd
  simp only [Int.toNat_natCast, exists_const, and_true, true_and, implies_true, decide_eq_true_eq, decide_eq_false_iff_not, Bool.not_eq_true', Bool.not_eq_false', beq_iff_eq, forall_const]
  simp only [unG1', unG2, idG1', idG3', Int.toNat_natCast] at *
  have hfg : ((0 : Int), (0 : Int), (0 : Int), (0 : Nat), ([] : List Tk)) = fg0 := rfl
  simp only [hfg]
  have hring := ring_tot hp
  refine fun _ => ⟨fun h0 => ⟨?_, ?_, hnd⟩, fun h0 => ⟨⟨?_, hnd⟩, ?_, fun x ⟨hx, hxn⟩ => ?_⟩⟩
  · unfold nxV; rw [nx_none (r := (List.map unF d.1, d.2.1, d.2.2)) h0]
  · unfold nxR; rw [nx_none (r := (List.map unF d.1, d.2.1, d.2.2)) h0]
  · have h3 : totT (d.1.map unF) ≠ 0 := by omega
    obtain ⟨i0, hi0, _⟩ := tot_has h3
    rw [List.length_map] at hi0
    obtain ⟨k, hk, hk2⟩ := ring_n hp (by rw [List.length_map]; omega)
    rw [List.length_map] at hk2
    rw [hk] at hp ⊢
    rw [Int.toNat_natCast]
    refine ⟨hp, rfl, by omega, hk2, ?_, nx_some _ _ _ _ hp (by rw [List.length_map]; exact hk2) h3 (Nat.lt_succ_self _), h0⟩
    unfold nxO
    simp only [hk, Int.toNat_natCast]
  · have h3 : totT (d.1.map unF) ≠ 0 := by omega
    obtain ⟨i0, hi0, _⟩ := tot_has h3
    obtain ⟨k, hk, hk2⟩ := ring_n hp (by omega)
    omega
  · obtain ⟨n, L, t, fr⟩ := x
    obtain ⟨j1, j2, j3, j4, j5, j6, j7⟩ := hx
    simp only at j1 j2 j4 j5 j6 hxn ⊢
    have ht : t < L.length := by omega
    have ht' : t < (L.map unF).length := by rw [List.length_map]; exact ht
    have hn : n ≠ 0 := by
      intro e; subst e; cases j6
    obtain ⟨n, rfl⟩ : ∃ k, n = k + 1 := ⟨n - 1, by omega⟩
    have hgs : ∀ f : FlG, (L.set t f).getD t fg0 = f := fun f => by rw [getD_set_eq ht, if_pos rfl]
    have hL : L.length ≤ 12 := by have := (ring_iff.1 j1).1.1; simpa using this
    have hmod := mod_next ht (by omega)
    have hm2 : (t + 1) % L.length < d.1.length := by rw [← j2]; exact Nat.mod_lt _ (by omega)
    simp only [hgs, List.set_set, hmod, nxFl, nxHd, show Int.toNat 0 = 0 from rfl]
    have hu := un_at (L := L) ht
    have hJ : nxJ d (n + 1, L, t, fr) := ⟨j1, j2, j3, j4, j5, j6, j7⟩
    have hout : ∀ y : RgG, nxE d (n + 1, L, t, fr) y → _ := fun y hy => nxE_out hp h0 hy
    refine ⟨⟨by omega, by omega⟩, by omega, fun he => ?_, fun he => ⟨⟨fun hf => ?_, fun hf => ?_⟩, fun hne => ⟨⟨Int.le_refl _, ?_⟩, fun hd => ?_, fun hd => ⟨⟨Int.le_refl _, ?_, ?_⟩, fun _ b hb => ⟨⟨fun hz => ?_, fun hz => ?_⟩, fun y hy => ?_⟩⟩⟩⟩⟩
    · have he : (L.getD t fg0).2.2.2.2 = [] := List.length_eq_zero_iff.1 (by omega)
      exact ⟨(n, L, (t + 1) % L.length, fr), ⟨nxJ_nil hJ he, hxn⟩, Nat.lt_succ_self _, ⟨rfl, rfl⟩, rfl⟩
    · have hne : (L.getD t fg0).2.2.2.2 ≠ [] := fun e => he (by rw [e]; rfl)
      refine ⟨hne, ?_⟩
      subst hf
      have hb := nxJ_bound hJ hne
      have e : stepDf (unF (L.getD t fg0)) false = (L.getD t fg0).2.2.1 + (L.getD t fg0).2.1 := if_neg (by simp)
      rw [e] at hb ⊢
      rw [wrap_small (by omega)]
    · have hne : (L.getD t fg0).2.2.2.2 ≠ [] := fun e => he (by rw [e]; rfl)
      subst hf
      refine ⟨hne, rfl, ?_⟩
      have e : stepDf (unF (L.getD t fg0)) true = (L.getD t fg0).2.2.1 := if_pos rfl
      rw [e]
      exact (set_get ht).symm
    · have := Nat.pos_of_ne_zero (fun h => hne (List.length_eq_zero_iff.1 h)); omega
    · exact ⟨(n, _, (t + 1) % L.length, false), ⟨nxJ_wait hJ hne hd rfl, nodup_df hxn rfl⟩, Nat.lt_succ_self _, ⟨rfl, rfl⟩, rfl⟩
    · have := Nat.pos_of_ne_zero (fun h => hne (List.length_eq_zero_iff.1 h)); omega
    · have := (nxJ_bound hJ hne).2.2.2.2.1; omega
    · have hz : delAt (L.getD t fg0).2.2.2.2 0 = [] := List.length_eq_zero_iff.1 (by omega)
      have hb' := ids_df ht (by rfl) hb
      exact ⟨_, ⟨nxJ_done hJ hne hd hz rfl, nodup_new hxn hb' rfl⟩, ⟨rfl, rfl⟩, rfl, trivial, trivial⟩
    · have hz : delAt (L.getD t fg0).2.2.2.2 0 ≠ [] := fun e => hz (by rw [e]; rfl)
      have hb' := ids_df ht (by rfl) hb
      have hbd := nxJ_bound hJ hne
      rw [wrap_small (by omega)]
      exact ⟨_, ⟨nxJ_more hJ hne hd hz rfl, nodup_new hxn hb' rfl⟩, ⟨rfl, rfl⟩, rfl, trivial, trivial⟩
    · obtain ⟨o1, o2, o3⟩ := hout y hy.1
      have hl := hy.1.2.1
      exact ⟨⟨⟨o1, o3, hy.2, hl⟩, o1, o3, hy.2, hl⟩, o1, o3, hy.2, hl⟩
theorem ring_eq {r : List FlG × Int × Bool} {c : Rg} (h : (r.1.map unF, r.2.1, r.2.2) = c) : r.1.map unF = c.1 ∧ r.2.1 = c.2.1 ∧ r.2.2 = c.2.2 := by rw [← h]; exact ⟨rfl, rfl, rfl⟩
theorem nextTk_no {r : Rg} (h : ringOkF r.1 r.2.1 r.2.2 = false) : nextTkF r = (r, 0, (0, 0), false) := by unfold nextTkF; rw [if_neg (by rw [h]; simp)]
theorem nextTk_yes {r : Rg} (h : ringOkF r.1 r.2.1 r.2.2 = true) : nextTkF r = (nxR r, (nxV r).1, (nxV r).2.1, (nxV r).2.2) := by unfold nextTkF nxR nxV; rw [if_pos h]
theorem v_I_NextTicketT :
  ∀ (d : List (Int × Int × Int × List (Int × Int)) × Int × Bool), Ty.wf ringT d → FlsP d.1 → FlsP d.1 ∧ ∀ (r : List FlG × Int × Bool), unD ringG r = d → List.Nodup (ids ringG r) → Ty.wf ringG r → True → True ∧ ((!ringOkF
  d.1 d.2.1 d.2.2) = true → (unD ringG r, unD i64T (0 : Int), unD tkT ((0 : Int), (0 : Int)), unD Ty.bool false) = nextTkF d ∧ List.Nodup (ids ringG r ++ (ids i64T (0 : Int) ++ (ids tkT ((0 : Int), (0 : Int)) ++ ids
  Ty.bool false)))) ∧ ((!ringOkF d.1 d.2.1 d.2.2) = false → ringOkF (Prod.fst (unD ringG r)) (Prod.fst (Prod.snd (unD ringG r))) (Prod.snd (Prod.snd (unD ringG r))) = true ∧ List.Nodup (ids ringG r) ∧ ∀ (d' : List FlG ×
  Int × Bool), unD ringG d' = nxR (unD ringG r) → Ty.wf ringG d' → Ty.wf i64T (Prod.fst (nxV (unD ringG r))) ∧ Ty.wf tkT (Prod.fst (Prod.snd (nxV (unD ringG r)))) ∧ Ty.wf Ty.bool (Prod.snd (Prod.snd (nxV (unD ringG r))))
  → List.length d'.1 = List.length r.1 → List.Nodup (ids ringG d') → (((unD ringG d', unD i64T (Prod.fst (nxV (unD ringG r))), unD tkT (Prod.fst (Prod.snd (nxV (unD ringG r)))), unD Ty.bool (Prod.snd (Prod.snd (nxV (unD
  ringG r))))) = nextTkF d ∧ List.Nodup (ids ringG d' ++ (ids i64T (Prod.fst (nxV (unD ringG r))) ++ (ids tkT (Prod.fst (Prod.snd (nxV (unD ringG r)))) ++ ids Ty.bool (Prod.snd (Prod.snd (nxV (unD ringG r)))))))) ∧ (unD
  ringG d', unD i64T (Prod.fst (nxV (unD ringG r))), unD tkT (Prod.fst (Prod.snd (nxV (unD ringG r)))), unD Ty.bool (Prod.snd (Prod.snd (nxV (unD ringG r))))) = nextTkF d ∧ List.Nodup (ids ringG d' ++ (ids i64T (Prod.fst
  (nxV (unD ringG r))) ++ (ids tkT (Prod.fst (Prod.snd (nxV (unD ringG r)))) ++ ids Ty.bool (Prod.snd (Prod.snd (nxV (unD ringG r)))))))) ∧ (unD ringG d', unD i64T (Prod.fst (nxV (unD ringG r))), unD tkT (Prod.fst
  (Prod.snd (nxV (unD ringG r)))), unD Ty.bool (Prod.snd (Prod.snd (nxV (unD ringG r))))) = nextTkF d ∧ List.Nodup (ids ringG d' ++ (ids i64T (Prod.fst (nxV (unD ringG r))) ++ (ids tkT (Prod.fst (Prod.snd (nxV (unD ringG
  r)))) ++ ids Ty.bool (Prod.snd (Prod.snd (nxV (unD ringG r)))))))) := by
  intro d hw hp
  have hu : ∀ b : Bool, unD Ty.bool b = b := fun b => rfl
  have hi : ∀ b : Bool, ids Ty.bool b = [] := fun b => rfl
  have hu1 : ∀ b : Int, unD i64T b = b := fun b => rfl
  have hi1 : ∀ b : Int, ids i64T b = [] := fun b => rfl
  have hu2 : ∀ b : Tk, unD tkT b = b := fun b => rfl
  have hi2 : ∀ b : Tk, ids tkT b = [] := fun b => rfl
  simp only [Int.toNat_natCast, exists_const, and_true, true_and, implies_true, decide_eq_true_eq, decide_eq_false_iff_not, Bool.not_eq_true', Bool.not_eq_false', beq_iff_eq, forall_const]
  simp only [unG2, idG3', hu, hi, hu1, hi1, hu2, hi2, List.append_nil]
  refine ⟨hp, fun r h1 h2 _ => ⟨fun h3 => ⟨by rw [nextTk_no h3]; exact congrArg (fun x => (x, (0 : Int), ((0, 0) : Tk), false)) h1, h2⟩, fun h3 => ?_⟩⟩
  have h1' : (r.1.map unF, r.2.1, r.2.2) = d := h1
  rw [h1']
  refine ⟨by rw [(ring_eq h1').1, (ring_eq h1').2.1, (ring_eq h1').2.2]; exact h3, h2, fun d' h4 _ _ _ h5 => ?_⟩
  have h4' : (d'.1.map unF, d'.2.1, d'.2.2) = nxR d := h4
  have g : ((d'.1.map unF, d'.2.1, d'.2.2), (nxV d).1, (nxV d).2.1, (nxV d).2.2) = nextTkF d ∧ (idsF d'.1).Nodup := ⟨by rw [nextTk_yes h3, h4'], h5⟩
  exact ⟨⟨g, g⟩, g⟩
theorem waitF_pos {d : Rg} (h : ¬ waitF d < 1) : ringOkF d.1 d.2.1 d.2.2 = true ∧ waitGo d.1 0 ≠ 0 ∧ waitF d = waitGo d.1 0 := by
  unfold waitF at h ⊢
  cases hr : ringOkF d.1 d.2.1 d.2.2 with
  | false => rw [hr] at h; simp at h
  | true => rw [hr] at h; simp at h; exact ⟨rfl, by omega, by simp⟩
theorem waitF_no {d : Rg} (h : waitF d < 1) : nextTkF d = (d, 0, (0, 0), false) := by
  cases hr : ringOkF d.1 d.2.1 d.2.2 with
  | false => exact nextTk_no hr
  | true =>
    unfold waitF at h
    rw [hr] at h
    simp only [if_true] at h
    have := ring_tot hr
    unfold nextTkF
    rw [if_pos hr, nx_none (by omega)]
theorem waitF_ok {d : Rg} (h : ¬ waitF d < 0) : ringOkF d.1 d.2.1 d.2.2 = true ∧ waitF d = waitGo d.1 0 := by
  unfold waitF at h ⊢
  cases hr : ringOkF d.1 d.2.1 d.2.2 with
  | false => rw [hr] at h; simp at h
  | true => exact ⟨rfl, by simp⟩
theorem waitF_bad {d : Rg} (h : waitF d < 0) : ringOkF d.1 d.2.1 d.2.2 = false := by
  cases hr : ringOkF d.1 d.2.1 d.2.2 with
  | false => rfl
  | true =>
    unfold waitF at h
    rw [hr] at h
    simp only [if_true] at h
    have := ring_tot hr
    omega
end Go.SF
