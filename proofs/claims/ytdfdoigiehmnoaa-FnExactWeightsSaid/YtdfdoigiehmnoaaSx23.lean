/- Regions. No condition. -/
import Derived.Test.YtdfdoigiehmnoaaSx22
import Derived.Still
namespace Go.SX
open Go.RowKit
set_option linter.unusedVariables false
set_option linter.unusedSimpArgs false

section
variable {P : Program} {T : Tab} {Γ : FuncId → Option PC} {R : FuncId → Option Rule} {all : Array Oper} {k : Nat} {st0 : St} {E : List HEnt} {whoF : List Nat} {stF : St}
  {base : Nat} {M : LM} {w0 : World} {Q : Exit → Act → World → Prop}

def Lof (listed : Array Bool) (j : Nat) : Bool := listed.getD j false

theorem lof_set {listed : Array Bool} {i : Nat} (hi : i < listed.size) : Lof (listed.setIfInBounds i true) = addL (Lof listed) i := by
  funext j
  unfold Lof addL
  by_cases h : j = i
  · subst h; simp [hi]
  · rw [if_neg h]
    simp only [Array.getD_eq_getD_getElem?]
    rw [Array.getElem?_setIfInBounds_ne (fun e => h e.symm)]

theorem chkTail_spec (h : chkTail all k = true) {i : Nat} {o : Oper} (ho : all[i]? = some o) : (i < k ∨ ∀ j, j < i → (maskOf all i).testBit j = true) ∧ ∀ e ∈ o.after, Region.binds .any e = true → e.on < i := by
  have hi := (Array.getElem?_eq_some_iff.1 ho).1
  have := List.all_eq_true.1 h i (List.mem_range.2 hi)
  rw [Bool.and_eq_true, ho] at this
  obtain ⟨h1, h2⟩ := this
  refine ⟨?_, fun e he hb => ?_⟩
  · rw [Bool.or_eq_true] at h1
    rcases h1 with h1 | h1
    · exact .inl (by simpa using h1)
    · exact .inr fun j hj => List.all_eq_true.1 h1 j (List.mem_range.2 hj)
  · have := List.all_eq_true.1 h2 e (by simpa using he)
    simpa [hb] using this

theorem mask_lt (h : chkTail all k = true) : ∀ i j, (maskOf all i).testBit j = true → j < i := by
  intro i
  induction i using Nat.strongRecOn with
  | _ i ih =>
    intro j hj
    obtain ⟨o, h1, e, h2, h3, h4⟩ := mask_spec all i j hj
    have := (chkTail_spec h h1).2 e h2 h3
    rcases h4 with rfl | ⟨_, h5⟩
    · exact this
    · exact Nat.lt_trans (ih e.on this j h5) this

/-- The first that is not listed is ready. -/
theorem ready_first (h : chkTail all k = true) {listed : Array Bool} {i : Nat} {o : Oper} (ho : all[i]? = some o) (hu : listed.getD i true = false) (hb : ∀ j, j < i → listed.getD j false = true) : i ∈ Region.ready .any all listed :=
  mem_ready.2 ⟨hu, o, ho, fun e he hbd => hb _ ((chkTail_spec h ho).2 e he hbd)⟩

/-- The tail, in the order of the text. -/
theorem wpAny_tail (h : chkTail all k = true) : ∀ (n i fuel : Nat) (listed : Array Bool) (a : Act) (w : World), i + n = all.size → k ≤ i → n ≤ fuel → listed.size = all.size → Closed all listed →
    (∀ j, j < i → listed.getD j false = true) → (∀ j, i ≤ j → j < all.size → listed.getD j true = false) → wpOps P all Q (List.range' i n) a w → wpAny P .any all Q fuel listed a w
  | 0, i, fuel, listed, a, w, hin, _, _, hsz, _, hb, _, hw => by
    have hr : Region.ready .any all listed = [] := by
      apply List.eq_nil_iff_forall_not_mem.2
      intro j hj
      obtain ⟨h1, o, h2, _⟩ := mem_ready.1 hj
      have hlt := (Array.getElem?_eq_some_iff.1 h2).1
      have h3 := hb j (by omega)
      have hls : j < listed.size := by omega
      simp [hls] at h1 h3
      rw [h1] at h3; cases h3
    rw [List.range'_zero] at hw
    have hq : Q .normal a w := hw
    cases fuel with
    | zero => exact ⟨hr, hq⟩
    | succ f => exact ⟨fun _ => hq, fun j hj => by rw [hr] at hj; cases hj⟩
  | n + 1, i, fuel, listed, a, w, hin, hki, hf, hsz, hcl, hb, hu, hw => by
    obtain ⟨f, rfl⟩ : ∃ f, fuel = f + 1 := ⟨fuel - 1, by omega⟩
    have hilt : i < all.size := by omega
    have ho : all[i]? = some all[i] := Array.getElem?_eq_getElem hilt
    have hir := ready_first h ho (hu i (Nat.le_refl _) hilt) hb
    refine ⟨fun h0 => by rw [h0] at hir; (cases hir), fun j hj => ?_⟩
    have hji : j = i := by
      obtain ⟨h1, o, h2, _⟩ := mem_ready.1 hj
      have hjlt := (Array.getElem?_eq_some_iff.1 h2).1
      rcases Nat.lt_trichotomy j i with h3 | h3 | h3
      · have h4 := hb j h3
        have hls : j < listed.size := by omega
        simp [hls] at h1 h4
        rw [h1] at h4; cases h4
      · exact h3
      · rcases (chkTail_spec h h2).1 with h4 | h4
        · omega
        · have h5 := mask_listed hcl j (.inr hj) i (h4 i h3)
          have h6 := hu i (Nat.le_refl _) hilt
          have hls : i < listed.size := by omega
          simp [hls] at h5 h6
          rw [h6] at h5; cases h5
    subst hji
    rw [List.range'_succ, wpOps_cons] at hw
    refine wpOp_mono (fun a' w' h' => wpAny_tail h n (j + 1) f _ a' w' (by omega) (by omega) (by omega) (by simp [hsz]) ?_ (fun m hm => ?_) (fun m hm hm' => ?_) h') hw
    · intro m om hm hl e he hbd
      by_cases hmj : j = m
      · subst hmj
        obtain ⟨_, o, h2, h3⟩ := mem_ready.1 hj
        rw [hm] at h2; injection h2 with h2; subst h2
        exact getD_set_true (h3 e he hbd)
      · rw [getD_set_ne false hmj] at hl
        exact getD_set_true (hcl m om hm hl e he hbd)
    · by_cases hmj : j = m
      · subst hmj
        have hls : j < listed.size := by omega
        simp [hls]
      · exact getD_set_true (hb m (by omega))
    · rw [getD_set_ne true (by omega)]
      exact hu m (by omega) hm'

theorem wpAny_head (hT : TabOk P T) (hΓ : GamOk P Γ) (hch : chkHead all k = true) (hct : chkTail all k = true) (hk : k ≤ all.size) (hE : E.length = k) (hob : OwedE E)
    (hf : ∀ i, i < k → AtFact T Γ all k st0 E i) (fin : Snap all st0 E k whoF stF) (hQ : ∀ a w, Sat base M w0 stF a w → HyE E → wpOps P all Q (List.range' k (all.size - k)) a w) :
    ∀ (m fuel : Nat) (l : List Nat) (listed : Array Bool) (a : Act) (w : World), l.length = m → m + (all.size - k) ≤ fuel → listed.size = all.size → Closed all listed →
    (∀ j, j < k → Lof listed j = false → j ∈ l) → (∀ j, k ≤ j → j < all.size → listed.getD j true = false) → Inv base M w0 all k st0 E whoF stF (Lof listed) a w → wpAny P .any all Q fuel listed a w := by
  intro m
  induction m with
  | zero =>
    intro fuel l listed a w hl hfu hsz hcl hhd htl hi
    have hl0 : l = [] := List.length_eq_zero_iff.1 hl
    have hall : ∀ j, j < k → Lof listed j = true := fun j hj => by
      cases h : Lof listed j with
      | true => rfl
      | false => have := hhd j hj h; rw [hl0] at this; cases this
    obtain ⟨h1, h2⟩ := inv_end hall hE fin hi
    exact wpAny_tail hct _ k fuel listed a w (by omega) (Nat.le_refl _) (by omega) hsz hcl hall htl (hQ a w h1 h2)
  | succ m ih =>
    intro fuel l listed a w hl hfu hsz hcl hhd htl hi
    by_cases hall : ∀ j, j < k → Lof listed j = true
    · obtain ⟨h1, h2⟩ := inv_end hall hE fin hi
      exact wpAny_tail hct _ k fuel listed a w (by omega) (Nat.le_refl _) (by omega) hsz hcl hall htl (hQ a w h1 h2)
    · obtain ⟨f, rfl⟩ : ∃ f, fuel = f + 1 := ⟨fuel - 1, by omega⟩
      obtain ⟨i0, hi0, hu0⟩ : ∃ i0, i0 < k ∧ Lof listed i0 = false := by
        refine Classical.byContradiction fun hn => hall fun j hj => ?_
        cases h : Lof listed j with
        | true => rfl
        | false => exact absurd ⟨j, hj, h⟩ hn
      -- the first that is not listed
      obtain ⟨i1, hi1, hu1, hb1⟩ : ∃ i1, i1 < k ∧ Lof listed i1 = false ∧ ∀ j, j < i1 → Lof listed j = true := by
        clear hi hhd htl
        induction i0 using Nat.strongRecOn with
        | _ n ihn =>
          by_cases h : ∀ j, j < n → Lof listed j = true
          · exact ⟨n, hi0, hu0, h⟩
          · obtain ⟨j, hj, hu⟩ : ∃ j, j < n ∧ Lof listed j = false := by
              refine Classical.byContradiction fun hn => h fun j hj => ?_
              cases h' : Lof listed j with
              | true => rfl
              | false => exact absurd ⟨j, hj, h'⟩ hn
            exact ihn j hj (by omega) hu
      have unl : ∀ {j}, j < all.size → Lof listed j = false → listed.getD j true = false := fun {j} hj h => by
        unfold Lof at h
        have : j < listed.size := by omega
        simp [this] at h ⊢; exact h
      have unl' : ∀ {j}, listed.getD j true = false → Lof listed j = false := fun {j} h => by
        unfold Lof
        rcases Nat.lt_or_ge j listed.size with h' | h'
        · simp [h'] at h ⊢; exact h
        · simp [Array.getElem?_eq_none h']
      have ho1 : all[i1]? = some (all[i1]'(by omega)) := Array.getElem?_eq_getElem _
      have hr1 := ready_first hct ho1 (unl (by omega) hu1) hb1
      refine ⟨fun h0 => by rw [h0] at hr1; (cases hr1), fun i hr => ?_⟩
      obtain ⟨hun, oi, hoi, haf⟩ := mem_ready.1 hr
      have hilt := (Array.getElem?_eq_some_iff.1 hoi).1
      have hL : ∀ j, (maskOf all i).testBit j = true → Lof listed j = true := mask_listed hcl i (.inr hr)
      have hik : i < k := by
        rcases (chkTail_spec hct hoi).1 with h | h
        · exact h
        · rcases Nat.lt_or_ge i k with h' | h'
          · exact h'
          · have := hL i1 (h i1 (by omega))
            rw [hu1] at this; cases this
      obtain ⟨e, o, st, he, ho, s, hrf, s1, hq⟩ := hf i hik
      rw [hoi] at ho; injection ho with ho; subst ho
      obtain ⟨V, _, _, h3⟩ := hi.ex
      have hw := wanted_at hch hik hoi hrf s hi.size hL h3
      have hni := unl' hun
      have next : ∀ a' w', Inv base M w0 all k st0 E whoF stF (addL (Lof listed) i) a' w' → wpAny P .any all Q f (listed.setIfInBounds i true) a' w' := by
        intro a' w' hi'
        have hil : i ∈ l := hhd i hik hni
        refine ih f (l.erase i) _ a' w' (by rw [List.length_erase_of_mem hil]; omega) (by omega) (by simp [hsz]) ?_ (fun j hj hu => ?_) (fun j hj hj' => ?_) ?_
        · intro m om hm hl e he hbd
          by_cases hmj : i = m
          · subst hmj
            rw [hm] at hoi; injection hoi with hoi; subst hoi
            exact getD_set_true (haf e he hbd)
          · rw [getD_set_ne false hmj] at hl
            exact getD_set_true (hcl m om hm hl e he hbd)
        · rw [lof_set (by omega)] at hu
          unfold addL at hu
          split at hu
          · cases hu
          · rename_i hne
            exact (List.mem_erase_of_ne hne).2 (hhd j hj hu)
        · rw [getD_set_ne true (by omega)]
          exact htl j hj hj'
        · rw [lof_set (by omega)]; exact hi'
      unfold wpOp
      simp only [hoi]
      cases hre : e.r with
      | none =>
        rw [hre] at hw
        rw [if_neg (by rw [hw]; simp)]
        exact next _ _ (inv_skip hch hik he hoi hre fin hi)
      | some q =>
        rw [hre] at hw
        rw [if_pos (by rw [hw]; rfl)]
        exact .inl (inv_go hT hΓ hch hik he hoi hre (hob e (List.mem_of_getElem? he) q hre) s1 fin (hq q hre) (fun j => mask_lt hct i j) hL hni hi (fun u w' hi' => next _ _ hi'))

theorem headLen_le (Γ : FuncId → Option PC) : ∀ l : List Oper, headLen Γ l ≤ l.length
  | [] => Nat.le_refl _
  | o :: l => by
    unfold headLen
    split
    · have := headLen_le Γ l; simp only [List.length_cons]; omega
    · simp

theorem chain_len {nx0 : Nat} : ∀ (l : List Oper) (i : Nat) (who : List Nat) (st : St) (E : List HEnt), Chain T Γ all k nx0 i l who st E whoF stF → E.length = l.length
  | [], i, who, st, E, h => by rw [h.1]; rfl
  | o :: l, i, who, st, E, h => by
    obtain ⟨e, E', rfl, _, _, h⟩ := h
    cases hr : e.r with
    | none => rw [hr] at h; simp [chain_len l _ _ _ _ h]
    | some q => rw [hr] at h; simp [chain_len l _ _ _ _ h.2]

theorem sat_drawn {st : St} {a : Act} {w : World} (h : Sat base M w0 st a w) : Sat base M w0 st a { w with drawn := w.drawn + 1 } := by
  obtain ⟨h1, V, r⟩ := h
  have x : VX V st.ent w V st.ent { w with drawn := w.drawn + 1 } := ⟨fun _ _ => ⟨rfl, Iff.rfl, rfl⟩, fun _ h => h, fun _ h => h, fun _ _ => rfl, fun _ _ _ => rfl⟩
  refine ⟨h1, V, ⟨r.len, fun i s v hs hv => S.ok_ext x (r.slots i s v hs hv), ?_⟩⟩
  have m := r.mem
  refine ⟨fun n => ?_, m.box, m.own, m.mine, m.dist, m.z0, m.z1, ⟨m.kept.os, m.kept.tape, m.kept.output, m.kept.size, m.kept.block, m.kept.shape⟩, m.lent⟩
  cases hl : (st.ent n).live with
  | true => exact Ent.ok_ext x (m.ents n) (fun cs => m.box n cs) hl
  | false =>
    cases he : st.ent n with
    | dead => trivial
    | bx cs => rw [he] at hl; cases hl
    | row fr e xs => rw [he] at hl; cases hl

theorem silent_guard {o : Oper} (h : silentB o = true) : o.guard = none := by
  unfold silentB at h
  split at h <;> first | assumption | cases h

/-- An operation that reads no memory gives the same in every world. -/
theorem silent_all {a : Act} {w : World} (hT : TabOk P T) {V : Vl} {hp lk : Nat → Ent} {nx : Nat} {ev : Operand → S} {o : Oper} {q : QR} (hs : silentB o = true) (hq : qop T Γ lk nx ev o.op = some q) (hev : ∀ x, S.ok V hp w (ev x) (a.eval x)) :
    ∃ u, ∀ w', (execOp a.eval o).run P w' = .ok (.value u) w' := by
  unfold silentB at hs
  split at hs
  · rename_i t x f _ hop
    rw [hop] at hq
    simp only [qop] at hq
    have hv := hev x
    cases hc : ev x with
    | c p =>
      rw [hc] at hq hv
      obtain ⟨_, _, _, u, e4, _⟩ := qfieldAddr_all hT hq hv
      exact ⟨u, fun w' => by unfold execOp; simp only [hop, Sem.run_bind, e4 w', Result.andThen_ok, Sem.run_pure]⟩
    | _ => rw [hc] at hq; cases hq
  · rename_i x _ hop
    exact ⟨a.eval x, fun w' => by unfold execOp; simp only [hop, Sem.run_bind, Result.andThen_ok, Sem.run_pure]⟩
  · rename_i x _ hop
    exact ⟨a.eval x, fun w' => by unfold execOp; simp only [hop, Sem.run_bind, Result.andThen_ok, Sem.run_pure]⟩
  · rename_i x i _ hop
    rw [hop] at hq
    simp only [qop] at hq
    have hv := hev x
    cases hc : ev x with
    | tup vs =>
      rw [hc] at hq hv
      obtain ⟨us, e1, e2, _⟩ := hv
      simp only at hq
      rw [nth?_eq, omap_eq] at hq
      cases hx : vs[i]? with
      | none => rw [hx] at hq; cases hq
      | some y =>
        have hlt : i < us.size := by have := (List.getElem?_eq_some_iff.1 hx).1; omega
        have hu : us[i]? = some us[i] := Array.getElem?_eq_getElem _
        exact ⟨us[i], fun w' => by unfold execOp; simp only [hop, Instr.extract, e1, hu, Sem.run_bind, Sem.run_pure, Result.andThen_ok]⟩
    | _ => rw [hc] at hq; cases hq
  · cases hs

theorem silent_vc {a : Act} {w : World} (hT : TabOk P T) {V : Vl} {hp : Nat → Ent} {st : St} {o : Oper} {K : St → Prop} (hs : silentB o = true) (hev : ∀ x, S.ok V hp w (st.eval x) (a.eval x)) (h : vcOp T Γ R st.eval st.ent o st K) :
    ∃ u, ∀ w', (execOp a.eval o).run P w' = .ok (.value u) w' := by
  unfold vcOp at h
  split at h
  · rename_i q hq
    exact silent_all hT hs hq hev
  · exfalso
    unfold silentB at hs
    split at hs
    · rename_i hop; rw [hop] at h; exact h
    · rename_i hop; rw [hop] at h; exact h
    · rename_i hop; rw [hop] at h; exact h
    · rename_i hop; rw [hop] at h; exact h
    · cases hs

theorem silent_next {a : Act} {w : World} {o : Oper} {u : Value} {next : Act → World → Prop} (hu : (execOp a.eval o).run P w = .ok (.value u) w) (h : o.wp P a w next (fun _ _ _ => False)) : next (a.put o.dst u) w := by
  unfold Oper.wp at h
  rw [hu] at h
  exact h

theorem rdyGo_mem {all : List Oper} {listed : List Bool} : ∀ {n i j : Nat}, j ∈ rdyGo all listed i n ↔ i ≤ j ∧ j < i + n ∧ rdyB all listed j = true
  | 0, i, j => by simp [rdyGo]; omega
  | n + 1, i, j => by
    unfold rdyGo
    split
    · rename_i h
      rw [List.mem_cons, rdyGo_mem]
      constructor
      · rintro (rfl | ⟨h1, h2, h3⟩)
        · exact ⟨Nat.le_refl _, by omega, h⟩
        · exact ⟨by omega, by omega, h3⟩
      · rintro ⟨h1, h2, h3⟩
        by_cases e : j = i
        · exact .inl e
        · exact .inr ⟨by omega, by omega, h3⟩
    · rename_i h
      rw [rdyGo_mem]
      constructor
      · rintro ⟨h1, h2, h3⟩; exact ⟨by omega, by omega, h3⟩
      · rintro ⟨h1, h2, h3⟩
        by_cases e : j = i
        · subst e; exact absurd h3 h
        · exact ⟨by omega, by omega, h3⟩

theorem nthB {d : Bool} {l : List Bool} {i : Nat} : nth d l i = l.toArray.getD i d := by
  rw [nth_eq]; simp

theorem rdy_ready {all : Array Oper} {listed : List Bool} {j : Nat} : j ∈ rdyGo all.toList listed 0 (llen all.toList) ↔ j ∈ Region.ready .any all listed.toArray := by
  rw [rdyGo_mem, mem_ready, llen_eq]
  unfold rdyB
  rw [nth?_eq, nthB]
  simp only [Nat.zero_le, true_and, Nat.zero_add, Array.length_toList, Bool.and_eq_true, Bool.not_eq_true', Array.getElem?_toList]
  constructor
  · rintro ⟨h1, h2, h3⟩
    refine ⟨h2, all[j], Array.getElem?_eq_getElem h1, fun e he hb => ?_⟩
    rw [Array.getElem?_eq_getElem h1] at h3
    simp only [lall_eq, List.all_eq_true, Bool.or_eq_true, Bool.not_eq_true'] at h3
    rcases h3 e (by simpa using he) with h | h
    · rw [hb] at h; cases h
    · rw [nthB] at h; exact h
  · rintro ⟨h2, o, h1, h3⟩
    refine ⟨(Array.getElem?_eq_some_iff.1 h1).1, h2, ?_⟩
    rw [h1]
    simp only [lall_eq, List.all_eq_true, Bool.or_eq_true, Bool.not_eq_true']
    intro e he
    cases hb : Region.binds .any e with
    | false => exact .inl rfl
    | true => right; rw [nthB]; exact h3 e (by simpa using he) hb

theorem conjL_mem : ∀ {l : List Nat} {f : Nat → Prop}, conjL l f → ∀ i ∈ l, f i
  | [], _, _, i, h => by cases h
  | [j], f, h, i, hi => by rw [List.mem_singleton.1 hi]; exact h
  | j :: k :: r, f, h, i, hi => by
    rcases List.mem_cons.1 hi with rfl | hi
    · exact h.1
    · exact conjL_mem h.2 i hi

theorem firstTake_spec {all : Array Oper} {listed : List Bool} : ∀ {l : List Nat} {i : Nat}, firstTake all listed l = some i → i ∈ l ∧ takeB all listed i = true
  | [], i, h => by cases h
  | j :: r, i, h => by
    unfold firstTake at h
    split at h
    · rename_i ht
      injection h with h; subst h
      exact ⟨List.mem_cons_self .., ht⟩
    · obtain ⟨h1, h2⟩ := firstTake_spec h
      exact ⟨List.mem_cons_of_mem _ h1, h2⟩

theorem freeGo_spec {all : Array Oper} {oi : Oper} {i : Nat} {listed : List Bool} : ∀ {l : List Oper} {m : Nat}, freeGo all oi i listed m l = true → ∀ (j : Nat) (oj : Oper), l[j]? = some oj → m + j ≠ i → nth true listed (m + j) = false →
    (∀ e ∈ oj.after, Region.binds .any e = true → e.on ≠ i) → oi.apart all oj = true
  | [], m, _, j, oj, h, _, _, _ => by cases h
  | o :: r, m, h, j, oj, hj, hne, hun, hno => by
    unfold freeGo at h
    rw [Bool.and_eq_true] at h
    cases j with
    | zero =>
      simp only [List.getElem?_cons_zero, Option.some.injEq] at hj
      subst hj
      rw [Nat.add_zero] at hne hun
      have h1 := h.1
      rw [Bool.or_eq_true, Bool.or_eq_true, Bool.or_eq_true, hun, lany_eq, List.any_eq_true] at h1
      rcases h1 with ((h1 | h1) | ⟨e, he, hb⟩) | h1
      · exact absurd (by simpa using h1) hne
      · cases h1
      · rw [Bool.and_eq_true] at hb
        exact absurd (by simpa using hb.2) (hno e (by simpa using he) hb.1)
      · exact h1
    | succ j =>
      have e : m + (j + 1) = (m + 1) + j := by omega
      exact freeGo_spec h.2 j oj (by simpa using hj) (by rw [← e]; exact hne) (by rw [← e]; exact hun) hno

theorem noSelB_spec {all : Array Oper} (h : noSelB all.toList = true) (j : Nat) (o : Oper) (cs : Array SelectCase) (b : Bool) (ho : all[j]? = some o) : o.op ≠ .select cs b := by
  intro heq
  unfold noSelB at h
  rw [lall_eq, List.all_eq_true] at h
  have := h o (by simpa using Array.mem_of_getElem? ho)
  rw [heq] at this
  cases this

theorem vcAny_ok (hT : TabOk P T) (hΓ : GamOk P Γ) (hR : RulesOk P R) {K : St → Prop} (hK : ∀ st' a' w', K st' → Sat base M w0 st' a' w' → Q .normal a' w') (hQp : ∀ c a b w, Q (.panic c) a w → Q (.panic c) b w) :
    ∀ (n : Nat) (listed : List Bool) (st : St) (a : Act) (w : World), Sat base M w0 st a w → vcAny T Γ R all n listed st K → wpAny P .any all Q n listed.toArray a w := by
  have done : ∀ {listed : List Bool}, rdyGo all.toList listed 0 (llen all.toList) = [] → Region.ready .any all listed.toArray = [] := by
    intro listed h
    apply List.eq_nil_iff_forall_not_mem.2
    intro j hj
    have := rdy_ready.2 hj
    rw [h] at this; cases this
  have hset : ∀ (listed : List Bool) (i : Nat), (lset listed i true).toArray = listed.toArray.setIfInBounds i true := by
    intro listed i; rw [lset_eq]; simp
  intro n
  induction n with
  | zero =>
    intro listed st a w hs h
    unfold vcAny at h
    split at h
    · rename_i hr
      exact ⟨done hr, hK st a w h hs⟩
    · exact h.elim
  | succ n ih =>
    intro listed st a w hs h
    unfold vcAny at h
    split at h
    · rename_i hr
      exact wpAny_done (done hr) (hK st a w h hs) _
    · rename_i j r hr
      split at h
      · rename_i i hi
        obtain ⟨h1, h2⟩ := firstTake_spec hi
        rw [← hr] at h1
        have hrd := rdy_ready.1 h1
        unfold takeB at h2
        split at h2
        · rename_i oi ho
          rw [nth?_eq] at ho
          have ho' : all[i]? = some oi := by simpa using ho
          simp only [Bool.and_eq_true] at h2
          obtain ⟨⟨s1, s2⟩, s3⟩ := h2
          unfold vcStep at h
          rw [nth?_eq, ho] at h
          simp only at h
          have hg : oi.guard = none := silent_guard s1
          have hdec : decide? all oi st = .go := by unfold decide?; rw [hg]
          rw [hdec] at h
          simp only at h
          obtain ⟨hd, V, rr⟩ := hs
          obtain ⟨u, hu⟩ := silent_vc hT s1 rr.eval h
          have hstep := vcOp_ok (Q := fun _ _ _ => False) (next := fun a' w' => ∃ st', vcAny T Γ R all n (lset listed i true) st' K ∧ Sat base M w0 st' a' w') hT hΓ hR ⟨hd, V, rr⟩ h (fun st' v w' h1 h2 => ⟨st', h1, h2⟩)
          have hnx := silent_next (hu w) hstep
          obtain ⟨st', k1, k2⟩ := hnx
          refine wpAny_first ho' (fun j o cs b hj => noSelB_spec s2 j o cs b hj) (fun c a w h => hQp c _ _ w h) n listed.toArray a w (fun j oj hj hne hun hno => ?_) hrd (v := u) (.inl ⟨?_, hu⟩) ?_
          · refine freeGo_spec s3 j oj (by simpa using hj) (by omega) ?_ hno
            rw [Nat.zero_add, nthB]; exact hun
          · unfold Region.wanted; rw [hg]
          · rw [← hset]
            exact ih _ _ _ w k2 k1
        · cases h2
      · rw [← hr] at h
        refine ⟨fun h0 => ?_, fun i hi => ?_⟩
        · have : j ∈ Region.ready .any all listed.toArray := rdy_ready.1 (by rw [hr]; exact List.mem_cons_self ..)
          rw [h0] at this; cases this
        · refine vcStep_ok hT hΓ hR hs (conjL_mem h i (rdy_ready.2 hi)) (fun st' a' w' k hs' => ?_)
          rw [← hset]
          exact ih _ _ _ w' hs' k

theorem chkTailL_spec (h : chkTailL all k = true) {i : Nat} {o : Oper} (ho : all[i]? = some o) : (i < k ∨ ∀ j, j < k → (maskOf all i).testBit j = true ∨ lateB all j = true) ∧ ∀ e ∈ o.after, Region.binds .any e = true → e.on < i := by
  unfold chkTailL at h
  rw [List.all_eq_true] at h
  have hi := (Array.getElem?_eq_some_iff.1 ho).1
  have h1 := h i (List.mem_range.2 hi)
  rw [Bool.and_eq_true, ho] at h1
  obtain ⟨h2, h3⟩ := h1
  refine ⟨?_, fun e he hb => ?_⟩
  · rw [Bool.or_eq_true] at h2
    rcases h2 with h2 | h2
    · exact .inl (by simpa using h2)
    · right
      intro j hj
      rw [List.all_eq_true] at h2
      have := h2 j (List.mem_range.2 hj)
      rw [Bool.or_eq_true] at this
      exact this
  · simp only [List.all_eq_true, Bool.or_eq_true, Bool.not_eq_true', decide_eq_true_eq] at h3
    rcases h3 e (by simpa using he) with h4 | h4
    · rw [hb] at h4; cases h4
    · exact h4

theorem mask_ltL (h : chkTailL all k = true) : ∀ i j, (maskOf all i).testBit j = true → j < i := by
  intro i
  induction i using Nat.strongRecOn with
  | _ i ih =>
    intro j hj
    obtain ⟨o, h1, e, h2, h3, h4⟩ := mask_spec all i j hj
    have h5 := (chkTailL_spec h h1).2 e h2 h3
    rcases h4 with rfl | ⟨_, h6⟩
    · exact h5
    · have := ih e.on h5 j h6
      omega

theorem ready_firstL (h : chkTailL all k = true) {listed : Array Bool} {i : Nat} {o : Oper} (ho : all[i]? = some o) (hu : listed.getD i true = false) (hb : ∀ j, j < i → listed.getD j false = true) : i ∈ Region.ready .any all listed :=
  mem_ready.2 ⟨hu, o, ho, fun e he hbd => hb _ ((chkTailL_spec h ho).2 e he hbd)⟩

theorem freeLate_spec {all : Array Oper} {oi : Oper} {i : Nat} : ∀ {l : List Oper} {m : Nat}, freeLate all oi i m l = true → ∀ (j : Nat) (oj : Oper), l[j]? = some oj → m + j ≠ i → (maskOf all i).testBit (m + j) = false →
    (∀ e ∈ oj.after, Region.binds .any e = true → e.on ≠ i) → oi.apart all oj = true
  | [], m, _, j, oj, h, _, _, _ => by cases h
  | o :: r, m, h, j, oj, hj, hne, hun, hno => by
    unfold freeLate at h
    rw [Bool.and_eq_true] at h
    cases j with
    | zero =>
      simp only [List.getElem?_cons_zero, Option.some.injEq] at hj
      subst hj
      rw [Nat.add_zero] at hne hun
      have h1 := h.1
      rw [Bool.or_eq_true, Bool.or_eq_true, Bool.or_eq_true, hun, lany_eq, List.any_eq_true] at h1
      rcases h1 with ((h1 | h1) | ⟨e, he, hb⟩) | h1
      · exact absurd (by simpa using h1) hne
      · cases h1
      · rw [Bool.and_eq_true] at hb
        exact absurd (by simpa using hb.2) (hno e (by simpa using he) hb.1)
      · exact h1
    | succ j =>
      have e : m + (j + 1) = (m + 1) + j := by omega
      exact freeLate_spec h.2 j oj (by simpa using hj) (by rw [← e]; exact hne) (by rw [← e]; exact hun) hno

theorem listed_eq {listed : Array Bool} (hk : k ≤ all.size) (hsz : listed.size = all.size) (hall : ∀ j, j < k → Lof listed j = true) (htl : ∀ j, k ≤ j → j < all.size → listed.getD j true = false) :
    listed = (List.replicate k true ++ List.replicate (all.size - k) false).toArray := by
  apply Array.ext
  · simp; omega
  · intro i h1 h2
    rcases Nat.lt_or_ge i k with h | h
    · have := hall i h
      unfold Lof at this
      simp only [Array.getD_eq_getD_getElem?, Array.getElem?_eq_getElem h1, Option.getD_some] at this
      rw [this]
      simp [List.getElem_append, h]
    · have := htl i h (by omega)
      simp only [Array.getD_eq_getD_getElem?, Array.getElem?_eq_getElem h1, Option.getD_some] at this
      rw [this]
      simp [List.getElem_append, show ¬ i < k by omega]

theorem wpAny_headL (hT : TabOk P T) (hΓ : GamOk P Γ) (hch : chkHead all k = true) (hct : chkTailL all k = true) (hQp : ∀ c a b w, Q (.panic c) a w → Q (.panic c) b w) (hk : k ≤ all.size) (hE : E.length = k) (hob : OwedE E)
    (hf : ∀ i, i < k → AtFact T Γ all k st0 E i) (fin : Snap all st0 E k whoF stF) (hQ : ∀ a w, Sat base M w0 stF a w → HyE E → wpAny P .any all Q (all.size - k) (List.replicate k true ++ List.replicate (all.size - k) false).toArray a w) :
    ∀ (m fuel : Nat) (l : List Nat) (listed : Array Bool) (a : Act) (w : World), l.length = m → m + (all.size - k) = fuel → l.Nodup → (∀ j ∈ l, j < k ∧ Lof listed j = false) → listed.size = all.size → Closed all listed →
    (∀ j, j < k → Lof listed j = false → j ∈ l) → (∀ j, k ≤ j → j < all.size → listed.getD j true = false) → Inv base M w0 all k st0 E whoF stF (Lof listed) a w → wpAny P .any all Q fuel listed a w := by
  intro m
  induction m with
  | zero =>
    intro fuel l listed a w hl hfu hndl hlk hsz hcl hhd htl hi
    have hl0 : l = [] := List.length_eq_zero_iff.1 hl
    have hall : ∀ j, j < k → Lof listed j = true := fun j hj => by
      cases h : Lof listed j with
      | true => rfl
      | false => have := hhd j hj h; rw [hl0] at this; cases this
    obtain ⟨h1, h2⟩ := inv_end hall hE fin hi
    rw [listed_eq hk hsz hall htl, ← hfu, Nat.zero_add]
    exact hQ a w h1 h2
  | succ m ih =>
    intro fuel l listed a w hl hfu hndl hlk hsz hcl hhd htl hi
    by_cases hall : ∀ j, j < k → Lof listed j = true
    · exfalso
      cases l with
      | nil => simp at hl
      | cons x xs =>
        obtain ⟨q1, q2⟩ := hlk x (List.mem_cons_self ..)
        rw [hall x q1] at q2; cases q2
    · obtain ⟨f, rfl⟩ : ∃ f, fuel = f + 1 := ⟨fuel - 1, by omega⟩
      obtain ⟨i0, hi0, hu0⟩ : ∃ i0, i0 < k ∧ Lof listed i0 = false := by
        refine Classical.byContradiction fun hn => hall fun j hj => ?_
        cases h : Lof listed j with
        | true => rfl
        | false => exact absurd ⟨j, hj, h⟩ hn
      -- the first that is not listed
      obtain ⟨i1, hi1, hu1, hb1⟩ : ∃ i1, i1 < k ∧ Lof listed i1 = false ∧ ∀ j, j < i1 → Lof listed j = true := by
        clear hi hhd htl
        induction i0 using Nat.strongRecOn with
        | _ n ihn =>
          by_cases h : ∀ j, j < n → Lof listed j = true
          · exact ⟨n, hi0, hu0, h⟩
          · obtain ⟨j, hj, hu⟩ : ∃ j, j < n ∧ Lof listed j = false := by
              refine Classical.byContradiction fun hn => h fun j hj => ?_
              cases h' : Lof listed j with
              | true => rfl
              | false => exact absurd ⟨j, hj, h'⟩ hn
            exact ihn j hj (by omega) hu
      have unl : ∀ {j}, j < all.size → Lof listed j = false → listed.getD j true = false := fun {j} hj h => by
        unfold Lof at h
        have : j < listed.size := by omega
        simp [this] at h ⊢; exact h
      have unl' : ∀ {j}, listed.getD j true = false → Lof listed j = false := fun {j} h => by
        unfold Lof
        rcases Nat.lt_or_ge j listed.size with h' | h'
        · simp [h'] at h ⊢; exact h
        · simp [Array.getElem?_eq_none h']
      have nextOf : ∀ i, i < k → i ∈ Region.ready .any all listed → ∀ a' w', Inv base M w0 all k st0 E whoF stF (addL (Lof listed) i) a' w' → wpAny P .any all Q f (listed.setIfInBounds i true) a' w' := by
        intro i hik hr a' w' hi'
        obtain ⟨hun, oi, hoi, haf⟩ := mem_ready.1 hr
        have hilt := (Array.getElem?_eq_some_iff.1 hoi).1
        have hni := unl' hun
        have hil : i ∈ l := hhd i hik hni
        refine ih f (l.erase i) _ a' w' (by rw [List.length_erase_of_mem hil]; omega) (by omega) (hndl.erase _) (fun j hj => ?_) (by simp [hsz]) ?_ (fun j hj hu => ?_) (fun j hj hj' => ?_) ?_
        · have hm := hlk j (List.mem_of_mem_erase hj)
          refine ⟨hm.1, ?_⟩
          rw [lof_set (by omega)]
          unfold addL
          rw [if_neg (fun e => by subst e; exact absurd hj (fun h => (List.Nodup.mem_erase_iff hndl).1 h |>.1 rfl))]
          exact hm.2
        · intro m om hm hl e he hbd
          by_cases hmj : i = m
          · subst hmj
            rw [hm] at hoi; injection hoi with hoi; subst hoi
            exact getD_set_true (haf e he hbd)
          · rw [getD_set_ne false hmj] at hl
            exact getD_set_true (hcl m om hm hl e he hbd)
        · rw [lof_set (by omega)] at hu
          unfold addL at hu
          split at hu
          · cases hu
          · rename_i hne
            exact (List.mem_erase_of_ne hne).2 (hhd j hj hu)
        · rw [getD_set_ne true (by omega)]
          exact htl j hj hj'
        · rw [lof_set (by omega)]; exact hi'
      have stepOf : ∀ i o, i < k → all[i]? = some o → i ∈ Region.ready .any all listed → ∀ (Q' : Exit → Act → World → Prop) (next : Act → World → Prop), (∀ a' w', Inv base M w0 all k st0 E whoF stF (addL (Lof listed) i) a' w' → next a' w') →
          (Region.wanted o (yielded all a.tmps) = false ∧ next (a.put o.dst undef) w) ∨ (Region.wanted o (yielded all a.tmps) = true ∧ o.wp P a w next Q' ∧
            ∀ (hs : silentB o = true), ∃ u, ∀ w', (execOp a.eval o).run P w' = .ok (.value u) w') := by
        intro i o hik hoi hr Q' next hnext
        obtain ⟨hun, oi, hoi', haf⟩ := mem_ready.1 hr
        have hL : ∀ j, (maskOf all i).testBit j = true → Lof listed j = true := mask_listed hcl i (.inr hr)
        obtain ⟨e, o', st, he, ho, s, hrf, s1, hq⟩ := hf i hik
        rw [hoi] at ho; injection ho with ho; subst ho
        obtain ⟨V, v1, v2, h3⟩ := hi.ex
        have hw := wanted_at hch hik hoi hrf s hi.size hL h3
        have hni := unl' hun
        cases hre : e.r with
        | none =>
          rw [hre] at hw
          exact .inl ⟨by rw [hw]; rfl, hnext _ _ (inv_skip hch hik he hoi hre fin hi)⟩
        | some q =>
          rw [hre] at hw
          refine .inr ⟨by rw [hw]; rfl, inv_go hT hΓ hch hik he hoi hre (hob e (List.mem_of_getElem? he) q hre) s1 fin (hq q hre) (fun j => mask_ltL hct i j) hL hni hi (fun u w' hi' => hnext _ _ hi'), fun hs => ?_⟩
          exact silent_all hT hs (hq q hre) (evL_ok (Nat.le_of_lt hik) s1 (fun j => mask_ltL hct i j) hi.size hL v2 h3)
      by_cases hlate : ∃ i, i < k ∧ i ∈ Region.ready .any all listed ∧ lateB all i = true
      · obtain ⟨i, hik, hr, hlb⟩ := hlate
        unfold lateB at hlb
        split at hlb
        · rename_i oi ho
          rw [nth?_eq] at ho
          have hoi : all[i]? = some oi := by simpa using ho
          simp only [Bool.and_eq_true] at hlb
          obtain ⟨⟨s1, s2⟩, s3⟩ := hlb
          have hg := silent_guard s1
          rcases stepOf i oi hik hoi hr (fun _ _ _ => False) (fun a' w' => Inv base M w0 all k st0 E whoF stF (addL (Lof listed) i) a' w') (fun _ _ h => h) with ⟨hw, _⟩ | ⟨hw, hwp, hsil⟩
          · unfold Region.wanted at hw; rw [hg] at hw; cases hw
          · obtain ⟨u, hu⟩ := hsil s1
            have hinv := silent_next (hu w) hwp
            refine wpAny_first hoi (fun j o cs b hj => noSelB_spec s2 j o cs b hj) (fun c a w h => hQp c _ _ w h) f listed a w (fun j oj hj hne hun hno => ?_) hr (v := u) (.inl ⟨hw, hu⟩) (nextOf i hik hr _ _ hinv)
            refine freeLate_spec s3 j oj (by simpa using hj) (by omega) ?_ hno
            rw [Nat.zero_add]
            cases hm : (maskOf all i).testBit j with
            | false => rfl
            | true =>
              have := mask_listed hcl i (.inr hr) j hm
              have h2 := unl' hun
              unfold Lof at h2
              rw [h2] at this; cases this
        · cases hlb
      have ho1 : all[i1]? = some (all[i1]'(by omega)) := Array.getElem?_eq_getElem _
      have hr1 := ready_firstL hct ho1 (unl (by omega) hu1) hb1
      refine ⟨fun h0 => by rw [h0] at hr1; (cases hr1), fun i hr => ?_⟩
      obtain ⟨hun, oi, hoi, haf⟩ := mem_ready.1 hr
      have hik : i < k := by
        rcases (chkTailL_spec hct hoi).1 with h | h
        · exact h
        · rcases Nat.lt_or_ge i k with h' | h'
          · exact h'
          · exfalso
            rcases h i1 (by omega) with h2 | h2
            · have := mask_listed hcl i (.inr hr) i1 h2
              have hu1' := hu1
              unfold Lof at hu1'
              rw [hu1'] at this; cases this
            · exact hlate ⟨i1, hi1, hr1, h2⟩
      unfold wpOp
      simp only [hoi]
      rcases stepOf i oi hik hoi hr Q (wpAny P .any all Q f (listed.setIfInBounds i true)) (fun a' w' h => nextOf i hik hr a' w' h) with ⟨hw, h⟩ | ⟨hw, h, _⟩
      · rw [if_neg (by rw [hw]; simp)]; exact h
      · rw [if_pos hw]; exact .inl h

theorem vcRegion_ok (hm : P.follows .mixedOrders = true) (hT : TabOk P T) (hΓ : GamOk P Γ) (hR : RulesOk P R) {id : Nat} {ops : Array Oper} {draw : Bool} {st : St} {K : St → Prop} {a : Act} {w : World} (hs : Sat base M w0 st a w)
    (h : vcRegion T Γ R ops draw st K) (hK : ∀ st' a' w', K st' → Sat base M w0 st' a' w' → Q .normal a' w') : (Code.region id ops draw).wp P Q a w := by
  unfold vcRegion at h
  split at h
  · rename_i hd
    subst hd
    simp only at h
    split at h
    · rename_i hc
      rw [Bool.and_eq_true] at hc
      obtain ⟨hch, hct⟩ := hc
      have hk : headLen Γ ops.toList ≤ ops.size := by have := headLen_le Γ ops.toList; simpa using this
      generalize headLen Γ ops.toList = k at *
      obtain ⟨E, whoF, stF, hcn, hob, hKF⟩ := vcHead_chain _ _ _ _ _ h
      rw [ltake_eq] at hcn
      have hEl : E.length = k := by rw [chain_len _ _ _ _ _ hcn, List.length_take]; simp; omega
      obtain ⟨h1, h2⟩ := chain_facts (E := E) (st0 := st) hch (ops.toList.take k) 0 [] st E (by simp) (by simp) (by simp; omega) hcn (snap_start ops st E)
      refine wp_region_any hm ?_
      have hs' := sat_drawn hs
      obtain ⟨hd0, V, r⟩ := hs'
      refine wpAny_head (E := E) (stF := stF) (whoF := whoF) (st0 := st) (base := base) (M := M) (w0 := w0) hT hΓ hch hct hk hEl hob (fun i hi => h1 i (Nat.zero_le _) hi) h2 (fun a' w' q1 q2 => ?_) k ops.size (List.range k) _ a _ (by simp) (by omega) (by simp) ?_ (fun j hj _ => List.mem_range.2 hj) (fun j _ hj => ?_) ?_
      · have hv := hKF q2
        rw [ldrop_eq] at hv
        have := vcSeq_ok (Q := Q) hT hΓ hR hK (ops.toList.drop k) k rfl stF a' w' q1 hv
        simpa using this
      · intro j oj hj hl
        simp only [Array.getD_eq_getD_getElem?, Array.getElem?_replicate] at hl
        split at hl <;> cases hl
      · simp [hj]
      · have hLF : Lof (Array.replicate ops.size false) = fun _ => false := by
          funext j
          unfold Lof
          simp only [Array.getD_eq_getD_getElem?, Array.getElem?_replicate]
          split <;> rfl
        rw [hLF]
        have hhp : hpS st whoF stF (fun _ => false) = st.ent := by
          funext n
          unfold hpS
          split
          · rfl
          · rename_i hn
            have : st.ent n = .dead := by
              show nth .dead st.hp n = _
              rw [nth_eq, List.getElem?_eq_none (by rw [← llen_eq]; omega)]
              rfl
            rw [this]
            split <;> rfl
        refine ⟨hd0, r.len, ⟨V, by rw [hhp]; exact r.mem, fun t s v _ hs hv => by rw [hhp]; exact r.slots t s v hs hv, fun j o d v _ hL => by cases hL⟩, fun j e q _ hL => by cases hL⟩
    split at h
    · rename_i hc
      rw [Bool.and_eq_true] at hc
      obtain ⟨hch, hct⟩ := hc
      have hk : headLen Γ ops.toList ≤ ops.size := by have := headLen_le Γ ops.toList; simpa using this
      generalize headLen Γ ops.toList = k at *
      obtain ⟨E, whoF, stF, hcn, hob, hKF⟩ := vcHead_chain _ _ _ _ _ h
      rw [ltake_eq] at hcn
      have hEl : E.length = k := by rw [chain_len _ _ _ _ _ hcn, List.length_take]; simp; omega
      obtain ⟨h1, h2⟩ := chain_facts (E := E) (st0 := st) hch (ops.toList.take k) 0 [] st E (by simp) (by simp) (by simp; omega) hcn (snap_start ops st E)
      refine wp_mono (Q := fun e a w => match e with | .panic _ => False | e => Q e a w) ?_ (fun e a w h => by cases e <;> first | exact h | exact h.elim)
      refine wp_region_any hm ?_
      have hs' := sat_drawn hs
      obtain ⟨hd0, V, r⟩ := hs'
      refine wpAny_headL (E := E) (stF := stF) (whoF := whoF) (st0 := st) (base := base) (M := M) (w0 := w0) hT hΓ hch hct (fun c a b w h => h.elim) hk hEl hob (fun i hi => h1 i (Nat.zero_le _) hi) h2 (fun a' w' q1 q2 => ?_) k ops.size (List.range k) _ a _ (by simp) (by omega) List.nodup_range (fun j hj => ⟨List.mem_range.1 hj, ?_⟩) (by simp) ?_ (fun j hj _ => List.mem_range.2 hj) (fun j _ hj => ?_) ?_
      · have hv := hKF q2
        rw [ldrop_eq, llen_eq, lrep_eq, lrep_eq, lapp_eq] at hv
        have hln : (ops.toList.drop k).length = ops.size - k := by simp
        rw [hln] at hv
        exact vcAny_ok (Q := fun e a w => match e with | .panic _ => False | e => Q e a w) hT hΓ hR (fun st' a' w' k hs' => hK st' a' w' k hs') (fun c a b w h => h.elim) _ _ stF a' w' q1 hv
      · unfold Lof
        simp only [Array.getD_eq_getD_getElem?, Array.getElem?_replicate]
        split <;> rfl
      · intro j oj hj hl
        simp only [Array.getD_eq_getD_getElem?, Array.getElem?_replicate] at hl
        split at hl <;> cases hl
      · simp [hj]
      · have hLF : Lof (Array.replicate ops.size false) = fun _ => false := by
          funext j
          unfold Lof
          simp only [Array.getD_eq_getD_getElem?, Array.getElem?_replicate]
          split <;> rfl
        rw [hLF]
        have hhp : hpS st whoF stF (fun _ => false) = st.ent := by
          funext n
          unfold hpS
          split
          · rfl
          · rename_i hn
            have : st.ent n = .dead := by
              show nth .dead st.hp n = _
              rw [nth_eq, List.getElem?_eq_none (by rw [← llen_eq]; omega)]
              rfl
            rw [this]
            split <;> rfl
        refine ⟨hd0, r.len, ⟨V, by rw [hhp]; exact r.mem, fun t s v _ hs hv => by rw [hhp]; exact r.slots t s v hs hv, fun j o d v _ hL => by cases hL⟩, fun j e q _ hL => by cases hL⟩
    · refine wp_mono (Q := fun e a w => match e with | .panic _ => False | e => Q e a w) ?_ (fun e a w h => by cases e <;> first | exact h | exact h.elim)
      refine wp_region_any hm ?_
      rw [llen_eq, lrep_eq] at h
      have hl : (List.replicate ops.toList.length false).toArray = Array.replicate ops.size false := by simp
      have := vcAny_ok (Q := fun e a w => match e with | .panic _ => False | e => Q e a w) hT hΓ hR (fun st' a' w' k hs' => hK st' a' w' k hs') (fun c a b w h => h.elim) ops.toList.length _ st a _ (sat_drawn hs) h
      rw [hl] at this
      simpa using this
  · rename_i hd
    have hd' : draw = false := by simpa using hd
    subst hd'
    refine wp_region ?_
    have := vcSeq_ok (Q := Q) hT hΓ hR hK ops.toList 0 rfl st a w hs h
    rw [List.range_eq_range']
    simpa using this
end
end Go.SX
