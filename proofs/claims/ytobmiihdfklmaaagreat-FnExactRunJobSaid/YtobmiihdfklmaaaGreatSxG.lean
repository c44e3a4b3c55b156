/- A verified symbolic executor and its contracts (part SxG). No condition. -/
import Derived.Test.YtobmiihdfklmaaaGreatSxB
import Derived.Still
import Derived.Deep.LoopGhost
import Derived.ProofKit
import Derived.OpenShut
import Derived.ChangeOld
import Derived.Below
import Derived.Carry
import Derived.Lib.SliceRun
import Derived.Deep.RegionLaw
import Derived.Lib.SlicesDelete
import Derived.Laws.Rows
/- Regions. No condition. -/
namespace Go.SX
open Go.RowKit
set_option linter.unusedVariables false
set_option linter.unusedSimpArgs false
section
variable {P : Program} {T : Tab} {Γ : FuncId → Option PC} {R : FuncId → Option Rule} {all : Array Oper} {k : Nat} {st0 : St} {E : List HEnt} {whoF : List Nat} {stF : St}
  {base : Nat} {M : LM} {w0 : World} {Q : Exit → Act → World → Prop}
def Lof (listed : Array Bool) (j : Nat) : Bool := listed.getD j false
theorem lof_set {listed : Array Bool} {i : Nat} (hi : i < listed.size) : Lof (listed.setIfInBounds i true) = addL (Lof listed) i := by
  funext j
  unfold Lof addL
  by_cases h : j = i
  · subst h; simp [hi]
  · rw [if_neg h]
    simp only [Array.getD_eq_getD_getElem?]
    rw [Array.getElem?_setIfInBounds_ne (fun e => h e.symm)]
theorem chkTail_spec (h : chkTail all k = true) {i : Nat} {o : Oper} (ho : all[i]? = some o) : (i < k ∨ ∀ j, j < i → (maskOf all i).testBit j = true) ∧ ∀ e ∈ o.after, Region.binds .any e = true → e.on < i := by
  have hi := (Array.getElem?_eq_some_iff.1 ho).1
  have := List.all_eq_true.1 h i (List.mem_range.2 hi)
  rw [Bool.and_eq_true, ho] at this
  obtain ⟨h1, h2⟩ := this
  refine ⟨?_, fun e he hb => ?_⟩
  · rw [Bool.or_eq_true] at h1
    rcases h1 with h1 | h1
    · exact .inl (by simpa using h1)
    · exact .inr fun j hj => List.all_eq_true.1 h1 j (List.mem_range.2 hj)
  · have := List.all_eq_true.1 h2 e (by simpa using he)
    simpa [hb] using this
theorem mask_lt (h : chkTail all k = true) : ∀ i j, (maskOf all i).testBit j = true → j < i := by
  intro i
  induction i using Nat.strongRecOn with
  | _ i ih =>
    intro j hj
    obtain ⟨o, h1, e, h2, h3, h4⟩ := mask_spec all i j hj
    have := (chkTail_spec h h1).2 e h2 h3
    rcases h4 with rfl | ⟨_, h5⟩
    · exact this
    · exact Nat.lt_trans (ih e.on this j h5) this
theorem ready_first (h : chkTail all k = true) {listed : Array Bool} {i : Nat} {o : Oper} (ho : all[i]? = some o) (hu : listed.getD i true = false) (hb : ∀ j, j < i → listed.getD j false = true) : i ∈ Region.ready .any all listed :=
  mem_ready.2 ⟨hu, o, ho, fun e he hbd => hb _ ((chkTail_spec h ho).2 e he hbd)⟩
theorem wpAny_tail (h : chkTail all k = true) : ∀ (n i fuel : Nat) (listed : Array Bool) (a : Act) (w : World), i + n = all.size → k ≤ i → n ≤ fuel → listed.size = all.size → Closed all listed →
    (∀ j, j < i → listed.getD j false = true) → (∀ j, i ≤ j → j < all.size → listed.getD j true = false) → wpOps P all Q (List.range' i n) a w → wpAny P .any all Q fuel listed a w
  | 0, i, fuel, listed, a, w, hin, _, _, hsz, _, hb, _, hw => by
    have hr : Region.ready .any all listed = [] := by
      apply List.eq_nil_iff_forall_not_mem.2
      intro j hj
      obtain ⟨h1, o, h2, _⟩ := mem_ready.1 hj
      have hlt := (Array.getElem?_eq_some_iff.1 h2).1
      have h3 := hb j (by omega)
      have hls : j < listed.size := by omega
      simp [hls] at h1 h3
      rw [h1] at h3; cases h3
    rw [List.range'_zero] at hw
    have hq : Q .normal a w := hw
    cases fuel with
    | zero => exact ⟨hr, hq⟩
    | succ f => exact ⟨fun _ => hq, fun j hj => by rw [hr] at hj; cases hj⟩
  | n + 1, i, fuel, listed, a, w, hin, hki, hf, hsz, hcl, hb, hu, hw => by
    obtain ⟨f, rfl⟩ : ∃ f, fuel = f + 1 := ⟨fuel - 1, by omega⟩
    have hilt : i < all.size := by omega
    have ho : all[i]? = some all[i] := Array.getElem?_eq_getElem hilt
    have hir := ready_first h ho (hu i (Nat.le_refl _) hilt) hb
    refine ⟨fun h0 => by rw [h0] at hir; (cases hir), fun j hj => ?_⟩
    have hji : j = i := by
      obtain ⟨h1, o, h2, _⟩ := mem_ready.1 hj
      have hjlt := (Array.getElem?_eq_some_iff.1 h2).1
      rcases Nat.lt_trichotomy j i with h3 | h3 | h3
      · have h4 := hb j h3
        have hls : j < listed.size := by omega
        simp [hls] at h1 h4
        rw [h1] at h4; cases h4
      · exact h3
      · rcases (chkTail_spec h h2).1 with h4 | h4
        · omega
        · have h5 := mask_listed hcl j (.inr hj) i (h4 i h3)
          have h6 := hu i (Nat.le_refl _) hilt
          have hls : i < listed.size := by omega
          simp [hls] at h5 h6
          rw [h6] at h5; cases h5
    subst hji
    rw [List.range'_succ, wpOps_cons] at hw
    refine wpOp_mono (fun a' w' h' => wpAny_tail h n (j + 1) f _ a' w' (by omega) (by omega) (by omega) (by simp [hsz]) ?_ (fun m hm => ?_) (fun m hm hm' => ?_) h') hw
    · intro m om hm hl e he hbd
      by_cases hmj : j = m
      · subst hmj
        obtain ⟨_, o, h2, h3⟩ := mem_ready.1 hj
        rw [hm] at h2; injection h2 with h2; subst h2
        exact getD_set_true (h3 e he hbd)
      · rw [getD_set_ne false hmj] at hl
        exact getD_set_true (hcl m om hm hl e he hbd)
    · by_cases hmj : j = m
      · subst hmj
        have hls : j < listed.size := by omega
        simp [hls]
      · exact getD_set_true (hb m (by omega))
    · rw [getD_set_ne true (by omega)]
      exact hu m (by omega) hm'
theorem wpAny_head (hT : TabOk P T) (hΓ : GamOk P Γ) (hch : chkHead all k = true) (hct : chkTail all k = true) (hk : k ≤ all.size) (hE : E.length = k) (hob : OwedE E)
    (hf : ∀ i, i < k → AtFact T Γ all k st0 E i) (fin : Snap all st0 E k whoF stF) (hQ : ∀ a w, Sat base M w0 stF a w → HyE E → wpOps P all Q (List.range' k (all.size - k)) a w) :
    ∀ (m fuel : Nat) (l : List Nat) (listed : Array Bool) (a : Act) (w : World), l.length = m → m + (all.size - k) ≤ fuel → listed.size = all.size → Closed all listed →
    (∀ j, j < k → Lof listed j = false → j ∈ l) → (∀ j, k ≤ j → j < all.size → listed.getD j true = false) → Inv base M w0 all k st0 E whoF stF (Lof listed) a w → wpAny P .any all Q fuel listed a w := by
  intro m
  induction m with
  | zero =>
    intro fuel l listed a w hl hfu hsz hcl hhd htl hi
    have hl0 : l = [] := List.length_eq_zero_iff.1 hl
    have hall : ∀ j, j < k → Lof listed j = true := fun j hj => by
      cases h : Lof listed j with
      | true => rfl
      | false => have := hhd j hj h; rw [hl0] at this; cases this
    obtain ⟨h1, h2⟩ := inv_end hall hE fin hi
    exact wpAny_tail hct _ k fuel listed a w (by omega) (Nat.le_refl _) (by omega) hsz hcl hall htl (hQ a w h1 h2)
  | succ m ih =>
    intro fuel l listed a w hl hfu hsz hcl hhd htl hi
    by_cases hall : ∀ j, j < k → Lof listed j = true
    · obtain ⟨h1, h2⟩ := inv_end hall hE fin hi
      exact wpAny_tail hct _ k fuel listed a w (by omega) (Nat.le_refl _) (by omega) hsz hcl hall htl (hQ a w h1 h2)
    · obtain ⟨f, rfl⟩ : ∃ f, fuel = f + 1 := ⟨fuel - 1, by omega⟩
      obtain ⟨i0, hi0, hu0⟩ : ∃ i0, i0 < k ∧ Lof listed i0 = false := by
        refine Classical.byContradiction fun hn => hall fun j hj => ?_
        cases h : Lof listed j with
        | true => rfl
        | false => exact absurd ⟨j, hj, h⟩ hn
      -- the first that is not listed
      obtain ⟨i1, hi1, hu1, hb1⟩ : ∃ i1, i1 < k ∧ Lof listed i1 = false ∧ ∀ j, j < i1 → Lof listed j = true := by
        clear hi hhd htl
        induction i0 using Nat.strongRecOn with
        | _ n ihn =>
          by_cases h : ∀ j, j < n → Lof listed j = true
          · exact ⟨n, hi0, hu0, h⟩
          · obtain ⟨j, hj, hu⟩ : ∃ j, j < n ∧ Lof listed j = false := by
              refine Classical.byContradiction fun hn => h fun j hj => ?_
              cases h' : Lof listed j with
              | true => rfl
              | false => exact absurd ⟨j, hj, h'⟩ hn
            exact ihn j hj (by omega) hu
      have unl : ∀ {j}, j < all.size → Lof listed j = false → listed.getD j true = false := fun {j} hj h => by
        unfold Lof at h
        have : j < listed.size := by omega
        simp [this] at h ⊢; exact h
      have unl' : ∀ {j}, listed.getD j true = false → Lof listed j = false := fun {j} h => by
        unfold Lof
        rcases Nat.lt_or_ge j listed.size with h' | h'
        · simp [h'] at h ⊢; exact h
        · simp [Array.getElem?_eq_none h']
      have ho1 : all[i1]? = some (all[i1]'(by omega)) := Array.getElem?_eq_getElem _
      have hr1 := ready_first hct ho1 (unl (by omega) hu1) hb1
      refine ⟨fun h0 => by rw [h0] at hr1; (cases hr1), fun i hr => ?_⟩
      obtain ⟨hun, oi, hoi, haf⟩ := mem_ready.1 hr
      have hilt := (Array.getElem?_eq_some_iff.1 hoi).1
      have hL : ∀ j, (maskOf all i).testBit j = true → Lof listed j = true := mask_listed hcl i (.inr hr)
      have hik : i < k := by
        rcases (chkTail_spec hct hoi).1 with h | h
        · exact h
        · rcases Nat.lt_or_ge i k with h' | h'
          · exact h'
          · have := hL i1 (h i1 (by omega))
            rw [hu1] at this; cases this
      obtain ⟨e, o, st, he, ho, s, hrf, s1, hq⟩ := hf i hik
      rw [hoi] at ho; injection ho with ho; subst ho
      obtain ⟨V, _, _, h3⟩ := hi.ex
      have hw := wanted_at hch hik hoi hrf s hi.size hL h3
      have hni := unl' hun
      have next : ∀ a' w', Inv base M w0 all k st0 E whoF stF (addL (Lof listed) i) a' w' → wpAny P .any all Q f (listed.setIfInBounds i true) a' w' := by
        intro a' w' hi'
        have hil : i ∈ l := hhd i hik hni
        refine ih f (l.erase i) _ a' w' (by rw [List.length_erase_of_mem hil]; omega) (by omega) (by simp [hsz]) ?_ (fun j hj hu => ?_) (fun j hj hj' => ?_) ?_
        · intro m om hm hl e he hbd
          by_cases hmj : i = m
          · subst hmj
            rw [hm] at hoi; injection hoi with hoi; subst hoi
            exact getD_set_true (haf e he hbd)
          · rw [getD_set_ne false hmj] at hl
            exact getD_set_true (hcl m om hm hl e he hbd)
        · rw [lof_set (by omega)] at hu
          unfold addL at hu
          split at hu
          · cases hu
          · rename_i hne
            exact (List.mem_erase_of_ne hne).2 (hhd j hj hu)
        · rw [getD_set_ne true (by omega)]
          exact htl j hj hj'
        · rw [lof_set (by omega)]; exact hi'
      unfold wpOp
      simp only [hoi]
      cases hre : e.r with
      | none =>
        rw [hre] at hw
        rw [if_neg (by rw [hw]; simp)]
        exact next _ _ (inv_skip hch hik he hoi hre fin hi)
      | some q =>
        rw [hre] at hw
        rw [if_pos (by rw [hw]; rfl)]
        exact .inl (inv_go hT hΓ hch hik he hoi hre (hob e (List.mem_of_getElem? he) q hre) s1 fin (hq q hre) (fun j => mask_lt hct i j) hL hni hi (fun u w' hi' => next _ _ hi'))
theorem headLen_le (T : Tab) (Γ : FuncId → Option PC) : ∀ (l : List Oper) (ws : List Nat), headLen T Γ ws l ≤ l.length
  | [], _ => Nat.le_refl _
  | o :: l, ws => by
    unfold headLen
    split
    · have := headLen_le T Γ l (wrOwn Γ ws o); simp only [List.length_cons]; omega
    · simp
theorem chain_len {nx0 : Nat} : ∀ (l : List Oper) (i : Nat) (who : List Nat) (st : St) (E : List HEnt), Chain T Γ all k nx0 i l who st E whoF stF → E.length = l.length
  | [], i, who, st, E, h => by rw [h.1]; rfl
  | o :: l, i, who, st, E, h => by
    obtain ⟨e, E', rfl, _, _, h⟩ := h
    cases hr : e.r with
    | none => rw [hr] at h; simp [chain_len l _ _ _ _ h]
    | some q => rw [hr] at h; simp [chain_len l _ _ _ _ h.2]
theorem sat_drawn {st : St} {a : Act} {w : World} (h : Sat base M w0 st a w) : Sat base M w0 st a { w with drawn := w.drawn + 1 } := by
  obtain ⟨h1, V, r⟩ := h
  have x : VX V st.ent w V st.ent { w with drawn := w.drawn + 1 } := ⟨fun _ _ => ⟨rfl, Iff.rfl, rfl⟩, fun _ h => h, fun _ h => h, fun _ _ => rfl, fun _ _ _ => rfl⟩
  refine ⟨h1, V, ⟨r.len, fun i s v hs hv => S.ok_ext x (r.slots i s v hs hv), ?_⟩⟩
  have m := r.mem
  refine ⟨fun n => ?_, m.box, m.own, m.mine, m.dist, m.z0, m.z1, ⟨m.kept.os, m.kept.tape, m.kept.output, m.kept.size, m.kept.block, m.kept.shape⟩, m.lent, m.lentb, m.lids⟩
  cases hl : (st.ent n).live with
  | true => exact Ent.ok_ext x (m.ents n) (fun cs => m.box n cs) hl
  | false =>
    cases he : st.ent n with
    | dead => trivial
    | bx cs => rw [he] at hl; cases hl
    | row fr e xs => rw [he] at hl; cases hl
theorem silent_guard {o : Oper} (h : silentB o = true) : o.guard = none := by
  unfold silentB at h
  split at h <;> first | assumption | cases h
theorem silent_all {a : Act} {w : World} (hT : TabOk P T) {V : Vl} {hp lk : Nat → Ent} {nx : Nat} {ev : Operand → S} {o : Oper} {q : QR} (hs : silentB o = true) (hq : qop T Γ lk nx ev o.op = some q) (hev : ∀ x, S.ok V hp w (ev x) (a.eval x)) :
    ∃ u, ∀ w', (execOp a.eval o).run P w' = .ok (.value u) w' := by
  unfold silentB at hs
  split at hs
  · rename_i t x f _ hop
    rw [hop] at hq
    simp only [qop] at hq
    have hv := hev x
    cases hc : ev x with
    | c p =>
      rw [hc] at hq hv
      obtain ⟨_, _, _, u, e4, _⟩ := qfieldAddr_all hT hq hv
      exact ⟨u, fun w' => by unfold execOp; simp only [hop, Sem.run_bind, e4 w', Result.andThen_ok, Sem.run_pure]⟩
    | _ => rw [hc] at hq; cases hq
  · rename_i x _ hop
    exact ⟨a.eval x, fun w' => by unfold execOp; simp only [hop, Sem.run_bind, Result.andThen_ok, Sem.run_pure]⟩
  · rename_i x _ hop
    exact ⟨a.eval x, fun w' => by unfold execOp; simp only [hop, Sem.run_bind, Result.andThen_ok, Sem.run_pure]⟩
  · rename_i x i _ hop
    rw [hop] at hq
    simp only [qop] at hq
    have hv := hev x
    cases hc : ev x with
    | tup vs =>
      rw [hc] at hq hv
      obtain ⟨us, e1, e2, _⟩ := hv
      simp only at hq
      rw [nth?_eq, omap_eq] at hq
      cases hx : vs[i]? with
      | none => rw [hx] at hq; cases hq
      | some y =>
        have hlt : i < us.size := by have := (List.getElem?_eq_some_iff.1 hx).1; omega
        have hu : us[i]? = some us[i] := Array.getElem?_eq_getElem _
        exact ⟨us[i], fun w' => by unfold execOp; simp only [hop, Instr.extract, e1, hu, Sem.run_bind, Sem.run_pure, Result.andThen_ok]⟩
    | _ => rw [hc] at hq; cases hq
  · cases hs
theorem silent_vc {a : Act} {w : World} (hT : TabOk P T) {V : Vl} {hp : Nat → Ent} {st : St} {o : Oper} {K : St → Prop} (hs : silentB o = true) (hev : ∀ x, S.ok V hp w (st.eval x) (a.eval x)) (h : vcOp T Γ R st.eval st.ent o st K) :
    ∃ u, ∀ w', (execOp a.eval o).run P w' = .ok (.value u) w' := by
  unfold vcOp at h
  split at h
  · rename_i q hq
    exact silent_all hT hs hq hev
  · exfalso
    unfold silentB at hs
    split at hs
    · rename_i hop; rw [hop] at h; exact h
    · rename_i hop; rw [hop] at h; exact h
    · rename_i hop; rw [hop] at h; exact h
    · rename_i hop; rw [hop] at h; exact h
    · cases hs
theorem silent_next {a : Act} {w : World} {o : Oper} {u : Value} {next : Act → World → Prop} (hu : (execOp a.eval o).run P w = .ok (.value u) w) (h : o.wp P a w next (fun _ _ _ => False)) : next (a.put o.dst u) w := by
  unfold Oper.wp at h
  rw [hu] at h
  exact h
theorem rdyGo_mem {all : List Oper} {listed : List Bool} : ∀ {n i j : Nat}, j ∈ rdyGo all listed i n ↔ i ≤ j ∧ j < i + n ∧ rdyB all listed j = true
  | 0, i, j => by simp [rdyGo]; omega
  | n + 1, i, j => by
    unfold rdyGo
    split
    · rename_i h
      rw [List.mem_cons, rdyGo_mem]
      constructor
      · rintro (rfl | ⟨h1, h2, h3⟩)
        · exact ⟨Nat.le_refl _, by omega, h⟩
        · exact ⟨by omega, by omega, h3⟩
      · rintro ⟨h1, h2, h3⟩
        by_cases e : j = i
        · exact .inl e
        · exact .inr ⟨by omega, by omega, h3⟩
    · rename_i h
      rw [rdyGo_mem]
      constructor
      · rintro ⟨h1, h2, h3⟩; exact ⟨by omega, by omega, h3⟩
      · rintro ⟨h1, h2, h3⟩
        by_cases e : j = i
        · subst e; exact absurd h3 h
        · exact ⟨by omega, by omega, h3⟩
theorem nthB {d : Bool} {l : List Bool} {i : Nat} : nth d l i = l.toArray.getD i d := by
  rw [nth_eq]; simp
theorem rdy_ready {all : Array Oper} {listed : List Bool} {j : Nat} : j ∈ rdyGo all.toList listed 0 (llen all.toList) ↔ j ∈ Region.ready .any all listed.toArray := by
  rw [rdyGo_mem, mem_ready, llen_eq]
  unfold rdyB
  rw [nth?_eq, nthB]
  simp only [Nat.zero_le, true_and, Nat.zero_add, Array.length_toList, Bool.and_eq_true, Bool.not_eq_true', Array.getElem?_toList]
  constructor
  · rintro ⟨h1, h2, h3⟩
    refine ⟨h2, all[j], Array.getElem?_eq_getElem h1, fun e he hb => ?_⟩
    rw [Array.getElem?_eq_getElem h1] at h3
    simp only [lall_eq, List.all_eq_true, Bool.or_eq_true, Bool.not_eq_true'] at h3
    rcases h3 e (by simpa using he) with h | h
    · rw [hb] at h; cases h
    · rw [nthB] at h; exact h
  · rintro ⟨h2, o, h1, h3⟩
    refine ⟨(Array.getElem?_eq_some_iff.1 h1).1, h2, ?_⟩
    rw [h1]
    simp only [lall_eq, List.all_eq_true, Bool.or_eq_true, Bool.not_eq_true']
    intro e he
    cases hb : Region.binds .any e with
    | false => exact .inl rfl
    | true => right; rw [nthB]; exact h3 e (by simpa using he) hb
theorem conjL_mem : ∀ {l : List Nat} {f : Nat → Prop}, conjL l f → ∀ i ∈ l, f i
  | [], _, _, i, h => by cases h
  | [j], f, h, i, hi => by rw [List.mem_singleton.1 hi]; exact h
  | j :: k :: r, f, h, i, hi => by
    rcases List.mem_cons.1 hi with rfl | hi
    · exact h.1
    · exact conjL_mem h.2 i hi
theorem firstTake_spec {all : Array Oper} {listed : List Bool} : ∀ {l : List Nat} {i : Nat}, firstTake all listed l = some i → i ∈ l ∧ takeB all listed i = true
  | [], i, h => by cases h
  | j :: r, i, h => by
    unfold firstTake at h
    split at h
    · rename_i ht
      injection h with h; subst h
      exact ⟨List.mem_cons_self .., ht⟩
    · obtain ⟨h1, h2⟩ := firstTake_spec h
      exact ⟨List.mem_cons_of_mem _ h1, h2⟩
theorem freeGo_spec {all : Array Oper} {oi : Oper} {i : Nat} {listed : List Bool} : ∀ {l : List Oper} {m : Nat}, freeGo all oi i listed m l = true → ∀ (j : Nat) (oj : Oper), l[j]? = some oj → m + j ≠ i → nth true listed (m + j) = false →
    (∀ e ∈ oj.after, Region.binds .any e = true → e.on ≠ i) → oi.apart all oj = true
  | [], m, _, j, oj, h, _, _, _ => by cases h
  | o :: r, m, h, j, oj, hj, hne, hun, hno => by
    unfold freeGo at h
    rw [Bool.and_eq_true] at h
    cases j with
    | zero =>
      simp only [List.getElem?_cons_zero, Option.some.injEq] at hj
      subst hj
      rw [Nat.add_zero] at hne hun
      have h1 := h.1
      rw [Bool.or_eq_true, Bool.or_eq_true, Bool.or_eq_true, hun, lany_eq, List.any_eq_true] at h1
      rcases h1 with ((h1 | h1) | ⟨e, he, hb⟩) | h1
      · exact absurd (by simpa using h1) hne
      · cases h1
      · rw [Bool.and_eq_true] at hb
        exact absurd (by simpa using hb.2) (hno e (by simpa using he) hb.1)
      · exact h1
    | succ j =>
      have e : m + (j + 1) = (m + 1) + j := by omega
      exact freeGo_spec h.2 j oj (by simpa using hj) (by rw [← e]; exact hne) (by rw [← e]; exact hun) hno
theorem noSelB_spec {all : Array Oper} (h : noSelB all.toList = true) (j : Nat) (o : Oper) (cs : Array SelectCase) (b : Bool) (ho : all[j]? = some o) : o.op ≠ .select cs b := by
  intro heq
  unfold noSelB at h
  rw [lall_eq, List.all_eq_true] at h
  have := h o (by simpa using Array.mem_of_getElem? ho)
  rw [heq] at this
  cases this
theorem vcAny_ok (hT : TabOk P T) (hΓ : GamOk P Γ) (hR : RulesOk P R) {K : St → Prop} (hK : ∀ st' a' w', K st' → Sat base M w0 st' a' w' → Q .normal a' w') (hQp : ∀ c a b w, Q (.panic c) a w → Q (.panic c) b w) :
    ∀ (n : Nat) (listed : List Bool) (st : St) (a : Act) (w : World), Sat base M w0 st a w → vcAny T Γ R all n listed st K → wpAny P .any all Q n listed.toArray a w := by
  have done : ∀ {listed : List Bool}, rdyGo all.toList listed 0 (llen all.toList) = [] → Region.ready .any all listed.toArray = [] := by
    intro listed h
    apply List.eq_nil_iff_forall_not_mem.2
    intro j hj
    have := rdy_ready.2 hj
    rw [h] at this; cases this
  have hset : ∀ (listed : List Bool) (i : Nat), (lset listed i true).toArray = listed.toArray.setIfInBounds i true := by
    intro listed i; rw [lset_eq]; simp
  intro n
  induction n with
  | zero =>
    intro listed st a w hs h
    unfold vcAny at h
    split at h
    · rename_i hr
      exact ⟨done hr, hK st a w h hs⟩
    · exact h.elim
  | succ n ih =>
    intro listed st a w hs h
    unfold vcAny at h
    split at h
    · rename_i hr
      exact wpAny_done (done hr) (hK st a w h hs) _
    · rename_i j r hr
      split at h
      · rename_i i hi
        obtain ⟨h1, h2⟩ := firstTake_spec hi
        rw [← hr] at h1
        have hrd := rdy_ready.1 h1
        unfold takeB at h2
        split at h2
        · rename_i oi ho
          rw [nth?_eq] at ho
          have ho' : all[i]? = some oi := by simpa using ho
          simp only [Bool.and_eq_true] at h2
          obtain ⟨⟨s1, s2⟩, s3⟩ := h2
          unfold vcStep at h
          rw [nth?_eq, ho] at h
          simp only at h
          have hg : oi.guard = none := silent_guard s1
          have hdec : decide? all oi st = .go := by unfold decide?; rw [hg]
          rw [hdec] at h
          simp only at h
          obtain ⟨hd, V, rr⟩ := hs
          obtain ⟨u, hu⟩ := silent_vc hT s1 rr.eval h
          have hstep := vcOp_ok (Q := fun _ _ _ => False) (next := fun a' w' => ∃ st', vcAny T Γ R all n (lset listed i true) st' K ∧ Sat base M w0 st' a' w') hT hΓ hR ⟨hd, V, rr⟩ h (fun st' v w' h1 h2 => ⟨st', h1, h2⟩)
          have hnx := silent_next (hu w) hstep
          obtain ⟨st', k1, k2⟩ := hnx
          refine wpAny_first ho' (fun j o cs b hj => noSelB_spec s2 j o cs b hj) (fun c a w h => hQp c _ _ w h) n listed.toArray a w (fun j oj hj hne hun hno => ?_) hrd (v := u) (.inl ⟨?_, hu⟩) ?_
          · refine freeGo_spec s3 j oj (by simpa using hj) (by omega) ?_ hno
            rw [Nat.zero_add, nthB]; exact hun
          · unfold Region.wanted; rw [hg]
          · rw [← hset]
            exact ih _ _ _ w k2 k1
        · cases h2
      · rw [← hr] at h
        refine ⟨fun h0 => ?_, fun i hi => ?_⟩
        · have : j ∈ Region.ready .any all listed.toArray := rdy_ready.1 (by rw [hr]; exact List.mem_cons_self ..)
          rw [h0] at this; cases this
        · refine vcStep_ok hT hΓ hR hs (conjL_mem h i (rdy_ready.2 hi)) (fun st' a' w' k hs' => ?_)
          rw [← hset]
          exact ih _ _ _ w' hs' k
theorem chkTailL_spec (h : chkTailL all k = true) {i : Nat} {o : Oper} (ho : all[i]? = some o) : (i < k ∨ ∀ j, j < k → (maskOf all i).testBit j = true ∨ lateB all j = true) ∧ ∀ e ∈ o.after, Region.binds .any e = true → e.on < i := by
  unfold chkTailL at h
  rw [List.all_eq_true] at h
  have hi := (Array.getElem?_eq_some_iff.1 ho).1
  have h1 := h i (List.mem_range.2 hi)
  rw [Bool.and_eq_true, ho] at h1
  obtain ⟨h2, h3⟩ := h1
  refine ⟨?_, fun e he hb => ?_⟩
  · rw [Bool.or_eq_true] at h2
    rcases h2 with h2 | h2
    · exact .inl (by simpa using h2)
    · right
      intro j hj
      rw [List.all_eq_true] at h2
      have := h2 j (List.mem_range.2 hj)
      rw [Bool.or_eq_true] at this
      exact this
  · simp only [List.all_eq_true, Bool.or_eq_true, Bool.not_eq_true', decide_eq_true_eq] at h3
    rcases h3 e (by simpa using he) with h4 | h4
    · rw [hb] at h4; cases h4
    · exact h4
theorem mask_ltL (h : chkTailL all k = true) : ∀ i j, (maskOf all i).testBit j = true → j < i := by
  intro i
  induction i using Nat.strongRecOn with
  | _ i ih =>
    intro j hj
    obtain ⟨o, h1, e, h2, h3, h4⟩ := mask_spec all i j hj
    have h5 := (chkTailL_spec h h1).2 e h2 h3
    rcases h4 with rfl | ⟨_, h6⟩
    · exact h5
    · have := ih e.on h5 j h6
      omega
theorem ready_firstL (h : chkTailL all k = true) {listed : Array Bool} {i : Nat} {o : Oper} (ho : all[i]? = some o) (hu : listed.getD i true = false) (hb : ∀ j, j < i → listed.getD j false = true) : i ∈ Region.ready .any all listed :=
  mem_ready.2 ⟨hu, o, ho, fun e he hbd => hb _ ((chkTailL_spec h ho).2 e he hbd)⟩
theorem freeLate_spec {all : Array Oper} {oi : Oper} {i : Nat} : ∀ {l : List Oper} {m : Nat}, freeLate all oi i m l = true → ∀ (j : Nat) (oj : Oper), l[j]? = some oj → m + j ≠ i → (maskOf all i).testBit (m + j) = false →
    (∀ e ∈ oj.after, Region.binds .any e = true → e.on ≠ i) → oi.apart all oj = true
  | [], m, _, j, oj, h, _, _, _ => by cases h
  | o :: r, m, h, j, oj, hj, hne, hun, hno => by
    unfold freeLate at h
    rw [Bool.and_eq_true] at h
    cases j with
    | zero =>
      simp only [List.getElem?_cons_zero, Option.some.injEq] at hj
      subst hj
      rw [Nat.add_zero] at hne hun
      have h1 := h.1
      rw [Bool.or_eq_true, Bool.or_eq_true, Bool.or_eq_true, hun, lany_eq, List.any_eq_true] at h1
      rcases h1 with ((h1 | h1) | ⟨e, he, hb⟩) | h1
      · exact absurd (by simpa using h1) hne
      · cases h1
      · rw [Bool.and_eq_true] at hb
        exact absurd (by simpa using hb.2) (hno e (by simpa using he) hb.1)
      · exact h1
    | succ j =>
      have e : m + (j + 1) = (m + 1) + j := by omega
      exact freeLate_spec h.2 j oj (by simpa using hj) (by rw [← e]; exact hne) (by rw [← e]; exact hun) hno
theorem listed_eq {listed : Array Bool} (hk : k ≤ all.size) (hsz : listed.size = all.size) (hall : ∀ j, j < k → Lof listed j = true) (htl : ∀ j, k ≤ j → j < all.size → listed.getD j true = false) :
    listed = (List.replicate k true ++ List.replicate (all.size - k) false).toArray := by
  apply Array.ext
  · simp; omega
  · intro i h1 h2
    rcases Nat.lt_or_ge i k with h | h
    · have := hall i h
      unfold Lof at this
      simp only [Array.getD_eq_getD_getElem?, Array.getElem?_eq_getElem h1, Option.getD_some] at this
      rw [this]
      simp [List.getElem_append, h]
    · have := htl i h (by omega)
      simp only [Array.getD_eq_getD_getElem?, Array.getElem?_eq_getElem h1, Option.getD_some] at this
      rw [this]
      simp [List.getElem_append, show ¬ i < k by omega]
theorem wpAny_headL (hT : TabOk P T) (hΓ : GamOk P Γ) (hch : chkHead all k = true) (hct : chkTailL all k = true) (hQp : ∀ c a b w, Q (.panic c) a w → Q (.panic c) b w) (hk : k ≤ all.size) (hE : E.length = k) (hob : OwedE E)
    (hf : ∀ i, i < k → AtFact T Γ all k st0 E i) (fin : Snap all st0 E k whoF stF) (hQ : ∀ a w, Sat base M w0 stF a w → HyE E → wpAny P .any all Q (all.size - k) (List.replicate k true ++ List.replicate (all.size - k) false).toArray a w) :
    ∀ (m fuel : Nat) (l : List Nat) (listed : Array Bool) (a : Act) (w : World), l.length = m → m + (all.size - k) = fuel → l.Nodup → (∀ j ∈ l, j < k ∧ Lof listed j = false) → listed.size = all.size → Closed all listed →
    (∀ j, j < k → Lof listed j = false → j ∈ l) → (∀ j, k ≤ j → j < all.size → listed.getD j true = false) → Inv base M w0 all k st0 E whoF stF (Lof listed) a w → wpAny P .any all Q fuel listed a w := by
  intro m
  induction m with
  | zero =>
    intro fuel l listed a w hl hfu hndl hlk hsz hcl hhd htl hi
    have hl0 : l = [] := List.length_eq_zero_iff.1 hl
    have hall : ∀ j, j < k → Lof listed j = true := fun j hj => by
      cases h : Lof listed j with
      | true => rfl
      | false => have := hhd j hj h; rw [hl0] at this; cases this
    obtain ⟨h1, h2⟩ := inv_end hall hE fin hi
    rw [listed_eq hk hsz hall htl, ← hfu, Nat.zero_add]
    exact hQ a w h1 h2
  | succ m ih =>
    intro fuel l listed a w hl hfu hndl hlk hsz hcl hhd htl hi
    by_cases hall : ∀ j, j < k → Lof listed j = true
    · exfalso
      cases l with
      | nil => simp at hl
      | cons x xs =>
        obtain ⟨q1, q2⟩ := hlk x (List.mem_cons_self ..)
        rw [hall x q1] at q2; cases q2
    · obtain ⟨f, rfl⟩ : ∃ f, fuel = f + 1 := ⟨fuel - 1, by omega⟩
      obtain ⟨i0, hi0, hu0⟩ : ∃ i0, i0 < k ∧ Lof listed i0 = false := by
        refine Classical.byContradiction fun hn => hall fun j hj => ?_
        cases h : Lof listed j with
        | true => rfl
        | false => exact absurd ⟨j, hj, h⟩ hn
      -- the first that is not listed
      obtain ⟨i1, hi1, hu1, hb1⟩ : ∃ i1, i1 < k ∧ Lof listed i1 = false ∧ ∀ j, j < i1 → Lof listed j = true := by
        clear hi hhd htl
        induction i0 using Nat.strongRecOn with
        | _ n ihn =>
          by_cases h : ∀ j, j < n → Lof listed j = true
          · exact ⟨n, hi0, hu0, h⟩
          · obtain ⟨j, hj, hu⟩ : ∃ j, j < n ∧ Lof listed j = false := by
              refine Classical.byContradiction fun hn => h fun j hj => ?_
              cases h' : Lof listed j with
              | true => rfl
              | false => exact absurd ⟨j, hj, h'⟩ hn
            exact ihn j hj (by omega) hu
      have unl : ∀ {j}, j < all.size → Lof listed j = false → listed.getD j true = false := fun {j} hj h => by
        unfold Lof at h
        have : j < listed.size := by omega
        simp [this] at h ⊢; exact h
      have unl' : ∀ {j}, listed.getD j true = false → Lof listed j = false := fun {j} h => by
        unfold Lof
        rcases Nat.lt_or_ge j listed.size with h' | h'
        · simp [h'] at h ⊢; exact h
        · simp [Array.getElem?_eq_none h']
      have nextOf : ∀ i, i < k → i ∈ Region.ready .any all listed → ∀ a' w', Inv base M w0 all k st0 E whoF stF (addL (Lof listed) i) a' w' → wpAny P .any all Q f (listed.setIfInBounds i true) a' w' := by
        intro i hik hr a' w' hi'
        obtain ⟨hun, oi, hoi, haf⟩ := mem_ready.1 hr
        have hilt := (Array.getElem?_eq_some_iff.1 hoi).1
        have hni := unl' hun
        have hil : i ∈ l := hhd i hik hni
        refine ih f (l.erase i) _ a' w' (by rw [List.length_erase_of_mem hil]; omega) (by omega) (hndl.erase _) (fun j hj => ?_) (by simp [hsz]) ?_ (fun j hj hu => ?_) (fun j hj hj' => ?_) ?_
        · have hm := hlk j (List.mem_of_mem_erase hj)
          refine ⟨hm.1, ?_⟩
          rw [lof_set (by omega)]
          unfold addL
          rw [if_neg (fun e => by subst e; exact absurd hj (fun h => (List.Nodup.mem_erase_iff hndl).1 h |>.1 rfl))]
          exact hm.2
        · intro m om hm hl e he hbd
          by_cases hmj : i = m
          · subst hmj
            rw [hm] at hoi; injection hoi with hoi; subst hoi
            exact getD_set_true (haf e he hbd)
          · rw [getD_set_ne false hmj] at hl
            exact getD_set_true (hcl m om hm hl e he hbd)
        · rw [lof_set (by omega)] at hu
          unfold addL at hu
          split at hu
          · cases hu
          · rename_i hne
            exact (List.mem_erase_of_ne hne).2 (hhd j hj hu)
        · rw [getD_set_ne true (by omega)]
          exact htl j hj hj'
        · rw [lof_set (by omega)]; exact hi'
      have stepOf : ∀ i o, i < k → all[i]? = some o → i ∈ Region.ready .any all listed → ∀ (Q' : Exit → Act → World → Prop) (next : Act → World → Prop), (∀ a' w', Inv base M w0 all k st0 E whoF stF (addL (Lof listed) i) a' w' → next a' w') →
          (Region.wanted o (yielded all a.tmps) = false ∧ next (a.put o.dst undef) w) ∨ (Region.wanted o (yielded all a.tmps) = true ∧ o.wp P a w next Q' ∧
            ∀ (hs : silentB o = true), ∃ u, ∀ w', (execOp a.eval o).run P w' = .ok (.value u) w') := by
        intro i o hik hoi hr Q' next hnext
        obtain ⟨hun, oi, hoi', haf⟩ := mem_ready.1 hr
        have hL : ∀ j, (maskOf all i).testBit j = true → Lof listed j = true := mask_listed hcl i (.inr hr)
        obtain ⟨e, o', st, he, ho, s, hrf, s1, hq⟩ := hf i hik
        rw [hoi] at ho; injection ho with ho; subst ho
        obtain ⟨V, v1, v2, h3⟩ := hi.ex
        have hw := wanted_at hch hik hoi hrf s hi.size hL h3
        have hni := unl' hun
        cases hre : e.r with
        | none =>
          rw [hre] at hw
          exact .inl ⟨by rw [hw]; rfl, hnext _ _ (inv_skip hch hik he hoi hre fin hi)⟩
        | some q =>
          rw [hre] at hw
          refine .inr ⟨by rw [hw]; rfl, inv_go hT hΓ hch hik he hoi hre (hob e (List.mem_of_getElem? he) q hre) s1 fin (hq q hre) (fun j => mask_ltL hct i j) hL hni hi (fun u w' hi' => hnext _ _ hi'), fun hs => ?_⟩
          exact silent_all hT hs (hq q hre) (evL_ok (Nat.le_of_lt hik) s1 (fun j => mask_ltL hct i j) hi.size hL v2 h3)
      by_cases hlate : ∃ i, i < k ∧ i ∈ Region.ready .any all listed ∧ lateB all i = true
      · obtain ⟨i, hik, hr, hlb⟩ := hlate
        unfold lateB at hlb
        split at hlb
        · rename_i oi ho
          rw [nth?_eq] at ho
          have hoi : all[i]? = some oi := by simpa using ho
          simp only [Bool.and_eq_true] at hlb
          obtain ⟨⟨s1, s2⟩, s3⟩ := hlb
          have hg := silent_guard s1
          rcases stepOf i oi hik hoi hr (fun _ _ _ => False) (fun a' w' => Inv base M w0 all k st0 E whoF stF (addL (Lof listed) i) a' w') (fun _ _ h => h) with ⟨hw, _⟩ | ⟨hw, hwp, hsil⟩
          · unfold Region.wanted at hw; rw [hg] at hw; cases hw
          · obtain ⟨u, hu⟩ := hsil s1
            have hinv := silent_next (hu w) hwp
            refine wpAny_first hoi (fun j o cs b hj => noSelB_spec s2 j o cs b hj) (fun c a w h => hQp c _ _ w h) f listed a w (fun j oj hj hne hun hno => ?_) hr (v := u) (.inl ⟨hw, hu⟩) (nextOf i hik hr _ _ hinv)
            refine freeLate_spec s3 j oj (by simpa using hj) (by omega) ?_ hno
            rw [Nat.zero_add]
            cases hm : (maskOf all i).testBit j with
            | false => rfl
            | true =>
              have := mask_listed hcl i (.inr hr) j hm
              have h2 := unl' hun
              unfold Lof at h2
              rw [h2] at this; cases this
        · cases hlb
      have ho1 : all[i1]? = some (all[i1]'(by omega)) := Array.getElem?_eq_getElem _
      have hr1 := ready_firstL hct ho1 (unl (by omega) hu1) hb1
      refine ⟨fun h0 => by rw [h0] at hr1; (cases hr1), fun i hr => ?_⟩
      obtain ⟨hun, oi, hoi, haf⟩ := mem_ready.1 hr
      have hik : i < k := by
        rcases (chkTailL_spec hct hoi).1 with h | h
        · exact h
        · rcases Nat.lt_or_ge i k with h' | h'
          · exact h'
          · exfalso
            rcases h i1 (by omega) with h2 | h2
            · have := mask_listed hcl i (.inr hr) i1 h2
              have hu1' := hu1
              unfold Lof at hu1'
              rw [hu1'] at this; cases this
            · exact hlate ⟨i1, hi1, hr1, h2⟩
      unfold wpOp
      simp only [hoi]
      rcases stepOf i oi hik hoi hr Q (wpAny P .any all Q f (listed.setIfInBounds i true)) (fun a' w' h => nextOf i hik hr a' w' h) with ⟨hw, h⟩ | ⟨hw, h, _⟩
      · rw [if_neg (by rw [hw]; simp)]; exact h
      · rw [if_pos hw]; exact .inl h
theorem vcRegion_ok (hm : P.follows .mixedOrders = true) (hT : TabOk P T) (hΓ : GamOk P Γ) (hR : RulesOk P R) {id : Nat} {ops : Array Oper} {draw : Bool} {st : St} {K : St → Prop} {a : Act} {w : World} (hs : Sat base M w0 st a w)
    (h : vcRegion T Γ R ops draw st K) (hK : ∀ st' a' w', K st' → Sat base M w0 st' a' w' → Q .normal a' w') : (Code.region id ops draw).wp P Q a w := by
  unfold vcRegion at h
  split at h
  · rename_i hd
    subst hd
    simp only at h
    split at h
    · rename_i hc
      rw [Bool.and_eq_true] at hc
      obtain ⟨hch, hct⟩ := hc
      have hk : headLen T Γ [] ops.toList ≤ ops.size := by have := headLen_le T Γ ops.toList []; simpa using this
      generalize headLen T Γ [] ops.toList = k at *
      obtain ⟨E, whoF, stF, hcn, hob, hKF⟩ := vcHead_chain _ _ _ _ _ h
      rw [ltake_eq] at hcn
      have hEl : E.length = k := by rw [chain_len _ _ _ _ _ hcn, List.length_take]; simp; omega
      obtain ⟨h1, h2⟩ := chain_facts (E := E) (st0 := st) hch (ops.toList.take k) 0 [] st E (by simp) (by simp) (by simp; omega) hcn (snap_start ops st E)
      refine wp_region_any hm ?_
      have hs' := sat_drawn hs
      obtain ⟨hd0, V, r⟩ := hs'
      refine wpAny_head (E := E) (stF := stF) (whoF := whoF) (st0 := st) (base := base) (M := M) (w0 := w0) hT hΓ hch hct hk hEl hob (fun i hi => h1 i (Nat.zero_le _) hi) h2 (fun a' w' q1 q2 => ?_) k ops.size (List.range k) _ a _ (by simp) (by omega) (by simp) ?_ (fun j hj _ => List.mem_range.2 hj) (fun j _ hj => ?_) ?_
      · have hv := hKF q2
        rw [ldrop_eq] at hv
        have := vcSeq_ok (Q := Q) hT hΓ hR hK (ops.toList.drop k) k rfl stF a' w' q1 hv
        simpa using this
      · intro j oj hj hl
        simp only [Array.getD_eq_getD_getElem?, Array.getElem?_replicate] at hl
        split at hl <;> cases hl
      · simp [hj]
      · have hLF : Lof (Array.replicate ops.size false) = fun _ => false := by
          funext j
          unfold Lof
          simp only [Array.getD_eq_getD_getElem?, Array.getElem?_replicate]
          split <;> rfl
        rw [hLF]
        have hhp : hpS st whoF stF (fun _ => false) = st.ent := by
          funext n
          unfold hpS
          split
          · rfl
          · rename_i hn
            have : st.ent n = .dead := by
              show nth .dead st.hp n = _
              rw [nth_eq, List.getElem?_eq_none (by rw [← llen_eq]; omega)]
              rfl
            rw [this]
            split <;> rfl
        refine ⟨hd0, r.len, ⟨V, by rw [hhp]; exact r.mem, fun t s v _ hs hv => by rw [hhp]; exact r.slots t s v hs hv, fun j o d v _ hL => by cases hL⟩, fun j e q _ hL => by cases hL⟩
    split at h
    · rename_i hc
      rw [Bool.and_eq_true] at hc
      obtain ⟨hch, hct⟩ := hc
      have hk : headLen T Γ [] ops.toList ≤ ops.size := by have := headLen_le T Γ ops.toList []; simpa using this
      generalize headLen T Γ [] ops.toList = k at *
      obtain ⟨E, whoF, stF, hcn, hob, hKF⟩ := vcHead_chain _ _ _ _ _ h
      rw [ltake_eq] at hcn
      have hEl : E.length = k := by rw [chain_len _ _ _ _ _ hcn, List.length_take]; simp; omega
      obtain ⟨h1, h2⟩ := chain_facts (E := E) (st0 := st) hch (ops.toList.take k) 0 [] st E (by simp) (by simp) (by simp; omega) hcn (snap_start ops st E)
      refine wp_mono (Q := fun e a w => match e with | .panic _ => False | e => Q e a w) ?_ (fun e a w h => by cases e <;> first | exact h | exact h.elim)
      refine wp_region_any hm ?_
      have hs' := sat_drawn hs
      obtain ⟨hd0, V, r⟩ := hs'
      refine wpAny_headL (E := E) (stF := stF) (whoF := whoF) (st0 := st) (base := base) (M := M) (w0 := w0) hT hΓ hch hct (fun c a b w h => h.elim) hk hEl hob (fun i hi => h1 i (Nat.zero_le _) hi) h2 (fun a' w' q1 q2 => ?_) k ops.size (List.range k) _ a _ (by simp) (by omega) List.nodup_range (fun j hj => ⟨List.mem_range.1 hj, ?_⟩) (by simp) ?_ (fun j hj _ => List.mem_range.2 hj) (fun j _ hj => ?_) ?_
      · have hv := hKF q2
        rw [ldrop_eq, llen_eq, lrep_eq, lrep_eq, lapp_eq] at hv
        have hln : (ops.toList.drop k).length = ops.size - k := by simp
        rw [hln] at hv
        exact vcAny_ok (Q := fun e a w => match e with | .panic _ => False | e => Q e a w) hT hΓ hR (fun st' a' w' k hs' => hK st' a' w' k hs') (fun c a b w h => h.elim) _ _ stF a' w' q1 hv
      · unfold Lof
        simp only [Array.getD_eq_getD_getElem?, Array.getElem?_replicate]
        split <;> rfl
      · intro j oj hj hl
        simp only [Array.getD_eq_getD_getElem?, Array.getElem?_replicate] at hl
        split at hl <;> cases hl
      · simp [hj]
      · have hLF : Lof (Array.replicate ops.size false) = fun _ => false := by
          funext j
          unfold Lof
          simp only [Array.getD_eq_getD_getElem?, Array.getElem?_replicate]
          split <;> rfl
        rw [hLF]
        have hhp : hpS st whoF stF (fun _ => false) = st.ent := by
          funext n
          unfold hpS
          split
          · rfl
          · rename_i hn
            have : st.ent n = .dead := by
              show nth .dead st.hp n = _
              rw [nth_eq, List.getElem?_eq_none (by rw [← llen_eq]; omega)]
              rfl
            rw [this]
            split <;> rfl
        refine ⟨hd0, r.len, ⟨V, by rw [hhp]; exact r.mem, fun t s v _ hs hv => by rw [hhp]; exact r.slots t s v hs hv, fun j o d v _ hL => by cases hL⟩, fun j e q _ hL => by cases hL⟩
    · refine wp_mono (Q := fun e a w => match e with | .panic _ => False | e => Q e a w) ?_ (fun e a w h => by cases e <;> first | exact h | exact h.elim)
      refine wp_region_any hm ?_
      rw [llen_eq, lrep_eq] at h
      have hl : (List.replicate ops.toList.length false).toArray = Array.replicate ops.size false := by simp
      have := vcAny_ok (Q := fun e a w => match e with | .panic _ => False | e => Q e a w) hT hΓ hR (fun st' a' w' k hs' => hK st' a' w' k hs') (fun c a b w h => h.elim) ops.toList.length _ st a _ (sat_drawn hs) h
      rw [hl] at this
      simpa using this
  · rename_i hd
    have hd' : draw = false := by simpa using hd
    subst hd'
    refine wp_region ?_
    have := vcSeq_ok (Q := Q) hT hΓ hR hK ops.toList 0 rfl st a w hs h
    rw [List.range_eq_range']
    simpa using this
end
end Go.SX
/- States that a loop meets again. No condition. -/
namespace Go.SX
open Go.RowKit
set_option linter.unusedVariables false
set_option linter.unusedSimpArgs false
theorem toP_oand {p q : Option Prop} : toP (oand p q) ↔ toP p ∧ toP q := by
  cases p <;> cases q <;> simp [oand, toP]
theorem toP_owe {b : Bool} : toP (owe b) ↔ b = true := by
  cases b <;> simp [owe, toP]
def srcOf (ren : List Src) (m : Nat) : Src := match ren[m]? with | some s => s | none => .no
def Vl.ren (V : Vl) (ren : List Src) : Vl where
  blk m := match srcOf ren m with | .nm n => V.blk n | _ => 0
  has m := match srcOf ren m with | .nm n => V.has n | _ => False
  Z0 := V.Z0
  Z1 := V.Z1
theorem ren_blk {V : Vl} {ren : List Src} {m n : Nat} (h : srcOf ren m = .nm n) : (V.ren ren).blk m = V.blk n := by unfold Vl.ren; simp only [h]
theorem ren_has {V : Vl} {ren : List Src} {m n : Nat} (h : srcOf ren m = .nm n) : (V.ren ren).has m ↔ V.has n := by unfold Vl.ren; simp only [h]
theorem ren_not {V : Vl} {ren : List Src} {m : Nat} (h : srcOf ren m = .nil) : ¬ (V.ren ren).has m := by unfold Vl.ren; simp only [h]; exact id
def Conv {e' e : Ty} (ys : List e'.den) (xs : List e.den) : Prop :=
  e'.size = e.size ∧ ys.length = xs.length ∧ (∀ (Z : Nat → Prop) (w : World) (es : List Value) (i : Nat) (h1 : i < ys.length) (h2 : i < xs.length), RdC Z w e' es ys[i] → RdC Z w e es xs[i]) ∧
    ∀ i ∈ (Ent.row false e xs).lids, i ∈ (Ent.row false e' ys).lids
theorem Conv.refl {e : Ty} (xs : List e.den) : Conv xs xs := ⟨rfl, rfl, fun _ _ _ _ _ _ h => h, fun _ h => h⟩
theorem ids_tell0 : ∀ (t : Ty) (d : t.unG.den), ids t (tell0 t d) = []
  | .gs _ _, _ => rfl
  | .sl _, _ => rfl
  | .st t, d => ids_tell0 t d
  | .pr a b, d => by show ids a (tell0 a d.1) ++ ids b (tell0 b d.2) = []; rw [ids_tell0 a, ids_tell0 b]; rfl
  | .int _, _ => rfl
  | .bool, _ => rfl
  | .str, _ => rfl
  | .ptr _, _ => rfl
  | .clo _ _, _ => rfl
theorem Conv.tell0 {e : Ty} {ys : List e.unG.den} (hn : ∀ y ∈ ys, nilD e y) : Conv ys (ys.map (SX.tell0 e)) := by
  refine ⟨unG_size e, by simp, fun Z w es i h1 h2 h => ?_, fun i hi => ?_⟩
  · rw [List.getElem_map]
    exact RdC.tell0 e h (hn _ (List.getElem_mem h1))
  · exfalso
    have hi' : i ∈ (if e.hasG then idsL e (ys.map (SX.tell0 e)) else []) := hi
    split at hi'
    · unfold idsL at hi'
      obtain ⟨x, hx, hix⟩ := List.mem_flatMap.1 hi'
      obtain ⟨y, _, rfl⟩ := List.mem_map.1 hx
      rw [ids_tell0] at hix
      cases hix
    · cases hi'
theorem hasRow_ren {V : Vl} {w : World} {ren : List Src} {m n h : Nat} {e' e : Ty} {v : Value} (hs : srcOf ren m = .nm n) (hsz : e'.size = e.size) (k : hasRow V w n e' h v) : hasRow (V.ren ren) w m e h v := by
  rcases k with ⟨a1, a2⟩ | ⟨a1, cap, vals, el, b1, b2, b3, b4⟩
  · exact .inl ⟨fun h => a1 ((ren_has hs).1 h), a2⟩
  · exact .inr ⟨(ren_has hs).2 a1, cap, vals, el, by rw [ren_blk hs]; exact b1, by rw [ren_blk hs]; exact b2, by rw [← hsz]; exact b3, b4⟩
def EntRel (es : Nat → Ent) (r : Src) (t : Ent) (ren : List Src) : Prop :=
  match t with
  | .dead => True
  | .bx cs => ∃ n cs', r = .nm n ∧ es n = .bx cs' ∧ toP (mCs ren cs' cs)
  | .row fr e xs => (∃ n fr', ∃ (e' : Ty) (ys : List e'.den), r = .nm n ∧ es n = .row fr' e' ys ∧ (fr = true → fr' = true) ∧ (fr = false → (e'.flat || e'.hasG) = (e.flat || e.hasG)) ∧ Conv ys xs) ∨ (r = .nil ∧ xs = [])
theorem mE_ok {ren : List Src} {es : Nat → Ent} {r : Src} {t : Ent} (h : toP (mE ren es r t)) : EntRel es r t ren ∧ (t = .dead → r = .no) := by
  unfold mE at h
  cases t with
  | dead =>
    refine ⟨trivial, fun _ => ?_⟩
    cases r <;> first | rfl | exact h.elim
  | bx cs =>
    refine ⟨?_, fun h => by cases h⟩
    cases r with
    | nm n =>
      simp only at h
      split at h
      · rename_i cs' hcs
        exact ⟨n, cs', rfl, hcs, h⟩
      · exact h.elim
    | nil => exact h.elim
    | no => exact h.elim
  | row fr e xs =>
    refine ⟨?_, fun h => by cases h⟩
    cases r with
    | nm n =>
      simp only at h
      split at h
      · rename_i fr' e' ys hes
        split at h
        · rename_i he
          subst he
          split at h
          · exact h.elim
          · rename_i hfr
            have : ys = xs := h
            subst this
            refine .inl ⟨n, fr', _, _, rfl, hes, fun hf => ?_, fun _ => rfl, Conv.refl _⟩
            subst hf
            cases fr' <;> simp_all
        · split at h
          · rename_i he
            subst he
            split at h
            · rename_i hfr
              rw [Bool.and_eq_true] at hfr
              obtain ⟨h1, h2⟩ := h
              have h1 : ∀ y ∈ ys, nilD e y := h1
              have h2 : xs = ys.map (tell0 e) := h2
              subst h2
              exact .inl ⟨n, fr', _, ys, rfl, hes, fun _ => hfr.2, fun hf => by rw [hf] at hfr; exact absurd hfr.1 (by simp), Conv.tell0 h1⟩
            · exact h.elim
          · exact h.elim
      · exact h.elim
    | nil => exact .inr ⟨rfl, h⟩
    | no => exact h.elim
theorem mEs_ok {ren : List Src} {es : Nat → Ent} : ∀ {rs : List Src} {ts : List Ent}, toP (mEs ren es rs ts) → rs.length = ts.length ∧ ∀ (m : Nat) r t, rs[m]? = some r → ts[m]? = some t → toP (mE ren es r t)
  | [], [], _ => ⟨rfl, fun m r t h => by cases h⟩
  | [], _ :: _, h => h.elim
  | _ :: _, [], h => h.elim
  | r :: rs, t :: ts, h => by
    obtain ⟨h1, h2⟩ := toP_oand.1 h
    obtain ⟨h3, h4⟩ := mEs_ok h2
    refine ⟨by simp [h3], fun m r' t' hr ht => ?_⟩
    cases m with
    | zero => simp at hr ht; subst hr; subst ht; exact h1
    | succ m => exact h4 m r' t' (by simpa using hr) (by simpa using ht)
theorem lentOk_get {es : Nat → Ent} : ∀ {k : Nat} {rs : List Src} {ts : List Ent}, lentOk es k rs ts = true → ∀ {j n : Nat} {e : Ty} {xs : List e.den}, rs[j]? = some (.nm n) → ts[j]? = some (.row false e xs) →
    (e.flat || e.hasG) = true → n = k + j ∧ ∃ e' xs', es n = .row false e' xs'
  | k, [], _, _, j, n, e, xs, h, _ => by cases h
  | k, _ :: _, [], _, j, n, e, xs, _, h => by cases h
  | k, r :: rs, t :: ts, h, j, n, e, xs, h1, h2 => by
    intro hfl
    unfold lentOk at h
    rw [Bool.and_eq_true] at h
    obtain ⟨g1, g2⟩ := h
    cases j with
    | zero =>
      simp only [List.getElem?_cons_zero, Option.some.injEq] at h1 h2
      subst h1; subst h2
      simp only [hfl, Bool.not_true, Bool.false_or, Bool.and_eq_true, beq_iff_eq] at g1
      obtain ⟨g3, g4⟩ := g1
      refine ⟨g3, ?_⟩
      split at g4
      · rename_i fr e' xs' he
        cases fr with
        | false => exact ⟨e', xs', he⟩
        | true => cases g4
      · cases g4
    | succ j =>
      obtain ⟨a1, a2⟩ := lentOk_get g2 (j := j) (by simpa using h1) (by simpa using h2) hfl
      exact ⟨by omega, a2⟩
theorem keep0_ok {e : Ent} {ren : List Src} {ts : List Ent} (h : keep0 e ren ts = true) (he : e.isBx = true) : ∃ r cs l, ren = .nm 0 :: r ∧ ts = .bx cs :: l := by
  cases e with
  | bx cs =>
    unfold keep0 at h
    split at h
    · exact ⟨_, _, _, rfl, rfl⟩
    · cases h
    · rename_i h1 h2
      first
        | exact absurd rfl (h2 cs)
        | exact (h2 cs rfl).elim
        | (exfalso; simp_all)
  | dead => cases he
  | row fr e xs => cases he
theorem nodupSrc_ok : ∀ {ren : List Src}, nodupSrc ren = true → ∀ {m m' n : Nat}, ren[m]? = some (.nm n) → ren[m']? = some (.nm n) → m = m'
  | [], _, m, m', n, h, _ => by cases h
  | r :: rs, h, m, m', n, h1, h2 => by
    have hrest : nodupSrc rs = true := by
      cases r with
      | nm k => simp only [nodupSrc, Bool.and_eq_true] at h; exact h.2
      | nil => exact h
      | no => exact h
    have hnot : ∀ {j : Nat}, r = .nm n → rs[j]? = some (.nm n) → False := by
      intro j hr hj
      subst hr
      simp only [nodupSrc, Bool.and_eq_true, lany_eq, Bool.not_eq_true', List.any_eq_false] at h
      have := h.1 (.nm n) (List.mem_of_getElem? hj)
      simp at this
    cases m with
    | zero =>
      cases m' with
      | zero => rfl
      | succ m' =>
        simp only [List.getElem?_cons_zero, Option.some.injEq] at h1
        exact (hnot (j := m') h1 (by simpa using h2)).elim
    | succ m =>
      cases m' with
      | zero =>
        simp only [List.getElem?_cons_zero, Option.some.injEq] at h2
        exact (hnot (j := m) h2 (by simpa using h1)).elim
      | succ m' =>
        rw [nodupSrc_ok hrest (m := m) (m' := m') (by simpa using h1) (by simpa using h2)]
section
variable {V : Vl} {hp : Nat → Ent} {w : World}
theorem C.ok_one : ∀ {c : C} {v : Value}, C.ok V hp w c v → v.oneCell' = true := by
  intro c v h
  cases c with
  | val u =>
    rw [h.1]
    have := h.2
    cases u <;> first | rfl | exact this.elim
  | tru => rw [show v = _ from h]; rfl
  | fls => rw [show v = _ from h]; rfl
  | rd fr e xs => exact RdC.oneCell h v (List.mem_singleton.2 rfl)
  | own n =>
    obtain ⟨fr, e, xs, _, h2⟩ := h
    rcases h2 with ⟨_, h2, _⟩ | ⟨_, cap, vals, el, h2, _⟩ <;> rw [h2] <;> rfl
  | pre n k =>
    obtain ⟨fr, e, xs, _, _, h2⟩ := h
    rcases h2 with ⟨_, h2, _⟩ | ⟨_, cap, vals, el, h2, _⟩ <;> rw [h2] <;> rfl
  | brw n e xs => exact RdC.oneCell h.2 v (List.mem_singleton.2 rfl)
  | box n off => rw [h.1]; rfl
  | at_ fr t d off => obtain ⟨b, o, h1, _⟩ := h; rw [h1]; rfl
  | elt n i off => obtain ⟨_, fr, e, xs, _, _, h3⟩ := h; rw [h3]; rfl
  | fn f caps => rw [h.1]; rfl
  | clo fr f t d => exact RdC.oneCell (t := .clo f t) h v (List.mem_singleton.2 rfl)
  | rg fr wh e b xs => exact RdC.oneCell (t := .gs wh e) h v (List.mem_singleton.2 rfl)
  | any => exact h
variable {hp' : Nat → Ent} {ren : List Src}
theorem mC_ok (hE : ∀ m, EntRel hp (srcOf ren m) (hp' m) ren ∧ (hp' m = .dead → srcOf ren m = .no)) {x y : C} {v : Value} (h : toP (mC ren x y)) (ho : C.ok V hp w x v) : C.ok (V.ren ren) hp' w y v := by
  have own_ok : ∀ {n m : Nat}, srcOf ren m = .nm n → C.ok V hp w (.own n) v → C.ok (V.ren ren) hp' w (.own m) v := by
    intro n m hs ho
    obtain ⟨fr, e, xs, h1, h2⟩ := ho
    obtain ⟨k1, k2⟩ := hE m
    cases ht : hp' m with
    | dead => rw [k2 ht] at hs; cases hs
    | bx cs =>
      rw [ht] at k1
      obtain ⟨n', cs', e1, e2, _⟩ := k1
      rw [hs] at e1; injection e1 with e1; subst e1
      rw [h1] at e2; cases e2
    | row fr' e' ys =>
      rw [ht] at k1
      rcases k1 with ⟨n', fr2, e2', ys2, e1, e2, _, _, c1, c2, _⟩ | ⟨e1, _⟩
      · rw [hs] at e1; injection e1 with e1; subst e1
        rw [h1] at e2; injection e2 with q1 q2 q3
        subst q1; subst q2; cases q3
        refine ⟨fr', e', ys, ht, ?_⟩
        rw [← c2]
        exact hasRow_ren hs c1 h2
      · rw [hs] at e1; cases e1
  unfold mC at h
  split at h
  · exact C.ok_one ho
  · split at h
    · rename_i hk
      subst hk
      rw [show _ = _ from h] at ho
      exact ho
    · exact h.elim
  · rw [show _ = _ from h] at ho; exact ho
  · rw [show _ = _ from h]; exact ⟨ho, trivial⟩
  · rw [show _ = _ from h]; exact ⟨ho, trivial⟩
  · exact ho
  · exact ho
  · rw [show _ = _ from h] at ho; exact ho
  · rename_i fr e xs fr' e' ys
    split at h
    · rename_i he
      subst he
      split at h
      · exact h.elim
      · rename_i hfr
        have : xs = ys := h
        subst this
        exact RdC.mono (t := .sl e) (fun b hb => by
          cases fr' with
          | false => exact Vl.Z_all (V := V) hb
          | true => have : fr = true := by cases fr <;> simp_all
                    subst this; exact hb) (fun _ _ => rfl) ho
    · exact h.elim
  · rename_i fr e ys
    have : ys = [] := h
    subst this
    rw [ho.1]
    exact RdC.zero (.sl e) rfl
  · rename_i n m
    rw [nth?_eq] at h
    split at h
    · rename_i n' hr
      have hn : n' = n := by simpa using toP_owe.1 h
      subst hn
      exact own_ok (by unfold srcOf; rw [hr]) ho
    · exact h.elim
  · rename_i m
    rw [nth?_eq] at h
    split at h
    · rename_i hr
      have hs : srcOf ren m = .nil := by unfold srcOf; rw [hr]
      obtain ⟨k1, k2⟩ := hE m
      cases ht : hp' m with
      | dead => rw [k2 ht] at hs; cases hs
      | bx cs => rw [ht] at k1; obtain ⟨n', cs', e1, _⟩ := k1; rw [hs] at e1; cases e1
      | row fr' e' ys =>
        rw [ht] at k1
        rcases k1 with ⟨n', fr2, _, _, e1, _⟩ | ⟨_, e2⟩
        · rw [hs] at e1; cases e1
        · subst e2
          exact ⟨fr', e', [], ht, .inl ⟨ren_not hs, ho.1, rfl⟩⟩
    · exact h.elim
  · rename_i n k m k'
    rw [nth?_eq] at h
    split at h
    · rename_i n' hr
      obtain ⟨hn, hk⟩ := toP_oand.1 h
      have hn : n' = n := by simpa using toP_owe.1 hn
      have hk : k = k' := hk
      subst hn; subst hk
      have hs : srcOf ren m = .nm n' := by unfold srcOf; rw [hr]
      obtain ⟨fr, e, xs, h1, h2, h3⟩ := ho
      obtain ⟨k1, k2⟩ := hE m
      cases ht : hp' m with
      | dead => rw [k2 ht] at hs; cases hs
      | bx cs =>
        rw [ht] at k1
        obtain ⟨n2, cs', e1, e2, _⟩ := k1
        rw [hs] at e1; injection e1 with e1; subst e1
        rw [h1] at e2; cases e2
      | row fr' e' ys =>
        rw [ht] at k1
        rcases k1 with ⟨n2, fr2, e2', ys2, e1, e2, _, _, c1, c2, _⟩ | ⟨e1, _⟩
        · rw [hs] at e1; injection e1 with e1; subst e1
          rw [h1] at e2; injection e2 with q1 q2 q3
          subst q1; subst q2; cases q3
          exact ⟨fr', e', ys, ht, by rw [← c2]; exact h2, hasRow_ren hs c1 h3⟩
        · rw [hs] at e1; cases e1
    · exact h.elim
  · rename_i n o m o'
    rw [nth?_eq] at h
    split at h
    · rename_i n' hr
      have hh := toP_owe.1 h
      simp only [Bool.and_eq_true, beq_iff_eq] at hh
      obtain ⟨rfl, rfl⟩ := hh
      have hs : srcOf ren m = .nm n' := by unfold srcOf; rw [hr]
      obtain ⟨h1, h2, cs, h3⟩ := ho
      obtain ⟨k1, k2⟩ := hE m
      cases ht : hp' m with
      | dead => rw [k2 ht] at hs; cases hs
      | bx cs' => exact ⟨by rw [ren_blk hs]; exact h1, (ren_has hs).2 h2, cs', ht⟩
      | row fr' e' ys =>
        rw [ht] at k1
        rcases k1 with ⟨n', fr2, _, _, e1, e2, _⟩ | ⟨e1, _⟩
        · rw [hs] at e1; injection e1 with e1; subst e1
          rw [h3] at e2; cases e2
        · rw [hs] at e1; cases e1
    · exact h.elim
  · rename_i fr wh e b xs fr' wh' e' b' ys
    split at h
    · rename_i he
      subst he
      split at h
      · exact h.elim
      · rename_i hfr
        obtain ⟨h1, h2⟩ : b = b' ∧ xs = ys := h
        subst h1; subst h2
        have ho' : RdC (V.Z fr) w (.gs wh e) [v] (b, xs) := ho
        refine gs_wh (wh' := wh) (fun hw => by cases wh <;> simp_all) ?_
        exact ho'.mono (fun b hb => by
          cases fr' with
          | false => exact Vl.Z_all (V := V) hb
          | true => have : fr = true := by cases fr <;> simp_all
                    subst this; exact hb) (fun _ _ => rfl)
    · exact h.elim
  · rename_i fr wh e b ys
    have : ys = [] := h
    subst this
    rw [ho.1]
    exact ⟨⟨none, 0, rfl, Nat.le_refl _, Nat.zero_le _, fun i hi => absurd hi (Nat.not_lt_zero _)⟩, fun hp => absurd hp (Nat.lt_irrefl _), fun _ hp => absurd hp (Nat.lt_irrefl _)⟩
  · rename_i fr wh e b xs fr' e' ys
    split at h
    · rename_i he
      subst he
      split at h
      · exact h.elim
      · rename_i hfr
        have : xs = ys := h
        subst this
        have ho' : RdC (V.Z fr) w (.gs wh e) [v] (b, xs) := ho
        exact RdC.mono (t := .sl e) (fun b hb => by
          cases fr' with
          | false => exact Vl.Z_all (V := V) hb
          | true => have : fr = true := by cases fr <;> simp_all
                    subst this; exact hb) (fun _ _ => rfl) (gs_sl ho')
    · exact h.elim
  · rename_i fr t d o fr' t' d' o'
    split at h
    · rename_i he
      subst he
      split at h
      · exact h.elim
      · rename_i hfr
        obtain ⟨h1, h2⟩ := toP_oand.1 h
        have e1 : o = o' := by simpa using toP_owe.1 h1
        have e2 : d = d' := h2
        subst e1; subst e2
        have hz : ∀ b, V.Z fr b → (V.ren ren).Z fr' b := fun b hb => by
          cases fr' with
          | false => exact Vl.Z_all (V := V) hb
          | true => have : fr = true := by cases fr <;> simp_all
                    subst this; exact hb
        obtain ⟨b, o2, k1, k2, es, k3, k4, k5⟩ := ho
        exact ⟨b, o2, k1, hz b k2, es, k3, k4, k5.mono hz (fun _ _ => rfl)⟩
    · exact h.elim
  · rename_i fr f t d fr' f' t' d'
    split at h
    · rename_i he
      subst he
      split at h
      · exact h.elim
      · rename_i hfr
        obtain ⟨h1, h2⟩ := toP_oand.1 h
        have e1 : f = f' := by simpa using toP_owe.1 h1
        have e2 : d = d' := h2
        subst e1; subst e2
        have hz : ∀ b, V.Z fr b → (V.ren ren).Z fr' b := fun b hb => by
          cases fr' with
          | false => exact Vl.Z_all (V := V) hb
          | true => have : fr = true := by cases fr <;> simp_all
                    subst this; exact hb
        have h' : RdC (V.Z fr) w (.clo f t) [v] d := ho
        exact h'.mono hz (fun _ _ => rfl)
    · exact h.elim
  · rename_i n i o m i' o'
    rw [nth?_eq] at h
    split at h
    · rename_i n' hr
      obtain ⟨h1, h2⟩ := toP_oand.1 h
      have hh := toP_owe.1 h1
      simp only [Bool.and_eq_true, beq_iff_eq] at hh
      obtain ⟨rfl, rfl⟩ := hh
      have hi : i = i' := h2
      subst hi
      have hs : srcOf ren m = .nm n' := by unfold srcOf; rw [hr]
      obtain ⟨a1, fr, e, xs, a2, a3, a4⟩ := ho
      obtain ⟨k1, k2⟩ := hE m
      cases ht : hp' m with
      | dead => rw [k2 ht] at hs; cases hs
      | bx cs' =>
        rw [ht] at k1
        obtain ⟨n', cs', e1, e2, _⟩ := k1
        rw [hs] at e1; injection e1 with e1; subst e1
        rw [a2] at e2; cases e2
      | row fr' e' ys =>
        rw [ht] at k1
        rcases k1 with ⟨n', fr2, e2', ys2, e1, e2, _, _, c1, c2, _⟩ | ⟨e1, _⟩
        · rw [hs] at e1; injection e1 with e1; subst e1
          rw [a2] at e2; injection e2 with q1 q2 q3
          subst q1; subst q2; cases q3
          exact ⟨(ren_has hs).2 a1, fr', e', ys, ht, by rw [← c2]; exact a3, by rw [ren_blk hs, ← c1]; exact a4⟩
        · rw [hs] at e1; cases e1
    · exact h.elim
  · exact h.elim
theorem mCs_ok (hE : ∀ m, EntRel hp (srcOf ren m) (hp' m) ren ∧ (hp' m = .dead → srcOf ren m = .no)) : ∀ {xs ys : List C} {vs : List Value}, toP (mCs ren xs ys) → okAll V hp w xs vs → okAll (V.ren ren) hp' w ys vs
  | [], [], vs, _, ho => ⟨ho.1, fun j c v h => by cases h⟩
  | [], _ :: _, vs, h, _ => h.elim
  | _ :: _, [], vs, h, _ => h.elim
  | x :: xs, y :: ys, vs, h, ho => by
    obtain ⟨h1, h2⟩ := toP_oand.1 h
    cases vs with
    | nil => have := ho.1; cases this
    | cons v vs =>
      have h3 := mCs_ok (vs := vs) hE h2 ⟨by simpa using ho.1, fun j c u hc hu => ho.2 (j + 1) c u (by simpa using hc) (by simpa using hu)⟩
      refine ⟨by simpa using h3.1, fun j c u hc hu => ?_⟩
      cases j with
      | zero =>
        simp only [List.getElem?_cons_zero, Option.some.injEq] at hc hu
        subst hc; subst hu
        exact mC_ok hE h1 (ho.2 0 x v rfl rfl)
      | succ j => exact h3.2 j c u (by simpa using hc) (by simpa using hu)
theorem mS_ok (hE : ∀ m, EntRel hp (srcOf ren m) (hp' m) ren ∧ (hp' m = .dead → srcOf ren m = .no)) {x y : S} {v : Value} (h : toP (mS ren x y)) (ho : S.ok V hp w x v) : S.ok (V.ren ren) hp' w y v := by
  unfold mS at h
  split at h
  · trivial
  · exact mC_ok hE h ho
  · obtain ⟨vs, h1, h2⟩ := ho
    exact ⟨vs, h1, mCs_ok hE h h2⟩
  · exact ho
  · exact h.elim
theorem mSs_ok (hE : ∀ m, EntRel hp (srcOf ren m) (hp' m) ren ∧ (hp' m = .dead → srcOf ren m = .no)) : ∀ {xs ys : List S}, toP (mSs ren xs ys) → xs.length = ys.length ∧ ∀ (j : Nat) x y, xs[j]? = some x → ys[j]? = some y → toP (mS ren x y)
  | [], [], _ => ⟨rfl, fun j x y h => by cases h⟩
  | [], _ :: _, h => h.elim
  | _ :: _, [], h => h.elim
  | x :: xs, y :: ys, h => by
    obtain ⟨h1, h2⟩ := toP_oand.1 h
    obtain ⟨h3, h4⟩ := mSs_ok hE h2
    refine ⟨by simp [h3], fun j x' y' hx hy => ?_⟩
    cases j with
    | zero => simp at hx hy; subst hx; subst hy; exact h1
    | succ j => exact h4 j x' y' (by simpa using hx) (by simpa using hy)
end
theorem match_ok {base : Nat} {M : LM} {w0 w : World} {s t : St} {a : Act} {ren : List Src} (h : Match ren s t) (hs : Sat base M w0 s a w) : Sat base M w0 t a w := by
  obtain ⟨hd, V, r⟩ := hs
  obtain ⟨h1, h2⟩ := toP_oand.1 h
  obtain ⟨h2, h3⟩ := toP_oand.1 h2
  have hnd := toP_owe.1 h1
  rw [Bool.and_eq_true, Bool.and_eq_true] at hnd
  obtain ⟨⟨hnd, hlo⟩, hk0⟩ := hnd
  obtain ⟨e1, e2⟩ := mEs_ok h3
  have hE : ∀ m, EntRel s.ent (srcOf ren m) (t.ent m) ren ∧ (t.ent m = .dead → srcOf ren m = .no) := by
    intro m
    cases hr : ren[m]? with
    | none =>
      have hge := List.getElem?_eq_none_iff.1 hr
      have : t.ent m = .dead := by
        show nth .dead t.hp m = _
        rw [nth_eq, List.getElem?_eq_none (by omega)]
        rfl
      rw [this]
      exact ⟨trivial, fun _ => by unfold srcOf; rw [hr]⟩
    | some sr =>
      have hlt := (List.getElem?_eq_some_iff.1 hr).1
      have ht : t.hp[m]? = some (t.hp[m]'(by omega)) := List.getElem?_eq_getElem _
      have hte : t.ent m = t.hp[m]'(by omega) := by
        show nth .dead t.hp m = _
        rw [nth_eq, ht]; rfl
      have hso : srcOf ren m = sr := by unfold srcOf; rw [hr]
      rw [hte, hso]
      exact mE_ok (e2 m sr _ hr ht)
  obtain ⟨f1, f2⟩ := mSs_ok hE h2
  have nm : ∀ m, (t.ent m).live = true → (V.ren ren).has m → ∃ n, srcOf ren m = .nm n ∧ ren[m]? = some (.nm n) ∧ (s.ent n).live = true ∧ V.has n ∧ (V.ren ren).blk m = V.blk n := by
    intro m hl hh
    cases hso : srcOf ren m with
    | no => unfold Vl.ren at hh; simp only [hso] at hh
    | nil => exact absurd hh (ren_not hso)
    | nm n =>
      refine ⟨n, rfl, ?_, ?_, (ren_has hso).1 hh, ren_blk hso⟩
      · unfold srcOf at hso
        split at hso
        · rename_i hh'; rw [hh', hso]
        · cases hso
      · have := (hE m).1
        cases hte : t.ent m with
        | dead => rw [hte] at hl; cases hl
        | bx cs => rw [hte] at this; obtain ⟨n', cs', k1, k2, _⟩ := this; rw [hso] at k1; injection k1 with k1; subst k1; rw [k2]; rfl
        | row fr e xs =>
          rw [hte] at this
          rcases this with ⟨n', fr', _, _, k1, k2, _⟩ | ⟨k1, _⟩
          · rw [hso] at k1; injection k1 with k1; subst k1; rw [k2]; rfl
          · rw [hso] at k1; cases k1
  have m := r.mem
  refine ⟨hd, V.ren ren, ⟨by rw [← f1]; exact r.len, fun i y v hy hv => ?_, ?_⟩⟩
  · have hlt := (List.getElem?_eq_some_iff.1 hy).1
    have hx : s.ts[i]? = some (s.ts[i]'(by omega)) := List.getElem?_eq_getElem _
    exact mS_ok hE (f2 i _ y hx hy) (r.slots i _ v hx hv)
  · refine ⟨fun k => ?_, fun k cs hk => ?_, fun k hl hh => ?_, fun k e xs hk hh => ?_, fun k k' hl hl' hh hh' hb => ?_, m.z0, m.z1, m.kept, fun k hl hh => ?_, fun b hb => ?_, fun k hh i hi => ?_⟩
    · have := (hE k).1
      cases hte : t.ent k with
      | dead => trivial
      | bx cs =>
        rw [hte] at this
        obtain ⟨n, cs', k1, k2, k3⟩ := this
        have h0 := m.ents n
        rw [k2] at h0
        obtain ⟨vals, el, a1, a2⟩ := h0
        exact ⟨vals, el, by rw [ren_blk k1]; exact a1, mCs_ok hE k3 a2⟩
      | row fr e xs =>
        rw [hte] at this
        rcases this with ⟨n, fr', e', ys, k1, k2, k3, _, c1, c2, c3, c4⟩ | ⟨k1, k2⟩
        · have h0 := m.ents n
          rw [k2] at h0
          rcases h0 with ⟨a1, a2⟩ | ⟨a1, vals, el, a2, a3, a4⟩
          · exact .inl ⟨fun hh => a1 ((ren_has k1).1 hh), by subst a2; exact List.length_eq_zero_iff.1 c2.symm⟩
          · refine .inr ⟨(ren_has k1).2 a1, vals, el, by rw [ren_blk k1]; exact a2, by rw [← c2]; exact a3, fun i hi => ?_⟩
            obtain ⟨es, b1, b2, b3⟩ := a4 i (by rw [c2]; exact hi)
            refine ⟨es, by rw [← c1]; exact b1, by rw [← c1]; exact b2, c3 _ _ _ i (by rw [c2]; exact hi) hi (b3.mono (fun b hb => ?_) (fun _ _ => rfl))⟩
            cases fr with
            | false => exact Vl.Z_all (V := V) hb
            | true => rw [k3 rfl] at hb; exact hb
        · exact .inl ⟨ren_not k1, k2⟩
    · have := (hE k).1
      rw [hk] at this
      obtain ⟨n, cs', k1, k2, _⟩ := this
      exact (ren_has k1).2 (m.box n cs' k2)
    · obtain ⟨n, _, _, k1, k2, k3⟩ := nm k hl hh
      rw [k3]
      exact m.own n k1 k2
    · obtain ⟨n, k0, _, _, k2, k3⟩ := nm k (by rw [hk]; rfl) hh
      rw [k3]
      have := (hE k).1
      rw [hk] at this
      rcases this with ⟨n', fr', e', ys, e1, e2, e3, _⟩ | ⟨e1, _⟩
      · rw [k0] at e1; injection e1 with e1; subst e1
        rw [e3 rfl] at e2
        exact m.mine n e' ys e2 k2
      · rw [k0] at e1; cases e1
    · obtain ⟨n, _, k0, k1, k2, k3⟩ := nm k hl hh
      obtain ⟨n', _, k0', k1', k2', k3'⟩ := nm k' hl' hh'
      have : n = n' := m.dist n n' k1 k1' k2 k2' (by rw [← k3, ← k3']; exact hb)
      subst this
      exact nodupSrc_ok hnd k0 k0'
    · obtain ⟨n, k0, k4, _, k2, k3⟩ := nm k (lentish_live hl) hh
      rw [k3]
      have hE := (hE k).1
      cases hte : t.ent k with
      | dead => rw [hte] at hl; exact hl.elim
      | bx cs => rw [hte] at hl; exact hl.elim
      | row fr e xs =>
        rw [hte] at hE hl
        cases fr with
        | true => exact hl.elim
        | false =>
          have hfl : (e.flat || e.hasG) = true := hl
          have htk : t.hp[k]? = some (.row false e xs) := by
            have h' : nth .dead t.hp k = .row false e xs := hte
            rw [nth_eq] at h'
            cases hx : t.hp[k]? with
            | none => rw [hx] at h'; cases h'
            | some y => rw [hx] at h'; exact congrArg some h'
          have h9 := lentOk_get hlo k4 htk
          rw [Nat.zero_add] at h9
          obtain ⟨e1, e9⟩ := h9 hfl
          rcases hE with ⟨n', fr', e', ys, q1, q2, q3, q4, c1, c2, c3, c4⟩ | ⟨q1, _⟩
          · rw [k0] at q1
            injection q1 with q1
            subst q1
            obtain ⟨e3, xs3, e9⟩ := e9
            rw [q2] at e9
            injection e9 with e9 _ _
            subst e9
            have := m.lent n (by rw [q2]; exact (q4 rfl).trans hfl) k2
            rw [e1] at this ⊢
            exact this
          · rw [k0] at q1; cases q1
    · obtain ⟨q1, q2⟩ := m.lentb b hb
      obtain ⟨rr, cs, l, e1, e2⟩ := keep0_ok hk0 q1
      refine ⟨?_, ?_⟩
      · show (nth .dead t.hp 0).isBx = true
        rw [e2]; rfl
      · rw [ren_blk (n := 0) (by rw [e1]; rfl)]
        exact q2
    · cases hte : t.ent k with
      | dead => rw [hte] at hi; cases hi
      | bx cs => rw [hte] at hi; cases hi
      | row fr e xs =>
        rw [hte] at hi
        cases fr with
        | true => cases hi
        | false =>
          have hfl : (e.flat || e.hasG) = true := by
            have hi' : i ∈ (if e.hasG then idsL e xs else []) := hi
            split at hi'
            · rename_i hg; rw [hg, Bool.or_true]
            · cases hi'
          obtain ⟨n, k0, k4, _, k2, k3⟩ := nm k (by rw [hte]; rfl) hh
          have hE := (hE k).1
          rw [hte] at hE
          have htk : t.hp[k]? = some (.row false e xs) := by
            have h' : nth .dead t.hp k = .row false e xs := hte
            rw [nth_eq] at h'
            cases hx : t.hp[k]? with
            | none => rw [hx] at h'; cases h'
            | some y => rw [hx] at h'; exact congrArg some h'
          have h9 := lentOk_get hlo k4 htk
          rw [Nat.zero_add] at h9
          obtain ⟨e1, e3, xs3, e9⟩ := h9 hfl
          rcases hE with ⟨n', fr', e', ys, q1, q2, q3, q4, c1, c2, c3, c4⟩ | ⟨q1, _⟩
          · rw [k0] at q1
            injection q1 with q1
            subst q1
            rw [q2] at e9
            injection e9 with e9 _ _
            subst e9
            exact fun e0 => m.lids n k2 i (by rw [q2]; exact c4 i hi) (by omega)
          · rw [k0] at q1; cases q1
end Go.SX
/- From what is to be shown of a function's code to its contract. No condition. -/
namespace Go.SX
open Go.RowKit
set_option linter.unusedVariables false
set_option linter.unusedSimpArgs false
def Ex.to : Ex → Exit
  | .normal => .normal
  | .exit i => .exit i
  | .ret => .ret
section
variable {P : Program} {T : Tab} {Γ : FuncId → Option PC} {R : FuncId → Option Rule} {base : Nat} {M : LM} {w0 : World}
theorem vc_ok (hm : P.follows .mixedOrders = true) (hT : TabOk P T) (hΓ : GamOk P Γ) (hR : RulesOk P R) : ∀ (c : Code) (A : Nat → Option Ann) (st : St) (Qs : Ex → (Nat → Option Ann) → St → Prop) (Q : Exit → Act → World → Prop) (a : Act) (w : World),
    Sat base M w0 st a w → vc T Γ R c A st Qs → (∀ e A' st' a' w', Qs e A' st' → Sat base M w0 st' a' w' → Q e.to a' w') → c.wp P Q a w := by
  intro c
  induction c with
  | skip => intro A st Qs Q a w hs h hQ; exact wp_skip (hQ .normal A st a w h hs)
  | region id ops draw =>
    intro A st Qs Q a w hs h hQ
    unfold vc at h
    split at h
    · rename_i X J I m x0 inner _
      obtain ⟨hd, V, r⟩ := hs
      obtain ⟨V', r', _⟩ := r.freezesX [m x0]
      exact vcRegion_ok hm hT hΓ hR (⟨hd, V', r'⟩ : Sat base M w0 (st.freeze (m x0)) a w) h (fun st' a' w' k hs' => hQ .normal A st' a' w' k hs')
    · exact vcRegion_ok hm hT hΓ hR hs h (fun st' a' w' k hs' => hQ .normal A st' a' w' k hs')
  | seq x y ihx ihy =>
    intro A st Qs Q a w hs h hQ
    unfold vc at h
    split at h
    · rename_i X J I m x0 inner _
      obtain ⟨h1, h2⟩ := h
      refine wp_seq (ihx A st _ _ a w hs h1 (fun e A' st' a' w' hk hs' => ?_))
      cases e with
      | normal =>
        obtain ⟨x', k1, k2⟩ := hk
        exact ihy (inner x') _ Qs Q a' w' (match_ok k2 hs') (h2 x' k1) hQ
      | exit i => exact hQ (.exit i) A' st' a' w' hk hs'
      | ret => exact hQ .ret A' st' a' w' hk hs'
    · refine wp_seq (ihx A st _ _ a w hs h (fun e A' st' a' w' hk hs' => ?_))
      cases e with
      | normal => exact ihy A' st' Qs Q a' w' hs' hk hQ
      | exit i => exact hQ (.exit i) A' st' a' w' hk hs'
      | ret => exact hQ .ret A' st' a' w' hk hs'
  | cond c x y ihx ihy =>
    intro A st Qs Q a w hs h hQ
    have hev : S.ok (Classical.choose hs.2) st.ent w (st.eval c) (a.eval c) := (Classical.choose_spec hs.2).eval c
    unfold vc at h
    split at h
    · rename_i e
      rw [e] at hev
      exact wp_cond_true hev (ihx A st Qs Q a w hs h hQ)
    · rename_i e
      rw [e] at hev
      exact wp_cond_false hev (ihy A st Qs Q a w hs h hQ)
    · rename_i b e
      rw [e] at hev
      exact wp_cond_split hev.1 (fun hb => ihx A st Qs Q a w hs (h.1 hb) hQ) (fun hb => ihy A st Qs Q a w hs (h.2 hb) hQ)
    · exact h.elim
  | block id x ih =>
    intro A st Qs Q a w hs h hQ
    refine wp_block (ih A st _ _ a w hs h (fun e A' st' a' w' hk hs' => ?_))
    cases e with
    | normal => exact hQ .normal A' st' a' w' hk hs'
    | exit i =>
      show Exit.inBlock id Q (.exit i) a' w'
      unfold Exit.inBlock
      simp only at hk ⊢
      split
      · rename_i e
        rw [if_pos e] at hk
        exact hQ .normal A' st' a' w' hk hs'
      · rename_i e
        rw [if_neg e] at hk
        exact hQ (.exit i) A' st' a' w' hk hs'
    | ret => exact hQ .ret A' st' a' w' hk hs'
  | loop x ih =>
    intro A st Qs Q a w hs h hQ
    unfold vc at h
    split at h
    · rename_i X J I m x0 inner _
      obtain ⟨h1, h2, h3⟩ := h
      refine wp_loop_ghost (fun n a w => ∃ y, J y ∧ m y = n ∧ Sat base M w0 (I (st.head x) y) a w) (m x0) ⟨x0, h1, rfl, match_ok h2 hs⟩ (fun n a w hI => ?_)
      obtain ⟨y, hy, rfl, hsy⟩ := hI
      refine ih (inner y) _ _ _ a w hsy (h3 y hy) (fun e A' st' a' w' hk hs' => ?_)
      cases e with
      | normal =>
        obtain ⟨y', k1, k2, k3⟩ := hk
        exact ⟨m y', k2, y', k1, rfl, match_ok k3 hs'⟩
      | exit i => exact hQ (.exit i) A' st' a' w' hk hs'
      | ret => exact hQ .ret A' st' a' w' hk hs'
    · exact h.elim
  | exit id => intro A st Qs Q a w hs h hQ; exact wp_exit (hQ (.exit id) A st a w h hs)
  | ret => intro A st Qs Q a w hs h hQ; exact wp_ret (hQ .ret A st a w h hs)
  | rangeFunc f ps x y => intro A st Qs Q a w hs h hQ; exact h.elim
  | scope x => intro A st Qs Q a w hs h hQ; exact h.elim
  | label l => intro A st Qs Q a w hs h hQ; exact h.elim
  | goto l => intro A st Qs Q a w hs h hQ; exact h.elim
  | refuse l => intro A st Qs Q a w hs h hQ; exact h.elim
theorem RdC.below {Z : Nat → Prop} {w : World} : ∀ {t : Ty} {cs : List Value} {d : t.den}, RdC Z w t cs d → RdC (fun b => b < w.heap.size) w t cs d := by
  intro t
  induction t with
  | int k => exact fun h => h
  | bool => exact fun h => h
  | str => exact fun h => h
  | sl e ih =>
    intro cs xs h
    obtain ⟨a, cap, h1, h2, h3, h4⟩ := h
    refine ⟨a, cap, h1, h2, h3, fun i hi => ?_⟩
    obtain ⟨ad, e1, e2, e3, es, e4, e5, e6⟩ := h4 i hi
    refine ⟨ad, e1, e2, ?_, es, e4, e5, ih e6⟩
    have hp := e.size_pos
    have := e5 0 (by omega)
    unfold World.cell? at this
    cases hb : w.heap[ad.block]? with
    | none => rw [hb] at this; cases this
    | some o => exact (Array.getElem?_eq_some_iff.1 hb).1
  | st t ih => exact fun h => ih h
  | pr a b iha ihb =>
    intro cs d h
    obtain ⟨c1, c2, h1, h2, h3⟩ := h
    exact ⟨c1, c2, h1, iha h2, ihb h3⟩
  | ptr t ih =>
    intro cs d h
    obtain ⟨b, o, h1, h2, es, h3, h4, h5⟩ := h
    refine ⟨b, o, h1, ?_, es, h3, h4, ih h5⟩
    have hp := t.size_pos
    have := h4 0 (by omega)
    unfold World.cell? at this
    cases hb : w.heap[b]? with
    | none => rw [hb] at this; cases this
    | some o => exact (Array.getElem?_eq_some_iff.1 hb).1
  | clo f t ih =>
    intro cs d h
    obtain ⟨caps, h1, h2⟩ := h
    exact ⟨caps, h1, ih h2⟩
  | gs wh e ih =>
    intro cs d h
    obtain ⟨⟨a, cap, h1, h2, h3, h4⟩, k⟩ := h
    refine ⟨⟨a, cap, h1, h2, h3, fun i hi => ?_⟩, k⟩
    obtain ⟨ad, e1, e2, e3, es, e4, e5, e6⟩ := h4 i hi
    refine ⟨ad, e1, e2, ?_, es, e4, e5, ih e6⟩
    have hp := e.size_pos
    have := e5 0 (by omega)
    unfold World.cell? at this
    cases hb : w.heap[ad.block]? with
    | none => rw [hb] at this; cases this
    | some o => exact (Array.getElem?_eq_some_iff.1 hb).1
def Vl.start (w : World) : Vl := ⟨fun _ => 0, fun _ => False, fun b => b < w.heap.size, fun _ => False⟩
theorem start_Z {w : World} {b : Nat} (h : b < w.heap.size) : (Vl.start w).Z false b := .inr ⟨rfl, h⟩
theorem argS_ok {w : World} {hp : Nat → Ent} {t : Ty} {v : Value} {d : t.den} (h : RdTop anyZ w t v d) : S.ok (Vl.start w) hp w (argS t d) v := by
  obtain ⟨cs, h1, h2⟩ := h
  have hr : RdC ((Vl.start w).Z false) w t cs d := h2.below.mono (fun b hb => start_Z hb) (fun _ _ => rfl)
  have ho := ok_expand (V := Vl.start w) (hp := hp) false t hr
  unfold argS topS
  unfold topV at h1
  cases hst : isSt t with
  | true =>
    rw [hst] at h1
    simp only [if_true] at h1 ⊢
    exact ⟨cs.toArray, h1, by simpa using ho⟩
  | false =>
    rw [hst] at h1
    simp only [Bool.false_eq_true, if_false] at h1 ⊢
    subst h1
    have hl := ho.1
    split
    · rename_i c hc
      rw [hc] at ho
      exact ho.2 0 c v rfl rfl
    · rename_i hc
      exfalso
      match hx : expand false t d with
      | [] => rw [hx] at hl; cases hl
      | [c] => exact hc c hx
      | _ :: _ :: _ => rw [hx] at hl; simp at hl
theorem argsS_ok {w : World} {hp : Nat → Ent} : ∀ {ts : List Ty} {vs : List Value} {d : Tup ts}, RdArgs anyZ w ts vs d → (argsS ts d).length = vs.length ∧ vs.length = ts.length ∧
    ∀ (i : Nat) s v, (argsS ts d)[i]? = some s → vs[i]? = some v → S.ok (Vl.start w) hp w s v
  | [], vs, d, h => by rw [show vs = [] from h]; exact ⟨rfl, rfl, fun i s v h => by cases h⟩
  | [t], vs, d, h => by
    obtain ⟨v, rfl, h2⟩ := h
    refine ⟨rfl, rfl, fun i s u hs hu => ?_⟩
    cases i with
    | zero =>
      simp only [argsS, List.getElem?_cons_zero, Option.some.injEq] at hs hu
      subst hs; subst hu
      exact argS_ok h2
    | succ i => simp [argsS] at hs
  | t :: u :: r, vs, d, h => by
    obtain ⟨v, vs', rfl, h2, h3⟩ := h
    obtain ⟨k1, k2, k3⟩ := argsS_ok (hp := hp) h3
    refine ⟨by simp [argsS, k1], by simp [k2], fun i s x hs hx => ?_⟩
    cases i with
    | zero =>
      simp only [argsS, List.getElem?_cons_zero, Option.some.injEq] at hs hx
      subst hs; subst hx
      exact argS_ok h2
    | succ i => exact k3 i s x (by simpa [argsS] using hs) (by simpa using hx)
theorem args_wf {w : World} : ∀ {ts : List Ty} {vs : List Value} {d : Tup ts}, RdArgs anyZ w ts vs d → tupWf ts d
  | [], _, _, _ => trivial
  | [t], vs, d, h => by obtain ⟨v, _, cs, _, h2⟩ := h; exact h2.wf
  | t :: u :: r, vs, d, h => by
    obtain ⟨v, vs', _, ⟨cs, _, h2⟩, h3⟩ := h
    exact ⟨h2.wf, args_wf h3⟩
theorem mem_start (w : World) : Mem w.heap.size noM w (Vl.start w) (fun _ => .dead) w :=
  ⟨fun _ => trivial, (fun n cs h => by cases h), (fun n h => by cases h), (fun n e xs h => by cases h), (fun n m h => by cases h), fun b h => ⟨h, trivial⟩, fun b (h : False) => h.elim, ⟨rfl, rfl, rfl, Nat.le_refl _, fun _ _ _ => rfl, fun _ _ _ _ h _ => h.elim⟩, fun n h => h.elim, fun b (h : False) => h.elim, fun n (h : False) => h.elim⟩
theorem sat_start {w : World} {ts : List Ty} {vs : List Value} {d : Tup ts} (h : RdArgs anyZ w ts vs d) (n : Nat) :
    Sat w.heap.size noM w (St.start ts d n) { tmps := vs.toArray ++ Array.replicate (n - vs.toArray.size) undef, defers := [] } w := by
  obtain ⟨h1, h2, h3⟩ := argsS_ok (hp := fun _ => .dead) h
  have he : (St.start ts d n).ent = fun _ => .dead := by
    funext k
    show nth .dead ([] : List Ent) k = _
    rw [nth_eq]; rfl
  have hl : (St.start ts d n).ts = argsS ts d ++ List.replicate (n - vs.length) .und := by
    show lapp _ (lrep _ _) = _
    rw [lapp_eq, lrep_eq, llen_eq, h2]
  refine ⟨rfl, Vl.start w, ⟨by rw [hl]; simp [h1], fun i s v hs hv => ?_, by rw [he]; exact mem_start w⟩⟩
  rw [he]
  rw [hl] at hs
  have hv' : (vs ++ List.replicate (n - vs.length) undef)[i]? = some v := by
    rw [← hv]
    simp only [Array.getElem?_append, List.getElem?_append, List.getElem?_toArray, List.size_toArray, Array.getElem?_replicate, List.getElem?_replicate]
  rcases Nat.lt_or_ge i vs.length with hi | hi
  · rw [List.getElem?_append_left (by omega)] at hs
    rw [List.getElem?_append_left hi] at hv'
    exact h3 i s v hs hv'
  · rw [List.getElem?_append_right (by omega), List.getElem?_replicate] at hs
    rw [List.getElem?_append_right hi, List.getElem?_replicate] at hv'
    split at hs
    · injection hs with hs; subst hs
      split at hv'
      · injection hv' with hv'; exact hv'.symm
      · cases hv'
    · cases hs
end
end Go.SX
/- What a function hands back. No condition. -/
namespace Go.SX
open Go.RowKit
set_option linter.unusedVariables false
set_option linter.unusedSimpArgs false
section
variable {P : Program} {T : Tab} {Γ : FuncId → Option PC} {R : FuncId → Option Rule} {V : Vl} {hp : Nat → Ent} {w : World}
open Classical in
noncomputable def blksOf (V : Vl) : List Nat → List Nat
  | [] => []
  | n :: r => if V.has n then V.blk n :: blksOf V r else blksOf V r
theorem blksOf_append (a b : List Nat) : blksOf V (a ++ b) = blksOf V a ++ blksOf V b := by
  induction a with
  | nil => rfl
  | cons n a ih =>
    simp only [List.cons_append, blksOf]
    split <;> simp [ih]
theorem mem_blksOf {ns : List Nat} {b : Nat} (h : b ∈ blksOf V ns) : ∃ n ∈ ns, V.has n ∧ V.blk n = b := by
  induction ns with
  | nil => cases h
  | cons n ns ih =>
    unfold blksOf at h
    split at h
    · rename_i hh
      rcases List.mem_cons.1 h with rfl | h
      · exact ⟨n, List.mem_cons_self .., hh, rfl⟩
      · obtain ⟨m, h1, h2⟩ := ih h
        exact ⟨m, List.mem_cons_of_mem _ h1, h2⟩
    · obtain ⟨m, h1, h2⟩ := ih h
      exact ⟨m, List.mem_cons_of_mem _ h1, h2⟩
def RowT (hp : Nat → Ent) (n : Nat) : Prop := ∃ e xs, hp n = .row true e xs
theorem row_own {n h : Nat} {e : Ty} {xs : List e.den} {v : Value} (he : (Ent.row true e xs).ok V hp w n) (hr : hasRow V w n e h v) (hh : h ≤ xs.length) :
    ∃ bs, OwnC (V.Z true) w (.sl e) [v] (xs.take h) bs ∧ bs.filterMap id = blksOf V [n] := by
  have hlen : (xs.take h).length = h := by rw [List.length_take]; omega
  rcases hr with ⟨h1, rfl, rfl⟩ | ⟨h1, cap, vals, el, rfl, h3, h4, h5⟩
  · exact ⟨[none], .inl ⟨rfl, by simp, rfl⟩, by simp [blksOf, h1]⟩
  · rcases he with ⟨k1, _⟩ | ⟨_, vals', el', k2, k3, k4⟩
    · exact absurd h1 k1
    · rw [k2] at h3
      injection h3 with h3
      injection h3 with e1 e2 e3
      subst e1
      refine ⟨[some (V.blk n)], .inr ⟨V.blk n, cap, vals', el', by rw [hlen], rfl, k2, h4, by rw [hlen]; exact h5, by rw [hlen]; omega, fun i hi => ?_⟩, by simp [blksOf, h1]⟩
      rw [hlen] at hi
      obtain ⟨es, k5, k6, k7⟩ := k4 i (by omega)
      exact ⟨es, k5, k6, by rw [List.getElem_take]; exact k7⟩
theorem own_asL {Z : Nat → Prop} {e' e : Ty} {cs : List Value} {xs : List e'.den} {ys : List e.den} {bs : List (Option Nat)} (h : OwnC Z w (.sl e') cs xs bs) (k : asL e' e xs = some ys) : OwnC Z w (.sl e) cs ys bs := by
  have hl := asL_len k
  rcases h with ⟨h1, h2, h3⟩ | ⟨b, cap, vals, el, h1, h2, h3, h4, h5, h6, h7⟩
  · exact .inl ⟨h1, by rw [h2] at hl; exact List.length_eq_zero_iff.1 hl, h3⟩
  · refine .inr ⟨b, cap, vals, el, by rw [hl]; exact h1, h2, h3, by rw [← (asL_size k).1]; exact h4, by rw [hl]; exact h5, by rw [hl]; exact h6, fun i hi => ?_⟩
    obtain ⟨es, k5, k6, k7⟩ := h7 i (by rw [← hl]; exact hi)
    exact ⟨es, by rw [← (asL_size k).1]; exact k5, by rw [← (asL_size k).1]; exact k6, asL_at k hi k7⟩
theorem outSl_ok (he : ∀ n, (hp n).ok V hp w n) {e : Ty} {c : C} {xs : List e.den} {ns : List Nat} {v : Value} (h : outSl hp e c = some (xs, ns)) (ho : C.ok V hp w c v) :
    ∃ bs, OwnC (V.Z true) w (.sl e) [v] xs bs ∧ bs.filterMap id = blksOf V ns ∧ ∀ n ∈ ns, RowT hp n := by
  unfold outSl at h
  split at h
  · rename_i n
    split at h
    · rename_i e' xs' hn
      rw [omap_eq] at h
      obtain ⟨ys, hk, h⟩ := Option.map_eq_some_iff.1 h
      injection h with h1 h2; subst h1; subst h2
      obtain ⟨fr, e2, xs2, h3, h4⟩ := ho
      rw [hn] at h3
      injection h3 with e1 e2 e3
      subst e1; subst e2; cases e3
      have h2 := he n
      rw [hn] at h2
      obtain ⟨bs, k1, k2⟩ := row_own h2 h4 (Nat.le_refl _)
      rw [List.take_length] at k1
      exact ⟨bs, own_asL k1 hk, k2, fun m hm => by rw [List.mem_singleton.1 hm]; exact ⟨_, _, hn⟩⟩
    · cases h
  · rename_i n m
    split at h
    · rename_i e' xs' hn
      rw [omap_eq] at h
      obtain ⟨ys, hk, h⟩ := Option.map_eq_some_iff.1 h
      injection h with h1 h2; subst h1; subst h2
      obtain ⟨fr, e2, xs2, h3, h5, h4⟩ := ho
      rw [hn] at h3
      injection h3 with e1 e2 e3
      subst e1; subst e2; cases e3
      have h2 := he n
      rw [hn] at h2
      obtain ⟨bs, k1, k2⟩ := row_own h2 h4 h5
      exact ⟨bs, own_asL k1 hk, k2, fun m hm => by rw [List.mem_singleton.1 hm]; exact ⟨_, _, hn⟩⟩
    · cases h
  · injection h with h; injection h with h1 h2; subst h1; subst h2
    exact ⟨[none], .inl ⟨by rw [ho.1], rfl, rfl⟩, rfl, fun n hn => by cases hn⟩
  · cases h
theorem okAll_cons' {c : C} {r : List C} {vs : List Value} (h : okAll V hp w (c :: r) vs) : ∃ v vs', vs = v :: vs' ∧ C.ok V hp w c v ∧ okAll V hp w r vs' := by
  cases vs with
  | nil => have := h.1; cases this
  | cons v vs => exact ⟨v, vs, rfl, h.2 0 c v rfl rfl, by simpa using h.1, fun j c u hc hu => h.2 (j + 1) c u (by simpa using hc) (by simpa using hu)⟩
theorem outC_ok (he : ∀ n, (hp n).ok V hp w n) : ∀ (t : Ty) {cs : List C} {d : t.den} {ns : List Nat} {rest : List C} {vs : List Value}, outC hp t cs = some (d, ns, rest) → okAll V hp w cs vs →
    ∃ v1 v2 bs, vs = v1 ++ v2 ∧ OwnC (V.Z true) w t v1 d bs ∧ bs.filterMap id = blksOf V ns ∧ (∀ n ∈ ns, RowT hp n) ∧ okAll V hp w rest v2
  | .int k, cs, d, ns, rest, vs, h, ho => by
    unfold outC at h
    split at h
    · rename_i x r hh
      injection h with h; injection h with h1 h2; injection h2 with h2 h3; subst h1; subst h2; subst h3
      obtain ⟨c, rfl, hc⟩ := head1_some hh
      obtain ⟨v, vs', rfl, h1, h2⟩ := okAll_cons' ho
      exact ⟨[v], vs', [], rfl, ⟨by rw [(rdInt_ok hc h1).1]; exact ⟨rfl, (rdInt_ok hc h1).2⟩, rfl⟩, rfl, (fun n hn => by cases hn), h2⟩
    · cases h
  | .bool, cs, d, ns, rest, vs, h, ho => by
    unfold outC at h
    split at h
    · rename_i x r hh
      injection h with h; injection h with h1 h2; injection h2 with h2 h3; subst h1; subst h2; subst h3
      obtain ⟨c, rfl, hc⟩ := head1_some hh
      obtain ⟨v, vs', rfl, h1, h2⟩ := okAll_cons' ho
      exact ⟨[v], vs', [], rfl, ⟨by rw [rdBool_ok hc h1]; rfl, rfl⟩, rfl, (fun n hn => by cases hn), h2⟩
    · cases h
  | .str, cs, d, ns, rest, vs, h, ho => by
    unfold outC at h
    split at h
    · rename_i x r hh
      injection h with h; injection h with h1 h2; injection h2 with h2 h3; subst h1; subst h2; subst h3
      obtain ⟨c, rfl, hc⟩ := head1_some hh
      obtain ⟨v, vs', rfl, h1, h2⟩ := okAll_cons' ho
      exact ⟨[v], vs', [], rfl, ⟨by rw [(rdStr_ok hc h1).1]; exact ⟨rfl, (rdStr_ok hc h1).2⟩, rfl⟩, rfl, (fun n hn => by cases hn), h2⟩
    · cases h
  | .sl e, cs, d, ns, rest, vs, h, ho => by
    unfold outC at h
    split at h
    · rename_i x ns' r hh
      injection h with h; injection h with h1 h2; injection h2 with h2 h3; subst h1; subst h2; subst h3
      obtain ⟨c, rfl, hc⟩ := head1_some hh
      obtain ⟨v, vs', rfl, h1, h2⟩ := okAll_cons' ho
      obtain ⟨bs, k1, k2, k3⟩ := outSl_ok he hc h1
      exact ⟨[v], vs', bs, rfl, k1, k2, k3, h2⟩
    · cases h
  | .st t, cs, d, ns, rest, vs, h, ho => outC_ok he t h ho
  | .ptr t, cs, d, ns, rest, vs, h, ho => by cases h
  | .clo f t, cs, d, ns, rest, vs, h, ho => by cases h
  | .pr a b, cs, d, ns, rest, vs, h, ho => by
    unfold outC at h
    split at h
    · rename_i x ns1 r h1
      split at h
      · rename_i y ms r' h2
        injection h with h; injection h with e1 e2; injection e2 with e2 e3; subst e1; subst e2; subst e3
        obtain ⟨v1, v2, b1, rfl, k2, k3, k4, k5⟩ := outC_ok he a h1 ho
        obtain ⟨u1, u2, b2, rfl, j2, j3, j4, j5⟩ := outC_ok he b h2 k5
        refine ⟨v1 ++ u1, u2, b1 ++ b2, by rw [List.append_assoc], ⟨v1, u1, b1, b2, rfl, rfl, k2, j2⟩, ?_, fun n hn => ?_, j5⟩
        · rw [List.filterMap_append, k3, j3, lapp_eq, blksOf_append]
        · rw [lapp_eq] at hn
          rcases List.mem_append.1 hn with hn | hn
          · exact k4 n hn
          · exact j4 n hn
      · cases h
    · cases h
theorem okAll_nil' {vs : List Value} (h : okAll V hp w [] vs) : vs = [] := by
  have := h.1
  cases vs with
  | nil => rfl
  | cons _ _ => cases this
theorem outS_ok (he : ∀ n, (hp n).ok V hp w n) {t : Ty} {s : S} {d : t.den} {ns : List Nat} {v : Value} (h : outS hp t s = some (d, ns)) (ho : S.ok V hp w s v) :
    ∃ bs, OwnTop (V.Z true) w t v d bs ∧ bs.filterMap id = blksOf V ns ∧ ∀ n ∈ ns, RowT hp n := by
  unfold outS at h
  split at h
  · rename_i x
    split at h
    · cases h
    · rename_i hst
      split at h
      · rename_i d' ns' hh
        injection h with h; injection h with h1 h2; subst h1; subst h2
        obtain ⟨v1, v2, bs, k1, k2, k3, k4, k5⟩ := outC_ok he t (vs := [v]) hh ⟨rfl, fun j c u hc hu => by
          cases j with
          | zero => simp only [List.getElem?_cons_zero, Option.some.injEq] at hc hu; subst hc; subst hu; exact ho
          | succ j => simp at hc⟩
        rw [okAll_nil' k5, List.append_nil] at k1
        refine ⟨bs, ⟨v1, ?_, k2⟩, k3, k4⟩
        unfold topV
        rw [if_neg hst, k1]
      · cases h
  · rename_i cs
    split at h
    · rename_i hst
      split at h
      · rename_i d' ns' hh
        injection h with h; injection h with h1 h2; subst h1; subst h2
        obtain ⟨vs, e1, e2⟩ := ho
        obtain ⟨v1, v2, bs, k1, k2, k3, k4, k5⟩ := outC_ok he t hh e2
        rw [okAll_nil' k5, List.append_nil] at k1
        refine ⟨bs, ⟨v1, ?_, k2⟩, k3, k4⟩
        unfold topV
        rw [if_pos hst, e1, ← k1]
      · cases h
    · cases h
  · cases h
theorem outAll_ok (he : ∀ n, (hp n).ok V hp w n) : ∀ {ts : List Ty} {ss : List S} {d : Tup ts} {ns : List Nat} {vs : List Value}, outAll hp ts ss = some (d, ns) → ss.length = vs.length →
    (∀ (i : Nat) s v, ss[i]? = some s → vs[i]? = some v → S.ok V hp w s v) → ∃ bs, OwnVals (V.Z true) w ts vs d bs ∧ bs.filterMap id = blksOf V ns ∧ ∀ n ∈ ns, RowT hp n
  | [], [], d, ns, vs, h, hl, ho => by
    injection h with h; injection h with h1 h2; subst h2
    have : vs = [] := by cases vs with | nil => rfl | cons _ _ => cases hl
    exact ⟨[], ⟨this, rfl⟩, rfl, fun n hn => by cases hn⟩
  | [], _ :: _, d, ns, vs, h, hl, ho => by cases h
  | [t], [s], d, ns, vs, h, hl, ho => by
    match vs, hl with
    | [v], _ =>
      obtain ⟨bs, k1, k2, k3⟩ := outS_ok he h (ho 0 s v rfl rfl)
      exact ⟨bs, ⟨v, rfl, k1⟩, k2, k3⟩
  | [t], [], d, ns, vs, h, hl, ho => by cases h
  | [t], _ :: _ :: _, d, ns, vs, h, hl, ho => by cases h
  | t :: u :: r, [], d, ns, vs, h, hl, ho => by cases h
  | t :: u :: r, s :: ss, d, ns, vs, h, hl, ho => by
    unfold outAll at h
    split at h
    · rename_i x ns1 h1
      split at h
      · rename_i y ms h2
        injection h with h; injection h with e1 e2; subst e1; subst e2
        match vs, hl with
        | v :: vs', hl =>
          obtain ⟨b1, k1, k2, k3⟩ := outS_ok he h1 (ho 0 s v rfl rfl)
          obtain ⟨b2, j1, j2, j3⟩ := outAll_ok he h2 (vs := vs') (by simpa using hl) (fun i s u hs hu => ho (i + 1) s u (by simpa using hs) (by simpa using hu))
          refine ⟨b1 ++ b2, ⟨v, vs', b1, b2, rfl, rfl, k1, j1⟩, ?_, fun n hn => ?_⟩
          · rw [List.filterMap_append, k2, j2, lapp_eq, blksOf_append]
          · rw [lapp_eq] at hn
            rcases List.mem_append.1 hn with hn | hn
            · exact k3 n hn
            · exact j3 n hn
      · cases h
    · cases h
theorem nodupN_ok : ∀ {ns : List Nat}, nodupN ns = true → ns.Nodup
  | [], _ => List.nodup_nil
  | n :: r, h => by
    simp only [nodupN, Bool.and_eq_true, lany_eq, Bool.not_eq_true', List.any_eq_false] at h
    refine List.nodup_cons.2 ⟨fun hn => ?_, nodupN_ok h.2⟩
    have := h.1 n hn
    simp at this
theorem nodup_blks {base : Nat} {M : LM} {w0 : World} (m : Mem base M w0 V hp w) : ∀ {ns : List Nat}, ns.Nodup → (∀ n ∈ ns, RowT hp n) → (blksOf V ns).Nodup
  | [], _, _ => List.nodup_nil
  | n :: r, h, hr => by
    obtain ⟨h1, h2⟩ := List.nodup_cons.1 h
    have ih := nodup_blks m h2 (fun k hk => hr k (List.mem_cons_of_mem _ hk))
    unfold blksOf
    split
    · rename_i hh
      refine List.nodup_cons.2 ⟨fun hm => ?_, ih⟩
      obtain ⟨k, k1, k2, k3⟩ := mem_blksOf hm
      obtain ⟨_, _, e1⟩ := hr n (List.mem_cons_self ..)
      obtain ⟨_, _, e2⟩ := hr k (List.mem_cons_of_mem _ k1)
      have := m.dist k n (by rw [e2]; rfl) (by rw [e1]; rfl) k2 hh k3
      subst this
      exact h1 k1
    · exact ih
theorem resAll_run {base : Nat} {M : LM} {w0 : World} (hT : TabOk P T) {st : St} {a : Act} (r : Rel base M w0 V st a.tmps w) : ∀ {l : List ResultVar} {ss : List S}, resAll T st l = some ss →
    ∃ vs : List Value, ss.length = vs.length ∧ (∀ (i : Nat) s v, ss[i]? = some s → vs[i]? = some v → S.ok V st.ent w s v) ∧
      ∀ f : ResultVar → Sem Value, (∀ t, f (.tmp t) = pure (a.tmps.getD t undef)) → (∀ b t, f (.cell b t) = do loadVar t (← asAddr (a.tmps.getD b undef))) → (l.mapM f).run P w = .ok vs w
  | [], ss, h => by injection h with h; subst h; exact ⟨[], rfl, (fun i s v h => by cases h), fun f _ _ => by simp⟩
  | x :: xs, ss, h => by
    unfold resAll at h
    split at h
    · rename_i s ss' h1 h2
      injection h with h; subst h
      obtain ⟨vs, k1, k2, k3⟩ := resAll_run hT r h2
      have one : ∃ v, S.ok V st.ent w s v ∧ ∀ f : ResultVar → Sem Value, (∀ t, f (.tmp t) = pure (a.tmps.getD t undef)) → (∀ b t, f (.cell b t) = do loadVar t (← asAddr (a.tmps.getD b undef))) → (f x).run P w = .ok v w := by
        cases x with
        | tmp t =>
          injection h1 with h1; subst h1
          exact ⟨_, r.eval (.tmp t), fun f hf _ => by rw [hf, Sem.run_pure]; rfl⟩
        | cell b t =>
          simp only [resS] at h1
          split at h1
          · rename_i m o hb
            have hv := r.eval (.tmp b)
            rw [hb] at hv
            rw [omap_eq] at h1
            cases hq : qload T st.ent t (.box m o) with
            | none => rw [hq] at h1; cases h1
            | some q =>
              rw [hq] at h1
              injection h1 with h1; subst h1
              obtain ⟨_, _, v, e1, e2⟩ := qload_run (v := a.tmps.getD b undef) hT (LkOk.ents r) hq hv
              refine ⟨v, e2, fun f _ hf => ?_⟩
              have hp : a.tmps.getD b undef = .pointer (some ⟨V.blk m, o, none⟩) := hv.1
              rw [hf]
              rw [hp] at e1 ⊢
              rw [← e1]
              unfold Instr.loadAt Instr.sureAddr asAddr
              simp
          · cases h1
      obtain ⟨v, j1, j2⟩ := one
      refine ⟨v :: vs, by simp [k1], fun i s' u hs hu => ?_, fun f hf hc => ?_⟩
      · cases i with
        | zero => simp only [List.getElem?_cons_zero, Option.some.injEq] at hs hu; subst hs; subst hu; exact j1
        | succ i => exact k2 i s' u (by simpa using hs) (by simpa using hu)
      · rw [List.mapM_cons, Sem.run_bind, j2 f hf hc, Result.andThen_ok, Sem.run_bind, k3 f hf hc, Result.andThen_ok, Sem.run_pure]
    · cases h
theorem results_run {fn : Func} {tmps : Array Value} {w : World} {vs : List Value} (h : ∀ f : ResultVar → Sem Value, (∀ t, f (.tmp t) = pure (tmps.getD t undef)) → (∀ b t, f (.cell b t) = do loadVar t (← asAddr (tmps.getD b undef))) → (fn.results.toList.mapM f).run P w = .ok vs w) :
    (results fn tmps).run P w = .ok (oneOr vs) w := by
  have hr : fn.results = fn.results.toList.toArray := by simp
  unfold results
  rw [hr, List.mapM_toArray]
  simp only [Sem.run_bind, map_eq_pure_bind]
  rw [h _ (fun t => rfl) (fun b t => rfl)]
  simp only [Result.andThen_ok, Sem.run_pure]
  congr 1
  match vs with
  | [] => rfl
  | [t] => rfl
  | t :: u :: r => simp [oneOr]
theorem vcFunc_pure (hm : P.follows .mixedOrders = true) (hT : TabOk P T) (hΓ : GamOk P Γ) (hR : RulesOk P R) {f : FuncId} {fn : Func} (hf : P.funcs[f]? = some fn) {c : PC} {A : Tup c.ts → Nat → Option Ann}
    (h : vcFunc T Γ R fn c A) : PureC P f c := by
  intro w args d hargs hpre
  unfold vcFunc at h
  split at h
  · rename_i code hb
    have hv := h d (args_wf hargs) hpre
    refine calls_of_wp hf hb (vc_ok hm hT hΓ hR code (A d) _ _ _ _ w (sat_start hargs fn.ntmps) hv (fun e A' st' a' w' hk hs' => ?_))
    obtain ⟨hd, V, r⟩ := hs'
    have key : e ≠ .normal ∨ e = .normal → vcPost T fn c.rs (c.F d) e st' → (∃ i, e = .exit i) ∨ ∃ v, (results fn a'.tmps).run P w' = .ok v w' ∧ ResOk w w' c.rs v (c.F d) := by
      intro _ hp
      unfold vcPost at hp
      split at hp
      · exact hp.elim
      · right
        split at hp
        · rename_i ss hss
          split at hp
          · rename_i x ns ho
            split at hp
            · rename_i hnd
              obtain ⟨vs, e1, e2, e3⟩ := resAll_run hT r hss
              refine ⟨_, results_run e3, ?_⟩
              obtain ⟨bs, k1, k2, k3⟩ := outAll_ok (vs := vs) r.mem.ents ho e1 e2
              rw [← hp]
              refine ⟨⟨V.Z true, bs, _, rfl, k1, by rw [k2]; exact nodup_blks r.mem (nodupN_ok hnd) k3, fun b hb => ?_, fun b hb => ?_⟩, r.mem.kept⟩
              · have hb' : b ∈ bs.filterMap id := List.mem_filterMap.2 ⟨some b, hb, rfl⟩
                rw [k2] at hb'
                obtain ⟨n, h1, h2, rfl⟩ := mem_blksOf hb'
                obtain ⟨e, xs, h3⟩ := k3 n h1
                obtain ⟨_, h4, h5⟩ := r.mem.own n (by rw [h3]; rfl) h2
                exact ⟨r.mem.mine n e xs h3 h2, h4, fun hz => h5 (Vl.Z_all hz)⟩
              · rcases hb with hb | ⟨hb, _⟩
                · exact r.mem.z1 b hb
                · cases hb
            · exact hp.elim
          · exact hp.elim
        · exact hp.elim
    have hk' := key (Classical.em _ |>.symm) hk
    cases e with
    | normal =>
      rcases hk' with ⟨i, h⟩ | ⟨v, h1, h2⟩
      · cases h
      · exact ⟨hd, v, h1, v, rfl, h2⟩
    | exit i => exact hk.elim
    | ret =>
      rcases hk' with ⟨i, h⟩ | ⟨v, h1, h2⟩
      · cases h
      · exact ⟨hd, v, h1, v, rfl, h2⟩
  · exact h.elim
end
end Go.SX
/- From a statement's arguments to data; from a contract to a statement. No condition. -/
namespace Go.SX
open Go.RowKit Go.WideShapes Go.ChangeShapes
set_option linter.unusedVariables false
set_option linter.unusedSimpArgs false
def fldB (P : Program) (chk : Ty → TypeId → Bool) : Ty → List Field → Nat → Bool
  | .pr a b, f :: g :: r, o => f.offset == o && P.cellsOf f.type == a.size && chk a f.type && fldB P chk b (g :: r) (o + a.size)
  | t, [f], o => f.offset == o && P.cellsOf f.type == t.size && chk t f.type
  | _, _, _ => false
def tyB (P : Program) : Nat → Ty → TypeId → Bool
  | 0, _, _ => false
  | n + 1, ty, t =>
    match ty, P.underlying t with
    | .int k, some (.int k') => decide (k' = k)
    | .bool, some .bool => true
    | .str, some .string => true
    | .sl e, some (.slice te) => P.cellsOf te == e.size && tyB P n e te
    | .st ty', some (.struct fs) => P.cellsOf t == ty'.size && fldB P (tyB P n) ty' fs.toList 0
    | _, _ => false
section
variable {H : Type} {enc : TypeId × Value → H} {P : Program} {w : World} {base : Nat} {spare : Nat → Bool} {held : Bool}
theorem lit_range {k : IntKind} {n : Int} (h : (Lit.int k n).wf = true) : k.min ≤ n ∧ n ≤ k.max := by
  simpa [Lit.wf] using h
theorem cells?_spec {a : Addr} {n : Nat} {cs : List Value} (h : w.cells? base a n = some cs) : cs.length = n ∧ ∀ j, j < n → w.cell? (a.add j) = cs[j]? := by
  unfold World.cells? at h
  split at h
  · exact ⟨by simpa using mapM_some_length h, fun j hj => mapM_some_get h j j (by simp [hj])⟩
  · cases h
theorem add_none (b off n : Nat) : (Addr.mk b off none).add n = ⟨b, off + n, none⟩ := by
  unfold Addr.add
  split
  · rename_i h; subst h; rfl
  · rfl
theorem trod_rd : ∀ (m : Nat) (ty : Ty) (t : TypeId) (fuel : Nat) (cs : List Value) (x : DataW H × List MemPlace), tyB P m ty t = true → DataW.trod enc P w base spare held fuel t cs = some x → ∃ d, RdC anyZ w ty cs d := by
  intro m
  induction m with
  | zero => intro ty t fuel cs x h; cases h
  | succ m ih =>
    intro ty t fuel cs x h hx
    unfold tyB at h
    split at h
    · rename_i k k' hu
      have := of_decide_eq_true h
      subst this
      obtain ⟨n, rfl, _, hw⟩ := DataW.trod_int hu hx
      exact ⟨n, rfl, lit_range hw⟩
    · rename_i hu
      obtain ⟨b, rfl, _⟩ := DataW.trod_bool hu hx
      exact ⟨b, rfl⟩
    · rename_i hu
      obtain ⟨s, rfl, _, hs⟩ := DataW.trod_string hu hx
      exact ⟨s, rfl, hs⟩
    · rename_i e te hu
      simp only [Bool.and_eq_true, beq_iff_eq] at h
      obtain ⟨hc, he⟩ := h
      rcases DataW.trod_slice hu hx with ⟨rfl, _⟩ | ⟨a, len, cap, elems, rest, n, _, rfl, _, _, h2, h3, h4, h5, _, _⟩
      · exact ⟨[], none, 0, rfl, Nat.le_refl _, Nat.zero_le _, fun i hi => by simp at hi⟩
      · have each : ∀ i, i < len → ∃ es d, w.cells? base (a.add (i * P.cellsOf te)) (P.cellsOf te) = some es ∧ RdC anyZ w e es d := by
          intro i hi
          have := h5 i hi
          rw [List.getElem?_eq_getElem (by omega)] at this
          obtain ⟨es, k1, k2⟩ := Option.bind_eq_some_iff.1 this
          obtain ⟨d, hd⟩ := ih e te n es _ he k2
          exact ⟨es, d, k1, hd⟩
        have list : ∀ l, l ≤ len → ∃ xs : List e.den, xs.length = l ∧ ∀ i (hi : i < xs.length), ∃ es, w.cells? base (a.add (i * P.cellsOf te)) (P.cellsOf te) = some es ∧ RdC anyZ w e es xs[i] := by
          intro l
          induction l with
          | zero => intro _; exact ⟨[], rfl, fun i hi => by simp at hi⟩
          | succ l ihl =>
            intro hl
            obtain ⟨xs, k1, k2⟩ := ihl (by omega)
            obtain ⟨es, d, k3, k4⟩ := each l (by omega)
            refine ⟨xs ++ [d], by simp [k1], fun i hi => ?_⟩
            rcases Nat.lt_or_ge i xs.length with hi' | hi'
            · rw [List.getElem_append_left hi']; exact k2 i hi'
            · have : i = l := by simp at hi; omega
              subst this
              rw [List.getElem_append_right hi']
              simp only [k1, Nat.sub_self, List.getElem_cons_zero]
              exact ⟨es, k3, k4⟩
        obtain ⟨xs, k1, k2⟩ := list len (Nat.le_refl _)
        refine ⟨xs, some a, cap, by rw [k1], by omega, by unfold lenMax; unfold maxLen at h3; omega, fun i hi => ?_⟩
        obtain ⟨es, k3, k4⟩ := k2 i hi
        obtain ⟨k5, k6⟩ := cells?_spec k3
        have hp := e.size_pos
        have hsp : a.spot = none := by
          obtain ⟨es0, k30, _⟩ := k2 0 (by omega)
          obtain ⟨k50, k60⟩ := cells?_spec k30
          have h0 := k60 0 (by omega)
          rw [List.getElem?_eq_getElem (by omega)] at h0
          simpa [Addr.add] using World.cell?_spot h0
        refine ⟨a, rfl, hsp, trivial, es, by omega, fun j hj => ?_, k4⟩
        have := k6 j (by omega)
        rw [List.getElem?_eq_getElem hj] at this
        obtain ⟨b, off, spot⟩ := a
        simp only at hsp
        subst hsp
        rw [← this]
        rw [add_none, add_none, hc]
    · rename_i ty' fs hu
      simp only [Bool.and_eq_true, beq_iff_eq] at h
      obtain ⟨hc, hf⟩ := h
      obtain ⟨xs, n, _, _, hl, hxs, hfld⟩ := DataW.trod_struct hu hx
      rw [hc] at hl
      have key : ∀ (fl : List Field) (ty : Ty) (o : Nat), fldB P (tyB P m) ty fl o = true → o + ty.size ≤ cs.length →
          (∀ f ∈ fl, ∃ y, DataW.trod enc P w base spare held n f.type ((cs.drop f.offset).take (P.cellsOf f.type)) = some y) → ∃ d, RdC anyZ w ty ((cs.drop o).take ty.size) d := by
        intro fl
        induction fl with
        | nil => intro ty o h; unfold fldB at h; split at h <;> first | cases h | (rename_i h0; cases h0) | (rename_i h0 _; cases h0)
        | cons f fl ihf =>
          intro ty o h ho hy
          have one : ∀ {ty : Ty}, (f.offset == o && P.cellsOf f.type == ty.size && tyB P m ty f.type) = true → ∃ d, RdC anyZ w ty ((cs.drop o).take ty.size) d := by
            intro ty h
            simp only [Bool.and_eq_true, beq_iff_eq] at h
            obtain ⟨⟨h1, h2⟩, h3⟩ := h
            obtain ⟨y, hy⟩ := hy f (List.mem_cons_self ..)
            rw [h1, h2] at hy
            exact ih ty f.type n _ y h3 hy
          cases fl with
          | nil => exact one (by cases ty <;> exact h)
          | cons g r =>
            cases ty with
            | pr a b =>
              have h' : (f.offset == o && P.cellsOf f.type == a.size && tyB P m a f.type && fldB P (tyB P m) b (g :: r) (o + a.size)) = true := h
              rw [Bool.and_eq_true] at h'
              obtain ⟨h1, h2⟩ := h'
              have hsz : (Ty.pr a b).size = a.size + b.size := rfl
              obtain ⟨d1, k1⟩ := one h1
              obtain ⟨d2, k2⟩ := ihf b (o + a.size) h2 (by rw [hsz] at ho; omega) (fun f' hf' => hy f' (List.mem_cons_of_mem _ hf'))
              refine ⟨(d1, d2), _, _, ?_, k1, k2⟩
              rw [hsz, ← List.drop_drop, List.take_add]
            | _ => cases h
      obtain ⟨d, hd⟩ := key fs.toList ty' 0 hf (by omega) (fun f hf => by
        obtain ⟨i, hi, rfl⟩ := List.getElem_of_mem hf
        have hi' : i < fs.size := by simpa using hi
        have := hfld i (fs[i]) (Array.getElem?_eq_getElem hi')
        rw [List.getElem?_eq_getElem (by omega)] at this
        exact ⟨_, by simpa using this⟩)
      rw [List.drop_zero, ← hl, List.take_length] at hd
      exact ⟨d, hd⟩
    · cases h
theorem rd_arg {m : Nat} {ty : Ty} {t : TypeId} {v : Value} {d : DataW H} {ps : List MemPlace} {r : Reach} {b0 : Nat} (h : tyB P m ty t = true) (hv : Value.okWide P w r b0 t v) (hd : DataW.Trod enc P w base spare held t v d ps) :
    ∃ x, RdTop anyZ w ty v x := by
  obtain ⟨fuel, hf⟩ := hd
  obtain ⟨x, hx⟩ := trod_rd m ty t fuel _ _ h hf
  refine ⟨x, v.cells.toList, ?_, hx⟩
  unfold topV
  cases m with
  | zero => cases h
  | succ m =>
    unfold tyB at h
    split at h
    · rename_i k k' hu
      obtain ⟨n, rfl⟩ := okWide_int hu hv
      rfl
    · rename_i hu
      obtain ⟨n, rfl⟩ := okWide_bool hu hv
      rfl
    · rename_i hu
      obtain ⟨n, rfl⟩ := okWide_string hu hv
      rfl
    · rename_i e te hu
      obtain ⟨a, len, cap, rfl⟩ := okWide_slice hu hv
      rfl
    · rename_i ty' fs hu
      obtain ⟨cs, rfl, _⟩ := okWide_struct hu hv
      rfl
    · cases h
theorem below_of_kept {W W' : World} (h : Kept W.heap.size noM W W') : Below W.heap.size W W' :=
  ⟨h.os, h.tape, h.output, h.size, fun k hk => h.block k hk (fun h => h)⟩
def lawC (ts : List Ty) : PC := { ts := ts, rs := [.bool], pre := fun _ => True, F := fun _ => true }
theorem law_calls {f : FuncId} {ts : List Ty} (h : PureC P f (lawC ts)) {W : World} {args : List Value} {d : Tup ts} (ha : RdArgs anyZ W ts args d) :
    Calls P f args.toArray W fun e W' => e = .returned (.bool true) ∧ Below W.heap.size W W' :=
  (h W args d ha trivial).mono fun e W' hr => by
    obtain ⟨v, rfl, ⟨⟨Z1, bs, vs, rfl, hv, _⟩, hk⟩⟩ := hr
    obtain ⟨u, rfl, cs, h1, h2, h3⟩ := hv
    have h1' : cs = [u] := h1
    have h2' : cs = [.bool true] := h2
    rw [h1'] at h2'
    injection h2' with h2' _
    exact ⟨by rw [h2']; rfl, below_of_kept hk⟩
end
end Go.SX
/- Functions that write into the rows that their first argument holds. No condition. -/
namespace Go.SX
open Go.RowKit
set_option linter.unusedVariables false
set_option linter.unusedSimpArgs false
structure MC where
  t : Ty
  pre : t.den → Int → Prop
  F : t.den → Int → Int
  G : t.den → Int → t.den
def Ent.old : Ent → Ent
  | .row _ e xs => .row false e xs
  | e => e
def Ty.lendBy (p : Ty → Bool) : Ty → Bool
  | .sl e => p e
  | .st t => t.lendBy p
  | .pr a b => a.lendBy p && b.lendBy p
  | .ptr _ => false
  | .clo _ _ => false
  | .gs _ _ => false
  | _ => true
def Ty.lendable (t : Ty) : Bool := t.lendBy Ty.flat
def lendSl (lk : Nat → Ent) (e : Ty) : C → Option (List e.den × Option Nat)
  | .own n =>
    match lk n with
    | .row _ e' xs => if h : e' = e then some (castL h xs, some n) else none
    | _ => none
  | .val (.slice none 0 0) => some ([], none)
  | _ => none
def lendC (lk : Nat → Ent) : (t : Ty) → List C → Option (t.den × List (Option Nat) × List C)
  | .int k, cs => match head1 (rdInt k) cs with | some (x, r) => some (x, [], r) | none => none
  | .bool, cs => match head1 rdBool cs with | some (x, r) => some (x, [], r) | none => none
  | .str, cs => match head1 rdStr cs with | some (x, r) => some (x, [], r) | none => none
  | .sl e, cs => match head1 (lendSl lk e) cs with | some ((x, n), r) => some (x, [n], r) | none => none
  | .st t, cs => lendC lk t cs
  | .pr a b, cs =>
    match lendC lk a cs with
    | some (x, ns, r) =>
      match lendC lk b r with
      | some (y, ms, r') => some ((x, y), lapp ns ms, r')
      | none => none
    | none => none
  | .ptr _, _ => none
  | .clo _ _, _ => none
  | .gs _ _, _ => none
def lendS (lk : Nat → Ent) (t : Ty) (s : S) : Option (t.den × List (Option Nat)) :=
  match s with
  | .c x => if isSt t then none else match lendC lk t [x] with | some (d, ns, []) => some (d, ns) | _ => none
  | .agg cs => if isSt t then match lendC lk t cs with | some (d, ns, []) => some (d, ns) | _ => none else none
  | _ => none
def namesOf : List (Option Nat) → List Nat
  | [] => []
  | some n :: r => n :: namesOf r
  | none :: r => namesOf r
def St.rewr (st : St) (n : Nat) (e : Ent) : St :=
  match st.ent n, e with
  | .row fr _ _, .row _ ty ys => { (st.map (killB n)) with hp := lset (st.map (killB n)).hp n (.row fr ty ys) }
  | _, _ => st
def St.rewrs (st : St) : List (Option Nat) → List Ent → St
  | some n :: ns, e :: es => (st.rewr n e).rewrs ns es
  | none :: ns, _ :: es => st.rewrs ns es
  | _, _ => st
def ruleOf (mc : MC) : Rule := fun ss st K =>
  match ss with
  | [s, .c (.val (.int .i64 k))] =>
    match lendS st.ent mc.t s with
    | some (d, ns) => if nodupN (namesOf ns) then mc.pre d k ∧ K (.c (.val (.int .i64 (mc.F d k)))) (st.rewrs ns (fresh mc.t (mc.G d k) 0).2) else False
    | none => False
  | _ => False
def sameLen : List Ent → List Ent → Option Prop
  | .row _ e xs :: r, .row _ e' ys :: r' => if e' = e then oand (some (ys.length = xs.length)) (sameLen r r') else some False
  | [], [] => none
  | _, _ => some False
def rowsAre (lk : Nat → Ent) : Nat → List Ent → Option Prop
  | _, [] => none
  | k, .row _ e ys :: r => oand (match lk k with | .row false e' xs => (if h : e' = e then some (castL h xs = ys) else some False) | _ => some False) (rowsAre lk (k + 1) r)
  | _, _ :: _ => some False
def startM (t : Ty) (d : t.den) (k : Int) (ntmps : Nat) : St :=
  { ts := topS (isSt t, (fresh t d 0).1) :: .c (.val (.int .i64 k)) :: lrep .und (ntmps - 2), hp := lmap Ent.old (fresh t d 0).2 }
def vcPostM (T : Tab) (fn : Func) (t : Ty) (out : Int) (after : t.den) (e : Ex) (st : St) : Prop :=
  match e with
  | .exit _ => False
  | _ =>
    match resAll T st fn.results.toList with
    | some [.c (.val (.int .i64 r))] => r = out ∧ toP (rowsAre st.ent 0 (fresh t after 0).2)
    | _ => False
def vcMut (T : Tab) (Γ : FuncId → Option PC) (R : FuncId → Option Rule) (fn : Func) (mc : MC) (A : mc.t.den → Int → Nat → Option Ann) : Prop :=
  match fn.body with
  | some code => ∀ d k, mc.t.wf d → IntKind.i64.min ≤ k ∧ k ≤ IntKind.i64.max → mc.pre d k →
      toP (sameLen (fresh mc.t d 0).2 (fresh mc.t (mc.G d k) 0).2) ∧ vc T Γ R code (A d k) (startM mc.t d k fn.ntmps) fun e _ st => vcPostM T fn mc.t (mc.F d k) (mc.G d k) e st
  | none => False
section
variable {P : Program} {T : Tab} {Γ : FuncId → Option PC} {R : FuncId → Option Rule} {base : Nat} {M : LM} {w0 : World} {V : Vl} {hp : Nat → Ent} {w w' : World}
theorem lids_flat {fr : Bool} {e : Ty} {xs : List e.den} (h : e.flat = true) : (Ent.row fr e xs).lids = [] := by
  cases fr with
  | true => rfl
  | false => show (if e.hasG then idsL e xs else []) = []; rw [flat_noG h]; rfl
theorem fresh_ents : ∀ (t : Ty) (d : t.den) (nx : Nat), (fresh t d nx).2 = (fresh t d 0).2 := by
  intro t
  induction t with
  | int k => intro d nx; rfl
  | bool => intro d nx; rfl
  | str => intro d nx; rfl
  | sl e ih => intro d nx; rfl
  | st t ih => intro d nx; exact ih d nx
  | pr a b iha ihb =>
    intro d nx
    show lapp (fresh a d.1 nx).2 (fresh b d.2 (nx + llen (fresh a d.1 nx).2)).2 = lapp (fresh a d.1 0).2 (fresh b d.2 (0 + llen (fresh a d.1 0).2)).2
    rw [iha d.1 nx, ihb d.2 (nx + _), ihb d.2 (0 + _)]
  | ptr t ih => intro d nx; rfl
  | clo f t ih => intro d nx; rfl
  | gs wh e ih => intro d nx; rfl
structure Lent (p : Ty → Bool) (V : Vl) (hp : Nat → Ent) (ns : List (Option Nat)) (es : List Ent) : Prop where
  len : ns.length = es.length
  row : ∀ (j n : Nat), ns[j]? = some (some n) → ∃ fr e xs, hp n = .row fr e xs ∧ p e = true ∧ es[j]? = some (.row true e xs)
  nil : ∀ (j : Nat), ns[j]? = some none → ∃ e, p e = true ∧ es[j]? = some (.row true e [])
structure Link (V : Vl) (ns : List (Option Nat)) (es : List Ent) (nx : Nat) (V' : Vl) (hp' : Nat → Ent) : Prop where
  ent : ∀ (j : Nat) e xs, es[j]? = some (.row true e xs) → hp' (nx + j) = .row false e xs
  row : ∀ (j n : Nat), ns[j]? = some (some n) → (V'.has (nx + j) ↔ V.has n) ∧ V'.blk (nx + j) = V.blk n
  nil : ∀ (j : Nat), ns[j]? = some none → ¬ V'.has (nx + j)
theorem mem_namesOf : ∀ {ns : List (Option Nat)} {j m : Nat}, ns[j]? = some (some m) → m ∈ namesOf ns
  | [], j, m, h => by cases h
  | x :: ns, j, m, h => by
    cases j with
    | zero => simp only [List.getElem?_cons_zero, Option.some.injEq] at h; subst h; exact List.mem_cons_self ..
    | succ j =>
      have := mem_namesOf (ns := ns) (j := j) (m := m) (by simpa using h)
      cases x with
      | none => exact this
      | some y => exact List.mem_cons_of_mem _ this
theorem namesOf_inj : ∀ {ns : List (Option Nat)}, (namesOf ns).Nodup → ∀ {j j' m : Nat}, ns[j]? = some (some m) → ns[j']? = some (some m) → j = j'
  | [], _, j, j', m, h, _ => by cases h
  | x :: ns, hnd, j, j', m, h, h' => by
    have hr : (namesOf ns).Nodup := by
      cases x with
      | none => exact hnd
      | some y => exact (List.nodup_cons.1 (show (y :: namesOf ns).Nodup from hnd)).2
    have hx : x = some m → m ∉ namesOf ns := by
      intro e; subst e
      exact (List.nodup_cons.1 (show (m :: namesOf ns).Nodup from hnd)).1
    cases j with
    | zero =>
      cases j' with
      | zero => rfl
      | succ j' =>
        simp only [List.getElem?_cons_zero, Option.some.injEq] at h
        exact absurd (mem_namesOf (ns := ns) (j := j') (by simpa using h')) (hx h)
    | succ j =>
      cases j' with
      | zero =>
        simp only [List.getElem?_cons_zero, Option.some.injEq] at h'
        exact absurd (mem_namesOf (ns := ns) (j := j) (by simpa using h)) (hx h')
      | succ j' => rw [namesOf_inj hr (j := j) (j' := j') (m := m) (by simpa using h) (by simpa using h')]
theorem lendC_ok {p : Ty → Bool} (he : ∀ n, (hp n).ok V hp w n) : ∀ (t : Ty) {cs : List C} {d : t.den} {ns : List (Option Nat)} {rest : List C} {vs : List Value}, t.lendBy p = true → lendC hp t cs = some (d, ns, rest) → okAll V hp w cs vs →
    ∃ vs1 vs2, vs = vs1 ++ vs2 ∧ okAll V hp w rest vs2 ∧ t.wf d ∧ Lent p V hp ns (fresh t d 0).2 ∧
      ∀ nx V' hp', Link V ns (fresh t d 0).2 nx V' hp' → okAll V' hp' w (fresh t d nx).1 vs1 := by
  intro t
  induction t with
  | int k =>
    intro cs d ns rest vs _ h ho
    simp only [lendC] at h
    split at h
    · rename_i x r hh
      injection h with h; injection h with h1 h2; injection h2 with h2 h3; subst h1; subst h2; subst h3
      obtain ⟨c, rfl, hc⟩ := head1_some hh
      obtain ⟨v, vs', rfl, h1, h2⟩ := okAll_cons' ho
      obtain ⟨rfl, h3⟩ := rdInt_ok hc h1
      exact ⟨[_], vs', rfl, h2, h3, ⟨rfl, (fun j n h => by cases h), (fun j h => by cases h)⟩, fun nx V' hp' _ => okAll_cons_mk ⟨rfl, h3⟩ okAll_nil⟩
    · cases h
  | bool =>
    intro cs d ns rest vs _ h ho
    simp only [lendC] at h
    split at h
    · rename_i x r hh
      injection h with h; injection h with h1 h2; injection h2 with h2 h3; subst h1; subst h2; subst h3
      obtain ⟨c, rfl, hc⟩ := head1_some hh
      obtain ⟨v, vs', rfl, h1, h2⟩ := okAll_cons' ho
      have h3 := rdBool_ok hc h1
      subst h3
      exact ⟨[_], vs', rfl, h2, trivial, ⟨rfl, (fun j n h => by cases h), (fun j h => by cases h)⟩, fun nx V' hp' _ => okAll_cons_mk ⟨rfl, trivial⟩ okAll_nil⟩
    · cases h
  | str =>
    intro cs d ns rest vs _ h ho
    simp only [lendC] at h
    split at h
    · rename_i x r hh
      injection h with h; injection h with h1 h2; injection h2 with h2 h3; subst h1; subst h2; subst h3
      obtain ⟨c, rfl, hc⟩ := head1_some hh
      obtain ⟨v, vs', rfl, h1, h2⟩ := okAll_cons' ho
      obtain ⟨rfl, h3⟩ := rdStr_ok hc h1
      exact ⟨[_], vs', rfl, h2, h3, ⟨rfl, (fun j n h => by cases h), (fun j h => by cases h)⟩, fun nx V' hp' _ => okAll_cons_mk ⟨rfl, h3⟩ okAll_nil⟩
    · cases h
  | sl e ih =>
    intro cs d ns rest vs hfl h ho
    have hfl : p e = true := hfl
    simp only [lendC] at h
    split at h
    · rename_i x n r hh
      injection h with h; injection h with h1 h2; injection h2 with h2 h3; subst h1; subst h2; subst h3
      obtain ⟨c, rfl, hc⟩ := head1_some hh
      obtain ⟨v, vs', rfl, h1, h2⟩ := okAll_cons' ho
      refine ⟨[v], vs', rfl, h2, ?_⟩
      unfold lendSl at hc
      split at hc
      · rename_i m
        split at hc
        · rename_i e' xs hm
          split at hc
          · rename_i hk; subst hk
            injection hc with hc; injection hc with q1 q2; subst q1; subst q2
            obtain ⟨fr2, e2, xs2, q3, q4⟩ := h1
            rw [hm] at q3
            injection q3 with q5 q6 q7
            subst q5; subst q6; cases q7
            refine ⟨?_, ⟨rfl, fun j n hj => ?_, fun j hj => ?_⟩, fun nx V' hp' hl => ?_⟩
            · have h0 := he m
              rw [hm] at h0
              rcases h0 with ⟨_, rfl⟩ | ⟨_, vals, el, _, k1, k2⟩
              · exact ⟨Nat.zero_le _, fun x hx => by cases hx⟩
              · refine ⟨k1, fun x hx => ?_⟩
                obtain ⟨i, hi, rfl⟩ := List.getElem_of_mem hx
                obtain ⟨es, _, _, k3⟩ := k2 i hi
                exact k3.wf
            · cases j with
              | zero => simp only [List.getElem?_cons_zero, Option.some.injEq] at hj; subst hj; exact ⟨_, _, _, hm, hfl, rfl⟩
              | succ j => simp at hj
            · cases j with
              | zero => simp only [List.getElem?_cons_zero, Option.some.injEq] at hj; cases hj
              | succ j => simp at hj
            · obtain ⟨a1, a2⟩ := hl.row 0 m rfl
              have a3 := hl.ent 0 e' xs rfl
              rw [Nat.add_zero] at a1 a2 a3
              refine okAll_cons_mk ⟨_, _, _, a3, ?_⟩ okAll_nil
              rcases q4 with ⟨b1, b2, b3⟩ | ⟨b1, cap, vals, el, b2, b3, b4, b5⟩
              · exact .inl ⟨fun h => b1 (a1.1 h), b2, b3⟩
              · exact .inr ⟨a1.2 b1, cap, vals, el, by rw [a2]; exact b2, by rw [a2]; exact b3, b4, b5⟩
          · cases hc
        · cases hc
      · injection hc with hc; injection hc with q1 q2; subst q1; subst q2
        refine ⟨⟨Nat.zero_le _, fun x hx => by cases hx⟩, ⟨rfl, fun j n hj => ?_, fun j hj => ?_⟩, fun nx V' hp' hl => ?_⟩
        · cases j with
          | zero => simp only [List.getElem?_cons_zero, Option.some.injEq] at hj; cases hj
          | succ j => simp at hj
        · cases j with
          | zero => exact ⟨e, hfl, rfl⟩
          | succ j => simp at hj
        · have a1 := hl.nil 0 rfl
          have a3 := hl.ent 0 e [] rfl
          rw [Nat.add_zero] at a1 a3
          exact okAll_cons_mk ⟨_, _, _, a3, .inl ⟨a1, h1.1, rfl⟩⟩ okAll_nil
      · cases hc
    · cases h
  | st t ih => exact fun hl h ho => ih hl h ho
  | pr a b iha ihb =>
    intro cs d ns rest vs hfl h ho
    have hfl' : (a.lendBy p && b.lendBy p) = true := hfl
    rw [Bool.and_eq_true] at hfl'
    simp only [lendC] at h
    split at h
    · rename_i x ns1 r1 hx
      split at h
      · rename_i y ns2 r2 hy
        injection h with h; injection h with h1 h2; injection h2 with h2 h3; subst h1; subst h2; subst h3
        obtain ⟨u1, u2, rfl, k1, k2, k3, k4⟩ := iha hfl'.1 hx ho
        obtain ⟨u3, u4, rfl, l1, l2, l3, l4⟩ := ihb hfl'.2 hy k1
        have hes : (fresh (.pr a b) (x, y) 0).2 = (fresh a x 0).2 ++ (fresh b y 0).2 := by
          show lapp (fresh a x 0).2 (fresh b y (0 + llen (fresh a x 0).2)).2 = _
          rw [lapp_eq, fresh_ents b]
        rw [lapp_eq, hes]
        refine ⟨u1 ++ u3, u4, by rw [List.append_assoc], l1, ⟨k2, l2⟩, ⟨by simp [k3.len, l3.len], fun j n hj => ?_, fun j hj => ?_⟩, fun nx V' hp' hl => ?_⟩
        · rw [List.getElem?_append] at hj
          split at hj
          · rename_i hlt
            obtain ⟨fr, e, xs, g1, g2, g3⟩ := k3.row j n hj
            exact ⟨fr, e, xs, g1, g2, by rw [List.getElem?_append_left (by rw [← k3.len]; exact hlt)]; exact g3⟩
          · rename_i hlt
            obtain ⟨fr, e, xs, g1, g2, g3⟩ := l3.row (j - ns1.length) n hj
            exact ⟨fr, e, xs, g1, g2, by rw [List.getElem?_append_right (by rw [← k3.len]; omega), ← k3.len]; exact g3⟩
        · rw [List.getElem?_append] at hj
          split at hj
          · rename_i hlt
            obtain ⟨e, g2, g3⟩ := k3.nil j hj
            exact ⟨e, g2, by rw [List.getElem?_append_left (by rw [← k3.len]; exact hlt)]; exact g3⟩
          · rename_i hlt
            obtain ⟨e, g2, g3⟩ := l3.nil (j - ns1.length) hj
            exact ⟨e, g2, by rw [List.getElem?_append_right (by rw [← k3.len]; omega), ← k3.len]; exact g3⟩
        · have c1 : (fresh (.pr a b) (x, y) nx).1 = (fresh a x nx).1 ++ (fresh b y (nx + ns1.length)).1 := by
            show lapp (fresh a x nx).1 (fresh b y (nx + llen (fresh a x nx).2)).1 = _
            rw [lapp_eq, llen_eq, fresh_ents a, k3.len]
          rw [c1]
          refine okAll_append (k4 nx V' hp' ⟨fun j e xs hj => hl.ent j e xs ?_, fun j n hj => hl.row j n ?_, fun j hj => hl.nil j ?_⟩)
            (l4 (nx + ns1.length) V' hp' ⟨fun j e xs hj => ?_, fun j n hj => ?_, fun j hj => ?_⟩)
          · rw [List.getElem?_append_left (List.getElem?_eq_some_iff.1 hj).1]; exact hj
          · rw [List.getElem?_append_left (List.getElem?_eq_some_iff.1 hj).1]; exact hj
          · rw [List.getElem?_append_left (List.getElem?_eq_some_iff.1 hj).1]; exact hj
          · rw [Nat.add_assoc]
            refine hl.ent (ns1.length + j) e xs ?_
            rw [List.getElem?_append_right (by rw [← k3.len]; omega), ← k3.len, Nat.add_sub_cancel_left]; exact hj
          · rw [Nat.add_assoc]
            refine hl.row (ns1.length + j) n ?_
            rw [List.getElem?_append_right (by omega), Nat.add_sub_cancel_left]; exact hj
          · rw [Nat.add_assoc]
            refine hl.nil (ns1.length + j) ?_
            rw [List.getElem?_append_right (by omega), Nat.add_sub_cancel_left]; exact hj
      · cases h
    · cases h
  | ptr t ih => intro cs d ns rest vs h; cases h
  | clo f t ih => intro cs d ns rest vs h; cases h
  | gs wh e ih => intro cs d ns rest vs h; cases h
theorem lendS_ok {p : Ty → Bool} (he : ∀ n, (hp n).ok V hp w n) {t : Ty} {s : S} {d : t.den} {ns : List (Option Nat)} {v : Value} (hl : t.lendBy p = true) (h : lendS hp t s = some (d, ns)) (ho : S.ok V hp w s v) :
    t.wf d ∧ Lent p V hp ns (fresh t d 0).2 ∧ ∀ V' hp', Link V ns (fresh t d 0).2 0 V' hp' → S.ok V' hp' w (topS (isSt t, (fresh t d 0).1)) v := by
  unfold lendS at h
  split at h
  · rename_i x
    split at h
    · cases h
    · rename_i hst
      split at h
      · rename_i d' ns' hc
        injection h with h; injection h with h1 h2; subst h1; subst h2
        obtain ⟨vs1, vs2, e1, k1, k2, k3, k4⟩ := lendC_ok he t (vs := [v]) hl hc (okAll_cons_mk ho okAll_nil)
        have hv2 : vs2 = [] := by have := k1.1; simpa using this.symm
        subst hv2
        rw [List.append_nil] at e1
        subst e1
        refine ⟨k2, k3, fun V' hp' hk => ?_⟩
        have ho' := k4 0 V' hp' hk
        unfold topS
        rw [if_neg (by simpa using hst)]
        have hl1 := ho'.1
        split
        · rename_i c hcc
          simp only at hcc
          rw [hcc] at ho'
          exact ho'.2 0 c v rfl rfl
        · trivial
      · cases h
  · rename_i cs
    split at h
    · rename_i hst
      split at h
      · rename_i d' ns' hc
        injection h with h; injection h with h1 h2; subst h1; subst h2
        obtain ⟨us, rfl, ho⟩ := ho
        obtain ⟨vs1, vs2, e1, k1, k2, k3, k4⟩ := lendC_ok he t hl hc ho
        have hv2 : vs2 = [] := by have := k1.1; simpa using this.symm
        subst hv2
        rw [List.append_nil] at e1
        refine ⟨k2, k3, fun V' hp' hk => ?_⟩
        have ho' := k4 0 V' hp' hk
        unfold topS
        rw [if_pos hst]
        exact ⟨us, rfl, by rw [e1]; exact ho'⟩
      · cases h
    · cases h
  · cases h
theorem rel_grow {st : St} {ts : Array Value} (r : Rel base M w0 V st ts w) (k : Kept w.heap.size noM w w') : Rel base M w0 V st ts w' := by
  have m := r.mem
  have x : VX V st.ent w V st.ent w' := ⟨fun _ _ => ⟨rfl, Iff.rfl, rfl⟩, fun _ h => h, fun _ h => h, fun b h => k.block b (m.z_lt h) (fun x => x), fun n hl hh => k.block _ (m.own n hl hh).2.1 (fun x => x)⟩
  refine ⟨r.len, fun i s v hs hv => S.ok_ext x (r.slots i s v hs hv), ?_⟩
  have hsz := k.size
  refine ⟨fun n => ?_, m.box, fun n hl hh => ?_, m.mine, m.dist, m.z0, fun b hb => ?_, m.kept.trans k, m.lent, m.lentb, m.lids⟩
  · cases hl : (st.ent n).live with
    | true => exact Ent.ok_ext x (m.ents n) (fun cs => m.box n cs) hl
    | false =>
      cases he : st.ent n with
      | dead => trivial
      | bx cs => rw [he] at hl; cases hl
      | row fr e xs => rw [he] at hl; cases hl
  · obtain ⟨h1, h2, h3⟩ := m.own n hl hh
    exact ⟨h1, by omega, h3⟩
  · obtain ⟨h1, h2⟩ := m.z1 b hb
    exact ⟨h1, by omega⟩
theorem lset_self (hp : List Ent) (n : Nat) (h : n < hp.length) : lset hp n (nth .dead hp n) = hp := by
  rw [lset_eq, nth_eq, List.getElem?_eq_getElem h]
  simp
theorem rel_rewr {st : St} {ts : Array Value} (r : Rel base M w0 V st ts w) {n : Nat} {fr : Bool} {e : Ty} {xs ys : List e.den} (hn : st.ent n = .row fr e xs) (hfl : e.flat = true) (hlen : ys.length = xs.length)
    (hblk : ∀ b, (V.has n → b ≠ V.blk n) → w'.heap[b]? = w.heap[b]?) (hos : w'.os = w.os ∧ w'.tape = w.tape ∧ w'.output = w.output) (hsz : w'.heap.size = w.heap.size)
    (hc : V.has n → ∃ vals el vals' el', w.heap[V.blk n]? = some (.cells vals el (0, 0)) ∧ w'.heap[V.blk n]? = some (.cells vals' el' (0, 0)) ∧ vals'.size = vals.size ∧ RowAt anyZ w' e vals' ys) :
    Rel base M w0 V { (st.map (killB n)) with hp := lset (st.map (killB n)).hp n (.row fr e ys) } ts w' := by
  have m := r.mem
  have hl : (st.ent n).live = true := by rw [hn]; rfl
  have hok := m.ents n
  rw [hn] at hok
  by_cases hh : V.has n
  · obtain ⟨vals, el, vals', el', k1, k2, k3, k4⟩ := hc hh
    rcases hok with ⟨q, _⟩ | ⟨_, vals0, el0, q1, q2, q3⟩
    · exact absurd hh q
    · have hown := m.own n hl hh
      have kw : Wr V st.ent w n (hpSet st.ent n (.row fr e ys)) w' :=
        ⟨fun k hk => by simp only [hpSet, if_neg hk], fun b hb => hblk b (fun _ => hb), hh, .inr ⟨fr, fr, e, xs, ys, hn, by simp only [hpSet, if_true], hlen.symm, vals, vals', el, el', k1, k2, k3.symm⟩⟩
      have hk' : Kept base M w0 w' := by
        refine ⟨hos.1.trans m.kept.os, hos.2.1.trans m.kept.tape, hos.2.2.trans m.kept.output, by rw [hsz]; exact m.kept.size, fun b hb hM => ?_, fun b v2 e2 hb hM hv => ?_⟩
        · rw [hblk b (fun _ e => by subst e; rcases hown.1 with h | h; omega; exact hM h)]
          exact m.kept.block b hb hM
        · obtain ⟨v3, e3, h3, h4⟩ := m.kept.shape b v2 e2 hb hM hv
          by_cases hbe : b = V.blk n
          · subst hbe
            rw [k1] at h3
            injection h3 with h3
            injection h3 with h3 _ _
            subst h3
            exact ⟨vals', el', k2, by rw [k3]; exact h4⟩
          · exact ⟨v3, e3, by rw [hblk b (fun _ => hbe)]; exact h3, h4⟩
      refine rel_write r kw rfl hk' hsz ?_ (fun e2 xs2 heq => ?_) (fun cs heq => by cases heq) (fun hlt => ?_) (fun _ q hq => by rw [lids_flat hfl] at hq; cases hq)
      · refine .inr ⟨hh, vals', el', k2, by rw [hlen]; exact q2, fun i hi => ?_⟩
        obtain ⟨es, a1, a2, a3⟩ := k4 i hi
        exact ⟨es, a1, a2, a3.flat hfl⟩
      · injection heq with h1 h2 h3
        subst h1
        exact m.mine n e xs hn hh
      · refine m.lent n ?_ hh
        rw [hn]
        cases fr with
        | true => exact hlt.elim
        | false => exact hlt
  · rcases hok with ⟨_, q⟩ | ⟨q, _⟩
    · have hy : ys = xs := by rw [q] at hlen ⊢; exact List.length_eq_zero_iff.1 hlen
      rw [hy]
      have r1 := (rel_grow (w' := w') r ⟨hos.1, hos.2.1, hos.2.2, by omega, fun b _ _ => hblk b (fun h => absurd h hh), fun _ _ _ _ h _ => h.elim⟩).kill (kills_killB n)
      have hlt : n < (st.map (killB n)).hp.length := by
        show n < (lmap _ _).length
        rw [lmap_eq, List.length_map]; exact ent_lt hl
      have he : (st.map (killB n)).ent n = .row fr e xs := by
        rw [ent_map]; show (st.ent n).map _ = _; rw [hn]; rfl
      have hs := lset_self (st.map (killB n)).hp n hlt
      rw [show nth .dead (st.map (killB n)).hp n = .row fr e xs from he] at hs
      rw [hs]
      exact r1
    · exact absurd q hh
theorem rewr_ent {st : St} {n m : Nat} {fr fr' : Bool} {e : Ty} {xs : List e.den} {fr2 : Bool} {e2 : Ty} {ys : List e2.den} (hn : st.ent n = .row fr e xs) (hm : m ≠ n) {f3 : Bool} {e3 : Ty} {zs : List e3.den} (h : st.ent m = .row f3 e3 zs) :
    (st.rewr n (.row fr2 e2 ys)).ent m = .row f3 e3 zs := by
  unfold St.rewr
  rw [hn]
  simp only
  have hlt : n < (st.map (killB n)).hp.length := by
    show n < (lmap _ _).length
    rw [lmap_eq, List.length_map]; exact ent_lt (by rw [hn]; rfl)
  rw [ent_set hlt]
  simp only [hpSet, if_neg hm]
  show (st.map (killB n)).ent m = _
  rw [ent_map]
  show (st.ent m).map _ = _
  rw [h]; rfl
theorem rel_rewrs {ts : Array Value} : ∀ (ns : List (Option Nat)) (es : List Ent) {st : St} {w : World}, Rel base M w0 V st ts w → (namesOf ns).Nodup → ns.length = es.length →
    (w.heap.size ≤ w'.heap.size ∧ w'.os = w.os ∧ w'.tape = w.tape ∧ w'.output = w.output) → (∀ b, b < w.heap.size → (∀ n ∈ namesOf ns, V.has n → b ≠ V.blk n) → w'.heap[b]? = w.heap[b]?) →
    (∀ (j n : Nat) e, ns[j]? = some (some n) → es[j]? = some e → ∃ fr ty xs ys, st.ent n = .row fr ty xs ∧ ty.flat = true ∧ e = .row true ty ys ∧ ys.length = xs.length ∧
      (V.has n → ∃ vals el vals' el', w.heap[V.blk n]? = some (.cells vals el (0, 0)) ∧ w'.heap[V.blk n]? = some (.cells vals' el' (0, 0)) ∧ vals'.size = vals.size ∧ RowAt anyZ w' ty vals' ys)) →
    Rel base M w0 V (st.rewrs ns es) ts w'
  | [], es, st, w, r, _, _, ho, hb, _ => by
    have : st.rewrs [] es = st := by unfold St.rewrs; rfl
    rw [this]
    exact rel_grow r ⟨ho.2.1, ho.2.2.1, ho.2.2.2, ho.1, fun b hlt _ => hb b hlt (fun n hn => by cases hn), fun _ _ _ _ h _ => h.elim⟩
  | none :: ns, e :: es, st, w, r, hnd, hl, ho, hb, hrow => by
    have : st.rewrs (none :: ns) (e :: es) = st.rewrs ns es := by rw [St.rewrs]
    rw [this]
    exact rel_rewrs ns es r hnd (by simpa using hl) ho hb (fun j n e h1 h2 => hrow (j + 1) n e (by simpa using h1) (by simpa using h2))
  | some n :: ns, e :: es, st, w, r, hnd, hl, ho, hb, hrow => by
    have : st.rewrs (some n :: ns) (e :: es) = (st.rewr n e).rewrs ns es := by rw [St.rewrs]
    rw [this]
    have hnd' : (n :: namesOf ns).Nodup := hnd
    rw [List.nodup_cons] at hnd'
    obtain ⟨fr, ty, xs, ys, h1, h2, h3, h4, h5⟩ := hrow 0 n e rfl rfl
    subst h3
    -- the world in which row n alone has changed
    obtain ⟨w1, hw1⟩ : ∃ w1 : World, w1.os = w.os ∧ w1.tape = w.tape ∧ w1.output = w.output ∧ w1.heap.size = w.heap.size ∧ (∀ b, (V.has n → b ≠ V.blk n) → w1.heap[b]? = w.heap[b]?) ∧ (V.has n → w1.heap[V.blk n]? = w'.heap[V.blk n]?) := by
      by_cases hh : V.has n
      · obtain ⟨vals, el, vals', el', k1, k2, _, _⟩ := h5 hh
        have hlt : V.blk n < w.heap.size := (Array.getElem?_eq_some_iff.1 k1).1
        refine ⟨{ w with heap := w.heap.setIfInBounds (V.blk n) (.cells vals' el' (0, 0)) }, rfl, rfl, rfl, by simp, fun b hb' => ?_, fun _ => ?_⟩
        · show (w.heap.setIfInBounds _ _)[b]? = _
          rw [Array.getElem?_setIfInBounds, if_neg (fun e => hb' hh e.symm)]
        · show (w.heap.setIfInBounds _ _)[V.blk n]? = _
          rw [Array.getElem?_setIfInBounds, if_pos rfl, if_pos hlt, k2]
      · exact ⟨w, rfl, rfl, rfl, rfl, fun _ _ => rfl, fun h => absurd h hh⟩
    obtain ⟨o1, o2, o3, o4, o5, o6⟩ := hw1
    have r1 : Rel base M w0 V (st.rewr n (.row true ty ys)) ts w1 := by
      have hs : st.rewr n (.row true ty ys) = { (st.map (killB n)) with hp := lset (st.map (killB n)).hp n (.row fr ty ys) } := by unfold St.rewr; rw [h1]
      rw [hs]
      refine rel_rewr r h1 h2 h4 o5 ⟨o1, o2, o3⟩ o4 (fun hh => ?_)
      obtain ⟨vals, el, vals', el', k1, k2, k3, k4⟩ := h5 hh
      exact ⟨vals, el, vals', el', k1, by rw [o6 hh]; exact k2, k3, fun i hi => by obtain ⟨es, a1, a2, a3⟩ := k4 i hi; exact ⟨es, a1, a2, a3.flat h2⟩⟩
    refine rel_rewrs ns es r1 hnd'.2 (by simpa using hl) ⟨by rw [o4]; exact ho.1, by rw [o1]; exact ho.2.1, by rw [o2]; exact ho.2.2.1, by rw [o3]; exact ho.2.2.2⟩ (fun b hlt hb' => ?_) (fun j m e' hj he' => ?_)
    · rw [o4] at hlt
      by_cases hbn : V.has n ∧ b = V.blk n
      · rw [hbn.2, o6 hbn.1]
      · rw [o5 b (fun hh e => hbn ⟨hh, e⟩)]
        refine hb b hlt (fun m hm hh e => ?_)
        rcases List.mem_cons.1 (show m ∈ n :: namesOf ns from hm) with rfl | hm
        · exact hbn ⟨hh, e⟩
        · exact hb' m hm hh e
    · obtain ⟨fr2, ty2, xs2, ys2, g1, g2, g3, g4, g5⟩ := hrow (j + 1) m e' (by simpa using hj) (by simpa using he')
      have hmn : m ≠ n := fun e => hnd'.1 (by rw [← e]; exact mem_namesOf hj)
      refine ⟨fr2, ty2, xs2, ys2, rewr_ent (fr' := true) h1 hmn g1, g2, g3, g4, fun hh => ?_⟩
      obtain ⟨vals, el, vals', el', k1, k2, k3, k4⟩ := g5 hh
      refine ⟨vals, el, vals', el', ?_, k2, k3, k4⟩
      rw [o5 _ (fun hhn e => hmn (r.mem.dist m n (by rw [g1]; rfl) (by rw [h1]; rfl) hh hhn e))]
      exact k1
  | some n :: ns, [], st, w, r, hnd, hl, ho, hb, hrow => by simp at hl
  | none :: ns, [], st, w, r, hnd, hl, ho, hb, hrow => by simp at hl
theorem sameLen_get : ∀ {as bs : List Ent}, toP (sameLen as bs) → as.length = bs.length ∧ ∀ (j : Nat) (f : Bool) (e : Ty) (xs : List e.den), as[j]? = some (.row f e xs) → ∃ f' ys, bs[j]? = some (.row f' e ys) ∧ ys.length = xs.length
  | [], [], _ => ⟨rfl, fun j f e xs h => by cases h⟩
  | [], b :: bs, h => by cases b <;> exact h.elim
  | a :: as, [], h => by cases a <;> exact h.elim
  | .dead :: as, b :: bs, h => by cases b <;> exact h.elim
  | .bx cs :: as, b :: bs, h => by cases b <;> exact h.elim
  | .row f e xs :: as, .dead :: bs, h => h.elim
  | .row f e xs :: as, .bx cs :: bs, h => h.elim
  | .row f e xs :: as, .row f' e' ys :: bs, h => by
    unfold sameLen at h
    split at h
    · rename_i he
      subst he
      obtain ⟨h1, h2⟩ := toP_oand.1 h
      have h1 : ys.length = xs.length := h1
      obtain ⟨h3, h4⟩ := sameLen_get h2
      refine ⟨by simp [h3], fun j f2 e2 xs2 hj => ?_⟩
      cases j with
      | zero =>
        simp only [List.getElem?_cons_zero, Option.some.injEq, Ent.row.injEq] at hj
        obtain ⟨q1, q2, q3⟩ := hj
        subst q2; cases q3
        exact ⟨f', ys, rfl, h1⟩
      | succ j => exact h4 j f2 e2 xs2 (by simpa using hj)
    · exact h.elim
theorem rowsAre_get {lk : Nat → Ent} : ∀ {es : List Ent} {k : Nat}, toP (rowsAre lk k es) → ∀ (j : Nat) (f : Bool) (e : Ty) (ys : List e.den), es[j]? = some (.row f e ys) → lk (k + j) = .row false e ys
  | [], k, _, j, f, e, ys, h => by cases h
  | .dead :: es, k, h, _, _, _, _, _ => h.elim
  | .bx cs :: es, k, h, _, _, _, _, _ => h.elim
  | .row f0 e0 ys0 :: es, k, h, j, f, e, ys, hj => by
    unfold rowsAre at h
    obtain ⟨h1, h2⟩ := toP_oand.1 h
    cases j with
    | zero =>
      simp only [List.getElem?_cons_zero, Option.some.injEq, Ent.row.injEq] at hj
      obtain ⟨q1, q2, q3⟩ := hj
      subst q2; cases q3
      split at h1
      · rename_i e' xs hlk
        split at h1
        · rename_i he
          subst he
          have h1 : xs = ys0 := h1
          rw [Nat.add_zero, hlk, h1]
        · exact h1.elim
      · exact h1.elim
    | succ j =>
      have := rowsAre_get h2 j f e ys (by simpa using hj)
      rw [← this]; congr 1; omega
theorem fresh_true : ∀ (t : Ty) (d : t.den) (nx : Nat), ∀ e ∈ (fresh t d nx).2, ∀ f ty xs, e = .row f ty xs → f = true := by
  intro t
  induction t with
  | int k => intro d nx e he; simp [fresh] at he
  | bool => intro d nx e he; simp [fresh] at he
  | str => intro d nx e he; simp [fresh] at he
  | sl e ih => intro d nx e' he f ty xs h; simp [fresh] at he; rw [he] at h; injection h with h; exact h.symm
  | st t ih => exact fun d nx e he => ih d nx e he
  | pr a b iha ihb =>
    intro d nx e he
    unfold fresh at he
    simp only [lapp_eq, List.mem_append] at he
    exact he.elim (iha _ _ e) (ihb _ _ e)
  | ptr t ih => intro d nx e he; simp [fresh] at he
  | clo f t ih => intro d nx e he; simp [fresh] at he
  | gs wh e ih => intro d nx e he; simp [fresh] at he
theorem vcMut_rule (hm : P.follows .mixedOrders = true) (hT : TabOk P T) (hΓ : GamOk P Γ) (hR : RulesOk P R) {f : FuncId} {fn : Func} (hf : P.funcs[f]? = some fn) {mc : MC} {A : mc.t.den → Int → Nat → Option Ann}
    (hl : mc.t.lendable = true) (h : vcMut T Γ R fn mc A) : RuleOk P f (ruleOf mc) := by
  intro base M w0 V st ts w ss vs K r hlen hslots hrule
  unfold ruleOf at hrule
  split at hrule
  · rename_i s k
    split at hrule
    · rename_i d ns hlend
      split at hrule
      · rename_i hnd
        obtain ⟨hpre, hK⟩ := hrule
        have hnd := nodupN_ok hnd
        match vs, hlen with
        | [v, u], _ =>
          have hv := hslots 0 s v rfl rfl
          have hu : u = .int .i64 k ∧ IntKind.i64.min ≤ k ∧ k ≤ IntKind.i64.max := ok_int (V := V) (hp := st.ent) (w := w) (hslots 1 _ u rfl rfl)
          obtain ⟨rfl, hkr⟩ := hu
          have mm := r.mem
          obtain ⟨hwf, hL, hslot⟩ := lendS_ok mm.ents hl hlend hv
          unfold vcMut at h
          split at h
          · rename_i code hb
            obtain ⟨hsame, hvc⟩ := h d k hwf hkr hpre
            obtain ⟨sl1, sl2⟩ := sameLen_get hsame
            generalize hes : (fresh mc.t d 0).2 = es at *
            generalize hes' : (fresh mc.t (mc.G d k) 0).2 = es' at *
            -- the callee's names
            let V0 : Vl := ⟨fun j => match ns[j]? with | some (some n) => V.blk n | _ => 0, fun j => match ns[j]? with | some (some n) => V.has n | _ => False, fun _ => False, fun _ => False⟩
            let M0 : LM := ⟨fun b => ∃ (j n : Nat), ns[j]? = some (some n) ∧ V.has n ∧ b = V.blk n, fun b j => ∃ n : Nat, ns[j]? = some (some n) ∧ V.has n ∧ b = V.blk n, fun _ => True, fun _ _ => trivial, fun _ => False⟩
            have hrow : ∀ (j n : Nat), ns[j]? = some (some n) → (V0.has j ↔ V.has n) ∧ V0.blk j = V.blk n := by
              intro j n hj
              show ((match ns[j]? with | some (some n) => V.has n | _ => False) ↔ _) ∧ (match ns[j]? with | some (some n) => V.blk n | _ => 0) = _
              rw [hj]; exact ⟨Iff.rfl, rfl⟩
            have hnil : ∀ (j : Nat), (∀ n, ns[j]? ≠ some (some n)) → ¬ V0.has j := by
              intro j hj hh
              have hh : (match ns[j]? with | some (some n) => V.has n | _ => False) := hh
              split at hh
              · rename_i n hn; exact hj n hn
              · exact hh
            have hhas : ∀ (j : Nat), V0.has j → ∃ n, ns[j]? = some (some n) ∧ V.has n ∧ V0.blk j = V.blk n := by
              intro j hh
              by_cases hx : ∃ n, ns[j]? = some (some n)
              · obtain ⟨n, hn⟩ := hx
                exact ⟨n, hn, (hrow j n hn).1.1 hh, (hrow j n hn).2⟩
              · exact absurd hh (hnil j (fun n hn => hx ⟨n, hn⟩))
            have hent0 : ∀ (j : Nat), (startM mc.t d k fn.ntmps).ent j = match es[j]? with | some e => e.old | none => .dead := by
              intro j
              show nth .dead (lmap Ent.old (fresh mc.t d 0).2) j = _
              rw [hes, nth_eq, lmap_eq, List.getElem?_map]
              cases es[j]? <;> rfl
            have hrows : ∀ (j : Nat) e, es[j]? = some e → ∃ ty xs, e = .row true ty xs ∧ ty.flat = true := by
              intro j e hj
              have hlt : j < ns.length := by rw [hL.len]; exact (List.getElem?_eq_some_iff.1 hj).1
              have hn : ns[j]? = some ns[j] := List.getElem?_eq_getElem hlt
              cases hx : ns[j] with
              | none =>
                rw [hx] at hn
                obtain ⟨ty, g1, g2⟩ := hL.nil j hn
                rw [hj] at g2; injection g2 with g2; exact ⟨ty, [], g2, g1⟩
              | some n =>
                rw [hx] at hn
                obtain ⟨fr, ty, xs, _, g1, g2⟩ := hL.row j n hn
                rw [hj] at g2; injection g2 with g2; exact ⟨ty, xs, g2, g1⟩
            have hent1 : ∀ (j : Nat) e xs, (startM mc.t d k fn.ntmps).ent j = .row false e xs → es[j]? = some (.row true e xs) := by
              intro j e xs hj
              rw [hent0] at hj
              cases hx : es[j]? with
              | none => rw [hx] at hj; cases hj
              | some e' =>
                obtain ⟨ty, ys, rfl, _⟩ := hrows j e' hx
                rw [hx] at hj
                have hj' : Ent.row false ty ys = .row false e xs := hj
                injection hj' with _ q1 q2
                subst q1; cases q2; rfl
            have hlive : ∀ j, ((startM mc.t d k fn.ntmps).ent j).live = true → ∃ e xs, (startM mc.t d k fn.ntmps).ent j = .row false e xs ∧ e.flat = true := by
              intro j hj
              rw [hent0] at hj ⊢
              cases hx : es[j]? with
              | none => rw [hx] at hj; cases hj
              | some e' =>
                obtain ⟨ty, ys, rfl, hfl⟩ := hrows j e' hx
                exact ⟨ty, ys, rfl, hfl⟩
            have hnoelse : ∀ j fr e xs, (startM mc.t d k fn.ntmps).ent j = .row fr e xs → fr = false := by
              intro j fr e xs hj
              obtain ⟨e2, xs2, q1, _⟩ := hlive j (by rw [hj]; rfl)
              rw [hj] at q1; injection q1
            have hnobx : ∀ j cs, (startM mc.t d k fn.ntmps).ent j ≠ .bx cs := by
              intro j cs hj
              obtain ⟨e2, xs2, q1, _⟩ := hlive j (by rw [hj]; rfl)
              rw [hj] at q1; cases q1
            have hnames : ∀ (j n : Nat), ns[j]? = some (some n) → (st.ent n).live = true := by
              intro j n hj
              obtain ⟨fr, e, xs, q, _⟩ := hL.row j n hj
              rw [q]; rfl
            have mem0 : Mem w.heap.size M0 w V0 (startM mc.t d k fn.ntmps).ent w := by
              refine ⟨fun j => ?_, fun j cs hj => absurd hj (hnobx j cs), fun j hj hh => ?_, fun j e xs hj => absurd (hnoelse j _ e xs hj) (by simp), fun j j' hj hj' hh hh' hb' => ?_, fun b h => h.elim, fun b h => h.elim, ⟨rfl, rfl, rfl, Nat.le_refl _, fun _ _ _ => rfl, fun b v2 e2 _ _ hv2 => ⟨v2, e2, hv2, rfl⟩⟩, fun j hj hh => ?_, fun b hb => hb.elim, fun j hh q hq => ?_⟩
              · cases hlv : ((startM mc.t d k fn.ntmps).ent j).live with
                | false =>
                  cases hx : (startM mc.t d k fn.ntmps).ent j with
                  | dead => trivial
                  | bx cs => exact absurd hx (hnobx j cs)
                  | row fr e xs => rw [hx] at hlv; cases hlv
                | true =>
                  obtain ⟨e, xs, hx, hfl⟩ := hlive j hlv
                  rw [hx]
                  have hj := hent1 j e xs hx
                  by_cases hn : ∃ n, ns[j]? = some (some n)
                  · obtain ⟨n, hn⟩ := hn
                    obtain ⟨fr, e', xs', q1, _, q2⟩ := hL.row j n hn
                    rw [hj] at q2; injection q2 with q2; injection q2 with _ q3 q4
                    subst q3; cases q4
                    have h0 := mm.ents n
                    rw [q1] at h0
                    rcases h0 with ⟨a1, a2⟩ | ⟨a1, vals, el, a2, a3, a4⟩
                    · exact .inl ⟨fun hh => a1 ((hrow j n hn).1.1 hh), a2⟩
                    · refine .inr ⟨(hrow j n hn).1.2 a1, vals, el, by rw [(hrow j n hn).2]; exact a2, a3, fun i hi => ?_⟩
                      obtain ⟨es2, b1, b2, b3⟩ := a4 i hi
                      exact ⟨es2, b1, b2, b3.flat hfl⟩
                  · have hlt : j < ns.length := by rw [hL.len]; exact (List.getElem?_eq_some_iff.1 hj).1
                    have hnn : ns[j]? = some none := by
                      have := List.getElem?_eq_getElem hlt
                      cases hx' : ns[j] with
                      | none => rw [hx'] at this; exact this
                      | some n => rw [hx'] at this; exact absurd ⟨n, this⟩ hn
                    obtain ⟨e', _, q2⟩ := hL.nil j hnn
                    rw [hj] at q2; injection q2 with q2; injection q2 with _ q3 q4
                    subst q3; cases q4
                    exact .inl ⟨hnil j (fun n hn' => hn ⟨n, hn'⟩), rfl⟩
              · obtain ⟨n, hn, h2, h3⟩ := hhas j hh
                rw [h3]
                refine ⟨.inr ⟨j, n, hn, h2, rfl⟩, (mm.own n (hnames j n hn) h2).2.1, fun hz => ?_⟩
                rcases hz with hz | ⟨_, hz⟩ <;> exact hz
              · obtain ⟨n, hn, h2, h3⟩ := hhas j hh
                obtain ⟨n', hn', h2', h3'⟩ := hhas j' hh'
                have : n = n' := mm.dist n n' (hnames j n hn) (hnames j' n' hn') h2 h2' (by rw [← h3, ← h3', hb'])
                subst this
                exact namesOf_inj hnd hn hn'
              · obtain ⟨n, hn, h2, h3⟩ := hhas j hh
                exact ⟨n, hn, h2, h3⟩
              · exfalso
                obtain ⟨e, xs, hx, hfl⟩ := hlive j (lentish_live (lids_lent hq))
                rw [hx, lids_flat hfl] at hq
                cases hq
            have hlink : Link V ns es 0 V0 (startM mc.t d k fn.ntmps).ent := by
              refine ⟨fun j e xs hj => ?_, fun j n hj => ?_, fun j hj => ?_⟩
              · rw [Nat.zero_add, hent0, hj]; rfl
              · rw [Nat.zero_add]; exact hrow j n hj
              · rw [Nat.zero_add]; exact hnil j (fun n hn => by rw [hj] at hn; cases hn)
            have hs0 := hslot V0 (startM mc.t d k fn.ntmps).ent hlink
            have sat0 : Sat w.heap.size M0 w (startM mc.t d k fn.ntmps) { tmps := #[v, .int .i64 k] ++ Array.replicate (fn.ntmps - 2) undef, defers := [] } w := by
              refine ⟨rfl, V0, ⟨?_, fun i s' v' hs' hv' => ?_, mem0⟩⟩
              · show (topS _ :: .c _ :: lrep S.und (fn.ntmps - 2)).length = _
                rw [lrep_eq]; simp; omega
              · have hs' : (topS (isSt mc.t, (fresh mc.t d 0).1) :: .c (.val (.int .i64 k)) :: lrep S.und (fn.ntmps - 2))[i]? = some s' := hs'
                have hv' : ([v, Value.int .i64 k] ++ List.replicate (fn.ntmps - 2) undef)[i]? = some v' := by
                  rw [← hv']
                  simp only [Array.getElem?_append, List.getElem?_append, List.getElem?_toArray, List.size_toArray, Array.getElem?_replicate, List.getElem?_replicate]
                cases i with
                | zero =>
                  simp only [List.getElem?_cons_zero, Option.some.injEq, List.cons_append] at hs' hv'
                  subst hs'; subst hv'; exact hs0
                | succ i =>
                  cases i with
                  | zero =>
                    simp only [List.getElem?_cons_succ, List.getElem?_cons_zero, Option.some.injEq, List.cons_append] at hs' hv'
                    subst hs'; subst hv'; exact ⟨rfl, hkr⟩
                  | succ i =>
                    simp only [List.getElem?_cons_succ, List.cons_append, List.nil_append, lrep_eq, List.getElem?_replicate] at hs' hv'
                    split at hs'
                    · rename_i hi
                      injection hs' with hs'; subst hs'
                      rw [if_pos hi] at hv'
                      injection hv' with hv'; exact hv'.symm
                    · cases hs'
            refine calls_of_wp (args := #[v, .int .i64 k]) hf hb (vc_ok hm hT hΓ hR code (A d k) _ _ _ _ w sat0 hvc (fun e A' st' a' w' hk hs' => ?_))
            obtain ⟨hd, V1, r1⟩ := hs'
            have key : vcPostM T fn mc.t (mc.F d k) (mc.G d k) e st' → (∃ i, e = .exit i) ∨ ∃ v', (results fn a'.tmps).run P w' = .ok v' w' ∧ v' = .int .i64 (mc.F d k) ∧ (IntKind.i64.min ≤ mc.F d k ∧ mc.F d k ≤ IntKind.i64.max) ∧ toP (rowsAre st'.ent 0 es') := by
              intro hp
              unfold vcPostM at hp
              split at hp
              · exact hp.elim
              · right
                split at hp
                · rename_i rr hss
                  obtain ⟨hp1, hp2⟩ := hp
                  subst hp1
                  rw [hes'] at hp2
                  obtain ⟨vs, e1, e2, e3⟩ := resAll_run hT r1 hss
                  match vs, e1 with
                  | [x], _ =>
                    have h2 := ok_int (V := V1) (hp := st'.ent) (w := w') (e2 0 _ x rfl rfl)
                    exact ⟨_, results_run e3, h2.1, h2.2, hp2⟩
                · exact hp.elim
            have fin : toP (rowsAre st'.ent 0 es') → (IntKind.i64.min ≤ mc.F d k ∧ mc.F d k ≤ IntKind.i64.max) →
                ∃ V' s' st'', K s' st'' ∧ Rel base M w0 V' st'' ts w' ∧ S.ok V' st''.ent w' s' (.int .i64 (mc.F d k)) := by
              intro hp2 hrange
              have hget := rowsAre_get hp2
              have m1 := r1.mem
              refine ⟨V, _, _, hK, rel_rewrs ns es' r hnd (by rw [hL.len]; exact sl1) ⟨m1.kept.size, m1.kept.os, m1.kept.tape, m1.kept.output⟩ (fun b hb' hno => m1.kept.block b hb' (fun hM => ?_)) (fun j n e' hj he' => ?_), ⟨rfl, hrange⟩⟩
              · obtain ⟨j, n, g1, g2, g3⟩ := hM
                exact hno n (mem_namesOf g1) g2 g3
              · obtain ⟨fr, ty, xs, q1, q2, q3⟩ := hL.row j n hj
                obtain ⟨f', ys, q4, q5⟩ := sl2 j true ty xs q3
                have hft := fresh_true mc.t (mc.G d k) 0 e' (by rw [hes']; exact List.mem_of_getElem? he')
                rw [he'] at q4
                injection q4 with q4
                subst q4
                obtain rfl : f' = true := hft f' ty ys rfl
                refine ⟨fr, ty, xs, ys, q1, q2, rfl, q5, fun hh => ?_⟩
                have hrow1 := hget j true ty ys he'
                rw [Nat.zero_add] at hrow1
                have h0 := r.mem.ents n
                rw [q1] at h0
                rcases h0 with ⟨a1, _⟩ | ⟨_, vals, el, a2, a3, a4⟩
                · exact absurd hh a1
                · have hown := r.mem.own n (by rw [q1]; rfl) hh
                  obtain ⟨vals', el', b1, b2⟩ := m1.kept.shape (V.blk n) vals el hown.2.1 ⟨j, n, hj, hh, rfl⟩ a2
                  refine ⟨vals, el, vals', el', a2, b1, b2, ?_⟩
                  have h1 := m1.ents j
                  rw [hrow1] at h1
                  rcases h1 with ⟨c1, c2⟩ | ⟨c1, vals2, el2, c2, c3, c4⟩
                  · rw [c2]; intro i hi; exact absurd hi (Nat.not_lt_zero _)
                  · obtain ⟨n', hn', _, hbl⟩ := m1.lent j (by rw [hrow1]; show (ty.flat || ty.hasG) = true; rw [q2]; rfl) c1
                    rw [hj] at hn'
                    injection hn' with hn'; injection hn' with hn'
                    subst hn'
                    rw [hbl, b1] at c2
                    injection c2 with c2
                    injection c2 with c2 _ _
                    subst c2
                    exact fun i hi => by obtain ⟨es2, d1, d2, d3⟩ := c4 i hi; exact ⟨es2, d1, d2, d3.flat q2⟩
            have hk' := key hk
            cases e with
            | normal =>
              rcases hk' with ⟨i, h⟩ | ⟨v', h1, h2, h3, h4⟩
              · cases h
              · exact ⟨hd, v', h1, v', rfl, by rw [h2]; exact fin h4 h3⟩
            | exit i => exact hk.elim
            | ret =>
              rcases hk' with ⟨i, h⟩ | ⟨v', h1, h2, h3, h4⟩
              · cases h
              · exact ⟨hd, v', h1, v', rfl, by rw [h2]; exact fin h4 h3⟩
          · exact h.elim
      · exact hrule.elim
    · exact hrule.elim
  · exact hrule.elim
end
end Go.SX
/- slices.Delete on a row that the caller owns: the rule, and what a walk of its body must show. No condition. -/
namespace Go.SX
open Go.RowKit Go.Lib
set_option linter.unusedVariables false
set_option linter.unusedSimpArgs false
variable {P : Program}
structure DelRun (P : Program) (f : FuncId) (sz : Nat) : Prop where
  same : ∀ (v : Value) (i : Nat) (w : World), (v = .slice none 0 0 ∧ i = 0 ∨ ∃ blk n cap, v = .slice (some ⟨blk, 0, none⟩) n cap ∧ n ≤ cap ∧ i ≤ n) →
    Calls P f #[v, .int .i64 i, .int .i64 i] w fun e w' => e = .returned v ∧ w' = w
  cut : ∀ (blk n cap i j : Nat) (news : List Value) (w : World), n ≤ cap → i < j → j ≤ n → news.length = (n - j) * sz →
    (∀ t u, news[t]? = some u → w.cell? ⟨blk, j * sz + t, none⟩ = some u) → (∀ u ∈ news, u.oneCell' = true) →
    (∀ t, t < n * sz → (w.cell? ⟨blk, t, none⟩).isSome = true ∧ w.frozen? ⟨blk, t, none⟩ = false) →
    Calls P f #[.slice (some ⟨blk, 0, none⟩) n cap, .int .i64 i, .int .i64 j] w fun e w' => e = .returned (.slice (some ⟨blk, 0, none⟩) (i + (n - j)) cap) ∧
      ∃ zs : List Value, zs.length = (n - (i + (n - j))) * sz ∧ w' = (w.drew.setCells blk (i * sz) news).setCells blk ((i + (n - j)) * sz) zs
end Go.SX
/- A function that cuts places off the end of a row that its caller owns: the rule, and what is owed of its code. No condition. -/
namespace Go.SX
open Go.RowKit
set_option linter.unusedVariables false
set_option linter.unusedSimpArgs false
structure CC where
  e : Ty
  F : List e.den → Nat
def startCut (e : Ty) (xs : List e.den) (ntmps : Nat) : St := { ts := .c (.pre 0 xs.length) :: lrep .und (ntmps - 1), hp := [.row false e xs] }
def vcPostCut (T : Tab) (fn : Func) (e : Ty) (xs : List e.den) (h : Nat) (ex : Ex) (st : St) : Prop :=
  match ex with
  | .exit _ => False
  | _ =>
    match resAll T st fn.results.toList with
    | some [.c (.pre 0 k)] => k = h ∧ (match st.ent 0 with | .row false e' ys => (if hh : e' = e then castL hh ys = xs else False) | _ => False)
    | _ => False
def vcCut (T : Tab) (Γ : FuncId → Option PC) (R : FuncId → Option Rule) (fn : Func) (cc : CC) (A : List cc.e.den → Nat → Option Ann) : Prop :=
  match fn.body with
  | some code => ∀ xs, (Ty.sl cc.e).wf xs → vc T Γ R code (A xs) (startCut cc.e xs fn.ntmps) fun e _ st => vcPostCut T fn cc.e xs (cc.F xs) e st
  | none => False
def cutRule (cc : CC) : Rule := fun ss st K =>
  match ss with
  | [.c (.own m)] =>
    match st.ent m with
    | .row true e' xs => if h : e' = cc.e then K (.c (.own m)) { (st.map (killO m)) with hp := lset (st.map (killO m)).hp m (.row true cc.e ((castL h xs).take (cc.F (castL h xs)))) } else False
    | _ => False
  | [.c (.pre m k)] =>
    match st.ent m with
    | .row true e' xs => if h : e' = cc.e then K (.c (.own m)) { (st.map (killO m)) with hp := lset (st.map (killO m)).hp m (.row true cc.e (((castL h xs).take k).take (cc.F ((castL h xs).take k)))) } else False
    | _ => False
  | _ => False
section
variable {P : Program} {T : Tab} {Γ : FuncId → Option PC} {R : FuncId → Option Rule} {base : Nat} {M : LM} {w0 : World} {V : Vl} {hp : Nat → Ent} {w w' : World}
theorem cut_core (hm : P.follows .mixedOrders = true) (hT : TabOk P T) (hΓ : GamOk P Γ) (hR : RulesOk P R) {f : FuncId} {fn : Func} (hf : P.funcs[f]? = some fn) {cc : CC} {A : List cc.e.den → Nat → Option Ann}
    (hl : cc.e.flat = true) (h : vcCut T Γ R fn cc A) {st : St} {ts : Array Value} (r : Rel base M w0 V st ts w) {m k : Nat} {xs : List cc.e.den} {v : Value} {K : S → St → Prop}
    (hme : st.ent m = .row true cc.e xs) (hk : k ≤ xs.length) (hrow : hasRow V w m cc.e k v)
    (hK : K (.c (.own m)) { (st.map (killO m)) with hp := lset (st.map (killO m)).hp m (.row true cc.e ((xs.take k).take (cc.F (xs.take k)))) }) :
    Calls P f #[v] w fun e w' => ∃ v, e = .returned v ∧ ∃ V' s st', K s st' ∧ Rel base M w0 V' st' ts w' ∧ S.ok V' st'.ent w' s v := by
  have mm := r.mem
  have hlive : (st.ent m).live = true := by rw [hme]; rfl
  have hlt : m < st.hp.length := ent_lt hlive
  unfold vcCut at h
  split at h
  case h_2 => exact h.elim
  rename_i code hb
  generalize hzs : xs.take k = zs at hK
  have hzl : zs.length = k := by rw [← hzs, List.length_take]; omega
  have hmok := mm.ents m
  rw [hme] at hmok
  have hwf : (Ty.sl cc.e).wf zs := by
    rcases hmok with ⟨_, hx⟩ | ⟨_, vals, el, _, q1, q2⟩
    · have : zs = [] := by rw [← hzs, hx]; simp
      rw [this]
      exact ⟨Nat.zero_le _, fun x hx => by cases hx⟩
    · refine ⟨by rw [hzl]; omega, fun x hx => ?_⟩
      rw [← hzs] at hx
      obtain ⟨i, hi, rfl⟩ := List.getElem_of_mem (List.mem_of_mem_take hx)
      obtain ⟨es, _, _, q3⟩ := q2 i hi
      exact q3.wf
  have hvc := h zs hwf
  let V0 : Vl := ⟨fun _ => V.blk m, fun j => j = 0 ∧ V.has m, fun _ => False, fun _ => False⟩
  let M0 : LM := ⟨fun b => V.has m ∧ b = V.blk m, fun b j => j = 0 ∧ V.has m ∧ b = V.blk m, fun _ => True, fun _ _ => trivial, fun _ => False⟩
  have hent : ∀ j, (startCut cc.e zs fn.ntmps).ent j = if j = 0 then .row false cc.e zs else .dead := by
    intro j
    cases j with
    | zero => rfl
    | succ j => rfl
  have h0 : (startCut cc.e zs fn.ntmps).ent 0 = .row false cc.e zs := rfl
  have hdead : ∀ j, j ≠ 0 → (startCut cc.e zs fn.ntmps).ent j = .dead := fun j hj => by rw [hent, if_neg hj]
  have hlv : ∀ j, ((startCut cc.e zs fn.ntmps).ent j).live = true → j = 0 := by
    intro j hj
    by_cases e : j = 0
    · exact e
    · rw [hdead j e] at hj; cases hj
  have mem0 : Mem w.heap.size M0 w V0 (startCut cc.e zs fn.ntmps).ent w := by
    refine ⟨fun j => ?_, fun j cs hj => ?_, fun j hj hh => ?_, fun j e ys hj => ?_, fun j j' hj hj' _ _ _ => ?_, fun b h => h.elim, fun b h => h.elim, ⟨rfl, rfl, rfl, Nat.le_refl _, fun _ _ _ => rfl, fun b v2 e2 _ _ hv2 => ⟨v2, e2, hv2, rfl⟩⟩, fun j hj hh => ?_, fun b hb => hb.elim, fun j hh q hq => ?_⟩
    · by_cases e : j = 0
      · subst e
        rw [h0]
        rcases hmok with ⟨a1, a2⟩ | ⟨a1, vals, el, a2, a3, a4⟩
        · exact .inl ⟨fun hh => a1 hh.2, by rw [← hzs, a2]; simp⟩
        · refine .inr ⟨⟨rfl, a1⟩, vals, el, a2, by rw [hzl]; omega, fun i hi => ?_⟩
          obtain ⟨es, b1, b2, b3⟩ := a4 i (by omega)
          refine ⟨es, b1, b2, ?_⟩
          have : zs[i] = xs[i]'(by omega) := by subst hzs; rw [List.getElem_take]
          rw [this]
          exact b3.flat hl
      · rw [hdead j e]; trivial
    · by_cases e : j = 0
      · subst e; rw [h0] at hj; cases hj
      · rw [hdead j e] at hj; cases hj
    · refine ⟨.inr ⟨hh.2, rfl⟩, (mm.own m hlive hh.2).2.1, fun hz => ?_⟩
      rcases hz with hz | ⟨_, hz⟩ <;> exact hz
    · by_cases e : j = 0
      · subst e; rw [h0] at hj; injection hj with q; cases q
      · rw [hdead j e] at hj; cases hj
    · rw [hlv j hj, hlv j' hj']
    · by_cases e : j = 0
      · exact ⟨e, hh.2, rfl⟩
      · rw [hdead j e] at hj; exact hj.elim
    · by_cases e : j = 0
      · subst e; rw [h0, lids_flat hl] at hq; cases hq
      · rw [hdead j e] at hq; cases hq
  have hs0 : C.ok V0 (startCut cc.e zs fn.ntmps).ent w (.pre 0 zs.length) v := by
    refine ⟨false, cc.e, zs, h0, Nat.le_refl _, ?_⟩
    rw [hzl]
    rcases hrow with ⟨a1, a2, a3⟩ | ⟨a1, cap, vals, el, a2, a3, a4, a5⟩
    · exact .inl ⟨fun hh => a1 hh.2, a2, a3⟩
    · exact .inr ⟨⟨rfl, a1⟩, cap, vals, el, a2, a3, a4, a5⟩
  have sat0 : Sat w.heap.size M0 w (startCut cc.e zs fn.ntmps) { tmps := #[v] ++ Array.replicate (fn.ntmps - 1) undef, defers := [] } w := by
    refine ⟨rfl, V0, ⟨?_, fun i s' v' hs' hv' => ?_, mem0⟩⟩
    · show (.c _ :: lrep S.und (fn.ntmps - 1)).length = _
      rw [lrep_eq]; simp; omega
    · have hs' : (S.c (.pre 0 zs.length) :: lrep S.und (fn.ntmps - 1))[i]? = some s' := hs'
      have hv' : ([v] ++ List.replicate (fn.ntmps - 1) undef)[i]? = some v' := by
        rw [← hv']
        simp only [Array.getElem?_append, List.getElem?_append, List.getElem?_toArray, List.size_toArray, Array.getElem?_replicate, List.getElem?_replicate]
      cases i with
      | zero =>
        simp only [List.getElem?_cons_zero, Option.some.injEq, List.cons_append] at hs' hv'
        subst hs'; subst hv'; exact hs0
      | succ i =>
        simp only [List.getElem?_cons_succ, List.cons_append, List.nil_append, lrep_eq, List.getElem?_replicate] at hs' hv'
        split at hs'
        · rename_i hi
          injection hs' with hs'; subst hs'
          rw [if_pos hi] at hv'
          injection hv' with hv'; exact hv'.symm
        · cases hs'
  refine calls_of_wp (args := #[v]) hf hb (vc_ok hm hT hΓ hR code (A zs) _ _ _ _ w sat0 hvc (fun e A' st' a' w' hk' hs' => ?_))
  obtain ⟨hd, V1, r1⟩ := hs'
  have m1 := r1.mem
  have key : vcPostCut T fn cc.e zs (cc.F zs) e st' → (∃ i, e = .exit i) ∨ ∃ v', (results fn a'.tmps).run P w' = .ok v' w' ∧ C.ok V1 st'.ent w' (.pre 0 (cc.F zs)) v' ∧ st'.ent 0 = .row false cc.e zs := by
    intro hp
    unfold vcPostCut at hp
    split at hp
    · exact hp.elim
    · right
      split at hp
      · rename_i kk hss
        obtain ⟨hp1, hp2⟩ := hp
        subst hp1
        obtain ⟨vs, e1, e2, e3⟩ := resAll_run hT r1 hss
        split at hp2
        · rename_i e' ys hy
          split at hp2
          · rename_i he
            subst he
            have hp2 : ys = zs := hp2
            subst hp2
            match vs, e1 with
            | [x], _ => exact ⟨_, results_run e3, e2 0 _ x rfl rfl, hy⟩
          · exact hp2.elim
        · exact hp2.elim
      · exact hp.elim
  have fin : ∀ v', C.ok V1 st'.ent w' (.pre 0 (cc.F zs)) v' → st'.ent 0 = .row false cc.e zs → ∃ V' s st'', K s st'' ∧ Rel base M w0 V' st'' ts w' ∧ S.ok V' st''.ent w' s v' := by
    intro v' hv hz
    obtain ⟨fr1, e1, xs1, p1, p2, p3⟩ := hv
    rw [hz] at p1
    injection p1 with q1 q2 q3
    subst q1; subst q2; cases q3
    have h1ok := m1.ents 0
    rw [hz] at h1ok
    have hlt1 : V1.has 0 → V.has m ∧ V1.blk 0 = V.blk m := fun hh => (m1.lent 0 (by rw [hz]; show (cc.e.flat || cc.e.hasG) = true; rw [hl]; rfl) hh).2
    let V' : Vl := ⟨V.blk, fun n => if n = m then V1.has 0 else V.has n, V.Z0, V.Z1⟩
    have hVm : V'.has m ↔ V1.has 0 := by show (if m = m then _ else _) ↔ _; rw [if_pos rfl]
    have hbase : V.has m → base ≤ V.blk m := fun hh => mm.mine m _ _ hme hh
    obtain ⟨o1, o2⟩ : (V.has m → V.blk m < w.heap.size) ∧ (V.has m → ¬ V.Z false (V.blk m)) := ⟨fun hh => (mm.own m hlive hh).2.1, fun hh => (mm.own m hlive hh).2.2⟩
    have hother : ∀ b, b < w.heap.size → (V.has m → b ≠ V.blk m) → w'.heap[b]? = w.heap[b]? := fun b hb' hne => m1.kept.block b hb' (fun hM => hne hM.1 hM.2)
    have hent' : (St.mk (st.map (killO m)).ts (lset (st.map (killO m)).hp m (.row true cc.e (zs.take (cc.F zs))))).ent m = .row true cc.e (zs.take (cc.F zs)) := by
      rw [ent_set (by show m < (lmap _ _).length; rw [lmap_eq, List.length_map]; exact hlt)]
      simp only [hpSet, if_true]
    have hcl : (zs.take (cc.F zs)).length = cc.F zs := by rw [List.length_take]; omega
    refine ⟨V', _, _, hK, ?_, ⟨true, cc.e, _, hent', ?_⟩⟩
    · refine rel_row r hme ?_ m1.kept.size hother (fun n hn => ⟨rfl, by show (if n = m then _ else _) ↔ _; rw [if_neg hn]⟩) rfl rfl (fun hp' _ => ?_) (fun hh => ?_) (fun _ hh => ?_) (fun h _ => False.elim h) (fun _ q hq => by cases hq)
      · refine ⟨m1.kept.os.trans mm.kept.os, m1.kept.tape.trans mm.kept.tape, m1.kept.output.trans mm.kept.output, Nat.le_trans mm.kept.size m1.kept.size, fun b hb' hM => ?_, fun b vals el hb' hM hv0 => ?_⟩
        · rw [hother b (Nat.lt_of_lt_of_le hb' mm.kept.size) (fun hh e => by have := hbase hh; omega)]
          exact mm.kept.block b hb' hM
        · obtain ⟨v3, e3, j1, j2⟩ := mm.kept.shape b vals el hb' hM hv0
          refine ⟨v3, e3, ?_, j2⟩
          rw [hother b (Nat.lt_of_lt_of_le hb' mm.kept.size) (fun hh e => by have := hbase hh; omega)]
          exact j1
      · rcases h1ok with ⟨a1, a2⟩ | ⟨a1, vals, el, a2, a3, a4⟩
        · exact .inl ⟨fun hh => a1 (hVm.1 hh), by rw [a2]; simp⟩
        · refine .inr ⟨hVm.2 a1, vals, el, by show w'.heap[V.blk m]? = _; rw [← (hlt1 a1).2]; exact a2, by rw [hcl]; omega, fun i hi => ?_⟩
          obtain ⟨es, b1, b2, b3⟩ := a4 i (by omega)
          refine ⟨es, b1, b2, ?_⟩
          rw [List.getElem_take]
          exact b3.flat hl
      · have hh1 := hlt1 (hVm.1 hh)
        have := o1 hh1.1
        have hsz := m1.kept.size
        exact ⟨.inl (hbase hh1.1), by show V.blk m < _; omega, .inr ⟨hh1.1, rfl⟩⟩
      · exact hbase (hlt1 (hVm.1 hh)).1
    · rw [hcl]
      rcases p3 with ⟨a1, a2, a3⟩ | ⟨a1, cap, vals, el, a2, a3, a4, a5⟩
      · exact .inl ⟨fun hh => a1 (hVm.1 hh), a2, a3⟩
      · refine .inr ⟨hVm.2 a1, cap, vals, el, ?_, ?_, a4, a5⟩
        · rw [a2, (hlt1 a1).2]
        · show w'.heap[V.blk m]? = _
          rw [← (hlt1 a1).2]; exact a3
  have hk'' := key hk'
  cases e with
  | normal =>
    rcases hk'' with ⟨i, h⟩ | ⟨v', h1, h2, h3⟩
    · cases h
    · exact ⟨hd, v', h1, v', rfl, fin v' h2 h3⟩
  | exit i => exact hk'.elim
  | ret =>
    rcases hk'' with ⟨i, h⟩ | ⟨v', h1, h2, h3⟩
    · cases h
    · exact ⟨hd, v', h1, v', rfl, fin v' h2 h3⟩
theorem vcCut_rule (hm : P.follows .mixedOrders = true) (hT : TabOk P T) (hΓ : GamOk P Γ) (hR : RulesOk P R) {f : FuncId} {fn : Func} (hf : P.funcs[f]? = some fn) {cc : CC} {A : List cc.e.den → Nat → Option Ann}
    (hl : cc.e.flat = true) (h : vcCut T Γ R fn cc A) : RuleOk P f (cutRule cc) := by
  intro base M w0 V st ts w ss vs K r hlen hslots hrule
  unfold cutRule at hrule
  split at hrule
  · rename_i m
    split at hrule
    · rename_i e' xs hme
      split at hrule
      · rename_i he
        subst he
        match vs, hlen with
        | [v], _ =>
          obtain ⟨fr2, e2, xs2, q1, q2⟩ := hslots 0 _ v rfl rfl
          rw [hme] at q1
          injection q1 with g1 g2 g3
          subst g1; subst g2; cases g3
          refine cut_core hm hT hΓ hR hf hl h r hme (Nat.le_refl _) q2 ?_
          rw [List.take_length]
          exact hrule
      · exact hrule.elim
    · exact hrule.elim
  · rename_i m k
    split at hrule
    · rename_i e' xs hme
      split at hrule
      · rename_i he
        subst he
        match vs, hlen with
        | [v], _ =>
          obtain ⟨fr2, e2, xs2, q1, q2, q3⟩ := hslots 0 _ v rfl rfl
          rw [hme] at q1
          injection q1 with g1 g2 g3
          subst g1; subst g2; cases g3
          exact cut_core hm hT hΓ hR hf hl h r hme q2 q3 hrule
      · exact hrule.elim
    · exact hrule.elim
  · exact hrule.elim
end
end Go.SX
/- Functions that write the box behind their first argument, or hand back the address of a new one. No condition. -/
namespace Go.SX
open Go.RowKit
set_option linter.unusedVariables false
set_option linter.unusedSimpArgs false
structure BC where
  t : Ty
  ts : List Ty
  rs : List Ty
  pre : t.den → Tup ts → Prop
  F : t.den → Tup ts → Tup rs
  G : t.den → Tup ts → t.den
  drop : Bool
structure NC where
  t : Ty
  ts : List Ty
  rs : List Ty
  pre : Tup ts → Prop
  F : Tup ts → Tup rs
  G : Tup ts → t.den
def startBox (t : Ty) (d : t.den) (ts : List Ty) (x : Tup ts) (ntmps : Nat) : St :=
  { ts := .c (.box 0 0) :: lapp (argsS ts x) (lrep .und (ntmps - (llen ts + 1))), hp := [.bx (expand false t d)] }
def boxIs (t : Ty) (g : t.den) : Ent → Prop
  | .bx cs => if lall C.noOwn cs then (match readAll (fun _ => .dead) t cs with | some y => y = g | none => False) else False
  | _ => False
def vcPostBox (T : Tab) (fn : Func) (t : Ty) (rs : List Ty) (out : Tup rs) (g : t.den) (e : Ex) (st : St) : Prop :=
  match e with
  | .exit _ => False
  | _ =>
    match resAll T st fn.results.toList with
    | some ss =>
      match outAll st.ent rs ss with
      | some (r, ns) => if nodupN ns then r = out ∧ boxIs t g (st.ent 0) else False
      | none => False
    | none => False
def vcBox (T : Tab) (Γ : FuncId → Option PC) (R : FuncId → Option Rule) (fn : Func) (bc : BC) (A : bc.t.den → Tup bc.ts → Nat → Option Ann) : Prop :=
  match fn.body with
  | some code => ∀ d x, bc.t.wf d → tupWf bc.ts x → bc.pre d x → vc T Γ R code (A d x) (startBox bc.t d bc.ts x fn.ntmps) fun e _ st => vcPostBox T fn bc.t bc.rs (bc.F d x) (bc.G d x) e st
  | none => False
def vcPostNew (T : Tab) (fn : Func) (t : Ty) (rs : List Ty) (out : Tup rs) (g : t.den) (e : Ex) (st : St) : Prop :=
  match e with
  | .exit _ => False
  | _ =>
    match resAll T st fn.results.toList with
    | some (.c (.box n 0) :: ss) =>
      match outAll st.ent rs ss with
      | some (r, ns) => if nodupN ns then r = out ∧ boxIs t g (st.ent n) else False
      | none => False
    | _ => False
def vcNew (T : Tab) (Γ : FuncId → Option PC) (R : FuncId → Option Rule) (fn : Func) (nc : NC) (A : Tup nc.ts → Nat → Option Ann) : Prop :=
  match fn.body with
  | some code => ∀ x, tupWf nc.ts x → nc.pre x → vc T Γ R code (A x) (St.start nc.ts x fn.ntmps) fun e _ st => vcPostNew T fn nc.t nc.rs (nc.F x) (nc.G x) e st
  | none => False
def ownsS : List S → List Nat
  | [] => []
  | .c x :: r => lapp (ownsOf [x]) (ownsS r)
  | .agg cs :: r => lapp (ownsOf cs) (ownsS r)
  | _ :: r => ownsS r
def anyCs : List C → List C
  | [] => []
  | _ :: r => .any :: anyCs r
def boxRule (bc : BC) : Rule := fun ss st K =>
  match ss with
  | .c (.box m 0) :: xs =>
    match st.ent m with
    | .bx cs =>
      if lall C.noOwn cs && lall S.noOwn ((St.mk xs st.hp).freezes (ownsS xs)).ts then
        match readAll (fun _ => .dead) bc.t cs with
        | some d =>
          match readArgs (fun _ => .dead) bc.ts ((St.mk xs st.hp).freezes (ownsS xs)).ts with
          | some x =>
            if bc.drop then
              bc.pre d x ∧ impO (hyOf bc.rs (bc.F d x)) (K (freshS bc.rs (bc.F d x) (llen st.hp)).1 { (st.alloc (freshS bc.rs (bc.F d x) (llen st.hp)).2) with hp := lset (st.alloc (freshS bc.rs (bc.F d x) (llen st.hp)).2).hp m (.bx (anyCs cs)) })
            else
              bc.pre d x ∧ impO (hyOf bc.rs (bc.F d x)) (K (freshS bc.rs (bc.F d x) (llen (st.freezes (ownsS xs)).hp)).1 { ((st.freezes (ownsS xs)).alloc (freshS bc.rs (bc.F d x) (llen (st.freezes (ownsS xs)).hp)).2) with hp := lset ((st.freezes (ownsS xs)).alloc (freshS bc.rs (bc.F d x) (llen (st.freezes (ownsS xs)).hp)).2).hp m (.bx (expand false bc.t (bc.G d x))) })
          | none => False
        | none => False
      else False
    | _ => False
  | _ => False
def boxTup (nx : Nat) : List (Bool × List C) → S
  | [] => .c (.box nx 0)
  | l => .tup ((false, [.box nx 0]) :: l)
def newRule (nc : NC) : Rule := fun xs st K =>
  if lall S.noOwn ((St.mk xs st.hp).freezes (ownsS xs)).ts then
    match readArgs (fun _ => .dead) nc.ts ((St.mk xs st.hp).freezes (ownsS xs)).ts with
    | some x =>
      nc.pre x ∧ impO (hyOf nc.rs (nc.F x)) (K (boxTup (llen (st.freezes (ownsS xs)).hp) (freshTups nc.rs (nc.F x) (llen (st.freezes (ownsS xs)).hp + 1)).1)
        ((st.freezes (ownsS xs)).alloc (.bx (expand false nc.t (nc.G x)) :: (freshTups nc.rs (nc.F x) (llen (st.freezes (ownsS xs)).hp + 1)).2)))
    | none => False
  else False
section
variable {P : Program} {T : Tab} {Γ : FuncId → Option PC} {R : FuncId → Option Rule} {base : Nat} {M : LM} {w0 : World} {V : Vl} {hp : Nat → Ent} {w w' : World}
theorem argS_zone {hp : Nat → Ent} {t : Ty} {v : Value} {d : t.den} (h : RdTop (V.Z false) w t v d) : S.ok V hp w (argS t d) v := by
  obtain ⟨cs, h1, hr⟩ := h
  have ho := ok_expand (V := V) (hp := hp) false t hr
  unfold argS topS
  unfold topV at h1
  cases hst : isSt t with
  | true =>
    rw [hst] at h1
    simp only [if_true] at h1 ⊢
    exact ⟨cs.toArray, h1, by simpa using ho⟩
  | false =>
    rw [hst] at h1
    simp only [Bool.false_eq_true, if_false] at h1 ⊢
    subst h1
    have hl := ho.1
    split
    · rename_i c hc
      rw [hc] at ho
      exact ho.2 0 c v rfl rfl
    · rename_i hc
      exfalso
      match hx : expand false t d with
      | [] => rw [hx] at hl; cases hl
      | [c] => exact hc c hx
      | _ :: _ :: _ => rw [hx] at hl; simp at hl
theorem argsS_zone {hp : Nat → Ent} : ∀ {ts : List Ty} {vs : List Value} {d : Tup ts}, RdArgs (V.Z false) w ts vs d → (argsS ts d).length = vs.length ∧ vs.length = ts.length ∧
    ∀ (i : Nat) s v, (argsS ts d)[i]? = some s → vs[i]? = some v → S.ok V hp w s v
  | [], vs, d, h => by rw [show vs = [] from h]; exact ⟨rfl, rfl, fun i s v h => by cases h⟩
  | [t], vs, d, h => by
    obtain ⟨v, rfl, h2⟩ := h
    refine ⟨rfl, rfl, fun i s u hs hu => ?_⟩
    cases i with
    | zero =>
      simp only [argsS, List.getElem?_cons_zero, Option.some.injEq] at hs hu
      subst hs; subst hu
      exact argS_zone h2
    | succ i => simp [argsS] at hs
  | t :: u :: r, vs, d, h => by
    obtain ⟨v, vs', rfl, h2, h3⟩ := h
    obtain ⟨k1, k2, k3⟩ := argsS_zone (hp := hp) h3
    refine ⟨by simp [argsS, k1], by simp [k2], fun i s x hs hx => ?_⟩
    cases i with
    | zero =>
      simp only [argsS, List.getElem?_cons_zero, Option.some.injEq] at hs hx
      subst hs; subst hx
      exact argS_zone h2
    | succ i => exact k3 i s x (by simpa [argsS] using hs) (by simpa using hx)
theorem argsZ_wf {Z : Nat → Prop} : ∀ {ts : List Ty} {vs : List Value} {d : Tup ts}, RdArgs Z w ts vs d → tupWf ts d
  | [], _, _, _ => trivial
  | [t], vs, d, h => by obtain ⟨v, _, cs, _, h2⟩ := h; exact h2.wf
  | t :: u :: r, vs, d, h => by
    obtain ⟨v, vs', _, ⟨cs, _, h2⟩, h3⟩ := h
    exact ⟨h2.wf, argsZ_wf h3⟩
theorem readS_top {lk : Nat → Ent} {t : Ty} {s : S} {d : t.den} {v : Value} (h : readS lk t s = some d) (ho : S.ok V hp w s v) (h1 : s.noOwn = true) : RdTop (V.Z false) w t v d := by
  unfold readS at h
  split at h
  · rename_i x
    split at h
    · cases h
    · rename_i hst
      refine ⟨[v], by unfold topV; rw [if_neg hst], readAll_zone h (okAll_cons_mk ho okAll_nil) (fun c hc => ?_)⟩
      simp at hc; subst hc
      exact ⟨h1, fun h => by cases h⟩
  · rename_i cs
    split at h
    · rename_i hst
      obtain ⟨vs, e1, e2⟩ := ho
      refine ⟨vs.toList, by unfold topV; rw [if_pos hst, e1], readAll_zone h e2 (fun c hc => ⟨?_, fun h => by cases h⟩)⟩
      have h1' : lall C.noOwn cs = true := h1
      rw [lall_eq, List.all_eq_true] at h1'
      exact h1' c hc
    · cases h
  · cases h
theorem readArgs_zone {lk : Nat → Ent} : ∀ (ts : List Ty) {ss : List S} {d : Tup ts} {vs : List Value}, readArgs lk ts ss = some d → ss.length = vs.length →
    (∀ (i : Nat) s v, ss[i]? = some s → vs[i]? = some v → S.ok V hp w s v) → (∀ s ∈ ss, s.noOwn = true) → RdArgs (V.Z false) w ts vs d
  | [], [], d, vs, _, hl, _, _ => by cases vs with | nil => rfl | cons _ _ => cases hl
  | [], _ :: _, d, vs, h, _, _, _ => by cases h
  | [t], [s], d, vs, h, hl, ho, hn => by
    match vs, hl with
    | [v], _ => exact ⟨v, rfl, readS_top h (ho 0 s v rfl rfl) (hn s (List.mem_cons_self ..))⟩
  | [t], [], d, vs, h, _, _, _ => by cases h
  | [t], _ :: _ :: _, d, vs, h, _, _, _ => by cases h
  | t :: u :: r, [], d, vs, h, _, _, _ => by cases h
  | t :: u :: r, s :: ss, d, vs, h, hl, ho, hn => by
    unfold readArgs at h
    split at h
    · rename_i x h1
      split at h
      · rename_i y h2
        injection h with h; subst h
        match vs, hl with
        | v :: vs', hl =>
          exact ⟨v, vs', rfl, readS_top h1 (ho 0 s v rfl rfl) (hn s (List.mem_cons_self ..)),
            readArgs_zone (u :: r) h2 (by simpa using hl) (fun i s v hs hv => ho (i + 1) s v (by simpa using hs) (by simpa using hv)) (fun s hs => hn s (List.mem_cons_of_mem _ hs))⟩
      · cases h
    · cases h
theorem rel_app {a b : List S} {h : List Ent} {ts : Array Value} {us : List Value} (r : Rel base M w0 V ⟨a, h⟩ ts w) (hl : b.length = us.length) (ho : ∀ (i : Nat) s v, b[i]? = some s → us[i]? = some v → S.ok V (St.mk a h).ent w s v) :
    Rel base M w0 V ⟨a ++ b, h⟩ (ts ++ us.toArray) w := by
  have hlen : a.length = ts.size := r.len
  refine ⟨by show (a ++ b).length = _; simp [hlen, hl], fun i s v hs hv => ?_, r.mem⟩
  have hs' : (a ++ b)[i]? = some s := hs
  rcases Nat.lt_or_ge i a.length with hi | hi
  · rw [List.getElem?_append_left hi] at hs'
    rw [Array.getElem?_append_left (by omega)] at hv
    exact r.slots i s v hs' hv
  · rw [List.getElem?_append_right hi] at hs'
    rw [Array.getElem?_append_right (by omega), ← hlen] at hv
    exact ho _ s v hs' (by simpa using hv)
theorem rel_unapp {a b : List S} {h : List Ent} {ts : Array Value} {us : List Value} (r : Rel base M w0 V ⟨a ++ b, h⟩ (ts ++ us.toArray) w) (hlen : a.length = ts.size) :
    Rel base M w0 V ⟨a, h⟩ ts w ∧ b.length = us.length ∧ ∀ (i : Nat) s v, b[i]? = some s → us[i]? = some v → S.ok V (St.mk a h).ent w s v := by
  have hl : (a ++ b).length = (ts ++ us.toArray).size := r.len
  refine ⟨⟨hlen, fun i s v hs hv => ?_, r.mem⟩, by simp at hl; omega, fun i s v hs hv => ?_⟩
  · have hs' : a[i]? = some s := hs
    have hi := (List.getElem?_eq_some_iff.1 hs').1
    exact r.slots i s v (by show (a ++ b)[i]? = _; rw [List.getElem?_append_left hi]; exact hs') (by rw [Array.getElem?_append_left (by omega)]; exact hv)
  · refine r.slots (a.length + i) s v ?_ ?_
    · show (a ++ b)[a.length + i]? = _
      rw [List.getElem?_append_right (by omega)]
      simpa using hs
    · rw [Array.getElem?_append_right (by omega), ← hlen]
      simpa using hv
theorem freeze_app (a b : List S) (h : List Ent) (m : Nat) : (St.mk (a ++ b) h).freeze m = ⟨((St.mk a h).freeze m).ts ++ ((St.mk b h).freeze m).ts, ((St.mk a h).freeze m).hp⟩ ∧ ((St.mk b h).freeze m).hp = ((St.mk a h).freeze m).hp := by
  have e1 : (St.mk (a ++ b) h).ent m = (St.mk a h).ent m := rfl
  have e2 : (St.mk b h).ent m = (St.mk a h).ent m := rfl
  unfold St.freeze
  rw [e1, e2]
  cases (St.mk a h).ent m with
  | dead => exact ⟨rfl, rfl⟩
  | bx cs => exact ⟨rfl, rfl⟩
  | row fr e xs =>
    refine ⟨?_, rfl⟩
    show St.mk (lmap _ (a ++ b)) _ = St.mk (lmap _ a ++ lmap _ b) _
    rw [lmap_eq, lmap_eq, lmap_eq, List.map_append]
    rfl
theorem freezes_app : ∀ (ns : List Nat) (a b : List S) (h : List Ent), (St.mk (a ++ b) h).freezes ns = ⟨((St.mk a h).freezes ns).ts ++ ((St.mk b h).freezes ns).ts, ((St.mk a h).freezes ns).hp⟩ ∧ ((St.mk b h).freezes ns).hp = ((St.mk a h).freezes ns).hp
  | [], a, b, h => ⟨rfl, rfl⟩
  | n :: ns, a, b, h => by
    obtain ⟨h1, h2⟩ := freeze_app a b h n
    show ((St.mk (a ++ b) h).freeze n).freezes ns = ⟨(((St.mk a h).freeze n).freezes ns).ts ++ (((St.mk b h).freeze n).freezes ns).ts, (((St.mk a h).freeze n).freezes ns).hp⟩ ∧ (((St.mk b h).freeze n).freezes ns).hp = (((St.mk a h).freeze n).freezes ns).hp
    rw [h1]
    generalize hx : (St.mk a h).freeze n = x at h2
    generalize hy : (St.mk b h).freeze n = y at h2
    obtain ⟨xa, xh⟩ := x
    obtain ⟨yb, yh⟩ := y
    simp only at h2
    subst h2
    exact freezes_app ns xa yb yh
theorem freeze_len (st : St) (m : Nat) : (st.freeze m).ts.length = st.ts.length ∧ (st.freeze m).hp.length = st.hp.length := by
  unfold St.freeze
  split
  · refine ⟨?_, ?_⟩
    · show (lmap _ _).length = _; rw [lmap_eq, List.length_map]
    · show (lset (lmap _ _) _ _).length = _; rw [lset_eq, List.length_set, lmap_eq, List.length_map]
  · exact ⟨rfl, rfl⟩
theorem freezes_len : ∀ (ns : List Nat) (st : St), (st.freezes ns).ts.length = st.ts.length ∧ (st.freezes ns).hp.length = st.hp.length
  | [], st => ⟨rfl, rfl⟩
  | n :: ns, st => by
    obtain ⟨h1, h2⟩ := freezes_len ns (st.freeze n)
    obtain ⟨g1, g2⟩ := freeze_len st n
    exact ⟨h1.trans g1, h2.trans g2⟩
theorem freeze_bx (st : St) (n : Nat) {m : Nat} (h : (st.ent m).isBx = true) : ((st.freeze n).ent m).isBx = true := by
  unfold St.freeze
  split
  · rename_i fr e xs hn
    have hne : m ≠ n := fun e => by subst e; rw [hn] at h; cases h
    rw [ent_set (by show n < (lmap _ _).length; rw [lmap_eq, List.length_map]; exact ent_lt (by rw [hn]; rfl))]
    simp only [hpSet, if_neg hne]
    show ((st.map (freezeC n fr e xs)).ent m).isBx = true
    rw [ent_map]
    show ((st.ent m).map _).isBx = true
    rw [map_isBx]; exact h
  · exact h
theorem freezes_bx : ∀ (ns : List Nat) (st : St) {m : Nat}, (st.ent m).isBx = true → ((st.freezes ns).ent m).isBx = true
  | [], st, m, h => h
  | n :: ns, st, m, h => freezes_bx ns (st.freeze n) (freeze_bx st n h)
theorem ownC_mono {Z : Nat → Prop} : ∀ {t : Ty} {cs : List Value} {d : t.den} {bs : List (Option Nat)}, OwnC Z w t cs d bs → (∀ b, Z b → w'.heap[b]? = w.heap[b]?) → (∀ b, some b ∈ bs → w'.heap[b]? = w.heap[b]?) → OwnC Z w' t cs d bs := by
  intro t
  induction t with
  | int k => intro cs d bs h hz hb; exact ⟨h.1.mono (fun _ h => h) hz, h.2⟩
  | bool => intro cs d bs h hz hb; exact ⟨h.1.mono (fun _ h => h) hz, h.2⟩
  | str => intro cs d bs h hz hb; exact ⟨h.1.mono (fun _ h => h) hz, h.2⟩
  | sl e ih =>
    intro cs xs bs h hz hb
    rcases h with h | ⟨b, cap, vals, el, h1, h2, h3, h4, h5, h6, h7⟩
    · exact .inl h
    · refine .inr ⟨b, cap, vals, el, h1, h2, by rw [hb b (by rw [h2]; simp)]; exact h3, h4, h5, h6, fun i hi => ?_⟩
      obtain ⟨es, k1, k2, k3⟩ := h7 i hi
      exact ⟨es, k1, k2, k3.mono (fun _ h => h) hz⟩
  | st t ih => exact fun h => ih h
  | pr a b iha ihb =>
    intro cs d bs h hz hb
    obtain ⟨c1, c2, b1, b2, h1, h2, h3, h4⟩ := h
    exact ⟨c1, c2, b1, b2, h1, h2, iha h3 hz (fun b hb' => hb b (by rw [h2]; exact List.mem_append_left _ hb')), ihb h4 hz (fun b hb' => hb b (by rw [h2]; exact List.mem_append_right _ hb'))⟩
  | ptr t ih => intro cs d bs h; exact h.elim
  | clo f t ih => intro cs d bs h; exact h.elim
  | gs wh e ih => intro cs d bs h; exact h.elim
theorem ownVals_mono {Z : Nat → Prop} : ∀ {ts : List Ty} {vs : List Value} {d : Tup ts} {bs : List (Option Nat)}, OwnVals Z w ts vs d bs → (∀ b, Z b → w'.heap[b]? = w.heap[b]?) → (∀ b, some b ∈ bs → w'.heap[b]? = w.heap[b]?) → OwnVals Z w' ts vs d bs
  | [], _, _, _, h, _, _ => h
  | [t], vs, d, bs, h, hz, hb => by obtain ⟨v, h1, cs, h2, h3⟩ := h; exact ⟨v, h1, cs, h2, ownC_mono h3 hz hb⟩
  | t :: u :: r, vs, d, bs, h, hz, hb => by
    obtain ⟨v, vs', b1, b2, h1, h2, ⟨cs, h3, h4⟩, h5⟩ := h
    exact ⟨v, vs', b1, b2, h1, h2, ⟨cs, h3, ownC_mono h4 hz (fun b hb' => hb b (by rw [h2]; exact List.mem_append_left _ hb'))⟩, ownVals_mono h5 hz (fun b hb' => hb b (by rw [h2]; exact List.mem_append_right _ hb'))⟩
theorem good_callX (m : Mem base M w0 V hp w) {nx : Nat} {rs : List Ty} {d : Tup rs} {Z1 : Nat → Prop} {bs : List (Option Nat)} {vs : List Value} (h1 : OwnVals Z1 w' rs vs d bs) (h2 : (bs.filterMap id).Nodup)
    (h3 : ∀ b, some b ∈ bs → w.heap.size ≤ b ∧ b < w'.heap.size ∧ ¬ Z1 b) (h4 : ∀ b, Z1 b → w.heap.size ≤ b ∧ b < w'.heap.size) (hk : Kept w.heap.size noM w w') (hd : ∀ j, j < (freshS rs d nx).2.length → hp (nx + j) = .dead) :
    Good base M w0 V hp w nx (freshS rs d nx).1 (freshS rs d nx).2 (hyOf rs d) (oneOr vs) w' (V.ext nx bs Z1) := by
  have hlen := freshS_len nx h1
  have x := VX.of_kept m hk (nx := nx) (es := (freshS rs d nx).2) (bs := bs) (Z := Z1) hlen.symm hd
  have hl : Lies (V.ext nx bs Z1) (hpNew hp nx (freshS rs d nx).2) Z1 nx (freshS rs d nx).2 bs := ⟨fun j b hb => Vl.ext_has_new hb, fun j b hb => Vl.ext_blk_new hb, fun j e he => hpNew_new he, fun b hb => .inr hb⟩
  obtain ⟨g1, g2⟩ := freshS_ok h1 hl
  refine ⟨m.grow hk hlen.symm hd h2 h3 h4 (fun j cs hj => ?_) (fun j e he => g2 j e he) (freshS_true rs d nx), x, g1, fun p hp' => ?_⟩
  · exact (freshS_row rs d nx _ (List.mem_of_getElem? hj) cs rfl).elim
  · unfold hyOf at hp'
    split at hp'
    · injection hp' with hp'; subst hp'; exact ownVals_wf h1
    · cases hp'
structure BoxOk (w w' : World) (B n : Nat) (Z : Nat → Prop) (t : Ty) (rs : List Ty) (v : Value) (out : Tup rs) (g : t.den) : Prop where
  ex : ∃ (Z1 : Nat → Prop) (bs : List (Option Nat)) (vs : List Value), v = oneOr vs ∧ OwnVals Z1 w' rs vs out bs ∧ (bs.filterMap id).Nodup ∧
    (∀ b, some b ∈ bs → w.heap.size ≤ b ∧ b < w'.heap.size ∧ ¬ Z1 b) ∧ (∀ b, Z1 b → w.heap.size ≤ b ∧ b < w'.heap.size) ∧
    ∃ vals' el', w'.heap[B]? = some (.cells vals' el' (0, 0)) ∧ vals'.size = n ∧ RdC (fun b => Z b ∨ Z1 b) w' t vals'.toList g
  os : w'.os = w.os ∧ w'.tape = w.tape ∧ w'.output = w.output
  size : w.heap.size ≤ w'.heap.size
  block : ∀ b, b < w.heap.size → b ≠ B → w'.heap[b]? = w.heap[b]?
end
end Go.SX
/- Functions that write the box behind their first argument: the rule. No condition. -/
namespace Go.SX
open Go.RowKit
set_option linter.unusedVariables false
set_option linter.unusedSimpArgs false
section
variable {P : Program} {T : Tab} {Γ : FuncId → Option PC} {R : FuncId → Option Rule} {base : Nat} {M : LM} {w0 : World} {V : Vl} {hp : Nat → Ent} {w w' : World}
theorem boxIs_ok {t : Ty} {g : t.den} {n : Nat} (h : boxIs t g (hp n)) (he : (hp n).ok V hp w n) : ∃ cs, hp n = .bx cs ∧ ∃ vals el, w.heap[V.blk n]? = some (.cells vals el (0, 0)) ∧ RdC (V.Z false) w t vals.toList g := by
  cases hn : hp n with
  | dead => rw [hn] at h; exact h.elim
  | row fr e xs => rw [hn] at h; exact h.elim
  | bx cs =>
    rw [hn] at h he
    obtain ⟨vals, el, h1, h2⟩ := he
    unfold boxIs at h
    simp only at h
    split at h
    · rename_i hno
      split at h
      · rename_i y hy
        subst h
        rw [lall_eq, List.all_eq_true] at hno
        exact ⟨cs, rfl, vals, el, h1, readAll_zone hy h2 (fun c hc => ⟨hno c hc, fun h => by cases h⟩)⟩
      · exact h.elim
    · exact h.elim
theorem box_sem (hm : P.follows .mixedOrders = true) (hT : TabOk P T) (hΓ : GamOk P Γ) (hR : RulesOk P R) {f : FuncId} {fn : Func} (hf : P.funcs[f]? = some fn) {bc : BC} {A : bc.t.den → Tup bc.ts → Nat → Option Ann}
    (h : vcBox T Γ R fn bc A) {B : Nat} {vals : Array Value} {el : TypeId} {Z : Nat → Prop} {d : bc.t.den} {x : Tup bc.ts} {vs : List Value} (hB : w.heap[B]? = some (.cells vals el (0, 0)))
    (hz : ∀ b, Z b → b < w.heap.size) (hZB : ¬ Z B) (hd : RdC Z w bc.t vals.toList d) (hx : RdArgs Z w bc.ts vs x) (hpre : bc.pre d x) :
    Calls P f (Value.pointer (some ⟨B, 0, none⟩) :: vs).toArray w fun e w' => ∃ v, e = .returned v ∧ BoxOk w w' B vals.size Z bc.t bc.rs v (bc.F d x) (bc.G d x) := by
  unfold vcBox at h
  split at h
  case h_2 => exact h.elim
  rename_i code hb
  have hvc := h d x hd.wf (argsZ_wf hx) hpre
  have hBlt : B < w.heap.size := (Array.getElem?_eq_some_iff.1 hB).1
  let V0 : Vl := ⟨fun _ => B, fun j => j = 0, Z, fun _ => False⟩
  let M0 : LM := ⟨fun b => b = B, fun b j => b = B ∧ j = 0, fun b => Z b ∨ b = B, fun b h => .inr h, fun b => b = B⟩
  have hz0 : ∀ b, Z b → V0.Z false b := fun b hb => .inr ⟨rfl, hb⟩
  have h0 : (startBox bc.t d bc.ts x fn.ntmps).ent 0 = .bx (expand false bc.t d) := rfl
  have hdead : ∀ j, j ≠ 0 → (startBox bc.t d bc.ts x fn.ntmps).ent j = .dead := by
    intro j hj
    cases j with
    | zero => exact absurd rfl hj
    | succ j => rfl
  have hlv : ∀ j, ((startBox bc.t d bc.ts x fn.ntmps).ent j).live = true → j = 0 := by
    intro j hj
    by_cases e : j = 0
    · exact e
    · rw [hdead j e] at hj; cases hj
  have mem0 : Mem w.heap.size M0 w V0 (startBox bc.t d bc.ts x fn.ntmps).ent w := by
    refine ⟨fun j => ?_, fun j cs hj => hlv j (by rw [hj]; rfl), fun j hj hh => ?_, fun j e ys hj => ?_, fun j j' hj hj' _ _ _ => ?_, fun b h => ⟨hz b h, .inl h⟩, fun b h => h.elim, ⟨rfl, rfl, rfl, Nat.le_refl _, fun _ _ _ => rfl, fun b v2 e2 _ _ hv2 => ⟨v2, e2, hv2, rfl⟩⟩, fun j hj hh => ?_, fun b hb => ⟨by rw [h0]; rfl, hb.symm⟩, fun j hh q hq => ?_⟩
    · by_cases e : j = 0
      · subst e
        rw [h0]
        exact ⟨vals, el, hB, ok_expand false bc.t (hd.mono hz0 (fun _ _ => rfl))⟩
      · rw [hdead j e]; trivial
    · refine ⟨.inr rfl, hBlt, fun hzz => ?_⟩
      rcases hzz with hzz | ⟨_, hzz⟩
      · exact hzz
      · exact hZB hzz
    · have := hlv j (by rw [hj]; rfl)
      subst this
      rw [h0] at hj; cases hj
    · rw [hlv j hj, hlv j' hj']
    · have := hlv j (lentish_live hj)
      subst this
      rw [h0] at hj; exact hj.elim
    · have := hlv j (lentish_live (lids_lent hq))
      subst this
      rw [h0] at hq; cases hq
  have hx' : RdArgs (V0.Z false) w bc.ts vs x := by
    have mono : ∀ {ts : List Ty} {vs : List Value} {d : Tup ts}, RdArgs Z w ts vs d → RdArgs (V0.Z false) w ts vs d := by
      intro ts
      induction ts with
      | nil => intro vs d h; exact h
      | cons t r ih =>
        intro vs d h
        cases r with
        | nil => obtain ⟨v, h1, cs, h2, h3⟩ := h; exact ⟨v, h1, cs, h2, h3.mono hz0 (fun _ _ => rfl)⟩
        | cons u r => obtain ⟨v, vs', h1, ⟨cs, h2, h3⟩, h4⟩ := h; exact ⟨v, vs', h1, ⟨cs, h2, h3.mono hz0 (fun _ _ => rfl)⟩, ih h4⟩
    exact mono hx
  obtain ⟨l1, l2, l3⟩ := argsS_zone (hp := (startBox bc.t d bc.ts x fn.ntmps).ent) hx'
  have sat0 : Sat w.heap.size M0 w (startBox bc.t d bc.ts x fn.ntmps) { tmps := (Value.pointer (some ⟨B, 0, none⟩) :: vs).toArray ++ Array.replicate (fn.ntmps - (Value.pointer (some ⟨B, 0, none⟩) :: vs).toArray.size) undef, defers := [] } w := by
    refine ⟨rfl, V0, ⟨?_, fun i s' v' hs' hv' => ?_, mem0⟩⟩
    · show (S.c (.box 0 0) :: lapp (argsS bc.ts x) (lrep S.und (fn.ntmps - (llen bc.ts + 1)))).length = _
      rw [lapp_eq, lrep_eq, llen_eq]; simp [l1, l2]; omega
    · have hs' : (S.c (.box 0 0) :: lapp (argsS bc.ts x) (lrep S.und (fn.ntmps - (llen bc.ts + 1))))[i]? = some s' := hs'
      have hv' : ((Value.pointer (some ⟨B, 0, none⟩) :: vs) ++ List.replicate (fn.ntmps - (vs.length + 1)) undef)[i]? = some v' := by
        rw [← hv']
        simp only [Array.getElem?_append, List.getElem?_append, List.getElem?_toArray, List.size_toArray, Array.getElem?_replicate, List.getElem?_replicate, List.length_cons]
      cases i with
      | zero =>
        simp only [List.getElem?_cons_zero, Option.some.injEq, List.cons_append] at hs' hv'
        subst hs'; subst hv'
        exact ⟨rfl, rfl, _, h0⟩
      | succ i =>
        simp only [List.getElem?_cons_succ, List.cons_append, lapp_eq, lrep_eq, llen_eq] at hs' hv'
        rcases Nat.lt_or_ge i vs.length with hi | hi
        · rw [List.getElem?_append_left (by omega)] at hs'
          rw [List.getElem?_append_left hi] at hv'
          exact l3 i s' v' hs' hv'
        · rw [List.getElem?_append_right (by omega), List.getElem?_replicate] at hs'
          rw [List.getElem?_append_right hi, List.getElem?_replicate] at hv'
          split at hs'
          · injection hs' with hs'; subst hs'
            split at hv'
            · injection hv' with hv'; exact hv'.symm
            · cases hv'
          · cases hs'
  refine calls_of_wp (args := (Value.pointer (some ⟨B, 0, none⟩) :: vs).toArray) hf hb (vc_ok hm hT hΓ hR code (A d x) _ _ _ _ w sat0 hvc (fun e A' st' a' w' hk hs' => ?_))
  obtain ⟨hdf, V1, r⟩ := hs'
  have m1 := r.mem
  have key : vcPostBox T fn bc.t bc.rs (bc.F d x) (bc.G d x) e st' → (∃ i, e = .exit i) ∨ ∃ v, (results fn a'.tmps).run P w' = .ok v w' ∧ BoxOk w w' B vals.size Z bc.t bc.rs v (bc.F d x) (bc.G d x) := by
    intro hp
    unfold vcPostBox at hp
    split at hp
    · exact hp.elim
    · right
      split at hp
      · rename_i ss hss
        split at hp
        · rename_i y ns ho
          split at hp
          · rename_i hnd
            obtain ⟨hp1, hp2⟩ := hp
            obtain ⟨us, e1, e2, e3⟩ := resAll_run hT r hss
            refine ⟨_, results_run e3, ?_⟩
            obtain ⟨bs, k1, k2, k3⟩ := outAll_ok (vs := us) m1.ents ho e1 e2
            rw [← hp1]
            obtain ⟨q1, q2⟩ := m1.lentb B rfl
            obtain ⟨cs, g1, vals', el', g2, g3⟩ := boxIs_ok hp2 (m1.ents 0)
            rw [q2] at g2
            obtain ⟨vals2, el2, s1, s2⟩ := m1.kept.shape B vals el hBlt rfl hB
            rw [g2] at s1
            injection s1 with s1
            injection s1 with s1 _ _
            refine ⟨⟨V1.Z true, bs, us, rfl, k1, by rw [k2]; exact nodup_blks m1 (nodupN_ok hnd) k3, fun b hb => ?_, fun b hb => ?_, vals', el', g2, by rw [s1]; exact s2, g3.mono (fun b hb => ?_) (fun _ _ => rfl)⟩, ⟨m1.kept.os, m1.kept.tape, m1.kept.output⟩, m1.kept.size, fun b hb hne => m1.kept.block b hb hne⟩
            · have hb' : b ∈ bs.filterMap id := List.mem_filterMap.2 ⟨some b, hb, rfl⟩
              rw [k2] at hb'
              obtain ⟨n, h1, h2, rfl⟩ := mem_blksOf hb'
              obtain ⟨e, xs, h3⟩ := k3 n h1
              obtain ⟨_, h4, h5⟩ := m1.own n (by rw [h3]; rfl) h2
              exact ⟨m1.mine n e xs h3 h2, h4, fun hz => h5 (Vl.Z_all hz)⟩
            · rcases hb with hb | ⟨hb, _⟩
              · exact m1.z1 b hb
              · cases hb
            · rcases hb with hb | ⟨_, hb⟩
              · exact .inr (.inl hb)
              · rcases (m1.z0 b hb).2 with h | h
                · exact .inl h
                · have hown := m1.own 0 (by rw [g1]; rfl) (m1.box 0 cs g1)
                  rw [q2] at hown
                  exact absurd (Or.inr ⟨rfl, by rw [← h]; exact hb⟩) hown.2.2
          · exact hp.elim
        · exact hp.elim
      · exact hp.elim
  have hk' := key
  cases e with
  | normal =>
    rcases hk' hk with ⟨i, h⟩ | ⟨v, h1, h2⟩
    · cases h
    · exact ⟨hdf, v, h1, v, rfl, h2⟩
  | exit i => exact hk.elim
  | ret =>
    rcases hk' hk with ⟨i, h⟩ | ⟨v, h1, h2⟩
    · cases h
    · exact ⟨hdf, v, h1, v, rfl, h2⟩
theorem box_back {st : St} {ts : Array Value} (r : Rel base M w0 V st ts w) {m : Nat} {cs : List C} (hm : st.ent m = .bx cs) {vals : Array Value} {el : TypeId} (hB : w.heap[V.blk m]? = some (.cells vals el (0, 0)))
    {Z : Nat → Prop} {t : Ty} {rs : List Ty} {v : Value} {out : Tup rs} {g : t.den} (ok : BoxOk w w' (V.blk m) vals.size Z t rs v out g) {cs' : List C}
    (hcs : ∀ (V' : Vl) (hp' : Nat → Ent) (w1 : World) (vs' : List Value) (Z1 : Nat → Prop), (∀ b, Z1 b → V'.Z false b) → (∀ b, V.Z false b → V'.Z false b) → RdC (fun b => Z b ∨ Z1 b) w' t vs' g → vs'.length = vals.size → (∀ b, Z b ∨ Z1 b → b ≠ V.blk m → w1.heap[b]? = w'.heap[b]?) → (∀ b, Z1 b → b ≠ V.blk m) → okAll V' hp' w1 cs' vs') :
    ∃ V', (∀ p, hyOf rs out = some p → p) ∧ Rel base M w0 V' { (st.alloc (freshS rs out (llen st.hp)).2) with hp := lset (st.alloc (freshS rs out (llen st.hp)).2).hp m (.bx cs') } ts w' ∧
      S.ok V' (St.mk st.ts (lset (st.alloc (freshS rs out (llen st.hp)).2).hp m (.bx cs'))).ent w' (freshS rs out (llen st.hp)).1 v := by
  have mm := r.mem
  have hhas := mm.box m cs hm
  obtain ⟨o1, o2, o3⟩ := mm.own m (by rw [hm]; rfl) hhas
  obtain ⟨⟨Z1, bs, vs, rfl, h1, h2, h3, h4, vals', el', h5, h6, h7⟩, hos, hsz, hblk⟩ := ok
  generalize hBe : V.blk m = B at *
  let w1 : World := { w' with heap := w'.heap.setIfInBounds B (.cells vals el (0, 0)) }
  have hw1 : ∀ b, b ≠ B → w1.heap[b]? = w'.heap[b]? := fun b hb => by
    show (w'.heap.setIfInBounds B _)[b]? = _
    rw [Array.getElem?_setIfInBounds, if_neg (fun e => hb e.symm)]
  have hw1B : w1.heap[B]? = some (.cells vals el (0, 0)) := by
    show (w'.heap.setIfInBounds B _)[B]? = _
    rw [Array.getElem?_setIfInBounds, if_pos rfl, if_pos (by omega)]
  have hw1s : w1.heap.size = w'.heap.size := by show (w'.heap.setIfInBounds B _).size = _; simp
  have hk1 : Kept w.heap.size noM w w1 := by
    refine ⟨hos.1, hos.2.1, hos.2.2, by rw [hw1s]; exact hsz, fun b hb _ => ?_, fun _ _ _ _ h _ => h.elim⟩
    by_cases e : b = B
    · subst e; rw [hw1B, hB]
    · rw [hw1 b e]; exact hblk b hb e
  have hz1 : ∀ b, Z1 b → b ≠ B := fun b hb e => by have := (h4 b hb).1; omega
  have g := good_callX mm (nx := llen st.hp) (ownVals_mono (w' := w1) h1 (fun b hb => hw1 b (hz1 b hb)) (fun b hb => hw1 b (fun e => by have := (h3 b hb).1; omega))) h2
    (fun b hb => by rw [hw1s]; exact h3 b hb) (fun b hb => by rw [hw1s]; exact h4 b hb) hk1 (fun j _ => ent_dead st j)
  obtain ⟨r1, hres⟩ := rel_good r g
  generalize hV' : V.ext (llen st.hp) bs Z1 = V' at *
  generalize hes : (freshS rs out (llen st.hp)).2 = es at *
  have hnm : m < st.hp.length := ent_lt (by rw [hm]; rfl)
  have hm1 : (st.alloc es).ent m = .bx cs := by
    rw [ent_alloc]
    rcases hpNew_cases st.ent (llen st.hp) es m with ⟨j, e, h0, _⟩ | ⟨_, h0⟩
    · rw [llen_eq] at h0; omega
    · rw [h0]; exact hm
  have hb1 : V'.blk m = B := by
    rw [← hV', Vl.ext_blk_old (by rw [llen_eq]; omega)]; exact hBe
  have r2 : Rel base M w0 V' ⟨st.ts ++ [(freshS rs out (llen st.hp)).1], lapp st.hp es⟩ (ts ++ [oneOr vs].toArray) w1 :=
    rel_app (a := st.ts) (h := lapp st.hp es) r1 rfl (fun i s v hs hv => by
      cases i with
      | zero =>
        simp only [List.getElem?_cons_zero, Option.some.injEq] at hs hv
        subst hs; subst hv; exact hres
      | succ i => simp at hs)
  have hkw : Kept base M w0 w' := by
    have k := r1.mem.kept
    refine ⟨k.os, k.tape, k.output, by rw [← hw1s]; exact k.size, fun b hb hM => ?_, fun b v2 e2 hb hM hv => ?_⟩
    · rw [← hw1 b (fun e => by subst e; rcases o1 with h | h; omega; exact hM h)]
      exact k.block b hb hM
    · obtain ⟨v3, e3, j1, j2⟩ := k.shape b v2 e2 hb hM hv
      by_cases e : b = B
      · subst e
        rw [hw1B] at j1
        injection j1 with j1
        injection j1 with j1 _ _
        subst j1
        exact ⟨vals', el', h5, by rw [h6]; exact j2⟩
      · exact ⟨v3, e3, by rw [← hw1 b e]; exact j1, j2⟩
  have hZ1' : ∀ b, Z1 b → V'.Z false b := fun b hb => by rw [← hV']; exact Vl.ext_Z.2 (.inr hb)
  have hVZ : ∀ b, V.Z false b → V'.Z false b := fun b hb => by rw [← hV']; exact Vl.ext_Z.2 (.inl hb)
  have hok := hcs V' (st.alloc es).ent w1 vals'.toList Z1 hZ1' hVZ h7 (by simpa using h6) (fun b _ hb => hw1 b hb) hz1
  have r3 := rel_write_box (cs' := cs') r2 (m := m) (cs := cs) hm1 (w' := w') (fun b hb => (hw1 b (by rw [← hb1]; exact hb)).symm) hkw hw1s.symm (by rw [hb1]; exact h5) hok
  obtain ⟨r4, _, r5⟩ := rel_unapp (a := st.ts) (b := [(freshS rs out (llen st.hp)).1]) (h := lset (lapp st.hp es) m (.bx cs')) (us := [oneOr vs]) r3 r.len
  exact ⟨V', g.hy, r4, r5 0 _ _ rfl rfl⟩
theorem anyCs_get : ∀ {cs : List C} {j : Nat} {c : C}, (anyCs cs)[j]? = some c → c = .any
  | [], j, c, h => by cases h
  | _ :: r, 0, c, h => by simp only [anyCs, List.getElem?_cons_zero, Option.some.injEq] at h; exact h.symm
  | _ :: r, j + 1, c, h => anyCs_get (cs := r) (by simpa [anyCs] using h)
theorem anyCs_len : ∀ cs : List C, (anyCs cs).length = cs.length
  | [] => rfl
  | _ :: r => by simp [anyCs, anyCs_len r]
theorem vcBox_rule (hm : P.follows .mixedOrders = true) (hT : TabOk P T) (hΓ : GamOk P Γ) (hR : RulesOk P R) {f : FuncId} {fn : Func} (hf : P.funcs[f]? = some fn) {bc : BC} {A : bc.t.den → Tup bc.ts → Nat → Option Ann}
    (h : vcBox T Γ R fn bc A) : RuleOk P f (boxRule bc) := by
  intro base M w0 V st ts w ss vs K r hlen hslots hrule
  unfold boxRule at hrule
  split at hrule
  case h_2 => exact hrule.elim
  rename_i m xs
  split at hrule
  case h_2 => exact hrule.elim
  rename_i cs hme
  split at hrule
  case isFalse => exact hrule.elim
  rename_i hno
  rw [Bool.and_eq_true] at hno
  obtain ⟨hno1, hno2⟩ := hno
  rw [lall_eq, List.all_eq_true] at hno1 hno2
  split at hrule
  case h_2 => exact hrule.elim
  rename_i d hdd
  split at hrule
  case h_2 => exact hrule.elim
  rename_i x hxx
  match vs, hlen with
  | pv :: us, hlen =>
    have hlen' : xs.length = us.length := by simpa using hlen
    obtain ⟨hpv, hhas, cs0, hcs0⟩ := hslots 0 _ pv rfl rfl
    subst hpv
    have mm := r.mem
    have hmok := mm.ents m
    rw [hme] at hmok
    obtain ⟨vals, el, hB, hcells⟩ := hmok
    have hd0 := readAll_zone (fr := false) hdd hcells (fun c hc => ⟨hno1 c hc, fun h => by cases h⟩)
    have r0 : Rel base M w0 V ⟨st.ts ++ xs, st.hp⟩ (ts ++ us.toArray) w := rel_app (a := st.ts) (h := st.hp) r hlen' (fun i s v hs hv => hslots (i + 1) s v (by simpa using hs) (by simpa using hv))
    obtain ⟨V1, r1, hb1, hh1, hz1⟩ := r0.freezesX (ownsS xs)
    obtain ⟨f1, f2⟩ := freezes_app (ownsS xs) st.ts xs st.hp
    rw [f1] at r1
    obtain ⟨g1, g2⟩ := freezes_len (ownsS xs) (St.mk st.ts st.hp)
    obtain ⟨g3, _⟩ := freezes_len (ownsS xs) (St.mk xs st.hp)
    obtain ⟨r2, _, hsl⟩ := rel_unapp (a := ((St.mk st.ts st.hp).freezes (ownsS xs)).ts) (b := ((St.mk xs st.hp).freezes (ownsS xs)).ts) (h := ((St.mk st.ts st.hp).freezes (ownsS xs)).hp) r1 (by rw [g1]; exact r.len)
    have hargs : RdArgs (V1.Z false) w bc.ts us x := readArgs_zone bc.ts hxx (by rw [g3]; exact hlen') hsl hno2
    have hbx1 : ((st.freezes (ownsS xs)).ent m).isBx = true := freezes_bx (ownsS xs) st (by rw [hme]; rfl)
    obtain ⟨cs1, hcs1⟩ : ∃ cs1, (st.freezes (ownsS xs)).ent m = .bx cs1 := by
      cases hq : (st.freezes (ownsS xs)).ent m with
      | bx c => exact ⟨c, rfl⟩
      | dead => rw [hq] at hbx1; cases hbx1
      | row fr e ys => rw [hq] at hbx1; cases hbx1
    have r2' : Rel base M w0 V1 (st.freezes (ownsS xs)) ts w := r2
    have hown := r2'.mem.own m (by rw [hcs1]; rfl) (r2'.mem.box m cs1 hcs1)
    rw [hb1] at hown
    have hsem : bc.pre d x → Calls P f (Value.pointer (some ⟨V.blk m, 0, none⟩) :: us).toArray w fun e w' => ∃ v, e = .returned v ∧ BoxOk w w' (V.blk m) vals.size (V1.Z false) bc.t bc.rs v (bc.F d x) (bc.G d x) :=
      fun hpre => box_sem hm hT hΓ hR hf h hB (fun b hb => r2'.mem.z_lt hb) hown.2.2 (hd0.mono (fun b hb => hz1 false b hb) (fun _ _ => rfl)) hargs hpre
    split at hrule
    · obtain ⟨hpre, hK⟩ := hrule
      refine (hsem hpre).mono (fun e w' hr => ?_)
      obtain ⟨v, rfl, ok⟩ := hr
      obtain ⟨V', k1, k2, k3⟩ := box_back r hme hB ok (cs' := anyCs cs) (fun V' hp' w1 vs' Z1 q1 q2 q3 q4 q5 q6 => by
        refine ⟨by rw [anyCs_len, q4, hcells.1]; simp, fun j c u hc hu => ?_⟩
        rw [anyCs_get hc]
        exact q3.oneCell u (List.mem_of_getElem? hu))
      exact ⟨v, rfl, V', _, _, impO_elim hK k1, k2, k3⟩
    · obtain ⟨hpre, hK⟩ := hrule
      refine (hsem hpre).mono (fun e w' hr => ?_)
      obtain ⟨v, rfl, ok⟩ := hr
      rw [← hb1] at ok
      obtain ⟨V', k1, k2, k3⟩ := box_back r2' hcs1 (by rw [hb1]; exact hB) ok (cs' := expand false bc.t (bc.G d x)) (fun V' hp' w1 vs' Z1 q1 q2 q3 q4 q5 q6 => by
        refine ok_expand false bc.t (q3.mono (fun b hb => hb.elim (fun h => q2 b h) (fun h => q1 b h)) (fun b hb => q5 b hb (fun e => ?_)))
        rcases hb with hb | hb
        · rw [e, hb1] at hb; exact hown.2.2 hb
        · exact q6 b hb e)
      exact ⟨v, rfl, V', _, _, impO_elim hK k1, k2, k3⟩
end
end Go.SX
/- Functions that hand back the address of a new box: the rule. No condition. -/
namespace Go.SX
open Go.RowKit
set_option linter.unusedVariables false
set_option linter.unusedSimpArgs false
section
variable {P : Program} {T : Tab} {Γ : FuncId → Option PC} {R : FuncId → Option Rule} {base : Nat} {M : LM} {w0 : World} {V : Vl} {hp : Nat → Ent} {w w' : World}
structure NewOk (w w' : World) (Z : Nat → Prop) (t : Ty) (rs : List Ty) (v : Value) (out : Tup rs) (g : t.den) : Prop where
  ex : ∃ (B : Nat) (Z1 : Nat → Prop) (bs : List (Option Nat)) (vs : List Value), v = oneOr (.pointer (some ⟨B, 0, none⟩) :: vs) ∧ OwnVals Z1 w' rs vs out bs ∧ ((some B :: bs).filterMap id).Nodup ∧
    (∀ b, some b ∈ some B :: bs → w.heap.size ≤ b ∧ b < w'.heap.size ∧ ¬ Z1 b) ∧ (∀ b, Z1 b → w.heap.size ≤ b ∧ b < w'.heap.size) ∧
    ∃ vals' el', w'.heap[B]? = some (.cells vals' el' (0, 0)) ∧ RdC (fun b => Z b ∨ Z1 b) w' t vals'.toList g
  kept : Kept w.heap.size noM w w'
theorem new_sem (hm : P.follows .mixedOrders = true) (hT : TabOk P T) (hΓ : GamOk P Γ) (hR : RulesOk P R) {f : FuncId} {fn : Func} (hf : P.funcs[f]? = some fn) {nc : NC} {A : Tup nc.ts → Nat → Option Ann}
    (h : vcNew T Γ R fn nc A) {Z : Nat → Prop} {x : Tup nc.ts} {vs : List Value} (hz : ∀ b, Z b → b < w.heap.size) (hx : RdArgs Z w nc.ts vs x) (hpre : nc.pre x) :
    Calls P f vs.toArray w fun e w' => ∃ v, e = .returned v ∧ NewOk w w' Z nc.t nc.rs v (nc.F x) (nc.G x) := by
  unfold vcNew at h
  split at h
  case h_2 => exact h.elim
  rename_i code hb
  have hvc := h x (argsZ_wf hx) hpre
  let V0 : Vl := ⟨fun _ => 0, fun _ => False, Z, fun _ => False⟩
  let M0 : LM := ⟨fun _ => False, fun _ _ => False, Z, fun b h => h.elim, fun _ => False⟩
  have hz0 : ∀ b, Z b → V0.Z false b := fun b hb => .inr ⟨rfl, hb⟩
  have he : (St.start nc.ts x fn.ntmps).ent = fun _ => .dead := by
    funext k
    show nth .dead ([] : List Ent) k = _
    rw [nth_eq]; rfl
  have mem0 : Mem w.heap.size M0 w V0 (St.start nc.ts x fn.ntmps).ent w := by
    rw [he]
    exact ⟨fun _ => trivial, (fun n cs h => by cases h), (fun n h => by cases h), (fun n e xs h => by cases h), (fun n m h => by cases h), fun b h => ⟨hz b h, h⟩, fun b (h : False) => h.elim, ⟨rfl, rfl, rfl, Nat.le_refl _, fun _ _ _ => rfl, fun _ _ _ _ h _ => h.elim⟩, fun n h => h.elim, fun b (h : False) => h.elim, fun n (h : False) => h.elim⟩
  have hx' : RdArgs (V0.Z false) w nc.ts vs x := by
    have mono : ∀ {ts : List Ty} {vs : List Value} {d : Tup ts}, RdArgs Z w ts vs d → RdArgs (V0.Z false) w ts vs d := by
      intro ts
      induction ts with
      | nil => intro vs d h; exact h
      | cons t r ih =>
        intro vs d h
        cases r with
        | nil => obtain ⟨v, h1, cs, h2, h3⟩ := h; exact ⟨v, h1, cs, h2, h3.mono hz0 (fun _ _ => rfl)⟩
        | cons u r => obtain ⟨v, vs', h1, ⟨cs, h2, h3⟩, h4⟩ := h; exact ⟨v, vs', h1, ⟨cs, h2, h3.mono hz0 (fun _ _ => rfl)⟩, ih h4⟩
    exact mono hx
  obtain ⟨l1, l2, l3⟩ := argsS_zone (hp := (St.start nc.ts x fn.ntmps).ent) hx'
  have sat0 : Sat w.heap.size M0 w (St.start nc.ts x fn.ntmps) { tmps := vs.toArray ++ Array.replicate (fn.ntmps - vs.toArray.size) undef, defers := [] } w := by
    refine ⟨rfl, V0, ⟨?_, fun i s' v' hs' hv' => ?_, mem0⟩⟩
    · show (lapp (argsS nc.ts x) (lrep S.und (fn.ntmps - llen nc.ts))).length = _
      rw [lapp_eq, lrep_eq, llen_eq]; simp [l1, l2]
    · have hs' : (lapp (argsS nc.ts x) (lrep S.und (fn.ntmps - llen nc.ts)))[i]? = some s' := hs'
      have hv' : (vs ++ List.replicate (fn.ntmps - vs.length) undef)[i]? = some v' := by
        rw [← hv']
        simp only [Array.getElem?_append, List.getElem?_append, List.getElem?_toArray, List.size_toArray, Array.getElem?_replicate, List.getElem?_replicate]
      rw [lapp_eq, lrep_eq, llen_eq] at hs'
      rcases Nat.lt_or_ge i vs.length with hi | hi
      · rw [List.getElem?_append_left (by omega)] at hs'
        rw [List.getElem?_append_left hi] at hv'
        exact l3 i s' v' hs' hv'
      · rw [List.getElem?_append_right (by omega), List.getElem?_replicate] at hs'
        rw [List.getElem?_append_right hi, List.getElem?_replicate] at hv'
        split at hs'
        · injection hs' with hs'; subst hs'
          split at hv'
          · injection hv' with hv'; exact hv'.symm
          · cases hv'
        · cases hs'
  refine calls_of_wp (args := vs.toArray) hf hb (vc_ok hm hT hΓ hR code (A x) _ _ _ _ w sat0 hvc (fun e A' st' a' w' hk hs' => ?_))
  obtain ⟨hdf, V1, r⟩ := hs'
  have m1 := r.mem
  have hk1 : Kept w.heap.size noM w w' := ⟨m1.kept.os, m1.kept.tape, m1.kept.output, m1.kept.size, fun b hb _ => m1.kept.block b hb (fun h => h), fun _ _ _ _ h _ => h.elim⟩
  have key : vcPostNew T fn nc.t nc.rs (nc.F x) (nc.G x) e st' → (∃ i, e = .exit i) ∨ ∃ v, (results fn a'.tmps).run P w' = .ok v w' ∧ NewOk w w' Z nc.t nc.rs v (nc.F x) (nc.G x) := by
    intro hp
    unfold vcPostNew at hp
    split at hp
    · exact hp.elim
    · right
      split at hp
      · rename_i n ss hss
        split at hp
        · rename_i y ns ho
          split at hp
          · rename_i hnd
            obtain ⟨hp1, hp2⟩ := hp
            obtain ⟨us0, e1, e2, e3⟩ := resAll_run hT r hss
            match us0, e1 with
            | u :: us, e1 =>
              refine ⟨_, results_run e3, ?_⟩
              obtain ⟨hu, hhas, _⟩ := e2 0 _ u rfl rfl
              subst hu
              obtain ⟨bs, k1, k2, k3⟩ := outAll_ok (vs := us) m1.ents ho (by simpa using e1) (fun i s v hs hv => e2 (i + 1) s v (by simpa using hs) (by simpa using hv))
              rw [← hp1]
              obtain ⟨cs, g1, vals', el', g2, g3⟩ := boxIs_ok hp2 (m1.ents n)
              obtain ⟨o1, o2, o3⟩ := m1.own n (by rw [g1]; rfl) hhas
              have o1' : w.heap.size ≤ V1.blk n := by rcases o1 with h | h; exact h; exact h.elim
              refine ⟨⟨V1.blk n, V1.Z true, bs, us, rfl, k1, ?_, fun b hb => ?_, fun b hb => ?_, vals', el', g2, g3.mono (fun b hb => ?_) (fun _ _ => rfl)⟩, hk1⟩
              · rw [show (some (V1.blk n) :: bs).filterMap id = V1.blk n :: bs.filterMap id from rfl, k2]
                refine List.nodup_cons.2 ⟨fun hmem => ?_, nodup_blks m1 (nodupN_ok hnd) k3⟩
                obtain ⟨n', h1, h2, h3⟩ := mem_blksOf hmem
                obtain ⟨e', xs', h4⟩ := k3 n' h1
                have := m1.dist n' n (by rw [h4]; rfl) (by rw [g1]; rfl) h2 hhas h3
                subst this
                rw [g1] at h4; cases h4
              · rcases List.mem_cons.1 hb with hb | hb
                · injection hb with hb
                  subst hb
                  exact ⟨o1', o2, fun hz => o3 (Vl.Z_all hz)⟩
                · have hb' : b ∈ bs.filterMap id := List.mem_filterMap.2 ⟨some b, hb, rfl⟩
                  rw [k2] at hb'
                  obtain ⟨n', h1, h2, rfl⟩ := mem_blksOf hb'
                  obtain ⟨e, xs, h3⟩ := k3 n' h1
                  obtain ⟨_, h4, h5⟩ := m1.own n' (by rw [h3]; rfl) h2
                  exact ⟨m1.mine n' e xs h3 h2, h4, fun hz => h5 (Vl.Z_all hz)⟩
              · rcases hb with hb | ⟨hb, _⟩
                · exact m1.z1 b hb
                · cases hb
              · rcases hb with hb | ⟨_, hb⟩
                · exact .inr (.inl hb)
                · exact .inl (m1.z0 b hb).2
          · exact hp.elim
        · exact hp.elim
      · exact hp.elim
  cases e with
  | normal =>
    rcases key hk with ⟨i, h⟩ | ⟨v, h1, h2⟩
    · cases h
    · exact ⟨hdf, v, h1, v, rfl, h2⟩
  | exit i => exact hk.elim
  | ret =>
    rcases key hk with ⟨i, h⟩ | ⟨v, h1, h2⟩
    · cases h
    · exact ⟨hdf, v, h1, v, rfl, h2⟩
theorem boxTup_ok {l : List (Bool × List C)} {vs : List Value} {nx : Nat} {u : Value} (h0 : C.ok V hp w (.box nx 0) u) (hl : l.length = vs.length) (h : ∀ (j : Nat) x v, l[j]? = some x → vs[j]? = some v → okTop V hp w x v) :
    S.ok V hp w (boxTup nx l) (oneOr (u :: vs)) := by
  unfold boxTup
  split
  · have : vs = [] := List.length_eq_zero_iff.1 hl.symm
    subst this
    exact h0
  · rename_i hne
    have hv : oneOr (u :: vs) = .tuple (u :: vs).toArray := by
      match vs, hl with
      | [], hl => exact absurd (List.length_eq_zero_iff.1 hl) hne
      | v :: vs, _ => rfl
    rw [hv]
    refine ⟨_, rfl, by simp [hl], fun j x v hx hv => ?_⟩
    cases j with
    | zero =>
      simp only [List.getElem?_cons_zero, Option.some.injEq] at hx
      subst hx
      have : v = u := by simpa using hv.symm
      subst this
      show okTop V hp w (false, [C.box nx 0]) v
      unfold okTop
      exact okAll_cons_mk h0 okAll_nil
    | succ j => exact h j x v (by simpa using hx) (by simpa using hv)
theorem freshTups_S (ts : List Ty) (d : Tup ts) (nx : Nat) : (freshTups ts d nx).2 = (freshS ts d nx).2 := by unfold freshS; split <;> rename_i h <;> rw [h]
theorem vcNew_rule (hm : P.follows .mixedOrders = true) (hT : TabOk P T) (hΓ : GamOk P Γ) (hR : RulesOk P R) {f : FuncId} {fn : Func} (hf : P.funcs[f]? = some fn) {nc : NC} {A : Tup nc.ts → Nat → Option Ann}
    (h : vcNew T Γ R fn nc A) : RuleOk P f (newRule nc) := by
  intro base M w0 V st ts w xs us K r hlen hslots hrule
  unfold newRule at hrule
  split at hrule
  case isFalse => exact hrule.elim
  rename_i hno
  rw [lall_eq, List.all_eq_true] at hno
  split at hrule
  case h_2 => exact hrule.elim
  rename_i x hxx
  obtain ⟨hpre, hK⟩ := hrule
  have r0 : Rel base M w0 V ⟨st.ts ++ xs, st.hp⟩ (ts ++ us.toArray) w := rel_app (a := st.ts) (h := st.hp) r hlen hslots
  obtain ⟨V1, r1, hb1, hh1, hz1⟩ := r0.freezesX (ownsS xs)
  obtain ⟨f1, f2⟩ := freezes_app (ownsS xs) st.ts xs st.hp
  rw [f1] at r1
  obtain ⟨g1, g2⟩ := freezes_len (ownsS xs) (St.mk st.ts st.hp)
  obtain ⟨g3, _⟩ := freezes_len (ownsS xs) (St.mk xs st.hp)
  obtain ⟨r2, _, hsl⟩ := rel_unapp (a := ((St.mk st.ts st.hp).freezes (ownsS xs)).ts) (b := ((St.mk xs st.hp).freezes (ownsS xs)).ts) (h := ((St.mk st.ts st.hp).freezes (ownsS xs)).hp) r1 (by rw [g1]; exact r.len)
  have hargs : RdArgs (V1.Z false) w nc.ts us x := readArgs_zone nc.ts hxx (by rw [g3]; exact hlen) hsl hno
  have r2' : Rel base M w0 V1 (st.freezes (ownsS xs)) ts w := r2
  generalize hst : st.freezes (ownsS xs) = s2 at *
  refine (new_sem hm hT hΓ hR hf h (fun b hb => r2'.mem.z_lt hb) hargs hpre).mono (fun e w' hr => ?_)
  obtain ⟨v, rfl, ⟨⟨B, Z1, bs, vs, rfl, h1, h2, h3, h4, vals', el', h5, h6⟩, hk⟩⟩ := hr
  generalize hes : C.box (llen s2.hp) 0 = cb
  have mm := r2'.mem
  have e2 := freshTups_S nc.rs (nc.F x) (llen s2.hp + 1)
  have hlen2 : (some B :: bs).length = (Ent.bx (expand false nc.t (nc.G x)) :: (freshTups nc.rs (nc.F x) (llen s2.hp + 1)).2).length := by
    simp [freshTups_len _ h1]
  have hd : ∀ j, j < (Ent.bx (expand false nc.t (nc.G x)) :: (freshTups nc.rs (nc.F x) (llen s2.hp + 1)).2).length → s2.ent (llen s2.hp + j) = .dead := fun j _ => ent_dead s2 j
  have hx := VX.of_kept mm hk (nx := llen s2.hp) (es := Ent.bx (expand false nc.t (nc.G x)) :: (freshTups nc.rs (nc.F x) (llen s2.hp + 1)).2) (bs := some B :: bs) (Z := Z1) hlen2 hd
  generalize hV' : V1.ext (llen s2.hp) (some B :: bs) Z1 = V' at *
  generalize hhp : hpNew s2.ent (llen s2.hp) (Ent.bx (expand false nc.t (nc.G x)) :: (freshTups nc.rs (nc.F x) (llen s2.hp + 1)).2) = hp' at *
  have hl : Lies V' hp' Z1 (llen s2.hp + 1) (freshTups nc.rs (nc.F x) (llen s2.hp + 1)).2 bs := by
    refine ⟨fun j b hb => ?_, fun j b hb => ?_, fun j e he => ?_, fun b hb => by rw [← hV']; exact .inr hb⟩
    · rw [← hV', Nat.add_assoc, Nat.add_comm 1 j]; exact Vl.ext_has_new (by simpa using hb)
    · rw [← hV', Nat.add_assoc, Nat.add_comm 1 j]; exact Vl.ext_blk_new (by simpa using hb)
    · rw [← hhp, Nat.add_assoc, Nat.add_comm 1 j]; exact hpNew_new (by simpa using he)
  obtain ⟨t1, t2, t3⟩ := freshTups_ok h1 hl
  have hb0 : V'.blk (llen s2.hp) = B := by rw [← hV']; exact Vl.ext_blk_new (nx := llen s2.hp) (j := 0) rfl
  have hh0 : V'.has (llen s2.hp) := by
    rw [← hV']
    have := Vl.ext_has_new (V := V1) (nx := llen s2.hp) (bs := some B :: bs) (Z := Z1) (j := 0) (b := some B) rfl
    exact this.2 rfl
  have he0 : hp' (llen s2.hp) = .bx (expand false nc.t (nc.G x)) := by rw [← hhp]; exact hpNew_new (nx := llen s2.hp) (j := 0) rfl
  have hgood : Good base M w0 V1 s2.ent w (llen s2.hp) (boxTup (llen s2.hp) (freshTups nc.rs (nc.F x) (llen s2.hp + 1)).1) (Ent.bx (expand false nc.t (nc.G x)) :: (freshTups nc.rs (nc.F x) (llen s2.hp + 1)).2) (hyOf nc.rs (nc.F x)) (oneOr (.pointer (some ⟨B, 0, none⟩) :: vs)) w' V' := by
    refine ⟨?_, ?_, ?_, fun p hp' => ?_⟩
    · rw [← hV']
      refine mm.grow hk hlen2 hd h2 h3 h4 (fun j cs hj => ?_) (fun j e he => ?_) (fun e he => ?_)
      · cases j with
        | zero => exact ⟨B, rfl⟩
        | succ j =>
          have hj' : (freshTups nc.rs (nc.F x) (llen s2.hp + 1)).2[j]? = some (.bx cs) := by simpa using hj
          rw [e2] at hj'
          exact (freshS_row nc.rs (nc.F x) _ _ (List.mem_of_getElem? hj') cs rfl).elim
      · rw [hV', hhp]
        cases j with
        | zero =>
          simp only [List.getElem?_cons_zero, Option.some.injEq] at he
          subst he
          refine ⟨vals', el', by rw [Nat.add_zero, hb0]; exact h5, ok_expand false nc.t (h6.mono (fun b hb => ?_) (fun _ _ => rfl))⟩
          rw [← hV']
          exact Vl.ext_Z.2 hb
        | succ j =>
          have := t3 j e (by simpa using he)
          rw [Nat.add_assoc, Nat.add_comm 1 j] at this
          exact this
      · rcases List.mem_cons.1 he with he | he
        · subst he; exact fun h => h
        · rw [e2] at he
          exact freshS_true nc.rs (nc.F x) _ e he
    · rw [hhp]; exact hx
    · rw [hhp]
      refine boxTup_ok ⟨by rw [hb0], hh0, _, he0⟩ t1 t2
    · unfold hyOf at hp'
      split at hp'
      · injection hp' with hp'; subst hp'; exact ownVals_wf h1
      · cases hp'
  obtain ⟨q1, q2⟩ := rel_good r2' hgood
  exact ⟨_, rfl, V', _, _, impO_elim hK hgood.hy, q1, q2⟩
end
end Go.SX
