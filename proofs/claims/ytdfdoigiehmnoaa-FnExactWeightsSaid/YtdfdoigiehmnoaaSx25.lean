/- From what is to be shown of a function's code to its contract. No condition. -/
import Derived.Test.YtdfdoigiehmnoaaSx24
import Derived.Deep.LoopGhost
namespace Go.SX
open Go.RowKit
set_option linter.unusedVariables false
set_option linter.unusedSimpArgs false

def Ex.to : Ex → Exit
  | .normal => .normal
  | .exit i => .exit i
  | .ret => .ret

section
variable {P : Program} {T : Tab} {Γ : FuncId → Option PC} {R : FuncId → Option Rule} {base : Nat} {M : LM} {w0 : World}

theorem vc_ok (hm : P.follows .mixedOrders = true) (hT : TabOk P T) (hΓ : GamOk P Γ) (hR : RulesOk P R) : ∀ (c : Code) (A : Nat → Option Ann) (st : St) (Qs : Ex → (Nat → Option Ann) → St → Prop) (Q : Exit → Act → World → Prop) (a : Act) (w : World),
    Sat base M w0 st a w → vc T Γ R c A st Qs → (∀ e A' st' a' w', Qs e A' st' → Sat base M w0 st' a' w' → Q e.to a' w') → c.wp P Q a w := by
  intro c
  induction c with
  | skip => intro A st Qs Q a w hs h hQ; exact wp_skip (hQ .normal A st a w h hs)
  | region id ops draw =>
    intro A st Qs Q a w hs h hQ
    exact vcRegion_ok hm hT hΓ hR hs h (fun st' a' w' k hs' => hQ .normal A st' a' w' k hs')
  | seq x y ihx ihy =>
    intro A st Qs Q a w hs h hQ
    unfold vc at h
    split at h
    · rename_i X J I m x0 inner _
      obtain ⟨h1, h2⟩ := h
      refine wp_seq (ihx A st _ _ a w hs h1 (fun e A' st' a' w' hk hs' => ?_))
      cases e with
      | normal =>
        obtain ⟨x', k1, k2⟩ := hk
        exact ihy (inner x') _ Qs Q a' w' (match_ok k2 hs') (h2 x' k1) hQ
      | exit i => exact hQ (.exit i) A' st' a' w' hk hs'
      | ret => exact hQ .ret A' st' a' w' hk hs'
    · refine wp_seq (ihx A st _ _ a w hs h (fun e A' st' a' w' hk hs' => ?_))
      cases e with
      | normal => exact ihy A' st' Qs Q a' w' hs' hk hQ
      | exit i => exact hQ (.exit i) A' st' a' w' hk hs'
      | ret => exact hQ .ret A' st' a' w' hk hs'
  | cond c x y ihx ihy =>
    intro A st Qs Q a w hs h hQ
    have hev : S.ok (Classical.choose hs.2) st.ent w (st.eval c) (a.eval c) := (Classical.choose_spec hs.2).eval c
    unfold vc at h
    split at h
    · rename_i e
      rw [e] at hev
      exact wp_cond_true hev (ihx A st Qs Q a w hs h hQ)
    · rename_i e
      rw [e] at hev
      exact wp_cond_false hev (ihy A st Qs Q a w hs h hQ)
    · rename_i b e
      rw [e] at hev
      exact wp_cond_split hev.1 (fun hb => ihx A st Qs Q a w hs (h.1 hb) hQ) (fun hb => ihy A st Qs Q a w hs (h.2 hb) hQ)
    · exact h.elim
  | block id x ih =>
    intro A st Qs Q a w hs h hQ
    refine wp_block (ih A st _ _ a w hs h (fun e A' st' a' w' hk hs' => ?_))
    cases e with
    | normal => exact hQ .normal A' st' a' w' hk hs'
    | exit i =>
      show Exit.inBlock id Q (.exit i) a' w'
      unfold Exit.inBlock
      simp only at hk ⊢
      split
      · rename_i e
        rw [if_pos e] at hk
        exact hQ .normal A' st' a' w' hk hs'
      · rename_i e
        rw [if_neg e] at hk
        exact hQ (.exit i) A' st' a' w' hk hs'
    | ret => exact hQ .ret A' st' a' w' hk hs'
  | loop x ih =>
    intro A st Qs Q a w hs h hQ
    unfold vc at h
    split at h
    · rename_i X J I m x0 inner _
      obtain ⟨h1, h2, h3⟩ := h
      refine wp_loop_ghost (fun n a w => ∃ y, J y ∧ m y = n ∧ Sat base M w0 (I (st.head x) y) a w) (m x0) ⟨x0, h1, rfl, match_ok h2 hs⟩ (fun n a w hI => ?_)
      obtain ⟨y, hy, rfl, hsy⟩ := hI
      refine ih (inner y) _ _ _ a w hsy (h3 y hy) (fun e A' st' a' w' hk hs' => ?_)
      cases e with
      | normal =>
        obtain ⟨y', k1, k2, k3⟩ := hk
        exact ⟨m y', k2, y', k1, rfl, match_ok k3 hs'⟩
      | exit i => exact hQ (.exit i) A' st' a' w' hk hs'
      | ret => exact hQ .ret A' st' a' w' hk hs'
    · exact h.elim
  | exit id => intro A st Qs Q a w hs h hQ; exact wp_exit (hQ (.exit id) A st a w h hs)
  | ret => intro A st Qs Q a w hs h hQ; exact wp_ret (hQ .ret A st a w h hs)
  | rangeFunc f ps x y => intro A st Qs Q a w hs h hQ; exact h.elim
  | scope x => intro A st Qs Q a w hs h hQ; exact h.elim
  | label l => intro A st Qs Q a w hs h hQ; exact h.elim
  | goto l => intro A st Qs Q a w hs h hQ; exact h.elim
  | refuse l => intro A st Qs Q a w hs h hQ; exact h.elim

/-! ### The arguments -/

theorem RdC.below {Z : Nat → Prop} {w : World} : ∀ {t : Ty} {cs : List Value} {d : t.den}, RdC Z w t cs d → RdC (fun b => b < w.heap.size) w t cs d := by
  intro t
  induction t with
  | int k => exact fun h => h
  | bool => exact fun h => h
  | str => exact fun h => h
  | sl e ih =>
    intro cs xs h
    obtain ⟨a, cap, h1, h2, h3, h4⟩ := h
    refine ⟨a, cap, h1, h2, h3, fun i hi => ?_⟩
    obtain ⟨ad, e1, e2, e3, es, e4, e5, e6⟩ := h4 i hi
    refine ⟨ad, e1, e2, ?_, es, e4, e5, ih e6⟩
    have hp := e.size_pos
    have := e5 0 (by omega)
    unfold World.cell? at this
    cases hb : w.heap[ad.block]? with
    | none => rw [hb] at this; cases this
    | some o => exact (Array.getElem?_eq_some_iff.1 hb).1
  | st t ih => exact fun h => ih h
  | pr a b iha ihb =>
    intro cs d h
    obtain ⟨c1, c2, h1, h2, h3⟩ := h
    exact ⟨c1, c2, h1, iha h2, ihb h3⟩
  | ptr t ih =>
    intro cs d h
    obtain ⟨b, o, h1, h2, es, h3, h4, h5⟩ := h
    refine ⟨b, o, h1, ?_, es, h3, h4, ih h5⟩
    have hp := t.size_pos
    have := h4 0 (by omega)
    unfold World.cell? at this
    cases hb : w.heap[b]? with
    | none => rw [hb] at this; cases this
    | some o => exact (Array.getElem?_eq_some_iff.1 hb).1
  | clo f t ih =>
    intro cs d h
    obtain ⟨caps, h1, h2⟩ := h
    exact ⟨caps, h1, ih h2⟩

/-- The call begins: nothing is named yet. -/
def Vl.start (w : World) : Vl := ⟨fun _ => 0, fun _ => False, fun b => b < w.heap.size, fun _ => False⟩

theorem start_Z {w : World} {b : Nat} (h : b < w.heap.size) : (Vl.start w).Z false b := .inr ⟨rfl, h⟩

theorem argS_ok {w : World} {hp : Nat → Ent} {t : Ty} {v : Value} {d : t.den} (h : RdTop anyZ w t v d) : S.ok (Vl.start w) hp w (argS t d) v := by
  obtain ⟨cs, h1, h2⟩ := h
  have hr : RdC ((Vl.start w).Z false) w t cs d := h2.below.mono (fun b hb => start_Z hb) (fun _ _ => rfl)
  have ho := ok_expand (V := Vl.start w) (hp := hp) false t hr
  unfold argS topS
  unfold topV at h1
  cases hst : isSt t with
  | true =>
    rw [hst] at h1
    simp only [if_true] at h1 ⊢
    exact ⟨cs.toArray, h1, by simpa using ho⟩
  | false =>
    rw [hst] at h1
    simp only [Bool.false_eq_true, if_false] at h1 ⊢
    subst h1
    have hl := ho.1
    split
    · rename_i c hc
      rw [hc] at ho
      exact ho.2 0 c v rfl rfl
    · rename_i hc
      exfalso
      match hx : expand false t d with
      | [] => rw [hx] at hl; cases hl
      | [c] => exact hc c hx
      | _ :: _ :: _ => rw [hx] at hl; simp at hl

theorem argsS_ok {w : World} {hp : Nat → Ent} : ∀ {ts : List Ty} {vs : List Value} {d : Tup ts}, RdArgs anyZ w ts vs d → (argsS ts d).length = vs.length ∧ vs.length = ts.length ∧
    ∀ (i : Nat) s v, (argsS ts d)[i]? = some s → vs[i]? = some v → S.ok (Vl.start w) hp w s v
  | [], vs, d, h => by rw [show vs = [] from h]; exact ⟨rfl, rfl, fun i s v h => by cases h⟩
  | [t], vs, d, h => by
    obtain ⟨v, rfl, h2⟩ := h
    refine ⟨rfl, rfl, fun i s u hs hu => ?_⟩
    cases i with
    | zero =>
      simp only [argsS, List.getElem?_cons_zero, Option.some.injEq] at hs hu
      subst hs; subst hu
      exact argS_ok h2
    | succ i => simp [argsS] at hs
  | t :: u :: r, vs, d, h => by
    obtain ⟨v, vs', rfl, h2, h3⟩ := h
    obtain ⟨k1, k2, k3⟩ := argsS_ok (hp := hp) h3
    refine ⟨by simp [argsS, k1], by simp [k2], fun i s x hs hx => ?_⟩
    cases i with
    | zero =>
      simp only [argsS, List.getElem?_cons_zero, Option.some.injEq] at hs hx
      subst hs; subst hx
      exact argS_ok h2
    | succ i => exact k3 i s x (by simpa [argsS] using hs) (by simpa using hx)

theorem args_wf {w : World} : ∀ {ts : List Ty} {vs : List Value} {d : Tup ts}, RdArgs anyZ w ts vs d → tupWf ts d
  | [], _, _, _ => trivial
  | [t], vs, d, h => by obtain ⟨v, _, cs, _, h2⟩ := h; exact h2.wf
  | t :: u :: r, vs, d, h => by
    obtain ⟨v, vs', _, ⟨cs, _, h2⟩, h3⟩ := h
    exact ⟨h2.wf, args_wf h3⟩

theorem mem_start (w : World) : Mem w.heap.size noM w (Vl.start w) (fun _ => .dead) w :=
  ⟨fun _ => trivial, (fun n cs h => by cases h), (fun n h => by cases h), (fun n e xs h => by cases h), (fun n m h => by cases h), fun b h => h, fun b (h : False) => h.elim, ⟨rfl, rfl, rfl, Nat.le_refl _, fun _ _ _ => rfl, fun _ _ _ _ h _ => h.elim⟩, fun n h => h.elim⟩

theorem sat_start {w : World} {ts : List Ty} {vs : List Value} {d : Tup ts} (h : RdArgs anyZ w ts vs d) (n : Nat) :
    Sat w.heap.size noM w (St.start ts d n) { tmps := vs.toArray ++ Array.replicate (n - vs.toArray.size) undef, defers := [] } w := by
  obtain ⟨h1, h2, h3⟩ := argsS_ok (hp := fun _ => .dead) h
  have he : (St.start ts d n).ent = fun _ => .dead := by
    funext k
    show nth .dead ([] : List Ent) k = _
    rw [nth_eq]; rfl
  have hl : (St.start ts d n).ts = argsS ts d ++ List.replicate (n - vs.length) .und := by
    show lapp _ (lrep _ _) = _
    rw [lapp_eq, lrep_eq, llen_eq, h2]
  refine ⟨rfl, Vl.start w, ⟨by rw [hl]; simp [h1], fun i s v hs hv => ?_, by rw [he]; exact mem_start w⟩⟩
  rw [he]
  rw [hl] at hs
  have hv' : (vs ++ List.replicate (n - vs.length) undef)[i]? = some v := by
    rw [← hv]
    simp only [Array.getElem?_append, List.getElem?_append, List.getElem?_toArray, List.size_toArray, Array.getElem?_replicate, List.getElem?_replicate]
  rcases Nat.lt_or_ge i vs.length with hi | hi
  · rw [List.getElem?_append_left (by omega)] at hs
    rw [List.getElem?_append_left hi] at hv'
    exact h3 i s v hs hv'
  · rw [List.getElem?_append_right (by omega), List.getElem?_replicate] at hs
    rw [List.getElem?_append_right hi, List.getElem?_replicate] at hv'
    split at hs
    · injection hs with hs; subst hs
      split at hv'
      · injection hv' with hv'; exact hv'.symm
      · cases hv'
    · cases hs
end
end Go.SX
