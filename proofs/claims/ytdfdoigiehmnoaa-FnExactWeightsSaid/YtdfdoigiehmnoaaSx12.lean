/- Every operation that writes nothing. No condition. -/
import Derived.Test.YtdfdoigiehmnoaaSx11
namespace Go.SX
open Go.RowKit
set_option linter.unusedVariables false
set_option linter.unusedSimpArgs false

/-- A function that has a body, and is none that the machine answers by itself. -/
def CallOk (P : Program) (f : FuncId) : Prop := ∃ fn, P.funcs[f]? = some fn ∧ (fn.name == "runtime.NumGoroutine") = false ∧ fn.body.isNone = false

def GamOk (P : Program) (Γ : FuncId → Option PC) : Prop := ∀ f c, Γ f = some c → PureC P f c ∧ CallOk P f

theorem run_callFunc {P : Program} {f : FuncId} (h : CallOk P f) (args : Array Value) (w : World) : (callFunc f args).run P w = .ok (.enter f args) w := by
  obtain ⟨fn, h1, h2, h3⟩ := h
  simp only [callFunc, Sem.run_bind, run_program, Result.andThen_ok, h1]
  rw [if_neg (by rw [h2]; simp)]
  rw [if_neg (by rw [h3]; simp)]
  rfl

section
variable {P : Program} {T : Tab} {Γ : FuncId → Option PC} {base : Nat} {M : LM} {w0 : World} {V : Vl} {hp lk : Nat → Ent} {w : World} {a : Act} {ev : Operand → S}
  {next : Act → World → Prop} {Q : Exit → Act → World → Prop}

theorem wp_value {o : Oper} {v : Value} {w' : World} (hr : (execOp a.eval o).run P w = .ok (.value v) w') (h : next (a.put o.dst v) w') : o.wp P a w next Q := by
  unfold Oper.wp
  rw [hr]
  exact h

theorem wp_pure (m : Mem base M w0 V hp w) {o : Oper} {r : QR} {e : Sem Value} {nx : Nat} (hp' : PureRun P V hp w r e) (he : execOp a.eval o = (do pure (.value (← e))))
    (h : ∀ v w' V', Good base M w0 V hp w nx r.res r.new r.hy v w' V' → next (a.put o.dst v) w') : o.wp P a w next Q := by
  obtain ⟨h1, h2, v, h3, h4⟩ := hp'
  refine wp_value (v := v) (w' := w) ?_ (h v w V ?_)
  · rw [he]; simp [h3]
  · rw [h1, h2]; exact good_same m h4

theorem partsOk_map {f : Operand → S} {g : Operand → Value} (h : ∀ x, S.ok V hp w (f x) (g x)) : ∀ l : List (Nat × Operand), PartsOk V hp w (l.map fun p => (p.1, f p.2)) (l.map fun p => (p.1, g p.2))
  | [] => trivial
  | p :: r => ⟨rfl, h p.2, partsOk_map h r⟩

theorem capsOf_ok (hev : ∀ x, S.ok V hp w (ev x) (a.eval x)) : ∀ {l : List Operand} {ns : List Nat}, capsOf (l.map ev) = some ns →
    l.map a.eval = ns.map (fun n => Value.pointer (some ⟨V.blk n, 0, none⟩)) ∧ ∀ n ∈ ns, V.has n ∧ ∃ cs, hp n = .bx cs
  | [], ns, h => by simp only [List.map_nil, capsOf, Option.some.injEq] at h; subst h; exact ⟨rfl, fun n hn => by simp at hn⟩
  | x :: l, ns, h => by
    simp only [List.map_cons] at h
    unfold capsOf at h
    split at h
    · rename_i heq; cases heq
    · rename_i n r heq
      simp only [List.cons.injEq] at heq
      obtain ⟨e1, e2⟩ := heq
      rw [omap_eq] at h
      cases hc : capsOf r with
      | none => rw [hc] at h; cases h
      | some ms =>
        rw [hc] at h
        simp only [Option.map_some, Option.some.injEq] at h
        subst h
        rw [← e2] at hc
        obtain ⟨g1, g2⟩ := capsOf_ok hev hc
        have hx := hev x
        rw [e1] at hx
        obtain ⟨k1, k2, k3⟩ := hx
        refine ⟨by simp [g1, k1], fun q hq => ?_⟩
        simp only [List.mem_cons] at hq
        rcases hq with rfl | hq
        · exact ⟨k2, k3⟩
        · exact g2 q hq
    · cases h

theorem args_one (hev : ∀ x, S.ok V hp w (ev x) (a.eval x)) {l : Array Operand} {x : C} (h : l.toList.map ev = [.c x]) : ∃ y, l = #[y] ∧ C.ok V hp w x (a.eval y) := by
  cases l with
  | mk l =>
    cases l with
    | nil => cases h
    | cons y l =>
      simp only [List.map_cons, List.cons.injEq, List.map_eq_nil_iff] at h
      obtain ⟨h1, rfl⟩ := h
      have := hev y
      rw [h1] at this
      exact ⟨y, rfl, this⟩

theorem args_two (hev : ∀ x, S.ok V hp w (ev x) (a.eval x)) {l : Array Operand} {x y : C} (h : l.toList.map ev = [.c x, .c y]) : ∃ p q, l = #[p, q] ∧ C.ok V hp w x (a.eval p) ∧ C.ok V hp w y (a.eval q) := by
  cases l with
  | mk l =>
    cases l with
    | nil => cases h
    | cons p l =>
      cases l with
      | nil => simp at h
      | cons q l =>
        simp only [List.map_cons, List.cons.injEq, List.map_eq_nil_iff] at h
        obtain ⟨h1, h2, rfl⟩ := h
        have g1 := hev p
        have g2 := hev q
        rw [h1] at g1
        rw [h2] at g2
        exact ⟨p, q, rfl, g1, g2⟩

theorem wp_callC {o : Oper} {c : Call} {g : FuncId} {x : Operand} {caps : Array Value} (ho : o.op = .call c) (hc : c.callee = .value x) (hv : a.eval x = .func (.func g) #[] caps) (hk : CallOk P g) {R : Ending → World → Prop}
    (hcall : Calls P g (c.args.map a.eval ++ caps) w R) (h : ∀ e w', R e w' → ∃ v, e = .returned v ∧ next (a.put o.dst v) w') : o.wp P a w next Q := by
  unfold Oper.wp execOp
  simp only [ho, resolve, hc, hv, Deferred.ofValue, invoke, Sem.run_bind, Sem.run_pure, Result.andThen_ok, Array.append_empty, Array.empty_append, run_callFunc hk]
  refine Calls.mono hcall fun e w' hr => ?_
  obtain ⟨v, rfl, hn⟩ := h e w' hr
  exact hn

theorem wp_call {o : Oper} {c : Call} {g : FuncId} {x : Operand} (ho : o.op = .call c) (hc : c.callee = .value x) (hx : C.ok V hp w (.fn g []) (a.eval x)) (hk : CallOk P g) {R : Ending → World → Prop}
    (hcall : Calls P g (c.args.map a.eval) w R) (h : ∀ e w', R e w' → ∃ v, e = .returned v ∧ next (a.put o.dst v) w') : o.wp P a w next Q :=
  wp_callC (caps := #[]) ho hc (by rw [hx.1]; rfl) hk (by rw [Array.append_empty]; exact hcall) h

theorem qop_ok (hT : TabOk P T) (hΓ : GamOk P Γ) (m : Mem base M w0 V hp w) (hl : LkOk V hp lk w) (hev : ∀ x, S.ok V hp w (ev x) (a.eval x)) {o : Oper} {r : QR} {nx : Nat}
    (hq : qop T Γ lk nx ev o.op = some r) (hd : ∀ j, j < r.new.length → hp (nx + j) = .dead) (hob : ∀ p, r.ob = some p → p)
    (h : ∀ v w' V', Good base M w0 V hp w nx r.res r.new r.hy v w' V' → next (a.put o.dst v) w') : o.wp P a w next Q := by
  obtain ⟨dst, op, ty, pos, aft, gd⟩ := o
  simp only at hq
  cases op with
  | move x =>
    simp only [qop, Option.some.injEq] at hq; subst hq
    exact wp_value (v := a.eval x) rfl (h _ _ _ (good_same m (hev x)))
  | assign x =>
    simp only [qop, Option.some.injEq] at hq; subst hq
    exact wp_value (v := a.eval x) rfl (h _ _ _ (good_same m (hev x)))
  | pick c x y =>
    simp only [qop, omap_eq] at hq
    cases hs : qpick (ev c) (ev x) (ev y) with
    | none => rw [hs] at hq; cases hq
    | some s =>
      rw [hs] at hq
      simp only [Option.map_some, Option.some.injEq] at hq; subst hq
      obtain ⟨p, h1, h2⟩ := qpick_run hs (hev c) (hev x) (hev y)
      refine wp_value (v := if p then a.eval x else a.eval y) ?_ (h _ _ _ (good_same m h2))
      simp only [execOp, h1, Sem.run_bind, Sem.run_pure, Result.andThen_ok]
  | alloc t =>
    simp only [qop] at hq
    unfold qalloc at hq
    cases ht : T t with
    | none => rw [ht] at hq; cases hq
    | some ti =>
      rw [ht] at hq
      simp only at hq
      obtain ⟨⟨i, z, g1, g2, g3, g4, g5, g6⟩, g7, g8⟩ := ti_ok (hT t ti ht)
      have hd0 : hp nx = .dead := by
        split at hq <;> (simp only [Option.some.injEq] at hq; subst hq; exact hd 0 (by simp))
      split at hq
      · rename_i len te es n ety hk
        simp only [Option.some.injEq] at hq; subst hq
        obtain ⟨a0, a1, ⟨i2, a2, a3⟩, a4, a5, a6, a7, a8, a9⟩ := ti_arr (hT t ti ht) hk
        obtain ⟨V', hg⟩ := good_alloc m hd0 ti.zero.toArray t (.row true ety (List.replicate n ety.dflt)) (.c (.elt nx 0 0)) (.pointer (some ⟨w.heap.size, 0, none⟩)) (fun h => h)
          (fun V' hp' w' x k1 k2 k3 k4 => by
            refine ⟨.inr ⟨k1, _, t, by rw [k2]; exact k4, by rw [List.length_replicate]; unfold lenMax; omega, fun j hj => ?_⟩, k1, true, ety, _, k3, by rw [List.length_replicate]; omega, by rw [k2, Nat.zero_mul]⟩
            obtain ⟨es', q1, q2, q3⟩ := zeros_arr (Z := V'.Z true) (w' := w') a5 n j hj
            exact ⟨es', q1, fun a u hu => by rw [a0]; simpa using q2 a u hu, q3⟩)
        refine wp_value ?_ (h _ _ _ hg)
        simp only [execOp, Instr.alloc, Sem.run_bind, run_zeroValue g1 g4, Result.andThen_ok, newVar, newRow, g5, run_newObj_alloc, Sem.run_pure]
      · simp only [Option.some.injEq] at hq; subst hq
        obtain ⟨V', hg⟩ := good_alloc m hd0 ti.zero.toArray t (.bx (lmap cell ti.zero)) (.c (.box nx 0)) (.pointer (some ⟨w.heap.size, 0, none⟩)) (fun h => h)
          (fun V' hp' w' x k1 k2 k3 k4 => ⟨⟨_, t, by rw [k2]; exact k4, by simpa using g6 V' hp' w'⟩, by rw [← k2]; exact ⟨rfl, k1, _, k3⟩⟩)
        refine wp_value ?_ (h _ _ _ hg)
        simp only [execOp, Instr.alloc, Sem.run_bind, run_zeroValue g1 g4, Result.andThen_ok, newVar, newRow, g5, run_newObj_alloc, Sem.run_pure]
  | box t x =>
    simp only [qop] at hq
    cases hc : (ev x).cells with
    | none => rw [hc] at hq; cases hq
    | some cs =>
      rw [hc] at hq
      simp only [Option.some.injEq] at hq; subst hq
      have ho := cells_ok hc (hev x)
      have hd0 : hp nx = .dead := hd 0 (by simp)
      obtain ⟨V', hg⟩ := good_alloc m hd0 (a.eval x).cells t (.bx cs) (.c (.box nx 0)) (.pointer (some ⟨w.heap.size, 0, none⟩)) (fun h => h)
        (fun V' hp' w' x k1 k2 k3 k4 => ⟨⟨_, t, by rw [k2]; exact k4, okAll_ext x ho⟩, by rw [← k2]; exact ⟨rfl, k1, _, k3⟩⟩)
      refine wp_value ?_ (h _ _ _ hg)
      simp only [execOp, Instr.box, Sem.run_bind, newVar, newRow, run_newObj_alloc, Result.andThen_ok, Sem.run_pure]
  | build t parts =>
    simp only [qop, lmap_eq] at hq
    have hpt := partsOk_map hev parts.toList
    exact wp_pure m (qbuild_run (qs := parts.map fun (i, x) => (i, a.eval x)) hT hq (by simpa using hpt)) rfl h
  | buildSlice t n parts =>
    simp only [qop, lmap_eq] at hq
    have hpt := partsOk_map hev parts.toList
    have hnew : hp nx = .dead := by
      have hne : 0 < r.new.length := by
        unfold qbuildSlice at hq
        cases he : elemTy T t with
        | none => rw [he] at hq; cases hq
        | some e =>
          rw [he] at hq
          simp only at hq
          split at hq
          · rw [omap_eq] at hq
            cases hs : seqParts lk e 0 (parts.toList.map fun p => (p.1, ev p.2)) with
            | none => rw [hs] at hq; cases hq
            | some xs => rw [hs] at hq; simp only [Option.map_some, Option.some.injEq] at hq; subst hq; simp
          · cases hq
      exact hd 0 hne
    obtain ⟨v, w', V', h1, h2⟩ := qbuildSlice_run (qs := parts.map fun (i, x) => (i, a.eval x)) hT m hnew hq (by simpa using hpt)
    refine wp_value (v := v) (w' := w') ?_ (h _ _ _ h2)
    simp only [execOp, Sem.run_bind, h1, Result.andThen_ok, Sem.run_pure]
  | load t p =>
    simp only [qop] at hq
    have hp1 := hev p
    cases hc : ev p with
    | c x =>
      rw [hc] at hq hp1
      exact wp_pure m (qload_run hT hl hq hp1) rfl h
    | _ => rw [hc] at hq; cases hq
  | nilCheck x =>
    simp only [qop] at hq
    split at hq
    · rename_i hptr
      simp only [Option.some.injEq] at hq; subst hq
      have hx := hev x
      refine wp_value (v := a.eval x) (w' := w) ?_ (h _ _ _ (good_same m hx))
      cases hc : ev x with
      | c y =>
        rw [hc] at hptr hx
        cases y with
        | box n off => simp only [execOp, hx.1, Sem.run_bind, Sem.run_pure]
        | at_ fr t d off => obtain ⟨b, o, e1, _⟩ := hx; simp only [execOp, e1, Sem.run_bind, Sem.run_pure]
        | elt n i off => obtain ⟨_, _, _, _, _, _, e1⟩ := hx; simp only [execOp, e1, Sem.run_bind, Sem.run_pure]
        | fn f caps => simp only [execOp, hx.1, Sem.run_bind, Sem.run_pure]
        | _ => cases hptr
      | _ => rw [hc] at hptr; cases hptr
    · cases hq
  | binOp op xt x y yt =>
    simp only [qop] at hq
    have h1 := hev x
    have h2 := hev y
    cases hc : ev x with
    | c u =>
      cases hc' : ev y with
      | c v => rw [hc, hc'] at hq; rw [hc] at h1; rw [hc'] at h2; exact wp_pure m (qbinT_run hT hq hob h1 h2 x y) rfl h
      | _ => rw [hc, hc'] at hq; cases hq
    | agg u =>
      cases hc' : ev y with
      | agg v =>
        rw [hc, hc'] at hq; rw [hc] at h1; rw [hc'] at h2
        obtain ⟨us, e1, g1⟩ := h1
        obtain ⟨vs, e2, g2⟩ := h2
        have hr := qbinA_run hT hq g1 g2 x y
        rw [← e1, ← e2] at hr
        exact wp_pure m hr rfl h
      | _ => rw [hc, hc'] at hq; cases hq
    | _ => rw [hc] at hq; cases hq
  | unOp op xt x =>
    simp only [qop] at hq
    have h1 := hev x
    cases hc : ev x with
    | c u => rw [hc] at hq h1; exact wp_pure m (qun_run hq h1) rfl h
    | _ => rw [hc] at hq; cases hq
  | convert s t x =>
    simp only [qop] at hq
    have h1 := hev x
    split at hq
    · rename_i ti k sz by' z ty' teq k' n hs heq hx
      simp only [Option.some.injEq] at hq; subst hq
      rw [hx] at h1
      obtain ⟨e1, _⟩ := ok_int (V := V) (hp := hp) (w := w) h1
      have hu := int_ok (ti_ok (hT t _ heq)).2.2
      obtain ⟨d, hd', _⟩ := ti_und (hT s ti hs)
      refine wp_value (v := .int k (k.wrap n)) (w' := w) ?_ (h _ _ _ (good_same m ⟨rfl, wrap_range _ _⟩))
      simp [execOp, convert, run_underlying hd', run_underlying hu, e1, Conv.intToInt]
    · cases hq
  | makeSlice t l c =>
    simp only [qop] at hq
    have h1 := hev l
    have h2 := hev c
    cases hc : ev l with
    | c u =>
      cases hc' : ev c with
      | c v =>
        rw [hc, hc'] at hq; rw [hc] at h1; rw [hc'] at h2
        have hd0 : hp nx = .dead := by
          have hne : 0 < r.new.length := by
            simp only at hq
            unfold qmakeSlice at hq
            split at hq
            · split at hq
              · injection hq with hq; subst hq; simp
              · cases hq
            · cases hq
          exact hd 0 hne
        obtain ⟨x, w', V', g1, g2⟩ := qmakeSlice_run hT m hd0 hq hob h1 h2
        refine wp_value (v := x) (w' := w') ?_ (h _ _ _ g2)
        simp only [execOp, Sem.run_bind, g1, Result.andThen_ok, Sem.run_pure]
      | _ => rw [hc, hc'] at hq; cases hq
    | _ => rw [hc] at hq; cases hq
  | slice t x lo hi mx =>
    cases mx with
    | some _ => cases hq
    | none =>
      simp only [qop, omap_eq] at hq
      have h1 := hev x
      cases hc : ev x with
      | c u =>
        rw [hc] at hq h1
        refine wp_pure m (qslice_run (lv := lo.map a.eval) (hv := hi.map a.eval) hT hl hq hob h1 ?_ ?_ ?_ ?_) rfl h
        · intro s v hs hv
          cases lo with
          | none => cases hs
          | some y => simp only [Option.map_some, Option.some.injEq] at hs hv; rw [← hs, ← hv]; exact hev y
        · cases lo <;> simp
        · intro s v hs hv
          cases hi with
          | none => cases hs
          | some y => simp only [Option.map_some, Option.some.injEq] at hs hv; rw [← hs, ← hv]; exact hev y
        · cases hi <;> simp
      | _ => rw [hc] at hq; cases hq
  | fieldAddr t x f =>
    simp only [qop] at hq
    have h1 := hev x
    cases hc : ev x with
    | c u => rw [hc] at hq h1; exact wp_pure m (qfieldAddr_run hT hq h1) rfl h
    | _ => rw [hc] at hq; cases hq
  | field t x f =>
    simp only [qop] at hq
    have h1 := hev x
    split at hq
    · rename_i off n ag cs hf hx
      rw [hx] at h1
      rw [omap_eq] at hq
      cases hpo : partOf cs off n with
      | none => rw [hpo] at hq; cases hq
      | some r' =>
        rw [hpo] at hq
        simp only [Option.map_some, Option.some.injEq] at hq; subst hq
        obtain ⟨vs, e1, ho⟩ := h1
        obtain ⟨k1, k2⟩ := partOf_some hpo
        obtain ⟨fields, fd, j, d, g1, g2, g3, g4, g5, g6, g7, g8⟩ := field_ok hT hf
        have ho' := okAll_take (okAll_drop ho off) n
        rw [← k1] at ho'
        simp only at g3 g6 g8
        have hlen : ((vs.toList.drop off).take n).length = n := by rw [← ho'.1, k2]
        have hoff : off + n ≤ vs.size := by
          rw [List.length_take, List.length_drop] at hlen
          have : 0 < n := Nat.pos_of_ne_zero g4
          simp at hlen; omega
        cases ag with
        | true =>
          refine wp_value (v := .agg (vs.extract off (off + n))) (w' := w) ?_ (h _ _ _ (good_same m ⟨vs.extract off (off + n), rfl, ?_⟩))
          · simp only [execOp, Instr.field, part, e1, asAgg, Sem.run_bind, run_underlying g1, Result.andThen_ok, g2, Sem.run_pure, run_isAgg g7, g8, if_true, run_sizeOf g5, g6, g3]
          · rw [Array.toList_extract]
            have : (vs.toList.take (off + n)).drop off = (vs.toList.drop off).take n := by rw [List.drop_take]; simp
            simpa [List.extract_eq_take_drop, this] using ho'
        | false =>
          have hn1 : n = 1 ∨ n ≠ 1 := by omega
          have hvs : ∃ v, vs[off]? = some v := ⟨vs[off]'(by have : 0 < n := Nat.pos_of_ne_zero g4; omega), Array.getElem?_eq_getElem _⟩
          obtain ⟨v, hv⟩ := hvs
          refine wp_value (v := v) (w' := w) ?_ (h _ _ _ (good_same m ?_))
          · simp only [execOp, Instr.field, part, e1, asAgg, Sem.run_bind, run_underlying g1, Result.andThen_ok, g2, Sem.run_pure, run_isAgg g7, g8, Bool.false_eq_true, if_false, g3, hv]
          · show S.ok V hp w (topS (false, r')) v
            unfold topS
            simp only [Bool.false_eq_true, if_false]
            split
            · obtain ⟨v', vs', e2, k3, _⟩ := okAll_cons ho'
              have hn : n = 1 := by simpa using k2.symm
              have : ((vs.toList.drop off).take n)[0]? = some v := by
                rw [List.getElem?_take, if_pos (by omega), List.getElem?_drop]
                simpa using hv
              rw [e2] at this
              simp only [List.getElem?_cons_zero, Option.some.injEq] at this
              rw [← this]; exact k3
            · trivial
    · cases hq
  | indexAddr t x i =>
    simp only [qop] at hq
    have h1 := hev x
    have h2 := hev i
    cases hc : ev x with
    | c u =>
      cases hc' : ev i with
      | c v => rw [hc, hc'] at hq; rw [hc] at h1; rw [hc'] at h2; exact wp_pure m (qindexAddr_run hT hl hq hob h1 h2) rfl h
      | _ => rw [hc, hc'] at hq; cases hq
    | _ => rw [hc] at hq; cases hq
  | extract x i =>
    simp only [qop] at hq
    have h1 := hev x
    cases hc : ev x with
    | tup vs =>
      rw [hc] at hq h1
      simp only [omap_eq, nth?_eq] at hq
      cases hv : vs[i]? with
      | none => rw [hv] at hq; cases hq
      | some y =>
        rw [hv] at hq
        simp only [Option.map_some, Option.some.injEq] at hq; subst hq
        obtain ⟨us, e1, e2, e3⟩ := h1
        have hlt := (List.getElem?_eq_some_iff.1 hv).1
        have hu : us[i]? = some (us[i]'(by omega)) := Array.getElem?_eq_getElem _
        refine wp_value (v := us[i]'(by omega)) (w' := w) ?_ (h _ _ _ (good_same m (topS_ok (e3 i y _ hv hu))))
        simp only [execOp, Instr.extract, e1, hu, Sem.run_bind, Sem.run_pure, Result.andThen_ok]
    | _ => rw [hc] at hq; cases hq
  | makeFunc fn first captured =>
    cases fn with
    | func f =>
      simp only [qop] at hq
      split at hq
      · rename_i hfirst
        rw [omap_eq, lmap_eq] at hq
        cases hc : capsOf (captured.toList.map ev) with
        | none => rw [hc] at hq; cases hq
        | some ns =>
          rw [hc] at hq
          simp only [Option.map_some, Option.some.injEq] at hq; subst hq
          obtain ⟨g1, g2⟩ := capsOf_ok hev hc
          refine wp_value (v := .func (.func f) #[] (captured.map a.eval)) (w' := w) ?_ (h _ _ _ (good_same m ⟨?_, g2⟩))
          · have : first = #[] := by cases first; simp_all
            subst this
            simp [execOp, Instr.makeFunc]
          · congr 1
            apply Array.ext'
            simpa using g1
      · cases hq
    | _ => cases hq
  | call c =>
    simp only [qop] at hq
    split at hq
    · rename_i b hb
      rw [lmap_eq] at hq
      unfold qbuiltin at hq
      split at hq
      · rename_i t x hat har
        rw [omap_eq] at hq
        cases hn : lenT T lk t x with
        | none => rw [hn] at hq; cases hq
        | some n =>
          rw [hn] at hq
          simp only [Option.map_some, Option.some.injEq] at hq; subst hq
          obtain ⟨y, hy, hya⟩ := args_one hev har
          have hat' : c.argTypes = #[t] := by cases hca : c.argTypes; rw [hca] at hat; simp at hat; rw [hat]
          obtain ⟨g1, g2⟩ := lenT_run (ty := ty) hT m.ents hl hn hya
          refine wp_value (v := .int .i64 n) (w' := w) ?_ (h _ _ _ (good_same m ⟨rfl, g2⟩))
          simp only [execOp, resolve, hb, invoke, builtin, hy, hat', Sem.run_bind, Sem.run_pure, Result.andThen_ok, List.map_toArray, List.map_cons, List.map_nil, g1]
      · rename_i k x k' y har
        split at hq
        · rename_i hk
          subst hk
          simp only [Option.some.injEq] at hq; subst hq
          obtain ⟨p, q, hpq, h1, h2⟩ := args_two hev har
          obtain ⟨e1, g1⟩ := ok_int h1
          obtain ⟨e2, g2⟩ := ok_int h2
          refine wp_value (v := .int k' (imin x y)) (w' := w) ?_ (h _ _ _ (good_same m ⟨rfl, ?_⟩))
          · simp [execOp, resolve, hb, invoke, builtin, hpq, e1, e2, Builtin.min_, Builtin.min2, imin]
          · show k'.min ≤ imin x y ∧ imin x y ≤ k'.max
            unfold imin; split <;> assumption
        · cases hq
      · rename_i k x k' y har
        split at hq
        · rename_i hk
          subst hk
          simp only [Option.some.injEq] at hq; subst hq
          obtain ⟨p, q, hpq, h1, h2⟩ := args_two hev har
          obtain ⟨e1, g1⟩ := ok_int h1
          obtain ⟨e2, g2⟩ := ok_int h2
          refine wp_value (v := .int k' (imax x y)) (w' := w) ?_ (h _ _ _ (good_same m ⟨rfl, ?_⟩))
          · simp [execOp, resolve, hb, invoke, builtin, hpq, e1, e2, Builtin.max_, Builtin.max2, imax]
          · show k'.min ≤ imax x y ∧ imax x y ≤ k'.max
            unfold imax; split <;> assumption
        · cases hq
      · cases hq
    · rename_i x hx
      have h1 := hev x
      split at hq
      · rename_i g hg
        rw [hg] at h1
        rw [lmap_eq] at hq
        unfold qcall at hq
        cases hc : Γ g with
        | none => rw [hc] at hq; cases hq
        | some pc =>
          rw [hc] at hq
          simp only at hq
          cases hd' : readArgs lk pc.ts (c.args.toList.map ev) with
          | none => rw [hd'] at hq; cases hq
          | some d =>
            rw [hd'] at hq
            simp only [Option.some.injEq] at hq; subst hq
            obtain ⟨k1, k2⟩ := hΓ g pc hc
            have hargs := readArgs_ok hl pc.ts (vs := c.args.toList.map a.eval) hd' (by simp) (fun i s v hi hv => by
              rw [List.getElem?_map] at hi hv
              cases hx' : c.args.toList[i]? with
              | none => rw [hx'] at hi; cases hi
              | some y =>
                rw [hx'] at hi hv
                simp only [Option.map_some, Option.some.injEq] at hi hv
                rw [← hi, ← hv]; exact hev y)
            have hcall := k1 w _ d hargs (hob _ rfl)
            refine wp_call (R := fun e w' => ∃ v, e = .returned v ∧ ResOk w w' pc.rs v (pc.F d)) rfl hx h1 k2 (by rw [show c.args.map a.eval = (c.args.toList.map a.eval).toArray from Array.ext' (by simp)]; exact hcall) (fun e w' hr => ?_)
            obtain ⟨v, rfl, hr⟩ := hr
            obtain ⟨V', hg'⟩ := good_call m hr hd
            exact ⟨v, rfl, h v w' V' hg'⟩
      · rename_i fr g t d0 hg
        rw [hg] at h1
        rw [lmap_eq, lmap_eq, lapp_eq] at hq
        unfold qcall at hq
        cases hc : Γ g with
        | none => rw [hc] at hq; cases hq
        | some pc =>
          rw [hc] at hq
          simp only at hq
          cases hd' : readArgs lk pc.ts (c.args.toList.map ev ++ (expand fr t d0).map S.c) with
          | none => rw [hd'] at hq; cases hq
          | some d =>
            rw [hd'] at hq
            simp only [Option.some.injEq] at hq; subst hq
            obtain ⟨k1, k2⟩ := hΓ g pc hc
            have h1' : RdC (V.Z fr) w (.clo g t) [a.eval x] d0 := h1
            obtain ⟨caps, e1, e2⟩ := h1'
            injection e1 with e1 _
            have ho := ok_expand (V := V) (hp := hp) fr t e2
            have hargs := readArgs_ok hl pc.ts (vs := c.args.toList.map a.eval ++ caps.toList) hd' (by simp [ho.1]) (fun i s v hi hv => by
              rcases Nat.lt_or_ge i c.args.toList.length with hlt | hge
              · rw [List.getElem?_append_left (by simpa using hlt), List.getElem?_map] at hi
                rw [List.getElem?_append_left (by simpa using hlt), List.getElem?_map] at hv
                cases hx' : c.args.toList[i]? with
                | none => rw [hx'] at hi; cases hi
                | some y =>
                  rw [hx'] at hi hv
                  simp only [Option.map_some, Option.some.injEq] at hi hv
                  rw [← hi, ← hv]; exact hev y
              · rw [List.getElem?_append_right (by simpa using hge), List.getElem?_map] at hi
                rw [List.getElem?_append_right (by simpa using hge)] at hv
                simp only [List.length_map] at hi hv
                cases hy : (expand fr t d0)[i - c.args.toList.length]? with
                | none => rw [hy] at hi; cases hi
                | some y =>
                  rw [hy] at hi
                  simp only [Option.map_some, Option.some.injEq] at hi
                  rw [← hi]
                  exact ho.2 _ y v hy hv)
            have hcall := k1 w _ d hargs (hob _ rfl)
            refine wp_callC (R := fun e w' => ∃ v, e = .returned v ∧ ResOk w w' pc.rs v (pc.F d)) rfl hx e1 k2 (by rw [show c.args.map a.eval ++ caps = (c.args.toList.map a.eval ++ caps.toList).toArray from Array.ext' (by simp)]; exact hcall) (fun e w' hr => ?_)
            obtain ⟨v, rfl, hr⟩ := hr
            obtain ⟨V', hg'⟩ := good_call m hr hd
            exact ⟨v, rfl, h v w' V' hg'⟩
      · cases hq
    · cases hq
  | _ => cases hq
end
end Go.SX
