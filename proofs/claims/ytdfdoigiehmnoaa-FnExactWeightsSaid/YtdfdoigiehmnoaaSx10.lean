/- Cuts, composites, lengths. No condition. -/
import Derived.Test.YtdfdoigiehmnoaaSx9
import Derived.Laws.StructEq
namespace Go.SX
open Go.RowKit
set_option linter.unusedVariables false
set_option linter.unusedSimpArgs false

section
variable {P : Program} {T : Tab} {V : Vl} {hp lk : Nat → Ent} {w : World}

/-- A cut of a slice that is read. -/
theorem cut_rd {Z : Nat → Prop} {e : Ty} {v : Value} {xs : List e.den} (h : RdC Z w (.sl e) [v] xs) {l h' : Nat} (h0 : l ≤ h') (h1 : h' ≤ xs.length) :
    ∃ a cap, v = .slice a xs.length cap ∧ xs.length ≤ cap ∧ RdC Z w (.sl e) [.slice (if cap = l then a else a.map (·.add (l * e.size))) (h' - l) (cap - l)] ((xs.take h').drop l) := by
  obtain ⟨a, cap, hv, h2, h3, h4⟩ := h
  simp only [List.cons.injEq, and_true] at hv
  have hlen : ((xs.take h').drop l).length = h' - l := by rw [List.length_drop, List.length_take]; omega
  refine ⟨a, cap, hv, h2, _, cap - l, by rw [hlen], by rw [hlen]; omega, by rw [hlen]; omega, fun i hi => ?_⟩
  rw [hlen] at hi
  obtain ⟨ad, rfl, h5, h6, es, h7, h8, h9⟩ := h4 (l + i) (by omega)
  obtain ⟨b, o, sp⟩ := ad
  simp only at h5
  subst h5
  rw [if_neg (by omega)]
  refine ⟨⟨b, o + l * e.size, none⟩, by rw [Option.map_some, add_mk], rfl, h6, es, h7, ?_, ?_⟩
  · rw [Nat.add_mul] at h8
    rw [Nat.add_assoc]; exact h8
  · simp only [List.getElem_drop, List.getElem_take]
    exact h9

/-- The run of a cut. -/
theorem run_cut (hT : TabOk P T) {t : TypeId} {e : Ty} (he : elemTy T t = some e) (a : Option Addr) (len cap : Nat) (lo hi : Option Value) {l h' : Nat}
    (hl : lo = none ∧ l = 0 ∨ ∃ k, lo = some (.int k (l : Int))) (hh : hi = none ∧ h' = len ∨ ∃ k, hi = some (.int k (h' : Int))) (h0 : l ≤ h') (h1 : h' ≤ cap) :
    (Instr.sliceAt t (.slice a len cap) lo hi none).run P w = .ok (.slice (if cap = l then a else a.map (·.add (l * e.size))) (h' - l) (cap - l)) w := by
  obtain ⟨te, i, z, h2, h3, h4, _⟩ := elemTy_ok hT he
  have c1 : (h' : Int) ≤ (cap : Int) := by omega
  have c2 : (l : Int) ≤ (h' : Int) := by omega
  have c3 : (0 : Int) ≤ (h' : Int) := by omega
  have c4 : (0 : Int) ≤ (l : Int) := by omega
  rcases hl with ⟨rfl, rfl⟩ | ⟨k, rfl⟩ <;> rcases hh with ⟨rfl, rfl⟩ | ⟨k', rfl⟩ <;>
    simp [Instr.sliceAt, Instr.slice, Instr.sliceBounds, Instr.sliceBound, run_underlying h2, asIntOf, run_sizeOf h3, h4, c1, c2, c3, c4, h0, h1] <;> first | done | (intros; omega) | omega

theorem boundC_ok {dft : Int} {o : Option S} {n : Int} (h : boundC dft o = some n) {ov : Option Value} (ho : ∀ s v, o = some s → ov = some v → S.ok V hp w s v) (hov : o = none ↔ ov = none) :
    (o = none ∧ ov = none ∧ n = dft) ∨ (∃ k, ov = some (.int k n)) := by
  unfold boundC at h
  split at h
  · injection h with h; exact .inl ⟨rfl, hov.1 rfl, h.symm⟩
  · rename_i k m
    injection h with h; subst h
    cases ov with
    | none => exact absurd (hov.2 rfl) (by simp)
    | some v => exact .inr ⟨k, by rw [(ok_int (V := V) (hp := hp) (w := w) (ho _ _ rfl rfl)).1]⟩
  · cases h

theorem hasRow_cap {m h : Nat} {e : Ty} {v : Value} (hr : hasRow V w m e h v) : ∃ a cap, v = .slice a h cap ∧ h ≤ cap ∧ ∀ h', h' ≤ h → hasRow V w m e h' (.slice (if cap = 0 then a else a.map (·.add (0 * e.size))) (h' - 0) (cap - 0)) := by
  rcases hr with ⟨h1, rfl, rfl⟩ | ⟨h1, cap, vals, el, rfl, h3, h4, h5⟩
  · exact ⟨none, 0, rfl, Nat.le_refl _, fun h' hh => by have : h' = 0 := by omega
                                                        subst this; exact .inl ⟨h1, rfl, rfl⟩⟩
  · refine ⟨_, cap, rfl, h5, fun h' hh => .inr ⟨h1, cap, vals, el, ?_, h3, h4, by omega⟩⟩
    have : (if cap = 0 then (some ⟨V.blk m, 0, none⟩ : Option Addr) else (some (⟨V.blk m, 0, none⟩ : Addr)).map (·.add (0 * e.size))) = some ⟨V.blk m, 0, none⟩ := by
      split
      · rfl
      · simp [Addr.add]
    rw [this]; simp

theorem qslice_run (hT : TabOk P T) (hl : LkOk V hp lk w) {t : TypeId} {x : C} {lo hi : Option S} {r : QR} {v : Value} {lv hv : Option Value} (h : qslice T lk t x lo hi = some r) (hob : ∀ p, r.ob = some p → p) (hx : C.ok V hp w x v)
    (hlo : ∀ s v, lo = some s → lv = some v → S.ok V hp w s v) (hlo' : lo = none ↔ lv = none) (hhi : ∀ s v, hi = some s → hv = some v → S.ok V hp w s v) (hhi' : hi = none ↔ hv = none) :
    PureRun P V hp w r (Instr.sliceAt t v lv hv none) := by
  have mk : ∀ {n : Int} {m : Nat} {o : Option S} {ov : Option Value} {d : Nat}, (o = none ∧ ov = none ∧ n = (d : Int)) ∨ (∃ k, ov = some (.int k n)) → 0 ≤ n → m = n.toNat → (ov = none ∧ m = d ∨ ∃ k, ov = some (.int k (m : Int))) := by
    intro n m o ov d hc h0 hm
    rcases hc with ⟨_, h1, h2⟩ | ⟨k, h1⟩
    · exact .inl ⟨h1, by omega⟩
    · exact .inr ⟨k, by rw [h1, hm, Int.toNat_of_nonneg h0]⟩
  unfold qslice at h
  split at h
  · rename_i e' fr e xs he
    split at h
    · rename_i l h' hbl hbh
      split at h
      · rename_i hee
        subst hee
        injection h with h; subst h
        obtain ⟨h0, h1, h2⟩ := hob _ rfl
        have bl := boundC_ok (V := V) (hp := hp) (w := w) hbl hlo hlo'
        have bh := boundC_ok (V := V) (hp := hp) (w := w) hbh hhi hhi'
        obtain ⟨a, cap, rfl, h3, h4⟩ := cut_rd (l := l.toNat) (h' := h'.toNat) hx (by omega) (by omega)
        exact ⟨rfl, rfl, _, run_cut hT he a _ cap lv hv (mk (d := 0) bl h0 rfl) (mk (d := xs.length) bh (by omega) rfl) (by omega) (by omega), h4⟩
      · cases h
    · cases h
  · rename_i e' m he
    split at h
    · rename_i fr e xs hm
      obtain ⟨e1, e2⟩ := hl m (by rw [hm]; rfl)
      obtain ⟨fr', e3, xs', k2, k3⟩ := hx
      rw [← e1, hm] at k2
      injection k2 with g3 g4 g5
      subst g3; subst g4; cases g5
      rw [hm] at e2
      split at h
      · rename_i h' hbh
        split at h
        · rename_i hee
          subst hee
          injection h with h; subst h
          obtain ⟨h0, h1⟩ := hob _ rfl
          have bh := boundC_ok (V := V) (hp := hp) (w := w) hbh hhi hhi'
          have hlv : lv = none := hlo'.1 rfl
          obtain ⟨a, cap, rfl, h3, h4⟩ := hasRow_cap k3
          refine ⟨rfl, rfl, _, run_cut (l := 0) (h' := h'.toNat) hT he a _ cap lv hv (.inl ⟨hlv, rfl⟩) (mk (d := xs.length) bh h0 rfl) (by omega) (by omega), fr, e, xs, by rw [← e1]; exact hm, by omega, h4 _ (by omega)⟩
        · cases h
      · rename_i lo' h' hbh
        split at h
        · rename_i l hbl
          split at h
          · rename_i hee
            subst hee
            injection h with h; subst h
            obtain ⟨h0, h1, h2⟩ := hob _ rfl
            have bl := boundC_ok (V := V) (hp := hp) (w := w) hbl hlo hlo'
            have bh := boundC_ok (V := V) (hp := hp) (w := w) hbh hhi hhi'
            have hrd := row_rd e2 k3 (Nat.le_refl _)
            rw [List.take_length] at hrd
            obtain ⟨a, cap, rfl, h3, h4⟩ := cut_rd (l := l.toNat) (h' := h'.toNat) hrd (by omega) (by omega)
            refine ⟨rfl, rfl, _, run_cut hT he a _ cap lv hv (mk (d := 0) bl h0 rfl) (mk (d := xs.length) bh (by omega) rfl) (by omega) (by omega), ⟨fr, e, xs, by rw [← e1]; exact hm⟩, ?_⟩
            exact h4.mono (fun b hb => hb.elim (fun h => .inl (Vl.Z_all h)) .inr) (fun _ _ => rfl)
          · cases h
        · cases h
      · cases h
    · cases h
  · rename_i e' m k he
    split at h
    · rename_i fr e xs hm
      obtain ⟨e1, e2⟩ := hl m (by rw [hm]; rfl)
      obtain ⟨fr', e3, xs', k2, k3, k4⟩ := hx
      rw [← e1, hm] at k2
      injection k2 with g3 g4 g5
      subst g3; subst g4; cases g5
      rw [hm] at e2
      split at h
      · rename_i h' hbh
        split at h
        · rename_i hee
          subst hee
          injection h with h; subst h
          obtain ⟨h0, h1⟩ := hob _ rfl
          have bh := boundC_ok (V := V) (hp := hp) (w := w) hbh hhi hhi'
          have hlv : lv = none := hlo'.1 rfl
          obtain ⟨a, cap, rfl, h3, h4⟩ := hasRow_cap k4
          refine ⟨rfl, rfl, _, run_cut (l := 0) (h' := h'.toNat) hT he a _ cap lv hv (.inl ⟨hlv, rfl⟩) (mk (d := k) bh h0 rfl) (by omega) (by omega), fr, e, xs, by rw [← e1]; exact hm, by omega, h4 _ (by omega)⟩
        · cases h
      · cases h
    · cases h
  · cases h

theorem len_bound {n : Nat} (h : n ≤ lenMax) : IntKind.i64.min ≤ (n : Int) ∧ (n : Int) ≤ IntKind.i64.max := by
  have h1 : IntKind.i64.min = -9223372036854775808 := by decide
  have h2 : IntKind.i64.max = 9223372036854775807 := by decide
  rw [h1, h2]
  unfold lenMax at h
  omega

theorem rd_len {Z : Nat → Prop} {e : Ty} {v : Value} {xs : List e.den} (h : RdC Z w (.sl e) [v] xs) : ∃ a cap, v = .slice a xs.length cap ∧ xs.length ≤ lenMax := by
  obtain ⟨a, cap, hv, h2, h3, h4⟩ := h
  simp only [List.cons.injEq, and_true] at hv
  exact ⟨a, cap, hv, h3⟩

theorem row_len (he : ∀ n, (hp n).ok V hp w n) {m h : Nat} {fr : Bool} {e : Ty} {xs : List e.den} {v : Value} (hm : hp m = .row fr e xs) (hr : hasRow V w m e h v) (hh : h ≤ xs.length) : ∃ a cap, v = .slice a h cap ∧ h ≤ lenMax := by
  have h1 := he m
  rw [hm] at h1
  rcases hr with ⟨_, rfl, rfl⟩ | ⟨k1, cap, vals, el, rfl, k3, k4, k5⟩
  · exact ⟨none, 0, rfl, Nat.zero_le _⟩
  · rcases h1 with ⟨g1, _⟩ | ⟨_, vals', el', g2, g3, _⟩
    · exact absurd k1 g1
    · exact ⟨_, cap, rfl, by omega⟩

theorem lenC_ok (he : ∀ n, (hp n).ok V hp w n) (hl : LkOk V hp lk w) {x : C} {n : Int} {v : Value} (h : lenC lk x = some n) (hx : C.ok V hp w x v) : ∃ a k cap, v = .slice a k cap ∧ n = (k : Int) ∧ k ≤ lenMax := by
  unfold lenC at h
  split at h
  · injection h with h; subst h
    obtain ⟨a, cap, h1, h2⟩ := rd_len hx
    exact ⟨a, _, cap, h1, rfl, h2⟩
  · injection h with h; subst h
    obtain ⟨a, cap, h1, h2⟩ := rd_len hx.2
    exact ⟨a, _, cap, h1, rfl, h2⟩
  · rename_i m
    split at h
    · rename_i fr e xs hm
      injection h with h; subst h
      obtain ⟨fr', e', xs', h1, h2⟩ := hx
      obtain ⟨e1, _⟩ := hl m (by rw [hm]; rfl)
      rw [← e1, hm] at h1
      injection h1 with g3 g4 g5
      subst g3; subst g4; cases g5
      obtain ⟨a, cap, h3, h4⟩ := row_len he (e1.symm.trans hm) h2 (Nat.le_refl _)
      exact ⟨a, _, cap, h3, rfl, h4⟩
    · cases h
  · rename_i m k
    injection h with h; subst h
    obtain ⟨fr', e', xs', h1, h3, h2⟩ := hx
    obtain ⟨a, cap, h5, h4⟩ := row_len he h1 h2 h3
    exact ⟨a, _, cap, h5, rfl, h4⟩
  · injection h with h; subst h
    rw [hx.1]
    exact ⟨none, 0, 0, rfl, rfl, Nat.zero_le _⟩
  · cases h

theorem lenT_run (hT : TabOk P T) (he : ∀ n, (hp n).ok V hp w n) (hl : LkOk V hp lk w) {t ty : TypeId} {x : C} {n : Int} {v : Value} (h : lenT T lk t x = some n) (hx : C.ok V hp w x v) :
    (Builtin.len_ #[t] ty #[v]).run P w = .ok (.int .i64 n) w ∧ IntKind.i64.min ≤ n ∧ n ≤ IntKind.i64.max := by
  unfold lenT at h
  split at h
  · rename_i sz by' z ty' teq s heq
    injection h with h; subst h
    have hk := (ti_ok (hT t _ heq)).2.2
    have hu : P.underlying t = some .string := by
      unfold kindB at hk
      simp only at hk
      split at hk
      · assumption
      · cases hk
    obtain ⟨rfl, hs⟩ := hx
    refine ⟨by simp [Builtin.len_, run_underlying hu, goInt], ?_⟩
    have h1 : IntKind.i64.min = -9223372036854775808 := by decide
    have h2 : IntKind.i64.max = 9223372036854775807 := by decide
    have h3 : s.size ≤ maxLen := hs
    unfold maxLen at h3
    rw [h1, h2]
    omega
  · rename_i e es eb ety sz by' z ty' teq heq
    obtain ⟨hu, _⟩ := slice_ok (ti_ok (hT t _ heq)).2.2
    obtain ⟨a, k, cap, rfl, rfl, hk⟩ := lenC_ok he hl h hx
    exact ⟨by simp [Builtin.len_, run_underlying hu, goInt], len_bound hk⟩
  · cases h

theorem equal_bool {t : TypeId} (ht : Program.underlying P t = some .bool) (a b : Bool) (w : World) : (Op.equal t (.bool a) (.bool b)).run P w = .ok (a == b) w := by
  unfold Op.equal Op.maxDepth
  rw [Op.equalIn]
  rw [Sem.run_bind, run_underlying ht, Result.andThen_ok]
  rfl

theorem qbinT_run (hT : TabOk P T) {t : TypeId} {op : BinOp} {x y : C} {r : QR} {u v : Value} (h : qbinT T t op x y = some r) (hob : ∀ p, r.ob = some p → p) (hx : C.ok V hp w x u) (hy : C.ok V hp w y v) (ox oy : Operand) :
    PureRun P V hp w r (do eqGuard op t ox oy u v; binOp op t u v) := by
  unfold qbinT at h
  split at h
  · rename_i r' hr
    injection h with h; subst h
    exact qbin_run hr hob hx hy t ox oy
  · split at h
    · rename_i a b ht ha hb hz
      injection h with h; subst h
      have e1 := (boolOf_ok (by assumption) hx : u = .bool _)
      have e2 := (boolOf_ok (by assumption) hy : v = .bool _)
      subst e1; subst e2
      have hk := (ti_ok (hT t _ (by assumption))).2.2
      have hu : Program.underlying P t = some .bool := by
        unfold kindB at hk
        simp only at hk
        split at hk <;> first | assumption | cases hk
      exact ⟨rfl, rfl, .bool (a == b), by simp [eqGuard, binOp, equal_bool hu], rfl, trivial⟩
    · rename_i a b ht ha hb hz
      injection h with h; subst h
      have e1 := (boolOf_ok (by assumption) hx : u = .bool _)
      have e2 := (boolOf_ok (by assumption) hy : v = .bool _)
      subst e1; subst e2
      have hk := (ti_ok (hT t _ (by assumption))).2.2
      have hu : Program.underlying P t = some .bool := by
        unfold kindB at hk
        simp only at hk
        split at hk <;> first | assumption | cases hk
      exact ⟨rfl, rfl, .bool (!(a == b)), by simp [eqGuard, binOp, equal_bool hu], rfl, trivial⟩
    · cases h

theorem eqFlds_run {us vs : Array Value} (d : Nat) : ∀ (fs : List Field) (o : Nat) (ks : List Bool) (xs ys : List C) (b : Bool), eqFldB P o fs ks = true → eqCs ks xs ys = some b →
    (∀ (j : Nat) c, xs[j]? = some c → ∃ u, us[o + j]? = some u ∧ C.ok V hp w c u) → (∀ (j : Nat) c, ys[j]? = some c → ∃ u, vs[o + j]? = some u ∧ C.ok V hp w c u) →
    (Op.eqFields (d + 1) us vs fs).run P w = .ok b w := by
  intro fs
  induction fs with
  | nil =>
    intro o ks xs ys b h hq _ _
    cases ks with
    | nil =>
      unfold eqCs at hq
      split at hq <;> first | (rename_i h0 _ _; cases h0; done) | (rename_i h0; cases h0; done) | skip
      · injection hq with hq; subst hq; rfl
      all_goals first | (cases hq; done) | (simp_all; done)
    | cons k ks => cases h
  | cons f fs ih =>
    intro o ks xs ys b h hq hx hy
    cases ks with
    | nil => cases h
    | cons k ks =>
      unfold eqFldB at h
      simp only [Bool.and_eq_true, bne_iff_ne, ne_eq, beq_iff_eq] at h
      obtain ⟨⟨⟨h1, h2⟩, h3⟩, h4⟩ := h
      have get : ∀ {zs : List C} {ws : Array Value} {z : C} {zr : List C}, zs = z :: zr → (∀ (j : Nat) c, zs[j]? = some c → ∃ u, ws[o + j]? = some u ∧ C.ok V hp w c u) →
          (∃ u, ws[f.offset]? = some u ∧ C.ok V hp w z u) ∧ ∀ (j : Nat) c, zr[j]? = some c → ∃ u, ws[o + 1 + j]? = some u ∧ C.ok V hp w c u := by
        intro zs ws z zr e hz
        subst e
        refine ⟨by rw [h2]; exact hz 0 z rfl, fun j c hj => ?_⟩
        obtain ⟨u, e1, e2⟩ := hz (j + 1) c (by simpa using hj)
        exact ⟨u, by rw [← e1]; congr 1; omega, e2⟩
      have hpart : ∀ {ws : Array Value} {u : Value}, ws[f.offset]? = some u → (part f.type ws f.offset).run P w = .ok u w := by
        intro ws u hu
        split at h3
        · rename_i hf; simp [part, run_isAgg hf, hu, descAgg]
        · rename_i hf; simp [part, run_isAgg hf, hu, descAgg]
        · cases h3
      unfold eqCs at hq
      split at hq
      · rename_i h0; cases h0
      · rename_i ks' kk a xs' kk' b' ys' e1
        injection e1 with e1 e1'
        subst e1; subst e1'; 
        split at hq
        · rename_i hk
          subst hk
          rw [omap_eq] at hq
          cases hr : eqCs ks xs' ys' with
          | none => rw [hr] at hq; cases hq
          | some r =>
            rw [hr] at hq
            injection hq with hq
            obtain ⟨⟨u, g1, g2⟩, g3⟩ := get rfl hx
            obtain ⟨⟨v, g4, g5⟩, g6⟩ := get rfl hy
            obtain ⟨rfl, _⟩ := ok_int g2
            obtain ⟨rfl, _⟩ := ok_int g5
            have hrec := ih (o + 1) ks xs' ys' r h4 hr g3 g6
            have hu : ∃ k, P.underlying f.type = some (.int k) := by
              split at h3
              · exact ⟨_, ‹_›⟩
              · cases h3
              · cases h3
            obtain ⟨k0, hu⟩ := hu
            simp only [Op.eqFields]
            rw [if_pos h1]
            simp only [Sem.run_bind, hpart g1, hpart g4, Result.andThen_ok, Op.equalIn, run_underlying hu, if_true, Sem.run_pure, Sem.run_ite]
            subst hq
            by_cases hab : a = b'
            · simp [hab, hrec]
            · simp [hab]
        · cases hq
      · rename_i ks' x xs' y ys' e1
        injection e1 with e1 e1'
        subst e1; subst e1'
        split at hq
        · rename_i a b' ha hb
          rw [omap_eq] at hq
          cases hr : eqCs ks xs' ys' with
          | none => rw [hr] at hq; cases hq
          | some r =>
            rw [hr] at hq
            injection hq with hq
            obtain ⟨⟨u, g1, g2⟩, g3⟩ := get rfl hx
            obtain ⟨⟨v, g4, g5⟩, g6⟩ := get rfl hy
            obtain rfl := boolOf_ok ha g2
            obtain rfl := boolOf_ok hb g5
            have hrec := ih (o + 1) ks xs' ys' r h4 hr g3 g6
            have hu : P.underlying f.type = some .bool := by
              split at h3
              · cases h3
              · assumption
              · cases h3
            simp only [Op.eqFields]
            rw [if_pos h1]
            simp only [Sem.run_bind, hpart g1, hpart g4, Result.andThen_ok, Op.equalIn, run_underlying hu, Sem.run_pure, Sem.run_ite]
            subst hq
            by_cases hab : a = b'
            · simp [hab, hrec]
            · simp [hab]
        · cases hq
      · cases hq

theorem qbinA_run (hT : TabOk P T) {t : TypeId} {op : BinOp} {xs ys : List C} {r : QR} {us vs : Array Value} (h : qbinA T t op xs ys = some r) (hx : okAll V hp w xs us.toList) (hy : okAll V hp w ys vs.toList) (ox oy : Operand) :
    PureRun P V hp w r (do eqGuard op t ox oy (.agg us) (.agg vs); binOp op t (.agg us) (.agg vs)) := by
  unfold qbinA at h
  rw [obind_eq] at h
  cases ht : T t with
  | none => rw [ht] at h; cases h
  | some ti =>
    rw [ht] at h
    simp only [Option.bind_some] at h
    cases hk : ti.eq with
    | none => rw [hk] at h; cases h
    | some ks =>
      rw [hk] at h
      simp only at h
      have he := ti_eq (hT t _ ht) hk
      unfold eqB at he
      split at he
      · rename_i fs hu
        simp only [Bool.and_eq_true, Bool.not_eq_true'] at he
        obtain ⟨⟨h1, h2⟩, h3⟩ := he
        have hfo : P.fieldsOf t = fs := by unfold Program.fieldsOf; rw [hu]
        have each : ∀ {zs : List C} {ws : Array Value}, okAll V hp w zs ws.toList → ∀ (j : Nat) c, zs[j]? = some c → ∃ u, ws[0 + j]? = some u ∧ C.ok V hp w c u := by
          intro zs ws ho j c hj
          have hlt := (List.getElem?_eq_some_iff.1 hj).1
          have hlt' : j < ws.size := by have := ho.1; simp at this; omega
          have hv : ws[j]? = some ws[j] := Array.getElem?_eq_getElem hlt'
          exact ⟨ws[j], by rw [Nat.zero_add]; exact hv, ho.2 j c _ hj (by simp)⟩
        have key : ∀ b, eqCs ks xs ys = some b → (Op.equalIn 10000 t (.agg us) (.agg vs)).run P w = .ok b w := by
          intro b hb
          rw [show (10000 : Nat) = 9999 + 1 from rfl, run_equalIn_agg w 9999 t us vs (by rw [hfo]; exact hu) h1, hfo]
          exact eqFlds_run 9998 fs.toList 0 ks xs ys b h3 hb (each hx) (each hy)
        split at h
        · rename_i b hb
          injection h with h; subst h
          exact ⟨rfl, rfl, .bool b, by rw [Sem.run_bind, run_eqGuard_agg w _ t ox oy us vs h2, Result.andThen_ok, run_eql_struct, key b hb]; rfl, rfl, trivial⟩
        · rename_i b hb
          injection h with h; subst h
          exact ⟨rfl, rfl, .bool (!b), by rw [Sem.run_bind, run_eqGuard_agg w _ t ox oy us vs h2, Result.andThen_ok, run_neq_struct, key b hb]; rfl, rfl, trivial⟩
        · cases h
      · cases he

theorem zeros_len : ∀ e : Ty, e.zeros.length = e.size
  | .int _ => rfl
  | .bool => rfl
  | .str => rfl
  | .sl _ => rfl
  | .st t => zeros_len t
  | .pr a b => by
    show (a.zeros ++ b.zeros).length = a.size + b.size
    rw [List.length_append, zeros_len a, zeros_len b]
  | .ptr _ => rfl
  | .clo _ _ => rfl

theorem made_get (z : Array Value) (n k : Nat) (h : k < n) : (madeCells z n)[k]? = some z[k % z.size]! := by
  unfold madeCells
  rw [Array.getElem?_map]
  have : (Array.range n)[k]? = some k := by rw [Array.getElem?_range]; simp [h]
  rw [this]; rfl

theorem qmakeSlice_run (hT : TabOk P T) {base : Nat} {M : LM} {w0 : World} (m : Mem base M w0 V hp w) {nx : Nat} (hd : hp nx = .dead) {t : TypeId} {l c : C} {r : QR} {u v : Value} (h : qmakeSlice T nx t l c = some r) (hob : ∀ p, r.ob = some p → p)
    (hu : C.ok V hp w l u) (hv : C.ok V hp w c v) : ∃ x w' V', (Instr.makeSlice t u v).run P w = .ok x w' ∧ Good base M w0 V hp w nx r.res r.new r.hy x w' V' := by
  unfold qmakeSlice at h
  split at h
  · rename_i te es eb e sz by' z0 ty' teq n mm heq
    split at h
    · rename_i hb1
      rw [Bool.and_eq_true] at hb1
      obtain ⟨hb1, hpl⟩ := hb1
      replace hb1 := of_decide_eq_true hb1
      injection h with h; subst h
      obtain ⟨h0, h1, h2⟩ := hob _ rfl
      obtain ⟨rfl, _⟩ := ok_int hu
      obtain ⟨rfl, hv2⟩ := ok_int hv
      obtain ⟨g1, g2, i, z, g3, g4, g5, g6, g7⟩ := slice_ok (ti_ok (hT t _ heq)).2.2
      have hb : (i.bytes : Int) * mm ≤ 281474976710656 := by rw [g5, Int.mul_comm]; omega
      have h63 : mm ≤ 9223372036854775807 := hv2.2
      have hm47 : mm ≤ 140737488355328 := by
        have : mm * 1 ≤ mm * (eb : Int) := Int.mul_le_mul_of_nonneg_left (by omega) (by omega)
        omega
      have hrun := run_make (P := P) w t te i z g1 g3 g6 .i64 .i64 n mm h0 h1 hb h63
      rw [g4] at hrun
      have hzs : z.cells.size = e.size := by rw [g7]; simpa using zeros_len e
      obtain ⟨V', hg⟩ := good_alloc m hd (madeCells z.cells (mm.toNat * e.size)) te (.row true e (List.replicate n.toNat e.dflt)) (.c (.own nx)) (.slice (some ⟨w.heap.size, 0, none⟩) n.toNat mm.toNat) (fun h => h)
        (fun V' hp' w' x k1 k2 k3 k4 => by
          constructor
          · refine .inr ⟨k1, _, te, by rw [k2]; exact k4, by rw [List.length_replicate]; unfold lenMax; omega, fun j hj => ?_⟩
            rw [List.length_replicate] at hj
            refine ⟨e.zeros, zeros_len e, fun q u hq => ?_, by rw [List.getElem_replicate]; exact RdC.zero e hpl⟩
            have hq' := (List.getElem?_eq_some_iff.1 hq).1
            rw [zeros_len e] at hq'
            have hlt : j * e.size + q < mm.toNat * e.size := by
              have : (j + 1) * e.size ≤ mm.toNat * e.size := Nat.mul_le_mul_right _ (by omega)
              rw [Nat.add_mul] at this; omega
            rw [made_get _ _ _ hlt, hzs]
            have hmod : (j * e.size + q) % e.size = q := by rw [Nat.mul_comm, Nat.mul_add_mod]; exact Nat.mod_eq_of_lt hq'
            rw [hmod, g7]
            have hq'' : q < e.zeros.length := by rw [zeros_len e]; exact hq'
            rw [List.getElem?_eq_getElem hq''] at hq
            simp only [Option.some.injEq] at hq
            rw [← hq]
            simp [hq'']
          · refine ⟨true, e, _, k3, .inr ⟨k1, mm.toNat, _, te, by rw [k2, List.length_replicate], by rw [k2]; exact k4, size_madeCells _ _, by rw [List.length_replicate]; omega⟩⟩)
      exact ⟨_, _, V', hrun, hg⟩
    · cases h
  · cases h

/-! ### Composites -/

theorem fold_set (off : Nat) : ∀ (l : List Value) (k : Nat) (a : Array Value), off + k + l.length ≤ a.size →
    ((l.zipIdx k).foldl (fun cs (x : Value × Nat) => cs.setIfInBounds (off + x.2) x.1) a).toList = a.toList.take (off + k) ++ l ++ a.toList.drop (off + k + l.length)
  | [], k, a, _ => by simp
  | v :: l, k, a, h => by
    simp only [List.zipIdx_cons, List.foldl_cons]
    rw [fold_set off l (k + 1) _ (by simp at h ⊢; omega)]
    have hlt : off + k < a.toList.length := by simp at h ⊢; omega
    simp only [Array.toList_setIfInBounds, List.length_cons]
    rw [show off + (k + 1) = off + k + 1 by omega, List.take_set, List.drop_set, if_pos (by omega)]
    rw [show off + k + (l.length + 1) = off + k + 1 + l.length by omega]
    have hm : (a.toList.take (off + k)).length = off + k := by rw [List.length_take]; omega
    rw [List.take_succ_eq_append_getElem hlt, List.set_append_right _ _ (by rw [hm]; exact Nat.le_refl _), hm]
    simp

theorem fill_step (place : Nat → Option (Nat × Nat)) (cells : Array Value) (i off size : Nat) (v : Value) (rest : List (Nat × Value)) (hp' : place i = some (off, size)) (h1 : v.cells.size = size) (h2 : off + size ≤ cells.size) :
    Instr.fill place cells ((i, v) :: rest) = Instr.fill place ((cells.toList.take off ++ v.cells.toList ++ cells.toList.drop (off + size)).toArray) rest := by
  have := fold_set off v.cells.toList 0 cells (by simp [h1]; exact h2)
  simp only [Nat.add_zero, Array.length_toList, h1] at this
  have e : v.cells.zipIdx.foldl (fun cs (x : Value × Nat) => cs.setIfInBounds (off + x.2) x.1) cells = (cells.toList.take off ++ v.cells.toList ++ cells.toList.drop (off + size)).toArray := by
    apply Array.ext'
    rw [← this, ← Array.foldl_toList]
    simp [Array.toList_zipIdx]
  rw [← e]
  simp only [Instr.fill, hp']
  rw [if_neg (by simp [h1]; omega)]

theorem cells_ok {s : S} {cs : List C} {v : Value} (h : s.cells = some cs) (ho : S.ok V hp w s v) : okAll V hp w cs v.cells.toList := by
  cases s with
  | c x =>
    simp only [S.cells, Option.some.injEq] at h; subst h
    have h1 := C.oneCell ho
    have : v.cells = #[v] := by cases v <;> first | rfl | (simp [Value.oneCell'] at h1)
    rw [this]
    exact okAll_cons_mk ho okAll_nil
  | agg xs =>
    simp only [S.cells, Option.some.injEq] at h; subst h
    obtain ⟨vs, rfl, h1⟩ := ho
    exact h1
  | _ => cases h

/-- Pairs, part by part. -/
def PartsOk (V : Vl) (hp : Nat → Ent) (w : World) : List (Nat × S) → List (Nat × Value) → Prop
  | [], [] => True
  | p :: ps, q :: qs => p.1 = q.1 ∧ S.ok V hp w p.2 q.2 ∧ PartsOk V hp w ps qs
  | _, _ => False

theorem fillC_ok {fs : List (Nat × Nat × Bool)} {place : Nat → Option (Nat × Nat)} (hpl : ∀ (i : Nat) x, fs[i]? = some x → place i = some (x.1, x.2.1)) :
    ∀ {ps : List (Nat × S)} {qs : List (Nat × Value)} {cs cs' : List C} {cells : Array Value}, fillC fs cs ps = some cs' → PartsOk V hp w ps qs → okAll V hp w cs cells.toList →
      ∃ cells', Instr.fill place cells qs = some cells' ∧ okAll V hp w cs' cells'.toList
  | [], [], cs, cs', cells, h, _, ho => by
    simp only [fillC, Option.some.injEq] at h; subst h
    exact ⟨cells, rfl, ho⟩
  | (i, s) :: ps, (j, v) :: qs, cs, cs', cells, h, hq, ho => by
    obtain ⟨h1, h2, h3⟩ := hq
    simp only at h1 h2
    subst h1
    unfold fillC at h
    split at h
    · rename_i o n ag xs hi hcs
      rw [nth?_eq] at hi
      simp only [llen_eq, ltake_eq, ldrop_eq, lapp_eq] at h
      split at h
      · rename_i hc
        have hxs := cells_ok hcs h2
        have hlen : v.cells.size = n := by have := hxs.1; rw [hc.1] at this; simpa using this.symm
        have hsz : cells.size = cs.length := by have := ho.1; simpa using this.symm
        rw [fill_step place cells i o n v qs (hpl i _ hi) hlen (by omega)]
        refine fillC_ok hpl h h3 ?_
        have := okAll_append (okAll_append (okAll_take ho o) hxs) (okAll_drop ho (o + n))
        simpa [List.append_assoc] using this
      · cases h
    · cases h
  | [], _ :: _, _, _, _, _, hq, _ => hq.elim
  | _ :: _, [], _, _, _, _, hq, _ => hq.elim

theorem places_ok : ∀ {fl : List Field} {fs : List (Nat × Nat × Bool)}, fieldsB P fl fs = true →
    ∃ places, fl.mapM (fun f => (P.info? f.type).map fun i => (f.offset, i.size)) = some places ∧ ∀ (i : Nat) x, fs[i]? = some x → places[i]? = some (x.1, x.2.1)
  | [], fs, k2 => ⟨[], rfl, fun i x hx => by obtain ⟨f, _, _, h, _⟩ := fieldsB_ok k2 hx; simp at h⟩
  | f :: fl, [], k2 => by cases k2
  | f :: fl, y :: ys, k2 => by
    obtain ⟨f', j, d, e1, e2, e3, e4, e5, _⟩ := fieldsB_ok k2 (i := 0) (x := y) rfl
    simp only [List.getElem?_cons_zero, Option.some.injEq] at e1
    subst e1
    unfold fieldsB at k2
    simp only [Bool.and_eq_true] at k2
    obtain ⟨places, m1, m2⟩ := places_ok k2.2
    refine ⟨(f.offset, j.size) :: places, by simp [e4, m1], fun i x hx => ?_⟩
    cases i with
    | zero => simp only [List.getElem?_cons_zero, Option.some.injEq] at hx; subst hx; simp [e2, e5]
    | succ i => simpa using m2 i x (by simpa using hx)

theorem qbuildS_run (hT : TabOk P T) {t : TypeId} {fs : List (Nat × Nat × Bool)} {sz by' : Nat} {z : List Value} {ty : Option Ty} {teq : Option (List Bool)} (heq : T t = some { k := .st fs, size := sz, bytes := by', zero := z, ty := ty, eq := teq })
    {ps : List (Nat × S)} {qs : Array (Nat × Value)} {r : QR} (h : omap (fun cs => ({ res := .agg cs } : QR)) (fillC fs (lmap cell z) ps) = some r) (hq : PartsOk V hp w ps qs.toList) : PureRun P V hp w r (Instr.build t qs) := by
    simp only [omap_eq] at h
    cases hf : fillC fs (lmap cell z) ps with
    | none => rw [hf] at h; cases h
    | some cs =>
      rw [hf] at h
      simp only [Option.map_some, Option.some.injEq] at h
      subst h
      obtain ⟨⟨i, zv, g1, g2, g3, g4, g5, g6⟩, g7, g8⟩ := ti_ok (hT t _ heq)
      obtain ⟨fields, k1, k2⟩ := struct_ok g8
      have places := places_ok k2
      obtain ⟨places, m1, m2⟩ := places
      obtain ⟨cells', n1, n2⟩ := fillC_ok (place := fun i => places.toArray[i]?) (cells := z.toArray) (fun i x hx => by simpa using m2 i x hx) hf hq (by simpa using g6 V hp w)
      refine ⟨rfl, rfl, .agg cells', ?_, cells', rfl, n2⟩
      refine run_build w t qs cells' ?_
      unfold Program.built
      simp only [g1, k1, g4, m1]
      rw [g5]
      exact n1
end
end Go.SX
