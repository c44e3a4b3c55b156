/- Literals of slices; calls under a contract; every operation that writes nothing. No condition. -/
import Derived.Test.YtdfdoigiehmnoaaSx10
namespace Go.SX
open Go.RowKit
set_option linter.unusedVariables false
set_option linter.unusedSimpArgs false

section
variable {P : Program} {T : Tab} {V : Vl} {hp lk : Nat → Ent} {w : World}

theorem castFlag {fr fr' : Bool} (h : fr = true → fr' = true) {b : Nat} (hz : V.Z fr' b) : V.Z fr b := by
  cases fr with
  | false => exact Vl.Z_all hz
  | true => have := h rfl; subst this; exact hz

theorem rdSl_zone {fr : Bool} {e : Ty} {c : C} {xs : List e.den} {v : Value} (h : rdSl lk e c = some xs) (ho : C.ok V hp w c v) (h1 : c.noOwn = true) (h2 : fr = true → c.isFr = true) : RdC (V.Z fr) w (.sl e) [v] xs := by
  unfold rdSl at h
  split at h
  · split at h
    · rename_i fr' e' xs' hk; subst hk; injection h with h; subst h
      exact ho.mono (fun b hb => castFlag h2 hb) (fun _ _ => rfl)
    · cases h
  · cases h1
  · cases h1
  · cases h1
  · injection h with h; subst h
    rw [ho.1]
    exact RdC.zero (.sl e) rfl
  · cases h

theorem readC_zone {fr : Bool} : ∀ (t : Ty) {cs : List C} {d : t.den} {rest : List C} {vs : List Value}, readC lk t cs = some (d, rest) → okAll V hp w cs vs → (∀ c ∈ cs, c.noOwn = true ∧ (fr = true → c.isFr = true)) →
    ∃ us ws, vs = us ++ ws ∧ RdC (V.Z fr) w t us d ∧ okAll V hp w rest ws ∧ ∃ ps, cs = ps ++ rest := by
  intro t
  induction t with
  | int k =>
    intro cs d rest vs h ho hz
    obtain ⟨c, rfl, hc⟩ := head1_some h
    obtain ⟨v, vs', rfl, h1, h2⟩ := okAll_cons ho
    obtain ⟨h3, h4⟩ := rdInt_ok hc h1
    exact ⟨[v], vs', rfl, ⟨by rw [h3], h4⟩, h2, [c], rfl⟩
  | bool =>
    intro cs d rest vs h ho hz
    obtain ⟨c, rfl, hc⟩ := head1_some h
    obtain ⟨v, vs', rfl, h1, h2⟩ := okAll_cons ho
    exact ⟨[v], vs', rfl, by rw [rdBool_ok hc h1]; exact rfl, h2, [c], rfl⟩
  | str =>
    intro cs d rest vs h ho hz
    obtain ⟨c, rfl, hc⟩ := head1_some h
    obtain ⟨v, vs', rfl, h1, h2⟩ := okAll_cons ho
    obtain ⟨h3, h4⟩ := rdStr_ok hc h1
    exact ⟨[v], vs', rfl, ⟨by rw [h3], h4⟩, h2, [c], rfl⟩
  | sl e ih =>
    intro cs d rest vs h ho hz
    obtain ⟨c, rfl, hc⟩ := head1_some h
    obtain ⟨v, vs', rfl, h1, h2⟩ := okAll_cons ho
    obtain ⟨h3, h4⟩ := hz c (by simp)
    exact ⟨[v], vs', rfl, rdSl_zone hc h1 h3 h4, h2, [c], rfl⟩
  | st t ih => exact fun h ho hz => ih h ho hz
  | pr a b iha ihb =>
    intro cs d rest vs h ho hz
    unfold readC at h
    cases ha : readC lk a cs with
    | none => simp [ha] at h
    | some x =>
      obtain ⟨x, r⟩ := x
      simp only [ha] at h
      cases hb : readC lk b r with
      | none => simp [hb] at h
      | some y =>
        obtain ⟨y, r'⟩ := y
        simp only [hb, Option.some.injEq, Prod.mk.injEq] at h
        obtain ⟨rfl, rfl⟩ := h
        obtain ⟨us, ws, rfl, h1, h2, ps, rfl⟩ := iha ha ho hz
        obtain ⟨us', ws', rfl, h3, h4, ps', rfl⟩ := ihb hb h2 (fun c hc => hz c (List.mem_append_right _ hc))
        exact ⟨us ++ us', ws', by rw [List.append_assoc], ⟨us, us', rfl, h1, h3⟩, h4, ps ++ ps', by rw [List.append_assoc]⟩
  | ptr t ih =>
    intro cs d rest vs h ho hz
    obtain ⟨c, rfl, hc⟩ := head1_some h
    obtain ⟨v, vs', rfl, h1, h2⟩ := okAll_cons ho
    obtain ⟨h3, h4⟩ := hz c (by simp)
    refine ⟨[v], vs', rfl, ?_, h2, [c], rfl⟩
    unfold rdPtr at hc
    split at hc
    · split at hc
      · rename_i hk; subst hk; injection hc with hc; subst hc
        obtain ⟨b, o, e1, e2, es, e3, e4, e5⟩ := h1
        exact ⟨b, o, by rw [e1, Nat.add_zero], castFlag h4 e2, es, e3, e4, e5.mono (fun b hb => castFlag h4 hb) (fun _ _ => rfl)⟩
      · cases hc
    · cases h3
    · cases hc
  | clo f t ih =>
    intro cs d rest vs h ho hz
    obtain ⟨c, rfl, hc⟩ := head1_some h
    obtain ⟨v, vs', rfl, h1, h2⟩ := okAll_cons ho
    obtain ⟨h3, h4⟩ := hz c (by simp)
    refine ⟨[v], vs', rfl, ?_, h2, [c], rfl⟩
    unfold rdClo at hc
    split at hc
    · split at hc
      · rename_i hf
        split at hc
        · rename_i hk; subst hk; subst hf; injection hc with hc; subst hc
          exact RdC.mono (t := .clo _ _) (fun b hb => castFlag h4 hb) (fun _ _ => rfl) h1
        · cases hc
      · cases hc
    · rename_i f' ns
      split at hc
      · rename_i hf
        subst hf
        cases ns with
        | cons n ns => cases h3
        | nil =>
          obtain ⟨us, ws, e5, e6, e7, _⟩ := ih (whole_some hc) (show okAll V hp w [] [] from okAll_nil) (fun c hc => by cases hc)
          have hu : us = [] := (List.append_eq_nil_iff.1 e5.symm).1
          subst hu
          exact ⟨#[], congrArg (fun x => [x]) h1.1, e6⟩
      · cases hc
    · cases hc

theorem readAll_zone {fr : Bool} {t : Ty} {cs : List C} {d : t.den} {vs : List Value} (h : readAll lk t cs = some d) (ho : okAll V hp w cs vs) (hz : ∀ c ∈ cs, c.noOwn = true ∧ (fr = true → c.isFr = true)) : RdC (V.Z fr) w t vs d := by
  unfold readAll at h
  split at h
  · rename_i d' hr
    injection h with h; subst h
    obtain ⟨us, ws, rfl, h1, h2, _⟩ := readC_zone t hr ho hz
    have : ws = [] := by have := h2.1; simp at this; exact List.length_eq_zero_iff.1 this.symm
    rw [this, List.append_nil]
    exact h1
  · cases h

theorem readS_zone {fr : Bool} {t : Ty} {s : S} {d : t.den} {v : Value} (h : readS lk t s = some d) (ho : S.ok V hp w s v) (h1 : s.noOwn = true) (h2 : fr = true → s.isFr = true) : RdC (V.Z fr) w t v.cells.toList d := by
  unfold readS at h
  split at h
  · rename_i x
    split at h
    · cases h
    · have hone := C.oneCell ho
      have hc : v.cells = #[v] := by cases v <;> first | rfl | (simp [Value.oneCell'] at hone)
      rw [hc]
      exact readAll_zone h (okAll_cons_mk ho okAll_nil) (fun c hc => by simp at hc; subst hc; exact ⟨h1, h2⟩)
  · rename_i cs
    split at h
    · obtain ⟨vs, rfl, h3⟩ := ho
      refine readAll_zone h h3 (fun c hc => ⟨?_, fun hf => ?_⟩)
      · have h1' : lall C.noOwn cs = true := h1
        rw [lall_eq, List.all_eq_true] at h1'
        exact h1' c hc
      · have h2' : lall C.isFr cs = true := h2 hf
        rw [lall_eq, List.all_eq_true] at h2'
        exact h2' c hc
    · cases h
  · cases h

theorem expand_zone (fr : Bool) : ∀ (t : Ty) (d : t.den), ∀ c ∈ expand fr t d, c.noOwn = true ∧ (fr = true → c.isFr = true) := by
  intro t
  induction t with
  | int k => intro d c hc; simp [expand] at hc; subst hc; exact ⟨rfl, fun _ => rfl⟩
  | bool => intro d c hc; simp [expand] at hc; subst hc; exact ⟨rfl, fun _ => rfl⟩
  | str => intro d c hc; simp [expand] at hc; subst hc; exact ⟨rfl, fun _ => rfl⟩
  | sl e ih => intro d c hc; simp [expand] at hc; subst hc; exact ⟨rfl, fun h => h⟩
  | st t ih => exact fun d => ih d
  | pr a b iha ihb =>
    intro d c hc
    unfold expand at hc
    rw [lapp_eq, List.mem_append] at hc
    exact hc.elim (iha _ c) (ihb _ c)
  | ptr t ih => intro d c hc; simp [expand] at hc; subst hc; exact ⟨rfl, fun h => h⟩
  | clo f t ih => intro d c hc; simp [expand] at hc; subst hc; exact ⟨rfl, fun h => h⟩

/-- The literal's cells, part by part. -/
theorem seq_fill {fr : Bool} {e : Ty} : ∀ {ps : List (Nat × S)} {qs : List (Nat × Value)} {k : Nat} {xs : List e.den} {cells : Array Value}, seqParts lk e k ps = some xs → PartsOk V hp w ps qs →
    (∀ p ∈ ps, p.2.noOwn = true ∧ (fr = true → p.2.isFr = true)) → (k + ps.length) * e.size ≤ cells.size →
    ∃ cells', Instr.fill (fun i => some (i * e.size, e.size)) cells qs = some cells' ∧ cells'.size = cells.size ∧ (∀ j, j < k * e.size → cells'[j]? = cells[j]?) ∧ xs.length = ps.length ∧
      ∀ i (h : i < xs.length), ∃ es, es.length = e.size ∧ (∀ (j : Nat) u, es[j]? = some u → cells'[(k + i) * e.size + j]? = some u) ∧ RdC (V.Z fr) w e es xs[i]
  | [], [], k, xs, cells, h, _, _, _ => by
    simp only [seqParts, Option.some.injEq] at h; subst h
    exact ⟨cells, rfl, rfl, fun _ _ => rfl, rfl, fun i hi => by simp at hi⟩
  | (i, s) :: ps, (j, v) :: qs, k, xs, cells, h, hq, hz, hsz => by
    obtain ⟨h1, h2, h3⟩ := hq
    simp only at h1 h2
    subst h1
    unfold seqParts at h
    simp only at h
    split at h
    · rename_i hik
      subst hik
      split at h
      · rename_i x xs' hx hxs
        injection h with h; subst h
        obtain ⟨z1, z2⟩ := hz (i, s) (by simp)
        have hrd := readS_zone (fr := fr) hx h2 z1 z2
        have hlen := RdC.length hrd
        simp only [Array.length_toList] at hlen
        have hsz' : i * e.size + e.size ≤ cells.size := by
          have : (i + 1) * e.size ≤ (i + ((i, s) :: ps).length) * e.size := Nat.mul_le_mul_right _ (by simp)
          rw [Nat.add_mul, Nat.one_mul] at this
          omega
        rw [fill_step _ cells i (i * e.size) e.size v qs rfl hlen hsz']
        obtain ⟨cells', g1, g2, g3, g4, g5⟩ := seq_fill (fr := fr) (k := i + 1) hxs h3 (fun p hp' => hz p (by simp [hp'])) (cells := (cells.toList.take (i * e.size) ++ v.cells.toList ++ cells.toList.drop (i * e.size + e.size)).toArray) (by
          have hh : (cells.toList.take (i * e.size) ++ v.cells.toList ++ cells.toList.drop (i * e.size + e.size)).length = cells.size := by
            simp only [List.length_append, List.length_take, List.length_drop, Array.length_toList, hlen]; omega
          simp only [List.size_toArray, hh]
          rw [show i + 1 + ps.length = i + ((i, s) :: ps).length by simp; omega]
          exact hsz)
        have hsize : (cells.toList.take (i * e.size) ++ v.cells.toList ++ cells.toList.drop (i * e.size + e.size)).length = cells.size := by
          simp only [List.length_append, List.length_take, List.length_drop, Array.length_toList, hlen]; omega
        have htk : (cells.toList.take (i * e.size)).length = i * e.size := by rw [List.length_take, Array.length_toList]; omega
        refine ⟨cells', g1, by rw [g2]; simp only [List.size_toArray, hsize], fun j hj => ?_, by simp [g4], fun q hq' => ?_⟩
        · rw [g3 j (by rw [Nat.add_mul]; omega)]
          rw [List.getElem?_toArray, List.append_assoc, List.getElem?_append_left (by rw [htk]; exact hj), List.getElem?_take, if_pos hj]
          simp
        · cases q with
          | zero =>
            refine ⟨v.cells.toList, by simpa using hlen, fun j u hu => ?_, hrd⟩
            have hj := (List.getElem?_eq_some_iff.1 hu).1
            simp only [Array.length_toList, hlen] at hj
            rw [Nat.add_zero, g3 (i * e.size + j) (by rw [Nat.add_mul, Nat.one_mul]; omega)]
            rw [List.getElem?_toArray, List.append_assoc, List.getElem?_append_right (by rw [htk]; omega), htk, show i * e.size + j - i * e.size = j by omega, List.getElem?_append_left (by simp [hlen]; exact hj)]
            exact hu
          | succ q =>
            obtain ⟨es, k1, k2, k3⟩ := g5 q (by simpa using hq')
            refine ⟨es, k1, fun j u hu => ?_, k3⟩
            rw [show i + (q + 1) = i + 1 + q by omega]
            exact k2 j u hu
      · cases h
    · cases h
  | [], _ :: _, _, _, _, _, hq, _, _ => hq.elim
  | _ :: _, [], _, _, _, _, hq, _, _ => hq.elim

theorem zerosN_len (e : Ty) : ∀ n, (zerosN n e).length = n * e.size
  | 0 => by simp [zerosN]
  | n + 1 => by simp only [zerosN, List.length_append, zeros_len, zerosN_len e n, Nat.add_mul, Nat.one_mul]; omega

theorem zerosN_get (e : Ty) : ∀ (n i j : Nat), i < n → j < e.size → (zerosN n e)[i * e.size + j]? = e.zeros[j]?
  | 0, i, j, h, _ => by omega
  | n + 1, 0, j, _, hj => by
    rw [Nat.zero_mul, Nat.zero_add]
    simp only [zerosN]
    rw [List.getElem?_append_left (by rw [zeros_len]; exact hj)]
  | n + 1, i + 1, j, h, hj => by
    simp only [zerosN]
    rw [List.getElem?_append_right (by rw [zeros_len, Nat.add_mul, Nat.one_mul]; omega), zeros_len, show (i + 1) * e.size + j - e.size = i * e.size + j by rw [Nat.add_mul, Nat.one_mul]; omega]
    exact zerosN_get e n i j (by omega) hj

/-- An array of zeros. -/
theorem zeros_arr {e : Ty} (hp' : e.plain = true) (n : Nat) {Z : Nat → Prop} {w' : World} : ∀ i (h : i < (List.replicate n e.dflt).length), ∃ es, es.length = e.size ∧ (∀ (j : Nat) u, es[j]? = some u → (zerosN n e)[i * e.size + j]? = some u) ∧ RdC Z w' e es (List.replicate n e.dflt)[i] := by
  intro i h
  rw [List.length_replicate] at h
  refine ⟨e.zeros, zeros_len e, fun j u hu => ?_, ?_⟩
  · have hj := (List.getElem?_eq_some_iff.1 hu).1
    rw [zeros_len] at hj
    rw [zerosN_get e n i j h hj]; exact hu
  · rw [List.getElem_replicate]
    exact RdC.zero e hp'

theorem qbuildA_run (hT : TabOk P T) {t : TypeId} {len te es n : Nat} {ety : Ty} {sz by' : Nat} {z : List Value} {ty : Option Ty} {teq : Option (List Bool)} (heq : T t = some { k := .arr len te es n ety, size := sz, bytes := by', zero := z, ty := ty, eq := teq })
    {ps : List (Nat × S)} {qs : Array (Nat × Value)} {r : QR} (h : qbuildA len es n ety ps = some r) (hq : PartsOk V hp w ps qs.toList) : PureRun P V hp w r (Instr.build t qs) := by
  obtain ⟨⟨i, zv, g1, g2, g3, g4, g5, g6⟩, g7, g8⟩ := ti_ok (hT t _ heq)
  obtain ⟨a0, a1, ⟨i2, a2, a3⟩, a4, a5, a6, a7, a8⟩ := ti_arr (hT t _ heq) rfl
  simp only at a0 g5
  subst a0
  have hbuild : ∀ cells', Instr.fill (fun i => some (i * es, es)) (zerosN n ety).toArray qs.toList = some cells' → (Instr.build t qs).run P w = .ok (.agg cells') w := by
    intro cells' hf
    simp only [Instr.build, Sem.run_bind, run_zeroValue g1 g4, Result.andThen_ok, run_underlying a1, run_sizeOf a2, a3, g5, hf, Sem.run_pure]
  unfold qbuildA at h
  split at h
  · injection h with h; subst h
    have hq0 : qs.toList = [] := by
      cases hqs : qs.toList with
      | nil => rfl
      | cons q r => rw [hqs] at hq; exact hq.elim
    refine ⟨rfl, rfl, _, hbuild (zerosN n ety).toArray (by rw [hq0]; rfl), a4, _, rfl, by simp [zerosN_len], fun i hi => ?_⟩
    obtain ⟨es', k1, k2, k3⟩ := zeros_arr (Z := fun _ => False) (w' := w) a5 n i hi
    exact ⟨es', k1, fun j u hu => by simpa using k2 j u hu, k3⟩
  · split at h
    case isFalse => cases h
    case isTrue hc =>
    simp only [Bool.and_eq_true, decide_eq_true_eq, lall_eq, List.all_eq_true, llen_eq] at hc
    obtain ⟨⟨c1, c2⟩, c3⟩ := hc
    rw [omap_eq] at h
    cases hx : seqParts (fun _ => .dead) ety 0 ps with
    | none => rw [hx] at h; cases h
    | some xs =>
      rw [hx] at h
      simp only [Option.map_some, Option.some.injEq] at h
      subst h
      have hnl : n = len := by
        rw [c3] at a6
        exact Nat.eq_of_mul_eq_mul_right ety.size_pos a6
      obtain ⟨cells', k1, k2, k3, k4, k5⟩ := seq_fill (fr := false) (k := 0) (cells := (zerosN n ety).toArray) hx hq (fun p hp' => ⟨c1 p hp', fun hf => by cases hf⟩) (by simp [zerosN_len, c2, hnl])
      rw [← c3] at k1
      refine ⟨rfl, rfl, _, hbuild cells' k1, a4, cells', rfl, by rw [k2, k4, c2]; simp [zerosN_len, hnl], fun i hi => ?_⟩
      obtain ⟨es', p1, p2, p3⟩ := k5 i hi
      exact ⟨es', p1, fun j u hu => by have := p2 j u hu; rwa [Nat.zero_add] at this, p3.flat a4⟩

theorem qbuild_run (hT : TabOk P T) {t : TypeId} {ps : List (Nat × S)} {qs : Array (Nat × Value)} {r : QR} (h : qbuild T t ps = some r) (hq : PartsOk V hp w ps qs.toList) : PureRun P V hp w r (Instr.build t qs) := by
  unfold qbuild at h
  split at h
  · rename_i heq; exact qbuildS_run hT heq h hq
  · rename_i heq; exact qbuildA_run hT heq h hq
  · cases h

theorem qbuildSlice_run (hT : TabOk P T) {base : Nat} {M : LM} {w0 : World} (m : Mem base M w0 V hp w) {nx : Nat} (hd : hp nx = .dead) {t : TypeId} {n : Nat} {ps : List (Nat × S)} {qs : Array (Nat × Value)} {r : QR}
    (h : qbuildSlice T lk nx t n ps = some r) (hq : PartsOk V hp w ps qs.toList) : ∃ x w' V', (Instr.buildSlice t n qs).run P w = .ok x w' ∧ Good base M w0 V hp w nx r.res r.new r.hy x w' V' := by
  unfold qbuildSlice at h
  cases he : elemTy T t with
  | none => rw [he] at h; cases h
  | some e =>
    rw [he] at h
    simp only at h
    split at h
    · rename_i hc
      simp only [Bool.and_eq_true, decide_eq_true_eq, lall_eq, List.all_eq_true, llen_eq] at hc
      obtain ⟨⟨c1, c2⟩, c3⟩ := hc
      rw [omap_eq] at h
      cases hx : seqParts lk e 0 ps with
      | none => rw [hx] at h; cases h
      | some xs =>
        rw [hx] at h
        simp only [Option.map_some, Option.some.injEq] at h
        subst h
        obtain ⟨te, i, z, h2, h3, h4, h5, h6⟩ := elemTy_ok hT he
        generalize hfl : (e.flat || lall (fun p => p.2.isFr) ps) = fl
        have hzs : z.cells.size = e.size := by rw [h6]; simpa using zeros_len e
        generalize hz0 : (if n * e.size = 0 then (#[] : Array Value) else z.cells) = z0
        have hfill := seq_fill (fr := lall (fun p => p.2.isFr) ps) (k := 0) (cells := (Array.range (n * e.size)).map (z0[· % z0.size]!)) hx hq (fun p hp' => ⟨c1 p hp', fun hf => by rw [lall_eq, List.all_eq_true] at hf; exact hf p hp'⟩) (by simp [c2])
        obtain ⟨cells', g1, g2, g3, g4, g5⟩ := hfill
        simp only [Array.size_map, Array.size_range] at g2
        obtain ⟨V', hg⟩ := good_alloc m hd cells' te (.row fl e xs) (.c (.own nx)) (.slice (some ⟨w.heap.size, 0, none⟩) n n)
          (by
            intro hl
            cases fl with
            | true => exact hl
            | false => have hl' : e.flat = true := hl; rw [hl'] at hfl; cases hfl)
          (fun V' hp' w' x k1 k2 k3 k4 => by
            constructor
            · refine .inr ⟨k1, _, te, by rw [k2]; exact k4, ?_, fun j hj => ?_⟩
              · rw [g4, c2]
                have : n * 1 ≤ n * e.size := Nat.mul_le_mul_left _ e.size_pos
                unfold lenMax; omega
              · obtain ⟨es, q1, q2, q3⟩ := g5 j hj
                refine ⟨es, q1, fun a u hu => by have := q2 a u hu; rwa [Nat.zero_add] at this, ?_⟩
                cases hfe : e.flat with
                | true => exact q3.flat hfe
                | false =>
                  rw [hfe, Bool.false_or] at hfl
                  rw [← hfl]
                  exact x.rd q3
            · exact ⟨fl, e, xs, k3, .inr ⟨k1, n, _, te, by rw [k2, g4, c2], by rw [k2]; exact k4, g2, by rw [g4, c2]; exact Nat.le_refl _⟩⟩)
        refine ⟨_, _, V', ?_, hg⟩
        have hnb : ¬ (16777216 < n * e.size) := by omega
        simp only [Instr.buildSlice, Sem.run_bind, run_underlying h2, Result.andThen_ok, run_sizeOf h3, h4, Sem.run_ite]
        rw [if_neg (by omega)]
        simp only [Result.andThen_ok, Sem.run_pure, Sem.run_bind]
        by_cases hn : n * e.size = 0
        · rw [if_pos hn] at hz0
          rw [if_pos hn, hz0]
          simp only [Sem.run_pure, Result.andThen_ok, g1, newRow, Sem.run_bind, run_newObj_alloc]
        · rw [if_neg hn] at hz0
          rw [if_neg hn]
          simp only [run_zeroValue h3 h5, Result.andThen_ok, hz0, Sem.run_pure, g1, newRow, Sem.run_bind, run_newObj_alloc]
    · cases h

/-! ### What a call hands back -/

theorem fresh_len : ∀ {t : Ty} {Z : Nat → Prop} {cs : List Value} {d : t.den} {bs : List (Option Nat)} (nx : Nat), OwnC Z w t cs d bs → (fresh t d nx).2.length = bs.length := by
  intro t
  induction t with
  | int k => intro Z cs d bs nx h; rw [h.2]; rfl
  | bool => intro Z cs d bs nx h; rw [h.2]; rfl
  | str => intro Z cs d bs nx h; rw [h.2]; rfl
  | sl e ih =>
    intro Z cs d bs nx h
    rcases h with ⟨_, _, rfl⟩ | ⟨b, cap, vals, el, _, rfl, _⟩ <;> rfl
  | st t ih => exact fun nx h => ih nx h
  | pr a b iha ihb =>
    intro Z cs d bs nx h
    obtain ⟨c1, c2, b1, b2, rfl, rfl, h1, h2⟩ := h
    show (lapp _ _).length = _
    rw [lapp_eq, List.length_append, List.length_append, iha nx h1, ihb _ h2]
  | ptr t ih => intro Z cs d bs nx h; exact h.elim
  | clo f t ih => intro Z cs d bs nx h; exact h.elim

/-- New names that lie where a datum lies. -/
structure Lies (V : Vl) (hp : Nat → Ent) (Z : Nat → Prop) (nx : Nat) (es : List Ent) (bs : List (Option Nat)) : Prop where
  has : ∀ (j : Nat) b, bs[j]? = some b → (V.has (nx + j) ↔ b.isSome = true)
  blk : ∀ (j : Nat) b, bs[j]? = some (some b) → V.blk (nx + j) = b
  ent : ∀ (j : Nat) e, es[j]? = some e → hp (nx + j) = e
  zone : ∀ b, Z b → V.Z1 b

theorem Lies.left {Z : Nat → Prop} {nx : Nat} {e1 e2 : List Ent} {b1 b2 : List (Option Nat)} (h : Lies V hp Z nx (e1 ++ e2) (b1 ++ b2)) : Lies V hp Z nx e1 b1 where
  has j b hb := h.has j b (by rw [List.getElem?_append_left (List.getElem?_eq_some_iff.1 hb).1]; exact hb)
  blk j b hb := h.blk j b (by rw [List.getElem?_append_left (List.getElem?_eq_some_iff.1 hb).1]; exact hb)
  ent j e he := h.ent j e (by rw [List.getElem?_append_left (List.getElem?_eq_some_iff.1 he).1]; exact he)
  zone := h.zone

theorem Lies.right {Z : Nat → Prop} {nx : Nat} {e1 e2 : List Ent} {b1 b2 : List (Option Nat)} (hl : e1.length = b1.length) (h : Lies V hp Z nx (e1 ++ e2) (b1 ++ b2)) : Lies V hp Z (nx + e1.length) e2 b2 where
  has j b hb := by
    rw [Nat.add_assoc]
    exact h.has (e1.length + j) b (by rw [hl, List.getElem?_append_right (by omega)]; rw [show b1.length + j - b1.length = j by omega]; exact hb)
  blk j b hb := by
    rw [Nat.add_assoc]
    exact h.blk (e1.length + j) b (by rw [hl, List.getElem?_append_right (by omega)]; rw [show b1.length + j - b1.length = j by omega]; exact hb)
  ent j e he := by
    rw [Nat.add_assoc]
    exact h.ent (e1.length + j) e (by rw [List.getElem?_append_right (by omega)]; rw [show e1.length + j - e1.length = j by omega]; exact he)
  zone := h.zone

theorem fresh_ok {Z : Nat → Prop} : ∀ {t : Ty} {cs : List Value} {d : t.den} {bs : List (Option Nat)} {nx : Nat}, OwnC Z w t cs d bs → Lies V hp Z nx (fresh t d nx).2 bs →
    okAll V hp w (fresh t d nx).1 cs ∧ ∀ (j : Nat) e, (fresh t d nx).2[j]? = some e → e.ok V hp w (nx + j) := by
  intro t
  induction t with
  | int k => intro cs d bs nx h _; obtain ⟨⟨rfl, h1⟩, _⟩ := h; exact ⟨okAll_cons_mk ⟨rfl, h1⟩ okAll_nil, fun j e he => by simp [fresh] at he⟩
  | bool => intro cs d bs nx h _; obtain ⟨h1, _⟩ := h; rw [show cs = _ from h1]; exact ⟨okAll_cons_mk ⟨rfl, trivial⟩ okAll_nil, fun j e he => by simp [fresh] at he⟩
  | str => intro cs d bs nx h _; obtain ⟨⟨rfl, h1⟩, _⟩ := h; exact ⟨okAll_cons_mk ⟨rfl, h1⟩ okAll_nil, fun j e he => by simp [fresh] at he⟩
  | sl e ih =>
    intro cs d bs nx h hl
    have h0 : hp nx = .row true e d := hl.ent 0 _ rfl
    rcases h with ⟨rfl, rfl, rfl⟩ | ⟨b, cap, vals, el, rfl, rfl, h1, h2, h3, h4, h5⟩
    · have hh : ¬ V.has nx := fun h => by have := (hl.has 0 none rfl).1 h; cases this
      refine ⟨okAll_cons_mk ⟨true, e, [], h0, .inl ⟨hh, rfl, rfl⟩⟩ okAll_nil, fun j e' he => ?_⟩
      cases j with
      | zero => simp only [fresh, List.getElem?_cons_zero, Option.some.injEq] at he; subst he; exact .inl ⟨hh, rfl⟩
      | succ j => simp [fresh] at he
    · have hh : V.has nx := (hl.has 0 (some b) rfl).2 rfl
      have hb : V.blk nx = b := hl.blk 0 b rfl
      refine ⟨okAll_cons_mk ⟨true, e, d, h0, .inr ⟨hh, cap, vals, el, by rw [hb], by rw [hb]; exact h1, h2, h3⟩⟩ okAll_nil, fun j e' he => ?_⟩
      cases j with
      | zero =>
        simp only [fresh, List.getElem?_cons_zero, Option.some.injEq] at he; subst he
        refine .inr ⟨hh, vals, el, by rw [Nat.add_zero, hb]; exact h1, h4, fun i hi => ?_⟩
        obtain ⟨es, g1, g2, g3⟩ := h5 i hi
        exact ⟨es, g1, g2, g3.mono (fun b hb => .inl (hl.zone b hb)) (fun _ _ => rfl)⟩
      | succ j => simp [fresh] at he
  | st t ih => exact fun h hl => ih h hl
  | pr a b iha ihb =>
    intro cs d bs nx h hl
    obtain ⟨c1, c2, b1, b2, rfl, rfl, h1, h2⟩ := h
    have hlen := fresh_len nx h1
    have hl' : Lies V hp Z nx ((fresh a d.1 nx).2 ++ (fresh b d.2 (nx + (fresh a d.1 nx).2.length)).2) (b1 ++ b2) := by
      have := hl
      unfold fresh at this
      simp only [lapp_eq, llen_eq] at this
      exact this
    obtain ⟨g1, g2⟩ := iha h1 hl'.left
    obtain ⟨g3, g4⟩ := ihb h2 (hl'.right hlen)
    unfold fresh
    simp only [lapp_eq, llen_eq]
    refine ⟨okAll_append g1 g3, fun j e he => ?_⟩
    rcases Nat.lt_or_ge j (fresh a d.1 nx).2.length with hj | hj
    · rw [List.getElem?_append_left hj] at he
      exact g2 j e he
    · rw [List.getElem?_append_right hj] at he
      have := g4 _ e he
      rwa [show nx + (fresh a d.1 nx).2.length + (j - (fresh a d.1 nx).2.length) = nx + j by omega] at this
  | ptr t ih => intro cs d bs nx h _; exact h.elim
  | clo f t ih => intro cs d bs nx h _; exact h.elim

theorem freshTop_ok {Z : Nat → Prop} {t : Ty} {v : Value} {d : t.den} {bs : List (Option Nat)} {nx : Nat} (h : OwnTop Z w t v d bs) (hl : Lies V hp Z nx (freshTop t d nx).2 bs) :
    okTop V hp w (freshTop t d nx).1 v ∧ ∀ (j : Nat) e, (freshTop t d nx).2[j]? = some e → e.ok V hp w (nx + j) := by
  obtain ⟨cs, h1, h2⟩ := h
  obtain ⟨g1, g2⟩ := fresh_ok h2 hl
  refine ⟨?_, g2⟩
  unfold okTop freshTop
  unfold topV at h1
  simp only
  split
  · rename_i ht; rw [if_pos ht] at h1; exact ⟨_, h1, by simpa using g1⟩
  · rename_i ht; rw [if_neg ht] at h1; rw [← h1]; exact g1

theorem freshTups_len {Z : Nat → Prop} : ∀ {ts : List Ty} {vs : List Value} {d : Tup ts} {bs : List (Option Nat)} (nx : Nat), OwnVals Z w ts vs d bs → (freshTups ts d nx).2.length = bs.length
  | [], vs, d, bs, nx, h => by rw [h.2]; rfl
  | [t], vs, d, bs, nx, h => by obtain ⟨v, _, cs, _, h2⟩ := h; exact fresh_len nx h2
  | t :: u :: r, vs, d, bs, nx, h => by
    obtain ⟨v, vs', b1, b2, rfl, rfl, ⟨cs, _, h2⟩, h3⟩ := h
    show (lapp _ _).length = _
    rw [lapp_eq, List.length_append, List.length_append]
    have e1 : (freshTop t d.1 nx).2.length = b1.length := fresh_len nx h2
    rw [e1, freshTups_len _ h3]

theorem freshTups_ok {Z : Nat → Prop} : ∀ {ts : List Ty} {vs : List Value} {d : Tup ts} {bs : List (Option Nat)} {nx : Nat}, OwnVals Z w ts vs d bs → Lies V hp Z nx (freshTups ts d nx).2 bs →
    (freshTups ts d nx).1.length = vs.length ∧ (∀ (j : Nat) x v, (freshTups ts d nx).1[j]? = some x → vs[j]? = some v → okTop V hp w x v) ∧ ∀ (j : Nat) e, (freshTups ts d nx).2[j]? = some e → e.ok V hp w (nx + j)
  | [], vs, d, bs, nx, h, _ => by rw [h.1]; exact ⟨rfl, fun j x v hx => by simp [freshTups] at hx, fun j e he => by simp [freshTups] at he⟩
  | [t], vs, d, bs, nx, h, hl => by
    obtain ⟨v, rfl, h1⟩ := h
    obtain ⟨g1, g2⟩ := freshTop_ok h1 hl
    refine ⟨rfl, fun j x v' hx hv => ?_, g2⟩
    cases j with
    | zero => simp only [freshTups, List.getElem?_cons_zero, Option.some.injEq] at hx hv; subst hx; subst hv; exact g1
    | succ j => simp at hv
  | t :: u :: r, vs, d, bs, nx, h, hl => by
    obtain ⟨v, vs', b1, b2, rfl, rfl, h1, h3⟩ := h
    have e1 : (freshTop t d.1 nx).2.length = b1.length := by obtain ⟨cs, _, h2⟩ := h1; exact fresh_len nx h2
    have hl' : Lies V hp Z nx ((freshTop t d.1 nx).2 ++ (freshTups (u :: r) d.2 (nx + (freshTop t d.1 nx).2.length)).2) (b1 ++ b2) := by
      have := hl
      unfold freshTups at this
      simp only [lapp_eq, llen_eq] at this
      exact this
    obtain ⟨g1, g2⟩ := freshTop_ok h1 hl'.left
    obtain ⟨k1, k2, k3⟩ := freshTups_ok h3 (hl'.right e1)
    unfold freshTups
    simp only [lapp_eq, llen_eq]
    refine ⟨by simp [k1], fun j x v' hx hv => ?_, fun j e he => ?_⟩
    · cases j with
      | zero => simp only [List.getElem?_cons_zero, Option.some.injEq] at hx hv; subst hx; subst hv; exact g1
      | succ j => exact k2 j x v' (by simpa using hx) (by simpa using hv)
    · rcases Nat.lt_or_ge j (freshTop t d.1 nx).2.length with hj | hj
      · rw [List.getElem?_append_left hj] at he
        exact g2 j e he
      · rw [List.getElem?_append_right hj] at he
        have := k3 _ e he
        rwa [show nx + (freshTop t d.1 nx).2.length + (j - (freshTop t d.1 nx).2.length) = nx + j by omega] at this

theorem topS_ok {x : Bool × List C} {v : Value} (h : okTop V hp w x v) : S.ok V hp w (topS x) v := by
  unfold topS
  unfold okTop at h
  split
  · rename_i hx; rw [if_pos hx] at h; exact h
  · rename_i hx; rw [if_neg hx] at h
    split
    · rename_i c hc
      rw [hc] at h
      exact h.2 0 c v rfl rfl
    · trivial

theorem freshS_ok {Z : Nat → Prop} {ts : List Ty} {vs : List Value} {d : Tup ts} {bs : List (Option Nat)} {nx : Nat} (h : OwnVals Z w ts vs d bs) (hl : Lies V hp Z nx (freshS ts d nx).2 bs) :
    S.ok V hp w (freshS ts d nx).1 (oneOr vs) ∧ ∀ (j : Nat) e, (freshS ts d nx).2[j]? = some e → e.ok V hp w (nx + j) := by
  have e2 : (freshS ts d nx).2 = (freshTups ts d nx).2 := by unfold freshS; split <;> rename_i h <;> rw [h]
  rw [e2] at hl ⊢
  obtain ⟨g1, g2, g3⟩ := freshTups_ok h hl
  refine ⟨?_, g3⟩
  unfold freshS
  split
  · rename_i x es hx
    rw [hx] at g1 g2
    cases vs with
    | nil => simp at g1
    | cons v vs' =>
      have : vs' = [] := by simp at g1; exact g1
      subst this
      exact topS_ok (g2 0 x v rfl rfl)
  · rename_i xs es hno hx
    rw [hx] at g1 g2
    have hv : oneOr vs = .tuple vs.toArray := by
      unfold oneOr
      split
      · rename_i v
        cases xs with
        | nil => simp at g1
        | cons x xs' =>
          have : xs' = [] := by simp at g1; exact g1
          subst this
          exact (hno x rfl).elim
      · rfl
    rw [hv]
    exact ⟨vs.toArray, rfl, by simpa using g1, fun j x v hx' hv' => g2 j x v hx' (by simpa using hv')⟩

theorem freshS_len {Z : Nat → Prop} {ts : List Ty} {vs : List Value} {d : Tup ts} {bs : List (Option Nat)} (nx : Nat) (h : OwnVals Z w ts vs d bs) : (freshS ts d nx).2.length = bs.length := by
  have e2 : (freshS ts d nx).2 = (freshTups ts d nx).2 := by unfold freshS; split <;> rename_i h <;> rw [h]
  rw [e2]; exact freshTups_len nx h

theorem freshS_row (ts : List Ty) (d : Tup ts) (nx : Nat) : ∀ e ∈ (freshS ts d nx).2, ∀ cs, e ≠ .bx cs := by
  have e2 : (freshS ts d nx).2 = (freshTups ts d nx).2 := by unfold freshS; split <;> rename_i h <;> rw [h]
  rw [e2]; clear e2
  have one : ∀ (t : Ty) (d : t.den) (nx : Nat), ∀ e ∈ (fresh t d nx).2, ∀ cs, e ≠ .bx cs := by
    intro t
    induction t with
    | int k => intro d nx e he; simp [fresh] at he
    | bool => intro d nx e he; simp [fresh] at he
    | str => intro d nx e he; simp [fresh] at he
    | sl e ih => intro d nx e' he cs hc; simp [fresh] at he; rw [he] at hc; cases hc
    | st t ih => exact fun d nx e he => ih d nx e he
    | pr a b iha ihb =>
      intro d nx e he
      unfold fresh at he
      simp only [lapp_eq, List.mem_append] at he
      exact he.elim (iha _ _ e) (ihb _ _ e)
    | ptr t ih => intro d nx e he; simp [fresh] at he
    | clo f t ih => intro d nx e he; simp [fresh] at he
  induction ts generalizing nx with
  | nil => intro e he; simp [freshTups] at he
  | cons t r ih =>
    cases r with
    | nil => exact one t d nx
    | cons u r =>
      intro e he
      unfold freshTups at he
      simp only [lapp_eq, List.mem_append] at he
      exact he.elim (one t d.1 nx e) (ih d.2 _ e)

theorem own_wf {Z : Nat → Prop} : ∀ {t : Ty} {cs : List Value} {d : t.den} {bs : List (Option Nat)}, OwnC Z w t cs d bs → t.wf d := by
  intro t
  induction t with
  | int k => exact fun h => h.1.wf
  | bool => exact fun h => trivial
  | str => exact fun h => h.1.wf
  | sl e ih =>
    intro cs d bs h
    rcases h with ⟨_, rfl, _⟩ | ⟨b, cap, vals, el, _, _, _, _, _, h4, h5⟩
    · exact ⟨Nat.zero_le _, fun x hx => by simp at hx⟩
    · refine ⟨h4, fun x hx => ?_⟩
      obtain ⟨i, hi, rfl⟩ := List.getElem_of_mem hx
      obtain ⟨es, _, _, g3⟩ := h5 i hi
      exact g3.wf
  | st t ih => exact fun h => ih h
  | pr a b iha ihb => intro cs d bs h; obtain ⟨c1, c2, b1, b2, _, _, h1, h2⟩ := h; exact ⟨iha h1, ihb h2⟩
  | ptr t ih => intro cs d bs h; exact h.elim
  | clo f t ih => intro cs d bs h; exact h.elim

theorem ownVals_wf {Z : Nat → Prop} : ∀ {ts : List Ty} {vs : List Value} {d : Tup ts} {bs : List (Option Nat)}, OwnVals Z w ts vs d bs → tupWf ts d
  | [], _, _, _, _ => trivial
  | [t], _, _, _, h => by obtain ⟨v, _, cs, _, h2⟩ := h; exact own_wf h2
  | t :: u :: r, _, _, _, h => by obtain ⟨v, vs', b1, b2, _, _, ⟨cs, _, h2⟩, h3⟩ := h; exact ⟨own_wf h2, ownVals_wf h3⟩

theorem freshS_true (ts : List Ty) (d : Tup ts) (nx : Nat) : ∀ e ∈ (freshS ts d nx).2, ¬ e.lentish := by
  have e2 : (freshS ts d nx).2 = (freshTups ts d nx).2 := by unfold freshS; split <;> rename_i h <;> rw [h]
  rw [e2]; clear e2
  have one : ∀ (t : Ty) (d : t.den) (nx : Nat), ∀ e ∈ (fresh t d nx).2, ¬ e.lentish := by
    intro t
    induction t with
    | int k => intro d nx e he; simp [fresh] at he
    | bool => intro d nx e he; simp [fresh] at he
    | str => intro d nx e he; simp [fresh] at he
    | sl e ih => intro d nx e' he hc; simp [fresh] at he; rw [he] at hc; exact hc
    | st t ih => exact fun d nx e he => ih d nx e he
    | pr a b iha ihb =>
      intro d nx e he
      unfold fresh at he
      simp only [lapp_eq, List.mem_append] at he
      exact he.elim (iha _ _ e) (ihb _ _ e)
    | ptr t ih => intro d nx e he; simp [fresh] at he
    | clo f t ih => intro d nx e he; simp [fresh] at he
  induction ts generalizing nx with
  | nil => intro e he; simp [freshTups] at he
  | cons t ts ih =>
    cases ts with
    | nil => exact fun e he => one t d nx e he
    | cons u r =>
      intro e he
      have he' : e ∈ lapp (freshTop t d.1 nx).2 (freshTups (u :: r) d.2 (nx + llen (freshTop t d.1 nx).2)).2 := he
      rw [lapp_eq, List.mem_append] at he'
      exact he'.elim (one t d.1 nx e) (ih d.2 _ e)

/-- What a call leaves, in the caller's words. -/
theorem good_call {base : Nat} {M : LM} {w0 w' : World} (m : Mem base M w0 V hp w) {nx : Nat} {rs : List Ty} {d : Tup rs} {v : Value} (hr : ResOk w w' rs v d) (hd : ∀ j, j < (freshS rs d nx).2.length → hp (nx + j) = .dead) :
    ∃ V', Good base M w0 V hp w nx (freshS rs d nx).1 (freshS rs d nx).2 (hyOf rs d) v w' V' := by
  obtain ⟨⟨Z1, bs, vs, rfl, h1, h2, h3, h4⟩, hk⟩ := hr
  have hlen := freshS_len nx h1
  have x := VX.of_kept m hk (nx := nx) (es := (freshS rs d nx).2) (bs := bs) (Z := Z1) hlen.symm hd
  have hl : Lies (V.ext nx bs Z1) (hpNew hp nx (freshS rs d nx).2) Z1 nx (freshS rs d nx).2 bs := ⟨fun j b hb => Vl.ext_has_new hb, fun j b hb => Vl.ext_blk_new hb, fun j e he => hpNew_new he, fun b hb => .inr hb⟩
  obtain ⟨g1, g2⟩ := freshS_ok h1 hl
  refine ⟨_, ⟨m.grow hk hlen.symm hd h2 h3 h4 (fun j cs hj => ?_) (fun j e he => g2 j e he) (freshS_true rs d nx), x, g1, fun p hp' => ?_⟩⟩
  · exact (freshS_row rs d nx _ (List.mem_of_getElem? hj) cs rfl).elim
  · unfold hyOf at hp'
    split at hp'
    · injection hp' with hp'; subst hp'; exact ownVals_wf h1
    · cases hp'

end
end Go.SX
