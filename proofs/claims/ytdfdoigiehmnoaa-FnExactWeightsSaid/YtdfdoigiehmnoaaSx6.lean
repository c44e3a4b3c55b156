/- What the executor is told of the program's types, held against the program; how the operations on memory run. No condition. -/
import Derived.Test.YtdfdoigiehmnoaaSx5
import Derived.Laws.OwnMore
import Derived.Laws.CopyRow
import Derived.Laws.NewFold
namespace Go.SX
open Go.RowKit
set_option linter.unusedVariables false

def descAgg : TypeDesc → Bool
  | .struct _ | .array _ _ => true
  | _ => false

/-- Zero cells that are told apart. -/
def zb : Value → Value → Bool
  | .int k n, .int k' m => k == k' && n == 0 && m == 0
  | .bool a, .bool b => a == false && b == false
  | .string s, .string r => s.size == 0 && r.size == 0
  | .slice none 0 0, .slice none 0 0 => true
  | .pointer none, .pointer none => true
  | _, _ => false

theorem empty_of_size {s : ByteArray} (h : s.size = 0) : s = ByteArray.empty := by
  cases s with
  | mk d =>
    have h' : d.size = 0 := h
    have : d = #[] := Array.eq_empty_of_size_eq_zero h'
    subst this
    rfl

theorem zb_eq {u v : Value} (h : zb u v = true) : u = v := by
  unfold zb at h
  split at h
  · simp only [Bool.and_eq_true, beq_iff_eq] at h; rw [h.1.1, h.1.2, h.2]
  · simp only [Bool.and_eq_true, beq_iff_eq] at h; rw [h.1, h.2]
  · rename_i s r
    simp only [Bool.and_eq_true, beq_iff_eq] at h
    rw [empty_of_size h.1, empty_of_size h.2]
  · rfl
  · rfl
  · cases h

theorem wf_zero (k : IntKind) : k.min ≤ 0 ∧ 0 ≤ k.max := by cases k <;> decide

/-- What a zero cell is known to hold. -/
theorem zb_cell {u v : Value} (h : zb u v = true) (V : Vl) (hp : Nat → Ent) (w : World) : C.ok V hp w (cell v) v := by
  unfold zb at h
  split at h
  · simp only [Bool.and_eq_true, beq_iff_eq] at h
    rw [h.2]
    unfold cell
    simp only
    rw [if_pos (wf_zero _)]
    exact ⟨rfl, wf_zero _⟩
  · simp only [Bool.and_eq_true, beq_iff_eq] at h
    rw [h.2]
    exact rfl
  · rename_i s r
    simp only [Bool.and_eq_true, beq_iff_eq] at h
    have hs : r.size ≤ maxLen := by rw [h.2]; exact Nat.zero_le _
    unfold cell
    simp only
    rw [if_pos hs]
    exact ⟨rfl, hs⟩
  · exact ⟨rfl, rfl, rfl, rfl⟩
  · exact ⟨rfl, trivial⟩
  · cases h

def zbs : List Value → List Value → Bool
  | [], [] => true
  | u :: us, v :: vs => zb u v && zbs us vs
  | _, _ => false

theorem zbs_eq : ∀ {us vs : List Value}, zbs us vs = true → us = vs
  | [], [], _ => rfl
  | u :: us, v :: vs, h => by
    have h' : (zb u v && zbs us vs) = true := h
    simp only [Bool.and_eq_true] at h'
    rw [zb_eq h'.1, zbs_eq h'.2]
  | [], _ :: _, h => by cases h
  | _ :: _, [], h => by cases h

theorem zbs_cells (V : Vl) (hp : Nat → Ent) (w : World) : ∀ {us vs : List Value}, zbs us vs = true → okAll V hp w (lmap cell vs) vs
  | [], [], _ => okAll_nil
  | u :: us, v :: vs, h => by
    have h' : (zb u v && zbs us vs) = true := h
    simp only [Bool.and_eq_true] at h'
    exact okAll_cons_mk (zb_cell h'.1 V hp w) (zbs_cells V hp w h'.2)
  | [], _ :: _, h => by cases h
  | _ :: _, [], h => by cases h

def infoB (P : Program) (t : TypeId) (size bytes : Nat) (zero : List Value) : Bool :=
  match P.info? t with
  | some i => i.size == size && i.bytes == bytes && (match i.zero with | some z => zbs z.cells.toList zero | none => false)
  | none => false

def fieldsB (P : Program) : List Field → List (Nat × Nat × Bool) → Bool
  | [], [] => true
  | f :: fs, x :: xs =>
    f.offset == x.1 && x.2.1 != 0 && (match P.info? f.type with | some i => i.size == x.2.1 | none => false) &&
      (match P.underlying f.type with | some d => descAgg d == x.2.2 | none => false) && fieldsB P fs xs
  | _, _ => false

def kindB (P : Program) (t : TypeId) : TK → Bool
  | .int k => match P.underlying t with | some (.int k') => k' == k | _ => false
  | .bool => match P.underlying t with | some .bool => true | _ => false
  | .str => match P.underlying t with | some .string => true | _ => false
  | .sl e es eb ety => (match P.underlying t with | some (.slice e') => e' == e | _ => false) && es == ety.size && infoB P e es eb ety.zeros
  | .st fs => match P.underlying t with | some (.struct fields) => fieldsB P fields.toList fs | _ => false
  | .arr len te es n ety => (match P.underlying t with | some (.array len' te') => len' == len && te' == te | _ => false) && (match P.info? te with | some i => i.size == es | none => false) &&
      ety.flat && ety.plain && n * ety.size == len * es && es % ety.size == 0 && (n != 0 && Nat.ble n 16777216)
  | .sc => match P.underlying t with | some d => !descAgg d | _ => false

def eqFldB (P : Program) : Nat → List Field → List Bool → Bool
  | _, [], [] => true
  | o, f :: fs, b :: bs =>
    f.name != "_" && f.offset == o && (match P.underlying f.type with | some (.int _) => !b | some .bool => b | _ => false) && eqFldB P (o + 1) fs bs
  | _, _, _ => false

def eqB (P : Program) (t : TypeId) (ks : List Bool) : Bool :=
  match P.underlying t with
  | some (.struct fs) => !P.stoodInHeld t && !P.eqGuardType P.depth t && eqFldB P 0 fs.toList ks
  | _ => false

def zerosN : Nat → Ty → List Value
  | 0, _ => []
  | n + 1, e => e.zeros ++ zerosN n e

def tiB (P : Program) (t : TypeId) (ti : TI) : Bool := (match ti.k with | .arr _ _ _ n ety => zbs ti.zero (zerosN n ety) | _ => true) && (infoB P t ti.size ti.bytes ti.zero && ti.zero.length == ti.size && kindB P t ti.k && (match ti.eq with | some ks => eqB P t ks | none => true))

def tabOf : List (Nat × TI) → Tab
  | [], _ => none
  | (k, v) :: r, t => if k = t then some v else tabOf r t

def tabB (P : Program) : List (Nat × TI) → Bool
  | [] => true
  | p :: r => tiB P p.1 p.2 && tabB P r

def TabOk (P : Program) (T : Tab) : Prop := ∀ t ti, T t = some ti → tiB P t ti = true

theorem tabOk_of {P : Program} : ∀ {l : List (Nat × TI)}, tabB P l = true → TabOk P (tabOf l)
  | [], _ => fun _ _ h => by cases h
  | (k, v) :: r, h => by
    have h' : (tiB P k v && tabB P r) = true := h
    simp only [Bool.and_eq_true] at h'
    intro t ti ht
    unfold tabOf at ht
    split at ht
    · rename_i hk; injection ht with ht; subst hk; subst ht; exact h'.1
    · exact tabOk_of h'.2 t ti ht

section
variable {P : Program}

theorem infoB_ok {t : TypeId} {size bytes : Nat} {zero : List Value} (h : infoB P t size bytes zero = true) :
    ∃ i z, P.info? t = some i ∧ i.size = size ∧ i.bytes = bytes ∧ i.zero = some z ∧ z.cells = zero.toArray ∧ ∀ V hp w, okAll V hp w (lmap cell zero) zero := by
  unfold infoB at h
  split at h
  · rename_i i hi
    simp only [Bool.and_eq_true, beq_iff_eq] at h
    obtain ⟨⟨h1, h2⟩, h3⟩ := h
    split at h3
    · rename_i z hz
      exact ⟨i, z, hi, h1, h2, hz, by rw [← zbs_eq h3], fun V hp w => zbs_cells V hp w h3⟩
    · cases h3
  · cases h

theorem run_sizeOf {t : TypeId} {i : TypeInfo} (h : P.info? t = some i) (w : World) : (sizeOf t).run P w = .ok i.size w := by
  simp [sizeOf, typeInfo, h]

theorem run_zeroValue {t : TypeId} {i : TypeInfo} {z : Value} (h : P.info? t = some i) (hz : i.zero = some z) (w : World) : (zeroValue t).run P w = .ok z w := by
  simp [zeroValue, typeInfo, h, hz]

theorem run_isAgg {t : TypeId} {d : TypeDesc} (h : P.underlying t = some d) (w : World) : (isAgg t).run P w = .ok (descAgg d) w := by
  cases d <;> simp [isAgg, run_underlying h, descAgg]

/-- Is the type one of the table's a struct? -/
def TI.agg (ti : TI) : Bool := match ti.k with | .st _ => true | .arr .. => true | _ => false

theorem ti_ok {t : TypeId} {ti : TI} (h : tiB P t ti = true) :
    (∃ i z, P.info? t = some i ∧ i.size = ti.size ∧ i.bytes = ti.bytes ∧ i.zero = some z ∧ z.cells = ti.zero.toArray ∧ ∀ V hp w, okAll V hp w (lmap cell ti.zero) ti.zero) ∧ ti.zero.length = ti.size ∧ kindB P t ti.k = true := by
  unfold tiB at h
  simp only [Bool.and_eq_true, beq_iff_eq] at h
  exact ⟨infoB_ok h.2.1.1.1, h.2.1.1.2, h.2.1.2⟩

theorem ti_arr {t : TypeId} {ti : TI} (h : tiB P t ti = true) {len te es n : Nat} {ety : Ty} (hk : ti.k = .arr len te es n ety) :
    ti.zero = zerosN n ety ∧ P.underlying t = some (.array len te) ∧ (∃ i, P.info? te = some i ∧ i.size = es) ∧ ety.flat = true ∧ ety.plain = true ∧ n * ety.size = len * es ∧ es % ety.size = 0 ∧ n ≠ 0 ∧ n ≤ 16777216 := by
  have hk2 := (ti_ok h).2.2
  unfold tiB at h
  simp only [Bool.and_eq_true, hk] at h
  rw [hk] at hk2
  unfold kindB at hk2
  simp only [Bool.and_eq_true, beq_iff_eq, bne_iff_ne, ne_eq, Nat.ble_eq] at hk2
  obtain ⟨⟨⟨⟨⟨⟨a1, a2⟩, a3⟩, a4⟩, a5⟩, a6⟩, a7⟩ := hk2
  refine ⟨zbs_eq h.1, ?_, ?_, a3, a4, a5, a6, a7⟩
  · split at a1
    · rename_i l t' he
      simp only [Bool.and_eq_true, beq_iff_eq] at a1
      rw [he, a1.1, a1.2]
    · cases a1
  · split at a2
    · rename_i i he; exact ⟨i, he, by simpa using a2⟩
    · cases a2

theorem ti_eq {t : TypeId} {ti : TI} (h : tiB P t ti = true) {ks : List Bool} (hk : ti.eq = some ks) : eqB P t ks = true := by
  unfold tiB at h
  simp only [Bool.and_eq_true, hk] at h
  exact h.2.2

theorem ti_und {t : TypeId} {ti : TI} (h : tiB P t ti = true) : ∃ d, P.underlying t = some d ∧ descAgg d = ti.agg := by
  have hk := (ti_ok h).2.2
  unfold kindB at hk
  unfold TI.agg
  cases hti : ti.k with
  | int k => rw [hti] at hk; simp only at hk; split at hk <;> first | (rename_i d _; exact ⟨_, ‹_›, rfl⟩) | cases hk
  | bool => rw [hti] at hk; simp only at hk; split at hk <;> first | exact ⟨_, ‹_›, rfl⟩ | cases hk
  | str => rw [hti] at hk; simp only at hk; split at hk <;> first | exact ⟨_, ‹_›, rfl⟩ | cases hk
  | sl e es eb ety =>
    rw [hti] at hk; simp only [Bool.and_eq_true] at hk
    obtain ⟨⟨h1, _⟩, _⟩ := hk
    split at h1 <;> first | exact ⟨_, ‹_›, rfl⟩ | cases h1
  | st fs => rw [hti] at hk; simp only at hk; split at hk <;> first | exact ⟨_, ‹_›, rfl⟩ | cases hk
  | arr len te es n ety =>
    rw [hti] at hk; simp only [Bool.and_eq_true] at hk
    obtain ⟨⟨⟨⟨⟨⟨h1, _⟩, _⟩, _⟩, _⟩, _⟩, _⟩ := hk
    split at h1 <;> first | exact ⟨_, ‹_›, rfl⟩ | cases h1
  | sc =>
    rw [hti] at hk; simp only at hk
    split at hk
    · rename_i d hd; exact ⟨d, hd, by simpa using hk⟩
    · cases hk

theorem fieldsB_ok {fs : List Field} {xs : List (Nat × Nat × Bool)} (h : fieldsB P fs xs = true) : ∀ {i : Nat} {x : Nat × Nat × Bool}, xs[i]? = some x →
    ∃ f j d, fs[i]? = some f ∧ f.offset = x.1 ∧ x.2.1 ≠ 0 ∧ P.info? f.type = some j ∧ j.size = x.2.1 ∧ P.underlying f.type = some d ∧ descAgg d = x.2.2 := by
  induction fs generalizing xs with
  | nil => intro i x hx; cases xs with | nil => simp at hx | cons _ _ => cases h
  | cons f fs ih =>
    intro i x hx
    cases xs with
    | nil => cases h
    | cons y ys =>
      unfold fieldsB at h
      simp only [Bool.and_eq_true, beq_iff_eq, bne_iff_ne, ne_eq] at h
      obtain ⟨⟨⟨⟨h1, h2⟩, h3⟩, h4⟩, h5⟩ := h
      cases i with
      | zero =>
        simp only [List.getElem?_cons_zero, Option.some.injEq] at hx
        subst hx
        split at h3
        · rename_i j hj
          split at h4
          · rename_i d hd
            exact ⟨f, j, d, rfl, h1, h2, hj, by simpa using h3, hd, by simpa using h4⟩
          · cases h4
        · cases h3
      | succ i => exact ih h5 (by simpa using hx)

theorem slice_ok {t e : TypeId} {es eb : Nat} {ety : Ty} (h : kindB P t (.sl e es eb ety) = true) :
    P.underlying t = some (.slice e) ∧ es = ety.size ∧ ∃ i z, P.info? e = some i ∧ i.size = ety.size ∧ i.bytes = eb ∧ i.zero = some z ∧ z.cells = ety.zeros.toArray := by
  unfold kindB at h
  simp only [Bool.and_eq_true, beq_iff_eq] at h
  obtain ⟨⟨h1, h2⟩, h3⟩ := h
  split at h1
  · rename_i e' he
    simp only [beq_iff_eq] at h1
    subst h1
    obtain ⟨i, z, k1, k2, k3, k4, k5, _⟩ := infoB_ok h3
    exact ⟨he, h2, i, z, k1, k2.trans h2, k3, k4, k5⟩
  · cases h1

theorem struct_ok {t : TypeId} {fs : List (Nat × Nat × Bool)} (h : kindB P t (.st fs) = true) : ∃ fields, P.underlying t = some (.struct fields) ∧ fieldsB P fields.toList fs = true := by
  unfold kindB at h
  simp only at h
  split at h
  · exact ⟨_, ‹_›, h⟩
  · cases h

theorem int_ok {t : TypeId} {k : IntKind} (h : kindB P t (.int k) = true) : P.underlying t = some (.int k) := by
  unfold kindB at h
  simp only at h
  split at h
  · rename_i k' hk; simp only [beq_iff_eq] at h; subst h; exact hk
  · cases h

/-! ### Loads and stores -/

theorem add_mk (b o j : Nat) : (⟨b, o, none⟩ : Addr).add j = ⟨b, o + j, none⟩ := by
  unfold Addr.add; split
  · rename_i h; subst h; rfl
  · rfl

/-- A load of so many cells. -/
theorem run_loadAt {t : TypeId} {ti : TI} (h : tiB P t ti = true) (w : World) (b o : Nat) (vs : List Value) (hl : vs.length = ti.size) (hc : ∀ (j : Nat) v, vs[j]? = some v → w.cell? ⟨b, o + j, none⟩ = some v) :
    (ti.agg = true → (Instr.loadAt t (.pointer (some ⟨b, o, none⟩))).run P w = .ok (.agg vs.toArray) w) ∧
    (ti.agg = false → ∀ v, vs = [v] → (Instr.loadAt t (.pointer (some ⟨b, o, none⟩))).run P w = .ok v w) := by
  obtain ⟨⟨i, z, h1, h2, _⟩, _, _⟩ := ti_ok h
  obtain ⟨d, hd, ha⟩ := ti_und h
  have hs := run_sizeOf h1
  have hg := run_isAgg hd
  constructor
  · intro hagg
    rw [hagg] at ha
    have hld := run_loadCells_list (P := P) w ⟨b, o, none⟩ vs (fun j v hv => by rw [add_mk]; exact hc j v hv)
    rw [hl, ← h2] at hld
    simp [Instr.loadAt, Instr.sureAddr, loadVar, hg, ha, hs, hld]
  · intro hagg v hv
    rw [hagg] at ha
    have h0 := hc 0 v (by rw [hv]; rfl)
    simp only [Nat.add_zero] at h0
    simp [Instr.loadAt, Instr.sureAddr, loadVar, hg, ha, h0]

/-- A store of so many cells into one block. -/
theorem run_storeAt {t : TypeId} {ti : TI} (h : tiB P t ti = true) (w : World) (b o : Nat) (cur : Array Value) (el : TypeId) (x : Value) (hx : x.cells.size = ti.size) (hg : w.heap[b]? = some (.cells cur el (0, 0)))
    (hfit : o + x.cells.size ≤ cur.size) (h1 : ∀ v ∈ x.cells.toList, v.oneCell' = true) :
    (Instr.storeAt t (.pointer (some ⟨b, o, none⟩)) x).run P w = .ok () (w.setRow b (cur.toList.take o ++ x.cells.toList ++ cur.toList.drop (o + x.cells.toList.length)).toArray) := by
  obtain ⟨⟨i, z, h2, h3, _⟩, _, _⟩ := ti_ok h
  have hst := run_storeCells_at P b o el x.cells.toList 0 cur w hg (by simpa using hfit) h1
  simp only [Nat.add_zero] at hst
  have hne : ¬ (x.cells.size ≠ i.size) := by rw [hx, h3]; simp
  have hne' : x.cells.size = i.size := by rw [hx, h3]
  simp only [Instr.storeAt, Instr.sureAddr, storeVar, Sem.run_bind, Sem.run_pure, Result.andThen_ok, run_sizeOf h2, hne', ne_eq, not_true_eq_false, if_false]
  first
    | exact hst
    | (simp only [Sem.run_bind, Sem.run_pure, Result.andThen_ok]; exact hst)
    | (simp [hst])

end
end Go.SX
