/- From a statement's arguments to data; from a contract to a statement. No condition. -/
import Derived.Test.YtdfdoigiehmnoaaSx26
import Derived.ProofKit
import Derived.OpenShut
import Derived.ChangeOld
import Derived.Below
import Derived.Carry
namespace Go.SX
open Go.RowKit Go.WideShapes Go.ChangeShapes
set_option linter.unusedVariables false
set_option linter.unusedSimpArgs false

def fldB (P : Program) (chk : Ty → TypeId → Bool) : Ty → List Field → Nat → Bool
  | .pr a b, f :: g :: r, o => f.offset == o && P.cellsOf f.type == a.size && chk a f.type && fldB P chk b (g :: r) (o + a.size)
  | t, [f], o => f.offset == o && P.cellsOf f.type == t.size && chk t f.type
  | _, _, _ => false

/-- Is type 't' of the program the type of data 'ty'? -/
def tyB (P : Program) : Nat → Ty → TypeId → Bool
  | 0, _, _ => false
  | n + 1, ty, t =>
    match ty, P.underlying t with
    | .int k, some (.int k') => decide (k' = k)
    | .bool, some .bool => true
    | .str, some .string => true
    | .sl e, some (.slice te) => P.cellsOf te == e.size && tyB P n e te
    | .st ty', some (.struct fs) => P.cellsOf t == ty'.size && fldB P (tyB P n) ty' fs.toList 0
    | _, _ => false

section
variable {H : Type} {enc : TypeId × Value → H} {P : Program} {w : World} {base : Nat} {spare : Nat → Bool} {held : Bool}

theorem lit_range {k : IntKind} {n : Int} (h : (Lit.int k n).wf = true) : k.min ≤ n ∧ n ≤ k.max := by
  simpa [Lit.wf] using h

theorem cells?_spec {a : Addr} {n : Nat} {cs : List Value} (h : w.cells? base a n = some cs) : cs.length = n ∧ ∀ j, j < n → w.cell? (a.add j) = cs[j]? := by
  unfold World.cells? at h
  split at h
  · exact ⟨by simpa using mapM_some_length h, fun j hj => mapM_some_get h j j (by simp [hj])⟩
  · cases h

theorem add_none (b off n : Nat) : (Addr.mk b off none).add n = ⟨b, off + n, none⟩ := by
  unfold Addr.add
  split
  · rename_i h; subst h; rfl
  · rfl

/-- What the arguments' reading reads, as data. -/
theorem trod_rd : ∀ (m : Nat) (ty : Ty) (t : TypeId) (fuel : Nat) (cs : List Value) (x : DataW H × List MemPlace), tyB P m ty t = true → DataW.trod enc P w base spare held fuel t cs = some x → ∃ d, RdC anyZ w ty cs d := by
  intro m
  induction m with
  | zero => intro ty t fuel cs x h; cases h
  | succ m ih =>
    intro ty t fuel cs x h hx
    unfold tyB at h
    split at h
    · rename_i k k' hu
      have := of_decide_eq_true h
      subst this
      obtain ⟨n, rfl, _, hw⟩ := DataW.trod_int hu hx
      exact ⟨n, rfl, lit_range hw⟩
    · rename_i hu
      obtain ⟨b, rfl, _⟩ := DataW.trod_bool hu hx
      exact ⟨b, rfl⟩
    · rename_i hu
      obtain ⟨s, rfl, _, hs⟩ := DataW.trod_string hu hx
      exact ⟨s, rfl, hs⟩
    · rename_i e te hu
      simp only [Bool.and_eq_true, beq_iff_eq] at h
      obtain ⟨hc, he⟩ := h
      rcases DataW.trod_slice hu hx with ⟨rfl, _⟩ | ⟨a, len, cap, elems, rest, n, _, rfl, _, _, h2, h3, h4, h5, _, _⟩
      · exact ⟨[], none, 0, rfl, Nat.le_refl _, Nat.zero_le _, fun i hi => by simp at hi⟩
      · have each : ∀ i, i < len → ∃ es d, w.cells? base (a.add (i * P.cellsOf te)) (P.cellsOf te) = some es ∧ RdC anyZ w e es d := by
          intro i hi
          have := h5 i hi
          rw [List.getElem?_eq_getElem (by omega)] at this
          obtain ⟨es, k1, k2⟩ := Option.bind_eq_some_iff.1 this
          obtain ⟨d, hd⟩ := ih e te n es _ he k2
          exact ⟨es, d, k1, hd⟩
        have list : ∀ l, l ≤ len → ∃ xs : List e.den, xs.length = l ∧ ∀ i (hi : i < xs.length), ∃ es, w.cells? base (a.add (i * P.cellsOf te)) (P.cellsOf te) = some es ∧ RdC anyZ w e es xs[i] := by
          intro l
          induction l with
          | zero => intro _; exact ⟨[], rfl, fun i hi => by simp at hi⟩
          | succ l ihl =>
            intro hl
            obtain ⟨xs, k1, k2⟩ := ihl (by omega)
            obtain ⟨es, d, k3, k4⟩ := each l (by omega)
            refine ⟨xs ++ [d], by simp [k1], fun i hi => ?_⟩
            rcases Nat.lt_or_ge i xs.length with hi' | hi'
            · rw [List.getElem_append_left hi']; exact k2 i hi'
            · have : i = l := by simp at hi; omega
              subst this
              rw [List.getElem_append_right hi']
              simp only [k1, Nat.sub_self, List.getElem_cons_zero]
              exact ⟨es, k3, k4⟩
        obtain ⟨xs, k1, k2⟩ := list len (Nat.le_refl _)
        refine ⟨xs, some a, cap, by rw [k1], by omega, by unfold lenMax; unfold maxLen at h3; omega, fun i hi => ?_⟩
        obtain ⟨es, k3, k4⟩ := k2 i hi
        obtain ⟨k5, k6⟩ := cells?_spec k3
        have hp := e.size_pos
        have hsp : a.spot = none := by
          obtain ⟨es0, k30, _⟩ := k2 0 (by omega)
          obtain ⟨k50, k60⟩ := cells?_spec k30
          have h0 := k60 0 (by omega)
          rw [List.getElem?_eq_getElem (by omega)] at h0
          simpa [Addr.add] using World.cell?_spot h0
        refine ⟨a, rfl, hsp, trivial, es, by omega, fun j hj => ?_, k4⟩
        have := k6 j (by omega)
        rw [List.getElem?_eq_getElem hj] at this
        obtain ⟨b, off, spot⟩ := a
        simp only at hsp
        subst hsp
        rw [← this]
        rw [add_none, add_none, hc]
    · rename_i ty' fs hu
      simp only [Bool.and_eq_true, beq_iff_eq] at h
      obtain ⟨hc, hf⟩ := h
      obtain ⟨xs, n, _, _, hl, hxs, hfld⟩ := DataW.trod_struct hu hx
      rw [hc] at hl
      have key : ∀ (fl : List Field) (ty : Ty) (o : Nat), fldB P (tyB P m) ty fl o = true → o + ty.size ≤ cs.length →
          (∀ f ∈ fl, ∃ y, DataW.trod enc P w base spare held n f.type ((cs.drop f.offset).take (P.cellsOf f.type)) = some y) → ∃ d, RdC anyZ w ty ((cs.drop o).take ty.size) d := by
        intro fl
        induction fl with
        | nil => intro ty o h; unfold fldB at h; split at h <;> first | cases h | (rename_i h0; cases h0) | (rename_i h0 _; cases h0)
        | cons f fl ihf =>
          intro ty o h ho hy
          have one : ∀ {ty : Ty}, (f.offset == o && P.cellsOf f.type == ty.size && tyB P m ty f.type) = true → ∃ d, RdC anyZ w ty ((cs.drop o).take ty.size) d := by
            intro ty h
            simp only [Bool.and_eq_true, beq_iff_eq] at h
            obtain ⟨⟨h1, h2⟩, h3⟩ := h
            obtain ⟨y, hy⟩ := hy f (List.mem_cons_self ..)
            rw [h1, h2] at hy
            exact ih ty f.type n _ y h3 hy
          cases fl with
          | nil => exact one (by cases ty <;> exact h)
          | cons g r =>
            cases ty with
            | pr a b =>
              have h' : (f.offset == o && P.cellsOf f.type == a.size && tyB P m a f.type && fldB P (tyB P m) b (g :: r) (o + a.size)) = true := h
              rw [Bool.and_eq_true] at h'
              obtain ⟨h1, h2⟩ := h'
              have hsz : (Ty.pr a b).size = a.size + b.size := rfl
              obtain ⟨d1, k1⟩ := one h1
              obtain ⟨d2, k2⟩ := ihf b (o + a.size) h2 (by rw [hsz] at ho; omega) (fun f' hf' => hy f' (List.mem_cons_of_mem _ hf'))
              refine ⟨(d1, d2), _, _, ?_, k1, k2⟩
              rw [hsz, ← List.drop_drop, List.take_add]
            | _ => cases h
      obtain ⟨d, hd⟩ := key fs.toList ty' 0 hf (by omega) (fun f hf => by
        obtain ⟨i, hi, rfl⟩ := List.getElem_of_mem hf
        have hi' : i < fs.size := by simpa using hi
        have := hfld i (fs[i]) (Array.getElem?_eq_getElem hi')
        rw [List.getElem?_eq_getElem (by omega)] at this
        exact ⟨_, by simpa using this⟩)
      rw [List.drop_zero, ← hl, List.take_length] at hd
      exact ⟨d, hd⟩
    · cases h

/-- One argument. -/
theorem rd_arg {m : Nat} {ty : Ty} {t : TypeId} {v : Value} {d : DataW H} {ps : List MemPlace} {r : Reach} {b0 : Nat} (h : tyB P m ty t = true) (hv : Value.okWide P w r b0 t v) (hd : DataW.Trod enc P w base spare held t v d ps) :
    ∃ x, RdTop anyZ w ty v x := by
  obtain ⟨fuel, hf⟩ := hd
  obtain ⟨x, hx⟩ := trod_rd m ty t fuel _ _ h hf
  refine ⟨x, v.cells.toList, ?_, hx⟩
  unfold topV
  cases m with
  | zero => cases h
  | succ m =>
    unfold tyB at h
    split at h
    · rename_i k k' hu
      obtain ⟨n, rfl⟩ := okWide_int hu hv
      rfl
    · rename_i hu
      obtain ⟨n, rfl⟩ := okWide_bool hu hv
      rfl
    · rename_i hu
      obtain ⟨n, rfl⟩ := okWide_string hu hv
      rfl
    · rename_i e te hu
      obtain ⟨a, len, cap, rfl⟩ := okWide_slice hu hv
      rfl
    · rename_i ty' fs hu
      obtain ⟨cs, rfl, _⟩ := okWide_struct hu hv
      rfl
    · cases h

theorem below_of_kept {W W' : World} (h : Kept W.heap.size noM W W') : Below W.heap.size W W' :=
  ⟨h.os, h.tape, h.output, h.size, fun k hk => h.block k hk (fun h => h)⟩

/-- A law's contract: true, whatever the arguments. -/
def lawC (ts : List Ty) : PC := { ts := ts, rs := [.bool], pre := fun _ => True, F := fun _ => true }

theorem law_calls {f : FuncId} {ts : List Ty} (h : PureC P f (lawC ts)) {W : World} {args : List Value} {d : Tup ts} (ha : RdArgs anyZ W ts args d) :
    Calls P f args.toArray W fun e W' => e = .returned (.bool true) ∧ Below W.heap.size W W' :=
  (h W args d ha trivial).mono fun e W' hr => by
    obtain ⟨v, rfl, ⟨⟨Z1, bs, vs, rfl, hv, _⟩, hk⟩⟩ := hr
    obtain ⟨u, rfl, cs, h1, h2, h3⟩ := hv
    have h1' : cs = [u] := h1
    have h2' : cs = [.bool true] := h2
    rw [h1'] at h2'
    injection h2' with h2' _
    exact ⟨by rw [h2']; rfl, below_of_kept hk⟩
end
end Go.SX
