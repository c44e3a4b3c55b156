/- Arithmetic and choices: the symbolic value is the run's. No condition. -/
import Derived.Test.YtdfdoigiehmnoaaSx7
namespace Go.SX
open Go.RowKit
set_option linter.unusedVariables false

theorem wrap_range (k : IntKind) (n : Int) : k.min ≤ k.wrap n ∧ k.wrap n ≤ k.max := by
  cases k <;> simp only [IntKind.wrap, IntKind.min, IntKind.max, IntKind.signed, IntKind.bits] <;> simp <;> (try split) <;> omega

section
variable {P : Program} {V : Vl} {hp : Nat → Ent} {w : World}

theorem ok_int {k : IntKind} {n : Int} {v : Value} (h : C.ok V hp w (.val (.int k n)) v) : v = .int k n ∧ k.min ≤ n ∧ n ≤ k.max := h
theorem ok_bool {b : Bool} {v : Value} (h : C.ok V hp w (.val (.bool b)) v) : v = .bool b := h.1
theorem ok_int_mk {k : IntKind} {n : Int} (h : k.min ≤ n ∧ n ≤ k.max) : C.ok V hp w (.val (.int k n)) (.int k n) := ⟨rfl, h⟩
theorem ok_bool_mk (b : Bool) : C.ok V hp w (.val (.bool b)) (.bool b) := ⟨rfl, trivial⟩

theorem tmod_range {k : IntKind} {a b : Int} (ha : k.min ≤ a ∧ a ≤ k.max) : k.min ≤ a.tmod b ∧ a.tmod b ≤ k.max := by
  have hmin : k.min ≤ 0 := (wf_zero k).1
  have hmax : 0 ≤ k.max := (wf_zero k).2
  rcases Int.le_total 0 a with h | h
  · have h1 := Int.tmod_nonneg b h
    have h2 : a.tmod b ≤ a := by
      have := Int.natAbs_tmod a b
      have h3 : (a.tmod b).natAbs ≤ a.natAbs := by rw [this]; exact Nat.mod_le _ _
      omega
    omega
  · have h2 : (a.tmod b).natAbs ≤ a.natAbs := by rw [Int.natAbs_tmod]; exact Nat.mod_le _ _
    have h1 : a.tmod b ≤ 0 := by
      have := Int.tmod_nonneg b (show 0 ≤ -a by omega)
      rw [Int.neg_tmod] at this
      omega
    omega

theorem run_eqGuard_int (op : BinOp) (t : TypeId) (x y : Operand) (k k' : IntKind) (a b : Int) : (eqGuard op t x y (.int k a) (.int k' b)).run P w = .ok () w := by
  unfold eqGuard
  simp only [Sem.run_ite]
  split <;> rfl

theorem beq_dec (a b : Int) : (a == b) = decide (a = b) := by rw [Bool.eq_iff_iff]; simp

theorem ibin_run {op : BinOp} {k : IntKind} {a b : Int} {p : Option Prop} {c : C} (h : ibin op k a b = some (p, c)) (hp' : ∀ q, p = some q → q) (ha : k.min ≤ a ∧ a ≤ k.max) (t : TypeId) :
    ∃ v, (binOp op t (.int k a) (.int k b)).run P w = .ok v w ∧ C.ok V hp w c v := by
  cases op <;> simp only [ibin, Option.some.injEq, Prod.mk.injEq, reduceCtorEq] at h <;> obtain ⟨rfl, rfl⟩ := h
  case add => exact ⟨_, by simp [binOp, Op.intArith], ok_int_mk (wrap_range _ _)⟩
  case sub => exact ⟨_, by simp [binOp, Op.intArith], ok_int_mk (wrap_range _ _)⟩
  case mul => exact ⟨_, by simp [binOp, Op.intArith], ok_int_mk (wrap_range _ _)⟩
  case quo => exact ⟨_, by simp [binOp, Op.intDiv, hp' _ rfl], ok_int_mk (wrap_range _ _)⟩
  case rem => exact ⟨_, by simp [binOp, Op.intDiv, hp' _ rfl], ok_int_mk (tmod_range ha)⟩
  case and => exact ⟨_, by simp [binOp, Op.intBits, iand], ok_int_mk (wrap_range _ _)⟩
  case or => exact ⟨_, by simp [binOp, Op.intBits, ior], ok_int_mk (wrap_range _ _)⟩
  case xor => exact ⟨_, by simp [binOp, Op.intBits, ixor], ok_int_mk (wrap_range _ _)⟩
  case eql => exact ⟨.bool (decide (a = b)), by simp [binOp, Op.intCmp, beq_dec], ok_bool_mk _⟩
  case neq => exact ⟨.bool (!decide (a = b)), by simp [binOp, Op.intCmp, bne, beq_dec], ok_bool_mk _⟩
  case lss => exact ⟨_, by simp [binOp, Op.intCmp], ok_bool_mk _⟩
  case leq => exact ⟨_, by simp [binOp, Op.intCmp], ok_bool_mk _⟩
  case gtr => exact ⟨_, by simp [binOp, Op.intCmp], ok_bool_mk _⟩
  case geq => exact ⟨_, by simp [binOp, Op.intCmp], ok_bool_mk _⟩

/-- What an operation on values alone comes to. -/
def PureRun (P : Program) (V : Vl) (hp : Nat → Ent) (w : World) (r : QR) (e : Sem Value) : Prop := r.new = [] ∧ r.hy = none ∧ ∃ v, e.run P w = .ok v w ∧ S.ok V hp w r.res v

theorem qbin_run {op : BinOp} {x y : C} {r : QR} {u v : Value} (h : qbin op x y = some r) (hob : ∀ p, r.ob = some p → p) (hx : C.ok V hp w x u) (hy : C.ok V hp w y v) (t : TypeId) (ox oy : Operand) :
    PureRun P V hp w r (do eqGuard op t ox oy u v; binOp op t u v) := by
  unfold qbin at h
  split at h
  · injection h with h; subst h
    obtain ⟨rfl, ha⟩ := ok_int hx
    obtain ⟨rfl, hb⟩ := ok_int hy
    have h0 := hob _ rfl
    rename_i k a k' n
    refine ⟨rfl, rfl, .int k (ishl k a n), ?_, ⟨rfl, wrap_range _ _⟩⟩
    simp [run_eqGuard_int, binOp, Op.shift, ishl, show ¬ (n < (0 : Int)) from by omega]
  · injection h with h; subst h
    obtain ⟨rfl, ha⟩ := ok_int hx
    obtain ⟨rfl, hb⟩ := ok_int hy
    have h0 := hob _ rfl
    rename_i k a k' n
    refine ⟨rfl, rfl, .int k (ishr k a n), ?_, ⟨rfl, ?_⟩⟩
    · simp [run_eqGuard_int, binOp, Op.shift, ishr, show ¬ (n < (0 : Int)) from by omega]
    · have hmin := (wf_zero k).1
      have hmax := (wf_zero k).2
      unfold ishr
      have hpos : (0 : Int) < 2 ^ min n.toNat k.bits := Int.pow_pos (by decide)
      generalize (2 : Int) ^ min n.toNat k.bits = d at hpos
      rw [Int.fdiv_eq_ediv_of_nonneg _ (by omega)]
      constructor
      · have h1 : k.min ≤ a := ha.1
        rcases Int.le_total 0 a with h | h
        · have := Int.ediv_nonneg h (show (0 : Int) ≤ d by omega); omega
        · have h2 : a ≤ a / d := by
            have h3 := Int.le_ediv_of_mul_le (a := a) (b := a) (c := d) hpos (by
              have : a * d ≤ a * 1 := Int.mul_le_mul_of_nonpos_left h (show (1 : Int) ≤ d by omega)
              omega)
            exact h3
          omega
      · rcases Int.le_total 0 a with h | h
        · have := Int.ediv_le_self d h; omega
        · have : a / d ≤ 0 := Int.ediv_le_of_le_mul hpos (by omega)
          omega
  · split at h
    · rename_i op' k a k' b hk
      subst hk
      split at h
      · rename_i p c hi
        injection h with h; subst h
        obtain ⟨rfl, ha⟩ := ok_int hx
        obtain ⟨rfl, hb⟩ := ok_int hy
        obtain ⟨v, h1, h2⟩ := ibin_run (P := P) (V := V) (hp := hp) (w := w) hi hob ha t
        exact ⟨rfl, rfl, v, by simp only [Sem.run_bind, run_eqGuard_int, Result.andThen_ok]; exact h1, h2⟩
      · cases h
    · cases h
  · cases h

theorem qun_run {op : UnOp} {x : C} {r : QR} {u : Value} (h : qun op x = some r) (hx : C.ok V hp w x u) : PureRun P V hp w r (Op.unary op u) := by
  unfold qun at h
  split at h <;> first | (cases h; done) | (injection h with h; subst h)
  · rw [ok_bool hx]; exact ⟨rfl, rfl, _, by unfold Op.unary; rfl, ⟨rfl, trivial⟩⟩
  · rw [show u = _ from hx]; exact ⟨rfl, rfl, .bool false, by simp [Op.unary], rfl⟩
  · rw [show u = _ from hx]; exact ⟨rfl, rfl, .bool true, by simp [Op.unary], rfl⟩
  · obtain ⟨rfl, ha⟩ := ok_int hx
    exact ⟨rfl, rfl, _, by unfold Op.unary Op.intArith; rfl, ⟨rfl, wrap_range _ _⟩⟩

theorem boolOf_ok {c : C} {b : Bool} {v : Value} (h : boolOf c = some b) (hc : C.ok V hp w c v) : v = .bool b := by
  unfold boolOf at h
  split at h <;> first | (injection h with h; subst h; first | exact hc.1 | exact hc) | cases h

theorem qpick_run {c a b s : S} {vc va vb : Value} (h : qpick c a b = some s) (hc : S.ok V hp w c vc) (ha : S.ok V hp w a va) (hb : S.ok V hp w b vb) :
    ∃ p, asBool vc = pure p ∧ S.ok V hp w s (if p then va else vb) := by
  unfold qpick at h
  split at h
  · injection h with h; subst h
    exact ⟨true, by rw [show vc = _ from hc]; rfl, by simpa using ha⟩
  · injection h with h; subst h
    exact ⟨false, by rw [show vc = _ from hc]; rfl, by simpa using hb⟩
  · split at h
    · rename_i p k x k' y hk
      subst hk
      injection h with h; subst h
      obtain ⟨e1, h1⟩ := ok_int (V := V) (hp := hp) (w := w) ha
      obtain ⟨e2, h2⟩ := ok_int (V := V) (hp := hp) (w := w) hb
      refine ⟨p, by rw [ok_bool (V := V) (hp := hp) (w := w) hc]; rfl, ?_⟩
      subst e1; subst e2
      cases p
      · exact ⟨rfl, h2⟩
      · exact ⟨rfl, h1⟩
    · cases h
  · rename_i p x y _
    split at h
    · rename_i a' b' h1 h2
      injection h with h; subst h
      refine ⟨p, by rw [ok_bool (V := V) (hp := hp) (w := w) hc]; rfl, ?_⟩
      have e1 := boolOf_ok (V := V) (hp := hp) (w := w) h1 ha
      have e2 := boolOf_ok (V := V) (hp := hp) (w := w) h2 hb
      subst e1; subst e2
      cases p
      · exact ⟨rfl, trivial⟩
      · exact ⟨rfl, trivial⟩
    · cases h
  · cases h
end
end Go.SX
