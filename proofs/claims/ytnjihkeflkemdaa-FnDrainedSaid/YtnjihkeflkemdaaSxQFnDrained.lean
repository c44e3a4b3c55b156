/- FnDrained: the functions keep their contracts. No condition. -/
import Derived.Test.YtnjihkeflkemdaaSxPCode
import Derived.Test.YtnjihkeflkemdaaSxPDrawQ
import Derived.Test.YtnjihkeflkemdaaSxPRingD
import Derived.Test.YtnjihkeflkemdaaSxPBase
import Derived.Test.YtnjihkeflkemdaaSxPLine
import Derived.Test.YtnjihkeflkemdaaSxPRing
import Derived.Test.YtnjihkeflkemdaaSxPLine2
import Derived.Test.YtnjihkeflkemdaaSxPRingT
import Derived.Test.YtnjihkeflkemdaaSxPLine3
import Derived.Test.YtnjihkeflkemdaaSxPRingW
import Derived.Test.YtnjihkeflkemdaaSxPServed
import Derived.Test.YtnjihkeflkemdaaSxPRingB
import Derived.Test.YtnjihkeflkemdaaSxPFnDrained
import Derived.Shelf.RegionOpenPlain
import Derived.WalkKit
import Derived.Deep.LoopGhost
import Derived.Deep.RegionLaw
import Derived.Lib.Walk
import Derived.Test.YtnjihkeflkemdaaSxTab
import Derived.Test.YtnjihkeflkemdaaChecked
import Derived.KernelRfl
namespace Go.SF
open Go.SX Go.Proofs
set_option maxRecDepth 100000
set_option linter.unusedVariables false
theorem rules0 {P : Program} : RulesOk P R0 := fun f r h _ => by cases h
theorem gam_nil {P : Program} : GamOk P (gOf []) := fun f c h => by cases h
theorem gam_cons {P : Program} {k : Nat} {c : PC} {r : List (Nat × PC)} (h : PureC P k c ∧ CallOk P k) (hr : GamOk P (gOf r)) : GamOk P (gOf ((k, c) :: r)) := by
  intro f c' h'
  unfold gOf at h'
  split at h'
  · rename_i e
    injection h' with h'
    subst h'; subst e
    exact h
  · exact hr f c' h'
theorem rul_nil {P : Program} : RulesOk P (rOf []) := fun f c h _ => by cases h
theorem rul_cons {P : Program} {k : Nat} {c : Rule} {r : List (Nat × Rule)} (h : RuleOk P k c ∧ CallOk P k) (hr : RulesOk P (rOf r)) : RulesOk P (rOf ((k, c) :: r)) := by
  intro f c' h' hne
  unfold rOf at h'
  split at h'
  · rename_i e
    injection h' with h'
    subst h'; subst e
    exact h
  · exact hr f c' h' hne
theorem rul_tell {P : Program} {r : List (Nat × Rule)} (hr : RulesOk P (rOf r)) : RulesOk P (rOf ((1000000, tellR) :: r)) := by
  intro f c' h' hne
  unfold rOf at h'
  split at h'
  · rename_i e
    exact absurd e hne
  · exact hr f c' h' hne
theorem tabOk : TabOk Try.prog tab := tabOk_of (by kernel_rfl)
theorem mixed : Try.prog.follows .mixedOrders = true := by kernel_rfl
theorem mk {Γ : FuncId → Option PC} {f : FuncId} {fn : Func} {c : PC} {A : Tup c.ts → Nat → Option Ann} {R : FuncId → Option Rule} (hΓ : GamOk Try.prog Γ) (hR : RulesOk Try.prog R) (hf : Try.prog.funcs[f]? = some fn) (h1 : (fn.name == "runtime.NumGoroutine") = false) (h2 : fn.body.isNone = false)
    (h : vcFunc tab Γ R fn c A) : PureC Try.prog f c ∧ CallOk Try.prog f := ⟨vcFunc_pure mixed tabOk hΓ hR hf h, fn, hf, h1, h2⟩
theorem mkM {Γ : FuncId → Option PC} {R : FuncId → Option Rule} {f : FuncId} {fn : Func} {c : MC} {A : c.t.den → Int → Nat → Option Ann} (hΓ : GamOk Try.prog Γ) (hR : RulesOk Try.prog R) (hf : Try.prog.funcs[f]? = some fn) (h1 : (fn.name == "runtime.NumGoroutine") = false) (h2 : fn.body.isNone = false)
    (hl : c.t.lendable = true) (h : vcMut tab Γ R fn c A) : RuleOk Try.prog f (ruleOf c) ∧ CallOk Try.prog f := ⟨vcMut_rule mixed tabOk hΓ hR hf hl h, fn, hf, h1, h2⟩
theorem mkTree {Γ : FuncId → Option PC} {R : FuncId → Option Rule} {f : FuncId} {fn : Func} {c : TC} {A : Tup c.ts → Nat → Option Ann} (hΓ : GamOk Try.prog Γ) (hR : RulesOk Try.prog R) (hf : Try.prog.funcs[f]? = some fn) (h1 : (fn.name == "runtime.NumGoroutine") = false) (h2 : fn.body.isNone = false)
    (h : vcTree tab Γ R fn c A) : TreeOk Try.prog f c ∧ CallOk Try.prog f := ⟨vcTree_ok mixed tabOk hΓ hR hf h, fn, hf, h1, h2⟩
theorem mkMark {Γ : FuncId → Option PC} {R : FuncId → Option Rule} {f : FuncId} {fn : Func} {c : MT} {A : c.t.den → Int → Nat → Option Ann} (hΓ : GamOk Try.prog Γ) (hR : RulesOk Try.prog R) (hf : Try.prog.funcs[f]? = some fn) (h1 : (fn.name == "runtime.NumGoroutine") = false) (h2 : fn.body.isNone = false)
    (hl : c.t.lendBy Ty.gcl = true) (h : vcMutT tab Γ R fn c A) : RuleOk Try.prog f (markRule c) ∧ CallOk Try.prog f := ⟨mark_rule mixed tabOk hΓ hR hf hl h, fn, hf, h1, h2⟩
theorem mkCut {Γ : FuncId → Option PC} {R : FuncId → Option Rule} {f : FuncId} {fn : Func} {c : CC} {A : List c.e.den → Nat → Option Ann} (hΓ : GamOk Try.prog Γ) (hR : RulesOk Try.prog R) (hf : Try.prog.funcs[f]? = some fn) (h1 : (fn.name == "runtime.NumGoroutine") = false) (h2 : fn.body.isNone = false)
    (hl : c.e.flat = true) (h : vcCut tab Γ R fn c A) : RuleOk Try.prog f (cutRule c) ∧ CallOk Try.prog f := ⟨vcCut_rule mixed tabOk hΓ hR hf hl h, fn, hf, h1, h2⟩
theorem mkBox {Γ : FuncId → Option PC} {R : FuncId → Option Rule} {f : FuncId} {fn : Func} {c : BC} {A : c.t.den → Tup c.ts → Nat → Option Ann} (hΓ : GamOk Try.prog Γ) (hR : RulesOk Try.prog R) (hf : Try.prog.funcs[f]? = some fn) (h1 : (fn.name == "runtime.NumGoroutine") = false) (h2 : fn.body.isNone = false)
    (h : vcBox tab Γ R fn c A) : RuleOk Try.prog f (boxRule c) ∧ CallOk Try.prog f := ⟨vcBox_rule mixed tabOk hΓ hR hf h, fn, hf, h1, h2⟩
theorem mkNew {Γ : FuncId → Option PC} {R : FuncId → Option Rule} {f : FuncId} {fn : Func} {c : NC} {A : Tup c.ts → Nat → Option Ann} (hΓ : GamOk Try.prog Γ) (hR : RulesOk Try.prog R) (hf : Try.prog.funcs[f]? = some fn) (h1 : (fn.name == "runtime.NumGoroutine") = false) (h2 : fn.body.isNone = false)
    (h : vcNew tab Γ R fn c A) : RuleOk Try.prog f (newRule c) ∧ CallOk Try.prog f := ⟨vcNew_rule mixed tabOk hΓ hR hf h, fn, hf, h1, h2⟩
theorem link {p q : Prop} (h : p = q) (hp : p) : q := h ▸ hp
theorem mkRef {Γ : FuncId → Option PC} {R : FuncId → Option Rule} {f : FuncId} {fn : Func} {c : RC} {A : c.t.den → Nat → Option Ann} (hΓ : GamOk Try.prog Γ) (hR : RulesOk Try.prog R) (hf : Try.prog.funcs[f]? = some fn) (h1 : (fn.name == "runtime.NumGoroutine") = false) (h2 : fn.body.isNone = false)
    (hl : c.t.lendBy Ty.gcl = true) (h : vcRef tab Γ R fn c A) : RuleOk Try.prog f (refRule c) ∧ CallOk Try.prog f := ⟨ref_rule mixed tabOk hΓ hR hf hl h, fn, hf, h1, h2⟩
theorem mkQ {Γ : FuncId → Option PC} {R : FuncId → Option Rule} {f : FuncId} {fn : Func} {c : QC} {A : Tup c.ts → Nat → Option Ann} (hΓ : GamOk Try.prog Γ) (hR : RulesOk Try.prog R) (hf : Try.prog.funcs[f]? = some fn) (h1 : (fn.name == "runtime.NumGoroutine") = false) (h2 : fn.body.isNone = false)
    (h : vcQ tab Γ R fn c A) : RuleOk Try.prog f (qRule c) ∧ CallOk Try.prog f := ⟨q_rule (vcQ_ok mixed tabOk hΓ hR hf h), fn, hf, h1, h2⟩
theorem mkQB {Γ : FuncId → Option PC} {R : FuncId → Option Rule} {f : FuncId} {fn : Func} {c : QB} {A : c.t.den → Tup c.ts → Nat → Option Ann} (hΓ : GamOk Try.prog Γ) (hR : RulesOk Try.prog R) (hf : Try.prog.funcs[f]? = some fn) (h1 : (fn.name == "runtime.NumGoroutine") = false) (h2 : fn.body.isNone = false)
    (h : vcQB tab Γ R fn c A) : RuleOk Try.prog f (qbRule c) ∧ CallOk Try.prog f := ⟨qb_rule mixed tabOk hΓ hR hf h, fn, hf, h1, h2⟩
theorem mkQN {Γ : FuncId → Option PC} {R : FuncId → Option Rule} {f : FuncId} {fn : Func} {c : QN} {A : Tup c.ts → Nat → Option Ann} (hΓ : GamOk Try.prog Γ) (hR : RulesOk Try.prog R) (hf : Try.prog.funcs[f]? = some fn) (h1 : (fn.name == "runtime.NumGoroutine") = false) (h2 : fn.body.isNone = false)
    (h : vcQN tab Γ R fn c A) : RuleOk Try.prog f (qnRule c) ∧ CallOk Try.prog f := ⟨qn_rule mixed tabOk hΓ hR hf h, fn, hf, h1, h2⟩
theorem q_L_big : PureC Try.prog 29 fL_bigC ∧ CallOk Try.prog 29 :=
  mk (A := noA) gam_nil rules0 Try.func29 (by kernel_rfl) (by kernel_rfl) (by exact @link _ (vcFunc tab (gOf []) R0 Try.f29 fL_bigC noA) (by kernel_rfl) v_L_big)
theorem q_S_l01NewQ : RuleOk Try.prog 83 (qnRule fS_l01NewQC) ∧ CallOk Try.prog 83 :=
  mkQN (A := aS_l01NewQ) gam_nil rules0 Try.func83 (by kernel_rfl) (by kernel_rfl) (by exact @link _ (vcQN tab (gOf []) R0 Try.f83 fS_l01NewQC aS_l01NewQ) (by kernel_rfl) v_S_l01NewQ)
theorem q_S_l01SizeQ : RuleOk Try.prog 85 (qRule fS_l01SizeQC) ∧ CallOk Try.prog 85 :=
  mkQ (A := noA) gam_nil rules0 Try.func85 (by kernel_rfl) (by kernel_rfl) (by exact @link _ (vcQ tab (gOf []) R0 Try.f85 fS_l01SizeQC noA) (by kernel_rfl) v_S_l01SizeQ)
theorem q_S_l01ByteQ : RuleOk Try.prog 86 (qbRule fS_l01ByteQC) ∧ CallOk Try.prog 86 :=
  mkQB (A := noB) gam_nil rules0 Try.func86 (by kernel_rfl) (by kernel_rfl) (by exact @link _ (vcQB tab (gOf []) R0 Try.f86 fS_l01ByteQC noB) (by kernel_rfl) v_S_l01ByteQ)
theorem q_S_l01BelowQ : RuleOk Try.prog 62 (qbRule fS_l01BelowQC) ∧ CallOk Try.prog 62 :=
  mkQB (A := noB) gam_nil (rul_cons q_S_l01ByteQ rul_nil) Try.func62 (by kernel_rfl) (by kernel_rfl) (by exact @link _ (vcQB tab (gOf []) (rOf [(86, qbRule fS_l01ByteQC)]) Try.f62 fS_l01BelowQC noB) (by kernel_rfl) v_S_l01BelowQ)
theorem q_S_l01PickIntQ : RuleOk Try.prog 61 (qbRule fS_l01PickIntQC) ∧ CallOk Try.prog 61 :=
  mkQB (A := noB) gam_nil (rul_cons q_S_l01BelowQ rul_nil) Try.func61 (by kernel_rfl) (by kernel_rfl) (by exact @link _ (vcQB tab (gOf []) (rOf [(62, qbRule fS_l01BelowQC)]) Try.f61 fS_l01PickIntQC noB) (by kernel_rfl) v_S_l01PickIntQ)
theorem q_S_l01OnceQ : RuleOk Try.prog 94 (qbRule fS_l01OnceQC) ∧ CallOk Try.prog 94 :=
  mkQB (A := noB) gam_nil (rul_cons q_S_l01BelowQ rul_nil) Try.func94 (by kernel_rfl) (by kernel_rfl) (by exact @link _ (vcQB tab (gOf []) (rOf [(62, qbRule fS_l01BelowQC)]) Try.f94 fS_l01OnceQC noB) (by kernel_rfl) v_S_l01OnceQ)
theorem q_S_l13DrawCostQ : RuleOk Try.prog 99 (qbRule fS_l13DrawCostQC) ∧ CallOk Try.prog 99 :=
  mkQB (A := noB) gam_nil (rul_cons q_S_l01BelowQ (rul_cons q_S_l01PickIntQ rul_nil)) Try.func99 (by kernel_rfl) (by kernel_rfl) (by exact @link _ (vcQB tab (gOf []) (rOf [(62, qbRule fS_l01BelowQC), (61, qbRule fS_l01PickIntQC)]) Try.f99 fS_l13DrawCostQC noB) (by kernel_rfl) v_S_l13DrawCostQ)
theorem q_S_l13DrawLineQ : RuleOk Try.prog 93 (qbRule fS_l13DrawLineQC) ∧ CallOk Try.prog 93 :=
  mkQB (A := aS_l13DrawLine) gam_nil (rul_cons q_S_l01BelowQ (rul_cons q_S_l01PickIntQ (rul_cons q_S_l01OnceQ (rul_cons q_S_l13DrawCostQ rul_nil)))) Try.func93 (by kernel_rfl) (by kernel_rfl) (by exact @link _ (vcQB tab (gOf []) (rOf [(62, qbRule fS_l01BelowQC), (61, qbRule fS_l01PickIntQC), (94, qbRule fS_l01OnceQC), (99, qbRule fS_l13DrawCostQC)]) Try.f93 fS_l13DrawLineQC aS_l13DrawLine) (by kernel_rfl) v_S_l13DrawLineQ)
theorem q_S_l14DrawRingQ : RuleOk Try.prog 84 (qbRule fS_l14DrawRingQC) ∧ CallOk Try.prog 84 :=
  mkQB (A := aS_l14DrawRing) gam_nil (rul_cons q_S_l01BelowQ (rul_cons q_S_l01PickIntQ (rul_cons q_S_l01OnceQ (rul_cons q_S_l13DrawLineQ rul_nil)))) Try.func84 (by kernel_rfl) (by kernel_rfl) (by exact @link _ (vcQB tab (gOf []) (rOf [(62, qbRule fS_l01BelowQC), (61, qbRule fS_l01PickIntQC), (94, qbRule fS_l01OnceQC), (93, qbRule fS_l13DrawLineQC)]) Try.f84 fS_l14DrawRingQC aS_l14DrawRing) (by kernel_rfl) v_S_l14DrawRingQ)
theorem q_S_l14DrawOneQ : RuleOk Try.prog 60 (qnRule fS_l14DrawOneQC) ∧ CallOk Try.prog 60 :=
  mkQN (A := noA) gam_nil (rul_cons q_S_l01NewQ (rul_cons q_S_l01SizeQ (rul_cons q_S_l01BelowQ (rul_cons q_S_l14DrawRingQ rul_nil)))) Try.func60 (by kernel_rfl) (by kernel_rfl) (by exact @link _ (vcQN tab (gOf []) (rOf [(83, qnRule fS_l01NewQC), (85, qRule fS_l01SizeQC), (62, qbRule fS_l01BelowQC), (84, qbRule fS_l14DrawRingQC)]) Try.f60 fS_l14DrawOneQC noA) (by kernel_rfl) v_S_l14DrawOneQ)
theorem q_S_DrawDrainRingQ : RuleOk Try.prog 33 (qRule fS_DrawDrainRingQC) ∧ CallOk Try.prog 33 :=
  mkQ (A := noA) gam_nil (rul_cons q_S_l14DrawOneQ (rul_cons q_S_l01BelowQ (rul_cons q_S_l01PickIntQ rul_nil))) Try.func33 (by kernel_rfl) (by kernel_rfl) (by exact @link _ (vcQ tab (gOf []) (rOf [(60, qnRule fS_l14DrawOneQC), (62, qbRule fS_l01BelowQC), (61, qbRule fS_l01PickIntQC)]) Try.f33 fS_DrawDrainRingQC noA) (by kernel_rfl) v_S_DrawDrainRingQ)
theorem q_S_l01In : PureC Try.prog 63 fS_l01InC ∧ CallOk Try.prog 63 :=
  mk (A := noA) gam_nil rules0 Try.func63 (by kernel_rfl) (by kernel_rfl) (by exact @link _ (vcFunc tab (gOf []) R0 Try.f63 fS_l01InC noA) (by kernel_rfl) v_S_l01In)
theorem q_S_l13Ticket : PureC Try.prog 87 fS_l13TicketC ∧ CallOk Try.prog 87 :=
  mk (A := noA) (gam_cons q_S_l01In gam_nil) rules0 Try.func87 (by kernel_rfl) (by kernel_rfl) (by exact @link _ (vcFunc tab (gOf [(63, fS_l01InC)]) R0 Try.f87 fS_l13TicketC noA) (by kernel_rfl) v_S_l13Ticket)
theorem q_S_LineOk : PureC Try.prog 66 fS_LineOkC ∧ CallOk Try.prog 66 :=
  mk (A := aS_LineOk) (gam_cons q_S_l13Ticket gam_nil) rules0 Try.func66 (by kernel_rfl) (by kernel_rfl) (by exact @link _ (vcFunc tab (gOf [(87, fS_l13TicketC)]) R0 Try.f66 fS_LineOkC aS_LineOk) (by kernel_rfl) v_S_LineOk)
theorem q_S_l14Flow : PureC Try.prog 64 fS_l14FlowC ∧ CallOk Try.prog 64 :=
  mk (A := noA) (gam_cons q_S_l01In (gam_cons q_S_LineOk gam_nil)) rules0 Try.func64 (by kernel_rfl) (by kernel_rfl) (by exact @link _ (vcFunc tab (gOf [(63, fS_l01InC), (66, fS_LineOkC)]) R0 Try.f64 fS_l14FlowC noA) (by kernel_rfl) v_S_l14Flow)
theorem q_S_RingOk : PureC Try.prog 34 fS_RingOkC ∧ CallOk Try.prog 34 :=
  mk (A := aS_RingOk) (gam_cons q_S_l01In (gam_cons q_S_l14Flow gam_nil)) rules0 Try.func34 (by kernel_rfl) (by kernel_rfl) (by exact @link _ (vcFunc tab (gOf [(63, fS_l01InC), (64, fS_l14FlowC)]) R0 Try.f34 fS_RingOkC aS_RingOk) (by kernel_rfl) v_S_RingOk)
theorem q_L_cpRing : PureC Try.prog 35 fL_cpRingC ∧ CallOk Try.prog 35 :=
  mk (A := aL_cpRing) gam_nil rules0 Try.func35 (by kernel_rfl) (by kernel_rfl) (by exact @link _ (vcFunc tab (gOf []) R0 Try.f35 fL_cpRingC aL_cpRing) (by kernel_rfl) v_L_cpRing)
theorem q_I_copyLine : PureC Try.prog 70 fI_copyLineC ∧ CallOk Try.prog 70 :=
  mk (A := noA) gam_nil rules0 Try.func70 (by kernel_rfl) (by kernel_rfl) (by exact @link _ (vcFunc tab (gOf []) R0 Try.f70 fI_copyLineC noA) (by kernel_rfl) v_I_copyLine)
theorem qt_I_copyRingT : TreeOk Try.prog 45 fI_copyRingTC ∧ CallOk Try.prog 45 :=
  mkTree (A := aI_copyRing) (gam_cons q_I_copyLine gam_nil) (rul_tell rul_nil) Try.func45 (by kernel_rfl) (by kernel_rfl) (by exact @link _ (vcTree tab (gOf [(70, fI_copyLineC)]) (rOf [(1000000, tellR)]) Try.f45 fI_copyRingTC aI_copyRing) (by kernel_rfl) v_I_copyRingT)
theorem q_I_copyRingT : RuleOk Try.prog 45 (treeRule fI_copyRingTC) ∧ CallOk Try.prog 45 := ⟨tree_rule qt_I_copyRingT.1, qt_I_copyRingT.2⟩
theorem q_I_isTicket : PureC Try.prog 90 fI_isTicketC ∧ CallOk Try.prog 90 :=
  mk (A := noA) gam_nil rules0 Try.func90 (by kernel_rfl) (by kernel_rfl) (by exact @link _ (vcFunc tab (gOf []) R0 Try.f90 fI_isTicketC noA) (by kernel_rfl) v_I_isTicket)
theorem q_I_isLine : PureC Try.prog 73 fI_isLineC ∧ CallOk Try.prog 73 :=
  mk (A := aI_isLine) (gam_cons q_I_isTicket gam_nil) rules0 Try.func73 (by kernel_rfl) (by kernel_rfl) (by exact @link _ (vcFunc tab (gOf [(90, fI_isTicketC)]) R0 Try.f73 fI_isLineC aI_isLine) (by kernel_rfl) v_I_isLine)
theorem q_I_isRing : PureC Try.prog 47 fI_isRingC ∧ CallOk Try.prog 47 :=
  mk (A := aI_isRing) (gam_cons q_I_isLine gam_nil) rules0 Try.func47 (by kernel_rfl) (by kernel_rfl) (by exact @link _ (vcFunc tab (gOf [(73, fI_isLineC)]) R0 Try.f47 fI_isRingC aI_isRing) (by kernel_rfl) v_I_isRing)
theorem q_I_waiting : PureC Try.prog 65 fI_waitingC ∧ CallOk Try.prog 65 :=
  mk (A := aI_waiting) gam_nil rules0 Try.func65 (by kernel_rfl) (by kernel_rfl) (by exact @link _ (vcFunc tab (gOf []) R0 Try.f65 fI_waitingC aI_waiting) (by kernel_rfl) v_I_waiting)
section
open Go.RowKit Go.Lib Go.Sort
theorem ownDELimpl_Ticket_mixed : Try.prog.follows .mixedOrders = true := by kernel_rfl
theorem ownDELimpl_Ticket_t0 : Try.prog.underlying 0 = some (TypeDesc.tuple #[]) := by kernel_rfl
theorem ownDELimpl_Ticket_a0 : ∀ w, (isAgg 0).run Try.prog w = .ok false w := fun w => by kernel_rfl
theorem ownDELimpl_Ticket_z0 : ∀ w, (Go.sizeOf 0).run Try.prog w = .ok 1 w := fun w => by kernel_rfl
theorem ownDELimpl_Ticket_v0 : ∀ w, (zeroValue 0).run Try.prog w = .ok (Value.tuple #[]) w := fun w => by kernel_rfl
theorem ownDELimpl_Ticket_t3 : Try.prog.underlying 3 = some (TypeDesc.int IntKind.i64) := by kernel_rfl
theorem ownDELimpl_Ticket_a3 : ∀ w, (isAgg 3).run Try.prog w = .ok false w := fun w => by kernel_rfl
theorem ownDELimpl_Ticket_z3 : ∀ w, (Go.sizeOf 3).run Try.prog w = .ok 1 w := fun w => by kernel_rfl
theorem ownDELimpl_Ticket_v3 : ∀ w, (zeroValue 3).run Try.prog w = .ok (Value.int IntKind.i64 0) w := fun w => by kernel_rfl
theorem ownDELimpl_Ticket_t4 : Try.prog.underlying 4 = some TypeDesc.bool := by kernel_rfl
theorem ownDELimpl_Ticket_a4 : ∀ w, (isAgg 4).run Try.prog w = .ok false w := fun w => by kernel_rfl
theorem ownDELimpl_Ticket_z4 : ∀ w, (Go.sizeOf 4).run Try.prog w = .ok 1 w := fun w => by kernel_rfl
theorem ownDELimpl_Ticket_v4 : ∀ w, (zeroValue 4).run Try.prog w = .ok (Value.bool false) w := fun w => by kernel_rfl
theorem ownDELimpl_Ticket_tS : Try.prog.underlying 60 = some (TypeDesc.slice 36) := by kernel_rfl
theorem ownDELimpl_Ticket_aS : ∀ w, (isAgg 60).run Try.prog w = .ok false w := fun w => by kernel_rfl
theorem ownDELimpl_Ticket_zS : ∀ w, (Go.sizeOf 60).run Try.prog w = .ok 1 w := fun w => by kernel_rfl
theorem ownDELimpl_Ticket_vS : ∀ w, (zeroValue 60).run Try.prog w = .ok (Value.slice none 0 0) w := fun w => by kernel_rfl

set_option maxHeartbeats 4000000 in
set_option maxRecDepth 1000000 in
theorem ownDELimpl_Ticket_same (v : Value) (i : Nat) (w : World) (hv : v = .slice none 0 0 ∧ i = 0 ∨ ∃ blk n cap, v = .slice (some ⟨blk, 0, none⟩) n cap ∧ n ≤ cap ∧ i ≤ n) :
    Calls Try.prog 79 #[v, .int .i64 i, .int .i64 i] w fun e w' => e = .returned v ∧ w' = w := by
  have mixed := ownDELimpl_Ticket_mixed; have t0 := ownDELimpl_Ticket_t0; have a0 := ownDELimpl_Ticket_a0; have z0 := ownDELimpl_Ticket_z0; have v0 := ownDELimpl_Ticket_v0; have t3 := ownDELimpl_Ticket_t3; have a3 := ownDELimpl_Ticket_a3; have z3 := ownDELimpl_Ticket_z3; have v3 := ownDELimpl_Ticket_v3; have t4 := ownDELimpl_Ticket_t4; have a4 := ownDELimpl_Ticket_a4; have z4 := ownDELimpl_Ticket_z4; have v4 := ownDELimpl_Ticket_v4; have tS := ownDELimpl_Ticket_tS; have aS := ownDELimpl_Ticket_aS; have zS := ownDELimpl_Ticket_zS; have vS := ownDELimpl_Ticket_vS
  rcases hv with ⟨rfl, rfl⟩ | ⟨blk, n, cap, rfl, h1, h2⟩
  · go_enter Try.func79, Try.ntmps79
    go_wp2
    all_goals (go_ret; exact ⟨rfl, rfl⟩)
  · go_enter Try.func79, Try.ntmps79
    go_wp2
    all_goals (go_ret; exact ⟨rfl, rfl⟩)

set_option maxHeartbeats 4000000 in
set_option maxRecDepth 1000000 in
theorem ownDELimpl_Ticket_cut (blk n cap i j : Nat) (news : List Value) (w : World) (hcap : n ≤ cap) (hij : i < j) (hj : j ≤ n) (hl : news.length = (n - j) * 2)
    (hsrc : ∀ t u, news[t]? = some u → w.cell? ⟨blk, j * 2 + t, none⟩ = some u) (h1c : ∀ u ∈ news, u.oneCell' = true)
    (hsp : ∀ t, t < n * 2 → (w.cell? ⟨blk, t, none⟩).isSome = true ∧ w.frozen? ⟨blk, t, none⟩ = false) :
    Calls Try.prog 79 #[.slice (some ⟨blk, 0, none⟩) n cap, .int .i64 i, .int .i64 j] w fun e w' => e = .returned (.slice (some ⟨blk, 0, none⟩) (i + (n - j)) cap) ∧
      ∃ zs : List Value, zs.length = (n - (i + (n - j))) * 2 ∧ w' = (w.drew.setCells blk (i * 2) news).setCells blk ((i + (n - j)) * 2) zs := by
  have mixed := ownDELimpl_Ticket_mixed; have t0 := ownDELimpl_Ticket_t0; have a0 := ownDELimpl_Ticket_a0; have z0 := ownDELimpl_Ticket_z0; have v0 := ownDELimpl_Ticket_v0; have t3 := ownDELimpl_Ticket_t3; have a3 := ownDELimpl_Ticket_a3; have z3 := ownDELimpl_Ticket_z3; have v3 := ownDELimpl_Ticket_v3; have t4 := ownDELimpl_Ticket_t4; have a4 := ownDELimpl_Ticket_a4; have z4 := ownDELimpl_Ticket_z4; have v4 := ownDELimpl_Ticket_v4; have tS := ownDELimpl_Ticket_tS; have aS := ownDELimpl_Ticket_aS; have zS := ownDELimpl_Ticket_zS; have vS := ownDELimpl_Ticket_vS
  obtain ⟨i0, hi0, hz1⟩ : ∃ i0, Try.prog.info? 36 = some i0 ∧ i0.size = 2 := Option.map_eq_some_iff.1 (show (Try.prog.info? 36).map (fun i => i.size) = some 2 by kernel_rfl)
  have vE : ∀ w, (zeroValue 36).run Try.prog w = .ok (.agg #[.int .i64 0, .int .i64 0]) w := fun w => by kernel_rfl
  obtain ⟨A, hA, hsrc'⟩ : ∃ A : Addr, (if cap = j then some (⟨blk, 0, none⟩ : Addr) else some ⟨blk, j * 2, none⟩) = some A ∧ Hid (∀ t u, news[t]? = some u → w.drew.cell? (A.add t) = some u) := by
    by_cases h : cap = j
    · refine ⟨⟨blk, 0, none⟩, by simp [h], fun t u hu => ?_⟩
      have h0 : news.length = 0 := by rw [hl]; omega
      rw [List.length_eq_zero_iff.1 h0] at hu
      simp at hu
    · exact ⟨⟨blk, j * 2, none⟩, by simp [h], fun t u hu => by rw [Addr.add_lit]; exact hsrc t u hu⟩
  have s1 : Hid (news.length = (n - j) * 2) := hl
  have s2 : Hid (∀ u ∈ news, u.oneCell' = true) := h1c
  have s3 : Hid (∀ t, t < news.length → (w.drew.cell? ⟨blk, 0 + i * 2 + t, none⟩).isSome = true ∧ w.drew.frozen? ⟨blk, 0 + i * 2 + t, none⟩ = false) := by
    intro t ht
    rw [hl] at ht
    rw [Nat.zero_add]
    exact hsp (i * 2 + t) (by omega)
  obtain ⟨W1, hW1⟩ : ∃ W1, W1 = w.drew.setCells blk (0 + i * 2) news := ⟨_, rfl⟩
  have hsp1 : ∀ t, t < n * 2 → (W1.cell? ⟨blk, t, none⟩).isSome = true ∧ W1.frozen? ⟨blk, t, none⟩ = false := by
    intro t ht
    subst hW1
    refine ⟨?_, by rw [World.frozen?_setCells]; exact (hsp t ht).2⟩
    by_cases hin : i * 2 ≤ t ∧ t < i * 2 + news.length
    · have h2 := World.cell?_setCells_in blk news (0 + i * 2) w.drew (fun k hk => (s3.out k hk).1) (t - i * 2) (by omega)
      rw [show 0 + i * 2 + (t - i * 2) = t by omega] at h2
      rw [h2]; rfl
    · rw [World.cell?_setCells_out blk news _ _ _ (fun _ _ => by show t < 0 + i * 2 ∨ 0 + i * 2 + news.length ≤ t; omega)]
      exact (hsp t ht).1
  obtain ⟨zs, hzs, hcl⟩ : ∃ zs : List Value, zs.length = (n - (i + (n - j))) * 2 ∧ ∀ ty, (Builtin.clear_ #[60] ty #[.slice (some ⟨blk, (i + (n - j)) * 2, none⟩) (n - (i + (n - j))) (cap - (i + (n - j)))]).run Try.prog W1 = .ok (.tuple #[]) (W1.setCells blk ((i + (n - j)) * 2) zs) := by
    refine ⟨(Builtin.zeroCells (Value.agg #[.int .i64 0, .int .i64 0]).cells (n - (i + (n - j)))).toList, by simp [Builtin.zeroCells, Value.cells], fun ty => ?_⟩
    refine run_clear_many W1 _ _ ty _ tS vE (by simp [Value.cells, Value.oneCell']) (by simp [Value.cells]) blk _ _ _ (by omega) (fun t ht => ?_) (fun t ht => ?_)
    · have h2 : (Value.agg #[.int .i64 0, .int .i64 0]).cells.size = 2 := rfl
      rw [h2] at ht
      exact (hsp1 _ (by omega)).1
    · have h2 : (Value.agg #[.int .i64 0, .int .i64 0]).cells.size = 2 := rfl
      rw [h2] at ht
      exact (hsp1 _ (by omega)).2
  have hW : Hid (W1 = w.drew.setCells blk (0 + i * 2) news) := hW1
  have hic : i ≤ cap := by omega
  have hjc : j ≤ cap := by omega
  clear hW1 hsp1 hsp hsrc hl vE
  go_enter Try.func79, Try.ntmps79
  go_wp2_with fail
  go_region_law_o (refine step_append_room rfl (.tmp 22) (.tmp 25) 60 rfl 36 i0 2 tS hi0 hz1 blk 0 i cap (by simp [Act.eval, Act.put]) A (n - j) (cap - j) news (by simp [Act.eval, Act.put]) s1.out hsrc'.out s2.out (by omega) s3.out ?_; rw [← hW.out])
  go_wp2
  all_goals (go_ret; refine ⟨rfl, zs, hzs, ?_⟩; rw [hW.out, Nat.zero_add])
theorem q_ownDELimpl_Ticket : RuleOk Try.prog 79 (delRule tkT) ∧ CallOk Try.prog 79 :=
  ⟨del_rule ⟨ownDELimpl_Ticket_same, ownDELimpl_Ticket_cut⟩, _, Try.func79, by kernel_rfl, by kernel_rfl⟩
end
theorem q_I_withoutTicket : PureC Try.prog 54 fI_withoutTicketC ∧ CallOk Try.prog 54 :=
  mk (A := noA) (gam_cons q_I_copyLine gam_nil) (rul_cons q_ownDELimpl_Ticket rul_nil) Try.func54 (by kernel_rfl) (by kernel_rfl) (by exact @link _ (vcFunc tab (gOf [(70, fI_copyLineC)]) (rOf [(79, (delRule tkT))]) Try.f54 fI_withoutTicketC noA) (by kernel_rfl) v_I_withoutTicket)
theorem q_I_next : RuleOk Try.prog 56 (refRule fI_nextC) ∧ CallOk Try.prog 56 :=
  mkRef (A := aI_next) (gam_cons q_I_waiting (gam_cons q_I_withoutTicket gam_nil)) (rul_tell rul_nil) Try.func56 (by kernel_rfl) (by kernel_rfl) rfl (by exact @link _ (vcRef tab (gOf [(65, fI_waitingC), (54, fI_withoutTicketC)]) (rOf [(1000000, tellR)]) Try.f56 fI_nextC aI_next) (by kernel_rfl) v_I_next)
theorem qt_I_DrainRingT : TreeOk Try.prog 25 fI_DrainRingTC ∧ CallOk Try.prog 25 :=
  mkTree (A := aI_DrainRing) (gam_cons q_I_isRing gam_nil) (rul_tell (rul_cons q_I_copyRingT (rul_cons q_I_next rul_nil))) Try.func25 (by kernel_rfl) (by kernel_rfl) (by exact @link _ (vcTree tab (gOf [(47, fI_isRingC)]) (rOf [(1000000, tellR), (45, treeRule fI_copyRingTC), (56, refRule fI_nextC)]) Try.f25 fI_DrainRingTC aI_DrainRing) (by kernel_rfl) v_I_DrainRingT)
theorem q_I_DrainRingT : RuleOk Try.prog 25 (treeRule fI_DrainRingTC) ∧ CallOk Try.prog 25 := ⟨tree_rule qt_I_DrainRingT.1, qt_I_DrainRingT.2⟩
theorem q_I_DrainRing : PureC Try.prog 25 fI_DrainRingC ∧ CallOk Try.prog 25 := ⟨pure_of_tree qt_I_DrainRingT.1, qt_I_DrainRingT.2⟩
theorem q_S_Waiting : PureC Try.prog 36 fS_WaitingC ∧ CallOk Try.prog 36 :=
  mk (A := aS_Waiting) (gam_cons q_S_RingOk gam_nil) rules0 Try.func36 (by kernel_rfl) (by kernel_rfl) (by exact @link _ (vcFunc tab (gOf [(34, fS_RingOkC)]) R0 Try.f36 fS_WaitingC aS_Waiting) (by kernel_rfl) v_S_Waiting)
theorem q_I_Waiting : PureC Try.prog 37 fI_WaitingC ∧ CallOk Try.prog 37 :=
  mk (A := noA) (gam_cons q_I_isRing (gam_cons q_I_waiting gam_nil)) rules0 Try.func37 (by kernel_rfl) (by kernel_rfl) (by exact @link _ (vcFunc tab (gOf [(47, fI_isRingC), (65, fI_waitingC)]) R0 Try.f37 fI_WaitingC noA) (by kernel_rfl) v_I_Waiting)
theorem q_I_RingOk : PureC Try.prog 38 fI_RingOkC ∧ CallOk Try.prog 38 :=
  mk (A := noA) (gam_cons q_I_isRing gam_nil) rules0 Try.func38 (by kernel_rfl) (by kernel_rfl) (by exact @link _ (vcFunc tab (gOf [(47, fI_isRingC)]) R0 Try.f38 fI_RingOkC noA) (by kernel_rfl) v_I_RingOk)
theorem q_I_ServedCost : PureC Try.prog 39 fI_ServedCostC ∧ CallOk Try.prog 39 :=
  mk (A := aI_ServedCost) gam_nil rules0 Try.func39 (by kernel_rfl) (by kernel_rfl) (by exact @link _ (vcFunc tab (gOf []) R0 Try.f39 fI_ServedCostC aI_ServedCost) (by kernel_rfl) v_I_ServedCost)
theorem q_S_LineCost : PureC Try.prog 40 fS_LineCostC ∧ CallOk Try.prog 40 :=
  mk (A := aS_LineCost) (gam_cons q_S_LineOk gam_nil) rules0 Try.func40 (by kernel_rfl) (by kernel_rfl) (by exact @link _ (vcFunc tab (gOf [(66, fS_LineOkC)]) R0 Try.f40 fS_LineCostC aS_LineCost) (by kernel_rfl) v_S_LineCost)
-- LAW
theorem q_law : PureC Try.prog 9 (lawC [.sl (.int .u8)]) ∧ CallOk Try.prog 9 :=
  mk (A := aL_FnDrained) (gam_cons q_L_big (gam_cons q_S_RingOk (gam_cons q_L_cpRing (gam_cons q_I_DrainRing (gam_cons q_S_Waiting (gam_cons q_I_Waiting (gam_cons q_I_RingOk (gam_cons q_I_ServedCost (gam_cons q_S_LineCost gam_nil))))))))) (rul_cons q_S_DrawDrainRingQ rul_nil) Try.func9 (by kernel_rfl) (by kernel_rfl) (by exact @link _ (vcFunc tab (gOf [(29, fL_bigC), (34, fS_RingOkC), (35, fL_cpRingC), (25, fI_DrainRingC), (36, fS_WaitingC), (37, fI_WaitingC), (38, fI_RingOkC), (39, fI_ServedCostC), (40, fS_LineCostC)]) (rOf [(33, qRule fS_DrawDrainRingQC)]) Try.f9 (lawC [.sl (.int .u8)]) aL_FnDrained) (by kernel_rfl) v_FnDrained)
end Go.SF
