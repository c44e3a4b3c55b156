/- FnExactDrainRing: the functions keep their contracts. No condition. -/
import Derived.Test.YtnjihkeflkemdaaSxPLine
import Derived.Test.YtnjihkeflkemdaaSxPRing
import Derived.Test.YtnjihkeflkemdaaSxPRingT
import Derived.Test.YtnjihkeflkemdaaSxPLine2
import Derived.Test.YtnjihkeflkemdaaSxPRingW
import Derived.Test.YtnjihkeflkemdaaSxPBase
import Derived.Test.YtnjihkeflkemdaaSxPLine3
import Derived.Test.YtnjihkeflkemdaaSxPServed
import Derived.Test.YtnjihkeflkemdaaSxPMark
import Derived.Test.YtnjihkeflkemdaaSxPRingB
import Derived.Test.YtnjihkeflkemdaaSxPFnExactDrainRing
import Derived.Shelf.RegionOpenPlain
import Derived.WalkKit
import Derived.Deep.LoopGhost
import Derived.Deep.RegionLaw
import Derived.Lib.Walk
import Derived.Test.YtnjihkeflkemdaaSxTab
import Derived.Test.YtnjihkeflkemdaaChecked
import Derived.KernelRfl
namespace Go.SF
open Go.SX Go.Proofs
set_option maxRecDepth 100000
set_option linter.unusedVariables false
theorem rules0 {P : Program} : RulesOk P R0 := fun f r h _ => by cases h
theorem gam_nil {P : Program} : GamOk P (gOf []) := fun f c h => by cases h
theorem gam_cons {P : Program} {k : Nat} {c : PC} {r : List (Nat × PC)} (h : PureC P k c ∧ CallOk P k) (hr : GamOk P (gOf r)) : GamOk P (gOf ((k, c) :: r)) := by
  intro f c' h'
  unfold gOf at h'
  split at h'
  · rename_i e
    injection h' with h'
    subst h'; subst e
    exact h
  · exact hr f c' h'
theorem rul_nil {P : Program} : RulesOk P (rOf []) := fun f c h _ => by cases h
theorem rul_cons {P : Program} {k : Nat} {c : Rule} {r : List (Nat × Rule)} (h : RuleOk P k c ∧ CallOk P k) (hr : RulesOk P (rOf r)) : RulesOk P (rOf ((k, c) :: r)) := by
  intro f c' h' hne
  unfold rOf at h'
  split at h'
  · rename_i e
    injection h' with h'
    subst h'; subst e
    exact h
  · exact hr f c' h' hne
theorem rul_tell {P : Program} {r : List (Nat × Rule)} (hr : RulesOk P (rOf r)) : RulesOk P (rOf ((1000000, tellR) :: r)) := by
  intro f c' h' hne
  unfold rOf at h'
  split at h'
  · rename_i e
    exact absurd e hne
  · exact hr f c' h' hne
theorem tabOk : TabOk Try.prog tab := tabOk_of (by kernel_rfl)
theorem mixed : Try.prog.follows .mixedOrders = true := by kernel_rfl
theorem mk {Γ : FuncId → Option PC} {f : FuncId} {fn : Func} {c : PC} {A : Tup c.ts → Nat → Option Ann} {R : FuncId → Option Rule} (hΓ : GamOk Try.prog Γ) (hR : RulesOk Try.prog R) (hf : Try.prog.funcs[f]? = some fn) (h1 : (fn.name == "runtime.NumGoroutine") = false) (h2 : fn.body.isNone = false)
    (h : vcFunc tab Γ R fn c A) : PureC Try.prog f c ∧ CallOk Try.prog f := ⟨vcFunc_pure mixed tabOk hΓ hR hf h, fn, hf, h1, h2⟩
theorem mkM {Γ : FuncId → Option PC} {R : FuncId → Option Rule} {f : FuncId} {fn : Func} {c : MC} {A : c.t.den → Int → Nat → Option Ann} (hΓ : GamOk Try.prog Γ) (hR : RulesOk Try.prog R) (hf : Try.prog.funcs[f]? = some fn) (h1 : (fn.name == "runtime.NumGoroutine") = false) (h2 : fn.body.isNone = false)
    (hl : c.t.lendable = true) (h : vcMut tab Γ R fn c A) : RuleOk Try.prog f (ruleOf c) ∧ CallOk Try.prog f := ⟨vcMut_rule mixed tabOk hΓ hR hf hl h, fn, hf, h1, h2⟩
theorem mkTree {Γ : FuncId → Option PC} {R : FuncId → Option Rule} {f : FuncId} {fn : Func} {c : TC} {A : Tup c.ts → Nat → Option Ann} (hΓ : GamOk Try.prog Γ) (hR : RulesOk Try.prog R) (hf : Try.prog.funcs[f]? = some fn) (h1 : (fn.name == "runtime.NumGoroutine") = false) (h2 : fn.body.isNone = false)
    (h : vcTree tab Γ R fn c A) : TreeOk Try.prog f c ∧ CallOk Try.prog f := ⟨vcTree_ok mixed tabOk hΓ hR hf h, fn, hf, h1, h2⟩
theorem mkMark {Γ : FuncId → Option PC} {R : FuncId → Option Rule} {f : FuncId} {fn : Func} {c : MT} {A : c.t.den → Int → Nat → Option Ann} (hΓ : GamOk Try.prog Γ) (hR : RulesOk Try.prog R) (hf : Try.prog.funcs[f]? = some fn) (h1 : (fn.name == "runtime.NumGoroutine") = false) (h2 : fn.body.isNone = false)
    (hl : c.t.lendBy Ty.gcl = true) (h : vcMutT tab Γ R fn c A) : RuleOk Try.prog f (markRule c) ∧ CallOk Try.prog f := ⟨mark_rule mixed tabOk hΓ hR hf hl h, fn, hf, h1, h2⟩
theorem mkCut {Γ : FuncId → Option PC} {R : FuncId → Option Rule} {f : FuncId} {fn : Func} {c : CC} {A : List c.e.den → Nat → Option Ann} (hΓ : GamOk Try.prog Γ) (hR : RulesOk Try.prog R) (hf : Try.prog.funcs[f]? = some fn) (h1 : (fn.name == "runtime.NumGoroutine") = false) (h2 : fn.body.isNone = false)
    (hl : c.e.flat = true) (h : vcCut tab Γ R fn c A) : RuleOk Try.prog f (cutRule c) ∧ CallOk Try.prog f := ⟨vcCut_rule mixed tabOk hΓ hR hf hl h, fn, hf, h1, h2⟩
theorem mkBox {Γ : FuncId → Option PC} {R : FuncId → Option Rule} {f : FuncId} {fn : Func} {c : BC} {A : c.t.den → Tup c.ts → Nat → Option Ann} (hΓ : GamOk Try.prog Γ) (hR : RulesOk Try.prog R) (hf : Try.prog.funcs[f]? = some fn) (h1 : (fn.name == "runtime.NumGoroutine") = false) (h2 : fn.body.isNone = false)
    (h : vcBox tab Γ R fn c A) : RuleOk Try.prog f (boxRule c) ∧ CallOk Try.prog f := ⟨vcBox_rule mixed tabOk hΓ hR hf h, fn, hf, h1, h2⟩
theorem mkNew {Γ : FuncId → Option PC} {R : FuncId → Option Rule} {f : FuncId} {fn : Func} {c : NC} {A : Tup c.ts → Nat → Option Ann} (hΓ : GamOk Try.prog Γ) (hR : RulesOk Try.prog R) (hf : Try.prog.funcs[f]? = some fn) (h1 : (fn.name == "runtime.NumGoroutine") = false) (h2 : fn.body.isNone = false)
    (h : vcNew tab Γ R fn c A) : RuleOk Try.prog f (newRule c) ∧ CallOk Try.prog f := ⟨vcNew_rule mixed tabOk hΓ hR hf h, fn, hf, h1, h2⟩
theorem link {p q : Prop} (h : p = q) (hp : p) : q := h ▸ hp
theorem mkRef {Γ : FuncId → Option PC} {R : FuncId → Option Rule} {f : FuncId} {fn : Func} {c : RC} {A : c.t.den → Nat → Option Ann} (hΓ : GamOk Try.prog Γ) (hR : RulesOk Try.prog R) (hf : Try.prog.funcs[f]? = some fn) (h1 : (fn.name == "runtime.NumGoroutine") = false) (h2 : fn.body.isNone = false)
    (hl : c.t.lendBy Ty.gcl = true) (h : vcRef tab Γ R fn c A) : RuleOk Try.prog f (refRule c) ∧ CallOk Try.prog f := ⟨ref_rule mixed tabOk hΓ hR hf hl h, fn, hf, h1, h2⟩
theorem q_L_szTicketS : PureC Try.prog 95 fL_szTicketSC ∧ CallOk Try.prog 95 :=
  mk (A := noA) gam_nil rules0 Try.func95 (by kernel_rfl) (by kernel_rfl) (by exact @link _ (vcFunc tab (gOf []) R0 Try.f95 fL_szTicketSC noA) (by kernel_rfl) v_L_szTicketS)
theorem q_L_szLine : PureC Try.prog 88 fL_szLineC ∧ CallOk Try.prog 88 :=
  mk (A := noA) (gam_cons q_L_szTicketS gam_nil) rules0 Try.func88 (by kernel_rfl) (by kernel_rfl) (by exact @link _ (vcFunc tab (gOf [(95, fL_szTicketSC)]) R0 Try.f88 fL_szLineC noA) (by kernel_rfl) v_L_szLine)
theorem q_L_szFlow : PureC Try.prog 67 fL_szFlowC ∧ CallOk Try.prog 67 :=
  mk (A := noA) (gam_cons q_L_szLine gam_nil) rules0 Try.func67 (by kernel_rfl) (by kernel_rfl) (by exact @link _ (vcFunc tab (gOf [(88, fL_szLineC)]) R0 Try.f67 fL_szFlowC noA) (by kernel_rfl) v_L_szFlow)
theorem q_L_szFlowS : PureC Try.prog 41 fL_szFlowSC ∧ CallOk Try.prog 41 :=
  mk (A := aL_szFlowS) (gam_cons q_L_szFlow gam_nil) rules0 Try.func41 (by kernel_rfl) (by kernel_rfl) (by exact @link _ (vcFunc tab (gOf [(67, fL_szFlowC)]) R0 Try.f41 fL_szFlowSC aL_szFlowS) (by kernel_rfl) v_L_szFlowS)
theorem q_L_szRing : PureC Try.prog 10 fL_szRingC ∧ CallOk Try.prog 10 :=
  mk (A := noA) (gam_cons q_L_szFlowS gam_nil) rules0 Try.func10 (by kernel_rfl) (by kernel_rfl) (by exact @link _ (vcFunc tab (gOf [(41, fL_szFlowSC)]) R0 Try.f10 fL_szRingC noA) (by kernel_rfl) v_L_szRing)
theorem q_L_toTicket : PureC Try.prog 100 fL_toTicketC ∧ CallOk Try.prog 100 :=
  mk (A := noA) gam_nil rules0 Try.func100 (by kernel_rfl) (by kernel_rfl) (by exact @link _ (vcFunc tab (gOf []) R0 Try.f100 fL_toTicketC noA) (by kernel_rfl) v_L_toTicket)
theorem q_L_toTicketS : PureC Try.prog 96 fL_toTicketSC ∧ CallOk Try.prog 96 :=
  mk (A := aL_toTicketS) (gam_cons q_L_toTicket gam_nil) rules0 Try.func96 (by kernel_rfl) (by kernel_rfl) (by exact @link _ (vcFunc tab (gOf [(100, fL_toTicketC)]) R0 Try.f96 fL_toTicketSC aL_toTicketS) (by kernel_rfl) v_L_toTicketS)
theorem q_L_toLine : PureC Try.prog 89 fL_toLineC ∧ CallOk Try.prog 89 :=
  mk (A := noA) (gam_cons q_L_toTicketS gam_nil) rules0 Try.func89 (by kernel_rfl) (by kernel_rfl) (by exact @link _ (vcFunc tab (gOf [(96, fL_toTicketSC)]) R0 Try.f89 fL_toLineC noA) (by kernel_rfl) v_L_toLine)
theorem q_L_toFlow : PureC Try.prog 69 fL_toFlowC ∧ CallOk Try.prog 69 :=
  mk (A := noA) (gam_cons q_L_toLine gam_nil) rules0 Try.func69 (by kernel_rfl) (by kernel_rfl) (by exact @link _ (vcFunc tab (gOf [(89, fL_toLineC)]) R0 Try.f69 fL_toFlowC noA) (by kernel_rfl) v_L_toFlow)
theorem q_L_toFlowS : PureC Try.prog 44 fL_toFlowSC ∧ CallOk Try.prog 44 :=
  mk (A := aL_toFlowS) (gam_cons q_L_toFlow gam_nil) rules0 Try.func44 (by kernel_rfl) (by kernel_rfl) (by exact @link _ (vcFunc tab (gOf [(69, fL_toFlowC)]) R0 Try.f44 fL_toFlowSC aL_toFlowS) (by kernel_rfl) v_L_toFlowS)
theorem q_L_toRing : PureC Try.prog 12 fL_toRingC ∧ CallOk Try.prog 12 :=
  mk (A := noA) (gam_cons q_L_toFlowS gam_nil) rules0 Try.func12 (by kernel_rfl) (by kernel_rfl) (by exact @link _ (vcFunc tab (gOf [(44, fL_toFlowSC)]) R0 Try.f12 fL_toRingC noA) (by kernel_rfl) v_L_toRing)
theorem qt_L_toFlowST : TreeOk Try.prog 44 fL_toFlowSTC ∧ CallOk Try.prog 44 :=
  mkTree (A := aL_toFlowST) (gam_cons q_L_toFlow gam_nil) (rul_tell rul_nil) Try.func44 (by kernel_rfl) (by kernel_rfl) (by exact @link _ (vcTree tab (gOf [(69, fL_toFlowC)]) (rOf [(1000000, tellR)]) Try.f44 fL_toFlowSTC aL_toFlowST) (by kernel_rfl) v_L_toFlowST)
theorem q_L_toFlowST : RuleOk Try.prog 44 (treeRule fL_toFlowSTC) ∧ CallOk Try.prog 44 := ⟨tree_rule qt_L_toFlowST.1, qt_L_toFlowST.2⟩
theorem qt_L_toRingT : TreeOk Try.prog 12 fL_toRingTC ∧ CallOk Try.prog 12 :=
  mkTree (A := noA) gam_nil (rul_tell (rul_cons q_L_toFlowST rul_nil)) Try.func12 (by kernel_rfl) (by kernel_rfl) (by exact @link _ (vcTree tab (gOf []) (rOf [(1000000, tellR), (44, treeRule fL_toFlowSTC)]) Try.f12 fL_toRingTC noA) (by kernel_rfl) v_L_toRingT)
theorem q_L_toRingT : RuleOk Try.prog 12 (treeRule fL_toRingTC) ∧ CallOk Try.prog 12 := ⟨tree_rule qt_L_toRingT.1, qt_L_toRingT.2⟩
theorem q_S_l13Copy : PureC Try.prog 68 fS_l13CopyC ∧ CallOk Try.prog 68 :=
  mk (A := aS_l13Copy) gam_nil rules0 Try.func68 (by kernel_rfl) (by kernel_rfl) (by exact @link _ (vcFunc tab (gOf []) R0 Try.f68 fS_l13CopyC aS_l13Copy) (by kernel_rfl) v_S_l13Copy)
theorem q_S_l14Copy : PureC Try.prog 42 fS_l14CopyC ∧ CallOk Try.prog 42 :=
  mk (A := aS_l14Copy) (gam_cons q_S_l13Copy gam_nil) rules0 Try.func42 (by kernel_rfl) (by kernel_rfl) (by exact @link _ (vcFunc tab (gOf [(68, fS_l13CopyC)]) R0 Try.f42 fS_l14CopyC aS_l14Copy) (by kernel_rfl) v_S_l14Copy)
theorem q_S_l14CopyT : RuleOk Try.prog 42 (treeRule fS_l14CopyTC) ∧ CallOk Try.prog 42 := ⟨tree_rule (tell_of_pure (p := fS_l14CopyC) rfl q_S_l14Copy.1 rfl rfl), q_S_l14Copy.2⟩
theorem q_S_l01In : PureC Try.prog 63 fS_l01InC ∧ CallOk Try.prog 63 :=
  mk (A := noA) gam_nil rules0 Try.func63 (by kernel_rfl) (by kernel_rfl) (by exact @link _ (vcFunc tab (gOf []) R0 Try.f63 fS_l01InC noA) (by kernel_rfl) v_S_l01In)
theorem q_S_l13Ticket : PureC Try.prog 87 fS_l13TicketC ∧ CallOk Try.prog 87 :=
  mk (A := noA) (gam_cons q_S_l01In gam_nil) rules0 Try.func87 (by kernel_rfl) (by kernel_rfl) (by exact @link _ (vcFunc tab (gOf [(63, fS_l01InC)]) R0 Try.f87 fS_l13TicketC noA) (by kernel_rfl) v_S_l13Ticket)
theorem q_S_LineOk : PureC Try.prog 66 fS_LineOkC ∧ CallOk Try.prog 66 :=
  mk (A := aS_LineOk) (gam_cons q_S_l13Ticket gam_nil) rules0 Try.func66 (by kernel_rfl) (by kernel_rfl) (by exact @link _ (vcFunc tab (gOf [(87, fS_l13TicketC)]) R0 Try.f66 fS_LineOkC aS_LineOk) (by kernel_rfl) v_S_LineOk)
theorem q_S_l14Flow : PureC Try.prog 64 fS_l14FlowC ∧ CallOk Try.prog 64 :=
  mk (A := noA) (gam_cons q_S_l01In (gam_cons q_S_LineOk gam_nil)) rules0 Try.func64 (by kernel_rfl) (by kernel_rfl) (by exact @link _ (vcFunc tab (gOf [(63, fS_l01InC), (66, fS_LineOkC)]) R0 Try.f64 fS_l14FlowC noA) (by kernel_rfl) v_S_l14Flow)
theorem q_S_RingOk : PureC Try.prog 34 fS_RingOkC ∧ CallOk Try.prog 34 :=
  mk (A := aS_RingOk) (gam_cons q_S_l01In (gam_cons q_S_l14Flow gam_nil)) rules0 Try.func34 (by kernel_rfl) (by kernel_rfl) (by exact @link _ (vcFunc tab (gOf [(63, fS_l01InC), (64, fS_l14FlowC)]) R0 Try.f34 fS_RingOkC aS_RingOk) (by kernel_rfl) v_S_RingOk)
theorem q_S_Waiting : PureC Try.prog 36 fS_WaitingC ∧ CallOk Try.prog 36 :=
  mk (A := aS_Waiting) (gam_cons q_S_RingOk gam_nil) rules0 Try.func36 (by kernel_rfl) (by kernel_rfl) (by exact @link _ (vcFunc tab (gOf [(34, fS_RingOkC)]) R0 Try.f36 fS_WaitingC aS_Waiting) (by kernel_rfl) v_S_Waiting)
theorem q_S_Cancel : PureC Try.prog 52 fS_CancelC ∧ CallOk Try.prog 52 :=
  mk (A := aS_Cancel) (gam_cons q_S_LineOk (gam_cons q_S_l13Copy gam_nil)) rules0 Try.func52 (by kernel_rfl) (by kernel_rfl) (by exact @link _ (vcFunc tab (gOf [(66, fS_LineOkC), (68, fS_l13CopyC)]) R0 Try.f52 fS_CancelC aS_Cancel) (by kernel_rfl) v_S_Cancel)
theorem q_S_Pop : PureC Try.prog 80 fS_PopC ∧ CallOk Try.prog 80 :=
  mk (A := noA) (gam_cons q_S_LineOk (gam_cons q_S_l13Copy (gam_cons q_S_Cancel gam_nil))) rules0 Try.func80 (by kernel_rfl) (by kernel_rfl) (by exact @link _ (vcFunc tab (gOf [(66, fS_LineOkC), (68, fS_l13CopyC), (52, fS_CancelC)]) R0 Try.f80 fS_PopC noA) (by kernel_rfl) v_S_Pop)
theorem q_S_l14Next : RuleOk Try.prog 55 (refRule fS_l14NextC) ∧ CallOk Try.prog 55 :=
  mkRef (A := aS_l14Next) (gam_cons q_S_Pop gam_nil) (rul_tell rul_nil) Try.func55 (by kernel_rfl) (by kernel_rfl) rfl (by exact @link _ (vcRef tab (gOf [(80, fS_PopC)]) (rOf [(1000000, tellR)]) Try.f55 fS_l14NextC aS_l14Next) (by kernel_rfl) v_S_l14Next)
theorem qt_S_DrainRingT : TreeOk Try.prog 24 fS_DrainRingTC ∧ CallOk Try.prog 24 :=
  mkTree (A := aS_DrainRing) (gam_cons q_S_Waiting gam_nil) (rul_tell (rul_cons q_S_l14CopyT (rul_cons q_S_l14Next rul_nil))) Try.func24 (by kernel_rfl) (by kernel_rfl) (by exact @link _ (vcTree tab (gOf [(36, fS_WaitingC)]) (rOf [(1000000, tellR), (42, treeRule fS_l14CopyTC), (55, refRule fS_l14NextC)]) Try.f24 fS_DrainRingTC aS_DrainRing) (by kernel_rfl) v_S_DrainRingT)
theorem q_S_DrainRingT : RuleOk Try.prog 24 (treeRule fS_DrainRingTC) ∧ CallOk Try.prog 24 := ⟨tree_rule qt_S_DrainRingT.1, qt_S_DrainRingT.2⟩
theorem q_S_DrainRing : PureC Try.prog 24 fS_DrainRingC ∧ CallOk Try.prog 24 := ⟨pure_of_tree qt_S_DrainRingT.1, qt_S_DrainRingT.2⟩
theorem q_I_copyLine : PureC Try.prog 70 fI_copyLineC ∧ CallOk Try.prog 70 :=
  mk (A := noA) gam_nil rules0 Try.func70 (by kernel_rfl) (by kernel_rfl) (by exact @link _ (vcFunc tab (gOf []) R0 Try.f70 fI_copyLineC noA) (by kernel_rfl) v_I_copyLine)
theorem qt_I_copyRingT : TreeOk Try.prog 45 fI_copyRingTC ∧ CallOk Try.prog 45 :=
  mkTree (A := aI_copyRing) (gam_cons q_I_copyLine gam_nil) (rul_tell rul_nil) Try.func45 (by kernel_rfl) (by kernel_rfl) (by exact @link _ (vcTree tab (gOf [(70, fI_copyLineC)]) (rOf [(1000000, tellR)]) Try.f45 fI_copyRingTC aI_copyRing) (by kernel_rfl) v_I_copyRingT)
theorem q_I_copyRingT : RuleOk Try.prog 45 (treeRule fI_copyRingTC) ∧ CallOk Try.prog 45 := ⟨tree_rule qt_I_copyRingT.1, qt_I_copyRingT.2⟩
theorem q_I_isTicket : PureC Try.prog 90 fI_isTicketC ∧ CallOk Try.prog 90 :=
  mk (A := noA) gam_nil rules0 Try.func90 (by kernel_rfl) (by kernel_rfl) (by exact @link _ (vcFunc tab (gOf []) R0 Try.f90 fI_isTicketC noA) (by kernel_rfl) v_I_isTicket)
theorem q_I_isLine : PureC Try.prog 73 fI_isLineC ∧ CallOk Try.prog 73 :=
  mk (A := aI_isLine) (gam_cons q_I_isTicket gam_nil) rules0 Try.func73 (by kernel_rfl) (by kernel_rfl) (by exact @link _ (vcFunc tab (gOf [(90, fI_isTicketC)]) R0 Try.f73 fI_isLineC aI_isLine) (by kernel_rfl) v_I_isLine)
theorem q_I_isRing : PureC Try.prog 47 fI_isRingC ∧ CallOk Try.prog 47 :=
  mk (A := aI_isRing) (gam_cons q_I_isLine gam_nil) rules0 Try.func47 (by kernel_rfl) (by kernel_rfl) (by exact @link _ (vcFunc tab (gOf [(73, fI_isLineC)]) R0 Try.f47 fI_isRingC aI_isRing) (by kernel_rfl) v_I_isRing)
theorem q_I_waiting : PureC Try.prog 65 fI_waitingC ∧ CallOk Try.prog 65 :=
  mk (A := aI_waiting) gam_nil rules0 Try.func65 (by kernel_rfl) (by kernel_rfl) (by exact @link _ (vcFunc tab (gOf []) R0 Try.f65 fI_waitingC aI_waiting) (by kernel_rfl) v_I_waiting)
section
open Go.RowKit Go.Lib Go.Sort
theorem ownDELimpl_Ticket_mixed : Try.prog.follows .mixedOrders = true := by kernel_rfl
theorem ownDELimpl_Ticket_t0 : Try.prog.underlying 0 = some (TypeDesc.tuple #[]) := by kernel_rfl
theorem ownDELimpl_Ticket_a0 : ∀ w, (isAgg 0).run Try.prog w = .ok false w := fun w => by kernel_rfl
theorem ownDELimpl_Ticket_z0 : ∀ w, (Go.sizeOf 0).run Try.prog w = .ok 1 w := fun w => by kernel_rfl
theorem ownDELimpl_Ticket_v0 : ∀ w, (zeroValue 0).run Try.prog w = .ok (Value.tuple #[]) w := fun w => by kernel_rfl
theorem ownDELimpl_Ticket_t3 : Try.prog.underlying 3 = some (TypeDesc.int IntKind.i64) := by kernel_rfl
theorem ownDELimpl_Ticket_a3 : ∀ w, (isAgg 3).run Try.prog w = .ok false w := fun w => by kernel_rfl
theorem ownDELimpl_Ticket_z3 : ∀ w, (Go.sizeOf 3).run Try.prog w = .ok 1 w := fun w => by kernel_rfl
theorem ownDELimpl_Ticket_v3 : ∀ w, (zeroValue 3).run Try.prog w = .ok (Value.int IntKind.i64 0) w := fun w => by kernel_rfl
theorem ownDELimpl_Ticket_t4 : Try.prog.underlying 4 = some TypeDesc.bool := by kernel_rfl
theorem ownDELimpl_Ticket_a4 : ∀ w, (isAgg 4).run Try.prog w = .ok false w := fun w => by kernel_rfl
theorem ownDELimpl_Ticket_z4 : ∀ w, (Go.sizeOf 4).run Try.prog w = .ok 1 w := fun w => by kernel_rfl
theorem ownDELimpl_Ticket_v4 : ∀ w, (zeroValue 4).run Try.prog w = .ok (Value.bool false) w := fun w => by kernel_rfl
theorem ownDELimpl_Ticket_tS : Try.prog.underlying 60 = some (TypeDesc.slice 36) := by kernel_rfl
theorem ownDELimpl_Ticket_aS : ∀ w, (isAgg 60).run Try.prog w = .ok false w := fun w => by kernel_rfl
theorem ownDELimpl_Ticket_zS : ∀ w, (Go.sizeOf 60).run Try.prog w = .ok 1 w := fun w => by kernel_rfl
theorem ownDELimpl_Ticket_vS : ∀ w, (zeroValue 60).run Try.prog w = .ok (Value.slice none 0 0) w := fun w => by kernel_rfl

set_option maxHeartbeats 4000000 in
set_option maxRecDepth 1000000 in
theorem ownDELimpl_Ticket_same (v : Value) (i : Nat) (w : World) (hv : v = .slice none 0 0 ∧ i = 0 ∨ ∃ blk n cap, v = .slice (some ⟨blk, 0, none⟩) n cap ∧ n ≤ cap ∧ i ≤ n) :
    Calls Try.prog 79 #[v, .int .i64 i, .int .i64 i] w fun e w' => e = .returned v ∧ w' = w := by
  have mixed := ownDELimpl_Ticket_mixed; have t0 := ownDELimpl_Ticket_t0; have a0 := ownDELimpl_Ticket_a0; have z0 := ownDELimpl_Ticket_z0; have v0 := ownDELimpl_Ticket_v0; have t3 := ownDELimpl_Ticket_t3; have a3 := ownDELimpl_Ticket_a3; have z3 := ownDELimpl_Ticket_z3; have v3 := ownDELimpl_Ticket_v3; have t4 := ownDELimpl_Ticket_t4; have a4 := ownDELimpl_Ticket_a4; have z4 := ownDELimpl_Ticket_z4; have v4 := ownDELimpl_Ticket_v4; have tS := ownDELimpl_Ticket_tS; have aS := ownDELimpl_Ticket_aS; have zS := ownDELimpl_Ticket_zS; have vS := ownDELimpl_Ticket_vS
  rcases hv with ⟨rfl, rfl⟩ | ⟨blk, n, cap, rfl, h1, h2⟩
  · go_enter Try.func79, Try.ntmps79
    go_wp2
    all_goals (go_ret; exact ⟨rfl, rfl⟩)
  · go_enter Try.func79, Try.ntmps79
    go_wp2
    all_goals (go_ret; exact ⟨rfl, rfl⟩)

set_option maxHeartbeats 4000000 in
set_option maxRecDepth 1000000 in
theorem ownDELimpl_Ticket_cut (blk n cap i j : Nat) (news : List Value) (w : World) (hcap : n ≤ cap) (hij : i < j) (hj : j ≤ n) (hl : news.length = (n - j) * 2)
    (hsrc : ∀ t u, news[t]? = some u → w.cell? ⟨blk, j * 2 + t, none⟩ = some u) (h1c : ∀ u ∈ news, u.oneCell' = true)
    (hsp : ∀ t, t < n * 2 → (w.cell? ⟨blk, t, none⟩).isSome = true ∧ w.frozen? ⟨blk, t, none⟩ = false) :
    Calls Try.prog 79 #[.slice (some ⟨blk, 0, none⟩) n cap, .int .i64 i, .int .i64 j] w fun e w' => e = .returned (.slice (some ⟨blk, 0, none⟩) (i + (n - j)) cap) ∧
      ∃ zs : List Value, zs.length = (n - (i + (n - j))) * 2 ∧ w' = (w.drew.setCells blk (i * 2) news).setCells blk ((i + (n - j)) * 2) zs := by
  have mixed := ownDELimpl_Ticket_mixed; have t0 := ownDELimpl_Ticket_t0; have a0 := ownDELimpl_Ticket_a0; have z0 := ownDELimpl_Ticket_z0; have v0 := ownDELimpl_Ticket_v0; have t3 := ownDELimpl_Ticket_t3; have a3 := ownDELimpl_Ticket_a3; have z3 := ownDELimpl_Ticket_z3; have v3 := ownDELimpl_Ticket_v3; have t4 := ownDELimpl_Ticket_t4; have a4 := ownDELimpl_Ticket_a4; have z4 := ownDELimpl_Ticket_z4; have v4 := ownDELimpl_Ticket_v4; have tS := ownDELimpl_Ticket_tS; have aS := ownDELimpl_Ticket_aS; have zS := ownDELimpl_Ticket_zS; have vS := ownDELimpl_Ticket_vS
  obtain ⟨i0, hi0, hz1⟩ : ∃ i0, Try.prog.info? 36 = some i0 ∧ i0.size = 2 := Option.map_eq_some_iff.1 (show (Try.prog.info? 36).map (fun i => i.size) = some 2 by kernel_rfl)
  have vE : ∀ w, (zeroValue 36).run Try.prog w = .ok (.agg #[.int .i64 0, .int .i64 0]) w := fun w => by kernel_rfl
  obtain ⟨A, hA, hsrc'⟩ : ∃ A : Addr, (if cap = j then some (⟨blk, 0, none⟩ : Addr) else some ⟨blk, j * 2, none⟩) = some A ∧ Hid (∀ t u, news[t]? = some u → w.drew.cell? (A.add t) = some u) := by
    by_cases h : cap = j
    · refine ⟨⟨blk, 0, none⟩, by simp [h], fun t u hu => ?_⟩
      have h0 : news.length = 0 := by rw [hl]; omega
      rw [List.length_eq_zero_iff.1 h0] at hu
      simp at hu
    · exact ⟨⟨blk, j * 2, none⟩, by simp [h], fun t u hu => by rw [Addr.add_lit]; exact hsrc t u hu⟩
  have s1 : Hid (news.length = (n - j) * 2) := hl
  have s2 : Hid (∀ u ∈ news, u.oneCell' = true) := h1c
  have s3 : Hid (∀ t, t < news.length → (w.drew.cell? ⟨blk, 0 + i * 2 + t, none⟩).isSome = true ∧ w.drew.frozen? ⟨blk, 0 + i * 2 + t, none⟩ = false) := by
    intro t ht
    rw [hl] at ht
    rw [Nat.zero_add]
    exact hsp (i * 2 + t) (by omega)
  obtain ⟨W1, hW1⟩ : ∃ W1, W1 = w.drew.setCells blk (0 + i * 2) news := ⟨_, rfl⟩
  have hsp1 : ∀ t, t < n * 2 → (W1.cell? ⟨blk, t, none⟩).isSome = true ∧ W1.frozen? ⟨blk, t, none⟩ = false := by
    intro t ht
    subst hW1
    refine ⟨?_, by rw [World.frozen?_setCells]; exact (hsp t ht).2⟩
    by_cases hin : i * 2 ≤ t ∧ t < i * 2 + news.length
    · have h2 := World.cell?_setCells_in blk news (0 + i * 2) w.drew (fun k hk => (s3.out k hk).1) (t - i * 2) (by omega)
      rw [show 0 + i * 2 + (t - i * 2) = t by omega] at h2
      rw [h2]; rfl
    · rw [World.cell?_setCells_out blk news _ _ _ (fun _ _ => by show t < 0 + i * 2 ∨ 0 + i * 2 + news.length ≤ t; omega)]
      exact (hsp t ht).1
  obtain ⟨zs, hzs, hcl⟩ : ∃ zs : List Value, zs.length = (n - (i + (n - j))) * 2 ∧ ∀ ty, (Builtin.clear_ #[60] ty #[.slice (some ⟨blk, (i + (n - j)) * 2, none⟩) (n - (i + (n - j))) (cap - (i + (n - j)))]).run Try.prog W1 = .ok (.tuple #[]) (W1.setCells blk ((i + (n - j)) * 2) zs) := by
    refine ⟨(Builtin.zeroCells (Value.agg #[.int .i64 0, .int .i64 0]).cells (n - (i + (n - j)))).toList, by simp [Builtin.zeroCells, Value.cells], fun ty => ?_⟩
    refine run_clear_many W1 _ _ ty _ tS vE (by simp [Value.cells, Value.oneCell']) (by simp [Value.cells]) blk _ _ _ (by omega) (fun t ht => ?_) (fun t ht => ?_)
    · have h2 : (Value.agg #[.int .i64 0, .int .i64 0]).cells.size = 2 := rfl
      rw [h2] at ht
      exact (hsp1 _ (by omega)).1
    · have h2 : (Value.agg #[.int .i64 0, .int .i64 0]).cells.size = 2 := rfl
      rw [h2] at ht
      exact (hsp1 _ (by omega)).2
  have hW : Hid (W1 = w.drew.setCells blk (0 + i * 2) news) := hW1
  have hic : i ≤ cap := by omega
  have hjc : j ≤ cap := by omega
  clear hW1 hsp1 hsp hsrc hl vE
  go_enter Try.func79, Try.ntmps79
  go_wp2_with fail
  go_region_law_o (refine step_append_room rfl (.tmp 22) (.tmp 25) 60 rfl 36 i0 2 tS hi0 hz1 blk 0 i cap (by simp [Act.eval, Act.put]) A (n - j) (cap - j) news (by simp [Act.eval, Act.put]) s1.out hsrc'.out s2.out (by omega) s3.out ?_; rw [← hW.out])
  go_wp2
  all_goals (go_ret; refine ⟨rfl, zs, hzs, ?_⟩; rw [hW.out, Nat.zero_add])
theorem q_ownDELimpl_Ticket : RuleOk Try.prog 79 (delRule tkT) ∧ CallOk Try.prog 79 :=
  ⟨del_rule ⟨ownDELimpl_Ticket_same, ownDELimpl_Ticket_cut⟩, _, Try.func79, by kernel_rfl, by kernel_rfl⟩
end
theorem q_I_withoutTicket : PureC Try.prog 54 fI_withoutTicketC ∧ CallOk Try.prog 54 :=
  mk (A := noA) (gam_cons q_I_copyLine gam_nil) (rul_cons q_ownDELimpl_Ticket rul_nil) Try.func54 (by kernel_rfl) (by kernel_rfl) (by exact @link _ (vcFunc tab (gOf [(70, fI_copyLineC)]) (rOf [(79, (delRule tkT))]) Try.f54 fI_withoutTicketC noA) (by kernel_rfl) v_I_withoutTicket)
theorem q_I_next : RuleOk Try.prog 56 (refRule fI_nextC) ∧ CallOk Try.prog 56 :=
  mkRef (A := aI_next) (gam_cons q_I_waiting (gam_cons q_I_withoutTicket gam_nil)) (rul_tell rul_nil) Try.func56 (by kernel_rfl) (by kernel_rfl) rfl (by exact @link _ (vcRef tab (gOf [(65, fI_waitingC), (54, fI_withoutTicketC)]) (rOf [(1000000, tellR)]) Try.f56 fI_nextC aI_next) (by kernel_rfl) v_I_next)
theorem qt_I_DrainRingT : TreeOk Try.prog 25 fI_DrainRingTC ∧ CallOk Try.prog 25 :=
  mkTree (A := aI_DrainRing) (gam_cons q_I_isRing gam_nil) (rul_tell (rul_cons q_I_copyRingT (rul_cons q_I_next rul_nil))) Try.func25 (by kernel_rfl) (by kernel_rfl) (by exact @link _ (vcTree tab (gOf [(47, fI_isRingC)]) (rOf [(1000000, tellR), (45, treeRule fI_copyRingTC), (56, refRule fI_nextC)]) Try.f25 fI_DrainRingTC aI_DrainRing) (by kernel_rfl) v_I_DrainRingT)
theorem q_I_DrainRingT : RuleOk Try.prog 25 (treeRule fI_DrainRingTC) ∧ CallOk Try.prog 25 := ⟨tree_rule qt_I_DrainRingT.1, qt_I_DrainRingT.2⟩
theorem q_L_eqTicket : PureC Try.prog 19 fL_eqTicketC ∧ CallOk Try.prog 19 :=
  mk (A := noA) gam_nil rules0 Try.func19 (by kernel_rfl) (by kernel_rfl) (by exact @link _ (vcFunc tab (gOf []) R0 Try.f19 fL_eqTicketC noA) (by kernel_rfl) v_L_eqTicket)
theorem q_L_eqTicketS : PureC Try.prog 97 fL_eqTicketSC ∧ CallOk Try.prog 97 :=
  mk (A := aL_eqTicketS) (gam_cons q_L_eqTicket gam_nil) rules0 Try.func97 (by kernel_rfl) (by kernel_rfl) (by exact @link _ (vcFunc tab (gOf [(19, fL_eqTicketC)]) R0 Try.f97 fL_eqTicketSC aL_eqTicketS) (by kernel_rfl) v_L_eqTicketS)
theorem q_L_eqLine : PureC Try.prog 91 fL_eqLineC ∧ CallOk Try.prog 91 :=
  mk (A := noA) (gam_cons q_L_eqTicketS gam_nil) rules0 Try.func91 (by kernel_rfl) (by kernel_rfl) (by exact @link _ (vcFunc tab (gOf [(97, fL_eqTicketSC)]) R0 Try.f91 fL_eqLineC noA) (by kernel_rfl) v_L_eqLine)
theorem q_L_eqFlow : PureC Try.prog 74 fL_eqFlowC ∧ CallOk Try.prog 74 :=
  mk (A := noA) (gam_cons q_L_eqLine gam_nil) rules0 Try.func74 (by kernel_rfl) (by kernel_rfl) (by exact @link _ (vcFunc tab (gOf [(91, fL_eqLineC)]) R0 Try.f74 fL_eqFlowC noA) (by kernel_rfl) v_L_eqFlow)
theorem q_L_eqFlowS : PureC Try.prog 49 fL_eqFlowSC ∧ CallOk Try.prog 49 :=
  mk (A := aL_eqFlowS) (gam_cons q_L_eqFlow gam_nil) rules0 Try.func49 (by kernel_rfl) (by kernel_rfl) (by exact @link _ (vcFunc tab (gOf [(74, fL_eqFlowC)]) R0 Try.f49 fL_eqFlowSC aL_eqFlowS) (by kernel_rfl) v_L_eqFlowS)
theorem q_L_eqRing : PureC Try.prog 14 fL_eqRingC ∧ CallOk Try.prog 14 :=
  mk (A := noA) (gam_cons q_L_eqFlowS gam_nil) rules0 Try.func14 (by kernel_rfl) (by kernel_rfl) (by exact @link _ (vcFunc tab (gOf [(49, fL_eqFlowSC)]) R0 Try.f14 fL_eqRingC noA) (by kernel_rfl) v_L_eqRing)
theorem q_L_eqServed : PureC Try.prog 58 fL_eqServedC ∧ CallOk Try.prog 58 :=
  mk (A := noA) gam_nil rules0 Try.func58 (by kernel_rfl) (by kernel_rfl) (by exact @link _ (vcFunc tab (gOf []) R0 Try.f58 fL_eqServedC noA) (by kernel_rfl) v_L_eqServed)
theorem q_L_eqServedS : PureC Try.prog 26 fL_eqServedSC ∧ CallOk Try.prog 26 :=
  mk (A := aL_eqServedS) (gam_cons q_L_eqServed gam_nil) rules0 Try.func26 (by kernel_rfl) (by kernel_rfl) (by exact @link _ (vcFunc tab (gOf [(58, fL_eqServedC)]) R0 Try.f26 fL_eqServedSC aL_eqServedS) (by kernel_rfl) v_L_eqServedS)
theorem q_L_markTicketS : RuleOk Try.prog 75 (ruleOf fL_markTicketSC) ∧ CallOk Try.prog 75 :=
  mkM (A := aL_markTicketS) gam_nil rules0 Try.func75 (by kernel_rfl) (by kernel_rfl) rfl (by exact @link _ (vcMut tab (gOf []) R0 Try.f75 fL_markTicketSC aL_markTicketS) (by kernel_rfl) v_L_markTicketS)
theorem q_L_markTicketSE : PureC Try.prog 75 fL_markTicketSEC ∧ CallOk Try.prog 75 :=
  mk (A := aL_markTicketSE) gam_nil rules0 Try.func75 (by kernel_rfl) (by kernel_rfl) (by exact @link _ (vcFunc tab (gOf []) R0 Try.f75 fL_markTicketSEC aL_markTicketSE) (by kernel_rfl) v_L_markTicketSE)
theorem q_both_fL_markTicketSC : RuleOk Try.prog 75 (bothRule tkT fL_markTicketSC.pre fL_markTicketSC.F fL_markTicketSC.G) ∧ CallOk Try.prog 75 := ⟨both_rule q_L_markTicketS.1 q_L_markTicketSE.1 rfl, q_L_markTicketS.2⟩
theorem q_L_markFlowS : RuleOk Try.prog 50 (markRule fL_markFlowSC) ∧ CallOk Try.prog 50 :=
  mkMark (A := aL_markFlowS) gam_nil (rul_cons q_both_fL_markTicketSC rul_nil) Try.func50 (by kernel_rfl) (by kernel_rfl) rfl (by exact @link _ (vcMutT tab (gOf []) (rOf [(75, bothRule tkT fL_markTicketSC.pre fL_markTicketSC.F fL_markTicketSC.G)]) Try.f50 fL_markFlowSC aL_markFlowS) (by kernel_rfl) v_L_markFlowS)
theorem q_L_markRing : RuleOk Try.prog 15 (markRule fL_markRingC) ∧ CallOk Try.prog 15 :=
  mkMark (A := noM0) gam_nil (rul_cons q_L_markFlowS rul_nil) Try.func15 (by kernel_rfl) (by kernel_rfl) rfl (by exact @link _ (vcMutT tab (gOf []) (rOf [(50, markRule fL_markFlowSC)]) Try.f15 fL_markRingC noM0) (by kernel_rfl) v_L_markRing)
theorem q_L_markServedS : RuleOk Try.prog 27 (ruleOf fL_markServedSC) ∧ CallOk Try.prog 27 :=
  mkM (A := aL_markServedS) gam_nil rules0 Try.func27 (by kernel_rfl) (by kernel_rfl) rfl (by exact @link _ (vcMut tab (gOf []) R0 Try.f27 fL_markServedSC aL_markServedS) (by kernel_rfl) v_L_markServedS)
theorem q_L_heldTicketS : PureC Try.prog 76 fL_heldTicketSC ∧ CallOk Try.prog 76 :=
  mk (A := aL_heldTicketS) gam_nil rules0 Try.func76 (by kernel_rfl) (by kernel_rfl) (by exact @link _ (vcFunc tab (gOf []) R0 Try.f76 fL_heldTicketSC aL_heldTicketS) (by kernel_rfl) v_L_heldTicketS)
theorem q_L_heldFlowS : PureC Try.prog 51 fL_heldFlowSC ∧ CallOk Try.prog 51 :=
  mk (A := aL_heldFlowS) (gam_cons q_L_heldTicketS gam_nil) rules0 Try.func51 (by kernel_rfl) (by kernel_rfl) (by exact @link _ (vcFunc tab (gOf [(76, fL_heldTicketSC)]) R0 Try.f51 fL_heldFlowSC aL_heldFlowS) (by kernel_rfl) v_L_heldFlowS)
theorem q_L_heldRing : PureC Try.prog 16 fL_heldRingC ∧ CallOk Try.prog 16 :=
  mk (A := noA) (gam_cons q_L_heldFlowS gam_nil) rules0 Try.func16 (by kernel_rfl) (by kernel_rfl) (by exact @link _ (vcFunc tab (gOf [(51, fL_heldFlowSC)]) R0 Try.f16 fL_heldRingC noA) (by kernel_rfl) v_L_heldRing)
theorem q_L_heldServedS : PureC Try.prog 28 fL_heldServedSC ∧ CallOk Try.prog 28 :=
  mk (A := aL_heldServedS) gam_nil rules0 Try.func28 (by kernel_rfl) (by kernel_rfl) (by exact @link _ (vcFunc tab (gOf []) R0 Try.f28 fL_heldServedSC aL_heldServedS) (by kernel_rfl) v_L_heldServedS)
-- LAW
theorem q_law0 : PureC Try.prog 7 (lawC [ringA, i64T]) ∧ CallOk Try.prog 7 :=
  mk (A := aL_Dn) (gam_cons q_L_szRing (gam_cons q_L_toRing (gam_cons q_S_DrainRing (gam_cons q_L_eqRing (gam_cons q_L_eqServedS (gam_cons q_L_heldRing (gam_cons q_L_heldServedS gam_nil))))))) (rul_cons q_L_toRingT (rul_cons q_I_DrainRingT (rul_cons q_L_markRing (rul_cons q_L_markServedS rul_nil)))) Try.func7 (by kernel_rfl) (by kernel_rfl) (by exact @link _ (vcFunc tab (gOf [(10, fL_szRingC), (12, fL_toRingC), (24, fS_DrainRingC), (14, fL_eqRingC), (26, fL_eqServedSC), (16, fL_heldRingC), (28, fL_heldServedSC)]) (rOf [(12, treeRule fL_toRingTC), (25, treeRule fI_DrainRingTC), (15, markRule fL_markRingC), (27, ruleOf fL_markServedSC)]) Try.f7 (lawC [ringA, i64T]) aL_Dn) (by kernel_rfl) v_FnExactDrainRing)
theorem q_law : PureC Try.prog 7 (lawC [ringT, i64T]) ∧ CallOk Try.prog 7 := ⟨law_untold (ts := [ringA, i64T]) (by kernel_rfl) q_law0.1, q_law0.2⟩
end Go.SF
