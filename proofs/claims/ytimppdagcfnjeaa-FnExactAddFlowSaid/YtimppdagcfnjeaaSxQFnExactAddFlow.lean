/- FnExactAddFlow: the functions keep their contracts. No condition. -/
import Derived.Test.YtimppdagcfnjeaaSxPLine
import Derived.Test.YtimppdagcfnjeaaSxPRing
import Derived.Test.YtimppdagcfnjeaaSxPRingT
import Derived.Test.YtimppdagcfnjeaaSxPBase
import Derived.Test.YtimppdagcfnjeaaSxPLine2
import Derived.Test.YtimppdagcfnjeaaSxPRing2
import Derived.Test.YtimppdagcfnjeaaSxPRingV
import Derived.Test.YtimppdagcfnjeaaSxPMark
import Derived.Test.YtimppdagcfnjeaaSxPRingB
import Derived.Test.YtimppdagcfnjeaaSxPFnExactAddFlow
import Derived.Shelf.RegionOpenPlain
import Derived.WalkKit
import Derived.Deep.LoopGhost
import Derived.Deep.RegionLaw
import Derived.Lib.Walk
import Derived.Test.YtimppdagcfnjeaaSxTab
import Derived.Test.YtimppdagcfnjeaaChecked
import Derived.KernelRfl
namespace Go.SF
open Go.SX Go.Proofs
set_option maxRecDepth 100000
set_option linter.unusedVariables false
theorem rules0 {P : Program} : RulesOk P R0 := fun f r h _ => by cases h
theorem gam_nil {P : Program} : GamOk P (gOf []) := fun f c h => by cases h
theorem gam_cons {P : Program} {k : Nat} {c : PC} {r : List (Nat × PC)} (h : PureC P k c ∧ CallOk P k) (hr : GamOk P (gOf r)) : GamOk P (gOf ((k, c) :: r)) := by
  intro f c' h'
  unfold gOf at h'
  split at h'
  · rename_i e
    injection h' with h'
    subst h'; subst e
    exact h
  · exact hr f c' h'
theorem rul_nil {P : Program} : RulesOk P (rOf []) := fun f c h _ => by cases h
theorem rul_cons {P : Program} {k : Nat} {c : Rule} {r : List (Nat × Rule)} (h : RuleOk P k c ∧ CallOk P k) (hr : RulesOk P (rOf r)) : RulesOk P (rOf ((k, c) :: r)) := by
  intro f c' h' hne
  unfold rOf at h'
  split at h'
  · rename_i e
    injection h' with h'
    subst h'; subst e
    exact h
  · exact hr f c' h' hne
theorem rul_tell {P : Program} {r : List (Nat × Rule)} (hr : RulesOk P (rOf r)) : RulesOk P (rOf ((1000000, tellR) :: r)) := by
  intro f c' h' hne
  unfold rOf at h'
  split at h'
  · rename_i e
    exact absurd e hne
  · exact hr f c' h' hne
theorem tabOk : TabOk Try.prog tab := tabOk_of (by kernel_rfl)
theorem mixed : Try.prog.follows .mixedOrders = true := by kernel_rfl
theorem mk {Γ : FuncId → Option PC} {f : FuncId} {fn : Func} {c : PC} {A : Tup c.ts → Nat → Option Ann} {R : FuncId → Option Rule} (hΓ : GamOk Try.prog Γ) (hR : RulesOk Try.prog R) (hf : Try.prog.funcs[f]? = some fn) (h1 : (fn.name == "runtime.NumGoroutine") = false) (h2 : fn.body.isNone = false)
    (h : vcFunc tab Γ R fn c A) : PureC Try.prog f c ∧ CallOk Try.prog f := ⟨vcFunc_pure mixed tabOk hΓ hR hf h, fn, hf, h1, h2⟩
theorem mkM {Γ : FuncId → Option PC} {R : FuncId → Option Rule} {f : FuncId} {fn : Func} {c : MC} {A : c.t.den → Int → Nat → Option Ann} (hΓ : GamOk Try.prog Γ) (hR : RulesOk Try.prog R) (hf : Try.prog.funcs[f]? = some fn) (h1 : (fn.name == "runtime.NumGoroutine") = false) (h2 : fn.body.isNone = false)
    (hl : c.t.lendable = true) (h : vcMut tab Γ R fn c A) : RuleOk Try.prog f (ruleOf c) ∧ CallOk Try.prog f := ⟨vcMut_rule mixed tabOk hΓ hR hf hl h, fn, hf, h1, h2⟩
theorem mkTree {Γ : FuncId → Option PC} {R : FuncId → Option Rule} {f : FuncId} {fn : Func} {c : TC} {A : Tup c.ts → Nat → Option Ann} (hΓ : GamOk Try.prog Γ) (hR : RulesOk Try.prog R) (hf : Try.prog.funcs[f]? = some fn) (h1 : (fn.name == "runtime.NumGoroutine") = false) (h2 : fn.body.isNone = false)
    (h : vcTree tab Γ R fn c A) : TreeOk Try.prog f c ∧ CallOk Try.prog f := ⟨vcTree_ok mixed tabOk hΓ hR hf h, fn, hf, h1, h2⟩
theorem mkMark {Γ : FuncId → Option PC} {R : FuncId → Option Rule} {f : FuncId} {fn : Func} {c : MT} {A : c.t.den → Int → Nat → Option Ann} (hΓ : GamOk Try.prog Γ) (hR : RulesOk Try.prog R) (hf : Try.prog.funcs[f]? = some fn) (h1 : (fn.name == "runtime.NumGoroutine") = false) (h2 : fn.body.isNone = false)
    (hl : c.t.lendBy Ty.gcl = true) (h : vcMutT tab Γ R fn c A) : RuleOk Try.prog f (markRule c) ∧ CallOk Try.prog f := ⟨mark_rule mixed tabOk hΓ hR hf hl h, fn, hf, h1, h2⟩
theorem mkCut {Γ : FuncId → Option PC} {R : FuncId → Option Rule} {f : FuncId} {fn : Func} {c : CC} {A : List c.e.den → Nat → Option Ann} (hΓ : GamOk Try.prog Γ) (hR : RulesOk Try.prog R) (hf : Try.prog.funcs[f]? = some fn) (h1 : (fn.name == "runtime.NumGoroutine") = false) (h2 : fn.body.isNone = false)
    (hl : c.e.flat = true) (h : vcCut tab Γ R fn c A) : RuleOk Try.prog f (cutRule c) ∧ CallOk Try.prog f := ⟨vcCut_rule mixed tabOk hΓ hR hf hl h, fn, hf, h1, h2⟩
theorem mkBox {Γ : FuncId → Option PC} {R : FuncId → Option Rule} {f : FuncId} {fn : Func} {c : BC} {A : c.t.den → Tup c.ts → Nat → Option Ann} (hΓ : GamOk Try.prog Γ) (hR : RulesOk Try.prog R) (hf : Try.prog.funcs[f]? = some fn) (h1 : (fn.name == "runtime.NumGoroutine") = false) (h2 : fn.body.isNone = false)
    (h : vcBox tab Γ R fn c A) : RuleOk Try.prog f (boxRule c) ∧ CallOk Try.prog f := ⟨vcBox_rule mixed tabOk hΓ hR hf h, fn, hf, h1, h2⟩
theorem mkNew {Γ : FuncId → Option PC} {R : FuncId → Option Rule} {f : FuncId} {fn : Func} {c : NC} {A : Tup c.ts → Nat → Option Ann} (hΓ : GamOk Try.prog Γ) (hR : RulesOk Try.prog R) (hf : Try.prog.funcs[f]? = some fn) (h1 : (fn.name == "runtime.NumGoroutine") = false) (h2 : fn.body.isNone = false)
    (h : vcNew tab Γ R fn c A) : RuleOk Try.prog f (newRule c) ∧ CallOk Try.prog f := ⟨vcNew_rule mixed tabOk hΓ hR hf h, fn, hf, h1, h2⟩
theorem link {p q : Prop} (h : p = q) (hp : p) : q := h ▸ hp
theorem q_L_szTicketS : PureC Try.prog 99 fL_szTicketSC ∧ CallOk Try.prog 99 :=
  mk (A := noA) gam_nil rules0 Try.func99 (by kernel_rfl) (by kernel_rfl) (by exact @link _ (vcFunc tab (gOf []) R0 Try.f99 fL_szTicketSC noA) (by kernel_rfl) v_L_szTicketS)
theorem q_L_szLine : PureC Try.prog 92 fL_szLineC ∧ CallOk Try.prog 92 :=
  mk (A := noA) (gam_cons q_L_szTicketS gam_nil) rules0 Try.func92 (by kernel_rfl) (by kernel_rfl) (by exact @link _ (vcFunc tab (gOf [(99, fL_szTicketSC)]) R0 Try.f92 fL_szLineC noA) (by kernel_rfl) v_L_szLine)
theorem q_L_szFlow : PureC Try.prog 71 fL_szFlowC ∧ CallOk Try.prog 71 :=
  mk (A := noA) (gam_cons q_L_szLine gam_nil) rules0 Try.func71 (by kernel_rfl) (by kernel_rfl) (by exact @link _ (vcFunc tab (gOf [(92, fL_szLineC)]) R0 Try.f71 fL_szFlowC noA) (by kernel_rfl) v_L_szFlow)
theorem q_L_szFlowS : PureC Try.prog 44 fL_szFlowSC ∧ CallOk Try.prog 44 :=
  mk (A := aL_szFlowS) (gam_cons q_L_szFlow gam_nil) rules0 Try.func44 (by kernel_rfl) (by kernel_rfl) (by exact @link _ (vcFunc tab (gOf [(71, fL_szFlowC)]) R0 Try.f44 fL_szFlowSC aL_szFlowS) (by kernel_rfl) v_L_szFlowS)
theorem q_L_szRing : PureC Try.prog 11 fL_szRingC ∧ CallOk Try.prog 11 :=
  mk (A := noA) (gam_cons q_L_szFlowS gam_nil) rules0 Try.func11 (by kernel_rfl) (by kernel_rfl) (by exact @link _ (vcFunc tab (gOf [(44, fL_szFlowSC)]) R0 Try.f11 fL_szRingC noA) (by kernel_rfl) v_L_szRing)
theorem q_L_toTicket : PureC Try.prog 14 fL_toTicketC ∧ CallOk Try.prog 14 :=
  mk (A := noA) gam_nil rules0 Try.func14 (by kernel_rfl) (by kernel_rfl) (by exact @link _ (vcFunc tab (gOf []) R0 Try.f14 fL_toTicketC noA) (by kernel_rfl) v_L_toTicket)
theorem q_L_toTicketS : PureC Try.prog 100 fL_toTicketSC ∧ CallOk Try.prog 100 :=
  mk (A := aL_toTicketS) (gam_cons q_L_toTicket gam_nil) rules0 Try.func100 (by kernel_rfl) (by kernel_rfl) (by exact @link _ (vcFunc tab (gOf [(14, fL_toTicketC)]) R0 Try.f100 fL_toTicketSC aL_toTicketS) (by kernel_rfl) v_L_toTicketS)
theorem q_L_toLine : PureC Try.prog 93 fL_toLineC ∧ CallOk Try.prog 93 :=
  mk (A := noA) (gam_cons q_L_toTicketS gam_nil) rules0 Try.func93 (by kernel_rfl) (by kernel_rfl) (by exact @link _ (vcFunc tab (gOf [(100, fL_toTicketSC)]) R0 Try.f93 fL_toLineC noA) (by kernel_rfl) v_L_toLine)
theorem q_L_toFlow : PureC Try.prog 73 fL_toFlowC ∧ CallOk Try.prog 73 :=
  mk (A := noA) (gam_cons q_L_toLine gam_nil) rules0 Try.func73 (by kernel_rfl) (by kernel_rfl) (by exact @link _ (vcFunc tab (gOf [(93, fL_toLineC)]) R0 Try.f73 fL_toFlowC noA) (by kernel_rfl) v_L_toFlow)
theorem q_L_toFlowS : PureC Try.prog 48 fL_toFlowSC ∧ CallOk Try.prog 48 :=
  mk (A := aL_toFlowS) (gam_cons q_L_toFlow gam_nil) rules0 Try.func48 (by kernel_rfl) (by kernel_rfl) (by exact @link _ (vcFunc tab (gOf [(73, fL_toFlowC)]) R0 Try.f48 fL_toFlowSC aL_toFlowS) (by kernel_rfl) v_L_toFlowS)
theorem q_L_toRing : PureC Try.prog 13 fL_toRingC ∧ CallOk Try.prog 13 :=
  mk (A := noA) (gam_cons q_L_toFlowS gam_nil) rules0 Try.func13 (by kernel_rfl) (by kernel_rfl) (by exact @link _ (vcFunc tab (gOf [(48, fL_toFlowSC)]) R0 Try.f13 fL_toRingC noA) (by kernel_rfl) v_L_toRing)
theorem qt_L_toFlowST : TreeOk Try.prog 48 fL_toFlowSTC ∧ CallOk Try.prog 48 :=
  mkTree (A := aL_toFlowST) (gam_cons q_L_toFlow gam_nil) (rul_tell rul_nil) Try.func48 (by kernel_rfl) (by kernel_rfl) (by exact @link _ (vcTree tab (gOf [(73, fL_toFlowC)]) (rOf [(1000000, tellR)]) Try.f48 fL_toFlowSTC aL_toFlowST) (by kernel_rfl) v_L_toFlowST)
theorem q_L_toFlowST : RuleOk Try.prog 48 (treeRule fL_toFlowSTC) ∧ CallOk Try.prog 48 := ⟨tree_rule qt_L_toFlowST.1, qt_L_toFlowST.2⟩
theorem qt_L_toRingT : TreeOk Try.prog 13 fL_toRingTC ∧ CallOk Try.prog 13 :=
  mkTree (A := noA) gam_nil (rul_tell (rul_cons q_L_toFlowST rul_nil)) Try.func13 (by kernel_rfl) (by kernel_rfl) (by exact @link _ (vcTree tab (gOf []) (rOf [(1000000, tellR), (48, treeRule fL_toFlowSTC)]) Try.f13 fL_toRingTC noA) (by kernel_rfl) v_L_toRingT)
theorem q_L_toRingT : RuleOk Try.prog 13 (treeRule fL_toRingTC) ∧ CallOk Try.prog 13 := ⟨tree_rule qt_L_toRingT.1, qt_L_toRingT.2⟩
theorem q_S_l01In : PureC Try.prog 67 fS_l01InC ∧ CallOk Try.prog 67 :=
  mk (A := noA) gam_nil rules0 Try.func67 (by kernel_rfl) (by kernel_rfl) (by exact @link _ (vcFunc tab (gOf []) R0 Try.f67 fS_l01InC noA) (by kernel_rfl) v_S_l01In)
theorem q_S_l13Ticket : PureC Try.prog 91 fS_l13TicketC ∧ CallOk Try.prog 91 :=
  mk (A := noA) (gam_cons q_S_l01In gam_nil) rules0 Try.func91 (by kernel_rfl) (by kernel_rfl) (by exact @link _ (vcFunc tab (gOf [(67, fS_l01InC)]) R0 Try.f91 fS_l13TicketC noA) (by kernel_rfl) v_S_l13Ticket)
theorem q_S_LineOk : PureC Try.prog 70 fS_LineOkC ∧ CallOk Try.prog 70 :=
  mk (A := aS_LineOk) (gam_cons q_S_l13Ticket gam_nil) rules0 Try.func70 (by kernel_rfl) (by kernel_rfl) (by exact @link _ (vcFunc tab (gOf [(91, fS_l13TicketC)]) R0 Try.f70 fS_LineOkC aS_LineOk) (by kernel_rfl) v_S_LineOk)
theorem q_S_l14Flow : PureC Try.prog 68 fS_l14FlowC ∧ CallOk Try.prog 68 :=
  mk (A := noA) (gam_cons q_S_l01In (gam_cons q_S_LineOk gam_nil)) rules0 Try.func68 (by kernel_rfl) (by kernel_rfl) (by exact @link _ (vcFunc tab (gOf [(67, fS_l01InC), (70, fS_LineOkC)]) R0 Try.f68 fS_l14FlowC noA) (by kernel_rfl) v_S_l14Flow)
theorem q_S_RingOk : PureC Try.prog 37 fS_RingOkC ∧ CallOk Try.prog 37 :=
  mk (A := aS_RingOk) (gam_cons q_S_l01In (gam_cons q_S_l14Flow gam_nil)) rules0 Try.func37 (by kernel_rfl) (by kernel_rfl) (by exact @link _ (vcFunc tab (gOf [(67, fS_l01InC), (68, fS_l14FlowC)]) R0 Try.f37 fS_RingOkC aS_RingOk) (by kernel_rfl) v_S_RingOk)
theorem q_S_l13Copy : PureC Try.prog 72 fS_l13CopyC ∧ CallOk Try.prog 72 :=
  mk (A := aS_l13Copy) gam_nil rules0 Try.func72 (by kernel_rfl) (by kernel_rfl) (by exact @link _ (vcFunc tab (gOf []) R0 Try.f72 fS_l13CopyC aS_l13Copy) (by kernel_rfl) v_S_l13Copy)
theorem q_S_l14Copy : PureC Try.prog 45 fS_l14CopyC ∧ CallOk Try.prog 45 :=
  mk (A := aS_l14Copy) (gam_cons q_S_l13Copy gam_nil) rules0 Try.func45 (by kernel_rfl) (by kernel_rfl) (by exact @link _ (vcFunc tab (gOf [(72, fS_l13CopyC)]) R0 Try.f45 fS_l14CopyC aS_l14Copy) (by kernel_rfl) v_S_l14Copy)
theorem q_S_l14At : PureC Try.prog 46 fS_l14AtC ∧ CallOk Try.prog 46 :=
  mk (A := aS_l14At) gam_nil rules0 Try.func46 (by kernel_rfl) (by kernel_rfl) (by exact @link _ (vcFunc tab (gOf []) R0 Try.f46 fS_l14AtC aS_l14At) (by kernel_rfl) v_S_l14At)
theorem q_S_AddFlow : PureC Try.prog 26 fS_AddFlowC ∧ CallOk Try.prog 26 :=
  mk (A := aS_AddFlow) (gam_cons q_S_RingOk (gam_cons q_S_l14Copy (gam_cons q_S_l14At gam_nil))) rules0 Try.func26 (by kernel_rfl) (by kernel_rfl) (by exact @link _ (vcFunc tab (gOf [(37, fS_RingOkC), (45, fS_l14CopyC), (46, fS_l14AtC)]) R0 Try.f26 fS_AddFlowC aS_AddFlow) (by kernel_rfl) v_S_AddFlow)
theorem q_I_copyLine : PureC Try.prog 74 fI_copyLineC ∧ CallOk Try.prog 74 :=
  mk (A := noA) gam_nil rules0 Try.func74 (by kernel_rfl) (by kernel_rfl) (by exact @link _ (vcFunc tab (gOf []) R0 Try.f74 fI_copyLineC noA) (by kernel_rfl) v_I_copyLine)
theorem qt_I_copyRingT : TreeOk Try.prog 49 fI_copyRingTC ∧ CallOk Try.prog 49 :=
  mkTree (A := aI_copyRing) (gam_cons q_I_copyLine gam_nil) (rul_tell rul_nil) Try.func49 (by kernel_rfl) (by kernel_rfl) (by exact @link _ (vcTree tab (gOf [(74, fI_copyLineC)]) (rOf [(1000000, tellR)]) Try.f49 fI_copyRingTC aI_copyRing) (by kernel_rfl) v_I_copyRingT)
theorem q_I_copyRingT : RuleOk Try.prog 49 (treeRule fI_copyRingTC) ∧ CallOk Try.prog 49 := ⟨tree_rule qt_I_copyRingT.1, qt_I_copyRingT.2⟩
theorem q_I_flowOf1 : PureC Try.prog 76 fI_flowOf1C ∧ CallOk Try.prog 76 :=
  mk (A := noA) gam_nil rules0 Try.func76 (by kernel_rfl) (by kernel_rfl) (by exact @link _ (vcFunc tab (gOf []) R0 Try.f76 fI_flowOf1C noA) (by kernel_rfl) v_I_flowOf1)
theorem q_G_IndexFuncFl : PureC Try.prog 75 (fG_IndexFuncFlC 76) ∧ CallOk Try.prog 75 :=
  mk (A := aG_IndexFuncFl) (gam_cons q_I_flowOf1 gam_nil) rules0 Try.func75 (by kernel_rfl) (by kernel_rfl) (by exact @link _ (vcFunc tab (gOf [(76, fI_flowOf1C)]) R0 Try.f75 (fG_IndexFuncFlC 76) aG_IndexFuncFl) (by kernel_rfl) v_G_IndexFuncFl)
theorem q_I_flowOf : PureC Try.prog 50 fI_flowOfC ∧ CallOk Try.prog 50 :=
  mk (A := noA) (gam_cons q_G_IndexFuncFl gam_nil) rules0 Try.func50 (by kernel_rfl) (by kernel_rfl) (by exact @link _ (vcFunc tab (gOf [(75, (fG_IndexFuncFlC 76))]) R0 Try.f50 fI_flowOfC noA) (by kernel_rfl) v_I_flowOf)
theorem q_I_isTicket : PureC Try.prog 94 fI_isTicketC ∧ CallOk Try.prog 94 :=
  mk (A := noA) gam_nil rules0 Try.func94 (by kernel_rfl) (by kernel_rfl) (by exact @link _ (vcFunc tab (gOf []) R0 Try.f94 fI_isTicketC noA) (by kernel_rfl) v_I_isTicket)
theorem q_I_isLine : PureC Try.prog 77 fI_isLineC ∧ CallOk Try.prog 77 :=
  mk (A := aI_isLine) (gam_cons q_I_isTicket gam_nil) rules0 Try.func77 (by kernel_rfl) (by kernel_rfl) (by exact @link _ (vcFunc tab (gOf [(94, fI_isTicketC)]) R0 Try.f77 fI_isLineC aI_isLine) (by kernel_rfl) v_I_isLine)
theorem q_I_isRing : PureC Try.prog 51 fI_isRingC ∧ CallOk Try.prog 51 :=
  mk (A := aI_isRing) (gam_cons q_I_isLine gam_nil) rules0 Try.func51 (by kernel_rfl) (by kernel_rfl) (by exact @link _ (vcFunc tab (gOf [(77, fI_isLineC)]) R0 Try.f51 fI_isRingC aI_isRing) (by kernel_rfl) v_I_isRing)
section
open Go.RowKit Go.Lib Go.Sort
theorem ownINSimpl_Flow_mixed : Try.prog.follows .mixedOrders = true := by kernel_rfl
theorem ownINSimpl_Flow_t0 : Try.prog.underlying 0 = some (TypeDesc.tuple #[]) := by kernel_rfl
theorem ownINSimpl_Flow_a0 : ∀ w, (isAgg 0).run Try.prog w = .ok false w := fun w => by kernel_rfl
theorem ownINSimpl_Flow_z0 : ∀ w, (Go.sizeOf 0).run Try.prog w = .ok 1 w := fun w => by kernel_rfl
theorem ownINSimpl_Flow_v0 : ∀ w, (zeroValue 0).run Try.prog w = .ok (Value.tuple #[]) w := fun w => by kernel_rfl
theorem ownINSimpl_Flow_t3 : Try.prog.underlying 3 = some (TypeDesc.int IntKind.i64) := by kernel_rfl
theorem ownINSimpl_Flow_a3 : ∀ w, (isAgg 3).run Try.prog w = .ok false w := fun w => by kernel_rfl
theorem ownINSimpl_Flow_z3 : ∀ w, (Go.sizeOf 3).run Try.prog w = .ok 1 w := fun w => by kernel_rfl
theorem ownINSimpl_Flow_v3 : ∀ w, (zeroValue 3).run Try.prog w = .ok (Value.int IntKind.i64 0) w := fun w => by kernel_rfl
theorem ownINSimpl_Flow_t4 : Try.prog.underlying 4 = some TypeDesc.bool := by kernel_rfl
theorem ownINSimpl_Flow_a4 : ∀ w, (isAgg 4).run Try.prog w = .ok false w := fun w => by kernel_rfl
theorem ownINSimpl_Flow_z4 : ∀ w, (Go.sizeOf 4).run Try.prog w = .ok 1 w := fun w => by kernel_rfl
theorem ownINSimpl_Flow_v4 : ∀ w, (zeroValue 4).run Try.prog w = .ok (Value.bool false) w := fun w => by kernel_rfl
theorem ownINSimpl_Flow_tS : Try.prog.underlying 28 = some (TypeDesc.slice 67) := by kernel_rfl
theorem ownINSimpl_Flow_aS : ∀ w, (isAgg 28).run Try.prog w = .ok false w := fun w => by kernel_rfl
theorem ownINSimpl_Flow_zS : ∀ w, (Go.sizeOf 28).run Try.prog w = .ok 1 w := fun w => by kernel_rfl
theorem ownINSimpl_Flow_vS : ∀ w, (zeroValue 28).run Try.prog w = .ok (Value.slice none 0 0) w := fun w => by kernel_rfl
theorem ownINSimpl_Flow_zE : ∀ w, (Go.sizeOf 67).run Try.prog w = .ok 4 w := fun w => by kernel_rfl
theorem ownINSimpl_Flow_iE : (Try.prog.info? 67).map (fun i => (i.zero, i.size, i.bytes)) = some (some (Value.agg #[.int .i64 0, .int .i64 0, .int .i64 0, .slice none 0 0]), 4, 48) := by kernel_rfl

set_option maxHeartbeats 4000000 in
set_option maxRecDepth 1000000 in
theorem ownINSimpl_Flow_shift (b n c i vb m vc : Nat) (cs vs : List Value) (w : World) (hi : i < n) (hm : 0 < m) (hroom : n + m ≤ c) (hbig : n + m ≤ 140737488355328) (hvb : vb ≠ b) (hcl : cs.length = n * 4) (hvl : vs.length = m * 4)
    (hcs : ∀ j v, cs[j]? = some v → w.cell? ⟨b, j, none⟩ = some v) (hsp : ∀ j, j < (n + m) * 4 → (w.cell? ⟨b, j, none⟩).isSome = true) (hfz : ∀ j, w.frozen? ⟨b, j, none⟩ = false)
    (hvs : ∀ j v, vs[j]? = some v → w.cell? ⟨vb, j, none⟩ = some v) (h1c : ∀ v ∈ cs, v.oneCell' = true) (h1v : ∀ v ∈ vs, v.oneCell' = true)
    (tA tB : TypeId) (kA kB : Nat) (hsa : w.shape? vb = some (tA, kA)) (hsb : w.shape? b = some (tB, kB)) (hkB : kB ≠ 0) (hfa : w.frozen? ⟨vb, 0, none⟩ = false) (hfe : w.frozen? ⟨vb, kA, none⟩ = false) :
    Calls Try.prog 62 #[.slice (some ⟨b, 0, none⟩) n c, .int .i64 i, .slice (some ⟨vb, 0, none⟩) m vc] w fun e w' =>
      e = .returned (.slice (some ⟨b, 0, none⟩) (n + m) c) ∧ w' = (w.drew.setCells b ((i + m) * 4) (cs.drop (i * 4))).setCells b (i * 4) vs := by
  have mixed := ownINSimpl_Flow_mixed; have t0 := ownINSimpl_Flow_t0; have a0 := ownINSimpl_Flow_a0; have z0 := ownINSimpl_Flow_z0; have v0 := ownINSimpl_Flow_v0; have t3 := ownINSimpl_Flow_t3; have a3 := ownINSimpl_Flow_a3; have z3 := ownINSimpl_Flow_z3; have v3 := ownINSimpl_Flow_v3; have t4 := ownINSimpl_Flow_t4; have a4 := ownINSimpl_Flow_a4; have z4 := ownINSimpl_Flow_z4; have v4 := ownINSimpl_Flow_v4; have tS := ownINSimpl_Flow_tS; have aS := ownINSimpl_Flow_aS; have zS := ownINSimpl_Flow_zS; have vS := ownINSimpl_Flow_vS
  have zE := ownINSimpl_Flow_zE
  obtain ⟨i0, hi0, hz0, hzs, hzb⟩ := info_parts ownINSimpl_Flow_iE
  have hz1 : ¬ ((m : Int) = 0) := by omega
  have hz2 : ¬ ((i : Int) = (n : Int)) := by omega
  have hov : ∀ lb cb, (callFunc 85 #[.slice (some ⟨vb, 0, none⟩) m vc, .slice (some ⟨b, (i + m) * 4, none⟩) lb cb]).run Try.prog w = .ok (.value (.bool false)) w := fun lb cb => by
    rw [run_callFunc_extern Try.func85 (by kernel_rfl) (by kernel_rfl) (by kernel_rfl) (e := Extern.SlicesOverlaps.overlaps #[28, 28] #[4]) (by kernel_rfl),
      Lib.run_overlaps_apart w 28 4 67 tS 4 zE ⟨vb, 0, none⟩ ⟨b, (i + m) * 4, none⟩ m vc lb cb hvb tA tB kA kB hsa hsb hkB hfa hfe]
    rfl
  have hdl : (cs.drop (i * 4)).length = (n - i) * 4 := by rw [List.length_drop, hcl]; omega
  have hw1 : IntKind.i64.wrap ((i : Int) + (m : Int)) = (i : Int) + (m : Int) := by rw [IntKind.wrap_i64]; omega
  have hw2 : IntKind.i64.wrap ((n : Int) + (m : Int)) = (n : Int) + (m : Int) := by rw [IntKind.wrap_i64]; omega
  have hb1 : (0 : Int) ≤ (i : Int) + (m : Int) := by omega
  have hin : i ≤ n := by omega
  have htn : ((i : Int) + (m : Int)).toNat = i + m := by omega
  have htn2 : ((n : Int) + (m : Int)).toNat = n + m := by omega
  have hb2 : ¬ (c = i + m) := by omega
  have hb3 : (i : Int) ≤ (n : Int) + (m : Int) := by omega
  have hb4 : ¬ (c = i) := by omega
  have hcp1 : ∀ ty dc sc, (Builtin.copy_ #[28, 28] ty #[.slice (some ⟨b, (i + m) * 4, none⟩) (n + m - (i + m)) dc, .slice (some ⟨b, i * 4, none⟩) (n + m - i) sc]).run Try.prog w.drew = .ok (goInt (n - i : Nat)) (w.drew.setCells b ((i + m) * 4) (cs.drop (i * 4))) := fun ty dc sc =>
    Go.SX.run_copy_many w.drew _ _ ty 67 i0 b ((i + m) * 4) (n + m - (i + m)) dc ⟨b, i * 4, none⟩ (n + m - i) sc (n - i) (cs.drop (i * 4)) tS hi0 (by simp only [Nat.min_def]; split <;> omega) (by rw [hzs, hdl])
      (fun j v hj => by rw [Addr.add_lit]; exact hcs (i * 4 + j) v (by rwa [List.getElem?_drop] at hj))
      (fun j hj => hsp _ (by omega)) (fun j hj => hfz _) (fun v hv => h1c v (List.mem_of_mem_drop hv))
  obtain ⟨W1, hW1⟩ : ∃ W1, W1 = w.drew.setCells b ((i + m) * 4) (cs.drop (i * 4)) := ⟨_, rfl⟩
  have hsp1 : ∀ k, k < (n + m) * 4 → (W1.cell? ⟨b, k, none⟩).isSome = true := fun k hk => by
    rw [hW1]
    exact Go.SX.isSome_setCells' b (cs.drop (i * 4)) ((i + m) * 4) w.drew (fun j hj => hsp _ (by omega)) _ (hsp k hk)
  have hcp2 : ∀ (W : World), (∀ x, W.cell? x = W1.cell? x) → (∀ x, W.frozen? x = W1.frozen? x) → ∀ ty dc, (Builtin.copy_ #[28, 28] ty #[.slice (some ⟨b, i * 4, none⟩) (n + m - i) dc, .slice (some ⟨vb, 0, none⟩) m vc]).run Try.prog W = .ok (goInt m) (W.setCells b (i * 4) vs) := fun W hWc hWf ty dc =>
    Go.SX.run_copy_many W _ _ ty 67 i0 b (i * 4) (n + m - i) dc ⟨vb, 0, none⟩ m vc m vs tS hi0 (by simp only [Nat.min_def]; split <;> omega) (by rw [hzs, hvl])
      (fun j v hj => by
        rw [Addr.add_lit, Nat.zero_add, hWc, hW1, World.cell?_setCells_out b _ _ _ _ (fun h _ => absurd h hvb)]
        exact hvs j v hj)
      (fun j hj => by rw [hWc]; exact hsp1 _ (by omega)) (fun j hj => by rw [hWf, hW1, World.frozen?_setCells]; exact hfz _) h1v
  rw [← hW1] at hcp1
  go_enter Try.func62, Try.ntmps62
  go_wp2_with (simp only [hov])
  go_region_law_o (refine Go.SX.step_copy_is rfl _ _ 28 28 rfl _ _ (by simp [Act.eval, Act.put]) (by simp [Act.eval, Act.put]) (hcp1 _ _ _) ?_)
  go_wp2_with (at_builtin; refine Go.SX.wpList_copy_is _ rfl _ _ 28 28 rfl _ _ rfl rfl (hcp2 _ (fun _ => rfl) (fun _ => rfl) _ _) ?_)
  go_ret
  first | exact ⟨rfl, rfl⟩ | exact ⟨rfl, by rw [hW1]⟩

set_option maxHeartbeats 4000000 in
set_option maxRecDepth 1000000 in
theorem ownINSimpl_Flow_grow (b n c i vb m vc : Nat) (cs vs : List Value) (w : World) (hi : i < n) (hm : 0 < m) (hnc : n ≤ c) (hroom : c < n + m) (hbig : (n + m) * 48 ≤ 140737488355328) (hcl : cs.length = n * 4) (hvl : vs.length = m * 4)
    (hcs : ∀ j v, cs[j]? = some v → w.cell? ⟨b, j, none⟩ = some v)
    (hvs : ∀ j v, vs[j]? = some v → w.cell? ⟨vb, j, none⟩ = some v) (h1c : ∀ v ∈ cs, v.oneCell' = true) (h1v : ∀ v ∈ vs, v.oneCell' = true) :
    Calls Try.prog 62 #[.slice (some ⟨b, 0, none⟩) n c, .int .i64 i, .slice (some ⟨vb, 0, none⟩) m vc] w fun e w' =>
      e = .returned (.slice (some ⟨w.heap.size, 0, none⟩) (n + m) (grownCap w (n + m) c 67)) ∧
      w' = (((w.alloc (.cells ((cs.take (i * 4)).toArray ++ Builtin.zeroCells (Value.agg #[.int .i64 0, .int .i64 0, .int .i64 0, .slice none 0 0]).cells (n + m - i) ++ Builtin.zeroCells (Value.agg #[.int .i64 0, .int .i64 0, .int .i64 0, .slice none 0 0]).cells (grownCap w (n + m) c 67 - (n + m))) 67)).drew.setCells w.heap.size (i * 4) vs).drew).setCells w.heap.size ((i + m) * 4) (cs.drop (i * 4)) := by
  have mixed := ownINSimpl_Flow_mixed; have t0 := ownINSimpl_Flow_t0; have a0 := ownINSimpl_Flow_a0; have z0 := ownINSimpl_Flow_z0; have v0 := ownINSimpl_Flow_v0; have t3 := ownINSimpl_Flow_t3; have a3 := ownINSimpl_Flow_a3; have z3 := ownINSimpl_Flow_z3; have v3 := ownINSimpl_Flow_v3; have t4 := ownINSimpl_Flow_t4; have a4 := ownINSimpl_Flow_a4; have z4 := ownINSimpl_Flow_z4; have v4 := ownINSimpl_Flow_v4; have tS := ownINSimpl_Flow_tS; have aS := ownINSimpl_Flow_aS; have zS := ownINSimpl_Flow_zS; have vS := ownINSimpl_Flow_vS
  have zE := ownINSimpl_Flow_zE
  obtain ⟨i0, hi0, hz0, hzs, hzb⟩ := info_parts ownINSimpl_Flow_iE
  have hz1 : ¬ ((m : Int) = 0) := by omega
  have hz2 : ¬ ((i : Int) = (n : Int)) := by omega
  have hz3 : (c : Int) < (n : Int) + (m : Int) := by omega
  have hbw : b < w.heap.size := block_lt_of_cell (hcs 0 _ (List.getElem?_eq_getElem (by omega)))
  have hvw : vb < w.heap.size := block_lt_of_cell (hvs 0 _ (List.getElem?_eq_getElem (by omega)))
  have hkk : (n : Int) + (m : Int) - (i : Int) = ((n + m - i : Nat) : Int) := by omega
  have hik : i + (n + m - i) = n + m := by omega
  have hold : (Builtin.firstCells i0.size i (.slice (some ⟨b, 0, none⟩) i c)).run Try.prog w.drew = .ok (cs.take (i * 4)).toArray w.drew := by
    rw [hzs]
    exact run_firstCells_some w.drew 4 i ⟨b, 0, none⟩ i c (cs.take (i * 4)) (by rw [List.length_take]; omega) (fun j v hj => by
      rw [Addr.add_lit, Nat.zero_add]
      rw [List.getElem?_take] at hj
      split at hj
      · exact hcs j v hj
      · cases hj)
  have hrz : ∀ ty, (Builtin.append_ #[28, 3] ty #[.slice (some ⟨b, 0, none⟩) i c, .int .i64 ((n : Int) + (m : Int) - (i : Int))]).run Try.prog w =
      .ok (.slice (some ⟨w.heap.size, 0, none⟩) (n + m) (grownCap w (n + m) c 67)) (w.drew.alloc (.cells ((cs.take (i * 4)).toArray ++ Builtin.zeroCells (Value.agg #[.int .i64 0, .int .i64 0, .int .i64 0, .slice none 0 0]).cells (n + m - i) ++ Builtin.zeroCells (Value.agg #[.int .i64 0, .int .i64 0, .int .i64 0, .slice none 0 0]).cells (grownCap w (n + m) c 67 - (n + m))) 67)) := fun ty => by
    have h := Lib.run_append_grow_zeros w 28 3 ty 67 i0 _ .i64 .i64 tS t3 hi0 hz0 (some ⟨b, 0, none⟩) i c (cs.take (i * 4)) hold (n + m - i) (by omega) (by omega) (by omega) (by omega) (by rw [hzb]; omega) (by rw [hzb, hik]; exact growslice_fits hroom hbig)
    rw [hik] at h
    rw [hkk]
    exact h
  obtain ⟨G, hG⟩ : ∃ G, G = grownCap w (n + m) c 67 := ⟨_, rfl⟩
  obtain ⟨ROW, hROW⟩ : ∃ ROW : Array Value, ROW = (cs.take (i * 4)).toArray ++ Builtin.zeroCells (Value.agg #[.int .i64 0, .int .i64 0, .int .i64 0, .slice none 0 0]).cells (n + m - i) ++ Builtin.zeroCells (Value.agg #[.int .i64 0, .int .i64 0, .int .i64 0, .slice none 0 0]).cells (G - (n + m)) := ⟨_, rfl⟩
  rw [← hG] at hrz ⊢
  rw [← hROW] at hrz ⊢
  have hRl : (n + m) * 4 ≤ ROW.size := by
    rw [hROW]
    simp [Builtin.zeroCells, Value.cells]
    omega
  obtain ⟨W1, hW1⟩ : ∃ W1, W1 = w.drew.alloc (.cells ROW 67) := ⟨_, rfl⟩
  rw [← hW1] at hrz
  have hN : ∀ j, j < (n + m) * 4 → (W1.cell? ⟨w.heap.size, j, none⟩).isSome = true := fun j hj => by
    rw [hW1, World.cell?_alloc_at (w := w.drew) ROW _ w.heap.size j rfl, Array.getElem?_eq_getElem (by omega)]; rfl
  have hNf : ∀ j, W1.frozen? ⟨w.heap.size, j, none⟩ = false := fun j => by rw [hW1]; exact World.frozen?_alloc_at (w := w.drew) ROW _ w.heap.size j rfl
  have hOb : ∀ j v, w.cell? ⟨b, j, none⟩ = some v → W1.cell? ⟨b, j, none⟩ = some v := fun j v h => by rw [hW1, World.cell?_alloc_past (w := w.drew) _ b j hbw]; exact h
  have hOv : ∀ j v, w.cell? ⟨vb, j, none⟩ = some v → W1.cell? ⟨vb, j, none⟩ = some v := fun j v h => by rw [hW1, World.cell?_alloc_past (w := w.drew) _ vb j hvw]; exact h
  have hcpA : ∀ (W : World), (∀ x, W.cell? x = W1.cell? x) → (∀ x, W.frozen? x = W1.frozen? x) → ∀ ty dc, (Builtin.copy_ #[28, 28] ty #[.slice (some ⟨w.heap.size, i * 4, none⟩) (n + m - i) dc, .slice (some ⟨vb, 0, none⟩) m vc]).run Try.prog W = .ok (goInt m) (W.setCells w.heap.size (i * 4) vs) := fun W hWc hWf ty dc =>
    Go.SX.run_copy_many W _ _ ty 67 i0 w.heap.size (i * 4) (n + m - i) dc ⟨vb, 0, none⟩ m vc m vs tS hi0 (by simp only [Nat.min_def]; split <;> omega) (by rw [hzs, hvl])
      (fun j v hj => by rw [Addr.add_lit, Nat.zero_add, hWc]; exact hOv _ v (hvs j v hj))
      (fun j hj => by rw [hWc]; exact hN _ (by omega)) (fun j hj => by rw [hWf]; exact hNf _) h1v
  have hGn : n + m ≤ G := by rw [hG]; exact grownCap_ge w _ _ _
  have hGi : ¬ (G = i) := by omega
  have hGim : ¬ (G = i + m) := by omega
  have hci : ¬ (c = i) := by omega
  have hbN : b ≠ w.heap.size := by omega
  have hdl : (cs.drop (i * 4)).length = (n - i) * 4 := by rw [List.length_drop, hcl]; omega
  have hcpB : ∀ (W : World), (∀ x, W.cell? x = (W1.setCells w.heap.size (i * 4) vs).cell? x) → (∀ x, W.frozen? x = (W1.setCells w.heap.size (i * 4) vs).frozen? x) → ∀ ty dc sc, (Builtin.copy_ #[28, 28] ty #[.slice (some ⟨w.heap.size, (i + m) * 4, none⟩) (n + m - (i + m)) dc, .slice (some ⟨b, i * 4, none⟩) (n - i) sc]).run Try.prog W = .ok (goInt (n - i : Nat)) (W.setCells w.heap.size ((i + m) * 4) (cs.drop (i * 4))) := fun W hWc hWf ty dc sc =>
    Go.SX.run_copy_many W _ _ ty 67 i0 w.heap.size ((i + m) * 4) (n + m - (i + m)) dc ⟨b, i * 4, none⟩ (n - i) sc (n - i) (cs.drop (i * 4)) tS hi0 (by simp only [Nat.min_def]; split <;> omega) (by rw [hzs, hdl])
      (fun j v hj => by
        rw [Addr.add_lit, hWc, World.cell?_setCells_out _ _ _ _ _ (fun h _ => absurd h hbN)]
        exact hOb _ v (hcs (i * 4 + j) v (by rwa [List.getElem?_drop] at hj)))
      (fun j hj => by rw [hWc]; exact Go.SX.isSome_setCells' _ _ _ _ (fun t ht => hN _ (by omega)) _ (hN _ (by omega)))
      (fun j hj => by rw [hWf, World.frozen?_setCells]; exact hNf _) (fun v hv => h1c v (List.mem_of_mem_drop hv))
  subst hW1
  have hE1 : ∀ x, ((w.alloc (.cells ROW 67)).drew).cell? x = (w.drew.alloc (.cells ROW 67)).cell? x := fun x => rfl
  have hE2 : ∀ x, ((w.alloc (.cells ROW 67)).drew).frozen? x = (w.drew.alloc (.cells ROW 67)).frozen? x := fun x => rfl
  have hF1 : ∀ x, (((w.alloc (.cells ROW 67)).drew.setCells w.heap.size (i * 4) vs).drew).cell? x = ((w.drew.alloc (.cells ROW 67)).setCells w.heap.size (i * 4) vs).cell? x := fun x => rfl
  have hF2 : ∀ x, (((w.alloc (.cells ROW 67)).drew.setCells w.heap.size (i * 4) vs).drew).frozen? x = ((w.drew.alloc (.cells ROW 67)).setCells w.heap.size (i * 4) vs).frozen? x := fun x => rfl
  have hw1 : IntKind.i64.wrap ((i : Int) + (m : Int)) = (i : Int) + (m : Int) := by rw [IntKind.wrap_i64]; omega
  have hw2 : IntKind.i64.wrap ((n : Int) + (m : Int)) = (n : Int) + (m : Int) := by rw [IntKind.wrap_i64]; omega
  have hw3 : IntKind.i64.wrap ((n : Int) + (m : Int) - (i : Int)) = (n : Int) + (m : Int) - (i : Int) := by rw [IntKind.wrap_i64]; omega
  have hb1 : (0 : Int) ≤ (i : Int) + (m : Int) := by omega
  have hin : i ≤ n := by omega
  have htn : ((i : Int) + (m : Int)).toNat = i + m := by omega
  have hb3 : (i : Int) ≤ (n : Int) := by omega
  clear hkk hik hold hROW hG hRl
  go_enter Try.func62, Try.ntmps62
  go_wp2_with (first
    | (at_builtin; refine Lib.wpList_append_run _ rfl _ _ _ _ rfl _ _ rfl rfl _ _ (hrz _) ?_)
    | (at_builtin; refine Go.SX.wpList_copy_is _ rfl _ _ 28 28 rfl _ _ rfl rfl (hcpA _ hE1 hE2 _ _) ?_)
    | (at_builtin; refine Go.SX.wpList_copy_is _ rfl _ _ 28 28 rfl _ _ rfl rfl (hcpB _ (fun _ => rfl) (fun _ => rfl) _ _ _) ?_))
  go_region_law_o (refine Go.SX.step_copy_is rfl _ _ 28 28 rfl (.slice (some ⟨w.heap.size, (i + m) * 4, none⟩) (n + m - (i + m)) (G - (i + m))) (.slice (some ⟨b, i * 4, none⟩) (n - i) (c - i)) (by simp [Act.eval, Act.put]) (by simp [Act.eval, Act.put]) (hcpB _ hF1 hF2 3 (G - (i + m)) (c - i)) ?_)
  go_wp2
  go_ret
  exact ⟨rfl, rfl⟩

set_option maxHeartbeats 4000000 in
set_option maxRecDepth 100000 in
theorem ownINSimpl_Flow_end (base : Option Addr) (n c vb m vc : Nat) (w : World) (hm : 0 < m) (hnc : n ≤ c) {v' : Value} {w' : World}
    (hrun : ∀ ty, (Builtin.append_ #[28, 28] ty #[.slice base n c, .slice (some ⟨vb, 0, none⟩) m vc]).run Try.prog w = .ok v' w') :
    Calls Try.prog 62 #[.slice base n c, .int .i64 n, .slice (some ⟨vb, 0, none⟩) m vc] w fun e w'' => e = .returned v' ∧ w'' = w' := by
  have mixed := ownINSimpl_Flow_mixed; have t0 := ownINSimpl_Flow_t0; have a0 := ownINSimpl_Flow_a0; have z0 := ownINSimpl_Flow_z0; have v0 := ownINSimpl_Flow_v0; have t3 := ownINSimpl_Flow_t3; have a3 := ownINSimpl_Flow_a3; have z3 := ownINSimpl_Flow_z3; have v3 := ownINSimpl_Flow_v3; have t4 := ownINSimpl_Flow_t4; have a4 := ownINSimpl_Flow_a4; have z4 := ownINSimpl_Flow_z4; have v4 := ownINSimpl_Flow_v4; have tS := ownINSimpl_Flow_tS; have aS := ownINSimpl_Flow_aS; have zS := ownINSimpl_Flow_zS; have vS := ownINSimpl_Flow_vS
  have hz1 : ¬ ((m : Int) = 0) := by omega
  go_enter Try.func62, Try.ntmps62
  cases base with
  | none =>
    go_wp2_with (at_builtin; refine Lib.wpList_append_run _ rfl _ _ _ _ rfl _ _ rfl rfl _ _ (hrun _) ?_)
    all_goals (go_ret; exact ⟨rfl, rfl⟩)
  | some a =>
    obtain ⟨ab, ao, asp⟩ := a
    go_wp2_with (at_builtin; refine Lib.wpList_append_run _ rfl _ _ _ _ rfl _ _ rfl rfl _ _ (hrun _) ?_)
    all_goals (go_ret; exact ⟨rfl, rfl⟩)
theorem q_ownINSimpl_Flow : RuleOk Try.prog 62 (insRule flG 48) ∧ CallOk Try.prog 62 :=
  ⟨ins_rule (z := Value.agg #[.int .i64 0, .int .i64 0, .int .i64 0, .slice none 0 0]) ⟨ownINSimpl_Flow_tS, ownINSimpl_Flow_iE, rfl, by decide, by decide, ownINSimpl_Flow_shift, ownINSimpl_Flow_grow, ownINSimpl_Flow_end⟩, _, Try.func62, by kernel_rfl, by kernel_rfl⟩
end
theorem qt_I_AddFlowT : TreeOk Try.prog 27 fI_AddFlowTC ∧ CallOk Try.prog 27 :=
  mkTree (A := aI_AddFlow) (gam_cons q_I_flowOf (gam_cons q_I_isRing gam_nil)) (rul_tell (rul_cons q_I_copyRingT (rul_cons q_ownINSimpl_Flow rul_nil))) Try.func27 (by kernel_rfl) (by kernel_rfl) (by exact @link _ (vcTree tab (gOf [(50, fI_flowOfC), (51, fI_isRingC)]) (rOf [(1000000, tellR), (49, treeRule fI_copyRingTC), (62, (insRule flG 48))]) Try.f27 fI_AddFlowTC aI_AddFlow) (by kernel_rfl) v_I_AddFlowT)
theorem q_I_AddFlowT : RuleOk Try.prog 27 (treeRule fI_AddFlowTC) ∧ CallOk Try.prog 27 := ⟨tree_rule qt_I_AddFlowT.1, qt_I_AddFlowT.2⟩
theorem q_L_eqTicket : PureC Try.prog 23 fL_eqTicketC ∧ CallOk Try.prog 23 :=
  mk (A := noA) gam_nil rules0 Try.func23 (by kernel_rfl) (by kernel_rfl) (by exact @link _ (vcFunc tab (gOf []) R0 Try.f23 fL_eqTicketC noA) (by kernel_rfl) v_L_eqTicket)
theorem q_L_eqTicketS : PureC Try.prog 101 fL_eqTicketSC ∧ CallOk Try.prog 101 :=
  mk (A := aL_eqTicketS) (gam_cons q_L_eqTicket gam_nil) rules0 Try.func101 (by kernel_rfl) (by kernel_rfl) (by exact @link _ (vcFunc tab (gOf [(23, fL_eqTicketC)]) R0 Try.f101 fL_eqTicketSC aL_eqTicketS) (by kernel_rfl) v_L_eqTicketS)
theorem q_L_eqLine : PureC Try.prog 95 fL_eqLineC ∧ CallOk Try.prog 95 :=
  mk (A := noA) (gam_cons q_L_eqTicketS gam_nil) rules0 Try.func95 (by kernel_rfl) (by kernel_rfl) (by exact @link _ (vcFunc tab (gOf [(101, fL_eqTicketSC)]) R0 Try.f95 fL_eqLineC noA) (by kernel_rfl) v_L_eqLine)
theorem q_L_eqFlow : PureC Try.prog 78 fL_eqFlowC ∧ CallOk Try.prog 78 :=
  mk (A := noA) (gam_cons q_L_eqLine gam_nil) rules0 Try.func78 (by kernel_rfl) (by kernel_rfl) (by exact @link _ (vcFunc tab (gOf [(95, fL_eqLineC)]) R0 Try.f78 fL_eqFlowC noA) (by kernel_rfl) v_L_eqFlow)
theorem q_L_eqFlowS : PureC Try.prog 53 fL_eqFlowSC ∧ CallOk Try.prog 53 :=
  mk (A := aL_eqFlowS) (gam_cons q_L_eqFlow gam_nil) rules0 Try.func53 (by kernel_rfl) (by kernel_rfl) (by exact @link _ (vcFunc tab (gOf [(78, fL_eqFlowC)]) R0 Try.f53 fL_eqFlowSC aL_eqFlowS) (by kernel_rfl) v_L_eqFlowS)
theorem q_L_eqRing : PureC Try.prog 16 fL_eqRingC ∧ CallOk Try.prog 16 :=
  mk (A := noA) (gam_cons q_L_eqFlowS gam_nil) rules0 Try.func16 (by kernel_rfl) (by kernel_rfl) (by exact @link _ (vcFunc tab (gOf [(53, fL_eqFlowSC)]) R0 Try.f16 fL_eqRingC noA) (by kernel_rfl) v_L_eqRing)
theorem q_L_markTicketS : RuleOk Try.prog 79 (ruleOf fL_markTicketSC) ∧ CallOk Try.prog 79 :=
  mkM (A := aL_markTicketS) gam_nil rules0 Try.func79 (by kernel_rfl) (by kernel_rfl) rfl (by exact @link _ (vcMut tab (gOf []) R0 Try.f79 fL_markTicketSC aL_markTicketS) (by kernel_rfl) v_L_markTicketS)
theorem q_L_markTicketSE : PureC Try.prog 79 fL_markTicketSEC ∧ CallOk Try.prog 79 :=
  mk (A := aL_markTicketSE) gam_nil rules0 Try.func79 (by kernel_rfl) (by kernel_rfl) (by exact @link _ (vcFunc tab (gOf []) R0 Try.f79 fL_markTicketSEC aL_markTicketSE) (by kernel_rfl) v_L_markTicketSE)
theorem q_both_fL_markTicketSC : RuleOk Try.prog 79 (bothRule tkT fL_markTicketSC.pre fL_markTicketSC.F fL_markTicketSC.G) ∧ CallOk Try.prog 79 := ⟨both_rule q_L_markTicketS.1 q_L_markTicketSE.1 rfl, q_L_markTicketS.2⟩
theorem q_L_markFlowS : RuleOk Try.prog 54 (markRule fL_markFlowSC) ∧ CallOk Try.prog 54 :=
  mkMark (A := aL_markFlowS) gam_nil (rul_cons q_both_fL_markTicketSC rul_nil) Try.func54 (by kernel_rfl) (by kernel_rfl) rfl (by exact @link _ (vcMutT tab (gOf []) (rOf [(79, bothRule tkT fL_markTicketSC.pre fL_markTicketSC.F fL_markTicketSC.G)]) Try.f54 fL_markFlowSC aL_markFlowS) (by kernel_rfl) v_L_markFlowS)
theorem q_L_markRing : RuleOk Try.prog 17 (markRule fL_markRingC) ∧ CallOk Try.prog 17 :=
  mkMark (A := noM0) gam_nil (rul_cons q_L_markFlowS rul_nil) Try.func17 (by kernel_rfl) (by kernel_rfl) rfl (by exact @link _ (vcMutT tab (gOf []) (rOf [(54, markRule fL_markFlowSC)]) Try.f17 fL_markRingC noM0) (by kernel_rfl) v_L_markRing)
theorem q_L_heldTicketS : PureC Try.prog 80 fL_heldTicketSC ∧ CallOk Try.prog 80 :=
  mk (A := aL_heldTicketS) gam_nil rules0 Try.func80 (by kernel_rfl) (by kernel_rfl) (by exact @link _ (vcFunc tab (gOf []) R0 Try.f80 fL_heldTicketSC aL_heldTicketS) (by kernel_rfl) v_L_heldTicketS)
theorem q_L_heldFlowS : PureC Try.prog 55 fL_heldFlowSC ∧ CallOk Try.prog 55 :=
  mk (A := aL_heldFlowS) (gam_cons q_L_heldTicketS gam_nil) rules0 Try.func55 (by kernel_rfl) (by kernel_rfl) (by exact @link _ (vcFunc tab (gOf [(80, fL_heldTicketSC)]) R0 Try.f55 fL_heldFlowSC aL_heldFlowS) (by kernel_rfl) v_L_heldFlowS)
theorem q_L_heldRing : PureC Try.prog 18 fL_heldRingC ∧ CallOk Try.prog 18 :=
  mk (A := noA) (gam_cons q_L_heldFlowS gam_nil) rules0 Try.func18 (by kernel_rfl) (by kernel_rfl) (by exact @link _ (vcFunc tab (gOf [(55, fL_heldFlowSC)]) R0 Try.f18 fL_heldRingC noA) (by kernel_rfl) v_L_heldRing)
-- LAW
theorem q_law0 : PureC Try.prog 7 (lawC [ringA, i64T, i64T]) ∧ CallOk Try.prog 7 :=
  mk (A := aL_Af) (gam_cons q_L_szRing (gam_cons q_L_toRing (gam_cons q_S_AddFlow (gam_cons q_L_eqRing (gam_cons q_L_heldRing gam_nil))))) (rul_cons q_L_toRingT (rul_cons q_I_AddFlowT (rul_cons q_L_markRing rul_nil))) Try.func7 (by kernel_rfl) (by kernel_rfl) (by exact @link _ (vcFunc tab (gOf [(11, fL_szRingC), (13, fL_toRingC), (26, fS_AddFlowC), (16, fL_eqRingC), (18, fL_heldRingC)]) (rOf [(13, treeRule fL_toRingTC), (27, treeRule fI_AddFlowTC), (17, markRule fL_markRingC)]) Try.f7 (lawC [ringA, i64T, i64T]) aL_Af) (by kernel_rfl) v_FnExactAddFlow)
theorem q_law : PureC Try.prog 7 (lawC [ringT, i64T, i64T]) ∧ CallOk Try.prog 7 := ⟨law_untold (ts := [ringA, i64T, i64T]) (by kernel_rfl) q_law0.1, q_law0.2⟩
end Go.SF
