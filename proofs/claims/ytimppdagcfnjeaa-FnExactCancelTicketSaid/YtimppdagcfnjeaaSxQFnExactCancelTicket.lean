/- FnExactCancelTicket: the functions keep their contracts. No condition. -/
import Derived.Test.YtimppdagcfnjeaaSxPLine
import Derived.Test.YtimppdagcfnjeaaSxPRing
import Derived.Test.YtimppdagcfnjeaaSxPRingT
import Derived.Test.YtimppdagcfnjeaaSxPBase
import Derived.Test.YtimppdagcfnjeaaSxPLine2
import Derived.Test.YtimppdagcfnjeaaSxPRing2
import Derived.Test.YtimppdagcfnjeaaSxPRingU
import Derived.Test.YtimppdagcfnjeaaSxPLine3
import Derived.Test.YtimppdagcfnjeaaSxPMark
import Derived.Test.YtimppdagcfnjeaaSxPRingB
import Derived.Test.YtimppdagcfnjeaaSxPFnExactCancelTicket
import Derived.Shelf.RegionOpenPlain
import Derived.WalkKit
import Derived.Deep.LoopGhost
import Derived.Deep.RegionLaw
import Derived.Lib.Walk
import Derived.Test.YtimppdagcfnjeaaSxTab
import Derived.Test.YtimppdagcfnjeaaChecked
import Derived.KernelRfl
namespace Go.SF
open Go.SX Go.Proofs
set_option maxRecDepth 100000
set_option linter.unusedVariables false
theorem rules0 {P : Program} : RulesOk P R0 := fun f r h _ => by cases h
theorem gam_nil {P : Program} : GamOk P (gOf []) := fun f c h => by cases h
theorem gam_cons {P : Program} {k : Nat} {c : PC} {r : List (Nat × PC)} (h : PureC P k c ∧ CallOk P k) (hr : GamOk P (gOf r)) : GamOk P (gOf ((k, c) :: r)) := by
  intro f c' h'
  unfold gOf at h'
  split at h'
  · rename_i e
    injection h' with h'
    subst h'; subst e
    exact h
  · exact hr f c' h'
theorem rul_nil {P : Program} : RulesOk P (rOf []) := fun f c h _ => by cases h
theorem rul_cons {P : Program} {k : Nat} {c : Rule} {r : List (Nat × Rule)} (h : RuleOk P k c ∧ CallOk P k) (hr : RulesOk P (rOf r)) : RulesOk P (rOf ((k, c) :: r)) := by
  intro f c' h' hne
  unfold rOf at h'
  split at h'
  · rename_i e
    injection h' with h'
    subst h'; subst e
    exact h
  · exact hr f c' h' hne
theorem rul_tell {P : Program} {r : List (Nat × Rule)} (hr : RulesOk P (rOf r)) : RulesOk P (rOf ((1000000, tellR) :: r)) := by
  intro f c' h' hne
  unfold rOf at h'
  split at h'
  · rename_i e
    exact absurd e hne
  · exact hr f c' h' hne
theorem tabOk : TabOk Try.prog tab := tabOk_of (by kernel_rfl)
theorem mixed : Try.prog.follows .mixedOrders = true := by kernel_rfl
theorem mk {Γ : FuncId → Option PC} {f : FuncId} {fn : Func} {c : PC} {A : Tup c.ts → Nat → Option Ann} {R : FuncId → Option Rule} (hΓ : GamOk Try.prog Γ) (hR : RulesOk Try.prog R) (hf : Try.prog.funcs[f]? = some fn) (h1 : (fn.name == "runtime.NumGoroutine") = false) (h2 : fn.body.isNone = false)
    (h : vcFunc tab Γ R fn c A) : PureC Try.prog f c ∧ CallOk Try.prog f := ⟨vcFunc_pure mixed tabOk hΓ hR hf h, fn, hf, h1, h2⟩
theorem mkM {Γ : FuncId → Option PC} {R : FuncId → Option Rule} {f : FuncId} {fn : Func} {c : MC} {A : c.t.den → Int → Nat → Option Ann} (hΓ : GamOk Try.prog Γ) (hR : RulesOk Try.prog R) (hf : Try.prog.funcs[f]? = some fn) (h1 : (fn.name == "runtime.NumGoroutine") = false) (h2 : fn.body.isNone = false)
    (hl : c.t.lendable = true) (h : vcMut tab Γ R fn c A) : RuleOk Try.prog f (ruleOf c) ∧ CallOk Try.prog f := ⟨vcMut_rule mixed tabOk hΓ hR hf hl h, fn, hf, h1, h2⟩
theorem mkTree {Γ : FuncId → Option PC} {R : FuncId → Option Rule} {f : FuncId} {fn : Func} {c : TC} {A : Tup c.ts → Nat → Option Ann} (hΓ : GamOk Try.prog Γ) (hR : RulesOk Try.prog R) (hf : Try.prog.funcs[f]? = some fn) (h1 : (fn.name == "runtime.NumGoroutine") = false) (h2 : fn.body.isNone = false)
    (h : vcTree tab Γ R fn c A) : TreeOk Try.prog f c ∧ CallOk Try.prog f := ⟨vcTree_ok mixed tabOk hΓ hR hf h, fn, hf, h1, h2⟩
theorem mkMark {Γ : FuncId → Option PC} {R : FuncId → Option Rule} {f : FuncId} {fn : Func} {c : MT} {A : c.t.den → Int → Nat → Option Ann} (hΓ : GamOk Try.prog Γ) (hR : RulesOk Try.prog R) (hf : Try.prog.funcs[f]? = some fn) (h1 : (fn.name == "runtime.NumGoroutine") = false) (h2 : fn.body.isNone = false)
    (hl : c.t.lendBy Ty.gcl = true) (h : vcMutT tab Γ R fn c A) : RuleOk Try.prog f (markRule c) ∧ CallOk Try.prog f := ⟨mark_rule mixed tabOk hΓ hR hf hl h, fn, hf, h1, h2⟩
theorem mkCut {Γ : FuncId → Option PC} {R : FuncId → Option Rule} {f : FuncId} {fn : Func} {c : CC} {A : List c.e.den → Nat → Option Ann} (hΓ : GamOk Try.prog Γ) (hR : RulesOk Try.prog R) (hf : Try.prog.funcs[f]? = some fn) (h1 : (fn.name == "runtime.NumGoroutine") = false) (h2 : fn.body.isNone = false)
    (hl : c.e.flat = true) (h : vcCut tab Γ R fn c A) : RuleOk Try.prog f (cutRule c) ∧ CallOk Try.prog f := ⟨vcCut_rule mixed tabOk hΓ hR hf hl h, fn, hf, h1, h2⟩
theorem mkBox {Γ : FuncId → Option PC} {R : FuncId → Option Rule} {f : FuncId} {fn : Func} {c : BC} {A : c.t.den → Tup c.ts → Nat → Option Ann} (hΓ : GamOk Try.prog Γ) (hR : RulesOk Try.prog R) (hf : Try.prog.funcs[f]? = some fn) (h1 : (fn.name == "runtime.NumGoroutine") = false) (h2 : fn.body.isNone = false)
    (h : vcBox tab Γ R fn c A) : RuleOk Try.prog f (boxRule c) ∧ CallOk Try.prog f := ⟨vcBox_rule mixed tabOk hΓ hR hf h, fn, hf, h1, h2⟩
theorem mkNew {Γ : FuncId → Option PC} {R : FuncId → Option Rule} {f : FuncId} {fn : Func} {c : NC} {A : Tup c.ts → Nat → Option Ann} (hΓ : GamOk Try.prog Γ) (hR : RulesOk Try.prog R) (hf : Try.prog.funcs[f]? = some fn) (h1 : (fn.name == "runtime.NumGoroutine") = false) (h2 : fn.body.isNone = false)
    (h : vcNew tab Γ R fn c A) : RuleOk Try.prog f (newRule c) ∧ CallOk Try.prog f := ⟨vcNew_rule mixed tabOk hΓ hR hf h, fn, hf, h1, h2⟩
theorem link {p q : Prop} (h : p = q) (hp : p) : q := h ▸ hp
theorem q_L_szTicketS : PureC Try.prog 99 fL_szTicketSC ∧ CallOk Try.prog 99 :=
  mk (A := noA) gam_nil rules0 Try.func99 (by kernel_rfl) (by kernel_rfl) (by exact @link _ (vcFunc tab (gOf []) R0 Try.f99 fL_szTicketSC noA) (by kernel_rfl) v_L_szTicketS)
theorem q_L_szLine : PureC Try.prog 92 fL_szLineC ∧ CallOk Try.prog 92 :=
  mk (A := noA) (gam_cons q_L_szTicketS gam_nil) rules0 Try.func92 (by kernel_rfl) (by kernel_rfl) (by exact @link _ (vcFunc tab (gOf [(99, fL_szTicketSC)]) R0 Try.f92 fL_szLineC noA) (by kernel_rfl) v_L_szLine)
theorem q_L_szFlow : PureC Try.prog 71 fL_szFlowC ∧ CallOk Try.prog 71 :=
  mk (A := noA) (gam_cons q_L_szLine gam_nil) rules0 Try.func71 (by kernel_rfl) (by kernel_rfl) (by exact @link _ (vcFunc tab (gOf [(92, fL_szLineC)]) R0 Try.f71 fL_szFlowC noA) (by kernel_rfl) v_L_szFlow)
theorem q_L_szFlowS : PureC Try.prog 44 fL_szFlowSC ∧ CallOk Try.prog 44 :=
  mk (A := aL_szFlowS) (gam_cons q_L_szFlow gam_nil) rules0 Try.func44 (by kernel_rfl) (by kernel_rfl) (by exact @link _ (vcFunc tab (gOf [(71, fL_szFlowC)]) R0 Try.f44 fL_szFlowSC aL_szFlowS) (by kernel_rfl) v_L_szFlowS)
theorem q_L_szRing : PureC Try.prog 11 fL_szRingC ∧ CallOk Try.prog 11 :=
  mk (A := noA) (gam_cons q_L_szFlowS gam_nil) rules0 Try.func11 (by kernel_rfl) (by kernel_rfl) (by exact @link _ (vcFunc tab (gOf [(44, fL_szFlowSC)]) R0 Try.f11 fL_szRingC noA) (by kernel_rfl) v_L_szRing)
theorem q_L_toTicket : PureC Try.prog 14 fL_toTicketC ∧ CallOk Try.prog 14 :=
  mk (A := noA) gam_nil rules0 Try.func14 (by kernel_rfl) (by kernel_rfl) (by exact @link _ (vcFunc tab (gOf []) R0 Try.f14 fL_toTicketC noA) (by kernel_rfl) v_L_toTicket)
theorem q_L_toTicketS : PureC Try.prog 100 fL_toTicketSC ∧ CallOk Try.prog 100 :=
  mk (A := aL_toTicketS) (gam_cons q_L_toTicket gam_nil) rules0 Try.func100 (by kernel_rfl) (by kernel_rfl) (by exact @link _ (vcFunc tab (gOf [(14, fL_toTicketC)]) R0 Try.f100 fL_toTicketSC aL_toTicketS) (by kernel_rfl) v_L_toTicketS)
theorem q_L_toLine : PureC Try.prog 93 fL_toLineC ∧ CallOk Try.prog 93 :=
  mk (A := noA) (gam_cons q_L_toTicketS gam_nil) rules0 Try.func93 (by kernel_rfl) (by kernel_rfl) (by exact @link _ (vcFunc tab (gOf [(100, fL_toTicketSC)]) R0 Try.f93 fL_toLineC noA) (by kernel_rfl) v_L_toLine)
theorem q_L_toFlow : PureC Try.prog 73 fL_toFlowC ∧ CallOk Try.prog 73 :=
  mk (A := noA) (gam_cons q_L_toLine gam_nil) rules0 Try.func73 (by kernel_rfl) (by kernel_rfl) (by exact @link _ (vcFunc tab (gOf [(93, fL_toLineC)]) R0 Try.f73 fL_toFlowC noA) (by kernel_rfl) v_L_toFlow)
theorem q_L_toFlowS : PureC Try.prog 48 fL_toFlowSC ∧ CallOk Try.prog 48 :=
  mk (A := aL_toFlowS) (gam_cons q_L_toFlow gam_nil) rules0 Try.func48 (by kernel_rfl) (by kernel_rfl) (by exact @link _ (vcFunc tab (gOf [(73, fL_toFlowC)]) R0 Try.f48 fL_toFlowSC aL_toFlowS) (by kernel_rfl) v_L_toFlowS)
theorem q_L_toRing : PureC Try.prog 13 fL_toRingC ∧ CallOk Try.prog 13 :=
  mk (A := noA) (gam_cons q_L_toFlowS gam_nil) rules0 Try.func13 (by kernel_rfl) (by kernel_rfl) (by exact @link _ (vcFunc tab (gOf [(48, fL_toFlowSC)]) R0 Try.f13 fL_toRingC noA) (by kernel_rfl) v_L_toRing)
theorem qt_L_toFlowST : TreeOk Try.prog 48 fL_toFlowSTC ∧ CallOk Try.prog 48 :=
  mkTree (A := aL_toFlowST) (gam_cons q_L_toFlow gam_nil) (rul_tell rul_nil) Try.func48 (by kernel_rfl) (by kernel_rfl) (by exact @link _ (vcTree tab (gOf [(73, fL_toFlowC)]) (rOf [(1000000, tellR)]) Try.f48 fL_toFlowSTC aL_toFlowST) (by kernel_rfl) v_L_toFlowST)
theorem q_L_toFlowST : RuleOk Try.prog 48 (treeRule fL_toFlowSTC) ∧ CallOk Try.prog 48 := ⟨tree_rule qt_L_toFlowST.1, qt_L_toFlowST.2⟩
theorem qt_L_toRingT : TreeOk Try.prog 13 fL_toRingTC ∧ CallOk Try.prog 13 :=
  mkTree (A := noA) gam_nil (rul_tell (rul_cons q_L_toFlowST rul_nil)) Try.func13 (by kernel_rfl) (by kernel_rfl) (by exact @link _ (vcTree tab (gOf []) (rOf [(1000000, tellR), (48, treeRule fL_toFlowSTC)]) Try.f13 fL_toRingTC noA) (by kernel_rfl) v_L_toRingT)
theorem q_L_toRingT : RuleOk Try.prog 13 (treeRule fL_toRingTC) ∧ CallOk Try.prog 13 := ⟨tree_rule qt_L_toRingT.1, qt_L_toRingT.2⟩
theorem q_S_l01In : PureC Try.prog 67 fS_l01InC ∧ CallOk Try.prog 67 :=
  mk (A := noA) gam_nil rules0 Try.func67 (by kernel_rfl) (by kernel_rfl) (by exact @link _ (vcFunc tab (gOf []) R0 Try.f67 fS_l01InC noA) (by kernel_rfl) v_S_l01In)
theorem q_S_l13Ticket : PureC Try.prog 91 fS_l13TicketC ∧ CallOk Try.prog 91 :=
  mk (A := noA) (gam_cons q_S_l01In gam_nil) rules0 Try.func91 (by kernel_rfl) (by kernel_rfl) (by exact @link _ (vcFunc tab (gOf [(67, fS_l01InC)]) R0 Try.f91 fS_l13TicketC noA) (by kernel_rfl) v_S_l13Ticket)
theorem q_S_LineOk : PureC Try.prog 70 fS_LineOkC ∧ CallOk Try.prog 70 :=
  mk (A := aS_LineOk) (gam_cons q_S_l13Ticket gam_nil) rules0 Try.func70 (by kernel_rfl) (by kernel_rfl) (by exact @link _ (vcFunc tab (gOf [(91, fS_l13TicketC)]) R0 Try.f70 fS_LineOkC aS_LineOk) (by kernel_rfl) v_S_LineOk)
theorem q_S_l14Flow : PureC Try.prog 68 fS_l14FlowC ∧ CallOk Try.prog 68 :=
  mk (A := noA) (gam_cons q_S_l01In (gam_cons q_S_LineOk gam_nil)) rules0 Try.func68 (by kernel_rfl) (by kernel_rfl) (by exact @link _ (vcFunc tab (gOf [(67, fS_l01InC), (70, fS_LineOkC)]) R0 Try.f68 fS_l14FlowC noA) (by kernel_rfl) v_S_l14Flow)
theorem q_S_RingOk : PureC Try.prog 37 fS_RingOkC ∧ CallOk Try.prog 37 :=
  mk (A := aS_RingOk) (gam_cons q_S_l01In (gam_cons q_S_l14Flow gam_nil)) rules0 Try.func37 (by kernel_rfl) (by kernel_rfl) (by exact @link _ (vcFunc tab (gOf [(67, fS_l01InC), (68, fS_l14FlowC)]) R0 Try.f37 fS_RingOkC aS_RingOk) (by kernel_rfl) v_S_RingOk)
theorem q_S_l13Copy : PureC Try.prog 72 fS_l13CopyC ∧ CallOk Try.prog 72 :=
  mk (A := aS_l13Copy) gam_nil rules0 Try.func72 (by kernel_rfl) (by kernel_rfl) (by exact @link _ (vcFunc tab (gOf []) R0 Try.f72 fS_l13CopyC aS_l13Copy) (by kernel_rfl) v_S_l13Copy)
theorem q_S_l14Copy : PureC Try.prog 45 fS_l14CopyC ∧ CallOk Try.prog 45 :=
  mk (A := aS_l14Copy) (gam_cons q_S_l13Copy gam_nil) rules0 Try.func45 (by kernel_rfl) (by kernel_rfl) (by exact @link _ (vcFunc tab (gOf [(72, fS_l13CopyC)]) R0 Try.f45 fS_l14CopyC aS_l14Copy) (by kernel_rfl) v_S_l14Copy)
theorem q_S_l14At : PureC Try.prog 46 fS_l14AtC ∧ CallOk Try.prog 46 :=
  mk (A := aS_l14At) gam_nil rules0 Try.func46 (by kernel_rfl) (by kernel_rfl) (by exact @link _ (vcFunc tab (gOf []) R0 Try.f46 fS_l14AtC aS_l14At) (by kernel_rfl) v_S_l14At)
theorem q_S_Cancel : PureC Try.prog 57 fS_CancelC ∧ CallOk Try.prog 57 :=
  mk (A := aS_Cancel) (gam_cons q_S_LineOk (gam_cons q_S_l13Copy gam_nil)) rules0 Try.func57 (by kernel_rfl) (by kernel_rfl) (by exact @link _ (vcFunc tab (gOf [(70, fS_LineOkC), (72, fS_l13CopyC)]) R0 Try.f57 fS_CancelC aS_Cancel) (by kernel_rfl) v_S_Cancel)
theorem q_S_CancelTicket : PureC Try.prog 21 fS_CancelTicketC ∧ CallOk Try.prog 21 :=
  mk (A := aS_CancelTicket) (gam_cons q_S_RingOk (gam_cons q_S_l14Copy (gam_cons q_S_l14At (gam_cons q_S_Cancel gam_nil)))) rules0 Try.func21 (by kernel_rfl) (by kernel_rfl) (by exact @link _ (vcFunc tab (gOf [(37, fS_RingOkC), (45, fS_l14CopyC), (46, fS_l14AtC), (57, fS_CancelC)]) R0 Try.f21 fS_CancelTicketC aS_CancelTicket) (by kernel_rfl) v_S_CancelTicket)
theorem q_I_copyLine : PureC Try.prog 74 fI_copyLineC ∧ CallOk Try.prog 74 :=
  mk (A := noA) gam_nil rules0 Try.func74 (by kernel_rfl) (by kernel_rfl) (by exact @link _ (vcFunc tab (gOf []) R0 Try.f74 fI_copyLineC noA) (by kernel_rfl) v_I_copyLine)
theorem qt_I_copyRingT : TreeOk Try.prog 49 fI_copyRingTC ∧ CallOk Try.prog 49 :=
  mkTree (A := aI_copyRing) (gam_cons q_I_copyLine gam_nil) (rul_tell rul_nil) Try.func49 (by kernel_rfl) (by kernel_rfl) (by exact @link _ (vcTree tab (gOf [(74, fI_copyLineC)]) (rOf [(1000000, tellR)]) Try.f49 fI_copyRingTC aI_copyRing) (by kernel_rfl) v_I_copyRingT)
theorem q_I_copyRingT : RuleOk Try.prog 49 (treeRule fI_copyRingTC) ∧ CallOk Try.prog 49 := ⟨tree_rule qt_I_copyRingT.1, qt_I_copyRingT.2⟩
theorem q_I_flowOf1 : PureC Try.prog 76 fI_flowOf1C ∧ CallOk Try.prog 76 :=
  mk (A := noA) gam_nil rules0 Try.func76 (by kernel_rfl) (by kernel_rfl) (by exact @link _ (vcFunc tab (gOf []) R0 Try.f76 fI_flowOf1C noA) (by kernel_rfl) v_I_flowOf1)
theorem q_G_IndexFuncFl : PureC Try.prog 75 (fG_IndexFuncFlC 76) ∧ CallOk Try.prog 75 :=
  mk (A := aG_IndexFuncFl) (gam_cons q_I_flowOf1 gam_nil) rules0 Try.func75 (by kernel_rfl) (by kernel_rfl) (by exact @link _ (vcFunc tab (gOf [(76, fI_flowOf1C)]) R0 Try.f75 (fG_IndexFuncFlC 76) aG_IndexFuncFl) (by kernel_rfl) v_G_IndexFuncFl)
theorem q_I_flowOf : PureC Try.prog 50 fI_flowOfC ∧ CallOk Try.prog 50 :=
  mk (A := noA) (gam_cons q_G_IndexFuncFl gam_nil) rules0 Try.func50 (by kernel_rfl) (by kernel_rfl) (by exact @link _ (vcFunc tab (gOf [(75, (fG_IndexFuncFlC 76))]) R0 Try.f50 fI_flowOfC noA) (by kernel_rfl) v_I_flowOf)
theorem q_I_isTicket : PureC Try.prog 94 fI_isTicketC ∧ CallOk Try.prog 94 :=
  mk (A := noA) gam_nil rules0 Try.func94 (by kernel_rfl) (by kernel_rfl) (by exact @link _ (vcFunc tab (gOf []) R0 Try.f94 fI_isTicketC noA) (by kernel_rfl) v_I_isTicket)
theorem q_I_isLine : PureC Try.prog 77 fI_isLineC ∧ CallOk Try.prog 77 :=
  mk (A := aI_isLine) (gam_cons q_I_isTicket gam_nil) rules0 Try.func77 (by kernel_rfl) (by kernel_rfl) (by exact @link _ (vcFunc tab (gOf [(94, fI_isTicketC)]) R0 Try.f77 fI_isLineC aI_isLine) (by kernel_rfl) v_I_isLine)
theorem q_I_isRing : PureC Try.prog 51 fI_isRingC ∧ CallOk Try.prog 51 :=
  mk (A := aI_isRing) (gam_cons q_I_isLine gam_nil) rules0 Try.func51 (by kernel_rfl) (by kernel_rfl) (by exact @link _ (vcFunc tab (gOf [(77, fI_isLineC)]) R0 Try.f51 fI_isRingC aI_isRing) (by kernel_rfl) v_I_isRing)
theorem q_I_placeOf1 : PureC Try.prog 82 fI_placeOf1C ∧ CallOk Try.prog 82 :=
  mk (A := noA) gam_nil rules0 Try.func82 (by kernel_rfl) (by kernel_rfl) (by exact @link _ (vcFunc tab (gOf []) R0 Try.f82 fI_placeOf1C noA) (by kernel_rfl) v_I_placeOf1)
theorem q_G_IndexFuncTk : PureC Try.prog 81 (fG_IndexFuncTkC 82) ∧ CallOk Try.prog 81 :=
  mk (A := aG_IndexFuncTk) (gam_cons q_I_placeOf1 gam_nil) rules0 Try.func81 (by kernel_rfl) (by kernel_rfl) (by exact @link _ (vcFunc tab (gOf [(82, fI_placeOf1C)]) R0 Try.f81 (fG_IndexFuncTkC 82) aG_IndexFuncTk) (by kernel_rfl) v_G_IndexFuncTk)
theorem q_I_placeOf : PureC Try.prog 58 fI_placeOfC ∧ CallOk Try.prog 58 :=
  mk (A := noA) (gam_cons q_G_IndexFuncTk gam_nil) rules0 Try.func58 (by kernel_rfl) (by kernel_rfl) (by exact @link _ (vcFunc tab (gOf [(81, (fG_IndexFuncTkC 82))]) R0 Try.f58 fI_placeOfC noA) (by kernel_rfl) v_I_placeOf)
section
open Go.RowKit Go.Lib Go.Sort
theorem ownDELimpl_Ticket_mixed : Try.prog.follows .mixedOrders = true := by kernel_rfl
theorem ownDELimpl_Ticket_t0 : Try.prog.underlying 0 = some (TypeDesc.tuple #[]) := by kernel_rfl
theorem ownDELimpl_Ticket_a0 : ∀ w, (isAgg 0).run Try.prog w = .ok false w := fun w => by kernel_rfl
theorem ownDELimpl_Ticket_z0 : ∀ w, (Go.sizeOf 0).run Try.prog w = .ok 1 w := fun w => by kernel_rfl
theorem ownDELimpl_Ticket_v0 : ∀ w, (zeroValue 0).run Try.prog w = .ok (Value.tuple #[]) w := fun w => by kernel_rfl
theorem ownDELimpl_Ticket_t3 : Try.prog.underlying 3 = some (TypeDesc.int IntKind.i64) := by kernel_rfl
theorem ownDELimpl_Ticket_a3 : ∀ w, (isAgg 3).run Try.prog w = .ok false w := fun w => by kernel_rfl
theorem ownDELimpl_Ticket_z3 : ∀ w, (Go.sizeOf 3).run Try.prog w = .ok 1 w := fun w => by kernel_rfl
theorem ownDELimpl_Ticket_v3 : ∀ w, (zeroValue 3).run Try.prog w = .ok (Value.int IntKind.i64 0) w := fun w => by kernel_rfl
theorem ownDELimpl_Ticket_t4 : Try.prog.underlying 4 = some TypeDesc.bool := by kernel_rfl
theorem ownDELimpl_Ticket_a4 : ∀ w, (isAgg 4).run Try.prog w = .ok false w := fun w => by kernel_rfl
theorem ownDELimpl_Ticket_z4 : ∀ w, (Go.sizeOf 4).run Try.prog w = .ok 1 w := fun w => by kernel_rfl
theorem ownDELimpl_Ticket_v4 : ∀ w, (zeroValue 4).run Try.prog w = .ok (Value.bool false) w := fun w => by kernel_rfl
theorem ownDELimpl_Ticket_tS : Try.prog.underlying 63 = some (TypeDesc.slice 34) := by kernel_rfl
theorem ownDELimpl_Ticket_aS : ∀ w, (isAgg 63).run Try.prog w = .ok false w := fun w => by kernel_rfl
theorem ownDELimpl_Ticket_zS : ∀ w, (Go.sizeOf 63).run Try.prog w = .ok 1 w := fun w => by kernel_rfl
theorem ownDELimpl_Ticket_vS : ∀ w, (zeroValue 63).run Try.prog w = .ok (Value.slice none 0 0) w := fun w => by kernel_rfl

set_option maxHeartbeats 4000000 in
set_option maxRecDepth 1000000 in
theorem ownDELimpl_Ticket_same (v : Value) (i : Nat) (w : World) (hv : v = .slice none 0 0 ∧ i = 0 ∨ ∃ blk n cap, v = .slice (some ⟨blk, 0, none⟩) n cap ∧ n ≤ cap ∧ i ≤ n) :
    Calls Try.prog 83 #[v, .int .i64 i, .int .i64 i] w fun e w' => e = .returned v ∧ w' = w := by
  have mixed := ownDELimpl_Ticket_mixed; have t0 := ownDELimpl_Ticket_t0; have a0 := ownDELimpl_Ticket_a0; have z0 := ownDELimpl_Ticket_z0; have v0 := ownDELimpl_Ticket_v0; have t3 := ownDELimpl_Ticket_t3; have a3 := ownDELimpl_Ticket_a3; have z3 := ownDELimpl_Ticket_z3; have v3 := ownDELimpl_Ticket_v3; have t4 := ownDELimpl_Ticket_t4; have a4 := ownDELimpl_Ticket_a4; have z4 := ownDELimpl_Ticket_z4; have v4 := ownDELimpl_Ticket_v4; have tS := ownDELimpl_Ticket_tS; have aS := ownDELimpl_Ticket_aS; have zS := ownDELimpl_Ticket_zS; have vS := ownDELimpl_Ticket_vS
  rcases hv with ⟨rfl, rfl⟩ | ⟨blk, n, cap, rfl, h1, h2⟩
  · go_enter Try.func83, Try.ntmps83
    go_wp2
    all_goals (go_ret; exact ⟨rfl, rfl⟩)
  · go_enter Try.func83, Try.ntmps83
    go_wp2
    all_goals (go_ret; exact ⟨rfl, rfl⟩)

set_option maxHeartbeats 4000000 in
set_option maxRecDepth 1000000 in
theorem ownDELimpl_Ticket_cut (blk n cap i j : Nat) (news : List Value) (w : World) (hcap : n ≤ cap) (hij : i < j) (hj : j ≤ n) (hl : news.length = (n - j) * 2)
    (hsrc : ∀ t u, news[t]? = some u → w.cell? ⟨blk, j * 2 + t, none⟩ = some u) (h1c : ∀ u ∈ news, u.oneCell' = true)
    (hsp : ∀ t, t < n * 2 → (w.cell? ⟨blk, t, none⟩).isSome = true ∧ w.frozen? ⟨blk, t, none⟩ = false) :
    Calls Try.prog 83 #[.slice (some ⟨blk, 0, none⟩) n cap, .int .i64 i, .int .i64 j] w fun e w' => e = .returned (.slice (some ⟨blk, 0, none⟩) (i + (n - j)) cap) ∧
      ∃ zs : List Value, zs.length = (n - (i + (n - j))) * 2 ∧ w' = (w.drew.setCells blk (i * 2) news).setCells blk ((i + (n - j)) * 2) zs := by
  have mixed := ownDELimpl_Ticket_mixed; have t0 := ownDELimpl_Ticket_t0; have a0 := ownDELimpl_Ticket_a0; have z0 := ownDELimpl_Ticket_z0; have v0 := ownDELimpl_Ticket_v0; have t3 := ownDELimpl_Ticket_t3; have a3 := ownDELimpl_Ticket_a3; have z3 := ownDELimpl_Ticket_z3; have v3 := ownDELimpl_Ticket_v3; have t4 := ownDELimpl_Ticket_t4; have a4 := ownDELimpl_Ticket_a4; have z4 := ownDELimpl_Ticket_z4; have v4 := ownDELimpl_Ticket_v4; have tS := ownDELimpl_Ticket_tS; have aS := ownDELimpl_Ticket_aS; have zS := ownDELimpl_Ticket_zS; have vS := ownDELimpl_Ticket_vS
  obtain ⟨i0, hi0, hz1⟩ : ∃ i0, Try.prog.info? 34 = some i0 ∧ i0.size = 2 := Option.map_eq_some_iff.1 (show (Try.prog.info? 34).map (fun i => i.size) = some 2 by kernel_rfl)
  have vE : ∀ w, (zeroValue 34).run Try.prog w = .ok (.agg #[.int .i64 0, .int .i64 0]) w := fun w => by kernel_rfl
  obtain ⟨A, hA, hsrc'⟩ : ∃ A : Addr, (if cap = j then some (⟨blk, 0, none⟩ : Addr) else some ⟨blk, j * 2, none⟩) = some A ∧ Hid (∀ t u, news[t]? = some u → w.drew.cell? (A.add t) = some u) := by
    by_cases h : cap = j
    · refine ⟨⟨blk, 0, none⟩, by simp [h], fun t u hu => ?_⟩
      have h0 : news.length = 0 := by rw [hl]; omega
      rw [List.length_eq_zero_iff.1 h0] at hu
      simp at hu
    · exact ⟨⟨blk, j * 2, none⟩, by simp [h], fun t u hu => by rw [Addr.add_lit]; exact hsrc t u hu⟩
  have s1 : Hid (news.length = (n - j) * 2) := hl
  have s2 : Hid (∀ u ∈ news, u.oneCell' = true) := h1c
  have s3 : Hid (∀ t, t < news.length → (w.drew.cell? ⟨blk, 0 + i * 2 + t, none⟩).isSome = true ∧ w.drew.frozen? ⟨blk, 0 + i * 2 + t, none⟩ = false) := by
    intro t ht
    rw [hl] at ht
    rw [Nat.zero_add]
    exact hsp (i * 2 + t) (by omega)
  obtain ⟨W1, hW1⟩ : ∃ W1, W1 = w.drew.setCells blk (0 + i * 2) news := ⟨_, rfl⟩
  have hsp1 : ∀ t, t < n * 2 → (W1.cell? ⟨blk, t, none⟩).isSome = true ∧ W1.frozen? ⟨blk, t, none⟩ = false := by
    intro t ht
    subst hW1
    refine ⟨?_, by rw [World.frozen?_setCells]; exact (hsp t ht).2⟩
    by_cases hin : i * 2 ≤ t ∧ t < i * 2 + news.length
    · have h2 := World.cell?_setCells_in blk news (0 + i * 2) w.drew (fun k hk => (s3.out k hk).1) (t - i * 2) (by omega)
      rw [show 0 + i * 2 + (t - i * 2) = t by omega] at h2
      rw [h2]; rfl
    · rw [World.cell?_setCells_out blk news _ _ _ (fun _ _ => by show t < 0 + i * 2 ∨ 0 + i * 2 + news.length ≤ t; omega)]
      exact (hsp t ht).1
  obtain ⟨zs, hzs, hcl⟩ : ∃ zs : List Value, zs.length = (n - (i + (n - j))) * 2 ∧ ∀ ty, (Builtin.clear_ #[63] ty #[.slice (some ⟨blk, (i + (n - j)) * 2, none⟩) (n - (i + (n - j))) (cap - (i + (n - j)))]).run Try.prog W1 = .ok (.tuple #[]) (W1.setCells blk ((i + (n - j)) * 2) zs) := by
    refine ⟨(Builtin.zeroCells (Value.agg #[.int .i64 0, .int .i64 0]).cells (n - (i + (n - j)))).toList, by simp [Builtin.zeroCells, Value.cells], fun ty => ?_⟩
    refine run_clear_many W1 _ _ ty _ tS vE (by simp [Value.cells, Value.oneCell']) (by simp [Value.cells]) blk _ _ _ (by omega) (fun t ht => ?_) (fun t ht => ?_)
    · have h2 : (Value.agg #[.int .i64 0, .int .i64 0]).cells.size = 2 := rfl
      rw [h2] at ht
      exact (hsp1 _ (by omega)).1
    · have h2 : (Value.agg #[.int .i64 0, .int .i64 0]).cells.size = 2 := rfl
      rw [h2] at ht
      exact (hsp1 _ (by omega)).2
  have hW : Hid (W1 = w.drew.setCells blk (0 + i * 2) news) := hW1
  have hic : i ≤ cap := by omega
  have hjc : j ≤ cap := by omega
  clear hW1 hsp1 hsp hsrc hl vE
  go_enter Try.func83, Try.ntmps83
  go_wp2_with fail
  go_region_law_o (refine step_append_room rfl (.tmp 22) (.tmp 25) 63 rfl 34 i0 2 tS hi0 hz1 blk 0 i cap (by simp [Act.eval, Act.put]) A (n - j) (cap - j) news (by simp [Act.eval, Act.put]) s1.out hsrc'.out s2.out (by omega) s3.out ?_; rw [← hW.out])
  go_wp2
  all_goals (go_ret; refine ⟨rfl, zs, hzs, ?_⟩; rw [hW.out, Nat.zero_add])
theorem q_ownDELimpl_Ticket : RuleOk Try.prog 83 (delRule tkT) ∧ CallOk Try.prog 83 :=
  ⟨del_rule ⟨ownDELimpl_Ticket_same, ownDELimpl_Ticket_cut⟩, _, Try.func83, by kernel_rfl, by kernel_rfl⟩
end
theorem q_I_withoutTicket : PureC Try.prog 59 fI_withoutTicketC ∧ CallOk Try.prog 59 :=
  mk (A := noA) (gam_cons q_I_copyLine gam_nil) (rul_cons q_ownDELimpl_Ticket rul_nil) Try.func59 (by kernel_rfl) (by kernel_rfl) (by exact @link _ (vcFunc tab (gOf [(74, fI_copyLineC)]) (rOf [(83, (delRule tkT))]) Try.f59 fI_withoutTicketC noA) (by kernel_rfl) v_I_withoutTicket)
theorem qt_I_CancelTicketT : TreeOk Try.prog 22 fI_CancelTicketTC ∧ CallOk Try.prog 22 :=
  mkTree (A := aI_CancelTicket) (gam_cons q_I_flowOf (gam_cons q_I_isRing (gam_cons q_I_placeOf (gam_cons q_I_withoutTicket gam_nil)))) (rul_tell (rul_cons q_I_copyRingT rul_nil)) Try.func22 (by kernel_rfl) (by kernel_rfl) (by exact @link _ (vcTree tab (gOf [(50, fI_flowOfC), (51, fI_isRingC), (58, fI_placeOfC), (59, fI_withoutTicketC)]) (rOf [(1000000, tellR), (49, treeRule fI_copyRingTC)]) Try.f22 fI_CancelTicketTC aI_CancelTicket) (by kernel_rfl) v_I_CancelTicketT)
theorem q_I_CancelTicketT : RuleOk Try.prog 22 (treeRule fI_CancelTicketTC) ∧ CallOk Try.prog 22 := ⟨tree_rule qt_I_CancelTicketT.1, qt_I_CancelTicketT.2⟩
theorem q_L_eqTicket : PureC Try.prog 23 fL_eqTicketC ∧ CallOk Try.prog 23 :=
  mk (A := noA) gam_nil rules0 Try.func23 (by kernel_rfl) (by kernel_rfl) (by exact @link _ (vcFunc tab (gOf []) R0 Try.f23 fL_eqTicketC noA) (by kernel_rfl) v_L_eqTicket)
theorem q_L_eqTicketS : PureC Try.prog 101 fL_eqTicketSC ∧ CallOk Try.prog 101 :=
  mk (A := aL_eqTicketS) (gam_cons q_L_eqTicket gam_nil) rules0 Try.func101 (by kernel_rfl) (by kernel_rfl) (by exact @link _ (vcFunc tab (gOf [(23, fL_eqTicketC)]) R0 Try.f101 fL_eqTicketSC aL_eqTicketS) (by kernel_rfl) v_L_eqTicketS)
theorem q_L_eqLine : PureC Try.prog 95 fL_eqLineC ∧ CallOk Try.prog 95 :=
  mk (A := noA) (gam_cons q_L_eqTicketS gam_nil) rules0 Try.func95 (by kernel_rfl) (by kernel_rfl) (by exact @link _ (vcFunc tab (gOf [(101, fL_eqTicketSC)]) R0 Try.f95 fL_eqLineC noA) (by kernel_rfl) v_L_eqLine)
theorem q_L_eqFlow : PureC Try.prog 78 fL_eqFlowC ∧ CallOk Try.prog 78 :=
  mk (A := noA) (gam_cons q_L_eqLine gam_nil) rules0 Try.func78 (by kernel_rfl) (by kernel_rfl) (by exact @link _ (vcFunc tab (gOf [(95, fL_eqLineC)]) R0 Try.f78 fL_eqFlowC noA) (by kernel_rfl) v_L_eqFlow)
theorem q_L_eqFlowS : PureC Try.prog 53 fL_eqFlowSC ∧ CallOk Try.prog 53 :=
  mk (A := aL_eqFlowS) (gam_cons q_L_eqFlow gam_nil) rules0 Try.func53 (by kernel_rfl) (by kernel_rfl) (by exact @link _ (vcFunc tab (gOf [(78, fL_eqFlowC)]) R0 Try.f53 fL_eqFlowSC aL_eqFlowS) (by kernel_rfl) v_L_eqFlowS)
theorem q_L_eqRing : PureC Try.prog 16 fL_eqRingC ∧ CallOk Try.prog 16 :=
  mk (A := noA) (gam_cons q_L_eqFlowS gam_nil) rules0 Try.func16 (by kernel_rfl) (by kernel_rfl) (by exact @link _ (vcFunc tab (gOf [(53, fL_eqFlowSC)]) R0 Try.f16 fL_eqRingC noA) (by kernel_rfl) v_L_eqRing)
theorem q_L_markTicketS : RuleOk Try.prog 79 (ruleOf fL_markTicketSC) ∧ CallOk Try.prog 79 :=
  mkM (A := aL_markTicketS) gam_nil rules0 Try.func79 (by kernel_rfl) (by kernel_rfl) rfl (by exact @link _ (vcMut tab (gOf []) R0 Try.f79 fL_markTicketSC aL_markTicketS) (by kernel_rfl) v_L_markTicketS)
theorem q_L_markTicketSE : PureC Try.prog 79 fL_markTicketSEC ∧ CallOk Try.prog 79 :=
  mk (A := aL_markTicketSE) gam_nil rules0 Try.func79 (by kernel_rfl) (by kernel_rfl) (by exact @link _ (vcFunc tab (gOf []) R0 Try.f79 fL_markTicketSEC aL_markTicketSE) (by kernel_rfl) v_L_markTicketSE)
theorem q_both_fL_markTicketSC : RuleOk Try.prog 79 (bothRule tkT fL_markTicketSC.pre fL_markTicketSC.F fL_markTicketSC.G) ∧ CallOk Try.prog 79 := ⟨both_rule q_L_markTicketS.1 q_L_markTicketSE.1 rfl, q_L_markTicketS.2⟩
theorem q_L_markFlowS : RuleOk Try.prog 54 (markRule fL_markFlowSC) ∧ CallOk Try.prog 54 :=
  mkMark (A := aL_markFlowS) gam_nil (rul_cons q_both_fL_markTicketSC rul_nil) Try.func54 (by kernel_rfl) (by kernel_rfl) rfl (by exact @link _ (vcMutT tab (gOf []) (rOf [(79, bothRule tkT fL_markTicketSC.pre fL_markTicketSC.F fL_markTicketSC.G)]) Try.f54 fL_markFlowSC aL_markFlowS) (by kernel_rfl) v_L_markFlowS)
theorem q_L_markRing : RuleOk Try.prog 17 (markRule fL_markRingC) ∧ CallOk Try.prog 17 :=
  mkMark (A := noM0) gam_nil (rul_cons q_L_markFlowS rul_nil) Try.func17 (by kernel_rfl) (by kernel_rfl) rfl (by exact @link _ (vcMutT tab (gOf []) (rOf [(54, markRule fL_markFlowSC)]) Try.f17 fL_markRingC noM0) (by kernel_rfl) v_L_markRing)
theorem q_L_heldTicketS : PureC Try.prog 80 fL_heldTicketSC ∧ CallOk Try.prog 80 :=
  mk (A := aL_heldTicketS) gam_nil rules0 Try.func80 (by kernel_rfl) (by kernel_rfl) (by exact @link _ (vcFunc tab (gOf []) R0 Try.f80 fL_heldTicketSC aL_heldTicketS) (by kernel_rfl) v_L_heldTicketS)
theorem q_L_heldFlowS : PureC Try.prog 55 fL_heldFlowSC ∧ CallOk Try.prog 55 :=
  mk (A := aL_heldFlowS) (gam_cons q_L_heldTicketS gam_nil) rules0 Try.func55 (by kernel_rfl) (by kernel_rfl) (by exact @link _ (vcFunc tab (gOf [(80, fL_heldTicketSC)]) R0 Try.f55 fL_heldFlowSC aL_heldFlowS) (by kernel_rfl) v_L_heldFlowS)
theorem q_L_heldRing : PureC Try.prog 18 fL_heldRingC ∧ CallOk Try.prog 18 :=
  mk (A := noA) (gam_cons q_L_heldFlowS gam_nil) rules0 Try.func18 (by kernel_rfl) (by kernel_rfl) (by exact @link _ (vcFunc tab (gOf [(55, fL_heldFlowSC)]) R0 Try.f18 fL_heldRingC noA) (by kernel_rfl) v_L_heldRing)
-- LAW
theorem q_law0 : PureC Try.prog 5 (lawC [ringA, i64T, i64T]) ∧ CallOk Try.prog 5 :=
  mk (A := aL_Ca) (gam_cons q_L_szRing (gam_cons q_L_toRing (gam_cons q_S_CancelTicket (gam_cons q_L_eqRing (gam_cons q_L_eqTicket (gam_cons q_L_heldRing gam_nil)))))) (rul_cons q_L_toRingT (rul_cons q_I_CancelTicketT (rul_cons q_L_markRing rul_nil))) Try.func5 (by kernel_rfl) (by kernel_rfl) (by exact @link _ (vcFunc tab (gOf [(11, fL_szRingC), (13, fL_toRingC), (21, fS_CancelTicketC), (16, fL_eqRingC), (23, fL_eqTicketC), (18, fL_heldRingC)]) (rOf [(13, treeRule fL_toRingTC), (22, treeRule fI_CancelTicketTC), (17, markRule fL_markRingC)]) Try.f5 (lawC [ringA, i64T, i64T]) aL_Ca) (by kernel_rfl) v_FnExactCancelTicket)
theorem q_law : PureC Try.prog 5 (lawC [ringT, i64T, i64T]) ∧ CallOk Try.prog 5 := ⟨law_untold (ts := [ringA, i64T, i64T]) (by kernel_rfl) q_law0.1, q_law0.2⟩
end Go.SF
