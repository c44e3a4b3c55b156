/- FnExactFairGap: the functions keep their contracts. No condition. -/
import Derived.Test.YtoikbmdjancdcaaSxPLine
import Derived.Test.YtoikbmdjancdcaaSxPRing
import Derived.Test.YtoikbmdjancdcaaSxPBase
import Derived.Test.YtoikbmdjancdcaaSxPRing2
import Derived.Test.YtoikbmdjancdcaaSxPRingB
import Derived.Test.YtoikbmdjancdcaaSxPFnExactFairGap
import Derived.Test.YtoikbmdjancdcaaSxTab
import Derived.Test.YtoikbmdjancdcaaChecked
import Derived.KernelRfl
namespace Go.SF
open Go.SX Go.Proofs
set_option maxRecDepth 100000
set_option linter.unusedVariables false
theorem rules0 {P : Program} : RulesOk P R0 := fun f r h => by cases h
theorem gam_nil {P : Program} : GamOk P (gOf []) := fun f c h => by cases h
theorem gam_cons {P : Program} {k : Nat} {c : PC} {r : List (Nat × PC)} (h : PureC P k c ∧ CallOk P k) (hr : GamOk P (gOf r)) : GamOk P (gOf ((k, c) :: r)) := by
  intro f c' h'
  unfold gOf at h'
  split at h'
  · rename_i e
    injection h' with h'
    subst h'; subst e
    exact h
  · exact hr f c' h'
theorem rul_nil {P : Program} : RulesOk P (rOf []) := fun f c h => by cases h
theorem rul_cons {P : Program} {k : Nat} {c : MC} {r : List (Nat × MC)} (h : RuleOk P k (ruleOf c) ∧ CallOk P k) (hr : RulesOk P (rOf r)) : RulesOk P (rOf ((k, c) :: r)) := by
  intro f c' h'
  unfold rOf at h'
  split at h'
  · rename_i e
    injection h' with h'
    subst h'; subst e
    exact h
  · exact hr f c' h'
theorem tabOk : TabOk Try.prog tab := tabOk_of (by kernel_rfl)
theorem mixed : Try.prog.follows .mixedOrders = true := by kernel_rfl
theorem mk {Γ : FuncId → Option PC} {f : FuncId} {fn : Func} {c : PC} {A : Tup c.ts → Nat → Option Ann} {R : FuncId → Option Rule} (hΓ : GamOk Try.prog Γ) (hR : RulesOk Try.prog R) (hf : Try.prog.funcs[f]? = some fn) (h1 : (fn.name == "runtime.NumGoroutine") = false) (h2 : fn.body.isNone = false)
    (h : vcFunc tab Γ R fn c A) : PureC Try.prog f c ∧ CallOk Try.prog f := ⟨vcFunc_pure mixed tabOk hΓ hR hf h, fn, hf, h1, h2⟩
theorem mkM {Γ : FuncId → Option PC} {R : FuncId → Option Rule} {f : FuncId} {fn : Func} {c : MC} {A : c.t.den → Int → Nat → Option Ann} (hΓ : GamOk Try.prog Γ) (hR : RulesOk Try.prog R) (hf : Try.prog.funcs[f]? = some fn) (h1 : (fn.name == "runtime.NumGoroutine") = false) (h2 : fn.body.isNone = false)
    (hl : c.t.lendable = true) (h : vcMut tab Γ R fn c A) : RuleOk Try.prog f (ruleOf c) ∧ CallOk Try.prog f := ⟨vcMut_rule mixed tabOk hΓ hR hf hl h, fn, hf, h1, h2⟩
theorem link {p q : Prop} (h : p = q) (hp : p) : q := h ▸ hp
theorem q_L_szTicketS : PureC Try.prog 64 fL_szTicketSC ∧ CallOk Try.prog 64 :=
  mk (A := noA) gam_nil rules0 Try.func64 (by kernel_rfl) (by kernel_rfl) (by exact @link _ (vcFunc tab (gOf []) R0 Try.f64 fL_szTicketSC noA) (by kernel_rfl) v_L_szTicketS)
theorem q_L_szLine : PureC Try.prog 20 fL_szLineC ∧ CallOk Try.prog 20 :=
  mk (A := noA) (gam_cons q_L_szTicketS gam_nil) rules0 Try.func20 (by kernel_rfl) (by kernel_rfl) (by exact @link _ (vcFunc tab (gOf [(64, fL_szTicketSC)]) R0 Try.f20 fL_szLineC noA) (by kernel_rfl) v_L_szLine)
theorem q_L_szFlow : PureC Try.prog 96 fL_szFlowC ∧ CallOk Try.prog 96 :=
  mk (A := noA) (gam_cons q_L_szLine gam_nil) rules0 Try.func96 (by kernel_rfl) (by kernel_rfl) (by exact @link _ (vcFunc tab (gOf [(20, fL_szLineC)]) R0 Try.f96 fL_szFlowC noA) (by kernel_rfl) v_L_szFlow)
theorem q_L_szFlowS : PureC Try.prog 77 fL_szFlowSC ∧ CallOk Try.prog 77 :=
  mk (A := aL_szFlowS) (gam_cons q_L_szFlow gam_nil) rules0 Try.func77 (by kernel_rfl) (by kernel_rfl) (by exact @link _ (vcFunc tab (gOf [(96, fL_szFlowC)]) R0 Try.f77 fL_szFlowSC aL_szFlowS) (by kernel_rfl) v_L_szFlowS)
theorem q_L_szRing : PureC Try.prog 39 fL_szRingC ∧ CallOk Try.prog 39 :=
  mk (A := noA) (gam_cons q_L_szFlowS gam_nil) rules0 Try.func39 (by kernel_rfl) (by kernel_rfl) (by exact @link _ (vcFunc tab (gOf [(77, fL_szFlowSC)]) R0 Try.f39 fL_szRingC noA) (by kernel_rfl) v_L_szRing)
theorem q_L_toTicket : PureC Try.prog 30 fL_toTicketC ∧ CallOk Try.prog 30 :=
  mk (A := noA) gam_nil rules0 Try.func30 (by kernel_rfl) (by kernel_rfl) (by exact @link _ (vcFunc tab (gOf []) R0 Try.f30 fL_toTicketC noA) (by kernel_rfl) v_L_toTicket)
theorem q_L_toTicketS : PureC Try.prog 66 fL_toTicketSC ∧ CallOk Try.prog 66 :=
  mk (A := aL_toTicketS) (gam_cons q_L_toTicket gam_nil) rules0 Try.func66 (by kernel_rfl) (by kernel_rfl) (by exact @link _ (vcFunc tab (gOf [(30, fL_toTicketC)]) R0 Try.f66 fL_toTicketSC aL_toTicketS) (by kernel_rfl) v_L_toTicketS)
theorem q_L_toLine : PureC Try.prog 22 fL_toLineC ∧ CallOk Try.prog 22 :=
  mk (A := noA) (gam_cons q_L_toTicketS gam_nil) rules0 Try.func22 (by kernel_rfl) (by kernel_rfl) (by exact @link _ (vcFunc tab (gOf [(66, fL_toTicketSC)]) R0 Try.f22 fL_toLineC noA) (by kernel_rfl) v_L_toLine)
theorem q_L_toFlow : PureC Try.prog 97 fL_toFlowC ∧ CallOk Try.prog 97 :=
  mk (A := noA) (gam_cons q_L_toLine gam_nil) rules0 Try.func97 (by kernel_rfl) (by kernel_rfl) (by exact @link _ (vcFunc tab (gOf [(22, fL_toLineC)]) R0 Try.f97 fL_toFlowC noA) (by kernel_rfl) v_L_toFlow)
theorem q_L_toFlowS : PureC Try.prog 79 fL_toFlowSC ∧ CallOk Try.prog 79 :=
  mk (A := aL_toFlowS) (gam_cons q_L_toFlow gam_nil) rules0 Try.func79 (by kernel_rfl) (by kernel_rfl) (by exact @link _ (vcFunc tab (gOf [(97, fL_toFlowC)]) R0 Try.f79 fL_toFlowSC aL_toFlowS) (by kernel_rfl) v_L_toFlowS)
theorem q_L_toRing : PureC Try.prog 41 fL_toRingC ∧ CallOk Try.prog 41 :=
  mk (A := noA) (gam_cons q_L_toFlowS gam_nil) rules0 Try.func41 (by kernel_rfl) (by kernel_rfl) (by exact @link _ (vcFunc tab (gOf [(79, fL_toFlowSC)]) R0 Try.f41 fL_toRingC noA) (by kernel_rfl) v_L_toRing)
theorem q_S_l01In : PureC Try.prog 61 fS_l01InC ∧ CallOk Try.prog 61 :=
  mk (A := noA) gam_nil rules0 Try.func61 (by kernel_rfl) (by kernel_rfl) (by exact @link _ (vcFunc tab (gOf []) R0 Try.f61 fS_l01InC noA) (by kernel_rfl) v_S_l01In)
theorem q_S_l13Ticket : PureC Try.prog 91 fS_l13TicketC ∧ CallOk Try.prog 91 :=
  mk (A := noA) (gam_cons q_S_l01In gam_nil) rules0 Try.func91 (by kernel_rfl) (by kernel_rfl) (by exact @link _ (vcFunc tab (gOf [(61, fS_l01InC)]) R0 Try.f91 fS_l13TicketC noA) (by kernel_rfl) v_S_l13Ticket)
theorem q_S_LineOk : PureC Try.prog 65 fS_LineOkC ∧ CallOk Try.prog 65 :=
  mk (A := aS_LineOk) (gam_cons q_S_l13Ticket gam_nil) rules0 Try.func65 (by kernel_rfl) (by kernel_rfl) (by exact @link _ (vcFunc tab (gOf [(91, fS_l13TicketC)]) R0 Try.f65 fS_LineOkC aS_LineOk) (by kernel_rfl) v_S_LineOk)
theorem q_S_l14Flow : PureC Try.prog 78 fS_l14FlowC ∧ CallOk Try.prog 78 :=
  mk (A := noA) (gam_cons q_S_l01In (gam_cons q_S_LineOk gam_nil)) rules0 Try.func78 (by kernel_rfl) (by kernel_rfl) (by exact @link _ (vcFunc tab (gOf [(61, fS_l01InC), (65, fS_LineOkC)]) R0 Try.f78 fS_l14FlowC noA) (by kernel_rfl) v_S_l14Flow)
theorem q_S_RingOk : PureC Try.prog 40 fS_RingOkC ∧ CallOk Try.prog 40 :=
  mk (A := aS_RingOk) (gam_cons q_S_l01In (gam_cons q_S_l14Flow gam_nil)) rules0 Try.func40 (by kernel_rfl) (by kernel_rfl) (by exact @link _ (vcFunc tab (gOf [(61, fS_l01InC), (78, fS_l14FlowC)]) R0 Try.f40 fS_RingOkC aS_RingOk) (by kernel_rfl) v_S_RingOk)
theorem q_S_l14At : PureC Try.prog 83 fS_l14AtC ∧ CallOk Try.prog 83 :=
  mk (A := aS_l14At) gam_nil rules0 Try.func83 (by kernel_rfl) (by kernel_rfl) (by exact @link _ (vcFunc tab (gOf []) R0 Try.f83 fS_l14AtC aS_l14At) (by kernel_rfl) v_S_l14At)
theorem q_S_FairGap : PureC Try.prog 46 fS_FairGapC ∧ CallOk Try.prog 46 :=
  mk (A := noA) (gam_cons q_S_RingOk (gam_cons q_S_l14At gam_nil)) rules0 Try.func46 (by kernel_rfl) (by kernel_rfl) (by exact @link _ (vcFunc tab (gOf [(40, fS_RingOkC), (83, fS_l14AtC)]) R0 Try.f46 fS_FairGapC noA) (by kernel_rfl) v_S_FairGap)
theorem q_I_flowOf1 : PureC Try.prog 100 fI_flowOf1C ∧ CallOk Try.prog 100 :=
  mk (A := noA) gam_nil rules0 Try.func100 (by kernel_rfl) (by kernel_rfl) (by exact @link _ (vcFunc tab (gOf []) R0 Try.f100 fI_flowOf1C noA) (by kernel_rfl) v_I_flowOf1)
theorem q_G_IndexFuncFl : PureC Try.prog 99 (fG_IndexFuncFlC 100) ∧ CallOk Try.prog 99 :=
  mk (A := aG_IndexFuncFl) (gam_cons q_I_flowOf1 gam_nil) rules0 Try.func99 (by kernel_rfl) (by kernel_rfl) (by exact @link _ (vcFunc tab (gOf [(100, fI_flowOf1C)]) R0 Try.f99 (fG_IndexFuncFlC 100) aG_IndexFuncFl) (by kernel_rfl) v_G_IndexFuncFl)
theorem q_I_flowOf : PureC Try.prog 84 fI_flowOfC ∧ CallOk Try.prog 84 :=
  mk (A := noA) (gam_cons q_G_IndexFuncFl gam_nil) rules0 Try.func84 (by kernel_rfl) (by kernel_rfl) (by exact @link _ (vcFunc tab (gOf [(99, (fG_IndexFuncFlC 100))]) R0 Try.f84 fI_flowOfC noA) (by kernel_rfl) v_I_flowOf)
theorem q_I_isTicket : PureC Try.prog 92 fI_isTicketC ∧ CallOk Try.prog 92 :=
  mk (A := noA) gam_nil rules0 Try.func92 (by kernel_rfl) (by kernel_rfl) (by exact @link _ (vcFunc tab (gOf []) R0 Try.f92 fI_isTicketC noA) (by kernel_rfl) v_I_isTicket)
theorem q_I_isLine : PureC Try.prog 67 fI_isLineC ∧ CallOk Try.prog 67 :=
  mk (A := aI_isLine) (gam_cons q_I_isTicket gam_nil) rules0 Try.func67 (by kernel_rfl) (by kernel_rfl) (by exact @link _ (vcFunc tab (gOf [(92, fI_isTicketC)]) R0 Try.f67 fI_isLineC aI_isLine) (by kernel_rfl) v_I_isLine)
theorem q_I_isRing : PureC Try.prog 80 fI_isRingC ∧ CallOk Try.prog 80 :=
  mk (A := aI_isRing) (gam_cons q_I_isLine gam_nil) rules0 Try.func80 (by kernel_rfl) (by kernel_rfl) (by exact @link _ (vcFunc tab (gOf [(67, fI_isLineC)]) R0 Try.f80 fI_isRingC aI_isRing) (by kernel_rfl) v_I_isRing)
theorem q_I_FairGap : PureC Try.prog 47 fI_FairGapC ∧ CallOk Try.prog 47 :=
  mk (A := noA) (gam_cons q_I_flowOf (gam_cons q_I_isRing gam_nil)) rules0 Try.func47 (by kernel_rfl) (by kernel_rfl) (by exact @link _ (vcFunc tab (gOf [(84, fI_flowOfC), (80, fI_isRingC)]) R0 Try.f47 fI_FairGapC noA) (by kernel_rfl) v_I_FairGap)
theorem q_L_eqTicket : PureC Try.prog 36 fL_eqTicketC ∧ CallOk Try.prog 36 :=
  mk (A := noA) gam_nil rules0 Try.func36 (by kernel_rfl) (by kernel_rfl) (by exact @link _ (vcFunc tab (gOf []) R0 Try.f36 fL_eqTicketC noA) (by kernel_rfl) v_L_eqTicket)
theorem q_L_eqTicketS : PureC Try.prog 69 fL_eqTicketSC ∧ CallOk Try.prog 69 :=
  mk (A := aL_eqTicketS) (gam_cons q_L_eqTicket gam_nil) rules0 Try.func69 (by kernel_rfl) (by kernel_rfl) (by exact @link _ (vcFunc tab (gOf [(36, fL_eqTicketC)]) R0 Try.f69 fL_eqTicketSC aL_eqTicketS) (by kernel_rfl) v_L_eqTicketS)
theorem q_L_eqLine : PureC Try.prog 24 fL_eqLineC ∧ CallOk Try.prog 24 :=
  mk (A := noA) (gam_cons q_L_eqTicketS gam_nil) rules0 Try.func24 (by kernel_rfl) (by kernel_rfl) (by exact @link _ (vcFunc tab (gOf [(69, fL_eqTicketSC)]) R0 Try.f24 fL_eqLineC noA) (by kernel_rfl) v_L_eqLine)
theorem q_L_eqFlow : PureC Try.prog 98 fL_eqFlowC ∧ CallOk Try.prog 98 :=
  mk (A := noA) (gam_cons q_L_eqLine gam_nil) rules0 Try.func98 (by kernel_rfl) (by kernel_rfl) (by exact @link _ (vcFunc tab (gOf [(24, fL_eqLineC)]) R0 Try.f98 fL_eqFlowC noA) (by kernel_rfl) v_L_eqFlow)
theorem q_L_eqFlowS : PureC Try.prog 81 fL_eqFlowSC ∧ CallOk Try.prog 81 :=
  mk (A := aL_eqFlowS) (gam_cons q_L_eqFlow gam_nil) rules0 Try.func81 (by kernel_rfl) (by kernel_rfl) (by exact @link _ (vcFunc tab (gOf [(98, fL_eqFlowC)]) R0 Try.f81 fL_eqFlowSC aL_eqFlowS) (by kernel_rfl) v_L_eqFlowS)
theorem q_L_eqRing : PureC Try.prog 43 fL_eqRingC ∧ CallOk Try.prog 43 :=
  mk (A := noA) (gam_cons q_L_eqFlowS gam_nil) rules0 Try.func43 (by kernel_rfl) (by kernel_rfl) (by exact @link _ (vcFunc tab (gOf [(81, fL_eqFlowSC)]) R0 Try.f43 fL_eqRingC noA) (by kernel_rfl) v_L_eqRing)
-- LAW
theorem q_law : PureC Try.prog 12 (lawC [ringT, i64T, i64T]) ∧ CallOk Try.prog 12 :=
  mk (A := noA) (gam_cons q_L_szRing (gam_cons q_L_toRing (gam_cons q_S_FairGap (gam_cons q_I_FairGap (gam_cons q_L_eqRing gam_nil))))) rules0 Try.func12 (by kernel_rfl) (by kernel_rfl) (by exact @link _ (vcFunc tab (gOf [(39, fL_szRingC), (41, fL_toRingC), (46, fS_FairGapC), (47, fI_FairGapC), (43, fL_eqRingC)]) R0 Try.f12 (lawC [ringT, i64T, i64T]) noA) (by kernel_rfl) v_FnExactFairGap)
end Go.SF
