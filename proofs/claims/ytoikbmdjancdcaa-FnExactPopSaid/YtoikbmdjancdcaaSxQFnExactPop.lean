/- FnExactPop: the functions keep their contracts. No condition. -/
import Derived.Test.YtoikbmdjancdcaaSxPLine
import Derived.Test.YtoikbmdjancdcaaSxPBase
import Derived.Test.YtoikbmdjancdcaaSxPLine2
import Derived.Test.YtoikbmdjancdcaaSxPMark
import Derived.Test.YtoikbmdjancdcaaSxPFnExactPop
import Derived.Test.YtoikbmdjancdcaaSxTab
import Derived.Test.YtoikbmdjancdcaaChecked
import Derived.KernelRfl
namespace Go.SF
open Go.SX Go.Proofs
set_option maxRecDepth 100000
set_option linter.unusedVariables false
theorem rules0 {P : Program} : RulesOk P R0 := fun f r h => by cases h
theorem gam_nil {P : Program} : GamOk P (gOf []) := fun f c h => by cases h
theorem gam_cons {P : Program} {k : Nat} {c : PC} {r : List (Nat × PC)} (h : PureC P k c ∧ CallOk P k) (hr : GamOk P (gOf r)) : GamOk P (gOf ((k, c) :: r)) := by
  intro f c' h'
  unfold gOf at h'
  split at h'
  · rename_i e
    injection h' with h'
    subst h'; subst e
    exact h
  · exact hr f c' h'
theorem rul_nil {P : Program} : RulesOk P (rOf []) := fun f c h => by cases h
theorem rul_cons {P : Program} {k : Nat} {c : MC} {r : List (Nat × MC)} (h : RuleOk P k (ruleOf c) ∧ CallOk P k) (hr : RulesOk P (rOf r)) : RulesOk P (rOf ((k, c) :: r)) := by
  intro f c' h'
  unfold rOf at h'
  split at h'
  · rename_i e
    injection h' with h'
    subst h'; subst e
    exact h
  · exact hr f c' h'
theorem tabOk : TabOk Try.prog tab := tabOk_of (by kernel_rfl)
theorem mixed : Try.prog.follows .mixedOrders = true := by kernel_rfl
theorem mk {Γ : FuncId → Option PC} {f : FuncId} {fn : Func} {c : PC} {A : Tup c.ts → Nat → Option Ann} {R : FuncId → Option Rule} (hΓ : GamOk Try.prog Γ) (hR : RulesOk Try.prog R) (hf : Try.prog.funcs[f]? = some fn) (h1 : (fn.name == "runtime.NumGoroutine") = false) (h2 : fn.body.isNone = false)
    (h : vcFunc tab Γ R fn c A) : PureC Try.prog f c ∧ CallOk Try.prog f := ⟨vcFunc_pure mixed tabOk hΓ hR hf h, fn, hf, h1, h2⟩
theorem mkM {Γ : FuncId → Option PC} {R : FuncId → Option Rule} {f : FuncId} {fn : Func} {c : MC} {A : c.t.den → Int → Nat → Option Ann} (hΓ : GamOk Try.prog Γ) (hR : RulesOk Try.prog R) (hf : Try.prog.funcs[f]? = some fn) (h1 : (fn.name == "runtime.NumGoroutine") = false) (h2 : fn.body.isNone = false)
    (hl : c.t.lendable = true) (h : vcMut tab Γ R fn c A) : RuleOk Try.prog f (ruleOf c) ∧ CallOk Try.prog f := ⟨vcMut_rule mixed tabOk hΓ hR hf hl h, fn, hf, h1, h2⟩
theorem link {p q : Prop} (h : p = q) (hp : p) : q := h ▸ hp
theorem q_L_szTicketS : PureC Try.prog 64 fL_szTicketSC ∧ CallOk Try.prog 64 :=
  mk (A := noA) gam_nil rules0 Try.func64 (by kernel_rfl) (by kernel_rfl) (by exact @link _ (vcFunc tab (gOf []) R0 Try.f64 fL_szTicketSC noA) (by kernel_rfl) v_L_szTicketS)
theorem q_L_szLine : PureC Try.prog 20 fL_szLineC ∧ CallOk Try.prog 20 :=
  mk (A := noA) (gam_cons q_L_szTicketS gam_nil) rules0 Try.func20 (by kernel_rfl) (by kernel_rfl) (by exact @link _ (vcFunc tab (gOf [(64, fL_szTicketSC)]) R0 Try.f20 fL_szLineC noA) (by kernel_rfl) v_L_szLine)
theorem q_L_toTicket : PureC Try.prog 30 fL_toTicketC ∧ CallOk Try.prog 30 :=
  mk (A := noA) gam_nil rules0 Try.func30 (by kernel_rfl) (by kernel_rfl) (by exact @link _ (vcFunc tab (gOf []) R0 Try.f30 fL_toTicketC noA) (by kernel_rfl) v_L_toTicket)
theorem q_L_toTicketS : PureC Try.prog 66 fL_toTicketSC ∧ CallOk Try.prog 66 :=
  mk (A := aL_toTicketS) (gam_cons q_L_toTicket gam_nil) rules0 Try.func66 (by kernel_rfl) (by kernel_rfl) (by exact @link _ (vcFunc tab (gOf [(30, fL_toTicketC)]) R0 Try.f66 fL_toTicketSC aL_toTicketS) (by kernel_rfl) v_L_toTicketS)
theorem q_L_toLine : PureC Try.prog 22 fL_toLineC ∧ CallOk Try.prog 22 :=
  mk (A := noA) (gam_cons q_L_toTicketS gam_nil) rules0 Try.func22 (by kernel_rfl) (by kernel_rfl) (by exact @link _ (vcFunc tab (gOf [(66, fL_toTicketSC)]) R0 Try.f22 fL_toLineC noA) (by kernel_rfl) v_L_toLine)
theorem q_S_l01In : PureC Try.prog 61 fS_l01InC ∧ CallOk Try.prog 61 :=
  mk (A := noA) gam_nil rules0 Try.func61 (by kernel_rfl) (by kernel_rfl) (by exact @link _ (vcFunc tab (gOf []) R0 Try.f61 fS_l01InC noA) (by kernel_rfl) v_S_l01In)
theorem q_S_l13Ticket : PureC Try.prog 91 fS_l13TicketC ∧ CallOk Try.prog 91 :=
  mk (A := noA) (gam_cons q_S_l01In gam_nil) rules0 Try.func91 (by kernel_rfl) (by kernel_rfl) (by exact @link _ (vcFunc tab (gOf [(61, fS_l01InC)]) R0 Try.f91 fS_l13TicketC noA) (by kernel_rfl) v_S_l13Ticket)
theorem q_S_LineOk : PureC Try.prog 65 fS_LineOkC ∧ CallOk Try.prog 65 :=
  mk (A := aS_LineOk) (gam_cons q_S_l13Ticket gam_nil) rules0 Try.func65 (by kernel_rfl) (by kernel_rfl) (by exact @link _ (vcFunc tab (gOf [(91, fS_l13TicketC)]) R0 Try.f65 fS_LineOkC aS_LineOk) (by kernel_rfl) v_S_LineOk)
theorem q_S_l13Copy : PureC Try.prog 71 fS_l13CopyC ∧ CallOk Try.prog 71 :=
  mk (A := aS_l13Copy) gam_nil rules0 Try.func71 (by kernel_rfl) (by kernel_rfl) (by exact @link _ (vcFunc tab (gOf []) R0 Try.f71 fS_l13CopyC aS_l13Copy) (by kernel_rfl) v_S_l13Copy)
theorem q_S_Cancel : PureC Try.prog 37 fS_CancelC ∧ CallOk Try.prog 37 :=
  mk (A := aS_Cancel) (gam_cons q_S_LineOk (gam_cons q_S_l13Copy gam_nil)) rules0 Try.func37 (by kernel_rfl) (by kernel_rfl) (by exact @link _ (vcFunc tab (gOf [(65, fS_LineOkC), (71, fS_l13CopyC)]) R0 Try.f37 fS_CancelC aS_Cancel) (by kernel_rfl) v_S_Cancel)
theorem q_S_Pop : PureC Try.prog 34 fS_PopC ∧ CallOk Try.prog 34 :=
  mk (A := noA) (gam_cons q_S_LineOk (gam_cons q_S_l13Copy (gam_cons q_S_Cancel gam_nil))) rules0 Try.func34 (by kernel_rfl) (by kernel_rfl) (by exact @link _ (vcFunc tab (gOf [(65, fS_LineOkC), (71, fS_l13CopyC), (37, fS_CancelC)]) R0 Try.f34 fS_PopC noA) (by kernel_rfl) v_S_Pop)
theorem q_I_isTicket : PureC Try.prog 92 fI_isTicketC ∧ CallOk Try.prog 92 :=
  mk (A := noA) gam_nil rules0 Try.func92 (by kernel_rfl) (by kernel_rfl) (by exact @link _ (vcFunc tab (gOf []) R0 Try.f92 fI_isTicketC noA) (by kernel_rfl) v_I_isTicket)
theorem q_I_isLine : PureC Try.prog 67 fI_isLineC ∧ CallOk Try.prog 67 :=
  mk (A := aI_isLine) (gam_cons q_I_isTicket gam_nil) rules0 Try.func67 (by kernel_rfl) (by kernel_rfl) (by exact @link _ (vcFunc tab (gOf [(92, fI_isTicketC)]) R0 Try.f67 fI_isLineC aI_isLine) (by kernel_rfl) v_I_isLine)
theorem q_I_copyLine : PureC Try.prog 72 fI_copyLineC ∧ CallOk Try.prog 72 :=
  mk (A := noA) gam_nil rules0 Try.func72 (by kernel_rfl) (by kernel_rfl) (by exact @link _ (vcFunc tab (gOf []) R0 Try.f72 fI_copyLineC noA) (by kernel_rfl) v_I_copyLine)
theorem q_I_Pop : PureC Try.prog 35 fI_PopC ∧ CallOk Try.prog 35 :=
  mk (A := noA) (gam_cons q_I_isLine (gam_cons q_I_copyLine gam_nil)) rules0 Try.func35 (by kernel_rfl) (by kernel_rfl) (by exact @link _ (vcFunc tab (gOf [(67, fI_isLineC), (72, fI_copyLineC)]) R0 Try.f35 fI_PopC noA) (by kernel_rfl) v_I_Pop)
theorem q_L_eqTicket : PureC Try.prog 36 fL_eqTicketC ∧ CallOk Try.prog 36 :=
  mk (A := noA) gam_nil rules0 Try.func36 (by kernel_rfl) (by kernel_rfl) (by exact @link _ (vcFunc tab (gOf []) R0 Try.f36 fL_eqTicketC noA) (by kernel_rfl) v_L_eqTicket)
theorem q_L_eqTicketS : PureC Try.prog 69 fL_eqTicketSC ∧ CallOk Try.prog 69 :=
  mk (A := aL_eqTicketS) (gam_cons q_L_eqTicket gam_nil) rules0 Try.func69 (by kernel_rfl) (by kernel_rfl) (by exact @link _ (vcFunc tab (gOf [(36, fL_eqTicketC)]) R0 Try.f69 fL_eqTicketSC aL_eqTicketS) (by kernel_rfl) v_L_eqTicketS)
theorem q_L_eqLine : PureC Try.prog 24 fL_eqLineC ∧ CallOk Try.prog 24 :=
  mk (A := noA) (gam_cons q_L_eqTicketS gam_nil) rules0 Try.func24 (by kernel_rfl) (by kernel_rfl) (by exact @link _ (vcFunc tab (gOf [(69, fL_eqTicketSC)]) R0 Try.f24 fL_eqLineC noA) (by kernel_rfl) v_L_eqLine)
theorem q_L_markTicketS : RuleOk Try.prog 74 (ruleOf fL_markTicketSC) ∧ CallOk Try.prog 74 :=
  mkM (A := aL_markTicketS) gam_nil rules0 Try.func74 (by kernel_rfl) (by kernel_rfl) rfl (by exact @link _ (vcMut tab (gOf []) R0 Try.f74 fL_markTicketSC aL_markTicketS) (by kernel_rfl) v_L_markTicketS)
theorem q_L_markLine : RuleOk Try.prog 32 (ruleOf fL_markLineC) ∧ CallOk Try.prog 32 :=
  mkM (A := noM0) gam_nil (rul_cons q_L_markTicketS rul_nil) Try.func32 (by kernel_rfl) (by kernel_rfl) rfl (by exact @link _ (vcMut tab (gOf []) (rOf [(74, fL_markTicketSC)]) Try.f32 fL_markLineC noM0) (by kernel_rfl) v_L_markLine)
theorem q_L_heldTicketS : PureC Try.prog 75 fL_heldTicketSC ∧ CallOk Try.prog 75 :=
  mk (A := aL_heldTicketS) gam_nil rules0 Try.func75 (by kernel_rfl) (by kernel_rfl) (by exact @link _ (vcFunc tab (gOf []) R0 Try.f75 fL_heldTicketSC aL_heldTicketS) (by kernel_rfl) v_L_heldTicketS)
theorem q_L_heldLine : PureC Try.prog 33 fL_heldLineC ∧ CallOk Try.prog 33 :=
  mk (A := noA) (gam_cons q_L_heldTicketS gam_nil) rules0 Try.func33 (by kernel_rfl) (by kernel_rfl) (by exact @link _ (vcFunc tab (gOf [(75, fL_heldTicketSC)]) R0 Try.f33 fL_heldLineC noA) (by kernel_rfl) v_L_heldLine)
-- LAW
theorem q_law : PureC Try.prog 8 (lawC [lineT]) ∧ CallOk Try.prog 8 :=
  mk (A := noA) (gam_cons q_L_szLine (gam_cons q_L_toLine (gam_cons q_S_Pop (gam_cons q_I_Pop (gam_cons q_L_eqLine (gam_cons q_L_eqTicket (gam_cons q_L_heldLine gam_nil))))))) (rul_cons q_L_markLine rul_nil) Try.func8 (by kernel_rfl) (by kernel_rfl) (by exact @link _ (vcFunc tab (gOf [(20, fL_szLineC), (22, fL_toLineC), (34, fS_PopC), (35, fI_PopC), (24, fL_eqLineC), (36, fL_eqTicketC), (33, fL_heldLineC)]) (rOf [(32, fL_markLineC)]) Try.f8 (lawC [lineT]) noA) (by kernel_rfl) v_FnExactPop)
end Go.SF
