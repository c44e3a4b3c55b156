/- FnExactTickCrew: the functions keep their contracts. No condition. -/
import Derived.Test.YtpoiljbejllmiaaSxPCrew
import Derived.Test.YtpoiljbejllmiaaSxPCrew2
import Derived.Test.YtpoiljbejllmiaaSxPBase
import Derived.Test.YtpoiljbejllmiaaSxPLine
import Derived.Test.YtpoiljbejllmiaaSxPServed
import Derived.Test.YtpoiljbejllmiaaSxPMark
import Derived.Test.YtpoiljbejllmiaaSxPFnExactTickCrew
import Derived.Test.YtpoiljbejllmiaaSxTab
import Derived.Test.YtpoiljbejllmiaaChecked
import Derived.KernelRfl
namespace Go.SF
open Go.SX Go.Proofs
set_option maxRecDepth 100000
set_option linter.unusedVariables false
theorem rules0 {P : Program} : RulesOk P R0 := fun f r h => by cases h
theorem gam_nil {P : Program} : GamOk P (gOf []) := fun f c h => by cases h
theorem gam_cons {P : Program} {k : Nat} {c : PC} {r : List (Nat × PC)} (h : PureC P k c ∧ CallOk P k) (hr : GamOk P (gOf r)) : GamOk P (gOf ((k, c) :: r)) := by
  intro f c' h'
  unfold gOf at h'
  split at h'
  · rename_i e
    injection h' with h'
    subst h'; subst e
    exact h
  · exact hr f c' h'
theorem rul_nil {P : Program} : RulesOk P (rOf []) := fun f c h => by cases h
theorem rul_cons {P : Program} {k : Nat} {c : MC} {r : List (Nat × MC)} (h : RuleOk P k (ruleOf c) ∧ CallOk P k) (hr : RulesOk P (rOf r)) : RulesOk P (rOf ((k, c) :: r)) := by
  intro f c' h'
  unfold rOf at h'
  split at h'
  · rename_i e
    injection h' with h'
    subst h'; subst e
    exact h
  · exact hr f c' h'
theorem tabOk : TabOk Try.prog tab := tabOk_of (by kernel_rfl)
theorem mixed : Try.prog.follows .mixedOrders = true := by kernel_rfl
theorem mk {Γ : FuncId → Option PC} {f : FuncId} {fn : Func} {c : PC} {A : Tup c.ts → Nat → Option Ann} {R : FuncId → Option Rule} (hΓ : GamOk Try.prog Γ) (hR : RulesOk Try.prog R) (hf : Try.prog.funcs[f]? = some fn) (h1 : (fn.name == "runtime.NumGoroutine") = false) (h2 : fn.body.isNone = false)
    (h : vcFunc tab Γ R fn c A) : PureC Try.prog f c ∧ CallOk Try.prog f := ⟨vcFunc_pure mixed tabOk hΓ hR hf h, fn, hf, h1, h2⟩
theorem mkM {Γ : FuncId → Option PC} {R : FuncId → Option Rule} {f : FuncId} {fn : Func} {c : MC} {A : c.t.den → Int → Nat → Option Ann} (hΓ : GamOk Try.prog Γ) (hR : RulesOk Try.prog R) (hf : Try.prog.funcs[f]? = some fn) (h1 : (fn.name == "runtime.NumGoroutine") = false) (h2 : fn.body.isNone = false)
    (hl : c.t.lendable = true) (h : vcMut tab Γ R fn c A) : RuleOk Try.prog f (ruleOf c) ∧ CallOk Try.prog f := ⟨vcMut_rule mixed tabOk hΓ hR hf hl h, fn, hf, h1, h2⟩
theorem link {p q : Prop} (h : p = q) (hp : p) : q := h ▸ hp
theorem q_L_szHandS : PureC Try.prog 43 fL_szHandSC ∧ CallOk Try.prog 43 :=
  mk (A := noA) gam_nil rules0 Try.func43 (by kernel_rfl) (by kernel_rfl) (by exact @link _ (vcFunc tab (gOf []) R0 Try.f43 fL_szHandSC noA) (by kernel_rfl) v_L_szHandS)
theorem q_L_szCrew : PureC Try.prog 20 fL_szCrewC ∧ CallOk Try.prog 20 :=
  mk (A := noA) (gam_cons q_L_szHandS gam_nil) rules0 Try.func20 (by kernel_rfl) (by kernel_rfl) (by exact @link _ (vcFunc tab (gOf [(43, fL_szHandSC)]) R0 Try.f20 fL_szCrewC noA) (by kernel_rfl) v_L_szCrew)
theorem q_L_toHand : PureC Try.prog 55 fL_toHandC ∧ CallOk Try.prog 55 :=
  mk (A := noA) gam_nil rules0 Try.func55 (by kernel_rfl) (by kernel_rfl) (by exact @link _ (vcFunc tab (gOf []) R0 Try.f55 fL_toHandC noA) (by kernel_rfl) v_L_toHand)
theorem q_L_toHandS : PureC Try.prog 46 fL_toHandSC ∧ CallOk Try.prog 46 :=
  mk (A := aL_toHandS) (gam_cons q_L_toHand gam_nil) rules0 Try.func46 (by kernel_rfl) (by kernel_rfl) (by exact @link _ (vcFunc tab (gOf [(55, fL_toHandC)]) R0 Try.f46 fL_toHandSC aL_toHandS) (by kernel_rfl) v_L_toHandS)
theorem q_L_toCrew : PureC Try.prog 22 fL_toCrewC ∧ CallOk Try.prog 22 :=
  mk (A := noA) (gam_cons q_L_toHandS gam_nil) rules0 Try.func22 (by kernel_rfl) (by kernel_rfl) (by exact @link _ (vcFunc tab (gOf [(46, fL_toHandSC)]) R0 Try.f22 fL_toCrewC noA) (by kernel_rfl) v_L_toCrew)
theorem q_S_l15CopyCrew : PureC Try.prog 50 fS_l15CopyCrewC ∧ CallOk Try.prog 50 :=
  mk (A := aS_l15CopyCrew) gam_nil rules0 Try.func50 (by kernel_rfl) (by kernel_rfl) (by exact @link _ (vcFunc tab (gOf []) R0 Try.f50 fS_l15CopyCrewC aS_l15CopyCrew) (by kernel_rfl) v_S_l15CopyCrew)
theorem q_S_l01In : PureC Try.prog 44 fS_l01InC ∧ CallOk Try.prog 44 :=
  mk (A := noA) gam_nil rules0 Try.func44 (by kernel_rfl) (by kernel_rfl) (by exact @link _ (vcFunc tab (gOf []) R0 Try.f44 fS_l01InC noA) (by kernel_rfl) v_S_l01In)
theorem q_S_l15Idle : PureC Try.prog 45 fS_l15IdleC ∧ CallOk Try.prog 45 :=
  mk (A := noA) gam_nil rules0 Try.func45 (by kernel_rfl) (by kernel_rfl) (by exact @link _ (vcFunc tab (gOf []) R0 Try.f45 fS_l15IdleC noA) (by kernel_rfl) v_S_l15Idle)
theorem q_S_CrewOk : PureC Try.prog 21 fS_CrewOkC ∧ CallOk Try.prog 21 :=
  mk (A := aS_CrewOk) (gam_cons q_S_l01In (gam_cons q_S_l15Idle gam_nil)) rules0 Try.func21 (by kernel_rfl) (by kernel_rfl) (by exact @link _ (vcFunc tab (gOf [(44, fS_l01InC), (45, fS_l15IdleC)]) R0 Try.f21 fS_CrewOkC aS_CrewOk) (by kernel_rfl) v_S_CrewOk)
theorem q_S_TickCrew : PureC Try.prog 35 fS_TickCrewC ∧ CallOk Try.prog 35 :=
  mk (A := aS_TickCrew) (gam_cons q_S_l15CopyCrew (gam_cons q_S_CrewOk (gam_cons q_S_l15Idle gam_nil))) rules0 Try.func35 (by kernel_rfl) (by kernel_rfl) (by exact @link _ (vcFunc tab (gOf [(50, fS_l15CopyCrewC), (21, fS_CrewOkC), (45, fS_l15IdleC)]) R0 Try.f35 fS_TickCrewC aS_TickCrew) (by kernel_rfl) v_S_TickCrew)
theorem q_I_copyCrew : PureC Try.prog 42 fI_copyCrewC ∧ CallOk Try.prog 42 :=
  mk (A := noA) gam_nil rules0 Try.func42 (by kernel_rfl) (by kernel_rfl) (by exact @link _ (vcFunc tab (gOf []) R0 Try.f42 fI_copyCrewC noA) (by kernel_rfl) v_I_copyCrew)
theorem q_I_isTicket : PureC Try.prog 53 fI_isTicketC ∧ CallOk Try.prog 53 :=
  mk (A := noA) gam_nil rules0 Try.func53 (by kernel_rfl) (by kernel_rfl) (by exact @link _ (vcFunc tab (gOf []) R0 Try.f53 fI_isTicketC noA) (by kernel_rfl) v_I_isTicket)
theorem q_I_handOf1 : PureC Try.prog 58 fI_handOf1C ∧ CallOk Try.prog 58 :=
  mk (A := noA) gam_nil rules0 Try.func58 (by kernel_rfl) (by kernel_rfl) (by exact @link _ (vcFunc tab (gOf []) R0 Try.f58 fI_handOf1C noA) (by kernel_rfl) v_I_handOf1)
theorem q_G_IndexFuncHd : PureC Try.prog 57 (fG_IndexFuncHdC 58) ∧ CallOk Try.prog 57 :=
  mk (A := aG_IndexFuncHd) (gam_cons q_I_handOf1 gam_nil) rules0 Try.func57 (by kernel_rfl) (by kernel_rfl) (by exact @link _ (vcFunc tab (gOf [(58, fI_handOf1C)]) R0 Try.f57 (fG_IndexFuncHdC 58) aG_IndexFuncHd) (by kernel_rfl) v_G_IndexFuncHd)
theorem q_I_handOf : PureC Try.prog 54 fI_handOfC ∧ CallOk Try.prog 54 :=
  mk (A := noA) (gam_cons q_G_IndexFuncHd gam_nil) rules0 Try.func54 (by kernel_rfl) (by kernel_rfl) (by exact @link _ (vcFunc tab (gOf [(57, (fG_IndexFuncHdC 58))]) R0 Try.f54 fI_handOfC noA) (by kernel_rfl) v_I_handOf)
theorem q_I_isCrew : PureC Try.prog 39 fI_isCrewC ∧ CallOk Try.prog 39 :=
  mk (A := aI_isCrew) (gam_cons q_I_isTicket (gam_cons q_I_handOf gam_nil)) rules0 Try.func39 (by kernel_rfl) (by kernel_rfl) (by exact @link _ (vcFunc tab (gOf [(53, fI_isTicketC), (54, fI_handOfC)]) R0 Try.f39 fI_isCrewC aI_isCrew) (by kernel_rfl) v_I_isCrew)
theorem q_I_TickCrew : PureC Try.prog 18 fI_TickCrewC ∧ CallOk Try.prog 18 :=
  mk (A := aI_TickCrew) (gam_cons q_I_copyCrew (gam_cons q_I_isCrew gam_nil)) rules0 Try.func18 (by kernel_rfl) (by kernel_rfl) (by exact @link _ (vcFunc tab (gOf [(42, fI_copyCrewC), (39, fI_isCrewC)]) R0 Try.f18 fI_TickCrewC aI_TickCrew) (by kernel_rfl) v_I_TickCrew)
theorem q_L_eqHand : PureC Try.prog 56 fL_eqHandC ∧ CallOk Try.prog 56 :=
  mk (A := noA) gam_nil rules0 Try.func56 (by kernel_rfl) (by kernel_rfl) (by exact @link _ (vcFunc tab (gOf []) R0 Try.f56 fL_eqHandC noA) (by kernel_rfl) v_L_eqHand)
theorem q_L_eqHandS : PureC Try.prog 47 fL_eqHandSC ∧ CallOk Try.prog 47 :=
  mk (A := aL_eqHandS) (gam_cons q_L_eqHand gam_nil) rules0 Try.func47 (by kernel_rfl) (by kernel_rfl) (by exact @link _ (vcFunc tab (gOf [(56, fL_eqHandC)]) R0 Try.f47 fL_eqHandSC aL_eqHandS) (by kernel_rfl) v_L_eqHandS)
theorem q_L_eqCrew : PureC Try.prog 24 fL_eqCrewC ∧ CallOk Try.prog 24 :=
  mk (A := noA) (gam_cons q_L_eqHandS gam_nil) rules0 Try.func24 (by kernel_rfl) (by kernel_rfl) (by exact @link _ (vcFunc tab (gOf [(47, fL_eqHandSC)]) R0 Try.f24 fL_eqCrewC noA) (by kernel_rfl) v_L_eqCrew)
theorem q_L_eqServed : PureC Try.prog 52 fL_eqServedC ∧ CallOk Try.prog 52 :=
  mk (A := noA) gam_nil rules0 Try.func52 (by kernel_rfl) (by kernel_rfl) (by exact @link _ (vcFunc tab (gOf []) R0 Try.f52 fL_eqServedC noA) (by kernel_rfl) v_L_eqServed)
theorem q_L_eqServedS : PureC Try.prog 36 fL_eqServedSC ∧ CallOk Try.prog 36 :=
  mk (A := aL_eqServedS) (gam_cons q_L_eqServed gam_nil) rules0 Try.func36 (by kernel_rfl) (by kernel_rfl) (by exact @link _ (vcFunc tab (gOf [(52, fL_eqServedC)]) R0 Try.f36 fL_eqServedSC aL_eqServedS) (by kernel_rfl) v_L_eqServedS)
theorem q_L_markHandS : RuleOk Try.prog 48 (ruleOf fL_markHandSC) ∧ CallOk Try.prog 48 :=
  mkM (A := aL_markHandS) gam_nil rules0 Try.func48 (by kernel_rfl) (by kernel_rfl) rfl (by exact @link _ (vcMut tab (gOf []) R0 Try.f48 fL_markHandSC aL_markHandS) (by kernel_rfl) v_L_markHandS)
theorem q_L_markCrew : RuleOk Try.prog 28 (ruleOf fL_markCrewC) ∧ CallOk Try.prog 28 :=
  mkM (A := noM0) gam_nil (rul_cons q_L_markHandS rul_nil) Try.func28 (by kernel_rfl) (by kernel_rfl) rfl (by exact @link _ (vcMut tab (gOf []) (rOf [(48, fL_markHandSC)]) Try.f28 fL_markCrewC noM0) (by kernel_rfl) v_L_markCrew)
theorem q_L_heldHandS : PureC Try.prog 49 fL_heldHandSC ∧ CallOk Try.prog 49 :=
  mk (A := aL_heldHandS) gam_nil rules0 Try.func49 (by kernel_rfl) (by kernel_rfl) (by exact @link _ (vcFunc tab (gOf []) R0 Try.f49 fL_heldHandSC aL_heldHandS) (by kernel_rfl) v_L_heldHandS)
theorem q_L_heldCrew : PureC Try.prog 29 fL_heldCrewC ∧ CallOk Try.prog 29 :=
  mk (A := noA) (gam_cons q_L_heldHandS gam_nil) rules0 Try.func29 (by kernel_rfl) (by kernel_rfl) (by exact @link _ (vcFunc tab (gOf [(49, fL_heldHandSC)]) R0 Try.f29 fL_heldCrewC noA) (by kernel_rfl) v_L_heldCrew)
theorem q_L_markServedS : RuleOk Try.prog 37 (ruleOf fL_markServedSC) ∧ CallOk Try.prog 37 :=
  mkM (A := aL_markServedS) gam_nil rules0 Try.func37 (by kernel_rfl) (by kernel_rfl) rfl (by exact @link _ (vcMut tab (gOf []) R0 Try.f37 fL_markServedSC aL_markServedS) (by kernel_rfl) v_L_markServedS)
theorem q_L_heldServedS : PureC Try.prog 38 fL_heldServedSC ∧ CallOk Try.prog 38 :=
  mk (A := aL_heldServedS) gam_nil rules0 Try.func38 (by kernel_rfl) (by kernel_rfl) (by exact @link _ (vcFunc tab (gOf []) R0 Try.f38 fL_heldServedSC aL_heldServedS) (by kernel_rfl) v_L_heldServedS)
-- LAW
theorem q_law : PureC Try.prog 11 (lawC [crewT]) ∧ CallOk Try.prog 11 :=
  mk (A := noA) (gam_cons q_L_szCrew (gam_cons q_L_toCrew (gam_cons q_S_TickCrew (gam_cons q_I_TickCrew (gam_cons q_L_eqCrew (gam_cons q_L_eqServedS (gam_cons q_L_heldCrew (gam_cons q_L_heldServedS gam_nil)))))))) (rul_cons q_L_markCrew (rul_cons q_L_markServedS rul_nil)) Try.func11 (by kernel_rfl) (by kernel_rfl) (by exact @link _ (vcFunc tab (gOf [(20, fL_szCrewC), (22, fL_toCrewC), (35, fS_TickCrewC), (18, fI_TickCrewC), (24, fL_eqCrewC), (36, fL_eqServedSC), (29, fL_heldCrewC), (38, fL_heldServedSC)]) (rOf [(28, fL_markCrewC), (37, fL_markServedSC)]) Try.f11 (lawC [crewT]) noA) (by kernel_rfl) v_FnExactTickCrew)
end Go.SF
