/- FnExactStartTurner: the functions keep their contracts. No condition. -/
import Derived.Test.YtmnndbfmeppaeaaSxPPlan
import Derived.Test.YtmnndbfmeppaeaaSxPPlan2
import Derived.Test.YtmnndbfmeppaeaaSxPField
import Derived.Test.YtmnndbfmeppaeaaSxPBase
import Derived.Test.YtmnndbfmeppaeaaSxPIntS
import Derived.Test.YtmnndbfmeppaeaaSxPMark
import Derived.Test.YtmnndbfmeppaeaaSxPPlanB
import Derived.Test.YtmnndbfmeppaeaaSxPPlanC
import Derived.Test.YtmnndbfmeppaeaaSxPFnExactStartTurner
import Derived.Test.YtmnndbfmeppaeaaSxTab
import Derived.Test.YtmnndbfmeppaeaaChecked
import Derived.KernelRfl
namespace Go.SF
open Go.SX Go.Proofs
set_option maxRecDepth 100000
set_option linter.unusedVariables false
theorem rules0 {P : Program} : RulesOk P R0 := fun f r h => by cases h
theorem gam_nil {P : Program} : GamOk P (gOf []) := fun f c h => by cases h
theorem gam_cons {P : Program} {k : Nat} {c : PC} {r : List (Nat × PC)} (h : PureC P k c ∧ CallOk P k) (hr : GamOk P (gOf r)) : GamOk P (gOf ((k, c) :: r)) := by
  intro f c' h'
  unfold gOf at h'
  split at h'
  · rename_i e
    injection h' with h'
    subst h'; subst e
    exact h
  · exact hr f c' h'
theorem rul_nil {P : Program} : RulesOk P (rOf []) := fun f c h => by cases h
theorem rul_cons {P : Program} {k : Nat} {c : Rule} {r : List (Nat × Rule)} (h : RuleOk P k c ∧ CallOk P k) (hr : RulesOk P (rOf r)) : RulesOk P (rOf ((k, c) :: r)) := by
  intro f c' h'
  unfold rOf at h'
  split at h'
  · rename_i e
    injection h' with h'
    subst h'; subst e
    exact h
  · exact hr f c' h'
theorem tabOk : TabOk Try.prog tab := tabOk_of (by kernel_rfl)
theorem mixed : Try.prog.follows .mixedOrders = true := by kernel_rfl
theorem mk {Γ : FuncId → Option PC} {f : FuncId} {fn : Func} {c : PC} {A : Tup c.ts → Nat → Option Ann} {R : FuncId → Option Rule} (hΓ : GamOk Try.prog Γ) (hR : RulesOk Try.prog R) (hf : Try.prog.funcs[f]? = some fn) (h1 : (fn.name == "runtime.NumGoroutine") = false) (h2 : fn.body.isNone = false)
    (h : vcFunc tab Γ R fn c A) : PureC Try.prog f c ∧ CallOk Try.prog f := ⟨vcFunc_pure mixed tabOk hΓ hR hf h, fn, hf, h1, h2⟩
theorem mkM {Γ : FuncId → Option PC} {R : FuncId → Option Rule} {f : FuncId} {fn : Func} {c : MC} {A : c.t.den → Int → Nat → Option Ann} (hΓ : GamOk Try.prog Γ) (hR : RulesOk Try.prog R) (hf : Try.prog.funcs[f]? = some fn) (h1 : (fn.name == "runtime.NumGoroutine") = false) (h2 : fn.body.isNone = false)
    (hl : c.t.lendable = true) (h : vcMut tab Γ R fn c A) : RuleOk Try.prog f (ruleOf c) ∧ CallOk Try.prog f := ⟨vcMut_rule mixed tabOk hΓ hR hf hl h, fn, hf, h1, h2⟩
theorem link {p q : Prop} (h : p = q) (hp : p) : q := h ▸ hp
theorem q_L_szStepS : PureC Try.prog 47 fL_szStepSC ∧ CallOk Try.prog 47 :=
  mk (A := noA) gam_nil rules0 Try.func47 (by kernel_rfl) (by kernel_rfl) (by exact @link _ (vcFunc tab (gOf []) R0 Try.f47 fL_szStepSC noA) (by kernel_rfl) v_L_szStepS)
theorem q_L_szPlan : PureC Try.prog 22 fL_szPlanC ∧ CallOk Try.prog 22 :=
  mk (A := noA) (gam_cons q_L_szStepS gam_nil) rules0 Try.func22 (by kernel_rfl) (by kernel_rfl) (by exact @link _ (vcFunc tab (gOf [(47, fL_szStepSC)]) R0 Try.f22 fL_szPlanC noA) (by kernel_rfl) v_L_szPlan)
theorem q_L_toStep : PureC Try.prog 72 fL_toStepC ∧ CallOk Try.prog 72 :=
  mk (A := noA) gam_nil rules0 Try.func72 (by kernel_rfl) (by kernel_rfl) (by exact @link _ (vcFunc tab (gOf []) R0 Try.f72 fL_toStepC noA) (by kernel_rfl) v_L_toStep)
theorem q_L_toStepS : PureC Try.prog 50 fL_toStepSC ∧ CallOk Try.prog 50 :=
  mk (A := aL_toStepS) (gam_cons q_L_toStep gam_nil) rules0 Try.func50 (by kernel_rfl) (by kernel_rfl) (by exact @link _ (vcFunc tab (gOf [(72, fL_toStepC)]) R0 Try.f50 fL_toStepSC aL_toStepS) (by kernel_rfl) v_L_toStepS)
theorem q_L_toPlan : PureC Try.prog 24 fL_toPlanC ∧ CallOk Try.prog 24 :=
  mk (A := noA) (gam_cons q_L_toStepS gam_nil) rules0 Try.func24 (by kernel_rfl) (by kernel_rfl) (by exact @link _ (vcFunc tab (gOf [(50, fL_toStepSC)]) R0 Try.f24 fL_toPlanC noA) (by kernel_rfl) v_L_toPlan)
theorem q_L_toIntS : PureC Try.prog 25 fL_toIntSC ∧ CallOk Try.prog 25 :=
  mk (A := aL_toIntS) gam_nil rules0 Try.func25 (by kernel_rfl) (by kernel_rfl) (by exact @link _ (vcFunc tab (gOf []) R0 Try.f25 fL_toIntSC aL_toIntS) (by kernel_rfl) v_L_toIntS)
theorem q_S_l09Steps : PureC Try.prog 70 fS_l09StepsC ∧ CallOk Try.prog 70 :=
  mk (A := aS_l09Steps) gam_nil rules0 Try.func70 (by kernel_rfl) (by kernel_rfl) (by exact @link _ (vcFunc tab (gOf []) R0 Try.f70 fS_l09StepsC aS_l09Steps) (by kernel_rfl) v_S_l09Steps)
theorem q_S_l15Plan : PureC Try.prog 48 fS_l15PlanC ∧ CallOk Try.prog 48 :=
  mk (A := noA) (gam_cons q_S_l09Steps gam_nil) rules0 Try.func48 (by kernel_rfl) (by kernel_rfl) (by exact @link _ (vcFunc tab (gOf [(70, fS_l09StepsC)]) R0 Try.f48 fS_l15PlanC noA) (by kernel_rfl) v_S_l15Plan)
theorem q_S_LogOf : PureC Try.prog 63 fS_LogOfC ∧ CallOk Try.prog 63 :=
  mk (A := aS_LogOf) gam_nil rules0 Try.func63 (by kernel_rfl) (by kernel_rfl) (by exact @link _ (vcFunc tab (gOf []) R0 Try.f63 fS_LogOfC aS_LogOf) (by kernel_rfl) v_S_LogOf)
theorem q_S_l01In : PureC Try.prog 43 fS_l01InC ∧ CallOk Try.prog 43 :=
  mk (A := noA) gam_nil rules0 Try.func43 (by kernel_rfl) (by kernel_rfl) (by exact @link _ (vcFunc tab (gOf []) R0 Try.f43 fS_l01InC noA) (by kernel_rfl) v_S_l01In)
theorem q_S_Reverse : PureC Try.prog 71 fS_ReverseC ∧ CallOk Try.prog 71 :=
  mk (A := aS_Reverse) (gam_cons q_S_l01In gam_nil) rules0 Try.func71 (by kernel_rfl) (by kernel_rfl) (by exact @link _ (vcFunc tab (gOf [(43, fS_l01InC)]) R0 Try.f71 fS_ReverseC aS_Reverse) (by kernel_rfl) v_S_Reverse)
theorem q_S_Permute : PureC Try.prog 49 fS_PermuteC ∧ CallOk Try.prog 49 :=
  mk (A := aS_Permute) (gam_cons q_S_LogOf (gam_cons q_S_Reverse gam_nil)) rules0 Try.func49 (by kernel_rfl) (by kernel_rfl) (by exact @link _ (vcFunc tab (gOf [(63, fS_LogOfC), (71, fS_ReverseC)]) R0 Try.f49 fS_PermuteC aS_Permute) (by kernel_rfl) v_S_Permute)
theorem q_S_Modulus : PureC Try.prog 87 fS_ModulusC ∧ CallOk Try.prog 87 :=
  mk (A := noA) gam_nil rules0 Try.func87 (by kernel_rfl) (by kernel_rfl) (by exact @link _ (vcFunc tab (gOf []) R0 Try.f87 fS_ModulusC noA) (by kernel_rfl) v_S_Modulus)
theorem q_S_TwoPower : PureC Try.prog 66 fS_TwoPowerC ∧ CallOk Try.prog 66 :=
  mk (A := aS_TwoPower) (gam_cons q_S_Modulus gam_nil) rules0 Try.func66 (by kernel_rfl) (by kernel_rfl) (by exact @link _ (vcFunc tab (gOf [(87, fS_ModulusC)]) R0 Try.f66 fS_TwoPowerC aS_TwoPower) (by kernel_rfl) v_S_TwoPower)
theorem q_S_l09Log : PureC Try.prog 64 fS_l09LogC ∧ CallOk Try.prog 64 :=
  mk (A := noA) (gam_cons q_S_Modulus (gam_cons q_S_l01In (gam_cons q_S_TwoPower gam_nil))) rules0 Try.func64 (by kernel_rfl) (by kernel_rfl) (by exact @link _ (vcFunc tab (gOf [(87, fS_ModulusC), (43, fS_l01InC), (66, fS_TwoPowerC)]) R0 Try.f64 fS_l09LogC noA) (by kernel_rfl) v_S_l09Log)
theorem q_S_l09Run : PureC Try.prog 65 fS_l09RunC ∧ CallOk Try.prog 65 :=
  mk (A := noA) (gam_cons q_S_l01In gam_nil) rules0 Try.func65 (by kernel_rfl) (by kernel_rfl) (by exact @link _ (vcFunc tab (gOf [(43, fS_l01InC)]) R0 Try.f65 fS_l09RunC noA) (by kernel_rfl) v_S_l09Run)
theorem q_S_PlanOk : PureC Try.prog 41 fS_PlanOkC ∧ CallOk Try.prog 41 :=
  mk (A := aS_PlanOk) (gam_cons q_S_l09Log (gam_cons q_S_l09Run gam_nil)) rules0 Try.func41 (by kernel_rfl) (by kernel_rfl) (by exact @link _ (vcFunc tab (gOf [(64, fS_l09LogC), (65, fS_l09RunC)]) R0 Try.f41 fS_PlanOkC aS_PlanOk) (by kernel_rfl) v_S_PlanOk)
theorem q_S_l03Elements : PureC Try.prog 67 fS_l03ElementsC ∧ CallOk Try.prog 67 :=
  mk (A := aS_l03Elements) (gam_cons q_S_Modulus (gam_cons q_S_l01In gam_nil)) rules0 Try.func67 (by kernel_rfl) (by kernel_rfl) (by exact @link _ (vcFunc tab (gOf [(87, fS_ModulusC), (43, fS_l01InC)]) R0 Try.f67 fS_l03ElementsC aS_l03Elements) (by kernel_rfl) v_S_l03Elements)
theorem q_S_VectorOk : PureC Try.prog 42 fS_VectorOkC ∧ CallOk Try.prog 42 :=
  mk (A := noA) (gam_cons q_S_LogOf (gam_cons q_S_TwoPower (gam_cons q_S_l03Elements gam_nil))) rules0 Try.func42 (by kernel_rfl) (by kernel_rfl) (by exact @link _ (vcFunc tab (gOf [(63, fS_LogOfC), (66, fS_TwoPowerC), (67, fS_l03ElementsC)]) R0 Try.f42 fS_VectorOkC noA) (by kernel_rfl) v_S_VectorOk)
theorem q_S_TurnerOk : PureC Try.prog 10 fS_TurnerOkC ∧ CallOk Try.prog 10 :=
  mk (A := noA) (gam_cons q_S_PlanOk (gam_cons q_S_VectorOk (gam_cons q_S_l01In gam_nil))) rules0 Try.func10 (by kernel_rfl) (by kernel_rfl) (by exact @link _ (vcFunc tab (gOf [(41, fS_PlanOkC), (42, fS_VectorOkC), (43, fS_l01InC)]) R0 Try.f10 fS_TurnerOkC noA) (by kernel_rfl) v_S_TurnerOk)
theorem q_S_StartTurner : PureC Try.prog 23 fS_StartTurnerC ∧ CallOk Try.prog 23 :=
  mk (A := noA) (gam_cons q_S_l15Plan (gam_cons q_S_Permute (gam_cons q_S_TurnerOk gam_nil))) rules0 Try.func23 (by kernel_rfl) (by kernel_rfl) (by exact @link _ (vcFunc tab (gOf [(48, fS_l15PlanC), (49, fS_PermuteC), (10, fS_TurnerOkC)]) R0 Try.f23 fS_StartTurnerC noA) (by kernel_rfl) v_S_StartTurner)
theorem q_I_fieldOf : PureC Try.prog 58 fI_fieldOfC ∧ CallOk Try.prog 58 :=
  mk (A := noA) gam_nil rules0 Try.func58 (by kernel_rfl) (by kernel_rfl) (by exact @link _ (vcFunc tab (gOf []) R0 Try.f58 fI_fieldOfC noA) (by kernel_rfl) v_I_fieldOf)
theorem q_I_logOf : PureC Try.prog 73 fI_logOfC ∧ CallOk Try.prog 73 :=
  mk (A := aI_logOf) gam_nil rules0 Try.func73 (by kernel_rfl) (by kernel_rfl) (by exact @link _ (vcFunc tab (gOf []) R0 Try.f73 fI_logOfC aI_logOf) (by kernel_rfl) v_I_logOf)
theorem q_I_areElements : PureC Try.prog 90 fI_areElementsC ∧ CallOk Try.prog 90 :=
  mk (A := aI_areElements) gam_nil rules0 Try.func90 (by kernel_rfl) (by kernel_rfl) (by exact @link _ (vcFunc tab (gOf []) R0 Try.f90 fI_areElementsC aI_areElements) (by kernel_rfl) v_I_areElements)
theorem q_I_vectorField : PureC Try.prog 68 fI_vectorFieldC ∧ CallOk Try.prog 68 :=
  mk (A := aI_vectorField) (gam_cons q_I_fieldOf (gam_cons q_I_logOf (gam_cons q_I_areElements gam_nil))) rules0 Try.func68 (by kernel_rfl) (by kernel_rfl) (by exact @link _ (vcFunc tab (gOf [(58, fI_fieldOfC), (73, fI_logOfC), (90, fI_areElementsC)]) R0 Try.f68 fI_vectorFieldC aI_vectorField) (by kernel_rfl) v_I_vectorField)
theorem q_I_isStep : PureC Try.prog 91 fI_isStepC ∧ CallOk Try.prog 91 :=
  mk (A := noA) gam_nil rules0 Try.func91 (by kernel_rfl) (by kernel_rfl) (by exact @link _ (vcFunc tab (gOf []) R0 Try.f91 fI_isStepC noA) (by kernel_rfl) v_I_isStep)
theorem q_I_isPlan : PureC Try.prog 69 fI_isPlanC ∧ CallOk Try.prog 69 :=
  mk (A := aI_isPlan) (gam_cons q_I_fieldOf (gam_cons q_I_isStep gam_nil)) rules0 Try.func69 (by kernel_rfl) (by kernel_rfl) (by exact @link _ (vcFunc tab (gOf [(58, fI_fieldOfC), (91, fI_isStepC)]) R0 Try.f69 fI_isPlanC aI_isPlan) (by kernel_rfl) v_I_isPlan)
theorem q_I_isTurner : PureC Try.prog 44 fI_isTurnerC ∧ CallOk Try.prog 44 :=
  mk (A := noA) (gam_cons q_I_vectorField (gam_cons q_I_isPlan gam_nil)) rules0 Try.func44 (by kernel_rfl) (by kernel_rfl) (by exact @link _ (vcFunc tab (gOf [(68, fI_vectorFieldC), (69, fI_isPlanC)]) R0 Try.f44 fI_isTurnerC noA) (by kernel_rfl) v_I_isTurner)
theorem q_I_copyTurner : PureC Try.prog 51 fI_copyTurnerC ∧ CallOk Try.prog 51 :=
  mk (A := noA) gam_nil rules0 Try.func51 (by kernel_rfl) (by kernel_rfl) (by exact @link _ (vcFunc tab (gOf []) R0 Try.f51 fI_copyTurnerC noA) (by kernel_rfl) v_I_copyTurner)
theorem q_I_reversed : PureC Try.prog 74 fI_reversedC ∧ CallOk Try.prog 74 :=
  mk (A := aI_reversed) gam_nil rules0 Try.func74 (by kernel_rfl) (by kernel_rfl) (by exact @link _ (vcFunc tab (gOf []) R0 Try.f74 fI_reversedC aI_reversed) (by kernel_rfl) v_I_reversed)
theorem q_I_permuted : PureC Try.prog 52 fI_permutedC ∧ CallOk Try.prog 52 :=
  mk (A := aI_permuted) (gam_cons q_I_logOf (gam_cons q_I_reversed gam_nil)) rules0 Try.func52 (by kernel_rfl) (by kernel_rfl) (by exact @link _ (vcFunc tab (gOf [(73, fI_logOfC), (74, fI_reversedC)]) R0 Try.f52 fI_permutedC aI_permuted) (by kernel_rfl) v_I_permuted)
theorem q_I_StartTurner : PureC Try.prog 26 fI_StartTurnerC ∧ CallOk Try.prog 26 :=
  mk (A := noA) (gam_cons q_I_isTurner (gam_cons q_I_copyTurner (gam_cons q_I_permuted gam_nil))) rules0 Try.func26 (by kernel_rfl) (by kernel_rfl) (by exact @link _ (vcFunc tab (gOf [(44, fI_isTurnerC), (51, fI_copyTurnerC), (52, fI_permutedC)]) R0 Try.f26 fI_StartTurnerC noA) (by kernel_rfl) v_I_StartTurner)
theorem q_L_eqStep : PureC Try.prog 75 fL_eqStepC ∧ CallOk Try.prog 75 :=
  mk (A := noA) gam_nil rules0 Try.func75 (by kernel_rfl) (by kernel_rfl) (by exact @link _ (vcFunc tab (gOf []) R0 Try.f75 fL_eqStepC noA) (by kernel_rfl) v_L_eqStep)
theorem q_L_eqStepS : PureC Try.prog 53 fL_eqStepSC ∧ CallOk Try.prog 53 :=
  mk (A := aL_eqStepS) (gam_cons q_L_eqStep gam_nil) rules0 Try.func53 (by kernel_rfl) (by kernel_rfl) (by exact @link _ (vcFunc tab (gOf [(75, fL_eqStepC)]) R0 Try.f53 fL_eqStepSC aL_eqStepS) (by kernel_rfl) v_L_eqStepS)
theorem q_L_eqPlan : PureC Try.prog 27 fL_eqPlanC ∧ CallOk Try.prog 27 :=
  mk (A := noA) (gam_cons q_L_eqStepS gam_nil) rules0 Try.func27 (by kernel_rfl) (by kernel_rfl) (by exact @link _ (vcFunc tab (gOf [(53, fL_eqStepSC)]) R0 Try.f27 fL_eqPlanC noA) (by kernel_rfl) v_L_eqPlan)
theorem q_L_eqIntS : PureC Try.prog 18 fL_eqIntSC ∧ CallOk Try.prog 18 :=
  mk (A := aL_eqIntS) gam_nil rules0 Try.func18 (by kernel_rfl) (by kernel_rfl) (by exact @link _ (vcFunc tab (gOf []) R0 Try.f18 fL_eqIntSC aL_eqIntS) (by kernel_rfl) v_L_eqIntS)
theorem q_L_eqTurner : PureC Try.prog 13 fL_eqTurnerC ∧ CallOk Try.prog 13 :=
  mk (A := noA) (gam_cons q_L_eqPlan (gam_cons q_L_eqIntS gam_nil)) rules0 Try.func13 (by kernel_rfl) (by kernel_rfl) (by exact @link _ (vcFunc tab (gOf [(27, fL_eqPlanC), (18, fL_eqIntSC)]) R0 Try.f13 fL_eqTurnerC noA) (by kernel_rfl) v_L_eqTurner)
theorem q_L_markStepS : RuleOk Try.prog 54 (ruleOf fL_markStepSC) ∧ CallOk Try.prog 54 :=
  mkM (A := aL_markStepS) gam_nil rules0 Try.func54 (by kernel_rfl) (by kernel_rfl) rfl (by exact @link _ (vcMut tab (gOf []) R0 Try.f54 fL_markStepSC aL_markStepS) (by kernel_rfl) v_L_markStepS)
theorem q_L_markPlan : RuleOk Try.prog 28 (ruleOf fL_markPlanC) ∧ CallOk Try.prog 28 :=
  mkM (A := noM0) gam_nil (rul_cons q_L_markStepS rul_nil) Try.func28 (by kernel_rfl) (by kernel_rfl) rfl (by exact @link _ (vcMut tab (gOf []) (rOf [(54, ruleOf fL_markStepSC)]) Try.f28 fL_markPlanC noM0) (by kernel_rfl) v_L_markPlan)
theorem q_L_markIntS : RuleOk Try.prog 20 (ruleOf fL_markIntSC) ∧ CallOk Try.prog 20 :=
  mkM (A := aL_markIntS) gam_nil rules0 Try.func20 (by kernel_rfl) (by kernel_rfl) rfl (by exact @link _ (vcMut tab (gOf []) R0 Try.f20 fL_markIntSC aL_markIntS) (by kernel_rfl) v_L_markIntS)
theorem q_L_markTurner : RuleOk Try.prog 19 (ruleOf fL_markTurnerC) ∧ CallOk Try.prog 19 :=
  mkM (A := noM0) gam_nil (rul_cons q_L_markPlan (rul_cons q_L_markIntS rul_nil)) Try.func19 (by kernel_rfl) (by kernel_rfl) rfl (by exact @link _ (vcMut tab (gOf []) (rOf [(28, ruleOf fL_markPlanC), (20, ruleOf fL_markIntSC)]) Try.f19 fL_markTurnerC noM0) (by kernel_rfl) v_L_markTurner)
theorem q_L_heldStepS : PureC Try.prog 76 fL_heldStepSC ∧ CallOk Try.prog 76 :=
  mk (A := aL_heldStepS) gam_nil rules0 Try.func76 (by kernel_rfl) (by kernel_rfl) (by exact @link _ (vcFunc tab (gOf []) R0 Try.f76 fL_heldStepSC aL_heldStepS) (by kernel_rfl) v_L_heldStepS)
theorem q_L_heldPlan : PureC Try.prog 55 fL_heldPlanC ∧ CallOk Try.prog 55 :=
  mk (A := noA) (gam_cons q_L_heldStepS gam_nil) rules0 Try.func55 (by kernel_rfl) (by kernel_rfl) (by exact @link _ (vcFunc tab (gOf [(76, fL_heldStepSC)]) R0 Try.f55 fL_heldPlanC noA) (by kernel_rfl) v_L_heldPlan)
theorem q_L_heldIntS : PureC Try.prog 21 fL_heldIntSC ∧ CallOk Try.prog 21 :=
  mk (A := aL_heldIntS) gam_nil rules0 Try.func21 (by kernel_rfl) (by kernel_rfl) (by exact @link _ (vcFunc tab (gOf []) R0 Try.f21 fL_heldIntSC aL_heldIntS) (by kernel_rfl) v_L_heldIntS)
theorem q_L_heldTurner : PureC Try.prog 29 fL_heldTurnerC ∧ CallOk Try.prog 29 :=
  mk (A := noA) (gam_cons q_L_heldPlan (gam_cons q_L_heldIntS gam_nil)) rules0 Try.func29 (by kernel_rfl) (by kernel_rfl) (by exact @link _ (vcFunc tab (gOf [(55, fL_heldPlanC), (21, fL_heldIntSC)]) R0 Try.f29 fL_heldTurnerC noA) (by kernel_rfl) v_L_heldTurner)
-- LAW
theorem q_law : PureC Try.prog 6 (lawC [planT, listT]) ∧ CallOk Try.prog 6 :=
  mk (A := noA) (gam_cons q_L_szPlan (gam_cons q_L_toPlan (gam_cons q_L_toIntS (gam_cons q_S_StartTurner (gam_cons q_I_StartTurner (gam_cons q_L_eqTurner (gam_cons q_L_eqPlan (gam_cons q_L_eqIntS (gam_cons q_L_heldTurner gam_nil))))))))) (rul_cons q_L_markPlan (rul_cons q_L_markIntS (rul_cons q_L_markTurner rul_nil))) Try.func6 (by kernel_rfl) (by kernel_rfl) (by exact @link _ (vcFunc tab (gOf [(22, fL_szPlanC), (24, fL_toPlanC), (25, fL_toIntSC), (23, fS_StartTurnerC), (26, fI_StartTurnerC), (13, fL_eqTurnerC), (27, fL_eqPlanC), (18, fL_eqIntSC), (29, fL_heldTurnerC)]) (rOf [(28, ruleOf fL_markPlanC), (20, ruleOf fL_markIntSC), (19, ruleOf fL_markTurnerC)]) Try.f6 (lawC [planT, listT]) noA) (by kernel_rfl) v_FnExactStartTurner)
end Go.SF
