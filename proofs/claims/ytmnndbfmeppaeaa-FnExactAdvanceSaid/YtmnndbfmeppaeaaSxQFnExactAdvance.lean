/- FnExactAdvance: the functions keep their contracts. No condition. -/
import Derived.Test.YtmnndbfmeppaeaaSxPPlan
import Derived.Test.YtmnndbfmeppaeaaSxPPlan2
import Derived.Test.YtmnndbfmeppaeaaSxPAdv
import Derived.Test.YtmnndbfmeppaeaaSxPField
import Derived.Test.YtmnndbfmeppaeaaSxPBase
import Derived.Test.YtmnndbfmeppaeaaSxPMod
import Derived.Test.YtmnndbfmeppaeaaSxPIntS
import Derived.Test.YtmnndbfmeppaeaaSxPMark
import Derived.Test.YtmnndbfmeppaeaaSxPPlanB
import Derived.Test.YtmnndbfmeppaeaaSxPAdvB
import Derived.Test.YtmnndbfmeppaeaaSxPModB
import Derived.Test.YtmnndbfmeppaeaaSxPPlanC
import Derived.Test.YtmnndbfmeppaeaaSxPFnExactAdvance
import Derived.Test.YtmnndbfmeppaeaaSxTab
import Derived.Test.YtmnndbfmeppaeaaChecked
import Derived.KernelRfl
namespace Go.SF
open Go.SX Go.Proofs
set_option maxRecDepth 100000
set_option linter.unusedVariables false
theorem rules0 {P : Program} : RulesOk P R0 := fun f r h => by cases h
theorem gam_nil {P : Program} : GamOk P (gOf []) := fun f c h => by cases h
theorem gam_cons {P : Program} {k : Nat} {c : PC} {r : List (Nat × PC)} (h : PureC P k c ∧ CallOk P k) (hr : GamOk P (gOf r)) : GamOk P (gOf ((k, c) :: r)) := by
  intro f c' h'
  unfold gOf at h'
  split at h'
  · rename_i e
    injection h' with h'
    subst h'; subst e
    exact h
  · exact hr f c' h'
theorem rul_nil {P : Program} : RulesOk P (rOf []) := fun f c h => by cases h
theorem rul_cons {P : Program} {k : Nat} {c : Rule} {r : List (Nat × Rule)} (h : RuleOk P k c ∧ CallOk P k) (hr : RulesOk P (rOf r)) : RulesOk P (rOf ((k, c) :: r)) := by
  intro f c' h'
  unfold rOf at h'
  split at h'
  · rename_i e
    injection h' with h'
    subst h'; subst e
    exact h
  · exact hr f c' h'
theorem tabOk : TabOk Try.prog tab := tabOk_of (by kernel_rfl)
theorem mixed : Try.prog.follows .mixedOrders = true := by kernel_rfl
theorem mk {Γ : FuncId → Option PC} {f : FuncId} {fn : Func} {c : PC} {A : Tup c.ts → Nat → Option Ann} {R : FuncId → Option Rule} (hΓ : GamOk Try.prog Γ) (hR : RulesOk Try.prog R) (hf : Try.prog.funcs[f]? = some fn) (h1 : (fn.name == "runtime.NumGoroutine") = false) (h2 : fn.body.isNone = false)
    (h : vcFunc tab Γ R fn c A) : PureC Try.prog f c ∧ CallOk Try.prog f := ⟨vcFunc_pure mixed tabOk hΓ hR hf h, fn, hf, h1, h2⟩
theorem mkM {Γ : FuncId → Option PC} {R : FuncId → Option Rule} {f : FuncId} {fn : Func} {c : MC} {A : c.t.den → Int → Nat → Option Ann} (hΓ : GamOk Try.prog Γ) (hR : RulesOk Try.prog R) (hf : Try.prog.funcs[f]? = some fn) (h1 : (fn.name == "runtime.NumGoroutine") = false) (h2 : fn.body.isNone = false)
    (hl : c.t.lendable = true) (h : vcMut tab Γ R fn c A) : RuleOk Try.prog f (ruleOf c) ∧ CallOk Try.prog f := ⟨vcMut_rule mixed tabOk hΓ hR hf hl h, fn, hf, h1, h2⟩
theorem mkCut {Γ : FuncId → Option PC} {R : FuncId → Option Rule} {f : FuncId} {fn : Func} {c : CC} {A : List c.e.den → Nat → Option Ann} (hΓ : GamOk Try.prog Γ) (hR : RulesOk Try.prog R) (hf : Try.prog.funcs[f]? = some fn) (h1 : (fn.name == "runtime.NumGoroutine") = false) (h2 : fn.body.isNone = false)
    (hl : c.e.flat = true) (h : vcCut tab Γ R fn c A) : RuleOk Try.prog f (cutRule c) ∧ CallOk Try.prog f := ⟨vcCut_rule mixed tabOk hΓ hR hf hl h, fn, hf, h1, h2⟩
theorem link {p q : Prop} (h : p = q) (hp : p) : q := h ▸ hp
theorem q_L_szStepS : PureC Try.prog 47 fL_szStepSC ∧ CallOk Try.prog 47 :=
  mk (A := noA) gam_nil rules0 Try.func47 (by kernel_rfl) (by kernel_rfl) (by exact @link _ (vcFunc tab (gOf []) R0 Try.f47 fL_szStepSC noA) (by kernel_rfl) v_L_szStepS)
theorem q_L_szPlan : PureC Try.prog 22 fL_szPlanC ∧ CallOk Try.prog 22 :=
  mk (A := noA) (gam_cons q_L_szStepS gam_nil) rules0 Try.func22 (by kernel_rfl) (by kernel_rfl) (by exact @link _ (vcFunc tab (gOf [(47, fL_szStepSC)]) R0 Try.f22 fL_szPlanC noA) (by kernel_rfl) v_L_szPlan)
theorem q_L_szIntS : PureC Try.prog 40 fL_szIntSC ∧ CallOk Try.prog 40 :=
  mk (A := noA) gam_nil rules0 Try.func40 (by kernel_rfl) (by kernel_rfl) (by exact @link _ (vcFunc tab (gOf []) R0 Try.f40 fL_szIntSC noA) (by kernel_rfl) v_L_szIntS)
theorem q_L_szTurner : PureC Try.prog 9 fL_szTurnerC ∧ CallOk Try.prog 9 :=
  mk (A := noA) (gam_cons q_L_szPlan (gam_cons q_L_szIntS gam_nil)) rules0 Try.func9 (by kernel_rfl) (by kernel_rfl) (by exact @link _ (vcFunc tab (gOf [(22, fL_szPlanC), (40, fL_szIntSC)]) R0 Try.f9 fL_szTurnerC noA) (by kernel_rfl) v_L_szTurner)
theorem q_L_toStep : PureC Try.prog 72 fL_toStepC ∧ CallOk Try.prog 72 :=
  mk (A := noA) gam_nil rules0 Try.func72 (by kernel_rfl) (by kernel_rfl) (by exact @link _ (vcFunc tab (gOf []) R0 Try.f72 fL_toStepC noA) (by kernel_rfl) v_L_toStep)
theorem q_L_toStepS : PureC Try.prog 50 fL_toStepSC ∧ CallOk Try.prog 50 :=
  mk (A := aL_toStepS) (gam_cons q_L_toStep gam_nil) rules0 Try.func50 (by kernel_rfl) (by kernel_rfl) (by exact @link _ (vcFunc tab (gOf [(72, fL_toStepC)]) R0 Try.f50 fL_toStepSC aL_toStepS) (by kernel_rfl) v_L_toStepS)
theorem q_L_toPlan : PureC Try.prog 24 fL_toPlanC ∧ CallOk Try.prog 24 :=
  mk (A := noA) (gam_cons q_L_toStepS gam_nil) rules0 Try.func24 (by kernel_rfl) (by kernel_rfl) (by exact @link _ (vcFunc tab (gOf [(50, fL_toStepSC)]) R0 Try.f24 fL_toPlanC noA) (by kernel_rfl) v_L_toPlan)
theorem q_L_toIntS : PureC Try.prog 25 fL_toIntSC ∧ CallOk Try.prog 25 :=
  mk (A := aL_toIntS) gam_nil rules0 Try.func25 (by kernel_rfl) (by kernel_rfl) (by exact @link _ (vcFunc tab (gOf []) R0 Try.f25 fL_toIntSC aL_toIntS) (by kernel_rfl) v_L_toIntS)
theorem q_L_toTurner : PureC Try.prog 11 fL_toTurnerC ∧ CallOk Try.prog 11 :=
  mk (A := noA) (gam_cons q_L_toPlan (gam_cons q_L_toIntS gam_nil)) rules0 Try.func11 (by kernel_rfl) (by kernel_rfl) (by exact @link _ (vcFunc tab (gOf [(24, fL_toPlanC), (25, fL_toIntSC)]) R0 Try.f11 fL_toTurnerC noA) (by kernel_rfl) v_L_toTurner)
theorem q_S_l09Steps : PureC Try.prog 70 fS_l09StepsC ∧ CallOk Try.prog 70 :=
  mk (A := aS_l09Steps) gam_nil rules0 Try.func70 (by kernel_rfl) (by kernel_rfl) (by exact @link _ (vcFunc tab (gOf []) R0 Try.f70 fS_l09StepsC aS_l09Steps) (by kernel_rfl) v_S_l09Steps)
theorem q_S_l15Plan : PureC Try.prog 48 fS_l15PlanC ∧ CallOk Try.prog 48 :=
  mk (A := noA) (gam_cons q_S_l09Steps gam_nil) rules0 Try.func48 (by kernel_rfl) (by kernel_rfl) (by exact @link _ (vcFunc tab (gOf [(70, fS_l09StepsC)]) R0 Try.f48 fS_l15PlanC noA) (by kernel_rfl) v_S_l15Plan)
theorem q_S_l01Copy : PureC Try.prog 46 fS_l01CopyC ∧ CallOk Try.prog 46 :=
  mk (A := aS_l01Copy) gam_nil rules0 Try.func46 (by kernel_rfl) (by kernel_rfl) (by exact @link _ (vcFunc tab (gOf []) R0 Try.f46 fS_l01CopyC aS_l01Copy) (by kernel_rfl) v_S_l01Copy)
theorem q_S_l15Copy : PureC Try.prog 56 fS_l15CopyC ∧ CallOk Try.prog 56 :=
  mk (A := noA) (gam_cons q_S_l15Plan (gam_cons q_S_l01Copy gam_nil)) rules0 Try.func56 (by kernel_rfl) (by kernel_rfl) (by exact @link _ (vcFunc tab (gOf [(48, fS_l15PlanC), (46, fS_l01CopyC)]) R0 Try.f56 fS_l15CopyC noA) (by kernel_rfl) v_S_l15Copy)
theorem q_S_Modulus : PureC Try.prog 87 fS_ModulusC ∧ CallOk Try.prog 87 :=
  mk (A := noA) gam_nil rules0 Try.func87 (by kernel_rfl) (by kernel_rfl) (by exact @link _ (vcFunc tab (gOf []) R0 Try.f87 fS_ModulusC noA) (by kernel_rfl) v_S_Modulus)
theorem q_S_l01In : PureC Try.prog 43 fS_l01InC ∧ CallOk Try.prog 43 :=
  mk (A := noA) gam_nil rules0 Try.func43 (by kernel_rfl) (by kernel_rfl) (by exact @link _ (vcFunc tab (gOf []) R0 Try.f43 fS_l01InC noA) (by kernel_rfl) v_S_l01In)
theorem q_S_TwoPower : PureC Try.prog 66 fS_TwoPowerC ∧ CallOk Try.prog 66 :=
  mk (A := aS_TwoPower) (gam_cons q_S_Modulus gam_nil) rules0 Try.func66 (by kernel_rfl) (by kernel_rfl) (by exact @link _ (vcFunc tab (gOf [(87, fS_ModulusC)]) R0 Try.f66 fS_TwoPowerC aS_TwoPower) (by kernel_rfl) v_S_TwoPower)
theorem q_S_l09Log : PureC Try.prog 64 fS_l09LogC ∧ CallOk Try.prog 64 :=
  mk (A := noA) (gam_cons q_S_Modulus (gam_cons q_S_l01In (gam_cons q_S_TwoPower gam_nil))) rules0 Try.func64 (by kernel_rfl) (by kernel_rfl) (by exact @link _ (vcFunc tab (gOf [(87, fS_ModulusC), (43, fS_l01InC), (66, fS_TwoPowerC)]) R0 Try.f64 fS_l09LogC noA) (by kernel_rfl) v_S_l09Log)
theorem q_S_l09Run : PureC Try.prog 65 fS_l09RunC ∧ CallOk Try.prog 65 :=
  mk (A := noA) (gam_cons q_S_l01In gam_nil) rules0 Try.func65 (by kernel_rfl) (by kernel_rfl) (by exact @link _ (vcFunc tab (gOf [(43, fS_l01InC)]) R0 Try.f65 fS_l09RunC noA) (by kernel_rfl) v_S_l09Run)
theorem q_S_PlanOk : PureC Try.prog 41 fS_PlanOkC ∧ CallOk Try.prog 41 :=
  mk (A := aS_PlanOk) (gam_cons q_S_l09Log (gam_cons q_S_l09Run gam_nil)) rules0 Try.func41 (by kernel_rfl) (by kernel_rfl) (by exact @link _ (vcFunc tab (gOf [(64, fS_l09LogC), (65, fS_l09RunC)]) R0 Try.f41 fS_PlanOkC aS_PlanOk) (by kernel_rfl) v_S_PlanOk)
theorem q_S_LogOf : PureC Try.prog 63 fS_LogOfC ∧ CallOk Try.prog 63 :=
  mk (A := aS_LogOf) gam_nil rules0 Try.func63 (by kernel_rfl) (by kernel_rfl) (by exact @link _ (vcFunc tab (gOf []) R0 Try.f63 fS_LogOfC aS_LogOf) (by kernel_rfl) v_S_LogOf)
theorem q_S_l03Elements : PureC Try.prog 67 fS_l03ElementsC ∧ CallOk Try.prog 67 :=
  mk (A := aS_l03Elements) (gam_cons q_S_Modulus (gam_cons q_S_l01In gam_nil)) rules0 Try.func67 (by kernel_rfl) (by kernel_rfl) (by exact @link _ (vcFunc tab (gOf [(87, fS_ModulusC), (43, fS_l01InC)]) R0 Try.f67 fS_l03ElementsC aS_l03Elements) (by kernel_rfl) v_S_l03Elements)
theorem q_S_VectorOk : PureC Try.prog 42 fS_VectorOkC ∧ CallOk Try.prog 42 :=
  mk (A := noA) (gam_cons q_S_LogOf (gam_cons q_S_TwoPower (gam_cons q_S_l03Elements gam_nil))) rules0 Try.func42 (by kernel_rfl) (by kernel_rfl) (by exact @link _ (vcFunc tab (gOf [(63, fS_LogOfC), (66, fS_TwoPowerC), (67, fS_l03ElementsC)]) R0 Try.f42 fS_VectorOkC noA) (by kernel_rfl) v_S_VectorOk)
theorem q_S_TurnerOk : PureC Try.prog 10 fS_TurnerOkC ∧ CallOk Try.prog 10 :=
  mk (A := noA) (gam_cons q_S_PlanOk (gam_cons q_S_VectorOk (gam_cons q_S_l01In gam_nil))) rules0 Try.func10 (by kernel_rfl) (by kernel_rfl) (by exact @link _ (vcFunc tab (gOf [(41, fS_PlanOkC), (42, fS_VectorOkC), (43, fS_l01InC)]) R0 Try.f10 fS_TurnerOkC noA) (by kernel_rfl) v_S_TurnerOk)
theorem q_S_StepCost : PureC Try.prog 45 fS_StepCostC ∧ CallOk Try.prog 45 :=
  mk (A := noA) gam_nil rules0 Try.func45 (by kernel_rfl) (by kernel_rfl) (by exact @link _ (vcFunc tab (gOf []) R0 Try.f45 fS_StepCostC noA) (by kernel_rfl) v_S_StepCost)
theorem q_S_Generator : PureC Try.prog 89 fS_GeneratorC ∧ CallOk Try.prog 89 :=
  mk (A := noA) gam_nil rules0 Try.func89 (by kernel_rfl) (by kernel_rfl) (by exact @link _ (vcFunc tab (gOf []) R0 Try.f89 fS_GeneratorC noA) (by kernel_rfl) v_S_Generator)
theorem q_S_Reduce : PureC Try.prog 99 fS_ReduceC ∧ CallOk Try.prog 99 :=
  mk (A := noA) (gam_cons q_S_Modulus gam_nil) rules0 Try.func99 (by kernel_rfl) (by kernel_rfl) (by exact @link _ (vcFunc tab (gOf [(87, fS_ModulusC)]) R0 Try.f99 fS_ReduceC noA) (by kernel_rfl) v_S_Reduce)
theorem q_S_Power : PureC Try.prog 88 fS_PowerC ∧ CallOk Try.prog 88 :=
  mk (A := aS_Power) (gam_cons q_S_Modulus (gam_cons q_S_Reduce gam_nil)) rules0 Try.func88 (by kernel_rfl) (by kernel_rfl) (by exact @link _ (vcFunc tab (gOf [(87, fS_ModulusC), (99, fS_ReduceC)]) R0 Try.f88 fS_PowerC aS_Power) (by kernel_rfl) v_S_Power)
theorem q_S_RootOf : PureC Try.prog 62 fS_RootOfC ∧ CallOk Try.prog 62 :=
  mk (A := noA) (gam_cons q_S_Modulus (gam_cons q_S_TwoPower (gam_cons q_S_l01In (gam_cons q_S_Generator (gam_cons q_S_Power gam_nil))))) rules0 Try.func62 (by kernel_rfl) (by kernel_rfl) (by exact @link _ (vcFunc tab (gOf [(87, fS_ModulusC), (66, fS_TwoPowerC), (43, fS_l01InC), (89, fS_GeneratorC), (88, fS_PowerC)]) R0 Try.f62 fS_RootOfC noA) (by kernel_rfl) v_S_RootOf)
theorem q_S_Mul : PureC Try.prog 92 fS_MulC ∧ CallOk Try.prog 92 :=
  mk (A := noA) (gam_cons q_S_Modulus (gam_cons q_S_Reduce gam_nil)) rules0 Try.func92 (by kernel_rfl) (by kernel_rfl) (by exact @link _ (vcFunc tab (gOf [(87, fS_ModulusC), (99, fS_ReduceC)]) R0 Try.f92 fS_MulC noA) (by kernel_rfl) v_S_Mul)
theorem q_S_Add : PureC Try.prog 93 fS_AddC ∧ CallOk Try.prog 93 :=
  mk (A := noA) (gam_cons q_S_Modulus (gam_cons q_S_Reduce gam_nil)) rules0 Try.func93 (by kernel_rfl) (by kernel_rfl) (by exact @link _ (vcFunc tab (gOf [(87, fS_ModulusC), (99, fS_ReduceC)]) R0 Try.f93 fS_AddC noA) (by kernel_rfl) v_S_Add)
theorem q_S_Sub : PureC Try.prog 94 fS_SubC ∧ CallOk Try.prog 94 :=
  mk (A := noA) (gam_cons q_S_Modulus (gam_cons q_S_Reduce gam_nil)) rules0 Try.func94 (by kernel_rfl) (by kernel_rfl) (by exact @link _ (vcFunc tab (gOf [(87, fS_ModulusC), (99, fS_ReduceC)]) R0 Try.f94 fS_SubC noA) (by kernel_rfl) v_S_Sub)
theorem q_S_Stage : PureC Try.prog 77 fS_StageC ∧ CallOk Try.prog 77 :=
  mk (A := aS_Stage) (gam_cons q_S_VectorOk (gam_cons q_S_LogOf (gam_cons q_S_l01In (gam_cons q_S_RootOf (gam_cons q_S_l01Copy (gam_cons q_S_Power (gam_cons q_S_Mul (gam_cons q_S_Add (gam_cons q_S_Sub gam_nil))))))))) rules0 Try.func77 (by kernel_rfl) (by kernel_rfl) (by exact @link _ (vcFunc tab (gOf [(42, fS_VectorOkC), (63, fS_LogOfC), (43, fS_l01InC), (62, fS_RootOfC), (46, fS_l01CopyC), (88, fS_PowerC), (92, fS_MulC), (93, fS_AddC), (94, fS_SubC)]) R0 Try.f77 fS_StageC aS_Stage) (by kernel_rfl) v_S_Stage)
theorem q_S_RunStep : PureC Try.prog 57 fS_RunStepC ∧ CallOk Try.prog 57 :=
  mk (A := aS_RunStep) (gam_cons q_S_VectorOk (gam_cons q_S_LogOf (gam_cons q_S_l09Run (gam_cons q_S_Stage (gam_cons q_S_l01Copy gam_nil))))) rules0 Try.func57 (by kernel_rfl) (by kernel_rfl) (by exact @link _ (vcFunc tab (gOf [(42, fS_VectorOkC), (63, fS_LogOfC), (65, fS_l09RunC), (77, fS_StageC), (46, fS_l01CopyC)]) R0 Try.f57 fS_RunStepC aS_RunStep) (by kernel_rfl) v_S_RunStep)
theorem q_S_Advance : PureC Try.prog 30 fS_AdvanceC ∧ CallOk Try.prog 30 :=
  mk (A := aS_Advance) (gam_cons q_S_l15Copy (gam_cons q_S_TurnerOk (gam_cons q_S_StepCost (gam_cons q_S_RunStep gam_nil)))) rules0 Try.func30 (by kernel_rfl) (by kernel_rfl) (by exact @link _ (vcFunc tab (gOf [(56, fS_l15CopyC), (10, fS_TurnerOkC), (45, fS_StepCostC), (57, fS_RunStepC)]) R0 Try.f30 fS_AdvanceC aS_Advance) (by kernel_rfl) v_S_Advance)
theorem q_I_fieldOf : PureC Try.prog 58 fI_fieldOfC ∧ CallOk Try.prog 58 :=
  mk (A := noA) gam_nil rules0 Try.func58 (by kernel_rfl) (by kernel_rfl) (by exact @link _ (vcFunc tab (gOf []) R0 Try.f58 fI_fieldOfC noA) (by kernel_rfl) v_I_fieldOf)
theorem q_I_logOf : PureC Try.prog 73 fI_logOfC ∧ CallOk Try.prog 73 :=
  mk (A := aI_logOf) gam_nil rules0 Try.func73 (by kernel_rfl) (by kernel_rfl) (by exact @link _ (vcFunc tab (gOf []) R0 Try.f73 fI_logOfC aI_logOf) (by kernel_rfl) v_I_logOf)
theorem q_I_areElements : PureC Try.prog 90 fI_areElementsC ∧ CallOk Try.prog 90 :=
  mk (A := aI_areElements) gam_nil rules0 Try.func90 (by kernel_rfl) (by kernel_rfl) (by exact @link _ (vcFunc tab (gOf []) R0 Try.f90 fI_areElementsC aI_areElements) (by kernel_rfl) v_I_areElements)
theorem q_I_vectorField : PureC Try.prog 68 fI_vectorFieldC ∧ CallOk Try.prog 68 :=
  mk (A := aI_vectorField) (gam_cons q_I_fieldOf (gam_cons q_I_logOf (gam_cons q_I_areElements gam_nil))) rules0 Try.func68 (by kernel_rfl) (by kernel_rfl) (by exact @link _ (vcFunc tab (gOf [(58, fI_fieldOfC), (73, fI_logOfC), (90, fI_areElementsC)]) R0 Try.f68 fI_vectorFieldC aI_vectorField) (by kernel_rfl) v_I_vectorField)
theorem q_I_isStep : PureC Try.prog 91 fI_isStepC ∧ CallOk Try.prog 91 :=
  mk (A := noA) gam_nil rules0 Try.func91 (by kernel_rfl) (by kernel_rfl) (by exact @link _ (vcFunc tab (gOf []) R0 Try.f91 fI_isStepC noA) (by kernel_rfl) v_I_isStep)
theorem q_I_isPlan : PureC Try.prog 69 fI_isPlanC ∧ CallOk Try.prog 69 :=
  mk (A := aI_isPlan) (gam_cons q_I_fieldOf (gam_cons q_I_isStep gam_nil)) rules0 Try.func69 (by kernel_rfl) (by kernel_rfl) (by exact @link _ (vcFunc tab (gOf [(58, fI_fieldOfC), (91, fI_isStepC)]) R0 Try.f69 fI_isPlanC aI_isPlan) (by kernel_rfl) v_I_isPlan)
theorem q_I_isTurner : PureC Try.prog 44 fI_isTurnerC ∧ CallOk Try.prog 44 :=
  mk (A := noA) (gam_cons q_I_vectorField (gam_cons q_I_isPlan gam_nil)) rules0 Try.func44 (by kernel_rfl) (by kernel_rfl) (by exact @link _ (vcFunc tab (gOf [(68, fI_vectorFieldC), (69, fI_isPlanC)]) R0 Try.f44 fI_isTurnerC noA) (by kernel_rfl) v_I_isTurner)
theorem q_I_copyTurner : PureC Try.prog 51 fI_copyTurnerC ∧ CallOk Try.prog 51 :=
  mk (A := noA) gam_nil rules0 Try.func51 (by kernel_rfl) (by kernel_rfl) (by exact @link _ (vcFunc tab (gOf []) R0 Try.f51 fI_copyTurnerC noA) (by kernel_rfl) v_I_copyTurner)
theorem q_I_mul : PureC Try.prog 79 fI_mulC ∧ CallOk Try.prog 79 :=
  mk (A := noA) gam_nil rules0 Try.func79 (by kernel_rfl) (by kernel_rfl) (by exact @link _ (vcFunc tab (gOf []) R0 Try.f79 fI_mulC noA) (by kernel_rfl) v_I_mul)
theorem q_I_power : PureC Try.prog 80 fI_powerC ∧ CallOk Try.prog 80 :=
  mk (A := aI_power) (gam_cons q_I_mul gam_nil) rules0 Try.func80 (by kernel_rfl) (by kernel_rfl) (by exact @link _ (vcFunc tab (gOf [(79, fI_mulC)]) R0 Try.f80 fI_powerC aI_power) (by kernel_rfl) v_I_power)
theorem q_I_root : PureC Try.prog 78 fI_rootC ∧ CallOk Try.prog 78 :=
  mk (A := noA) (gam_cons q_I_power gam_nil) rules0 Try.func78 (by kernel_rfl) (by kernel_rfl) (by exact @link _ (vcFunc tab (gOf [(80, fI_powerC)]) R0 Try.f78 fI_rootC noA) (by kernel_rfl) v_I_root)
theorem q_I_add : PureC Try.prog 81 fI_addC ∧ CallOk Try.prog 81 :=
  mk (A := noA) gam_nil rules0 Try.func81 (by kernel_rfl) (by kernel_rfl) (by exact @link _ (vcFunc tab (gOf []) R0 Try.f81 fI_addC noA) (by kernel_rfl) v_I_add)
theorem q_I_sub : PureC Try.prog 82 fI_subC ∧ CallOk Try.prog 82 :=
  mk (A := noA) gam_nil rules0 Try.func82 (by kernel_rfl) (by kernel_rfl) (by exact @link _ (vcFunc tab (gOf []) R0 Try.f82 fI_subC noA) (by kernel_rfl) v_I_sub)
theorem q_I_runStep : PureC Try.prog 59 fI_runStepC ∧ CallOk Try.prog 59 :=
  mk (A := aI_runStep) (gam_cons q_I_root (gam_cons q_I_power (gam_cons q_I_mul (gam_cons q_I_add (gam_cons q_I_sub gam_nil))))) rules0 Try.func59 (by kernel_rfl) (by kernel_rfl) (by exact @link _ (vcFunc tab (gOf [(78, fI_rootC), (80, fI_powerC), (79, fI_mulC), (81, fI_addC), (82, fI_subC)]) R0 Try.f59 fI_runStepC aI_runStep) (by kernel_rfl) v_I_runStep)
theorem q_I_Advance : PureC Try.prog 31 fI_AdvanceC ∧ CallOk Try.prog 31 :=
  mk (A := aI_Advance) (gam_cons q_I_isTurner (gam_cons q_I_copyTurner (gam_cons q_I_fieldOf (gam_cons q_I_runStep gam_nil)))) rules0 Try.func31 (by kernel_rfl) (by kernel_rfl) (by exact @link _ (vcFunc tab (gOf [(44, fI_isTurnerC), (51, fI_copyTurnerC), (58, fI_fieldOfC), (59, fI_runStepC)]) R0 Try.f31 fI_AdvanceC aI_Advance) (by kernel_rfl) v_I_Advance)
theorem q_L_eqStep : PureC Try.prog 75 fL_eqStepC ∧ CallOk Try.prog 75 :=
  mk (A := noA) gam_nil rules0 Try.func75 (by kernel_rfl) (by kernel_rfl) (by exact @link _ (vcFunc tab (gOf []) R0 Try.f75 fL_eqStepC noA) (by kernel_rfl) v_L_eqStep)
theorem q_L_eqStepS : PureC Try.prog 53 fL_eqStepSC ∧ CallOk Try.prog 53 :=
  mk (A := aL_eqStepS) (gam_cons q_L_eqStep gam_nil) rules0 Try.func53 (by kernel_rfl) (by kernel_rfl) (by exact @link _ (vcFunc tab (gOf [(75, fL_eqStepC)]) R0 Try.f53 fL_eqStepSC aL_eqStepS) (by kernel_rfl) v_L_eqStepS)
theorem q_L_eqPlan : PureC Try.prog 27 fL_eqPlanC ∧ CallOk Try.prog 27 :=
  mk (A := noA) (gam_cons q_L_eqStepS gam_nil) rules0 Try.func27 (by kernel_rfl) (by kernel_rfl) (by exact @link _ (vcFunc tab (gOf [(53, fL_eqStepSC)]) R0 Try.f27 fL_eqPlanC noA) (by kernel_rfl) v_L_eqPlan)
theorem q_L_eqIntS : PureC Try.prog 18 fL_eqIntSC ∧ CallOk Try.prog 18 :=
  mk (A := aL_eqIntS) gam_nil rules0 Try.func18 (by kernel_rfl) (by kernel_rfl) (by exact @link _ (vcFunc tab (gOf []) R0 Try.f18 fL_eqIntSC aL_eqIntS) (by kernel_rfl) v_L_eqIntS)
theorem q_L_eqTurner : PureC Try.prog 13 fL_eqTurnerC ∧ CallOk Try.prog 13 :=
  mk (A := noA) (gam_cons q_L_eqPlan (gam_cons q_L_eqIntS gam_nil)) rules0 Try.func13 (by kernel_rfl) (by kernel_rfl) (by exact @link _ (vcFunc tab (gOf [(27, fL_eqPlanC), (18, fL_eqIntSC)]) R0 Try.f13 fL_eqTurnerC noA) (by kernel_rfl) v_L_eqTurner)
theorem q_L_markStepS : RuleOk Try.prog 54 (ruleOf fL_markStepSC) ∧ CallOk Try.prog 54 :=
  mkM (A := aL_markStepS) gam_nil rules0 Try.func54 (by kernel_rfl) (by kernel_rfl) rfl (by exact @link _ (vcMut tab (gOf []) R0 Try.f54 fL_markStepSC aL_markStepS) (by kernel_rfl) v_L_markStepS)
theorem q_L_markPlan : RuleOk Try.prog 28 (ruleOf fL_markPlanC) ∧ CallOk Try.prog 28 :=
  mkM (A := noM0) gam_nil (rul_cons q_L_markStepS rul_nil) Try.func28 (by kernel_rfl) (by kernel_rfl) rfl (by exact @link _ (vcMut tab (gOf []) (rOf [(54, ruleOf fL_markStepSC)]) Try.f28 fL_markPlanC noM0) (by kernel_rfl) v_L_markPlan)
theorem q_L_markIntS : RuleOk Try.prog 20 (ruleOf fL_markIntSC) ∧ CallOk Try.prog 20 :=
  mkM (A := aL_markIntS) gam_nil rules0 Try.func20 (by kernel_rfl) (by kernel_rfl) rfl (by exact @link _ (vcMut tab (gOf []) R0 Try.f20 fL_markIntSC aL_markIntS) (by kernel_rfl) v_L_markIntS)
theorem q_L_markTurner : RuleOk Try.prog 19 (ruleOf fL_markTurnerC) ∧ CallOk Try.prog 19 :=
  mkM (A := noM0) gam_nil (rul_cons q_L_markPlan (rul_cons q_L_markIntS rul_nil)) Try.func19 (by kernel_rfl) (by kernel_rfl) rfl (by exact @link _ (vcMut tab (gOf []) (rOf [(28, ruleOf fL_markPlanC), (20, ruleOf fL_markIntSC)]) Try.f19 fL_markTurnerC noM0) (by kernel_rfl) v_L_markTurner)
theorem q_L_heldStepS : PureC Try.prog 76 fL_heldStepSC ∧ CallOk Try.prog 76 :=
  mk (A := aL_heldStepS) gam_nil rules0 Try.func76 (by kernel_rfl) (by kernel_rfl) (by exact @link _ (vcFunc tab (gOf []) R0 Try.f76 fL_heldStepSC aL_heldStepS) (by kernel_rfl) v_L_heldStepS)
theorem q_L_heldPlan : PureC Try.prog 55 fL_heldPlanC ∧ CallOk Try.prog 55 :=
  mk (A := noA) (gam_cons q_L_heldStepS gam_nil) rules0 Try.func55 (by kernel_rfl) (by kernel_rfl) (by exact @link _ (vcFunc tab (gOf [(76, fL_heldStepSC)]) R0 Try.f55 fL_heldPlanC noA) (by kernel_rfl) v_L_heldPlan)
theorem q_L_heldIntS : PureC Try.prog 21 fL_heldIntSC ∧ CallOk Try.prog 21 :=
  mk (A := aL_heldIntS) gam_nil rules0 Try.func21 (by kernel_rfl) (by kernel_rfl) (by exact @link _ (vcFunc tab (gOf []) R0 Try.f21 fL_heldIntSC aL_heldIntS) (by kernel_rfl) v_L_heldIntS)
theorem q_L_heldTurner : PureC Try.prog 29 fL_heldTurnerC ∧ CallOk Try.prog 29 :=
  mk (A := noA) (gam_cons q_L_heldPlan (gam_cons q_L_heldIntS gam_nil)) rules0 Try.func29 (by kernel_rfl) (by kernel_rfl) (by exact @link _ (vcFunc tab (gOf [(55, fL_heldPlanC), (21, fL_heldIntSC)]) R0 Try.f29 fL_heldTurnerC noA) (by kernel_rfl) v_L_heldTurner)
-- LAW
theorem q_law : PureC Try.prog 7 (lawC [turnT, i64T]) ∧ CallOk Try.prog 7 :=
  mk (A := noA) (gam_cons q_L_szTurner (gam_cons q_L_toTurner (gam_cons q_S_Advance (gam_cons q_I_Advance (gam_cons q_L_eqTurner (gam_cons q_L_heldTurner gam_nil)))))) (rul_cons q_L_markTurner rul_nil) Try.func7 (by kernel_rfl) (by kernel_rfl) (by exact @link _ (vcFunc tab (gOf [(9, fL_szTurnerC), (11, fL_toTurnerC), (30, fS_AdvanceC), (31, fI_AdvanceC), (13, fL_eqTurnerC), (29, fL_heldTurnerC)]) (rOf [(19, ruleOf fL_markTurnerC)]) Try.f7 (lawC [turnT, i64T]) noA) (by kernel_rfl) v_FnExactAdvance)
end Go.SF
