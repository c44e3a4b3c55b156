/- FnExactDecodeGaps: the functions keep their contracts. No condition. -/
import Derived.Test.YtdfdoigiehmnoaaSxPPlan
import Derived.Test.YtdfdoigiehmnoaaSxPBase
import Derived.Test.YtdfdoigiehmnoaaSxPField
import Derived.Test.YtdfdoigiehmnoaaSxPPoint
import Derived.Test.YtdfdoigiehmnoaaSxPDec
import Derived.Test.YtdfdoigiehmnoaaSxPMod
import Derived.Test.YtdfdoigiehmnoaaSxPPoly
import Derived.Test.YtdfdoigiehmnoaaSxPThru
import Derived.Test.YtdfdoigiehmnoaaSxPIntS
import Derived.Test.YtdfdoigiehmnoaaSxPMark
import Derived.Test.YtdfdoigiehmnoaaSxPPlanB
import Derived.Test.YtdfdoigiehmnoaaSxPDecB
import Derived.Test.YtdfdoigiehmnoaaSxPModB
import Derived.Test.YtdfdoigiehmnoaaSxPPolyB
import Derived.Test.YtdfdoigiehmnoaaSxPThruB
import Derived.Test.YtdfdoigiehmnoaaSxPPlanC
import Derived.Test.YtdfdoigiehmnoaaSxPFnExactDecodeGaps
import Derived.Test.YtdfdoigiehmnoaaSxTab
import Derived.Test.YtdfdoigiehmnoaaChecked
import Derived.KernelRfl
namespace Go.SF
open Go.SX Go.Proofs
set_option maxRecDepth 100000
set_option linter.unusedVariables false
theorem rules0 {P : Program} : RulesOk P R0 := fun f r h => by cases h
theorem gam_nil {P : Program} : GamOk P (gOf []) := fun f c h => by cases h
theorem gam_cons {P : Program} {k : Nat} {c : PC} {r : List (Nat × PC)} (h : PureC P k c ∧ CallOk P k) (hr : GamOk P (gOf r)) : GamOk P (gOf ((k, c) :: r)) := by
  intro f c' h'
  unfold gOf at h'
  split at h'
  · rename_i e
    injection h' with h'
    subst h'; subst e
    exact h
  · exact hr f c' h'
theorem rul_nil {P : Program} : RulesOk P (rOf []) := fun f c h => by cases h
theorem rul_cons {P : Program} {k : Nat} {c : Rule} {r : List (Nat × Rule)} (h : RuleOk P k c ∧ CallOk P k) (hr : RulesOk P (rOf r)) : RulesOk P (rOf ((k, c) :: r)) := by
  intro f c' h'
  unfold rOf at h'
  split at h'
  · rename_i e
    injection h' with h'
    subst h'; subst e
    exact h
  · exact hr f c' h'
theorem tabOk : TabOk Try.prog tab := tabOk_of (by kernel_rfl)
theorem mixed : Try.prog.follows .mixedOrders = true := by kernel_rfl
theorem mk {Γ : FuncId → Option PC} {f : FuncId} {fn : Func} {c : PC} {A : Tup c.ts → Nat → Option Ann} {R : FuncId → Option Rule} (hΓ : GamOk Try.prog Γ) (hR : RulesOk Try.prog R) (hf : Try.prog.funcs[f]? = some fn) (h1 : (fn.name == "runtime.NumGoroutine") = false) (h2 : fn.body.isNone = false)
    (h : vcFunc tab Γ R fn c A) : PureC Try.prog f c ∧ CallOk Try.prog f := ⟨vcFunc_pure mixed tabOk hΓ hR hf h, fn, hf, h1, h2⟩
theorem mkM {Γ : FuncId → Option PC} {R : FuncId → Option Rule} {f : FuncId} {fn : Func} {c : MC} {A : c.t.den → Int → Nat → Option Ann} (hΓ : GamOk Try.prog Γ) (hR : RulesOk Try.prog R) (hf : Try.prog.funcs[f]? = some fn) (h1 : (fn.name == "runtime.NumGoroutine") = false) (h2 : fn.body.isNone = false)
    (hl : c.t.lendable = true) (h : vcMut tab Γ R fn c A) : RuleOk Try.prog f (ruleOf c) ∧ CallOk Try.prog f := ⟨vcMut_rule mixed tabOk hΓ hR hf hl h, fn, hf, h1, h2⟩
theorem mkCut {Γ : FuncId → Option PC} {R : FuncId → Option Rule} {f : FuncId} {fn : Func} {c : CC} {A : List c.e.den → Nat → Option Ann} (hΓ : GamOk Try.prog Γ) (hR : RulesOk Try.prog R) (hf : Try.prog.funcs[f]? = some fn) (h1 : (fn.name == "runtime.NumGoroutine") = false) (h2 : fn.body.isNone = false)
    (hl : c.e.flat = true) (h : vcCut tab Γ R fn c A) : RuleOk Try.prog f (cutRule c) ∧ CallOk Try.prog f := ⟨vcCut_rule mixed tabOk hΓ hR hf hl h, fn, hf, h1, h2⟩
theorem link {p q : Prop} (h : p = q) (hp : p) : q := h ▸ hp
theorem q_L_toIntS : PureC Try.prog 14 fL_toIntSC ∧ CallOk Try.prog 14 :=
  mk (A := aL_toIntS) gam_nil rules0 Try.func14 (by kernel_rfl) (by kernel_rfl) (by exact @link _ (vcFunc tab (gOf []) R0 Try.f14 fL_toIntSC aL_toIntS) (by kernel_rfl) v_L_toIntS)
theorem q_S_l01In : PureC Try.prog 53 fS_l01InC ∧ CallOk Try.prog 53 :=
  mk (A := noA) gam_nil rules0 Try.func53 (by kernel_rfl) (by kernel_rfl) (by exact @link _ (vcFunc tab (gOf []) R0 Try.f53 fS_l01InC noA) (by kernel_rfl) v_S_l01In)
theorem q_S_Modulus : PureC Try.prog 37 fS_ModulusC ∧ CallOk Try.prog 37 :=
  mk (A := noA) gam_nil rules0 Try.func37 (by kernel_rfl) (by kernel_rfl) (by exact @link _ (vcFunc tab (gOf []) R0 Try.f37 fS_ModulusC noA) (by kernel_rfl) v_S_Modulus)
theorem q_S_l03Elements : PureC Try.prog 50 fS_l03ElementsC ∧ CallOk Try.prog 50 :=
  mk (A := aS_l03Elements) (gam_cons q_S_Modulus (gam_cons q_S_l01In gam_nil)) rules0 Try.func50 (by kernel_rfl) (by kernel_rfl) (by exact @link _ (vcFunc tab (gOf [(37, fS_ModulusC), (53, fS_l01InC)]) R0 Try.f50 fS_l03ElementsC aS_l03Elements) (by kernel_rfl) v_S_l03Elements)
theorem q_S_l01Has : PureC Try.prog 60 fS_l01HasC ∧ CallOk Try.prog 60 :=
  mk (A := aS_l01Has) gam_nil rules0 Try.func60 (by kernel_rfl) (by kernel_rfl) (by exact @link _ (vcFunc tab (gOf []) R0 Try.f60 fS_l01HasC aS_l01Has) (by kernel_rfl) v_S_l01Has)
theorem q_S_PointsOk : PureC Try.prog 46 fS_PointsOkC ∧ CallOk Try.prog 46 :=
  mk (A := aS_PointsOk) (gam_cons q_S_l01In (gam_cons q_S_l03Elements (gam_cons q_S_l01Has gam_nil))) rules0 Try.func46 (by kernel_rfl) (by kernel_rfl) (by exact @link _ (vcFunc tab (gOf [(53, fS_l01InC), (50, fS_l03ElementsC), (60, fS_l01HasC)]) R0 Try.f46 fS_PointsOkC aS_PointsOk) (by kernel_rfl) v_S_PointsOk)
theorem q_S_l07Code : PureC Try.prog 56 fS_l07CodeC ∧ CallOk Try.prog 56 :=
  mk (A := noA) (gam_cons q_S_PointsOk (gam_cons q_S_l01In gam_nil)) rules0 Try.func56 (by kernel_rfl) (by kernel_rfl) (by exact @link _ (vcFunc tab (gOf [(46, fS_PointsOkC), (53, fS_l01InC)]) R0 Try.f56 fS_l07CodeC noA) (by kernel_rfl) v_S_l07Code)
theorem q_S_Reduce : PureC Try.prog 68 fS_ReduceC ∧ CallOk Try.prog 68 :=
  mk (A := noA) (gam_cons q_S_Modulus gam_nil) rules0 Try.func68 (by kernel_rfl) (by kernel_rfl) (by exact @link _ (vcFunc tab (gOf [(37, fS_ModulusC)]) R0 Try.f68 fS_ReduceC noA) (by kernel_rfl) v_S_Reduce)
theorem q_S_Sub : PureC Try.prog 47 fS_SubC ∧ CallOk Try.prog 47 :=
  mk (A := noA) (gam_cons q_S_Modulus (gam_cons q_S_Reduce gam_nil)) rules0 Try.func47 (by kernel_rfl) (by kernel_rfl) (by exact @link _ (vcFunc tab (gOf [(37, fS_ModulusC), (68, fS_ReduceC)]) R0 Try.f47 fS_SubC noA) (by kernel_rfl) v_S_Sub)
theorem q_S_Mul : PureC Try.prog 40 fS_MulC ∧ CallOk Try.prog 40 :=
  mk (A := noA) (gam_cons q_S_Modulus (gam_cons q_S_Reduce gam_nil)) rules0 Try.func40 (by kernel_rfl) (by kernel_rfl) (by exact @link _ (vcFunc tab (gOf [(37, fS_ModulusC), (68, fS_ReduceC)]) R0 Try.f40 fS_MulC noA) (by kernel_rfl) v_S_Mul)
theorem q_S_Power : PureC Try.prog 71 fS_PowerC ∧ CallOk Try.prog 71 :=
  mk (A := aS_Power) (gam_cons q_S_Modulus (gam_cons q_S_Reduce gam_nil)) rules0 Try.func71 (by kernel_rfl) (by kernel_rfl) (by exact @link _ (vcFunc tab (gOf [(37, fS_ModulusC), (68, fS_ReduceC)]) R0 Try.f71 fS_PowerC aS_Power) (by kernel_rfl) v_S_Power)
theorem q_S_Inverse : PureC Try.prog 41 fS_InverseC ∧ CallOk Try.prog 41 :=
  mk (A := noA) (gam_cons q_S_Power gam_nil) rules0 Try.func41 (by kernel_rfl) (by kernel_rfl) (by exact @link _ (vcFunc tab (gOf [(71, fS_PowerC)]) R0 Try.f41 fS_InverseC noA) (by kernel_rfl) v_S_Inverse)
theorem q_S_l01Copy : PureC Try.prog 88 fS_l01CopyC ∧ CallOk Try.prog 88 :=
  mk (A := aS_l01Copy) gam_nil rules0 Try.func88 (by kernel_rfl) (by kernel_rfl) (by exact @link _ (vcFunc tab (gOf []) R0 Try.f88 fS_l01CopyC aS_l01Copy) (by kernel_rfl) v_S_l01Copy)
theorem q_S_l03Cut : PureC Try.prog 66 fS_l03CutC ∧ CallOk Try.prog 66 :=
  mk (A := aS_l03Cut) (gam_cons q_S_l01Copy gam_nil) rules0 Try.func66 (by kernel_rfl) (by kernel_rfl) (by exact @link _ (vcFunc tab (gOf [(88, fS_l01CopyC)]) R0 Try.f66 fS_l03CutC aS_l03Cut) (by kernel_rfl) v_S_l03Cut)
theorem q_S_l03Mul : PureC Try.prog 93 fS_l03MulC ∧ CallOk Try.prog 93 :=
  mk (A := aS_l03Mul) (gam_cons q_S_Modulus (gam_cons q_S_l03Cut gam_nil)) rules0 Try.func93 (by kernel_rfl) (by kernel_rfl) (by exact @link _ (vcFunc tab (gOf [(37, fS_ModulusC), (66, fS_l03CutC)]) R0 Try.f93 fS_l03MulC aS_l03Mul) (by kernel_rfl) v_S_l03Mul)
theorem q_S_l07Vanish : PureC Try.prog 81 fS_l07VanishC ∧ CallOk Try.prog 81 :=
  mk (A := aS_l07Vanish) (gam_cons q_S_Sub (gam_cons q_S_l03Mul gam_nil)) rules0 Try.func81 (by kernel_rfl) (by kernel_rfl) (by exact @link _ (vcFunc tab (gOf [(47, fS_SubC), (93, fS_l03MulC)]) R0 Try.f81 fS_l07VanishC aS_l07Vanish) (by kernel_rfl) v_S_l07Vanish)
theorem q_S_PolyOk : PureC Try.prog 75 fS_PolyOkC ∧ CallOk Try.prog 75 :=
  mk (A := noA) (gam_cons q_S_l03Elements gam_nil) rules0 Try.func75 (by kernel_rfl) (by kernel_rfl) (by exact @link _ (vcFunc tab (gOf [(50, fS_l03ElementsC)]) R0 Try.f75 fS_PolyOkC noA) (by kernel_rfl) v_S_PolyOk)
theorem q_S_ScalePoly : PureC Try.prog 80 fS_ScalePolyC ∧ CallOk Try.prog 80 :=
  mk (A := aS_ScalePoly) (gam_cons q_S_PolyOk (gam_cons q_S_Mul (gam_cons q_S_l03Cut gam_nil))) rules0 Try.func80 (by kernel_rfl) (by kernel_rfl) (by exact @link _ (vcFunc tab (gOf [(75, fS_PolyOkC), (40, fS_MulC), (66, fS_l03CutC)]) R0 Try.f80 fS_ScalePolyC aS_ScalePoly) (by kernel_rfl) v_S_ScalePoly)
theorem q_S_l03At : PureC Try.prog 92 fS_l03AtC ∧ CallOk Try.prog 92 :=
  mk (A := noA) gam_nil rules0 Try.func92 (by kernel_rfl) (by kernel_rfl) (by exact @link _ (vcFunc tab (gOf []) R0 Try.f92 fS_l03AtC noA) (by kernel_rfl) v_S_l03At)
theorem q_S_Add : PureC Try.prog 36 fS_AddC ∧ CallOk Try.prog 36 :=
  mk (A := noA) (gam_cons q_S_Modulus (gam_cons q_S_Reduce gam_nil)) rules0 Try.func36 (by kernel_rfl) (by kernel_rfl) (by exact @link _ (vcFunc tab (gOf [(37, fS_ModulusC), (68, fS_ReduceC)]) R0 Try.f36 fS_AddC noA) (by kernel_rfl) v_S_Add)
theorem q_S_AddPoly : PureC Try.prog 79 fS_AddPolyC ∧ CallOk Try.prog 79 :=
  mk (A := aS_AddPoly) (gam_cons q_S_PolyOk (gam_cons q_S_l03At (gam_cons q_S_Add (gam_cons q_S_l03Cut gam_nil)))) rules0 Try.func79 (by kernel_rfl) (by kernel_rfl) (by exact @link _ (vcFunc tab (gOf [(75, fS_PolyOkC), (92, fS_l03AtC), (36, fS_AddC), (66, fS_l03CutC)]) R0 Try.f79 fS_AddPolyC aS_AddPoly) (by kernel_rfl) v_S_AddPoly)
theorem q_S_l07Through : PureC Try.prog 51 fS_l07ThroughC ∧ CallOk Try.prog 51 :=
  mk (A := aS_l07Through) (gam_cons q_S_Sub (gam_cons q_S_Mul (gam_cons q_S_Inverse (gam_cons q_S_l07Vanish (gam_cons q_S_ScalePoly (gam_cons q_S_AddPoly (gam_cons q_S_l03Cut gam_nil))))))) rules0 Try.func51 (by kernel_rfl) (by kernel_rfl) (by exact @link _ (vcFunc tab (gOf [(47, fS_SubC), (40, fS_MulC), (41, fS_InverseC), (81, fS_l07VanishC), (80, fS_ScalePolyC), (79, fS_AddPolyC), (66, fS_l03CutC)]) R0 Try.f51 fS_l07ThroughC aS_l07Through) (by kernel_rfl) v_S_l07Through)
theorem q_S_EvalPoly : PureC Try.prog 45 fS_EvalPolyC ∧ CallOk Try.prog 45 :=
  mk (A := aS_EvalPoly) (gam_cons q_S_PolyOk (gam_cons q_S_Power (gam_cons q_S_Mul (gam_cons q_S_Add gam_nil)))) rules0 Try.func45 (by kernel_rfl) (by kernel_rfl) (by exact @link _ (vcFunc tab (gOf [(75, fS_PolyOkC), (71, fS_PowerC), (40, fS_MulC), (36, fS_AddC)]) R0 Try.f45 fS_EvalPolyC aS_EvalPoly) (by kernel_rfl) v_S_EvalPoly)
theorem q_S_EncodeWord : PureC Try.prog 31 fS_EncodeWordC ∧ CallOk Try.prog 31 :=
  mk (A := aS_EncodeWord) (gam_cons q_S_l07Code (gam_cons q_S_l03Elements (gam_cons q_S_l03Cut (gam_cons q_S_EvalPoly gam_nil)))) rules0 Try.func31 (by kernel_rfl) (by kernel_rfl) (by exact @link _ (vcFunc tab (gOf [(56, fS_l07CodeC), (50, fS_l03ElementsC), (66, fS_l03CutC), (45, fS_EvalPolyC)]) R0 Try.f31 fS_EncodeWordC aS_EncodeWord) (by kernel_rfl) v_S_EncodeWord)
theorem q_S_Differ : PureC Try.prog 57 fS_DifferC ∧ CallOk Try.prog 57 :=
  mk (A := aS_Differ) gam_nil rules0 Try.func57 (by kernel_rfl) (by kernel_rfl) (by exact @link _ (vcFunc tab (gOf []) R0 Try.f57 fS_DifferC aS_Differ) (by kernel_rfl) v_S_Differ)
theorem q_S_DecodeWord : PureC Try.prog 23 fS_DecodeWordC ∧ CallOk Try.prog 23 :=
  mk (A := aS_DecodeWord) (gam_cons q_S_l07Code (gam_cons q_S_l03Elements (gam_cons q_S_l07Through (gam_cons q_S_EncodeWord (gam_cons q_S_Differ gam_nil))))) rules0 Try.func23 (by kernel_rfl) (by kernel_rfl) (by exact @link _ (vcFunc tab (gOf [(56, fS_l07CodeC), (50, fS_l03ElementsC), (51, fS_l07ThroughC), (31, fS_EncodeWordC), (57, fS_DifferC)]) R0 Try.f23 fS_DecodeWordC aS_DecodeWord) (by kernel_rfl) v_S_DecodeWord)
theorem q_S_DecodeGaps : PureC Try.prog 27 fS_DecodeGapsC ∧ CallOk Try.prog 27 :=
  mk (A := aS_DecodeGaps) (gam_cons q_S_l07Code (gam_cons q_S_l01In (gam_cons q_S_l01Has (gam_cons q_S_DecodeWord gam_nil)))) rules0 Try.func27 (by kernel_rfl) (by kernel_rfl) (by exact @link _ (vcFunc tab (gOf [(56, fS_l07CodeC), (53, fS_l01InC), (60, fS_l01HasC), (23, fS_DecodeWordC)]) R0 Try.f27 fS_DecodeGapsC aS_DecodeGaps) (by kernel_rfl) v_S_DecodeGaps)
theorem q_I_fieldOf : PureC Try.prog 54 fI_fieldOfC ∧ CallOk Try.prog 54 :=
  mk (A := noA) gam_nil rules0 Try.func54 (by kernel_rfl) (by kernel_rfl) (by exact @link _ (vcFunc tab (gOf []) R0 Try.f54 fI_fieldOfC noA) (by kernel_rfl) v_I_fieldOf)
theorem q_I_areElements : PureC Try.prog 67 fI_areElementsC ∧ CallOk Try.prog 67 :=
  mk (A := aI_areElements) gam_nil rules0 Try.func67 (by kernel_rfl) (by kernel_rfl) (by exact @link _ (vcFunc tab (gOf []) R0 Try.f67 fI_areElementsC aI_areElements) (by kernel_rfl) v_I_areElements)
theorem q_I_pointField : PureC Try.prog 48 fI_pointFieldC ∧ CallOk Try.prog 48 :=
  mk (A := aI_pointField) (gam_cons q_I_fieldOf (gam_cons q_I_areElements gam_nil)) rules0 Try.func48 (by kernel_rfl) (by kernel_rfl) (by exact @link _ (vcFunc tab (gOf [(54, fI_fieldOfC), (67, fI_areElementsC)]) R0 Try.f48 fI_pointFieldC aI_pointField) (by kernel_rfl) v_I_pointField)
theorem q_I_codeField : PureC Try.prog 61 fI_codeFieldC ∧ CallOk Try.prog 61 :=
  mk (A := noA) (gam_cons q_I_pointField gam_nil) rules0 Try.func61 (by kernel_rfl) (by kernel_rfl) (by exact @link _ (vcFunc tab (gOf [(48, fI_pointFieldC)]) R0 Try.f61 fI_codeFieldC noA) (by kernel_rfl) v_I_codeField)
theorem q_I_sub : PureC Try.prog 77 fI_subC ∧ CallOk Try.prog 77 :=
  mk (A := noA) gam_nil rules0 Try.func77 (by kernel_rfl) (by kernel_rfl) (by exact @link _ (vcFunc tab (gOf []) R0 Try.f77 fI_subC noA) (by kernel_rfl) v_I_sub)
theorem q_I_trimmed : RuleOk Try.prog 99 (cutRule fI_trimmedC) ∧ CallOk Try.prog 99 :=
  mkCut (A := aI_trimmed) gam_nil rules0 Try.func99 (by kernel_rfl) (by kernel_rfl) rfl (by exact @link _ (vcCut tab (gOf []) R0 Try.f99 fI_trimmedC aI_trimmed) (by kernel_rfl) v_I_trimmed)
theorem q_I_mulPoly : PureC Try.prog 90 fI_mulPolyC ∧ CallOk Try.prog 90 :=
  mk (A := aI_mulPoly) gam_nil (rul_cons q_I_trimmed rul_nil) Try.func90 (by kernel_rfl) (by kernel_rfl) (by exact @link _ (vcFunc tab (gOf []) (rOf [(99, cutRule fI_trimmedC)]) Try.f90 fI_mulPolyC aI_mulPoly) (by kernel_rfl) v_I_mulPoly)
theorem q_I_vanish : PureC Try.prog 74 fI_vanishC ∧ CallOk Try.prog 74 :=
  mk (A := aI_vanish) (gam_cons q_I_sub (gam_cons q_I_mulPoly gam_nil)) rules0 Try.func74 (by kernel_rfl) (by kernel_rfl) (by exact @link _ (vcFunc tab (gOf [(77, fI_subC), (90, fI_mulPolyC)]) R0 Try.f74 fI_vanishC aI_vanish) (by kernel_rfl) v_I_vanish)
theorem q_I_mul : PureC Try.prog 76 fI_mulC ∧ CallOk Try.prog 76 :=
  mk (A := noA) gam_nil rules0 Try.func76 (by kernel_rfl) (by kernel_rfl) (by exact @link _ (vcFunc tab (gOf []) R0 Try.f76 fI_mulC noA) (by kernel_rfl) v_I_mul)
theorem q_I_power : PureC Try.prog 91 fI_powerC ∧ CallOk Try.prog 91 :=
  mk (A := aI_power) (gam_cons q_I_mul gam_nil) rules0 Try.func91 (by kernel_rfl) (by kernel_rfl) (by exact @link _ (vcFunc tab (gOf [(76, fI_mulC)]) R0 Try.f91 fI_powerC aI_power) (by kernel_rfl) v_I_power)
theorem q_I_inverse : PureC Try.prog 78 fI_inverseC ∧ CallOk Try.prog 78 :=
  mk (A := noA) (gam_cons q_I_power gam_nil) rules0 Try.func78 (by kernel_rfl) (by kernel_rfl) (by exact @link _ (vcFunc tab (gOf [(91, fI_powerC)]) R0 Try.f78 fI_inverseC noA) (by kernel_rfl) v_I_inverse)
theorem q_I_divMod : PureC Try.prog 94 fI_divModC ∧ CallOk Try.prog 94 :=
  mk (A := aI_divMod) (gam_cons q_I_inverse (gam_cons q_I_mul (gam_cons q_I_sub gam_nil))) (rul_cons q_I_trimmed rul_nil) Try.func94 (by kernel_rfl) (by kernel_rfl) (by exact @link _ (vcFunc tab (gOf [(78, fI_inverseC), (76, fI_mulC), (77, fI_subC)]) (rOf [(99, cutRule fI_trimmedC)]) Try.f94 fI_divModC aI_divMod) (by kernel_rfl) v_I_divMod)
theorem q_I_weight : PureC Try.prog 49 fI_weightC ∧ CallOk Try.prog 49 :=
  mk (A := aI_weight) (gam_cons q_I_sub (gam_cons q_I_mul (gam_cons q_I_inverse gam_nil))) rules0 Try.func49 (by kernel_rfl) (by kernel_rfl) (by exact @link _ (vcFunc tab (gOf [(77, fI_subC), (76, fI_mulC), (78, fI_inverseC)]) R0 Try.f49 fI_weightC aI_weight) (by kernel_rfl) v_I_weight)
theorem q_I_scalePoly : PureC Try.prog 96 fI_scalePolyC ∧ CallOk Try.prog 96 :=
  mk (A := aI_scalePoly) (gam_cons q_I_mul gam_nil) (rul_cons q_I_trimmed rul_nil) Try.func96 (by kernel_rfl) (by kernel_rfl) (by exact @link _ (vcFunc tab (gOf [(76, fI_mulC)]) (rOf [(99, cutRule fI_trimmedC)]) Try.f96 fI_scalePolyC aI_scalePoly) (by kernel_rfl) v_I_scalePoly)
theorem q_I_coefficient : PureC Try.prog 101 fI_coefficientC ∧ CallOk Try.prog 101 :=
  mk (A := noA) gam_nil rules0 Try.func101 (by kernel_rfl) (by kernel_rfl) (by exact @link _ (vcFunc tab (gOf []) R0 Try.f101 fI_coefficientC noA) (by kernel_rfl) v_I_coefficient)
theorem q_I_add : PureC Try.prog 100 fI_addC ∧ CallOk Try.prog 100 :=
  mk (A := noA) gam_nil rules0 Try.func100 (by kernel_rfl) (by kernel_rfl) (by exact @link _ (vcFunc tab (gOf []) R0 Try.f100 fI_addC noA) (by kernel_rfl) v_I_add)
theorem q_I_addPoly : PureC Try.prog 95 fI_addPolyC ∧ CallOk Try.prog 95 :=
  mk (A := aI_addPoly) (gam_cons q_I_coefficient (gam_cons q_I_add gam_nil)) (rul_cons q_I_trimmed rul_nil) Try.func95 (by kernel_rfl) (by kernel_rfl) (by exact @link _ (vcFunc tab (gOf [(101, fI_coefficientC), (100, fI_addC)]) (rOf [(99, cutRule fI_trimmedC)]) Try.f95 fI_addPolyC aI_addPoly) (by kernel_rfl) v_I_addPoly)
theorem q_I_through : PureC Try.prog 82 fI_throughC ∧ CallOk Try.prog 82 :=
  mk (A := aI_through) (gam_cons q_I_vanish (gam_cons q_I_sub (gam_cons q_I_divMod (gam_cons q_I_weight (gam_cons q_I_mul (gam_cons q_I_scalePoly (gam_cons q_I_addPoly gam_nil))))))) rules0 Try.func82 (by kernel_rfl) (by kernel_rfl) (by exact @link _ (vcFunc tab (gOf [(74, fI_vanishC), (77, fI_subC), (94, fI_divModC), (49, fI_weightC), (76, fI_mulC), (96, fI_scalePolyC), (95, fI_addPolyC)]) R0 Try.f82 fI_throughC aI_through) (by kernel_rfl) v_I_through)
theorem q_I_eval : PureC Try.prog 55 fI_evalC ∧ CallOk Try.prog 55 :=
  mk (A := aI_eval) gam_nil rules0 Try.func55 (by kernel_rfl) (by kernel_rfl) (by exact @link _ (vcFunc tab (gOf []) R0 Try.f55 fI_evalC aI_eval) (by kernel_rfl) v_I_eval)
theorem q_I_evalMany : PureC Try.prog 59 fI_evalManyC ∧ CallOk Try.prog 59 :=
  mk (A := aI_evalMany) (gam_cons q_I_eval gam_nil) rules0 Try.func59 (by kernel_rfl) (by kernel_rfl) (by exact @link _ (vcFunc tab (gOf [(55, fI_evalC)]) R0 Try.f59 fI_evalManyC aI_evalMany) (by kernel_rfl) v_I_evalMany)
theorem q_I_differ : PureC Try.prog 69 fI_differC ∧ CallOk Try.prog 69 :=
  mk (A := aI_differ) gam_nil rules0 Try.func69 (by kernel_rfl) (by kernel_rfl) (by exact @link _ (vcFunc tab (gOf []) R0 Try.f69 fI_differC aI_differ) (by kernel_rfl) v_I_differ)
theorem q_I_decodeWord : PureC Try.prog 58 fI_decodeWordC ∧ CallOk Try.prog 58 :=
  mk (A := aI_decodeWord) (gam_cons q_I_codeField (gam_cons q_I_areElements (gam_cons q_I_through (gam_cons q_I_evalMany (gam_cons q_I_differ gam_nil))))) rules0 Try.func58 (by kernel_rfl) (by kernel_rfl) (by exact @link _ (vcFunc tab (gOf [(61, fI_codeFieldC), (67, fI_areElementsC), (82, fI_throughC), (59, fI_evalManyC), (69, fI_differC)]) R0 Try.f58 fI_decodeWordC aI_decodeWord) (by kernel_rfl) v_I_decodeWord)
theorem q_I_DecodeGaps : PureC Try.prog 28 fI_DecodeGapsC ∧ CallOk Try.prog 28 :=
  mk (A := aI_DecodeGaps) (gam_cons q_I_codeField (gam_cons q_I_decodeWord gam_nil)) rules0 Try.func28 (by kernel_rfl) (by kernel_rfl) (by exact @link _ (vcFunc tab (gOf [(61, fI_codeFieldC), (58, fI_decodeWordC)]) R0 Try.f28 fI_DecodeGapsC aI_DecodeGaps) (by kernel_rfl) v_I_DecodeGaps)
theorem q_L_eqIntS : PureC Try.prog 16 fL_eqIntSC ∧ CallOk Try.prog 16 :=
  mk (A := aL_eqIntS) gam_nil rules0 Try.func16 (by kernel_rfl) (by kernel_rfl) (by exact @link _ (vcFunc tab (gOf []) R0 Try.f16 fL_eqIntSC aL_eqIntS) (by kernel_rfl) v_L_eqIntS)
theorem q_L_markIntS : RuleOk Try.prog 17 (ruleOf fL_markIntSC) ∧ CallOk Try.prog 17 :=
  mkM (A := aL_markIntS) gam_nil rules0 Try.func17 (by kernel_rfl) (by kernel_rfl) rfl (by exact @link _ (vcMut tab (gOf []) R0 Try.f17 fL_markIntSC aL_markIntS) (by kernel_rfl) v_L_markIntS)
theorem q_L_heldIntS : PureC Try.prog 18 fL_heldIntSC ∧ CallOk Try.prog 18 :=
  mk (A := aL_heldIntS) gam_nil rules0 Try.func18 (by kernel_rfl) (by kernel_rfl) (by exact @link _ (vcFunc tab (gOf []) R0 Try.f18 fL_heldIntSC aL_heldIntS) (by kernel_rfl) v_L_heldIntS)
-- LAW
theorem q_law : PureC Try.prog 8 (lawC [i64T, listT, listT, i64T, listT]) ∧ CallOk Try.prog 8 :=
  mk (A := noA) (gam_cons q_L_toIntS (gam_cons q_S_DecodeGaps (gam_cons q_I_DecodeGaps (gam_cons q_L_eqIntS (gam_cons q_L_heldIntS gam_nil))))) (rul_cons q_L_markIntS rul_nil) Try.func8 (by kernel_rfl) (by kernel_rfl) (by exact @link _ (vcFunc tab (gOf [(14, fL_toIntSC), (27, fS_DecodeGapsC), (28, fI_DecodeGapsC), (16, fL_eqIntSC), (18, fL_heldIntSC)]) (rOf [(17, ruleOf fL_markIntSC)]) Try.f8 (lawC [i64T, listT, listT, i64T, listT]) noA) (by kernel_rfl) v_FnExactDecodeGaps)
end Go.SF
