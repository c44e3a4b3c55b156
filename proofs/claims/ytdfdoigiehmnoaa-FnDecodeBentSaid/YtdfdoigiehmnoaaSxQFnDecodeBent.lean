/- FnDecodeBent: the functions keep their contracts. No condition. -/
import Derived.Test.YtdfdoigiehmnoaaSxPCode
import Derived.Test.YtdfdoigiehmnoaaSxPDraw
import Derived.Test.YtdfdoigiehmnoaaSxPField
import Derived.Test.YtdfdoigiehmnoaaSxPPoint
import Derived.Test.YtdfdoigiehmnoaaSxPBase
import Derived.Test.YtdfdoigiehmnoaaSxPDec
import Derived.Test.YtdfdoigiehmnoaaSxPPlan
import Derived.Test.YtdfdoigiehmnoaaSxPPoly
import Derived.Test.YtdfdoigiehmnoaaSxPMod
import Derived.Test.YtdfdoigiehmnoaaSxPThru
import Derived.Test.YtdfdoigiehmnoaaSxPWord
import Derived.Test.YtdfdoigiehmnoaaSxPDecB
import Derived.Test.YtdfdoigiehmnoaaSxPPlanB
import Derived.Test.YtdfdoigiehmnoaaSxPPolyB
import Derived.Test.YtdfdoigiehmnoaaSxPModB
import Derived.Test.YtdfdoigiehmnoaaSxPThruB
import Derived.Test.YtdfdoigiehmnoaaSxPWordB
import Derived.Test.YtdfdoigiehmnoaaSxPDecC
import Derived.Test.YtdfdoigiehmnoaaSxPPlanC
import Derived.Test.YtdfdoigiehmnoaaSxPFnDecodeBent
import Derived.Test.YtdfdoigiehmnoaaSxTab
import Derived.Test.YtdfdoigiehmnoaaChecked
import Derived.KernelRfl
namespace Go.SF
open Go.SX Go.Proofs
set_option maxRecDepth 100000
set_option linter.unusedVariables false
theorem rules0 {P : Program} : RulesOk P R0 := fun f r h => by cases h
theorem gam_nil {P : Program} : GamOk P (gOf []) := fun f c h => by cases h
theorem gam_cons {P : Program} {k : Nat} {c : PC} {r : List (Nat × PC)} (h : PureC P k c ∧ CallOk P k) (hr : GamOk P (gOf r)) : GamOk P (gOf ((k, c) :: r)) := by
  intro f c' h'
  unfold gOf at h'
  split at h'
  · rename_i e
    injection h' with h'
    subst h'; subst e
    exact h
  · exact hr f c' h'
theorem rul_nil {P : Program} : RulesOk P (rOf []) := fun f c h => by cases h
theorem rul_cons {P : Program} {k : Nat} {c : Rule} {r : List (Nat × Rule)} (h : RuleOk P k c ∧ CallOk P k) (hr : RulesOk P (rOf r)) : RulesOk P (rOf ((k, c) :: r)) := by
  intro f c' h'
  unfold rOf at h'
  split at h'
  · rename_i e
    injection h' with h'
    subst h'; subst e
    exact h
  · exact hr f c' h'
theorem tabOk : TabOk Try.prog tab := tabOk_of (by kernel_rfl)
theorem mixed : Try.prog.follows .mixedOrders = true := by kernel_rfl
theorem mk {Γ : FuncId → Option PC} {f : FuncId} {fn : Func} {c : PC} {A : Tup c.ts → Nat → Option Ann} {R : FuncId → Option Rule} (hΓ : GamOk Try.prog Γ) (hR : RulesOk Try.prog R) (hf : Try.prog.funcs[f]? = some fn) (h1 : (fn.name == "runtime.NumGoroutine") = false) (h2 : fn.body.isNone = false)
    (h : vcFunc tab Γ R fn c A) : PureC Try.prog f c ∧ CallOk Try.prog f := ⟨vcFunc_pure mixed tabOk hΓ hR hf h, fn, hf, h1, h2⟩
theorem mkM {Γ : FuncId → Option PC} {R : FuncId → Option Rule} {f : FuncId} {fn : Func} {c : MC} {A : c.t.den → Int → Nat → Option Ann} (hΓ : GamOk Try.prog Γ) (hR : RulesOk Try.prog R) (hf : Try.prog.funcs[f]? = some fn) (h1 : (fn.name == "runtime.NumGoroutine") = false) (h2 : fn.body.isNone = false)
    (hl : c.t.lendable = true) (h : vcMut tab Γ R fn c A) : RuleOk Try.prog f (ruleOf c) ∧ CallOk Try.prog f := ⟨vcMut_rule mixed tabOk hΓ hR hf hl h, fn, hf, h1, h2⟩
theorem mkCut {Γ : FuncId → Option PC} {R : FuncId → Option Rule} {f : FuncId} {fn : Func} {c : CC} {A : List c.e.den → Nat → Option Ann} (hΓ : GamOk Try.prog Γ) (hR : RulesOk Try.prog R) (hf : Try.prog.funcs[f]? = some fn) (h1 : (fn.name == "runtime.NumGoroutine") = false) (h2 : fn.body.isNone = false)
    (hl : c.e.flat = true) (h : vcCut tab Γ R fn c A) : RuleOk Try.prog f (cutRule c) ∧ CallOk Try.prog f := ⟨vcCut_rule mixed tabOk hΓ hR hf hl h, fn, hf, h1, h2⟩
theorem mkBox {Γ : FuncId → Option PC} {R : FuncId → Option Rule} {f : FuncId} {fn : Func} {c : BC} {A : c.t.den → Tup c.ts → Nat → Option Ann} (hΓ : GamOk Try.prog Γ) (hR : RulesOk Try.prog R) (hf : Try.prog.funcs[f]? = some fn) (h1 : (fn.name == "runtime.NumGoroutine") = false) (h2 : fn.body.isNone = false)
    (h : vcBox tab Γ R fn c A) : RuleOk Try.prog f (boxRule c) ∧ CallOk Try.prog f := ⟨vcBox_rule mixed tabOk hΓ hR hf h, fn, hf, h1, h2⟩
theorem mkNew {Γ : FuncId → Option PC} {R : FuncId → Option Rule} {f : FuncId} {fn : Func} {c : NC} {A : Tup c.ts → Nat → Option Ann} (hΓ : GamOk Try.prog Γ) (hR : RulesOk Try.prog R) (hf : Try.prog.funcs[f]? = some fn) (h1 : (fn.name == "runtime.NumGoroutine") = false) (h2 : fn.body.isNone = false)
    (h : vcNew tab Γ R fn c A) : RuleOk Try.prog f (newRule c) ∧ CallOk Try.prog f := ⟨vcNew_rule mixed tabOk hΓ hR hf h, fn, hf, h1, h2⟩
theorem link {p q : Prop} (h : p = q) (hp : p) : q := h ▸ hp
theorem q_L_big : PureC Try.prog 29 fL_bigC ∧ CallOk Try.prog 29 :=
  mk (A := noA) gam_nil rules0 Try.func29 (by kernel_rfl) (by kernel_rfl) (by exact @link _ (vcFunc tab (gOf []) R0 Try.f29 fL_bigC noA) (by kernel_rfl) v_L_big)
theorem q_S_l01New : RuleOk Try.prog 62 (newRule fS_l01NewC) ∧ CallOk Try.prog 62 :=
  mkNew (A := aS_l01New) gam_nil rules0 Try.func62 (by kernel_rfl) (by kernel_rfl) (by exact @link _ (vcNew tab (gOf []) R0 Try.f62 fS_l01NewC aS_l01New) (by kernel_rfl) v_S_l01New)
theorem q_S_l01Byte : RuleOk Try.prog 98 (boxRule fS_l01ByteC) ∧ CallOk Try.prog 98 :=
  mkBox (A := noB) gam_nil rules0 Try.func98 (by kernel_rfl) (by kernel_rfl) (by exact @link _ (vcBox tab (gOf []) R0 Try.f98 fS_l01ByteC noB) (by kernel_rfl) v_S_l01Byte)
theorem q_S_l01Below : RuleOk Try.prog 85 (boxRule fS_l01BelowC) ∧ CallOk Try.prog 85 :=
  mkBox (A := noB) gam_nil (rul_cons q_S_l01Byte rul_nil) Try.func85 (by kernel_rfl) (by kernel_rfl) (by exact @link _ (vcBox tab (gOf []) (rOf [(98, boxRule fS_l01ByteC)]) Try.f85 fS_l01BelowC noB) (by kernel_rfl) v_S_l01Below)
theorem q_S_l01Once : RuleOk Try.prog 64 (boxRule fS_l01OnceC) ∧ CallOk Try.prog 64 :=
  mkBox (A := noB) gam_nil (rul_cons q_S_l01Below rul_nil) Try.func64 (by kernel_rfl) (by kernel_rfl) (by exact @link _ (vcBox tab (gOf []) (rOf [(85, boxRule fS_l01BelowC)]) Try.f64 fS_l01OnceC noB) (by kernel_rfl) v_S_l01Once)
theorem q_S_l01PickInt : RuleOk Try.prog 97 (boxRule fS_l01PickIntC) ∧ CallOk Try.prog 97 :=
  mkBox (A := noB) gam_nil (rul_cons q_S_l01Below rul_nil) Try.func97 (by kernel_rfl) (by kernel_rfl) (by exact @link _ (vcBox tab (gOf []) (rOf [(85, boxRule fS_l01BelowC)]) Try.f97 fS_l01PickIntC noB) (by kernel_rfl) v_S_l01PickInt)
theorem q_S_l01DrawField : RuleOk Try.prog 83 (boxRule fS_l01DrawFieldC) ∧ CallOk Try.prog 83 :=
  mkBox (A := noB) gam_nil (rul_cons q_S_l01Once (rul_cons q_S_l01PickInt (rul_cons q_S_l01Below rul_nil))) Try.func83 (by kernel_rfl) (by kernel_rfl) (by exact @link _ (vcBox tab (gOf []) (rOf [(64, boxRule fS_l01OnceC), (97, boxRule fS_l01PickIntC), (85, boxRule fS_l01BelowC)]) Try.f83 fS_l01DrawFieldC noB) (by kernel_rfl) v_S_l01DrawField)
theorem q_S_Modulus : PureC Try.prog 37 fS_ModulusC ∧ CallOk Try.prog 37 :=
  mk (A := noA) gam_nil rules0 Try.func37 (by kernel_rfl) (by kernel_rfl) (by exact @link _ (vcFunc tab (gOf []) R0 Try.f37 fS_ModulusC noA) (by kernel_rfl) v_S_Modulus)
theorem q_S_l01DrawElement : RuleOk Try.prog 87 (boxRule fS_l01DrawElementC) ∧ CallOk Try.prog 87 :=
  mkBox (A := noB) (gam_cons q_S_Modulus gam_nil) (rul_cons q_S_l01Below rul_nil) Try.func87 (by kernel_rfl) (by kernel_rfl) (by exact @link _ (vcBox tab (gOf [(37, fS_ModulusC)]) (rOf [(85, boxRule fS_l01BelowC)]) Try.f87 fS_l01DrawElementC noB) (by kernel_rfl) v_S_l01DrawElement)
theorem q_S_l01Has : PureC Try.prog 60 fS_l01HasC ∧ CallOk Try.prog 60 :=
  mk (A := aS_l01Has) gam_nil rules0 Try.func60 (by kernel_rfl) (by kernel_rfl) (by exact @link _ (vcFunc tab (gOf []) R0 Try.f60 fS_l01HasC aS_l01Has) (by kernel_rfl) v_S_l01Has)
theorem q_S_l07DrawPoints : RuleOk Try.prog 84 (boxRule fS_l07DrawPointsC) ∧ CallOk Try.prog 84 :=
  mkBox (A := aS_l07DrawPoints) (gam_cons q_S_l01Has (gam_cons q_S_Modulus gam_nil)) (rul_cons q_S_l01DrawElement (rul_cons q_S_l01Once (rul_cons q_S_l01Below (rul_cons q_S_l01PickInt rul_nil)))) Try.func84 (by kernel_rfl) (by kernel_rfl) (by exact @link _ (vcBox tab (gOf [(60, fS_l01HasC), (37, fS_ModulusC)]) (rOf [(87, boxRule fS_l01DrawElementC), (64, boxRule fS_l01OnceC), (85, boxRule fS_l01BelowC), (97, boxRule fS_l01PickIntC)]) Try.f84 fS_l07DrawPointsC aS_l07DrawPoints) (by kernel_rfl) v_S_l07DrawPoints)
theorem q_S_l01DrawList : RuleOk Try.prog 86 (boxRule fS_l01DrawListC) ∧ CallOk Try.prog 86 :=
  mkBox (A := aS_l01DrawList) gam_nil (rul_cons q_S_l01DrawElement rul_nil) Try.func86 (by kernel_rfl) (by kernel_rfl) (by exact @link _ (vcBox tab (gOf []) (rOf [(87, boxRule fS_l01DrawElementC)]) Try.f86 fS_l01DrawListC aS_l01DrawList) (by kernel_rfl) v_S_l01DrawList)
theorem q_S_l01In : PureC Try.prog 53 fS_l01InC ∧ CallOk Try.prog 53 :=
  mk (A := noA) gam_nil rules0 Try.func53 (by kernel_rfl) (by kernel_rfl) (by exact @link _ (vcFunc tab (gOf []) R0 Try.f53 fS_l01InC noA) (by kernel_rfl) v_S_l01In)
theorem q_S_l03Elements : PureC Try.prog 50 fS_l03ElementsC ∧ CallOk Try.prog 50 :=
  mk (A := aS_l03Elements) (gam_cons q_S_Modulus (gam_cons q_S_l01In gam_nil)) rules0 Try.func50 (by kernel_rfl) (by kernel_rfl) (by exact @link _ (vcFunc tab (gOf [(37, fS_ModulusC), (53, fS_l01InC)]) R0 Try.f50 fS_l03ElementsC aS_l03Elements) (by kernel_rfl) v_S_l03Elements)
theorem q_S_PointsOk : PureC Try.prog 46 fS_PointsOkC ∧ CallOk Try.prog 46 :=
  mk (A := aS_PointsOk) (gam_cons q_S_l01In (gam_cons q_S_l03Elements (gam_cons q_S_l01Has gam_nil))) rules0 Try.func46 (by kernel_rfl) (by kernel_rfl) (by exact @link _ (vcFunc tab (gOf [(53, fS_l01InC), (50, fS_l03ElementsC), (60, fS_l01HasC)]) R0 Try.f46 fS_PointsOkC aS_PointsOk) (by kernel_rfl) v_S_PointsOk)
theorem q_S_l07Code : PureC Try.prog 56 fS_l07CodeC ∧ CallOk Try.prog 56 :=
  mk (A := noA) (gam_cons q_S_PointsOk (gam_cons q_S_l01In gam_nil)) rules0 Try.func56 (by kernel_rfl) (by kernel_rfl) (by exact @link _ (vcFunc tab (gOf [(46, fS_PointsOkC), (53, fS_l01InC)]) R0 Try.f56 fS_l07CodeC noA) (by kernel_rfl) v_S_l07Code)
theorem q_S_l01Copy : PureC Try.prog 88 fS_l01CopyC ∧ CallOk Try.prog 88 :=
  mk (A := aS_l01Copy) gam_nil rules0 Try.func88 (by kernel_rfl) (by kernel_rfl) (by exact @link _ (vcFunc tab (gOf []) R0 Try.f88 fS_l01CopyC aS_l01Copy) (by kernel_rfl) v_S_l01Copy)
theorem q_S_l03Cut : PureC Try.prog 66 fS_l03CutC ∧ CallOk Try.prog 66 :=
  mk (A := aS_l03Cut) (gam_cons q_S_l01Copy gam_nil) rules0 Try.func66 (by kernel_rfl) (by kernel_rfl) (by exact @link _ (vcFunc tab (gOf [(88, fS_l01CopyC)]) R0 Try.f66 fS_l03CutC aS_l03Cut) (by kernel_rfl) v_S_l03Cut)
theorem q_S_PolyOk : PureC Try.prog 75 fS_PolyOkC ∧ CallOk Try.prog 75 :=
  mk (A := noA) (gam_cons q_S_l03Elements gam_nil) rules0 Try.func75 (by kernel_rfl) (by kernel_rfl) (by exact @link _ (vcFunc tab (gOf [(50, fS_l03ElementsC)]) R0 Try.f75 fS_PolyOkC noA) (by kernel_rfl) v_S_PolyOk)
theorem q_S_Reduce : PureC Try.prog 68 fS_ReduceC ∧ CallOk Try.prog 68 :=
  mk (A := noA) (gam_cons q_S_Modulus gam_nil) rules0 Try.func68 (by kernel_rfl) (by kernel_rfl) (by exact @link _ (vcFunc tab (gOf [(37, fS_ModulusC)]) R0 Try.f68 fS_ReduceC noA) (by kernel_rfl) v_S_Reduce)
theorem q_S_Power : PureC Try.prog 71 fS_PowerC ∧ CallOk Try.prog 71 :=
  mk (A := aS_Power) (gam_cons q_S_Modulus (gam_cons q_S_Reduce gam_nil)) rules0 Try.func71 (by kernel_rfl) (by kernel_rfl) (by exact @link _ (vcFunc tab (gOf [(37, fS_ModulusC), (68, fS_ReduceC)]) R0 Try.f71 fS_PowerC aS_Power) (by kernel_rfl) v_S_Power)
theorem q_S_Mul : PureC Try.prog 40 fS_MulC ∧ CallOk Try.prog 40 :=
  mk (A := noA) (gam_cons q_S_Modulus (gam_cons q_S_Reduce gam_nil)) rules0 Try.func40 (by kernel_rfl) (by kernel_rfl) (by exact @link _ (vcFunc tab (gOf [(37, fS_ModulusC), (68, fS_ReduceC)]) R0 Try.f40 fS_MulC noA) (by kernel_rfl) v_S_Mul)
theorem q_S_Add : PureC Try.prog 36 fS_AddC ∧ CallOk Try.prog 36 :=
  mk (A := noA) (gam_cons q_S_Modulus (gam_cons q_S_Reduce gam_nil)) rules0 Try.func36 (by kernel_rfl) (by kernel_rfl) (by exact @link _ (vcFunc tab (gOf [(37, fS_ModulusC), (68, fS_ReduceC)]) R0 Try.f36 fS_AddC noA) (by kernel_rfl) v_S_Add)
theorem q_S_EvalPoly : PureC Try.prog 45 fS_EvalPolyC ∧ CallOk Try.prog 45 :=
  mk (A := aS_EvalPoly) (gam_cons q_S_PolyOk (gam_cons q_S_Power (gam_cons q_S_Mul (gam_cons q_S_Add gam_nil)))) rules0 Try.func45 (by kernel_rfl) (by kernel_rfl) (by exact @link _ (vcFunc tab (gOf [(75, fS_PolyOkC), (71, fS_PowerC), (40, fS_MulC), (36, fS_AddC)]) R0 Try.f45 fS_EvalPolyC aS_EvalPoly) (by kernel_rfl) v_S_EvalPoly)
theorem q_S_EncodeWord : PureC Try.prog 31 fS_EncodeWordC ∧ CallOk Try.prog 31 :=
  mk (A := aS_EncodeWord) (gam_cons q_S_l07Code (gam_cons q_S_l03Elements (gam_cons q_S_l03Cut (gam_cons q_S_EvalPoly gam_nil)))) rules0 Try.func31 (by kernel_rfl) (by kernel_rfl) (by exact @link _ (vcFunc tab (gOf [(56, fS_l07CodeC), (50, fS_l03ElementsC), (66, fS_l03CutC), (45, fS_EvalPolyC)]) R0 Try.f31 fS_EncodeWordC aS_EncodeWord) (by kernel_rfl) v_S_EncodeWord)
theorem q_S_l07DrawWord : RuleOk Try.prog 63 (boxRule fS_l07DrawWordC) ∧ CallOk Try.prog 63 :=
  mkBox (A := aS_l07DrawWord) (gam_cons q_S_EncodeWord gam_nil) (rul_cons q_S_l01DrawField (rul_cons q_S_l01Below (rul_cons q_S_l07DrawPoints (rul_cons q_S_l01Once (rul_cons q_S_l01DrawList (rul_cons q_S_l01DrawElement rul_nil)))))) Try.func63 (by kernel_rfl) (by kernel_rfl) (by exact @link _ (vcBox tab (gOf [(31, fS_EncodeWordC)]) (rOf [(83, boxRule fS_l01DrawFieldC), (85, boxRule fS_l01BelowC), (84, boxRule fS_l07DrawPointsC), (64, boxRule fS_l01OnceC), (86, boxRule fS_l01DrawListC), (87, boxRule fS_l01DrawElementC)]) Try.f63 fS_l07DrawWordC aS_l07DrawWord) (by kernel_rfl) v_S_l07DrawWord)
theorem q_S_l07PickInts : RuleOk Try.prog 65 (boxRule fS_l07PickIntsC) ∧ CallOk Try.prog 65 :=
  mkBox (A := noB) (gam_cons q_S_l01Copy gam_nil) (rul_cons q_S_l01Below rul_nil) Try.func65 (by kernel_rfl) (by kernel_rfl) (by exact @link _ (vcBox tab (gOf [(88, fS_l01CopyC)]) (rOf [(85, boxRule fS_l01BelowC)]) Try.f65 fS_l07PickIntsC noB) (by kernel_rfl) v_S_l07PickInts)
theorem q_S_DrawEncodeWord : PureC Try.prog 30 fS_DrawEncodeWordC ∧ CallOk Try.prog 30 :=
  mk (A := noA) gam_nil (rul_cons q_S_l01New (rul_cons q_S_l07DrawWord (rul_cons q_S_l01Once (rul_cons q_S_l07PickInts rul_nil)))) Try.func30 (by kernel_rfl) (by kernel_rfl) (by exact @link _ (vcFunc tab (gOf []) (rOf [(62, newRule fS_l01NewC), (63, boxRule fS_l07DrawWordC), (64, boxRule fS_l01OnceC), (65, boxRule fS_l07PickIntsC)]) Try.f30 fS_DrawEncodeWordC noA) (by kernel_rfl) v_S_DrawEncodeWord)
theorem q_L_cp : PureC Try.prog 33 fL_cpC ∧ CallOk Try.prog 33 :=
  mk (A := aL_cp) gam_nil rules0 Try.func33 (by kernel_rfl) (by kernel_rfl) (by exact @link _ (vcFunc tab (gOf []) R0 Try.f33 fL_cpC aL_cp) (by kernel_rfl) v_L_cp)
theorem q_I_fieldOf : PureC Try.prog 54 fI_fieldOfC ∧ CallOk Try.prog 54 :=
  mk (A := noA) gam_nil rules0 Try.func54 (by kernel_rfl) (by kernel_rfl) (by exact @link _ (vcFunc tab (gOf []) R0 Try.f54 fI_fieldOfC noA) (by kernel_rfl) v_I_fieldOf)
theorem q_I_areElements : PureC Try.prog 67 fI_areElementsC ∧ CallOk Try.prog 67 :=
  mk (A := aI_areElements) gam_nil rules0 Try.func67 (by kernel_rfl) (by kernel_rfl) (by exact @link _ (vcFunc tab (gOf []) R0 Try.f67 fI_areElementsC aI_areElements) (by kernel_rfl) v_I_areElements)
theorem q_I_pointField : PureC Try.prog 48 fI_pointFieldC ∧ CallOk Try.prog 48 :=
  mk (A := aI_pointField) (gam_cons q_I_fieldOf (gam_cons q_I_areElements gam_nil)) rules0 Try.func48 (by kernel_rfl) (by kernel_rfl) (by exact @link _ (vcFunc tab (gOf [(54, fI_fieldOfC), (67, fI_areElementsC)]) R0 Try.f48 fI_pointFieldC aI_pointField) (by kernel_rfl) v_I_pointField)
theorem q_I_codeField : PureC Try.prog 61 fI_codeFieldC ∧ CallOk Try.prog 61 :=
  mk (A := noA) (gam_cons q_I_pointField gam_nil) rules0 Try.func61 (by kernel_rfl) (by kernel_rfl) (by exact @link _ (vcFunc tab (gOf [(48, fI_pointFieldC)]) R0 Try.f61 fI_codeFieldC noA) (by kernel_rfl) v_I_codeField)
theorem q_I_eval : PureC Try.prog 55 fI_evalC ∧ CallOk Try.prog 55 :=
  mk (A := aI_eval) gam_nil rules0 Try.func55 (by kernel_rfl) (by kernel_rfl) (by exact @link _ (vcFunc tab (gOf []) R0 Try.f55 fI_evalC aI_eval) (by kernel_rfl) v_I_eval)
theorem q_I_evalMany : PureC Try.prog 59 fI_evalManyC ∧ CallOk Try.prog 59 :=
  mk (A := aI_evalMany) (gam_cons q_I_eval gam_nil) rules0 Try.func59 (by kernel_rfl) (by kernel_rfl) (by exact @link _ (vcFunc tab (gOf [(55, fI_evalC)]) R0 Try.f59 fI_evalManyC aI_evalMany) (by kernel_rfl) v_I_evalMany)
theorem q_I_EncodeWord : PureC Try.prog 32 fI_EncodeWordC ∧ CallOk Try.prog 32 :=
  mk (A := noA) (gam_cons q_I_codeField (gam_cons q_I_areElements (gam_cons q_I_evalMany gam_nil))) rules0 Try.func32 (by kernel_rfl) (by kernel_rfl) (by exact @link _ (vcFunc tab (gOf [(61, fI_codeFieldC), (67, fI_areElementsC), (59, fI_evalManyC)]) R0 Try.f32 fI_EncodeWordC noA) (by kernel_rfl) v_I_EncodeWord)
theorem q_L_same : PureC Try.prog 34 fL_sameC ∧ CallOk Try.prog 34 :=
  mk (A := aL_same) gam_nil rules0 Try.func34 (by kernel_rfl) (by kernel_rfl) (by exact @link _ (vcFunc tab (gOf []) R0 Try.f34 fL_sameC aL_same) (by kernel_rfl) v_L_same)
theorem q_L_at : PureC Try.prog 35 fL_atC ∧ CallOk Try.prog 35 :=
  mk (A := noA) gam_nil rules0 Try.func35 (by kernel_rfl) (by kernel_rfl) (by exact @link _ (vcFunc tab (gOf []) R0 Try.f35 fL_atC noA) (by kernel_rfl) v_L_at)
theorem q_I_sub : PureC Try.prog 77 fI_subC ∧ CallOk Try.prog 77 :=
  mk (A := noA) gam_nil rules0 Try.func77 (by kernel_rfl) (by kernel_rfl) (by exact @link _ (vcFunc tab (gOf []) R0 Try.f77 fI_subC noA) (by kernel_rfl) v_I_sub)
theorem q_I_trimmed : RuleOk Try.prog 99 (cutRule fI_trimmedC) ∧ CallOk Try.prog 99 :=
  mkCut (A := aI_trimmed) gam_nil rules0 Try.func99 (by kernel_rfl) (by kernel_rfl) rfl (by exact @link _ (vcCut tab (gOf []) R0 Try.f99 fI_trimmedC aI_trimmed) (by kernel_rfl) v_I_trimmed)
theorem q_I_mulPoly : PureC Try.prog 90 fI_mulPolyC ∧ CallOk Try.prog 90 :=
  mk (A := aI_mulPoly) gam_nil (rul_cons q_I_trimmed rul_nil) Try.func90 (by kernel_rfl) (by kernel_rfl) (by exact @link _ (vcFunc tab (gOf []) (rOf [(99, cutRule fI_trimmedC)]) Try.f90 fI_mulPolyC aI_mulPoly) (by kernel_rfl) v_I_mulPoly)
theorem q_I_vanish : PureC Try.prog 74 fI_vanishC ∧ CallOk Try.prog 74 :=
  mk (A := aI_vanish) (gam_cons q_I_sub (gam_cons q_I_mulPoly gam_nil)) rules0 Try.func74 (by kernel_rfl) (by kernel_rfl) (by exact @link _ (vcFunc tab (gOf [(77, fI_subC), (90, fI_mulPolyC)]) R0 Try.f74 fI_vanishC aI_vanish) (by kernel_rfl) v_I_vanish)
theorem q_I_mul : PureC Try.prog 76 fI_mulC ∧ CallOk Try.prog 76 :=
  mk (A := noA) gam_nil rules0 Try.func76 (by kernel_rfl) (by kernel_rfl) (by exact @link _ (vcFunc tab (gOf []) R0 Try.f76 fI_mulC noA) (by kernel_rfl) v_I_mul)
theorem q_I_power : PureC Try.prog 91 fI_powerC ∧ CallOk Try.prog 91 :=
  mk (A := aI_power) (gam_cons q_I_mul gam_nil) rules0 Try.func91 (by kernel_rfl) (by kernel_rfl) (by exact @link _ (vcFunc tab (gOf [(76, fI_mulC)]) R0 Try.f91 fI_powerC aI_power) (by kernel_rfl) v_I_power)
theorem q_I_inverse : PureC Try.prog 78 fI_inverseC ∧ CallOk Try.prog 78 :=
  mk (A := noA) (gam_cons q_I_power gam_nil) rules0 Try.func78 (by kernel_rfl) (by kernel_rfl) (by exact @link _ (vcFunc tab (gOf [(91, fI_powerC)]) R0 Try.f78 fI_inverseC noA) (by kernel_rfl) v_I_inverse)
theorem q_I_divMod : PureC Try.prog 94 fI_divModC ∧ CallOk Try.prog 94 :=
  mk (A := aI_divMod) (gam_cons q_I_inverse (gam_cons q_I_mul (gam_cons q_I_sub gam_nil))) (rul_cons q_I_trimmed rul_nil) Try.func94 (by kernel_rfl) (by kernel_rfl) (by exact @link _ (vcFunc tab (gOf [(78, fI_inverseC), (76, fI_mulC), (77, fI_subC)]) (rOf [(99, cutRule fI_trimmedC)]) Try.f94 fI_divModC aI_divMod) (by kernel_rfl) v_I_divMod)
theorem q_I_weight : PureC Try.prog 49 fI_weightC ∧ CallOk Try.prog 49 :=
  mk (A := aI_weight) (gam_cons q_I_sub (gam_cons q_I_mul (gam_cons q_I_inverse gam_nil))) rules0 Try.func49 (by kernel_rfl) (by kernel_rfl) (by exact @link _ (vcFunc tab (gOf [(77, fI_subC), (76, fI_mulC), (78, fI_inverseC)]) R0 Try.f49 fI_weightC aI_weight) (by kernel_rfl) v_I_weight)
theorem q_I_scalePoly : PureC Try.prog 96 fI_scalePolyC ∧ CallOk Try.prog 96 :=
  mk (A := aI_scalePoly) (gam_cons q_I_mul gam_nil) (rul_cons q_I_trimmed rul_nil) Try.func96 (by kernel_rfl) (by kernel_rfl) (by exact @link _ (vcFunc tab (gOf [(76, fI_mulC)]) (rOf [(99, cutRule fI_trimmedC)]) Try.f96 fI_scalePolyC aI_scalePoly) (by kernel_rfl) v_I_scalePoly)
theorem q_I_coefficient : PureC Try.prog 101 fI_coefficientC ∧ CallOk Try.prog 101 :=
  mk (A := noA) gam_nil rules0 Try.func101 (by kernel_rfl) (by kernel_rfl) (by exact @link _ (vcFunc tab (gOf []) R0 Try.f101 fI_coefficientC noA) (by kernel_rfl) v_I_coefficient)
theorem q_I_add : PureC Try.prog 100 fI_addC ∧ CallOk Try.prog 100 :=
  mk (A := noA) gam_nil rules0 Try.func100 (by kernel_rfl) (by kernel_rfl) (by exact @link _ (vcFunc tab (gOf []) R0 Try.f100 fI_addC noA) (by kernel_rfl) v_I_add)
theorem q_I_addPoly : PureC Try.prog 95 fI_addPolyC ∧ CallOk Try.prog 95 :=
  mk (A := aI_addPoly) (gam_cons q_I_coefficient (gam_cons q_I_add gam_nil)) (rul_cons q_I_trimmed rul_nil) Try.func95 (by kernel_rfl) (by kernel_rfl) (by exact @link _ (vcFunc tab (gOf [(101, fI_coefficientC), (100, fI_addC)]) (rOf [(99, cutRule fI_trimmedC)]) Try.f95 fI_addPolyC aI_addPoly) (by kernel_rfl) v_I_addPoly)
theorem q_I_through : PureC Try.prog 82 fI_throughC ∧ CallOk Try.prog 82 :=
  mk (A := aI_through) (gam_cons q_I_vanish (gam_cons q_I_sub (gam_cons q_I_divMod (gam_cons q_I_weight (gam_cons q_I_mul (gam_cons q_I_scalePoly (gam_cons q_I_addPoly gam_nil))))))) rules0 Try.func82 (by kernel_rfl) (by kernel_rfl) (by exact @link _ (vcFunc tab (gOf [(74, fI_vanishC), (77, fI_subC), (94, fI_divModC), (49, fI_weightC), (76, fI_mulC), (96, fI_scalePolyC), (95, fI_addPolyC)]) R0 Try.f82 fI_throughC aI_through) (by kernel_rfl) v_I_through)
theorem q_I_differ : PureC Try.prog 69 fI_differC ∧ CallOk Try.prog 69 :=
  mk (A := aI_differ) gam_nil rules0 Try.func69 (by kernel_rfl) (by kernel_rfl) (by exact @link _ (vcFunc tab (gOf []) R0 Try.f69 fI_differC aI_differ) (by kernel_rfl) v_I_differ)
theorem q_I_decodeWord : PureC Try.prog 58 fI_decodeWordC ∧ CallOk Try.prog 58 :=
  mk (A := aI_decodeWord) (gam_cons q_I_codeField (gam_cons q_I_areElements (gam_cons q_I_through (gam_cons q_I_evalMany (gam_cons q_I_differ gam_nil))))) rules0 Try.func58 (by kernel_rfl) (by kernel_rfl) (by exact @link _ (vcFunc tab (gOf [(61, fI_codeFieldC), (67, fI_areElementsC), (82, fI_throughC), (59, fI_evalManyC), (69, fI_differC)]) R0 Try.f58 fI_decodeWordC aI_decodeWord) (by kernel_rfl) v_I_decodeWord)
theorem q_I_DecodeWord : PureC Try.prog 24 fI_DecodeWordC ∧ CallOk Try.prog 24 :=
  mk (A := noA) (gam_cons q_I_decodeWord gam_nil) rules0 Try.func24 (by kernel_rfl) (by kernel_rfl) (by exact @link _ (vcFunc tab (gOf [(58, fI_decodeWordC)]) R0 Try.f24 fI_DecodeWordC noA) (by kernel_rfl) v_I_DecodeWord)
theorem q_I_Blame : PureC Try.prog 26 fI_BlameC ∧ CallOk Try.prog 26 :=
  mk (A := aI_Blame) (gam_cons q_I_decodeWord (gam_cons q_I_fieldOf (gam_cons q_I_evalMany gam_nil))) rules0 Try.func26 (by kernel_rfl) (by kernel_rfl) (by exact @link _ (vcFunc tab (gOf [(58, fI_decodeWordC), (54, fI_fieldOfC), (59, fI_evalManyC)]) R0 Try.f26 fI_BlameC aI_Blame) (by kernel_rfl) v_I_Blame)
theorem q_I_Differ : PureC Try.prog 38 fI_DifferC ∧ CallOk Try.prog 38 :=
  mk (A := noA) (gam_cons q_I_differ gam_nil) rules0 Try.func38 (by kernel_rfl) (by kernel_rfl) (by exact @link _ (vcFunc tab (gOf [(69, fI_differC)]) R0 Try.f38 fI_DifferC noA) (by kernel_rfl) v_I_Differ)
-- LAW
theorem q_law : PureC Try.prog 9 (lawC [.sl (.int .u8)]) ∧ CallOk Try.prog 9 :=
  mk (A := aL_FnDecodeBent) (gam_cons q_L_big (gam_cons q_S_DrawEncodeWord (gam_cons q_S_EncodeWord (gam_cons q_L_cp (gam_cons q_I_EncodeWord (gam_cons q_L_same (gam_cons q_L_at (gam_cons q_S_Modulus (gam_cons q_S_Add (gam_cons q_I_DecodeWord (gam_cons q_I_Blame (gam_cons q_I_Differ gam_nil)))))))))))) rules0 Try.func9 (by kernel_rfl) (by kernel_rfl) (by exact @link _ (vcFunc tab (gOf [(29, fL_bigC), (30, fS_DrawEncodeWordC), (31, fS_EncodeWordC), (33, fL_cpC), (32, fI_EncodeWordC), (34, fL_sameC), (35, fL_atC), (37, fS_ModulusC), (36, fS_AddC), (24, fI_DecodeWordC), (26, fI_BlameC), (38, fI_DifferC)]) R0 Try.f9 (lawC [.sl (.int .u8)]) aL_FnDecodeBent) (by kernel_rfl) v_FnDecodeBent)
end Go.SF
