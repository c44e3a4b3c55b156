/- FnExactRunJob: the functions keep their contracts. No condition. -/
import Derived.Test.YtobmiihdfklmaaaGreatSxPBase
import Derived.Test.YtobmiihdfklmaaaGreatSxPLine
import Derived.Test.YtobmiihdfklmaaaGreatSxPIntS
import Derived.Test.YtobmiihdfklmaaaGreatSxPField
import Derived.Test.YtobmiihdfklmaaaGreatSxPMod
import Derived.Test.YtobmiihdfklmaaaGreatSxPModB
import Derived.Test.YtobmiihdfklmaaaGreatSxPPoint
import Derived.Test.YtobmiihdfklmaaaGreatSxPPoly
import Derived.Test.YtobmiihdfklmaaaGreatSxPPolyB
import Derived.Test.YtobmiihdfklmaaaGreatSxPThru
import Derived.Test.YtobmiihdfklmaaaGreatSxPPlan
import Derived.Test.YtobmiihdfklmaaaGreatSxPPlanB
import Derived.Test.YtobmiihdfklmaaaGreatSxPPlanC
import Derived.Test.YtobmiihdfklmaaaGreatSxPMark
import Derived.Test.YtobmiihdfklmaaaGreatSxPPlan2
import Derived.Test.YtobmiihdfklmaaaGreatSxPAdvB
import Derived.Test.YtobmiihdfklmaaaGreatSxPNtt
import Derived.Test.YtobmiihdfklmaaaGreatSxPNttB
import Derived.Test.YtobmiihdfklmaaaGreatSxPCyc
import Derived.Test.YtobmiihdfklmaaaGreatSxPTrfT
import Derived.Test.YtobmiihdfklmaaaGreatSxPTrf
import Derived.Test.YtobmiihdfklmaaaGreatSxPJobT
import Derived.Test.YtobmiihdfklmaaaGreatSxPTrfB
import Derived.Test.YtobmiihdfklmaaaGreatSxPThruB
import Derived.Test.YtobmiihdfklmaaaGreatSxPAdv
import Derived.Test.YtobmiihdfklmaaaGreatSxPTrfC
import Derived.Test.YtobmiihdfklmaaaGreatSxPFerm
import Derived.Test.YtobmiihdfklmaaaGreatSxPDecB
import Derived.Test.YtobmiihdfklmaaaGreatSxPDivT
import Derived.Test.YtobmiihdfklmaaaGreatSxPJob
import Derived.Test.YtobmiihdfklmaaaGreatSxPJobB
import Derived.Test.YtobmiihdfklmaaaGreatSxPJobC
import Derived.Test.YtobmiihdfklmaaaGreatSxPJobD
import Derived.Test.YtobmiihdfklmaaaGreatSxPDec
import Derived.Test.YtobmiihdfklmaaaGreatSxPCode
import Derived.Test.YtobmiihdfklmaaaGreatSxPWord
import Derived.Test.YtobmiihdfklmaaaGreatSxPJobE
import Derived.Test.YtobmiihdfklmaaaGreatSxPJobF
import Derived.Test.YtobmiihdfklmaaaGreatSxPJobG
import Derived.Test.YtobmiihdfklmaaaGreatSxPJobH
import Derived.Test.YtobmiihdfklmaaaGreatSxPJobI
import Derived.Test.YtobmiihdfklmaaaGreatSxPFnExactRunJob
import Derived.Test.YtobmiihdfklmaaaGreatSxTab
import Derived.Test.YtobmiihdfklmaaaGreatChecked
import Derived.KernelRfl
namespace Go.SF
open Go.SX Go.Proofs
set_option maxRecDepth 100000
set_option linter.unusedVariables false
theorem rules0 {P : Program} : RulesOk P R0 := fun f r h _ => by cases h
theorem gam_nil {P : Program} : GamOk P (gOf []) := fun f c h => by cases h
theorem gam_cons {P : Program} {k : Nat} {c : PC} {r : List (Nat × PC)} (h : PureC P k c ∧ CallOk P k) (hr : GamOk P (gOf r)) : GamOk P (gOf ((k, c) :: r)) := by
  intro f c' h'
  unfold gOf at h'
  split at h'
  · rename_i e
    injection h' with h'
    subst h'; subst e
    exact h
  · exact hr f c' h'
theorem rul_nil {P : Program} : RulesOk P (rOf []) := fun f c h _ => by cases h
theorem rul_cons {P : Program} {k : Nat} {c : Rule} {r : List (Nat × Rule)} (h : RuleOk P k c ∧ CallOk P k) (hr : RulesOk P (rOf r)) : RulesOk P (rOf ((k, c) :: r)) := by
  intro f c' h' hne
  unfold rOf at h'
  split at h'
  · rename_i e
    injection h' with h'
    subst h'; subst e
    exact h
  · exact hr f c' h' hne
theorem rul_tell {P : Program} {r : List (Nat × Rule)} (hr : RulesOk P (rOf r)) : RulesOk P (rOf ((1000000, tellR) :: r)) := by
  intro f c' h' hne
  unfold rOf at h'
  split at h'
  · rename_i e
    exact absurd e hne
  · exact hr f c' h' hne
theorem tabOk : TabOk Tryz.prog tab := tabOk_of (by kernel_rfl)
theorem mixed : Tryz.prog.follows .mixedOrders = true := by kernel_rfl
theorem mk {Γ : FuncId → Option PC} {f : FuncId} {fn : Func} {c : PC} {A : Tup c.ts → Nat → Option Ann} {R : FuncId → Option Rule} (hΓ : GamOk Tryz.prog Γ) (hR : RulesOk Tryz.prog R) (hf : Tryz.prog.funcs[f]? = some fn) (h1 : (fn.name == "runtime.NumGoroutine") = false) (h2 : fn.body.isNone = false)
    (h : vcFunc tab Γ R fn c A) : PureC Tryz.prog f c ∧ CallOk Tryz.prog f := ⟨vcFunc_pure mixed tabOk hΓ hR hf h, fn, hf, h1, h2⟩
theorem mkM {Γ : FuncId → Option PC} {R : FuncId → Option Rule} {f : FuncId} {fn : Func} {c : MC} {A : c.t.den → Int → Nat → Option Ann} (hΓ : GamOk Tryz.prog Γ) (hR : RulesOk Tryz.prog R) (hf : Tryz.prog.funcs[f]? = some fn) (h1 : (fn.name == "runtime.NumGoroutine") = false) (h2 : fn.body.isNone = false)
    (hl : c.t.lendable = true) (h : vcMut tab Γ R fn c A) : RuleOk Tryz.prog f (ruleOf c) ∧ CallOk Tryz.prog f := ⟨vcMut_rule mixed tabOk hΓ hR hf hl h, fn, hf, h1, h2⟩
theorem mkCut {Γ : FuncId → Option PC} {R : FuncId → Option Rule} {f : FuncId} {fn : Func} {c : CC} {A : List c.e.den → Nat → Option Ann} (hΓ : GamOk Tryz.prog Γ) (hR : RulesOk Tryz.prog R) (hf : Tryz.prog.funcs[f]? = some fn) (h1 : (fn.name == "runtime.NumGoroutine") = false) (h2 : fn.body.isNone = false)
    (hl : c.e.flat = true) (h : vcCut tab Γ R fn c A) : RuleOk Tryz.prog f (cutRule c) ∧ CallOk Tryz.prog f := ⟨vcCut_rule mixed tabOk hΓ hR hf hl h, fn, hf, h1, h2⟩
theorem mkBox {Γ : FuncId → Option PC} {R : FuncId → Option Rule} {f : FuncId} {fn : Func} {c : BC} {A : c.t.den → Tup c.ts → Nat → Option Ann} (hΓ : GamOk Tryz.prog Γ) (hR : RulesOk Tryz.prog R) (hf : Tryz.prog.funcs[f]? = some fn) (h1 : (fn.name == "runtime.NumGoroutine") = false) (h2 : fn.body.isNone = false)
    (h : vcBox tab Γ R fn c A) : RuleOk Tryz.prog f (boxRule c) ∧ CallOk Tryz.prog f := ⟨vcBox_rule mixed tabOk hΓ hR hf h, fn, hf, h1, h2⟩
theorem mkNew {Γ : FuncId → Option PC} {R : FuncId → Option Rule} {f : FuncId} {fn : Func} {c : NC} {A : Tup c.ts → Nat → Option Ann} (hΓ : GamOk Tryz.prog Γ) (hR : RulesOk Tryz.prog R) (hf : Tryz.prog.funcs[f]? = some fn) (h1 : (fn.name == "runtime.NumGoroutine") = false) (h2 : fn.body.isNone = false)
    (h : vcNew tab Γ R fn c A) : RuleOk Tryz.prog f (newRule c) ∧ CallOk Tryz.prog f := ⟨vcNew_rule mixed tabOk hΓ hR hf h, fn, hf, h1, h2⟩
theorem link {p q : Prop} (h : p = q) (hp : p) : q := h ▸ hp
theorem q_L_szIntS : PureC Tryz.prog 24 fL_szIntSC ∧ CallOk Tryz.prog 24 :=
  mk (A := noA) gam_nil rules0 Tryz.func24 (by kernel_rfl) (by kernel_rfl) (by exact @link _ (vcFunc tab (gOf []) R0 Tryz.f24 fL_szIntSC noA) (by kernel_rfl) v_L_szIntS)
theorem q_L_szJob : PureC Tryz.prog 6 fL_szJobC ∧ CallOk Tryz.prog 6 :=
  mk (A := noA) (gam_cons q_L_szIntS gam_nil) rules0 Tryz.func6 (by kernel_rfl) (by kernel_rfl) (by exact @link _ (vcFunc tab (gOf [(24, fL_szIntSC)]) R0 Tryz.f6 fL_szJobC noA) (by kernel_rfl) v_L_szJob)
theorem q_L_toIntS : PureC Tryz.prog 41 fL_toIntSC ∧ CallOk Tryz.prog 41 :=
  mk (A := aL_toIntS) gam_nil rules0 Tryz.func41 (by kernel_rfl) (by kernel_rfl) (by exact @link _ (vcFunc tab (gOf []) R0 Tryz.f41 fL_toIntSC aL_toIntS) (by kernel_rfl) v_L_toIntS)
theorem q_L_toJob : PureC Tryz.prog 8 fL_toJobC ∧ CallOk Tryz.prog 8 :=
  mk (A := noA) (gam_cons q_L_toIntS gam_nil) rules0 Tryz.func8 (by kernel_rfl) (by kernel_rfl) (by exact @link _ (vcFunc tab (gOf [(41, fL_toIntSC)]) R0 Tryz.f8 fL_toJobC noA) (by kernel_rfl) v_L_toJob)
theorem q_S_l01In : PureC Tryz.prog 63 fS_l01InC ∧ CallOk Tryz.prog 63 :=
  mk (A := noA) gam_nil rules0 Tryz.func63 (by kernel_rfl) (by kernel_rfl) (by exact @link _ (vcFunc tab (gOf []) R0 Tryz.f63 fS_l01InC noA) (by kernel_rfl) v_S_l01In)
theorem q_S_Modulus : PureC Tryz.prog 64 fS_ModulusC ∧ CallOk Tryz.prog 64 :=
  mk (A := noA) gam_nil rules0 Tryz.func64 (by kernel_rfl) (by kernel_rfl) (by exact @link _ (vcFunc tab (gOf []) R0 Tryz.f64 fS_ModulusC noA) (by kernel_rfl) v_S_Modulus)
theorem q_S_l10Words : PureC Tryz.prog 65 fS_l10WordsC ∧ CallOk Tryz.prog 65 :=
  mk (A := aS_l10Words) (gam_cons q_S_l01In gam_nil) rules0 Tryz.func65 (by kernel_rfl) (by kernel_rfl) (by exact @link _ (vcFunc tab (gOf [(63, fS_l01InC)]) R0 Tryz.f65 fS_l10WordsC aS_l10Words) (by kernel_rfl) v_S_l10Words)
theorem q_S_l01Has : PureC Tryz.prog 124 fS_l01HasC ∧ CallOk Tryz.prog 124 :=
  mk (A := aS_l01Has) gam_nil rules0 Tryz.func124 (by kernel_rfl) (by kernel_rfl) (by exact @link _ (vcFunc tab (gOf []) R0 Tryz.f124 fS_l01HasC aS_l01Has) (by kernel_rfl) v_S_l01Has)
theorem q_S_l10UsesB : PureC Tryz.prog 66 fS_l10UsesBC ∧ CallOk Tryz.prog 66 :=
  mk (A := noA) (gam_cons q_S_l01Has gam_nil) rules0 Tryz.func66 (by kernel_rfl) (by kernel_rfl) (by exact @link _ (vcFunc tab (gOf [(124, fS_l01HasC)]) R0 Tryz.f66 fS_l10UsesBC noA) (by kernel_rfl) v_S_l10UsesB)
theorem q_S_JobOk : PureC Tryz.prog 25 fS_JobOkC ∧ CallOk Tryz.prog 25 :=
  mk (A := noA) (gam_cons q_S_l01In (gam_cons q_S_Modulus (gam_cons q_S_l10Words (gam_cons q_S_l10UsesB gam_nil)))) rules0 Tryz.func25 (by kernel_rfl) (by kernel_rfl) (by exact @link _ (vcFunc tab (gOf [(63, fS_l01InC), (64, fS_ModulusC), (65, fS_l10WordsC), (66, fS_l10UsesBC)]) R0 Tryz.f25 fS_JobOkC noA) (by kernel_rfl) v_S_JobOk)
theorem q_S_LogOf : PureC Tryz.prog 67 fS_LogOfC ∧ CallOk Tryz.prog 67 :=
  mk (A := aS_LogOf) gam_nil rules0 Tryz.func67 (by kernel_rfl) (by kernel_rfl) (by exact @link _ (vcFunc tab (gOf []) R0 Tryz.f67 fS_LogOfC aS_LogOf) (by kernel_rfl) v_S_LogOf)
theorem q_S_TwoPower : PureC Tryz.prog 68 fS_TwoPowerC ∧ CallOk Tryz.prog 68 :=
  mk (A := aS_TwoPower) (gam_cons q_S_Modulus gam_nil) rules0 Tryz.func68 (by kernel_rfl) (by kernel_rfl) (by exact @link _ (vcFunc tab (gOf [(64, fS_ModulusC)]) R0 Tryz.f68 fS_TwoPowerC aS_TwoPower) (by kernel_rfl) v_S_TwoPower)
theorem q_S_l03Elements : PureC Tryz.prog 36 fS_l03ElementsC ∧ CallOk Tryz.prog 36 :=
  mk (A := aS_l03Elements) (gam_cons q_S_Modulus (gam_cons q_S_l01In gam_nil)) rules0 Tryz.func36 (by kernel_rfl) (by kernel_rfl) (by exact @link _ (vcFunc tab (gOf [(64, fS_ModulusC), (63, fS_l01InC)]) R0 Tryz.f36 fS_l03ElementsC aS_l03Elements) (by kernel_rfl) v_S_l03Elements)
theorem q_S_VectorOk : PureC Tryz.prog 26 fS_VectorOkC ∧ CallOk Tryz.prog 26 :=
  mk (A := noA) (gam_cons q_S_LogOf (gam_cons q_S_TwoPower (gam_cons q_S_l03Elements gam_nil))) rules0 Tryz.func26 (by kernel_rfl) (by kernel_rfl) (by exact @link _ (vcFunc tab (gOf [(67, fS_LogOfC), (68, fS_TwoPowerC), (36, fS_l03ElementsC)]) R0 Tryz.f26 fS_VectorOkC noA) (by kernel_rfl) v_S_VectorOk)
theorem q_S_Generator : PureC Tryz.prog 126 fS_GeneratorC ∧ CallOk Tryz.prog 126 :=
  mk (A := noA) gam_nil rules0 Tryz.func126 (by kernel_rfl) (by kernel_rfl) (by exact @link _ (vcFunc tab (gOf []) R0 Tryz.f126 fS_GeneratorC noA) (by kernel_rfl) v_S_Generator)
theorem q_S_Reduce : PureC Tryz.prog 127 fS_ReduceC ∧ CallOk Tryz.prog 127 :=
  mk (A := noA) (gam_cons q_S_Modulus gam_nil) rules0 Tryz.func127 (by kernel_rfl) (by kernel_rfl) (by exact @link _ (vcFunc tab (gOf [(64, fS_ModulusC)]) R0 Tryz.f127 fS_ReduceC noA) (by kernel_rfl) v_S_Reduce)
theorem q_S_Power : PureC Tryz.prog 125 fS_PowerC ∧ CallOk Tryz.prog 125 :=
  mk (A := aS_Power) (gam_cons q_S_Modulus (gam_cons q_S_Reduce gam_nil)) rules0 Tryz.func125 (by kernel_rfl) (by kernel_rfl) (by exact @link _ (vcFunc tab (gOf [(64, fS_ModulusC), (127, fS_ReduceC)]) R0 Tryz.f125 fS_PowerC aS_Power) (by kernel_rfl) v_S_Power)
theorem q_S_RootOf : PureC Tryz.prog 70 fS_RootOfC ∧ CallOk Tryz.prog 70 :=
  mk (A := noA) (gam_cons q_S_Modulus (gam_cons q_S_TwoPower (gam_cons q_S_l01In (gam_cons q_S_Generator (gam_cons q_S_Power gam_nil))))) rules0 Tryz.func70 (by kernel_rfl) (by kernel_rfl) (by exact @link _ (vcFunc tab (gOf [(64, fS_ModulusC), (68, fS_TwoPowerC), (63, fS_l01InC), (126, fS_GeneratorC), (125, fS_PowerC)]) R0 Tryz.f70 fS_RootOfC noA) (by kernel_rfl) v_S_RootOf)
theorem q_S_l04Sum : PureC Tryz.prog 69 fS_l04SumC ∧ CallOk Tryz.prog 69 :=
  mk (A := aS_l04Sum) (gam_cons q_S_Modulus gam_nil) rules0 Tryz.func69 (by kernel_rfl) (by kernel_rfl) (by exact @link _ (vcFunc tab (gOf [(64, fS_ModulusC)]) R0 Tryz.f69 fS_l04SumC aS_l04Sum) (by kernel_rfl) v_S_l04Sum)
theorem q_S_Forward : PureC Tryz.prog 27 fS_ForwardC ∧ CallOk Tryz.prog 27 :=
  mk (A := noA) (gam_cons q_S_VectorOk (gam_cons q_S_LogOf (gam_cons q_S_RootOf (gam_cons q_S_l04Sum gam_nil)))) rules0 Tryz.func27 (by kernel_rfl) (by kernel_rfl) (by exact @link _ (vcFunc tab (gOf [(26, fS_VectorOkC), (67, fS_LogOfC), (70, fS_RootOfC), (69, fS_l04SumC)]) R0 Tryz.f27 fS_ForwardC noA) (by kernel_rfl) v_S_Forward)
theorem q_S_Inverse : PureC Tryz.prog 71 fS_InverseC ∧ CallOk Tryz.prog 71 :=
  mk (A := noA) (gam_cons q_S_Power gam_nil) rules0 Tryz.func71 (by kernel_rfl) (by kernel_rfl) (by exact @link _ (vcFunc tab (gOf [(125, fS_PowerC)]) R0 Tryz.f71 fS_InverseC noA) (by kernel_rfl) v_S_Inverse)
theorem q_S_Mul : PureC Tryz.prog 72 fS_MulC ∧ CallOk Tryz.prog 72 :=
  mk (A := noA) (gam_cons q_S_Modulus (gam_cons q_S_Reduce gam_nil)) rules0 Tryz.func72 (by kernel_rfl) (by kernel_rfl) (by exact @link _ (vcFunc tab (gOf [(64, fS_ModulusC), (127, fS_ReduceC)]) R0 Tryz.f72 fS_MulC noA) (by kernel_rfl) v_S_Mul)
theorem q_S_Backward : PureC Tryz.prog 28 fS_BackwardC ∧ CallOk Tryz.prog 28 :=
  mk (A := aS_Backward) (gam_cons q_S_VectorOk (gam_cons q_S_LogOf (gam_cons q_S_RootOf (gam_cons q_S_Inverse (gam_cons q_S_l04Sum (gam_cons q_S_Mul gam_nil)))))) rules0 Tryz.func28 (by kernel_rfl) (by kernel_rfl) (by exact @link _ (vcFunc tab (gOf [(26, fS_VectorOkC), (67, fS_LogOfC), (70, fS_RootOfC), (71, fS_InverseC), (69, fS_l04SumC), (72, fS_MulC)]) R0 Tryz.f28 fS_BackwardC aS_Backward) (by kernel_rfl) v_S_Backward)
theorem q_S_l04Two : PureC Tryz.prog 29 fS_l04TwoC ∧ CallOk Tryz.prog 29 :=
  mk (A := noA) (gam_cons q_S_VectorOk gam_nil) rules0 Tryz.func29 (by kernel_rfl) (by kernel_rfl) (by exact @link _ (vcFunc tab (gOf [(26, fS_VectorOkC)]) R0 Tryz.f29 fS_l04TwoC noA) (by kernel_rfl) v_S_l04Two)
theorem q_S_Cyclic : PureC Tryz.prog 30 fS_CyclicC ∧ CallOk Tryz.prog 30 :=
  mk (A := aS_Cyclic) (gam_cons q_S_l04Two (gam_cons q_S_Modulus gam_nil)) rules0 Tryz.func30 (by kernel_rfl) (by kernel_rfl) (by exact @link _ (vcFunc tab (gOf [(29, fS_l04TwoC), (64, fS_ModulusC)]) R0 Tryz.f30 fS_CyclicC aS_Cyclic) (by kernel_rfl) v_S_Cyclic)
theorem q_S_Twisted : PureC Tryz.prog 31 fS_TwistedC ∧ CallOk Tryz.prog 31 :=
  mk (A := aS_Twisted) (gam_cons q_S_l04Two (gam_cons q_S_Modulus gam_nil)) rules0 Tryz.func31 (by kernel_rfl) (by kernel_rfl) (by exact @link _ (vcFunc tab (gOf [(29, fS_l04TwoC), (64, fS_ModulusC)]) R0 Tryz.f31 fS_TwistedC aS_Twisted) (by kernel_rfl) v_S_Twisted)
theorem q_S_PolyOk : PureC Tryz.prog 35 fS_PolyOkC ∧ CallOk Tryz.prog 35 :=
  mk (A := noA) (gam_cons q_S_l03Elements gam_nil) rules0 Tryz.func35 (by kernel_rfl) (by kernel_rfl) (by exact @link _ (vcFunc tab (gOf [(36, fS_l03ElementsC)]) R0 Tryz.f35 fS_PolyOkC noA) (by kernel_rfl) v_S_PolyOk)
theorem q_S_l01Copy : PureC Tryz.prog 133 fS_l01CopyC ∧ CallOk Tryz.prog 133 :=
  mk (A := aS_l01Copy) gam_nil rules0 Tryz.func133 (by kernel_rfl) (by kernel_rfl) (by exact @link _ (vcFunc tab (gOf []) R0 Tryz.f133 fS_l01CopyC aS_l01Copy) (by kernel_rfl) v_S_l01Copy)
theorem q_S_l03Cut : PureC Tryz.prog 128 fS_l03CutC ∧ CallOk Tryz.prog 128 :=
  mk (A := aS_l03Cut) (gam_cons q_S_l01Copy gam_nil) rules0 Tryz.func128 (by kernel_rfl) (by kernel_rfl) (by exact @link _ (vcFunc tab (gOf [(133, fS_l01CopyC)]) R0 Tryz.f128 fS_l03CutC aS_l03Cut) (by kernel_rfl) v_S_l03Cut)
theorem q_S_l03Mul : PureC Tryz.prog 73 fS_l03MulC ∧ CallOk Tryz.prog 73 :=
  mk (A := aS_l03Mul) (gam_cons q_S_Modulus (gam_cons q_S_l03Cut gam_nil)) rules0 Tryz.func73 (by kernel_rfl) (by kernel_rfl) (by exact @link _ (vcFunc tab (gOf [(64, fS_ModulusC), (128, fS_l03CutC)]) R0 Tryz.f73 fS_l03MulC aS_l03Mul) (by kernel_rfl) v_S_l03Mul)
theorem q_S_MulPoly : PureC Tryz.prog 32 fS_MulPolyC ∧ CallOk Tryz.prog 32 :=
  mk (A := noA) (gam_cons q_S_PolyOk (gam_cons q_S_l03Mul gam_nil)) rules0 Tryz.func32 (by kernel_rfl) (by kernel_rfl) (by exact @link _ (vcFunc tab (gOf [(35, fS_PolyOkC), (73, fS_l03MulC)]) R0 Tryz.f32 fS_MulPolyC noA) (by kernel_rfl) v_S_MulPoly)
theorem q_S_l05Terms : PureC Tryz.prog 74 fS_l05TermsC ∧ CallOk Tryz.prog 74 :=
  mk (A := aS_l05Terms) (gam_cons q_S_l01In gam_nil) rules0 Tryz.func74 (by kernel_rfl) (by kernel_rfl) (by exact @link _ (vcFunc tab (gOf [(63, fS_l01InC)]) R0 Tryz.f74 fS_l05TermsC aS_l05Terms) (by kernel_rfl) v_S_l05Terms)
theorem q_S_ConvExact : PureC Tryz.prog 33 fS_ConvExactC ∧ CallOk Tryz.prog 33 :=
  mk (A := aS_ConvExact) (gam_cons q_S_l05Terms gam_nil) rules0 Tryz.func33 (by kernel_rfl) (by kernel_rfl) (by exact @link _ (vcFunc tab (gOf [(74, fS_l05TermsC)]) R0 Tryz.f33 fS_ConvExactC aS_ConvExact) (by kernel_rfl) v_S_ConvExact)
theorem q_S_SeriesOk : PureC Tryz.prog 75 fS_SeriesOkC ∧ CallOk Tryz.prog 75 :=
  mk (A := noA) (gam_cons q_S_l01In (gam_cons q_S_l03Elements gam_nil)) rules0 Tryz.func75 (by kernel_rfl) (by kernel_rfl) (by exact @link _ (vcFunc tab (gOf [(63, fS_l01InC), (36, fS_l03ElementsC)]) R0 Tryz.f75 fS_SeriesOkC noA) (by kernel_rfl) v_S_SeriesOk)
theorem q_S_Sub : PureC Tryz.prog 76 fS_SubC ∧ CallOk Tryz.prog 76 :=
  mk (A := noA) (gam_cons q_S_Modulus (gam_cons q_S_Reduce gam_nil)) rules0 Tryz.func76 (by kernel_rfl) (by kernel_rfl) (by exact @link _ (vcFunc tab (gOf [(64, fS_ModulusC), (127, fS_ReduceC)]) R0 Tryz.f76 fS_SubC noA) (by kernel_rfl) v_S_Sub)
theorem q_S_SeriesInv : PureC Tryz.prog 34 fS_SeriesInvC ∧ CallOk Tryz.prog 34 :=
  mk (A := aS_SeriesInv) (gam_cons q_S_SeriesOk (gam_cons q_S_Inverse (gam_cons q_S_Mul (gam_cons q_S_Sub gam_nil)))) rules0 Tryz.func34 (by kernel_rfl) (by kernel_rfl) (by exact @link _ (vcFunc tab (gOf [(75, fS_SeriesOkC), (71, fS_InverseC), (72, fS_MulC), (76, fS_SubC)]) R0 Tryz.f34 fS_SeriesInvC aS_SeriesInv) (by kernel_rfl) v_S_SeriesInv)
theorem q_S_Add : PureC Tryz.prog 129 fS_AddC ∧ CallOk Tryz.prog 129 :=
  mk (A := noA) (gam_cons q_S_Modulus (gam_cons q_S_Reduce gam_nil)) rules0 Tryz.func129 (by kernel_rfl) (by kernel_rfl) (by exact @link _ (vcFunc tab (gOf [(64, fS_ModulusC), (127, fS_ReduceC)]) R0 Tryz.f129 fS_AddC noA) (by kernel_rfl) v_S_Add)
theorem q_S_EvalPoly : PureC Tryz.prog 77 fS_EvalPolyC ∧ CallOk Tryz.prog 77 :=
  mk (A := aS_EvalPoly) (gam_cons q_S_PolyOk (gam_cons q_S_Power (gam_cons q_S_Mul (gam_cons q_S_Add gam_nil)))) rules0 Tryz.func77 (by kernel_rfl) (by kernel_rfl) (by exact @link _ (vcFunc tab (gOf [(35, fS_PolyOkC), (125, fS_PowerC), (72, fS_MulC), (129, fS_AddC)]) R0 Tryz.f77 fS_EvalPolyC aS_EvalPoly) (by kernel_rfl) v_S_EvalPoly)
theorem q_S_EvalMany : PureC Tryz.prog 37 fS_EvalManyC ∧ CallOk Tryz.prog 37 :=
  mk (A := aS_EvalMany) (gam_cons q_S_PolyOk (gam_cons q_S_l03Elements (gam_cons q_S_EvalPoly gam_nil))) rules0 Tryz.func37 (by kernel_rfl) (by kernel_rfl) (by exact @link _ (vcFunc tab (gOf [(35, fS_PolyOkC), (36, fS_l03ElementsC), (77, fS_EvalPolyC)]) R0 Tryz.f37 fS_EvalManyC aS_EvalMany) (by kernel_rfl) v_S_EvalMany)
theorem q_S_PointsOk : PureC Tryz.prog 78 fS_PointsOkC ∧ CallOk Tryz.prog 78 :=
  mk (A := aS_PointsOk) (gam_cons q_S_l01In (gam_cons q_S_l03Elements (gam_cons q_S_l01Has gam_nil))) rules0 Tryz.func78 (by kernel_rfl) (by kernel_rfl) (by exact @link _ (vcFunc tab (gOf [(63, fS_l01InC), (36, fS_l03ElementsC), (124, fS_l01HasC)]) R0 Tryz.f78 fS_PointsOkC aS_PointsOk) (by kernel_rfl) v_S_PointsOk)
theorem q_S_l07Vanish : PureC Tryz.prog 132 fS_l07VanishC ∧ CallOk Tryz.prog 132 :=
  mk (A := aS_l07Vanish) (gam_cons q_S_Sub (gam_cons q_S_l03Mul gam_nil)) rules0 Tryz.func132 (by kernel_rfl) (by kernel_rfl) (by exact @link _ (vcFunc tab (gOf [(76, fS_SubC), (73, fS_l03MulC)]) R0 Tryz.f132 fS_l07VanishC aS_l07Vanish) (by kernel_rfl) v_S_l07Vanish)
theorem q_S_ScalePoly : PureC Tryz.prog 131 fS_ScalePolyC ∧ CallOk Tryz.prog 131 :=
  mk (A := aS_ScalePoly) (gam_cons q_S_PolyOk (gam_cons q_S_Mul (gam_cons q_S_l03Cut gam_nil))) rules0 Tryz.func131 (by kernel_rfl) (by kernel_rfl) (by exact @link _ (vcFunc tab (gOf [(35, fS_PolyOkC), (72, fS_MulC), (128, fS_l03CutC)]) R0 Tryz.f131 fS_ScalePolyC aS_ScalePoly) (by kernel_rfl) v_S_ScalePoly)
theorem q_S_l03At : PureC Tryz.prog 169 fS_l03AtC ∧ CallOk Tryz.prog 169 :=
  mk (A := noA) gam_nil rules0 Tryz.func169 (by kernel_rfl) (by kernel_rfl) (by exact @link _ (vcFunc tab (gOf []) R0 Tryz.f169 fS_l03AtC noA) (by kernel_rfl) v_S_l03At)
theorem q_S_AddPoly : PureC Tryz.prog 130 fS_AddPolyC ∧ CallOk Tryz.prog 130 :=
  mk (A := aS_AddPoly) (gam_cons q_S_PolyOk (gam_cons q_S_l03At (gam_cons q_S_Add (gam_cons q_S_l03Cut gam_nil)))) rules0 Tryz.func130 (by kernel_rfl) (by kernel_rfl) (by exact @link _ (vcFunc tab (gOf [(35, fS_PolyOkC), (169, fS_l03AtC), (129, fS_AddC), (128, fS_l03CutC)]) R0 Tryz.f130 fS_AddPolyC aS_AddPoly) (by kernel_rfl) v_S_AddPoly)
theorem q_S_l07Through : PureC Tryz.prog 79 fS_l07ThroughC ∧ CallOk Tryz.prog 79 :=
  mk (A := aS_l07Through) (gam_cons q_S_Sub (gam_cons q_S_Mul (gam_cons q_S_Inverse (gam_cons q_S_l07Vanish (gam_cons q_S_ScalePoly (gam_cons q_S_AddPoly (gam_cons q_S_l03Cut gam_nil))))))) rules0 Tryz.func79 (by kernel_rfl) (by kernel_rfl) (by exact @link _ (vcFunc tab (gOf [(76, fS_SubC), (72, fS_MulC), (71, fS_InverseC), (132, fS_l07VanishC), (131, fS_ScalePolyC), (130, fS_AddPolyC), (128, fS_l03CutC)]) R0 Tryz.f79 fS_l07ThroughC aS_l07Through) (by kernel_rfl) v_S_l07Through)
theorem q_S_Interpolate : PureC Tryz.prog 38 fS_InterpolateC ∧ CallOk Tryz.prog 38 :=
  mk (A := noA) (gam_cons q_S_PointsOk (gam_cons q_S_l03Elements (gam_cons q_S_l07Through gam_nil))) rules0 Tryz.func38 (by kernel_rfl) (by kernel_rfl) (by exact @link _ (vcFunc tab (gOf [(78, fS_PointsOkC), (36, fS_l03ElementsC), (79, fS_l07ThroughC)]) R0 Tryz.f38 fS_InterpolateC noA) (by kernel_rfl) v_S_Interpolate)
theorem q_S_l03DivMod : PureC Tryz.prog 80 fS_l03DivModC ∧ CallOk Tryz.prog 80 :=
  mk (A := aS_l03DivMod) (gam_cons q_S_l01Copy (gam_cons q_S_Inverse (gam_cons q_S_Mul (gam_cons q_S_Sub (gam_cons q_S_l03Cut gam_nil))))) rules0 Tryz.func80 (by kernel_rfl) (by kernel_rfl) (by exact @link _ (vcFunc tab (gOf [(133, fS_l01CopyC), (71, fS_InverseC), (72, fS_MulC), (76, fS_SubC), (128, fS_l03CutC)]) R0 Tryz.f80 fS_l03DivModC aS_l03DivMod) (by kernel_rfl) v_S_l03DivMod)
theorem q_S_DivMod : PureC Tryz.prog 39 fS_DivModC ∧ CallOk Tryz.prog 39 :=
  mk (A := noA) (gam_cons q_S_PolyOk (gam_cons q_S_l03DivMod gam_nil)) rules0 Tryz.func39 (by kernel_rfl) (by kernel_rfl) (by exact @link _ (vcFunc tab (gOf [(35, fS_PolyOkC), (80, fS_l03DivModC)]) R0 Tryz.f39 fS_DivModC noA) (by kernel_rfl) v_S_DivMod)
theorem q_S_l07Code : PureC Tryz.prog 81 fS_l07CodeC ∧ CallOk Tryz.prog 81 :=
  mk (A := noA) (gam_cons q_S_PointsOk (gam_cons q_S_l01In gam_nil)) rules0 Tryz.func81 (by kernel_rfl) (by kernel_rfl) (by exact @link _ (vcFunc tab (gOf [(78, fS_PointsOkC), (63, fS_l01InC)]) R0 Tryz.f81 fS_l07CodeC noA) (by kernel_rfl) v_S_l07Code)
theorem q_S_EncodeWord : PureC Tryz.prog 83 fS_EncodeWordC ∧ CallOk Tryz.prog 83 :=
  mk (A := aS_EncodeWord) (gam_cons q_S_l07Code (gam_cons q_S_l03Elements (gam_cons q_S_l03Cut (gam_cons q_S_EvalPoly gam_nil)))) rules0 Tryz.func83 (by kernel_rfl) (by kernel_rfl) (by exact @link _ (vcFunc tab (gOf [(81, fS_l07CodeC), (36, fS_l03ElementsC), (128, fS_l03CutC), (77, fS_EvalPolyC)]) R0 Tryz.f83 fS_EncodeWordC aS_EncodeWord) (by kernel_rfl) v_S_EncodeWord)
theorem q_S_Differ : PureC Tryz.prog 82 fS_DifferC ∧ CallOk Tryz.prog 82 :=
  mk (A := aS_Differ) gam_nil rules0 Tryz.func82 (by kernel_rfl) (by kernel_rfl) (by exact @link _ (vcFunc tab (gOf []) R0 Tryz.f82 fS_DifferC aS_Differ) (by kernel_rfl) v_S_Differ)
theorem q_S_DecodeWord : PureC Tryz.prog 40 fS_DecodeWordC ∧ CallOk Tryz.prog 40 :=
  mk (A := aS_DecodeWord) (gam_cons q_S_l07Code (gam_cons q_S_l03Elements (gam_cons q_S_l07Through (gam_cons q_S_EncodeWord (gam_cons q_S_Differ gam_nil))))) rules0 Tryz.func40 (by kernel_rfl) (by kernel_rfl) (by exact @link _ (vcFunc tab (gOf [(81, fS_l07CodeC), (36, fS_l03ElementsC), (79, fS_l07ThroughC), (83, fS_EncodeWordC), (82, fS_DifferC)]) R0 Tryz.f40 fS_DecodeWordC aS_DecodeWord) (by kernel_rfl) v_S_DecodeWord)
theorem q_S_RunJob : PureC Tryz.prog 7 fS_RunJobC ∧ CallOk Tryz.prog 7 :=
  mk (A := noA) (gam_cons q_S_JobOk (gam_cons q_S_VectorOk (gam_cons q_S_Forward (gam_cons q_S_Backward (gam_cons q_S_l04Two (gam_cons q_S_Cyclic (gam_cons q_S_Twisted (gam_cons q_S_MulPoly (gam_cons q_S_ConvExact (gam_cons q_S_SeriesInv (gam_cons q_S_PolyOk (gam_cons q_S_l03Elements (gam_cons q_S_EvalMany (gam_cons q_S_Interpolate (gam_cons q_S_DivMod (gam_cons q_S_DecodeWord gam_nil)))))))))))))))) rules0 Tryz.func7 (by kernel_rfl) (by kernel_rfl) (by exact @link _ (vcFunc tab (gOf [(25, fS_JobOkC), (26, fS_VectorOkC), (27, fS_ForwardC), (28, fS_BackwardC), (29, fS_l04TwoC), (30, fS_CyclicC), (31, fS_TwistedC), (32, fS_MulPolyC), (33, fS_ConvExactC), (34, fS_SeriesInvC), (35, fS_PolyOkC), (36, fS_l03ElementsC), (37, fS_EvalManyC), (38, fS_InterpolateC), (39, fS_DivModC), (40, fS_DecodeWordC)]) R0 Tryz.f7 fS_RunJobC noA) (by kernel_rfl) v_S_RunJob)
theorem q_I_fieldOf : PureC Tryz.prog 134 fI_fieldOfC ∧ CallOk Tryz.prog 134 :=
  mk (A := noA) gam_nil rules0 Tryz.func134 (by kernel_rfl) (by kernel_rfl) (by exact @link _ (vcFunc tab (gOf []) R0 Tryz.f134 fI_fieldOfC noA) (by kernel_rfl) v_I_fieldOf)
theorem q_I_areWords : PureC Tryz.prog 135 fI_areWordsC ∧ CallOk Tryz.prog 135 :=
  mk (A := aI_areWords) gam_nil rules0 Tryz.func135 (by kernel_rfl) (by kernel_rfl) (by exact @link _ (vcFunc tab (gOf []) R0 Tryz.f135 fI_areWordsC aI_areWords) (by kernel_rfl) v_I_areWords)
theorem q_I_usesB : PureC Tryz.prog 136 fI_usesBC ∧ CallOk Tryz.prog 136 :=
  mk (A := noA) gam_nil rules0 Tryz.func136 (by kernel_rfl) (by kernel_rfl) (by exact @link _ (vcFunc tab (gOf []) R0 Tryz.f136 fI_usesBC noA) (by kernel_rfl) v_I_usesB)
theorem q_I_isJob : PureC Tryz.prog 84 fI_isJobC ∧ CallOk Tryz.prog 84 :=
  mk (A := noA) (gam_cons q_I_fieldOf (gam_cons q_I_areWords (gam_cons q_I_usesB gam_nil))) rules0 Tryz.func84 (by kernel_rfl) (by kernel_rfl) (by exact @link _ (vcFunc tab (gOf [(134, fI_fieldOfC), (135, fI_areWordsC), (136, fI_usesBC)]) R0 Tryz.f84 fI_isJobC noA) (by kernel_rfl) v_I_isJob)
theorem q_I_logOf : PureC Tryz.prog 140 fI_logOfC ∧ CallOk Tryz.prog 140 :=
  mk (A := aI_logOf) gam_nil rules0 Tryz.func140 (by kernel_rfl) (by kernel_rfl) (by exact @link _ (vcFunc tab (gOf []) R0 Tryz.f140 fI_logOfC aI_logOf) (by kernel_rfl) v_I_logOf)
theorem q_I_areElements : PureC Tryz.prog 141 fI_areElementsC ∧ CallOk Tryz.prog 141 :=
  mk (A := aI_areElements) gam_nil rules0 Tryz.func141 (by kernel_rfl) (by kernel_rfl) (by exact @link _ (vcFunc tab (gOf []) R0 Tryz.f141 fI_areElementsC aI_areElements) (by kernel_rfl) v_I_areElements)
theorem q_I_vectorField : PureC Tryz.prog 89 fI_vectorFieldC ∧ CallOk Tryz.prog 89 :=
  mk (A := aI_vectorField) (gam_cons q_I_fieldOf (gam_cons q_I_logOf (gam_cons q_I_areElements gam_nil))) rules0 Tryz.func89 (by kernel_rfl) (by kernel_rfl) (by exact @link _ (vcFunc tab (gOf [(134, fI_fieldOfC), (140, fI_logOfC), (141, fI_areElementsC)]) R0 Tryz.f89 fI_vectorFieldC aI_vectorField) (by kernel_rfl) v_I_vectorField)
theorem q_I_reversed : PureC Tryz.prog 185 fI_reversedC ∧ CallOk Tryz.prog 185 :=
  mk (A := aI_reversed) gam_nil rules0 Tryz.func185 (by kernel_rfl) (by kernel_rfl) (by exact @link _ (vcFunc tab (gOf []) R0 Tryz.f185 fI_reversedC aI_reversed) (by kernel_rfl) v_I_reversed)
theorem q_I_permuted : PureC Tryz.prog 170 fI_permutedC ∧ CallOk Tryz.prog 170 :=
  mk (A := aI_permuted) (gam_cons q_I_logOf (gam_cons q_I_reversed gam_nil)) rules0 Tryz.func170 (by kernel_rfl) (by kernel_rfl) (by exact @link _ (vcFunc tab (gOf [(140, fI_logOfC), (185, fI_reversedC)]) R0 Tryz.f170 fI_permutedC aI_permuted) (by kernel_rfl) v_I_permuted)
theorem q_I_mul : PureC Tryz.prog 173 fI_mulC ∧ CallOk Tryz.prog 173 :=
  mk (A := noA) gam_nil rules0 Tryz.func173 (by kernel_rfl) (by kernel_rfl) (by exact @link _ (vcFunc tab (gOf []) R0 Tryz.f173 fI_mulC noA) (by kernel_rfl) v_I_mul)
theorem q_I_power : PureC Tryz.prog 187 fI_powerC ∧ CallOk Tryz.prog 187 :=
  mk (A := aI_power) (gam_cons q_I_mul gam_nil) rules0 Tryz.func187 (by kernel_rfl) (by kernel_rfl) (by exact @link _ (vcFunc tab (gOf [(173, fI_mulC)]) R0 Tryz.f187 fI_powerC aI_power) (by kernel_rfl) v_I_power)
theorem q_I_root : PureC Tryz.prog 186 fI_rootC ∧ CallOk Tryz.prog 186 :=
  mk (A := noA) (gam_cons q_I_power gam_nil) rules0 Tryz.func186 (by kernel_rfl) (by kernel_rfl) (by exact @link _ (vcFunc tab (gOf [(187, fI_powerC)]) R0 Tryz.f186 fI_rootC noA) (by kernel_rfl) v_I_root)
theorem q_I_add : PureC Tryz.prog 174 fI_addC ∧ CallOk Tryz.prog 174 :=
  mk (A := noA) gam_nil rules0 Tryz.func174 (by kernel_rfl) (by kernel_rfl) (by exact @link _ (vcFunc tab (gOf []) R0 Tryz.f174 fI_addC noA) (by kernel_rfl) v_I_add)
theorem q_I_sub : PureC Tryz.prog 175 fI_subC ∧ CallOk Tryz.prog 175 :=
  mk (A := noA) gam_nil rules0 Tryz.func175 (by kernel_rfl) (by kernel_rfl) (by exact @link _ (vcFunc tab (gOf []) R0 Tryz.f175 fI_subC noA) (by kernel_rfl) v_I_sub)
theorem q_I_stage : PureC Tryz.prog 171 fI_stageC ∧ CallOk Tryz.prog 171 :=
  mk (A := aI_stage) (gam_cons q_I_root (gam_cons q_I_mul (gam_cons q_I_add (gam_cons q_I_sub gam_nil)))) rules0 Tryz.func171 (by kernel_rfl) (by kernel_rfl) (by exact @link _ (vcFunc tab (gOf [(186, fI_rootC), (173, fI_mulC), (174, fI_addC), (175, fI_subC)]) R0 Tryz.f171 fI_stageC aI_stage) (by kernel_rfl) v_I_stage)
theorem q_I_forward : PureC Tryz.prog 137 fI_forwardC ∧ CallOk Tryz.prog 137 :=
  mk (A := aI_forward) (gam_cons q_I_permuted (gam_cons q_I_logOf (gam_cons q_I_stage gam_nil))) rules0 Tryz.func137 (by kernel_rfl) (by kernel_rfl) (by exact @link _ (vcFunc tab (gOf [(170, fI_permutedC), (140, fI_logOfC), (171, fI_stageC)]) R0 Tryz.f137 fI_forwardC aI_forward) (by kernel_rfl) v_I_forward)
theorem q_I_Forward : PureC Tryz.prog 85 fI_ForwardC ∧ CallOk Tryz.prog 85 :=
  mk (A := noA) (gam_cons q_I_vectorField (gam_cons q_I_forward gam_nil)) rules0 Tryz.func85 (by kernel_rfl) (by kernel_rfl) (by exact @link _ (vcFunc tab (gOf [(89, fI_vectorFieldC), (137, fI_forwardC)]) R0 Tryz.f85 fI_ForwardC noA) (by kernel_rfl) v_I_Forward)
theorem q_I_VectorOk : PureC Tryz.prog 86 fI_VectorOkC ∧ CallOk Tryz.prog 86 :=
  mk (A := noA) (gam_cons q_I_vectorField gam_nil) rules0 Tryz.func86 (by kernel_rfl) (by kernel_rfl) (by exact @link _ (vcFunc tab (gOf [(89, fI_vectorFieldC)]) R0 Tryz.f86 fI_VectorOkC noA) (by kernel_rfl) v_I_VectorOk)
theorem q_I_inverse : PureC Tryz.prog 172 fI_inverseC ∧ CallOk Tryz.prog 172 :=
  mk (A := noA) (gam_cons q_I_power gam_nil) rules0 Tryz.func172 (by kernel_rfl) (by kernel_rfl) (by exact @link _ (vcFunc tab (gOf [(187, fI_powerC)]) R0 Tryz.f172 fI_inverseC noA) (by kernel_rfl) v_I_inverse)
theorem q_I_backward : PureC Tryz.prog 138 fI_backwardC ∧ CallOk Tryz.prog 138 :=
  mk (A := aI_backward) (gam_cons q_I_inverse (gam_cons q_I_forward (gam_cons q_I_mul gam_nil))) rules0 Tryz.func138 (by kernel_rfl) (by kernel_rfl) (by exact @link _ (vcFunc tab (gOf [(172, fI_inverseC), (137, fI_forwardC), (173, fI_mulC)]) R0 Tryz.f138 fI_backwardC aI_backward) (by kernel_rfl) v_I_backward)
theorem q_I_Backward : PureC Tryz.prog 87 fI_BackwardC ∧ CallOk Tryz.prog 87 :=
  mk (A := noA) (gam_cons q_I_vectorField (gam_cons q_I_backward gam_nil)) rules0 Tryz.func87 (by kernel_rfl) (by kernel_rfl) (by exact @link _ (vcFunc tab (gOf [(89, fI_vectorFieldC), (138, fI_backwardC)]) R0 Tryz.f87 fI_BackwardC noA) (by kernel_rfl) v_I_Backward)
theorem q_I_vectorField2 : PureC Tryz.prog 89 fI_vectorField2C ∧ CallOk Tryz.prog 89 :=
  mk (A := aI_vectorField2) (gam_cons q_I_fieldOf (gam_cons q_I_logOf (gam_cons q_I_areElements gam_nil))) rules0 Tryz.func89 (by kernel_rfl) (by kernel_rfl) (by exact @link _ (vcFunc tab (gOf [(134, fI_fieldOfC), (140, fI_logOfC), (141, fI_areElementsC)]) R0 Tryz.f89 fI_vectorField2C aI_vectorField2) (by kernel_rfl) v_I_vectorField2)
theorem q_I_pointwise : PureC Tryz.prog 139 fI_pointwiseC ∧ CallOk Tryz.prog 139 :=
  mk (A := aI_pointwise) (gam_cons q_I_mul gam_nil) rules0 Tryz.func139 (by kernel_rfl) (by kernel_rfl) (by exact @link _ (vcFunc tab (gOf [(173, fI_mulC)]) R0 Tryz.f139 fI_pointwiseC aI_pointwise) (by kernel_rfl) v_I_pointwise)
theorem q_I_Cyclic : PureC Tryz.prog 88 fI_CyclicC ∧ CallOk Tryz.prog 88 :=
  mk (A := noA) (gam_cons q_I_vectorField2 (gam_cons q_I_forward (gam_cons q_I_pointwise (gam_cons q_I_backward gam_nil)))) rules0 Tryz.func88 (by kernel_rfl) (by kernel_rfl) (by exact @link _ (vcFunc tab (gOf [(89, fI_vectorField2C), (137, fI_forwardC), (139, fI_pointwiseC), (138, fI_backwardC)]) R0 Tryz.f88 fI_CyclicC noA) (by kernel_rfl) v_I_Cyclic)
theorem q_I_twisted : PureC Tryz.prog 142 fI_twistedC ∧ CallOk Tryz.prog 142 :=
  mk (A := aI_twisted) (gam_cons q_I_mul (gam_cons q_I_add (gam_cons q_I_sub gam_nil))) rules0 Tryz.func142 (by kernel_rfl) (by kernel_rfl) (by exact @link _ (vcFunc tab (gOf [(173, fI_mulC), (174, fI_addC), (175, fI_subC)]) R0 Tryz.f142 fI_twistedC aI_twisted) (by kernel_rfl) v_I_twisted)
theorem q_I_Twisted : PureC Tryz.prog 90 fI_TwistedC ∧ CallOk Tryz.prog 90 :=
  mk (A := noA) (gam_cons q_I_vectorField2 (gam_cons q_I_twisted gam_nil)) rules0 Tryz.func90 (by kernel_rfl) (by kernel_rfl) (by exact @link _ (vcFunc tab (gOf [(89, fI_vectorField2C), (142, fI_twistedC)]) R0 Tryz.f90 fI_TwistedC noA) (by kernel_rfl) v_I_Twisted)
theorem q_I_polyField2 : PureC Tryz.prog 143 fI_polyField2C ∧ CallOk Tryz.prog 143 :=
  mk (A := aI_polyField2) (gam_cons q_I_fieldOf (gam_cons q_I_areElements gam_nil)) rules0 Tryz.func143 (by kernel_rfl) (by kernel_rfl) (by exact @link _ (vcFunc tab (gOf [(134, fI_fieldOfC), (141, fI_areElementsC)]) R0 Tryz.f143 fI_polyField2C aI_polyField2) (by kernel_rfl) v_I_polyField2)
theorem q_I_trimmed : RuleOk Tryz.prog 176 (cutRule fI_trimmedC) ∧ CallOk Tryz.prog 176 :=
  mkCut (A := aI_trimmed) gam_nil rules0 Tryz.func176 (by kernel_rfl) (by kernel_rfl) rfl (by exact @link _ (vcCut tab (gOf []) R0 Tryz.f176 fI_trimmedC aI_trimmed) (by kernel_rfl) v_I_trimmed)
theorem q_I_mulPoly : PureC Tryz.prog 144 fI_mulPolyC ∧ CallOk Tryz.prog 144 :=
  mk (A := aI_mulPoly) gam_nil (rul_cons q_I_trimmed rul_nil) Tryz.func144 (by kernel_rfl) (by kernel_rfl) (by exact @link _ (vcFunc tab (gOf []) (rOf [(176, cutRule fI_trimmedC)]) Tryz.f144 fI_mulPolyC aI_mulPoly) (by kernel_rfl) v_I_mulPoly)
theorem q_I_MulPoly : PureC Tryz.prog 91 fI_MulPolyC ∧ CallOk Tryz.prog 91 :=
  mk (A := noA) (gam_cons q_I_polyField2 (gam_cons q_I_mulPoly gam_nil)) rules0 Tryz.func91 (by kernel_rfl) (by kernel_rfl) (by exact @link _ (vcFunc tab (gOf [(143, fI_polyField2C), (144, fI_mulPolyC)]) R0 Tryz.f91 fI_MulPolyC noA) (by kernel_rfl) v_I_MulPoly)
theorem q_I_areTerms : PureC Tryz.prog 145 fI_areTermsC ∧ CallOk Tryz.prog 145 :=
  mk (A := aI_areTerms) gam_nil rules0 Tryz.func145 (by kernel_rfl) (by kernel_rfl) (by exact @link _ (vcFunc tab (gOf []) R0 Tryz.f145 fI_areTermsC aI_areTerms) (by kernel_rfl) v_I_areTerms)
theorem q_I_ConvExact : PureC Tryz.prog 92 fI_ConvExactC ∧ CallOk Tryz.prog 92 :=
  mk (A := aI_ConvExact) (gam_cons q_I_areTerms gam_nil) rules0 Tryz.func92 (by kernel_rfl) (by kernel_rfl) (by exact @link _ (vcFunc tab (gOf [(145, fI_areTermsC)]) R0 Tryz.f92 fI_ConvExactC aI_ConvExact) (by kernel_rfl) v_I_ConvExact)
theorem q_I_seriesField : PureC Tryz.prog 146 fI_seriesFieldC ∧ CallOk Tryz.prog 146 :=
  mk (A := aI_seriesField) (gam_cons q_I_fieldOf (gam_cons q_I_areElements gam_nil)) rules0 Tryz.func146 (by kernel_rfl) (by kernel_rfl) (by exact @link _ (vcFunc tab (gOf [(134, fI_fieldOfC), (141, fI_areElementsC)]) R0 Tryz.f146 fI_seriesFieldC aI_seriesField) (by kernel_rfl) v_I_seriesField)
theorem q_I_seriesInv : PureC Tryz.prog 147 fI_seriesInvC ∧ CallOk Tryz.prog 147 :=
  mk (A := aI_seriesInv) (gam_cons q_I_inverse (gam_cons q_I_add (gam_cons q_I_mul (gam_cons q_I_sub gam_nil)))) rules0 Tryz.func147 (by kernel_rfl) (by kernel_rfl) (by exact @link _ (vcFunc tab (gOf [(172, fI_inverseC), (174, fI_addC), (173, fI_mulC), (175, fI_subC)]) R0 Tryz.f147 fI_seriesInvC aI_seriesInv) (by kernel_rfl) v_I_seriesInv)
theorem q_I_SeriesInv : PureC Tryz.prog 93 fI_SeriesInvC ∧ CallOk Tryz.prog 93 :=
  mk (A := noA) (gam_cons q_I_seriesField (gam_cons q_I_seriesInv gam_nil)) rules0 Tryz.func93 (by kernel_rfl) (by kernel_rfl) (by exact @link _ (vcFunc tab (gOf [(146, fI_seriesFieldC), (147, fI_seriesInvC)]) R0 Tryz.f93 fI_SeriesInvC noA) (by kernel_rfl) v_I_SeriesInv)
theorem q_I_polyField : PureC Tryz.prog 143 fI_polyFieldC ∧ CallOk Tryz.prog 143 :=
  mk (A := aI_polyField) (gam_cons q_I_fieldOf (gam_cons q_I_areElements gam_nil)) rules0 Tryz.func143 (by kernel_rfl) (by kernel_rfl) (by exact @link _ (vcFunc tab (gOf [(134, fI_fieldOfC), (141, fI_areElementsC)]) R0 Tryz.f143 fI_polyFieldC aI_polyField) (by kernel_rfl) v_I_polyField)
theorem q_I_eval : PureC Tryz.prog 177 fI_evalC ∧ CallOk Tryz.prog 177 :=
  mk (A := aI_eval) gam_nil rules0 Tryz.func177 (by kernel_rfl) (by kernel_rfl) (by exact @link _ (vcFunc tab (gOf []) R0 Tryz.f177 fI_evalC aI_eval) (by kernel_rfl) v_I_eval)
theorem q_I_evalMany : PureC Tryz.prog 148 fI_evalManyC ∧ CallOk Tryz.prog 148 :=
  mk (A := aI_evalMany) (gam_cons q_I_eval gam_nil) rules0 Tryz.func148 (by kernel_rfl) (by kernel_rfl) (by exact @link _ (vcFunc tab (gOf [(177, fI_evalC)]) R0 Tryz.f148 fI_evalManyC aI_evalMany) (by kernel_rfl) v_I_evalMany)
theorem q_I_EvalMany : PureC Tryz.prog 94 fI_EvalManyC ∧ CallOk Tryz.prog 94 :=
  mk (A := noA) (gam_cons q_I_polyField (gam_cons q_I_areElements (gam_cons q_I_evalMany gam_nil))) rules0 Tryz.func94 (by kernel_rfl) (by kernel_rfl) (by exact @link _ (vcFunc tab (gOf [(143, fI_polyFieldC), (141, fI_areElementsC), (148, fI_evalManyC)]) R0 Tryz.f94 fI_EvalManyC noA) (by kernel_rfl) v_I_EvalMany)
theorem q_I_PolyOk : PureC Tryz.prog 95 fI_PolyOkC ∧ CallOk Tryz.prog 95 :=
  mk (A := noA) (gam_cons q_I_polyField2 gam_nil) rules0 Tryz.func95 (by kernel_rfl) (by kernel_rfl) (by exact @link _ (vcFunc tab (gOf [(143, fI_polyField2C)]) R0 Tryz.f95 fI_PolyOkC noA) (by kernel_rfl) v_I_PolyOk)
theorem q_I_pointField : PureC Tryz.prog 178 fI_pointFieldC ∧ CallOk Tryz.prog 178 :=
  mk (A := aI_pointField) (gam_cons q_I_fieldOf (gam_cons q_I_areElements gam_nil)) rules0 Tryz.func178 (by kernel_rfl) (by kernel_rfl) (by exact @link _ (vcFunc tab (gOf [(134, fI_fieldOfC), (141, fI_areElementsC)]) R0 Tryz.f178 fI_pointFieldC aI_pointField) (by kernel_rfl) v_I_pointField)
theorem q_I_vanish : PureC Tryz.prog 179 fI_vanishC ∧ CallOk Tryz.prog 179 :=
  mk (A := aI_vanish) (gam_cons q_I_sub (gam_cons q_I_mulPoly gam_nil)) rules0 Tryz.func179 (by kernel_rfl) (by kernel_rfl) (by exact @link _ (vcFunc tab (gOf [(175, fI_subC), (144, fI_mulPolyC)]) R0 Tryz.f179 fI_vanishC aI_vanish) (by kernel_rfl) v_I_vanish)
theorem q_I_divMod : PureC Tryz.prog 150 fI_divModC ∧ CallOk Tryz.prog 150 :=
  mk (A := aI_divMod) (gam_cons q_I_inverse (gam_cons q_I_mul (gam_cons q_I_sub gam_nil))) (rul_cons q_I_trimmed rul_nil) Tryz.func150 (by kernel_rfl) (by kernel_rfl) (by exact @link _ (vcFunc tab (gOf [(172, fI_inverseC), (173, fI_mulC), (175, fI_subC)]) (rOf [(176, cutRule fI_trimmedC)]) Tryz.f150 fI_divModC aI_divMod) (by kernel_rfl) v_I_divMod)
theorem q_I_weight : PureC Tryz.prog 182 fI_weightC ∧ CallOk Tryz.prog 182 :=
  mk (A := aI_weight) (gam_cons q_I_sub (gam_cons q_I_mul (gam_cons q_I_inverse gam_nil))) rules0 Tryz.func182 (by kernel_rfl) (by kernel_rfl) (by exact @link _ (vcFunc tab (gOf [(175, fI_subC), (173, fI_mulC), (172, fI_inverseC)]) R0 Tryz.f182 fI_weightC aI_weight) (by kernel_rfl) v_I_weight)
theorem q_I_scalePoly : PureC Tryz.prog 181 fI_scalePolyC ∧ CallOk Tryz.prog 181 :=
  mk (A := aI_scalePoly) (gam_cons q_I_mul gam_nil) (rul_cons q_I_trimmed rul_nil) Tryz.func181 (by kernel_rfl) (by kernel_rfl) (by exact @link _ (vcFunc tab (gOf [(173, fI_mulC)]) (rOf [(176, cutRule fI_trimmedC)]) Tryz.f181 fI_scalePolyC aI_scalePoly) (by kernel_rfl) v_I_scalePoly)
theorem q_I_coefficient : PureC Tryz.prog 188 fI_coefficientC ∧ CallOk Tryz.prog 188 :=
  mk (A := noA) gam_nil rules0 Tryz.func188 (by kernel_rfl) (by kernel_rfl) (by exact @link _ (vcFunc tab (gOf []) R0 Tryz.f188 fI_coefficientC noA) (by kernel_rfl) v_I_coefficient)
theorem q_I_addPoly : PureC Tryz.prog 180 fI_addPolyC ∧ CallOk Tryz.prog 180 :=
  mk (A := aI_addPoly) (gam_cons q_I_coefficient (gam_cons q_I_add gam_nil)) (rul_cons q_I_trimmed rul_nil) Tryz.func180 (by kernel_rfl) (by kernel_rfl) (by exact @link _ (vcFunc tab (gOf [(188, fI_coefficientC), (174, fI_addC)]) (rOf [(176, cutRule fI_trimmedC)]) Tryz.f180 fI_addPolyC aI_addPoly) (by kernel_rfl) v_I_addPoly)
theorem q_I_through : PureC Tryz.prog 152 fI_throughC ∧ CallOk Tryz.prog 152 :=
  mk (A := aI_through) (gam_cons q_I_vanish (gam_cons q_I_sub (gam_cons q_I_divMod (gam_cons q_I_weight (gam_cons q_I_mul (gam_cons q_I_scalePoly (gam_cons q_I_addPoly gam_nil))))))) rules0 Tryz.func152 (by kernel_rfl) (by kernel_rfl) (by exact @link _ (vcFunc tab (gOf [(179, fI_vanishC), (175, fI_subC), (150, fI_divModC), (182, fI_weightC), (173, fI_mulC), (181, fI_scalePolyC), (180, fI_addPolyC)]) R0 Tryz.f152 fI_throughC aI_through) (by kernel_rfl) v_I_through)
theorem q_I_interpolate : PureC Tryz.prog 149 fI_interpolateC ∧ CallOk Tryz.prog 149 :=
  mk (A := noA) (gam_cons q_I_pointField (gam_cons q_I_areElements (gam_cons q_I_through gam_nil))) rules0 Tryz.func149 (by kernel_rfl) (by kernel_rfl) (by exact @link _ (vcFunc tab (gOf [(178, fI_pointFieldC), (141, fI_areElementsC), (152, fI_throughC)]) R0 Tryz.f149 fI_interpolateC noA) (by kernel_rfl) v_I_interpolate)
theorem q_I_Interpolate : PureC Tryz.prog 96 fI_InterpolateC ∧ CallOk Tryz.prog 96 :=
  mk (A := noA) (gam_cons q_I_interpolate gam_nil) rules0 Tryz.func96 (by kernel_rfl) (by kernel_rfl) (by exact @link _ (vcFunc tab (gOf [(149, fI_interpolateC)]) R0 Tryz.f96 fI_InterpolateC noA) (by kernel_rfl) v_I_Interpolate)
theorem q_I_divModG : PureC Tryz.prog 150 fI_divModGC ∧ CallOk Tryz.prog 150 :=
  mk (A := aI_divModG) (gam_cons q_I_inverse (gam_cons q_I_mul (gam_cons q_I_sub gam_nil))) (rul_cons q_I_trimmed rul_nil) Tryz.func150 (by kernel_rfl) (by kernel_rfl) (by exact @link _ (vcFunc tab (gOf [(172, fI_inverseC), (173, fI_mulC), (175, fI_subC)]) (rOf [(176, cutRule fI_trimmedC)]) Tryz.f150 fI_divModGC aI_divModG) (by kernel_rfl) v_I_divModG)
theorem q_I_DivMod : PureC Tryz.prog 97 fI_DivModC ∧ CallOk Tryz.prog 97 :=
  mk (A := noA) (gam_cons q_I_polyField2 (gam_cons q_I_divModG gam_nil)) rules0 Tryz.func97 (by kernel_rfl) (by kernel_rfl) (by exact @link _ (vcFunc tab (gOf [(143, fI_polyField2C), (150, fI_divModGC)]) R0 Tryz.f97 fI_DivModC noA) (by kernel_rfl) v_I_DivMod)
theorem q_I_codeField : PureC Tryz.prog 151 fI_codeFieldC ∧ CallOk Tryz.prog 151 :=
  mk (A := noA) (gam_cons q_I_pointField gam_nil) rules0 Tryz.func151 (by kernel_rfl) (by kernel_rfl) (by exact @link _ (vcFunc tab (gOf [(178, fI_pointFieldC)]) R0 Tryz.f151 fI_codeFieldC noA) (by kernel_rfl) v_I_codeField)
theorem q_I_differ : PureC Tryz.prog 153 fI_differC ∧ CallOk Tryz.prog 153 :=
  mk (A := aI_differ) gam_nil rules0 Tryz.func153 (by kernel_rfl) (by kernel_rfl) (by exact @link _ (vcFunc tab (gOf []) R0 Tryz.f153 fI_differC aI_differ) (by kernel_rfl) v_I_differ)
theorem q_I_decodeWord : PureC Tryz.prog 98 fI_decodeWordC ∧ CallOk Tryz.prog 98 :=
  mk (A := aI_decodeWord) (gam_cons q_I_codeField (gam_cons q_I_areElements (gam_cons q_I_through (gam_cons q_I_evalMany (gam_cons q_I_differ gam_nil))))) rules0 Tryz.func98 (by kernel_rfl) (by kernel_rfl) (by exact @link _ (vcFunc tab (gOf [(151, fI_codeFieldC), (141, fI_areElementsC), (152, fI_throughC), (148, fI_evalManyC), (153, fI_differC)]) R0 Tryz.f98 fI_decodeWordC aI_decodeWord) (by kernel_rfl) v_I_decodeWord)
theorem q_I_runJob : PureC Tryz.prog 42 fI_runJobC ∧ CallOk Tryz.prog 42 :=
  mk (A := noA) (gam_cons q_I_isJob (gam_cons q_I_Forward (gam_cons q_I_VectorOk (gam_cons q_I_Backward (gam_cons q_I_Cyclic (gam_cons q_I_vectorField2 (gam_cons q_I_Twisted (gam_cons q_I_MulPoly (gam_cons q_I_ConvExact (gam_cons q_I_SeriesInv (gam_cons q_I_EvalMany (gam_cons q_I_PolyOk (gam_cons q_I_Interpolate (gam_cons q_I_DivMod (gam_cons q_I_decodeWord gam_nil))))))))))))))) rules0 Tryz.func42 (by kernel_rfl) (by kernel_rfl) (by exact @link _ (vcFunc tab (gOf [(84, fI_isJobC), (85, fI_ForwardC), (86, fI_VectorOkC), (87, fI_BackwardC), (88, fI_CyclicC), (89, fI_vectorField2C), (90, fI_TwistedC), (91, fI_MulPolyC), (92, fI_ConvExactC), (93, fI_SeriesInvC), (94, fI_EvalManyC), (95, fI_PolyOkC), (96, fI_InterpolateC), (97, fI_DivModC), (98, fI_decodeWordC)]) R0 Tryz.f42 fI_runJobC noA) (by kernel_rfl) v_I_runJob)
theorem q_I_RunJob : PureC Tryz.prog 9 fI_RunJobC ∧ CallOk Tryz.prog 9 :=
  mk (A := noA) (gam_cons q_I_runJob gam_nil) rules0 Tryz.func9 (by kernel_rfl) (by kernel_rfl) (by exact @link _ (vcFunc tab (gOf [(42, fI_runJobC)]) R0 Tryz.f9 fI_RunJobC noA) (by kernel_rfl) v_I_RunJob)
theorem q_L_eqIntS : PureC Tryz.prog 43 fL_eqIntSC ∧ CallOk Tryz.prog 43 :=
  mk (A := aL_eqIntS) gam_nil rules0 Tryz.func43 (by kernel_rfl) (by kernel_rfl) (by exact @link _ (vcFunc tab (gOf []) R0 Tryz.f43 fL_eqIntSC aL_eqIntS) (by kernel_rfl) v_L_eqIntS)
theorem q_L_eqResultJ : PureC Tryz.prog 10 fL_eqResultJC ∧ CallOk Tryz.prog 10 :=
  mk (A := noA) (gam_cons q_L_eqIntS gam_nil) rules0 Tryz.func10 (by kernel_rfl) (by kernel_rfl) (by exact @link _ (vcFunc tab (gOf [(43, fL_eqIntSC)]) R0 Tryz.f10 fL_eqResultJC noA) (by kernel_rfl) v_L_eqResultJ)
theorem q_L_eqJob : PureC Tryz.prog 11 fL_eqJobC ∧ CallOk Tryz.prog 11 :=
  mk (A := noA) (gam_cons q_L_eqIntS gam_nil) rules0 Tryz.func11 (by kernel_rfl) (by kernel_rfl) (by exact @link _ (vcFunc tab (gOf [(43, fL_eqIntSC)]) R0 Tryz.f11 fL_eqJobC noA) (by kernel_rfl) v_L_eqJob)
theorem q_L_markIntS : RuleOk Tryz.prog 44 (ruleOf fL_markIntSC) ∧ CallOk Tryz.prog 44 :=
  mkM (A := aL_markIntS) gam_nil rules0 Tryz.func44 (by kernel_rfl) (by kernel_rfl) rfl (by exact @link _ (vcMut tab (gOf []) R0 Tryz.f44 fL_markIntSC aL_markIntS) (by kernel_rfl) v_L_markIntS)
theorem q_L_markJob : RuleOk Tryz.prog 12 (ruleOf fL_markJobC) ∧ CallOk Tryz.prog 12 :=
  mkM (A := noM0) gam_nil (rul_cons q_L_markIntS rul_nil) Tryz.func12 (by kernel_rfl) (by kernel_rfl) rfl (by exact @link _ (vcMut tab (gOf []) (rOf [(44, ruleOf fL_markIntSC)]) Tryz.f12 fL_markJobC noM0) (by kernel_rfl) v_L_markJob)
theorem q_L_markResultJ : RuleOk Tryz.prog 13 (ruleOf fL_markResultJC) ∧ CallOk Tryz.prog 13 :=
  mkM (A := noM0) gam_nil (rul_cons q_L_markIntS rul_nil) Tryz.func13 (by kernel_rfl) (by kernel_rfl) rfl (by exact @link _ (vcMut tab (gOf []) (rOf [(44, ruleOf fL_markIntSC)]) Tryz.f13 fL_markResultJC noM0) (by kernel_rfl) v_L_markResultJ)
theorem q_L_heldIntS : PureC Tryz.prog 45 fL_heldIntSC ∧ CallOk Tryz.prog 45 :=
  mk (A := aL_heldIntS) gam_nil rules0 Tryz.func45 (by kernel_rfl) (by kernel_rfl) (by exact @link _ (vcFunc tab (gOf []) R0 Tryz.f45 fL_heldIntSC aL_heldIntS) (by kernel_rfl) v_L_heldIntS)
theorem q_L_heldResultJ : PureC Tryz.prog 14 fL_heldResultJC ∧ CallOk Tryz.prog 14 :=
  mk (A := noA) (gam_cons q_L_heldIntS gam_nil) rules0 Tryz.func14 (by kernel_rfl) (by kernel_rfl) (by exact @link _ (vcFunc tab (gOf [(45, fL_heldIntSC)]) R0 Tryz.f14 fL_heldResultJC noA) (by kernel_rfl) v_L_heldResultJ)
-- LAW
theorem q_law : PureC Tryz.prog 3 (lawC [jobT]) ∧ CallOk Tryz.prog 3 :=
  mk (A := noA) (gam_cons q_L_szJob (gam_cons q_L_toJob (gam_cons q_S_RunJob (gam_cons q_I_RunJob (gam_cons q_L_eqResultJ (gam_cons q_L_eqJob (gam_cons q_L_heldResultJ gam_nil))))))) (rul_cons q_L_markJob (rul_cons q_L_markResultJ rul_nil)) Tryz.func3 (by kernel_rfl) (by kernel_rfl) (by exact @link _ (vcFunc tab (gOf [(6, fL_szJobC), (8, fL_toJobC), (7, fS_RunJobC), (9, fI_RunJobC), (10, fL_eqResultJC), (11, fL_eqJobC), (14, fL_heldResultJC)]) (rOf [(12, ruleOf fL_markJobC), (13, ruleOf fL_markResultJC)]) Tryz.f3 (lawC [jobT]) noA) (by kernel_rfl) v_FnExactRunJob)
end Go.SF
