/- FnStopAnywhere: the functions keep their contracts. No condition. -/
import Derived.Test.YtmnndbfmeppaeaaSxPCode
import Derived.Test.YtmnndbfmeppaeaaSxPDrawQ
import Derived.Test.YtmnndbfmeppaeaaSxPField
import Derived.Test.YtmnndbfmeppaeaaSxPStop
import Derived.Test.YtmnndbfmeppaeaaSxPBase
import Derived.Test.YtmnndbfmeppaeaaSxPPlan2
import Derived.Test.YtmnndbfmeppaeaaSxPPlan
import Derived.Test.YtmnndbfmeppaeaaSxPWord
import Derived.Test.YtmnndbfmeppaeaaSxPMod
import Derived.Test.YtmnndbfmeppaeaaSxPAdv
import Derived.Test.YtmnndbfmeppaeaaSxPNtt
import Derived.Test.YtmnndbfmeppaeaaSxPStopB
import Derived.Test.YtmnndbfmeppaeaaSxPPlanB
import Derived.Test.YtmnndbfmeppaeaaSxPWordB
import Derived.Test.YtmnndbfmeppaeaaSxPModB
import Derived.Test.YtmnndbfmeppaeaaSxPAdvB
import Derived.Test.YtmnndbfmeppaeaaSxPNttB
import Derived.Test.YtmnndbfmeppaeaaSxPStopC
import Derived.Test.YtmnndbfmeppaeaaSxPPlanC
import Derived.Test.YtmnndbfmeppaeaaSxPFnStopAnywhere
import Derived.Test.YtmnndbfmeppaeaaSxTab
import Derived.Test.YtmnndbfmeppaeaaChecked
import Derived.KernelRfl
namespace Go.SF
open Go.SX Go.Proofs
set_option maxRecDepth 100000
set_option linter.unusedVariables false
theorem rules0 {P : Program} : RulesOk P R0 := fun f r h _ => by cases h
theorem gam_nil {P : Program} : GamOk P (gOf []) := fun f c h => by cases h
theorem gam_cons {P : Program} {k : Nat} {c : PC} {r : List (Nat × PC)} (h : PureC P k c ∧ CallOk P k) (hr : GamOk P (gOf r)) : GamOk P (gOf ((k, c) :: r)) := by
  intro f c' h'
  unfold gOf at h'
  split at h'
  · rename_i e
    injection h' with h'
    subst h'; subst e
    exact h
  · exact hr f c' h'
theorem rul_nil {P : Program} : RulesOk P (rOf []) := fun f c h _ => by cases h
theorem rul_cons {P : Program} {k : Nat} {c : Rule} {r : List (Nat × Rule)} (h : RuleOk P k c ∧ CallOk P k) (hr : RulesOk P (rOf r)) : RulesOk P (rOf ((k, c) :: r)) := by
  intro f c' h' hne
  unfold rOf at h'
  split at h'
  · rename_i e
    injection h' with h'
    subst h'; subst e
    exact h
  · exact hr f c' h' hne
theorem rul_tell {P : Program} {r : List (Nat × Rule)} (hr : RulesOk P (rOf r)) : RulesOk P (rOf ((1000000, tellR) :: r)) := by
  intro f c' h' hne
  unfold rOf at h'
  split at h'
  · rename_i e
    exact absurd e hne
  · exact hr f c' h' hne
theorem tabOk : TabOk Try.prog tab := tabOk_of (by kernel_rfl)
theorem mixed : Try.prog.follows .mixedOrders = true := by kernel_rfl
theorem mk {Γ : FuncId → Option PC} {f : FuncId} {fn : Func} {c : PC} {A : Tup c.ts → Nat → Option Ann} {R : FuncId → Option Rule} (hΓ : GamOk Try.prog Γ) (hR : RulesOk Try.prog R) (hf : Try.prog.funcs[f]? = some fn) (h1 : (fn.name == "runtime.NumGoroutine") = false) (h2 : fn.body.isNone = false)
    (h : vcFunc tab Γ R fn c A) : PureC Try.prog f c ∧ CallOk Try.prog f := ⟨vcFunc_pure mixed tabOk hΓ hR hf h, fn, hf, h1, h2⟩
theorem mkM {Γ : FuncId → Option PC} {R : FuncId → Option Rule} {f : FuncId} {fn : Func} {c : MC} {A : c.t.den → Int → Nat → Option Ann} (hΓ : GamOk Try.prog Γ) (hR : RulesOk Try.prog R) (hf : Try.prog.funcs[f]? = some fn) (h1 : (fn.name == "runtime.NumGoroutine") = false) (h2 : fn.body.isNone = false)
    (hl : c.t.lendable = true) (h : vcMut tab Γ R fn c A) : RuleOk Try.prog f (ruleOf c) ∧ CallOk Try.prog f := ⟨vcMut_rule mixed tabOk hΓ hR hf hl h, fn, hf, h1, h2⟩
theorem mkCut {Γ : FuncId → Option PC} {R : FuncId → Option Rule} {f : FuncId} {fn : Func} {c : CC} {A : List c.e.den → Nat → Option Ann} (hΓ : GamOk Try.prog Γ) (hR : RulesOk Try.prog R) (hf : Try.prog.funcs[f]? = some fn) (h1 : (fn.name == "runtime.NumGoroutine") = false) (h2 : fn.body.isNone = false)
    (hl : c.e.flat = true) (h : vcCut tab Γ R fn c A) : RuleOk Try.prog f (cutRule c) ∧ CallOk Try.prog f := ⟨vcCut_rule mixed tabOk hΓ hR hf hl h, fn, hf, h1, h2⟩
theorem mkBox {Γ : FuncId → Option PC} {R : FuncId → Option Rule} {f : FuncId} {fn : Func} {c : BC} {A : c.t.den → Tup c.ts → Nat → Option Ann} (hΓ : GamOk Try.prog Γ) (hR : RulesOk Try.prog R) (hf : Try.prog.funcs[f]? = some fn) (h1 : (fn.name == "runtime.NumGoroutine") = false) (h2 : fn.body.isNone = false)
    (h : vcBox tab Γ R fn c A) : RuleOk Try.prog f (boxRule c) ∧ CallOk Try.prog f := ⟨vcBox_rule mixed tabOk hΓ hR hf h, fn, hf, h1, h2⟩
theorem mkNew {Γ : FuncId → Option PC} {R : FuncId → Option Rule} {f : FuncId} {fn : Func} {c : NC} {A : Tup c.ts → Nat → Option Ann} (hΓ : GamOk Try.prog Γ) (hR : RulesOk Try.prog R) (hf : Try.prog.funcs[f]? = some fn) (h1 : (fn.name == "runtime.NumGoroutine") = false) (h2 : fn.body.isNone = false)
    (h : vcNew tab Γ R fn c A) : RuleOk Try.prog f (newRule c) ∧ CallOk Try.prog f := ⟨vcNew_rule mixed tabOk hΓ hR hf h, fn, hf, h1, h2⟩
theorem link {p q : Prop} (h : p = q) (hp : p) : q := h ▸ hp
theorem mkQ {Γ : FuncId → Option PC} {R : FuncId → Option Rule} {f : FuncId} {fn : Func} {c : QC} {A : Tup c.ts → Nat → Option Ann} (hΓ : GamOk Try.prog Γ) (hR : RulesOk Try.prog R) (hf : Try.prog.funcs[f]? = some fn) (h1 : (fn.name == "runtime.NumGoroutine") = false) (h2 : fn.body.isNone = false)
    (h : vcQ tab Γ R fn c A) : RuleOk Try.prog f (qRule c) ∧ CallOk Try.prog f := ⟨q_rule (vcQ_ok mixed tabOk hΓ hR hf h), fn, hf, h1, h2⟩
theorem mkQB {Γ : FuncId → Option PC} {R : FuncId → Option Rule} {f : FuncId} {fn : Func} {c : QB} {A : c.t.den → Tup c.ts → Nat → Option Ann} (hΓ : GamOk Try.prog Γ) (hR : RulesOk Try.prog R) (hf : Try.prog.funcs[f]? = some fn) (h1 : (fn.name == "runtime.NumGoroutine") = false) (h2 : fn.body.isNone = false)
    (h : vcQB tab Γ R fn c A) : RuleOk Try.prog f (qbRule c) ∧ CallOk Try.prog f := ⟨qb_rule mixed tabOk hΓ hR hf h, fn, hf, h1, h2⟩
theorem mkQN {Γ : FuncId → Option PC} {R : FuncId → Option Rule} {f : FuncId} {fn : Func} {c : QN} {A : Tup c.ts → Nat → Option Ann} (hΓ : GamOk Try.prog Γ) (hR : RulesOk Try.prog R) (hf : Try.prog.funcs[f]? = some fn) (h1 : (fn.name == "runtime.NumGoroutine") = false) (h2 : fn.body.isNone = false)
    (h : vcQN tab Γ R fn c A) : RuleOk Try.prog f (qnRule c) ∧ CallOk Try.prog f := ⟨qn_rule mixed tabOk hΓ hR hf h, fn, hf, h1, h2⟩
theorem mkQF {Γ : FuncId → Option PC} {R : FuncId → Option Rule} {f : FuncId} {fn : Func} {c : QB} {A : c.t.den → Tup c.ts → Nat → Option Ann} (hΓ : GamOk Try.prog Γ) (hR : RulesOk Try.prog R) (hf : Try.prog.funcs[f]? = some fn) (h1 : (fn.name == "runtime.NumGoroutine") = false) (h2 : fn.body.isNone = false)
    (h : vcQF tab Γ R fn c A) : RuleOk Try.prog f (qfRule c) ∧ CallOk Try.prog f := ⟨qf_rule mixed tabOk hΓ hR hf h, fn, hf, h1, h2⟩
theorem mkQG {Γ : FuncId → Option PC} {R : FuncId → Option Rule} {f : FuncId} {fn : Func} {c : QC} {A : Tup c.ts → Nat → Option Ann} (hΓ : GamOk Try.prog Γ) (hR : RulesOk Try.prog R) (hf : Try.prog.funcs[f]? = some fn) (h1 : (fn.name == "runtime.NumGoroutine") = false) (h2 : fn.body.isNone = false)
    (h : vcQG tab Γ R fn c A) : RuleOk Try.prog f (qgRule c) ∧ CallOk Try.prog f := ⟨qg_rule (vcQG_ok mixed tabOk hΓ hR hf h), fn, hf, h1, h2⟩
theorem q_L_big : PureC Try.prog 32 fL_bigC ∧ CallOk Try.prog 32 :=
  mk (A := noA) gam_nil rules0 Try.func32 (by kernel_rfl) (by kernel_rfl) (by exact @link _ (vcFunc tab (gOf []) R0 Try.f32 fL_bigC noA) (by kernel_rfl) v_L_big)
theorem q_S_l01NewQ : RuleOk Try.prog 83 (qnRule fS_l01NewQC) ∧ CallOk Try.prog 83 :=
  mkQN (A := aS_l01NewQ) gam_nil rules0 Try.func83 (by kernel_rfl) (by kernel_rfl) (by exact @link _ (vcQN tab (gOf []) R0 Try.f83 fS_l01NewQC aS_l01NewQ) (by kernel_rfl) v_S_l01NewQ)
theorem q_S_l01ByteQ : RuleOk Try.prog 100 (qbRule fS_l01ByteQC) ∧ CallOk Try.prog 100 :=
  mkQB (A := noB) gam_nil rules0 Try.func100 (by kernel_rfl) (by kernel_rfl) (by exact @link _ (vcQB tab (gOf []) R0 Try.f100 fS_l01ByteQC noB) (by kernel_rfl) v_S_l01ByteQ)
theorem q_S_l01BelowQ : RuleOk Try.prog 95 (qbRule fS_l01BelowQC) ∧ CallOk Try.prog 95 :=
  mkQB (A := noB) gam_nil (rul_cons q_S_l01ByteQ rul_nil) Try.func95 (by kernel_rfl) (by kernel_rfl) (by exact @link _ (vcQB tab (gOf []) (rOf [(100, qbRule fS_l01ByteQC)]) Try.f95 fS_l01BelowQC noB) (by kernel_rfl) v_S_l01BelowQ)
theorem q_S_Modulus : PureC Try.prog 87 fS_ModulusC ∧ CallOk Try.prog 87 :=
  mk (A := noA) gam_nil rules0 Try.func87 (by kernel_rfl) (by kernel_rfl) (by exact @link _ (vcFunc tab (gOf []) R0 Try.f87 fS_ModulusC noA) (by kernel_rfl) v_S_Modulus)
theorem q_S_TwoPower : PureC Try.prog 66 fS_TwoPowerC ∧ CallOk Try.prog 66 :=
  mk (A := aS_TwoPower) (gam_cons q_S_Modulus gam_nil) rules0 Try.func66 (by kernel_rfl) (by kernel_rfl) (by exact @link _ (vcFunc tab (gOf [(87, fS_ModulusC)]) R0 Try.f66 fS_TwoPowerC aS_TwoPower) (by kernel_rfl) v_S_TwoPower)
theorem q_S_l01OnceQ : RuleOk Try.prog 85 (qbRule fS_l01OnceQC) ∧ CallOk Try.prog 85 :=
  mkQB (A := noB) gam_nil (rul_cons q_S_l01BelowQ rul_nil) Try.func85 (by kernel_rfl) (by kernel_rfl) (by exact @link _ (vcQB tab (gOf []) (rOf [(95, qbRule fS_l01BelowQC)]) Try.f85 fS_l01OnceQC noB) (by kernel_rfl) v_S_l01OnceQ)
theorem q_S_l01PickIntQ : RuleOk Try.prog 97 (qbRule fS_l01PickIntQC) ∧ CallOk Try.prog 97 :=
  mkQB (A := noB) gam_nil (rul_cons q_S_l01BelowQ rul_nil) Try.func97 (by kernel_rfl) (by kernel_rfl) (by exact @link _ (vcQB tab (gOf []) (rOf [(95, qbRule fS_l01BelowQC)]) Try.f97 fS_l01PickIntQC noB) (by kernel_rfl) v_S_l01PickIntQ)
theorem q_S_l01DrawFieldQ : RuleOk Try.prog 96 (qbRule fS_l01DrawFieldQC) ∧ CallOk Try.prog 96 :=
  mkQB (A := noB) gam_nil (rul_cons q_S_l01OnceQ (rul_cons q_S_l01PickIntQ (rul_cons q_S_l01BelowQ rul_nil))) Try.func96 (by kernel_rfl) (by kernel_rfl) (by exact @link _ (vcQB tab (gOf []) (rOf [(85, qbRule fS_l01OnceQC), (97, qbRule fS_l01PickIntQC), (95, qbRule fS_l01BelowQC)]) Try.f96 fS_l01DrawFieldQC noB) (by kernel_rfl) v_S_l01DrawFieldQ)
theorem q_S_l09DrawPlanQ : RuleOk Try.prog 84 (qfRule fS_l09DrawPlanQC) ∧ CallOk Try.prog 84 :=
  mkQF (A := aS_l09DrawPlan) (gam_cons q_S_TwoPower gam_nil) (rul_cons q_S_l01BelowQ (rul_cons q_S_l01OnceQ (rul_cons q_S_l01DrawFieldQ (rul_cons q_S_l01PickIntQ rul_nil)))) Try.func84 (by kernel_rfl) (by kernel_rfl) (by exact @link _ (vcQF tab (gOf [(66, fS_TwoPowerC)]) (rOf [(95, qbRule fS_l01BelowQC), (85, qbRule fS_l01OnceQC), (96, qbRule fS_l01DrawFieldQC), (97, qbRule fS_l01PickIntQC)]) Try.f84 fS_l09DrawPlanQC aS_l09DrawPlan) (by kernel_rfl) v_S_l09DrawPlanQ)
theorem q_S_l01In : PureC Try.prog 43 fS_l01InC ∧ CallOk Try.prog 43 :=
  mk (A := noA) gam_nil rules0 Try.func43 (by kernel_rfl) (by kernel_rfl) (by exact @link _ (vcFunc tab (gOf []) R0 Try.f43 fS_l01InC noA) (by kernel_rfl) v_S_l01In)
theorem q_S_l01DrawElementQ : RuleOk Try.prog 98 (qbRule fS_l01DrawElementQC) ∧ CallOk Try.prog 98 :=
  mkQB (A := noB) (gam_cons q_S_Modulus gam_nil) (rul_cons q_S_l01BelowQ rul_nil) Try.func98 (by kernel_rfl) (by kernel_rfl) (by exact @link _ (vcQB tab (gOf [(87, fS_ModulusC)]) (rOf [(95, qbRule fS_l01BelowQC)]) Try.f98 fS_l01DrawElementQC noB) (by kernel_rfl) v_S_l01DrawElementQ)
theorem q_S_l01DrawListQ : RuleOk Try.prog 86 (qbRule fS_l01DrawListQC) ∧ CallOk Try.prog 86 :=
  mkQB (A := aS_l01DrawListQ) gam_nil (rul_cons q_S_l01DrawElementQ rul_nil) Try.func86 (by kernel_rfl) (by kernel_rfl) (by exact @link _ (vcQB tab (gOf []) (rOf [(98, qbRule fS_l01DrawElementQC)]) Try.f86 fS_l01DrawListQC aS_l01DrawListQ) (by kernel_rfl) v_S_l01DrawListQ)
theorem q_S_DrawRunPlanQ : RuleOk Try.prog 60 (qgRule fS_DrawRunPlanQC) ∧ CallOk Try.prog 60 :=
  mkQG (A := noA) (gam_cons q_S_l01In gam_nil) (rul_cons q_S_l01NewQ (rul_cons q_S_l09DrawPlanQ (rul_cons q_S_l01OnceQ (rul_cons q_S_l01DrawListQ rul_nil)))) Try.func60 (by kernel_rfl) (by kernel_rfl) (by exact @link _ (vcQG tab (gOf [(43, fS_l01InC)]) (rOf [(83, qnRule fS_l01NewQC), (84, qfRule fS_l09DrawPlanQC), (85, qbRule fS_l01OnceQC), (86, qbRule fS_l01DrawListQC)]) Try.f60 fS_DrawRunPlanQC noA) (by kernel_rfl) v_S_DrawRunPlanQ)
theorem q_S_DrawStartTurnerQ : RuleOk Try.prog 33 (qgRule fS_DrawStartTurnerQC) ∧ CallOk Try.prog 33 :=
  mkQG (A := noA) gam_nil (rul_cons q_S_DrawRunPlanQ rul_nil) Try.func33 (by kernel_rfl) (by kernel_rfl) (by exact @link _ (vcQG tab (gOf []) (rOf [(60, qgRule fS_DrawRunPlanQC)]) Try.f33 fS_DrawStartTurnerQC noA) (by kernel_rfl) v_S_DrawStartTurnerQ)
theorem q_S_l09Steps : PureC Try.prog 70 fS_l09StepsC ∧ CallOk Try.prog 70 :=
  mk (A := aS_l09Steps) gam_nil rules0 Try.func70 (by kernel_rfl) (by kernel_rfl) (by exact @link _ (vcFunc tab (gOf []) R0 Try.f70 fS_l09StepsC aS_l09Steps) (by kernel_rfl) v_S_l09Steps)
theorem q_S_l15Plan : PureC Try.prog 48 fS_l15PlanC ∧ CallOk Try.prog 48 :=
  mk (A := noA) (gam_cons q_S_l09Steps gam_nil) rules0 Try.func48 (by kernel_rfl) (by kernel_rfl) (by exact @link _ (vcFunc tab (gOf [(70, fS_l09StepsC)]) R0 Try.f48 fS_l15PlanC noA) (by kernel_rfl) v_S_l15Plan)
theorem q_S_LogOf : PureC Try.prog 63 fS_LogOfC ∧ CallOk Try.prog 63 :=
  mk (A := aS_LogOf) gam_nil rules0 Try.func63 (by kernel_rfl) (by kernel_rfl) (by exact @link _ (vcFunc tab (gOf []) R0 Try.f63 fS_LogOfC aS_LogOf) (by kernel_rfl) v_S_LogOf)
theorem q_S_Reverse : PureC Try.prog 71 fS_ReverseC ∧ CallOk Try.prog 71 :=
  mk (A := aS_Reverse) (gam_cons q_S_l01In gam_nil) rules0 Try.func71 (by kernel_rfl) (by kernel_rfl) (by exact @link _ (vcFunc tab (gOf [(43, fS_l01InC)]) R0 Try.f71 fS_ReverseC aS_Reverse) (by kernel_rfl) v_S_Reverse)
theorem q_S_Permute : PureC Try.prog 49 fS_PermuteC ∧ CallOk Try.prog 49 :=
  mk (A := aS_Permute) (gam_cons q_S_LogOf (gam_cons q_S_Reverse gam_nil)) rules0 Try.func49 (by kernel_rfl) (by kernel_rfl) (by exact @link _ (vcFunc tab (gOf [(63, fS_LogOfC), (71, fS_ReverseC)]) R0 Try.f49 fS_PermuteC aS_Permute) (by kernel_rfl) v_S_Permute)
theorem q_S_l09Log : PureC Try.prog 64 fS_l09LogC ∧ CallOk Try.prog 64 :=
  mk (A := noA) (gam_cons q_S_Modulus (gam_cons q_S_l01In (gam_cons q_S_TwoPower gam_nil))) rules0 Try.func64 (by kernel_rfl) (by kernel_rfl) (by exact @link _ (vcFunc tab (gOf [(87, fS_ModulusC), (43, fS_l01InC), (66, fS_TwoPowerC)]) R0 Try.f64 fS_l09LogC noA) (by kernel_rfl) v_S_l09Log)
theorem q_S_l09Run : PureC Try.prog 65 fS_l09RunC ∧ CallOk Try.prog 65 :=
  mk (A := noA) (gam_cons q_S_l01In gam_nil) rules0 Try.func65 (by kernel_rfl) (by kernel_rfl) (by exact @link _ (vcFunc tab (gOf [(43, fS_l01InC)]) R0 Try.f65 fS_l09RunC noA) (by kernel_rfl) v_S_l09Run)
theorem q_S_PlanOk : PureC Try.prog 41 fS_PlanOkC ∧ CallOk Try.prog 41 :=
  mk (A := aS_PlanOk) (gam_cons q_S_l09Log (gam_cons q_S_l09Run gam_nil)) rules0 Try.func41 (by kernel_rfl) (by kernel_rfl) (by exact @link _ (vcFunc tab (gOf [(64, fS_l09LogC), (65, fS_l09RunC)]) R0 Try.f41 fS_PlanOkC aS_PlanOk) (by kernel_rfl) v_S_PlanOk)
theorem q_S_l03Elements : PureC Try.prog 67 fS_l03ElementsC ∧ CallOk Try.prog 67 :=
  mk (A := aS_l03Elements) (gam_cons q_S_Modulus (gam_cons q_S_l01In gam_nil)) rules0 Try.func67 (by kernel_rfl) (by kernel_rfl) (by exact @link _ (vcFunc tab (gOf [(87, fS_ModulusC), (43, fS_l01InC)]) R0 Try.f67 fS_l03ElementsC aS_l03Elements) (by kernel_rfl) v_S_l03Elements)
theorem q_S_VectorOk : PureC Try.prog 42 fS_VectorOkC ∧ CallOk Try.prog 42 :=
  mk (A := noA) (gam_cons q_S_LogOf (gam_cons q_S_TwoPower (gam_cons q_S_l03Elements gam_nil))) rules0 Try.func42 (by kernel_rfl) (by kernel_rfl) (by exact @link _ (vcFunc tab (gOf [(63, fS_LogOfC), (66, fS_TwoPowerC), (67, fS_l03ElementsC)]) R0 Try.f42 fS_VectorOkC noA) (by kernel_rfl) v_S_VectorOk)
theorem q_S_TurnerOk : PureC Try.prog 10 fS_TurnerOkC ∧ CallOk Try.prog 10 :=
  mk (A := noA) (gam_cons q_S_PlanOk (gam_cons q_S_VectorOk (gam_cons q_S_l01In gam_nil))) rules0 Try.func10 (by kernel_rfl) (by kernel_rfl) (by exact @link _ (vcFunc tab (gOf [(41, fS_PlanOkC), (42, fS_VectorOkC), (43, fS_l01InC)]) R0 Try.f10 fS_TurnerOkC noA) (by kernel_rfl) v_S_TurnerOk)
theorem q_S_StartTurner : PureC Try.prog 23 fS_StartTurnerC ∧ CallOk Try.prog 23 :=
  mk (A := noA) (gam_cons q_S_l15Plan (gam_cons q_S_Permute (gam_cons q_S_TurnerOk gam_nil))) rules0 Try.func23 (by kernel_rfl) (by kernel_rfl) (by exact @link _ (vcFunc tab (gOf [(48, fS_l15PlanC), (49, fS_PermuteC), (10, fS_TurnerOkC)]) R0 Try.f23 fS_StartTurnerC noA) (by kernel_rfl) v_S_StartTurner)
theorem q_L_cpPlan : PureC Try.prog 34 fL_cpPlanC ∧ CallOk Try.prog 34 :=
  mk (A := aL_cpPlan) gam_nil rules0 Try.func34 (by kernel_rfl) (by kernel_rfl) (by exact @link _ (vcFunc tab (gOf []) R0 Try.f34 fL_cpPlanC aL_cpPlan) (by kernel_rfl) v_L_cpPlan)
theorem q_L_cp : PureC Try.prog 35 fL_cpC ∧ CallOk Try.prog 35 :=
  mk (A := aL_cp) gam_nil rules0 Try.func35 (by kernel_rfl) (by kernel_rfl) (by exact @link _ (vcFunc tab (gOf []) R0 Try.f35 fL_cpC aL_cp) (by kernel_rfl) v_L_cp)
theorem q_I_fieldOf : PureC Try.prog 58 fI_fieldOfC ∧ CallOk Try.prog 58 :=
  mk (A := noA) gam_nil rules0 Try.func58 (by kernel_rfl) (by kernel_rfl) (by exact @link _ (vcFunc tab (gOf []) R0 Try.f58 fI_fieldOfC noA) (by kernel_rfl) v_I_fieldOf)
theorem q_I_logOf : PureC Try.prog 73 fI_logOfC ∧ CallOk Try.prog 73 :=
  mk (A := aI_logOf) gam_nil rules0 Try.func73 (by kernel_rfl) (by kernel_rfl) (by exact @link _ (vcFunc tab (gOf []) R0 Try.f73 fI_logOfC aI_logOf) (by kernel_rfl) v_I_logOf)
theorem q_I_areElements : PureC Try.prog 90 fI_areElementsC ∧ CallOk Try.prog 90 :=
  mk (A := aI_areElements) gam_nil rules0 Try.func90 (by kernel_rfl) (by kernel_rfl) (by exact @link _ (vcFunc tab (gOf []) R0 Try.f90 fI_areElementsC aI_areElements) (by kernel_rfl) v_I_areElements)
theorem q_I_vectorField : PureC Try.prog 68 fI_vectorFieldC ∧ CallOk Try.prog 68 :=
  mk (A := aI_vectorField) (gam_cons q_I_fieldOf (gam_cons q_I_logOf (gam_cons q_I_areElements gam_nil))) rules0 Try.func68 (by kernel_rfl) (by kernel_rfl) (by exact @link _ (vcFunc tab (gOf [(58, fI_fieldOfC), (73, fI_logOfC), (90, fI_areElementsC)]) R0 Try.f68 fI_vectorFieldC aI_vectorField) (by kernel_rfl) v_I_vectorField)
theorem q_I_isStep : PureC Try.prog 91 fI_isStepC ∧ CallOk Try.prog 91 :=
  mk (A := noA) gam_nil rules0 Try.func91 (by kernel_rfl) (by kernel_rfl) (by exact @link _ (vcFunc tab (gOf []) R0 Try.f91 fI_isStepC noA) (by kernel_rfl) v_I_isStep)
theorem q_I_isPlan : PureC Try.prog 69 fI_isPlanC ∧ CallOk Try.prog 69 :=
  mk (A := aI_isPlan) (gam_cons q_I_fieldOf (gam_cons q_I_isStep gam_nil)) rules0 Try.func69 (by kernel_rfl) (by kernel_rfl) (by exact @link _ (vcFunc tab (gOf [(58, fI_fieldOfC), (91, fI_isStepC)]) R0 Try.f69 fI_isPlanC aI_isPlan) (by kernel_rfl) v_I_isPlan)
theorem q_I_isTurner : PureC Try.prog 44 fI_isTurnerC ∧ CallOk Try.prog 44 :=
  mk (A := noA) (gam_cons q_I_vectorField (gam_cons q_I_isPlan gam_nil)) rules0 Try.func44 (by kernel_rfl) (by kernel_rfl) (by exact @link _ (vcFunc tab (gOf [(68, fI_vectorFieldC), (69, fI_isPlanC)]) R0 Try.f44 fI_isTurnerC noA) (by kernel_rfl) v_I_isTurner)
theorem q_I_copyTurner : PureC Try.prog 51 fI_copyTurnerC ∧ CallOk Try.prog 51 :=
  mk (A := noA) gam_nil rules0 Try.func51 (by kernel_rfl) (by kernel_rfl) (by exact @link _ (vcFunc tab (gOf []) R0 Try.f51 fI_copyTurnerC noA) (by kernel_rfl) v_I_copyTurner)
theorem q_I_reversed : PureC Try.prog 74 fI_reversedC ∧ CallOk Try.prog 74 :=
  mk (A := aI_reversed) gam_nil rules0 Try.func74 (by kernel_rfl) (by kernel_rfl) (by exact @link _ (vcFunc tab (gOf []) R0 Try.f74 fI_reversedC aI_reversed) (by kernel_rfl) v_I_reversed)
theorem q_I_permuted : PureC Try.prog 52 fI_permutedC ∧ CallOk Try.prog 52 :=
  mk (A := aI_permuted) (gam_cons q_I_logOf (gam_cons q_I_reversed gam_nil)) rules0 Try.func52 (by kernel_rfl) (by kernel_rfl) (by exact @link _ (vcFunc tab (gOf [(73, fI_logOfC), (74, fI_reversedC)]) R0 Try.f52 fI_permutedC aI_permuted) (by kernel_rfl) v_I_permuted)
theorem q_I_StartTurner : PureC Try.prog 26 fI_StartTurnerC ∧ CallOk Try.prog 26 :=
  mk (A := noA) (gam_cons q_I_isTurner (gam_cons q_I_copyTurner (gam_cons q_I_permuted gam_nil))) rules0 Try.func26 (by kernel_rfl) (by kernel_rfl) (by exact @link _ (vcFunc tab (gOf [(44, fI_isTurnerC), (51, fI_copyTurnerC), (52, fI_permutedC)]) R0 Try.f26 fI_StartTurnerC noA) (by kernel_rfl) v_I_StartTurner)
theorem q_I_LeftUnits : PureC Try.prog 15 fI_LeftUnitsC ∧ CallOk Try.prog 15 :=
  mk (A := aI_LeftUnits) (gam_cons q_I_isTurner gam_nil) rules0 Try.func15 (by kernel_rfl) (by kernel_rfl) (by exact @link _ (vcFunc tab (gOf [(44, fI_isTurnerC)]) R0 Try.f15 fI_LeftUnitsC aI_LeftUnits) (by kernel_rfl) v_I_LeftUnits)
theorem q_S_PlanCost : PureC Try.prog 36 fS_PlanCostC ∧ CallOk Try.prog 36 :=
  mk (A := noA) (gam_cons q_S_PlanOk gam_nil) rules0 Try.func36 (by kernel_rfl) (by kernel_rfl) (by exact @link _ (vcFunc tab (gOf [(41, fS_PlanOkC)]) R0 Try.f36 fS_PlanCostC noA) (by kernel_rfl) v_S_PlanCost)
theorem q_L_at : PureC Try.prog 37 fL_atC ∧ CallOk Try.prog 37 :=
  mk (A := noA) gam_nil rules0 Try.func37 (by kernel_rfl) (by kernel_rfl) (by exact @link _ (vcFunc tab (gOf []) R0 Try.f37 fL_atC noA) (by kernel_rfl) v_L_at)
theorem q_I_mul : PureC Try.prog 79 fI_mulC ∧ CallOk Try.prog 79 :=
  mk (A := noA) gam_nil rules0 Try.func79 (by kernel_rfl) (by kernel_rfl) (by exact @link _ (vcFunc tab (gOf []) R0 Try.f79 fI_mulC noA) (by kernel_rfl) v_I_mul)
theorem q_I_power : PureC Try.prog 80 fI_powerC ∧ CallOk Try.prog 80 :=
  mk (A := aI_power) (gam_cons q_I_mul gam_nil) rules0 Try.func80 (by kernel_rfl) (by kernel_rfl) (by exact @link _ (vcFunc tab (gOf [(79, fI_mulC)]) R0 Try.f80 fI_powerC aI_power) (by kernel_rfl) v_I_power)
theorem q_I_root : PureC Try.prog 78 fI_rootC ∧ CallOk Try.prog 78 :=
  mk (A := noA) (gam_cons q_I_power gam_nil) rules0 Try.func78 (by kernel_rfl) (by kernel_rfl) (by exact @link _ (vcFunc tab (gOf [(80, fI_powerC)]) R0 Try.f78 fI_rootC noA) (by kernel_rfl) v_I_root)
theorem q_I_add : PureC Try.prog 81 fI_addC ∧ CallOk Try.prog 81 :=
  mk (A := noA) gam_nil rules0 Try.func81 (by kernel_rfl) (by kernel_rfl) (by exact @link _ (vcFunc tab (gOf []) R0 Try.f81 fI_addC noA) (by kernel_rfl) v_I_add)
theorem q_I_sub : PureC Try.prog 82 fI_subC ∧ CallOk Try.prog 82 :=
  mk (A := noA) gam_nil rules0 Try.func82 (by kernel_rfl) (by kernel_rfl) (by exact @link _ (vcFunc tab (gOf []) R0 Try.f82 fI_subC noA) (by kernel_rfl) v_I_sub)
theorem q_I_runStep : PureC Try.prog 59 fI_runStepC ∧ CallOk Try.prog 59 :=
  mk (A := aI_runStep) (gam_cons q_I_root (gam_cons q_I_power (gam_cons q_I_mul (gam_cons q_I_add (gam_cons q_I_sub gam_nil))))) rules0 Try.func59 (by kernel_rfl) (by kernel_rfl) (by exact @link _ (vcFunc tab (gOf [(78, fI_rootC), (80, fI_powerC), (79, fI_mulC), (81, fI_addC), (82, fI_subC)]) R0 Try.f59 fI_runStepC aI_runStep) (by kernel_rfl) v_I_runStep)
theorem q_I_Advance : PureC Try.prog 31 fI_AdvanceC ∧ CallOk Try.prog 31 :=
  mk (A := aI_Advance) (gam_cons q_I_isTurner (gam_cons q_I_copyTurner (gam_cons q_I_fieldOf (gam_cons q_I_runStep gam_nil)))) rules0 Try.func31 (by kernel_rfl) (by kernel_rfl) (by exact @link _ (vcFunc tab (gOf [(44, fI_isTurnerC), (51, fI_copyTurnerC), (58, fI_fieldOfC), (59, fI_runStepC)]) R0 Try.f31 fI_AdvanceC aI_Advance) (by kernel_rfl) v_I_Advance)
theorem q_I_Finished : PureC Try.prog 17 fI_FinishedC ∧ CallOk Try.prog 17 :=
  mk (A := noA) (gam_cons q_I_isTurner gam_nil) rules0 Try.func17 (by kernel_rfl) (by kernel_rfl) (by exact @link _ (vcFunc tab (gOf [(44, fI_isTurnerC)]) R0 Try.f17 fI_FinishedC noA) (by kernel_rfl) v_I_Finished)
theorem q_L_same : PureC Try.prog 38 fL_sameC ∧ CallOk Try.prog 38 :=
  mk (A := aL_same) gam_nil rules0 Try.func38 (by kernel_rfl) (by kernel_rfl) (by exact @link _ (vcFunc tab (gOf []) R0 Try.f38 fL_sameC aL_same) (by kernel_rfl) v_L_same)
theorem q_S_Generator : PureC Try.prog 89 fS_GeneratorC ∧ CallOk Try.prog 89 :=
  mk (A := noA) gam_nil rules0 Try.func89 (by kernel_rfl) (by kernel_rfl) (by exact @link _ (vcFunc tab (gOf []) R0 Try.f89 fS_GeneratorC noA) (by kernel_rfl) v_S_Generator)
theorem q_S_Reduce : PureC Try.prog 99 fS_ReduceC ∧ CallOk Try.prog 99 :=
  mk (A := noA) (gam_cons q_S_Modulus gam_nil) rules0 Try.func99 (by kernel_rfl) (by kernel_rfl) (by exact @link _ (vcFunc tab (gOf [(87, fS_ModulusC)]) R0 Try.f99 fS_ReduceC noA) (by kernel_rfl) v_S_Reduce)
theorem q_S_Power : PureC Try.prog 88 fS_PowerC ∧ CallOk Try.prog 88 :=
  mk (A := aS_Power) (gam_cons q_S_Modulus (gam_cons q_S_Reduce gam_nil)) rules0 Try.func88 (by kernel_rfl) (by kernel_rfl) (by exact @link _ (vcFunc tab (gOf [(87, fS_ModulusC), (99, fS_ReduceC)]) R0 Try.f88 fS_PowerC aS_Power) (by kernel_rfl) v_S_Power)
theorem q_S_RootOf : PureC Try.prog 62 fS_RootOfC ∧ CallOk Try.prog 62 :=
  mk (A := noA) (gam_cons q_S_Modulus (gam_cons q_S_TwoPower (gam_cons q_S_l01In (gam_cons q_S_Generator (gam_cons q_S_Power gam_nil))))) rules0 Try.func62 (by kernel_rfl) (by kernel_rfl) (by exact @link _ (vcFunc tab (gOf [(87, fS_ModulusC), (66, fS_TwoPowerC), (43, fS_l01InC), (89, fS_GeneratorC), (88, fS_PowerC)]) R0 Try.f62 fS_RootOfC noA) (by kernel_rfl) v_S_RootOf)
theorem q_S_l04Sum : PureC Try.prog 61 fS_l04SumC ∧ CallOk Try.prog 61 :=
  mk (A := aS_l04Sum) (gam_cons q_S_Modulus gam_nil) rules0 Try.func61 (by kernel_rfl) (by kernel_rfl) (by exact @link _ (vcFunc tab (gOf [(87, fS_ModulusC)]) R0 Try.f61 fS_l04SumC aS_l04Sum) (by kernel_rfl) v_S_l04Sum)
theorem q_S_Forward : PureC Try.prog 39 fS_ForwardC ∧ CallOk Try.prog 39 :=
  mk (A := noA) (gam_cons q_S_VectorOk (gam_cons q_S_LogOf (gam_cons q_S_RootOf (gam_cons q_S_l04Sum gam_nil)))) rules0 Try.func39 (by kernel_rfl) (by kernel_rfl) (by exact @link _ (vcFunc tab (gOf [(42, fS_VectorOkC), (63, fS_LogOfC), (62, fS_RootOfC), (61, fS_l04SumC)]) R0 Try.f39 fS_ForwardC noA) (by kernel_rfl) v_S_Forward)
-- LAW
theorem q_law : PureC Try.prog 8 (lawC [.sl (.int .u8)]) ∧ CallOk Try.prog 8 :=
  mk (A := aL_FnStop) (gam_cons q_L_big (gam_cons q_S_StartTurner (gam_cons q_L_cpPlan (gam_cons q_L_cp (gam_cons q_I_StartTurner (gam_cons q_I_LeftUnits (gam_cons q_S_PlanCost (gam_cons q_L_at (gam_cons q_I_Advance (gam_cons q_I_Finished (gam_cons q_L_same (gam_cons q_S_Forward gam_nil)))))))))))) (rul_cons q_S_DrawStartTurnerQ rul_nil) Try.func8 (by kernel_rfl) (by kernel_rfl) (by exact @link _ (vcFunc tab (gOf [(32, fL_bigC), (23, fS_StartTurnerC), (34, fL_cpPlanC), (35, fL_cpC), (26, fI_StartTurnerC), (15, fI_LeftUnitsC), (36, fS_PlanCostC), (37, fL_atC), (31, fI_AdvanceC), (17, fI_FinishedC), (38, fL_sameC), (39, fS_ForwardC)]) (rOf [(33, qgRule fS_DrawStartTurnerQC)]) Try.f8 (lawC [.sl (.int .u8)]) aL_FnStop) (by kernel_rfl) v_FnStopAnywhere)
end Go.SF
