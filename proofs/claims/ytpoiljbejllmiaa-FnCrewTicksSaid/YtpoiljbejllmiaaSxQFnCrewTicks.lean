/- FnCrewTicks: the functions keep their contracts. No condition. -/
import Derived.Test.YtpoiljbejllmiaaSxPCode
import Derived.Test.YtpoiljbejllmiaaSxPLine
import Derived.Test.YtpoiljbejllmiaaSxPCrew
import Derived.Test.YtpoiljbejllmiaaSxPCrew2
import Derived.Test.YtpoiljbejllmiaaSxPFnCrewTicks
import Derived.Test.YtpoiljbejllmiaaSxTab
import Derived.Test.YtpoiljbejllmiaaChecked
import Derived.KernelRfl
namespace Go.SF
open Go.SX Go.Proofs
set_option maxRecDepth 100000
set_option linter.unusedVariables false
theorem rules0 {P : Program} : RulesOk P R0 := fun f r h => by cases h
theorem gam_nil {P : Program} : GamOk P (gOf []) := fun f c h => by cases h
theorem gam_cons {P : Program} {k : Nat} {c : PC} {r : List (Nat × PC)} (h : PureC P k c ∧ CallOk P k) (hr : GamOk P (gOf r)) : GamOk P (gOf ((k, c) :: r)) := by
  intro f c' h'
  unfold gOf at h'
  split at h'
  · rename_i e
    injection h' with h'
    subst h'; subst e
    exact h
  · exact hr f c' h'
theorem rul_nil {P : Program} : RulesOk P (rOf []) := fun f c h => by cases h
theorem rul_cons {P : Program} {k : Nat} {c : MC} {r : List (Nat × MC)} (h : RuleOk P k (ruleOf c) ∧ CallOk P k) (hr : RulesOk P (rOf r)) : RulesOk P (rOf ((k, c) :: r)) := by
  intro f c' h'
  unfold rOf at h'
  split at h'
  · rename_i e
    injection h' with h'
    subst h'; subst e
    exact h
  · exact hr f c' h'
theorem tabOk : TabOk Try.prog tab := tabOk_of (by kernel_rfl)
theorem mixed : Try.prog.follows .mixedOrders = true := by kernel_rfl
theorem mk {Γ : FuncId → Option PC} {f : FuncId} {fn : Func} {c : PC} {A : Tup c.ts → Nat → Option Ann} {R : FuncId → Option Rule} (hΓ : GamOk Try.prog Γ) (hR : RulesOk Try.prog R) (hf : Try.prog.funcs[f]? = some fn) (h1 : (fn.name == "runtime.NumGoroutine") = false) (h2 : fn.body.isNone = false)
    (h : vcFunc tab Γ R fn c A) : PureC Try.prog f c ∧ CallOk Try.prog f := ⟨vcFunc_pure mixed tabOk hΓ hR hf h, fn, hf, h1, h2⟩
theorem mkM {Γ : FuncId → Option PC} {R : FuncId → Option Rule} {f : FuncId} {fn : Func} {c : MC} {A : c.t.den → Int → Nat → Option Ann} (hΓ : GamOk Try.prog Γ) (hR : RulesOk Try.prog R) (hf : Try.prog.funcs[f]? = some fn) (h1 : (fn.name == "runtime.NumGoroutine") = false) (h2 : fn.body.isNone = false)
    (hl : c.t.lendable = true) (h : vcMut tab Γ R fn c A) : RuleOk Try.prog f (ruleOf c) ∧ CallOk Try.prog f := ⟨vcMut_rule mixed tabOk hΓ hR hf hl h, fn, hf, h1, h2⟩
theorem link {p q : Prop} (h : p = q) (hp : p) : q := h ▸ hp
theorem q_L_big : PureC Try.prog 12 fL_bigC ∧ CallOk Try.prog 12 :=
  mk (A := noA) gam_nil rules0 Try.func12 (by kernel_rfl) (by kernel_rfl) (by exact @link _ (vcFunc tab (gOf []) R0 Try.f12 fL_bigC noA) (by kernel_rfl) v_L_big)
theorem q_L_at : PureC Try.prog 13 fL_atC ∧ CallOk Try.prog 13 :=
  mk (A := noA) gam_nil rules0 Try.func13 (by kernel_rfl) (by kernel_rfl) (by exact @link _ (vcFunc tab (gOf []) R0 Try.f13 fL_atC noA) (by kernel_rfl) v_L_at)
theorem q_I_isTicket : PureC Try.prog 53 fI_isTicketC ∧ CallOk Try.prog 53 :=
  mk (A := noA) gam_nil rules0 Try.func53 (by kernel_rfl) (by kernel_rfl) (by exact @link _ (vcFunc tab (gOf []) R0 Try.f53 fI_isTicketC noA) (by kernel_rfl) v_I_isTicket)
theorem q_I_handOf1 : PureC Try.prog 58 fI_handOf1C ∧ CallOk Try.prog 58 :=
  mk (A := noA) gam_nil rules0 Try.func58 (by kernel_rfl) (by kernel_rfl) (by exact @link _ (vcFunc tab (gOf []) R0 Try.f58 fI_handOf1C noA) (by kernel_rfl) v_I_handOf1)
theorem q_G_IndexFuncHd : PureC Try.prog 57 (fG_IndexFuncHdC 58) ∧ CallOk Try.prog 57 :=
  mk (A := aG_IndexFuncHd) (gam_cons q_I_handOf1 gam_nil) rules0 Try.func57 (by kernel_rfl) (by kernel_rfl) (by exact @link _ (vcFunc tab (gOf [(58, fI_handOf1C)]) R0 Try.f57 (fG_IndexFuncHdC 58) aG_IndexFuncHd) (by kernel_rfl) v_G_IndexFuncHd)
theorem q_I_handOf : PureC Try.prog 54 fI_handOfC ∧ CallOk Try.prog 54 :=
  mk (A := noA) (gam_cons q_G_IndexFuncHd gam_nil) rules0 Try.func54 (by kernel_rfl) (by kernel_rfl) (by exact @link _ (vcFunc tab (gOf [(57, (fG_IndexFuncHdC 58))]) R0 Try.f54 fI_handOfC noA) (by kernel_rfl) v_I_handOf)
theorem q_I_isCrew : PureC Try.prog 39 fI_isCrewC ∧ CallOk Try.prog 39 :=
  mk (A := aI_isCrew) (gam_cons q_I_isTicket (gam_cons q_I_handOf gam_nil)) rules0 Try.func39 (by kernel_rfl) (by kernel_rfl) (by exact @link _ (vcFunc tab (gOf [(53, fI_isTicketC), (54, fI_handOfC)]) R0 Try.f39 fI_isCrewC aI_isCrew) (by kernel_rfl) v_I_isCrew)
theorem q_I_NewCrew : PureC Try.prog 14 fI_NewCrewC ∧ CallOk Try.prog 14 :=
  mk (A := noA) (gam_cons q_I_isCrew gam_nil) rules0 Try.func14 (by kernel_rfl) (by kernel_rfl) (by exact @link _ (vcFunc tab (gOf [(39, fI_isCrewC)]) R0 Try.f14 fI_NewCrewC noA) (by kernel_rfl) v_I_NewCrew)
theorem q_I_copyCrew : PureC Try.prog 42 fI_copyCrewC ∧ CallOk Try.prog 42 :=
  mk (A := noA) gam_nil rules0 Try.func42 (by kernel_rfl) (by kernel_rfl) (by exact @link _ (vcFunc tab (gOf []) R0 Try.f42 fI_copyCrewC noA) (by kernel_rfl) v_I_copyCrew)
theorem q_G_IndexHd : PureC Try.prog 41 fG_IndexHdC ∧ CallOk Try.prog 41 :=
  mk (A := aG_IndexHd) gam_nil rules0 Try.func41 (by kernel_rfl) (by kernel_rfl) (by exact @link _ (vcFunc tab (gOf []) R0 Try.f41 fG_IndexHdC aG_IndexHd) (by kernel_rfl) v_G_IndexHd)
theorem q_I_assign : PureC Try.prog 40 fI_assignC ∧ CallOk Try.prog 40 :=
  mk (A := noA) (gam_cons q_I_copyCrew (gam_cons q_I_isCrew (gam_cons q_G_IndexHd gam_nil))) rules0 Try.func40 (by kernel_rfl) (by kernel_rfl) (by exact @link _ (vcFunc tab (gOf [(42, fI_copyCrewC), (39, fI_isCrewC), (41, fG_IndexHdC)]) R0 Try.f40 fI_assignC noA) (by kernel_rfl) v_I_assign)
theorem q_I_Assign : PureC Try.prog 15 fI_AssignC ∧ CallOk Try.prog 15 :=
  mk (A := noA) (gam_cons q_I_assign gam_nil) rules0 Try.func15 (by kernel_rfl) (by kernel_rfl) (by exact @link _ (vcFunc tab (gOf [(40, fI_assignC)]) R0 Try.f15 fI_AssignC noA) (by kernel_rfl) v_I_Assign)
theorem q_I_IdleHand : PureC Try.prog 16 fI_IdleHandC ∧ CallOk Try.prog 16 :=
  mk (A := noA) (gam_cons q_I_isCrew (gam_cons q_G_IndexHd gam_nil)) rules0 Try.func16 (by kernel_rfl) (by kernel_rfl) (by exact @link _ (vcFunc tab (gOf [(39, fI_isCrewC), (41, fG_IndexHdC)]) R0 Try.f16 fI_IdleHandC noA) (by kernel_rfl) v_I_IdleHand)
theorem q_I_TicksLeft : PureC Try.prog 17 fI_TicksLeftC ∧ CallOk Try.prog 17 :=
  mk (A := aI_TicksLeft) (gam_cons q_I_isCrew gam_nil) rules0 Try.func17 (by kernel_rfl) (by kernel_rfl) (by exact @link _ (vcFunc tab (gOf [(39, fI_isCrewC)]) R0 Try.f17 fI_TicksLeftC aI_TicksLeft) (by kernel_rfl) v_I_TicksLeft)
theorem q_I_TickCrew : PureC Try.prog 18 fI_TickCrewC ∧ CallOk Try.prog 18 :=
  mk (A := aI_TickCrew) (gam_cons q_I_copyCrew (gam_cons q_I_isCrew gam_nil)) rules0 Try.func18 (by kernel_rfl) (by kernel_rfl) (by exact @link _ (vcFunc tab (gOf [(42, fI_copyCrewC), (39, fI_isCrewC)]) R0 Try.f18 fI_TickCrewC aI_TickCrew) (by kernel_rfl) v_I_TickCrew)
theorem q_I_BusyUnits : PureC Try.prog 19 fI_BusyUnitsC ∧ CallOk Try.prog 19 :=
  mk (A := aI_BusyUnits) (gam_cons q_I_isCrew gam_nil) rules0 Try.func19 (by kernel_rfl) (by kernel_rfl) (by exact @link _ (vcFunc tab (gOf [(39, fI_isCrewC)]) R0 Try.f19 fI_BusyUnitsC aI_BusyUnits) (by kernel_rfl) v_I_BusyUnits)
-- LAW
theorem q_law : PureC Try.prog 3 (lawC [.sl (.int .u8)]) ∧ CallOk Try.prog 3 :=
  mk (A := aL_FnCrewTicks) (gam_cons q_L_big (gam_cons q_L_at (gam_cons q_I_NewCrew (gam_cons q_I_Assign (gam_cons q_I_IdleHand (gam_cons q_I_TicksLeft (gam_cons q_I_TickCrew (gam_cons q_I_BusyUnits gam_nil)))))))) rules0 Try.func3 (by kernel_rfl) (by kernel_rfl) (by exact @link _ (vcFunc tab (gOf [(12, fL_bigC), (13, fL_atC), (14, fI_NewCrewC), (15, fI_AssignC), (16, fI_IdleHandC), (17, fI_TicksLeftC), (18, fI_TickCrewC), (19, fI_BusyUnitsC)]) R0 Try.f3 (lawC [.sl (.int .u8)]) aL_FnCrewTicks) (by kernel_rfl) v_FnCrewTicks)
end Go.SF
