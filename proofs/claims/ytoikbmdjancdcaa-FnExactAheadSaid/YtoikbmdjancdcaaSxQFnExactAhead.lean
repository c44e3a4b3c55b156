/- FnExactAhead: the functions keep their contracts. No condition. -/
import Derived.Test.YtoikbmdjancdcaaSxPLine
import Derived.Test.YtoikbmdjancdcaaSxPBase
import Derived.Test.YtoikbmdjancdcaaSxPFnExactAhead
import Derived.Test.YtoikbmdjancdcaaSxTab
import Derived.Test.YtoikbmdjancdcaaChecked
import Derived.KernelRfl
namespace Go.SF
open Go.SX Go.Proofs
set_option maxRecDepth 100000
set_option linter.unusedVariables false
theorem rules0 {P : Program} : RulesOk P R0 := fun f r h => by cases h
theorem gam_nil {P : Program} : GamOk P (gOf []) := fun f c h => by cases h
theorem gam_cons {P : Program} {k : Nat} {c : PC} {r : List (Nat × PC)} (h : PureC P k c ∧ CallOk P k) (hr : GamOk P (gOf r)) : GamOk P (gOf ((k, c) :: r)) := by
  intro f c' h'
  unfold gOf at h'
  split at h'
  · rename_i e
    injection h' with h'
    subst h'; subst e
    exact h
  · exact hr f c' h'
theorem tabOk : TabOk Try.prog tab := tabOk_of (by kernel_rfl)
theorem mixed : Try.prog.follows .mixedOrders = true := by kernel_rfl
theorem mk {Γ : FuncId → Option PC} {f : FuncId} {fn : Func} {c : PC} {A : Tup c.ts → Nat → Option Ann} (hΓ : GamOk Try.prog Γ) (hf : Try.prog.funcs[f]? = some fn) (h1 : (fn.name == "runtime.NumGoroutine") = false) (h2 : fn.body.isNone = false)
    (h : vcFunc tab Γ R0 fn c A) : PureC Try.prog f c ∧ CallOk Try.prog f := ⟨vcFunc_pure mixed tabOk hΓ rules0 hf h, fn, hf, h1, h2⟩
theorem link {p q : Prop} (h : p = q) (hp : p) : q := h ▸ hp
theorem q_L_szTicketS : PureC Try.prog 64 fL_szTicketSC ∧ CallOk Try.prog 64 :=
  mk (A := noA) gam_nil Try.func64 (by kernel_rfl) (by kernel_rfl) (by exact @link _ (vcFunc tab (gOf []) R0 Try.f64 fL_szTicketSC noA) (by kernel_rfl) v_L_szTicketS)
theorem q_L_szLine : PureC Try.prog 20 fL_szLineC ∧ CallOk Try.prog 20 :=
  mk (A := noA) (gam_cons q_L_szTicketS gam_nil) Try.func20 (by kernel_rfl) (by kernel_rfl) (by exact @link _ (vcFunc tab (gOf [(64, fL_szTicketSC)]) R0 Try.f20 fL_szLineC noA) (by kernel_rfl) v_L_szLine)
theorem q_S_l01In : PureC Try.prog 61 fS_l01InC ∧ CallOk Try.prog 61 :=
  mk (A := noA) gam_nil Try.func61 (by kernel_rfl) (by kernel_rfl) (by exact @link _ (vcFunc tab (gOf []) R0 Try.f61 fS_l01InC noA) (by kernel_rfl) v_S_l01In)
theorem q_S_l13Ticket : PureC Try.prog 91 fS_l13TicketC ∧ CallOk Try.prog 91 :=
  mk (A := noA) (gam_cons q_S_l01In gam_nil) Try.func91 (by kernel_rfl) (by kernel_rfl) (by exact @link _ (vcFunc tab (gOf [(61, fS_l01InC)]) R0 Try.f91 fS_l13TicketC noA) (by kernel_rfl) v_S_l13Ticket)
theorem q_S_LineOk : PureC Try.prog 65 fS_LineOkC ∧ CallOk Try.prog 65 :=
  mk (A := aS_LineOk) (gam_cons q_S_l13Ticket gam_nil) Try.func65 (by kernel_rfl) (by kernel_rfl) (by exact @link _ (vcFunc tab (gOf [(91, fS_l13TicketC)]) R0 Try.f65 fS_LineOkC aS_LineOk) (by kernel_rfl) v_S_LineOk)
theorem q_S_PlaceOf : PureC Try.prog 25 fS_PlaceOfC ∧ CallOk Try.prog 25 :=
  mk (A := aS_PlaceOf) (gam_cons q_S_LineOk gam_nil) Try.func25 (by kernel_rfl) (by kernel_rfl) (by exact @link _ (vcFunc tab (gOf [(65, fS_LineOkC)]) R0 Try.f25 fS_PlaceOfC aS_PlaceOf) (by kernel_rfl) v_S_PlaceOf)
theorem q_S_LineCost : PureC Try.prog 21 fS_LineCostC ∧ CallOk Try.prog 21 :=
  mk (A := aS_LineCost) (gam_cons q_S_LineOk gam_nil) Try.func21 (by kernel_rfl) (by kernel_rfl) (by exact @link _ (vcFunc tab (gOf [(65, fS_LineOkC)]) R0 Try.f21 fS_LineCostC aS_LineCost) (by kernel_rfl) v_S_LineCost)
theorem q_S_Ahead : PureC Try.prog 27 fS_AheadC ∧ CallOk Try.prog 27 :=
  mk (A := noA) (gam_cons q_S_PlaceOf (gam_cons q_S_LineCost gam_nil)) Try.func27 (by kernel_rfl) (by kernel_rfl) (by exact @link _ (vcFunc tab (gOf [(25, fS_PlaceOfC), (21, fS_LineCostC)]) R0 Try.f27 fS_AheadC noA) (by kernel_rfl) v_S_Ahead)
theorem q_L_toTicket : PureC Try.prog 30 fL_toTicketC ∧ CallOk Try.prog 30 :=
  mk (A := noA) gam_nil Try.func30 (by kernel_rfl) (by kernel_rfl) (by exact @link _ (vcFunc tab (gOf []) R0 Try.f30 fL_toTicketC noA) (by kernel_rfl) v_L_toTicket)
theorem q_L_toTicketS : PureC Try.prog 66 fL_toTicketSC ∧ CallOk Try.prog 66 :=
  mk (A := aL_toTicketS) (gam_cons q_L_toTicket gam_nil) Try.func66 (by kernel_rfl) (by kernel_rfl) (by exact @link _ (vcFunc tab (gOf [(30, fL_toTicketC)]) R0 Try.f66 fL_toTicketSC aL_toTicketS) (by kernel_rfl) v_L_toTicketS)
theorem q_L_toLine : PureC Try.prog 22 fL_toLineC ∧ CallOk Try.prog 22 :=
  mk (A := noA) (gam_cons q_L_toTicketS gam_nil) Try.func22 (by kernel_rfl) (by kernel_rfl) (by exact @link _ (vcFunc tab (gOf [(66, fL_toTicketSC)]) R0 Try.f22 fL_toLineC noA) (by kernel_rfl) v_L_toLine)
theorem q_I_placeOf1 : PureC Try.prog 94 fI_placeOf1C ∧ CallOk Try.prog 94 :=
  mk (A := noA) gam_nil Try.func94 (by kernel_rfl) (by kernel_rfl) (by exact @link _ (vcFunc tab (gOf []) R0 Try.f94 fI_placeOf1C noA) (by kernel_rfl) v_I_placeOf1)
theorem q_G_IndexFuncTk : PureC Try.prog 93 (fG_IndexFuncTkC 94) ∧ CallOk Try.prog 93 :=
  mk (A := aG_IndexFuncTk) (gam_cons q_I_placeOf1 gam_nil) Try.func93 (by kernel_rfl) (by kernel_rfl) (by exact @link _ (vcFunc tab (gOf [(94, fI_placeOf1C)]) R0 Try.f93 (fG_IndexFuncTkC 94) aG_IndexFuncTk) (by kernel_rfl) v_G_IndexFuncTk)
theorem q_I_placeOf : PureC Try.prog 70 fI_placeOfC ∧ CallOk Try.prog 70 :=
  mk (A := noA) (gam_cons q_G_IndexFuncTk gam_nil) Try.func70 (by kernel_rfl) (by kernel_rfl) (by exact @link _ (vcFunc tab (gOf [(93, (fG_IndexFuncTkC 94))]) R0 Try.f70 fI_placeOfC noA) (by kernel_rfl) v_I_placeOf)
theorem q_I_isTicket : PureC Try.prog 92 fI_isTicketC ∧ CallOk Try.prog 92 :=
  mk (A := noA) gam_nil Try.func92 (by kernel_rfl) (by kernel_rfl) (by exact @link _ (vcFunc tab (gOf []) R0 Try.f92 fI_isTicketC noA) (by kernel_rfl) v_I_isTicket)
theorem q_I_isLine : PureC Try.prog 67 fI_isLineC ∧ CallOk Try.prog 67 :=
  mk (A := aI_isLine) (gam_cons q_I_isTicket gam_nil) Try.func67 (by kernel_rfl) (by kernel_rfl) (by exact @link _ (vcFunc tab (gOf [(92, fI_isTicketC)]) R0 Try.f67 fI_isLineC aI_isLine) (by kernel_rfl) v_I_isLine)
theorem q_I_costOf : PureC Try.prog 68 fI_costOfC ∧ CallOk Try.prog 68 :=
  mk (A := aI_costOf) gam_nil Try.func68 (by kernel_rfl) (by kernel_rfl) (by exact @link _ (vcFunc tab (gOf []) R0 Try.f68 fI_costOfC aI_costOf) (by kernel_rfl) v_I_costOf)
theorem q_I_Ahead : PureC Try.prog 28 fI_AheadC ∧ CallOk Try.prog 28 :=
  mk (A := noA) (gam_cons q_I_placeOf (gam_cons q_I_isLine (gam_cons q_I_costOf gam_nil))) Try.func28 (by kernel_rfl) (by kernel_rfl) (by exact @link _ (vcFunc tab (gOf [(70, fI_placeOfC), (67, fI_isLineC), (68, fI_costOfC)]) R0 Try.f28 fI_AheadC noA) (by kernel_rfl) v_I_Ahead)
theorem q_L_eqTicket : PureC Try.prog 36 fL_eqTicketC ∧ CallOk Try.prog 36 :=
  mk (A := noA) gam_nil Try.func36 (by kernel_rfl) (by kernel_rfl) (by exact @link _ (vcFunc tab (gOf []) R0 Try.f36 fL_eqTicketC noA) (by kernel_rfl) v_L_eqTicket)
theorem q_L_eqTicketS : PureC Try.prog 69 fL_eqTicketSC ∧ CallOk Try.prog 69 :=
  mk (A := aL_eqTicketS) (gam_cons q_L_eqTicket gam_nil) Try.func69 (by kernel_rfl) (by kernel_rfl) (by exact @link _ (vcFunc tab (gOf [(36, fL_eqTicketC)]) R0 Try.f69 fL_eqTicketSC aL_eqTicketS) (by kernel_rfl) v_L_eqTicketS)
theorem q_L_eqLine : PureC Try.prog 24 fL_eqLineC ∧ CallOk Try.prog 24 :=
  mk (A := noA) (gam_cons q_L_eqTicketS gam_nil) Try.func24 (by kernel_rfl) (by kernel_rfl) (by exact @link _ (vcFunc tab (gOf [(69, fL_eqTicketSC)]) R0 Try.f24 fL_eqLineC noA) (by kernel_rfl) v_L_eqLine)
-- LAW
theorem q_law : PureC Try.prog 6 (lawC [lineT, i64T]) ∧ CallOk Try.prog 6 :=
  mk (A := noA) (gam_cons q_L_szLine (gam_cons q_S_Ahead (gam_cons q_L_toLine (gam_cons q_I_Ahead (gam_cons q_L_eqLine gam_nil))))) Try.func6 (by kernel_rfl) (by kernel_rfl) (by exact @link _ (vcFunc tab (gOf [(20, fL_szLineC), (27, fS_AheadC), (22, fL_toLineC), (28, fI_AheadC), (24, fL_eqLineC)]) R0 Try.f6 (lawC [lineT, i64T]) noA) (by kernel_rfl) v_FnExactAhead)
end Go.SF
