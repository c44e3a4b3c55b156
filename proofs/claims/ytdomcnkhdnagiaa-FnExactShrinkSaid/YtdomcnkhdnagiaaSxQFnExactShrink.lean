/- FnExactShrink: the functions keep their contracts. No condition. -/
import Derived.Test.YtdomcnkhdnagiaaSxPCache
import Derived.Test.YtdomcnkhdnagiaaSxPPlan
import Derived.Test.YtdomcnkhdnagiaaSxPCacheT
import Derived.Test.YtdomcnkhdnagiaaSxPBase
import Derived.Test.YtdomcnkhdnagiaaSxPIntS
import Derived.Test.YtdomcnkhdnagiaaSxPMark
import Derived.Test.YtdomcnkhdnagiaaSxPPlanB
import Derived.Test.YtdomcnkhdnagiaaSxPPlanC
import Derived.Test.YtdomcnkhdnagiaaSxPFnExactShrink
import Derived.Test.YtdomcnkhdnagiaaSxTab
import Derived.Test.YtdomcnkhdnagiaaChecked
import Derived.KernelRfl
namespace Go.SF
open Go.SX Go.Proofs
set_option maxRecDepth 100000
set_option linter.unusedVariables false
theorem rules0 {P : Program} : RulesOk P R0 := fun f r h _ => by cases h
theorem gam_nil {P : Program} : GamOk P (gOf []) := fun f c h => by cases h
theorem gam_cons {P : Program} {k : Nat} {c : PC} {r : List (Nat × PC)} (h : PureC P k c ∧ CallOk P k) (hr : GamOk P (gOf r)) : GamOk P (gOf ((k, c) :: r)) := by
  intro f c' h'
  unfold gOf at h'
  split at h'
  · rename_i e
    injection h' with h'
    subst h'; subst e
    exact h
  · exact hr f c' h'
theorem rul_nil {P : Program} : RulesOk P (rOf []) := fun f c h _ => by cases h
theorem rul_cons {P : Program} {k : Nat} {c : Rule} {r : List (Nat × Rule)} (h : RuleOk P k c ∧ CallOk P k) (hr : RulesOk P (rOf r)) : RulesOk P (rOf ((k, c) :: r)) := by
  intro f c' h' hne
  unfold rOf at h'
  split at h'
  · rename_i e
    injection h' with h'
    subst h'; subst e
    exact h
  · exact hr f c' h' hne
theorem rul_tell {P : Program} {r : List (Nat × Rule)} (hr : RulesOk P (rOf r)) : RulesOk P (rOf ((1000000, tellR) :: r)) := by
  intro f c' h' hne
  unfold rOf at h'
  split at h'
  · rename_i e
    exact absurd e hne
  · exact hr f c' h' hne
theorem tabOk : TabOk Try.prog tab := tabOk_of (by kernel_rfl)
theorem mixed : Try.prog.follows .mixedOrders = true := by kernel_rfl
theorem mk {Γ : FuncId → Option PC} {f : FuncId} {fn : Func} {c : PC} {A : Tup c.ts → Nat → Option Ann} {R : FuncId → Option Rule} (hΓ : GamOk Try.prog Γ) (hR : RulesOk Try.prog R) (hf : Try.prog.funcs[f]? = some fn) (h1 : (fn.name == "runtime.NumGoroutine") = false) (h2 : fn.body.isNone = false)
    (h : vcFunc tab Γ R fn c A) : PureC Try.prog f c ∧ CallOk Try.prog f := ⟨vcFunc_pure mixed tabOk hΓ hR hf h, fn, hf, h1, h2⟩
theorem mkM {Γ : FuncId → Option PC} {R : FuncId → Option Rule} {f : FuncId} {fn : Func} {c : MC} {A : c.t.den → Int → Nat → Option Ann} (hΓ : GamOk Try.prog Γ) (hR : RulesOk Try.prog R) (hf : Try.prog.funcs[f]? = some fn) (h1 : (fn.name == "runtime.NumGoroutine") = false) (h2 : fn.body.isNone = false)
    (hl : c.t.lendable = true) (h : vcMut tab Γ R fn c A) : RuleOk Try.prog f (ruleOf c) ∧ CallOk Try.prog f := ⟨vcMut_rule mixed tabOk hΓ hR hf hl h, fn, hf, h1, h2⟩
theorem mkTree {Γ : FuncId → Option PC} {R : FuncId → Option Rule} {f : FuncId} {fn : Func} {c : TC} {A : Tup c.ts → Nat → Option Ann} (hΓ : GamOk Try.prog Γ) (hR : RulesOk Try.prog R) (hf : Try.prog.funcs[f]? = some fn) (h1 : (fn.name == "runtime.NumGoroutine") = false) (h2 : fn.body.isNone = false)
    (h : vcTree tab Γ R fn c A) : TreeOk Try.prog f c ∧ CallOk Try.prog f := ⟨vcTree_ok mixed tabOk hΓ hR hf h, fn, hf, h1, h2⟩
theorem mkMark {Γ : FuncId → Option PC} {R : FuncId → Option Rule} {f : FuncId} {fn : Func} {c : MT} {A : c.t.den → Int → Nat → Option Ann} (hΓ : GamOk Try.prog Γ) (hR : RulesOk Try.prog R) (hf : Try.prog.funcs[f]? = some fn) (h1 : (fn.name == "runtime.NumGoroutine") = false) (h2 : fn.body.isNone = false)
    (hl : c.t.lendBy Ty.gcl = true) (h : vcMutT tab Γ R fn c A) : RuleOk Try.prog f (markRule c) ∧ CallOk Try.prog f := ⟨mark_rule mixed tabOk hΓ hR hf hl h, fn, hf, h1, h2⟩
theorem mkCut {Γ : FuncId → Option PC} {R : FuncId → Option Rule} {f : FuncId} {fn : Func} {c : CC} {A : List c.e.den → Nat → Option Ann} (hΓ : GamOk Try.prog Γ) (hR : RulesOk Try.prog R) (hf : Try.prog.funcs[f]? = some fn) (h1 : (fn.name == "runtime.NumGoroutine") = false) (h2 : fn.body.isNone = false)
    (hl : c.e.flat = true) (h : vcCut tab Γ R fn c A) : RuleOk Try.prog f (cutRule c) ∧ CallOk Try.prog f := ⟨vcCut_rule mixed tabOk hΓ hR hf hl h, fn, hf, h1, h2⟩
theorem mkBox {Γ : FuncId → Option PC} {R : FuncId → Option Rule} {f : FuncId} {fn : Func} {c : BC} {A : c.t.den → Tup c.ts → Nat → Option Ann} (hΓ : GamOk Try.prog Γ) (hR : RulesOk Try.prog R) (hf : Try.prog.funcs[f]? = some fn) (h1 : (fn.name == "runtime.NumGoroutine") = false) (h2 : fn.body.isNone = false)
    (h : vcBox tab Γ R fn c A) : RuleOk Try.prog f (boxRule c) ∧ CallOk Try.prog f := ⟨vcBox_rule mixed tabOk hΓ hR hf h, fn, hf, h1, h2⟩
theorem mkNew {Γ : FuncId → Option PC} {R : FuncId → Option Rule} {f : FuncId} {fn : Func} {c : NC} {A : Tup c.ts → Nat → Option Ann} (hΓ : GamOk Try.prog Γ) (hR : RulesOk Try.prog R) (hf : Try.prog.funcs[f]? = some fn) (h1 : (fn.name == "runtime.NumGoroutine") = false) (h2 : fn.body.isNone = false)
    (h : vcNew tab Γ R fn c A) : RuleOk Try.prog f (newRule c) ∧ CallOk Try.prog f := ⟨vcNew_rule mixed tabOk hΓ hR hf h, fn, hf, h1, h2⟩
theorem link {p q : Prop} (h : p = q) (hp : p) : q := h ▸ hp
theorem mkCutT {Γ : FuncId → Option PC} {R : FuncId → Option Rule} {f : FuncId} {fn : Func} {c : CT} {A : Int × List c.e.den → Nat → Option Ann} (hΓ : GamOk Try.prog Γ) (hR : RulesOk Try.prog R) (hf : Try.prog.funcs[f]? = some fn) (h1 : (fn.name == "runtime.NumGoroutine") = false) (h2 : fn.body.isNone = false)
    (hl : c.e.gcl = true) (h : vcCutT tab Γ R fn c A) : RuleOk Try.prog f (cutTRule c) ∧ CallOk Try.prog f := ⟨cutT_rule mixed tabOk hΓ hR hf hl h, fn, hf, h1, h2⟩
theorem q_L_szByteS : PureC Try.prog 67 fL_szByteSC ∧ CallOk Try.prog 67 :=
  mk (A := noA) gam_nil rules0 Try.func67 (by kernel_rfl) (by kernel_rfl) (by exact @link _ (vcFunc tab (gOf []) R0 Try.f67 fL_szByteSC noA) (by kernel_rfl) v_L_szByteS)
theorem q_L_szIntS : PureC Try.prog 52 fL_szIntSC ∧ CallOk Try.prog 52 :=
  mk (A := noA) gam_nil rules0 Try.func52 (by kernel_rfl) (by kernel_rfl) (by exact @link _ (vcFunc tab (gOf []) R0 Try.f52 fL_szIntSC noA) (by kernel_rfl) v_L_szIntS)
theorem q_L_szResult : PureC Try.prog 27 fL_szResultC ∧ CallOk Try.prog 27 :=
  mk (A := noA) (gam_cons q_L_szIntS gam_nil) rules0 Try.func27 (by kernel_rfl) (by kernel_rfl) (by exact @link _ (vcFunc tab (gOf [(52, fL_szIntSC)]) R0 Try.f27 fL_szResultC noA) (by kernel_rfl) v_L_szResult)
theorem q_L_szEntry : PureC Try.prog 55 fL_szEntryC ∧ CallOk Try.prog 55 :=
  mk (A := noA) (gam_cons q_L_szByteS (gam_cons q_L_szResult gam_nil)) rules0 Try.func55 (by kernel_rfl) (by kernel_rfl) (by exact @link _ (vcFunc tab (gOf [(67, fL_szByteSC), (27, fL_szResultC)]) R0 Try.f55 fL_szEntryC noA) (by kernel_rfl) v_L_szEntry)
theorem q_L_szEntryS : PureC Try.prog 31 fL_szEntrySC ∧ CallOk Try.prog 31 :=
  mk (A := aL_szEntryS) (gam_cons q_L_szEntry gam_nil) rules0 Try.func31 (by kernel_rfl) (by kernel_rfl) (by exact @link _ (vcFunc tab (gOf [(55, fL_szEntryC)]) R0 Try.f31 fL_szEntrySC aL_szEntryS) (by kernel_rfl) v_L_szEntryS)
theorem q_L_szCache : PureC Try.prog 8 fL_szCacheC ∧ CallOk Try.prog 8 :=
  mk (A := noA) (gam_cons q_L_szEntryS gam_nil) rules0 Try.func8 (by kernel_rfl) (by kernel_rfl) (by exact @link _ (vcFunc tab (gOf [(31, fL_szEntrySC)]) R0 Try.f8 fL_szCacheC noA) (by kernel_rfl) v_L_szCache)
theorem q_L_toByteS : PureC Try.prog 20 fL_toByteSC ∧ CallOk Try.prog 20 :=
  mk (A := aL_toByteS) gam_nil rules0 Try.func20 (by kernel_rfl) (by kernel_rfl) (by exact @link _ (vcFunc tab (gOf []) R0 Try.f20 fL_toByteSC aL_toByteS) (by kernel_rfl) v_L_toByteS)
theorem q_L_toIntS : PureC Try.prog 53 fL_toIntSC ∧ CallOk Try.prog 53 :=
  mk (A := aL_toIntS) gam_nil rules0 Try.func53 (by kernel_rfl) (by kernel_rfl) (by exact @link _ (vcFunc tab (gOf []) R0 Try.f53 fL_toIntSC aL_toIntS) (by kernel_rfl) v_L_toIntS)
theorem q_L_toResult : PureC Try.prog 29 fL_toResultC ∧ CallOk Try.prog 29 :=
  mk (A := noA) (gam_cons q_L_toIntS gam_nil) rules0 Try.func29 (by kernel_rfl) (by kernel_rfl) (by exact @link _ (vcFunc tab (gOf [(53, fL_toIntSC)]) R0 Try.f29 fL_toResultC noA) (by kernel_rfl) v_L_toResult)
theorem q_L_toEntry : PureC Try.prog 56 fL_toEntryC ∧ CallOk Try.prog 56 :=
  mk (A := noA) (gam_cons q_L_toByteS (gam_cons q_L_toResult gam_nil)) rules0 Try.func56 (by kernel_rfl) (by kernel_rfl) (by exact @link _ (vcFunc tab (gOf [(20, fL_toByteSC), (29, fL_toResultC)]) R0 Try.f56 fL_toEntryC noA) (by kernel_rfl) v_L_toEntry)
theorem q_L_toEntryS : PureC Try.prog 35 fL_toEntrySC ∧ CallOk Try.prog 35 :=
  mk (A := aL_toEntryS) (gam_cons q_L_toEntry gam_nil) rules0 Try.func35 (by kernel_rfl) (by kernel_rfl) (by exact @link _ (vcFunc tab (gOf [(56, fL_toEntryC)]) R0 Try.f35 fL_toEntrySC aL_toEntryS) (by kernel_rfl) v_L_toEntryS)
theorem q_L_toCache : PureC Try.prog 10 fL_toCacheC ∧ CallOk Try.prog 10 :=
  mk (A := noA) (gam_cons q_L_toEntryS gam_nil) rules0 Try.func10 (by kernel_rfl) (by kernel_rfl) (by exact @link _ (vcFunc tab (gOf [(35, fL_toEntrySC)]) R0 Try.f10 fL_toCacheC noA) (by kernel_rfl) v_L_toCache)
theorem qt_L_toEntryST : TreeOk Try.prog 35 fL_toEntrySTC ∧ CallOk Try.prog 35 :=
  mkTree (A := aL_toEntryST) (gam_cons q_L_toEntry gam_nil) (rul_tell rul_nil) Try.func35 (by kernel_rfl) (by kernel_rfl) (by exact @link _ (vcTree tab (gOf [(56, fL_toEntryC)]) (rOf [(1000000, tellR)]) Try.f35 fL_toEntrySTC aL_toEntryST) (by kernel_rfl) v_L_toEntryST)
theorem q_L_toEntryST : RuleOk Try.prog 35 (treeRule fL_toEntrySTC) ∧ CallOk Try.prog 35 := ⟨tree_rule qt_L_toEntryST.1, qt_L_toEntryST.2⟩
theorem qt_L_toCacheT : TreeOk Try.prog 10 fL_toCacheTC ∧ CallOk Try.prog 10 :=
  mkTree (A := noA) gam_nil (rul_tell (rul_cons q_L_toEntryST rul_nil)) Try.func10 (by kernel_rfl) (by kernel_rfl) (by exact @link _ (vcTree tab (gOf []) (rOf [(1000000, tellR), (35, treeRule fL_toEntrySTC)]) Try.f10 fL_toCacheTC noA) (by kernel_rfl) v_L_toCacheT)
theorem q_L_toCacheT : RuleOk Try.prog 10 (treeRule fL_toCacheTC) ∧ CallOk Try.prog 10 := ⟨tree_rule qt_L_toCacheT.1, qt_L_toCacheT.2⟩
theorem q_S_l01Bytes : PureC Try.prog 60 fS_l01BytesC ∧ CallOk Try.prog 60 :=
  mk (A := aS_l01Bytes) gam_nil rules0 Try.func60 (by kernel_rfl) (by kernel_rfl) (by exact @link _ (vcFunc tab (gOf []) R0 Try.f60 fS_l01BytesC aS_l01Bytes) (by kernel_rfl) v_S_l01Bytes)
theorem q_S_l01Copy : PureC Try.prog 63 fS_l01CopyC ∧ CallOk Try.prog 63 :=
  mk (A := aS_l01Copy) gam_nil rules0 Try.func63 (by kernel_rfl) (by kernel_rfl) (by exact @link _ (vcFunc tab (gOf []) R0 Try.f63 fS_l01CopyC aS_l01Copy) (by kernel_rfl) v_S_l01Copy)
theorem q_S_l16CopyRes : PureC Try.prog 47 fS_l16CopyResC ∧ CallOk Try.prog 47 :=
  mk (A := noA) (gam_cons q_S_l01Copy gam_nil) rules0 Try.func47 (by kernel_rfl) (by kernel_rfl) (by exact @link _ (vcFunc tab (gOf [(63, fS_l01CopyC)]) R0 Try.f47 fS_l16CopyResC noA) (by kernel_rfl) v_S_l16CopyRes)
theorem q_S_l16Copy : PureC Try.prog 40 fS_l16CopyC ∧ CallOk Try.prog 40 :=
  mk (A := aS_l16Copy) (gam_cons q_S_l01Bytes (gam_cons q_S_l16CopyRes gam_nil)) rules0 Try.func40 (by kernel_rfl) (by kernel_rfl) (by exact @link _ (vcFunc tab (gOf [(60, fS_l01BytesC), (47, fS_l16CopyResC)]) R0 Try.f40 fS_l16CopyC aS_l16Copy) (by kernel_rfl) v_S_l16Copy)
theorem q_S_l16CopyT : RuleOk Try.prog 40 (treeRule fS_l16CopyTC) ∧ CallOk Try.prog 40 := ⟨tree_rule (tell_of_pure (p := fS_l16CopyC) rfl q_S_l16Copy.1 rfl rfl), q_S_l16Copy.2⟩
theorem q_S_l01In : PureC Try.prog 32 fS_l01InC ∧ CallOk Try.prog 32 :=
  mk (A := noA) gam_nil rules0 Try.func32 (by kernel_rfl) (by kernel_rfl) (by exact @link _ (vcFunc tab (gOf []) R0 Try.f32 fS_l01InC noA) (by kernel_rfl) v_S_l01In)
theorem q_S_l01Same : PureC Try.prog 33 fS_l01SameC ∧ CallOk Try.prog 33 :=
  mk (A := aS_l01Same) gam_nil rules0 Try.func33 (by kernel_rfl) (by kernel_rfl) (by exact @link _ (vcFunc tab (gOf []) R0 Try.f33 fS_l01SameC aS_l01Same) (by kernel_rfl) v_S_l01Same)
theorem q_S_l16Weight : PureC Try.prog 34 fS_l16WeightC ∧ CallOk Try.prog 34 :=
  mk (A := noA) gam_nil rules0 Try.func34 (by kernel_rfl) (by kernel_rfl) (by exact @link _ (vcFunc tab (gOf []) R0 Try.f34 fS_l16WeightC noA) (by kernel_rfl) v_S_l16Weight)
theorem q_S_CacheOk : PureC Try.prog 9 fS_CacheOkC ∧ CallOk Try.prog 9 :=
  mk (A := aS_CacheOk) (gam_cons q_S_l01In (gam_cons q_S_l01Same (gam_cons q_S_l16Weight gam_nil))) rules0 Try.func9 (by kernel_rfl) (by kernel_rfl) (by exact @link _ (vcFunc tab (gOf [(32, fS_l01InC), (33, fS_l01SameC), (34, fS_l16WeightC)]) R0 Try.f9 fS_CacheOkC aS_CacheOk) (by kernel_rfl) v_S_CacheOk)
theorem q_S_l16Sum : PureC Try.prog 38 fS_l16SumC ∧ CallOk Try.prog 38 :=
  mk (A := aS_l16Sum) (gam_cons q_S_l16Weight gam_nil) rules0 Try.func38 (by kernel_rfl) (by kernel_rfl) (by exact @link _ (vcFunc tab (gOf [(34, fS_l16WeightC)]) R0 Try.f38 fS_l16SumC aS_l16Sum) (by kernel_rfl) v_S_l16Sum)
theorem q_S_l16Trim : RuleOk Try.prog 41 (cutTRule fS_l16TrimC) ∧ CallOk Try.prog 41 :=
  mkCutT (A := aS_l16Trim) (gam_cons q_S_l16Sum gam_nil) rules0 Try.func41 (by kernel_rfl) (by kernel_rfl) rfl (by exact @link _ (vcCutT tab (gOf [(38, fS_l16SumC)]) R0 Try.f41 fS_l16TrimC aS_l16Trim) (by kernel_rfl) v_S_l16Trim)
theorem qt_S_ShrinkT : TreeOk Try.prog 15 fS_ShrinkTC ∧ CallOk Try.prog 15 :=
  mkTree (A := noA) (gam_cons q_S_CacheOk (gam_cons q_S_l01In gam_nil)) (rul_tell (rul_cons q_S_l16CopyT (rul_cons q_S_l16Trim rul_nil))) Try.func15 (by kernel_rfl) (by kernel_rfl) (by exact @link _ (vcTree tab (gOf [(9, fS_CacheOkC), (32, fS_l01InC)]) (rOf [(1000000, tellR), (40, treeRule fS_l16CopyTC), (41, cutTRule fS_l16TrimC)]) Try.f15 fS_ShrinkTC noA) (by kernel_rfl) v_S_ShrinkT)
theorem q_S_ShrinkT : RuleOk Try.prog 15 (treeRule fS_ShrinkTC) ∧ CallOk Try.prog 15 := ⟨tree_rule qt_S_ShrinkT.1, qt_S_ShrinkT.2⟩
theorem q_S_Shrink : PureC Try.prog 15 fS_ShrinkC ∧ CallOk Try.prog 15 := ⟨pure_of_tree qt_S_ShrinkT.1, qt_S_ShrinkT.2⟩
theorem q_I_copyResult : PureC Try.prog 66 fI_copyResultC ∧ CallOk Try.prog 66 :=
  mk (A := noA) gam_nil rules0 Try.func66 (by kernel_rfl) (by kernel_rfl) (by exact @link _ (vcFunc tab (gOf []) R0 Try.f66 fI_copyResultC noA) (by kernel_rfl) v_I_copyResult)
theorem q_I_copyEntry : PureC Try.prog 61 fI_copyEntryC ∧ CallOk Try.prog 61 :=
  mk (A := noA) (gam_cons q_I_copyResult gam_nil) rules0 Try.func61 (by kernel_rfl) (by kernel_rfl) (by exact @link _ (vcFunc tab (gOf [(66, fI_copyResultC)]) R0 Try.f61 fI_copyEntryC noA) (by kernel_rfl) v_I_copyEntry)
theorem qt_I_copyCacheT : TreeOk Try.prog 42 fI_copyCacheTC ∧ CallOk Try.prog 42 :=
  mkTree (A := aI_copyCache) (gam_cons q_I_copyEntry gam_nil) (rul_tell rul_nil) Try.func42 (by kernel_rfl) (by kernel_rfl) (by exact @link _ (vcTree tab (gOf [(61, fI_copyEntryC)]) (rOf [(1000000, tellR)]) Try.f42 fI_copyCacheTC aI_copyCache) (by kernel_rfl) v_I_copyCacheT)
theorem q_I_copyCacheT : RuleOk Try.prog 42 (treeRule fI_copyCacheTC) ∧ CallOk Try.prog 42 := ⟨tree_rule qt_I_copyCacheT.1, qt_I_copyCacheT.2⟩
theorem q_I_weightE : PureC Try.prog 59 fI_weightEC ∧ CallOk Try.prog 59 :=
  mk (A := noA) gam_nil rules0 Try.func59 (by kernel_rfl) (by kernel_rfl) (by exact @link _ (vcFunc tab (gOf []) R0 Try.f59 fI_weightEC noA) (by kernel_rfl) v_I_weightE)
theorem q_I_weightOf : PureC Try.prog 39 fI_weightOfC ∧ CallOk Try.prog 39 :=
  mk (A := aI_weightOf) (gam_cons q_I_weightE gam_nil) rules0 Try.func39 (by kernel_rfl) (by kernel_rfl) (by exact @link _ (vcFunc tab (gOf [(59, fI_weightEC)]) R0 Try.f39 fI_weightOfC aI_weightOf) (by kernel_rfl) v_I_weightOf)
theorem q_G_bytesEqual : PureC Try.prog 70 fG_bytesEqualC ∧ CallOk Try.prog 70 :=
  mk (A := noA) gam_nil rules0 Try.func70 (by kernel_rfl) (by kernel_rfl) (by exact @link _ (vcFunc tab (gOf []) R0 Try.f70 fG_bytesEqualC noA) (by kernel_rfl) v_G_bytesEqual)
theorem q_I_entryOf1 : PureC Try.prog 69 fI_entryOf1C ∧ CallOk Try.prog 69 :=
  mk (A := noA) (gam_cons q_G_bytesEqual gam_nil) rules0 Try.func69 (by kernel_rfl) (by kernel_rfl) (by exact @link _ (vcFunc tab (gOf [(70, fG_bytesEqualC)]) R0 Try.f69 fI_entryOf1C noA) (by kernel_rfl) v_I_entryOf1)
theorem q_G_IndexFuncEn : PureC Try.prog 68 (fG_IndexFuncEnC 69) ∧ CallOk Try.prog 68 :=
  mk (A := aG_IndexFuncEn) (gam_cons q_I_entryOf1 gam_nil) rules0 Try.func68 (by kernel_rfl) (by kernel_rfl) (by exact @link _ (vcFunc tab (gOf [(69, fI_entryOf1C)]) R0 Try.f68 (fG_IndexFuncEnC 69) aG_IndexFuncEn) (by kernel_rfl) v_G_IndexFuncEn)
theorem q_I_entryOf : PureC Try.prog 57 fI_entryOfC ∧ CallOk Try.prog 57 :=
  mk (A := noA) (gam_cons q_G_IndexFuncEn gam_nil) rules0 Try.func57 (by kernel_rfl) (by kernel_rfl) (by exact @link _ (vcFunc tab (gOf [(68, (fG_IndexFuncEnC 69))]) R0 Try.f57 fI_entryOfC noA) (by kernel_rfl) v_I_entryOf)
theorem q_I_isCache : PureC Try.prog 36 fI_isCacheC ∧ CallOk Try.prog 36 :=
  mk (A := aI_isCache) (gam_cons q_I_weightOf (gam_cons q_I_entryOf gam_nil)) rules0 Try.func36 (by kernel_rfl) (by kernel_rfl) (by exact @link _ (vcFunc tab (gOf [(39, fI_weightOfC), (57, fI_entryOfC)]) R0 Try.f36 fI_isCacheC aI_isCache) (by kernel_rfl) v_I_isCache)
theorem q_I_trimCache : RuleOk Try.prog 43 (cutTRule fI_trimCacheC) ∧ CallOk Try.prog 43 :=
  mkCutT (A := aI_trimCache) (gam_cons q_I_weightOf gam_nil) rules0 Try.func43 (by kernel_rfl) (by kernel_rfl) rfl (by exact @link _ (vcCutT tab (gOf [(39, fI_weightOfC)]) R0 Try.f43 fI_trimCacheC aI_trimCache) (by kernel_rfl) v_I_trimCache)
theorem qt_I_ShrinkT : TreeOk Try.prog 16 fI_ShrinkTC ∧ CallOk Try.prog 16 :=
  mkTree (A := noA) (gam_cons q_I_isCache gam_nil) (rul_tell (rul_cons q_I_copyCacheT (rul_cons q_I_trimCache rul_nil))) Try.func16 (by kernel_rfl) (by kernel_rfl) (by exact @link _ (vcTree tab (gOf [(36, fI_isCacheC)]) (rOf [(1000000, tellR), (42, treeRule fI_copyCacheTC), (43, cutTRule fI_trimCacheC)]) Try.f16 fI_ShrinkTC noA) (by kernel_rfl) v_I_ShrinkT)
theorem q_I_ShrinkT : RuleOk Try.prog 16 (treeRule fI_ShrinkTC) ∧ CallOk Try.prog 16 := ⟨tree_rule qt_I_ShrinkT.1, qt_I_ShrinkT.2⟩
theorem q_L_eqByteS : PureC Try.prog 23 fL_eqByteSC ∧ CallOk Try.prog 23 :=
  mk (A := aL_eqByteS) gam_nil rules0 Try.func23 (by kernel_rfl) (by kernel_rfl) (by exact @link _ (vcFunc tab (gOf []) R0 Try.f23 fL_eqByteSC aL_eqByteS) (by kernel_rfl) v_L_eqByteS)
theorem q_L_eqIntS : PureC Try.prog 49 fL_eqIntSC ∧ CallOk Try.prog 49 :=
  mk (A := aL_eqIntS) gam_nil rules0 Try.func49 (by kernel_rfl) (by kernel_rfl) (by exact @link _ (vcFunc tab (gOf []) R0 Try.f49 fL_eqIntSC aL_eqIntS) (by kernel_rfl) v_L_eqIntS)
theorem q_L_eqResult : PureC Try.prog 22 fL_eqResultC ∧ CallOk Try.prog 22 :=
  mk (A := noA) (gam_cons q_L_eqIntS gam_nil) rules0 Try.func22 (by kernel_rfl) (by kernel_rfl) (by exact @link _ (vcFunc tab (gOf [(49, fL_eqIntSC)]) R0 Try.f22 fL_eqResultC noA) (by kernel_rfl) v_L_eqResult)
theorem q_L_eqEntry : PureC Try.prog 58 fL_eqEntryC ∧ CallOk Try.prog 58 :=
  mk (A := noA) (gam_cons q_L_eqByteS (gam_cons q_L_eqResult gam_nil)) rules0 Try.func58 (by kernel_rfl) (by kernel_rfl) (by exact @link _ (vcFunc tab (gOf [(23, fL_eqByteSC), (22, fL_eqResultC)]) R0 Try.f58 fL_eqEntryC noA) (by kernel_rfl) v_L_eqEntry)
theorem q_L_eqEntryS : PureC Try.prog 37 fL_eqEntrySC ∧ CallOk Try.prog 37 :=
  mk (A := aL_eqEntryS) (gam_cons q_L_eqEntry gam_nil) rules0 Try.func37 (by kernel_rfl) (by kernel_rfl) (by exact @link _ (vcFunc tab (gOf [(58, fL_eqEntryC)]) R0 Try.f37 fL_eqEntrySC aL_eqEntryS) (by kernel_rfl) v_L_eqEntryS)
theorem q_L_eqCache : PureC Try.prog 12 fL_eqCacheC ∧ CallOk Try.prog 12 :=
  mk (A := noA) (gam_cons q_L_eqEntryS gam_nil) rules0 Try.func12 (by kernel_rfl) (by kernel_rfl) (by exact @link _ (vcFunc tab (gOf [(37, fL_eqEntrySC)]) R0 Try.f12 fL_eqCacheC noA) (by kernel_rfl) v_L_eqCache)
theorem q_L_markByteS : RuleOk Try.prog 24 (ruleOf fL_markByteSC) ∧ CallOk Try.prog 24 :=
  mkM (A := aL_markByteS) gam_nil rules0 Try.func24 (by kernel_rfl) (by kernel_rfl) rfl (by exact @link _ (vcMut tab (gOf []) R0 Try.f24 fL_markByteSC aL_markByteS) (by kernel_rfl) v_L_markByteS)
theorem q_L_markByteSE : PureC Try.prog 24 fL_markByteSEC ∧ CallOk Try.prog 24 :=
  mk (A := aL_markByteSE) gam_nil rules0 Try.func24 (by kernel_rfl) (by kernel_rfl) (by exact @link _ (vcFunc tab (gOf []) R0 Try.f24 fL_markByteSEC aL_markByteSE) (by kernel_rfl) v_L_markByteSE)
theorem q_both_fL_markByteSC : RuleOk Try.prog 24 (bothRule byT fL_markByteSC.pre fL_markByteSC.F fL_markByteSC.G) ∧ CallOk Try.prog 24 := ⟨both_rule q_L_markByteS.1 q_L_markByteSE.1 rfl, q_L_markByteS.2⟩
theorem q_L_markIntS : RuleOk Try.prog 50 (ruleOf fL_markIntSC) ∧ CallOk Try.prog 50 :=
  mkM (A := aL_markIntS) gam_nil rules0 Try.func50 (by kernel_rfl) (by kernel_rfl) rfl (by exact @link _ (vcMut tab (gOf []) R0 Try.f50 fL_markIntSC aL_markIntS) (by kernel_rfl) v_L_markIntS)
theorem q_L_markIntSE : PureC Try.prog 50 fL_markIntSEC ∧ CallOk Try.prog 50 :=
  mk (A := aL_markIntSE) gam_nil rules0 Try.func50 (by kernel_rfl) (by kernel_rfl) (by exact @link _ (vcFunc tab (gOf []) R0 Try.f50 fL_markIntSEC aL_markIntSE) (by kernel_rfl) v_L_markIntSE)
theorem q_both_fL_markIntSC : RuleOk Try.prog 50 (bothRule i64T fL_markIntSC.pre fL_markIntSC.F fL_markIntSC.G) ∧ CallOk Try.prog 50 := ⟨both_rule q_L_markIntS.1 q_L_markIntSE.1 rfl, q_L_markIntS.2⟩
theorem q_L_markEntryS : RuleOk Try.prog 44 (markRule fL_markEntrySC) ∧ CallOk Try.prog 44 :=
  mkMark (A := aL_markEntryS) gam_nil (rul_cons q_both_fL_markByteSC (rul_cons q_both_fL_markIntSC rul_nil)) Try.func44 (by kernel_rfl) (by kernel_rfl) rfl (by exact @link _ (vcMutT tab (gOf []) (rOf [(24, bothRule byT fL_markByteSC.pre fL_markByteSC.F fL_markByteSC.G), (50, bothRule i64T fL_markIntSC.pre fL_markIntSC.F fL_markIntSC.G)]) Try.f44 fL_markEntrySC aL_markEntryS) (by kernel_rfl) v_L_markEntryS)
theorem q_L_markCache : RuleOk Try.prog 17 (markRule fL_markCacheC) ∧ CallOk Try.prog 17 :=
  mkMark (A := noM0) gam_nil (rul_cons q_L_markEntryS rul_nil) Try.func17 (by kernel_rfl) (by kernel_rfl) rfl (by exact @link _ (vcMutT tab (gOf []) (rOf [(44, markRule fL_markEntrySC)]) Try.f17 fL_markCacheC noM0) (by kernel_rfl) v_L_markCache)
theorem q_L_heldByteS : PureC Try.prog 62 fL_heldByteSC ∧ CallOk Try.prog 62 :=
  mk (A := aL_heldByteS) gam_nil rules0 Try.func62 (by kernel_rfl) (by kernel_rfl) (by exact @link _ (vcFunc tab (gOf []) R0 Try.f62 fL_heldByteSC aL_heldByteS) (by kernel_rfl) v_L_heldByteS)
theorem q_L_heldIntS : PureC Try.prog 51 fL_heldIntSC ∧ CallOk Try.prog 51 :=
  mk (A := aL_heldIntS) gam_nil rules0 Try.func51 (by kernel_rfl) (by kernel_rfl) (by exact @link _ (vcFunc tab (gOf []) R0 Try.f51 fL_heldIntSC aL_heldIntS) (by kernel_rfl) v_L_heldIntS)
theorem q_L_heldEntryS : PureC Try.prog 45 fL_heldEntrySC ∧ CallOk Try.prog 45 :=
  mk (A := aL_heldEntryS) (gam_cons q_L_heldByteS (gam_cons q_L_heldIntS gam_nil)) rules0 Try.func45 (by kernel_rfl) (by kernel_rfl) (by exact @link _ (vcFunc tab (gOf [(62, fL_heldByteSC), (51, fL_heldIntSC)]) R0 Try.f45 fL_heldEntrySC aL_heldEntryS) (by kernel_rfl) v_L_heldEntryS)
theorem q_L_heldCache : PureC Try.prog 18 fL_heldCacheC ∧ CallOk Try.prog 18 :=
  mk (A := noA) (gam_cons q_L_heldEntryS gam_nil) rules0 Try.func18 (by kernel_rfl) (by kernel_rfl) (by exact @link _ (vcFunc tab (gOf [(45, fL_heldEntrySC)]) R0 Try.f18 fL_heldCacheC noA) (by kernel_rfl) v_L_heldCache)
-- LAW
theorem q_law0 : PureC Try.prog 5 (lawC [cacheA, i64T]) ∧ CallOk Try.prog 5 :=
  mk (A := aL_Sh) (gam_cons q_L_szCache (gam_cons q_L_toCache (gam_cons q_S_Shrink (gam_cons q_L_eqCache (gam_cons q_L_heldCache gam_nil))))) (rul_cons q_L_toCacheT (rul_cons q_I_ShrinkT (rul_cons q_L_markCache rul_nil))) Try.func5 (by kernel_rfl) (by kernel_rfl) (by exact @link _ (vcFunc tab (gOf [(8, fL_szCacheC), (10, fL_toCacheC), (15, fS_ShrinkC), (12, fL_eqCacheC), (18, fL_heldCacheC)]) (rOf [(10, treeRule fL_toCacheTC), (16, treeRule fI_ShrinkTC), (17, markRule fL_markCacheC)]) Try.f5 (lawC [cacheA, i64T]) aL_Sh) (by kernel_rfl) v_FnExactShrink)
theorem q_law : PureC Try.prog 5 (lawC [cacheT, i64T]) ∧ CallOk Try.prog 5 := ⟨law_untold (ts := [cacheA, i64T]) (by kernel_rfl) q_law0.1, q_law0.2⟩
end Go.SF
