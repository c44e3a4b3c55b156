/- FnExactStore: the functions keep their contracts. No condition. -/
import Derived.Test.YtdomcnkhdnagiaaSxPCache
import Derived.Test.YtdomcnkhdnagiaaSxPPlan
import Derived.Test.YtdomcnkhdnagiaaSxPCacheT
import Derived.Test.YtdomcnkhdnagiaaSxPBase
import Derived.Test.YtdomcnkhdnagiaaSxPCacheM
import Derived.Test.YtdomcnkhdnagiaaSxPIntS
import Derived.Test.YtdomcnkhdnagiaaSxPMark
import Derived.Test.YtdomcnkhdnagiaaSxPPlanB
import Derived.Test.YtdomcnkhdnagiaaSxPPlanC
import Derived.Test.YtdomcnkhdnagiaaSxPFnExactStore
import Derived.Shelf.RegionOpenPlain
import Derived.WalkKit
import Derived.Deep.LoopGhost
import Derived.Deep.RegionLaw
import Derived.Lib.Walk
import Derived.Test.YtdomcnkhdnagiaaSxTab
import Derived.Test.YtdomcnkhdnagiaaChecked
import Derived.KernelRfl
namespace Go.SF
open Go.SX Go.Proofs
set_option maxRecDepth 100000
set_option linter.unusedVariables false
theorem rules0 {P : Program} : RulesOk P R0 := fun f r h _ => by cases h
theorem gam_nil {P : Program} : GamOk P (gOf []) := fun f c h => by cases h
theorem gam_cons {P : Program} {k : Nat} {c : PC} {r : List (Nat × PC)} (h : PureC P k c ∧ CallOk P k) (hr : GamOk P (gOf r)) : GamOk P (gOf ((k, c) :: r)) := by
  intro f c' h'
  unfold gOf at h'
  split at h'
  · rename_i e
    injection h' with h'
    subst h'; subst e
    exact h
  · exact hr f c' h'
theorem rul_nil {P : Program} : RulesOk P (rOf []) := fun f c h _ => by cases h
theorem rul_cons {P : Program} {k : Nat} {c : Rule} {r : List (Nat × Rule)} (h : RuleOk P k c ∧ CallOk P k) (hr : RulesOk P (rOf r)) : RulesOk P (rOf ((k, c) :: r)) := by
  intro f c' h' hne
  unfold rOf at h'
  split at h'
  · rename_i e
    injection h' with h'
    subst h'; subst e
    exact h
  · exact hr f c' h' hne
theorem rul_tell {P : Program} {r : List (Nat × Rule)} (hr : RulesOk P (rOf r)) : RulesOk P (rOf ((1000000, tellR) :: r)) := by
  intro f c' h' hne
  unfold rOf at h'
  split at h'
  · rename_i e
    exact absurd e hne
  · exact hr f c' h' hne
theorem tabOk : TabOk Try.prog tab := tabOk_of (by kernel_rfl)
theorem mixed : Try.prog.follows .mixedOrders = true := by kernel_rfl
theorem mk {Γ : FuncId → Option PC} {f : FuncId} {fn : Func} {c : PC} {A : Tup c.ts → Nat → Option Ann} {R : FuncId → Option Rule} (hΓ : GamOk Try.prog Γ) (hR : RulesOk Try.prog R) (hf : Try.prog.funcs[f]? = some fn) (h1 : (fn.name == "runtime.NumGoroutine") = false) (h2 : fn.body.isNone = false)
    (h : vcFunc tab Γ R fn c A) : PureC Try.prog f c ∧ CallOk Try.prog f := ⟨vcFunc_pure mixed tabOk hΓ hR hf h, fn, hf, h1, h2⟩
theorem mkM {Γ : FuncId → Option PC} {R : FuncId → Option Rule} {f : FuncId} {fn : Func} {c : MC} {A : c.t.den → Int → Nat → Option Ann} (hΓ : GamOk Try.prog Γ) (hR : RulesOk Try.prog R) (hf : Try.prog.funcs[f]? = some fn) (h1 : (fn.name == "runtime.NumGoroutine") = false) (h2 : fn.body.isNone = false)
    (hl : c.t.lendable = true) (h : vcMut tab Γ R fn c A) : RuleOk Try.prog f (ruleOf c) ∧ CallOk Try.prog f := ⟨vcMut_rule mixed tabOk hΓ hR hf hl h, fn, hf, h1, h2⟩
theorem mkTree {Γ : FuncId → Option PC} {R : FuncId → Option Rule} {f : FuncId} {fn : Func} {c : TC} {A : Tup c.ts → Nat → Option Ann} (hΓ : GamOk Try.prog Γ) (hR : RulesOk Try.prog R) (hf : Try.prog.funcs[f]? = some fn) (h1 : (fn.name == "runtime.NumGoroutine") = false) (h2 : fn.body.isNone = false)
    (h : vcTree tab Γ R fn c A) : TreeOk Try.prog f c ∧ CallOk Try.prog f := ⟨vcTree_ok mixed tabOk hΓ hR hf h, fn, hf, h1, h2⟩
theorem mkMark {Γ : FuncId → Option PC} {R : FuncId → Option Rule} {f : FuncId} {fn : Func} {c : MT} {A : c.t.den → Int → Nat → Option Ann} (hΓ : GamOk Try.prog Γ) (hR : RulesOk Try.prog R) (hf : Try.prog.funcs[f]? = some fn) (h1 : (fn.name == "runtime.NumGoroutine") = false) (h2 : fn.body.isNone = false)
    (hl : c.t.lendBy Ty.gcl = true) (h : vcMutT tab Γ R fn c A) : RuleOk Try.prog f (markRule c) ∧ CallOk Try.prog f := ⟨mark_rule mixed tabOk hΓ hR hf hl h, fn, hf, h1, h2⟩
theorem mkCut {Γ : FuncId → Option PC} {R : FuncId → Option Rule} {f : FuncId} {fn : Func} {c : CC} {A : List c.e.den → Nat → Option Ann} (hΓ : GamOk Try.prog Γ) (hR : RulesOk Try.prog R) (hf : Try.prog.funcs[f]? = some fn) (h1 : (fn.name == "runtime.NumGoroutine") = false) (h2 : fn.body.isNone = false)
    (hl : c.e.flat = true) (h : vcCut tab Γ R fn c A) : RuleOk Try.prog f (cutRule c) ∧ CallOk Try.prog f := ⟨vcCut_rule mixed tabOk hΓ hR hf hl h, fn, hf, h1, h2⟩
theorem mkBox {Γ : FuncId → Option PC} {R : FuncId → Option Rule} {f : FuncId} {fn : Func} {c : BC} {A : c.t.den → Tup c.ts → Nat → Option Ann} (hΓ : GamOk Try.prog Γ) (hR : RulesOk Try.prog R) (hf : Try.prog.funcs[f]? = some fn) (h1 : (fn.name == "runtime.NumGoroutine") = false) (h2 : fn.body.isNone = false)
    (h : vcBox tab Γ R fn c A) : RuleOk Try.prog f (boxRule c) ∧ CallOk Try.prog f := ⟨vcBox_rule mixed tabOk hΓ hR hf h, fn, hf, h1, h2⟩
theorem mkNew {Γ : FuncId → Option PC} {R : FuncId → Option Rule} {f : FuncId} {fn : Func} {c : NC} {A : Tup c.ts → Nat → Option Ann} (hΓ : GamOk Try.prog Γ) (hR : RulesOk Try.prog R) (hf : Try.prog.funcs[f]? = some fn) (h1 : (fn.name == "runtime.NumGoroutine") = false) (h2 : fn.body.isNone = false)
    (h : vcNew tab Γ R fn c A) : RuleOk Try.prog f (newRule c) ∧ CallOk Try.prog f := ⟨vcNew_rule mixed tabOk hΓ hR hf h, fn, hf, h1, h2⟩
theorem link {p q : Prop} (h : p = q) (hp : p) : q := h ▸ hp
theorem mkCutT {Γ : FuncId → Option PC} {R : FuncId → Option Rule} {f : FuncId} {fn : Func} {c : CT} {A : Int × List c.e.den → Nat → Option Ann} (hΓ : GamOk Try.prog Γ) (hR : RulesOk Try.prog R) (hf : Try.prog.funcs[f]? = some fn) (h1 : (fn.name == "runtime.NumGoroutine") = false) (h2 : fn.body.isNone = false)
    (hl : c.e.gcl = true) (h : vcCutT tab Γ R fn c A) : RuleOk Try.prog f (cutTRule c) ∧ CallOk Try.prog f := ⟨cutT_rule mixed tabOk hΓ hR hf hl h, fn, hf, h1, h2⟩
theorem q_L_szByteS : PureC Try.prog 67 fL_szByteSC ∧ CallOk Try.prog 67 :=
  mk (A := noA) gam_nil rules0 Try.func67 (by kernel_rfl) (by kernel_rfl) (by exact @link _ (vcFunc tab (gOf []) R0 Try.f67 fL_szByteSC noA) (by kernel_rfl) v_L_szByteS)
theorem q_L_szIntS : PureC Try.prog 52 fL_szIntSC ∧ CallOk Try.prog 52 :=
  mk (A := noA) gam_nil rules0 Try.func52 (by kernel_rfl) (by kernel_rfl) (by exact @link _ (vcFunc tab (gOf []) R0 Try.f52 fL_szIntSC noA) (by kernel_rfl) v_L_szIntS)
theorem q_L_szResult : PureC Try.prog 27 fL_szResultC ∧ CallOk Try.prog 27 :=
  mk (A := noA) (gam_cons q_L_szIntS gam_nil) rules0 Try.func27 (by kernel_rfl) (by kernel_rfl) (by exact @link _ (vcFunc tab (gOf [(52, fL_szIntSC)]) R0 Try.f27 fL_szResultC noA) (by kernel_rfl) v_L_szResult)
theorem q_L_szEntry : PureC Try.prog 55 fL_szEntryC ∧ CallOk Try.prog 55 :=
  mk (A := noA) (gam_cons q_L_szByteS (gam_cons q_L_szResult gam_nil)) rules0 Try.func55 (by kernel_rfl) (by kernel_rfl) (by exact @link _ (vcFunc tab (gOf [(67, fL_szByteSC), (27, fL_szResultC)]) R0 Try.f55 fL_szEntryC noA) (by kernel_rfl) v_L_szEntry)
theorem q_L_szEntryS : PureC Try.prog 31 fL_szEntrySC ∧ CallOk Try.prog 31 :=
  mk (A := aL_szEntryS) (gam_cons q_L_szEntry gam_nil) rules0 Try.func31 (by kernel_rfl) (by kernel_rfl) (by exact @link _ (vcFunc tab (gOf [(55, fL_szEntryC)]) R0 Try.f31 fL_szEntrySC aL_szEntryS) (by kernel_rfl) v_L_szEntryS)
theorem q_L_szCache : PureC Try.prog 8 fL_szCacheC ∧ CallOk Try.prog 8 :=
  mk (A := noA) (gam_cons q_L_szEntryS gam_nil) rules0 Try.func8 (by kernel_rfl) (by kernel_rfl) (by exact @link _ (vcFunc tab (gOf [(31, fL_szEntrySC)]) R0 Try.f8 fL_szCacheC noA) (by kernel_rfl) v_L_szCache)
theorem q_L_toByteS : PureC Try.prog 20 fL_toByteSC ∧ CallOk Try.prog 20 :=
  mk (A := aL_toByteS) gam_nil rules0 Try.func20 (by kernel_rfl) (by kernel_rfl) (by exact @link _ (vcFunc tab (gOf []) R0 Try.f20 fL_toByteSC aL_toByteS) (by kernel_rfl) v_L_toByteS)
theorem q_L_toIntS : PureC Try.prog 53 fL_toIntSC ∧ CallOk Try.prog 53 :=
  mk (A := aL_toIntS) gam_nil rules0 Try.func53 (by kernel_rfl) (by kernel_rfl) (by exact @link _ (vcFunc tab (gOf []) R0 Try.f53 fL_toIntSC aL_toIntS) (by kernel_rfl) v_L_toIntS)
theorem q_L_toResult : PureC Try.prog 29 fL_toResultC ∧ CallOk Try.prog 29 :=
  mk (A := noA) (gam_cons q_L_toIntS gam_nil) rules0 Try.func29 (by kernel_rfl) (by kernel_rfl) (by exact @link _ (vcFunc tab (gOf [(53, fL_toIntSC)]) R0 Try.f29 fL_toResultC noA) (by kernel_rfl) v_L_toResult)
theorem q_L_toEntry : PureC Try.prog 56 fL_toEntryC ∧ CallOk Try.prog 56 :=
  mk (A := noA) (gam_cons q_L_toByteS (gam_cons q_L_toResult gam_nil)) rules0 Try.func56 (by kernel_rfl) (by kernel_rfl) (by exact @link _ (vcFunc tab (gOf [(20, fL_toByteSC), (29, fL_toResultC)]) R0 Try.f56 fL_toEntryC noA) (by kernel_rfl) v_L_toEntry)
theorem q_L_toEntryS : PureC Try.prog 35 fL_toEntrySC ∧ CallOk Try.prog 35 :=
  mk (A := aL_toEntryS) (gam_cons q_L_toEntry gam_nil) rules0 Try.func35 (by kernel_rfl) (by kernel_rfl) (by exact @link _ (vcFunc tab (gOf [(56, fL_toEntryC)]) R0 Try.f35 fL_toEntrySC aL_toEntryS) (by kernel_rfl) v_L_toEntryS)
theorem q_L_toCache : PureC Try.prog 10 fL_toCacheC ∧ CallOk Try.prog 10 :=
  mk (A := noA) (gam_cons q_L_toEntryS gam_nil) rules0 Try.func10 (by kernel_rfl) (by kernel_rfl) (by exact @link _ (vcFunc tab (gOf [(35, fL_toEntrySC)]) R0 Try.f10 fL_toCacheC noA) (by kernel_rfl) v_L_toCache)
theorem qt_L_toEntryST : TreeOk Try.prog 35 fL_toEntrySTC ∧ CallOk Try.prog 35 :=
  mkTree (A := aL_toEntryST) (gam_cons q_L_toEntry gam_nil) (rul_tell rul_nil) Try.func35 (by kernel_rfl) (by kernel_rfl) (by exact @link _ (vcTree tab (gOf [(56, fL_toEntryC)]) (rOf [(1000000, tellR)]) Try.f35 fL_toEntrySTC aL_toEntryST) (by kernel_rfl) v_L_toEntryST)
theorem q_L_toEntryST : RuleOk Try.prog 35 (treeRule fL_toEntrySTC) ∧ CallOk Try.prog 35 := ⟨tree_rule qt_L_toEntryST.1, qt_L_toEntryST.2⟩
theorem qt_L_toCacheT : TreeOk Try.prog 10 fL_toCacheTC ∧ CallOk Try.prog 10 :=
  mkTree (A := noA) gam_nil (rul_tell (rul_cons q_L_toEntryST rul_nil)) Try.func10 (by kernel_rfl) (by kernel_rfl) (by exact @link _ (vcTree tab (gOf []) (rOf [(1000000, tellR), (35, treeRule fL_toEntrySTC)]) Try.f10 fL_toCacheTC noA) (by kernel_rfl) v_L_toCacheT)
theorem q_L_toCacheT : RuleOk Try.prog 10 (treeRule fL_toCacheTC) ∧ CallOk Try.prog 10 := ⟨tree_rule qt_L_toCacheT.1, qt_L_toCacheT.2⟩
theorem q_S_l01In : PureC Try.prog 32 fS_l01InC ∧ CallOk Try.prog 32 :=
  mk (A := noA) gam_nil rules0 Try.func32 (by kernel_rfl) (by kernel_rfl) (by exact @link _ (vcFunc tab (gOf []) R0 Try.f32 fS_l01InC noA) (by kernel_rfl) v_S_l01In)
theorem q_S_l01Same : PureC Try.prog 33 fS_l01SameC ∧ CallOk Try.prog 33 :=
  mk (A := aS_l01Same) gam_nil rules0 Try.func33 (by kernel_rfl) (by kernel_rfl) (by exact @link _ (vcFunc tab (gOf []) R0 Try.f33 fS_l01SameC aS_l01Same) (by kernel_rfl) v_S_l01Same)
theorem q_S_l16Weight : PureC Try.prog 34 fS_l16WeightC ∧ CallOk Try.prog 34 :=
  mk (A := noA) gam_nil rules0 Try.func34 (by kernel_rfl) (by kernel_rfl) (by exact @link _ (vcFunc tab (gOf []) R0 Try.f34 fS_l16WeightC noA) (by kernel_rfl) v_S_l16Weight)
theorem q_S_CacheOk : PureC Try.prog 9 fS_CacheOkC ∧ CallOk Try.prog 9 :=
  mk (A := aS_CacheOk) (gam_cons q_S_l01In (gam_cons q_S_l01Same (gam_cons q_S_l16Weight gam_nil))) rules0 Try.func9 (by kernel_rfl) (by kernel_rfl) (by exact @link _ (vcFunc tab (gOf [(32, fS_l01InC), (33, fS_l01SameC), (34, fS_l16WeightC)]) R0 Try.f9 fS_CacheOkC aS_CacheOk) (by kernel_rfl) v_S_CacheOk)
theorem q_S_l01Bytes : PureC Try.prog 60 fS_l01BytesC ∧ CallOk Try.prog 60 :=
  mk (A := aS_l01Bytes) gam_nil rules0 Try.func60 (by kernel_rfl) (by kernel_rfl) (by exact @link _ (vcFunc tab (gOf []) R0 Try.f60 fS_l01BytesC aS_l01Bytes) (by kernel_rfl) v_S_l01Bytes)
theorem q_S_l01Copy : PureC Try.prog 63 fS_l01CopyC ∧ CallOk Try.prog 63 :=
  mk (A := aS_l01Copy) gam_nil rules0 Try.func63 (by kernel_rfl) (by kernel_rfl) (by exact @link _ (vcFunc tab (gOf []) R0 Try.f63 fS_l01CopyC aS_l01Copy) (by kernel_rfl) v_S_l01Copy)
theorem q_S_l16CopyRes : PureC Try.prog 47 fS_l16CopyResC ∧ CallOk Try.prog 47 :=
  mk (A := noA) (gam_cons q_S_l01Copy gam_nil) rules0 Try.func47 (by kernel_rfl) (by kernel_rfl) (by exact @link _ (vcFunc tab (gOf [(63, fS_l01CopyC)]) R0 Try.f47 fS_l16CopyResC noA) (by kernel_rfl) v_S_l16CopyRes)
theorem q_S_l16Copy : PureC Try.prog 40 fS_l16CopyC ∧ CallOk Try.prog 40 :=
  mk (A := aS_l16Copy) (gam_cons q_S_l01Bytes (gam_cons q_S_l16CopyRes gam_nil)) rules0 Try.func40 (by kernel_rfl) (by kernel_rfl) (by exact @link _ (vcFunc tab (gOf [(60, fS_l01BytesC), (47, fS_l16CopyResC)]) R0 Try.f40 fS_l16CopyC aS_l16Copy) (by kernel_rfl) v_S_l16Copy)
theorem q_S_l16CopyT : RuleOk Try.prog 40 (treeRule fS_l16CopyTC) ∧ CallOk Try.prog 40 := ⟨tree_rule (tell_of_pure (p := fS_l16CopyC) rfl q_S_l16Copy.1 rfl rfl), q_S_l16Copy.2⟩
theorem q_S_l16Front : PureC Try.prog 46 fS_l16FrontC ∧ CallOk Try.prog 46 :=
  mk (A := aS_l16Front) (gam_cons q_S_l01Bytes (gam_cons q_S_l16CopyRes (gam_cons q_S_l16Copy (gam_cons q_S_l01Same gam_nil)))) rules0 Try.func46 (by kernel_rfl) (by kernel_rfl) (by exact @link _ (vcFunc tab (gOf [(60, fS_l01BytesC), (47, fS_l16CopyResC), (40, fS_l16CopyC), (33, fS_l01SameC)]) R0 Try.f46 fS_l16FrontC aS_l16Front) (by kernel_rfl) v_S_l16Front)
theorem q_S_l16FrontT : RuleOk Try.prog 46 (treeRule fS_l16FrontTC) ∧ CallOk Try.prog 46 := ⟨tree_rule (tell_of_pure (p := fS_l16FrontC) rfl q_S_l16Front.1 rfl rfl), q_S_l16Front.2⟩
theorem q_S_l16Sum : PureC Try.prog 38 fS_l16SumC ∧ CallOk Try.prog 38 :=
  mk (A := aS_l16Sum) (gam_cons q_S_l16Weight gam_nil) rules0 Try.func38 (by kernel_rfl) (by kernel_rfl) (by exact @link _ (vcFunc tab (gOf [(34, fS_l16WeightC)]) R0 Try.f38 fS_l16SumC aS_l16Sum) (by kernel_rfl) v_S_l16Sum)
theorem q_S_l16Trim : RuleOk Try.prog 41 (cutTRule fS_l16TrimC) ∧ CallOk Try.prog 41 :=
  mkCutT (A := aS_l16Trim) (gam_cons q_S_l16Sum gam_nil) rules0 Try.func41 (by kernel_rfl) (by kernel_rfl) rfl (by exact @link _ (vcCutT tab (gOf [(38, fS_l16SumC)]) R0 Try.f41 fS_l16TrimC aS_l16Trim) (by kernel_rfl) v_S_l16Trim)
theorem qt_S_StoreT : TreeOk Try.prog 28 fS_StoreTC ∧ CallOk Try.prog 28 :=
  mkTree (A := noA) (gam_cons q_S_CacheOk (gam_cons q_S_l16Weight gam_nil)) (rul_tell (rul_cons q_S_l16CopyT (rul_cons q_S_l16FrontT (rul_cons q_S_l16Trim rul_nil)))) Try.func28 (by kernel_rfl) (by kernel_rfl) (by exact @link _ (vcTree tab (gOf [(9, fS_CacheOkC), (34, fS_l16WeightC)]) (rOf [(1000000, tellR), (40, treeRule fS_l16CopyTC), (46, treeRule fS_l16FrontTC), (41, cutTRule fS_l16TrimC)]) Try.f28 fS_StoreTC noA) (by kernel_rfl) v_S_StoreT)
theorem q_S_StoreT : RuleOk Try.prog 28 (treeRule fS_StoreTC) ∧ CallOk Try.prog 28 := ⟨tree_rule qt_S_StoreT.1, qt_S_StoreT.2⟩
theorem q_S_Store : PureC Try.prog 28 fS_StoreC ∧ CallOk Try.prog 28 := ⟨pure_of_tree qt_S_StoreT.1, qt_S_StoreT.2⟩
theorem q_I_copyResult : PureC Try.prog 66 fI_copyResultC ∧ CallOk Try.prog 66 :=
  mk (A := noA) gam_nil rules0 Try.func66 (by kernel_rfl) (by kernel_rfl) (by exact @link _ (vcFunc tab (gOf []) R0 Try.f66 fI_copyResultC noA) (by kernel_rfl) v_I_copyResult)
theorem q_I_copyEntry : PureC Try.prog 61 fI_copyEntryC ∧ CallOk Try.prog 61 :=
  mk (A := noA) (gam_cons q_I_copyResult gam_nil) rules0 Try.func61 (by kernel_rfl) (by kernel_rfl) (by exact @link _ (vcFunc tab (gOf [(66, fI_copyResultC)]) R0 Try.f61 fI_copyEntryC noA) (by kernel_rfl) v_I_copyEntry)
theorem qt_I_copyCacheT : TreeOk Try.prog 42 fI_copyCacheTC ∧ CallOk Try.prog 42 :=
  mkTree (A := aI_copyCache) (gam_cons q_I_copyEntry gam_nil) (rul_tell rul_nil) Try.func42 (by kernel_rfl) (by kernel_rfl) (by exact @link _ (vcTree tab (gOf [(61, fI_copyEntryC)]) (rOf [(1000000, tellR)]) Try.f42 fI_copyCacheTC aI_copyCache) (by kernel_rfl) v_I_copyCacheT)
theorem q_I_copyCacheT : RuleOk Try.prog 42 (treeRule fI_copyCacheTC) ∧ CallOk Try.prog 42 := ⟨tree_rule qt_I_copyCacheT.1, qt_I_copyCacheT.2⟩
theorem q_I_weightE : PureC Try.prog 59 fI_weightEC ∧ CallOk Try.prog 59 :=
  mk (A := noA) gam_nil rules0 Try.func59 (by kernel_rfl) (by kernel_rfl) (by exact @link _ (vcFunc tab (gOf []) R0 Try.f59 fI_weightEC noA) (by kernel_rfl) v_I_weightE)
theorem q_I_weightOf : PureC Try.prog 39 fI_weightOfC ∧ CallOk Try.prog 39 :=
  mk (A := aI_weightOf) (gam_cons q_I_weightE gam_nil) rules0 Try.func39 (by kernel_rfl) (by kernel_rfl) (by exact @link _ (vcFunc tab (gOf [(59, fI_weightEC)]) R0 Try.f39 fI_weightOfC aI_weightOf) (by kernel_rfl) v_I_weightOf)
theorem q_G_bytesEqual : PureC Try.prog 70 fG_bytesEqualC ∧ CallOk Try.prog 70 :=
  mk (A := noA) gam_nil rules0 Try.func70 (by kernel_rfl) (by kernel_rfl) (by exact @link _ (vcFunc tab (gOf []) R0 Try.f70 fG_bytesEqualC noA) (by kernel_rfl) v_G_bytesEqual)
theorem q_I_entryOf1 : PureC Try.prog 69 fI_entryOf1C ∧ CallOk Try.prog 69 :=
  mk (A := noA) (gam_cons q_G_bytesEqual gam_nil) rules0 Try.func69 (by kernel_rfl) (by kernel_rfl) (by exact @link _ (vcFunc tab (gOf [(70, fG_bytesEqualC)]) R0 Try.f69 fI_entryOf1C noA) (by kernel_rfl) v_I_entryOf1)
theorem q_G_IndexFuncEn : PureC Try.prog 68 (fG_IndexFuncEnC 69) ∧ CallOk Try.prog 68 :=
  mk (A := aG_IndexFuncEn) (gam_cons q_I_entryOf1 gam_nil) rules0 Try.func68 (by kernel_rfl) (by kernel_rfl) (by exact @link _ (vcFunc tab (gOf [(69, fI_entryOf1C)]) R0 Try.f68 (fG_IndexFuncEnC 69) aG_IndexFuncEn) (by kernel_rfl) v_G_IndexFuncEn)
theorem q_I_entryOf : PureC Try.prog 57 fI_entryOfC ∧ CallOk Try.prog 57 :=
  mk (A := noA) (gam_cons q_G_IndexFuncEn gam_nil) rules0 Try.func57 (by kernel_rfl) (by kernel_rfl) (by exact @link _ (vcFunc tab (gOf [(68, (fG_IndexFuncEnC 69))]) R0 Try.f57 fI_entryOfC noA) (by kernel_rfl) v_I_entryOf)
theorem q_I_isCache : PureC Try.prog 36 fI_isCacheC ∧ CallOk Try.prog 36 :=
  mk (A := aI_isCache) (gam_cons q_I_weightOf (gam_cons q_I_entryOf gam_nil)) rules0 Try.func36 (by kernel_rfl) (by kernel_rfl) (by exact @link _ (vcFunc tab (gOf [(39, fI_weightOfC), (57, fI_entryOfC)]) R0 Try.f36 fI_isCacheC aI_isCache) (by kernel_rfl) v_I_isCache)
section
open Go.RowKit Go.Lib Go.Sort
theorem ownDELimpl_Entry_mixed : Try.prog.follows .mixedOrders = true := by kernel_rfl
theorem ownDELimpl_Entry_t0 : Try.prog.underlying 0 = some (TypeDesc.tuple #[]) := by kernel_rfl
theorem ownDELimpl_Entry_a0 : ∀ w, (isAgg 0).run Try.prog w = .ok false w := fun w => by kernel_rfl
theorem ownDELimpl_Entry_z0 : ∀ w, (Go.sizeOf 0).run Try.prog w = .ok 1 w := fun w => by kernel_rfl
theorem ownDELimpl_Entry_v0 : ∀ w, (zeroValue 0).run Try.prog w = .ok (Value.tuple #[]) w := fun w => by kernel_rfl
theorem ownDELimpl_Entry_t3 : Try.prog.underlying 3 = some (TypeDesc.int IntKind.i64) := by kernel_rfl
theorem ownDELimpl_Entry_a3 : ∀ w, (isAgg 3).run Try.prog w = .ok false w := fun w => by kernel_rfl
theorem ownDELimpl_Entry_z3 : ∀ w, (Go.sizeOf 3).run Try.prog w = .ok 1 w := fun w => by kernel_rfl
theorem ownDELimpl_Entry_v3 : ∀ w, (zeroValue 3).run Try.prog w = .ok (Value.int IntKind.i64 0) w := fun w => by kernel_rfl
theorem ownDELimpl_Entry_t4 : Try.prog.underlying 4 = some TypeDesc.bool := by kernel_rfl
theorem ownDELimpl_Entry_a4 : ∀ w, (isAgg 4).run Try.prog w = .ok false w := fun w => by kernel_rfl
theorem ownDELimpl_Entry_z4 : ∀ w, (Go.sizeOf 4).run Try.prog w = .ok 1 w := fun w => by kernel_rfl
theorem ownDELimpl_Entry_v4 : ∀ w, (zeroValue 4).run Try.prog w = .ok (Value.bool false) w := fun w => by kernel_rfl
theorem ownDELimpl_Entry_tS : Try.prog.underlying 27 = some (TypeDesc.slice 58) := by kernel_rfl
theorem ownDELimpl_Entry_aS : ∀ w, (isAgg 27).run Try.prog w = .ok false w := fun w => by kernel_rfl
theorem ownDELimpl_Entry_zS : ∀ w, (Go.sizeOf 27).run Try.prog w = .ok 1 w := fun w => by kernel_rfl
theorem ownDELimpl_Entry_vS : ∀ w, (zeroValue 27).run Try.prog w = .ok (Value.slice none 0 0) w := fun w => by kernel_rfl

set_option maxHeartbeats 4000000 in
set_option maxRecDepth 1000000 in
theorem ownDELimpl_Entry_same (v : Value) (i : Nat) (w : World) (hv : v = .slice none 0 0 ∧ i = 0 ∨ ∃ blk n cap, v = .slice (some ⟨blk, 0, none⟩) n cap ∧ n ≤ cap ∧ i ≤ n) :
    Calls Try.prog 65 #[v, .int .i64 i, .int .i64 i] w fun e w' => e = .returned v ∧ w' = w := by
  have mixed := ownDELimpl_Entry_mixed; have t0 := ownDELimpl_Entry_t0; have a0 := ownDELimpl_Entry_a0; have z0 := ownDELimpl_Entry_z0; have v0 := ownDELimpl_Entry_v0; have t3 := ownDELimpl_Entry_t3; have a3 := ownDELimpl_Entry_a3; have z3 := ownDELimpl_Entry_z3; have v3 := ownDELimpl_Entry_v3; have t4 := ownDELimpl_Entry_t4; have a4 := ownDELimpl_Entry_a4; have z4 := ownDELimpl_Entry_z4; have v4 := ownDELimpl_Entry_v4; have tS := ownDELimpl_Entry_tS; have aS := ownDELimpl_Entry_aS; have zS := ownDELimpl_Entry_zS; have vS := ownDELimpl_Entry_vS
  rcases hv with ⟨rfl, rfl⟩ | ⟨blk, n, cap, rfl, h1, h2⟩
  · go_enter Try.func65, Try.ntmps65
    go_wp2
    all_goals (go_ret; exact ⟨rfl, rfl⟩)
  · go_enter Try.func65, Try.ntmps65
    go_wp2
    all_goals (go_ret; exact ⟨rfl, rfl⟩)

set_option maxHeartbeats 4000000 in
set_option maxRecDepth 1000000 in
theorem ownDELimpl_Entry_cut (blk n cap i j : Nat) (news : List Value) (w : World) (hcap : n ≤ cap) (hij : i < j) (hj : j ≤ n) (hl : news.length = (n - j) * 4)
    (hsrc : ∀ t u, news[t]? = some u → w.cell? ⟨blk, j * 4 + t, none⟩ = some u) (h1c : ∀ u ∈ news, u.oneCell' = true)
    (hsp : ∀ t, t < n * 4 → (w.cell? ⟨blk, t, none⟩).isSome = true ∧ w.frozen? ⟨blk, t, none⟩ = false) :
    Calls Try.prog 65 #[.slice (some ⟨blk, 0, none⟩) n cap, .int .i64 i, .int .i64 j] w fun e w' => e = .returned (.slice (some ⟨blk, 0, none⟩) (i + (n - j)) cap) ∧
      ∃ zs : List Value, zs.length = (n - (i + (n - j))) * 4 ∧ w' = (w.drew.setCells blk (i * 4) news).setCells blk ((i + (n - j)) * 4) zs := by
  have mixed := ownDELimpl_Entry_mixed; have t0 := ownDELimpl_Entry_t0; have a0 := ownDELimpl_Entry_a0; have z0 := ownDELimpl_Entry_z0; have v0 := ownDELimpl_Entry_v0; have t3 := ownDELimpl_Entry_t3; have a3 := ownDELimpl_Entry_a3; have z3 := ownDELimpl_Entry_z3; have v3 := ownDELimpl_Entry_v3; have t4 := ownDELimpl_Entry_t4; have a4 := ownDELimpl_Entry_a4; have z4 := ownDELimpl_Entry_z4; have v4 := ownDELimpl_Entry_v4; have tS := ownDELimpl_Entry_tS; have aS := ownDELimpl_Entry_aS; have zS := ownDELimpl_Entry_zS; have vS := ownDELimpl_Entry_vS
  obtain ⟨i0, hi0, hz1⟩ : ∃ i0, Try.prog.info? 58 = some i0 ∧ i0.size = 4 := Option.map_eq_some_iff.1 (show (Try.prog.info? 58).map (fun i => i.size) = some 4 by kernel_rfl)
  have vE : ∀ w, (zeroValue 58).run Try.prog w = .ok (.agg #[.slice none 0 0, .int .i64 0, .slice none 0 0, .slice none 0 0]) w := fun w => by kernel_rfl
  obtain ⟨A, hA, hsrc'⟩ : ∃ A : Addr, (if cap = j then some (⟨blk, 0, none⟩ : Addr) else some ⟨blk, j * 4, none⟩) = some A ∧ Hid (∀ t u, news[t]? = some u → w.drew.cell? (A.add t) = some u) := by
    by_cases h : cap = j
    · refine ⟨⟨blk, 0, none⟩, by simp [h], fun t u hu => ?_⟩
      have h0 : news.length = 0 := by rw [hl]; omega
      rw [List.length_eq_zero_iff.1 h0] at hu
      simp at hu
    · exact ⟨⟨blk, j * 4, none⟩, by simp [h], fun t u hu => by rw [Addr.add_lit]; exact hsrc t u hu⟩
  have s1 : Hid (news.length = (n - j) * 4) := hl
  have s2 : Hid (∀ u ∈ news, u.oneCell' = true) := h1c
  have s3 : Hid (∀ t, t < news.length → (w.drew.cell? ⟨blk, 0 + i * 4 + t, none⟩).isSome = true ∧ w.drew.frozen? ⟨blk, 0 + i * 4 + t, none⟩ = false) := by
    intro t ht
    rw [hl] at ht
    rw [Nat.zero_add]
    exact hsp (i * 4 + t) (by omega)
  obtain ⟨W1, hW1⟩ : ∃ W1, W1 = w.drew.setCells blk (0 + i * 4) news := ⟨_, rfl⟩
  have hsp1 : ∀ t, t < n * 4 → (W1.cell? ⟨blk, t, none⟩).isSome = true ∧ W1.frozen? ⟨blk, t, none⟩ = false := by
    intro t ht
    subst hW1
    refine ⟨?_, by rw [World.frozen?_setCells]; exact (hsp t ht).2⟩
    by_cases hin : i * 4 ≤ t ∧ t < i * 4 + news.length
    · have h2 := World.cell?_setCells_in blk news (0 + i * 4) w.drew (fun k hk => (s3.out k hk).1) (t - i * 4) (by omega)
      rw [show 0 + i * 4 + (t - i * 4) = t by omega] at h2
      rw [h2]; rfl
    · rw [World.cell?_setCells_out blk news _ _ _ (fun _ _ => by show t < 0 + i * 4 ∨ 0 + i * 4 + news.length ≤ t; omega)]
      exact (hsp t ht).1
  obtain ⟨zs, hzs, hcl⟩ : ∃ zs : List Value, zs.length = (n - (i + (n - j))) * 4 ∧ ∀ ty, (Builtin.clear_ #[27] ty #[.slice (some ⟨blk, (i + (n - j)) * 4, none⟩) (n - (i + (n - j))) (cap - (i + (n - j)))]).run Try.prog W1 = .ok (.tuple #[]) (W1.setCells blk ((i + (n - j)) * 4) zs) := by
    refine ⟨(Builtin.zeroCells (Value.agg #[.slice none 0 0, .int .i64 0, .slice none 0 0, .slice none 0 0]).cells (n - (i + (n - j)))).toList, by simp [Builtin.zeroCells, Value.cells], fun ty => ?_⟩
    refine run_clear_many W1 _ _ ty _ tS vE (by simp [Value.cells, Value.oneCell']) (by simp [Value.cells]) blk _ _ _ (by omega) (fun t ht => ?_) (fun t ht => ?_)
    · have h2 : (Value.agg #[.slice none 0 0, .int .i64 0, .slice none 0 0, .slice none 0 0]).cells.size = 4 := rfl
      rw [h2] at ht
      exact (hsp1 _ (by omega)).1
    · have h2 : (Value.agg #[.slice none 0 0, .int .i64 0, .slice none 0 0, .slice none 0 0]).cells.size = 4 := rfl
      rw [h2] at ht
      exact (hsp1 _ (by omega)).2
  have hW : Hid (W1 = w.drew.setCells blk (0 + i * 4) news) := hW1
  have hic : i ≤ cap := by omega
  have hjc : j ≤ cap := by omega
  clear hW1 hsp1 hsp hsrc hl vE
  go_enter Try.func65, Try.ntmps65
  go_wp2_with fail
  go_region_law_o (refine step_append_room rfl (.tmp 22) (.tmp 25) 27 rfl 58 i0 4 tS hi0 hz1 blk 0 i cap (by simp [Act.eval, Act.put]) A (n - j) (cap - j) news (by simp [Act.eval, Act.put]) s1.out hsrc'.out s2.out (by omega) s3.out ?_; rw [← hW.out])
  go_wp2
  all_goals (go_ret; refine ⟨rfl, zs, hzs, ?_⟩; rw [hW.out, Nat.zero_add])
theorem q_ownDELimpl_Entry : RuleOk Try.prog 65 (delRule enG) ∧ CallOk Try.prog 65 :=
  ⟨del_rule ⟨ownDELimpl_Entry_same, ownDELimpl_Entry_cut⟩, _, Try.func65, by kernel_rfl, by kernel_rfl⟩
end
section
open Go.RowKit Go.Lib Go.Sort
theorem ownINSimpl_Entry_mixed : Try.prog.follows .mixedOrders = true := by kernel_rfl
theorem ownINSimpl_Entry_t0 : Try.prog.underlying 0 = some (TypeDesc.tuple #[]) := by kernel_rfl
theorem ownINSimpl_Entry_a0 : ∀ w, (isAgg 0).run Try.prog w = .ok false w := fun w => by kernel_rfl
theorem ownINSimpl_Entry_z0 : ∀ w, (Go.sizeOf 0).run Try.prog w = .ok 1 w := fun w => by kernel_rfl
theorem ownINSimpl_Entry_v0 : ∀ w, (zeroValue 0).run Try.prog w = .ok (Value.tuple #[]) w := fun w => by kernel_rfl
theorem ownINSimpl_Entry_t3 : Try.prog.underlying 3 = some (TypeDesc.int IntKind.i64) := by kernel_rfl
theorem ownINSimpl_Entry_a3 : ∀ w, (isAgg 3).run Try.prog w = .ok false w := fun w => by kernel_rfl
theorem ownINSimpl_Entry_z3 : ∀ w, (Go.sizeOf 3).run Try.prog w = .ok 1 w := fun w => by kernel_rfl
theorem ownINSimpl_Entry_v3 : ∀ w, (zeroValue 3).run Try.prog w = .ok (Value.int IntKind.i64 0) w := fun w => by kernel_rfl
theorem ownINSimpl_Entry_t4 : Try.prog.underlying 4 = some TypeDesc.bool := by kernel_rfl
theorem ownINSimpl_Entry_a4 : ∀ w, (isAgg 4).run Try.prog w = .ok false w := fun w => by kernel_rfl
theorem ownINSimpl_Entry_z4 : ∀ w, (Go.sizeOf 4).run Try.prog w = .ok 1 w := fun w => by kernel_rfl
theorem ownINSimpl_Entry_v4 : ∀ w, (zeroValue 4).run Try.prog w = .ok (Value.bool false) w := fun w => by kernel_rfl
theorem ownINSimpl_Entry_tS : Try.prog.underlying 27 = some (TypeDesc.slice 58) := by kernel_rfl
theorem ownINSimpl_Entry_aS : ∀ w, (isAgg 27).run Try.prog w = .ok false w := fun w => by kernel_rfl
theorem ownINSimpl_Entry_zS : ∀ w, (Go.sizeOf 27).run Try.prog w = .ok 1 w := fun w => by kernel_rfl
theorem ownINSimpl_Entry_vS : ∀ w, (zeroValue 27).run Try.prog w = .ok (Value.slice none 0 0) w := fun w => by kernel_rfl
theorem ownINSimpl_Entry_zE : ∀ w, (Go.sizeOf 58).run Try.prog w = .ok 4 w := fun w => by kernel_rfl
theorem ownINSimpl_Entry_iE : (Try.prog.info? 58).map (fun i => (i.zero, i.size, i.bytes)) = some (some (Value.agg #[.slice none 0 0, .int .i64 0, .slice none 0 0, .slice none 0 0]), 4, 80) := by kernel_rfl

set_option maxHeartbeats 4000000 in
set_option maxRecDepth 1000000 in
theorem ownINSimpl_Entry_shift (b n c i vb m vc : Nat) (cs vs : List Value) (w : World) (hi : i < n) (hm : 0 < m) (hroom : n + m ≤ c) (hbig : n + m ≤ 140737488355328) (hvb : vb ≠ b) (hcl : cs.length = n * 4) (hvl : vs.length = m * 4)
    (hcs : ∀ j v, cs[j]? = some v → w.cell? ⟨b, j, none⟩ = some v) (hsp : ∀ j, j < (n + m) * 4 → (w.cell? ⟨b, j, none⟩).isSome = true) (hfz : ∀ j, w.frozen? ⟨b, j, none⟩ = false)
    (hvs : ∀ j v, vs[j]? = some v → w.cell? ⟨vb, j, none⟩ = some v) (h1c : ∀ v ∈ cs, v.oneCell' = true) (h1v : ∀ v ∈ vs, v.oneCell' = true)
    (tA tB : TypeId) (kA kB : Nat) (hsa : w.shape? vb = some (tA, kA)) (hsb : w.shape? b = some (tB, kB)) (hkB : kB ≠ 0) (hfa : w.frozen? ⟨vb, 0, none⟩ = false) (hfe : w.frozen? ⟨vb, kA, none⟩ = false) :
    Calls Try.prog 64 #[.slice (some ⟨b, 0, none⟩) n c, .int .i64 i, .slice (some ⟨vb, 0, none⟩) m vc] w fun e w' =>
      e = .returned (.slice (some ⟨b, 0, none⟩) (n + m) c) ∧ w' = (w.drew.setCells b ((i + m) * 4) (cs.drop (i * 4))).setCells b (i * 4) vs := by
  have mixed := ownINSimpl_Entry_mixed; have t0 := ownINSimpl_Entry_t0; have a0 := ownINSimpl_Entry_a0; have z0 := ownINSimpl_Entry_z0; have v0 := ownINSimpl_Entry_v0; have t3 := ownINSimpl_Entry_t3; have a3 := ownINSimpl_Entry_a3; have z3 := ownINSimpl_Entry_z3; have v3 := ownINSimpl_Entry_v3; have t4 := ownINSimpl_Entry_t4; have a4 := ownINSimpl_Entry_a4; have z4 := ownINSimpl_Entry_z4; have v4 := ownINSimpl_Entry_v4; have tS := ownINSimpl_Entry_tS; have aS := ownINSimpl_Entry_aS; have zS := ownINSimpl_Entry_zS; have vS := ownINSimpl_Entry_vS
  have zE := ownINSimpl_Entry_zE
  obtain ⟨i0, hi0, hz0, hzs, hzb⟩ := info_parts ownINSimpl_Entry_iE
  have hz1 : ¬ ((m : Int) = 0) := by omega
  have hz2 : ¬ ((i : Int) = (n : Int)) := by omega
  have hov : ∀ lb cb, (callFunc 71 #[.slice (some ⟨vb, 0, none⟩) m vc, .slice (some ⟨b, (i + m) * 4, none⟩) lb cb]).run Try.prog w = .ok (.value (.bool false)) w := fun lb cb => by
    rw [run_callFunc_extern Try.func71 (by kernel_rfl) (by kernel_rfl) (by kernel_rfl) (e := Extern.SlicesOverlaps.overlaps #[27, 27] #[4]) (by kernel_rfl),
      Lib.run_overlaps_apart w 27 4 58 tS 4 zE ⟨vb, 0, none⟩ ⟨b, (i + m) * 4, none⟩ m vc lb cb hvb tA tB kA kB hsa hsb hkB hfa hfe]
    rfl
  have hdl : (cs.drop (i * 4)).length = (n - i) * 4 := by rw [List.length_drop, hcl]; omega
  have hw1 : IntKind.i64.wrap ((i : Int) + (m : Int)) = (i : Int) + (m : Int) := by rw [IntKind.wrap_i64]; omega
  have hw2 : IntKind.i64.wrap ((n : Int) + (m : Int)) = (n : Int) + (m : Int) := by rw [IntKind.wrap_i64]; omega
  have hb1 : (0 : Int) ≤ (i : Int) + (m : Int) := by omega
  have hin : i ≤ n := by omega
  have htn : ((i : Int) + (m : Int)).toNat = i + m := by omega
  have htn2 : ((n : Int) + (m : Int)).toNat = n + m := by omega
  have hb2 : ¬ (c = i + m) := by omega
  have hb3 : (i : Int) ≤ (n : Int) + (m : Int) := by omega
  have hb4 : ¬ (c = i) := by omega
  have hcp1 : ∀ ty dc sc, (Builtin.copy_ #[27, 27] ty #[.slice (some ⟨b, (i + m) * 4, none⟩) (n + m - (i + m)) dc, .slice (some ⟨b, i * 4, none⟩) (n + m - i) sc]).run Try.prog w.drew = .ok (goInt (n - i : Nat)) (w.drew.setCells b ((i + m) * 4) (cs.drop (i * 4))) := fun ty dc sc =>
    Go.SX.run_copy_many w.drew _ _ ty 58 i0 b ((i + m) * 4) (n + m - (i + m)) dc ⟨b, i * 4, none⟩ (n + m - i) sc (n - i) (cs.drop (i * 4)) tS hi0 (by simp only [Nat.min_def]; split <;> omega) (by rw [hzs, hdl])
      (fun j v hj => by rw [Addr.add_lit]; exact hcs (i * 4 + j) v (by rwa [List.getElem?_drop] at hj))
      (fun j hj => hsp _ (by omega)) (fun j hj => hfz _) (fun v hv => h1c v (List.mem_of_mem_drop hv))
  obtain ⟨W1, hW1⟩ : ∃ W1, W1 = w.drew.setCells b ((i + m) * 4) (cs.drop (i * 4)) := ⟨_, rfl⟩
  have hsp1 : ∀ k, k < (n + m) * 4 → (W1.cell? ⟨b, k, none⟩).isSome = true := fun k hk => by
    rw [hW1]
    exact Go.SX.isSome_setCells' b (cs.drop (i * 4)) ((i + m) * 4) w.drew (fun j hj => hsp _ (by omega)) _ (hsp k hk)
  have hcp2 : ∀ (W : World), (∀ x, W.cell? x = W1.cell? x) → (∀ x, W.frozen? x = W1.frozen? x) → ∀ ty dc, (Builtin.copy_ #[27, 27] ty #[.slice (some ⟨b, i * 4, none⟩) (n + m - i) dc, .slice (some ⟨vb, 0, none⟩) m vc]).run Try.prog W = .ok (goInt m) (W.setCells b (i * 4) vs) := fun W hWc hWf ty dc =>
    Go.SX.run_copy_many W _ _ ty 58 i0 b (i * 4) (n + m - i) dc ⟨vb, 0, none⟩ m vc m vs tS hi0 (by simp only [Nat.min_def]; split <;> omega) (by rw [hzs, hvl])
      (fun j v hj => by
        rw [Addr.add_lit, Nat.zero_add, hWc, hW1, World.cell?_setCells_out b _ _ _ _ (fun h _ => absurd h hvb)]
        exact hvs j v hj)
      (fun j hj => by rw [hWc]; exact hsp1 _ (by omega)) (fun j hj => by rw [hWf, hW1, World.frozen?_setCells]; exact hfz _) h1v
  rw [← hW1] at hcp1
  go_enter Try.func64, Try.ntmps64
  go_wp2_with (simp only [hov])
  go_region_law_o (refine Go.SX.step_copy_is rfl _ _ 27 27 rfl _ _ (by simp [Act.eval, Act.put]) (by simp [Act.eval, Act.put]) (hcp1 _ _ _) ?_)
  go_wp2_with (at_builtin; refine Go.SX.wpList_copy_is _ rfl _ _ 27 27 rfl _ _ rfl rfl (hcp2 _ (fun _ => rfl) (fun _ => rfl) _ _) ?_)
  go_ret
  first | exact ⟨rfl, rfl⟩ | exact ⟨rfl, by rw [hW1]⟩

set_option maxHeartbeats 4000000 in
set_option maxRecDepth 1000000 in
theorem ownINSimpl_Entry_grow (b n c i vb m vc : Nat) (cs vs : List Value) (w : World) (hi : i < n) (hm : 0 < m) (hnc : n ≤ c) (hroom : c < n + m) (hbig : (n + m) * 80 ≤ 140737488355328) (hcl : cs.length = n * 4) (hvl : vs.length = m * 4)
    (hcs : ∀ j v, cs[j]? = some v → w.cell? ⟨b, j, none⟩ = some v)
    (hvs : ∀ j v, vs[j]? = some v → w.cell? ⟨vb, j, none⟩ = some v) (h1c : ∀ v ∈ cs, v.oneCell' = true) (h1v : ∀ v ∈ vs, v.oneCell' = true) :
    Calls Try.prog 64 #[.slice (some ⟨b, 0, none⟩) n c, .int .i64 i, .slice (some ⟨vb, 0, none⟩) m vc] w fun e w' =>
      e = .returned (.slice (some ⟨w.heap.size, 0, none⟩) (n + m) (grownCap w (n + m) c 58)) ∧
      w' = (((w.alloc (.cells ((cs.take (i * 4)).toArray ++ Builtin.zeroCells (Value.agg #[.slice none 0 0, .int .i64 0, .slice none 0 0, .slice none 0 0]).cells (n + m - i) ++ Builtin.zeroCells (Value.agg #[.slice none 0 0, .int .i64 0, .slice none 0 0, .slice none 0 0]).cells (grownCap w (n + m) c 58 - (n + m))) 58)).drew.setCells w.heap.size (i * 4) vs).drew).setCells w.heap.size ((i + m) * 4) (cs.drop (i * 4)) := by
  have mixed := ownINSimpl_Entry_mixed; have t0 := ownINSimpl_Entry_t0; have a0 := ownINSimpl_Entry_a0; have z0 := ownINSimpl_Entry_z0; have v0 := ownINSimpl_Entry_v0; have t3 := ownINSimpl_Entry_t3; have a3 := ownINSimpl_Entry_a3; have z3 := ownINSimpl_Entry_z3; have v3 := ownINSimpl_Entry_v3; have t4 := ownINSimpl_Entry_t4; have a4 := ownINSimpl_Entry_a4; have z4 := ownINSimpl_Entry_z4; have v4 := ownINSimpl_Entry_v4; have tS := ownINSimpl_Entry_tS; have aS := ownINSimpl_Entry_aS; have zS := ownINSimpl_Entry_zS; have vS := ownINSimpl_Entry_vS
  have zE := ownINSimpl_Entry_zE
  obtain ⟨i0, hi0, hz0, hzs, hzb⟩ := info_parts ownINSimpl_Entry_iE
  have hz1 : ¬ ((m : Int) = 0) := by omega
  have hz2 : ¬ ((i : Int) = (n : Int)) := by omega
  have hz3 : (c : Int) < (n : Int) + (m : Int) := by omega
  have hbw : b < w.heap.size := block_lt_of_cell (hcs 0 _ (List.getElem?_eq_getElem (by omega)))
  have hvw : vb < w.heap.size := block_lt_of_cell (hvs 0 _ (List.getElem?_eq_getElem (by omega)))
  have hkk : (n : Int) + (m : Int) - (i : Int) = ((n + m - i : Nat) : Int) := by omega
  have hik : i + (n + m - i) = n + m := by omega
  have hold : (Builtin.firstCells i0.size i (.slice (some ⟨b, 0, none⟩) i c)).run Try.prog w.drew = .ok (cs.take (i * 4)).toArray w.drew := by
    rw [hzs]
    exact run_firstCells_some w.drew 4 i ⟨b, 0, none⟩ i c (cs.take (i * 4)) (by rw [List.length_take]; omega) (fun j v hj => by
      rw [Addr.add_lit, Nat.zero_add]
      rw [List.getElem?_take] at hj
      split at hj
      · exact hcs j v hj
      · cases hj)
  have hrz : ∀ ty, (Builtin.append_ #[27, 3] ty #[.slice (some ⟨b, 0, none⟩) i c, .int .i64 ((n : Int) + (m : Int) - (i : Int))]).run Try.prog w =
      .ok (.slice (some ⟨w.heap.size, 0, none⟩) (n + m) (grownCap w (n + m) c 58)) (w.drew.alloc (.cells ((cs.take (i * 4)).toArray ++ Builtin.zeroCells (Value.agg #[.slice none 0 0, .int .i64 0, .slice none 0 0, .slice none 0 0]).cells (n + m - i) ++ Builtin.zeroCells (Value.agg #[.slice none 0 0, .int .i64 0, .slice none 0 0, .slice none 0 0]).cells (grownCap w (n + m) c 58 - (n + m))) 58)) := fun ty => by
    have h := Lib.run_append_grow_zeros w 27 3 ty 58 i0 _ .i64 .i64 tS t3 hi0 hz0 (some ⟨b, 0, none⟩) i c (cs.take (i * 4)) hold (n + m - i) (by omega) (by omega) (by omega) (by omega) (by rw [hzb]; omega) (by rw [hzb, hik]; exact growslice_fits hroom hbig)
    rw [hik] at h
    rw [hkk]
    exact h
  obtain ⟨G, hG⟩ : ∃ G, G = grownCap w (n + m) c 58 := ⟨_, rfl⟩
  obtain ⟨ROW, hROW⟩ : ∃ ROW : Array Value, ROW = (cs.take (i * 4)).toArray ++ Builtin.zeroCells (Value.agg #[.slice none 0 0, .int .i64 0, .slice none 0 0, .slice none 0 0]).cells (n + m - i) ++ Builtin.zeroCells (Value.agg #[.slice none 0 0, .int .i64 0, .slice none 0 0, .slice none 0 0]).cells (G - (n + m)) := ⟨_, rfl⟩
  rw [← hG] at hrz ⊢
  rw [← hROW] at hrz ⊢
  have hRl : (n + m) * 4 ≤ ROW.size := by
    rw [hROW]
    simp [Builtin.zeroCells, Value.cells]
    omega
  obtain ⟨W1, hW1⟩ : ∃ W1, W1 = w.drew.alloc (.cells ROW 58) := ⟨_, rfl⟩
  rw [← hW1] at hrz
  have hN : ∀ j, j < (n + m) * 4 → (W1.cell? ⟨w.heap.size, j, none⟩).isSome = true := fun j hj => by
    rw [hW1, World.cell?_alloc_at (w := w.drew) ROW _ w.heap.size j rfl, Array.getElem?_eq_getElem (by omega)]; rfl
  have hNf : ∀ j, W1.frozen? ⟨w.heap.size, j, none⟩ = false := fun j => by rw [hW1]; exact World.frozen?_alloc_at (w := w.drew) ROW _ w.heap.size j rfl
  have hOb : ∀ j v, w.cell? ⟨b, j, none⟩ = some v → W1.cell? ⟨b, j, none⟩ = some v := fun j v h => by rw [hW1, World.cell?_alloc_past (w := w.drew) _ b j hbw]; exact h
  have hOv : ∀ j v, w.cell? ⟨vb, j, none⟩ = some v → W1.cell? ⟨vb, j, none⟩ = some v := fun j v h => by rw [hW1, World.cell?_alloc_past (w := w.drew) _ vb j hvw]; exact h
  have hcpA : ∀ (W : World), (∀ x, W.cell? x = W1.cell? x) → (∀ x, W.frozen? x = W1.frozen? x) → ∀ ty dc, (Builtin.copy_ #[27, 27] ty #[.slice (some ⟨w.heap.size, i * 4, none⟩) (n + m - i) dc, .slice (some ⟨vb, 0, none⟩) m vc]).run Try.prog W = .ok (goInt m) (W.setCells w.heap.size (i * 4) vs) := fun W hWc hWf ty dc =>
    Go.SX.run_copy_many W _ _ ty 58 i0 w.heap.size (i * 4) (n + m - i) dc ⟨vb, 0, none⟩ m vc m vs tS hi0 (by simp only [Nat.min_def]; split <;> omega) (by rw [hzs, hvl])
      (fun j v hj => by rw [Addr.add_lit, Nat.zero_add, hWc]; exact hOv _ v (hvs j v hj))
      (fun j hj => by rw [hWc]; exact hN _ (by omega)) (fun j hj => by rw [hWf]; exact hNf _) h1v
  have hGn : n + m ≤ G := by rw [hG]; exact grownCap_ge w _ _ _
  have hGi : ¬ (G = i) := by omega
  have hGim : ¬ (G = i + m) := by omega
  have hci : ¬ (c = i) := by omega
  have hbN : b ≠ w.heap.size := by omega
  have hdl : (cs.drop (i * 4)).length = (n - i) * 4 := by rw [List.length_drop, hcl]; omega
  have hcpB : ∀ (W : World), (∀ x, W.cell? x = (W1.setCells w.heap.size (i * 4) vs).cell? x) → (∀ x, W.frozen? x = (W1.setCells w.heap.size (i * 4) vs).frozen? x) → ∀ ty dc sc, (Builtin.copy_ #[27, 27] ty #[.slice (some ⟨w.heap.size, (i + m) * 4, none⟩) (n + m - (i + m)) dc, .slice (some ⟨b, i * 4, none⟩) (n - i) sc]).run Try.prog W = .ok (goInt (n - i : Nat)) (W.setCells w.heap.size ((i + m) * 4) (cs.drop (i * 4))) := fun W hWc hWf ty dc sc =>
    Go.SX.run_copy_many W _ _ ty 58 i0 w.heap.size ((i + m) * 4) (n + m - (i + m)) dc ⟨b, i * 4, none⟩ (n - i) sc (n - i) (cs.drop (i * 4)) tS hi0 (by simp only [Nat.min_def]; split <;> omega) (by rw [hzs, hdl])
      (fun j v hj => by
        rw [Addr.add_lit, hWc, World.cell?_setCells_out _ _ _ _ _ (fun h _ => absurd h hbN)]
        exact hOb _ v (hcs (i * 4 + j) v (by rwa [List.getElem?_drop] at hj)))
      (fun j hj => by rw [hWc]; exact Go.SX.isSome_setCells' _ _ _ _ (fun t ht => hN _ (by omega)) _ (hN _ (by omega)))
      (fun j hj => by rw [hWf, World.frozen?_setCells]; exact hNf _) (fun v hv => h1c v (List.mem_of_mem_drop hv))
  subst hW1
  have hE1 : ∀ x, ((w.alloc (.cells ROW 58)).drew).cell? x = (w.drew.alloc (.cells ROW 58)).cell? x := fun x => rfl
  have hE2 : ∀ x, ((w.alloc (.cells ROW 58)).drew).frozen? x = (w.drew.alloc (.cells ROW 58)).frozen? x := fun x => rfl
  have hF1 : ∀ x, (((w.alloc (.cells ROW 58)).drew.setCells w.heap.size (i * 4) vs).drew).cell? x = ((w.drew.alloc (.cells ROW 58)).setCells w.heap.size (i * 4) vs).cell? x := fun x => rfl
  have hF2 : ∀ x, (((w.alloc (.cells ROW 58)).drew.setCells w.heap.size (i * 4) vs).drew).frozen? x = ((w.drew.alloc (.cells ROW 58)).setCells w.heap.size (i * 4) vs).frozen? x := fun x => rfl
  have hw1 : IntKind.i64.wrap ((i : Int) + (m : Int)) = (i : Int) + (m : Int) := by rw [IntKind.wrap_i64]; omega
  have hw2 : IntKind.i64.wrap ((n : Int) + (m : Int)) = (n : Int) + (m : Int) := by rw [IntKind.wrap_i64]; omega
  have hw3 : IntKind.i64.wrap ((n : Int) + (m : Int) - (i : Int)) = (n : Int) + (m : Int) - (i : Int) := by rw [IntKind.wrap_i64]; omega
  have hb1 : (0 : Int) ≤ (i : Int) + (m : Int) := by omega
  have hin : i ≤ n := by omega
  have htn : ((i : Int) + (m : Int)).toNat = i + m := by omega
  have hb3 : (i : Int) ≤ (n : Int) := by omega
  clear hkk hik hold hROW hG hRl
  go_enter Try.func64, Try.ntmps64
  go_wp2_with (first
    | (at_builtin; refine Lib.wpList_append_run _ rfl _ _ _ _ rfl _ _ rfl rfl _ _ (hrz _) ?_)
    | (at_builtin; refine Go.SX.wpList_copy_is _ rfl _ _ 27 27 rfl _ _ rfl rfl (hcpA _ hE1 hE2 _ _) ?_)
    | (at_builtin; refine Go.SX.wpList_copy_is _ rfl _ _ 27 27 rfl _ _ rfl rfl (hcpB _ (fun _ => rfl) (fun _ => rfl) _ _ _) ?_))
  go_region_law_o (refine Go.SX.step_copy_is rfl _ _ 27 27 rfl (.slice (some ⟨w.heap.size, (i + m) * 4, none⟩) (n + m - (i + m)) (G - (i + m))) (.slice (some ⟨b, i * 4, none⟩) (n - i) (c - i)) (by simp [Act.eval, Act.put]) (by simp [Act.eval, Act.put]) (hcpB _ hF1 hF2 3 (G - (i + m)) (c - i)) ?_)
  go_wp2
  go_ret
  exact ⟨rfl, rfl⟩

set_option maxHeartbeats 4000000 in
set_option maxRecDepth 100000 in
theorem ownINSimpl_Entry_end (base : Option Addr) (n c vb m vc : Nat) (w : World) (hm : 0 < m) (hnc : n ≤ c) {v' : Value} {w' : World}
    (hrun : ∀ ty, (Builtin.append_ #[27, 27] ty #[.slice base n c, .slice (some ⟨vb, 0, none⟩) m vc]).run Try.prog w = .ok v' w') :
    Calls Try.prog 64 #[.slice base n c, .int .i64 n, .slice (some ⟨vb, 0, none⟩) m vc] w fun e w'' => e = .returned v' ∧ w'' = w' := by
  have mixed := ownINSimpl_Entry_mixed; have t0 := ownINSimpl_Entry_t0; have a0 := ownINSimpl_Entry_a0; have z0 := ownINSimpl_Entry_z0; have v0 := ownINSimpl_Entry_v0; have t3 := ownINSimpl_Entry_t3; have a3 := ownINSimpl_Entry_a3; have z3 := ownINSimpl_Entry_z3; have v3 := ownINSimpl_Entry_v3; have t4 := ownINSimpl_Entry_t4; have a4 := ownINSimpl_Entry_a4; have z4 := ownINSimpl_Entry_z4; have v4 := ownINSimpl_Entry_v4; have tS := ownINSimpl_Entry_tS; have aS := ownINSimpl_Entry_aS; have zS := ownINSimpl_Entry_zS; have vS := ownINSimpl_Entry_vS
  have hz1 : ¬ ((m : Int) = 0) := by omega
  go_enter Try.func64, Try.ntmps64
  cases base with
  | none =>
    go_wp2_with (at_builtin; refine Lib.wpList_append_run _ rfl _ _ _ _ rfl _ _ rfl rfl _ _ (hrun _) ?_)
    all_goals (go_ret; exact ⟨rfl, rfl⟩)
  | some a =>
    obtain ⟨ab, ao, asp⟩ := a
    go_wp2_with (at_builtin; refine Lib.wpList_append_run _ rfl _ _ _ _ rfl _ _ rfl rfl _ _ (hrun _) ?_)
    all_goals (go_ret; exact ⟨rfl, rfl⟩)
theorem q_ownINSimpl_Entry : RuleOk Try.prog 64 (insRule enG 80) ∧ CallOk Try.prog 64 :=
  ⟨ins_rule (z := Value.agg #[.slice none 0 0, .int .i64 0, .slice none 0 0, .slice none 0 0]) ⟨ownINSimpl_Entry_tS, ownINSimpl_Entry_iE, rfl, by decide, by decide, ownINSimpl_Entry_shift, ownINSimpl_Entry_grow, ownINSimpl_Entry_end⟩, _, Try.func64, by kernel_rfl, by kernel_rfl⟩
end
theorem q_I_trimCache : RuleOk Try.prog 43 (cutTRule fI_trimCacheC) ∧ CallOk Try.prog 43 :=
  mkCutT (A := aI_trimCache) (gam_cons q_I_weightOf gam_nil) rules0 Try.func43 (by kernel_rfl) (by kernel_rfl) rfl (by exact @link _ (vcCutT tab (gOf [(39, fI_weightOfC)]) R0 Try.f43 fI_trimCacheC aI_trimCache) (by kernel_rfl) v_I_trimCache)
theorem qt_I_storeT : TreeOk Try.prog 54 fI_storeTC ∧ CallOk Try.prog 54 :=
  mkTree (A := aI_store) (gam_cons q_I_copyEntry (gam_cons q_I_isCache (gam_cons q_I_weightE (gam_cons q_I_entryOf gam_nil)))) (rul_tell (rul_cons q_I_copyCacheT (rul_cons q_ownDELimpl_Entry (rul_cons q_ownINSimpl_Entry (rul_cons q_I_trimCache rul_nil))))) Try.func54 (by kernel_rfl) (by kernel_rfl) (by exact @link _ (vcTree tab (gOf [(61, fI_copyEntryC), (36, fI_isCacheC), (59, fI_weightEC), (57, fI_entryOfC)]) (rOf [(1000000, tellR), (42, treeRule fI_copyCacheTC), (65, (delRule enG)), (64, (insRule enG 80)), (43, cutTRule fI_trimCacheC)]) Try.f54 fI_storeTC aI_store) (by kernel_rfl) v_I_storeT)
theorem q_I_storeT : RuleOk Try.prog 54 (treeRule fI_storeTC) ∧ CallOk Try.prog 54 := ⟨tree_rule qt_I_storeT.1, qt_I_storeT.2⟩
theorem qt_I_StoreT : TreeOk Try.prog 30 fI_StoreTC ∧ CallOk Try.prog 30 :=
  mkTree (A := noA) gam_nil (rul_tell (rul_cons q_I_storeT rul_nil)) Try.func30 (by kernel_rfl) (by kernel_rfl) (by exact @link _ (vcTree tab (gOf []) (rOf [(1000000, tellR), (54, treeRule fI_storeTC)]) Try.f30 fI_StoreTC noA) (by kernel_rfl) v_I_StoreT)
theorem q_I_StoreT : RuleOk Try.prog 30 (treeRule fI_StoreTC) ∧ CallOk Try.prog 30 := ⟨tree_rule qt_I_StoreT.1, qt_I_StoreT.2⟩
theorem q_L_eqByteS : PureC Try.prog 23 fL_eqByteSC ∧ CallOk Try.prog 23 :=
  mk (A := aL_eqByteS) gam_nil rules0 Try.func23 (by kernel_rfl) (by kernel_rfl) (by exact @link _ (vcFunc tab (gOf []) R0 Try.f23 fL_eqByteSC aL_eqByteS) (by kernel_rfl) v_L_eqByteS)
theorem q_L_eqIntS : PureC Try.prog 49 fL_eqIntSC ∧ CallOk Try.prog 49 :=
  mk (A := aL_eqIntS) gam_nil rules0 Try.func49 (by kernel_rfl) (by kernel_rfl) (by exact @link _ (vcFunc tab (gOf []) R0 Try.f49 fL_eqIntSC aL_eqIntS) (by kernel_rfl) v_L_eqIntS)
theorem q_L_eqResult : PureC Try.prog 22 fL_eqResultC ∧ CallOk Try.prog 22 :=
  mk (A := noA) (gam_cons q_L_eqIntS gam_nil) rules0 Try.func22 (by kernel_rfl) (by kernel_rfl) (by exact @link _ (vcFunc tab (gOf [(49, fL_eqIntSC)]) R0 Try.f22 fL_eqResultC noA) (by kernel_rfl) v_L_eqResult)
theorem q_L_eqEntry : PureC Try.prog 58 fL_eqEntryC ∧ CallOk Try.prog 58 :=
  mk (A := noA) (gam_cons q_L_eqByteS (gam_cons q_L_eqResult gam_nil)) rules0 Try.func58 (by kernel_rfl) (by kernel_rfl) (by exact @link _ (vcFunc tab (gOf [(23, fL_eqByteSC), (22, fL_eqResultC)]) R0 Try.f58 fL_eqEntryC noA) (by kernel_rfl) v_L_eqEntry)
theorem q_L_eqEntryS : PureC Try.prog 37 fL_eqEntrySC ∧ CallOk Try.prog 37 :=
  mk (A := aL_eqEntryS) (gam_cons q_L_eqEntry gam_nil) rules0 Try.func37 (by kernel_rfl) (by kernel_rfl) (by exact @link _ (vcFunc tab (gOf [(58, fL_eqEntryC)]) R0 Try.f37 fL_eqEntrySC aL_eqEntryS) (by kernel_rfl) v_L_eqEntryS)
theorem q_L_eqCache : PureC Try.prog 12 fL_eqCacheC ∧ CallOk Try.prog 12 :=
  mk (A := noA) (gam_cons q_L_eqEntryS gam_nil) rules0 Try.func12 (by kernel_rfl) (by kernel_rfl) (by exact @link _ (vcFunc tab (gOf [(37, fL_eqEntrySC)]) R0 Try.f12 fL_eqCacheC noA) (by kernel_rfl) v_L_eqCache)
theorem q_L_markByteS : RuleOk Try.prog 24 (ruleOf fL_markByteSC) ∧ CallOk Try.prog 24 :=
  mkM (A := aL_markByteS) gam_nil rules0 Try.func24 (by kernel_rfl) (by kernel_rfl) rfl (by exact @link _ (vcMut tab (gOf []) R0 Try.f24 fL_markByteSC aL_markByteS) (by kernel_rfl) v_L_markByteS)
theorem q_L_markByteSE : PureC Try.prog 24 fL_markByteSEC ∧ CallOk Try.prog 24 :=
  mk (A := aL_markByteSE) gam_nil rules0 Try.func24 (by kernel_rfl) (by kernel_rfl) (by exact @link _ (vcFunc tab (gOf []) R0 Try.f24 fL_markByteSEC aL_markByteSE) (by kernel_rfl) v_L_markByteSE)
theorem q_both_fL_markByteSC : RuleOk Try.prog 24 (bothRule byT fL_markByteSC.pre fL_markByteSC.F fL_markByteSC.G) ∧ CallOk Try.prog 24 := ⟨both_rule q_L_markByteS.1 q_L_markByteSE.1 rfl, q_L_markByteS.2⟩
theorem q_L_markIntS : RuleOk Try.prog 50 (ruleOf fL_markIntSC) ∧ CallOk Try.prog 50 :=
  mkM (A := aL_markIntS) gam_nil rules0 Try.func50 (by kernel_rfl) (by kernel_rfl) rfl (by exact @link _ (vcMut tab (gOf []) R0 Try.f50 fL_markIntSC aL_markIntS) (by kernel_rfl) v_L_markIntS)
theorem q_L_markIntSE : PureC Try.prog 50 fL_markIntSEC ∧ CallOk Try.prog 50 :=
  mk (A := aL_markIntSE) gam_nil rules0 Try.func50 (by kernel_rfl) (by kernel_rfl) (by exact @link _ (vcFunc tab (gOf []) R0 Try.f50 fL_markIntSEC aL_markIntSE) (by kernel_rfl) v_L_markIntSE)
theorem q_both_fL_markIntSC : RuleOk Try.prog 50 (bothRule i64T fL_markIntSC.pre fL_markIntSC.F fL_markIntSC.G) ∧ CallOk Try.prog 50 := ⟨both_rule q_L_markIntS.1 q_L_markIntSE.1 rfl, q_L_markIntS.2⟩
theorem q_L_markEntryS : RuleOk Try.prog 44 (markRule fL_markEntrySC) ∧ CallOk Try.prog 44 :=
  mkMark (A := aL_markEntryS) gam_nil (rul_cons q_both_fL_markByteSC (rul_cons q_both_fL_markIntSC rul_nil)) Try.func44 (by kernel_rfl) (by kernel_rfl) rfl (by exact @link _ (vcMutT tab (gOf []) (rOf [(24, bothRule byT fL_markByteSC.pre fL_markByteSC.F fL_markByteSC.G), (50, bothRule i64T fL_markIntSC.pre fL_markIntSC.F fL_markIntSC.G)]) Try.f44 fL_markEntrySC aL_markEntryS) (by kernel_rfl) v_L_markEntryS)
theorem q_L_markCache : RuleOk Try.prog 17 (markRule fL_markCacheC) ∧ CallOk Try.prog 17 :=
  mkMark (A := noM0) gam_nil (rul_cons q_L_markEntryS rul_nil) Try.func17 (by kernel_rfl) (by kernel_rfl) rfl (by exact @link _ (vcMutT tab (gOf []) (rOf [(44, markRule fL_markEntrySC)]) Try.f17 fL_markCacheC noM0) (by kernel_rfl) v_L_markCache)
theorem q_L_markResult : RuleOk Try.prog 25 (ruleOf fL_markResultC) ∧ CallOk Try.prog 25 :=
  mkM (A := noM0) gam_nil (rul_cons q_L_markIntS rul_nil) Try.func25 (by kernel_rfl) (by kernel_rfl) rfl (by exact @link _ (vcMut tab (gOf []) (rOf [(50, ruleOf fL_markIntSC)]) Try.f25 fL_markResultC noM0) (by kernel_rfl) v_L_markResult)
theorem q_L_heldByteS : PureC Try.prog 62 fL_heldByteSC ∧ CallOk Try.prog 62 :=
  mk (A := aL_heldByteS) gam_nil rules0 Try.func62 (by kernel_rfl) (by kernel_rfl) (by exact @link _ (vcFunc tab (gOf []) R0 Try.f62 fL_heldByteSC aL_heldByteS) (by kernel_rfl) v_L_heldByteS)
theorem q_L_heldIntS : PureC Try.prog 51 fL_heldIntSC ∧ CallOk Try.prog 51 :=
  mk (A := aL_heldIntS) gam_nil rules0 Try.func51 (by kernel_rfl) (by kernel_rfl) (by exact @link _ (vcFunc tab (gOf []) R0 Try.f51 fL_heldIntSC aL_heldIntS) (by kernel_rfl) v_L_heldIntS)
theorem q_L_heldEntryS : PureC Try.prog 45 fL_heldEntrySC ∧ CallOk Try.prog 45 :=
  mk (A := aL_heldEntryS) (gam_cons q_L_heldByteS (gam_cons q_L_heldIntS gam_nil)) rules0 Try.func45 (by kernel_rfl) (by kernel_rfl) (by exact @link _ (vcFunc tab (gOf [(62, fL_heldByteSC), (51, fL_heldIntSC)]) R0 Try.f45 fL_heldEntrySC aL_heldEntryS) (by kernel_rfl) v_L_heldEntryS)
theorem q_L_heldCache : PureC Try.prog 18 fL_heldCacheC ∧ CallOk Try.prog 18 :=
  mk (A := noA) (gam_cons q_L_heldEntryS gam_nil) rules0 Try.func18 (by kernel_rfl) (by kernel_rfl) (by exact @link _ (vcFunc tab (gOf [(45, fL_heldEntrySC)]) R0 Try.f18 fL_heldCacheC noA) (by kernel_rfl) v_L_heldCache)
-- LAW
theorem q_law0 : PureC Try.prog 7 (lawC [cacheA, bytA, resA]) ∧ CallOk Try.prog 7 :=
  mk (A := aL_St) (gam_cons q_L_szCache (gam_cons q_L_szResult (gam_cons q_L_toCache (gam_cons q_L_toByteS (gam_cons q_L_toResult (gam_cons q_S_Store (gam_cons q_L_eqCache (gam_cons q_L_eqResult (gam_cons q_L_eqByteS (gam_cons q_L_heldCache gam_nil)))))))))) (rul_cons q_L_toCacheT (rul_cons q_I_StoreT (rul_cons q_L_markCache (rul_cons q_L_markByteS (rul_cons q_L_markResult rul_nil))))) Try.func7 (by kernel_rfl) (by kernel_rfl) (by exact @link _ (vcFunc tab (gOf [(8, fL_szCacheC), (27, fL_szResultC), (10, fL_toCacheC), (20, fL_toByteSC), (29, fL_toResultC), (28, fS_StoreC), (12, fL_eqCacheC), (22, fL_eqResultC), (23, fL_eqByteSC), (18, fL_heldCacheC)]) (rOf [(10, treeRule fL_toCacheTC), (30, treeRule fI_StoreTC), (17, markRule fL_markCacheC), (24, ruleOf fL_markByteSC), (25, ruleOf fL_markResultC)]) Try.f7 (lawC [cacheA, bytA, resA]) aL_St) (by kernel_rfl) v_FnExactStore)
theorem q_law : PureC Try.prog 7 (lawC [cacheT, bytesT, resT]) ∧ CallOk Try.prog 7 := ⟨law_untold (ts := [cacheA, bytA, resA]) (by kernel_rfl) q_law0.1, q_law0.2⟩
end Go.SF
