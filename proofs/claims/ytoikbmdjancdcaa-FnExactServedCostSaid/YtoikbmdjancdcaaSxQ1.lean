/- ServedCost's functions keep their contracts. No condition. -/
import Derived.Test.YtoikbmdjancdcaaSxP1
import Derived.Test.YtoikbmdjancdcaaChecked
import Derived.KernelRfl
namespace Go.SF
open Go.SX Go.Proofs
set_option linter.unusedVariables false
set_option maxRecDepth 100000
theorem rules0 {P : Program} : RulesOk P R0 := fun f r h => by cases h
theorem gam_nil {P : Program} : GamOk P (gOf []) := fun f c h => by cases h
theorem gam_cons {P : Program} {k : Nat} {c : PC} {r : List (Nat × PC)} (h : PureC P k c ∧ CallOk P k) (hr : GamOk P (gOf r)) : GamOk P (gOf ((k, c) :: r)) := by
  intro f c' h'
  unfold gOf at h'
  split at h'
  · rename_i e
    injection h' with h'
    subst h'; subst e
    exact h
  · exact hr f c' h'
theorem tabOk : TabOk Try.prog tab := tabOk_of (by kernel_rfl)
theorem mixed : Try.prog.follows .mixedOrders = true := by kernel_rfl
theorem mk {Γ : FuncId → Option PC} {f : FuncId} {fn : Func} {c : PC} {A : Tup c.ts → Nat → Option Ann} (hΓ : GamOk Try.prog Γ) (hf : Try.prog.funcs[f]? = some fn) (h1 : (fn.name == "runtime.NumGoroutine") = false) (h2 : fn.body.isNone = false)
    (h : vcFunc tab Γ R0 fn c A) : PureC Try.prog f c ∧ CallOk Try.prog f := ⟨vcFunc_pure mixed tabOk hΓ rules0 hf h, fn, hf, h1, h2⟩
theorem link {p q : Prop} (h : p = q) (hp : p) : q := h ▸ hp
theorem c62 : PureC Try.prog 62 f62C ∧ CallOk Try.prog 62 := mk (A := noA) gam_nil Try.func62 (by kernel_rfl) (by kernel_rfl) (by exact @link _ (vcFunc tab (gOf []) R0 Try.f62 f62C noA) (by kernel_rfl) v62)
theorem c63 : PureC Try.prog 63 f63C ∧ CallOk Try.prog 63 := mk (A := noA) gam_nil Try.func63 (by kernel_rfl) (by kernel_rfl) (Eq.mp (by kernel_rfl) v63)
theorem c61 : PureC Try.prog 61 f61C ∧ CallOk Try.prog 61 := mk (A := noA) gam_nil Try.func61 (by kernel_rfl) (by kernel_rfl) (Eq.mp (by kernel_rfl) v61)
theorem c15 : PureC Try.prog 15 f15C ∧ CallOk Try.prog 15 := mk (A := noA) gam_nil Try.func15 (by kernel_rfl) (by kernel_rfl) (Eq.mp (by kernel_rfl) v15)
theorem c16 : PureC Try.prog 16 f16C ∧ CallOk Try.prog 16 := mk (A := f16A) (gam_cons c61 gam_nil) Try.func16 (by kernel_rfl) (by kernel_rfl) (Eq.mp (by kernel_rfl) v16)
theorem c18 : PureC Try.prog 18 f18C ∧ CallOk Try.prog 18 := mk (A := f18A) gam_nil Try.func18 (by kernel_rfl) (by kernel_rfl) (Eq.mp (by kernel_rfl) v18)
theorem c17 : PureC Try.prog 17 f17C ∧ CallOk Try.prog 17 := mk (A := f17A) (gam_cons c62 gam_nil) Try.func17 (by kernel_rfl) (by kernel_rfl) (Eq.mp (by kernel_rfl) v17)
theorem c19 : PureC Try.prog 19 f19C ∧ CallOk Try.prog 19 := mk (A := f19A) (gam_cons c63 gam_nil) Try.func19 (by kernel_rfl) (by kernel_rfl) (Eq.mp (by kernel_rfl) v19)
theorem c3 : PureC Try.prog 3 f3C ∧ CallOk Try.prog 3 := mk (A := noA) (gam_cons c15 (gam_cons c16 (gam_cons c17 (gam_cons c18 (gam_cons c19 gam_nil))))) Try.func3 (by kernel_rfl) (by kernel_rfl) (Eq.mp (by kernel_rfl) v3)
end Go.SF
