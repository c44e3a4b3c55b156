/- What is owed of the law's code: FnExactCacheWords. No condition. -/
import Derived.Test.YtdomcnkhdnagiaaSxPCache
namespace Go.SF
open Go.SX Go
set_option linter.unusedVariables false
set_option linter.unusedSimpArgs false
theorem v_FnExactCacheWords :
  ∀ (d : Int × List (List Int × Int × List Int × List Int)), Ty.wf cacheT d → True → True ∧ (Ty.wf i64T (szCaF (Prod.fst d, Prod.snd d) (1048576 : Int)) → (decide (szCaF (Prod.fst d, Prod.snd d) (1048576 : Int) < (0 :
  Int)) = true → true = true) ∧ (decide (szCaF (Prod.fst d, Prod.snd d) (1048576 : Int) < (0 : Int)) = false → EnsP (Prod.snd d) ∧ (Ty.wf cacheT (Prod.fst d, Prod.snd d) → EnsP (Prod.snd d) ∧ (Ty.wf i64T (wordsF
  (Prod.fst d, Prod.snd d)) → EnsP (Prod.snd d) ∧ (Ty.wf cacheT (Prod.fst d, Prod.snd d) → EnsP (Prod.snd d) ∧ (Ty.wf i64T (wordsF (Prod.fst d, Prod.snd d)) → ((!decide (wordsF (Prod.fst d, Prod.snd d) = wordsF (Prod.fst
  d, Prod.snd d))) = true → false = true) ∧ ((!decide (wordsF (Prod.fst d, Prod.snd d) = wordsF (Prod.fst d, Prod.snd d))) = false → EnsP (Prod.snd d) ∧ True ∧ (Ty.wf cacheT (Prod.fst d, Prod.snd d) → ((!eqCa (Prod.fst
  d, Prod.snd d) (Prod.fst d, Prod.snd d)) = true → false = true) ∧ ((!eqCa (Prod.fst d, Prod.snd d) (Prod.fst d, Prod.snd d)) = false → true = true))))))))) := by
  intro (d : Ca) hw hp
  obtain ⟨cap, es⟩ := d
  have hr := ca_room (c := (cap, es)) hw
  have he : eqCa (cap, es) (cap, es) = true := by unfold eqCa; exact decide_eq_true rfl
  simp only [Int.toNat_natCast, exists_const, and_true, true_and, implies_true, decide_eq_true_eq, decide_eq_false_iff_not, Bool.not_eq_true', Bool.not_eq_false', beq_iff_eq, forall_const]
  intro _ hz
  have hx : EnsP es := hr hz
  simp only [hx, he, beq_self_eq_true, Bool.true_eq_false, true_and, and_true, implies_true, false_implies, not_true_eq_false, not_false_eq_true, forall_const, true_implies]
end Go.SF
