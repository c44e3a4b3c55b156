/- What the laws of results looked up and stored come to where their code is cut. No condition. -/
import Derived.Test.YtdomcnkhdnagiaaSxC
import Derived.Test.YtdomcnkhdnagiaaSxPCacheM
namespace Go.SF
open Go.SX Go
set_option linter.unusedVariables false
set_option linter.unusedSimpArgs false
theorem unEN1x (L : List EnG) : unL (Ty.st (Ty.pr (Ty.gs false byT) (Ty.st (Ty.pr (Ty.int IntKind.i64) (Ty.pr (Ty.gs false (Ty.int IntKind.i64)) (Ty.gs false (Ty.int IntKind.i64))))))) L = L.map unE := unEN1 L
theorem idEN1x (L : List EnG) : idsL (Ty.st (Ty.pr (Ty.gs false byT) (Ty.st (Ty.pr (Ty.int IntKind.i64) (Ty.pr (Ty.gs false (Ty.int IntKind.i64)) (Ty.gs false (Ty.int IntKind.i64))))))) L = idsE L := idEN1 L
theorem eqRs_refl (r : Rs) : eqRs r r = true := by unfold eqRs; exact @decide_eq_true _ (decRs r r) rfl
section
variable {w : Ca} {a : CA} {k : PG} {x : List EnG × List EnG} {g : List EnG} {y : Int}
theorem lkN1 (hx : lkJ1 w a k x) (hg : lkJ2 w a k x g) (h : eqCa (y, g.map unE) (y, x.1.map unE) = false) : false = true := cjN1 hx.1 hg.1.1 h
theorem lkN1' (hx : lkJ1 w a k x) (hg : g.map unE = w.2) (h : eqCa (y, g.map unE) (y, x.1.map unE) = false) : false = true := cjN1 hx.1 hg h
theorem lkN2 (hx : lkJ1 w a k x) (h : eqCa (y, x.2.map unE) (y, a.2.2.map unE) = false) : false = true := cjN2 hx.1 h
theorem lkR {r : Rs} (h : eqRs r r = false) : false = true := by rw [eqRs_refl] at h; exact h.symm
theorem lk8 (hx : lkJ1 w a k x) (h : end8 k.2 (endE x.2 1) < 0) : false = true := by
  have ht := hx.1.1
  rw [← hx.1.2.2.1] at ht
  have h1 := endE_small x.2 1 (by omega) (by omega)
  have h2 := end8_small k.2 (k := endE x.2 1) (by omega) (by have := hx.2.1; omega)
  omega
theorem heldR_mk (r : Rs) {k : Int} (h0 : 0 ≤ k) (h1 : k ≤ 100000000) (h2 : r.2.1.length ≤ 4000000) (h3 : r.2.2.length ≤ 4000000) : heldR (markR r k) k = endR r k ∧ 0 ≤ endR r k := by
  have e1 := end1s r.2.1 (k := k) h0 (by omega)
  have e2 := end1s r.2.2 (k := end1 r.2.1 k) (by omega) (by omega)
  have g1 : held1 (markR r k).2.1 k = end1 r.2.1 k := held1_mk _ _
  have g2 : held1 (markR r k).2.2 (end1 r.2.1 k) = end1 r.2.2 (end1 r.2.1 k) := held1_mk _ _
  unfold heldR
  rw [g1, g2, if_neg (by omega), if_neg (by omega)]
  refine ⟨rfl, ?_⟩
  unfold endR
  omega
theorem lkE (hg : lkJ2 w a k x g) (hw : totE w.2 ≤ 4000000) : neg1 (heldE ((markE g 1).map unE) 1) = endE g 1 ∧ 0 ≤ endE g 1 ∧ endE g 1 ≤ 10000000 := by
  have h := heldC_ok hg.1.1 hw
  rw [← hg.1.1] at hw
  have h1 := endE_small g 1 (by omega) (by omega)
  exact ⟨h.1, h.2, by omega⟩
theorem lk5 (hg : lkJ2 w a k x g) (hw : totE w.2 ≤ 4000000) (h : neg1 (heldE ((markE g 1).map unE) 1) < 0) : false = true := by have := lkE hg hw; omega
theorem lk6 {r : Rs} (hg : lkJ2 w a k x g) (hw : totE w.2 ≤ 4000000) (hr : r.2.1.length ≤ 4000000 ∧ r.2.2.length ≤ 4000000) (h : heldR (markR r (endE g 1)) (neg1 (heldE ((markE g 1).map unE) 1)) < 0) : false = true := by
  have h1 := lkE hg hw
  rw [h1.1] at h
  have := heldR_mk r h1.2.1 (by omega) hr.1 hr.2
  omega
theorem lk7 {r : Rs} (hg : lkJ2 w a k x g) (hw : totE w.2 ≤ 4000000) (hr : r.2.1.length ≤ 4000000 ∧ r.2.2.length ≤ 4000000) (h : ¬ heldR (markR r (endE g 1)) (neg1 (heldE ((markE g 1).map unE) 1)) = endR r (endE g 1)) : false = true := by
  have h1 := lkE hg hw
  rw [h1.1] at h
  exact absurd (heldR_mk r h1.2.1 (by omega) hr.1 hr.2).1 h
theorem lkA7 {j : Int} (hg : lkJ2 w a k x g) : Apart (idsE g) (idsE (markE x.2 j)) := cjA7 hg.1
end
theorem front_tot (c : Ca) (e : En) : totE (frontF c e).2 ≤ e.1.length + 1 + e.2.2.1.length + e.2.2.2.length + totE c.2 := by
  have := totE_sub (List.filter_sublist (p := fun o : En => decide (o.1 ≠ e.1)) (l := c.2))
  show totE (e :: _) ≤ _
  rw [totE]
  omega
theorem at_tot : ∀ (es : List En) (i : Nat), (es.getD i en0).1.length + 1 + (es.getD i en0).2.2.1.length + (es.getD i en0).2.2.2.length ≤ totE es + 1
  | [], i => by simp [en0, totE]
  | e :: es, 0 => by simp [totE]; omega
  | e :: es, i + 1 => by have := at_tot es i; rw [totE]; simp only [List.getD_cons_succ]; omega
theorem look_tot {c : Ca} {key : List Int} (hT : totE c.2 ≤ 1048576) : totE (lookF c key).1.2 ≤ 4000000 ∧ (lookF c key).2.1.2.1.length ≤ 4000000 ∧ (lookF c key).2.1.2.2.length ≤ 4000000 := by
  unfold lookF
  split
  · have h1 := at_tot c.2 (keyGo key c.2 0).toNat
    have h2 := front_tot c (c.2.getD (keyGo key c.2 0).toNat en0)
    refine ⟨?_, ?_, ?_⟩ <;> simp only <;> omega
  · refine ⟨?_, ?_, ?_⟩ <;> simp only <;> first | omega | (simp)
theorem lk_tup {r : (Int × List EnG) × Rs × Bool} {p : LkW} (e : ((r.1.1, r.1.2.map unE), r.2.1, r.2.2) = p) : r.1.2.map unE = p.1.2 ∧ r.1.1 = p.1.1 ∧ r.2.1 = p.2.1 ∧ r.2.2 = p.2.2 := by
  rw [← e]
  exact ⟨rfl, rfl, rfl, rfl⟩
end Go.SF
