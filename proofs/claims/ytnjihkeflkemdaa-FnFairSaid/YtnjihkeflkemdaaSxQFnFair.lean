/- FnFair: the functions keep their contracts. No condition. -/
import Derived.Test.YtnjihkeflkemdaaSxPCode
import Derived.Test.YtnjihkeflkemdaaSxPLine2
import Derived.Test.YtnjihkeflkemdaaSxPRingT
import Derived.Test.YtnjihkeflkemdaaSxPRing2
import Derived.Test.YtnjihkeflkemdaaSxPLine
import Derived.Test.YtnjihkeflkemdaaSxPRing
import Derived.Test.YtnjihkeflkemdaaSxPRingV
import Derived.Test.YtnjihkeflkemdaaSxPFair
import Derived.Test.YtnjihkeflkemdaaSxPLine3
import Derived.Test.YtnjihkeflkemdaaSxPRingW
import Derived.Test.YtnjihkeflkemdaaSxPRingB
import Derived.Test.YtnjihkeflkemdaaSxPFnFair
import Derived.Shelf.RegionOpenPlain
import Derived.WalkKit
import Derived.Deep.LoopGhost
import Derived.Deep.RegionLaw
import Derived.Lib.Walk
import Derived.Test.YtnjihkeflkemdaaSxTab
import Derived.Test.YtnjihkeflkemdaaChecked
import Derived.KernelRfl
namespace Go.SF
open Go.SX Go.Proofs
set_option maxRecDepth 100000
set_option linter.unusedVariables false
theorem rules0 {P : Program} : RulesOk P R0 := fun f r h _ => by cases h
theorem gam_nil {P : Program} : GamOk P (gOf []) := fun f c h => by cases h
theorem gam_cons {P : Program} {k : Nat} {c : PC} {r : List (Nat × PC)} (h : PureC P k c ∧ CallOk P k) (hr : GamOk P (gOf r)) : GamOk P (gOf ((k, c) :: r)) := by
  intro f c' h'
  unfold gOf at h'
  split at h'
  · rename_i e
    injection h' with h'
    subst h'; subst e
    exact h
  · exact hr f c' h'
theorem rul_nil {P : Program} : RulesOk P (rOf []) := fun f c h _ => by cases h
theorem rul_cons {P : Program} {k : Nat} {c : Rule} {r : List (Nat × Rule)} (h : RuleOk P k c ∧ CallOk P k) (hr : RulesOk P (rOf r)) : RulesOk P (rOf ((k, c) :: r)) := by
  intro f c' h' hne
  unfold rOf at h'
  split at h'
  · rename_i e
    injection h' with h'
    subst h'; subst e
    exact h
  · exact hr f c' h' hne
theorem rul_tell {P : Program} {r : List (Nat × Rule)} (hr : RulesOk P (rOf r)) : RulesOk P (rOf ((1000000, tellR) :: r)) := by
  intro f c' h' hne
  unfold rOf at h'
  split at h'
  · rename_i e
    exact absurd e hne
  · exact hr f c' h' hne
theorem tabOk : TabOk Try.prog tab := tabOk_of (by kernel_rfl)
theorem mixed : Try.prog.follows .mixedOrders = true := by kernel_rfl
theorem mk {Γ : FuncId → Option PC} {f : FuncId} {fn : Func} {c : PC} {A : Tup c.ts → Nat → Option Ann} {R : FuncId → Option Rule} (hΓ : GamOk Try.prog Γ) (hR : RulesOk Try.prog R) (hf : Try.prog.funcs[f]? = some fn) (h1 : (fn.name == "runtime.NumGoroutine") = false) (h2 : fn.body.isNone = false)
    (h : vcFunc tab Γ R fn c A) : PureC Try.prog f c ∧ CallOk Try.prog f := ⟨vcFunc_pure mixed tabOk hΓ hR hf h, fn, hf, h1, h2⟩
theorem mkM {Γ : FuncId → Option PC} {R : FuncId → Option Rule} {f : FuncId} {fn : Func} {c : MC} {A : c.t.den → Int → Nat → Option Ann} (hΓ : GamOk Try.prog Γ) (hR : RulesOk Try.prog R) (hf : Try.prog.funcs[f]? = some fn) (h1 : (fn.name == "runtime.NumGoroutine") = false) (h2 : fn.body.isNone = false)
    (hl : c.t.lendable = true) (h : vcMut tab Γ R fn c A) : RuleOk Try.prog f (ruleOf c) ∧ CallOk Try.prog f := ⟨vcMut_rule mixed tabOk hΓ hR hf hl h, fn, hf, h1, h2⟩
theorem mkTree {Γ : FuncId → Option PC} {R : FuncId → Option Rule} {f : FuncId} {fn : Func} {c : TC} {A : Tup c.ts → Nat → Option Ann} (hΓ : GamOk Try.prog Γ) (hR : RulesOk Try.prog R) (hf : Try.prog.funcs[f]? = some fn) (h1 : (fn.name == "runtime.NumGoroutine") = false) (h2 : fn.body.isNone = false)
    (h : vcTree tab Γ R fn c A) : TreeOk Try.prog f c ∧ CallOk Try.prog f := ⟨vcTree_ok mixed tabOk hΓ hR hf h, fn, hf, h1, h2⟩
theorem mkMark {Γ : FuncId → Option PC} {R : FuncId → Option Rule} {f : FuncId} {fn : Func} {c : MT} {A : c.t.den → Int → Nat → Option Ann} (hΓ : GamOk Try.prog Γ) (hR : RulesOk Try.prog R) (hf : Try.prog.funcs[f]? = some fn) (h1 : (fn.name == "runtime.NumGoroutine") = false) (h2 : fn.body.isNone = false)
    (hl : c.t.lendBy Ty.gcl = true) (h : vcMutT tab Γ R fn c A) : RuleOk Try.prog f (markRule c) ∧ CallOk Try.prog f := ⟨mark_rule mixed tabOk hΓ hR hf hl h, fn, hf, h1, h2⟩
theorem mkCut {Γ : FuncId → Option PC} {R : FuncId → Option Rule} {f : FuncId} {fn : Func} {c : CC} {A : List c.e.den → Nat → Option Ann} (hΓ : GamOk Try.prog Γ) (hR : RulesOk Try.prog R) (hf : Try.prog.funcs[f]? = some fn) (h1 : (fn.name == "runtime.NumGoroutine") = false) (h2 : fn.body.isNone = false)
    (hl : c.e.flat = true) (h : vcCut tab Γ R fn c A) : RuleOk Try.prog f (cutRule c) ∧ CallOk Try.prog f := ⟨vcCut_rule mixed tabOk hΓ hR hf hl h, fn, hf, h1, h2⟩
theorem mkBox {Γ : FuncId → Option PC} {R : FuncId → Option Rule} {f : FuncId} {fn : Func} {c : BC} {A : c.t.den → Tup c.ts → Nat → Option Ann} (hΓ : GamOk Try.prog Γ) (hR : RulesOk Try.prog R) (hf : Try.prog.funcs[f]? = some fn) (h1 : (fn.name == "runtime.NumGoroutine") = false) (h2 : fn.body.isNone = false)
    (h : vcBox tab Γ R fn c A) : RuleOk Try.prog f (boxRule c) ∧ CallOk Try.prog f := ⟨vcBox_rule mixed tabOk hΓ hR hf h, fn, hf, h1, h2⟩
theorem mkNew {Γ : FuncId → Option PC} {R : FuncId → Option Rule} {f : FuncId} {fn : Func} {c : NC} {A : Tup c.ts → Nat → Option Ann} (hΓ : GamOk Try.prog Γ) (hR : RulesOk Try.prog R) (hf : Try.prog.funcs[f]? = some fn) (h1 : (fn.name == "runtime.NumGoroutine") = false) (h2 : fn.body.isNone = false)
    (h : vcNew tab Γ R fn c A) : RuleOk Try.prog f (newRule c) ∧ CallOk Try.prog f := ⟨vcNew_rule mixed tabOk hΓ hR hf h, fn, hf, h1, h2⟩
theorem link {p q : Prop} (h : p = q) (hp : p) : q := h ▸ hp
theorem mkRef {Γ : FuncId → Option PC} {R : FuncId → Option Rule} {f : FuncId} {fn : Func} {c : RC} {A : c.t.den → Nat → Option Ann} (hΓ : GamOk Try.prog Γ) (hR : RulesOk Try.prog R) (hf : Try.prog.funcs[f]? = some fn) (h1 : (fn.name == "runtime.NumGoroutine") = false) (h2 : fn.body.isNone = false)
    (hl : c.t.lendBy Ty.gcl = true) (h : vcRef tab Γ R fn c A) : RuleOk Try.prog f (refRule c) ∧ CallOk Try.prog f := ⟨ref_rule mixed tabOk hΓ hR hf hl h, fn, hf, h1, h2⟩
theorem q_L_big : PureC Try.prog 29 fL_bigC ∧ CallOk Try.prog 29 :=
  mk (A := noA) gam_nil rules0 Try.func29 (by kernel_rfl) (by kernel_rfl) (by exact @link _ (vcFunc tab (gOf []) R0 Try.f29 fL_bigC noA) (by kernel_rfl) v_L_big)
theorem q_L_at : PureC Try.prog 30 fL_atC ∧ CallOk Try.prog 30 :=
  mk (A := noA) gam_nil rules0 Try.func30 (by kernel_rfl) (by kernel_rfl) (by exact @link _ (vcFunc tab (gOf []) R0 Try.f30 fL_atC noA) (by kernel_rfl) v_L_at)
theorem q_I_copyLine : PureC Try.prog 70 fI_copyLineC ∧ CallOk Try.prog 70 :=
  mk (A := noA) gam_nil rules0 Try.func70 (by kernel_rfl) (by kernel_rfl) (by exact @link _ (vcFunc tab (gOf []) R0 Try.f70 fI_copyLineC noA) (by kernel_rfl) v_I_copyLine)
theorem qt_I_copyRingT : TreeOk Try.prog 45 fI_copyRingTC ∧ CallOk Try.prog 45 :=
  mkTree (A := aI_copyRing) (gam_cons q_I_copyLine gam_nil) (rul_tell rul_nil) Try.func45 (by kernel_rfl) (by kernel_rfl) (by exact @link _ (vcTree tab (gOf [(70, fI_copyLineC)]) (rOf [(1000000, tellR)]) Try.f45 fI_copyRingTC aI_copyRing) (by kernel_rfl) v_I_copyRingT)
theorem q_I_copyRingT : RuleOk Try.prog 45 (treeRule fI_copyRingTC) ∧ CallOk Try.prog 45 := ⟨tree_rule qt_I_copyRingT.1, qt_I_copyRingT.2⟩
theorem q_I_flowOf1 : PureC Try.prog 72 fI_flowOf1C ∧ CallOk Try.prog 72 :=
  mk (A := noA) gam_nil rules0 Try.func72 (by kernel_rfl) (by kernel_rfl) (by exact @link _ (vcFunc tab (gOf []) R0 Try.f72 fI_flowOf1C noA) (by kernel_rfl) v_I_flowOf1)
theorem q_G_IndexFuncFl : PureC Try.prog 71 (fG_IndexFuncFlC 72) ∧ CallOk Try.prog 71 :=
  mk (A := aG_IndexFuncFl) (gam_cons q_I_flowOf1 gam_nil) rules0 Try.func71 (by kernel_rfl) (by kernel_rfl) (by exact @link _ (vcFunc tab (gOf [(72, fI_flowOf1C)]) R0 Try.f71 (fG_IndexFuncFlC 72) aG_IndexFuncFl) (by kernel_rfl) v_G_IndexFuncFl)
theorem q_I_flowOf : PureC Try.prog 46 fI_flowOfC ∧ CallOk Try.prog 46 :=
  mk (A := noA) (gam_cons q_G_IndexFuncFl gam_nil) rules0 Try.func46 (by kernel_rfl) (by kernel_rfl) (by exact @link _ (vcFunc tab (gOf [(71, (fG_IndexFuncFlC 72))]) R0 Try.f46 fI_flowOfC noA) (by kernel_rfl) v_I_flowOf)
theorem q_I_isTicket : PureC Try.prog 90 fI_isTicketC ∧ CallOk Try.prog 90 :=
  mk (A := noA) gam_nil rules0 Try.func90 (by kernel_rfl) (by kernel_rfl) (by exact @link _ (vcFunc tab (gOf []) R0 Try.f90 fI_isTicketC noA) (by kernel_rfl) v_I_isTicket)
theorem q_I_isLine : PureC Try.prog 73 fI_isLineC ∧ CallOk Try.prog 73 :=
  mk (A := aI_isLine) (gam_cons q_I_isTicket gam_nil) rules0 Try.func73 (by kernel_rfl) (by kernel_rfl) (by exact @link _ (vcFunc tab (gOf [(90, fI_isTicketC)]) R0 Try.f73 fI_isLineC aI_isLine) (by kernel_rfl) v_I_isLine)
theorem q_I_isRing : PureC Try.prog 47 fI_isRingC ∧ CallOk Try.prog 47 :=
  mk (A := aI_isRing) (gam_cons q_I_isLine gam_nil) rules0 Try.func47 (by kernel_rfl) (by kernel_rfl) (by exact @link _ (vcFunc tab (gOf [(73, fI_isLineC)]) R0 Try.f47 fI_isRingC aI_isRing) (by kernel_rfl) v_I_isRing)
section
open Go.RowKit Go.Lib Go.Sort
theorem ownINSimpl_Flow_mixed : Try.prog.follows .mixedOrders = true := by kernel_rfl
theorem ownINSimpl_Flow_t0 : Try.prog.underlying 0 = some (TypeDesc.tuple #[]) := by kernel_rfl
theorem ownINSimpl_Flow_a0 : ∀ w, (isAgg 0).run Try.prog w = .ok false w := fun w => by kernel_rfl
theorem ownINSimpl_Flow_z0 : ∀ w, (Go.sizeOf 0).run Try.prog w = .ok 1 w := fun w => by kernel_rfl
theorem ownINSimpl_Flow_v0 : ∀ w, (zeroValue 0).run Try.prog w = .ok (Value.tuple #[]) w := fun w => by kernel_rfl
theorem ownINSimpl_Flow_t3 : Try.prog.underlying 3 = some (TypeDesc.int IntKind.i64) := by kernel_rfl
theorem ownINSimpl_Flow_a3 : ∀ w, (isAgg 3).run Try.prog w = .ok false w := fun w => by kernel_rfl
theorem ownINSimpl_Flow_z3 : ∀ w, (Go.sizeOf 3).run Try.prog w = .ok 1 w := fun w => by kernel_rfl
theorem ownINSimpl_Flow_v3 : ∀ w, (zeroValue 3).run Try.prog w = .ok (Value.int IntKind.i64 0) w := fun w => by kernel_rfl
theorem ownINSimpl_Flow_t4 : Try.prog.underlying 4 = some TypeDesc.bool := by kernel_rfl
theorem ownINSimpl_Flow_a4 : ∀ w, (isAgg 4).run Try.prog w = .ok false w := fun w => by kernel_rfl
theorem ownINSimpl_Flow_z4 : ∀ w, (Go.sizeOf 4).run Try.prog w = .ok 1 w := fun w => by kernel_rfl
theorem ownINSimpl_Flow_v4 : ∀ w, (zeroValue 4).run Try.prog w = .ok (Value.bool false) w := fun w => by kernel_rfl
theorem ownINSimpl_Flow_tS : Try.prog.underlying 26 = some (TypeDesc.slice 64) := by kernel_rfl
theorem ownINSimpl_Flow_aS : ∀ w, (isAgg 26).run Try.prog w = .ok false w := fun w => by kernel_rfl
theorem ownINSimpl_Flow_zS : ∀ w, (Go.sizeOf 26).run Try.prog w = .ok 1 w := fun w => by kernel_rfl
theorem ownINSimpl_Flow_vS : ∀ w, (zeroValue 26).run Try.prog w = .ok (Value.slice none 0 0) w := fun w => by kernel_rfl
theorem ownINSimpl_Flow_zE : ∀ w, (Go.sizeOf 64).run Try.prog w = .ok 4 w := fun w => by kernel_rfl
theorem ownINSimpl_Flow_iE : (Try.prog.info? 64).map (fun i => (i.zero, i.size, i.bytes)) = some (some (Value.agg #[.int .i64 0, .int .i64 0, .int .i64 0, .slice none 0 0]), 4, 48) := by kernel_rfl

set_option maxHeartbeats 4000000 in
set_option maxRecDepth 1000000 in
theorem ownINSimpl_Flow_shift (b n c i vb m vc : Nat) (cs vs : List Value) (w : World) (hi : i < n) (hm : 0 < m) (hroom : n + m ≤ c) (hbig : n + m ≤ 140737488355328) (hvb : vb ≠ b) (hcl : cs.length = n * 4) (hvl : vs.length = m * 4)
    (hcs : ∀ j v, cs[j]? = some v → w.cell? ⟨b, j, none⟩ = some v) (hsp : ∀ j, j < (n + m) * 4 → (w.cell? ⟨b, j, none⟩).isSome = true) (hfz : ∀ j, w.frozen? ⟨b, j, none⟩ = false)
    (hvs : ∀ j v, vs[j]? = some v → w.cell? ⟨vb, j, none⟩ = some v) (h1c : ∀ v ∈ cs, v.oneCell' = true) (h1v : ∀ v ∈ vs, v.oneCell' = true)
    (tA tB : TypeId) (kA kB : Nat) (hsa : w.shape? vb = some (tA, kA)) (hsb : w.shape? b = some (tB, kB)) (hkB : kB ≠ 0) (hfa : w.frozen? ⟨vb, 0, none⟩ = false) (hfe : w.frozen? ⟨vb, kA, none⟩ = false) :
    Calls Try.prog 57 #[.slice (some ⟨b, 0, none⟩) n c, .int .i64 i, .slice (some ⟨vb, 0, none⟩) m vc] w fun e w' =>
      e = .returned (.slice (some ⟨b, 0, none⟩) (n + m) c) ∧ w' = (w.drew.setCells b ((i + m) * 4) (cs.drop (i * 4))).setCells b (i * 4) vs := by
  have mixed := ownINSimpl_Flow_mixed; have t0 := ownINSimpl_Flow_t0; have a0 := ownINSimpl_Flow_a0; have z0 := ownINSimpl_Flow_z0; have v0 := ownINSimpl_Flow_v0; have t3 := ownINSimpl_Flow_t3; have a3 := ownINSimpl_Flow_a3; have z3 := ownINSimpl_Flow_z3; have v3 := ownINSimpl_Flow_v3; have t4 := ownINSimpl_Flow_t4; have a4 := ownINSimpl_Flow_a4; have z4 := ownINSimpl_Flow_z4; have v4 := ownINSimpl_Flow_v4; have tS := ownINSimpl_Flow_tS; have aS := ownINSimpl_Flow_aS; have zS := ownINSimpl_Flow_zS; have vS := ownINSimpl_Flow_vS
  have zE := ownINSimpl_Flow_zE
  obtain ⟨i0, hi0, hz0, hzs, hzb⟩ := info_parts ownINSimpl_Flow_iE
  have hz1 : ¬ ((m : Int) = 0) := by omega
  have hz2 : ¬ ((i : Int) = (n : Int)) := by omega
  have hov : ∀ lb cb, (callFunc 81 #[.slice (some ⟨vb, 0, none⟩) m vc, .slice (some ⟨b, (i + m) * 4, none⟩) lb cb]).run Try.prog w = .ok (.value (.bool false)) w := fun lb cb => by
    rw [run_callFunc_extern Try.func81 (by kernel_rfl) (by kernel_rfl) (by kernel_rfl) (e := Extern.SlicesOverlaps.overlaps #[26, 26] #[4]) (by kernel_rfl),
      Lib.run_overlaps_apart w 26 4 64 tS 4 zE ⟨vb, 0, none⟩ ⟨b, (i + m) * 4, none⟩ m vc lb cb hvb tA tB kA kB hsa hsb hkB hfa hfe]
    rfl
  have hdl : (cs.drop (i * 4)).length = (n - i) * 4 := by rw [List.length_drop, hcl]; omega
  have hw1 : IntKind.i64.wrap ((i : Int) + (m : Int)) = (i : Int) + (m : Int) := by rw [IntKind.wrap_i64]; omega
  have hw2 : IntKind.i64.wrap ((n : Int) + (m : Int)) = (n : Int) + (m : Int) := by rw [IntKind.wrap_i64]; omega
  have hb1 : (0 : Int) ≤ (i : Int) + (m : Int) := by omega
  have hin : i ≤ n := by omega
  have htn : ((i : Int) + (m : Int)).toNat = i + m := by omega
  have htn2 : ((n : Int) + (m : Int)).toNat = n + m := by omega
  have hb2 : ¬ (c = i + m) := by omega
  have hb3 : (i : Int) ≤ (n : Int) + (m : Int) := by omega
  have hb4 : ¬ (c = i) := by omega
  have hcp1 : ∀ ty dc sc, (Builtin.copy_ #[26, 26] ty #[.slice (some ⟨b, (i + m) * 4, none⟩) (n + m - (i + m)) dc, .slice (some ⟨b, i * 4, none⟩) (n + m - i) sc]).run Try.prog w.drew = .ok (goInt (n - i : Nat)) (w.drew.setCells b ((i + m) * 4) (cs.drop (i * 4))) := fun ty dc sc =>
    Go.SX.run_copy_many w.drew _ _ ty 64 i0 b ((i + m) * 4) (n + m - (i + m)) dc ⟨b, i * 4, none⟩ (n + m - i) sc (n - i) (cs.drop (i * 4)) tS hi0 (by simp only [Nat.min_def]; split <;> omega) (by rw [hzs, hdl])
      (fun j v hj => by rw [Addr.add_lit]; exact hcs (i * 4 + j) v (by rwa [List.getElem?_drop] at hj))
      (fun j hj => hsp _ (by omega)) (fun j hj => hfz _) (fun v hv => h1c v (List.mem_of_mem_drop hv))
  obtain ⟨W1, hW1⟩ : ∃ W1, W1 = w.drew.setCells b ((i + m) * 4) (cs.drop (i * 4)) := ⟨_, rfl⟩
  have hsp1 : ∀ k, k < (n + m) * 4 → (W1.cell? ⟨b, k, none⟩).isSome = true := fun k hk => by
    rw [hW1]
    exact Go.SX.isSome_setCells' b (cs.drop (i * 4)) ((i + m) * 4) w.drew (fun j hj => hsp _ (by omega)) _ (hsp k hk)
  have hcp2 : ∀ (W : World), (∀ x, W.cell? x = W1.cell? x) → (∀ x, W.frozen? x = W1.frozen? x) → ∀ ty dc, (Builtin.copy_ #[26, 26] ty #[.slice (some ⟨b, i * 4, none⟩) (n + m - i) dc, .slice (some ⟨vb, 0, none⟩) m vc]).run Try.prog W = .ok (goInt m) (W.setCells b (i * 4) vs) := fun W hWc hWf ty dc =>
    Go.SX.run_copy_many W _ _ ty 64 i0 b (i * 4) (n + m - i) dc ⟨vb, 0, none⟩ m vc m vs tS hi0 (by simp only [Nat.min_def]; split <;> omega) (by rw [hzs, hvl])
      (fun j v hj => by
        rw [Addr.add_lit, Nat.zero_add, hWc, hW1, World.cell?_setCells_out b _ _ _ _ (fun h _ => absurd h hvb)]
        exact hvs j v hj)
      (fun j hj => by rw [hWc]; exact hsp1 _ (by omega)) (fun j hj => by rw [hWf, hW1, World.frozen?_setCells]; exact hfz _) h1v
  rw [← hW1] at hcp1
  go_enter Try.func57, Try.ntmps57
  go_wp2_with (simp only [hov])
  go_region_law_o (refine Go.SX.step_copy_is rfl _ _ 26 26 rfl _ _ (by simp [Act.eval, Act.put]) (by simp [Act.eval, Act.put]) (hcp1 _ _ _) ?_)
  go_wp2_with (at_builtin; refine Go.SX.wpList_copy_is _ rfl _ _ 26 26 rfl _ _ rfl rfl (hcp2 _ (fun _ => rfl) (fun _ => rfl) _ _) ?_)
  go_ret
  first | exact ⟨rfl, rfl⟩ | exact ⟨rfl, by rw [hW1]⟩

set_option maxHeartbeats 4000000 in
set_option maxRecDepth 1000000 in
theorem ownINSimpl_Flow_grow (b n c i vb m vc : Nat) (cs vs : List Value) (w : World) (hi : i < n) (hm : 0 < m) (hnc : n ≤ c) (hroom : c < n + m) (hbig : (n + m) * 48 ≤ 140737488355328) (hcl : cs.length = n * 4) (hvl : vs.length = m * 4)
    (hcs : ∀ j v, cs[j]? = some v → w.cell? ⟨b, j, none⟩ = some v)
    (hvs : ∀ j v, vs[j]? = some v → w.cell? ⟨vb, j, none⟩ = some v) (h1c : ∀ v ∈ cs, v.oneCell' = true) (h1v : ∀ v ∈ vs, v.oneCell' = true) :
    Calls Try.prog 57 #[.slice (some ⟨b, 0, none⟩) n c, .int .i64 i, .slice (some ⟨vb, 0, none⟩) m vc] w fun e w' =>
      e = .returned (.slice (some ⟨w.heap.size, 0, none⟩) (n + m) (grownCap w (n + m) c 64)) ∧
      w' = (((w.alloc (.cells ((cs.take (i * 4)).toArray ++ Builtin.zeroCells (Value.agg #[.int .i64 0, .int .i64 0, .int .i64 0, .slice none 0 0]).cells (n + m - i) ++ Builtin.zeroCells (Value.agg #[.int .i64 0, .int .i64 0, .int .i64 0, .slice none 0 0]).cells (grownCap w (n + m) c 64 - (n + m))) 64)).drew.setCells w.heap.size (i * 4) vs).drew).setCells w.heap.size ((i + m) * 4) (cs.drop (i * 4)) := by
  have mixed := ownINSimpl_Flow_mixed; have t0 := ownINSimpl_Flow_t0; have a0 := ownINSimpl_Flow_a0; have z0 := ownINSimpl_Flow_z0; have v0 := ownINSimpl_Flow_v0; have t3 := ownINSimpl_Flow_t3; have a3 := ownINSimpl_Flow_a3; have z3 := ownINSimpl_Flow_z3; have v3 := ownINSimpl_Flow_v3; have t4 := ownINSimpl_Flow_t4; have a4 := ownINSimpl_Flow_a4; have z4 := ownINSimpl_Flow_z4; have v4 := ownINSimpl_Flow_v4; have tS := ownINSimpl_Flow_tS; have aS := ownINSimpl_Flow_aS; have zS := ownINSimpl_Flow_zS; have vS := ownINSimpl_Flow_vS
  have zE := ownINSimpl_Flow_zE
  obtain ⟨i0, hi0, hz0, hzs, hzb⟩ := info_parts ownINSimpl_Flow_iE
  have hz1 : ¬ ((m : Int) = 0) := by omega
  have hz2 : ¬ ((i : Int) = (n : Int)) := by omega
  have hz3 : (c : Int) < (n : Int) + (m : Int) := by omega
  have hbw : b < w.heap.size := block_lt_of_cell (hcs 0 _ (List.getElem?_eq_getElem (by omega)))
  have hvw : vb < w.heap.size := block_lt_of_cell (hvs 0 _ (List.getElem?_eq_getElem (by omega)))
  have hkk : (n : Int) + (m : Int) - (i : Int) = ((n + m - i : Nat) : Int) := by omega
  have hik : i + (n + m - i) = n + m := by omega
  have hold : (Builtin.firstCells i0.size i (.slice (some ⟨b, 0, none⟩) i c)).run Try.prog w.drew = .ok (cs.take (i * 4)).toArray w.drew := by
    rw [hzs]
    exact run_firstCells_some w.drew 4 i ⟨b, 0, none⟩ i c (cs.take (i * 4)) (by rw [List.length_take]; omega) (fun j v hj => by
      rw [Addr.add_lit, Nat.zero_add]
      rw [List.getElem?_take] at hj
      split at hj
      · exact hcs j v hj
      · cases hj)
  have hrz : ∀ ty, (Builtin.append_ #[26, 3] ty #[.slice (some ⟨b, 0, none⟩) i c, .int .i64 ((n : Int) + (m : Int) - (i : Int))]).run Try.prog w =
      .ok (.slice (some ⟨w.heap.size, 0, none⟩) (n + m) (grownCap w (n + m) c 64)) (w.drew.alloc (.cells ((cs.take (i * 4)).toArray ++ Builtin.zeroCells (Value.agg #[.int .i64 0, .int .i64 0, .int .i64 0, .slice none 0 0]).cells (n + m - i) ++ Builtin.zeroCells (Value.agg #[.int .i64 0, .int .i64 0, .int .i64 0, .slice none 0 0]).cells (grownCap w (n + m) c 64 - (n + m))) 64)) := fun ty => by
    have h := Lib.run_append_grow_zeros w 26 3 ty 64 i0 _ .i64 .i64 tS t3 hi0 hz0 (some ⟨b, 0, none⟩) i c (cs.take (i * 4)) hold (n + m - i) (by omega) (by omega) (by omega) (by omega) (by rw [hzb]; omega) (by rw [hzb, hik]; exact growslice_fits hroom hbig)
    rw [hik] at h
    rw [hkk]
    exact h
  obtain ⟨G, hG⟩ : ∃ G, G = grownCap w (n + m) c 64 := ⟨_, rfl⟩
  obtain ⟨ROW, hROW⟩ : ∃ ROW : Array Value, ROW = (cs.take (i * 4)).toArray ++ Builtin.zeroCells (Value.agg #[.int .i64 0, .int .i64 0, .int .i64 0, .slice none 0 0]).cells (n + m - i) ++ Builtin.zeroCells (Value.agg #[.int .i64 0, .int .i64 0, .int .i64 0, .slice none 0 0]).cells (G - (n + m)) := ⟨_, rfl⟩
  rw [← hG] at hrz ⊢
  rw [← hROW] at hrz ⊢
  have hRl : (n + m) * 4 ≤ ROW.size := by
    rw [hROW]
    simp [Builtin.zeroCells, Value.cells]
    omega
  obtain ⟨W1, hW1⟩ : ∃ W1, W1 = w.drew.alloc (.cells ROW 64) := ⟨_, rfl⟩
  rw [← hW1] at hrz
  have hN : ∀ j, j < (n + m) * 4 → (W1.cell? ⟨w.heap.size, j, none⟩).isSome = true := fun j hj => by
    rw [hW1, World.cell?_alloc_at (w := w.drew) ROW _ w.heap.size j rfl, Array.getElem?_eq_getElem (by omega)]; rfl
  have hNf : ∀ j, W1.frozen? ⟨w.heap.size, j, none⟩ = false := fun j => by rw [hW1]; exact World.frozen?_alloc_at (w := w.drew) ROW _ w.heap.size j rfl
  have hOb : ∀ j v, w.cell? ⟨b, j, none⟩ = some v → W1.cell? ⟨b, j, none⟩ = some v := fun j v h => by rw [hW1, World.cell?_alloc_past (w := w.drew) _ b j hbw]; exact h
  have hOv : ∀ j v, w.cell? ⟨vb, j, none⟩ = some v → W1.cell? ⟨vb, j, none⟩ = some v := fun j v h => by rw [hW1, World.cell?_alloc_past (w := w.drew) _ vb j hvw]; exact h
  have hcpA : ∀ (W : World), (∀ x, W.cell? x = W1.cell? x) → (∀ x, W.frozen? x = W1.frozen? x) → ∀ ty dc, (Builtin.copy_ #[26, 26] ty #[.slice (some ⟨w.heap.size, i * 4, none⟩) (n + m - i) dc, .slice (some ⟨vb, 0, none⟩) m vc]).run Try.prog W = .ok (goInt m) (W.setCells w.heap.size (i * 4) vs) := fun W hWc hWf ty dc =>
    Go.SX.run_copy_many W _ _ ty 64 i0 w.heap.size (i * 4) (n + m - i) dc ⟨vb, 0, none⟩ m vc m vs tS hi0 (by simp only [Nat.min_def]; split <;> omega) (by rw [hzs, hvl])
      (fun j v hj => by rw [Addr.add_lit, Nat.zero_add, hWc]; exact hOv _ v (hvs j v hj))
      (fun j hj => by rw [hWc]; exact hN _ (by omega)) (fun j hj => by rw [hWf]; exact hNf _) h1v
  have hGn : n + m ≤ G := by rw [hG]; exact grownCap_ge w _ _ _
  have hGi : ¬ (G = i) := by omega
  have hGim : ¬ (G = i + m) := by omega
  have hci : ¬ (c = i) := by omega
  have hbN : b ≠ w.heap.size := by omega
  have hdl : (cs.drop (i * 4)).length = (n - i) * 4 := by rw [List.length_drop, hcl]; omega
  have hcpB : ∀ (W : World), (∀ x, W.cell? x = (W1.setCells w.heap.size (i * 4) vs).cell? x) → (∀ x, W.frozen? x = (W1.setCells w.heap.size (i * 4) vs).frozen? x) → ∀ ty dc sc, (Builtin.copy_ #[26, 26] ty #[.slice (some ⟨w.heap.size, (i + m) * 4, none⟩) (n + m - (i + m)) dc, .slice (some ⟨b, i * 4, none⟩) (n - i) sc]).run Try.prog W = .ok (goInt (n - i : Nat)) (W.setCells w.heap.size ((i + m) * 4) (cs.drop (i * 4))) := fun W hWc hWf ty dc sc =>
    Go.SX.run_copy_many W _ _ ty 64 i0 w.heap.size ((i + m) * 4) (n + m - (i + m)) dc ⟨b, i * 4, none⟩ (n - i) sc (n - i) (cs.drop (i * 4)) tS hi0 (by simp only [Nat.min_def]; split <;> omega) (by rw [hzs, hdl])
      (fun j v hj => by
        rw [Addr.add_lit, hWc, World.cell?_setCells_out _ _ _ _ _ (fun h _ => absurd h hbN)]
        exact hOb _ v (hcs (i * 4 + j) v (by rwa [List.getElem?_drop] at hj)))
      (fun j hj => by rw [hWc]; exact Go.SX.isSome_setCells' _ _ _ _ (fun t ht => hN _ (by omega)) _ (hN _ (by omega)))
      (fun j hj => by rw [hWf, World.frozen?_setCells]; exact hNf _) (fun v hv => h1c v (List.mem_of_mem_drop hv))
  subst hW1
  have hE1 : ∀ x, ((w.alloc (.cells ROW 64)).drew).cell? x = (w.drew.alloc (.cells ROW 64)).cell? x := fun x => rfl
  have hE2 : ∀ x, ((w.alloc (.cells ROW 64)).drew).frozen? x = (w.drew.alloc (.cells ROW 64)).frozen? x := fun x => rfl
  have hF1 : ∀ x, (((w.alloc (.cells ROW 64)).drew.setCells w.heap.size (i * 4) vs).drew).cell? x = ((w.drew.alloc (.cells ROW 64)).setCells w.heap.size (i * 4) vs).cell? x := fun x => rfl
  have hF2 : ∀ x, (((w.alloc (.cells ROW 64)).drew.setCells w.heap.size (i * 4) vs).drew).frozen? x = ((w.drew.alloc (.cells ROW 64)).setCells w.heap.size (i * 4) vs).frozen? x := fun x => rfl
  have hw1 : IntKind.i64.wrap ((i : Int) + (m : Int)) = (i : Int) + (m : Int) := by rw [IntKind.wrap_i64]; omega
  have hw2 : IntKind.i64.wrap ((n : Int) + (m : Int)) = (n : Int) + (m : Int) := by rw [IntKind.wrap_i64]; omega
  have hw3 : IntKind.i64.wrap ((n : Int) + (m : Int) - (i : Int)) = (n : Int) + (m : Int) - (i : Int) := by rw [IntKind.wrap_i64]; omega
  have hb1 : (0 : Int) ≤ (i : Int) + (m : Int) := by omega
  have hin : i ≤ n := by omega
  have htn : ((i : Int) + (m : Int)).toNat = i + m := by omega
  have hb3 : (i : Int) ≤ (n : Int) := by omega
  clear hkk hik hold hROW hG hRl
  go_enter Try.func57, Try.ntmps57
  go_wp2_with (first
    | (at_builtin; refine Lib.wpList_append_run _ rfl _ _ _ _ rfl _ _ rfl rfl _ _ (hrz _) ?_)
    | (at_builtin; refine Go.SX.wpList_copy_is _ rfl _ _ 26 26 rfl _ _ rfl rfl (hcpA _ hE1 hE2 _ _) ?_)
    | (at_builtin; refine Go.SX.wpList_copy_is _ rfl _ _ 26 26 rfl _ _ rfl rfl (hcpB _ (fun _ => rfl) (fun _ => rfl) _ _ _) ?_))
  go_region_law_o (refine Go.SX.step_copy_is rfl _ _ 26 26 rfl (.slice (some ⟨w.heap.size, (i + m) * 4, none⟩) (n + m - (i + m)) (G - (i + m))) (.slice (some ⟨b, i * 4, none⟩) (n - i) (c - i)) (by simp [Act.eval, Act.put]) (by simp [Act.eval, Act.put]) (hcpB _ hF1 hF2 3 (G - (i + m)) (c - i)) ?_)
  go_wp2
  go_ret
  exact ⟨rfl, rfl⟩

set_option maxHeartbeats 4000000 in
set_option maxRecDepth 100000 in
theorem ownINSimpl_Flow_end (base : Option Addr) (n c vb m vc : Nat) (w : World) (hm : 0 < m) (hnc : n ≤ c) {v' : Value} {w' : World}
    (hrun : ∀ ty, (Builtin.append_ #[26, 26] ty #[.slice base n c, .slice (some ⟨vb, 0, none⟩) m vc]).run Try.prog w = .ok v' w') :
    Calls Try.prog 57 #[.slice base n c, .int .i64 n, .slice (some ⟨vb, 0, none⟩) m vc] w fun e w'' => e = .returned v' ∧ w'' = w' := by
  have mixed := ownINSimpl_Flow_mixed; have t0 := ownINSimpl_Flow_t0; have a0 := ownINSimpl_Flow_a0; have z0 := ownINSimpl_Flow_z0; have v0 := ownINSimpl_Flow_v0; have t3 := ownINSimpl_Flow_t3; have a3 := ownINSimpl_Flow_a3; have z3 := ownINSimpl_Flow_z3; have v3 := ownINSimpl_Flow_v3; have t4 := ownINSimpl_Flow_t4; have a4 := ownINSimpl_Flow_a4; have z4 := ownINSimpl_Flow_z4; have v4 := ownINSimpl_Flow_v4; have tS := ownINSimpl_Flow_tS; have aS := ownINSimpl_Flow_aS; have zS := ownINSimpl_Flow_zS; have vS := ownINSimpl_Flow_vS
  have hz1 : ¬ ((m : Int) = 0) := by omega
  go_enter Try.func57, Try.ntmps57
  cases base with
  | none =>
    go_wp2_with (at_builtin; refine Lib.wpList_append_run _ rfl _ _ _ _ rfl _ _ rfl rfl _ _ (hrun _) ?_)
    all_goals (go_ret; exact ⟨rfl, rfl⟩)
  | some a =>
    obtain ⟨ab, ao, asp⟩ := a
    go_wp2_with (at_builtin; refine Lib.wpList_append_run _ rfl _ _ _ _ rfl _ _ rfl rfl _ _ (hrun _) ?_)
    all_goals (go_ret; exact ⟨rfl, rfl⟩)
theorem q_ownINSimpl_Flow : RuleOk Try.prog 57 (insRule flG 48) ∧ CallOk Try.prog 57 :=
  ⟨ins_rule (z := Value.agg #[.int .i64 0, .int .i64 0, .int .i64 0, .slice none 0 0]) ⟨ownINSimpl_Flow_tS, ownINSimpl_Flow_iE, rfl, by decide, by decide, ownINSimpl_Flow_shift, ownINSimpl_Flow_grow, ownINSimpl_Flow_end⟩, _, Try.func57, by kernel_rfl, by kernel_rfl⟩
end
theorem qt_I_AddFlowT : TreeOk Try.prog 23 fI_AddFlowTC ∧ CallOk Try.prog 23 :=
  mkTree (A := aI_AddFlow) (gam_cons q_I_flowOf (gam_cons q_I_isRing gam_nil)) (rul_tell (rul_cons q_I_copyRingT (rul_cons q_ownINSimpl_Flow rul_nil))) Try.func23 (by kernel_rfl) (by kernel_rfl) (by exact @link _ (vcTree tab (gOf [(46, fI_flowOfC), (47, fI_isRingC)]) (rOf [(1000000, tellR), (45, treeRule fI_copyRingTC), (57, (insRule flG 48))]) Try.f23 fI_AddFlowTC aI_AddFlow) (by kernel_rfl) v_I_AddFlowT)
theorem q_I_AddFlowT : RuleOk Try.prog 23 (treeRule fI_AddFlowTC) ∧ CallOk Try.prog 23 := ⟨tree_rule qt_I_AddFlowT.1, qt_I_AddFlowT.2⟩
theorem q_I_AddFlow : PureC Try.prog 23 fI_AddFlowC ∧ CallOk Try.prog 23 := ⟨pure_of_tree qt_I_AddFlowT.1, qt_I_AddFlowT.2⟩
theorem q_I_push : PureC Try.prog 59 fI_pushC ∧ CallOk Try.prog 59 :=
  mk (A := noA) (gam_cons q_I_copyLine (gam_cons q_I_isLine gam_nil)) rules0 Try.func59 (by kernel_rfl) (by kernel_rfl) (by exact @link _ (vcFunc tab (gOf [(70, fI_copyLineC), (73, fI_isLineC)]) R0 Try.f59 fI_pushC noA) (by kernel_rfl) v_I_push)
theorem qt_I_PushTicketT : TreeOk Try.prog 31 fI_PushTicketTC ∧ CallOk Try.prog 31 :=
  mkTree (A := noA) (gam_cons q_I_flowOf (gam_cons q_I_isRing (gam_cons q_I_push gam_nil))) (rul_tell (rul_cons q_I_copyRingT rul_nil)) Try.func31 (by kernel_rfl) (by kernel_rfl) (by exact @link _ (vcTree tab (gOf [(46, fI_flowOfC), (47, fI_isRingC), (59, fI_pushC)]) (rOf [(1000000, tellR), (45, treeRule fI_copyRingTC)]) Try.f31 fI_PushTicketTC noA) (by kernel_rfl) v_I_PushTicketT)
theorem q_I_PushTicketT : RuleOk Try.prog 31 (treeRule fI_PushTicketTC) ∧ CallOk Try.prog 31 := ⟨tree_rule qt_I_PushTicketT.1, qt_I_PushTicketT.2⟩
theorem q_I_PushTicket : PureC Try.prog 31 fI_PushTicketC ∧ CallOk Try.prog 31 := ⟨pure_of_tree qt_I_PushTicketT.1, qt_I_PushTicketT.2⟩
theorem q_I_FairGap : PureC Try.prog 32 fI_FairGapC ∧ CallOk Try.prog 32 :=
  mk (A := noA) (gam_cons q_I_flowOf (gam_cons q_I_isRing gam_nil)) rules0 Try.func32 (by kernel_rfl) (by kernel_rfl) (by exact @link _ (vcFunc tab (gOf [(46, fI_flowOfC), (47, fI_isRingC)]) R0 Try.f32 fI_FairGapC noA) (by kernel_rfl) v_I_FairGap)
theorem q_I_waiting : PureC Try.prog 65 fI_waitingC ∧ CallOk Try.prog 65 :=
  mk (A := aI_waiting) gam_nil rules0 Try.func65 (by kernel_rfl) (by kernel_rfl) (by exact @link _ (vcFunc tab (gOf []) R0 Try.f65 fI_waitingC aI_waiting) (by kernel_rfl) v_I_waiting)
section
open Go.RowKit Go.Lib Go.Sort
theorem ownDELimpl_Ticket_mixed : Try.prog.follows .mixedOrders = true := by kernel_rfl
theorem ownDELimpl_Ticket_t0 : Try.prog.underlying 0 = some (TypeDesc.tuple #[]) := by kernel_rfl
theorem ownDELimpl_Ticket_a0 : ∀ w, (isAgg 0).run Try.prog w = .ok false w := fun w => by kernel_rfl
theorem ownDELimpl_Ticket_z0 : ∀ w, (Go.sizeOf 0).run Try.prog w = .ok 1 w := fun w => by kernel_rfl
theorem ownDELimpl_Ticket_v0 : ∀ w, (zeroValue 0).run Try.prog w = .ok (Value.tuple #[]) w := fun w => by kernel_rfl
theorem ownDELimpl_Ticket_t3 : Try.prog.underlying 3 = some (TypeDesc.int IntKind.i64) := by kernel_rfl
theorem ownDELimpl_Ticket_a3 : ∀ w, (isAgg 3).run Try.prog w = .ok false w := fun w => by kernel_rfl
theorem ownDELimpl_Ticket_z3 : ∀ w, (Go.sizeOf 3).run Try.prog w = .ok 1 w := fun w => by kernel_rfl
theorem ownDELimpl_Ticket_v3 : ∀ w, (zeroValue 3).run Try.prog w = .ok (Value.int IntKind.i64 0) w := fun w => by kernel_rfl
theorem ownDELimpl_Ticket_t4 : Try.prog.underlying 4 = some TypeDesc.bool := by kernel_rfl
theorem ownDELimpl_Ticket_a4 : ∀ w, (isAgg 4).run Try.prog w = .ok false w := fun w => by kernel_rfl
theorem ownDELimpl_Ticket_z4 : ∀ w, (Go.sizeOf 4).run Try.prog w = .ok 1 w := fun w => by kernel_rfl
theorem ownDELimpl_Ticket_v4 : ∀ w, (zeroValue 4).run Try.prog w = .ok (Value.bool false) w := fun w => by kernel_rfl
theorem ownDELimpl_Ticket_tS : Try.prog.underlying 60 = some (TypeDesc.slice 36) := by kernel_rfl
theorem ownDELimpl_Ticket_aS : ∀ w, (isAgg 60).run Try.prog w = .ok false w := fun w => by kernel_rfl
theorem ownDELimpl_Ticket_zS : ∀ w, (Go.sizeOf 60).run Try.prog w = .ok 1 w := fun w => by kernel_rfl
theorem ownDELimpl_Ticket_vS : ∀ w, (zeroValue 60).run Try.prog w = .ok (Value.slice none 0 0) w := fun w => by kernel_rfl

set_option maxHeartbeats 4000000 in
set_option maxRecDepth 1000000 in
theorem ownDELimpl_Ticket_same (v : Value) (i : Nat) (w : World) (hv : v = .slice none 0 0 ∧ i = 0 ∨ ∃ blk n cap, v = .slice (some ⟨blk, 0, none⟩) n cap ∧ n ≤ cap ∧ i ≤ n) :
    Calls Try.prog 79 #[v, .int .i64 i, .int .i64 i] w fun e w' => e = .returned v ∧ w' = w := by
  have mixed := ownDELimpl_Ticket_mixed; have t0 := ownDELimpl_Ticket_t0; have a0 := ownDELimpl_Ticket_a0; have z0 := ownDELimpl_Ticket_z0; have v0 := ownDELimpl_Ticket_v0; have t3 := ownDELimpl_Ticket_t3; have a3 := ownDELimpl_Ticket_a3; have z3 := ownDELimpl_Ticket_z3; have v3 := ownDELimpl_Ticket_v3; have t4 := ownDELimpl_Ticket_t4; have a4 := ownDELimpl_Ticket_a4; have z4 := ownDELimpl_Ticket_z4; have v4 := ownDELimpl_Ticket_v4; have tS := ownDELimpl_Ticket_tS; have aS := ownDELimpl_Ticket_aS; have zS := ownDELimpl_Ticket_zS; have vS := ownDELimpl_Ticket_vS
  rcases hv with ⟨rfl, rfl⟩ | ⟨blk, n, cap, rfl, h1, h2⟩
  · go_enter Try.func79, Try.ntmps79
    go_wp2
    all_goals (go_ret; exact ⟨rfl, rfl⟩)
  · go_enter Try.func79, Try.ntmps79
    go_wp2
    all_goals (go_ret; exact ⟨rfl, rfl⟩)

set_option maxHeartbeats 4000000 in
set_option maxRecDepth 1000000 in
theorem ownDELimpl_Ticket_cut (blk n cap i j : Nat) (news : List Value) (w : World) (hcap : n ≤ cap) (hij : i < j) (hj : j ≤ n) (hl : news.length = (n - j) * 2)
    (hsrc : ∀ t u, news[t]? = some u → w.cell? ⟨blk, j * 2 + t, none⟩ = some u) (h1c : ∀ u ∈ news, u.oneCell' = true)
    (hsp : ∀ t, t < n * 2 → (w.cell? ⟨blk, t, none⟩).isSome = true ∧ w.frozen? ⟨blk, t, none⟩ = false) :
    Calls Try.prog 79 #[.slice (some ⟨blk, 0, none⟩) n cap, .int .i64 i, .int .i64 j] w fun e w' => e = .returned (.slice (some ⟨blk, 0, none⟩) (i + (n - j)) cap) ∧
      ∃ zs : List Value, zs.length = (n - (i + (n - j))) * 2 ∧ w' = (w.drew.setCells blk (i * 2) news).setCells blk ((i + (n - j)) * 2) zs := by
  have mixed := ownDELimpl_Ticket_mixed; have t0 := ownDELimpl_Ticket_t0; have a0 := ownDELimpl_Ticket_a0; have z0 := ownDELimpl_Ticket_z0; have v0 := ownDELimpl_Ticket_v0; have t3 := ownDELimpl_Ticket_t3; have a3 := ownDELimpl_Ticket_a3; have z3 := ownDELimpl_Ticket_z3; have v3 := ownDELimpl_Ticket_v3; have t4 := ownDELimpl_Ticket_t4; have a4 := ownDELimpl_Ticket_a4; have z4 := ownDELimpl_Ticket_z4; have v4 := ownDELimpl_Ticket_v4; have tS := ownDELimpl_Ticket_tS; have aS := ownDELimpl_Ticket_aS; have zS := ownDELimpl_Ticket_zS; have vS := ownDELimpl_Ticket_vS
  obtain ⟨i0, hi0, hz1⟩ : ∃ i0, Try.prog.info? 36 = some i0 ∧ i0.size = 2 := Option.map_eq_some_iff.1 (show (Try.prog.info? 36).map (fun i => i.size) = some 2 by kernel_rfl)
  have vE : ∀ w, (zeroValue 36).run Try.prog w = .ok (.agg #[.int .i64 0, .int .i64 0]) w := fun w => by kernel_rfl
  obtain ⟨A, hA, hsrc'⟩ : ∃ A : Addr, (if cap = j then some (⟨blk, 0, none⟩ : Addr) else some ⟨blk, j * 2, none⟩) = some A ∧ Hid (∀ t u, news[t]? = some u → w.drew.cell? (A.add t) = some u) := by
    by_cases h : cap = j
    · refine ⟨⟨blk, 0, none⟩, by simp [h], fun t u hu => ?_⟩
      have h0 : news.length = 0 := by rw [hl]; omega
      rw [List.length_eq_zero_iff.1 h0] at hu
      simp at hu
    · exact ⟨⟨blk, j * 2, none⟩, by simp [h], fun t u hu => by rw [Addr.add_lit]; exact hsrc t u hu⟩
  have s1 : Hid (news.length = (n - j) * 2) := hl
  have s2 : Hid (∀ u ∈ news, u.oneCell' = true) := h1c
  have s3 : Hid (∀ t, t < news.length → (w.drew.cell? ⟨blk, 0 + i * 2 + t, none⟩).isSome = true ∧ w.drew.frozen? ⟨blk, 0 + i * 2 + t, none⟩ = false) := by
    intro t ht
    rw [hl] at ht
    rw [Nat.zero_add]
    exact hsp (i * 2 + t) (by omega)
  obtain ⟨W1, hW1⟩ : ∃ W1, W1 = w.drew.setCells blk (0 + i * 2) news := ⟨_, rfl⟩
  have hsp1 : ∀ t, t < n * 2 → (W1.cell? ⟨blk, t, none⟩).isSome = true ∧ W1.frozen? ⟨blk, t, none⟩ = false := by
    intro t ht
    subst hW1
    refine ⟨?_, by rw [World.frozen?_setCells]; exact (hsp t ht).2⟩
    by_cases hin : i * 2 ≤ t ∧ t < i * 2 + news.length
    · have h2 := World.cell?_setCells_in blk news (0 + i * 2) w.drew (fun k hk => (s3.out k hk).1) (t - i * 2) (by omega)
      rw [show 0 + i * 2 + (t - i * 2) = t by omega] at h2
      rw [h2]; rfl
    · rw [World.cell?_setCells_out blk news _ _ _ (fun _ _ => by show t < 0 + i * 2 ∨ 0 + i * 2 + news.length ≤ t; omega)]
      exact (hsp t ht).1
  obtain ⟨zs, hzs, hcl⟩ : ∃ zs : List Value, zs.length = (n - (i + (n - j))) * 2 ∧ ∀ ty, (Builtin.clear_ #[60] ty #[.slice (some ⟨blk, (i + (n - j)) * 2, none⟩) (n - (i + (n - j))) (cap - (i + (n - j)))]).run Try.prog W1 = .ok (.tuple #[]) (W1.setCells blk ((i + (n - j)) * 2) zs) := by
    refine ⟨(Builtin.zeroCells (Value.agg #[.int .i64 0, .int .i64 0]).cells (n - (i + (n - j)))).toList, by simp [Builtin.zeroCells, Value.cells], fun ty => ?_⟩
    refine run_clear_many W1 _ _ ty _ tS vE (by simp [Value.cells, Value.oneCell']) (by simp [Value.cells]) blk _ _ _ (by omega) (fun t ht => ?_) (fun t ht => ?_)
    · have h2 : (Value.agg #[.int .i64 0, .int .i64 0]).cells.size = 2 := rfl
      rw [h2] at ht
      exact (hsp1 _ (by omega)).1
    · have h2 : (Value.agg #[.int .i64 0, .int .i64 0]).cells.size = 2 := rfl
      rw [h2] at ht
      exact (hsp1 _ (by omega)).2
  have hW : Hid (W1 = w.drew.setCells blk (0 + i * 2) news) := hW1
  have hic : i ≤ cap := by omega
  have hjc : j ≤ cap := by omega
  clear hW1 hsp1 hsp hsrc hl vE
  go_enter Try.func79, Try.ntmps79
  go_wp2_with fail
  go_region_law_o (refine step_append_room rfl (.tmp 22) (.tmp 25) 60 rfl 36 i0 2 tS hi0 hz1 blk 0 i cap (by simp [Act.eval, Act.put]) A (n - j) (cap - j) news (by simp [Act.eval, Act.put]) s1.out hsrc'.out s2.out (by omega) s3.out ?_; rw [← hW.out])
  go_wp2
  all_goals (go_ret; refine ⟨rfl, zs, hzs, ?_⟩; rw [hW.out, Nat.zero_add])
theorem q_ownDELimpl_Ticket : RuleOk Try.prog 79 (delRule tkT) ∧ CallOk Try.prog 79 :=
  ⟨del_rule ⟨ownDELimpl_Ticket_same, ownDELimpl_Ticket_cut⟩, _, Try.func79, by kernel_rfl, by kernel_rfl⟩
end
theorem q_I_withoutTicket : PureC Try.prog 54 fI_withoutTicketC ∧ CallOk Try.prog 54 :=
  mk (A := noA) (gam_cons q_I_copyLine gam_nil) (rul_cons q_ownDELimpl_Ticket rul_nil) Try.func54 (by kernel_rfl) (by kernel_rfl) (by exact @link _ (vcFunc tab (gOf [(70, fI_copyLineC)]) (rOf [(79, (delRule tkT))]) Try.f54 fI_withoutTicketC noA) (by kernel_rfl) v_I_withoutTicket)
theorem q_I_next : RuleOk Try.prog 56 (refRule fI_nextC) ∧ CallOk Try.prog 56 :=
  mkRef (A := aI_next) (gam_cons q_I_waiting (gam_cons q_I_withoutTicket gam_nil)) (rul_tell rul_nil) Try.func56 (by kernel_rfl) (by kernel_rfl) rfl (by exact @link _ (vcRef tab (gOf [(65, fI_waitingC), (54, fI_withoutTicketC)]) (rOf [(1000000, tellR)]) Try.f56 fI_nextC aI_next) (by kernel_rfl) v_I_next)
theorem qt_I_NextTicketT : TreeOk Try.prog 21 fI_NextTicketTC ∧ CallOk Try.prog 21 :=
  mkTree (A := noA) (gam_cons q_I_isRing gam_nil) (rul_tell (rul_cons q_I_copyRingT (rul_cons q_I_next rul_nil))) Try.func21 (by kernel_rfl) (by kernel_rfl) (by exact @link _ (vcTree tab (gOf [(47, fI_isRingC)]) (rOf [(1000000, tellR), (45, treeRule fI_copyRingTC), (56, refRule fI_nextC)]) Try.f21 fI_NextTicketTC noA) (by kernel_rfl) v_I_NextTicketT)
theorem q_I_NextTicketT : RuleOk Try.prog 21 (treeRule fI_NextTicketTC) ∧ CallOk Try.prog 21 := ⟨tree_rule qt_I_NextTicketT.1, qt_I_NextTicketT.2⟩
theorem q_I_NextTicket : PureC Try.prog 21 fI_NextTicketC ∧ CallOk Try.prog 21 := ⟨pure_of_tree qt_I_NextTicketT.1, qt_I_NextTicketT.2⟩
-- LAW
theorem q_law : PureC Try.prog 8 (lawC [.sl (.int .u8)]) ∧ CallOk Try.prog 8 :=
  mk (A := aL_FnFair) (gam_cons q_L_big (gam_cons q_L_at (gam_cons q_I_AddFlow (gam_cons q_I_PushTicket (gam_cons q_I_FairGap (gam_cons q_I_NextTicket gam_nil)))))) rules0 Try.func8 (by kernel_rfl) (by kernel_rfl) (by exact @link _ (vcFunc tab (gOf [(29, fL_bigC), (30, fL_atC), (23, fI_AddFlowC), (31, fI_PushTicketC), (32, fI_FairGapC), (21, fI_NextTicketC)]) R0 Try.f8 (lawC [.sl (.int .u8)]) aL_FnFair) (by kernel_rfl) v_FnFair)
end Go.SF
