/- FnExactPlayLine: the functions keep their contracts. No condition. -/
import Derived.Test.YtoikbmdjancdcaaSxPLine
import Derived.Test.YtoikbmdjancdcaaSxPLine3
import Derived.Test.YtoikbmdjancdcaaSxPBase
import Derived.Test.YtoikbmdjancdcaaSxPLine2
import Derived.Test.YtoikbmdjancdcaaSxPMark
import Derived.Test.YtoikbmdjancdcaaSxPFnExactPlayLine
import Derived.Shelf.RegionOpenPlain
import Derived.WalkKit
import Derived.Deep.LoopGhost
import Derived.Deep.RegionLaw
import Derived.Lib.Walk
import Derived.Test.YtoikbmdjancdcaaSxTab
import Derived.Test.YtoikbmdjancdcaaChecked
import Derived.KernelRfl
namespace Go.SF
open Go.SX Go.Proofs
set_option maxRecDepth 100000
set_option linter.unusedVariables false
theorem rules0 {P : Program} : RulesOk P R0 := fun f r h => by cases h
theorem gam_nil {P : Program} : GamOk P (gOf []) := fun f c h => by cases h
theorem gam_cons {P : Program} {k : Nat} {c : PC} {r : List (Nat × PC)} (h : PureC P k c ∧ CallOk P k) (hr : GamOk P (gOf r)) : GamOk P (gOf ((k, c) :: r)) := by
  intro f c' h'
  unfold gOf at h'
  split at h'
  · rename_i e
    injection h' with h'
    subst h'; subst e
    exact h
  · exact hr f c' h'
theorem rul_nil {P : Program} : RulesOk P (rOf []) := fun f c h => by cases h
theorem rul_cons {P : Program} {k : Nat} {c : Rule} {r : List (Nat × Rule)} (h : RuleOk P k c ∧ CallOk P k) (hr : RulesOk P (rOf r)) : RulesOk P (rOf ((k, c) :: r)) := by
  intro f c' h'
  unfold rOf at h'
  split at h'
  · rename_i e
    injection h' with h'
    subst h'; subst e
    exact h
  · exact hr f c' h'
theorem tabOk : TabOk Try.prog tab := tabOk_of (by kernel_rfl)
theorem mixed : Try.prog.follows .mixedOrders = true := by kernel_rfl
theorem mk {Γ : FuncId → Option PC} {f : FuncId} {fn : Func} {c : PC} {A : Tup c.ts → Nat → Option Ann} {R : FuncId → Option Rule} (hΓ : GamOk Try.prog Γ) (hR : RulesOk Try.prog R) (hf : Try.prog.funcs[f]? = some fn) (h1 : (fn.name == "runtime.NumGoroutine") = false) (h2 : fn.body.isNone = false)
    (h : vcFunc tab Γ R fn c A) : PureC Try.prog f c ∧ CallOk Try.prog f := ⟨vcFunc_pure mixed tabOk hΓ hR hf h, fn, hf, h1, h2⟩
theorem mkM {Γ : FuncId → Option PC} {R : FuncId → Option Rule} {f : FuncId} {fn : Func} {c : MC} {A : c.t.den → Int → Nat → Option Ann} (hΓ : GamOk Try.prog Γ) (hR : RulesOk Try.prog R) (hf : Try.prog.funcs[f]? = some fn) (h1 : (fn.name == "runtime.NumGoroutine") = false) (h2 : fn.body.isNone = false)
    (hl : c.t.lendable = true) (h : vcMut tab Γ R fn c A) : RuleOk Try.prog f (ruleOf c) ∧ CallOk Try.prog f := ⟨vcMut_rule mixed tabOk hΓ hR hf hl h, fn, hf, h1, h2⟩
theorem link {p q : Prop} (h : p = q) (hp : p) : q := h ▸ hp
theorem q_L_szTicketS : PureC Try.prog 64 fL_szTicketSC ∧ CallOk Try.prog 64 :=
  mk (A := noA) gam_nil rules0 Try.func64 (by kernel_rfl) (by kernel_rfl) (by exact @link _ (vcFunc tab (gOf []) R0 Try.f64 fL_szTicketSC noA) (by kernel_rfl) v_L_szTicketS)
theorem q_L_szLine : PureC Try.prog 20 fL_szLineC ∧ CallOk Try.prog 20 :=
  mk (A := noA) (gam_cons q_L_szTicketS gam_nil) rules0 Try.func20 (by kernel_rfl) (by kernel_rfl) (by exact @link _ (vcFunc tab (gOf [(64, fL_szTicketSC)]) R0 Try.f20 fL_szLineC noA) (by kernel_rfl) v_L_szLine)
theorem q_L_szLineOpS : PureC Try.prog 48 fL_szLineOpSC ∧ CallOk Try.prog 48 :=
  mk (A := noA) gam_nil rules0 Try.func48 (by kernel_rfl) (by kernel_rfl) (by exact @link _ (vcFunc tab (gOf []) R0 Try.f48 fL_szLineOpSC noA) (by kernel_rfl) v_L_szLineOpS)
theorem q_L_toTicket : PureC Try.prog 30 fL_toTicketC ∧ CallOk Try.prog 30 :=
  mk (A := noA) gam_nil rules0 Try.func30 (by kernel_rfl) (by kernel_rfl) (by exact @link _ (vcFunc tab (gOf []) R0 Try.f30 fL_toTicketC noA) (by kernel_rfl) v_L_toTicket)
theorem q_L_toTicketS : PureC Try.prog 66 fL_toTicketSC ∧ CallOk Try.prog 66 :=
  mk (A := aL_toTicketS) (gam_cons q_L_toTicket gam_nil) rules0 Try.func66 (by kernel_rfl) (by kernel_rfl) (by exact @link _ (vcFunc tab (gOf [(30, fL_toTicketC)]) R0 Try.f66 fL_toTicketSC aL_toTicketS) (by kernel_rfl) v_L_toTicketS)
theorem q_L_toLine : PureC Try.prog 22 fL_toLineC ∧ CallOk Try.prog 22 :=
  mk (A := noA) (gam_cons q_L_toTicketS gam_nil) rules0 Try.func22 (by kernel_rfl) (by kernel_rfl) (by exact @link _ (vcFunc tab (gOf [(66, fL_toTicketSC)]) R0 Try.f22 fL_toLineC noA) (by kernel_rfl) v_L_toLine)
theorem q_L_toLineOp : PureC Try.prog 85 fL_toLineOpC ∧ CallOk Try.prog 85 :=
  mk (A := noA) (gam_cons q_L_toTicket gam_nil) rules0 Try.func85 (by kernel_rfl) (by kernel_rfl) (by exact @link _ (vcFunc tab (gOf [(30, fL_toTicketC)]) R0 Try.f85 fL_toLineOpC noA) (by kernel_rfl) v_L_toLineOp)
theorem q_L_toLineOpS : PureC Try.prog 50 fL_toLineOpSC ∧ CallOk Try.prog 50 :=
  mk (A := aL_toLineOpS) (gam_cons q_L_toLineOp gam_nil) rules0 Try.func50 (by kernel_rfl) (by kernel_rfl) (by exact @link _ (vcFunc tab (gOf [(85, fL_toLineOpC)]) R0 Try.f50 fL_toLineOpSC aL_toLineOpS) (by kernel_rfl) v_L_toLineOpS)
theorem q_S_l01In : PureC Try.prog 61 fS_l01InC ∧ CallOk Try.prog 61 :=
  mk (A := noA) gam_nil rules0 Try.func61 (by kernel_rfl) (by kernel_rfl) (by exact @link _ (vcFunc tab (gOf []) R0 Try.f61 fS_l01InC noA) (by kernel_rfl) v_S_l01In)
theorem q_S_l13Ticket : PureC Try.prog 91 fS_l13TicketC ∧ CallOk Try.prog 91 :=
  mk (A := noA) (gam_cons q_S_l01In gam_nil) rules0 Try.func91 (by kernel_rfl) (by kernel_rfl) (by exact @link _ (vcFunc tab (gOf [(61, fS_l01InC)]) R0 Try.f91 fS_l13TicketC noA) (by kernel_rfl) v_S_l13Ticket)
theorem q_S_LineOk : PureC Try.prog 65 fS_LineOkC ∧ CallOk Try.prog 65 :=
  mk (A := aS_LineOk) (gam_cons q_S_l13Ticket gam_nil) rules0 Try.func65 (by kernel_rfl) (by kernel_rfl) (by exact @link _ (vcFunc tab (gOf [(91, fS_l13TicketC)]) R0 Try.f65 fS_LineOkC aS_LineOk) (by kernel_rfl) v_S_LineOk)
theorem q_S_l13Copy : PureC Try.prog 71 fS_l13CopyC ∧ CallOk Try.prog 71 :=
  mk (A := aS_l13Copy) gam_nil rules0 Try.func71 (by kernel_rfl) (by kernel_rfl) (by exact @link _ (vcFunc tab (gOf []) R0 Try.f71 fS_l13CopyC aS_l13Copy) (by kernel_rfl) v_S_l13Copy)
theorem q_S_Push : PureC Try.prog 29 fS_PushC ∧ CallOk Try.prog 29 :=
  mk (A := noA) (gam_cons q_S_l13Copy (gam_cons q_S_LineOk gam_nil)) rules0 Try.func29 (by kernel_rfl) (by kernel_rfl) (by exact @link _ (vcFunc tab (gOf [(71, fS_l13CopyC), (65, fS_LineOkC)]) R0 Try.f29 fS_PushC noA) (by kernel_rfl) v_S_Push)
theorem q_S_Cancel : PureC Try.prog 37 fS_CancelC ∧ CallOk Try.prog 37 :=
  mk (A := aS_Cancel) (gam_cons q_S_LineOk (gam_cons q_S_l13Copy gam_nil)) rules0 Try.func37 (by kernel_rfl) (by kernel_rfl) (by exact @link _ (vcFunc tab (gOf [(65, fS_LineOkC), (71, fS_l13CopyC)]) R0 Try.f37 fS_CancelC aS_Cancel) (by kernel_rfl) v_S_Cancel)
theorem q_S_Pop : PureC Try.prog 34 fS_PopC ∧ CallOk Try.prog 34 :=
  mk (A := noA) (gam_cons q_S_LineOk (gam_cons q_S_l13Copy (gam_cons q_S_Cancel gam_nil))) rules0 Try.func34 (by kernel_rfl) (by kernel_rfl) (by exact @link _ (vcFunc tab (gOf [(65, fS_LineOkC), (71, fS_l13CopyC), (37, fS_CancelC)]) R0 Try.f34 fS_PopC noA) (by kernel_rfl) v_S_Pop)
theorem q_S_PlayLine : PureC Try.prog 49 fS_PlayLineC ∧ CallOk Try.prog 49 :=
  mk (A := aS_PlayLine) (gam_cons q_S_LineOk (gam_cons q_S_l13Copy (gam_cons q_S_Push (gam_cons q_S_Pop (gam_cons q_S_Cancel gam_nil))))) rules0 Try.func49 (by kernel_rfl) (by kernel_rfl) (by exact @link _ (vcFunc tab (gOf [(65, fS_LineOkC), (71, fS_l13CopyC), (29, fS_PushC), (34, fS_PopC), (37, fS_CancelC)]) R0 Try.f49 fS_PlayLineC aS_PlayLine) (by kernel_rfl) v_S_PlayLine)
theorem q_I_isTicket : PureC Try.prog 92 fI_isTicketC ∧ CallOk Try.prog 92 :=
  mk (A := noA) gam_nil rules0 Try.func92 (by kernel_rfl) (by kernel_rfl) (by exact @link _ (vcFunc tab (gOf []) R0 Try.f92 fI_isTicketC noA) (by kernel_rfl) v_I_isTicket)
theorem q_I_isLine : PureC Try.prog 67 fI_isLineC ∧ CallOk Try.prog 67 :=
  mk (A := aI_isLine) (gam_cons q_I_isTicket gam_nil) rules0 Try.func67 (by kernel_rfl) (by kernel_rfl) (by exact @link _ (vcFunc tab (gOf [(92, fI_isTicketC)]) R0 Try.f67 fI_isLineC aI_isLine) (by kernel_rfl) v_I_isLine)
theorem q_I_copyLine : PureC Try.prog 72 fI_copyLineC ∧ CallOk Try.prog 72 :=
  mk (A := noA) gam_nil rules0 Try.func72 (by kernel_rfl) (by kernel_rfl) (by exact @link _ (vcFunc tab (gOf []) R0 Try.f72 fI_copyLineC noA) (by kernel_rfl) v_I_copyLine)
theorem q_I_push : PureC Try.prog 73 fI_pushC ∧ CallOk Try.prog 73 :=
  mk (A := noA) (gam_cons q_I_copyLine (gam_cons q_I_isLine gam_nil)) rules0 Try.func73 (by kernel_rfl) (by kernel_rfl) (by exact @link _ (vcFunc tab (gOf [(72, fI_copyLineC), (67, fI_isLineC)]) R0 Try.f73 fI_pushC noA) (by kernel_rfl) v_I_push)
section
open Go.RowKit Go.Lib Go.Sort
theorem ownDELimpl_Ticket_mixed : Try.prog.follows .mixedOrders = true := by kernel_rfl
theorem ownDELimpl_Ticket_t0 : Try.prog.underlying 0 = some (TypeDesc.tuple #[]) := by kernel_rfl
theorem ownDELimpl_Ticket_a0 : ∀ w, (isAgg 0).run Try.prog w = .ok false w := fun w => by kernel_rfl
theorem ownDELimpl_Ticket_z0 : ∀ w, (Go.sizeOf 0).run Try.prog w = .ok 1 w := fun w => by kernel_rfl
theorem ownDELimpl_Ticket_v0 : ∀ w, (zeroValue 0).run Try.prog w = .ok (Value.tuple #[]) w := fun w => by kernel_rfl
theorem ownDELimpl_Ticket_t3 : Try.prog.underlying 3 = some (TypeDesc.int IntKind.i64) := by kernel_rfl
theorem ownDELimpl_Ticket_a3 : ∀ w, (isAgg 3).run Try.prog w = .ok false w := fun w => by kernel_rfl
theorem ownDELimpl_Ticket_z3 : ∀ w, (Go.sizeOf 3).run Try.prog w = .ok 1 w := fun w => by kernel_rfl
theorem ownDELimpl_Ticket_v3 : ∀ w, (zeroValue 3).run Try.prog w = .ok (Value.int IntKind.i64 0) w := fun w => by kernel_rfl
theorem ownDELimpl_Ticket_t4 : Try.prog.underlying 4 = some TypeDesc.bool := by kernel_rfl
theorem ownDELimpl_Ticket_a4 : ∀ w, (isAgg 4).run Try.prog w = .ok false w := fun w => by kernel_rfl
theorem ownDELimpl_Ticket_z4 : ∀ w, (Go.sizeOf 4).run Try.prog w = .ok 1 w := fun w => by kernel_rfl
theorem ownDELimpl_Ticket_v4 : ∀ w, (zeroValue 4).run Try.prog w = .ok (Value.bool false) w := fun w => by kernel_rfl
theorem ownDELimpl_Ticket_tS : Try.prog.underlying 34 = some (TypeDesc.slice 46) := by kernel_rfl
theorem ownDELimpl_Ticket_aS : ∀ w, (isAgg 34).run Try.prog w = .ok false w := fun w => by kernel_rfl
theorem ownDELimpl_Ticket_zS : ∀ w, (Go.sizeOf 34).run Try.prog w = .ok 1 w := fun w => by kernel_rfl
theorem ownDELimpl_Ticket_vS : ∀ w, (zeroValue 34).run Try.prog w = .ok (Value.slice none 0 0) w := fun w => by kernel_rfl

set_option maxHeartbeats 4000000 in
set_option maxRecDepth 1000000 in
theorem ownDELimpl_Ticket_same (v : Value) (i : Nat) (w : World) (hv : v = .slice none 0 0 ∧ i = 0 ∨ ∃ blk n cap, v = .slice (some ⟨blk, 0, none⟩) n cap ∧ n ≤ cap ∧ i ≤ n) :
    Calls Try.prog 95 #[v, .int .i64 i, .int .i64 i] w fun e w' => e = .returned v ∧ w' = w := by
  have mixed := ownDELimpl_Ticket_mixed; have t0 := ownDELimpl_Ticket_t0; have a0 := ownDELimpl_Ticket_a0; have z0 := ownDELimpl_Ticket_z0; have v0 := ownDELimpl_Ticket_v0; have t3 := ownDELimpl_Ticket_t3; have a3 := ownDELimpl_Ticket_a3; have z3 := ownDELimpl_Ticket_z3; have v3 := ownDELimpl_Ticket_v3; have t4 := ownDELimpl_Ticket_t4; have a4 := ownDELimpl_Ticket_a4; have z4 := ownDELimpl_Ticket_z4; have v4 := ownDELimpl_Ticket_v4; have tS := ownDELimpl_Ticket_tS; have aS := ownDELimpl_Ticket_aS; have zS := ownDELimpl_Ticket_zS; have vS := ownDELimpl_Ticket_vS
  rcases hv with ⟨rfl, rfl⟩ | ⟨blk, n, cap, rfl, h1, h2⟩
  · go_enter Try.func95, Try.ntmps95
    go_wp2
    all_goals (go_ret; exact ⟨rfl, rfl⟩)
  · go_enter Try.func95, Try.ntmps95
    go_wp2
    all_goals (go_ret; exact ⟨rfl, rfl⟩)

set_option maxHeartbeats 4000000 in
set_option maxRecDepth 1000000 in
theorem ownDELimpl_Ticket_cut (blk n cap i j : Nat) (news : List Value) (w : World) (hcap : n ≤ cap) (hij : i < j) (hj : j ≤ n) (hl : news.length = (n - j) * 2)
    (hsrc : ∀ t u, news[t]? = some u → w.cell? ⟨blk, j * 2 + t, none⟩ = some u) (h1c : ∀ u ∈ news, u.oneCell' = true)
    (hsp : ∀ t, t < n * 2 → (w.cell? ⟨blk, t, none⟩).isSome = true ∧ w.frozen? ⟨blk, t, none⟩ = false) :
    Calls Try.prog 95 #[.slice (some ⟨blk, 0, none⟩) n cap, .int .i64 i, .int .i64 j] w fun e w' => e = .returned (.slice (some ⟨blk, 0, none⟩) (i + (n - j)) cap) ∧
      ∃ zs : List Value, zs.length = (n - (i + (n - j))) * 2 ∧ w' = (w.drew.setCells blk (i * 2) news).setCells blk ((i + (n - j)) * 2) zs := by
  have mixed := ownDELimpl_Ticket_mixed; have t0 := ownDELimpl_Ticket_t0; have a0 := ownDELimpl_Ticket_a0; have z0 := ownDELimpl_Ticket_z0; have v0 := ownDELimpl_Ticket_v0; have t3 := ownDELimpl_Ticket_t3; have a3 := ownDELimpl_Ticket_a3; have z3 := ownDELimpl_Ticket_z3; have v3 := ownDELimpl_Ticket_v3; have t4 := ownDELimpl_Ticket_t4; have a4 := ownDELimpl_Ticket_a4; have z4 := ownDELimpl_Ticket_z4; have v4 := ownDELimpl_Ticket_v4; have tS := ownDELimpl_Ticket_tS; have aS := ownDELimpl_Ticket_aS; have zS := ownDELimpl_Ticket_zS; have vS := ownDELimpl_Ticket_vS
  obtain ⟨i0, hi0, hz1⟩ : ∃ i0, Try.prog.info? 46 = some i0 ∧ i0.size = 2 := Option.map_eq_some_iff.1 (show (Try.prog.info? 46).map (fun i => i.size) = some 2 by kernel_rfl)
  have vE : ∀ w, (zeroValue 46).run Try.prog w = .ok (.agg #[.int .i64 0, .int .i64 0]) w := fun w => by kernel_rfl
  obtain ⟨A, hA, hsrc'⟩ : ∃ A : Addr, (if cap = j then some (⟨blk, 0, none⟩ : Addr) else some ⟨blk, j * 2, none⟩) = some A ∧ Hid (∀ t u, news[t]? = some u → w.drew.cell? (A.add t) = some u) := by
    by_cases h : cap = j
    · refine ⟨⟨blk, 0, none⟩, by simp [h], fun t u hu => ?_⟩
      have h0 : news.length = 0 := by rw [hl]; omega
      rw [List.length_eq_zero_iff.1 h0] at hu
      simp at hu
    · exact ⟨⟨blk, j * 2, none⟩, by simp [h], fun t u hu => by rw [Addr.add_lit]; exact hsrc t u hu⟩
  have s1 : Hid (news.length = (n - j) * 2) := hl
  have s2 : Hid (∀ u ∈ news, u.oneCell' = true) := h1c
  have s3 : Hid (∀ t, t < news.length → (w.drew.cell? ⟨blk, 0 + i * 2 + t, none⟩).isSome = true ∧ w.drew.frozen? ⟨blk, 0 + i * 2 + t, none⟩ = false) := by
    intro t ht
    rw [hl] at ht
    rw [Nat.zero_add]
    exact hsp (i * 2 + t) (by omega)
  obtain ⟨W1, hW1⟩ : ∃ W1, W1 = w.drew.setCells blk (0 + i * 2) news := ⟨_, rfl⟩
  have hsp1 : ∀ t, t < n * 2 → (W1.cell? ⟨blk, t, none⟩).isSome = true ∧ W1.frozen? ⟨blk, t, none⟩ = false := by
    intro t ht
    subst hW1
    refine ⟨?_, by rw [World.frozen?_setCells]; exact (hsp t ht).2⟩
    by_cases hin : i * 2 ≤ t ∧ t < i * 2 + news.length
    · have h2 := World.cell?_setCells_in blk news (0 + i * 2) w.drew (fun k hk => (s3.out k hk).1) (t - i * 2) (by omega)
      rw [show 0 + i * 2 + (t - i * 2) = t by omega] at h2
      rw [h2]; rfl
    · rw [World.cell?_setCells_out blk news _ _ _ (fun _ _ => by show t < 0 + i * 2 ∨ 0 + i * 2 + news.length ≤ t; omega)]
      exact (hsp t ht).1
  obtain ⟨zs, hzs, hcl⟩ : ∃ zs : List Value, zs.length = (n - (i + (n - j))) * 2 ∧ ∀ ty, (Builtin.clear_ #[34] ty #[.slice (some ⟨blk, (i + (n - j)) * 2, none⟩) (n - (i + (n - j))) (cap - (i + (n - j)))]).run Try.prog W1 = .ok (.tuple #[]) (W1.setCells blk ((i + (n - j)) * 2) zs) := by
    refine ⟨(Builtin.zeroCells (Value.agg #[.int .i64 0, .int .i64 0]).cells (n - (i + (n - j)))).toList, by simp [Builtin.zeroCells, Value.cells], fun ty => ?_⟩
    refine run_clear_many W1 _ _ ty _ tS vE (by simp [Value.cells, Value.oneCell']) (by simp [Value.cells]) blk _ _ _ (by omega) (fun t ht => ?_) (fun t ht => ?_)
    · have h2 : (Value.agg #[.int .i64 0, .int .i64 0]).cells.size = 2 := rfl
      rw [h2] at ht
      exact (hsp1 _ (by omega)).1
    · have h2 : (Value.agg #[.int .i64 0, .int .i64 0]).cells.size = 2 := rfl
      rw [h2] at ht
      exact (hsp1 _ (by omega)).2
  have hW : Hid (W1 = w.drew.setCells blk (0 + i * 2) news) := hW1
  have hic : i ≤ cap := by omega
  have hjc : j ≤ cap := by omega
  clear hW1 hsp1 hsp hsrc hl vE
  go_enter Try.func95, Try.ntmps95
  go_wp2_with fail
  go_region_law_o (refine step_append_room rfl (.tmp 22) (.tmp 25) 34 rfl 46 i0 2 tS hi0 hz1 blk 0 i cap (by simp [Act.eval, Act.put]) A (n - j) (cap - j) news (by simp [Act.eval, Act.put]) s1.out hsrc'.out s2.out (by omega) s3.out ?_; rw [← hW.out])
  go_wp2
  all_goals (go_ret; refine ⟨rfl, zs, hzs, ?_⟩; rw [hW.out, Nat.zero_add])
theorem q_ownDELimpl_Ticket : RuleOk Try.prog 95 (delRule tkT) ∧ CallOk Try.prog 95 :=
  ⟨del_rule ⟨ownDELimpl_Ticket_same, ownDELimpl_Ticket_cut⟩, _, Try.func95, by kernel_rfl, by kernel_rfl⟩
end
theorem q_I_withoutTicket : PureC Try.prog 76 fI_withoutTicketC ∧ CallOk Try.prog 76 :=
  mk (A := noA) (gam_cons q_I_copyLine gam_nil) (rul_cons q_ownDELimpl_Ticket rul_nil) Try.func76 (by kernel_rfl) (by kernel_rfl) (by exact @link _ (vcFunc tab (gOf [(72, fI_copyLineC)]) (rOf [(95, (delRule tkT))]) Try.f76 fI_withoutTicketC noA) (by kernel_rfl) v_I_withoutTicket)
theorem q_I_placeOf1 : PureC Try.prog 94 fI_placeOf1C ∧ CallOk Try.prog 94 :=
  mk (A := noA) gam_nil rules0 Try.func94 (by kernel_rfl) (by kernel_rfl) (by exact @link _ (vcFunc tab (gOf []) R0 Try.f94 fI_placeOf1C noA) (by kernel_rfl) v_I_placeOf1)
theorem q_G_IndexFuncTk : PureC Try.prog 93 (fG_IndexFuncTkC 94) ∧ CallOk Try.prog 93 :=
  mk (A := aG_IndexFuncTk) (gam_cons q_I_placeOf1 gam_nil) rules0 Try.func93 (by kernel_rfl) (by kernel_rfl) (by exact @link _ (vcFunc tab (gOf [(94, fI_placeOf1C)]) R0 Try.f93 (fG_IndexFuncTkC 94) aG_IndexFuncTk) (by kernel_rfl) v_G_IndexFuncTk)
theorem q_I_placeOf : PureC Try.prog 70 fI_placeOfC ∧ CallOk Try.prog 70 :=
  mk (A := noA) (gam_cons q_G_IndexFuncTk gam_nil) rules0 Try.func70 (by kernel_rfl) (by kernel_rfl) (by exact @link _ (vcFunc tab (gOf [(93, (fG_IndexFuncTkC 94))]) R0 Try.f70 fI_placeOfC noA) (by kernel_rfl) v_I_placeOf)
theorem q_I_PlayLine : PureC Try.prog 51 fI_PlayLineC ∧ CallOk Try.prog 51 :=
  mk (A := aI_PlayLine) (gam_cons q_I_isLine (gam_cons q_I_copyLine (gam_cons q_I_push (gam_cons q_I_withoutTicket (gam_cons q_I_placeOf gam_nil))))) rules0 Try.func51 (by kernel_rfl) (by kernel_rfl) (by exact @link _ (vcFunc tab (gOf [(67, fI_isLineC), (72, fI_copyLineC), (73, fI_pushC), (76, fI_withoutTicketC), (70, fI_placeOfC)]) R0 Try.f51 fI_PlayLineC aI_PlayLine) (by kernel_rfl) v_I_PlayLine)
theorem q_L_eqTicket : PureC Try.prog 36 fL_eqTicketC ∧ CallOk Try.prog 36 :=
  mk (A := noA) gam_nil rules0 Try.func36 (by kernel_rfl) (by kernel_rfl) (by exact @link _ (vcFunc tab (gOf []) R0 Try.f36 fL_eqTicketC noA) (by kernel_rfl) v_L_eqTicket)
theorem q_L_eqTicketS : PureC Try.prog 69 fL_eqTicketSC ∧ CallOk Try.prog 69 :=
  mk (A := aL_eqTicketS) (gam_cons q_L_eqTicket gam_nil) rules0 Try.func69 (by kernel_rfl) (by kernel_rfl) (by exact @link _ (vcFunc tab (gOf [(36, fL_eqTicketC)]) R0 Try.f69 fL_eqTicketSC aL_eqTicketS) (by kernel_rfl) v_L_eqTicketS)
theorem q_L_eqLine : PureC Try.prog 24 fL_eqLineC ∧ CallOk Try.prog 24 :=
  mk (A := noA) (gam_cons q_L_eqTicketS gam_nil) rules0 Try.func24 (by kernel_rfl) (by kernel_rfl) (by exact @link _ (vcFunc tab (gOf [(69, fL_eqTicketSC)]) R0 Try.f24 fL_eqLineC noA) (by kernel_rfl) v_L_eqLine)
theorem q_L_eqIntS : PureC Try.prog 52 fL_eqIntSC ∧ CallOk Try.prog 52 :=
  mk (A := aL_eqIntS) gam_nil rules0 Try.func52 (by kernel_rfl) (by kernel_rfl) (by exact @link _ (vcFunc tab (gOf []) R0 Try.f52 fL_eqIntSC aL_eqIntS) (by kernel_rfl) v_L_eqIntS)
theorem q_L_eqLineOp : PureC Try.prog 86 fL_eqLineOpC ∧ CallOk Try.prog 86 :=
  mk (A := noA) (gam_cons q_L_eqTicket gam_nil) rules0 Try.func86 (by kernel_rfl) (by kernel_rfl) (by exact @link _ (vcFunc tab (gOf [(36, fL_eqTicketC)]) R0 Try.f86 fL_eqLineOpC noA) (by kernel_rfl) v_L_eqLineOp)
theorem q_L_eqLineOpS : PureC Try.prog 53 fL_eqLineOpSC ∧ CallOk Try.prog 53 :=
  mk (A := aL_eqLineOpS) (gam_cons q_L_eqLineOp gam_nil) rules0 Try.func53 (by kernel_rfl) (by kernel_rfl) (by exact @link _ (vcFunc tab (gOf [(86, fL_eqLineOpC)]) R0 Try.f53 fL_eqLineOpSC aL_eqLineOpS) (by kernel_rfl) v_L_eqLineOpS)
theorem q_L_markTicketS : RuleOk Try.prog 74 (ruleOf fL_markTicketSC) ∧ CallOk Try.prog 74 :=
  mkM (A := aL_markTicketS) gam_nil rules0 Try.func74 (by kernel_rfl) (by kernel_rfl) rfl (by exact @link _ (vcMut tab (gOf []) R0 Try.f74 fL_markTicketSC aL_markTicketS) (by kernel_rfl) v_L_markTicketS)
theorem q_L_markLine : RuleOk Try.prog 32 (ruleOf fL_markLineC) ∧ CallOk Try.prog 32 :=
  mkM (A := noM0) gam_nil (rul_cons q_L_markTicketS rul_nil) Try.func32 (by kernel_rfl) (by kernel_rfl) rfl (by exact @link _ (vcMut tab (gOf []) (rOf [(74, ruleOf fL_markTicketSC)]) Try.f32 fL_markLineC noM0) (by kernel_rfl) v_L_markLine)
theorem q_L_markLineOpS : RuleOk Try.prog 54 (ruleOf fL_markLineOpSC) ∧ CallOk Try.prog 54 :=
  mkM (A := aL_markLineOpS) gam_nil rules0 Try.func54 (by kernel_rfl) (by kernel_rfl) rfl (by exact @link _ (vcMut tab (gOf []) R0 Try.f54 fL_markLineOpSC aL_markLineOpS) (by kernel_rfl) v_L_markLineOpS)
theorem q_L_heldTicketS : PureC Try.prog 75 fL_heldTicketSC ∧ CallOk Try.prog 75 :=
  mk (A := aL_heldTicketS) gam_nil rules0 Try.func75 (by kernel_rfl) (by kernel_rfl) (by exact @link _ (vcFunc tab (gOf []) R0 Try.f75 fL_heldTicketSC aL_heldTicketS) (by kernel_rfl) v_L_heldTicketS)
theorem q_L_heldLine : PureC Try.prog 33 fL_heldLineC ∧ CallOk Try.prog 33 :=
  mk (A := noA) (gam_cons q_L_heldTicketS gam_nil) rules0 Try.func33 (by kernel_rfl) (by kernel_rfl) (by exact @link _ (vcFunc tab (gOf [(75, fL_heldTicketSC)]) R0 Try.f33 fL_heldLineC noA) (by kernel_rfl) v_L_heldLine)
theorem q_L_markIntS : RuleOk Try.prog 55 (ruleOf fL_markIntSC) ∧ CallOk Try.prog 55 :=
  mkM (A := aL_markIntS) gam_nil rules0 Try.func55 (by kernel_rfl) (by kernel_rfl) rfl (by exact @link _ (vcMut tab (gOf []) R0 Try.f55 fL_markIntSC aL_markIntS) (by kernel_rfl) v_L_markIntS)
theorem q_L_heldIntS : PureC Try.prog 56 fL_heldIntSC ∧ CallOk Try.prog 56 :=
  mk (A := aL_heldIntS) gam_nil rules0 Try.func56 (by kernel_rfl) (by kernel_rfl) (by exact @link _ (vcFunc tab (gOf []) R0 Try.f56 fL_heldIntSC aL_heldIntS) (by kernel_rfl) v_L_heldIntS)
-- LAW
theorem q_law : PureC Try.prog 13 (lawC [lineT, .sl opT]) ∧ CallOk Try.prog 13 :=
  mk (A := noA) (gam_cons q_L_szLine (gam_cons q_L_szLineOpS (gam_cons q_L_toLine (gam_cons q_L_toLineOpS (gam_cons q_S_PlayLine (gam_cons q_I_PlayLine (gam_cons q_L_eqLine (gam_cons q_L_eqIntS (gam_cons q_L_eqLineOpS (gam_cons q_L_heldLine (gam_cons q_L_heldIntS gam_nil))))))))))) (rul_cons q_L_markLine (rul_cons q_L_markLineOpS (rul_cons q_L_markIntS rul_nil))) Try.func13 (by kernel_rfl) (by kernel_rfl) (by exact @link _ (vcFunc tab (gOf [(20, fL_szLineC), (48, fL_szLineOpSC), (22, fL_toLineC), (50, fL_toLineOpSC), (49, fS_PlayLineC), (51, fI_PlayLineC), (24, fL_eqLineC), (52, fL_eqIntSC), (53, fL_eqLineOpSC), (33, fL_heldLineC), (56, fL_heldIntSC)]) (rOf [(32, ruleOf fL_markLineC), (54, ruleOf fL_markLineOpSC), (55, ruleOf fL_markIntSC)]) Try.f13 (lawC [lineT, .sl opT]) noA) (by kernel_rfl) v_FnExactPlayLine)
end Go.SF
