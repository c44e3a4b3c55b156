/- The law of Store. No condition. -/
import Derived.Test.YtdomcnkhdnagiaaSxC
import Derived.Test.YtdomcnkhdnagiaaSxPCacheN
namespace Go.SF
open Go.SX Go
set_option linter.unusedVariables false
set_option linter.unusedSimpArgs false
set_option maxRecDepth 100000
set_option maxHeartbeats 0
theorem szGo_le : ∀ (es : List En) (l : Int), 0 ≤ szEnGo es l → 0 ≤ l → l ≤ 1048576 → (∀ e ∈ es, e.1.length ≤ 9223372036854775807 ∧ e.2.2.1.length ≤ 9223372036854775807 ∧ e.2.2.2.length ≤ 9223372036854775807) → szEnGo es l ≤ l
  | [], l, _, _, _, _ => Int.le_refl _
  | g :: es, l, h, hl0, hl, hw => by
    unfold szEnGo at h ⊢
    split at h
    · omega
    · rename_i hn
      rw [if_neg hn]
      obtain ⟨w1, w2, w3⟩ := hw g (List.mem_cons_self ..)
      obtain ⟨r1, r2⟩ := szEn_sub hn hl0 hl w1 w2 w3
      have := szGo_le es _ h r2 (by omega) (fun e he => hw e (List.mem_cons_of_mem _ he))
      omega
theorem szCa_le {c : Ca} (hw : c.2.length ≤ 9223372036854775807 ∧ ∀ e ∈ c.2, e.1.length ≤ 9223372036854775807 ∧ e.2.2.1.length ≤ 9223372036854775807 ∧ e.2.2.2.length ≤ 9223372036854775807) (h : ¬ szCaF c 1048576 < 0) : szCaF c 1048576 ≤ 1048576 := by
  unfold szCaF at h ⊢
  split at h
  · omega
  · rename_i h1
    rw [if_neg h1]
    unfold szEnsF at h1 ⊢
    split at h1
    · omega
    · rename_i h2
      rw [if_neg h2]
      have h3 := szF_sub (n := c.2.length) (l := 1048576) (by unfold szF; rw [if_neg h2]; exact h2) (by omega) (by omega) hw.1
      have h4 : szF c.2.length 1048576 = w64 (1048576 - c.2.length) := by unfold szF; rw [if_neg h2]
      rw [h4] at h3
      have := szGo_le c.2 (w64 (1048576 - c.2.length)) (by omega) (by omega) (by omega) hw.2
      omega
theorem szRs_len {r : Rs} {l : Int} (h : ¬ szRsF r l < 0) (hl0 : 0 ≤ l) (hl : l ≤ 1048576) (h2 : r.2.1.length ≤ 9223372036854775807) (h3 : r.2.2.length ≤ 9223372036854775807) : RsP r := by
  unfold szRsF at h
  split at h
  · omega
  · rename_i c
    obtain ⟨d1, d2⟩ := szF_sub c (by omega) (by omega) h2
    obtain ⟨e1, e2⟩ := szF_sub h (by omega) (by omega) h3
    exact ⟨by omega, by omega⟩
section
variable {w : Ca} {a : CA} {k : PG} {q : RsA} {x : List EnG × List EnG} {g : List EnG} {y : Int}
theorem stN1 (hx : stJ1 w a k q x) (hg : stJ2 w a k q x g) (h : eqCa (y, g.map unE) (y, x.1.map unE) = false) : false = true := cjN1 hx.1 hg.1.1 h
theorem stN1' (hx : stJ1 w a k q x) (hg : g.map unE = w.2) (h : eqCa (y, g.map unE) (y, x.1.map unE) = false) : false = true := cjN1 hx.1 hg h
theorem stN2 (hx : stJ1 w a k q x) (h : eqCa (y, x.2.map unE) (y, a.2.2.map unE) = false) : false = true := cjN2 hx.1 h
theorem st8 (hx : stJ1 w a k q x) : 0 ≤ end8 k.2 (endE x.2 1) ∧ end8 k.2 (endE x.2 1) ≤ 10000000 := by
  have ht := hx.1.1
  rw [← hx.1.2.2.1] at ht
  have h1 := endE_small x.2 1 (by omega) (by omega)
  have h2 := end8_small k.2 (k := endE x.2 1) (by omega) (by have := hx.2.1; omega)
  have := hx.2.1
  omega
theorem st9 {r : Rs} (hx : stJ1 w a k q x) (hr : RsP r) (h : endR r (end8 k.2 (endE x.2 1)) < 0) : false = true := by
  have h1 := st8 hx
  have := (heldR_mk r h1.1 (by omega) (Nat.le_trans hr.1 (by omega)) (Nat.le_trans hr.2 (by omega))).2
  omega
theorem st5 (hg : stJ2 w a k q x g) (hw : totE w.2 ≤ 4000000) (h : neg1 (heldE ((markE g 1).map unE) 1) < 0) : false = true := cjN5 hw hg.1 h
theorem st6 (hg : stJ2 w a k q x g) (hw : totE w.2 ≤ 4000000) (h : ¬ neg1 (heldE ((markE g 1).map unE) 1) = endE g 1) : false = true := cjN6 hw hg.1 h
theorem stA7 {j : Int} (hg : stJ2 w a k q x g) : Apart (idsE g) (idsE (markE x.2 j)) := cjA7 hg.1
end
theorem ce4 {F : Ca → Ca × Bool} {r : (Int × List EnG) × Bool} {s : List EnG} {c : Int} {L : List En} (e : ((r.1.1, r.1.2.map unE), r.2) = F (c, s.map unE)) (h : s.map unE = L) : r.1.2.map unE = (F (c, L)).1.2 ∧ r.1.1 = (F (c, L)).1.1 ∧ r.2 = (F (c, L)).2 := by
  rw [h] at e
  exact ce2 e
theorem store_tot {c : Ca} {key : List Int} {r : Rs} (hT : totE c.2 ≤ 1048576) (hk : key.length ≤ 1048576) (hr : RsP r) : totE (storeF c key r).1.2 ≤ 4000000 := by
  obtain ⟨h1, h2⟩ := hr
  unfold storeF
  split
  · have h2 := front_tot c (key, r)
    have h3 := totE_sub (List.take_sublist (trimLen (frontF c (key, r)).1 (frontF c (key, r)).2 (frontF c (key, r)).2.length) (frontF c (key, r)).2)
    show totE (List.take _ _) ≤ _
    simp only at h2
    omega
  · show totE c.2 ≤ _
    omega
theorem v_FnExactStore :
  ∀ (d : (Int × Nat × List EnG) × (Nat × List Int) × Int × (Nat × List Int) × Nat × List Int), Ty.wf cacheA d.1 ∧ Ty.wf bytA d.2.1 ∧ Ty.wf resA d.2.2 → True → (decide ((1048576 : Int) < (↑(List.length d.2.1.2) : Int)) =
  true → true = true) ∧ (decide ((1048576 : Int) < (↑(List.length d.2.1.2) : Int)) = false → True ∧ (Ty.wf i64T (szCaF (d.1.1, unL enN d.1.2.2) (1048576 : Int)) → (decide (szCaF (d.1.1, unL enN d.1.2.2) (1048576 : Int) <
  (0 : Int)) = true → true = true) ∧ (decide (szCaF (d.1.1, unL enN d.1.2.2) (1048576 : Int) < (0 : Int)) = false → True ∧ (Ty.wf i64T (szRsF (d.2.2.1, d.2.2.2.1.2, d.2.2.2.2.2) (szCaF (d.1.1, unL enN d.1.2.2) (1048576 :
  Int))) → (decide (szRsF (d.2.2.1, d.2.2.2.1.2, d.2.2.2.2.2) (szCaF (d.1.1, unL enN d.1.2.2) (1048576 : Int)) < (0 : Int)) = true → true = true) ∧ (decide (szRsF (d.2.2.1, d.2.2.2.1.2, d.2.2.2.2.2) (szCaF (d.1.1, unL
  enN d.1.2.2) (1048576 : Int)) < (0 : Int)) = false → EnsP (unL enN d.1.2.2) ∧ List.length d.2.1.2 ≤ (1048576 : Nat) ∧ RsP (d.2.2.1, d.2.2.2.1.2, d.2.2.2.2.2) ∧ (EnsP (unL enN d.1.2.2) ∧ List.length d.2.1.2 ≤ (1048576 :
  Nat) ∧ RsP (d.2.2.1, d.2.2.2.1.2, d.2.2.2.2.2)) ∧ (Ty.wf cacheT (Prod.fst (storeF (d.1.1, unL enN d.1.2.2) d.2.1.2 (d.2.2.1, d.2.2.2.1.2, d.2.2.2.2.2))) ∧ Ty.wf Ty.bool (Prod.snd (storeF (d.1.1, unL enN d.1.2.2)
  d.2.1.2 (d.2.2.1, d.2.2.2.1.2, d.2.2.2.2.2))) → Ty.wf resT (d.2.2.1, d.2.2.2.1.2, d.2.2.2.2.2) → Ty.wf bytesT d.2.1.2 → Ty.wf cacheT (d.1.1, unL enN d.1.2.2) → ∀ (xs' : List EnG), unL (Ty.st (Ty.pr (Ty.gs false byT)
  (Ty.st (Ty.pr (Ty.int IntKind.i64) (Ty.pr (Ty.gs false (Ty.int IntKind.i64)) (Ty.gs false (Ty.int IntKind.i64))))))) xs' = unL enN d.1.2.2 → ∀ (xs'_1 : List EnG), unL (Ty.st (Ty.pr (Ty.gs false byT) (Ty.st (Ty.pr
  (Ty.int IntKind.i64) (Ty.pr (Ty.gs false (Ty.int IntKind.i64)) (Ty.gs false (Ty.int IntKind.i64))))))) xs'_1 = Prod.snd (Prod.fst (storeF (d.1.1, unL enN d.1.2.2) d.2.1.2 (d.2.2.1, d.2.2.2.1.2, d.2.2.2.2.2))) → EnsP
  (unL enN d.1.2.2) ∧ ∀ (r : Int × List EnG), unD cacheG r = (d.1.1, unL enN d.1.2.2) → List.Nodup (ids cacheG r) → Ty.wf cacheG r → (Apart (ids cacheG r) (ids (Ty.gs false enN) d.1.2) ∧ (Apart (ids cacheG r) (ids (Ty.gs
  false i64T) d.2.2.2.1) ∧ Apart (ids cacheG r) (ids (Ty.gs false i64T) d.2.2.2.2)) ∧ Apart (ids cacheG r) (idsL (Ty.st (Ty.pr (Ty.gs false byT) (Ty.st (Ty.pr (Ty.int IntKind.i64) (Ty.pr (Ty.gs false (Ty.int
  IntKind.i64)) (Ty.gs false (Ty.int IntKind.i64))))))) xs') ∧ Apart (ids cacheG r) (idsL (Ty.st (Ty.pr (Ty.gs false byT) (Ty.st (Ty.pr (Ty.int IntKind.i64) (Ty.pr (Ty.gs false (Ty.int IntKind.i64)) (Ty.gs false (Ty.int
  IntKind.i64))))))) xs'_1)) ∧ Apart (ids cacheG r) (ids (Ty.gs false enN) d.1.2) ∧ Apart (ids cacheG r) (ids (Ty.gs false byT) d.2.1) ∧ (Apart (ids cacheG r) (ids (Ty.gs false i64T) d.2.2.2.1) ∧ Apart (ids cacheG r)
  (ids (Ty.gs false i64T) d.2.2.2.2)) ∧ Apart (ids cacheG r) (ids (Ty.gs false byT) d.2.1) ∧ Apart (ids cacheG r) (ids (Ty.gs false enN) d.1.2) ∧ (Apart (ids cacheG r) (ids (Ty.gs false i64T) d.2.2.2.1) ∧ Apart (ids
  cacheG r) (ids (Ty.gs false i64T) d.2.2.2.2)) ∧ Apart (ids cacheG r) (ids (Ty.gs false enN) d.1.2) ∧ Apart (ids cacheG r) (ids (Ty.gs false byT) d.2.1) ∧ (Apart (ids cacheG r) (ids (Ty.gs false i64T) d.2.2.2.1) ∧ Apart
  (ids cacheG r) (ids (Ty.gs false i64T) d.2.2.2.2)) ∧ Apart (ids cacheG r) (ids (Ty.gs false enN) d.1.2) → List.length d.2.1.2 ≤ (1048576 : Nat) ∧ (Ty.wf bytesT d.2.1.2 → (RsP (d.2.2.1, d.2.2.2.1.2, d.2.2.2.2.2) ∧
  (Ty.wf resT (d.2.2.1, d.2.2.2.1.2, d.2.2.2.2.2) → ∃ (x' : List EnG × List EnG), stJ1 (Prod.fst (storeF (unC d.1) d.2.1.2 (unRA d.2.2))) d.1 d.2.1 d.2.2 x' ∧ ((d.1.1 = d.1.1 ∧ d.1.2.1 = d.1.2.1 ∧ d.1.2.2 = d.1.2.2) ∧
  (d.2.1.1 = d.2.1.1 ∧ d.2.1.2 = d.2.1.2) ∧ (d.2.2.1 = d.2.2.1 ∧ (d.2.2.2.1.1 = d.2.2.2.1.1 ∧ d.2.2.2.1.2 = d.2.2.2.1.2) ∧ d.2.2.2.2.1 = d.2.2.2.2.1 ∧ d.2.2.2.2.2 = d.2.2.2.2.2) ∧ szRsF (d.2.2.1, d.2.2.2.1.2,
  d.2.2.2.2.2) (szCaF (d.1.1, unL enN d.1.2.2) (1048576 : Int)) = szRsF (d.2.2.1, d.2.2.2.1.2, d.2.2.2.2.2) (szCaF (d.1.1, unL enN d.1.2.2) (1048576 : Int)) ∧ Prod.snd (storeF (d.1.1, unL enN d.1.2.2) d.2.1.2 (d.2.2.1,
  d.2.2.2.1.2, d.2.2.2.2.2)) = Prod.snd (storeF (d.1.1, unL enN d.1.2.2) d.2.1.2 (d.2.2.1, d.2.2.2.1.2, d.2.2.2.2.2))) ∧ (d.1.1 = d.1.1 ∧ d.1.2.1 = d.1.2.1 ∧ d.1.2.2 = d.1.2.2) ∧ (d.2.2.1 = d.2.2.1 ∧ (d.2.2.2.1.1 =
  d.2.2.2.1.1 ∧ d.2.2.2.1.2 = d.2.2.2.1.2) ∧ d.2.2.2.2.1 = d.2.2.2.2.1 ∧ d.2.2.2.2.2 = d.2.2.2.2.2) ∧ xs'_1 = x'.1 ∧ Prod.fst (Prod.fst (storeF (d.1.1, unL enN d.1.2.2) d.2.1.2 (d.2.2.1, d.2.2.2.1.2, d.2.2.2.2.2))) =
  Prod.fst (Prod.fst (storeF (unC d.1) d.2.1.2 (unRA d.2.2))) ∧ r.2 = x'.2 ∧ r.1 = d.1.1 ∧ d.2.1.2 = d.2.1.2 ∧ d.2.2.2.1.2 = d.2.2.2.1.2 ∧ d.2.2.2.2.2 = d.2.2.2.2.2 ∧ d.2.2.1 = d.2.2.1)) ∧ ∀ (x : List EnG × List EnG),
  stJ1 (Prod.fst (storeF (unC d.1) d.2.1.2 (unRA d.2.2))) d.1 d.2.1 d.2.2 x → ((EnsP (unL enG x.2) ∧ List.length d.2.1.2 ≤ (1048576 : Nat) ∧ RsP (d.2.2.1, d.2.2.2.1.2, d.2.2.2.2.2)) ∧ ∀ (r : (Int × List EnG) × Bool),
  (unD cacheG r.1, unD Ty.bool r.2) = storeF (d.1.1, unL enG x.2) d.2.1.2 (d.2.2.1, d.2.2.2.1.2, d.2.2.2.2.2) → List.Nodup (ids cacheG r.1 ++ ids Ty.bool r.2) → Ty.wf cacheG r.1 ∧ Ty.wf Ty.bool r.2 → (Apart (ids cacheG
  r.1 ++ ids Ty.bool r.2) (ids (Ty.gs false enN) d.1.2) ∧ (Apart (ids cacheG r.1 ++ ids Ty.bool r.2) (ids (Ty.gs false i64T) d.2.2.2.1) ∧ Apart (ids cacheG r.1 ++ ids Ty.bool r.2) (ids (Ty.gs false i64T) d.2.2.2.2)) ∧
  Apart (ids cacheG r.1 ++ ids Ty.bool r.2) (idsL enN x.1) ∧ Apart (ids cacheG r.1 ++ ids Ty.bool r.2) (idsL enG x.2)) ∧ Apart (ids cacheG r.1 ++ ids Ty.bool r.2) (ids (Ty.gs false enN) d.1.2) ∧ Apart (ids cacheG r.1 ++
  ids Ty.bool r.2) (ids (Ty.gs false byT) d.2.1) ∧ Apart (ids cacheG r.1 ++ ids Ty.bool r.2) (ids (Ty.gs false i64T) d.2.2.2.1) ∧ Apart (ids cacheG r.1 ++ ids Ty.bool r.2) (ids (Ty.gs false i64T) d.2.2.2.2) → ∃ (x' :
  List EnG), stJ2 (Prod.fst (storeF (unC d.1) d.2.1.2 (unRA d.2.2))) d.1 d.2.1 d.2.2 x x' ∧ ((d.1.1 = d.1.1 ∧ d.1.2.1 = d.1.2.1 ∧ d.1.2.2 = d.1.2.2) ∧ (d.2.1.1 = d.2.1.1 ∧ d.2.1.2 = d.2.1.2) ∧ (d.2.2.1 = d.2.2.1 ∧
  (d.2.2.2.1.1 = d.2.2.2.1.1 ∧ d.2.2.2.1.2 = d.2.2.2.1.2) ∧ d.2.2.2.2.1 = d.2.2.2.2.1 ∧ d.2.2.2.2.2 = d.2.2.2.2.2) ∧ szRsF (d.2.2.1, d.2.2.2.1.2, d.2.2.2.2.2) (szCaF (d.1.1, unL enN d.1.2.2) (1048576 : Int)) = szRsF
  (d.2.2.1, d.2.2.2.1.2, d.2.2.2.2.2) (szCaF (d.1.1, unL enN d.1.2.2) (1048576 : Int)) ∧ Prod.snd (storeF (d.1.1, unL enN d.1.2.2) d.2.1.2 (d.2.2.1, d.2.2.2.1.2, d.2.2.2.2.2)) = Prod.snd (storeF (d.1.1, unL enN d.1.2.2)
  d.2.1.2 (d.2.2.1, d.2.2.2.1.2, d.2.2.2.2.2)) ∧ r.2 = Prod.snd (storeF (unC d.1) d.2.1.2 (unRA d.2.2)) ∧ r.1.1 = Prod.fst (Prod.fst (storeF (unC d.1) d.2.1.2 (unRA d.2.2)))) ∧ (d.1.1 = d.1.1 ∧ d.1.2.1 = d.1.2.1 ∧
  d.1.2.2 = d.1.2.2) ∧ (d.2.2.1 = d.2.2.1 ∧ (d.2.2.2.1.1 = d.2.2.2.1.1 ∧ d.2.2.2.1.2 = d.2.2.2.1.2) ∧ d.2.2.2.2.1 = d.2.2.2.2.1 ∧ d.2.2.2.2.2 = d.2.2.2.2.2) ∧ x.1 = x.1 ∧ Prod.fst (Prod.fst (storeF (unC d.1) d.2.1.2
  (unRA d.2.2))) = Prod.fst (Prod.fst (storeF (unC d.1) d.2.1.2 (unRA d.2.2))) ∧ x.2 = x.2 ∧ d.1.1 = d.1.1 ∧ d.2.1.2 = d.2.1.2 ∧ d.2.2.2.1.2 = d.2.2.2.1.2 ∧ d.2.2.2.2.2 = d.2.2.2.2.2 ∧ d.2.2.1 = d.2.2.1 ∧ r.1.2 = x' ∧
  r.1.1 = Prod.fst (Prod.fst (storeF (unC d.1) d.2.1.2 (unRA d.2.2)))) ∧ ∀ (x_1 : List EnG), stJ2 (Prod.fst (storeF (unC d.1) d.2.1.2 (unRA d.2.2))) d.1 d.2.1 d.2.2 x x_1 → True ∧ ((!eqCa (Prod.fst (Prod.fst (storeF (unC
  d.1) d.2.1.2 (unRA d.2.2))), unL enG x_1) (Prod.fst (Prod.fst (storeF (unC d.1) d.2.1.2 (unRA d.2.2))), unL enN x.1)) = true → false = true) ∧ ((!eqCa (Prod.fst (Prod.fst (storeF (unC d.1) d.2.1.2 (unRA d.2.2))), unL
  enG x_1) (Prod.fst (Prod.fst (storeF (unC d.1) d.2.1.2 (unRA d.2.2))), unL enN x.1)) = false → ((!Prod.snd (storeF (unC d.1) d.2.1.2 (unRA d.2.2)) == Prod.snd (storeF (d.1.1, unL enN d.1.2.2) d.2.1.2 (d.2.2.1,
  d.2.2.2.1.2, d.2.2.2.2.2))) = true → false = true) ∧ ((!Prod.snd (storeF (unC d.1) d.2.1.2 (unRA d.2.2)) == Prod.snd (storeF (d.1.1, unL enN d.1.2.2) d.2.1.2 (d.2.2.1, d.2.2.2.1.2, d.2.2.2.2.2))) = false → EnsP (unL
  enN d.1.2.2) ∧ True ∧ (Ty.wf cacheT (d.1.1, unL enN d.1.2.2) → ((!eqCa (d.1.1, unL enG x.2) (d.1.1, unL enN d.1.2.2)) = true → false = true) ∧ ((!eqCa (d.1.1, unL enG x.2) (d.1.1, unL enN d.1.2.2)) = false →
  List.length d.2.1.2 ≤ (1048576 : Nat) ∧ (Ty.wf bytesT d.2.1.2 → True ∧ ((!decide (d.2.1.2 = d.2.1.2)) = true → false = true) ∧ ((!decide (d.2.1.2 = d.2.1.2)) = false → RsP (d.2.2.1, d.2.2.2.1.2, d.2.2.2.2.2) ∧ True ∧
  (Ty.wf resT (d.2.2.1, d.2.2.2.1.2, d.2.2.2.2.2) → ((!eqRs (d.2.2.1, d.2.2.2.1.2, d.2.2.2.2.2) (d.2.2.1, d.2.2.2.1.2, d.2.2.2.2.2)) = true → false = true) ∧ ((!eqRs (d.2.2.1, d.2.2.2.1.2, d.2.2.2.2.2) (d.2.2.1,
  d.2.2.2.1.2, d.2.2.2.2.2)) = false → True ∧ List.Nodup (ids cacheG (d.1.1, x.2)) ∧ ((Apart (ids cacheG (d.1.1, x.2)) (idsL enN x.1) ∧ Apart (ids cacheG (d.1.1, x.2)) (idsL enG x_1)) ∧ (Apart (ids cacheG (d.1.1, x.2))
  (ids (Ty.gs false enN) d.1.2) ∧ Apart (ids cacheG (d.1.1, x.2)) (ids (Ty.gs false byT) d.2.1) ∧ (Apart (ids cacheG (d.1.1, x.2)) (ids (Ty.gs false i64T) d.2.2.2.1) ∧ Apart (ids cacheG (d.1.1, x.2)) (ids (Ty.gs false
  i64T) d.2.2.2.2)) ∧ Apart (ids cacheG (d.1.1, x.2)) (ids (Ty.gs false enN) d.1.2) ∧ Apart (ids cacheG (d.1.1, x.2)) (ids (Ty.gs false byT) d.2.1) ∧ Apart (ids cacheG (d.1.1, x.2)) (ids (Ty.gs false i64T) d.2.2.2.1) ∧
  Apart (ids cacheG (d.1.1, x.2)) (ids (Ty.gs false i64T) d.2.2.2.2)) ∧ Apart (ids cacheG (d.1.1, x.2)) (ids (Ty.gs false enN) d.1.2) ∧ Apart (ids cacheG (d.1.1, x.2)) (ids (Ty.gs false i64T) d.2.2.2.1) ∧ Apart (ids
  cacheG (d.1.1, x.2)) (ids (Ty.gs false i64T) d.2.2.2.2)) ∧ True ∧ True ∧ (decide (endR (d.2.2.1, d.2.2.2.1.2, d.2.2.2.2.2) (end8 d.2.1.2 (endE x.2 (1 : Int))) < (0 : Int)) = true → false = true) ∧ (decide (endR
  (d.2.2.1, d.2.2.2.1.2, d.2.2.2.2.2) (end8 d.2.1.2 (endE x.2 (1 : Int))) < (0 : Int)) = false → True ∧ ((!eqCa (Prod.fst (Prod.fst (storeF (unC d.1) d.2.1.2 (unRA d.2.2))), unL enG x_1) (Prod.fst (Prod.fst (storeF (unC
  d.1) d.2.1.2 (unRA d.2.2))), unL enN x.1)) = true → false = true) ∧ ((!eqCa (Prod.fst (Prod.fst (storeF (unC d.1) d.2.1.2 (unRA d.2.2))), unL enG x_1) (Prod.fst (Prod.fst (storeF (unC d.1) d.2.1.2 (unRA d.2.2))), unL
  enN x.1)) = false → ((!Prod.snd (storeF (unC d.1) d.2.1.2 (unRA d.2.2)) == Prod.snd (storeF (d.1.1, unL enN d.1.2.2) d.2.1.2 (d.2.2.1, d.2.2.2.1.2, d.2.2.2.2.2))) = true → false = true) ∧ ((!Prod.snd (storeF (unC d.1)
  d.2.1.2 (unRA d.2.2)) == Prod.snd (storeF (d.1.1, unL enN d.1.2.2) d.2.1.2 (d.2.2.1, d.2.2.2.1.2, d.2.2.2.2.2))) = false → True ∧ List.Nodup (ids cacheG (Prod.fst (Prod.fst (storeF (unC d.1) d.2.1.2 (unRA d.2.2))),
  x_1)) ∧ ((Apart (ids cacheG (Prod.fst (Prod.fst (storeF (unC d.1) d.2.1.2 (unRA d.2.2))), x_1)) (idsL enN x.1) ∧ Apart (ids cacheG (Prod.fst (Prod.fst (storeF (unC d.1) d.2.1.2 (unRA d.2.2))), x_1)) (idsL enG (markE
  x.2 (1 : Int)))) ∧ (Apart (ids cacheG (Prod.fst (Prod.fst (storeF (unC d.1) d.2.1.2 (unRA d.2.2))), x_1)) (ids (Ty.gs false enN) d.1.2) ∧ Apart (ids cacheG (Prod.fst (Prod.fst (storeF (unC d.1) d.2.1.2 (unRA d.2.2))),
  x_1)) (ids (Ty.gs false byT) d.2.1) ∧ (Apart (ids cacheG (Prod.fst (Prod.fst (storeF (unC d.1) d.2.1.2 (unRA d.2.2))), x_1)) (ids (Ty.gs false i64T) d.2.2.2.1) ∧ Apart (ids cacheG (Prod.fst (Prod.fst (storeF (unC d.1)
  d.2.1.2 (unRA d.2.2))), x_1)) (ids (Ty.gs false i64T) d.2.2.2.2)) ∧ Apart (ids cacheG (Prod.fst (Prod.fst (storeF (unC d.1) d.2.1.2 (unRA d.2.2))), x_1)) (ids (Ty.gs false enN) d.1.2) ∧ Apart (ids cacheG (Prod.fst
  (Prod.fst (storeF (unC d.1) d.2.1.2 (unRA d.2.2))), x_1)) (ids (Ty.gs false byT) d.2.1) ∧ Apart (ids cacheG (Prod.fst (Prod.fst (storeF (unC d.1) d.2.1.2 (unRA d.2.2))), x_1)) (ids (Ty.gs false i64T) d.2.2.2.1) ∧ Apart
  (ids cacheG (Prod.fst (Prod.fst (storeF (unC d.1) d.2.1.2 (unRA d.2.2))), x_1)) (ids (Ty.gs false i64T) d.2.2.2.2)) ∧ Apart (ids cacheG (Prod.fst (Prod.fst (storeF (unC d.1) d.2.1.2 (unRA d.2.2))), x_1)) (ids (Ty.gs
  false enN) d.1.2) ∧ Apart (ids cacheG (Prod.fst (Prod.fst (storeF (unC d.1) d.2.1.2 (unRA d.2.2))), x_1)) (ids (Ty.gs false i64T) d.2.2.2.1) ∧ Apart (ids cacheG (Prod.fst (Prod.fst (storeF (unC d.1) d.2.1.2 (unRA
  d.2.2))), x_1)) (ids (Ty.gs false i64T) d.2.2.2.2)) ∧ True ∧ (Ty.wf i64T (neg1 (heldE (unL enG (markE x_1 (1 : Int))) (1 : Int))) → (decide (neg1 (heldE (unL enG (markE x_1 (1 : Int))) (1 : Int)) < (0 : Int)) = true →
  false = true) ∧ (decide (neg1 (heldE (unL enG (markE x_1 (1 : Int))) (1 : Int)) < (0 : Int)) = false → (((!decide (neg1 (heldE (unL enG (markE x_1 (1 : Int))) (1 : Int)) = endE x_1 (1 : Int))) = true → false = true) ∧
  ((!decide (neg1 (heldE (unL enG (markE x_1 (1 : Int))) (1 : Int)) = endE x_1 (1 : Int))) = false → ∃ (x' : Unit), (stJ1 (Prod.fst (storeF (unC d.1) d.2.1.2 (unRA d.2.2))) d.1 d.2.1 d.2.2 x ∧ stJ2 (Prod.fst (storeF (unC
  d.1) d.2.1.2 (unRA d.2.2))) d.1 d.2.1 d.2.2 x x_1) ∧ ((d.1.1 = d.1.1 ∧ d.1.2.1 = d.1.2.1 ∧ d.1.2.2 = d.1.2.2) ∧ (d.2.1.1 = d.2.1.1 ∧ d.2.1.2 = d.2.1.2) ∧ (d.2.2.1 = d.2.2.1 ∧ (d.2.2.2.1.1 = d.2.2.2.1.1 ∧ d.2.2.2.1.2 =
  d.2.2.2.1.2) ∧ d.2.2.2.2.1 = d.2.2.2.2.1 ∧ d.2.2.2.2.2 = d.2.2.2.2.2) ∧ szRsF (d.2.2.1, d.2.2.2.1.2, d.2.2.2.2.2) (szCaF (d.1.1, unL enN d.1.2.2) (1048576 : Int)) = szRsF (d.2.2.1, d.2.2.2.1.2, d.2.2.2.2.2) (szCaF
  (d.1.1, unL enN d.1.2.2) (1048576 : Int)) ∧ Prod.snd (storeF (d.1.1, unL enN d.1.2.2) d.2.1.2 (d.2.2.1, d.2.2.2.1.2, d.2.2.2.2.2)) = Prod.snd (storeF (d.1.1, unL enN d.1.2.2) d.2.1.2 (d.2.2.1, d.2.2.2.1.2,
  d.2.2.2.2.2)) ∧ Prod.snd (storeF (unC d.1) d.2.1.2 (unRA d.2.2)) = Prod.snd (storeF (unC d.1) d.2.1.2 (unRA d.2.2)) ∧ endE x_1 (1 : Int) = endE x_1 (1 : Int)) ∧ (d.1.1 = d.1.1 ∧ d.1.2.1 = d.1.2.1 ∧ d.1.2.2 = d.1.2.2) ∧
  (d.2.2.1 = d.2.2.1 ∧ (d.2.2.2.1.1 = d.2.2.2.1.1 ∧ d.2.2.2.1.2 = d.2.2.2.1.2) ∧ d.2.2.2.2.1 = d.2.2.2.2.1 ∧ d.2.2.2.2.2 = d.2.2.2.2.2) ∧ x.1 = x.1 ∧ Prod.fst (Prod.fst (storeF (unC d.1) d.2.1.2 (unRA d.2.2))) = Prod.fst
  (Prod.fst (storeF (unC d.1) d.2.1.2 (unRA d.2.2))) ∧ markE x_1 (1 : Int) = markE x_1 (1 : Int) ∧ Prod.fst (Prod.fst (storeF (unC d.1) d.2.1.2 (unRA d.2.2))) = Prod.fst (Prod.fst (storeF (unC d.1) d.2.1.2 (unRA
  d.2.2))))) ∧ ∀ (x_2 : Unit), stJ1 (Prod.fst (storeF (unC d.1) d.2.1.2 (unRA d.2.2))) d.1 d.2.1 d.2.2 x ∧ stJ2 (Prod.fst (storeF (unC d.1) d.2.1.2 (unRA d.2.2))) d.1 d.2.1 d.2.2 x x_1 → (((EnsP (unL enN d.1.2.2) ∧
  (Ty.wf cacheT (d.1.1, unL enN d.1.2.2) → (List.length d.2.1.2 ≤ (1048576 : Nat) ∧ (Ty.wf bytesT d.2.1.2 → ((RsP (d.2.2.1, d.2.2.2.1.2, d.2.2.2.2.2) ∧ (Ty.wf resT (d.2.2.1, d.2.2.2.1.2, d.2.2.2.2.2) → (∀ (xs' : List
  EnG), unL (Ty.st (Ty.pr (Ty.gs false byT) (Ty.st (Ty.pr (Ty.int IntKind.i64) (Ty.pr (Ty.gs false (Ty.int IntKind.i64)) (Ty.gs false (Ty.int IntKind.i64))))))) xs' = unL enN d.1.2.2 → (EnsP (unL (Ty.st (Ty.pr (Ty.gs
  false byT) (Ty.st (Ty.pr (Ty.int IntKind.i64) (Ty.pr (Ty.gs false (Ty.int IntKind.i64)) (Ty.gs false (Ty.int IntKind.i64))))))) xs') ∧ List.length d.2.1.2 ≤ (1048576 : Nat) ∧ RsP (d.2.2.1, d.2.2.2.1.2, d.2.2.2.2.2)) ∧
  ∀ (r : (Int × List EnG) × Bool), (unD cacheG r.1, unD Ty.bool r.2) = storeF (d.1.1, unL (Ty.st (Ty.pr (Ty.gs false byT) (Ty.st (Ty.pr (Ty.int IntKind.i64) (Ty.pr (Ty.gs false (Ty.int IntKind.i64)) (Ty.gs false (Ty.int
  IntKind.i64))))))) xs') d.2.1.2 (d.2.2.1, d.2.2.2.1.2, d.2.2.2.2.2) → List.Nodup (ids cacheG r.1 ++ ids Ty.bool r.2) → Ty.wf cacheG r.1 ∧ Ty.wf Ty.bool r.2 → (Apart (ids cacheG r.1 ++ ids Ty.bool r.2) (ids (Ty.gs false
  enN) d.1.2) ∧ (Apart (ids cacheG r.1 ++ ids Ty.bool r.2) (ids (Ty.gs false i64T) d.2.2.2.1) ∧ Apart (ids cacheG r.1 ++ ids Ty.bool r.2) (ids (Ty.gs false i64T) d.2.2.2.2)) ∧ Apart (ids cacheG r.1 ++ ids Ty.bool r.2)
  (idsL enN x.1) ∧ Apart (ids cacheG r.1 ++ ids Ty.bool r.2) (idsL enG (markE x_1 (1 : Int))) ∧ Apart (ids cacheG r.1 ++ ids Ty.bool r.2) (idsL (Ty.st (Ty.pr (Ty.gs false byT) (Ty.st (Ty.pr (Ty.int IntKind.i64) (Ty.pr
  (Ty.gs false (Ty.int IntKind.i64)) (Ty.gs false (Ty.int IntKind.i64))))))) xs')) ∧ Apart (ids cacheG r.1 ++ ids Ty.bool r.2) (ids (Ty.gs false enN) d.1.2) ∧ Apart (ids cacheG r.1 ++ ids Ty.bool r.2) (ids (Ty.gs false
  byT) d.2.1) ∧ (Apart (ids cacheG r.1 ++ ids Ty.bool r.2) (ids (Ty.gs false i64T) d.2.2.2.1) ∧ Apart (ids cacheG r.1 ++ ids Ty.bool r.2) (ids (Ty.gs false i64T) d.2.2.2.2)) ∧ Apart (ids cacheG r.1 ++ ids Ty.bool r.2)
  (ids (Ty.gs false enN) d.1.2) ∧ Apart (ids cacheG r.1 ++ ids Ty.bool r.2) (ids (Ty.gs false byT) d.2.1) ∧ Apart (ids cacheG r.1 ++ ids Ty.bool r.2) (ids (Ty.gs false i64T) d.2.2.2.1) ∧ Apart (ids cacheG r.1 ++ ids
  Ty.bool r.2) (ids (Ty.gs false i64T) d.2.2.2.2) → ∃ (x' : List EnG), List.map unE x' = Prod.snd (Prod.fst (storeF (unC d.1) d.2.1.2 (unRA d.2.2))) ∧ ((d.1.1 = d.1.1 ∧ d.1.2.1 = d.1.2.1 ∧ d.1.2.2 = d.1.2.2) ∧ (d.2.1.1 =
  d.2.1.1 ∧ d.2.1.2 = d.2.1.2) ∧ (d.2.2.1 = d.2.2.1 ∧ (d.2.2.2.1.1 = d.2.2.2.1.1 ∧ d.2.2.2.1.2 = d.2.2.2.1.2) ∧ d.2.2.2.2.1 = d.2.2.2.2.1 ∧ d.2.2.2.2.2 = d.2.2.2.2.2) ∧ szRsF (d.2.2.1, d.2.2.2.1.2, d.2.2.2.2.2) (szCaF
  (d.1.1, unL enN d.1.2.2) (1048576 : Int)) = szRsF (d.2.2.1, d.2.2.2.1.2, d.2.2.2.2.2) (szCaF (d.1.1, unL enN d.1.2.2) (1048576 : Int)) ∧ Prod.snd (storeF (d.1.1, unL enN d.1.2.2) d.2.1.2 (d.2.2.1, d.2.2.2.1.2,
  d.2.2.2.2.2)) = Prod.snd (storeF (d.1.1, unL enN d.1.2.2) d.2.1.2 (d.2.2.1, d.2.2.2.1.2, d.2.2.2.2.2)) ∧ Prod.snd (storeF (unC d.1) d.2.1.2 (unRA d.2.2)) = Prod.snd (storeF (unC d.1) d.2.1.2 (unRA d.2.2)) ∧ endE x_1 (1
  : Int) = endE x_1 (1 : Int) ∧ r.2 = Prod.snd (storeF (unC d.1) d.2.1.2 (unRA d.2.2)) ∧ r.1.1 = Prod.fst (Prod.fst (storeF (unC d.1) d.2.1.2 (unRA d.2.2)))) ∧ (d.1.1 = d.1.1 ∧ d.1.2.1 = d.1.2.1 ∧ d.1.2.2 = d.1.2.2) ∧
  (d.2.2.1 = d.2.2.1 ∧ (d.2.2.2.1.1 = d.2.2.2.1.1 ∧ d.2.2.2.1.2 = d.2.2.2.1.2) ∧ d.2.2.2.2.1 = d.2.2.2.2.1 ∧ d.2.2.2.2.2 = d.2.2.2.2.2) ∧ x.1 = x.1 ∧ Prod.fst (Prod.fst (storeF (unC d.1) d.2.1.2 (unRA d.2.2))) = Prod.fst
  (Prod.fst (storeF (unC d.1) d.2.1.2 (unRA d.2.2))) ∧ markE x_1 (1 : Int) = markE x_1 (1 : Int) ∧ Prod.fst (Prod.fst (storeF (unC d.1) d.2.1.2 (unRA d.2.2))) = Prod.fst (Prod.fst (storeF (unC d.1) d.2.1.2 (unRA d.2.2)))
  ∧ r.1.2 = x' ∧ r.1.1 = Prod.fst (Prod.fst (storeF (unC d.1) d.2.1.2 (unRA d.2.2)))) ∧ ∀ (xs' : List EnG), unL (Ty.st (Ty.pr (Ty.gs false byT) (Ty.st (Ty.pr (Ty.int IntKind.i64) (Ty.pr (Ty.gs false (Ty.int IntKind.i64))
  (Ty.gs false (Ty.int IntKind.i64))))))) xs' = unL enN d.1.2.2 → (EnsP (unL (Ty.st (Ty.pr (Ty.gs false byT) (Ty.st (Ty.pr (Ty.int IntKind.i64) (Ty.pr (Ty.gs false (Ty.int IntKind.i64)) (Ty.gs false (Ty.int
  IntKind.i64))))))) xs') ∧ List.length d.2.1.2 ≤ (1048576 : Nat) ∧ RsP (d.2.2.1, d.2.2.2.1.2, d.2.2.2.2.2)) ∧ ∀ (r : (Int × List EnG) × Bool), (unD cacheG r.1, unD Ty.bool r.2) = storeF (d.1.1, unL (Ty.st (Ty.pr (Ty.gs
  false byT) (Ty.st (Ty.pr (Ty.int IntKind.i64) (Ty.pr (Ty.gs false (Ty.int IntKind.i64)) (Ty.gs false (Ty.int IntKind.i64))))))) xs') d.2.1.2 (d.2.2.1, d.2.2.2.1.2, d.2.2.2.2.2) → List.Nodup (ids cacheG r.1 ++ ids
  Ty.bool r.2) → Ty.wf cacheG r.1 ∧ Ty.wf Ty.bool r.2 → (Apart (ids cacheG r.1 ++ ids Ty.bool r.2) (ids (Ty.gs false enN) d.1.2) ∧ (Apart (ids cacheG r.1 ++ ids Ty.bool r.2) (ids (Ty.gs false i64T) d.2.2.2.1) ∧ Apart
  (ids cacheG r.1 ++ ids Ty.bool r.2) (ids (Ty.gs false i64T) d.2.2.2.2)) ∧ Apart (ids cacheG r.1 ++ ids Ty.bool r.2) (idsL enN x.1) ∧ Apart (ids cacheG r.1 ++ ids Ty.bool r.2) (idsL enG (markE x_1 (1 : Int))) ∧ Apart
  (ids cacheG r.1 ++ ids Ty.bool r.2) (idsL (Ty.st (Ty.pr (Ty.gs false byT) (Ty.st (Ty.pr (Ty.int IntKind.i64) (Ty.pr (Ty.gs false (Ty.int IntKind.i64)) (Ty.gs false (Ty.int IntKind.i64))))))) xs')) ∧ Apart (ids cacheG
  r.1 ++ ids Ty.bool r.2) (ids (Ty.gs false enN) d.1.2) ∧ Apart (ids cacheG r.1 ++ ids Ty.bool r.2) (ids (Ty.gs false byT) d.2.1) ∧ (Apart (ids cacheG r.1 ++ ids Ty.bool r.2) (ids (Ty.gs false i64T) d.2.2.2.1) ∧ Apart
  (ids cacheG r.1 ++ ids Ty.bool r.2) (ids (Ty.gs false i64T) d.2.2.2.2)) ∧ Apart (ids cacheG r.1 ++ ids Ty.bool r.2) (ids (Ty.gs false enN) d.1.2) ∧ Apart (ids cacheG r.1 ++ ids Ty.bool r.2) (ids (Ty.gs false byT)
  d.2.1) ∧ Apart (ids cacheG r.1 ++ ids Ty.bool r.2) (ids (Ty.gs false i64T) d.2.2.2.1) ∧ Apart (ids cacheG r.1 ++ ids Ty.bool r.2) (ids (Ty.gs false i64T) d.2.2.2.2) → ∃ (x' : List EnG), List.map unE x' = Prod.snd
  (Prod.fst (storeF (unC d.1) d.2.1.2 (unRA d.2.2))) ∧ ((d.1.1 = d.1.1 ∧ d.1.2.1 = d.1.2.1 ∧ d.1.2.2 = d.1.2.2) ∧ (d.2.1.1 = d.2.1.1 ∧ d.2.1.2 = d.2.1.2) ∧ (d.2.2.1 = d.2.2.1 ∧ (d.2.2.2.1.1 = d.2.2.2.1.1 ∧ d.2.2.2.1.2 =
  d.2.2.2.1.2) ∧ d.2.2.2.2.1 = d.2.2.2.2.1 ∧ d.2.2.2.2.2 = d.2.2.2.2.2) ∧ szRsF (d.2.2.1, d.2.2.2.1.2, d.2.2.2.2.2) (szCaF (d.1.1, unL enN d.1.2.2) (1048576 : Int)) = szRsF (d.2.2.1, d.2.2.2.1.2, d.2.2.2.2.2) (szCaF
  (d.1.1, unL enN d.1.2.2) (1048576 : Int)) ∧ Prod.snd (storeF (d.1.1, unL enN d.1.2.2) d.2.1.2 (d.2.2.1, d.2.2.2.1.2, d.2.2.2.2.2)) = Prod.snd (storeF (d.1.1, unL enN d.1.2.2) d.2.1.2 (d.2.2.1, d.2.2.2.1.2,
  d.2.2.2.2.2)) ∧ Prod.snd (storeF (unC d.1) d.2.1.2 (unRA d.2.2)) = Prod.snd (storeF (unC d.1) d.2.1.2 (unRA d.2.2)) ∧ endE x_1 (1 : Int) = endE x_1 (1 : Int) ∧ r.2 = Prod.snd (storeF (unC d.1) d.2.1.2 (unRA d.2.2)) ∧
  r.1.1 = Prod.fst (Prod.fst (storeF (unC d.1) d.2.1.2 (unRA d.2.2)))) ∧ (d.1.1 = d.1.1 ∧ d.1.2.1 = d.1.2.1 ∧ d.1.2.2 = d.1.2.2) ∧ (d.2.2.1 = d.2.2.1 ∧ (d.2.2.2.1.1 = d.2.2.2.1.1 ∧ d.2.2.2.1.2 = d.2.2.2.1.2) ∧
  d.2.2.2.2.1 = d.2.2.2.2.1 ∧ d.2.2.2.2.2 = d.2.2.2.2.2) ∧ x.1 = x.1 ∧ Prod.fst (Prod.fst (storeF (unC d.1) d.2.1.2 (unRA d.2.2))) = Prod.fst (Prod.fst (storeF (unC d.1) d.2.1.2 (unRA d.2.2))) ∧ markE x_1 (1 : Int) =
  markE x_1 (1 : Int) ∧ Prod.fst (Prod.fst (storeF (unC d.1) d.2.1.2 (unRA d.2.2))) = Prod.fst (Prod.fst (storeF (unC d.1) d.2.1.2 (unRA d.2.2))) ∧ r.1.2 = x' ∧ r.1.1 = Prod.fst (Prod.fst (storeF (unC d.1) d.2.1.2 (unRA
  d.2.2))))) ∧ RsP (d.2.2.1, d.2.2.2.1.2, d.2.2.2.2.2) ∧ (Ty.wf resT (d.2.2.1, d.2.2.2.1.2, d.2.2.2.2.2) → ∀ (xs' : List EnG), unL (Ty.st (Ty.pr (Ty.gs false byT) (Ty.st (Ty.pr (Ty.int IntKind.i64) (Ty.pr (Ty.gs false
  (Ty.int IntKind.i64)) (Ty.gs false (Ty.int IntKind.i64))))))) xs' = unL enN d.1.2.2 → (EnsP (unL (Ty.st (Ty.pr (Ty.gs false byT) (Ty.st (Ty.pr (Ty.int IntKind.i64) (Ty.pr (Ty.gs false (Ty.int IntKind.i64)) (Ty.gs false
  (Ty.int IntKind.i64))))))) xs') ∧ List.length d.2.1.2 ≤ (1048576 : Nat) ∧ RsP (d.2.2.1, d.2.2.2.1.2, d.2.2.2.2.2)) ∧ ∀ (r : (Int × List EnG) × Bool), (unD cacheG r.1, unD Ty.bool r.2) = storeF (d.1.1, unL (Ty.st (Ty.pr
  (Ty.gs false byT) (Ty.st (Ty.pr (Ty.int IntKind.i64) (Ty.pr (Ty.gs false (Ty.int IntKind.i64)) (Ty.gs false (Ty.int IntKind.i64))))))) xs') d.2.1.2 (d.2.2.1, d.2.2.2.1.2, d.2.2.2.2.2) → List.Nodup (ids cacheG r.1 ++
  ids Ty.bool r.2) → Ty.wf cacheG r.1 ∧ Ty.wf Ty.bool r.2 → (Apart (ids cacheG r.1 ++ ids Ty.bool r.2) (ids (Ty.gs false enN) d.1.2) ∧ (Apart (ids cacheG r.1 ++ ids Ty.bool r.2) (ids (Ty.gs false i64T) d.2.2.2.1) ∧ Apart
  (ids cacheG r.1 ++ ids Ty.bool r.2) (ids (Ty.gs false i64T) d.2.2.2.2)) ∧ Apart (ids cacheG r.1 ++ ids Ty.bool r.2) (idsL enN x.1) ∧ Apart (ids cacheG r.1 ++ ids Ty.bool r.2) (idsL enG (markE x_1 (1 : Int))) ∧ Apart
  (ids cacheG r.1 ++ ids Ty.bool r.2) (idsL (Ty.st (Ty.pr (Ty.gs false byT) (Ty.st (Ty.pr (Ty.int IntKind.i64) (Ty.pr (Ty.gs false (Ty.int IntKind.i64)) (Ty.gs false (Ty.int IntKind.i64))))))) xs')) ∧ Apart (ids cacheG
  r.1 ++ ids Ty.bool r.2) (ids (Ty.gs false enN) d.1.2) ∧ Apart (ids cacheG r.1 ++ ids Ty.bool r.2) (ids (Ty.gs false byT) d.2.1) ∧ (Apart (ids cacheG r.1 ++ ids Ty.bool r.2) (ids (Ty.gs false i64T) d.2.2.2.1) ∧ Apart
  (ids cacheG r.1 ++ ids Ty.bool r.2) (ids (Ty.gs false i64T) d.2.2.2.2)) ∧ Apart (ids cacheG r.1 ++ ids Ty.bool r.2) (ids (Ty.gs false enN) d.1.2) ∧ Apart (ids cacheG r.1 ++ ids Ty.bool r.2) (ids (Ty.gs false byT)
  d.2.1) ∧ Apart (ids cacheG r.1 ++ ids Ty.bool r.2) (ids (Ty.gs false i64T) d.2.2.2.1) ∧ Apart (ids cacheG r.1 ++ ids Ty.bool r.2) (ids (Ty.gs false i64T) d.2.2.2.2) → ∃ (x' : List EnG), List.map unE x' = Prod.snd
  (Prod.fst (storeF (unC d.1) d.2.1.2 (unRA d.2.2))) ∧ ((d.1.1 = d.1.1 ∧ d.1.2.1 = d.1.2.1 ∧ d.1.2.2 = d.1.2.2) ∧ (d.2.1.1 = d.2.1.1 ∧ d.2.1.2 = d.2.1.2) ∧ (d.2.2.1 = d.2.2.1 ∧ (d.2.2.2.1.1 = d.2.2.2.1.1 ∧ d.2.2.2.1.2 =
  d.2.2.2.1.2) ∧ d.2.2.2.2.1 = d.2.2.2.2.1 ∧ d.2.2.2.2.2 = d.2.2.2.2.2) ∧ szRsF (d.2.2.1, d.2.2.2.1.2, d.2.2.2.2.2) (szCaF (d.1.1, unL enN d.1.2.2) (1048576 : Int)) = szRsF (d.2.2.1, d.2.2.2.1.2, d.2.2.2.2.2) (szCaF
  (d.1.1, unL enN d.1.2.2) (1048576 : Int)) ∧ Prod.snd (storeF (d.1.1, unL enN d.1.2.2) d.2.1.2 (d.2.2.1, d.2.2.2.1.2, d.2.2.2.2.2)) = Prod.snd (storeF (d.1.1, unL enN d.1.2.2) d.2.1.2 (d.2.2.1, d.2.2.2.1.2,
  d.2.2.2.2.2)) ∧ Prod.snd (storeF (unC d.1) d.2.1.2 (unRA d.2.2)) = Prod.snd (storeF (unC d.1) d.2.1.2 (unRA d.2.2)) ∧ endE x_1 (1 : Int) = endE x_1 (1 : Int) ∧ r.2 = Prod.snd (storeF (unC d.1) d.2.1.2 (unRA d.2.2)) ∧
  r.1.1 = Prod.fst (Prod.fst (storeF (unC d.1) d.2.1.2 (unRA d.2.2)))) ∧ (d.1.1 = d.1.1 ∧ d.1.2.1 = d.1.2.1 ∧ d.1.2.2 = d.1.2.2) ∧ (d.2.2.1 = d.2.2.1 ∧ (d.2.2.2.1.1 = d.2.2.2.1.1 ∧ d.2.2.2.1.2 = d.2.2.2.1.2) ∧
  d.2.2.2.2.1 = d.2.2.2.2.1 ∧ d.2.2.2.2.2 = d.2.2.2.2.2) ∧ x.1 = x.1 ∧ Prod.fst (Prod.fst (storeF (unC d.1) d.2.1.2 (unRA d.2.2))) = Prod.fst (Prod.fst (storeF (unC d.1) d.2.1.2 (unRA d.2.2))) ∧ markE x_1 (1 : Int) =
  markE x_1 (1 : Int) ∧ Prod.fst (Prod.fst (storeF (unC d.1) d.2.1.2 (unRA d.2.2))) = Prod.fst (Prod.fst (storeF (unC d.1) d.2.1.2 (unRA d.2.2))) ∧ r.1.2 = x' ∧ r.1.1 = Prod.fst (Prod.fst (storeF (unC d.1) d.2.1.2 (unRA
  d.2.2))))) ∧ RsP (d.2.2.1, d.2.2.2.1.2, d.2.2.2.2.2) ∧ (Ty.wf resT (d.2.2.1, d.2.2.2.1.2, d.2.2.2.2.2) → ∀ (xs' : List EnG), unL (Ty.st (Ty.pr (Ty.gs false byT) (Ty.st (Ty.pr (Ty.int IntKind.i64) (Ty.pr (Ty.gs false
  (Ty.int IntKind.i64)) (Ty.gs false (Ty.int IntKind.i64))))))) xs' = unL enN d.1.2.2 → (EnsP (unL (Ty.st (Ty.pr (Ty.gs false byT) (Ty.st (Ty.pr (Ty.int IntKind.i64) (Ty.pr (Ty.gs false (Ty.int IntKind.i64)) (Ty.gs false
  (Ty.int IntKind.i64))))))) xs') ∧ List.length d.2.1.2 ≤ (1048576 : Nat) ∧ RsP (d.2.2.1, d.2.2.2.1.2, d.2.2.2.2.2)) ∧ ∀ (r : (Int × List EnG) × Bool), (unD cacheG r.1, unD Ty.bool r.2) = storeF (d.1.1, unL (Ty.st (Ty.pr
  (Ty.gs false byT) (Ty.st (Ty.pr (Ty.int IntKind.i64) (Ty.pr (Ty.gs false (Ty.int IntKind.i64)) (Ty.gs false (Ty.int IntKind.i64))))))) xs') d.2.1.2 (d.2.2.1, d.2.2.2.1.2, d.2.2.2.2.2) → List.Nodup (ids cacheG r.1 ++
  ids Ty.bool r.2) → Ty.wf cacheG r.1 ∧ Ty.wf Ty.bool r.2 → (Apart (ids cacheG r.1 ++ ids Ty.bool r.2) (ids (Ty.gs false enN) d.1.2) ∧ (Apart (ids cacheG r.1 ++ ids Ty.bool r.2) (ids (Ty.gs false i64T) d.2.2.2.1) ∧ Apart
  (ids cacheG r.1 ++ ids Ty.bool r.2) (ids (Ty.gs false i64T) d.2.2.2.2)) ∧ Apart (ids cacheG r.1 ++ ids Ty.bool r.2) (idsL enN x.1) ∧ Apart (ids cacheG r.1 ++ ids Ty.bool r.2) (idsL enG (markE x_1 (1 : Int))) ∧ Apart
  (ids cacheG r.1 ++ ids Ty.bool r.2) (idsL (Ty.st (Ty.pr (Ty.gs false byT) (Ty.st (Ty.pr (Ty.int IntKind.i64) (Ty.pr (Ty.gs false (Ty.int IntKind.i64)) (Ty.gs false (Ty.int IntKind.i64))))))) xs')) ∧ Apart (ids cacheG
  r.1 ++ ids Ty.bool r.2) (ids (Ty.gs false enN) d.1.2) ∧ Apart (ids cacheG r.1 ++ ids Ty.bool r.2) (ids (Ty.gs false byT) d.2.1) ∧ (Apart (ids cacheG r.1 ++ ids Ty.bool r.2) (ids (Ty.gs false i64T) d.2.2.2.1) ∧ Apart
  (ids cacheG r.1 ++ ids Ty.bool r.2) (ids (Ty.gs false i64T) d.2.2.2.2)) ∧ Apart (ids cacheG r.1 ++ ids Ty.bool r.2) (ids (Ty.gs false enN) d.1.2) ∧ Apart (ids cacheG r.1 ++ ids Ty.bool r.2) (ids (Ty.gs false byT)
  d.2.1) ∧ Apart (ids cacheG r.1 ++ ids Ty.bool r.2) (ids (Ty.gs false i64T) d.2.2.2.1) ∧ Apart (ids cacheG r.1 ++ ids Ty.bool r.2) (ids (Ty.gs false i64T) d.2.2.2.2) → ∃ (x' : List EnG), List.map unE x' = Prod.snd
  (Prod.fst (storeF (unC d.1) d.2.1.2 (unRA d.2.2))) ∧ ((d.1.1 = d.1.1 ∧ d.1.2.1 = d.1.2.1 ∧ d.1.2.2 = d.1.2.2) ∧ (d.2.1.1 = d.2.1.1 ∧ d.2.1.2 = d.2.1.2) ∧ (d.2.2.1 = d.2.2.1 ∧ (d.2.2.2.1.1 = d.2.2.2.1.1 ∧ d.2.2.2.1.2 =
  d.2.2.2.1.2) ∧ d.2.2.2.2.1 = d.2.2.2.2.1 ∧ d.2.2.2.2.2 = d.2.2.2.2.2) ∧ szRsF (d.2.2.1, d.2.2.2.1.2, d.2.2.2.2.2) (szCaF (d.1.1, unL enN d.1.2.2) (1048576 : Int)) = szRsF (d.2.2.1, d.2.2.2.1.2, d.2.2.2.2.2) (szCaF
  (d.1.1, unL enN d.1.2.2) (1048576 : Int)) ∧ Prod.snd (storeF (d.1.1, unL enN d.1.2.2) d.2.1.2 (d.2.2.1, d.2.2.2.1.2, d.2.2.2.2.2)) = Prod.snd (storeF (d.1.1, unL enN d.1.2.2) d.2.1.2 (d.2.2.1, d.2.2.2.1.2,
  d.2.2.2.2.2)) ∧ Prod.snd (storeF (unC d.1) d.2.1.2 (unRA d.2.2)) = Prod.snd (storeF (unC d.1) d.2.1.2 (unRA d.2.2)) ∧ endE x_1 (1 : Int) = endE x_1 (1 : Int) ∧ r.2 = Prod.snd (storeF (unC d.1) d.2.1.2 (unRA d.2.2)) ∧
  r.1.1 = Prod.fst (Prod.fst (storeF (unC d.1) d.2.1.2 (unRA d.2.2)))) ∧ (d.1.1 = d.1.1 ∧ d.1.2.1 = d.1.2.1 ∧ d.1.2.2 = d.1.2.2) ∧ (d.2.2.1 = d.2.2.1 ∧ (d.2.2.2.1.1 = d.2.2.2.1.1 ∧ d.2.2.2.1.2 = d.2.2.2.1.2) ∧
  d.2.2.2.2.1 = d.2.2.2.2.1 ∧ d.2.2.2.2.2 = d.2.2.2.2.2) ∧ x.1 = x.1 ∧ Prod.fst (Prod.fst (storeF (unC d.1) d.2.1.2 (unRA d.2.2))) = Prod.fst (Prod.fst (storeF (unC d.1) d.2.1.2 (unRA d.2.2))) ∧ markE x_1 (1 : Int) =
  markE x_1 (1 : Int) ∧ Prod.fst (Prod.fst (storeF (unC d.1) d.2.1.2 (unRA d.2.2))) = Prod.fst (Prod.fst (storeF (unC d.1) d.2.1.2 (unRA d.2.2))) ∧ r.1.2 = x' ∧ r.1.1 = Prod.fst (Prod.fst (storeF (unC d.1) d.2.1.2 (unRA
  d.2.2)))))) ∧ ((List.length d.2.1.2 ≤ (1048576 : Nat) ∧ (Ty.wf bytesT d.2.1.2 → (RsP (d.2.2.1, d.2.2.2.1.2, d.2.2.2.2.2) ∧ (Ty.wf resT (d.2.2.1, d.2.2.2.1.2, d.2.2.2.2.2) → (∀ (xs' : List EnG), unL (Ty.st (Ty.pr (Ty.gs
  false byT) (Ty.st (Ty.pr (Ty.int IntKind.i64) (Ty.pr (Ty.gs false (Ty.int IntKind.i64)) (Ty.gs false (Ty.int IntKind.i64))))))) xs' = unL enN d.1.2.2 → (EnsP (unL (Ty.st (Ty.pr (Ty.gs false byT) (Ty.st (Ty.pr (Ty.int
  IntKind.i64) (Ty.pr (Ty.gs false (Ty.int IntKind.i64)) (Ty.gs false (Ty.int IntKind.i64))))))) xs') ∧ List.length d.2.1.2 ≤ (1048576 : Nat) ∧ RsP (d.2.2.1, d.2.2.2.1.2, d.2.2.2.2.2)) ∧ ∀ (r : (Int × List EnG) × Bool),
  (unD cacheG r.1, unD Ty.bool r.2) = storeF (d.1.1, unL (Ty.st (Ty.pr (Ty.gs false byT) (Ty.st (Ty.pr (Ty.int IntKind.i64) (Ty.pr (Ty.gs false (Ty.int IntKind.i64)) (Ty.gs false (Ty.int IntKind.i64))))))) xs') d.2.1.2
  (d.2.2.1, d.2.2.2.1.2, d.2.2.2.2.2) → List.Nodup (ids cacheG r.1 ++ ids Ty.bool r.2) → Ty.wf cacheG r.1 ∧ Ty.wf Ty.bool r.2 → (Apart (ids cacheG r.1 ++ ids Ty.bool r.2) (ids (Ty.gs false enN) d.1.2) ∧ (Apart (ids
  cacheG r.1 ++ ids Ty.bool r.2) (ids (Ty.gs false i64T) d.2.2.2.1) ∧ Apart (ids cacheG r.1 ++ ids Ty.bool r.2) (ids (Ty.gs false i64T) d.2.2.2.2)) ∧ Apart (ids cacheG r.1 ++ ids Ty.bool r.2) (idsL enN x.1) ∧ Apart (ids
  cacheG r.1 ++ ids Ty.bool r.2) (idsL enG (markE x_1 (1 : Int))) ∧ Apart (ids cacheG r.1 ++ ids Ty.bool r.2) (idsL (Ty.st (Ty.pr (Ty.gs false byT) (Ty.st (Ty.pr (Ty.int IntKind.i64) (Ty.pr (Ty.gs false (Ty.int
  IntKind.i64)) (Ty.gs false (Ty.int IntKind.i64))))))) xs')) ∧ Apart (ids cacheG r.1 ++ ids Ty.bool r.2) (ids (Ty.gs false enN) d.1.2) ∧ Apart (ids cacheG r.1 ++ ids Ty.bool r.2) (ids (Ty.gs false byT) d.2.1) ∧ (Apart
  (ids cacheG r.1 ++ ids Ty.bool r.2) (ids (Ty.gs false i64T) d.2.2.2.1) ∧ Apart (ids cacheG r.1 ++ ids Ty.bool r.2) (ids (Ty.gs false i64T) d.2.2.2.2)) ∧ Apart (ids cacheG r.1 ++ ids Ty.bool r.2) (ids (Ty.gs false enN)
  d.1.2) ∧ Apart (ids cacheG r.1 ++ ids Ty.bool r.2) (ids (Ty.gs false byT) d.2.1) ∧ Apart (ids cacheG r.1 ++ ids Ty.bool r.2) (ids (Ty.gs false i64T) d.2.2.2.1) ∧ Apart (ids cacheG r.1 ++ ids Ty.bool r.2) (ids (Ty.gs
  false i64T) d.2.2.2.2) → ∃ (x' : List EnG), List.map unE x' = Prod.snd (Prod.fst (storeF (unC d.1) d.2.1.2 (unRA d.2.2))) ∧ ((d.1.1 = d.1.1 ∧ d.1.2.1 = d.1.2.1 ∧ d.1.2.2 = d.1.2.2) ∧ (d.2.1.1 = d.2.1.1 ∧ d.2.1.2 =
  d.2.1.2) ∧ (d.2.2.1 = d.2.2.1 ∧ (d.2.2.2.1.1 = d.2.2.2.1.1 ∧ d.2.2.2.1.2 = d.2.2.2.1.2) ∧ d.2.2.2.2.1 = d.2.2.2.2.1 ∧ d.2.2.2.2.2 = d.2.2.2.2.2) ∧ szRsF (d.2.2.1, d.2.2.2.1.2, d.2.2.2.2.2) (szCaF (d.1.1, unL enN
  d.1.2.2) (1048576 : Int)) = szRsF (d.2.2.1, d.2.2.2.1.2, d.2.2.2.2.2) (szCaF (d.1.1, unL enN d.1.2.2) (1048576 : Int)) ∧ Prod.snd (storeF (d.1.1, unL enN d.1.2.2) d.2.1.2 (d.2.2.1, d.2.2.2.1.2, d.2.2.2.2.2)) = Prod.snd
  (storeF (d.1.1, unL enN d.1.2.2) d.2.1.2 (d.2.2.1, d.2.2.2.1.2, d.2.2.2.2.2)) ∧ Prod.snd (storeF (unC d.1) d.2.1.2 (unRA d.2.2)) = Prod.snd (storeF (unC d.1) d.2.1.2 (unRA d.2.2)) ∧ endE x_1 (1 : Int) = endE x_1 (1 :
  Int) ∧ r.2 = Prod.snd (storeF (unC d.1) d.2.1.2 (unRA d.2.2)) ∧ r.1.1 = Prod.fst (Prod.fst (storeF (unC d.1) d.2.1.2 (unRA d.2.2)))) ∧ (d.1.1 = d.1.1 ∧ d.1.2.1 = d.1.2.1 ∧ d.1.2.2 = d.1.2.2) ∧ (d.2.2.1 = d.2.2.1 ∧
  (d.2.2.2.1.1 = d.2.2.2.1.1 ∧ d.2.2.2.1.2 = d.2.2.2.1.2) ∧ d.2.2.2.2.1 = d.2.2.2.2.1 ∧ d.2.2.2.2.2 = d.2.2.2.2.2) ∧ x.1 = x.1 ∧ Prod.fst (Prod.fst (storeF (unC d.1) d.2.1.2 (unRA d.2.2))) = Prod.fst (Prod.fst (storeF
  (unC d.1) d.2.1.2 (unRA d.2.2))) ∧ markE x_1 (1 : Int) = markE x_1 (1 : Int) ∧ Prod.fst (Prod.fst (storeF (unC d.1) d.2.1.2 (unRA d.2.2))) = Prod.fst (Prod.fst (storeF (unC d.1) d.2.1.2 (unRA d.2.2))) ∧ r.1.2 = x' ∧
  r.1.1 = Prod.fst (Prod.fst (storeF (unC d.1) d.2.1.2 (unRA d.2.2)))) ∧ ∀ (xs' : List EnG), unL (Ty.st (Ty.pr (Ty.gs false byT) (Ty.st (Ty.pr (Ty.int IntKind.i64) (Ty.pr (Ty.gs false (Ty.int IntKind.i64)) (Ty.gs false
  (Ty.int IntKind.i64))))))) xs' = unL enN d.1.2.2 → (EnsP (unL (Ty.st (Ty.pr (Ty.gs false byT) (Ty.st (Ty.pr (Ty.int IntKind.i64) (Ty.pr (Ty.gs false (Ty.int IntKind.i64)) (Ty.gs false (Ty.int IntKind.i64))))))) xs') ∧
  List.length d.2.1.2 ≤ (1048576 : Nat) ∧ RsP (d.2.2.1, d.2.2.2.1.2, d.2.2.2.2.2)) ∧ ∀ (r : (Int × List EnG) × Bool), (unD cacheG r.1, unD Ty.bool r.2) = storeF (d.1.1, unL (Ty.st (Ty.pr (Ty.gs false byT) (Ty.st (Ty.pr
  (Ty.int IntKind.i64) (Ty.pr (Ty.gs false (Ty.int IntKind.i64)) (Ty.gs false (Ty.int IntKind.i64))))))) xs') d.2.1.2 (d.2.2.1, d.2.2.2.1.2, d.2.2.2.2.2) → List.Nodup (ids cacheG r.1 ++ ids Ty.bool r.2) → Ty.wf cacheG
  r.1 ∧ Ty.wf Ty.bool r.2 → (Apart (ids cacheG r.1 ++ ids Ty.bool r.2) (ids (Ty.gs false enN) d.1.2) ∧ (Apart (ids cacheG r.1 ++ ids Ty.bool r.2) (ids (Ty.gs false i64T) d.2.2.2.1) ∧ Apart (ids cacheG r.1 ++ ids Ty.bool
  r.2) (ids (Ty.gs false i64T) d.2.2.2.2)) ∧ Apart (ids cacheG r.1 ++ ids Ty.bool r.2) (idsL enN x.1) ∧ Apart (ids cacheG r.1 ++ ids Ty.bool r.2) (idsL enG (markE x_1 (1 : Int))) ∧ Apart (ids cacheG r.1 ++ ids Ty.bool
  r.2) (idsL (Ty.st (Ty.pr (Ty.gs false byT) (Ty.st (Ty.pr (Ty.int IntKind.i64) (Ty.pr (Ty.gs false (Ty.int IntKind.i64)) (Ty.gs false (Ty.int IntKind.i64))))))) xs')) ∧ Apart (ids cacheG r.1 ++ ids Ty.bool r.2) (ids
  (Ty.gs false enN) d.1.2) ∧ Apart (ids cacheG r.1 ++ ids Ty.bool r.2) (ids (Ty.gs false byT) d.2.1) ∧ (Apart (ids cacheG r.1 ++ ids Ty.bool r.2) (ids (Ty.gs false i64T) d.2.2.2.1) ∧ Apart (ids cacheG r.1 ++ ids Ty.bool
  r.2) (ids (Ty.gs false i64T) d.2.2.2.2)) ∧ Apart (ids cacheG r.1 ++ ids Ty.bool r.2) (ids (Ty.gs false enN) d.1.2) ∧ Apart (ids cacheG r.1 ++ ids Ty.bool r.2) (ids (Ty.gs false byT) d.2.1) ∧ Apart (ids cacheG r.1 ++
  ids Ty.bool r.2) (ids (Ty.gs false i64T) d.2.2.2.1) ∧ Apart (ids cacheG r.1 ++ ids Ty.bool r.2) (ids (Ty.gs false i64T) d.2.2.2.2) → ∃ (x' : List EnG), List.map unE x' = Prod.snd (Prod.fst (storeF (unC d.1) d.2.1.2
  (unRA d.2.2))) ∧ ((d.1.1 = d.1.1 ∧ d.1.2.1 = d.1.2.1 ∧ d.1.2.2 = d.1.2.2) ∧ (d.2.1.1 = d.2.1.1 ∧ d.2.1.2 = d.2.1.2) ∧ (d.2.2.1 = d.2.2.1 ∧ (d.2.2.2.1.1 = d.2.2.2.1.1 ∧ d.2.2.2.1.2 = d.2.2.2.1.2) ∧ d.2.2.2.2.1 =
  d.2.2.2.2.1 ∧ d.2.2.2.2.2 = d.2.2.2.2.2) ∧ szRsF (d.2.2.1, d.2.2.2.1.2, d.2.2.2.2.2) (szCaF (d.1.1, unL enN d.1.2.2) (1048576 : Int)) = szRsF (d.2.2.1, d.2.2.2.1.2, d.2.2.2.2.2) (szCaF (d.1.1, unL enN d.1.2.2) (1048576
  : Int)) ∧ Prod.snd (storeF (d.1.1, unL enN d.1.2.2) d.2.1.2 (d.2.2.1, d.2.2.2.1.2, d.2.2.2.2.2)) = Prod.snd (storeF (d.1.1, unL enN d.1.2.2) d.2.1.2 (d.2.2.1, d.2.2.2.1.2, d.2.2.2.2.2)) ∧ Prod.snd (storeF (unC d.1)
  d.2.1.2 (unRA d.2.2)) = Prod.snd (storeF (unC d.1) d.2.1.2 (unRA d.2.2)) ∧ endE x_1 (1 : Int) = endE x_1 (1 : Int) ∧ r.2 = Prod.snd (storeF (unC d.1) d.2.1.2 (unRA d.2.2)) ∧ r.1.1 = Prod.fst (Prod.fst (storeF (unC d.1)
  d.2.1.2 (unRA d.2.2)))) ∧ (d.1.1 = d.1.1 ∧ d.1.2.1 = d.1.2.1 ∧ d.1.2.2 = d.1.2.2) ∧ (d.2.2.1 = d.2.2.1 ∧ (d.2.2.2.1.1 = d.2.2.2.1.1 ∧ d.2.2.2.1.2 = d.2.2.2.1.2) ∧ d.2.2.2.2.1 = d.2.2.2.2.1 ∧ d.2.2.2.2.2 = d.2.2.2.2.2)
  ∧ x.1 = x.1 ∧ Prod.fst (Prod.fst (storeF (unC d.1) d.2.1.2 (unRA d.2.2))) = Prod.fst (Prod.fst (storeF (unC d.1) d.2.1.2 (unRA d.2.2))) ∧ markE x_1 (1 : Int) = markE x_1 (1 : Int) ∧ Prod.fst (Prod.fst (storeF (unC d.1)
  d.2.1.2 (unRA d.2.2))) = Prod.fst (Prod.fst (storeF (unC d.1) d.2.1.2 (unRA d.2.2))) ∧ r.1.2 = x' ∧ r.1.1 = Prod.fst (Prod.fst (storeF (unC d.1) d.2.1.2 (unRA d.2.2))))) ∧ RsP (d.2.2.1, d.2.2.2.1.2, d.2.2.2.2.2) ∧
  (Ty.wf resT (d.2.2.1, d.2.2.2.1.2, d.2.2.2.2.2) → ∀ (xs' : List EnG), unL (Ty.st (Ty.pr (Ty.gs false byT) (Ty.st (Ty.pr (Ty.int IntKind.i64) (Ty.pr (Ty.gs false (Ty.int IntKind.i64)) (Ty.gs false (Ty.int
  IntKind.i64))))))) xs' = unL enN d.1.2.2 → (EnsP (unL (Ty.st (Ty.pr (Ty.gs false byT) (Ty.st (Ty.pr (Ty.int IntKind.i64) (Ty.pr (Ty.gs false (Ty.int IntKind.i64)) (Ty.gs false (Ty.int IntKind.i64))))))) xs') ∧
  List.length d.2.1.2 ≤ (1048576 : Nat) ∧ RsP (d.2.2.1, d.2.2.2.1.2, d.2.2.2.2.2)) ∧ ∀ (r : (Int × List EnG) × Bool), (unD cacheG r.1, unD Ty.bool r.2) = storeF (d.1.1, unL (Ty.st (Ty.pr (Ty.gs false byT) (Ty.st (Ty.pr
  (Ty.int IntKind.i64) (Ty.pr (Ty.gs false (Ty.int IntKind.i64)) (Ty.gs false (Ty.int IntKind.i64))))))) xs') d.2.1.2 (d.2.2.1, d.2.2.2.1.2, d.2.2.2.2.2) → List.Nodup (ids cacheG r.1 ++ ids Ty.bool r.2) → Ty.wf cacheG
  r.1 ∧ Ty.wf Ty.bool r.2 → (Apart (ids cacheG r.1 ++ ids Ty.bool r.2) (ids (Ty.gs false enN) d.1.2) ∧ (Apart (ids cacheG r.1 ++ ids Ty.bool r.2) (ids (Ty.gs false i64T) d.2.2.2.1) ∧ Apart (ids cacheG r.1 ++ ids Ty.bool
  r.2) (ids (Ty.gs false i64T) d.2.2.2.2)) ∧ Apart (ids cacheG r.1 ++ ids Ty.bool r.2) (idsL enN x.1) ∧ Apart (ids cacheG r.1 ++ ids Ty.bool r.2) (idsL enG (markE x_1 (1 : Int))) ∧ Apart (ids cacheG r.1 ++ ids Ty.bool
  r.2) (idsL (Ty.st (Ty.pr (Ty.gs false byT) (Ty.st (Ty.pr (Ty.int IntKind.i64) (Ty.pr (Ty.gs false (Ty.int IntKind.i64)) (Ty.gs false (Ty.int IntKind.i64))))))) xs')) ∧ Apart (ids cacheG r.1 ++ ids Ty.bool r.2) (ids
  (Ty.gs false enN) d.1.2) ∧ Apart (ids cacheG r.1 ++ ids Ty.bool r.2) (ids (Ty.gs false byT) d.2.1) ∧ (Apart (ids cacheG r.1 ++ ids Ty.bool r.2) (ids (Ty.gs false i64T) d.2.2.2.1) ∧ Apart (ids cacheG r.1 ++ ids Ty.bool
  r.2) (ids (Ty.gs false i64T) d.2.2.2.2)) ∧ Apart (ids cacheG r.1 ++ ids Ty.bool r.2) (ids (Ty.gs false enN) d.1.2) ∧ Apart (ids cacheG r.1 ++ ids Ty.bool r.2) (ids (Ty.gs false byT) d.2.1) ∧ Apart (ids cacheG r.1 ++
  ids Ty.bool r.2) (ids (Ty.gs false i64T) d.2.2.2.1) ∧ Apart (ids cacheG r.1 ++ ids Ty.bool r.2) (ids (Ty.gs false i64T) d.2.2.2.2) → ∃ (x' : List EnG), List.map unE x' = Prod.snd (Prod.fst (storeF (unC d.1) d.2.1.2
  (unRA d.2.2))) ∧ ((d.1.1 = d.1.1 ∧ d.1.2.1 = d.1.2.1 ∧ d.1.2.2 = d.1.2.2) ∧ (d.2.1.1 = d.2.1.1 ∧ d.2.1.2 = d.2.1.2) ∧ (d.2.2.1 = d.2.2.1 ∧ (d.2.2.2.1.1 = d.2.2.2.1.1 ∧ d.2.2.2.1.2 = d.2.2.2.1.2) ∧ d.2.2.2.2.1 =
  d.2.2.2.2.1 ∧ d.2.2.2.2.2 = d.2.2.2.2.2) ∧ szRsF (d.2.2.1, d.2.2.2.1.2, d.2.2.2.2.2) (szCaF (d.1.1, unL enN d.1.2.2) (1048576 : Int)) = szRsF (d.2.2.1, d.2.2.2.1.2, d.2.2.2.2.2) (szCaF (d.1.1, unL enN d.1.2.2) (1048576
  : Int)) ∧ Prod.snd (storeF (d.1.1, unL enN d.1.2.2) d.2.1.2 (d.2.2.1, d.2.2.2.1.2, d.2.2.2.2.2)) = Prod.snd (storeF (d.1.1, unL enN d.1.2.2) d.2.1.2 (d.2.2.1, d.2.2.2.1.2, d.2.2.2.2.2)) ∧ Prod.snd (storeF (unC d.1)
  d.2.1.2 (unRA d.2.2)) = Prod.snd (storeF (unC d.1) d.2.1.2 (unRA d.2.2)) ∧ endE x_1 (1 : Int) = endE x_1 (1 : Int) ∧ r.2 = Prod.snd (storeF (unC d.1) d.2.1.2 (unRA d.2.2)) ∧ r.1.1 = Prod.fst (Prod.fst (storeF (unC d.1)
  d.2.1.2 (unRA d.2.2)))) ∧ (d.1.1 = d.1.1 ∧ d.1.2.1 = d.1.2.1 ∧ d.1.2.2 = d.1.2.2) ∧ (d.2.2.1 = d.2.2.1 ∧ (d.2.2.2.1.1 = d.2.2.2.1.1 ∧ d.2.2.2.1.2 = d.2.2.2.1.2) ∧ d.2.2.2.2.1 = d.2.2.2.2.1 ∧ d.2.2.2.2.2 = d.2.2.2.2.2)
  ∧ x.1 = x.1 ∧ Prod.fst (Prod.fst (storeF (unC d.1) d.2.1.2 (unRA d.2.2))) = Prod.fst (Prod.fst (storeF (unC d.1) d.2.1.2 (unRA d.2.2))) ∧ markE x_1 (1 : Int) = markE x_1 (1 : Int) ∧ Prod.fst (Prod.fst (storeF (unC d.1)
  d.2.1.2 (unRA d.2.2))) = Prod.fst (Prod.fst (storeF (unC d.1) d.2.1.2 (unRA d.2.2))) ∧ r.1.2 = x' ∧ r.1.1 = Prod.fst (Prod.fst (storeF (unC d.1) d.2.1.2 (unRA d.2.2)))))) ∧ List.length d.2.1.2 ≤ (1048576 : Nat) ∧
  (Ty.wf bytesT d.2.1.2 → RsP (d.2.2.1, d.2.2.2.1.2, d.2.2.2.2.2) ∧ (Ty.wf resT (d.2.2.1, d.2.2.2.1.2, d.2.2.2.2.2) → ∀ (xs' : List EnG), unL (Ty.st (Ty.pr (Ty.gs false byT) (Ty.st (Ty.pr (Ty.int IntKind.i64) (Ty.pr
  (Ty.gs false (Ty.int IntKind.i64)) (Ty.gs false (Ty.int IntKind.i64))))))) xs' = unL enN d.1.2.2 → (EnsP (unL (Ty.st (Ty.pr (Ty.gs false byT) (Ty.st (Ty.pr (Ty.int IntKind.i64) (Ty.pr (Ty.gs false (Ty.int IntKind.i64))
  (Ty.gs false (Ty.int IntKind.i64))))))) xs') ∧ List.length d.2.1.2 ≤ (1048576 : Nat) ∧ RsP (d.2.2.1, d.2.2.2.1.2, d.2.2.2.2.2)) ∧ ∀ (r : (Int × List EnG) × Bool), (unD cacheG r.1, unD Ty.bool r.2) = storeF (d.1.1, unL
  (Ty.st (Ty.pr (Ty.gs false byT) (Ty.st (Ty.pr (Ty.int IntKind.i64) (Ty.pr (Ty.gs false (Ty.int IntKind.i64)) (Ty.gs false (Ty.int IntKind.i64))))))) xs') d.2.1.2 (d.2.2.1, d.2.2.2.1.2, d.2.2.2.2.2) → List.Nodup (ids
  cacheG r.1 ++ ids Ty.bool r.2) → Ty.wf cacheG r.1 ∧ Ty.wf Ty.bool r.2 → (Apart (ids cacheG r.1 ++ ids Ty.bool r.2) (ids (Ty.gs false enN) d.1.2) ∧ (Apart (ids cacheG r.1 ++ ids Ty.bool r.2) (ids (Ty.gs false i64T)
  d.2.2.2.1) ∧ Apart (ids cacheG r.1 ++ ids Ty.bool r.2) (ids (Ty.gs false i64T) d.2.2.2.2)) ∧ Apart (ids cacheG r.1 ++ ids Ty.bool r.2) (idsL enN x.1) ∧ Apart (ids cacheG r.1 ++ ids Ty.bool r.2) (idsL enG (markE x_1 (1
  : Int))) ∧ Apart (ids cacheG r.1 ++ ids Ty.bool r.2) (idsL (Ty.st (Ty.pr (Ty.gs false byT) (Ty.st (Ty.pr (Ty.int IntKind.i64) (Ty.pr (Ty.gs false (Ty.int IntKind.i64)) (Ty.gs false (Ty.int IntKind.i64))))))) xs')) ∧
  Apart (ids cacheG r.1 ++ ids Ty.bool r.2) (ids (Ty.gs false enN) d.1.2) ∧ Apart (ids cacheG r.1 ++ ids Ty.bool r.2) (ids (Ty.gs false byT) d.2.1) ∧ (Apart (ids cacheG r.1 ++ ids Ty.bool r.2) (ids (Ty.gs false i64T)
  d.2.2.2.1) ∧ Apart (ids cacheG r.1 ++ ids Ty.bool r.2) (ids (Ty.gs false i64T) d.2.2.2.2)) ∧ Apart (ids cacheG r.1 ++ ids Ty.bool r.2) (ids (Ty.gs false enN) d.1.2) ∧ Apart (ids cacheG r.1 ++ ids Ty.bool r.2) (ids
  (Ty.gs false byT) d.2.1) ∧ Apart (ids cacheG r.1 ++ ids Ty.bool r.2) (ids (Ty.gs false i64T) d.2.2.2.1) ∧ Apart (ids cacheG r.1 ++ ids Ty.bool r.2) (ids (Ty.gs false i64T) d.2.2.2.2) → ∃ (x' : List EnG), List.map unE
  x' = Prod.snd (Prod.fst (storeF (unC d.1) d.2.1.2 (unRA d.2.2))) ∧ ((d.1.1 = d.1.1 ∧ d.1.2.1 = d.1.2.1 ∧ d.1.2.2 = d.1.2.2) ∧ (d.2.1.1 = d.2.1.1 ∧ d.2.1.2 = d.2.1.2) ∧ (d.2.2.1 = d.2.2.1 ∧ (d.2.2.2.1.1 = d.2.2.2.1.1 ∧
  d.2.2.2.1.2 = d.2.2.2.1.2) ∧ d.2.2.2.2.1 = d.2.2.2.2.1 ∧ d.2.2.2.2.2 = d.2.2.2.2.2) ∧ szRsF (d.2.2.1, d.2.2.2.1.2, d.2.2.2.2.2) (szCaF (d.1.1, unL enN d.1.2.2) (1048576 : Int)) = szRsF (d.2.2.1, d.2.2.2.1.2,
  d.2.2.2.2.2) (szCaF (d.1.1, unL enN d.1.2.2) (1048576 : Int)) ∧ Prod.snd (storeF (d.1.1, unL enN d.1.2.2) d.2.1.2 (d.2.2.1, d.2.2.2.1.2, d.2.2.2.2.2)) = Prod.snd (storeF (d.1.1, unL enN d.1.2.2) d.2.1.2 (d.2.2.1,
  d.2.2.2.1.2, d.2.2.2.2.2)) ∧ Prod.snd (storeF (unC d.1) d.2.1.2 (unRA d.2.2)) = Prod.snd (storeF (unC d.1) d.2.1.2 (unRA d.2.2)) ∧ endE x_1 (1 : Int) = endE x_1 (1 : Int) ∧ r.2 = Prod.snd (storeF (unC d.1) d.2.1.2
  (unRA d.2.2)) ∧ r.1.1 = Prod.fst (Prod.fst (storeF (unC d.1) d.2.1.2 (unRA d.2.2)))) ∧ (d.1.1 = d.1.1 ∧ d.1.2.1 = d.1.2.1 ∧ d.1.2.2 = d.1.2.2) ∧ (d.2.2.1 = d.2.2.1 ∧ (d.2.2.2.1.1 = d.2.2.2.1.1 ∧ d.2.2.2.1.2 =
  d.2.2.2.1.2) ∧ d.2.2.2.2.1 = d.2.2.2.2.1 ∧ d.2.2.2.2.2 = d.2.2.2.2.2) ∧ x.1 = x.1 ∧ Prod.fst (Prod.fst (storeF (unC d.1) d.2.1.2 (unRA d.2.2))) = Prod.fst (Prod.fst (storeF (unC d.1) d.2.1.2 (unRA d.2.2))) ∧ markE x_1
  (1 : Int) = markE x_1 (1 : Int) ∧ Prod.fst (Prod.fst (storeF (unC d.1) d.2.1.2 (unRA d.2.2))) = Prod.fst (Prod.fst (storeF (unC d.1) d.2.1.2 (unRA d.2.2))) ∧ r.1.2 = x' ∧ r.1.1 = Prod.fst (Prod.fst (storeF (unC d.1)
  d.2.1.2 (unRA d.2.2)))))) ∧ (List.length d.2.1.2 ≤ (1048576 : Nat) ∧ (Ty.wf bytesT d.2.1.2 → RsP (d.2.2.1, d.2.2.2.1.2, d.2.2.2.2.2) ∧ (Ty.wf resT (d.2.2.1, d.2.2.2.1.2, d.2.2.2.2.2) → ∀ (xs' : List EnG), unL (Ty.st
  (Ty.pr (Ty.gs false byT) (Ty.st (Ty.pr (Ty.int IntKind.i64) (Ty.pr (Ty.gs false (Ty.int IntKind.i64)) (Ty.gs false (Ty.int IntKind.i64))))))) xs' = unL enN d.1.2.2 → (EnsP (unL (Ty.st (Ty.pr (Ty.gs false byT) (Ty.st
  (Ty.pr (Ty.int IntKind.i64) (Ty.pr (Ty.gs false (Ty.int IntKind.i64)) (Ty.gs false (Ty.int IntKind.i64))))))) xs') ∧ List.length d.2.1.2 ≤ (1048576 : Nat) ∧ RsP (d.2.2.1, d.2.2.2.1.2, d.2.2.2.2.2)) ∧ ∀ (r : (Int × List
  EnG) × Bool), (unD cacheG r.1, unD Ty.bool r.2) = storeF (d.1.1, unL (Ty.st (Ty.pr (Ty.gs false byT) (Ty.st (Ty.pr (Ty.int IntKind.i64) (Ty.pr (Ty.gs false (Ty.int IntKind.i64)) (Ty.gs false (Ty.int IntKind.i64)))))))
  xs') d.2.1.2 (d.2.2.1, d.2.2.2.1.2, d.2.2.2.2.2) → List.Nodup (ids cacheG r.1 ++ ids Ty.bool r.2) → Ty.wf cacheG r.1 ∧ Ty.wf Ty.bool r.2 → (Apart (ids cacheG r.1 ++ ids Ty.bool r.2) (ids (Ty.gs false enN) d.1.2) ∧
  (Apart (ids cacheG r.1 ++ ids Ty.bool r.2) (ids (Ty.gs false i64T) d.2.2.2.1) ∧ Apart (ids cacheG r.1 ++ ids Ty.bool r.2) (ids (Ty.gs false i64T) d.2.2.2.2)) ∧ Apart (ids cacheG r.1 ++ ids Ty.bool r.2) (idsL enN x.1) ∧
  Apart (ids cacheG r.1 ++ ids Ty.bool r.2) (idsL enG (markE x_1 (1 : Int))) ∧ Apart (ids cacheG r.1 ++ ids Ty.bool r.2) (idsL (Ty.st (Ty.pr (Ty.gs false byT) (Ty.st (Ty.pr (Ty.int IntKind.i64) (Ty.pr (Ty.gs false
  (Ty.int IntKind.i64)) (Ty.gs false (Ty.int IntKind.i64))))))) xs')) ∧ Apart (ids cacheG r.1 ++ ids Ty.bool r.2) (ids (Ty.gs false enN) d.1.2) ∧ Apart (ids cacheG r.1 ++ ids Ty.bool r.2) (ids (Ty.gs false byT) d.2.1) ∧
  (Apart (ids cacheG r.1 ++ ids Ty.bool r.2) (ids (Ty.gs false i64T) d.2.2.2.1) ∧ Apart (ids cacheG r.1 ++ ids Ty.bool r.2) (ids (Ty.gs false i64T) d.2.2.2.2)) ∧ Apart (ids cacheG r.1 ++ ids Ty.bool r.2) (ids (Ty.gs
  false enN) d.1.2) ∧ Apart (ids cacheG r.1 ++ ids Ty.bool r.2) (ids (Ty.gs false byT) d.2.1) ∧ Apart (ids cacheG r.1 ++ ids Ty.bool r.2) (ids (Ty.gs false i64T) d.2.2.2.1) ∧ Apart (ids cacheG r.1 ++ ids Ty.bool r.2)
  (ids (Ty.gs false i64T) d.2.2.2.2) → ∃ (x' : List EnG), List.map unE x' = Prod.snd (Prod.fst (storeF (unC d.1) d.2.1.2 (unRA d.2.2))) ∧ ((d.1.1 = d.1.1 ∧ d.1.2.1 = d.1.2.1 ∧ d.1.2.2 = d.1.2.2) ∧ (d.2.1.1 = d.2.1.1 ∧
  d.2.1.2 = d.2.1.2) ∧ (d.2.2.1 = d.2.2.1 ∧ (d.2.2.2.1.1 = d.2.2.2.1.1 ∧ d.2.2.2.1.2 = d.2.2.2.1.2) ∧ d.2.2.2.2.1 = d.2.2.2.2.1 ∧ d.2.2.2.2.2 = d.2.2.2.2.2) ∧ szRsF (d.2.2.1, d.2.2.2.1.2, d.2.2.2.2.2) (szCaF (d.1.1, unL
  enN d.1.2.2) (1048576 : Int)) = szRsF (d.2.2.1, d.2.2.2.1.2, d.2.2.2.2.2) (szCaF (d.1.1, unL enN d.1.2.2) (1048576 : Int)) ∧ Prod.snd (storeF (d.1.1, unL enN d.1.2.2) d.2.1.2 (d.2.2.1, d.2.2.2.1.2, d.2.2.2.2.2)) =
  Prod.snd (storeF (d.1.1, unL enN d.1.2.2) d.2.1.2 (d.2.2.1, d.2.2.2.1.2, d.2.2.2.2.2)) ∧ Prod.snd (storeF (unC d.1) d.2.1.2 (unRA d.2.2)) = Prod.snd (storeF (unC d.1) d.2.1.2 (unRA d.2.2)) ∧ endE x_1 (1 : Int) = endE
  x_1 (1 : Int) ∧ r.2 = Prod.snd (storeF (unC d.1) d.2.1.2 (unRA d.2.2)) ∧ r.1.1 = Prod.fst (Prod.fst (storeF (unC d.1) d.2.1.2 (unRA d.2.2)))) ∧ (d.1.1 = d.1.1 ∧ d.1.2.1 = d.1.2.1 ∧ d.1.2.2 = d.1.2.2) ∧ (d.2.2.1 =
  d.2.2.1 ∧ (d.2.2.2.1.1 = d.2.2.2.1.1 ∧ d.2.2.2.1.2 = d.2.2.2.1.2) ∧ d.2.2.2.2.1 = d.2.2.2.2.1 ∧ d.2.2.2.2.2 = d.2.2.2.2.2) ∧ x.1 = x.1 ∧ Prod.fst (Prod.fst (storeF (unC d.1) d.2.1.2 (unRA d.2.2))) = Prod.fst (Prod.fst
  (storeF (unC d.1) d.2.1.2 (unRA d.2.2))) ∧ markE x_1 (1 : Int) = markE x_1 (1 : Int) ∧ Prod.fst (Prod.fst (storeF (unC d.1) d.2.1.2 (unRA d.2.2))) = Prod.fst (Prod.fst (storeF (unC d.1) d.2.1.2 (unRA d.2.2))) ∧ r.1.2 =
  x' ∧ r.1.1 = Prod.fst (Prod.fst (storeF (unC d.1) d.2.1.2 (unRA d.2.2)))))) ∧ List.length d.2.1.2 ≤ (1048576 : Nat) ∧ (Ty.wf bytesT d.2.1.2 → RsP (d.2.2.1, d.2.2.2.1.2, d.2.2.2.2.2) ∧ (Ty.wf resT (d.2.2.1, d.2.2.2.1.2,
  d.2.2.2.2.2) → ∀ (xs' : List EnG), unL (Ty.st (Ty.pr (Ty.gs false byT) (Ty.st (Ty.pr (Ty.int IntKind.i64) (Ty.pr (Ty.gs false (Ty.int IntKind.i64)) (Ty.gs false (Ty.int IntKind.i64))))))) xs' = unL enN d.1.2.2 → (EnsP
  (unL (Ty.st (Ty.pr (Ty.gs false byT) (Ty.st (Ty.pr (Ty.int IntKind.i64) (Ty.pr (Ty.gs false (Ty.int IntKind.i64)) (Ty.gs false (Ty.int IntKind.i64))))))) xs') ∧ List.length d.2.1.2 ≤ (1048576 : Nat) ∧ RsP (d.2.2.1,
  d.2.2.2.1.2, d.2.2.2.2.2)) ∧ ∀ (r : (Int × List EnG) × Bool), (unD cacheG r.1, unD Ty.bool r.2) = storeF (d.1.1, unL (Ty.st (Ty.pr (Ty.gs false byT) (Ty.st (Ty.pr (Ty.int IntKind.i64) (Ty.pr (Ty.gs false (Ty.int
  IntKind.i64)) (Ty.gs false (Ty.int IntKind.i64))))))) xs') d.2.1.2 (d.2.2.1, d.2.2.2.1.2, d.2.2.2.2.2) → List.Nodup (ids cacheG r.1 ++ ids Ty.bool r.2) → Ty.wf cacheG r.1 ∧ Ty.wf Ty.bool r.2 → (Apart (ids cacheG r.1 ++
  ids Ty.bool r.2) (ids (Ty.gs false enN) d.1.2) ∧ (Apart (ids cacheG r.1 ++ ids Ty.bool r.2) (ids (Ty.gs false i64T) d.2.2.2.1) ∧ Apart (ids cacheG r.1 ++ ids Ty.bool r.2) (ids (Ty.gs false i64T) d.2.2.2.2)) ∧ Apart
  (ids cacheG r.1 ++ ids Ty.bool r.2) (idsL enN x.1) ∧ Apart (ids cacheG r.1 ++ ids Ty.bool r.2) (idsL enG (markE x_1 (1 : Int))) ∧ Apart (ids cacheG r.1 ++ ids Ty.bool r.2) (idsL (Ty.st (Ty.pr (Ty.gs false byT) (Ty.st
  (Ty.pr (Ty.int IntKind.i64) (Ty.pr (Ty.gs false (Ty.int IntKind.i64)) (Ty.gs false (Ty.int IntKind.i64))))))) xs')) ∧ Apart (ids cacheG r.1 ++ ids Ty.bool r.2) (ids (Ty.gs false enN) d.1.2) ∧ Apart (ids cacheG r.1 ++
  ids Ty.bool r.2) (ids (Ty.gs false byT) d.2.1) ∧ (Apart (ids cacheG r.1 ++ ids Ty.bool r.2) (ids (Ty.gs false i64T) d.2.2.2.1) ∧ Apart (ids cacheG r.1 ++ ids Ty.bool r.2) (ids (Ty.gs false i64T) d.2.2.2.2)) ∧ Apart
  (ids cacheG r.1 ++ ids Ty.bool r.2) (ids (Ty.gs false enN) d.1.2) ∧ Apart (ids cacheG r.1 ++ ids Ty.bool r.2) (ids (Ty.gs false byT) d.2.1) ∧ Apart (ids cacheG r.1 ++ ids Ty.bool r.2) (ids (Ty.gs false i64T) d.2.2.2.1)
  ∧ Apart (ids cacheG r.1 ++ ids Ty.bool r.2) (ids (Ty.gs false i64T) d.2.2.2.2) → ∃ (x' : List EnG), List.map unE x' = Prod.snd (Prod.fst (storeF (unC d.1) d.2.1.2 (unRA d.2.2))) ∧ ((d.1.1 = d.1.1 ∧ d.1.2.1 = d.1.2.1 ∧
  d.1.2.2 = d.1.2.2) ∧ (d.2.1.1 = d.2.1.1 ∧ d.2.1.2 = d.2.1.2) ∧ (d.2.2.1 = d.2.2.1 ∧ (d.2.2.2.1.1 = d.2.2.2.1.1 ∧ d.2.2.2.1.2 = d.2.2.2.1.2) ∧ d.2.2.2.2.1 = d.2.2.2.2.1 ∧ d.2.2.2.2.2 = d.2.2.2.2.2) ∧ szRsF (d.2.2.1,
  d.2.2.2.1.2, d.2.2.2.2.2) (szCaF (d.1.1, unL enN d.1.2.2) (1048576 : Int)) = szRsF (d.2.2.1, d.2.2.2.1.2, d.2.2.2.2.2) (szCaF (d.1.1, unL enN d.1.2.2) (1048576 : Int)) ∧ Prod.snd (storeF (d.1.1, unL enN d.1.2.2)
  d.2.1.2 (d.2.2.1, d.2.2.2.1.2, d.2.2.2.2.2)) = Prod.snd (storeF (d.1.1, unL enN d.1.2.2) d.2.1.2 (d.2.2.1, d.2.2.2.1.2, d.2.2.2.2.2)) ∧ Prod.snd (storeF (unC d.1) d.2.1.2 (unRA d.2.2)) = Prod.snd (storeF (unC d.1)
  d.2.1.2 (unRA d.2.2)) ∧ endE x_1 (1 : Int) = endE x_1 (1 : Int) ∧ r.2 = Prod.snd (storeF (unC d.1) d.2.1.2 (unRA d.2.2)) ∧ r.1.1 = Prod.fst (Prod.fst (storeF (unC d.1) d.2.1.2 (unRA d.2.2)))) ∧ (d.1.1 = d.1.1 ∧ d.1.2.1
  = d.1.2.1 ∧ d.1.2.2 = d.1.2.2) ∧ (d.2.2.1 = d.2.2.1 ∧ (d.2.2.2.1.1 = d.2.2.2.1.1 ∧ d.2.2.2.1.2 = d.2.2.2.1.2) ∧ d.2.2.2.2.1 = d.2.2.2.2.1 ∧ d.2.2.2.2.2 = d.2.2.2.2.2) ∧ x.1 = x.1 ∧ Prod.fst (Prod.fst (storeF (unC d.1)
  d.2.1.2 (unRA d.2.2))) = Prod.fst (Prod.fst (storeF (unC d.1) d.2.1.2 (unRA d.2.2))) ∧ markE x_1 (1 : Int) = markE x_1 (1 : Int) ∧ Prod.fst (Prod.fst (storeF (unC d.1) d.2.1.2 (unRA d.2.2))) = Prod.fst (Prod.fst
  (storeF (unC d.1) d.2.1.2 (unRA d.2.2))) ∧ r.1.2 = x' ∧ r.1.1 = Prod.fst (Prod.fst (storeF (unC d.1) d.2.1.2 (unRA d.2.2))))))) ∧ ((EnsP (unL enN d.1.2.2) ∧ (Ty.wf cacheT (d.1.1, unL enN d.1.2.2) → (List.length d.2.1.2
  ≤ (1048576 : Nat) ∧ (Ty.wf bytesT d.2.1.2 → (RsP (d.2.2.1, d.2.2.2.1.2, d.2.2.2.2.2) ∧ (Ty.wf resT (d.2.2.1, d.2.2.2.1.2, d.2.2.2.2.2) → (∀ (xs' : List EnG), unL (Ty.st (Ty.pr (Ty.gs false byT) (Ty.st (Ty.pr (Ty.int
  IntKind.i64) (Ty.pr (Ty.gs false (Ty.int IntKind.i64)) (Ty.gs false (Ty.int IntKind.i64))))))) xs' = unL enN d.1.2.2 → (EnsP (unL (Ty.st (Ty.pr (Ty.gs false byT) (Ty.st (Ty.pr (Ty.int IntKind.i64) (Ty.pr (Ty.gs false
  (Ty.int IntKind.i64)) (Ty.gs false (Ty.int IntKind.i64))))))) xs') ∧ List.length d.2.1.2 ≤ (1048576 : Nat) ∧ RsP (d.2.2.1, d.2.2.2.1.2, d.2.2.2.2.2)) ∧ ∀ (r : (Int × List EnG) × Bool), (unD cacheG r.1, unD Ty.bool r.2)
  = storeF (d.1.1, unL (Ty.st (Ty.pr (Ty.gs false byT) (Ty.st (Ty.pr (Ty.int IntKind.i64) (Ty.pr (Ty.gs false (Ty.int IntKind.i64)) (Ty.gs false (Ty.int IntKind.i64))))))) xs') d.2.1.2 (d.2.2.1, d.2.2.2.1.2, d.2.2.2.2.2)
  → List.Nodup (ids cacheG r.1 ++ ids Ty.bool r.2) → Ty.wf cacheG r.1 ∧ Ty.wf Ty.bool r.2 → (Apart (ids cacheG r.1 ++ ids Ty.bool r.2) (ids (Ty.gs false enN) d.1.2) ∧ (Apart (ids cacheG r.1 ++ ids Ty.bool r.2) (ids
  (Ty.gs false i64T) d.2.2.2.1) ∧ Apart (ids cacheG r.1 ++ ids Ty.bool r.2) (ids (Ty.gs false i64T) d.2.2.2.2)) ∧ Apart (ids cacheG r.1 ++ ids Ty.bool r.2) (idsL enN x.1) ∧ Apart (ids cacheG r.1 ++ ids Ty.bool r.2) (idsL
  enG (markE x_1 (1 : Int))) ∧ Apart (ids cacheG r.1 ++ ids Ty.bool r.2) (idsL (Ty.st (Ty.pr (Ty.gs false byT) (Ty.st (Ty.pr (Ty.int IntKind.i64) (Ty.pr (Ty.gs false (Ty.int IntKind.i64)) (Ty.gs false (Ty.int
  IntKind.i64))))))) xs')) ∧ Apart (ids cacheG r.1 ++ ids Ty.bool r.2) (ids (Ty.gs false enN) d.1.2) ∧ Apart (ids cacheG r.1 ++ ids Ty.bool r.2) (ids (Ty.gs false byT) d.2.1) ∧ (Apart (ids cacheG r.1 ++ ids Ty.bool r.2)
  (ids (Ty.gs false i64T) d.2.2.2.1) ∧ Apart (ids cacheG r.1 ++ ids Ty.bool r.2) (ids (Ty.gs false i64T) d.2.2.2.2)) ∧ Apart (ids cacheG r.1 ++ ids Ty.bool r.2) (ids (Ty.gs false enN) d.1.2) ∧ Apart (ids cacheG r.1 ++
  ids Ty.bool r.2) (ids (Ty.gs false byT) d.2.1) ∧ Apart (ids cacheG r.1 ++ ids Ty.bool r.2) (ids (Ty.gs false i64T) d.2.2.2.1) ∧ Apart (ids cacheG r.1 ++ ids Ty.bool r.2) (ids (Ty.gs false i64T) d.2.2.2.2) → ∃ (x' :
  List EnG), List.map unE x' = Prod.snd (Prod.fst (storeF (unC d.1) d.2.1.2 (unRA d.2.2))) ∧ ((d.1.1 = d.1.1 ∧ d.1.2.1 = d.1.2.1 ∧ d.1.2.2 = d.1.2.2) ∧ (d.2.1.1 = d.2.1.1 ∧ d.2.1.2 = d.2.1.2) ∧ (d.2.2.1 = d.2.2.1 ∧
  (d.2.2.2.1.1 = d.2.2.2.1.1 ∧ d.2.2.2.1.2 = d.2.2.2.1.2) ∧ d.2.2.2.2.1 = d.2.2.2.2.1 ∧ d.2.2.2.2.2 = d.2.2.2.2.2) ∧ szRsF (d.2.2.1, d.2.2.2.1.2, d.2.2.2.2.2) (szCaF (d.1.1, unL enN d.1.2.2) (1048576 : Int)) = szRsF
  (d.2.2.1, d.2.2.2.1.2, d.2.2.2.2.2) (szCaF (d.1.1, unL enN d.1.2.2) (1048576 : Int)) ∧ Prod.snd (storeF (d.1.1, unL enN d.1.2.2) d.2.1.2 (d.2.2.1, d.2.2.2.1.2, d.2.2.2.2.2)) = Prod.snd (storeF (d.1.1, unL enN d.1.2.2)
  d.2.1.2 (d.2.2.1, d.2.2.2.1.2, d.2.2.2.2.2)) ∧ Prod.snd (storeF (unC d.1) d.2.1.2 (unRA d.2.2)) = Prod.snd (storeF (unC d.1) d.2.1.2 (unRA d.2.2)) ∧ endE x_1 (1 : Int) = endE x_1 (1 : Int) ∧ r.2 = Prod.snd (storeF (unC
  d.1) d.2.1.2 (unRA d.2.2)) ∧ r.1.1 = Prod.fst (Prod.fst (storeF (unC d.1) d.2.1.2 (unRA d.2.2)))) ∧ (d.1.1 = d.1.1 ∧ d.1.2.1 = d.1.2.1 ∧ d.1.2.2 = d.1.2.2) ∧ (d.2.2.1 = d.2.2.1 ∧ (d.2.2.2.1.1 = d.2.2.2.1.1 ∧
  d.2.2.2.1.2 = d.2.2.2.1.2) ∧ d.2.2.2.2.1 = d.2.2.2.2.1 ∧ d.2.2.2.2.2 = d.2.2.2.2.2) ∧ x.1 = x.1 ∧ Prod.fst (Prod.fst (storeF (unC d.1) d.2.1.2 (unRA d.2.2))) = Prod.fst (Prod.fst (storeF (unC d.1) d.2.1.2 (unRA
  d.2.2))) ∧ markE x_1 (1 : Int) = markE x_1 (1 : Int) ∧ Prod.fst (Prod.fst (storeF (unC d.1) d.2.1.2 (unRA d.2.2))) = Prod.fst (Prod.fst (storeF (unC d.1) d.2.1.2 (unRA d.2.2))) ∧ r.1.2 = x' ∧ r.1.1 = Prod.fst (Prod.fst
  (storeF (unC d.1) d.2.1.2 (unRA d.2.2)))) ∧ ∀ (xs' : List EnG), unL (Ty.st (Ty.pr (Ty.gs false byT) (Ty.st (Ty.pr (Ty.int IntKind.i64) (Ty.pr (Ty.gs false (Ty.int IntKind.i64)) (Ty.gs false (Ty.int IntKind.i64)))))))
  xs' = unL enN d.1.2.2 → (EnsP (unL (Ty.st (Ty.pr (Ty.gs false byT) (Ty.st (Ty.pr (Ty.int IntKind.i64) (Ty.pr (Ty.gs false (Ty.int IntKind.i64)) (Ty.gs false (Ty.int IntKind.i64))))))) xs') ∧ List.length d.2.1.2 ≤
  (1048576 : Nat) ∧ RsP (d.2.2.1, d.2.2.2.1.2, d.2.2.2.2.2)) ∧ ∀ (r : (Int × List EnG) × Bool), (unD cacheG r.1, unD Ty.bool r.2) = storeF (d.1.1, unL (Ty.st (Ty.pr (Ty.gs false byT) (Ty.st (Ty.pr (Ty.int IntKind.i64)
  (Ty.pr (Ty.gs false (Ty.int IntKind.i64)) (Ty.gs false (Ty.int IntKind.i64))))))) xs') d.2.1.2 (d.2.2.1, d.2.2.2.1.2, d.2.2.2.2.2) → List.Nodup (ids cacheG r.1 ++ ids Ty.bool r.2) → Ty.wf cacheG r.1 ∧ Ty.wf Ty.bool r.2
  → (Apart (ids cacheG r.1 ++ ids Ty.bool r.2) (ids (Ty.gs false enN) d.1.2) ∧ (Apart (ids cacheG r.1 ++ ids Ty.bool r.2) (ids (Ty.gs false i64T) d.2.2.2.1) ∧ Apart (ids cacheG r.1 ++ ids Ty.bool r.2) (ids (Ty.gs false
  i64T) d.2.2.2.2)) ∧ Apart (ids cacheG r.1 ++ ids Ty.bool r.2) (idsL enN x.1) ∧ Apart (ids cacheG r.1 ++ ids Ty.bool r.2) (idsL enG (markE x_1 (1 : Int))) ∧ Apart (ids cacheG r.1 ++ ids Ty.bool r.2) (idsL (Ty.st (Ty.pr
  (Ty.gs false byT) (Ty.st (Ty.pr (Ty.int IntKind.i64) (Ty.pr (Ty.gs false (Ty.int IntKind.i64)) (Ty.gs false (Ty.int IntKind.i64))))))) xs')) ∧ Apart (ids cacheG r.1 ++ ids Ty.bool r.2) (ids (Ty.gs false enN) d.1.2) ∧
  Apart (ids cacheG r.1 ++ ids Ty.bool r.2) (ids (Ty.gs false byT) d.2.1) ∧ (Apart (ids cacheG r.1 ++ ids Ty.bool r.2) (ids (Ty.gs false i64T) d.2.2.2.1) ∧ Apart (ids cacheG r.1 ++ ids Ty.bool r.2) (ids (Ty.gs false
  i64T) d.2.2.2.2)) ∧ Apart (ids cacheG r.1 ++ ids Ty.bool r.2) (ids (Ty.gs false enN) d.1.2) ∧ Apart (ids cacheG r.1 ++ ids Ty.bool r.2) (ids (Ty.gs false byT) d.2.1) ∧ Apart (ids cacheG r.1 ++ ids Ty.bool r.2) (ids
  (Ty.gs false i64T) d.2.2.2.1) ∧ Apart (ids cacheG r.1 ++ ids Ty.bool r.2) (ids (Ty.gs false i64T) d.2.2.2.2) → ∃ (x' : List EnG), List.map unE x' = Prod.snd (Prod.fst (storeF (unC d.1) d.2.1.2 (unRA d.2.2))) ∧ ((d.1.1
  = d.1.1 ∧ d.1.2.1 = d.1.2.1 ∧ d.1.2.2 = d.1.2.2) ∧ (d.2.1.1 = d.2.1.1 ∧ d.2.1.2 = d.2.1.2) ∧ (d.2.2.1 = d.2.2.1 ∧ (d.2.2.2.1.1 = d.2.2.2.1.1 ∧ d.2.2.2.1.2 = d.2.2.2.1.2) ∧ d.2.2.2.2.1 = d.2.2.2.2.1 ∧ d.2.2.2.2.2 =
  d.2.2.2.2.2) ∧ szRsF (d.2.2.1, d.2.2.2.1.2, d.2.2.2.2.2) (szCaF (d.1.1, unL enN d.1.2.2) (1048576 : Int)) = szRsF (d.2.2.1, d.2.2.2.1.2, d.2.2.2.2.2) (szCaF (d.1.1, unL enN d.1.2.2) (1048576 : Int)) ∧ Prod.snd (storeF
  (d.1.1, unL enN d.1.2.2) d.2.1.2 (d.2.2.1, d.2.2.2.1.2, d.2.2.2.2.2)) = Prod.snd (storeF (d.1.1, unL enN d.1.2.2) d.2.1.2 (d.2.2.1, d.2.2.2.1.2, d.2.2.2.2.2)) ∧ Prod.snd (storeF (unC d.1) d.2.1.2 (unRA d.2.2)) =
  Prod.snd (storeF (unC d.1) d.2.1.2 (unRA d.2.2)) ∧ endE x_1 (1 : Int) = endE x_1 (1 : Int) ∧ r.2 = Prod.snd (storeF (unC d.1) d.2.1.2 (unRA d.2.2)) ∧ r.1.1 = Prod.fst (Prod.fst (storeF (unC d.1) d.2.1.2 (unRA d.2.2))))
  ∧ (d.1.1 = d.1.1 ∧ d.1.2.1 = d.1.2.1 ∧ d.1.2.2 = d.1.2.2) ∧ (d.2.2.1 = d.2.2.1 ∧ (d.2.2.2.1.1 = d.2.2.2.1.1 ∧ d.2.2.2.1.2 = d.2.2.2.1.2) ∧ d.2.2.2.2.1 = d.2.2.2.2.1 ∧ d.2.2.2.2.2 = d.2.2.2.2.2) ∧ x.1 = x.1 ∧ Prod.fst
  (Prod.fst (storeF (unC d.1) d.2.1.2 (unRA d.2.2))) = Prod.fst (Prod.fst (storeF (unC d.1) d.2.1.2 (unRA d.2.2))) ∧ markE x_1 (1 : Int) = markE x_1 (1 : Int) ∧ Prod.fst (Prod.fst (storeF (unC d.1) d.2.1.2 (unRA d.2.2)))
  = Prod.fst (Prod.fst (storeF (unC d.1) d.2.1.2 (unRA d.2.2))) ∧ r.1.2 = x' ∧ r.1.1 = Prod.fst (Prod.fst (storeF (unC d.1) d.2.1.2 (unRA d.2.2))))) ∧ RsP (d.2.2.1, d.2.2.2.1.2, d.2.2.2.2.2) ∧ (Ty.wf resT (d.2.2.1,
  d.2.2.2.1.2, d.2.2.2.2.2) → ∀ (xs' : List EnG), unL (Ty.st (Ty.pr (Ty.gs false byT) (Ty.st (Ty.pr (Ty.int IntKind.i64) (Ty.pr (Ty.gs false (Ty.int IntKind.i64)) (Ty.gs false (Ty.int IntKind.i64))))))) xs' = unL enN
  d.1.2.2 → (EnsP (unL (Ty.st (Ty.pr (Ty.gs false byT) (Ty.st (Ty.pr (Ty.int IntKind.i64) (Ty.pr (Ty.gs false (Ty.int IntKind.i64)) (Ty.gs false (Ty.int IntKind.i64))))))) xs') ∧ List.length d.2.1.2 ≤ (1048576 : Nat) ∧
  RsP (d.2.2.1, d.2.2.2.1.2, d.2.2.2.2.2)) ∧ ∀ (r : (Int × List EnG) × Bool), (unD cacheG r.1, unD Ty.bool r.2) = storeF (d.1.1, unL (Ty.st (Ty.pr (Ty.gs false byT) (Ty.st (Ty.pr (Ty.int IntKind.i64) (Ty.pr (Ty.gs false
  (Ty.int IntKind.i64)) (Ty.gs false (Ty.int IntKind.i64))))))) xs') d.2.1.2 (d.2.2.1, d.2.2.2.1.2, d.2.2.2.2.2) → List.Nodup (ids cacheG r.1 ++ ids Ty.bool r.2) → Ty.wf cacheG r.1 ∧ Ty.wf Ty.bool r.2 → (Apart (ids
  cacheG r.1 ++ ids Ty.bool r.2) (ids (Ty.gs false enN) d.1.2) ∧ (Apart (ids cacheG r.1 ++ ids Ty.bool r.2) (ids (Ty.gs false i64T) d.2.2.2.1) ∧ Apart (ids cacheG r.1 ++ ids Ty.bool r.2) (ids (Ty.gs false i64T)
  d.2.2.2.2)) ∧ Apart (ids cacheG r.1 ++ ids Ty.bool r.2) (idsL enN x.1) ∧ Apart (ids cacheG r.1 ++ ids Ty.bool r.2) (idsL enG (markE x_1 (1 : Int))) ∧ Apart (ids cacheG r.1 ++ ids Ty.bool r.2) (idsL (Ty.st (Ty.pr (Ty.gs
  false byT) (Ty.st (Ty.pr (Ty.int IntKind.i64) (Ty.pr (Ty.gs false (Ty.int IntKind.i64)) (Ty.gs false (Ty.int IntKind.i64))))))) xs')) ∧ Apart (ids cacheG r.1 ++ ids Ty.bool r.2) (ids (Ty.gs false enN) d.1.2) ∧ Apart
  (ids cacheG r.1 ++ ids Ty.bool r.2) (ids (Ty.gs false byT) d.2.1) ∧ (Apart (ids cacheG r.1 ++ ids Ty.bool r.2) (ids (Ty.gs false i64T) d.2.2.2.1) ∧ Apart (ids cacheG r.1 ++ ids Ty.bool r.2) (ids (Ty.gs false i64T)
  d.2.2.2.2)) ∧ Apart (ids cacheG r.1 ++ ids Ty.bool r.2) (ids (Ty.gs false enN) d.1.2) ∧ Apart (ids cacheG r.1 ++ ids Ty.bool r.2) (ids (Ty.gs false byT) d.2.1) ∧ Apart (ids cacheG r.1 ++ ids Ty.bool r.2) (ids (Ty.gs
  false i64T) d.2.2.2.1) ∧ Apart (ids cacheG r.1 ++ ids Ty.bool r.2) (ids (Ty.gs false i64T) d.2.2.2.2) → ∃ (x' : List EnG), List.map unE x' = Prod.snd (Prod.fst (storeF (unC d.1) d.2.1.2 (unRA d.2.2))) ∧ ((d.1.1 = d.1.1
  ∧ d.1.2.1 = d.1.2.1 ∧ d.1.2.2 = d.1.2.2) ∧ (d.2.1.1 = d.2.1.1 ∧ d.2.1.2 = d.2.1.2) ∧ (d.2.2.1 = d.2.2.1 ∧ (d.2.2.2.1.1 = d.2.2.2.1.1 ∧ d.2.2.2.1.2 = d.2.2.2.1.2) ∧ d.2.2.2.2.1 = d.2.2.2.2.1 ∧ d.2.2.2.2.2 = d.2.2.2.2.2)
  ∧ szRsF (d.2.2.1, d.2.2.2.1.2, d.2.2.2.2.2) (szCaF (d.1.1, unL enN d.1.2.2) (1048576 : Int)) = szRsF (d.2.2.1, d.2.2.2.1.2, d.2.2.2.2.2) (szCaF (d.1.1, unL enN d.1.2.2) (1048576 : Int)) ∧ Prod.snd (storeF (d.1.1, unL
  enN d.1.2.2) d.2.1.2 (d.2.2.1, d.2.2.2.1.2, d.2.2.2.2.2)) = Prod.snd (storeF (d.1.1, unL enN d.1.2.2) d.2.1.2 (d.2.2.1, d.2.2.2.1.2, d.2.2.2.2.2)) ∧ Prod.snd (storeF (unC d.1) d.2.1.2 (unRA d.2.2)) = Prod.snd (storeF
  (unC d.1) d.2.1.2 (unRA d.2.2)) ∧ endE x_1 (1 : Int) = endE x_1 (1 : Int) ∧ r.2 = Prod.snd (storeF (unC d.1) d.2.1.2 (unRA d.2.2)) ∧ r.1.1 = Prod.fst (Prod.fst (storeF (unC d.1) d.2.1.2 (unRA d.2.2)))) ∧ (d.1.1 = d.1.1
  ∧ d.1.2.1 = d.1.2.1 ∧ d.1.2.2 = d.1.2.2) ∧ (d.2.2.1 = d.2.2.1 ∧ (d.2.2.2.1.1 = d.2.2.2.1.1 ∧ d.2.2.2.1.2 = d.2.2.2.1.2) ∧ d.2.2.2.2.1 = d.2.2.2.2.1 ∧ d.2.2.2.2.2 = d.2.2.2.2.2) ∧ x.1 = x.1 ∧ Prod.fst (Prod.fst (storeF
  (unC d.1) d.2.1.2 (unRA d.2.2))) = Prod.fst (Prod.fst (storeF (unC d.1) d.2.1.2 (unRA d.2.2))) ∧ markE x_1 (1 : Int) = markE x_1 (1 : Int) ∧ Prod.fst (Prod.fst (storeF (unC d.1) d.2.1.2 (unRA d.2.2))) = Prod.fst
  (Prod.fst (storeF (unC d.1) d.2.1.2 (unRA d.2.2))) ∧ r.1.2 = x' ∧ r.1.1 = Prod.fst (Prod.fst (storeF (unC d.1) d.2.1.2 (unRA d.2.2)))))) ∧ List.length d.2.1.2 ≤ (1048576 : Nat) ∧ (Ty.wf bytesT d.2.1.2 → RsP (d.2.2.1,
  d.2.2.2.1.2, d.2.2.2.2.2) ∧ (Ty.wf resT (d.2.2.1, d.2.2.2.1.2, d.2.2.2.2.2) → ∀ (xs' : List EnG), unL (Ty.st (Ty.pr (Ty.gs false byT) (Ty.st (Ty.pr (Ty.int IntKind.i64) (Ty.pr (Ty.gs false (Ty.int IntKind.i64)) (Ty.gs
  false (Ty.int IntKind.i64))))))) xs' = unL enN d.1.2.2 → (EnsP (unL (Ty.st (Ty.pr (Ty.gs false byT) (Ty.st (Ty.pr (Ty.int IntKind.i64) (Ty.pr (Ty.gs false (Ty.int IntKind.i64)) (Ty.gs false (Ty.int IntKind.i64)))))))
  xs') ∧ List.length d.2.1.2 ≤ (1048576 : Nat) ∧ RsP (d.2.2.1, d.2.2.2.1.2, d.2.2.2.2.2)) ∧ ∀ (r : (Int × List EnG) × Bool), (unD cacheG r.1, unD Ty.bool r.2) = storeF (d.1.1, unL (Ty.st (Ty.pr (Ty.gs false byT) (Ty.st
  (Ty.pr (Ty.int IntKind.i64) (Ty.pr (Ty.gs false (Ty.int IntKind.i64)) (Ty.gs false (Ty.int IntKind.i64))))))) xs') d.2.1.2 (d.2.2.1, d.2.2.2.1.2, d.2.2.2.2.2) → List.Nodup (ids cacheG r.1 ++ ids Ty.bool r.2) → Ty.wf
  cacheG r.1 ∧ Ty.wf Ty.bool r.2 → (Apart (ids cacheG r.1 ++ ids Ty.bool r.2) (ids (Ty.gs false enN) d.1.2) ∧ (Apart (ids cacheG r.1 ++ ids Ty.bool r.2) (ids (Ty.gs false i64T) d.2.2.2.1) ∧ Apart (ids cacheG r.1 ++ ids
  Ty.bool r.2) (ids (Ty.gs false i64T) d.2.2.2.2)) ∧ Apart (ids cacheG r.1 ++ ids Ty.bool r.2) (idsL enN x.1) ∧ Apart (ids cacheG r.1 ++ ids Ty.bool r.2) (idsL enG (markE x_1 (1 : Int))) ∧ Apart (ids cacheG r.1 ++ ids
  Ty.bool r.2) (idsL (Ty.st (Ty.pr (Ty.gs false byT) (Ty.st (Ty.pr (Ty.int IntKind.i64) (Ty.pr (Ty.gs false (Ty.int IntKind.i64)) (Ty.gs false (Ty.int IntKind.i64))))))) xs')) ∧ Apart (ids cacheG r.1 ++ ids Ty.bool r.2)
  (ids (Ty.gs false enN) d.1.2) ∧ Apart (ids cacheG r.1 ++ ids Ty.bool r.2) (ids (Ty.gs false byT) d.2.1) ∧ (Apart (ids cacheG r.1 ++ ids Ty.bool r.2) (ids (Ty.gs false i64T) d.2.2.2.1) ∧ Apart (ids cacheG r.1 ++ ids
  Ty.bool r.2) (ids (Ty.gs false i64T) d.2.2.2.2)) ∧ Apart (ids cacheG r.1 ++ ids Ty.bool r.2) (ids (Ty.gs false enN) d.1.2) ∧ Apart (ids cacheG r.1 ++ ids Ty.bool r.2) (ids (Ty.gs false byT) d.2.1) ∧ Apart (ids cacheG
  r.1 ++ ids Ty.bool r.2) (ids (Ty.gs false i64T) d.2.2.2.1) ∧ Apart (ids cacheG r.1 ++ ids Ty.bool r.2) (ids (Ty.gs false i64T) d.2.2.2.2) → ∃ (x' : List EnG), List.map unE x' = Prod.snd (Prod.fst (storeF (unC d.1)
  d.2.1.2 (unRA d.2.2))) ∧ ((d.1.1 = d.1.1 ∧ d.1.2.1 = d.1.2.1 ∧ d.1.2.2 = d.1.2.2) ∧ (d.2.1.1 = d.2.1.1 ∧ d.2.1.2 = d.2.1.2) ∧ (d.2.2.1 = d.2.2.1 ∧ (d.2.2.2.1.1 = d.2.2.2.1.1 ∧ d.2.2.2.1.2 = d.2.2.2.1.2) ∧ d.2.2.2.2.1 =
  d.2.2.2.2.1 ∧ d.2.2.2.2.2 = d.2.2.2.2.2) ∧ szRsF (d.2.2.1, d.2.2.2.1.2, d.2.2.2.2.2) (szCaF (d.1.1, unL enN d.1.2.2) (1048576 : Int)) = szRsF (d.2.2.1, d.2.2.2.1.2, d.2.2.2.2.2) (szCaF (d.1.1, unL enN d.1.2.2) (1048576
  : Int)) ∧ Prod.snd (storeF (d.1.1, unL enN d.1.2.2) d.2.1.2 (d.2.2.1, d.2.2.2.1.2, d.2.2.2.2.2)) = Prod.snd (storeF (d.1.1, unL enN d.1.2.2) d.2.1.2 (d.2.2.1, d.2.2.2.1.2, d.2.2.2.2.2)) ∧ Prod.snd (storeF (unC d.1)
  d.2.1.2 (unRA d.2.2)) = Prod.snd (storeF (unC d.1) d.2.1.2 (unRA d.2.2)) ∧ endE x_1 (1 : Int) = endE x_1 (1 : Int) ∧ r.2 = Prod.snd (storeF (unC d.1) d.2.1.2 (unRA d.2.2)) ∧ r.1.1 = Prod.fst (Prod.fst (storeF (unC d.1)
  d.2.1.2 (unRA d.2.2)))) ∧ (d.1.1 = d.1.1 ∧ d.1.2.1 = d.1.2.1 ∧ d.1.2.2 = d.1.2.2) ∧ (d.2.2.1 = d.2.2.1 ∧ (d.2.2.2.1.1 = d.2.2.2.1.1 ∧ d.2.2.2.1.2 = d.2.2.2.1.2) ∧ d.2.2.2.2.1 = d.2.2.2.2.1 ∧ d.2.2.2.2.2 = d.2.2.2.2.2)
  ∧ x.1 = x.1 ∧ Prod.fst (Prod.fst (storeF (unC d.1) d.2.1.2 (unRA d.2.2))) = Prod.fst (Prod.fst (storeF (unC d.1) d.2.1.2 (unRA d.2.2))) ∧ markE x_1 (1 : Int) = markE x_1 (1 : Int) ∧ Prod.fst (Prod.fst (storeF (unC d.1)
  d.2.1.2 (unRA d.2.2))) = Prod.fst (Prod.fst (storeF (unC d.1) d.2.1.2 (unRA d.2.2))) ∧ r.1.2 = x' ∧ r.1.1 = Prod.fst (Prod.fst (storeF (unC d.1) d.2.1.2 (unRA d.2.2))))))) ∧ EnsP (unL enN d.1.2.2) ∧ (Ty.wf cacheT
  (d.1.1, unL enN d.1.2.2) → List.length d.2.1.2 ≤ (1048576 : Nat) ∧ (Ty.wf bytesT d.2.1.2 → RsP (d.2.2.1, d.2.2.2.1.2, d.2.2.2.2.2) ∧ (Ty.wf resT (d.2.2.1, d.2.2.2.1.2, d.2.2.2.2.2) → ∀ (xs' : List EnG), unL (Ty.st
  (Ty.pr (Ty.gs false byT) (Ty.st (Ty.pr (Ty.int IntKind.i64) (Ty.pr (Ty.gs false (Ty.int IntKind.i64)) (Ty.gs false (Ty.int IntKind.i64))))))) xs' = unL enN d.1.2.2 → (EnsP (unL (Ty.st (Ty.pr (Ty.gs false byT) (Ty.st
  (Ty.pr (Ty.int IntKind.i64) (Ty.pr (Ty.gs false (Ty.int IntKind.i64)) (Ty.gs false (Ty.int IntKind.i64))))))) xs') ∧ List.length d.2.1.2 ≤ (1048576 : Nat) ∧ RsP (d.2.2.1, d.2.2.2.1.2, d.2.2.2.2.2)) ∧ ∀ (r : (Int × List
  EnG) × Bool), (unD cacheG r.1, unD Ty.bool r.2) = storeF (d.1.1, unL (Ty.st (Ty.pr (Ty.gs false byT) (Ty.st (Ty.pr (Ty.int IntKind.i64) (Ty.pr (Ty.gs false (Ty.int IntKind.i64)) (Ty.gs false (Ty.int IntKind.i64)))))))
  xs') d.2.1.2 (d.2.2.1, d.2.2.2.1.2, d.2.2.2.2.2) → List.Nodup (ids cacheG r.1 ++ ids Ty.bool r.2) → Ty.wf cacheG r.1 ∧ Ty.wf Ty.bool r.2 → (Apart (ids cacheG r.1 ++ ids Ty.bool r.2) (ids (Ty.gs false enN) d.1.2) ∧
  (Apart (ids cacheG r.1 ++ ids Ty.bool r.2) (ids (Ty.gs false i64T) d.2.2.2.1) ∧ Apart (ids cacheG r.1 ++ ids Ty.bool r.2) (ids (Ty.gs false i64T) d.2.2.2.2)) ∧ Apart (ids cacheG r.1 ++ ids Ty.bool r.2) (idsL enN x.1) ∧
  Apart (ids cacheG r.1 ++ ids Ty.bool r.2) (idsL enG (markE x_1 (1 : Int))) ∧ Apart (ids cacheG r.1 ++ ids Ty.bool r.2) (idsL (Ty.st (Ty.pr (Ty.gs false byT) (Ty.st (Ty.pr (Ty.int IntKind.i64) (Ty.pr (Ty.gs false
  (Ty.int IntKind.i64)) (Ty.gs false (Ty.int IntKind.i64))))))) xs')) ∧ Apart (ids cacheG r.1 ++ ids Ty.bool r.2) (ids (Ty.gs false enN) d.1.2) ∧ Apart (ids cacheG r.1 ++ ids Ty.bool r.2) (ids (Ty.gs false byT) d.2.1) ∧
  (Apart (ids cacheG r.1 ++ ids Ty.bool r.2) (ids (Ty.gs false i64T) d.2.2.2.1) ∧ Apart (ids cacheG r.1 ++ ids Ty.bool r.2) (ids (Ty.gs false i64T) d.2.2.2.2)) ∧ Apart (ids cacheG r.1 ++ ids Ty.bool r.2) (ids (Ty.gs
  false enN) d.1.2) ∧ Apart (ids cacheG r.1 ++ ids Ty.bool r.2) (ids (Ty.gs false byT) d.2.1) ∧ Apart (ids cacheG r.1 ++ ids Ty.bool r.2) (ids (Ty.gs false i64T) d.2.2.2.1) ∧ Apart (ids cacheG r.1 ++ ids Ty.bool r.2)
  (ids (Ty.gs false i64T) d.2.2.2.2) → ∃ (x' : List EnG), List.map unE x' = Prod.snd (Prod.fst (storeF (unC d.1) d.2.1.2 (unRA d.2.2))) ∧ ((d.1.1 = d.1.1 ∧ d.1.2.1 = d.1.2.1 ∧ d.1.2.2 = d.1.2.2) ∧ (d.2.1.1 = d.2.1.1 ∧
  d.2.1.2 = d.2.1.2) ∧ (d.2.2.1 = d.2.2.1 ∧ (d.2.2.2.1.1 = d.2.2.2.1.1 ∧ d.2.2.2.1.2 = d.2.2.2.1.2) ∧ d.2.2.2.2.1 = d.2.2.2.2.1 ∧ d.2.2.2.2.2 = d.2.2.2.2.2) ∧ szRsF (d.2.2.1, d.2.2.2.1.2, d.2.2.2.2.2) (szCaF (d.1.1, unL
  enN d.1.2.2) (1048576 : Int)) = szRsF (d.2.2.1, d.2.2.2.1.2, d.2.2.2.2.2) (szCaF (d.1.1, unL enN d.1.2.2) (1048576 : Int)) ∧ Prod.snd (storeF (d.1.1, unL enN d.1.2.2) d.2.1.2 (d.2.2.1, d.2.2.2.1.2, d.2.2.2.2.2)) =
  Prod.snd (storeF (d.1.1, unL enN d.1.2.2) d.2.1.2 (d.2.2.1, d.2.2.2.1.2, d.2.2.2.2.2)) ∧ Prod.snd (storeF (unC d.1) d.2.1.2 (unRA d.2.2)) = Prod.snd (storeF (unC d.1) d.2.1.2 (unRA d.2.2)) ∧ endE x_1 (1 : Int) = endE
  x_1 (1 : Int) ∧ r.2 = Prod.snd (storeF (unC d.1) d.2.1.2 (unRA d.2.2)) ∧ r.1.1 = Prod.fst (Prod.fst (storeF (unC d.1) d.2.1.2 (unRA d.2.2)))) ∧ (d.1.1 = d.1.1 ∧ d.1.2.1 = d.1.2.1 ∧ d.1.2.2 = d.1.2.2) ∧ (d.2.2.1 =
  d.2.2.1 ∧ (d.2.2.2.1.1 = d.2.2.2.1.1 ∧ d.2.2.2.1.2 = d.2.2.2.1.2) ∧ d.2.2.2.2.1 = d.2.2.2.2.1 ∧ d.2.2.2.2.2 = d.2.2.2.2.2) ∧ x.1 = x.1 ∧ Prod.fst (Prod.fst (storeF (unC d.1) d.2.1.2 (unRA d.2.2))) = Prod.fst (Prod.fst
  (storeF (unC d.1) d.2.1.2 (unRA d.2.2))) ∧ markE x_1 (1 : Int) = markE x_1 (1 : Int) ∧ Prod.fst (Prod.fst (storeF (unC d.1) d.2.1.2 (unRA d.2.2))) = Prod.fst (Prod.fst (storeF (unC d.1) d.2.1.2 (unRA d.2.2))) ∧ r.1.2 =
  x' ∧ r.1.1 = Prod.fst (Prod.fst (storeF (unC d.1) d.2.1.2 (unRA d.2.2))))))) ∧ (EnsP (unL enN d.1.2.2) ∧ (Ty.wf cacheT (d.1.1, unL enN d.1.2.2) → (List.length d.2.1.2 ≤ (1048576 : Nat) ∧ (Ty.wf bytesT d.2.1.2 → RsP
  (d.2.2.1, d.2.2.2.1.2, d.2.2.2.2.2) ∧ (Ty.wf resT (d.2.2.1, d.2.2.2.1.2, d.2.2.2.2.2) → ∀ (xs' : List EnG), unL (Ty.st (Ty.pr (Ty.gs false byT) (Ty.st (Ty.pr (Ty.int IntKind.i64) (Ty.pr (Ty.gs false (Ty.int
  IntKind.i64)) (Ty.gs false (Ty.int IntKind.i64))))))) xs' = unL enN d.1.2.2 → (EnsP (unL (Ty.st (Ty.pr (Ty.gs false byT) (Ty.st (Ty.pr (Ty.int IntKind.i64) (Ty.pr (Ty.gs false (Ty.int IntKind.i64)) (Ty.gs false (Ty.int
  IntKind.i64))))))) xs') ∧ List.length d.2.1.2 ≤ (1048576 : Nat) ∧ RsP (d.2.2.1, d.2.2.2.1.2, d.2.2.2.2.2)) ∧ ∀ (r : (Int × List EnG) × Bool), (unD cacheG r.1, unD Ty.bool r.2) = storeF (d.1.1, unL (Ty.st (Ty.pr (Ty.gs
  false byT) (Ty.st (Ty.pr (Ty.int IntKind.i64) (Ty.pr (Ty.gs false (Ty.int IntKind.i64)) (Ty.gs false (Ty.int IntKind.i64))))))) xs') d.2.1.2 (d.2.2.1, d.2.2.2.1.2, d.2.2.2.2.2) → List.Nodup (ids cacheG r.1 ++ ids
  Ty.bool r.2) → Ty.wf cacheG r.1 ∧ Ty.wf Ty.bool r.2 → (Apart (ids cacheG r.1 ++ ids Ty.bool r.2) (ids (Ty.gs false enN) d.1.2) ∧ (Apart (ids cacheG r.1 ++ ids Ty.bool r.2) (ids (Ty.gs false i64T) d.2.2.2.1) ∧ Apart
  (ids cacheG r.1 ++ ids Ty.bool r.2) (ids (Ty.gs false i64T) d.2.2.2.2)) ∧ Apart (ids cacheG r.1 ++ ids Ty.bool r.2) (idsL enN x.1) ∧ Apart (ids cacheG r.1 ++ ids Ty.bool r.2) (idsL enG (markE x_1 (1 : Int))) ∧ Apart
  (ids cacheG r.1 ++ ids Ty.bool r.2) (idsL (Ty.st (Ty.pr (Ty.gs false byT) (Ty.st (Ty.pr (Ty.int IntKind.i64) (Ty.pr (Ty.gs false (Ty.int IntKind.i64)) (Ty.gs false (Ty.int IntKind.i64))))))) xs')) ∧ Apart (ids cacheG
  r.1 ++ ids Ty.bool r.2) (ids (Ty.gs false enN) d.1.2) ∧ Apart (ids cacheG r.1 ++ ids Ty.bool r.2) (ids (Ty.gs false byT) d.2.1) ∧ (Apart (ids cacheG r.1 ++ ids Ty.bool r.2) (ids (Ty.gs false i64T) d.2.2.2.1) ∧ Apart
  (ids cacheG r.1 ++ ids Ty.bool r.2) (ids (Ty.gs false i64T) d.2.2.2.2)) ∧ Apart (ids cacheG r.1 ++ ids Ty.bool r.2) (ids (Ty.gs false enN) d.1.2) ∧ Apart (ids cacheG r.1 ++ ids Ty.bool r.2) (ids (Ty.gs false byT)
  d.2.1) ∧ Apart (ids cacheG r.1 ++ ids Ty.bool r.2) (ids (Ty.gs false i64T) d.2.2.2.1) ∧ Apart (ids cacheG r.1 ++ ids Ty.bool r.2) (ids (Ty.gs false i64T) d.2.2.2.2) → ∃ (x' : List EnG), List.map unE x' = Prod.snd
  (Prod.fst (storeF (unC d.1) d.2.1.2 (unRA d.2.2))) ∧ ((d.1.1 = d.1.1 ∧ d.1.2.1 = d.1.2.1 ∧ d.1.2.2 = d.1.2.2) ∧ (d.2.1.1 = d.2.1.1 ∧ d.2.1.2 = d.2.1.2) ∧ (d.2.2.1 = d.2.2.1 ∧ (d.2.2.2.1.1 = d.2.2.2.1.1 ∧ d.2.2.2.1.2 =
  d.2.2.2.1.2) ∧ d.2.2.2.2.1 = d.2.2.2.2.1 ∧ d.2.2.2.2.2 = d.2.2.2.2.2) ∧ szRsF (d.2.2.1, d.2.2.2.1.2, d.2.2.2.2.2) (szCaF (d.1.1, unL enN d.1.2.2) (1048576 : Int)) = szRsF (d.2.2.1, d.2.2.2.1.2, d.2.2.2.2.2) (szCaF
  (d.1.1, unL enN d.1.2.2) (1048576 : Int)) ∧ Prod.snd (storeF (d.1.1, unL enN d.1.2.2) d.2.1.2 (d.2.2.1, d.2.2.2.1.2, d.2.2.2.2.2)) = Prod.snd (storeF (d.1.1, unL enN d.1.2.2) d.2.1.2 (d.2.2.1, d.2.2.2.1.2,
  d.2.2.2.2.2)) ∧ Prod.snd (storeF (unC d.1) d.2.1.2 (unRA d.2.2)) = Prod.snd (storeF (unC d.1) d.2.1.2 (unRA d.2.2)) ∧ endE x_1 (1 : Int) = endE x_1 (1 : Int) ∧ r.2 = Prod.snd (storeF (unC d.1) d.2.1.2 (unRA d.2.2)) ∧
  r.1.1 = Prod.fst (Prod.fst (storeF (unC d.1) d.2.1.2 (unRA d.2.2)))) ∧ (d.1.1 = d.1.1 ∧ d.1.2.1 = d.1.2.1 ∧ d.1.2.2 = d.1.2.2) ∧ (d.2.2.1 = d.2.2.1 ∧ (d.2.2.2.1.1 = d.2.2.2.1.1 ∧ d.2.2.2.1.2 = d.2.2.2.1.2) ∧
  d.2.2.2.2.1 = d.2.2.2.2.1 ∧ d.2.2.2.2.2 = d.2.2.2.2.2) ∧ x.1 = x.1 ∧ Prod.fst (Prod.fst (storeF (unC d.1) d.2.1.2 (unRA d.2.2))) = Prod.fst (Prod.fst (storeF (unC d.1) d.2.1.2 (unRA d.2.2))) ∧ markE x_1 (1 : Int) =
  markE x_1 (1 : Int) ∧ Prod.fst (Prod.fst (storeF (unC d.1) d.2.1.2 (unRA d.2.2))) = Prod.fst (Prod.fst (storeF (unC d.1) d.2.1.2 (unRA d.2.2))) ∧ r.1.2 = x' ∧ r.1.1 = Prod.fst (Prod.fst (storeF (unC d.1) d.2.1.2 (unRA
  d.2.2)))))) ∧ List.length d.2.1.2 ≤ (1048576 : Nat) ∧ (Ty.wf bytesT d.2.1.2 → RsP (d.2.2.1, d.2.2.2.1.2, d.2.2.2.2.2) ∧ (Ty.wf resT (d.2.2.1, d.2.2.2.1.2, d.2.2.2.2.2) → ∀ (xs' : List EnG), unL (Ty.st (Ty.pr (Ty.gs
  false byT) (Ty.st (Ty.pr (Ty.int IntKind.i64) (Ty.pr (Ty.gs false (Ty.int IntKind.i64)) (Ty.gs false (Ty.int IntKind.i64))))))) xs' = unL enN d.1.2.2 → (EnsP (unL (Ty.st (Ty.pr (Ty.gs false byT) (Ty.st (Ty.pr (Ty.int
  IntKind.i64) (Ty.pr (Ty.gs false (Ty.int IntKind.i64)) (Ty.gs false (Ty.int IntKind.i64))))))) xs') ∧ List.length d.2.1.2 ≤ (1048576 : Nat) ∧ RsP (d.2.2.1, d.2.2.2.1.2, d.2.2.2.2.2)) ∧ ∀ (r : (Int × List EnG) × Bool),
  (unD cacheG r.1, unD Ty.bool r.2) = storeF (d.1.1, unL (Ty.st (Ty.pr (Ty.gs false byT) (Ty.st (Ty.pr (Ty.int IntKind.i64) (Ty.pr (Ty.gs false (Ty.int IntKind.i64)) (Ty.gs false (Ty.int IntKind.i64))))))) xs') d.2.1.2
  (d.2.2.1, d.2.2.2.1.2, d.2.2.2.2.2) → List.Nodup (ids cacheG r.1 ++ ids Ty.bool r.2) → Ty.wf cacheG r.1 ∧ Ty.wf Ty.bool r.2 → (Apart (ids cacheG r.1 ++ ids Ty.bool r.2) (ids (Ty.gs false enN) d.1.2) ∧ (Apart (ids
  cacheG r.1 ++ ids Ty.bool r.2) (ids (Ty.gs false i64T) d.2.2.2.1) ∧ Apart (ids cacheG r.1 ++ ids Ty.bool r.2) (ids (Ty.gs false i64T) d.2.2.2.2)) ∧ Apart (ids cacheG r.1 ++ ids Ty.bool r.2) (idsL enN x.1) ∧ Apart (ids
  cacheG r.1 ++ ids Ty.bool r.2) (idsL enG (markE x_1 (1 : Int))) ∧ Apart (ids cacheG r.1 ++ ids Ty.bool r.2) (idsL (Ty.st (Ty.pr (Ty.gs false byT) (Ty.st (Ty.pr (Ty.int IntKind.i64) (Ty.pr (Ty.gs false (Ty.int
  IntKind.i64)) (Ty.gs false (Ty.int IntKind.i64))))))) xs')) ∧ Apart (ids cacheG r.1 ++ ids Ty.bool r.2) (ids (Ty.gs false enN) d.1.2) ∧ Apart (ids cacheG r.1 ++ ids Ty.bool r.2) (ids (Ty.gs false byT) d.2.1) ∧ (Apart
  (ids cacheG r.1 ++ ids Ty.bool r.2) (ids (Ty.gs false i64T) d.2.2.2.1) ∧ Apart (ids cacheG r.1 ++ ids Ty.bool r.2) (ids (Ty.gs false i64T) d.2.2.2.2)) ∧ Apart (ids cacheG r.1 ++ ids Ty.bool r.2) (ids (Ty.gs false enN)
  d.1.2) ∧ Apart (ids cacheG r.1 ++ ids Ty.bool r.2) (ids (Ty.gs false byT) d.2.1) ∧ Apart (ids cacheG r.1 ++ ids Ty.bool r.2) (ids (Ty.gs false i64T) d.2.2.2.1) ∧ Apart (ids cacheG r.1 ++ ids Ty.bool r.2) (ids (Ty.gs
  false i64T) d.2.2.2.2) → ∃ (x' : List EnG), List.map unE x' = Prod.snd (Prod.fst (storeF (unC d.1) d.2.1.2 (unRA d.2.2))) ∧ ((d.1.1 = d.1.1 ∧ d.1.2.1 = d.1.2.1 ∧ d.1.2.2 = d.1.2.2) ∧ (d.2.1.1 = d.2.1.1 ∧ d.2.1.2 =
  d.2.1.2) ∧ (d.2.2.1 = d.2.2.1 ∧ (d.2.2.2.1.1 = d.2.2.2.1.1 ∧ d.2.2.2.1.2 = d.2.2.2.1.2) ∧ d.2.2.2.2.1 = d.2.2.2.2.1 ∧ d.2.2.2.2.2 = d.2.2.2.2.2) ∧ szRsF (d.2.2.1, d.2.2.2.1.2, d.2.2.2.2.2) (szCaF (d.1.1, unL enN
  d.1.2.2) (1048576 : Int)) = szRsF (d.2.2.1, d.2.2.2.1.2, d.2.2.2.2.2) (szCaF (d.1.1, unL enN d.1.2.2) (1048576 : Int)) ∧ Prod.snd (storeF (d.1.1, unL enN d.1.2.2) d.2.1.2 (d.2.2.1, d.2.2.2.1.2, d.2.2.2.2.2)) = Prod.snd
  (storeF (d.1.1, unL enN d.1.2.2) d.2.1.2 (d.2.2.1, d.2.2.2.1.2, d.2.2.2.2.2)) ∧ Prod.snd (storeF (unC d.1) d.2.1.2 (unRA d.2.2)) = Prod.snd (storeF (unC d.1) d.2.1.2 (unRA d.2.2)) ∧ endE x_1 (1 : Int) = endE x_1 (1 :
  Int) ∧ r.2 = Prod.snd (storeF (unC d.1) d.2.1.2 (unRA d.2.2)) ∧ r.1.1 = Prod.fst (Prod.fst (storeF (unC d.1) d.2.1.2 (unRA d.2.2)))) ∧ (d.1.1 = d.1.1 ∧ d.1.2.1 = d.1.2.1 ∧ d.1.2.2 = d.1.2.2) ∧ (d.2.2.1 = d.2.2.1 ∧
  (d.2.2.2.1.1 = d.2.2.2.1.1 ∧ d.2.2.2.1.2 = d.2.2.2.1.2) ∧ d.2.2.2.2.1 = d.2.2.2.2.1 ∧ d.2.2.2.2.2 = d.2.2.2.2.2) ∧ x.1 = x.1 ∧ Prod.fst (Prod.fst (storeF (unC d.1) d.2.1.2 (unRA d.2.2))) = Prod.fst (Prod.fst (storeF
  (unC d.1) d.2.1.2 (unRA d.2.2))) ∧ markE x_1 (1 : Int) = markE x_1 (1 : Int) ∧ Prod.fst (Prod.fst (storeF (unC d.1) d.2.1.2 (unRA d.2.2))) = Prod.fst (Prod.fst (storeF (unC d.1) d.2.1.2 (unRA d.2.2))) ∧ r.1.2 = x' ∧
  r.1.1 = Prod.fst (Prod.fst (storeF (unC d.1) d.2.1.2 (unRA d.2.2))))))) ∧ EnsP (unL enN d.1.2.2) ∧ (Ty.wf cacheT (d.1.1, unL enN d.1.2.2) → List.length d.2.1.2 ≤ (1048576 : Nat) ∧ (Ty.wf bytesT d.2.1.2 → RsP (d.2.2.1,
  d.2.2.2.1.2, d.2.2.2.2.2) ∧ (Ty.wf resT (d.2.2.1, d.2.2.2.1.2, d.2.2.2.2.2) → ∀ (xs' : List EnG), unL (Ty.st (Ty.pr (Ty.gs false byT) (Ty.st (Ty.pr (Ty.int IntKind.i64) (Ty.pr (Ty.gs false (Ty.int IntKind.i64)) (Ty.gs
  false (Ty.int IntKind.i64))))))) xs' = unL enN d.1.2.2 → (EnsP (unL (Ty.st (Ty.pr (Ty.gs false byT) (Ty.st (Ty.pr (Ty.int IntKind.i64) (Ty.pr (Ty.gs false (Ty.int IntKind.i64)) (Ty.gs false (Ty.int IntKind.i64)))))))
  xs') ∧ List.length d.2.1.2 ≤ (1048576 : Nat) ∧ RsP (d.2.2.1, d.2.2.2.1.2, d.2.2.2.2.2)) ∧ ∀ (r : (Int × List EnG) × Bool), (unD cacheG r.1, unD Ty.bool r.2) = storeF (d.1.1, unL (Ty.st (Ty.pr (Ty.gs false byT) (Ty.st
  (Ty.pr (Ty.int IntKind.i64) (Ty.pr (Ty.gs false (Ty.int IntKind.i64)) (Ty.gs false (Ty.int IntKind.i64))))))) xs') d.2.1.2 (d.2.2.1, d.2.2.2.1.2, d.2.2.2.2.2) → List.Nodup (ids cacheG r.1 ++ ids Ty.bool r.2) → Ty.wf
  cacheG r.1 ∧ Ty.wf Ty.bool r.2 → (Apart (ids cacheG r.1 ++ ids Ty.bool r.2) (ids (Ty.gs false enN) d.1.2) ∧ (Apart (ids cacheG r.1 ++ ids Ty.bool r.2) (ids (Ty.gs false i64T) d.2.2.2.1) ∧ Apart (ids cacheG r.1 ++ ids
  Ty.bool r.2) (ids (Ty.gs false i64T) d.2.2.2.2)) ∧ Apart (ids cacheG r.1 ++ ids Ty.bool r.2) (idsL enN x.1) ∧ Apart (ids cacheG r.1 ++ ids Ty.bool r.2) (idsL enG (markE x_1 (1 : Int))) ∧ Apart (ids cacheG r.1 ++ ids
  Ty.bool r.2) (idsL (Ty.st (Ty.pr (Ty.gs false byT) (Ty.st (Ty.pr (Ty.int IntKind.i64) (Ty.pr (Ty.gs false (Ty.int IntKind.i64)) (Ty.gs false (Ty.int IntKind.i64))))))) xs')) ∧ Apart (ids cacheG r.1 ++ ids Ty.bool r.2)
  (ids (Ty.gs false enN) d.1.2) ∧ Apart (ids cacheG r.1 ++ ids Ty.bool r.2) (ids (Ty.gs false byT) d.2.1) ∧ (Apart (ids cacheG r.1 ++ ids Ty.bool r.2) (ids (Ty.gs false i64T) d.2.2.2.1) ∧ Apart (ids cacheG r.1 ++ ids
  Ty.bool r.2) (ids (Ty.gs false i64T) d.2.2.2.2)) ∧ Apart (ids cacheG r.1 ++ ids Ty.bool r.2) (ids (Ty.gs false enN) d.1.2) ∧ Apart (ids cacheG r.1 ++ ids Ty.bool r.2) (ids (Ty.gs false byT) d.2.1) ∧ Apart (ids cacheG
  r.1 ++ ids Ty.bool r.2) (ids (Ty.gs false i64T) d.2.2.2.1) ∧ Apart (ids cacheG r.1 ++ ids Ty.bool r.2) (ids (Ty.gs false i64T) d.2.2.2.2) → ∃ (x' : List EnG), List.map unE x' = Prod.snd (Prod.fst (storeF (unC d.1)
  d.2.1.2 (unRA d.2.2))) ∧ ((d.1.1 = d.1.1 ∧ d.1.2.1 = d.1.2.1 ∧ d.1.2.2 = d.1.2.2) ∧ (d.2.1.1 = d.2.1.1 ∧ d.2.1.2 = d.2.1.2) ∧ (d.2.2.1 = d.2.2.1 ∧ (d.2.2.2.1.1 = d.2.2.2.1.1 ∧ d.2.2.2.1.2 = d.2.2.2.1.2) ∧ d.2.2.2.2.1 =
  d.2.2.2.2.1 ∧ d.2.2.2.2.2 = d.2.2.2.2.2) ∧ szRsF (d.2.2.1, d.2.2.2.1.2, d.2.2.2.2.2) (szCaF (d.1.1, unL enN d.1.2.2) (1048576 : Int)) = szRsF (d.2.2.1, d.2.2.2.1.2, d.2.2.2.2.2) (szCaF (d.1.1, unL enN d.1.2.2) (1048576
  : Int)) ∧ Prod.snd (storeF (d.1.1, unL enN d.1.2.2) d.2.1.2 (d.2.2.1, d.2.2.2.1.2, d.2.2.2.2.2)) = Prod.snd (storeF (d.1.1, unL enN d.1.2.2) d.2.1.2 (d.2.2.1, d.2.2.2.1.2, d.2.2.2.2.2)) ∧ Prod.snd (storeF (unC d.1)
  d.2.1.2 (unRA d.2.2)) = Prod.snd (storeF (unC d.1) d.2.1.2 (unRA d.2.2)) ∧ endE x_1 (1 : Int) = endE x_1 (1 : Int) ∧ r.2 = Prod.snd (storeF (unC d.1) d.2.1.2 (unRA d.2.2)) ∧ r.1.1 = Prod.fst (Prod.fst (storeF (unC d.1)
  d.2.1.2 (unRA d.2.2)))) ∧ (d.1.1 = d.1.1 ∧ d.1.2.1 = d.1.2.1 ∧ d.1.2.2 = d.1.2.2) ∧ (d.2.2.1 = d.2.2.1 ∧ (d.2.2.2.1.1 = d.2.2.2.1.1 ∧ d.2.2.2.1.2 = d.2.2.2.1.2) ∧ d.2.2.2.2.1 = d.2.2.2.2.1 ∧ d.2.2.2.2.2 = d.2.2.2.2.2)
  ∧ x.1 = x.1 ∧ Prod.fst (Prod.fst (storeF (unC d.1) d.2.1.2 (unRA d.2.2))) = Prod.fst (Prod.fst (storeF (unC d.1) d.2.1.2 (unRA d.2.2))) ∧ markE x_1 (1 : Int) = markE x_1 (1 : Int) ∧ Prod.fst (Prod.fst (storeF (unC d.1)
  d.2.1.2 (unRA d.2.2))) = Prod.fst (Prod.fst (storeF (unC d.1) d.2.1.2 (unRA d.2.2))) ∧ r.1.2 = x' ∧ r.1.1 = Prod.fst (Prod.fst (storeF (unC d.1) d.2.1.2 (unRA d.2.2))))))) ∧ (((EnsP (unL enN d.1.2.2) ∧ (Ty.wf cacheT
  (d.1.1, unL enN d.1.2.2) → (List.length d.2.1.2 ≤ (1048576 : Nat) ∧ (Ty.wf bytesT d.2.1.2 → (RsP (d.2.2.1, d.2.2.2.1.2, d.2.2.2.2.2) ∧ (Ty.wf resT (d.2.2.1, d.2.2.2.1.2, d.2.2.2.2.2) → (∀ (xs' : List EnG), unL (Ty.st
  (Ty.pr (Ty.gs false byT) (Ty.st (Ty.pr (Ty.int IntKind.i64) (Ty.pr (Ty.gs false (Ty.int IntKind.i64)) (Ty.gs false (Ty.int IntKind.i64))))))) xs' = unL enN d.1.2.2 → (EnsP (unL (Ty.st (Ty.pr (Ty.gs false byT) (Ty.st
  (Ty.pr (Ty.int IntKind.i64) (Ty.pr (Ty.gs false (Ty.int IntKind.i64)) (Ty.gs false (Ty.int IntKind.i64))))))) xs') ∧ List.length d.2.1.2 ≤ (1048576 : Nat) ∧ RsP (d.2.2.1, d.2.2.2.1.2, d.2.2.2.2.2)) ∧ ∀ (r : (Int × List
  EnG) × Bool), (unD cacheG r.1, unD Ty.bool r.2) = storeF (d.1.1, unL (Ty.st (Ty.pr (Ty.gs false byT) (Ty.st (Ty.pr (Ty.int IntKind.i64) (Ty.pr (Ty.gs false (Ty.int IntKind.i64)) (Ty.gs false (Ty.int IntKind.i64)))))))
  xs') d.2.1.2 (d.2.2.1, d.2.2.2.1.2, d.2.2.2.2.2) → List.Nodup (ids cacheG r.1 ++ ids Ty.bool r.2) → Ty.wf cacheG r.1 ∧ Ty.wf Ty.bool r.2 → (Apart (ids cacheG r.1 ++ ids Ty.bool r.2) (ids (Ty.gs false enN) d.1.2) ∧
  (Apart (ids cacheG r.1 ++ ids Ty.bool r.2) (ids (Ty.gs false i64T) d.2.2.2.1) ∧ Apart (ids cacheG r.1 ++ ids Ty.bool r.2) (ids (Ty.gs false i64T) d.2.2.2.2)) ∧ Apart (ids cacheG r.1 ++ ids Ty.bool r.2) (idsL enN x.1) ∧
  Apart (ids cacheG r.1 ++ ids Ty.bool r.2) (idsL enG (markE x_1 (1 : Int))) ∧ Apart (ids cacheG r.1 ++ ids Ty.bool r.2) (idsL (Ty.st (Ty.pr (Ty.gs false byT) (Ty.st (Ty.pr (Ty.int IntKind.i64) (Ty.pr (Ty.gs false
  (Ty.int IntKind.i64)) (Ty.gs false (Ty.int IntKind.i64))))))) xs')) ∧ Apart (ids cacheG r.1 ++ ids Ty.bool r.2) (ids (Ty.gs false enN) d.1.2) ∧ Apart (ids cacheG r.1 ++ ids Ty.bool r.2) (ids (Ty.gs false byT) d.2.1) ∧
  (Apart (ids cacheG r.1 ++ ids Ty.bool r.2) (ids (Ty.gs false i64T) d.2.2.2.1) ∧ Apart (ids cacheG r.1 ++ ids Ty.bool r.2) (ids (Ty.gs false i64T) d.2.2.2.2)) ∧ Apart (ids cacheG r.1 ++ ids Ty.bool r.2) (ids (Ty.gs
  false enN) d.1.2) ∧ Apart (ids cacheG r.1 ++ ids Ty.bool r.2) (ids (Ty.gs false byT) d.2.1) ∧ Apart (ids cacheG r.1 ++ ids Ty.bool r.2) (ids (Ty.gs false i64T) d.2.2.2.1) ∧ Apart (ids cacheG r.1 ++ ids Ty.bool r.2)
  (ids (Ty.gs false i64T) d.2.2.2.2) → ∃ (x' : List EnG), List.map unE x' = Prod.snd (Prod.fst (storeF (unC d.1) d.2.1.2 (unRA d.2.2))) ∧ ((d.1.1 = d.1.1 ∧ d.1.2.1 = d.1.2.1 ∧ d.1.2.2 = d.1.2.2) ∧ (d.2.1.1 = d.2.1.1 ∧
  d.2.1.2 = d.2.1.2) ∧ (d.2.2.1 = d.2.2.1 ∧ (d.2.2.2.1.1 = d.2.2.2.1.1 ∧ d.2.2.2.1.2 = d.2.2.2.1.2) ∧ d.2.2.2.2.1 = d.2.2.2.2.1 ∧ d.2.2.2.2.2 = d.2.2.2.2.2) ∧ szRsF (d.2.2.1, d.2.2.2.1.2, d.2.2.2.2.2) (szCaF (d.1.1, unL
  enN d.1.2.2) (1048576 : Int)) = szRsF (d.2.2.1, d.2.2.2.1.2, d.2.2.2.2.2) (szCaF (d.1.1, unL enN d.1.2.2) (1048576 : Int)) ∧ Prod.snd (storeF (d.1.1, unL enN d.1.2.2) d.2.1.2 (d.2.2.1, d.2.2.2.1.2, d.2.2.2.2.2)) =
  Prod.snd (storeF (d.1.1, unL enN d.1.2.2) d.2.1.2 (d.2.2.1, d.2.2.2.1.2, d.2.2.2.2.2)) ∧ Prod.snd (storeF (unC d.1) d.2.1.2 (unRA d.2.2)) = Prod.snd (storeF (unC d.1) d.2.1.2 (unRA d.2.2)) ∧ endE x_1 (1 : Int) = endE
  x_1 (1 : Int) ∧ r.2 = Prod.snd (storeF (unC d.1) d.2.1.2 (unRA d.2.2)) ∧ r.1.1 = Prod.fst (Prod.fst (storeF (unC d.1) d.2.1.2 (unRA d.2.2)))) ∧ (d.1.1 = d.1.1 ∧ d.1.2.1 = d.1.2.1 ∧ d.1.2.2 = d.1.2.2) ∧ (d.2.2.1 =
  d.2.2.1 ∧ (d.2.2.2.1.1 = d.2.2.2.1.1 ∧ d.2.2.2.1.2 = d.2.2.2.1.2) ∧ d.2.2.2.2.1 = d.2.2.2.2.1 ∧ d.2.2.2.2.2 = d.2.2.2.2.2) ∧ x.1 = x.1 ∧ Prod.fst (Prod.fst (storeF (unC d.1) d.2.1.2 (unRA d.2.2))) = Prod.fst (Prod.fst
  (storeF (unC d.1) d.2.1.2 (unRA d.2.2))) ∧ markE x_1 (1 : Int) = markE x_1 (1 : Int) ∧ Prod.fst (Prod.fst (storeF (unC d.1) d.2.1.2 (unRA d.2.2))) = Prod.fst (Prod.fst (storeF (unC d.1) d.2.1.2 (unRA d.2.2))) ∧ r.1.2 =
  x' ∧ r.1.1 = Prod.fst (Prod.fst (storeF (unC d.1) d.2.1.2 (unRA d.2.2)))) ∧ ∀ (xs' : List EnG), unL (Ty.st (Ty.pr (Ty.gs false byT) (Ty.st (Ty.pr (Ty.int IntKind.i64) (Ty.pr (Ty.gs false (Ty.int IntKind.i64)) (Ty.gs
  false (Ty.int IntKind.i64))))))) xs' = unL enN d.1.2.2 → (EnsP (unL (Ty.st (Ty.pr (Ty.gs false byT) (Ty.st (Ty.pr (Ty.int IntKind.i64) (Ty.pr (Ty.gs false (Ty.int IntKind.i64)) (Ty.gs false (Ty.int IntKind.i64)))))))
  xs') ∧ List.length d.2.1.2 ≤ (1048576 : Nat) ∧ RsP (d.2.2.1, d.2.2.2.1.2, d.2.2.2.2.2)) ∧ ∀ (r : (Int × List EnG) × Bool), (unD cacheG r.1, unD Ty.bool r.2) = storeF (d.1.1, unL (Ty.st (Ty.pr (Ty.gs false byT) (Ty.st
  (Ty.pr (Ty.int IntKind.i64) (Ty.pr (Ty.gs false (Ty.int IntKind.i64)) (Ty.gs false (Ty.int IntKind.i64))))))) xs') d.2.1.2 (d.2.2.1, d.2.2.2.1.2, d.2.2.2.2.2) → List.Nodup (ids cacheG r.1 ++ ids Ty.bool r.2) → Ty.wf
  cacheG r.1 ∧ Ty.wf Ty.bool r.2 → (Apart (ids cacheG r.1 ++ ids Ty.bool r.2) (ids (Ty.gs false enN) d.1.2) ∧ (Apart (ids cacheG r.1 ++ ids Ty.bool r.2) (ids (Ty.gs false i64T) d.2.2.2.1) ∧ Apart (ids cacheG r.1 ++ ids
  Ty.bool r.2) (ids (Ty.gs false i64T) d.2.2.2.2)) ∧ Apart (ids cacheG r.1 ++ ids Ty.bool r.2) (idsL enN x.1) ∧ Apart (ids cacheG r.1 ++ ids Ty.bool r.2) (idsL enG (markE x_1 (1 : Int))) ∧ Apart (ids cacheG r.1 ++ ids
  Ty.bool r.2) (idsL (Ty.st (Ty.pr (Ty.gs false byT) (Ty.st (Ty.pr (Ty.int IntKind.i64) (Ty.pr (Ty.gs false (Ty.int IntKind.i64)) (Ty.gs false (Ty.int IntKind.i64))))))) xs')) ∧ Apart (ids cacheG r.1 ++ ids Ty.bool r.2)
  (ids (Ty.gs false enN) d.1.2) ∧ Apart (ids cacheG r.1 ++ ids Ty.bool r.2) (ids (Ty.gs false byT) d.2.1) ∧ (Apart (ids cacheG r.1 ++ ids Ty.bool r.2) (ids (Ty.gs false i64T) d.2.2.2.1) ∧ Apart (ids cacheG r.1 ++ ids
  Ty.bool r.2) (ids (Ty.gs false i64T) d.2.2.2.2)) ∧ Apart (ids cacheG r.1 ++ ids Ty.bool r.2) (ids (Ty.gs false enN) d.1.2) ∧ Apart (ids cacheG r.1 ++ ids Ty.bool r.2) (ids (Ty.gs false byT) d.2.1) ∧ Apart (ids cacheG
  r.1 ++ ids Ty.bool r.2) (ids (Ty.gs false i64T) d.2.2.2.1) ∧ Apart (ids cacheG r.1 ++ ids Ty.bool r.2) (ids (Ty.gs false i64T) d.2.2.2.2) → ∃ (x' : List EnG), List.map unE x' = Prod.snd (Prod.fst (storeF (unC d.1)
  d.2.1.2 (unRA d.2.2))) ∧ ((d.1.1 = d.1.1 ∧ d.1.2.1 = d.1.2.1 ∧ d.1.2.2 = d.1.2.2) ∧ (d.2.1.1 = d.2.1.1 ∧ d.2.1.2 = d.2.1.2) ∧ (d.2.2.1 = d.2.2.1 ∧ (d.2.2.2.1.1 = d.2.2.2.1.1 ∧ d.2.2.2.1.2 = d.2.2.2.1.2) ∧ d.2.2.2.2.1 =
  d.2.2.2.2.1 ∧ d.2.2.2.2.2 = d.2.2.2.2.2) ∧ szRsF (d.2.2.1, d.2.2.2.1.2, d.2.2.2.2.2) (szCaF (d.1.1, unL enN d.1.2.2) (1048576 : Int)) = szRsF (d.2.2.1, d.2.2.2.1.2, d.2.2.2.2.2) (szCaF (d.1.1, unL enN d.1.2.2) (1048576
  : Int)) ∧ Prod.snd (storeF (d.1.1, unL enN d.1.2.2) d.2.1.2 (d.2.2.1, d.2.2.2.1.2, d.2.2.2.2.2)) = Prod.snd (storeF (d.1.1, unL enN d.1.2.2) d.2.1.2 (d.2.2.1, d.2.2.2.1.2, d.2.2.2.2.2)) ∧ Prod.snd (storeF (unC d.1)
  d.2.1.2 (unRA d.2.2)) = Prod.snd (storeF (unC d.1) d.2.1.2 (unRA d.2.2)) ∧ endE x_1 (1 : Int) = endE x_1 (1 : Int) ∧ r.2 = Prod.snd (storeF (unC d.1) d.2.1.2 (unRA d.2.2)) ∧ r.1.1 = Prod.fst (Prod.fst (storeF (unC d.1)
  d.2.1.2 (unRA d.2.2)))) ∧ (d.1.1 = d.1.1 ∧ d.1.2.1 = d.1.2.1 ∧ d.1.2.2 = d.1.2.2) ∧ (d.2.2.1 = d.2.2.1 ∧ (d.2.2.2.1.1 = d.2.2.2.1.1 ∧ d.2.2.2.1.2 = d.2.2.2.1.2) ∧ d.2.2.2.2.1 = d.2.2.2.2.1 ∧ d.2.2.2.2.2 = d.2.2.2.2.2)
  ∧ x.1 = x.1 ∧ Prod.fst (Prod.fst (storeF (unC d.1) d.2.1.2 (unRA d.2.2))) = Prod.fst (Prod.fst (storeF (unC d.1) d.2.1.2 (unRA d.2.2))) ∧ markE x_1 (1 : Int) = markE x_1 (1 : Int) ∧ Prod.fst (Prod.fst (storeF (unC d.1)
  d.2.1.2 (unRA d.2.2))) = Prod.fst (Prod.fst (storeF (unC d.1) d.2.1.2 (unRA d.2.2))) ∧ r.1.2 = x' ∧ r.1.1 = Prod.fst (Prod.fst (storeF (unC d.1) d.2.1.2 (unRA d.2.2))))) ∧ RsP (d.2.2.1, d.2.2.2.1.2, d.2.2.2.2.2) ∧
  (Ty.wf resT (d.2.2.1, d.2.2.2.1.2, d.2.2.2.2.2) → ∀ (xs' : List EnG), unL (Ty.st (Ty.pr (Ty.gs false byT) (Ty.st (Ty.pr (Ty.int IntKind.i64) (Ty.pr (Ty.gs false (Ty.int IntKind.i64)) (Ty.gs false (Ty.int
  IntKind.i64))))))) xs' = unL enN d.1.2.2 → (EnsP (unL (Ty.st (Ty.pr (Ty.gs false byT) (Ty.st (Ty.pr (Ty.int IntKind.i64) (Ty.pr (Ty.gs false (Ty.int IntKind.i64)) (Ty.gs false (Ty.int IntKind.i64))))))) xs') ∧
  List.length d.2.1.2 ≤ (1048576 : Nat) ∧ RsP (d.2.2.1, d.2.2.2.1.2, d.2.2.2.2.2)) ∧ ∀ (r : (Int × List EnG) × Bool), (unD cacheG r.1, unD Ty.bool r.2) = storeF (d.1.1, unL (Ty.st (Ty.pr (Ty.gs false byT) (Ty.st (Ty.pr
  (Ty.int IntKind.i64) (Ty.pr (Ty.gs false (Ty.int IntKind.i64)) (Ty.gs false (Ty.int IntKind.i64))))))) xs') d.2.1.2 (d.2.2.1, d.2.2.2.1.2, d.2.2.2.2.2) → List.Nodup (ids cacheG r.1 ++ ids Ty.bool r.2) → Ty.wf cacheG
  r.1 ∧ Ty.wf Ty.bool r.2 → (Apart (ids cacheG r.1 ++ ids Ty.bool r.2) (ids (Ty.gs false enN) d.1.2) ∧ (Apart (ids cacheG r.1 ++ ids Ty.bool r.2) (ids (Ty.gs false i64T) d.2.2.2.1) ∧ Apart (ids cacheG r.1 ++ ids Ty.bool
  r.2) (ids (Ty.gs false i64T) d.2.2.2.2)) ∧ Apart (ids cacheG r.1 ++ ids Ty.bool r.2) (idsL enN x.1) ∧ Apart (ids cacheG r.1 ++ ids Ty.bool r.2) (idsL enG (markE x_1 (1 : Int))) ∧ Apart (ids cacheG r.1 ++ ids Ty.bool
  r.2) (idsL (Ty.st (Ty.pr (Ty.gs false byT) (Ty.st (Ty.pr (Ty.int IntKind.i64) (Ty.pr (Ty.gs false (Ty.int IntKind.i64)) (Ty.gs false (Ty.int IntKind.i64))))))) xs')) ∧ Apart (ids cacheG r.1 ++ ids Ty.bool r.2) (ids
  (Ty.gs false enN) d.1.2) ∧ Apart (ids cacheG r.1 ++ ids Ty.bool r.2) (ids (Ty.gs false byT) d.2.1) ∧ (Apart (ids cacheG r.1 ++ ids Ty.bool r.2) (ids (Ty.gs false i64T) d.2.2.2.1) ∧ Apart (ids cacheG r.1 ++ ids Ty.bool
  r.2) (ids (Ty.gs false i64T) d.2.2.2.2)) ∧ Apart (ids cacheG r.1 ++ ids Ty.bool r.2) (ids (Ty.gs false enN) d.1.2) ∧ Apart (ids cacheG r.1 ++ ids Ty.bool r.2) (ids (Ty.gs false byT) d.2.1) ∧ Apart (ids cacheG r.1 ++
  ids Ty.bool r.2) (ids (Ty.gs false i64T) d.2.2.2.1) ∧ Apart (ids cacheG r.1 ++ ids Ty.bool r.2) (ids (Ty.gs false i64T) d.2.2.2.2) → ∃ (x' : List EnG), List.map unE x' = Prod.snd (Prod.fst (storeF (unC d.1) d.2.1.2
  (unRA d.2.2))) ∧ ((d.1.1 = d.1.1 ∧ d.1.2.1 = d.1.2.1 ∧ d.1.2.2 = d.1.2.2) ∧ (d.2.1.1 = d.2.1.1 ∧ d.2.1.2 = d.2.1.2) ∧ (d.2.2.1 = d.2.2.1 ∧ (d.2.2.2.1.1 = d.2.2.2.1.1 ∧ d.2.2.2.1.2 = d.2.2.2.1.2) ∧ d.2.2.2.2.1 =
  d.2.2.2.2.1 ∧ d.2.2.2.2.2 = d.2.2.2.2.2) ∧ szRsF (d.2.2.1, d.2.2.2.1.2, d.2.2.2.2.2) (szCaF (d.1.1, unL enN d.1.2.2) (1048576 : Int)) = szRsF (d.2.2.1, d.2.2.2.1.2, d.2.2.2.2.2) (szCaF (d.1.1, unL enN d.1.2.2) (1048576
  : Int)) ∧ Prod.snd (storeF (d.1.1, unL enN d.1.2.2) d.2.1.2 (d.2.2.1, d.2.2.2.1.2, d.2.2.2.2.2)) = Prod.snd (storeF (d.1.1, unL enN d.1.2.2) d.2.1.2 (d.2.2.1, d.2.2.2.1.2, d.2.2.2.2.2)) ∧ Prod.snd (storeF (unC d.1)
  d.2.1.2 (unRA d.2.2)) = Prod.snd (storeF (unC d.1) d.2.1.2 (unRA d.2.2)) ∧ endE x_1 (1 : Int) = endE x_1 (1 : Int) ∧ r.2 = Prod.snd (storeF (unC d.1) d.2.1.2 (unRA d.2.2)) ∧ r.1.1 = Prod.fst (Prod.fst (storeF (unC d.1)
  d.2.1.2 (unRA d.2.2)))) ∧ (d.1.1 = d.1.1 ∧ d.1.2.1 = d.1.2.1 ∧ d.1.2.2 = d.1.2.2) ∧ (d.2.2.1 = d.2.2.1 ∧ (d.2.2.2.1.1 = d.2.2.2.1.1 ∧ d.2.2.2.1.2 = d.2.2.2.1.2) ∧ d.2.2.2.2.1 = d.2.2.2.2.1 ∧ d.2.2.2.2.2 = d.2.2.2.2.2)
  ∧ x.1 = x.1 ∧ Prod.fst (Prod.fst (storeF (unC d.1) d.2.1.2 (unRA d.2.2))) = Prod.fst (Prod.fst (storeF (unC d.1) d.2.1.2 (unRA d.2.2))) ∧ markE x_1 (1 : Int) = markE x_1 (1 : Int) ∧ Prod.fst (Prod.fst (storeF (unC d.1)
  d.2.1.2 (unRA d.2.2))) = Prod.fst (Prod.fst (storeF (unC d.1) d.2.1.2 (unRA d.2.2))) ∧ r.1.2 = x' ∧ r.1.1 = Prod.fst (Prod.fst (storeF (unC d.1) d.2.1.2 (unRA d.2.2)))))) ∧ List.length d.2.1.2 ≤ (1048576 : Nat) ∧
  (Ty.wf bytesT d.2.1.2 → RsP (d.2.2.1, d.2.2.2.1.2, d.2.2.2.2.2) ∧ (Ty.wf resT (d.2.2.1, d.2.2.2.1.2, d.2.2.2.2.2) → ∀ (xs' : List EnG), unL (Ty.st (Ty.pr (Ty.gs false byT) (Ty.st (Ty.pr (Ty.int IntKind.i64) (Ty.pr
  (Ty.gs false (Ty.int IntKind.i64)) (Ty.gs false (Ty.int IntKind.i64))))))) xs' = unL enN d.1.2.2 → (EnsP (unL (Ty.st (Ty.pr (Ty.gs false byT) (Ty.st (Ty.pr (Ty.int IntKind.i64) (Ty.pr (Ty.gs false (Ty.int IntKind.i64))
  (Ty.gs false (Ty.int IntKind.i64))))))) xs') ∧ List.length d.2.1.2 ≤ (1048576 : Nat) ∧ RsP (d.2.2.1, d.2.2.2.1.2, d.2.2.2.2.2)) ∧ ∀ (r : (Int × List EnG) × Bool), (unD cacheG r.1, unD Ty.bool r.2) = storeF (d.1.1, unL
  (Ty.st (Ty.pr (Ty.gs false byT) (Ty.st (Ty.pr (Ty.int IntKind.i64) (Ty.pr (Ty.gs false (Ty.int IntKind.i64)) (Ty.gs false (Ty.int IntKind.i64))))))) xs') d.2.1.2 (d.2.2.1, d.2.2.2.1.2, d.2.2.2.2.2) → List.Nodup (ids
  cacheG r.1 ++ ids Ty.bool r.2) → Ty.wf cacheG r.1 ∧ Ty.wf Ty.bool r.2 → (Apart (ids cacheG r.1 ++ ids Ty.bool r.2) (ids (Ty.gs false enN) d.1.2) ∧ (Apart (ids cacheG r.1 ++ ids Ty.bool r.2) (ids (Ty.gs false i64T)
  d.2.2.2.1) ∧ Apart (ids cacheG r.1 ++ ids Ty.bool r.2) (ids (Ty.gs false i64T) d.2.2.2.2)) ∧ Apart (ids cacheG r.1 ++ ids Ty.bool r.2) (idsL enN x.1) ∧ Apart (ids cacheG r.1 ++ ids Ty.bool r.2) (idsL enG (markE x_1 (1
  : Int))) ∧ Apart (ids cacheG r.1 ++ ids Ty.bool r.2) (idsL (Ty.st (Ty.pr (Ty.gs false byT) (Ty.st (Ty.pr (Ty.int IntKind.i64) (Ty.pr (Ty.gs false (Ty.int IntKind.i64)) (Ty.gs false (Ty.int IntKind.i64))))))) xs')) ∧
  Apart (ids cacheG r.1 ++ ids Ty.bool r.2) (ids (Ty.gs false enN) d.1.2) ∧ Apart (ids cacheG r.1 ++ ids Ty.bool r.2) (ids (Ty.gs false byT) d.2.1) ∧ (Apart (ids cacheG r.1 ++ ids Ty.bool r.2) (ids (Ty.gs false i64T)
  d.2.2.2.1) ∧ Apart (ids cacheG r.1 ++ ids Ty.bool r.2) (ids (Ty.gs false i64T) d.2.2.2.2)) ∧ Apart (ids cacheG r.1 ++ ids Ty.bool r.2) (ids (Ty.gs false enN) d.1.2) ∧ Apart (ids cacheG r.1 ++ ids Ty.bool r.2) (ids
  (Ty.gs false byT) d.2.1) ∧ Apart (ids cacheG r.1 ++ ids Ty.bool r.2) (ids (Ty.gs false i64T) d.2.2.2.1) ∧ Apart (ids cacheG r.1 ++ ids Ty.bool r.2) (ids (Ty.gs false i64T) d.2.2.2.2) → ∃ (x' : List EnG), List.map unE
  x' = Prod.snd (Prod.fst (storeF (unC d.1) d.2.1.2 (unRA d.2.2))) ∧ ((d.1.1 = d.1.1 ∧ d.1.2.1 = d.1.2.1 ∧ d.1.2.2 = d.1.2.2) ∧ (d.2.1.1 = d.2.1.1 ∧ d.2.1.2 = d.2.1.2) ∧ (d.2.2.1 = d.2.2.1 ∧ (d.2.2.2.1.1 = d.2.2.2.1.1 ∧
  d.2.2.2.1.2 = d.2.2.2.1.2) ∧ d.2.2.2.2.1 = d.2.2.2.2.1 ∧ d.2.2.2.2.2 = d.2.2.2.2.2) ∧ szRsF (d.2.2.1, d.2.2.2.1.2, d.2.2.2.2.2) (szCaF (d.1.1, unL enN d.1.2.2) (1048576 : Int)) = szRsF (d.2.2.1, d.2.2.2.1.2,
  d.2.2.2.2.2) (szCaF (d.1.1, unL enN d.1.2.2) (1048576 : Int)) ∧ Prod.snd (storeF (d.1.1, unL enN d.1.2.2) d.2.1.2 (d.2.2.1, d.2.2.2.1.2, d.2.2.2.2.2)) = Prod.snd (storeF (d.1.1, unL enN d.1.2.2) d.2.1.2 (d.2.2.1,
  d.2.2.2.1.2, d.2.2.2.2.2)) ∧ Prod.snd (storeF (unC d.1) d.2.1.2 (unRA d.2.2)) = Prod.snd (storeF (unC d.1) d.2.1.2 (unRA d.2.2)) ∧ endE x_1 (1 : Int) = endE x_1 (1 : Int) ∧ r.2 = Prod.snd (storeF (unC d.1) d.2.1.2
  (unRA d.2.2)) ∧ r.1.1 = Prod.fst (Prod.fst (storeF (unC d.1) d.2.1.2 (unRA d.2.2)))) ∧ (d.1.1 = d.1.1 ∧ d.1.2.1 = d.1.2.1 ∧ d.1.2.2 = d.1.2.2) ∧ (d.2.2.1 = d.2.2.1 ∧ (d.2.2.2.1.1 = d.2.2.2.1.1 ∧ d.2.2.2.1.2 =
  d.2.2.2.1.2) ∧ d.2.2.2.2.1 = d.2.2.2.2.1 ∧ d.2.2.2.2.2 = d.2.2.2.2.2) ∧ x.1 = x.1 ∧ Prod.fst (Prod.fst (storeF (unC d.1) d.2.1.2 (unRA d.2.2))) = Prod.fst (Prod.fst (storeF (unC d.1) d.2.1.2 (unRA d.2.2))) ∧ markE x_1
  (1 : Int) = markE x_1 (1 : Int) ∧ Prod.fst (Prod.fst (storeF (unC d.1) d.2.1.2 (unRA d.2.2))) = Prod.fst (Prod.fst (storeF (unC d.1) d.2.1.2 (unRA d.2.2))) ∧ r.1.2 = x' ∧ r.1.1 = Prod.fst (Prod.fst (storeF (unC d.1)
  d.2.1.2 (unRA d.2.2))))))) ∧ EnsP (unL enN d.1.2.2) ∧ (Ty.wf cacheT (d.1.1, unL enN d.1.2.2) → List.length d.2.1.2 ≤ (1048576 : Nat) ∧ (Ty.wf bytesT d.2.1.2 → RsP (d.2.2.1, d.2.2.2.1.2, d.2.2.2.2.2) ∧ (Ty.wf resT
  (d.2.2.1, d.2.2.2.1.2, d.2.2.2.2.2) → ∀ (xs' : List EnG), unL (Ty.st (Ty.pr (Ty.gs false byT) (Ty.st (Ty.pr (Ty.int IntKind.i64) (Ty.pr (Ty.gs false (Ty.int IntKind.i64)) (Ty.gs false (Ty.int IntKind.i64))))))) xs' =
  unL enN d.1.2.2 → (EnsP (unL (Ty.st (Ty.pr (Ty.gs false byT) (Ty.st (Ty.pr (Ty.int IntKind.i64) (Ty.pr (Ty.gs false (Ty.int IntKind.i64)) (Ty.gs false (Ty.int IntKind.i64))))))) xs') ∧ List.length d.2.1.2 ≤ (1048576 :
  Nat) ∧ RsP (d.2.2.1, d.2.2.2.1.2, d.2.2.2.2.2)) ∧ ∀ (r : (Int × List EnG) × Bool), (unD cacheG r.1, unD Ty.bool r.2) = storeF (d.1.1, unL (Ty.st (Ty.pr (Ty.gs false byT) (Ty.st (Ty.pr (Ty.int IntKind.i64) (Ty.pr (Ty.gs
  false (Ty.int IntKind.i64)) (Ty.gs false (Ty.int IntKind.i64))))))) xs') d.2.1.2 (d.2.2.1, d.2.2.2.1.2, d.2.2.2.2.2) → List.Nodup (ids cacheG r.1 ++ ids Ty.bool r.2) → Ty.wf cacheG r.1 ∧ Ty.wf Ty.bool r.2 → (Apart (ids
  cacheG r.1 ++ ids Ty.bool r.2) (ids (Ty.gs false enN) d.1.2) ∧ (Apart (ids cacheG r.1 ++ ids Ty.bool r.2) (ids (Ty.gs false i64T) d.2.2.2.1) ∧ Apart (ids cacheG r.1 ++ ids Ty.bool r.2) (ids (Ty.gs false i64T)
  d.2.2.2.2)) ∧ Apart (ids cacheG r.1 ++ ids Ty.bool r.2) (idsL enN x.1) ∧ Apart (ids cacheG r.1 ++ ids Ty.bool r.2) (idsL enG (markE x_1 (1 : Int))) ∧ Apart (ids cacheG r.1 ++ ids Ty.bool r.2) (idsL (Ty.st (Ty.pr (Ty.gs
  false byT) (Ty.st (Ty.pr (Ty.int IntKind.i64) (Ty.pr (Ty.gs false (Ty.int IntKind.i64)) (Ty.gs false (Ty.int IntKind.i64))))))) xs')) ∧ Apart (ids cacheG r.1 ++ ids Ty.bool r.2) (ids (Ty.gs false enN) d.1.2) ∧ Apart
  (ids cacheG r.1 ++ ids Ty.bool r.2) (ids (Ty.gs false byT) d.2.1) ∧ (Apart (ids cacheG r.1 ++ ids Ty.bool r.2) (ids (Ty.gs false i64T) d.2.2.2.1) ∧ Apart (ids cacheG r.1 ++ ids Ty.bool r.2) (ids (Ty.gs false i64T)
  d.2.2.2.2)) ∧ Apart (ids cacheG r.1 ++ ids Ty.bool r.2) (ids (Ty.gs false enN) d.1.2) ∧ Apart (ids cacheG r.1 ++ ids Ty.bool r.2) (ids (Ty.gs false byT) d.2.1) ∧ Apart (ids cacheG r.1 ++ ids Ty.bool r.2) (ids (Ty.gs
  false i64T) d.2.2.2.1) ∧ Apart (ids cacheG r.1 ++ ids Ty.bool r.2) (ids (Ty.gs false i64T) d.2.2.2.2) → ∃ (x' : List EnG), List.map unE x' = Prod.snd (Prod.fst (storeF (unC d.1) d.2.1.2 (unRA d.2.2))) ∧ ((d.1.1 = d.1.1
  ∧ d.1.2.1 = d.1.2.1 ∧ d.1.2.2 = d.1.2.2) ∧ (d.2.1.1 = d.2.1.1 ∧ d.2.1.2 = d.2.1.2) ∧ (d.2.2.1 = d.2.2.1 ∧ (d.2.2.2.1.1 = d.2.2.2.1.1 ∧ d.2.2.2.1.2 = d.2.2.2.1.2) ∧ d.2.2.2.2.1 = d.2.2.2.2.1 ∧ d.2.2.2.2.2 = d.2.2.2.2.2)
  ∧ szRsF (d.2.2.1, d.2.2.2.1.2, d.2.2.2.2.2) (szCaF (d.1.1, unL enN d.1.2.2) (1048576 : Int)) = szRsF (d.2.2.1, d.2.2.2.1.2, d.2.2.2.2.2) (szCaF (d.1.1, unL enN d.1.2.2) (1048576 : Int)) ∧ Prod.snd (storeF (d.1.1, unL
  enN d.1.2.2) d.2.1.2 (d.2.2.1, d.2.2.2.1.2, d.2.2.2.2.2)) = Prod.snd (storeF (d.1.1, unL enN d.1.2.2) d.2.1.2 (d.2.2.1, d.2.2.2.1.2, d.2.2.2.2.2)) ∧ Prod.snd (storeF (unC d.1) d.2.1.2 (unRA d.2.2)) = Prod.snd (storeF
  (unC d.1) d.2.1.2 (unRA d.2.2)) ∧ endE x_1 (1 : Int) = endE x_1 (1 : Int) ∧ r.2 = Prod.snd (storeF (unC d.1) d.2.1.2 (unRA d.2.2)) ∧ r.1.1 = Prod.fst (Prod.fst (storeF (unC d.1) d.2.1.2 (unRA d.2.2)))) ∧ (d.1.1 = d.1.1
  ∧ d.1.2.1 = d.1.2.1 ∧ d.1.2.2 = d.1.2.2) ∧ (d.2.2.1 = d.2.2.1 ∧ (d.2.2.2.1.1 = d.2.2.2.1.1 ∧ d.2.2.2.1.2 = d.2.2.2.1.2) ∧ d.2.2.2.2.1 = d.2.2.2.2.1 ∧ d.2.2.2.2.2 = d.2.2.2.2.2) ∧ x.1 = x.1 ∧ Prod.fst (Prod.fst (storeF
  (unC d.1) d.2.1.2 (unRA d.2.2))) = Prod.fst (Prod.fst (storeF (unC d.1) d.2.1.2 (unRA d.2.2))) ∧ markE x_1 (1 : Int) = markE x_1 (1 : Int) ∧ Prod.fst (Prod.fst (storeF (unC d.1) d.2.1.2 (unRA d.2.2))) = Prod.fst
  (Prod.fst (storeF (unC d.1) d.2.1.2 (unRA d.2.2))) ∧ r.1.2 = x' ∧ r.1.1 = Prod.fst (Prod.fst (storeF (unC d.1) d.2.1.2 (unRA d.2.2))))))) ∧ EnsP (unL enN d.1.2.2) ∧ (Ty.wf cacheT (d.1.1, unL enN d.1.2.2) → List.length
  d.2.1.2 ≤ (1048576 : Nat) ∧ (Ty.wf bytesT d.2.1.2 → RsP (d.2.2.1, d.2.2.2.1.2, d.2.2.2.2.2) ∧ (Ty.wf resT (d.2.2.1, d.2.2.2.1.2, d.2.2.2.2.2) → ∀ (xs' : List EnG), unL (Ty.st (Ty.pr (Ty.gs false byT) (Ty.st (Ty.pr
  (Ty.int IntKind.i64) (Ty.pr (Ty.gs false (Ty.int IntKind.i64)) (Ty.gs false (Ty.int IntKind.i64))))))) xs' = unL enN d.1.2.2 → (EnsP (unL (Ty.st (Ty.pr (Ty.gs false byT) (Ty.st (Ty.pr (Ty.int IntKind.i64) (Ty.pr (Ty.gs
  false (Ty.int IntKind.i64)) (Ty.gs false (Ty.int IntKind.i64))))))) xs') ∧ List.length d.2.1.2 ≤ (1048576 : Nat) ∧ RsP (d.2.2.1, d.2.2.2.1.2, d.2.2.2.2.2)) ∧ ∀ (r : (Int × List EnG) × Bool), (unD cacheG r.1, unD
  Ty.bool r.2) = storeF (d.1.1, unL (Ty.st (Ty.pr (Ty.gs false byT) (Ty.st (Ty.pr (Ty.int IntKind.i64) (Ty.pr (Ty.gs false (Ty.int IntKind.i64)) (Ty.gs false (Ty.int IntKind.i64))))))) xs') d.2.1.2 (d.2.2.1, d.2.2.2.1.2,
  d.2.2.2.2.2) → List.Nodup (ids cacheG r.1 ++ ids Ty.bool r.2) → Ty.wf cacheG r.1 ∧ Ty.wf Ty.bool r.2 → (Apart (ids cacheG r.1 ++ ids Ty.bool r.2) (ids (Ty.gs false enN) d.1.2) ∧ (Apart (ids cacheG r.1 ++ ids Ty.bool
  r.2) (ids (Ty.gs false i64T) d.2.2.2.1) ∧ Apart (ids cacheG r.1 ++ ids Ty.bool r.2) (ids (Ty.gs false i64T) d.2.2.2.2)) ∧ Apart (ids cacheG r.1 ++ ids Ty.bool r.2) (idsL enN x.1) ∧ Apart (ids cacheG r.1 ++ ids Ty.bool
  r.2) (idsL enG (markE x_1 (1 : Int))) ∧ Apart (ids cacheG r.1 ++ ids Ty.bool r.2) (idsL (Ty.st (Ty.pr (Ty.gs false byT) (Ty.st (Ty.pr (Ty.int IntKind.i64) (Ty.pr (Ty.gs false (Ty.int IntKind.i64)) (Ty.gs false (Ty.int
  IntKind.i64))))))) xs')) ∧ Apart (ids cacheG r.1 ++ ids Ty.bool r.2) (ids (Ty.gs false enN) d.1.2) ∧ Apart (ids cacheG r.1 ++ ids Ty.bool r.2) (ids (Ty.gs false byT) d.2.1) ∧ (Apart (ids cacheG r.1 ++ ids Ty.bool r.2)
  (ids (Ty.gs false i64T) d.2.2.2.1) ∧ Apart (ids cacheG r.1 ++ ids Ty.bool r.2) (ids (Ty.gs false i64T) d.2.2.2.2)) ∧ Apart (ids cacheG r.1 ++ ids Ty.bool r.2) (ids (Ty.gs false enN) d.1.2) ∧ Apart (ids cacheG r.1 ++
  ids Ty.bool r.2) (ids (Ty.gs false byT) d.2.1) ∧ Apart (ids cacheG r.1 ++ ids Ty.bool r.2) (ids (Ty.gs false i64T) d.2.2.2.1) ∧ Apart (ids cacheG r.1 ++ ids Ty.bool r.2) (ids (Ty.gs false i64T) d.2.2.2.2) → ∃ (x' :
  List EnG), List.map unE x' = Prod.snd (Prod.fst (storeF (unC d.1) d.2.1.2 (unRA d.2.2))) ∧ ((d.1.1 = d.1.1 ∧ d.1.2.1 = d.1.2.1 ∧ d.1.2.2 = d.1.2.2) ∧ (d.2.1.1 = d.2.1.1 ∧ d.2.1.2 = d.2.1.2) ∧ (d.2.2.1 = d.2.2.1 ∧
  (d.2.2.2.1.1 = d.2.2.2.1.1 ∧ d.2.2.2.1.2 = d.2.2.2.1.2) ∧ d.2.2.2.2.1 = d.2.2.2.2.1 ∧ d.2.2.2.2.2 = d.2.2.2.2.2) ∧ szRsF (d.2.2.1, d.2.2.2.1.2, d.2.2.2.2.2) (szCaF (d.1.1, unL enN d.1.2.2) (1048576 : Int)) = szRsF
  (d.2.2.1, d.2.2.2.1.2, d.2.2.2.2.2) (szCaF (d.1.1, unL enN d.1.2.2) (1048576 : Int)) ∧ Prod.snd (storeF (d.1.1, unL enN d.1.2.2) d.2.1.2 (d.2.2.1, d.2.2.2.1.2, d.2.2.2.2.2)) = Prod.snd (storeF (d.1.1, unL enN d.1.2.2)
  d.2.1.2 (d.2.2.1, d.2.2.2.1.2, d.2.2.2.2.2)) ∧ Prod.snd (storeF (unC d.1) d.2.1.2 (unRA d.2.2)) = Prod.snd (storeF (unC d.1) d.2.1.2 (unRA d.2.2)) ∧ endE x_1 (1 : Int) = endE x_1 (1 : Int) ∧ r.2 = Prod.snd (storeF (unC
  d.1) d.2.1.2 (unRA d.2.2)) ∧ r.1.1 = Prod.fst (Prod.fst (storeF (unC d.1) d.2.1.2 (unRA d.2.2)))) ∧ (d.1.1 = d.1.1 ∧ d.1.2.1 = d.1.2.1 ∧ d.1.2.2 = d.1.2.2) ∧ (d.2.2.1 = d.2.2.1 ∧ (d.2.2.2.1.1 = d.2.2.2.1.1 ∧
  d.2.2.2.1.2 = d.2.2.2.1.2) ∧ d.2.2.2.2.1 = d.2.2.2.2.1 ∧ d.2.2.2.2.2 = d.2.2.2.2.2) ∧ x.1 = x.1 ∧ Prod.fst (Prod.fst (storeF (unC d.1) d.2.1.2 (unRA d.2.2))) = Prod.fst (Prod.fst (storeF (unC d.1) d.2.1.2 (unRA
  d.2.2))) ∧ markE x_1 (1 : Int) = markE x_1 (1 : Int) ∧ Prod.fst (Prod.fst (storeF (unC d.1) d.2.1.2 (unRA d.2.2))) = Prod.fst (Prod.fst (storeF (unC d.1) d.2.1.2 (unRA d.2.2))) ∧ r.1.2 = x' ∧ r.1.1 = Prod.fst (Prod.fst
  (storeF (unC d.1) d.2.1.2 (unRA d.2.2))))))) ∧ ((EnsP (unL enN d.1.2.2) ∧ (Ty.wf cacheT (d.1.1, unL enN d.1.2.2) → (List.length d.2.1.2 ≤ (1048576 : Nat) ∧ (Ty.wf bytesT d.2.1.2 → RsP (d.2.2.1, d.2.2.2.1.2,
  d.2.2.2.2.2) ∧ (Ty.wf resT (d.2.2.1, d.2.2.2.1.2, d.2.2.2.2.2) → ∀ (xs' : List EnG), unL (Ty.st (Ty.pr (Ty.gs false byT) (Ty.st (Ty.pr (Ty.int IntKind.i64) (Ty.pr (Ty.gs false (Ty.int IntKind.i64)) (Ty.gs false (Ty.int
  IntKind.i64))))))) xs' = unL enN d.1.2.2 → (EnsP (unL (Ty.st (Ty.pr (Ty.gs false byT) (Ty.st (Ty.pr (Ty.int IntKind.i64) (Ty.pr (Ty.gs false (Ty.int IntKind.i64)) (Ty.gs false (Ty.int IntKind.i64))))))) xs') ∧
  List.length d.2.1.2 ≤ (1048576 : Nat) ∧ RsP (d.2.2.1, d.2.2.2.1.2, d.2.2.2.2.2)) ∧ ∀ (r : (Int × List EnG) × Bool), (unD cacheG r.1, unD Ty.bool r.2) = storeF (d.1.1, unL (Ty.st (Ty.pr (Ty.gs false byT) (Ty.st (Ty.pr
  (Ty.int IntKind.i64) (Ty.pr (Ty.gs false (Ty.int IntKind.i64)) (Ty.gs false (Ty.int IntKind.i64))))))) xs') d.2.1.2 (d.2.2.1, d.2.2.2.1.2, d.2.2.2.2.2) → List.Nodup (ids cacheG r.1 ++ ids Ty.bool r.2) → Ty.wf cacheG
  r.1 ∧ Ty.wf Ty.bool r.2 → (Apart (ids cacheG r.1 ++ ids Ty.bool r.2) (ids (Ty.gs false enN) d.1.2) ∧ (Apart (ids cacheG r.1 ++ ids Ty.bool r.2) (ids (Ty.gs false i64T) d.2.2.2.1) ∧ Apart (ids cacheG r.1 ++ ids Ty.bool
  r.2) (ids (Ty.gs false i64T) d.2.2.2.2)) ∧ Apart (ids cacheG r.1 ++ ids Ty.bool r.2) (idsL enN x.1) ∧ Apart (ids cacheG r.1 ++ ids Ty.bool r.2) (idsL enG (markE x_1 (1 : Int))) ∧ Apart (ids cacheG r.1 ++ ids Ty.bool
  r.2) (idsL (Ty.st (Ty.pr (Ty.gs false byT) (Ty.st (Ty.pr (Ty.int IntKind.i64) (Ty.pr (Ty.gs false (Ty.int IntKind.i64)) (Ty.gs false (Ty.int IntKind.i64))))))) xs')) ∧ Apart (ids cacheG r.1 ++ ids Ty.bool r.2) (ids
  (Ty.gs false enN) d.1.2) ∧ Apart (ids cacheG r.1 ++ ids Ty.bool r.2) (ids (Ty.gs false byT) d.2.1) ∧ (Apart (ids cacheG r.1 ++ ids Ty.bool r.2) (ids (Ty.gs false i64T) d.2.2.2.1) ∧ Apart (ids cacheG r.1 ++ ids Ty.bool
  r.2) (ids (Ty.gs false i64T) d.2.2.2.2)) ∧ Apart (ids cacheG r.1 ++ ids Ty.bool r.2) (ids (Ty.gs false enN) d.1.2) ∧ Apart (ids cacheG r.1 ++ ids Ty.bool r.2) (ids (Ty.gs false byT) d.2.1) ∧ Apart (ids cacheG r.1 ++
  ids Ty.bool r.2) (ids (Ty.gs false i64T) d.2.2.2.1) ∧ Apart (ids cacheG r.1 ++ ids Ty.bool r.2) (ids (Ty.gs false i64T) d.2.2.2.2) → ∃ (x' : List EnG), List.map unE x' = Prod.snd (Prod.fst (storeF (unC d.1) d.2.1.2
  (unRA d.2.2))) ∧ ((d.1.1 = d.1.1 ∧ d.1.2.1 = d.1.2.1 ∧ d.1.2.2 = d.1.2.2) ∧ (d.2.1.1 = d.2.1.1 ∧ d.2.1.2 = d.2.1.2) ∧ (d.2.2.1 = d.2.2.1 ∧ (d.2.2.2.1.1 = d.2.2.2.1.1 ∧ d.2.2.2.1.2 = d.2.2.2.1.2) ∧ d.2.2.2.2.1 =
  d.2.2.2.2.1 ∧ d.2.2.2.2.2 = d.2.2.2.2.2) ∧ szRsF (d.2.2.1, d.2.2.2.1.2, d.2.2.2.2.2) (szCaF (d.1.1, unL enN d.1.2.2) (1048576 : Int)) = szRsF (d.2.2.1, d.2.2.2.1.2, d.2.2.2.2.2) (szCaF (d.1.1, unL enN d.1.2.2) (1048576
  : Int)) ∧ Prod.snd (storeF (d.1.1, unL enN d.1.2.2) d.2.1.2 (d.2.2.1, d.2.2.2.1.2, d.2.2.2.2.2)) = Prod.snd (storeF (d.1.1, unL enN d.1.2.2) d.2.1.2 (d.2.2.1, d.2.2.2.1.2, d.2.2.2.2.2)) ∧ Prod.snd (storeF (unC d.1)
  d.2.1.2 (unRA d.2.2)) = Prod.snd (storeF (unC d.1) d.2.1.2 (unRA d.2.2)) ∧ endE x_1 (1 : Int) = endE x_1 (1 : Int) ∧ r.2 = Prod.snd (storeF (unC d.1) d.2.1.2 (unRA d.2.2)) ∧ r.1.1 = Prod.fst (Prod.fst (storeF (unC d.1)
  d.2.1.2 (unRA d.2.2)))) ∧ (d.1.1 = d.1.1 ∧ d.1.2.1 = d.1.2.1 ∧ d.1.2.2 = d.1.2.2) ∧ (d.2.2.1 = d.2.2.1 ∧ (d.2.2.2.1.1 = d.2.2.2.1.1 ∧ d.2.2.2.1.2 = d.2.2.2.1.2) ∧ d.2.2.2.2.1 = d.2.2.2.2.1 ∧ d.2.2.2.2.2 = d.2.2.2.2.2)
  ∧ x.1 = x.1 ∧ Prod.fst (Prod.fst (storeF (unC d.1) d.2.1.2 (unRA d.2.2))) = Prod.fst (Prod.fst (storeF (unC d.1) d.2.1.2 (unRA d.2.2))) ∧ markE x_1 (1 : Int) = markE x_1 (1 : Int) ∧ Prod.fst (Prod.fst (storeF (unC d.1)
  d.2.1.2 (unRA d.2.2))) = Prod.fst (Prod.fst (storeF (unC d.1) d.2.1.2 (unRA d.2.2))) ∧ r.1.2 = x' ∧ r.1.1 = Prod.fst (Prod.fst (storeF (unC d.1) d.2.1.2 (unRA d.2.2)))))) ∧ List.length d.2.1.2 ≤ (1048576 : Nat) ∧
  (Ty.wf bytesT d.2.1.2 → RsP (d.2.2.1, d.2.2.2.1.2, d.2.2.2.2.2) ∧ (Ty.wf resT (d.2.2.1, d.2.2.2.1.2, d.2.2.2.2.2) → ∀ (xs' : List EnG), unL (Ty.st (Ty.pr (Ty.gs false byT) (Ty.st (Ty.pr (Ty.int IntKind.i64) (Ty.pr
  (Ty.gs false (Ty.int IntKind.i64)) (Ty.gs false (Ty.int IntKind.i64))))))) xs' = unL enN d.1.2.2 → (EnsP (unL (Ty.st (Ty.pr (Ty.gs false byT) (Ty.st (Ty.pr (Ty.int IntKind.i64) (Ty.pr (Ty.gs false (Ty.int IntKind.i64))
  (Ty.gs false (Ty.int IntKind.i64))))))) xs') ∧ List.length d.2.1.2 ≤ (1048576 : Nat) ∧ RsP (d.2.2.1, d.2.2.2.1.2, d.2.2.2.2.2)) ∧ ∀ (r : (Int × List EnG) × Bool), (unD cacheG r.1, unD Ty.bool r.2) = storeF (d.1.1, unL
  (Ty.st (Ty.pr (Ty.gs false byT) (Ty.st (Ty.pr (Ty.int IntKind.i64) (Ty.pr (Ty.gs false (Ty.int IntKind.i64)) (Ty.gs false (Ty.int IntKind.i64))))))) xs') d.2.1.2 (d.2.2.1, d.2.2.2.1.2, d.2.2.2.2.2) → List.Nodup (ids
  cacheG r.1 ++ ids Ty.bool r.2) → Ty.wf cacheG r.1 ∧ Ty.wf Ty.bool r.2 → (Apart (ids cacheG r.1 ++ ids Ty.bool r.2) (ids (Ty.gs false enN) d.1.2) ∧ (Apart (ids cacheG r.1 ++ ids Ty.bool r.2) (ids (Ty.gs false i64T)
  d.2.2.2.1) ∧ Apart (ids cacheG r.1 ++ ids Ty.bool r.2) (ids (Ty.gs false i64T) d.2.2.2.2)) ∧ Apart (ids cacheG r.1 ++ ids Ty.bool r.2) (idsL enN x.1) ∧ Apart (ids cacheG r.1 ++ ids Ty.bool r.2) (idsL enG (markE x_1 (1
  : Int))) ∧ Apart (ids cacheG r.1 ++ ids Ty.bool r.2) (idsL (Ty.st (Ty.pr (Ty.gs false byT) (Ty.st (Ty.pr (Ty.int IntKind.i64) (Ty.pr (Ty.gs false (Ty.int IntKind.i64)) (Ty.gs false (Ty.int IntKind.i64))))))) xs')) ∧
  Apart (ids cacheG r.1 ++ ids Ty.bool r.2) (ids (Ty.gs false enN) d.1.2) ∧ Apart (ids cacheG r.1 ++ ids Ty.bool r.2) (ids (Ty.gs false byT) d.2.1) ∧ (Apart (ids cacheG r.1 ++ ids Ty.bool r.2) (ids (Ty.gs false i64T)
  d.2.2.2.1) ∧ Apart (ids cacheG r.1 ++ ids Ty.bool r.2) (ids (Ty.gs false i64T) d.2.2.2.2)) ∧ Apart (ids cacheG r.1 ++ ids Ty.bool r.2) (ids (Ty.gs false enN) d.1.2) ∧ Apart (ids cacheG r.1 ++ ids Ty.bool r.2) (ids
  (Ty.gs false byT) d.2.1) ∧ Apart (ids cacheG r.1 ++ ids Ty.bool r.2) (ids (Ty.gs false i64T) d.2.2.2.1) ∧ Apart (ids cacheG r.1 ++ ids Ty.bool r.2) (ids (Ty.gs false i64T) d.2.2.2.2) → ∃ (x' : List EnG), List.map unE
  x' = Prod.snd (Prod.fst (storeF (unC d.1) d.2.1.2 (unRA d.2.2))) ∧ ((d.1.1 = d.1.1 ∧ d.1.2.1 = d.1.2.1 ∧ d.1.2.2 = d.1.2.2) ∧ (d.2.1.1 = d.2.1.1 ∧ d.2.1.2 = d.2.1.2) ∧ (d.2.2.1 = d.2.2.1 ∧ (d.2.2.2.1.1 = d.2.2.2.1.1 ∧
  d.2.2.2.1.2 = d.2.2.2.1.2) ∧ d.2.2.2.2.1 = d.2.2.2.2.1 ∧ d.2.2.2.2.2 = d.2.2.2.2.2) ∧ szRsF (d.2.2.1, d.2.2.2.1.2, d.2.2.2.2.2) (szCaF (d.1.1, unL enN d.1.2.2) (1048576 : Int)) = szRsF (d.2.2.1, d.2.2.2.1.2,
  d.2.2.2.2.2) (szCaF (d.1.1, unL enN d.1.2.2) (1048576 : Int)) ∧ Prod.snd (storeF (d.1.1, unL enN d.1.2.2) d.2.1.2 (d.2.2.1, d.2.2.2.1.2, d.2.2.2.2.2)) = Prod.snd (storeF (d.1.1, unL enN d.1.2.2) d.2.1.2 (d.2.2.1,
  d.2.2.2.1.2, d.2.2.2.2.2)) ∧ Prod.snd (storeF (unC d.1) d.2.1.2 (unRA d.2.2)) = Prod.snd (storeF (unC d.1) d.2.1.2 (unRA d.2.2)) ∧ endE x_1 (1 : Int) = endE x_1 (1 : Int) ∧ r.2 = Prod.snd (storeF (unC d.1) d.2.1.2
  (unRA d.2.2)) ∧ r.1.1 = Prod.fst (Prod.fst (storeF (unC d.1) d.2.1.2 (unRA d.2.2)))) ∧ (d.1.1 = d.1.1 ∧ d.1.2.1 = d.1.2.1 ∧ d.1.2.2 = d.1.2.2) ∧ (d.2.2.1 = d.2.2.1 ∧ (d.2.2.2.1.1 = d.2.2.2.1.1 ∧ d.2.2.2.1.2 =
  d.2.2.2.1.2) ∧ d.2.2.2.2.1 = d.2.2.2.2.1 ∧ d.2.2.2.2.2 = d.2.2.2.2.2) ∧ x.1 = x.1 ∧ Prod.fst (Prod.fst (storeF (unC d.1) d.2.1.2 (unRA d.2.2))) = Prod.fst (Prod.fst (storeF (unC d.1) d.2.1.2 (unRA d.2.2))) ∧ markE x_1
  (1 : Int) = markE x_1 (1 : Int) ∧ Prod.fst (Prod.fst (storeF (unC d.1) d.2.1.2 (unRA d.2.2))) = Prod.fst (Prod.fst (storeF (unC d.1) d.2.1.2 (unRA d.2.2))) ∧ r.1.2 = x' ∧ r.1.1 = Prod.fst (Prod.fst (storeF (unC d.1)
  d.2.1.2 (unRA d.2.2))))))) ∧ EnsP (unL enN d.1.2.2) ∧ (Ty.wf cacheT (d.1.1, unL enN d.1.2.2) → List.length d.2.1.2 ≤ (1048576 : Nat) ∧ (Ty.wf bytesT d.2.1.2 → RsP (d.2.2.1, d.2.2.2.1.2, d.2.2.2.2.2) ∧ (Ty.wf resT
  (d.2.2.1, d.2.2.2.1.2, d.2.2.2.2.2) → ∀ (xs' : List EnG), unL (Ty.st (Ty.pr (Ty.gs false byT) (Ty.st (Ty.pr (Ty.int IntKind.i64) (Ty.pr (Ty.gs false (Ty.int IntKind.i64)) (Ty.gs false (Ty.int IntKind.i64))))))) xs' =
  unL enN d.1.2.2 → (EnsP (unL (Ty.st (Ty.pr (Ty.gs false byT) (Ty.st (Ty.pr (Ty.int IntKind.i64) (Ty.pr (Ty.gs false (Ty.int IntKind.i64)) (Ty.gs false (Ty.int IntKind.i64))))))) xs') ∧ List.length d.2.1.2 ≤ (1048576 :
  Nat) ∧ RsP (d.2.2.1, d.2.2.2.1.2, d.2.2.2.2.2)) ∧ ∀ (r : (Int × List EnG) × Bool), (unD cacheG r.1, unD Ty.bool r.2) = storeF (d.1.1, unL (Ty.st (Ty.pr (Ty.gs false byT) (Ty.st (Ty.pr (Ty.int IntKind.i64) (Ty.pr (Ty.gs
  false (Ty.int IntKind.i64)) (Ty.gs false (Ty.int IntKind.i64))))))) xs') d.2.1.2 (d.2.2.1, d.2.2.2.1.2, d.2.2.2.2.2) → List.Nodup (ids cacheG r.1 ++ ids Ty.bool r.2) → Ty.wf cacheG r.1 ∧ Ty.wf Ty.bool r.2 → (Apart (ids
  cacheG r.1 ++ ids Ty.bool r.2) (ids (Ty.gs false enN) d.1.2) ∧ (Apart (ids cacheG r.1 ++ ids Ty.bool r.2) (ids (Ty.gs false i64T) d.2.2.2.1) ∧ Apart (ids cacheG r.1 ++ ids Ty.bool r.2) (ids (Ty.gs false i64T)
  d.2.2.2.2)) ∧ Apart (ids cacheG r.1 ++ ids Ty.bool r.2) (idsL enN x.1) ∧ Apart (ids cacheG r.1 ++ ids Ty.bool r.2) (idsL enG (markE x_1 (1 : Int))) ∧ Apart (ids cacheG r.1 ++ ids Ty.bool r.2) (idsL (Ty.st (Ty.pr (Ty.gs
  false byT) (Ty.st (Ty.pr (Ty.int IntKind.i64) (Ty.pr (Ty.gs false (Ty.int IntKind.i64)) (Ty.gs false (Ty.int IntKind.i64))))))) xs')) ∧ Apart (ids cacheG r.1 ++ ids Ty.bool r.2) (ids (Ty.gs false enN) d.1.2) ∧ Apart
  (ids cacheG r.1 ++ ids Ty.bool r.2) (ids (Ty.gs false byT) d.2.1) ∧ (Apart (ids cacheG r.1 ++ ids Ty.bool r.2) (ids (Ty.gs false i64T) d.2.2.2.1) ∧ Apart (ids cacheG r.1 ++ ids Ty.bool r.2) (ids (Ty.gs false i64T)
  d.2.2.2.2)) ∧ Apart (ids cacheG r.1 ++ ids Ty.bool r.2) (ids (Ty.gs false enN) d.1.2) ∧ Apart (ids cacheG r.1 ++ ids Ty.bool r.2) (ids (Ty.gs false byT) d.2.1) ∧ Apart (ids cacheG r.1 ++ ids Ty.bool r.2) (ids (Ty.gs
  false i64T) d.2.2.2.1) ∧ Apart (ids cacheG r.1 ++ ids Ty.bool r.2) (ids (Ty.gs false i64T) d.2.2.2.2) → ∃ (x' : List EnG), List.map unE x' = Prod.snd (Prod.fst (storeF (unC d.1) d.2.1.2 (unRA d.2.2))) ∧ ((d.1.1 = d.1.1
  ∧ d.1.2.1 = d.1.2.1 ∧ d.1.2.2 = d.1.2.2) ∧ (d.2.1.1 = d.2.1.1 ∧ d.2.1.2 = d.2.1.2) ∧ (d.2.2.1 = d.2.2.1 ∧ (d.2.2.2.1.1 = d.2.2.2.1.1 ∧ d.2.2.2.1.2 = d.2.2.2.1.2) ∧ d.2.2.2.2.1 = d.2.2.2.2.1 ∧ d.2.2.2.2.2 = d.2.2.2.2.2)
  ∧ szRsF (d.2.2.1, d.2.2.2.1.2, d.2.2.2.2.2) (szCaF (d.1.1, unL enN d.1.2.2) (1048576 : Int)) = szRsF (d.2.2.1, d.2.2.2.1.2, d.2.2.2.2.2) (szCaF (d.1.1, unL enN d.1.2.2) (1048576 : Int)) ∧ Prod.snd (storeF (d.1.1, unL
  enN d.1.2.2) d.2.1.2 (d.2.2.1, d.2.2.2.1.2, d.2.2.2.2.2)) = Prod.snd (storeF (d.1.1, unL enN d.1.2.2) d.2.1.2 (d.2.2.1, d.2.2.2.1.2, d.2.2.2.2.2)) ∧ Prod.snd (storeF (unC d.1) d.2.1.2 (unRA d.2.2)) = Prod.snd (storeF
  (unC d.1) d.2.1.2 (unRA d.2.2)) ∧ endE x_1 (1 : Int) = endE x_1 (1 : Int) ∧ r.2 = Prod.snd (storeF (unC d.1) d.2.1.2 (unRA d.2.2)) ∧ r.1.1 = Prod.fst (Prod.fst (storeF (unC d.1) d.2.1.2 (unRA d.2.2)))) ∧ (d.1.1 = d.1.1
  ∧ d.1.2.1 = d.1.2.1 ∧ d.1.2.2 = d.1.2.2) ∧ (d.2.2.1 = d.2.2.1 ∧ (d.2.2.2.1.1 = d.2.2.2.1.1 ∧ d.2.2.2.1.2 = d.2.2.2.1.2) ∧ d.2.2.2.2.1 = d.2.2.2.2.1 ∧ d.2.2.2.2.2 = d.2.2.2.2.2) ∧ x.1 = x.1 ∧ Prod.fst (Prod.fst (storeF
  (unC d.1) d.2.1.2 (unRA d.2.2))) = Prod.fst (Prod.fst (storeF (unC d.1) d.2.1.2 (unRA d.2.2))) ∧ markE x_1 (1 : Int) = markE x_1 (1 : Int) ∧ Prod.fst (Prod.fst (storeF (unC d.1) d.2.1.2 (unRA d.2.2))) = Prod.fst
  (Prod.fst (storeF (unC d.1) d.2.1.2 (unRA d.2.2))) ∧ r.1.2 = x' ∧ r.1.1 = Prod.fst (Prod.fst (storeF (unC d.1) d.2.1.2 (unRA d.2.2))))))) ∧ EnsP (unL enN d.1.2.2) ∧ (Ty.wf cacheT (d.1.1, unL enN d.1.2.2) → List.length
  d.2.1.2 ≤ (1048576 : Nat) ∧ (Ty.wf bytesT d.2.1.2 → RsP (d.2.2.1, d.2.2.2.1.2, d.2.2.2.2.2) ∧ (Ty.wf resT (d.2.2.1, d.2.2.2.1.2, d.2.2.2.2.2) → ∀ (xs' : List EnG), unL (Ty.st (Ty.pr (Ty.gs false byT) (Ty.st (Ty.pr
  (Ty.int IntKind.i64) (Ty.pr (Ty.gs false (Ty.int IntKind.i64)) (Ty.gs false (Ty.int IntKind.i64))))))) xs' = unL enN d.1.2.2 → (EnsP (unL (Ty.st (Ty.pr (Ty.gs false byT) (Ty.st (Ty.pr (Ty.int IntKind.i64) (Ty.pr (Ty.gs
  false (Ty.int IntKind.i64)) (Ty.gs false (Ty.int IntKind.i64))))))) xs') ∧ List.length d.2.1.2 ≤ (1048576 : Nat) ∧ RsP (d.2.2.1, d.2.2.2.1.2, d.2.2.2.2.2)) ∧ ∀ (r : (Int × List EnG) × Bool), (unD cacheG r.1, unD
  Ty.bool r.2) = storeF (d.1.1, unL (Ty.st (Ty.pr (Ty.gs false byT) (Ty.st (Ty.pr (Ty.int IntKind.i64) (Ty.pr (Ty.gs false (Ty.int IntKind.i64)) (Ty.gs false (Ty.int IntKind.i64))))))) xs') d.2.1.2 (d.2.2.1, d.2.2.2.1.2,
  d.2.2.2.2.2) → List.Nodup (ids cacheG r.1 ++ ids Ty.bool r.2) → Ty.wf cacheG r.1 ∧ Ty.wf Ty.bool r.2 → (Apart (ids cacheG r.1 ++ ids Ty.bool r.2) (ids (Ty.gs false enN) d.1.2) ∧ (Apart (ids cacheG r.1 ++ ids Ty.bool
  r.2) (ids (Ty.gs false i64T) d.2.2.2.1) ∧ Apart (ids cacheG r.1 ++ ids Ty.bool r.2) (ids (Ty.gs false i64T) d.2.2.2.2)) ∧ Apart (ids cacheG r.1 ++ ids Ty.bool r.2) (idsL enN x.1) ∧ Apart (ids cacheG r.1 ++ ids Ty.bool
  r.2) (idsL enG (markE x_1 (1 : Int))) ∧ Apart (ids cacheG r.1 ++ ids Ty.bool r.2) (idsL (Ty.st (Ty.pr (Ty.gs false byT) (Ty.st (Ty.pr (Ty.int IntKind.i64) (Ty.pr (Ty.gs false (Ty.int IntKind.i64)) (Ty.gs false (Ty.int
  IntKind.i64))))))) xs')) ∧ Apart (ids cacheG r.1 ++ ids Ty.bool r.2) (ids (Ty.gs false enN) d.1.2) ∧ Apart (ids cacheG r.1 ++ ids Ty.bool r.2) (ids (Ty.gs false byT) d.2.1) ∧ (Apart (ids cacheG r.1 ++ ids Ty.bool r.2)
  (ids (Ty.gs false i64T) d.2.2.2.1) ∧ Apart (ids cacheG r.1 ++ ids Ty.bool r.2) (ids (Ty.gs false i64T) d.2.2.2.2)) ∧ Apart (ids cacheG r.1 ++ ids Ty.bool r.2) (ids (Ty.gs false enN) d.1.2) ∧ Apart (ids cacheG r.1 ++
  ids Ty.bool r.2) (ids (Ty.gs false byT) d.2.1) ∧ Apart (ids cacheG r.1 ++ ids Ty.bool r.2) (ids (Ty.gs false i64T) d.2.2.2.1) ∧ Apart (ids cacheG r.1 ++ ids Ty.bool r.2) (ids (Ty.gs false i64T) d.2.2.2.2) → ∃ (x' :
  List EnG), List.map unE x' = Prod.snd (Prod.fst (storeF (unC d.1) d.2.1.2 (unRA d.2.2))) ∧ ((d.1.1 = d.1.1 ∧ d.1.2.1 = d.1.2.1 ∧ d.1.2.2 = d.1.2.2) ∧ (d.2.1.1 = d.2.1.1 ∧ d.2.1.2 = d.2.1.2) ∧ (d.2.2.1 = d.2.2.1 ∧
  (d.2.2.2.1.1 = d.2.2.2.1.1 ∧ d.2.2.2.1.2 = d.2.2.2.1.2) ∧ d.2.2.2.2.1 = d.2.2.2.2.1 ∧ d.2.2.2.2.2 = d.2.2.2.2.2) ∧ szRsF (d.2.2.1, d.2.2.2.1.2, d.2.2.2.2.2) (szCaF (d.1.1, unL enN d.1.2.2) (1048576 : Int)) = szRsF
  (d.2.2.1, d.2.2.2.1.2, d.2.2.2.2.2) (szCaF (d.1.1, unL enN d.1.2.2) (1048576 : Int)) ∧ Prod.snd (storeF (d.1.1, unL enN d.1.2.2) d.2.1.2 (d.2.2.1, d.2.2.2.1.2, d.2.2.2.2.2)) = Prod.snd (storeF (d.1.1, unL enN d.1.2.2)
  d.2.1.2 (d.2.2.1, d.2.2.2.1.2, d.2.2.2.2.2)) ∧ Prod.snd (storeF (unC d.1) d.2.1.2 (unRA d.2.2)) = Prod.snd (storeF (unC d.1) d.2.1.2 (unRA d.2.2)) ∧ endE x_1 (1 : Int) = endE x_1 (1 : Int) ∧ r.2 = Prod.snd (storeF (unC
  d.1) d.2.1.2 (unRA d.2.2)) ∧ r.1.1 = Prod.fst (Prod.fst (storeF (unC d.1) d.2.1.2 (unRA d.2.2)))) ∧ (d.1.1 = d.1.1 ∧ d.1.2.1 = d.1.2.1 ∧ d.1.2.2 = d.1.2.2) ∧ (d.2.2.1 = d.2.2.1 ∧ (d.2.2.2.1.1 = d.2.2.2.1.1 ∧
  d.2.2.2.1.2 = d.2.2.2.1.2) ∧ d.2.2.2.2.1 = d.2.2.2.2.1 ∧ d.2.2.2.2.2 = d.2.2.2.2.2) ∧ x.1 = x.1 ∧ Prod.fst (Prod.fst (storeF (unC d.1) d.2.1.2 (unRA d.2.2))) = Prod.fst (Prod.fst (storeF (unC d.1) d.2.1.2 (unRA
  d.2.2))) ∧ markE x_1 (1 : Int) = markE x_1 (1 : Int) ∧ Prod.fst (Prod.fst (storeF (unC d.1) d.2.1.2 (unRA d.2.2))) = Prod.fst (Prod.fst (storeF (unC d.1) d.2.1.2 (unRA d.2.2))) ∧ r.1.2 = x' ∧ r.1.1 = Prod.fst (Prod.fst
  (storeF (unC d.1) d.2.1.2 (unRA d.2.2))))))) ∧ ∀ (x_3 : List EnG), List.map unE x_3 = Prod.snd (Prod.fst (storeF (unC d.1) d.2.1.2 (unRA d.2.2))) → True ∧ ((!eqCa (Prod.fst (Prod.fst (storeF (unC d.1) d.2.1.2 (unRA
  d.2.2))), unL enG x_3) (Prod.fst (Prod.fst (storeF (unC d.1) d.2.1.2 (unRA d.2.2))), unL enN x.1)) = true → false = true) ∧ ((!eqCa (Prod.fst (Prod.fst (storeF (unC d.1) d.2.1.2 (unRA d.2.2))), unL enG x_3) (Prod.fst
  (Prod.fst (storeF (unC d.1) d.2.1.2 (unRA d.2.2))), unL enN x.1)) = false → ((!Prod.snd (storeF (unC d.1) d.2.1.2 (unRA d.2.2)) == Prod.snd (storeF (d.1.1, unL enN d.1.2.2) d.2.1.2 (d.2.2.1, d.2.2.2.1.2, d.2.2.2.2.2)))
  = true → false = true) ∧ ((!Prod.snd (storeF (unC d.1) d.2.1.2 (unRA d.2.2)) == Prod.snd (storeF (d.1.1, unL enN d.1.2.2) d.2.1.2 (d.2.2.1, d.2.2.2.1.2, d.2.2.2.2.2))) = false → True ∧ (Ty.wf i64T (neg1 (heldE (unL enG
  (markE x_1 (1 : Int))) (1 : Int))) → (decide (neg1 (heldE (unL enG (markE x_1 (1 : Int))) (1 : Int)) < (0 : Int)) = true → false = true) ∧ (decide (neg1 (heldE (unL enG (markE x_1 (1 : Int))) (1 : Int)) < (0 : Int)) =
  false → ((!decide (neg1 (heldE (unL enG (markE x_1 (1 : Int))) (1 : Int)) = endE x_1 (1 : Int))) = true → false = true) ∧ ((!decide (neg1 (heldE (unL enG (markE x_1 (1 : Int))) (1 : Int)) = endE x_1 (1 : Int))) = false
  → true = true))))))))))))))))))))))))) := by
  intro d hw _
  simp only [Int.toNat_natCast, exists_const, and_true, true_and, implies_true, decide_eq_true_eq, decide_eq_false_iff_not, Bool.not_eq_true', Bool.not_eq_false', beq_iff_eq, forall_const]
  simp only [unC, unRA, unEN1, unEN1x, unE1, idEN1, idEN1x, idE1', idE3', unE2, idBoolE, unBoolE, unR, idR, List.append_nil, List.nil_append, true_and, and_true]
  intro hk0 _ d1 _ d2
  have hK : d.2.1.2.length ≤ 1048576 := by omega
  have hT : totE (d.1.2.2.map unE) ≤ 1048576 := szCa_tot (cacheA_len hw.1) d1
  have hF := tot_ens hT
  have hP : RsP (d.2.2.1, d.2.2.2.1.2, d.2.2.2.2.2) := szRs_len d2 (by omega) (szCa_le (cacheA_len hw.1) d1) hw.2.2.2.1.1 hw.2.2.2.2.1
  have hW := store_tot (c := (d.1.1, d.1.2.2.map unE)) (key := d.2.1.2) (r := (d.2.2.1, d.2.2.2.1.2, d.2.2.2.2.2)) hT hK hP
  repeat' (first
    | assumption
    | exact trivial
    | exact absurd trivial ‹¬True›
    | exact hF
    | exact stN1 ‹_› ‹_› ‹_› | exact stN1' ‹_› ‹_› ‹_› | exact stN2 ‹_› ‹_› | exact lkR ‹_› | exact cjN3 ‹_› | exact st9 ‹_› hP ‹_› | exact st5 ‹_› hW ‹_› | exact st6 ‹_› hW ‹_›
    | exact cjA1 (And.left ‹stJ1 _ _ _ _ _›) | exact cjA2 (And.left ‹stJ1 _ _ _ _ _›) | exact cjA3 (And.left ‹stJ1 _ _ _ _ _›) | exact cjA4 (And.left ‹stJ2 _ _ _ _ _ _›) | exact cjA5 (And.left ‹stJ2 _ _ _ _ _ _›) | exact cjA6 (And.left ‹stJ2 _ _ _ _ _ _›) | exact stA7 ‹_› | exact cjA8 (And.left ‹stJ2 _ _ _ _ _ _›)
    | exact (‹stJ1 _ _ _ _ _›).2.2.2.1 | exact (‹stJ1 _ _ _ _ _›).2.2.2.2.1 | exact (‹stJ1 _ _ _ _ _›).2.2.2.2.2
    | exact (‹stJ2 _ _ _ _ _ _›).2.1 | exact (‹stJ2 _ _ _ _ _ _›).2.2.1 | exact (‹stJ2 _ _ _ _ _ _›).2.2.2
    | exact CJ1.ens (And.left ‹stJ1 _ _ _ _ _›)
    | exact ens_eq (ce1 ‹_›).2 hF
    | exact ens_eq ‹_› hF
    | with_reducible apply And.intro
    | intro _)
  all_goals (first
    | (obtain ⟨⟨_, ⟨_, _⟩, _, _⟩, _, _, _⟩ := ‹(_ ∧ (_ ∧ _) ∧ _ ∧ _) ∧ _›
       have q := ce1 ‹(_, List.map unE _) = _›
       refine ⟨(_, _), ?_, rfl, rfl, q.1⟩
       refine ⟨⟨hT, by assumption, q.2, by assumption, ?_, ?_⟩, hK, hP, ?_, ?_, ?_⟩ <;> first | assumption | exact ap_symm ‹_›)
    | (obtain ⟨⟨_, ⟨_, _⟩, _, _⟩, _, _, _, _⟩ := ‹(_ ∧ (_ ∧ _) ∧ _ ∧ _) ∧ _›
       have q := ce2 ‹((_, List.map unE _), _) = _›
       rw [CJ1.arg (And.left ‹stJ1 _ _ _ _ _›)] at q
       refine ⟨_, ?_, ⟨q.2.2, q.2.1⟩, rfl, q.2.1⟩
       refine ⟨⟨q.1, ?_, ?_, ?_, ?_⟩, ?_, ?_, ?_⟩ <;> first | assumption | exact ap_symm ‹_›)
    | (have q := ce4 (F := fun c => storeF c d.2.1.2 (d.2.2.1, d.2.2.2.1.2, d.2.2.2.2.2)) ‹((_, List.map unE _), _) = storeF (_, List.map unE _) _ _› ‹_›
       exact ⟨_, q.1, ⟨q.2.2, q.2.1⟩, rfl, q.2.1⟩))
end Go.SF
