/- What the laws of caches come to where their code is cut. No condition. -/
import Derived.Test.YtdomcnkhdnagiaaSxC
import Derived.Test.YtdomcnkhdnagiaaSxPCacheT
namespace Go.SF
open Go.SX Go
set_option linter.unusedVariables false
set_option linter.unusedSimpArgs false
theorem unEN1 (L : List EnG) : unL enN L = L.map unE := by
  show L.map (unD enN) = _
  congr 1
  funext f
  exact unEN0 f
theorem idEN0 (e : EnG) : ids enN e = idE e := by
  obtain ⟨a, b, c, d⟩ := e
  show ids (.gs false byT) a ++ ([] ++ (ids (.gs false i64T) c ++ ids (.gs false i64T) d)) = _
  rw [id1_gs, id1_gs, id1_gs]
  rfl
theorem idEN1 (L : List EnG) : idsL enN L = idsE L := by
  unfold idsL idsE
  congr 1
  funext f
  exact idEN0 f
theorem idE1' (L : List EnG) : idsL enG L = idsE L := idE1 L
theorem idE3' (r : Int × List EnG) : ids cacheG r = idsE r.2 := idE3 r
theorem idBoolE (b : Bool) : ids Ty.bool b = [] := rfl
theorem unBoolE (b : Bool) : unD Ty.bool b = b := rfl
/-! Sizes -/
theorem szF_sub {n : Nat} {l : Int} (h0 : ¬ szF n l < 0) (hl0 : 0 ≤ l) (hl : l ≤ 1048576) (hn : n ≤ 9223372036854775807) : szF n l = l - n ∧ (n : Int) ≤ l := by
  unfold szF w64 at *
  rw [IntKind.wrap_i64] at *
  split at h0
  · omega
  · rename_i h2
    rw [if_neg h2]
    omega
theorem szEn_sub {e : En} {l : Int} (h0 : ¬ szEnF e l < 0) (hl0 : 0 ≤ l) (hl : l ≤ 1048576) (h1 : e.1.length ≤ 9223372036854775807) (h2 : e.2.2.1.length ≤ 9223372036854775807) (h3 : e.2.2.2.length ≤ 9223372036854775807) :
    szEnF e l = l - e.1.length - e.2.2.1.length - e.2.2.2.length ∧ 0 ≤ szEnF e l := by
  unfold szEnF szRsF at *
  split at h0
  · omega
  · rename_i a
    rw [if_neg a]
    obtain ⟨b1, b2⟩ := szF_sub a hl0 hl h1
    split at h0
    · omega
    · rename_i c
      rw [if_neg c]
      obtain ⟨d1, d2⟩ := szF_sub c (by omega) (by omega) h2
      obtain ⟨e1, e2⟩ := szF_sub h0 (by omega) (by omega) h3
      omega
theorem szEns_sum : ∀ (es : List En) (l : Int), 0 ≤ szEnGo es l → 0 ≤ l → l ≤ 1048576 → (∀ e ∈ es, e.1.length ≤ 9223372036854775807 ∧ e.2.2.1.length ≤ 9223372036854775807 ∧ e.2.2.2.length ≤ 9223372036854775807) → (totE es : Int) ≤ l + es.length
  | [], l, _, h, _, _ => by simp [totE]; omega
  | g :: es, l, h, hl0, hl, hw => by
    unfold szEnGo at h
    split at h
    · omega
    · rename_i hn
      obtain ⟨w1, w2, w3⟩ := hw g (List.mem_cons_self ..)
      obtain ⟨r1, r2⟩ := szEn_sub hn hl0 hl w1 w2 w3
      have := szEns_sum es _ h r2 (by omega) (fun e he => hw e (List.mem_cons_of_mem _ he))
      rw [totE, List.length_cons]
      omega
theorem szCa_tot {c : Ca} (hw : c.2.length ≤ 9223372036854775807 ∧ ∀ e ∈ c.2, e.1.length ≤ 9223372036854775807 ∧ e.2.2.1.length ≤ 9223372036854775807 ∧ e.2.2.2.length ≤ 9223372036854775807) (h : ¬ szCaF c 1048576 < 0) : totE c.2 ≤ 1048576 := by
  unfold szCaF at h
  split at h
  · omega
  · rename_i h1
    unfold szEnsF at h1
    split at h1
    · omega
    · rename_i h2
      have h3 := szF_sub (n := c.2.length) (l := 1048576) (by unfold szF; rw [if_neg h2]; exact h2) (by omega) (by omega) hw.1
      have h4 : szF c.2.length 1048576 = w64 (1048576 - c.2.length) := by unfold szF; rw [if_neg h2]
      rw [h4] at h3
      have := szEns_sum c.2 (w64 (1048576 - c.2.length)) (by omega) (by omega) (by omega) hw.2
      omega
theorem tot_ens : ∀ {es : List En}, totE es ≤ 1048576 → EnsP es := by
  have key : ∀ (es : List En), es.length ≤ totE es ∧ ∀ e ∈ es, e.1.length ≤ totE es ∧ e.2.2.1.length ≤ totE es ∧ e.2.2.2.length ≤ totE es := by
    intro es
    induction es with
    | nil => exact ⟨Nat.zero_le _, fun f hf => by cases hf⟩
    | cons g es ih =>
      rw [totE]
      refine ⟨by rw [List.length_cons]; omega, fun f hf => ?_⟩
      rcases List.mem_cons.1 hf with rfl | hf
      · omega
      · have := ih.2 f hf; omega
  intro es h
  obtain ⟨h1, h2⟩ := key es
  exact ⟨by omega, fun f hf => by have := h2 f hf; exact ⟨by omega, by omega, by omega⟩⟩
theorem n1_small (k : Int) (h1 : 0 ≤ k) (h2 : k ≤ 4611686018427387904) : n1 k = k + (1 : Nat) := by unfold n1 w64; rw [IntKind.wrap_i64]; omega
theorem end8_small (xs : List Int) {k : Int} (h0 : 0 ≤ k) (h : k + xs.length ≤ 4611686018427387904) : end8 xs k = k + xs.length := by
  have := mkEnd_small 1 n1_small xs k h0 (by omega)
  unfold end8; rw [this]; omega
theorem end1s (xs : List Int) {k : Int} (h0 : 0 ≤ k) (h : k + xs.length ≤ 4611686018427387904) : end1 xs k = k + xs.length := by
  have := mkEnd_small 1 n1_small xs k h0 (by omega)
  unfold end1; rw [this]; omega
theorem nxE_small {e : EnG} {k : Int} (h0 : 0 ≤ k) (h : k + ((e.1.2.length + 1 + e.2.2.1.2.length + e.2.2.2.2.length : Nat) : Int) ≤ 4611686018427387904) : e1F e k = k + e.1.2.length ∧ e2F e k = k + e.1.2.length + 1 ∧ e3F e k = k + e.1.2.length + 1 + e.2.2.1.2.length ∧ nxE e k = k + ((e.1.2.length + 1 + e.2.2.1.2.length + e.2.2.2.2.length : Nat) : Int) := by
  have h1 : e1F e k = k + e.1.2.length := end8_small _ h0 (by omega)
  have h2 : e2F e k = k + e.1.2.length + 1 := by unfold e2F w64; rw [h1, IntKind.wrap_i64]; omega
  have h3 : e3F e k = k + e.1.2.length + 1 + e.2.2.1.2.length := by unfold e3F; rw [h2, end1s _ (by omega) (by omega)]
  refine ⟨h1, h2, h3, ?_⟩
  unfold nxE
  rw [h3, end1s _ (by omega) (by omega)]
  omega
theorem totE_cons (e : EnG) (L : List EnG) : totE ((e :: L).map unE) = (e.1.2.length + 1 + e.2.2.1.2.length + e.2.2.2.2.length) + totE (L.map unE) := rfl
theorem endE_small : ∀ (L : List EnG) (k : Int), 0 ≤ k → k + totE (L.map unE) ≤ 4611686018427387904 → endE L k = k + totE (L.map unE)
  | [], k, _, _ => by simp [endE, totE]
  | e :: L, k, h0, h => by
    rw [totE_cons] at h ⊢
    obtain ⟨_, _, _, h4⟩ := nxE_small (e := e) h0 (by omega)
    show endE L (nxE e k) = _
    rw [endE_small L (nxE e k) (by omega) (by rw [h4]; omega), h4]
    omega
theorem held8_mk (l : List Int) (k : Int) : held8 (mark8 l k) k = end8 l k := held_mk (fun k => by unfold ok8; simp) l k
theorem held1_mk (l : List Int) (k : Int) : held1 (mark1 l k) k = end1 l k := held_mk (fun k => by unfold ok1 el1; simp) l k
theorem heldE_mark : ∀ (L : List EnG) (k : Int), 0 ≤ k → k + totE (L.map unE) ≤ 4611686018427387904 → heldE ((markE L k).map unE) k = endE L k
  | [], k, _, _ => rfl
  | e :: L, k, h0, h => by
    rw [totE_cons] at h
    obtain ⟨h1, h2, h3, h4⟩ := nxE_small (e := e) h0 (by omega)
    show heldE (unE (elE e k) :: (markE L (nxE e k)).map unE) k = endE L (nxE e k)
    unfold heldE
    have g1 : held8 (unE (elE e k)).1 k = e1F e k := held8_mk _ _
    have g2 : held1 (unE (elE e k)).2.2.1 (w64 (e1F e k + 1)) = e3F e k := held1_mk _ _
    have g3 : held1 (unE (elE e k)).2.2.2 (e3F e k) = nxE e k := held1_mk _ _
    have g4 : (unE (elE e k)).2.1 = e1F e k := rfl
    rw [g1, g2, g3, g4, if_neg (by omega), if_pos rfl, if_neg (by omega), if_neg (by omega)]
    exact heldE_mark L (nxE e k) (by omega) (by rw [h4]; omega)
/-! Where the code is cut -/
theorem ap_symm {l k : List Nat} (h : Apart l k) : Apart k l := fun i hi hl => h i hl hi
theorem eqCa_refl (c : Ca) : eqCa c c = true := by unfold eqCa; exact @decide_eq_true _ (decCa c c) rfl
theorem CJ1.ens {w : Ca} {a : CA} {x : List EnG × List EnG} (h : CJ1 w a x) : EnsP (x.2.map unE) := by rw [h.2.2.1]; exact tot_ens h.1
theorem CJ1.arg {w : Ca} {a : CA} {x : List EnG × List EnG} (h : CJ1 w a x) : x.2.map unE = a.2.2.map unE := h.2.2.1
theorem cjN1 {w : Ca} {a : CA} {x : List EnG × List EnG} {g : List EnG} {y : Int} (hx : CJ1 w a x) (hg : g.map unE = w.2) (h : eqCa (y, g.map unE) (y, x.1.map unE) = false) : false = true := by
  rw [hg, hx.2.1, eqCa_refl] at h; exact h.symm
theorem cjN2 {w : Ca} {a : CA} {x : List EnG × List EnG} {y : Int} (hx : CJ1 w a x) (h : eqCa (y, x.2.map unE) (y, a.2.2.map unE) = false) : false = true := by
  rw [show x.2.map unE = a.2.2.map unE from hx.2.2.1, eqCa_refl] at h; exact h.symm
theorem cjN3 {b : Bool} (h : (b == b) = false) : false = true := by cases b <;> cases h
theorem cjN4 {w : Ca} {a : CA} {x : List EnG × List EnG} (hx : CJ1 w a x) (h : endE x.2 1 < 0) : false = true := by
  have ht := hx.1
  rw [← hx.2.2.1] at ht
  have := endE_small x.2 1 (by omega) (by omega)
  omega
theorem heldC_ok {w : Ca} {g : List EnG} (e : g.map unE = w.2) (hw : totE w.2 ≤ 4000000) : neg1 (heldE ((markE g 1).map unE) 1) = endE g 1 ∧ 0 ≤ endE g 1 := by
  rw [← e] at hw
  have h1 := endE_small g 1 (by omega) (by omega)
  rw [heldE_mark g 1 (by omega) (by omega)]
  unfold neg1
  rw [if_neg (by omega)]
  exact ⟨rfl, by omega⟩
theorem cjN5 {w : Ca} {a : CA} {x : List EnG × List EnG} {g : List EnG} (hw : totE w.2 ≤ 4000000) (hg : CJ2 w a x g) (h : neg1 (heldE ((markE g 1).map unE) 1) < 0) : false = true := by
  have := heldC_ok hg.1 hw; omega
theorem cjN6 {w : Ca} {a : CA} {x : List EnG × List EnG} {g : List EnG} (hw : totE w.2 ≤ 4000000) (hg : CJ2 w a x g) (h : ¬ neg1 (heldE ((markE g 1).map unE) 1) = endE g 1) : false = true := absurd (heldC_ok hg.1 hw).1 h
theorem cjA1 {w : Ca} {a : CA} {x : List EnG × List EnG} (hx : CJ1 w a x) : (idsE x.2).Nodup := hx.2.2.2.1
theorem cjA2 {w : Ca} {a : CA} {x : List EnG × List EnG} (hx : CJ1 w a x) : Apart (idsE x.2) (idsE x.1) := hx.2.2.2.2.1
theorem cjA3 {w : Ca} {a : CA} {x : List EnG × List EnG} (hx : CJ1 w a x) : Apart (idsE x.2) (ids (.gs false enN) a.2) := hx.2.2.2.2.2
theorem cjA4 {w : Ca} {a : CA} {x : List EnG × List EnG} {g : List EnG} (hg : CJ2 w a x g) : Apart (idsE x.2) (idsE g) := ap_symm hg.2.2.2.1
theorem cjA5 {w : Ca} {a : CA} {x : List EnG × List EnG} {g : List EnG} (hg : CJ2 w a x g) : (idsE g).Nodup := hg.2.1
theorem cjA6 {w : Ca} {a : CA} {x : List EnG × List EnG} {g : List EnG} (hg : CJ2 w a x g) : Apart (idsE g) (idsE x.1) := hg.2.2.1
theorem cjA7 {w : Ca} {a : CA} {x : List EnG × List EnG} {g : List EnG} {k : Int} (hg : CJ2 w a x g) : Apart (idsE g) (idsE (markE x.2 k)) := by
  unfold idsE; rw [markE_ids]; exact hg.2.2.2.1
theorem cjA8 {w : Ca} {a : CA} {x : List EnG × List EnG} {g : List EnG} (hg : CJ2 w a x g) : Apart (idsE g) (ids (.gs false enN) a.2) := hg.2.2.2.2
theorem ens_eq {xs : List EnG} {ys : List En} (h : xs.map unE = ys) (hF : EnsP ys) : EnsP (xs.map unE) := by rw [h]; exact hF
theorem ce1 {r : Int × List EnG} {L : List En} {y : Int} (e : (r.1, r.2.map unE) = (y, L)) : r.1 = y ∧ r.2.map unE = L := by
  injection e with h1 h2
  exact ⟨h1, h2⟩
theorem ce2 {r : (Int × List EnG) × Bool} {p : Ca × Bool} (e : ((r.1.1, r.1.2.map unE), r.2) = p) : r.1.2.map unE = p.1.2 ∧ r.1.1 = p.1.1 ∧ r.2 = p.2 := by
  rw [← e]
  exact ⟨rfl, rfl, rfl⟩
theorem ce3 {F : Ca → Ca × Bool} {r : (Int × List EnG) × Bool} {s : Int × List EnG} {y : Int} {L : List En} (e : ((r.1.1, r.1.2.map unE), r.2) = F (s.1, s.2.map unE)) (h : (s.1, s.2.map unE) = (y, L)) : r.1.2.map unE = (F (y, L)).1.2 ∧ r.1.1 = (F (y, L)).1.1 ∧ r.2 = (F (y, L)).2 := by
  rw [h] at e
  exact ce2 e
theorem totE_sub {l k : List En} (h : l.Sublist k) : totE l ≤ totE k := by
  induction h with
  | slnil => exact Nat.le_refl _
  | cons a _ ih => rw [totE]; omega
  | cons_cons a _ ih => rw [totE, totE]; omega
theorem shrink_tot {c : Ca} (hT : totE c.2 ≤ 1048576) (room : Int) : totE (shrinkF c room).1.2 ≤ 4000000 := by
  unfold shrinkF
  split
  · have := totE_sub (List.take_sublist (trimLen room c.2 c.2.length) c.2)
    show totE (c.2.take (trimLen room c.2 c.2.length)) ≤ _
    omega
  · show totE c.2 ≤ _
    omega
theorem cacheA_len {a : CA} (h : Ty.wf cacheA a) : (a.2.2.map unE).length ≤ 9223372036854775807 ∧ ∀ e ∈ a.2.2.map unE, e.1.length ≤ 9223372036854775807 ∧ e.2.2.1.length ≤ 9223372036854775807 ∧ e.2.2.2.length ≤ 9223372036854775807 := by
  obtain ⟨_, h1, h2⟩ := h
  refine ⟨by rw [List.length_map]; exact h1, fun f hf => ?_⟩
  obtain ⟨g, hg, rfl⟩ := List.mem_map.1 hf
  have := h2 g hg
  exact ⟨this.1.1, this.2.2.1.1, this.2.2.2.1⟩
end Go.SF
