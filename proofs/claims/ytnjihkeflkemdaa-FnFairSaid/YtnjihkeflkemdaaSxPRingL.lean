/- What the laws of rings come to where their code is cut. No condition. -/
import Derived.Test.YtnjihkeflkemdaaSxC
import Derived.Test.YtnjihkeflkemdaaSxPRingT
namespace Go.SF
open Go.SX Go
set_option linter.unusedVariables false
set_option linter.unusedSimpArgs false
theorem unN0 (f : FlG) : unD flN f = unF f := by
  show (f.1, f.2.1, f.2.2.1, f.2.2.2.2.map (unD tkT)) = _
  rw [unTk]; rfl
theorem unN1 (L : List FlG) : unL flN L = L.map unF := by
  show L.map (unD flN) = _
  congr 1
  funext f
  exact unN0 f
theorem unG1' (L : List FlG) : unL flG L = L.map unF := unG1 L
theorem idN0 (f : FlG) : ids flN f = idF f := by
  obtain ⟨a, b, c, i, l⟩ := f
  show [] ++ ([] ++ ([] ++ ids (.gs false tkT) (i, l))) = _
  rw [ids_gs, ids_noG (.sl tkT) rfl l |> fun q => (show idsL tkT l = [] from q)]
  cases l <;> simp [idF]
theorem idN1 (L : List FlG) : idsL flN L = idsF L := by
  unfold idsL idsF
  congr 1
  funext f
  exact idN0 f
theorem idG1' (L : List FlG) : idsL flG L = idsF L := idG1 L
theorem idG3' (r : List FlG × Int × Bool) : ids ringG r = idsF r.1 := idG3 r
theorem idBool (b : Bool) : ids Ty.bool b = [] := rfl
theorem unBool (b : Bool) : unD Ty.bool b = b := rfl
theorem idInt (b : Int) : ids i64T b = [] := rfl
theorem unInt (b : Int) : unD i64T b = b := rfl
theorem idTk (b : Tk) : ids tkT b = [] := rfl
theorem unTk1 (b : Tk) : unD tkT b = b := rfl
/-! Sizes -/
theorem szFl_sum : ∀ (fs : List Fl) (l : Int), 0 ≤ szFlGo fs l → 0 ≤ l → l ≤ 1048576 → (∀ f ∈ fs, f.2.2.2.length ≤ 9223372036854775807) → (totF fs : Int) ≤ l + fs.length
  | [], l, _, h, _, _ => by simp [totF]; omega
  | g :: fs, l, h, hl0, hl, hw => by
    unfold szFlGo at h
    split at h
    · omega
    · rename_i hn
      have hg := hw g (List.mem_cons_self ..)
      have hs : g.2.2.2.length ≤ 1048576 ∧ 0 ≤ szF g.2.2.2.length l ∧ szF g.2.2.2.length l = l - g.2.2.2.length := by
        unfold szF w64 at hn ⊢
        rw [IntKind.wrap_i64] at hn ⊢
        split at hn
        · omega
        · rename_i h2
          rw [if_neg h2]
          have h0 : (0 : Int) ≤ szFlGo fs (szF g.2.2.2.length l) := h
          refine ⟨?_, ?_, ?_⟩ <;> omega
      have := szFl_sum fs _ h hs.2.1 (by omega) (fun f hf => hw f (List.mem_cons_of_mem _ hf))
      rw [totF, List.length_cons]
      omega
theorem szRg_tot {fs : List Fl} (hl : fs.length ≤ 9223372036854775807) (hw : ∀ f ∈ fs, f.2.2.2.length ≤ 9223372036854775807) (h : ¬ szRgF fs 1048576 < 0) : totF fs ≤ 1048576 := by
  unfold szRgF at h
  split at h
  · omega
  · rename_i h1
    unfold szFlF at h1
    split at h1
    · omega
    · rename_i h2
      unfold w64 at h1 h2
      rw [IntKind.wrap_i64] at h1 h2
      have hx : 0 ≤ ((1048576 : Int) - fs.length) ∧ ((1048576 : Int) - fs.length + 9223372036854775808) % 18446744073709551616 - 9223372036854775808 = 1048576 - fs.length := by constructor <;> omega
      rw [hx.2] at h1
      have := szFl_sum fs _ (by omega) hx.1 (by omega) hw
      omega
theorem tot_fls : ∀ {fs : List Fl}, totF fs ≤ 1048576 → FlsP fs := by
  have key : ∀ (fs : List Fl), fs.length ≤ totF fs ∧ ∀ f ∈ fs, f.2.2.2.length ≤ totF fs := by
    intro fs
    induction fs with
    | nil => exact ⟨Nat.zero_le _, fun f hf => by cases hf⟩
    | cons g fs ih =>
      rw [totF]
      refine ⟨by rw [List.length_cons]; omega, fun f hf => ?_⟩
      rcases List.mem_cons.1 hf with rfl | hf
      · omega
      · have := ih.2 f hf; omega
  intro fs h
  obtain ⟨h1, h2⟩ := key fs
  exact ⟨by omega, fun f hf => by have := h2 f hf; omega⟩
theorem n3_small {k : Int} (h0 : 0 ≤ k) (h : k ≤ 4611686018427387904) : n3 k = k + 3 := by unfold n3 w64; rw [IntKind.wrap_i64, IntKind.wrap_i64, IntKind.wrap_i64]; omega
theorem nxF_small {f : FlG} {k : Int} (h0 : 0 ≤ k) (h : k + 3 * (f.2.2.2.2.length + 1) ≤ 4611686018427387904) : nxF f k = k + 3 + 2 * f.2.2.2.2.length := by
  unfold nxF
  rw [n3_small h0 (by omega), end2_small _ (by omega) (by omega)]
theorem endF_small : ∀ (L : List FlG) (k : Int), 0 ≤ k → k + 3 * totF (L.map unF) ≤ 4611686018427387904 → k ≤ endF L k ∧ endF L k ≤ k + 3 * totF (L.map unF)
  | [], k, h0, _ => by simp [endF, totF]
  | f :: L, k, h0, h => by
    rw [List.map_cons, totF] at h ⊢
    have hl : (unF f).2.2.2.length = f.2.2.2.2.length := rfl
    rw [hl] at h ⊢
    have h1 := nxF_small (f := f) h0 (by omega)
    have := endF_small L (nxF f k) (by omega) (by rw [h1]; omega)
    show k ≤ endF L (nxF f k) ∧ endF L (nxF f k) ≤ _
    omega
theorem heldF_mark : ∀ (L : List FlG) (k : Int), 0 ≤ k → k + 3 * totF (L.map unF) ≤ 4611686018427387904 → heldF ((markF L k).map unF) k = endF L k
  | [], k, _, _ => rfl
  | f :: L, k, h0, h => by
    rw [List.map_cons, totF] at h
    have hl : (unF f).2.2.2.length = f.2.2.2.2.length := rfl
    rw [hl] at h
    have h1 := nxF_small (f := f) h0 (by omega)
    show heldF (unF (elF f k) :: (markF L (nxF f k)).map unF) k = endF L (nxF f k)
    rw [heldF, if_pos (by unfold okF unF elF; simp)]
    have h2 : held2 (unF (elF f k)).2.2.2 (n3 k) = nxF f k := held_mk (fun k => by unfold ok2 el2; simp) _ _
    rw [h2, if_neg (by omega)]
    exact heldF_mark L (nxF f k) (by omega) (by rw [h1]; omega)
/-! Where the code is cut -/
theorem apart_symm {l k : List Nat} (h : Apart l k) : Apart k l := fun i hi hl => h i hl hi
theorem RJ1.fls {w : Rg} {a : RA} {x : List FlG × List FlG} (h : RJ1 w a x) : FlsP (x.2.map unF) := by rw [h.2.2.1]; exact tot_fls h.1
theorem fls_eq {xs : List FlG} {ys : List Fl} (h : xs.map unF = ys) (hF : FlsP ys) : FlsP (xs.map unF) := by rw [h]; exact hF
theorem eq1 {r : List FlG × Int × Bool} {L : List Fl} {y : Int × Bool} (e : (r.1.map unF, r.2.1, r.2.2) = (L, y)) : r.1.map unF = L ∧ r.2.1 = y.1 ∧ r.2.2 = y.2 := by
  injection e with h1 h2
  rw [← h2]
  exact ⟨h1, rfl, rfl⟩
theorem eq2 {r : (List FlG × Int × Bool) × Bool} {p : Rg × Bool} (e : ((r.1.1.map unF, r.1.2.1, r.1.2.2), r.2) = p) : r.1.1.map unF = p.1.1 ∧ r.1.2.1 = p.1.2.1 ∧ r.1.2.2 = p.1.2.2 ∧ r.2 = p.2 := by
  rw [← e]
  exact ⟨rfl, rfl, rfl, rfl⟩
theorem eq3 {r : (List FlG × Int × Bool) × Bool} {xs : List FlG} {y : Int × Bool} {i : Int} {t : Tk} {L : List Fl} (e : ((r.1.1.map unF, r.1.2.1, r.1.2.2), r.2) = pushTkF (xs.map unF, y) i t) (h : xs.map unF = L) : r.1.1.map unF = (pushTkF (L, y) i t).1.1 ∧ r.1.2.1 = (pushTkF (L, y) i t).1.2.1 ∧ r.1.2.2 = (pushTkF (L, y) i t).1.2.2 ∧ r.2 = (pushTkF (L, y) i t).2 := by
  rw [h] at e
  exact eq2 e
theorem RJ1.arg {w : Rg} {a : RA} {x : List FlG × List FlG} (h : RJ1 w a x) : x.2.map unF = a.1.2.map unF := h.2.2.1
theorem totF_app (l k : List Fl) : totF (l ++ k) = totF l + totF k := by
  induction l with
  | nil => simp [totF]
  | cons f l ih => rw [List.cons_append, totF, totF, ih]; omega
theorem totF_set : ∀ (l : List Fl) (i : Nat) (f : Fl), totF (l.set i f) ≤ totF l + f.2.2.2.length + 1
  | [], i, f => by simp [totF]
  | g :: l, 0, f => by rw [List.set_cons_zero, totF, totF]; omega
  | g :: l, i + 1, f => by rw [List.set_cons_succ, totF, totF]; have := totF_set l i f; omega
theorem totF_get : ∀ (l : List Fl) (i : Nat), (l.getD i fl0).2.2.2.length ≤ totF l
  | [], i => by simp [fl0]
  | g :: l, 0 => by rw [List.getD_cons_zero, totF]; omega
  | g :: l, i + 1 => by rw [List.getD_cons_succ, totF]; have := totF_get l i; omega
theorem j2_mk {w : Rg} {a : RA} {x : List FlG × List FlG} {g : List FlG} (e : g.map unF = w.1) (n : (idsF g).Nodup) (h1 : Apart (idsF g) (ids (.gs false flN) a.1)) (h2 : Apart (idsF g) (idsF x.1)) (h3 : Apart (idsF g) (idsF x.2)) : RJ2 w a x g := ⟨e, n, h2, h3, h1⟩
theorem no1 {w : Rg} {a : RA} {x : List FlG × List FlG} {g : List FlG} {y : Int × Bool} (hx : RJ1 w a x) (hg : RJ2 w a x g) (h : eqRg (g.map unF, y) (x.1.map unF, y) = false) : false = true := by
  rw [hg.1, hx.2.1, eqRg_iff.2 rfl] at h; exact h.symm
theorem no2 {w : Rg} {a : RA} {x : List FlG × List FlG} {y : Int × Bool} (hx : RJ1 w a x) (h : eqRg (x.2.map unF, y) (a.1.2.map unF, y) = false) : false = true := by
  rw [show x.2.map unF = a.1.2.map unF from hx.2.2.1, eqRg_iff.2 rfl] at h; exact h.symm
theorem no3 {b : Bool} (h : (b == b) = false) : false = true := by cases b <;> cases h
theorem no4 {w : Rg} {a : RA} {x : List FlG × List FlG} (hx : RJ1 w a x) (h : endF x.2 1 < 0) : false = true := by
  have ht := hx.1
  rw [← hx.2.2.1] at ht
  have := endF_small x.2 1 (by omega) (by omega)
  omega
theorem held_ok {w : Rg} {g : List FlG} (e : g.map unF = w.1) (hw : totF w.1 ≤ 4000000) : neg1 (heldF ((markF g 1).map unF) 1) = endF g 1 ∧ 0 ≤ endF g 1 := by
  rw [← e] at hw
  have h1 := endF_small g 1 (by omega) (by omega)
  rw [heldF_mark g 1 (by omega) (by omega)]
  unfold neg1
  rw [if_neg (by omega)]
  exact ⟨rfl, by omega⟩
theorem no5 {w : Rg} {a : RA} {x : List FlG × List FlG} {g : List FlG} (hw : totF w.1 ≤ 4000000) (hg : RJ2 w a x g) (h : neg1 (heldF ((markF g 1).map unF) 1) < 0) : false = true := by
  have := held_ok hg.1 hw; omega
theorem no6 {w : Rg} {a : RA} {x : List FlG × List FlG} {g : List FlG} (hw : totF w.1 ≤ 4000000) (hg : RJ2 w a x g) (h : ¬ neg1 (heldF ((markF g 1).map unF) 1) = endF g 1) : false = true := absurd (held_ok hg.1 hw).1 h
theorem no7 {w : Rg} {a : RA} {x : List FlG × List FlG} {g : List FlG} {y : Int × Bool} (hx : RJ1 w a x) (hg : g.map unF = w.1) (h : eqRg (g.map unF, y) (x.1.map unF, y) = false) : false = true := by
  rw [hg, hx.2.1, eqRg_iff.2 rfl] at h; exact h.symm
theorem ap1 {w : Rg} {a : RA} {x : List FlG × List FlG} (hx : RJ1 w a x) : (idsF x.2).Nodup := hx.2.2.2.1
theorem ap2 {w : Rg} {a : RA} {x : List FlG × List FlG} (hx : RJ1 w a x) : Apart (idsF x.2) (idsF x.1) := hx.2.2.2.2.1
theorem ap3 {w : Rg} {a : RA} {x : List FlG × List FlG} (hx : RJ1 w a x) : Apart (idsF x.2) (ids (.gs false flN) a.1) := hx.2.2.2.2.2
theorem ap4 {w : Rg} {a : RA} {x : List FlG × List FlG} {g : List FlG} (hg : RJ2 w a x g) : Apart (idsF x.2) (idsF g) := apart_symm hg.2.2.2.1
theorem ap5 {w : Rg} {a : RA} {x : List FlG × List FlG} {g : List FlG} (hg : RJ2 w a x g) : (idsF g).Nodup := hg.2.1
theorem ap6 {w : Rg} {a : RA} {x : List FlG × List FlG} {g : List FlG} (hg : RJ2 w a x g) : Apart (idsF g) (idsF x.1) := hg.2.2.1
theorem ap7 {w : Rg} {a : RA} {x : List FlG × List FlG} {g : List FlG} {k : Int} (hg : RJ2 w a x g) : Apart (idsF g) (idsF (markF x.2 k)) := by
  unfold idsF; rw [markF_ids]; exact hg.2.2.2.1
theorem ap8 {w : Rg} {a : RA} {x : List FlG × List FlG} {g : List FlG} (hg : RJ2 w a x g) : Apart (idsF g) (ids (.gs false flN) a.1) := hg.2.2.2.2
theorem push_tot {fs : List Fl} {y : Int × Bool} (hT : totF fs ≤ 1048576) (i : Int) (t : Tk) : totF (pushTkF (fs, y) i t).1.1 ≤ 4000000 := by
  unfold pushTkF
  split
  · show totF (setLine fs _ _) ≤ _
    unfold setLine
    refine Nat.le_trans (totF_set _ _ _) ?_
    have := totF_get fs (fidxGo i fs 0).toNat
    have h2 : (ipushF (fs.getD (fidxGo i fs 0).toNat fl0).2.2.2 t).1.length ≤ (fs.getD (fidxGo i fs 0).toNat fl0).2.2.2.length + 1 := by
      unfold ipushF; split <;> simp
    show totF fs + (ipushF (fs.getD (fidxGo i fs 0).toNat fl0).2.2.2 t).1.length + 1 ≤ _
    omega
  · show totF fs ≤ _
    omega
theorem ringA_len {a : RA} (h : Ty.wf ringA a) : (a.1.2.map unF).length ≤ 9223372036854775807 ∧ ∀ f ∈ a.1.2.map unF, f.2.2.2.length ≤ 9223372036854775807 := by
  obtain ⟨⟨h1, h2⟩, _⟩ := h
  refine ⟨by rw [List.length_map]; exact h1, fun f hf => ?_⟩
  obtain ⟨g, hg, rfl⟩ := List.mem_map.1 hf
  exact (h2 g hg).2.2.2.1
end Go.SF
