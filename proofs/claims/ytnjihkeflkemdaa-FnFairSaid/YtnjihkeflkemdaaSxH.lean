/- A verified symbolic executor and its contracts (part SxH). No condition. -/
import Derived.Test.YtnjihkeflkemdaaSxG
import Derived.Lib.Overlaps
import Derived.Lib.AppendZerosOnto
import Derived.Laws.Externs
import Derived.Laws.NewBlocks
import Derived.OwnWalk
/- Functions whose results' blocks are told. No condition. -/
namespace Go.SX
open Go.RowKit
set_option linter.unusedVariables false
set_option linter.unusedSimpArgs false

def unTs : List Ty → List Ty
  | [] => []
  | t :: r => t.unG :: unTs r

def unTup : (ts : List Ty) → Tup ts → Tup (unTs ts)
  | [], _ => ()
  | [t], d => unD t d
  | t :: u :: r, d => (unD t d.1, unTup (u :: r) d.2)

def idsTup : (ts : List Ty) → Tup ts → List Nat
  | [], _ => []
  | [t], d => ids t d
  | t :: u :: r, d => ids t d.1 ++ idsTup (u :: r) d.2

/-- The contract of a function whose results' blocks are told: 'trs' says where. 'nd': no block is told twice. -/
structure TC where
  ts : List Ty
  trs : List Ty
  nd : Bool
  pre : Tup ts → Prop
  F : Tup ts → Tup (unTs trs)

def vcPostT (T : Tab) (fn : Func) (nd : Bool) (trs : List Ty) (out : Tup (unTs trs)) (e : Ex) (st : St) : Prop :=
  match e with
  | .exit _ => False
  | _ =>
    match resAll T st fn.results.toList with
    | some ss =>
      match outAll st.ent trs ss with
      | some (r, ns) => if nodupN ns then (match nd with | true => unTup trs r = out ∧ (idsTup trs r).Nodup | false => unTup trs r = out) else False
      | none => False
    | none => False

/-- What is to be shown of the code of such a function. -/
def vcTree (T : Tab) (Γ : FuncId → Option PC) (R : FuncId → Option Rule) (fn : Func) (c : TC) (A : Tup c.ts → Nat → Option Ann) : Prop :=
  match fn.body with
  | some code => ∀ d, tupWf c.ts d → c.pre d → vc T Γ R code (A d) (St.start c.ts d fn.ntmps) fun e _ st => vcPostT T fn c.nd c.trs (c.F d) e st
  | none => False

/-- The contract holds. -/
def TreeOk (P : Program) (f : FuncId) (c : TC) : Prop :=
  ∀ (w : World) (args : List Value) (d : Tup c.ts), RdArgs anyZ w c.ts args d → c.pre d →
    Calls P f args.toArray w fun e w' => ∃ v, e = .returned v ∧ ∃ r : Tup c.trs, unTup c.trs r = c.F d ∧ (c.nd = true → (idsTup c.trs r).Nodup) ∧ ResOk w w' c.trs v r

def Apart (l k : List Nat) : Prop := ∀ i ∈ l, i ∉ k

def C.apart (l : List Nat) : C → Option Prop
  | .rg _ wh e b xs => some (Apart l (ids (.gs wh e) (b, xs)))
  | .rd _ e xs => if e.hasG then some (Apart l (idsL e xs)) else none
  | .at_ _ t d _ => if t.hasG then some (Apart l (ids t d)) else none
  | _ => none

def csApart (l : List Nat) : List C → Option Prop
  | [] => none
  | c :: r => oand (c.apart l) (csApart l r)

def Ent.apart (l : List Nat) : Ent → Option Prop
  | .row _ e xs => if e.hasG then some (Apart l (idsL e xs)) else none
  | .bx cs => csApart l cs
  | .dead => none

def hpApart (l : List Nat) : List Ent → Option Prop
  | [] => none
  | e :: r => oand (e.apart l) (hpApart l r)

def tsApart (l : List Nat) : List S → Option Prop
  | [] => none
  | .c x :: r => oand (x.apart l) (tsApart l r)
  | .agg cs :: r => oand (csApart l cs) (tsApart l r)
  | _ :: r => tsApart l r

/-- All slices told, of whatever blocks. -/
def Ty.tell : Ty → Ty
  | .sl e => .gs false e.tell
  | .st t => .st t.tell
  | .pr a b => .pr a.tell b.tell
  | t => t

/-- Told, of whatever block. -/
def Ty.tellable : Ty → Bool
  | .gs wh e => !wh && e.tellable
  | .sl e => e.tellable
  | .st t => t.tellable
  | .pr a b => a.tellable && b.tellable
  | _ => true

/-- Rows whose slices are not told: they are told now. -/
def tellsVc (nm : Nat) : List Ent → St → (St → Prop) → Prop
  | [], st, K => K st
  | .row true e xs :: r, st, K =>
    if !e.flat && !e.hasG && e.tell.tellable then
      (if h : e.tell.unG = e then ∀ xs' : List e.tell.den, castL h (unL e.tell xs') = xs → tellsVc (nm + 1) r { st with hp := lset st.hp nm (.row true e.tell xs') } K else tellsVc (nm + 1) r st K)
    else tellsVc (nm + 1) r st K
  | .row false _ _ :: r, st, K => tellsVc (nm + 1) r st K
  | .bx _ :: r, st, K => tellsVc (nm + 1) r st K
  | .dead :: r, st, K => tellsVc (nm + 1) r st K

/-- The call of such a function. -/
def treeRule (c : TC) : Rule := fun ss st K => tellsVc 0 st.hp st fun st =>
  match readArgs st.ent c.ts ss with
  | some d => c.pre d ∧ ∀ r : Tup c.trs, unTup c.trs r = c.F d → (if c.nd then (idsTup c.trs r).Nodup else True) → tupWf c.trs r → toP (oand (hpApart (idsTup c.trs r) st.hp) (tsApart (idsTup c.trs r) st.ts)) →
      K (freshS c.trs r (llen st.hp)).1 (st.alloc (freshS c.trs r (llen st.hp)).2)
  | none => False

/-- No slice that is told at the top. -/
def Ty.noGs : Ty → Bool
  | .gs _ _ => false
  | .st t => t.noGs
  | .pr a b => a.noGs && b.noGs
  | _ => true

section
variable {P : Program} {T : Tab} {Γ : FuncId → Option PC} {R : FuncId → Option Rule} {base : Nat} {M : LM} {w0 : World} {V : Vl} {hp : Nat → Ent} {w w' : World}

theorem oldest {l : List Nat} (m : Mem base M w0 V hp w) (hl : ∀ i ∈ l, w.heap.size ≤ i) : ∀ i ∈ l, ¬ V.Z false i := fun i hi hz => by have := m.z_lt hz; have := hl i hi; omega

theorem C.apart_ok {l : List Nat} {c : C} {v : Value} (h : C.ok V hp w c v) (hl : ∀ i ∈ l, ¬ V.Z false i) : toP (c.apart l) := by
  unfold C.apart
  split
  · rename_i fr wh e b xs
    intro i hi hk
    have h' : RdC (V.Z fr) w (.gs wh e) [v] (b, xs) := h
    exact hl i hi (Vl.Z_all (RdC.ids_in _ h' _ hk))
  · rename_i fr e xs
    split
    · intro i hi hk
      have h' : RdC (V.Z fr) w (.sl e) [v] xs := h
      exact hl i hi (Vl.Z_all (RdC.ids_in (.sl e) h' _ hk))
    · trivial
  · rename_i fr t d off
    split
    · intro i hi hk
      obtain ⟨b2, o, _, _, es, _, _, h5⟩ := h
      exact hl i hi (Vl.Z_all (RdC.ids_in t h5 _ hk))
    · trivial
  · trivial

theorem csApart_ok {l : List Nat} (hl : ∀ i ∈ l, ¬ V.Z false i) : ∀ {cs : List C} {vs : List Value}, okAll V hp w cs vs → toP (csApart l cs)
  | [], _, _ => trivial
  | c :: r, vs, h => by
    obtain ⟨v, vs', rfl, h1, h2⟩ := okAll_cons h
    exact toP_oand' (C.apart_ok h1 hl) (csApart_ok hl h2)

theorem Ent.apart_ok {l : List Nat} {e : Ent} {n : Nat} (h : e.ok V hp w n) (hl : ∀ i ∈ l, ¬ V.Z false i) : toP (e.apart l) := by
  cases e with
  | dead => trivial
  | bx cs => obtain ⟨vals, el, _, h2⟩ := h; exact csApart_ok hl h2
  | row fr e xs =>
    unfold Ent.apart
    simp only
    split
    · intro i hi hk
      rcases h with ⟨_, h2⟩ | ⟨_, vals, el, _, _, h4⟩
      · rw [h2] at hk; cases hk
      · refine hl i hi (Vl.Z_all (idsL_in (Z := V.Z fr) (w := w) (fun i hi => by obtain ⟨es, _, _, h6⟩ := h4 i hi; exact ⟨es, h6⟩) _ hk))
    · trivial

theorem hpApart_ok {st : St} {ts : Array Value} (r : Rel base M w0 V st ts w) {l : List Nat} (hl : ∀ i ∈ l, ¬ V.Z false i) : toP (hpApart l st.hp) := by
  have key : ∀ (k : List Ent), (∀ e ∈ k, ∃ n, e.ok V st.ent w n) → toP (hpApart l k) := by
    intro k
    induction k with
    | nil => intro _; trivial
    | cons e k ih =>
      intro h
      obtain ⟨n, hn⟩ := h e (List.mem_cons_self ..)
      exact toP_oand' (Ent.apart_ok hn hl) (ih (fun e' he' => h e' (List.mem_cons_of_mem _ he')))
  refine key st.hp (fun e he => ?_)
  obtain ⟨n, hn, rfl⟩ := List.getElem_of_mem he
  refine ⟨n, ?_⟩
  have := r.mem.ents n
  have e1 : st.ent n = st.hp[n] := by
    show nth .dead st.hp n = _
    rw [nth_eq, List.getElem?_eq_getElem hn]; rfl
  rw [e1] at this
  exact this

theorem tsApart_ok {hp : Nat → Ent} {l : List Nat} (hl : ∀ i ∈ l, ¬ V.Z false i) : ∀ {k : List S}, (∀ s ∈ k, ∃ v, S.ok V hp w s v) → toP (tsApart l k)
  | [], _ => trivial
  | s :: r, h => by
    have ih := tsApart_ok hl (k := r) (fun s' hs' => h s' (List.mem_cons_of_mem _ hs'))
    obtain ⟨v, hv⟩ := h s (List.mem_cons_self ..)
    cases s with
    | c x => exact toP_oand' (C.apart_ok hv hl) ih
    | agg cs => obtain ⟨vs, _, h2⟩ := hv; exact toP_oand' (csApart_ok hl h2) ih
    | tup vs => exact ih
    | und => exact ih
    | any => exact ih
    | arr e xs => exact ih

theorem tsApart_rel {st : St} {ts : Array Value} (r : Rel base M w0 V st ts w) {l : List Nat} (hl : ∀ i ∈ l, ¬ V.Z false i) : toP (tsApart l st.ts) := by
  refine tsApart_ok (w := w) (hp := st.ent) hl (fun s hs => ?_)
  obtain ⟨i, hi, rfl⟩ := List.getElem_of_mem hs
  have hi' : i < ts.size := by rw [← r.len]; exact hi
  exact ⟨ts[i], r.slots i _ _ (List.getElem?_eq_getElem hi) (Array.getElem?_eq_getElem hi')⟩

/-! ### The blocks of results -/

theorem ownC_ids {Z : Nat → Prop} : ∀ {t : Ty} {cs : List Value} {d : t.den} {bs : List (Option Nat)}, OwnC Z w t cs d bs → ∀ i ∈ ids t d, Z i
  | .int _, _, _, _, h, i, hi => by cases hi
  | .bool, _, _, _, h, i, hi => by cases hi
  | .str, _, _, _, h, i, hi => by cases hi
  | .sl e, cs, xs, bs, h, i, hi => by
    rcases h with ⟨_, rfl, _⟩ | ⟨b, cap, vals, el, _, _, _, _, _, _, h7⟩
    · cases hi
    · exact idsL_in (fun j hj => by obtain ⟨es, _, _, k⟩ := h7 j hj; exact ⟨es, k⟩) i hi
  | .st t, cs, d, bs, h, i, hi => ownC_ids (t := t) h i hi
  | .pr a b, cs, d, bs, h, i, hi => by
    obtain ⟨c1, c2, b1, b2, _, _, h1, h2⟩ := h
    rcases List.mem_append.1 hi with hi | hi
    · exact ownC_ids h1 i hi
    · exact ownC_ids h2 i hi
  | .ptr _, _, _, _, h, _, _ => h.elim
  | .clo _ _, _, _, _, h, _, _ => h.elim
  | .gs _ _, _, _, _, h, _, _ => h.elim

theorem ownVals_ids {Z : Nat → Prop} : ∀ {ts : List Ty} {vs : List Value} {d : Tup ts} {bs : List (Option Nat)}, OwnVals Z w ts vs d bs → ∀ i ∈ idsTup ts d, Z i
  | [], _, _, _, _, i, hi => by cases hi
  | [t], _, _, _, h, i, hi => by obtain ⟨v, _, cs, _, h2⟩ := h; exact ownC_ids h2 i hi
  | t :: u :: r, _, d, _, h, i, hi => by
    obtain ⟨v, vs', b1, b2, _, _, ⟨cs, _, h2⟩, h3⟩ := h
    rcases List.mem_append.1 (show i ∈ ids t d.1 ++ idsTup (u :: r) d.2 from hi) with hi | hi
    · exact ownC_ids h2 i hi
    · exact ownVals_ids h3 i hi

/-- The contract, out of what is to be shown of the code. -/
theorem vcTree_ok (hm : P.follows .mixedOrders = true) (hT : TabOk P T) (hΓ : GamOk P Γ) (hR : RulesOk P R) {f : FuncId} {fn : Func} (hf : P.funcs[f]? = some fn) {c : TC} {A : Tup c.ts → Nat → Option Ann}
    (h : vcTree T Γ R fn c A) : TreeOk P f c := by
  intro w args d hargs hpre
  unfold vcTree at h
  split at h
  · rename_i code hb
    have hv := h d (args_wf hargs) hpre
    refine calls_of_wp hf hb (vc_ok hm hT hΓ hR code (A d) _ _ _ _ w (sat_start hargs fn.ntmps) hv (fun e A' st' a' w' hk hs' => ?_))
    obtain ⟨hd, V, r⟩ := hs'
    have key : vcPostT T fn c.nd c.trs (c.F d) e st' → (∃ i, e = .exit i) ∨ ∃ v, (results fn a'.tmps).run P w' = .ok v w' ∧ ∃ x : Tup c.trs, unTup c.trs x = c.F d ∧ (c.nd = true → (idsTup c.trs x).Nodup) ∧ ResOk w w' c.trs v x := by
      intro hp
      unfold vcPostT at hp
      split at hp
      · exact hp.elim
      · right
        split at hp
        · rename_i ss hss
          split at hp
          · rename_i x ns ho
            split at hp
            · rename_i hnd
              obtain ⟨vs, e1, e2, e3⟩ := resAll_run hT r hss
              have hp' : unTup c.trs x = c.F d ∧ (c.nd = true → (idsTup c.trs x).Nodup) := by
                revert hp
                cases c.nd with
                | true => exact fun h => ⟨h.1, fun _ => h.2⟩
                | false => exact fun h => ⟨h, fun h => by cases h⟩
              refine ⟨_, results_run e3, x, hp'.1, hp'.2, ?_⟩
              obtain ⟨bs, k1, k2, k3⟩ := outAll_ok (vs := vs) r.mem.ents ho e1 e2
              refine ⟨⟨V.Z true, bs, _, rfl, k1, by rw [k2]; exact nodup_blks r.mem (nodupN_ok hnd) k3, fun b hb => ?_, fun b hb => ?_⟩, r.mem.kept⟩
              · have hb' : b ∈ bs.filterMap id := List.mem_filterMap.2 ⟨some b, hb, rfl⟩
                rw [k2] at hb'
                obtain ⟨n, h1, h2, rfl⟩ := mem_blksOf hb'
                obtain ⟨e, xs, h3⟩ := k3 n h1
                obtain ⟨_, h4, h5⟩ := r.mem.own n (by rw [h3]; rfl) h2
                exact ⟨r.mem.mine n e xs h3 h2, h4, fun hz => h5 (Vl.Z_all hz)⟩
              · rcases hb with hb | ⟨hb, _⟩
                · exact r.mem.z1 b hb
                · cases hb
            · exact hp.elim
          · exact hp.elim
        · exact hp.elim
    have hk' := key hk
    cases e with
    | normal =>
      rcases hk' with ⟨i, h⟩ | ⟨v, h1, h2⟩
      · cases h
      · exact ⟨hd, v, h1, v, rfl, h2⟩
    | exit i => exact hk.elim
    | ret =>
      rcases hk' with ⟨i, h⟩ | ⟨v, h1, h2⟩
      · cases h
      · exact ⟨hd, v, h1, v, rfl, h2⟩
  · exact h.elim

/-! ### Any reading can be told -/

theorem build {α : Type} (n : Nat) (p : Nat → α → Prop) (h : ∀ i, i < n → ∃ x, p i x) : ∃ xs : List α, xs.length = n ∧ ∀ i (hi : i < xs.length), p i xs[i] := by
  induction n with
  | zero => exact ⟨[], rfl, fun i hi => absurd hi (Nat.not_lt_zero _)⟩
  | succ n ih =>
    obtain ⟨xs, h1, h2⟩ := ih (fun i hi => h i (by omega))
    obtain ⟨x, hx⟩ := h n (by omega)
    refine ⟨xs ++ [x], by simp [h1], fun i hi => ?_⟩
    rcases Nat.lt_or_ge i xs.length with hi' | hi'
    · rw [List.getElem_append_left hi']; exact h2 i hi'
    · have : i = n := by simp at hi; omega
      subst this
      rw [List.getElem_append_right hi']
      simp only [h1, Nat.sub_self, List.getElem_cons_zero]
      exact hx

theorem tell_row {Z : Nat → Prop} {e : Ty} (ih : ∀ {cs : List Value} {d : e.unG.den}, RdC Z w e.unG cs d → ∃ d' : e.den, unD e d' = d ∧ RdC Z w e cs d') {cs : List Value} {d : List e.unG.den} (h : RdC Z w (.sl e.unG) cs d) :
    ∃ xs : List e.den, xs.map (unD e) = d ∧ RdC Z w (.sl e) cs xs := by
  obtain ⟨a, cap, h1, h2, h3, h4⟩ := h
  obtain ⟨xs, k1, k2⟩ := build d.length (fun i (x : e.den) => ∃ hi : i < d.length, unD e x = d[i] ∧ ∃ ad : Addr, a = some ad ∧ ad.spot = none ∧ Z ad.block ∧ ∃ es, es.length = e.size ∧ cellsAt w ad.block (ad.off + i * e.size) es ∧ RdC Z w e es x) (fun i hi => by
    obtain ⟨ad, e1, e2, e3, es, e4, e5, e6⟩ := h4 i hi
    obtain ⟨x, hx, kx⟩ := ih e6
    exact ⟨x, hi, hx, ad, e1, e2, e3, es, by rw [← unG_size e]; exact e4, by rw [← unG_size e]; exact e5, kx⟩)
  refine ⟨xs, List.ext_getElem (by simp [k1]) (fun i h1 h2 => ?_), a, cap, by rw [k1]; exact h1, by rw [k1]; exact h2, by rw [k1]; exact h3, fun i hi => ?_⟩
  · rw [List.getElem_map]
    obtain ⟨_, hx, _⟩ := k2 i (by simpa using h1)
    exact hx
  · obtain ⟨_, _, hx⟩ := k2 i hi
    exact hx

theorem tell_ex {Z : Nat → Prop} : ∀ (t : Ty), t.tellable = true → ∀ {cs : List Value} {d : t.unG.den}, RdC Z w t.unG cs d → ∃ d' : t.den, unD t d' = d ∧ RdC Z w t cs d'
  | .int _, _, _, d, h => ⟨d, rfl, h⟩
  | .bool, _, _, d, h => ⟨d, rfl, h⟩
  | .str, _, _, d, h => ⟨d, rfl, h⟩
  | .ptr _, _, _, d, h => ⟨d, rfl, h⟩
  | .clo _ _, _, _, d, h => ⟨d, rfl, h⟩
  | .st t, ht, _, d, h => tell_ex t ht h
  | .pr a b, ht, _, d, h => by
    have ht' : (a.tellable && b.tellable) = true := ht
    rw [Bool.and_eq_true] at ht'
    obtain ⟨c1, c2, h1, h2, h3⟩ := h
    obtain ⟨x, hx, kx⟩ := tell_ex a ht'.1 h2
    obtain ⟨y, hy, ky⟩ := tell_ex b ht'.2 h3
    refine ⟨(x, y), ?_, c1, c2, h1, kx, ky⟩
    show (unD a x, unD b y) = d
    rw [hx, hy]; rfl
  | .sl e, ht, cs, d, h => tell_row (fun k => tell_ex e ht k) h
  | .gs wh e, ht, cs, d, h => by
    have ht' : (!wh && e.tellable) = true := ht
    rw [Bool.and_eq_true, Bool.not_eq_true'] at ht'
    obtain ⟨xs, k1, k2⟩ := tell_row (fun k => tell_ex e ht'.2 k) (show RdC Z w (.sl e.unG) cs d from h)
    have hwh := ht'.1
    obtain ⟨a, cap, h1, h2, h3, h4⟩ := k2
    cases xs with
    | nil =>
      exact ⟨(0, []), k1, ⟨a, cap, h1, h2, h3, h4⟩, fun hp => absurd hp (Nat.lt_irrefl _), fun hw => by rw [hwh] at hw; cases hw⟩
    | cons x xr =>
      obtain ⟨ad, e1, e2, e3, _⟩ := h4 0 (Nat.succ_pos _)
      refine ⟨(ad.block, x :: xr), k1, ⟨a, cap, h1, h2, h3, h4⟩, fun _ => ?_, fun hw => by rw [hwh] at hw; cases hw⟩
      obtain ⟨b, o, sp⟩ := ad
      simp only at e2
      subst e2
      exact ⟨o, _, cap, by rw [h1, e1]⟩

theorem own_row_tell {Z : Nat → Prop} {e : Ty} (ih : ∀ {cs : List Value} {d : e.unG.den}, RdC Z w e.unG cs d → ∃ d' : e.den, unD e d' = d ∧ RdC Z w e cs d') {cs : List Value} {d : List e.unG.den} {bs : List (Option Nat)} (h : OwnC Z w (.sl e.unG) cs d bs) :
    ∃ xs : List e.den, xs.map (unD e) = d ∧ OwnC Z w (.sl e) cs xs bs := by
  rcases h with ⟨h1, rfl, h3⟩ | ⟨b, cap, vals, el, h1, h2, h3, h4, h5, h6, h7⟩
  · exact ⟨[], rfl, .inl ⟨h1, rfl, h3⟩⟩
  · obtain ⟨xs, k1, k2⟩ := build d.length (fun i (x : e.den) => ∃ hi : i < d.length, unD e x = d[i] ∧ ∃ es, es.length = e.size ∧ (∀ j u, es[j]? = some u → vals[i * e.size + j]? = some u) ∧ RdC Z w e es x) (fun i hi => by
      obtain ⟨es, e4, e5, e6⟩ := h7 i hi
      obtain ⟨x, hx, kx⟩ := ih e6
      exact ⟨x, hi, hx, es, by rw [← unG_size e]; exact e4, by rw [← unG_size e]; exact e5, kx⟩)
    refine ⟨xs, List.ext_getElem (by simp [k1]) (fun i h1 h2 => ?_), .inr ⟨b, cap, vals, el, by rw [k1]; exact h1, h2, h3, by rw [← unG_size e]; exact h4, by rw [k1]; exact h5, by rw [k1]; exact h6, fun i hi => ?_⟩⟩
    · rw [List.getElem_map]
      obtain ⟨_, hx, _⟩ := k2 i (by simpa using h1)
      exact hx
    · obtain ⟨_, _, hx⟩ := k2 i hi
      exact hx

theorem own_tell {Z : Nat → Prop} : ∀ (t : Ty), t.tellable = true → ∀ {cs : List Value} {d : t.unG.den} {bs : List (Option Nat)}, OwnC Z w t.unG cs d bs → t.noGs = true → ∃ d' : t.den, unD t d' = d ∧ OwnC Z w t cs d' bs
  | .int _, _, _, d, _, h, _ => ⟨d, rfl, h⟩
  | .bool, _, _, d, _, h, _ => ⟨d, rfl, h⟩
  | .str, _, _, d, _, h, _ => ⟨d, rfl, h⟩
  | .ptr _, _, _, d, _, h, _ => h.elim
  | .clo _ _, _, _, d, _, h, _ => h.elim
  | .gs _ _, _, _, _, _, _, hg => by cases hg
  | .st t, ht, _, d, _, h, hg => own_tell t ht h hg
  | .pr a b, ht, _, d, _, h, hg => by
    have ht' : (a.tellable && b.tellable) = true := ht
    rw [Bool.and_eq_true] at ht'
    have hg' : (a.noGs && b.noGs) = true := hg
    rw [Bool.and_eq_true] at hg'
    obtain ⟨c1, c2, b1, b2, h1, h1', h2, h3⟩ := h
    obtain ⟨x, hx, kx⟩ := own_tell a ht'.1 h2 hg'.1
    obtain ⟨y, hy, ky⟩ := own_tell b ht'.2 h3 hg'.2
    refine ⟨(x, y), ?_, c1, c2, b1, b2, h1, h1', kx, ky⟩
    show (unD a x, unD b y) = d
    rw [hx, hy]; rfl
  | .sl e, ht, cs, d, bs, h, _ => own_row_tell (fun k => tell_ex e ht k) h

/-! ### The rule -/

/-- A row's slices are told. -/
theorem rel_tell1 {st : St} {ts : Array Value} (r : Rel base M w0 V st ts w) {n : Nat} {e e' : Ty} (hnf : e.hasG = false) (hnl : e.flat = false) (ht : e'.tellable = true) (h : e'.unG = e) {xs : List e.den} (hn : st.ent n = .row true e xs) :
    ∃ xs' : List e'.den, castL h (unL e' xs') = xs ∧ Rel base M w0 V { st with hp := lset st.hp n (.row true e' xs') } ts w ∧ ∀ s v, S.ok V st.ent w s v → S.ok V (St.mk st.ts (lset st.hp n (.row true e' xs'))).ent w s v := by
  subst h
  have m := r.mem
  have hok := m.ents n
  rw [hn] at hok
  obtain ⟨xs', k1, k2⟩ : ∃ xs' : List e'.den, xs'.map (unD e') = xs ∧ (Ent.row true e' xs').ok V st.ent w n := by
    rcases hok with ⟨h1, h2⟩ | ⟨h1, vals, el, h2, h3, h4⟩
    · exact ⟨[], by rw [h2]; rfl, .inl ⟨h1, rfl⟩⟩
    · obtain ⟨xs', j1, j2⟩ := build xs.length (fun i (x : e'.den) => ∃ hi : i < xs.length, unD e' x = xs[i] ∧ ∃ es, es.length = e'.size ∧ (∀ j u, es[j]? = some u → vals[i * e'.size + j]? = some u) ∧ RdC (V.Z true) w e' es x) (fun i hi => by
        obtain ⟨es, e4, e5, e6⟩ := h4 i hi
        obtain ⟨x, hx, kx⟩ := tell_ex e' ht e6
        exact ⟨x, hi, hx, es, by rw [← unG_size e']; exact e4, by rw [← unG_size e']; exact e5, kx⟩)
      refine ⟨xs', List.ext_getElem (by simp [j1]) (fun i g1 g2 => ?_), .inr ⟨h1, vals, el, h2, by rw [j1]; exact h3, fun i hi => ?_⟩⟩
      · rw [List.getElem_map]
        obtain ⟨_, hx, _⟩ := j2 i (by simpa using g1)
        exact hx
      · obtain ⟨_, _, hx⟩ := j2 i hi
        exact hx
  refine ⟨xs', k1, ?_⟩
  have hlive : (st.ent n).live = true := by rw [hn]; rfl
  have hlt : n < st.hp.length := ent_lt hlive
  have hl : xs'.length = xs.length := by rw [← k1, List.length_map]
  have hent : (St.mk st.ts (lset st.hp n (.row true e' xs'))).ent = hpSet st.ent n (.row true e' xs') := ent_set hlt _ _
  have cell : ∀ {c : C} {v : Value}, C.ok V st.ent w c v → C.ok V (hpSet st.ent n (.row true e' xs')) w c v := by
    intro c v h
    have hrow : ∀ {k : Nat} {fr : Bool} {e2 : Ty} {ys : List e2.den}, st.ent k = .row fr e2 ys → ∃ e3 zs, hpSet st.ent n (.row true e' xs') k = .row (if k = n then true else fr) e3 zs ∧ e3.size = e2.size ∧ zs.length = ys.length := by
      intro k fr e2 ys hk
      by_cases hkn : k = n
      · subst hkn
        rw [hn] at hk
        injection hk with q1 q2 q3
        subst q2; cases q3
        exact ⟨e', xs', by simp only [hpSet, if_true], (unG_size e').symm, hl⟩
      · exact ⟨e2, ys, by simp only [hpSet, if_neg hkn]; exact hk, rfl, rfl⟩
    have hbx : ∀ {k : Nat} {cs : List C}, st.ent k = .bx cs → hpSet st.ent n (.row true e' xs') k = .bx cs := by
      intro k cs hk
      have hkn : k ≠ n := fun e => by subst e; rw [hn] at hk; cases hk
      simp only [hpSet, if_neg hkn]; exact hk
    have hr : ∀ {k h0 : Nat} {e2 e3 : Ty} {v : Value}, e3.size = e2.size → hasRow V w k e2 h0 v → hasRow V w k e3 h0 v := by
      intro k h0 e2 e3 v hs q
      rcases q with q | ⟨q1, cap, vals, el, q2, q3, q4, q5⟩
      · exact .inl q
      · exact .inr ⟨q1, cap, vals, el, q2, q3, by rw [hs]; exact q4, q5⟩
    cases c with
    | own k =>
      obtain ⟨fr, e2, ys, h1, h2⟩ := h
      obtain ⟨e3, zs, g1, g2, g3⟩ := hrow h1
      exact ⟨_, e3, zs, g1, by rw [g3]; exact hr g2 h2⟩
    | pre k h0 =>
      obtain ⟨fr, e2, ys, h1, h3, h2⟩ := h
      obtain ⟨e3, zs, g1, g2, g3⟩ := hrow h1
      exact ⟨_, e3, zs, g1, by rw [g3]; exact h3, hr g2 h2⟩
    | brw k e2 ys => obtain ⟨⟨fr, e3, zs, h1⟩, h2⟩ := h; obtain ⟨e4, us, g1, _⟩ := hrow h1; exact ⟨⟨_, e4, us, g1⟩, h2⟩
    | box k off => obtain ⟨h1, h2, cs, h3⟩ := h; exact ⟨h1, h2, cs, hbx h3⟩
    | elt k i off =>
      obtain ⟨h0, fr, e2, ys, h1, h2, h3⟩ := h
      obtain ⟨e3, zs, g1, g2, g3⟩ := hrow h1
      exact ⟨h0, _, e3, zs, g1, by rw [g3]; exact h2, by rw [g2]; exact h3⟩
    | fn g caps => exact ⟨h.1, fun k hk => ⟨(h.2 k hk).1, let ⟨_, cs, h3⟩ := h.2 k hk; ⟨cs, hbx h3⟩⟩⟩
    | _ => exact h
  have cells : ∀ {cs : List C} {vs : List Value}, okAll V st.ent w cs vs → okAll V (hpSet st.ent n (.row true e' xs')) w cs vs := fun h => ⟨h.1, fun j c v hc hv => cell (h.2 j c v hc hv)⟩
  have hcases : ∀ k, (hpSet st.ent n (.row true e' xs') k).live = true → (st.ent k).live = true := by
    intro k h
    by_cases hkn : k = n
    · subst hkn; exact hlive
    · simp only [hpSet, if_neg hkn] at h; exact h
  have sok : ∀ s v, S.ok V st.ent w s v → S.ok V (hpSet st.ent n (.row true e' xs')) w s v := by
    intro s v h0
    cases s with
    | c y => exact cell h0
    | agg cs => obtain ⟨vs, h1, h2⟩ := h0; exact ⟨vs, h1, cells h2⟩
    | tup zs =>
      obtain ⟨vs, h1, h2, h3⟩ := h0
      refine ⟨vs, h1, h2, fun j y v hy hv => ?_⟩
      have h4 := h3 j y v hy hv
      unfold okTop at h4 ⊢
      split
      · rename_i hb; rw [if_pos hb] at h4; obtain ⟨us, k1, k2⟩ := h4; exact ⟨us, k1, cells k2⟩
      · rename_i hb; rw [if_neg hb] at h4; exact cells h4
    | und => exact h0
    | any => trivial
    | arr e2 ys => exact S.arr_ext h0
  refine ⟨⟨r.len, fun i s v hs hv => by rw [hent]; exact sok s v (r.slots i s v hs hv), ?_⟩, fun s v h => by rw [hent]; exact sok s v h⟩
  · rw [hent]
    refine ⟨fun k => ?_, fun k cs h => ?_, fun k h hh => m.own k (hcases k h) hh, fun k e2 xs2 h hh => ?_, fun k k' h h' hh hh' he => m.dist k k' (hcases k h) (hcases k' h') hh hh' he, m.z0, m.z1, m.kept, fun k h hh => ?_, fun b hb => ?_, fun k hh i hi => ?_⟩
    · by_cases hkn : k = n
      · subst hkn
        simp only [hpSet, if_true]
        exact k2
      · simp only [hpSet, if_neg hkn]
        have h1 := m.ents k
        cases hne : st.ent k with
        | dead => trivial
        | bx cs => rw [hne] at h1; obtain ⟨vals, el, h2, h3⟩ := h1; exact ⟨vals, el, h2, cells h3⟩
        | row fr e2 ys => rw [hne] at h1; exact h1
    · by_cases hkn : k = n
      · subst hkn; simp only [hpSet, if_true] at h; cases h
      · simp only [hpSet, if_neg hkn] at h; exact m.box k cs h
    · by_cases hkn : k = n
      · subst hkn; exact m.mine k e'.unG xs hn hh
      · simp only [hpSet, if_neg hkn] at h; exact m.mine k e2 xs2 h hh
    · by_cases hkn : k = n
      · subst hkn; simp only [hpSet, if_true] at h; exact False.elim h
      · simp only [hpSet, if_neg hkn] at h; exact m.lent k h hh
    · obtain ⟨q1, q2⟩ := m.lentb b hb
      have hn0 : 0 ≠ n := fun e => by subst e; rw [hn] at q1; cases q1
      simp only [hpSet, if_neg hn0]
      exact ⟨q1, q2⟩
    · by_cases hkn : k = n
      · subst hkn; simp only [hpSet, if_true] at hi; cases hi
      · simp only [hpSet, if_neg hkn] at hi; exact m.lids k hh i hi

theorem tells_ok {K : St → Prop} {ts : Array Value} : ∀ (l : List Ent) {nm : Nat} {st : St}, Rel base M w0 V st ts w → (∀ (j : Nat) e, l[j]? = some e → st.hp[nm + j]? = some e) → tellsVc nm l st K → ∃ st', Rel base M w0 V st' ts w ∧ K st' ∧ ∀ s v, S.ok V st.ent w s v → S.ok V st'.ent w s v
  | [], nm, st, r, _, h => ⟨st, r, h, fun _ _ h => h⟩
  | .bx cs :: l, nm, st, r, hl, h => tells_ok l r (fun j e he => by have := hl (j + 1) e (by simpa using he); rwa [show nm + (j + 1) = nm + 1 + j by omega] at this) h
  | .dead :: l, nm, st, r, hl, h => tells_ok l r (fun j e he => by have := hl (j + 1) e (by simpa using he); rwa [show nm + (j + 1) = nm + 1 + j by omega] at this) h
  | .row false e xs :: l, nm, st, r, hl, h => tells_ok l r (fun j e he => by have := hl (j + 1) e (by simpa using he); rwa [show nm + (j + 1) = nm + 1 + j by omega] at this) h
  | .row true e xs :: l, nm, st, r, hl, h => by
    have hl' : ∀ (j : Nat) e, l[j]? = some e → st.hp[nm + 1 + j]? = some e := fun j e he => by have := hl (j + 1) e (by simpa using he); rwa [show nm + (j + 1) = nm + 1 + j by omega] at this
    unfold tellsVc at h
    split at h
    · rename_i hc
      simp only [Bool.and_eq_true, Bool.not_eq_true'] at hc
      split at h
      · rename_i hu
        have h00 := hl 0 _ rfl
        rw [Nat.add_zero] at h00
        have hn : st.ent nm = .row true e xs := by
          show nth .dead st.hp nm = _
          rw [nth_eq, h00]; rfl
        obtain ⟨xs', k1, k2, k3⟩ := rel_tell1 r hc.1.2 hc.1.1 hc.2 hu hn
        have key : ∀ (j : Nat) e2, l[j]? = some e2 → (St.mk st.ts (lset st.hp nm (.row true e.tell xs'))).hp[nm + 1 + j]? = some e2 := by
          intro j e2 he
          show (lset st.hp nm _)[nm + 1 + j]? = _
          rw [lset_eq, List.getElem?_set_ne (by omega)]
          exact hl' j e2 he
        obtain ⟨st2, g1, g2, g3⟩ := tells_ok l k2 key (h xs' k1)
        exact ⟨st2, g1, g2, fun s v hs => g3 s v (k3 s v hs)⟩
      · exact tells_ok l r hl' h
    · exact tells_ok l r hl' h

theorem tree_rule {f : FuncId} {c : TC} (h : TreeOk P f c) : RuleOk P f (treeRule c) := by
  intro base M w0 V st0 ts w ss vs K r0 hlen hss0 hr0
  obtain ⟨st, r, hr, hss1⟩ := tells_ok st0.hp r0 (fun j e he => by rw [Nat.zero_add]; exact he) hr0
  have hss : ∀ (i : Nat) s v, ss[i]? = some s → vs[i]? = some v → S.ok V st.ent w s v := fun i s v h1 h2 => hss1 s v (hss0 i s v h1 h2)
  split at hr
  · rename_i d hd
    obtain ⟨hpre, hK⟩ := hr
    have hargs := readArgs_ok (LkOk.ents r) c.ts hd hlen hss
    refine (h w vs d hargs hpre).mono ?_
    rintro e w' ⟨v, rfl, r', hu, hn, ⟨Z1, bs, us, rfl, k1, k2, k3, k4⟩, hk⟩
    have g := good_callX r.mem (nx := llen st.hp) k1 k2 k3 k4 hk (fun j _ => ent_dead st j)
    obtain ⟨q1, q2⟩ := rel_good r g
    have hold : ∀ i ∈ idsTup c.trs r', ¬ V.Z false i := oldest r.mem (fun i hi => (k4 i (ownVals_ids k1 i hi)).1)
    refine ⟨_, rfl, _, _, _, hK r' hu ?_ (ownVals_wf k1) (toP_oand' (hpApart_ok r hold) (tsApart_rel r hold)), q1, q2⟩
    split
    · rename_i hnd; exact hn hnd
    · trivial
  · exact hr.elim

theorem top_tell {t : Ty} {cs : List Value} {v : Value} : topV t.unG cs v ↔ topV t cs v := by
  have : isSt t.unG = isSt t := by cases t <;> rfl
  unfold topV
  rw [this]

def noGsTs : List Ty → Bool
  | [] => true
  | t :: r => t.noGs && t.tellable && noGsTs r

def tellTs : List Ty → Bool
  | [] => true
  | t :: r => t.tellable && tellTs r

theorem vals_tell {Z : Nat → Prop} : ∀ (ts : List Ty), noGsTs ts = true → ∀ {vs : List Value} {d : Tup (unTs ts)} {bs : List (Option Nat)}, OwnVals Z w (unTs ts) vs d bs → ∃ d' : Tup ts, unTup ts d' = d ∧ OwnVals Z w ts vs d' bs
  | [], _, vs, d, bs, h => ⟨(), rfl, h⟩
  | [t], hg, vs, d, bs, h => by
    simp only [noGsTs, Bool.and_eq_true] at hg
    obtain ⟨v, h1, cs, h2, h3⟩ := h
    obtain ⟨d', k1, k2⟩ := own_tell t hg.1.2 h3 hg.1.1
    exact ⟨d', k1, v, h1, cs, top_tell.1 h2, k2⟩
  | t :: u :: r, hg, vs, d, bs, h => by
    have hg' : (t.noGs && t.tellable && noGsTs (u :: r)) = true := hg
    simp only [Bool.and_eq_true] at hg'
    obtain ⟨v, vs', b1, b2, h1, h1', ⟨cs, h2, h3⟩, h4⟩ := h
    obtain ⟨x, k1, k2⟩ := own_tell t hg'.1.2 h3 hg'.1.1
    obtain ⟨y, k3, k4⟩ := vals_tell (u :: r) hg'.2 h4
    refine ⟨(x, y), ?_, v, vs', b1, b2, h1, h1', ⟨cs, top_tell.1 h2, k2⟩, k4⟩
    show (unD t x, unTup (u :: r) y) = d
    rw [k1, k3]; rfl

theorem args_tell {Z : Nat → Prop} : ∀ (ts : List Ty), tellTs ts = true → ∀ {vs : List Value} {d : Tup (unTs ts)}, RdArgs Z w (unTs ts) vs d → ∃ d' : Tup ts, unTup ts d' = d ∧ RdArgs Z w ts vs d'
  | [], _, vs, d, h => ⟨(), rfl, h⟩
  | [t], hg, vs, d, h => by
    simp only [tellTs, Bool.and_eq_true] at hg
    obtain ⟨v, h1, cs, h2, h3⟩ := h
    obtain ⟨d', k1, k2⟩ := tell_ex t hg.1 h3
    exact ⟨d', k1, v, h1, cs, top_tell.1 h2, k2⟩
  | t :: u :: r, hg, vs, d, h => by
    have hg' : (t.tellable && tellTs (u :: r)) = true := hg
    simp only [Bool.and_eq_true] at hg'
    obtain ⟨v, vs', h1, ⟨cs, h2, h3⟩, h4⟩ := h
    obtain ⟨x, k1, k2⟩ := tell_ex t hg'.1 h3
    obtain ⟨y, k3, k4⟩ := args_tell (u :: r) hg'.2 h4
    refine ⟨(x, y), ?_, v, vs', h1, ⟨cs, top_tell.1 h2, k2⟩, k4⟩
    show (unD t x, unTup (u :: r) y) = d
    rw [k1, k3]; rfl

/-- The results of whatever function can be told. -/
theorem tell_of_pure {f : FuncId} {c : TC} {p : PC} (hts : p = { ts := c.ts, rs := unTs c.trs, pre := c.pre, F := c.F }) (h : PureC P f p) (hg : noGsTs c.trs = true) (hn : c.nd = false) : TreeOk P f c := by
  subst hts
  intro w args d hargs hpre
  refine (h w args d hargs hpre).mono ?_
  rintro e w' ⟨v, rfl, ⟨Z1, bs, vs, rfl, k1, k2, k3, k4⟩, hk⟩
  obtain ⟨r, j1, j2⟩ := vals_tell c.trs hg k1
  exact ⟨_, rfl, r, j1, (fun h => by rw [hn] at h; cases h), ⟨Z1, bs, vs, rfl, j2, k2, k3, k4⟩, hk⟩

/-- A law whose arguments' blocks were told. -/
theorem law_untold {f : FuncId} {ts : List Ty} (hg : tellTs ts = true) (h : PureC P f (lawC ts)) : PureC P f (lawC (unTs ts)) := by
  intro w args d hargs _
  obtain ⟨d', _, k⟩ := args_tell ts hg hargs
  exact h w args d' k trivial

/-! ### Blocks no more told -/

theorem own_unL {Z : Nat → Prop} {e : Ty} {cs : List Value} {xs : List e.den} {bs : List (Option Nat)} (h : OwnC Z w (.sl e) cs xs bs) : OwnC Z w (.sl e.unG) cs (xs.map (unD e)) bs := by
  rcases h with ⟨h1, rfl, h3⟩ | ⟨b, cap, vals, el, h1, h2, h3, h4, h5, h6, h7⟩
  · exact .inl ⟨h1, rfl, h3⟩
  · refine .inr ⟨b, cap, vals, el, by rw [List.length_map]; exact h1, h2, h3, by rw [unG_size]; exact h4, by rw [List.length_map]; exact h5, by rw [List.length_map]; exact h6, fun i hi => ?_⟩
    obtain ⟨es, e4, e5, e6⟩ := h7 i (by rw [List.length_map] at hi; exact hi)
    exact ⟨es, by rw [unG_size]; exact e4, by rw [unG_size]; exact e5, by rw [List.getElem_map]; exact RdC.un e e6⟩

theorem own_un {Z : Nat → Prop} : ∀ (t : Ty) {cs : List Value} {d : t.den} {bs : List (Option Nat)}, OwnC Z w t cs d bs → OwnC Z w t.unG cs (unD t d) bs
  | .int _, _, _, _, h => h
  | .bool, _, _, _, h => h
  | .str, _, _, _, h => h
  | .ptr _, _, _, _, h => h.elim
  | .clo _ _, _, _, _, h => h.elim
  | .gs _ _, _, _, _, h => h.elim
  | .st t, _, _, _, h => own_un t h
  | .pr a b, _, _, _, h => by
    obtain ⟨c1, c2, b1, b2, h1, h1', h2, h3⟩ := h
    exact ⟨c1, c2, b1, b2, h1, h1', own_un a h2, own_un b h3⟩
  | .sl e, cs, d, bs, h => by
    exact own_unL h

theorem vals_un {Z : Nat → Prop} : ∀ (ts : List Ty) {vs : List Value} {d : Tup ts} {bs : List (Option Nat)}, OwnVals Z w ts vs d bs → OwnVals Z w (unTs ts) vs (unTup ts d) bs
  | [], _, _, _, h => h
  | [t], _, _, _, h => by obtain ⟨v, h1, cs, h2, h3⟩ := h; exact ⟨v, h1, cs, top_tell.2 h2, own_un t h3⟩
  | t :: u :: r, _, _, _, h => by
    obtain ⟨v, vs', b1, b2, h1, h1', ⟨cs, h2, h3⟩, h4⟩ := h
    exact ⟨v, vs', b1, b2, h1, h1', ⟨cs, top_tell.2 h2, own_un t h3⟩, vals_un (u :: r) h4⟩

/-- A tree contract is a contract. -/
theorem pure_of_tree {f : FuncId} {c : TC} (h : TreeOk P f c) : PureC P f { ts := c.ts, rs := unTs c.trs, pre := c.pre, F := c.F } := by
  intro w args d hargs hpre
  refine (h w args d hargs hpre).mono ?_
  rintro e w' ⟨v, rfl, r, hu, _, ⟨Z1, bs, vs, rfl, k1, k2, k3, k4⟩, hk⟩
  have hu : unTup c.trs r = c.F d := hu
  refine ⟨_, rfl, ⟨Z1, bs, vs, rfl, ?_, k2, k3, k4⟩, hk⟩
  show OwnVals Z1 w' (unTs c.trs) vs (c.F d) bs
  rw [← hu]
  exact vals_un c.trs k1
end
end Go.SX


/- Writes into told blocks: what stays true. No condition. -/
namespace Go.SX
open Go.RowKit
set_option linter.unusedVariables false
set_option linter.unusedSimpArgs false

/-- Words that may read told blocks are forgotten, but for closed ones if 'keep'. -/
def killU (keep : Bool) : C → C
  | .rg fr wh e b xs => if keep && e.gcl then .rg fr wh e b xs else .any
  | .rd _ _ _ => .any
  | .brw _ _ _ => .any
  | .at_ _ _ _ _ => .any
  | .clo _ _ _ _ => .any
  | c => c

/-- The other rows read none of the blocks 'l'. -/
def rowsApart (n : Nat) (l : List Nat) : Nat → List Ent → Option Prop
  | _, [] => none
  | k, .row _ e xs :: r => oand (if Nat.beq k n || e.flat then none else if e.gcl then some (Apart l (idsL e xs)) else some False) (rowsApart n l (k + 1) r)
  | k, .bx _ :: r => rowsApart n l (k + 1) r
  | k, .dead :: r => rowsApart n l (k + 1) r

def C.aparts (l : List Nat) : C → Option Prop
  | .rg _ wh e b xs => if e.gcl then some (Apart l (ids (.gs wh e) (b, xs))) else none
  | _ => none

def csAparts (l : List Nat) : List C → Option Prop
  | [] => none
  | c :: r => oand (c.aparts l) (csAparts l r)

def tupAparts (l : List Nat) : List (Bool × List C) → Option Prop
  | [] => none
  | v :: r => oand (csAparts l v.2) (tupAparts l r)

def tsAparts (l : List Nat) : List S → Option Prop
  | [] => none
  | .c x :: r => oand (x.aparts l) (tsAparts l r)
  | .agg cs :: r => oand (csAparts l cs) (tsAparts l r)
  | .tup vs :: r => oand (tupAparts l vs) (tsAparts l r)
  | _ :: r => tsAparts l r

def bxAparts (l : List Nat) : List Ent → Option Prop
  | [] => none
  | .bx cs :: r => oand (csAparts l cs) (bxAparts l r)
  | _ :: r => bxAparts l r

/-- A row is forgotten. -/
def St.drop (st : St) (m : Nat) : St := { (st.map (killO m)) with hp := lset (st.map (killO m)).hp m .dead }

def St.drops (st : St) : List Nat → St
  | [] => st
  | m :: r => (st.drop m).drops r

/-- The rows, but for 'n', whose slices are not told. -/
def dropList (n : Nat) : Nat → List Ent → List Nat
  | _, [] => []
  | k, .row _ e _ :: r => if Nat.beq k n || e.flat || e.gcl then dropList n (k + 1) r else k :: dropList n (k + 1) r
  | k, .bx _ :: r => dropList n (k + 1) r
  | k, .dead :: r => dropList n (k + 1) r

section
variable {P : Program} {T : Tab} {Γ : FuncId → Option PC} {R : FuncId → Option Rule} {base : Nat} {M : LM} {w0 : World} {V : Vl} {hp : Nat → Ent} {w w' : World}

theorem csAparts_get {l : List Nat} : ∀ {cs : List C}, toP (csAparts l cs) → ∀ c ∈ cs, toP (c.aparts l)
  | [], _, c, hc => by cases hc
  | x :: r, h, c, hc => by
    obtain ⟨h1, h2⟩ := toP_oand.1 h
    rcases List.mem_cons.1 hc with rfl | hc
    · exact h1
    · exact csAparts_get h2 c hc

theorem tupAparts_get {l : List Nat} : ∀ {vs : List (Bool × List C)}, toP (tupAparts l vs) → ∀ v ∈ vs, toP (csAparts l v.2)
  | [], _, c, hc => by cases hc
  | x :: r, h, c, hc => by
    obtain ⟨h1, h2⟩ := toP_oand.1 h
    rcases List.mem_cons.1 hc with rfl | hc
    · exact h1
    · exact tupAparts_get h2 c hc

def S.aparts (l : List Nat) : S → Prop
  | .c x => toP (x.aparts l)
  | .agg cs => toP (csAparts l cs)
  | .tup vs => toP (tupAparts l vs)
  | _ => True

theorem tsAparts_get {l : List Nat} : ∀ {ts : List S}, toP (tsAparts l ts) → ∀ s ∈ ts, s.aparts l
  | [], _, c, hc => by cases hc
  | x :: r, h, c, hc => by
    have h2 : x.aparts l ∧ toP (tsAparts l r) := by
      cases x with
      | c x => exact toP_oand.1 h
      | agg cs => exact toP_oand.1 h
      | tup vs => exact toP_oand.1 h
      | und => exact ⟨trivial, h⟩
      | any => exact ⟨trivial, h⟩
      | arr e xs => exact ⟨trivial, h⟩
    rcases List.mem_cons.1 hc with rfl | hc
    · exact h2.1
    · exact tsAparts_get h2.2 c hc

theorem bxAparts_get {l : List Nat} : ∀ {es : List Ent}, toP (bxAparts l es) → ∀ cs, .bx cs ∈ es → toP (csAparts l cs)
  | [], _, c, hc => by cases hc
  | x :: r, h, c, hc => by
    cases x with
    | bx cs =>
      obtain ⟨h1, h2⟩ := toP_oand.1 h
      rcases List.mem_cons.1 hc with e | hc
      · injection e with e; subst e; exact h1
      · exact bxAparts_get h2 c hc
    | row fr e xs =>
      rcases List.mem_cons.1 hc with e | hc
      · cases e
      · exact bxAparts_get (es := r) h c hc
    | dead =>
      rcases List.mem_cons.1 hc with e | hc
      · cases e
      · exact bxAparts_get (es := r) h c hc

theorem rowsApart_get {n : Nat} {l : List Nat} : ∀ {es : List Ent} {k : Nat}, toP (rowsApart n l k es) → ∀ (j : Nat) (fr : Bool) (e : Ty) (xs : List e.den), es[j]? = some (.row fr e xs) → k + j ≠ n → e.flat = true ∨ (e.gcl = true ∧ Apart l (idsL e xs))
  | [], k, _, j, fr, e, xs, h, _ => by cases h
  | x :: r, k, h, j, fr, e, xs, hj, hne => by
    cases j with
    | zero =>
      simp only [List.getElem?_cons_zero, Option.some.injEq] at hj
      subst hj
      obtain ⟨h1, _⟩ := toP_oand.1 h
      have hkn : Nat.beq k n = false := by
        cases hb : Nat.beq k n with
        | false => rfl
        | true => exact absurd (Nat.eq_of_beq_eq_true hb) hne
      rw [hkn, Bool.false_or] at h1
      cases hf : e.flat with
      | true => exact .inl rfl
      | false =>
        rw [hf] at h1
        simp only [Bool.false_eq_true, if_false] at h1
        split at h1
        · rename_i hg; exact .inr ⟨hg, h1⟩
        · exact h1.elim
    | succ j =>
      have hr : toP (rowsApart n l (k + 1) r) := by
        cases x with
        | row fr2 e2 xs2 => exact (toP_oand.1 h).2
        | bx cs => exact h
        | dead => exact h
      exact rowsApart_get hr j fr e xs (by simpa using hj) (by omega)

theorem drop_turns {base m : Nat} {hp : Nat → Ent} {fr : Bool} {e : Ty} {xs : List e.den} (hm : hp m = .row fr e xs) (hok : (Ent.row fr e xs).ok V hp w m) (hmine : fr = true → V.has m → base ≤ V.blk m) :
    Turns V hp w (killO m) (V.freeze m base) (hpSet (hpMap (killO m) hp) m .dead) w := by
  have tn := freeze_turns (base := base) hm hok hmine
  have hrow : ∀ {n fr' e'} {xs' : List e'.den}, hpSet (hpMap (freezeC m fr e xs) hp) m .dead n = .row fr' e' xs' → hpSet (hpMap (killO m) hp) m .dead n = .row fr' e' xs' := by
    intro n fr' e' xs' h
    by_cases hn : n = m
    · simp only [hpSet, if_pos hn] at h; cases h
    · simp only [hpSet, if_neg hn] at h ⊢
      unfold hpMap at h ⊢
      cases hq : hp n with
      | row a1 a2 a3 => rw [hq] at h; exact h
      | bx cs => rw [hq] at h; cases h
      | dead => rw [hq] at h; cases h
  have hbx : ∀ {n cs}, hpSet (hpMap (freezeC m fr e xs) hp) m .dead n = .bx cs → ∃ cs', hpSet (hpMap (killO m) hp) m .dead n = .bx cs' := by
    intro n cs h
    by_cases hn : n = m
    · simp only [hpSet, if_pos hn] at h; cases h
    · simp only [hpSet, if_neg hn] at h ⊢
      unfold hpMap at h ⊢
      cases hq : hp n with
      | row a1 a2 a3 => rw [hq] at h; cases h
      | bx cs => exact ⟨_, rfl⟩
      | dead => rw [hq] at h; cases h
  have move : ∀ {c v}, C.ok (V.freeze m base) (hpSet (hpMap (freezeC m fr e xs) hp) m .dead) w c v → C.ok (V.freeze m base) (hpSet (hpMap (killO m) hp) m .dead) w c v := by
    intro c v h
    cases c with
    | own n => obtain ⟨f1, e1, x1, h1, h2⟩ := h; exact ⟨f1, e1, x1, hrow h1, h2⟩
    | pre n k => obtain ⟨f1, e1, x1, h1, h3, h2⟩ := h; exact ⟨f1, e1, x1, hrow h1, h3, h2⟩
    | brw n e' ys => obtain ⟨⟨f1, e1, x1, h1⟩, h2⟩ := h; exact ⟨⟨f1, e1, x1, hrow h1⟩, h2⟩
    | box n off => obtain ⟨h1, h2, cs, h3⟩ := h; exact ⟨h1, h2, hbx h3⟩
    | elt n i off => obtain ⟨h0, f1, e1, x1, h1, h2⟩ := h; exact ⟨h0, f1, e1, x1, hrow h1, h2⟩
    | fn f caps => exact ⟨h.1, fun n hn => ⟨(h.2 n hn).1, let ⟨_, cs, h3⟩ := h.2 n hn; hbx h3⟩⟩
    | _ => exact h
  intro c v h
  have hone := C.oneCell h
  have ht := tn c v h
  cases c with
  | own n =>
    show C.ok _ _ w (if n = m then .any else .own n) v
    split
    · exact hone
    · rename_i hn
      have h9 : C.ok (V.freeze m base) _ w (if n = m then .rd fr e xs else .own n) v := ht
      rw [if_neg hn] at h9
      exact move h9
  | pre n k =>
    show C.ok _ _ w (if n = m then .any else .pre n k) v
    split
    · exact hone
    · rename_i hn
      have h9 : C.ok (V.freeze m base) _ w (if n = m then .rd fr e (xs.take k) else .pre n k) v := ht
      rw [if_neg hn] at h9
      exact move h9
  | brw n e' ys =>
    show C.ok _ _ w (if n = m then .any else .brw n e' ys) v
    split
    · exact hone
    · rename_i hn
      have h9 : C.ok (V.freeze m base) _ w (if n = m then .rd false e' ys else .brw n e' ys) v := ht
      rw [if_neg hn] at h9
      exact move h9
  | elt n i o =>
    show C.ok _ _ w (if n = m then .any else .elt n i o) v
    split
    · exact hone
    · rename_i hn
      have h9 : C.ok (V.freeze m base) _ w (if n = m then .at_ fr e (xs.getD i e.dflt) o else .elt n i o) v := ht
      rw [if_neg hn] at h9
      exact move h9
  | _ => exact move ht

/-- A row is forgotten. -/
theorem rel_drop {st : St} {ts : Array Value} (r : Rel base M w0 V st ts w) {m : Nat} {fr : Bool} {e : Ty} {xs : List e.den} (hm : st.ent m = .row fr e xs) : Rel base M w0 (V.freeze m base) (st.drop m) ts w := by
  have mm := r.mem
  have hok := mm.ents m
  rw [hm] at hok
  exact r.freezeG hm (drop_turns (base := base) hm hok (fun hf hh => by subst hf; exact mm.mine m e xs hm hh))

theorem drop_ent {st : St} {m n : Nat} (hmn : n ≠ m) (hm : (st.ent m).live = true) : (st.drop m).ent n = (st.ent n).map (killO m) := by
  unfold St.drop
  rw [ent_set (by show m < (lmap _ _).length; rw [lmap_eq, List.length_map]; exact ent_lt hm)]
  simp only [hpSet, if_neg hmn]
  show (st.map (killO m)).ent n = _
  rw [ent_map]; rfl

theorem rel_drops {ts : Array Value} {n : Nat} {fr : Bool} {e : Ty} {xs : List e.den} : ∀ (l : List Nat) {V : Vl} {st : St}, Rel base M w0 V st ts w → st.ent n = .row fr e xs → (∀ m ∈ l, m ≠ n) → (∀ m ∈ l, ∃ fr e xs, st.ent m = .row fr e xs) → l.Nodup →
    ∃ V', Rel base M w0 V' (st.drops l) ts w ∧ (st.drops l).ent n = .row fr e xs ∧ V'.blk = V.blk ∧ V'.has = V.has
  | [], V, st, r, hn, _, _, _ => ⟨V, r, hn, rfl, rfl⟩
  | m :: l, V, st, r, hn, hne, hrow, hnd => by
    obtain ⟨f1, e1, x1, hm⟩ := hrow m (List.mem_cons_self ..)
    have hlive : (st.ent m).live = true := by rw [hm]; rfl
    have hnd' := List.nodup_cons.1 hnd
    have hd := rel_drops (n := n) (fr := fr) (e := e) (xs := xs) l (rel_drop r hm) ?_ (fun k hk => hne k (List.mem_cons_of_mem _ hk)) (fun k hk => ?_) hnd'.2
    · exact hd
    · rw [drop_ent (fun e => hne m (List.mem_cons_self ..) e.symm) hlive, hn]; rfl
    · obtain ⟨f2, e2, x2, hk2⟩ := hrow k (List.mem_cons_of_mem _ hk)
      exact ⟨f2, e2, x2, by rw [drop_ent (fun e => hnd'.1 (by rw [← e]; exact hk)) hlive, hk2]; rfl⟩

theorem dropList_mem {n : Nat} : ∀ {es : List Ent} {k m : Nat}, m ∈ dropList n k es → k ≤ m ∧ m ≠ n ∧ ∃ fr e xs, es[m - k]? = some (.row fr e xs)
  | [], k, m, h => by cases h
  | x :: es, k, m, h => by
    have next : m ∈ dropList n (k + 1) es → k ≤ m ∧ m ≠ n ∧ ∃ fr e xs, (x :: es)[m - k]? = some (.row fr e xs) := by
      intro h
      obtain ⟨h1, h2, fr, e, xs, h3⟩ := dropList_mem h
      refine ⟨by omega, h2, fr, e, xs, ?_⟩
      rw [show m - k = (m - (k + 1)) + 1 by omega]
      simpa using h3
    cases x with
    | bx cs => exact next h
    | dead => exact next h
    | row fr e xs =>
      unfold dropList at h
      split at h
      · exact next h
      · rename_i hc
        rcases List.mem_cons.1 h with rfl | h
        · refine ⟨Nat.le_refl _, fun e => hc ?_, fr, e, xs, by simp⟩
          subst e; simp
        · exact next h

theorem dropList_nodup {n : Nat} : ∀ (es : List Ent) (k : Nat), (dropList n k es).Nodup
  | [], k => List.nodup_nil
  | .bx cs :: es, k => dropList_nodup es (k + 1)
  | .dead :: es, k => dropList_nodup es (k + 1)
  | .row fr e xs :: es, k => by
    unfold dropList
    split
    · exact dropList_nodup es (k + 1)
    · refine List.nodup_cons.2 ⟨fun h => ?_, dropList_nodup es (k + 1)⟩
      have := (dropList_mem h).1
      omega

/-- The blocks that may have changed. -/
def Xof (V : Vl) (n : Nat) (l : List Nat) (b : Nat) : Prop := (V.has n ∧ b = V.blk n) ∨ b ∈ l

/-- A told row's content has changed, and the blocks that it tells. -/
theorem rel_marked {st : St} {ts : Array Value} (r : Rel base M w0 V st ts w) {n : Nat} {fr : Bool} {e : Ty} {xs ys : List e.den} (hn : st.ent n = .row fr e xs) (hlen : ys.length = xs.length) {l : List Nat} (hl : ∀ i ∈ l, V.Z false i)
    (hsz : w.heap.size ≤ w'.heap.size) (hblk : ∀ b, b < w.heap.size → ¬ Xof V n l b → w'.heap[b]? = w.heap[b]?) (hk : Kept base M w0 w')
    (hrow : V.has n → ∃ vals el vals' el', w.heap[V.blk n]? = some (.cells vals el (0, 0)) ∧ w'.heap[V.blk n]? = some (.cells vals' el' (0, 0)) ∧ vals'.size = vals.size ∧ RowAt (V.Z fr) w' e vals' ys)
    (hrows : ∀ m fr' e' xs', m ≠ n → st.ent m = .row fr' e' xs' → e'.flat = true ∨ (e'.gcl = true ∧ Apart l (idsL e' xs')))
    (keep : Bool) (hts : keep = true → toP (tsAparts l st.ts)) (hbs : keep = true → toP (bxAparts l st.hp)) (hlids : ∀ i ∈ (Ent.row fr e ys).lids, i ∈ (Ent.row fr e xs).lids) :
    Rel base M w0 V { (st.map (killU keep)) with hp := lset (st.map (killU keep)).hp n (.row fr e ys) } ts w' := by
  have m := r.mem
  have hlive : (st.ent n).live = true := by rw [hn]; rfl
  have hlt : n < st.hp.length := ent_lt hlive
  have hent : (St.mk (st.map (killU keep)).ts (lset (st.map (killU keep)).hp n (.row fr e ys))).ent = hpSet (hpMap (killU keep) st.ent) n (.row fr e ys) := by
    rw [ent_set (by show n < (lmap _ _).length; rw [lmap_eq, List.length_map]; exact hlt)]
    congr 1
    exact ent_map st _
  have hokn := m.ents n
  rw [hn] at hokn
  -- blocks of other names
  have nX : ∀ k, k ≠ n → (st.ent k).live = true → V.has k → ¬ Xof V n l (V.blk k) := by
    intro k hkn hlk hhk hx
    rcases hx with ⟨h1, h2⟩ | h1
    · exact hkn (m.dist k n hlk hlive hhk h1 h2)
    · exact (m.own k hlk hhk).2.2 (hl _ h1)
  have bsame : ∀ k, k ≠ n → (st.ent k).live = true → V.has k → w'.heap[V.blk k]? = w.heap[V.blk k]? := fun k hkn hlk hhk => hblk _ (m.own k hlk hhk).2.1 (nX k hkn hlk hhk)
  -- told words
  have zX : ∀ i, V.Z false i → i ∉ l → ¬ Xof V n l i := by
    intro i hz hil hx
    rcases hx with ⟨h1, h2⟩ | h1
    · subst h2; exact (m.own n hlive h1).2.2 hz
    · exact hil h1
  have zsame : ∀ i, V.Z false i → i ∉ l → w'.heap[i]? = w.heap[i]? := fun i hz hil => hblk i (m.z_lt hz) (zX i hz hil)
  have hval : ∀ k, k ≠ n → hpSet (hpMap (killU keep) st.ent) n (.row fr e ys) k = (st.ent k).map (killU keep) := fun k hkn => by simp only [hpSet, if_neg hkn]; rfl
  have hvn : hpSet (hpMap (killU keep) st.ent) n (.row fr e ys) n = .row fr e ys := by simp only [hpSet, if_true]
  have hasn : ∀ {h : Nat} {v : Value}, hasRow V w n e h v → hasRow V w' n e h v := by
    intro h v k
    rcases k with k | ⟨k1, cap, vals, el, k2, k3, k4, k5⟩
    · exact .inl k
    · obtain ⟨vals0, el0, vals', el', q1, q2, q3, _⟩ := hrow k1
      rw [q1] at k3
      injection k3 with k3
      injection k3 with k3 _ _
      subst k3
      exact .inr ⟨k1, cap, vals', el', k2, q2, by rw [q3]; exact k4, k5⟩
  have hask : ∀ {k h : Nat} {e' : Ty} {v : Value}, k ≠ n → (st.ent k).live = true → hasRow V w k e' h v → hasRow V w' k e' h v := by
    intro k h e' v hkn hlk q
    rcases q with q | ⟨k1, cap, vals, el, k2, k3, k4, k5⟩
    · exact .inl q
    · exact .inr ⟨k1, cap, vals, el, k2, by rw [bsame k hkn hlk k1]; exact k3, k4, k5⟩
  have hrow' : ∀ {k : Nat} {fr' : Bool} {e' : Ty} {xs' : List e'.den}, k ≠ n → st.ent k = .row fr' e' xs' → hpSet (hpMap (killU keep) st.ent) n (.row fr e ys) k = .row fr' e' xs' := by
    intro k fr' e' xs' hkn h
    rw [hval k hkn, h]; rfl
  have hbx' : ∀ {k : Nat} {cs : List C}, st.ent k = .bx cs → ∃ cs', hpSet (hpMap (killU keep) st.ent) n (.row fr e ys) k = .bx cs' := by
    intro k cs h
    have hkn : k ≠ n := fun e => by subst e; rw [hn] at h; cases h
    exact ⟨_, by rw [hval k hkn, h]; rfl⟩
  have cell : ∀ {c : C} {v : Value}, C.ok V st.ent w c v → (keep = true → toP (c.aparts l)) → C.ok V (hpSet (hpMap (killU keep) st.ent) n (.row fr e ys)) w' (killU keep c) v := by
    intro c v h ha
    cases c with
    | val u => exact h
    | tru => exact h
    | fls => exact h
    | any => exact h
    | rd fr' e' zs => exact C.oneCell h
    | brw k e' zs => exact C.oneCell h
    | at_ fr' t d off => exact C.oneCell h
    | clo fr' f t d => exact C.oneCell h
    | own k =>
      obtain ⟨fr', e', xs', h1, h2⟩ := h
      by_cases hkn : k = n
      · subst hkn
        rw [hn] at h1
        injection h1 with q1 q2 q3
        subst q1; subst q2; cases q3
        exact ⟨fr, e, ys, hvn, by rw [hlen]; exact hasn h2⟩
      · exact ⟨fr', e', xs', hrow' hkn h1, hask hkn (by rw [h1]; rfl) h2⟩
    | pre k h0 =>
      obtain ⟨fr', e', xs', h1, h3, h2⟩ := h
      by_cases hkn : k = n
      · subst hkn
        rw [hn] at h1
        injection h1 with q1 q2 q3
        subst q1; subst q2; cases q3
        exact ⟨fr, e, ys, hvn, by rw [hlen]; exact h3, hasn h2⟩
      · exact ⟨fr', e', xs', hrow' hkn h1, h3, hask hkn (by rw [h1]; rfl) h2⟩
    | box k off => obtain ⟨h1, h2, cs, h3⟩ := h; exact ⟨h1, h2, hbx' h3⟩
    | fn g caps => exact ⟨h.1, fun k hk => ⟨(h.2 k hk).1, let ⟨_, cs, h3⟩ := h.2 k hk; hbx' h3⟩⟩
    | elt k i off =>
      obtain ⟨h0, fr', e', xs', h1, h2, h3⟩ := h
      by_cases hkn : k = n
      · subst hkn
        rw [hn] at h1
        injection h1 with q1 q2 q3
        subst q1; subst q2; cases q3
        exact ⟨h0, fr, e, ys, hvn, by rw [hlen]; exact h2, h3⟩
      · exact ⟨h0, fr', e', xs', hrow' hkn h1, h2, h3⟩
    | rg fr' wh e' b zs =>
      show C.ok V _ w' (if keep && e'.gcl then .rg fr' wh e' b zs else .any) v
      split
      · rename_i hkg
        rw [Bool.and_eq_true] at hkg
        have h' : RdC (V.Z fr') w (.gs wh e') [v] (b, zs) := h
        have ha' : Apart l (ids (.gs wh e') (b, zs)) := by
          have h9 : toP (if e'.gcl then some (Apart l (ids (.gs wh e') (b, zs))) else none) := ha hkg.1
          rw [if_pos hkg.2] at h9
          exact h9
        refine RdC.by_ids (.gs wh e') hkg.2 h' (fun i hi => ?_)
        have hz := RdC.ids_in _ h' i hi
        exact ⟨hz, zsame i (Vl.Z_all hz) (fun hil => ha' i hil hi)⟩
      · exact C.oneCell h
  have cells : ∀ {cs : List C} {vs : List Value}, okAll V st.ent w cs vs → (keep = true → toP (csAparts l cs)) → okAll V (hpSet (hpMap (killU keep) st.ent) n (.row fr e ys)) w' (lmap (killU keep) cs) vs := by
    intro cs vs h ha
    rw [lmap_eq]
    refine ⟨by rw [List.length_map]; exact h.1, fun j c v hc hv => ?_⟩
    rw [List.getElem?_map] at hc
    cases hx : cs[j]? with
    | none => rw [hx] at hc; cases hc
    | some y =>
      rw [hx] at hc
      simp only [Option.map_some, Option.some.injEq] at hc
      subst hc
      exact cell (h.2 j y v hx hv) (fun hkp => csAparts_get (ha hkp) y (List.mem_of_getElem? hx))
  refine ⟨by show (lmap _ _).length = _; rw [lmap_eq, List.length_map]; exact r.len, fun i s v hs hv => ?_, ?_⟩
  · rw [hent]
    have hs' : (lmap (S.map (killU keep)) st.ts)[i]? = some s := hs
    rw [lmap_eq, List.getElem?_map] at hs'
    cases hx : st.ts[i]? with
    | none => rw [hx] at hs'; cases hs'
    | some x =>
      rw [hx] at hs'
      simp only [Option.map_some, Option.some.injEq] at hs'
      subst hs'
      have h0 := r.slots i x v hx hv
      have ha : keep = true → x.aparts l := fun hkp => tsAparts_get (hts hkp) x (List.mem_of_getElem? hx)
      cases x with
      | c y => exact cell h0 ha
      | agg cs => obtain ⟨vs, h1, h2⟩ := h0; exact ⟨vs, h1, cells h2 ha⟩
      | tup zs =>
        obtain ⟨vs, h1, h2, h3⟩ := h0
        refine ⟨vs, h1, by show (lmap _ zs).length = _; rw [lmap_eq, List.length_map]; exact h2, fun j y v hy hv => ?_⟩
        have hy' : (lmap (fun v => (v.1, lmap (killU keep) v.2)) zs)[j]? = some y := hy
        rw [lmap_eq, List.getElem?_map] at hy'
        cases hz : zs[j]? with
        | none => rw [hz] at hy'; cases hy'
        | some z =>
          rw [hz] at hy'
          simp only [Option.map_some, Option.some.injEq] at hy'
          subst hy'
          have h4 := h3 j z v hz hv
          have hz' : keep = true → toP (csAparts l z.2) := fun hkp => tupAparts_get (ha hkp) z (List.mem_of_getElem? hz)
          unfold okTop at h4 ⊢
          simp only
          split
          · rename_i hb; rw [if_pos hb] at h4; obtain ⟨us, k1, k2⟩ := h4; exact ⟨us, k1, cells k2 hz'⟩
          · rename_i hb; rw [if_neg hb] at h4; exact cells h4 hz'
      | und => exact h0
      | any => trivial
      | arr e' zs => exact S.arr_ext h0
  · rw [hent]
    have hcases : ∀ k, (hpSet (hpMap (killU keep) st.ent) n (.row fr e ys) k).live = true → (st.ent k).live = true := by
      intro k h
      by_cases hkn : k = n
      · subst hkn; exact hlive
      · rw [hval k hkn, map_live] at h; exact h
    refine ⟨fun k => ?_, fun k cs h => ?_, fun k h hh => ?_, fun k e2 xs2 h hh => ?_, fun k k' h h' hh hh' he => m.dist k k' (hcases k h) (hcases k' h') hh hh' he, m.z0, fun b hb => ?_, hk, fun k h hh => ?_, fun b hb => ?_, fun k hh i hi => ?_⟩
    · by_cases hkn : k = n
      · subst hkn
        rw [hvn]
        rcases hokn with ⟨k1, k2⟩ | ⟨k1, vals, el, k2, k3, k4⟩
        · exact .inl ⟨k1, by rw [k2] at hlen; exact List.length_eq_zero_iff.1 hlen⟩
        · obtain ⟨vals0, el0, vals', el', q1, q2, q3, q4⟩ := hrow k1
          exact .inr ⟨k1, vals', el', q2, by rw [hlen]; exact k3, q4⟩
      · rw [hval k hkn]
        have h1 := m.ents k
        cases hne : st.ent k with
        | dead => trivial
        | bx cs =>
          rw [hne] at h1
          obtain ⟨vals, el, h2, h3⟩ := h1
          refine ⟨vals, el, by rw [bsame k hkn (by rw [hne]; rfl) (m.box k cs hne)]; exact h2, cells h3 (fun hkp => bxAparts_get (hbs hkp) cs ?_)⟩
          have hk1 : nth .dead st.hp k = .bx cs := hne
          rw [nth_eq] at hk1
          cases hx : st.hp[k]? with
          | none => rw [hx] at hk1; cases hk1
          | some y => rw [hx] at hk1; simp only [Option.getD_some] at hk1; subst hk1; exact List.mem_of_getElem? hx
        | row fr' e' xs' =>
          rw [hne] at h1
          rcases h1 with h2 | ⟨h2, vals, el, h3, h4, h5⟩
          · exact .inl h2
          · refine .inr ⟨h2, vals, el, by rw [bsame k hkn (by rw [hne]; rfl) h2]; exact h3, h4, fun i hi => ?_⟩
            obtain ⟨es, k1, k2, k3⟩ := h5 i hi
            refine ⟨es, k1, k2, ?_⟩
            rcases hrows k fr' e' xs' hkn hne with hf | ⟨hg, ha⟩
            · exact k3.flat hf
            · refine RdC.by_ids e' hg k3 (fun i' hi' => ?_)
              have hz := RdC.ids_in e' k3 i' hi'
              exact ⟨hz, zsame i' (Vl.Z_all hz) (fun hil => ha i' hil (List.mem_flatMap.2 ⟨_, List.getElem_mem hi, hi'⟩))⟩
    · by_cases hkn : k = n
      · subst hkn; rw [hvn] at h; cases h
      · rw [hval k hkn] at h
        cases hne : st.ent k with
        | bx cs' => exact m.box k cs' hne
        | dead => rw [hne] at h; cases h
        | row fr' e' xs' => rw [hne] at h; cases h
    · obtain ⟨k1, k2, k3⟩ := m.own k (hcases k h) hh
      exact ⟨k1, by omega, k3⟩
    · by_cases hkn : k = n
      · subst hkn
        rw [hvn] at h
        injection h with h1 h2 h3
        subst h1
        exact m.mine k e xs hn hh
      · rw [hval k hkn] at h
        cases hne : st.ent k with
        | row fr' e' xs' => rw [hne] at h; exact m.mine k e2 xs2 (by rw [hne]; exact h) hh
        | dead => rw [hne] at h; cases h
        | bx cs => rw [hne] at h; cases h
    · obtain ⟨h1, h2⟩ := m.z1 b hb
      exact ⟨h1, by omega⟩
    · by_cases hkn : k = n
      · subst hkn
        rw [hvn] at h
        refine m.lent k ?_ hh
        rw [hn]
        cases fr with
        | true => exact False.elim h
        | false => exact h
      · rw [hval k hkn] at h
        exact m.lent k (lentish_map h) hh
    · obtain ⟨q1, q2⟩ := m.lentb b hb
      have hn0 : 0 ≠ n := fun e => by subst e; rw [hn] at q1; cases q1
      rw [hval 0 hn0, map_isBx]
      exact ⟨q1, q2⟩
    · by_cases hkn : k = n
      · subst hkn
        rw [hvn] at hi
        exact m.lids k hh i (by rw [hn]; exact hlids i hi)
      · rw [hval k hkn, lids_map] at hi
        exact m.lids k hh i hi
end
end Go.SX


/- Marks on told rows: rules. No condition. -/
namespace Go.SX
open Go.RowKit
set_option linter.unusedVariables false
set_option linter.unusedSimpArgs false

/-- The contract of a function that writes into a row, and into the slices that its elements hold. -/
structure MT where
  t : Ty
  pre : t.den → Int → Prop
  F : t.den → Int → Int
  G : t.den → Int → t.den

def sameT : List Ent → List Ent → Option Prop
  | [.row _ e xs], [.row _ e' ys] => if h : e' = e then oand (some (ys.length = xs.length)) (some (idsL e (castL h ys) = idsL e xs)) else some False
  | _, _ => some False

def vcMutT (T : Tab) (Γ : FuncId → Option PC) (R : FuncId → Option Rule) (fn : Func) (mt : MT) (A : mt.t.den → Int → Nat → Option Ann) : Prop :=
  match fn.body with
  | some code => ∀ d k, mt.t.wf d → IntKind.i64.min ≤ k ∧ k ≤ IntKind.i64.max → (ids mt.t d).Nodup → mt.pre d k →
      toP (sameT (fresh mt.t d 0).2 (fresh mt.t (mt.G d k) 0).2) ∧ vc T Γ R code (A d k) (startM mt.t d k fn.ntmps) fun e _ st => vcPostM T fn mt.t (mt.F d k) (mt.G d k) e st
  | none => False

/-- The rest of it. -/
def markK (n : Nat) (l : List Nat) (out : Int) (fr : Bool) (e : Ty) (ys : List e.den) (st : St) (K : S → St → Prop) : Prop :=
  toP (oand (rowsApart n l 0 st.hp) (oand (tsAparts l st.ts) (bxAparts l st.hp))) ∧ K (.c (.val (.int .i64 out))) { (st.map (killU true)) with hp := lset (st.map (killU true)).hp n (.row fr e ys) }

def markRule (mt : MT) : Rule := fun ss st K =>
  match ss with
  | [s, .c (.val (.int .i64 k))] =>
    match lendS st.ent mt.t s with
    | some (d, [some n]) =>
      match st.ent n, (fresh mt.t (mt.G d k) 0).2 with
      | .row fr e xs, [.row _ e' ys] =>
        if e' = e then (if fr || Nat.beq n 0 then mt.pre d k ∧ (ids mt.t d).Nodup ∧ markK n (ids mt.t d) (mt.F d k) fr e' ys (st.drops (dropList n 0 st.hp)) K else False)
        else False
      | _, _ => False
    | some (d, [none]) => mt.pre d k ∧ (ids mt.t d).Nodup ∧ K (.c (.val (.int .i64 (mt.F d k)))) st
    | _ => False
  | _ => False

/-! A slice of flat elements that a told row holds. -/

/-- Told slices of flat elements alone. -/
def Ty.g1 : Ty → Bool
  | .gs _ e => e.flat
  | .sl _ => false
  | .st t => t.g1
  | .pr a b => a.g1 && b.g1
  | .ptr _ => false
  | .clo _ _ => false
  | _ => true

def lensG (b : Nat) (e : Ty) (n : Nat) : (t : Ty) → t.den → Prop
  | .gs wh e', d => if e' = e ∧ wh = true then (d.1 = b → d.2 ≠ [] → d.2.length = n) else (d.1 = b → d.2 = [])
  | .st t, d => lensG b e n t d
  | .pr x y, d => lensG b e n x d.1 ∧ lensG b e n y d.2
  | _, _ => True

def updG (b : Nat) (e : Ty) (new : List e.den) : (t : Ty) → t.den → t.den
  | .gs wh e', d => if h : e' = e then (if d.1 = b ∧ d.2.length = new.length then (d.1, castL h.symm new) else d) else d
  | .st t, d => updG b e new t d
  | .pr x y, d => (updG b e new x d.1, updG b e new y d.2)
  | .sl _, d => d
  | .int _, d => d
  | .bool, d => d
  | .str, d => d
  | .ptr _, d => d
  | .clo _ _, d => d

def ruleIn (e : Ty) (pre : List e.den → Int → Prop) (F : List e.den → Int → Int) (G : List e.den → Int → List e.den) : Rule := fun ss st K =>
  match ss with
  | [.c (.rg fr wh e' b ys0), .c (.val (.int .i64 k))] =>
    if h : e' = e then
      match st.ent 0 with
      | .row false e0 xs =>
        if wh && e0.g1 then
          pre (castL h ys0) k ∧ (G (castL h ys0) k).length = ys0.length ∧ (ys0 ≠ [] → b ∈ idsL e0 xs ∧ (∀ x ∈ xs, lensG b e ys0.length e0 x) ∧ toP (rowsApart 0 [b] 0 st.hp)) ∧ (ys0 = [] → toP (rowsApart 0 [] 0 st.hp)) ∧
            K (.c (.val (.int .i64 (F (castL h ys0) k)))) { (st.map (killU false)) with hp := lset (st.map (killU false)).hp 0 (.row false e0 (xs.map (updG b e (G (castL h ys0) k) e0))) }
        else False
      | _ => False
    else False
  | _ => False

def bothRule (e : Ty) (pre : List e.den → Int → Prop) (F : List e.den → Int → Int) (G : List e.den → Int → List e.den) : Rule := fun ss st K =>
  match ss with
  | .c (.rg _ _ _ _ _) :: _ => ruleIn e pre F G ss st K
  | _ => ruleOf ⟨.sl e, pre, F, G⟩ ss st K

section
variable {P : Program} {T : Tab} {Γ : FuncId → Option PC} {R : FuncId → Option Rule} {base : Nat} {M : LM} {w0 : World} {V : Vl} {hp : Nat → Ent} {w w' : World}

theorem flat_gcl : ∀ {t : Ty}, t.flat = true → t.gcl = true
  | .gs _ _, h => by cases h
  | .sl _, h => by cases h
  | .st t, h => flat_gcl (t := t) h
  | .pr a b, h => by
    have h' : (a.flat && b.flat) = true := h
    rw [Bool.and_eq_true] at h'
    show (a.gcl && b.gcl) = true
    rw [flat_gcl h'.1, flat_gcl h'.2]; rfl
  | .int _, _ => rfl
  | .bool, _ => rfl
  | .str, _ => rfl
  | .ptr _, h => by cases h
  | .clo _ _, h => by cases h

theorem g1_gcl : ∀ {t : Ty}, t.g1 = true → t.gcl = true
  | .gs _ e, h => flat_gcl (t := e) h
  | .sl _, h => by cases h
  | .st t, h => g1_gcl (t := t) h
  | .pr a b, h => by
    have h' : (a.g1 && b.g1) = true := h
    rw [Bool.and_eq_true] at h'
    show (a.gcl && b.gcl) = true
    rw [g1_gcl h'.1, g1_gcl h'.2]; rfl
  | .int _, _ => rfl
  | .bool, _ => rfl
  | .str, _ => rfl
  | .ptr _, h => by cases h
  | .clo _ _, h => by cases h

/-- The told blocks of what is lent are those of its rows. -/
def entIds : Ent → List Nat
  | .row _ e xs => idsL e xs
  | _ => []

theorem fresh_ids {p : Ty → Bool} : ∀ (t : Ty), t.lendBy p = true → ∀ d : t.den, ids t d = (fresh t d 0).2.flatMap entIds
  | .int _, _, _ => rfl
  | .bool, _, _ => rfl
  | .str, _, _ => rfl
  | .sl e, _, d => by show idsL e d = List.flatMap entIds [Ent.row true e d]; simp [entIds]
  | .st t, h, d => fresh_ids t h d
  | .pr a b, h, d => by
    have h' : (a.lendBy p && b.lendBy p) = true := h
    rw [Bool.and_eq_true] at h'
    show ids a d.1 ++ ids b d.2 = (lapp (fresh a d.1 0).2 (fresh b d.2 (0 + llen (fresh a d.1 0).2)).2).flatMap entIds
    rw [lapp_eq, List.flatMap_append, fresh_ents b, ← fresh_ids a h'.1, ← fresh_ids b h'.2]
  | .gs _ _, h, _ => by cases h
  | .ptr _, h, _ => by cases h
  | .clo _ _, h, _ => by cases h

/-- What such a call may write. -/
def lentM (has : Prop) (b0 : Nat) (l : List Nat) : LM := ⟨fun b => (has ∧ b = b0) ∨ b ∈ l, fun b j => j = 0 ∧ has ∧ b = b0, fun _ => True, fun _ _ => trivial, fun _ => False⟩

theorem mutT_run (hm : P.follows .mixedOrders = true) (hT : TabOk P T) (hΓ : GamOk P Γ) (hR : RulesOk P R) {f : FuncId} {fn : Func} (hf : P.funcs[f]? = some fn) {mt : MT} {A : mt.t.den → Int → Nat → Option Ann}
    (h : vcMutT T Γ R fn mt A) {v : Value} {d : mt.t.den} {k : Int} {e : Ty} {xs : List e.den} {b0 : Nat} {has : Prop} (hes : (fresh mt.t d 0).2 = [.row true e xs]) (hg : e.gcl = true)
    (hslot : ∀ V' hp', hp' 0 = .row false e xs → (V'.has 0 ↔ has) → V'.blk 0 = b0 → S.ok V' hp' w (topS (isSt mt.t, (fresh mt.t d 0).1)) v)
    (hnil : ¬ has → xs = []) (hrow : has → ∃ vals el, w.heap[b0]? = some (.cells vals el (0, 0)) ∧ xs.length ≤ lenMax ∧ RowAt (fun i => i ∈ idsL e xs) w e vals xs) (hb : has → b0 ∉ idsL e xs) (hlt : ∀ i ∈ idsL e xs, i < w.heap.size)
    (hwf : mt.t.wf d) (hkr : IntKind.i64.min ≤ k ∧ k ≤ IntKind.i64.max) (hnd : (ids mt.t d).Nodup) (hpre : mt.pre d k) (hcl : (Ty.sl e).wf xs) :
    Calls P f #[v, .int .i64 k] w fun e1 w' => e1 = .returned (.int .i64 (mt.F d k)) ∧ (IntKind.i64.min ≤ mt.F d k ∧ mt.F d k ≤ IntKind.i64.max) ∧ ∃ (fr : Bool) (ys : List e.den), (fresh mt.t (mt.G d k) 0).2 = [.row fr e ys] ∧ ys.length = xs.length ∧ idsL e ys = idsL e xs ∧
      Kept w.heap.size (lentM has b0 (idsL e xs)) w w' ∧ (has → ∃ vals' el', w'.heap[b0]? = some (.cells vals' el' (0, 0)) ∧ RowAt (fun i => i ∈ idsL e xs) w' e vals' ys) := by
  unfold vcMutT at h
  split at h
  case h_2 => exact h.elim
  rename_i code hbd
  obtain ⟨hsame, hvc⟩ := h d k hwf hkr hnd hpre
  obtain ⟨fr1, ys, hes', hlen, hids⟩ : ∃ (fr1 : Bool) (ys : List e.den), (fresh mt.t (mt.G d k) 0).2 = [.row fr1 e ys] ∧ ys.length = xs.length ∧ idsL e ys = idsL e xs := by
    rw [hes] at hsame
    unfold sameT at hsame
    split at hsame
    · rename_i fr2 e2 xs2 fr3 e3 ys3 q1 q2
      split at hsame
      · rename_i he
        subst he
        injection q1 with q1 _
        injection q1 with q3 q4 q5
        subst q4; cases q5
        obtain ⟨h1, h2⟩ := toP_oand.1 hsame
        exact ⟨fr3, ys3, q2, h1, h2⟩
      · exact hsame.elim
    · exact hsame.elim
  let V0 : Vl := ⟨fun _ => b0, fun j => j = 0 ∧ has, fun b => b ∈ idsL e xs, fun _ => False⟩
  have hent : ∀ j, (startM mt.t d k fn.ntmps).ent j = if j = 0 then .row false e xs else .dead := by
    intro j
    show nth .dead (lmap Ent.old (fresh mt.t d 0).2) j = _
    rw [hes]
    cases j with
    | zero => rfl
    | succ j => rfl
  have h0 : (startM mt.t d k fn.ntmps).ent 0 = .row false e xs := by rw [hent]; rfl
  have hdead : ∀ j, j ≠ 0 → (startM mt.t d k fn.ntmps).ent j = .dead := fun j hj => by rw [hent, if_neg hj]
  have hlv : ∀ j, ((startM mt.t d k fn.ntmps).ent j).live = true → j = 0 := by
    intro j hj
    by_cases e : j = 0
    · exact e
    · rw [hdead j e] at hj; cases hj
  have mem0 : Mem w.heap.size (lentM has b0 (idsL e xs)) w V0 (startM mt.t d k fn.ntmps).ent w := by
    refine ⟨fun j => ?_, fun j cs hj => ?_, fun j hj hh => ?_, fun j e ys hj => ?_, fun j j' hj hj' _ _ _ => ?_, fun b h => ⟨hlt b h, trivial⟩, fun b h => h.elim, ⟨rfl, rfl, rfl, Nat.le_refl _, fun _ _ _ => rfl, fun b v2 e2 _ _ hv2 => ⟨v2, e2, hv2, rfl⟩⟩, fun j hj hh => ?_, fun b hb => hb.elim, fun j hh q hq => ?_⟩
    · by_cases ej : j = 0
      · subst ej
        rw [h0]
        by_cases hh : has
        · obtain ⟨vals, el, q1, q2, q3⟩ := hrow hh
          refine .inr ⟨⟨rfl, hh⟩, vals, el, q1, q2, fun i hi => ?_⟩
          obtain ⟨es, k1, k2, k3⟩ := q3 i hi
          exact ⟨es, k1, k2, k3.mono (fun b hb => .inr ⟨rfl, hb⟩) (fun _ _ => rfl)⟩
        · exact .inl ⟨fun h => hh h.2, hnil hh⟩
      · rw [hdead j ej]; trivial
    · by_cases ej : j = 0
      · subst ej; rw [h0] at hj; cases hj
      · rw [hdead j ej] at hj; cases hj
    · obtain ⟨vals, el, q1, _⟩ := hrow hh.2
      refine ⟨.inr (.inl ⟨hh.2, rfl⟩), (Array.getElem?_eq_some_iff.1 q1).1, fun hz => ?_⟩
      rcases hz with hz | ⟨_, hz⟩
      · exact hz
      · exact hb hh.2 hz
    · by_cases ej : j = 0
      · subst ej; rw [h0] at hj; injection hj with q; cases q
      · rw [hdead j ej] at hj; cases hj
    · rw [hlv j hj, hlv j' hj']
    · by_cases ej : j = 0
      · exact ⟨ej, hh.2, rfl⟩
      · rw [hdead j ej] at hj; exact False.elim hj
    · by_cases ej : j = 0
      · subst ej
        rw [h0] at hq
        have hq' : q ∈ (if e.hasG then idsL e xs else []) := hq
        split at hq'
        · exact fun _ => .inr hq'
        · cases hq'
      · rw [hdead j ej] at hq; cases hq
  have hs0 := hslot V0 (startM mt.t d k fn.ntmps).ent h0 ⟨fun h => h.2, fun h => ⟨rfl, h⟩⟩ rfl
  have sat0 : Sat w.heap.size (lentM has b0 (idsL e xs)) w (startM mt.t d k fn.ntmps) { tmps := #[v, .int .i64 k] ++ Array.replicate (fn.ntmps - 2) undef, defers := [] } w := by
    refine ⟨rfl, V0, ⟨?_, fun i s' v' hs' hv' => ?_, mem0⟩⟩
    · show (topS _ :: .c _ :: lrep S.und (fn.ntmps - 2)).length = _
      rw [lrep_eq]; simp; omega
    · have hs' : (topS (isSt mt.t, (fresh mt.t d 0).1) :: .c (.val (.int .i64 k)) :: lrep S.und (fn.ntmps - 2))[i]? = some s' := hs'
      have hv' : ([v, Value.int .i64 k] ++ List.replicate (fn.ntmps - 2) undef)[i]? = some v' := by
        rw [← hv']
        simp only [Array.getElem?_append, List.getElem?_append, List.getElem?_toArray, List.size_toArray, Array.getElem?_replicate, List.getElem?_replicate]
      cases i with
      | zero =>
        simp only [List.getElem?_cons_zero, Option.some.injEq, List.cons_append] at hs' hv'
        subst hs'; subst hv'; exact hs0
      | succ i =>
        cases i with
        | zero =>
          simp only [List.getElem?_cons_succ, List.getElem?_cons_zero, Option.some.injEq, List.cons_append] at hs' hv'
          subst hs'; subst hv'; exact ⟨rfl, hkr⟩
        | succ i =>
          simp only [List.getElem?_cons_succ, List.cons_append, List.nil_append, lrep_eq, List.getElem?_replicate] at hs' hv'
          split at hs'
          · rename_i hi
            injection hs' with hs'; subst hs'
            rw [if_pos hi] at hv'
            injection hv' with hv'; exact hv'.symm
          · cases hs'
  refine calls_of_wp (args := #[v, .int .i64 k]) hf hbd (vc_ok hm hT hΓ hR code (A d k) _ _ _ _ w sat0 hvc (fun e1 A' st' a' w' hk hs' => ?_))
  obtain ⟨hd, V1, r1⟩ := hs'
  have key : vcPostM T fn mt.t (mt.F d k) (mt.G d k) e1 st' → (∃ i, e1 = .exit i) ∨ ∃ v', (results fn a'.tmps).run P w' = .ok v' w' ∧ v' = .int .i64 (mt.F d k) ∧ (IntKind.i64.min ≤ mt.F d k ∧ mt.F d k ≤ IntKind.i64.max) ∧ toP (rowsAre st'.ent 0 [.row fr1 e ys]) := by
    intro hp
    unfold vcPostM at hp
    split at hp
    · exact hp.elim
    · right
      split at hp
      · rename_i rr hss
        obtain ⟨hp1, hp2⟩ := hp
        subst hp1
        rw [hes'] at hp2
        obtain ⟨vs, e1, e2, e3⟩ := resAll_run hT r1 hss
        match vs, e1 with
        | [x], _ =>
          have h2 := ok_int (V := V1) (hp := st'.ent) (w := w') (e2 0 _ x rfl rfl)
          exact ⟨_, results_run e3, h2.1, h2.2, hp2⟩
      · exact hp.elim
  have fin : toP (rowsAre st'.ent 0 [.row fr1 e ys]) → (has → ∃ vals' el', w'.heap[b0]? = some (.cells vals' el' (0, 0)) ∧ RowAt (fun i => i ∈ idsL e xs) w' e vals' ys) := by
    intro hp hh
    have m1 := r1.mem
    have hz := rowsAre_get hp 0 fr1 e ys rfl
    rw [Nat.zero_add] at hz
    have h1 := m1.ents 0
    rw [hz] at h1
    rcases h1 with ⟨c1, c2⟩ | ⟨c1, vals2, el2, c2, c3, c4⟩
    · obtain ⟨vals, el, q1, _⟩ := hrow hh
      obtain ⟨v3, e3, h3, _⟩ := m1.kept.shape b0 vals el (Array.getElem?_eq_some_iff.1 q1).1 (.inl ⟨hh, rfl⟩) q1
      exact ⟨v3, e3, h3, by rw [c2]; intro i hi; exact absurd hi (Nat.not_lt_zero _)⟩
    · by_cases hlen0 : (e.flat || e.hasG) = true
      · obtain ⟨_, _, hbl⟩ := m1.lent 0 (by rw [hz]; exact hlen0) c1
        rw [hbl] at c2
        refine ⟨vals2, el2, c2, fun i hi => ?_⟩
        obtain ⟨es, k1, k2, k3⟩ := c4 i hi
        exact ⟨es, k1, k2, RdC.by_ids e hg k3 (fun i' hi' => ⟨by rw [← hids]; exact List.mem_flatMap.2 ⟨_, List.getElem_mem hi, hi'⟩, rfl⟩)⟩
      · exact absurd (gcl_lent hg) hlen0
  have hk' := key hk
  cases e1 with
  | normal =>
    rcases hk' with ⟨i, h⟩ | ⟨v', h1, h2, h3, h4⟩
    · cases h
    · exact ⟨hd, v', h1, by rw [h2], h3, fr1, ys, hes', hlen, hids, r1.mem.kept, fin h4⟩
  | exit i => exact hk.elim
  | ret =>
    rcases hk' with ⟨i, h⟩ | ⟨v', h1, h2, h3, h4⟩
    · cases h
    · exact ⟨hd, v', h1, by rw [h2], h3, fr1, ys, hes', hlen, hids, r1.mem.kept, fin h4⟩
where gcl_lent : ∀ {t : Ty}, t.gcl = true → (t.flat || t.hasG) = true
  | .gs _ _, _ => rfl
  | .sl _, h => by cases h
  | .st t, h => gcl_lent (t := t) h
  | .pr a b, h => by
    have h' : (a.gcl && b.gcl) = true := h
    rw [Bool.and_eq_true] at h'
    have h1 := gcl_lent h'.1
    have h2 := gcl_lent h'.2
    show (a.flat && b.flat || (a.hasG || b.hasG)) = true
    cases ha : a.hasG <;> cases hb : b.hasG <;> simp_all
  | .int _, _ => rfl
  | .bool, _ => rfl
  | .str, _ => rfl
  | .ptr _, h => by cases h
  | .clo _ _, h => by cases h
end
end Go.SX


/- Marks on told rows: the rules hold. No condition. -/
namespace Go.SX
open Go.RowKit
set_option linter.unusedVariables false
set_option linter.unusedSimpArgs false

section
variable {P : Program} {T : Tab} {Γ : FuncId → Option PC} {R : FuncId → Option Rule} {base : Nat} {M : LM} {w0 : World} {V : Vl} {hp : Nat → Ent} {w w' : World}

/-- What a call that writes lent blocks leaves for its caller's caller. -/
theorem kept_lent {has : Prop} {b0 : Nat} {l : List Nat} (k0 : Kept base M w0 w) (k : Kept w.heap.size (lentM has b0 l) w w') (h1 : has → base ≤ b0 ∨ M b0) (h2 : ∀ i ∈ l, base ≤ i ∨ M i) : Kept base M w0 w' := by
  refine ⟨k.os.trans k0.os, k.tape.trans k0.tape, k.output.trans k0.output, Nat.le_trans k0.size k.size, fun b hb hM => ?_, fun b vals el hb hM hv => ?_⟩
  · rw [k.block b (Nat.lt_of_lt_of_le hb k0.size) (fun hx => ?_)]
    · exact k0.block b hb hM
    · rcases hx with ⟨hh, e⟩ | hx
      · subst e; rcases h1 hh with h | h; omega; exact hM h
      · rcases h2 b hx with h | h; omega; exact hM h
  · obtain ⟨v1, e1, g1, g2⟩ := k0.shape b vals el hb hM hv
    by_cases hx : (lentM has b0 l) b
    · obtain ⟨v2, e2, g3, g4⟩ := k.shape b v1 e1 (Nat.lt_of_lt_of_le hb k0.size) hx g1
      exact ⟨v2, e2, g3, g4.trans g2⟩
    · exact ⟨v1, e1, by rw [k.block b (Nat.lt_of_lt_of_le hb k0.size) hx]; exact g1, g2⟩

theorem hp_get {st : St} {n : Nat} {e : Ent} (h : st.hp[n]? = some e) : st.ent n = e := by
  show nth .dead st.hp n = e
  rw [nth_eq, h]; rfl

theorem ent_get {st : St} {n : Nat} {e : Ent} (h : st.ent n = e) (hl : e.live = true) : st.hp[n]? = some e := by
  have h' : nth .dead st.hp n = e := h
  rw [nth_eq] at h'
  cases hx : st.hp[n]? with
  | none => rw [hx] at h'; simp only [Option.getD_none] at h'; subst h'; cases hl
  | some y => rw [hx] at h'; exact congrArg some h'

/-- The told blocks of a row are writable. -/
theorem row_writable {st : St} {ts : Array Value} (r : Rel base M w0 V st ts w) {n : Nat} {fr : Bool} {e : Ty} {xs : List e.den} (hn : st.ent n = .row fr e xs) (hw : fr = true ∨ n = 0) : (∀ i ∈ idsL e xs, V.Z fr i) ∧ ∀ i ∈ idsL e xs, base ≤ i ∨ M i := by
  have h0 := r.mem.ents n
  rw [hn] at h0
  have hz : ∀ i ∈ idsL e xs, V.Z fr i ∧ V.has n := by
    intro i hi
    rcases h0 with ⟨_, h2⟩ | ⟨h1, vals, el, _, _, h4⟩
    · rw [h2] at hi; cases hi
    · exact ⟨idsL_in (fun j hj => by obtain ⟨es, _, _, k⟩ := h4 j hj; exact ⟨es, k⟩) i hi, h1⟩
  refine ⟨fun i hi => (hz i hi).1, fun i hi => ?_⟩
  cases fr with
  | true =>
    rcases (hz i hi).1 with h | ⟨h, _⟩
    · exact .inl (r.mem.z1 i h).1
    · cases h
  | false =>
    refine .inr (r.mem.lids n (hz i hi).2 i ?_ (hw.resolve_left (fun h => by cases h)))
    rw [hn]
    show i ∈ (if e.hasG then idsL e xs else [])
    cases hg : e.hasG with
    | true => rw [if_pos rfl]; exact hi
    | false =>
      have : idsL e xs = [] := ids_noG (.sl e) hg xs
      rw [this] at hi; cases hi

theorem mark_rule (hm : P.follows .mixedOrders = true) (hT : TabOk P T) (hΓ : GamOk P Γ) (hR : RulesOk P R) {f : FuncId} {fn : Func} (hf : P.funcs[f]? = some fn) {mt : MT} {A : mt.t.den → Int → Nat → Option Ann}
    (hl : mt.t.lendBy Ty.gcl = true) (h : vcMutT T Γ R fn mt A) : RuleOk P f (markRule mt) := by
  intro base M w0 V st ts w ss vs K r hlen hslots hrule
  unfold markRule at hrule
  split at hrule
  case h_2 => exact hrule.elim
  rename_i s k
  match vs, hlen with
  | [v, u], _ =>
    have hv := hslots 0 s v rfl rfl
    have hu : u = .int .i64 k ∧ IntKind.i64.min ≤ k ∧ k ≤ IntKind.i64.max := ok_int (V := V) (hp := st.ent) (w := w) (hslots 1 _ u rfl rfl)
    obtain ⟨rfl, hkr⟩ := hu
    have mm := r.mem
    split at hrule
    · rename_i d n hlend
      obtain ⟨hwf, hL, hslot⟩ := lendS_ok (p := Ty.gcl) mm.ents hl hlend hv
      obtain ⟨fr, e, xs, hn, hg, hes0⟩ := hL.row 0 n rfl
      have hes : (fresh mt.t d 0).2 = [.row true e xs] := by
        have hl1 := hL.len
        match hx : (fresh mt.t d 0).2 with
        | [] => rw [hx] at hl1; cases hl1
        | [y] => rw [hx] at hes0; simp only [List.getElem?_cons_zero, Option.some.injEq] at hes0; rw [hes0]
        | y :: z :: r => rw [hx] at hl1; simp at hl1
      have hidl : ids mt.t d = idsL e xs := by
        rw [fresh_ids mt.t hl d, hes]
        show idsL e xs ++ [] = _
        rw [List.append_nil]
      rw [hn] at hrule
      try simp only at hrule
      split at hrule
      case h_2 => exact hrule.elim
      rename_i fr' e' xs' fr2 e2 ys2 q1 q2
      injection q1 with q3 q4 q5
      subst q3; subst q4; cases q5
      split at hrule
      case isFalse => exact hrule.elim
      rename_i he
      subst he
      split at hrule
      case isFalse => exact hrule.elim
      rename_i hfn
      have hfn : fr = true ∨ n = 0 := by
        cases fr with
        | true => exact .inl rfl
        | false => exact .inr (Nat.eq_of_beq_eq_true hfn)
      obtain ⟨hpre, hnd, hap, hK⟩ := hrule
      rw [hidl] at hap
      obtain ⟨V1, r1, hn1, hb1, hh1⟩ := rel_drops (n := n) (dropList n 0 st.hp) r hn (fun m hm => (dropList_mem hm).2.1) (fun m hm => by
        obtain ⟨_, _, f1, e1, x1, h1⟩ := dropList_mem hm
        exact ⟨f1, e1, x1, hp_get h1⟩) (dropList_nodup _ _)
      have hslot1 : ∀ V' hp', hp' 0 = .row false e2 xs → (V'.has 0 ↔ V1.has n) → V'.blk 0 = V1.blk n → S.ok V' hp' w (topS (isSt mt.t, (fresh mt.t d 0).1)) v := by
        intro V' hp' g1 g2 g3
        rw [hh1] at g2
        rw [hb1] at g3
        refine hslot V' hp' ⟨fun j e9 xs9 hj => ?_, fun j m hj => ?_, fun j hj => ?_⟩
        · rw [hes] at hj
          cases j with
          | zero =>
            simp only [List.getElem?_cons_zero, Option.some.injEq, Ent.row.injEq] at hj
            obtain ⟨_, q6, q7⟩ := hj
            subst q6; cases q7
            rw [Nat.zero_add]; exact g1
          | succ j => simp at hj
        · cases j with
          | zero => simp only [List.getElem?_cons_zero, Option.some.injEq] at hj; subst hj; rw [Nat.zero_add]; exact ⟨g2, g3⟩
          | succ j => simp at hj
        · cases j with
          | zero => simp at hj
          | succ j => simp at hj
      clear hslot hn mm
      generalize st.drops (dropList n 0 st.hp) = st at *
      clear hL hslots hv hlend
      have hn := hn1
      have r := r1
      have mm := r1.mem
      obtain ⟨ha1, ha2⟩ := toP_oand.1 hap
      obtain ⟨ha3, ha4⟩ := toP_oand.1 ha2
      have h0 := mm.ents n
      rw [hn] at h0
      obtain ⟨hz, hwr⟩ := row_writable r hn hfn
      have hlive : (st.ent n).live = true := by rw [hn]; rfl
      refine (mutT_run hm hT hΓ hR hf h (v := v) (d := d) (k := k) (e := e2) (xs := xs) (b0 := V1.blk n) (has := V1.has n) hes hg hslot1 ?_ ?_ ?_ ?_ hwf hkr hnd hpre ?_).mono ?_
      · intro hh
        rcases h0 with ⟨_, h2⟩ | ⟨h1, _⟩
        · exact h2
        · exact absurd h1 hh
      · intro hh
        rcases h0 with ⟨h1, _⟩ | ⟨_, vals, el, h2, h3, h4⟩
        · exact absurd hh h1
        · refine ⟨vals, el, h2, h3, fun i hi => ?_⟩
          obtain ⟨es, k1, k2, k3⟩ := h4 i hi
          exact ⟨es, k1, k2, RdC.by_ids e2 hg k3 (fun i' hi' => ⟨List.mem_flatMap.2 ⟨_, List.getElem_mem hi, hi'⟩, rfl⟩)⟩
      · intro hh hx
        exact (mm.own n hlive hh).2.2 (Vl.Z_all (hz _ hx))
      · intro i hi
        exact mm.z_lt (Vl.Z_all (hz i hi))
      · rcases h0 with ⟨_, h2⟩ | ⟨_, vals, el, _, h3, h4⟩
        · rw [h2]; exact ⟨Nat.zero_le _, fun x hx => by cases hx⟩
        · refine ⟨h3, fun x hx => ?_⟩
          obtain ⟨i, hi, rfl⟩ := List.getElem_of_mem hx
          obtain ⟨es, _, _, k3⟩ := h4 i hi
          exact k3.wf
      · rintro e1 w1 ⟨rfl, hrange, fr9, ys, p1, p2, p3, p4, p5⟩
        rw [q2] at p1
        injection p1 with p1 _
        injection p1 with p6 p7 p8
        cases p8
        refine ⟨_, rfl, V1, _, _, hK, ?_, ⟨rfl, hrange⟩⟩
        refine rel_marked r hn p2 (l := idsL e2 xs) (fun i hi => Vl.Z_all (hz i hi)) p4.size (fun b hb hx => p4.block b hb hx) (kept_lent mm.kept p4 (fun hh => (mm.own n hlive hh).1) hwr) (fun hh => ?_) (fun m f3 e3 xs3 hmn hm3 => ?_) true (fun _ => ha3) (fun _ => ha4) (fun i hi => ?_)
        · obtain ⟨vals', el', g1, g2⟩ := p5 hh
          rcases h0 with ⟨h1, _⟩ | ⟨_, vals, el, h2, h3, h4⟩
          · exact absurd hh h1
          · obtain ⟨v3, e3, g3, g4⟩ := p4.shape (V1.blk n) vals el (Array.getElem?_eq_some_iff.1 h2).1 (.inl ⟨hh, rfl⟩) h2
            rw [g1] at g3
            injection g3 with g3
            injection g3 with g3 _ _
            subst g3
            refine ⟨vals, el, vals', el', h2, g1, g4, fun i hi => ?_⟩
            obtain ⟨es, k1, k2, k3⟩ := g2 i hi
            exact ⟨es, k1, k2, k3.mono (fun b hb => hz b hb) (fun _ _ => rfl)⟩
        · exact rowsApart_get ha1 m f3 e3 xs3 (ent_get hm3 rfl) (by omega)
        · cases fr with
          | true => cases hi
          | false =>
            have hi' : i ∈ (if e2.hasG then idsL e2 ys2 else []) := hi
            show i ∈ (if e2.hasG then idsL e2 xs else [])
            split at hi'
            · rename_i hh; rw [if_pos hh, ← p3]; exact hi'
            · cases hi'
    · rename_i d hlend
      obtain ⟨hwf, hL, hslot⟩ := lendS_ok (p := Ty.gcl) mm.ents hl hlend hv
      obtain ⟨e, hg, hes0⟩ := hL.nil 0 rfl
      have hes : (fresh mt.t d 0).2 = [.row true e []] := by
        have hl1 := hL.len
        match hx : (fresh mt.t d 0).2 with
        | [] => rw [hx] at hl1; cases hl1
        | [y] => rw [hx] at hes0; simp only [List.getElem?_cons_zero, Option.some.injEq] at hes0; rw [hes0]
        | y :: z :: r => rw [hx] at hl1; simp at hl1
      obtain ⟨hpre, hnd, hK⟩ := hrule
      refine (mutT_run hm hT hΓ hR hf h (v := v) (d := d) (k := k) (e := e) (xs := []) (b0 := 0) (has := False) hes hg ?_ (fun _ => rfl) (fun h => h.elim) (fun h => h.elim) (fun i hi => by cases hi) hwf hkr hnd hpre ⟨Nat.zero_le _, fun x hx => by cases hx⟩).mono ?_
      · intro V' hp' g1 g2 g3
        refine hslot V' hp' ⟨fun j e9 xs9 hj => ?_, fun j m hj => ?_, fun j hj => ?_⟩
        · rw [hes] at hj
          cases j with
          | zero =>
            simp only [List.getElem?_cons_zero, Option.some.injEq, Ent.row.injEq] at hj
            obtain ⟨_, q6, q7⟩ := hj
            subst q6; cases q7
            rw [Nat.zero_add]; exact g1
          | succ j => simp at hj
        · cases j with
          | zero => simp at hj
          | succ j => simp at hj
        · cases j with
          | zero => rw [Nat.zero_add]; exact fun hh => g2.1 hh
          | succ j => simp at hj
      · rintro e1 w1 ⟨rfl, hrange, fr9, ys, p1, p2, p3, p4, p5⟩
        refine ⟨_, rfl, V, _, _, hK, rel_grow r ⟨p4.os, p4.tape, p4.output, p4.size, fun b hb _ => p4.block b hb (fun hx => ?_), fun _ _ _ _ h _ => h.elim⟩, ⟨rfl, hrange⟩⟩
        rcases hx with ⟨hx, _⟩ | hx
        · exact hx
        · cases hx
    · exact hrule.elim

/-! ### A slice that a told row holds -/

theorem updG_nil {b : Nat} {e : Ty} : ∀ (t : Ty) (d : t.den), updG b e [] t d = d
  | .gs wh e', d => by
    show (if h : e' = e then (if d.1 = b ∧ d.2.length = ([] : List e.den).length then (d.1, castL h.symm []) else d) else d) = d
    split
    · rename_i h
      subst h
      split
      · rename_i hx
        have : d.2 = [] := List.length_eq_zero_iff.1 hx.2
        show (d.1, []) = d
        rw [← this]
      · rfl
    · rfl
  | .st t, d => updG_nil t d
  | .pr x y, d => by show (updG b e [] x d.1, updG b e [] y d.2) = d; rw [updG_nil x, updG_nil y]
  | .sl _, _ => rfl
  | .int _, _ => rfl
  | .bool, _ => rfl
  | .str, _ => rfl
  | .ptr _, _ => rfl
  | .clo _ _, _ => rfl

theorem updG_ids {b : Nat} {e : Ty} {new : List e.den} (he : e.flat = true) : ∀ (t : Ty) (d : t.den), ∀ i ∈ ids t (updG b e new t d), i ∈ ids t d
  | .gs wh e', d, i, hi => by
    have hi : i ∈ ids (.gs wh e') (if h : e' = e then (if d.1 = b ∧ d.2.length = new.length then (d.1, castL h.symm new) else d) else d) := hi
    split at hi
    · rename_i h
      subst h
      split at hi
      · rename_i hx
        obtain ⟨b', zs⟩ := d
        have hi' : i ∈ ids (.gs wh e') (b', new) := hi
        rw [ids_gs] at hi' ⊢
        have hfl : ∀ l : List e'.den, idsL e' l = [] := fun l => ids_noG (.sl e') (flat_noG (t := e') he) l
        rw [hfl] at hi' ⊢
        have hx2 : zs.length = new.length := hx.2
        cases new with
        | nil => cases hi'
        | cons y r =>
          cases zs with
          | nil => cases hx2
          | cons z r' => exact hi'
      · exact hi
    · exact hi
  | .st t, d, i, hi => updG_ids he t d i hi
  | .pr x y, d, i, hi => by
    rcases List.mem_append.1 (show i ∈ ids x (updG b e new x d.1) ++ ids y (updG b e new y d.2) from hi) with hi | hi
    · exact List.mem_append_left _ (updG_ids he x d.1 i hi)
    · exact List.mem_append_right _ (updG_ids he y d.2 i hi)
  | .sl _, _, i, hi => hi
  | .int _, _, i, hi => hi
  | .bool, _, i, hi => hi
  | .str, _, i, hi => hi
  | .ptr _, _, i, hi => hi
  | .clo _ _, _, i, hi => hi

/-- Behind the write of block 'b'. -/
theorem upd_rd {Z : Nat → Prop} {b : Nat} {e : Ty} {new : List e.den} (he : e.flat = true) (hne : new ≠ []) {vals' : Array Value} {el' : TypeId} {n : Nat} (hn : new.length = n) (hb : w'.heap[b]? = some (.cells vals' el' (0, 0))) (hrow : RowAt anyZ w' e vals' new)
    {vals : Array Value} {el : TypeId} (hb0 : w.heap[b]? = some (.cells vals el (0, 0))) (hsz : vals'.size = vals.size) (hother : ∀ i, Z i → i ≠ b → w'.heap[i]? = w.heap[i]?) : ∀ (t : Ty), t.g1 = true → ∀ {cs : List Value} {d : t.den}, RdC Z w t cs d → lensG b e n t d → RdC Z w' t cs (updG b e new t d)
  | .gs wh e', hg, cs, (b', zs), h, hlens => by
    have hlens : if e' = e ∧ wh = true then (b' = b → zs ≠ [] → zs.length = n) else (b' = b → zs = []) := hlens
    have hg : e'.flat = true := hg
    show RdC Z w' (.gs wh e') cs (if h : e' = e then (if b' = b ∧ zs.length = new.length then (b', castL h.symm new) else (b', zs)) else (b', zs))
    -- untouched
    have same : (zs = [] ∨ b' ≠ b) → RdC Z w' (.gs wh e') cs (b', zs) := by
      intro hx
      refine RdC.by_ids (.gs wh e') (flat_gcl (t := e') hg) h (fun i hi => ?_)
      have hz := RdC.ids_in _ h i hi
      refine ⟨hz, hother i hz ?_⟩
      rw [ids_gs, show idsL e' zs = [] from ids_noG (.sl e') (flat_noG (t := e') hg) zs] at hi
      rcases hx with hx | hx
      · subst hx; cases hi
      · cases zs with
        | nil => cases hi
        | cons z r => have : i = b' := by simpa using hi
                      rw [this]; exact hx
    split
    · rename_i heq
      subst heq
      split
      · rename_i hx
        obtain ⟨hx1, hx2⟩ := hx
        have hx1 : b' = b := hx1
        have hx2 : zs.length = new.length := hx2
        subst hx1
        show RdC Z w' (.gs wh e') cs (b', new)
        have hzne : zs ≠ [] := fun h0 => by rw [h0] at hx2; exact hne (List.length_eq_zero_iff.1 hx2.symm)
        have hzl : 0 < zs.length := Nat.pos_of_ne_zero (fun h0 => hzne (List.length_eq_zero_iff.1 h0))
        have hwh : wh = true := by
          cases hw : wh with
          | true => rfl
          | false =>
            rw [hw] at hlens
            simp at hlens
            exact absurd hlens hzne
        have h' := h
        obtain ⟨⟨a, cap, h1, h2, h3, h4⟩, h5, h6⟩ := h
        have h1 : cs = [Value.slice a zs.length cap] := h1
        have h2 : zs.length ≤ cap := h2
        have h3 : zs.length ≤ lenMax := h3
        obtain ⟨n1, cap1, v1, el1, k1, k2, k3⟩ := h6 hwh hzl
        have k2 : w.heap[b']? = some (.cells v1 el1 (0, 0)) := k2
        rw [hb0] at k2
        injection k2 with k2
        injection k2 with k2 _ _
        subst k2
        have hcs : cs = [.slice (some ⟨b', 0, none⟩) new.length cap] ∧ cap1 = cap := by
          rw [k1] at h1 ⊢
          injection h1 with h1 _
          injection h1 with q1 q2 q3
          exact ⟨by rw [q2, q3, hx2], q3⟩
        obtain ⟨hcs, hcap⟩ := hcs
        have hZ : Z b' := (gs_block h' hzl).1
        refine ⟨⟨some ⟨b', 0, none⟩, cap, hcs, by show new.length ≤ cap; omega, by show new.length ≤ lenMax; omega, fun i hi => ?_⟩, fun _ => ⟨0, _, cap, hcs⟩, fun _ _ => ⟨_, cap, vals', el', hcs, hb, by rw [hsz, k3, hcap]⟩⟩
        have hi' : i < new.length := hi
        obtain ⟨es, g1, g2, g3⟩ := hrow i hi'
        refine ⟨⟨b', 0, none⟩, rfl, rfl, hZ, es, g1, fun j hj => ?_, g3.flat hg⟩
        simp only [World.cell?, hb, Nat.zero_add]
        exact g2 j _ (List.getElem?_eq_getElem hj)
      · rename_i hx
        refine same ?_
        by_cases hbb : b' = b
        · left
          cases hw : wh with
          | true =>
            rw [hw] at hlens
            simp only [and_self, if_true] at hlens
            exact Classical.byContradiction fun hz => hx ⟨hbb, by show zs.length = new.length; rw [hlens hbb hz, hn]⟩
          | false =>
            rw [hw] at hlens
            simp at hlens
            exact hlens hbb
        · exact .inr hbb
    · rename_i heq
      refine same ?_
      rw [if_neg (fun hx => heq hx.1)] at hlens
      by_cases hbb : b' = b
      · exact .inl (hlens hbb)
      · exact .inr hbb
  | .st t, hg, _, _, h, hlens => upd_rd he hne hn hb hrow hb0 hsz hother t hg h hlens
  | .pr x y, hg, _, d, h, hlens => by
    have hg' : (x.g1 && y.g1) = true := hg
    rw [Bool.and_eq_true] at hg'
    obtain ⟨c1, c2, h1, h2, h3⟩ := h
    exact ⟨c1, c2, h1, upd_rd he hne hn hb hrow hb0 hsz hother x hg'.1 h2 hlens.1, upd_rd he hne hn hb hrow hb0 hsz hother y hg'.2 h3 hlens.2⟩
  | .sl _, hg, _, _, _, _ => by cases hg
  | .ptr _, hg, _, _, _, _ => by cases hg
  | .clo _ _, hg, _, _, _, _ => by cases hg
  | .int _, _, _, _, h, _ => h
  | .bool, _, _, _, h, _ => h
  | .str, _, _, _, h, _ => h
end
end Go.SX


/- A slice that a told row holds is written: the rule holds. No condition. -/
namespace Go.SX
open Go.RowKit
set_option linter.unusedVariables false
set_option linter.unusedSimpArgs false

/-- The same function at no elements. -/
def emptyC (e : Ty) (pre : List e.den → Int → Prop) (F : List e.den → Int → Int) : PC :=
  { ts := [.sl e, .int .i64], rs := [.int .i64], pre := fun x => (show List e.den from x.1) = [] ∧ pre x.1 x.2, F := fun x => F x.1 x.2 }

section
variable {P : Program} {T : Tab} {Γ : FuncId → Option PC} {R : FuncId → Option Rule} {base : Nat} {M : LM} {w0 : World} {V : Vl} {hp : Nat → Ent} {w w' : World}

def oneM (b : Nat) : LM := ⟨fun c => c = b, fun c _ => c = b, fun _ => True, fun _ _ => trivial, fun _ => False⟩

/-- What such a function does to a whole block. -/
theorem in_call {f : FuncId} {e : Ty} {pre : List e.den → Int → Prop} {F : List e.den → Int → Int} {G : List e.den → Int → List e.den} (h : RuleOk P f (ruleOf ⟨.sl e, pre, F, G⟩)) (he : e.flat = true)
    {b n cap : Nat} {vals : Array Value} {el : TypeId} {ys : List e.den} {k : Int} (hb : w.heap[b]? = some (.cells vals el (0, 0))) (hsz : vals.size = cap * e.size) (hle : ys.length ≤ cap) (hmax : ys.length ≤ lenMax) (hrow : RowAt anyZ w e vals ys)
    (hkr : IntKind.i64.min ≤ k ∧ k ≤ IntKind.i64.max) (hpre : pre ys k) (hne : ys ≠ []) (hlen : (G ys k).length = ys.length) :
    Calls P f #[.slice (some ⟨b, 0, none⟩) ys.length cap, .int .i64 k] w fun e1 w' => e1 = .returned (.int .i64 (F ys k)) ∧ (IntKind.i64.min ≤ F ys k ∧ F ys k ≤ IntKind.i64.max) ∧ Kept w.heap.size (oneM b) w w' ∧
      ∃ vals' el', w'.heap[b]? = some (.cells vals' el' (0, 0)) ∧ vals'.size = vals.size ∧ RowAt anyZ w' e vals' (G ys k) := by
  have hblt : b < w.heap.size := (Array.getElem?_eq_some_iff.1 hb).1
  let V1 : Vl := ⟨fun _ => b, fun j => j = 0, fun _ => False, fun _ => False⟩
  let st1 : St := ⟨[], [.row false e ys]⟩
  have h0 : st1.ent 0 = .row false e ys := rfl
  have hdead : ∀ j, j ≠ 0 → st1.ent j = .dead := by
    intro j hj
    cases j with
    | zero => exact absurd rfl hj
    | succ j => rfl
  have hlv : ∀ j, (st1.ent j).live = true → j = 0 := by
    intro j hj
    by_cases e : j = 0
    · exact e
    · rw [hdead j e] at hj; cases hj
  have mem0 : Mem w.heap.size (oneM b) w V1 st1.ent w := by
    refine ⟨fun j => ?_, fun j cs hj => hlv j (by rw [hj]; rfl), fun j hj hh => ?_, fun j e ys hj => ?_, fun j j' hj hj' _ _ _ => ?_, fun b h => h.elim, fun b h => h.elim, ⟨rfl, rfl, rfl, Nat.le_refl _, fun _ _ _ => rfl, fun b v2 e2 _ _ hv2 => ⟨v2, e2, hv2, rfl⟩⟩, fun j hj hh => rfl, fun b hb => hb.elim, fun j hh q hq => ?_⟩
    · by_cases ej : j = 0
      · subst ej
        rw [h0]
        refine .inr ⟨rfl, vals, el, hb, hmax, fun i hi => ?_⟩
        obtain ⟨es, k1, k2, k3⟩ := hrow i hi
        exact ⟨es, k1, k2, k3.flat he⟩
      · rw [hdead j ej]; trivial
    · refine ⟨.inr rfl, hblt, fun hz => ?_⟩
      rcases hz with hz | ⟨_, hz⟩ <;> exact hz
    · by_cases ej : j = 0
      · subst ej; rw [h0] at hj; cases hj
      · rw [hdead j ej] at hj; cases hj
    · rw [hlv j hj, hlv j' hj']
    · by_cases ej : j = 0
      · subst ej; rw [h0, lids_flat he] at hq; cases hq
      · rw [hdead j ej] at hq; cases hq
  have rel0 : Rel w.heap.size (oneM b) w V1 st1 #[] w := ⟨rfl, (fun i s v hs => by cases hs), mem0⟩
  have hown : C.ok V1 st1.ent w (.own 0) (.slice (some ⟨b, 0, none⟩) ys.length cap) := ⟨false, e, ys, h0, .inr ⟨rfl, cap, vals, el, rfl, hb, hsz, hle⟩⟩
  have hcall := h w.heap.size (oneM b) w V1 st1 #[] w [.c (.own 0), .c (.val (.int .i64 k))] [.slice (some ⟨b, 0, none⟩) ys.length cap, .int .i64 k] (fun s st' => s = .c (.val (.int .i64 (F ys k))) ∧ st' = st1.rewrs [some 0] [.row true e (G ys k)]) rel0 rfl (fun i s v hs hv => by
    cases i with
    | zero => simp only [List.getElem?_cons_zero, Option.some.injEq] at hs hv; subst hs; subst hv; exact hown
    | succ i =>
      cases i with
      | zero => simp only [List.getElem?_cons_succ, List.getElem?_cons_zero, Option.some.injEq] at hs hv; subst hs; subst hv; exact ⟨rfl, hkr⟩
      | succ i => simp at hs) (by
    unfold ruleOf
    have hl : lendS st1.ent (Ty.sl e) (.c (.own 0)) = some (ys, [some 0]) := by
      unfold lendS lendC head1 lendSl
      simp only [isSt, h0]
      simp [castL]
    simp only [hl]
    rw [if_pos (show nodupN (namesOf [some 0]) = true from rfl)]
    exact ⟨hpre, trivial, rfl⟩)
  refine hcall.mono ?_
  rintro e1 w1 ⟨v, rfl, V', s, st', ⟨rfl, rfl⟩, r', hs⟩
  obtain ⟨rfl, hrange⟩ := (hs : v = .int .i64 (F ys k) ∧ _)
  have hst : (st1.rewrs [some 0] [.row true e (G ys k)]).ent 0 = .row false e (G ys k) := by
    show ((st1.rewr 0 (.row true e (G ys k))).rewrs [] []).ent 0 = _
    have hx : st1.rewr 0 (.row true e (G ys k)) = { (st1.map (killB 0)) with hp := lset (st1.map (killB 0)).hp 0 (.row false e (G ys k)) } := by unfold St.rewr; rw [h0]
    rw [hx]
    rfl
  have m1 := r'.mem
  refine ⟨rfl, hrange, m1.kept, ?_⟩
  have h1 := m1.ents 0
  rw [hst] at h1
  obtain ⟨v3, e3, g3, g4⟩ := m1.kept.shape b vals el hblt rfl hb
  rcases h1 with ⟨_, c2⟩ | ⟨c1, vals2, el2, c2, c3, c4⟩
  · exfalso
    rw [c2] at hlen
    exact hne (List.length_eq_zero_iff.1 hlen.symm)
  · have hbl : V'.blk 0 = b := m1.lent 0 (by rw [hst]; show (e.flat || e.hasG) = true; rw [he]; rfl) c1
    rw [hbl, g3] at c2
    injection c2 with c2
    injection c2 with c2 _ _
    subst c2
    refine ⟨v3, e3, g3, g4, fun i hi => ?_⟩
    obtain ⟨es, k1, k2, k3⟩ := c4 i hi
    exact ⟨es, k1, k2, k3.flat he⟩

theorem rowAt_of_gs {Z : Nat → Prop} {wh : Bool} {e : Ty} {v : Value} {b : Nat} {ys : List e.den} (h : RdC Z w (.gs wh e) [v] (b, ys)) (hw : wh = true) (hp : 0 < ys.length) :
    ∃ cap vals el, v = .slice (some ⟨b, 0, none⟩) ys.length cap ∧ w.heap[b]? = some (.cells vals el (0, 0)) ∧ vals.size = cap * e.size ∧ ys.length ≤ cap ∧ ys.length ≤ lenMax ∧ RowAt Z w e vals ys := by
  obtain ⟨⟨a, cap, h1, h2, h3, h4⟩, h5, h6⟩ := h
  obtain ⟨n1, cap1, v1, el1, k1, k2, k3⟩ := h6 hw hp
  have k2 : w.heap[b]? = some (.cells v1 el1 (0, 0)) := k2
  have h1 : [v] = [Value.slice a ys.length cap] := h1
  have k1 : [v] = [Value.slice (some ⟨b, 0, none⟩) n1 cap1] := k1
  have hvv := k1
  rw [k1] at h1
  injection h1 with h1 _
  injection h1 with q1 q2 q3
  injection hvv with hvv _
  subst q2; subst q3
  refine ⟨cap1, v1, el1, hvv, k2, k3, h2, h3, fun i hi => ?_⟩
  obtain ⟨ad, e1, e2, e3, es, e4, e5, e6⟩ := h4 i hi
  rw [e1] at q1
  injection q1 with q1
  subst q1
  refine ⟨es, e4, fun j u hu => ?_, e6⟩
  have hj := (List.getElem?_eq_some_iff.1 hu).1
  have := e5 j hj
  simp only [World.cell?, k2, Nat.zero_add] at this
  rw [List.getElem?_eq_getElem hj] at hu
  injection hu with hu
  rw [← hu]; exact this

theorem in_rule {f : FuncId} {e : Ty} {pre : List e.den → Int → Prop} {F : List e.den → Int → Int} {G : List e.den → Int → List e.den} (h : RuleOk P f (ruleOf ⟨.sl e, pre, F, G⟩)) (hE : PureC P f (emptyC e pre F)) (he : e.flat = true) : RuleOk P f (ruleIn e pre F G) := by
  intro base M w0 V st ts w ss vs K r hlen hslots hrule
  unfold ruleIn at hrule
  split at hrule
  case h_2 => exact hrule.elim
  rename_i fr wh e' b ys0 k
  split at hrule
  case isFalse => exact hrule.elim
  rename_i hee
  subst hee
  split at hrule
  case h_2 => exact hrule.elim
  rename_i e0 xs hn
  split at hrule
  case isFalse => exact hrule.elim
  rename_i hwg
  rw [Bool.and_eq_true] at hwg
  obtain ⟨hwh, hg1⟩ := hwg
  simp only [castL] at hrule
  obtain ⟨hpre, hGl, hcond, hcond0, hK⟩ := hrule
  match vs, hlen with
  | [v, u], _ =>
    have hv : RdC (V.Z fr) w (.gs wh e') [v] (b, ys0) := hslots 0 _ v rfl rfl
    have hu : u = .int .i64 k ∧ IntKind.i64.min ≤ k ∧ k ≤ IntKind.i64.max := ok_int (V := V) (hp := st.ent) (w := w) (hslots 1 _ u rfl rfl)
    obtain ⟨rfl, hkr⟩ := hu
    have mm := r.mem
    have hlive : (st.ent 0).live = true := by rw [hn]; rfl
    have h0 := mm.ents 0
    rw [hn] at h0
    by_cases hne : ys0 = []
    · -- nothing is written
      subst hne
      have hargs : RdArgs anyZ w [.sl e', .int .i64] [v, .int .i64 k] (([] : List e'.den), k) :=
        ⟨v, [.int .i64 k], rfl, ⟨[v], rfl, (gs_sl hv).any⟩, .int .i64 k, rfl, [.int .i64 k], rfl, rfl, hkr⟩
      refine (hE w [v, .int .i64 k] (([] : List e'.den), k) hargs ⟨rfl, hpre⟩).mono ?_
      rintro e1 w1 ⟨v1, rfl, ⟨Z1, bs, vs1, rfl, k1, k2, k3, k4⟩, hk⟩
      obtain ⟨v2, rfl, cs, q1, q2, q3⟩ := k1
      have q1 : cs = [v2] := q1
      subst q1
      have hv2 : v2 = .int .i64 (F [] k) := by
        have : [v2] = [Value.int .i64 (F [] k)] := q2.1
        injection this
      have hrange : IntKind.i64.min ≤ F [] k ∧ F [] k ≤ IntKind.i64.max := q2.2
      have hGn : G [] k = [] := List.length_eq_zero_iff.1 hGl
      have hupd : xs.map (updG b e' (G [] k) e0) = xs := by
        rw [hGn]
        rw [show updG b e' [] e0 = id from funext (fun d => updG_nil e0 d), List.map_id]
      rw [hupd] at hK
      refine ⟨_, rfl, V, _, _, hK, ?_, by subst hv2; exact ⟨rfl, hrange⟩⟩
      have hkk : Kept base M w0 w1 := mm.kept.trans hk
      refine rel_marked r hn rfl (l := []) (fun i hi => by cases hi) hk.size (fun b hb _ => hk.block b hb (fun h => h)) hkk (fun hh => ?_) (fun m f3 e3 xs3 hmn hm3 => rowsApart_get (hcond0 rfl) m f3 e3 xs3 (ent_get hm3 rfl) (by omega)) false (fun h => by cases h) (fun h => by cases h) (fun i hi => hi)
      rcases h0 with ⟨h1, _⟩ | ⟨_, vals, el, h2, h3, h4⟩
      · exact absurd hh h1
      · refine ⟨vals, el, vals, el, h2, by rw [hk.block _ (mm.own 0 hlive hh).2.1 (fun h => h)]; exact h2, rfl, fun i hi => ?_⟩
        obtain ⟨es, g1, g2, g3⟩ := h4 i hi
        exact ⟨es, g1, g2, g3.mono (fun _ h => h) (fun b hb => hk.block b (mm.z_lt (Vl.Z_all hb)) (fun h => h))⟩
    · obtain ⟨hbin, hlens, hap⟩ := hcond hne
      have hpos : 0 < ys0.length := Nat.pos_of_ne_zero (fun h => hne (List.length_eq_zero_iff.1 h))
      obtain ⟨cap, vals, el, rfl, g2, g3, g4, g5, g6⟩ := rowAt_of_gs hv hwh hpos
      obtain ⟨hz, hwr⟩ := row_writable r hn (.inr rfl)
      have hzb := hz b hbin
      refine (in_call h he (n := 0) g2 g3 g4 g5 (fun i hi => by obtain ⟨es, k1, k2, k3⟩ := g6 i hi; exact ⟨es, k1, k2, k3.any⟩) hkr hpre hne hGl).mono ?_
      rintro e1 w1 ⟨rfl, hrange, hk, vals', el', j1, j2, j3⟩
      refine ⟨_, rfl, V, _, _, hK, ?_, ⟨rfl, hrange⟩⟩
      have hk' : Kept w.heap.size (lentM False 0 [b]) w w1 := ⟨hk.os, hk.tape, hk.output, hk.size, fun c hc hx => hk.block c hc (fun e => hx (.inr (by rw [show c = b from e]; exact List.mem_singleton.2 rfl))), fun c v3 e3 hc hx hv3 => by
        rcases hx with ⟨hx, _⟩ | hx
        · exact hx.elim
        · exact hk.shape c v3 e3 hc (List.mem_singleton.1 hx) hv3⟩
      refine rel_marked r hn (by simp) (l := [b]) (fun i hi => by rw [List.mem_singleton.1 hi]; exact Vl.Z_all hzb) hk.size (fun c hc hx => hk.block c hc (fun e => hx (.inr (by rw [show c = b from e]; exact List.mem_singleton.2 rfl))))
        (kept_lent mm.kept hk' (fun h => h.elim) (fun i hi => by rw [List.mem_singleton.1 hi]; exact hwr b hbin)) (fun hh => ?_) (fun m f3 e3 xs3 hmn hm3 => rowsApart_get hap m f3 e3 xs3 (ent_get hm3 rfl) (by omega)) false (fun h => by cases h) (fun h => by cases h) (fun i hi => ?_)
      · rcases h0 with ⟨h1, _⟩ | ⟨_, v2, el2, h2, h3, h4⟩
        · exact absurd hh h1
        · have hbne : V.blk 0 ≠ b := fun e => (mm.own 0 hlive hh).2.2 (by rw [e]; exact Vl.Z_all hzb)
          refine ⟨v2, el2, v2, el2, h2, by rw [hk.block _ (mm.own 0 hlive hh).2.1 hbne]; exact h2, rfl, fun i hi => ?_⟩
          have hi' : i < xs.length := by simpa using hi
          obtain ⟨es, q1, q2, q3⟩ := h4 i hi'
          refine ⟨es, q1, q2, ?_⟩
          rw [List.getElem_map]
          refine upd_rd he (fun h0 => hne (List.length_eq_zero_iff.1 (by rw [← hGl, h0]; rfl))) hGl j1 j3 g2 j2 (fun i hz' hib => hk.block i (mm.z_lt (Vl.Z_all hz')) hib) e0 hg1 q3 (hlens _ (List.getElem_mem hi'))
      · have hi' : i ∈ (if e0.hasG then idsL e0 (xs.map (updG b e' (G ys0 k) e0)) else []) := hi
        show i ∈ (if e0.hasG then idsL e0 xs else [])
        split at hi'
        · rename_i hh
          rw [if_pos hh]
          obtain ⟨x, hx, hix⟩ := List.mem_flatMap.1 hi'
          obtain ⟨y, hy, rfl⟩ := List.mem_map.1 hx
          exact List.mem_flatMap.2 ⟨y, hy, updG_ids he e0 y i hix⟩
        · cases hi'

theorem both_rule {f : FuncId} {e : Ty} {pre : List e.den → Int → Prop} {F : List e.den → Int → Int} {G : List e.den → Int → List e.den} (h : RuleOk P f (ruleOf ⟨.sl e, pre, F, G⟩)) (hE : PureC P f (emptyC e pre F)) (he : e.flat = true) : RuleOk P f (bothRule e pre F G) := by
  intro base M w0 V st ts w ss vs K r hlen hslots hrule
  unfold bothRule at hrule
  split at hrule
  · exact in_rule h hE he base M w0 V st ts w _ vs K r hlen hslots hrule
  · exact h base M w0 V st ts w ss vs K r hlen hslots hrule
end
end Go.SX


/- slices.Insert of one element into a row that the caller owns: the rule, and what a walk of its body must show. No condition. -/
namespace Go.SX
open Go.RowKit Go.Lib
set_option linter.unusedVariables false
set_option linter.unusedSimpArgs false
variable {P : Program}

/-- 'copy' of places of many cells: all is read before anything is written. -/
theorem run_copy_many (w : World) (dT sT ty elem : TypeId) (i0 : TypeInfo) (b o dLen dCap : Nat) (a : Addr) (sLen sCap k : Nat) (cs : List Value)
    (hu : P.underlying dT = some (.slice elem)) (hi : P.info? elem = some i0) (hk : Nat.min sLen dLen = k) (hn : cs.length = k * i0.size)
    (hsrc : ∀ j v, cs[j]? = some v → w.cell? (a.add j) = some v) (hc : ∀ j, j < cs.length → (w.cell? ⟨b, o + j, none⟩).isSome = true) (hf : ∀ j, j < cs.length → w.frozen? ⟨b, o + j, none⟩ = false) (h1 : ∀ v ∈ cs, v.oneCell' = true) :
    (Builtin.copy_ #[dT, sT] ty #[.slice (some ⟨b, o, none⟩) dLen dCap, .slice (some a) sLen sCap]).run P w = .ok (goInt k) (w.setCells b o cs) := by
  have hl := run_firstCells_some (P := P) w i0.size k a sLen sCap cs hn hsrc
  have hst := run_storeCells_cells (P := P) b o cs 0 w (by simpa using hc) (by simpa using hf) h1
  simp only [Nat.add_zero] at hst
  simp [Builtin.copy_, run_underlying hu, Builtin.lenOf, sizeOf, typeInfo, hi, hk, hl, hst]

theorem wp_copy_is (w : World) {o : Oper} {a : Act} {K : Act → World → Prop} {Q : Exit → Act → World → Prop} (d s : Operand) (t t' : TypeId)
    (ho : o.op = .call { callee := .builtin .copy, args := #[d, s], argTypes := #[t, t'] }) (v u : Value) (hd : a.eval d = v) (hs : a.eval s = u) {v' : Value} {w' : World}
    (hr : (Builtin.copy_ #[t, t'] o.type #[v, u]).run P w = .ok v' w') (h : K (a.put o.dst v') w') : o.wp P a w K Q := by
  unfold Oper.wp execOp
  simp only [ho, resolve, invoke, builtin, Sem.run_bind, Sem.run_pure, Result.andThen_ok, List.map_toArray, List.map_cons, List.map_nil, hd, hs, hr]
  exact h

theorem wpList_copy_is (w : World) {ops : Array Oper} {rest : List Oper} {o : Oper} {a : Act} {Q : Exit → Act → World → Prop} (hgd : o.guard = none) (d s : Operand) (t t' : TypeId)
    (ho : o.op = .call { callee := .builtin .copy, args := #[d, s], argTypes := #[t, t'] }) (v u : Value) (hd : a.eval d = v) (hs : a.eval s = u) {v' : Value} {w' : World}
    (hr : (Builtin.copy_ #[t, t'] o.type #[v, u]).run P w = .ok v' w') (h : wpList P ops Q rest (a.put o.dst v') w') : wpList P ops Q (o :: rest) a w :=
  wpList_plain hgd fun _ hK => wp_copy_is w d s t t' ho v u hd hs hr (hK _ _ h)

theorem step_copy_is {ops : Array Oper} {o : Oper} {a : Act} {w : World} {K : Act → World → Prop} {Q : Exit → Act → World → Prop} {E : Prop}
    (hg : o.guard = none) (d x : Operand) (dT sT : TypeId) (hop : o.op = Op.call { callee := Callee.builtin Builtin.copy, args := #[d, x], argTypes := #[dT, sT] })
    (v u : Value) (hd : a.eval d = v) (hx : a.eval x = u) {v' : Value} {w' : World} (hr : (Builtin.copy_ #[dT, sT] o.type #[v, u]).run P w = .ok v' w') (hK : K (a.put o.dst v') w') :
    if Region.wanted o (yielded ops a.tmps) = true then Oper.wp P o a w K Q else E := by
  have hw : Region.wanted o (yielded ops a.tmps) = true := by simp [Region.wanted, hg]
  rw [if_pos hw]
  exact wp_copy_is w d x dT sT hop v u hd hx hr hK

theorem isSome_setCells' (b : Nat) (vs : List Value) (o : Nat) (w : World) (h : ∀ j, j < vs.length → (w.cell? ⟨b, o + j, none⟩).isSome = true) (k : Nat) (hk : (w.cell? ⟨b, k, none⟩).isSome = true) : ((w.setCells b o vs).cell? ⟨b, k, none⟩).isSome = true := by
  by_cases hin : o ≤ k ∧ k < o + vs.length
  · have := World.cell?_setCells_in b vs o w h (k - o) (by omega)
    rw [show o + (k - o) = k by omega] at this
    rw [this]; rfl
  · rw [World.cell?_setCells_out b vs o w ⟨b, k, none⟩ (fun _ _ => by show k < o ∨ o + vs.length ≤ k; omega)]
    exact hk

theorem ins_ext {α : Type} (V2 cs news : List α) (A N sz : Nat) (h1 : ∀ k, k < A → V2[k]? = cs[k]?) (h2 : ∀ k, k < sz → V2[A + k]? = news[k]?) (h3 : ∀ k, A ≤ k → k < N → V2[k + sz]? = cs[k]?)
    (hc : cs.length = N) (hn : news.length = sz) (hA : A ≤ N) : V2.take (N + sz) = cs.take A ++ news ++ cs.drop A := by
  apply List.ext_getElem?
  intro k
  have hl : (cs.take A).length = A := by rw [List.length_take]; omega
  have hl2 : (cs.take A ++ news).length = A + sz := by rw [List.length_append, hl, hn]
  rw [List.getElem?_take]
  by_cases hk : k < N + sz
  · rw [if_pos hk]
    by_cases hk1 : k < A
    · rw [List.getElem?_append_left (by omega), List.getElem?_append_left (by omega), List.getElem?_take, if_pos hk1]
      exact h1 k hk1
    · by_cases hk2 : k < A + sz
      · rw [List.getElem?_append_left (by omega), List.getElem?_append_right (by omega), hl]
        have := h2 (k - A) (by omega)
        rw [show A + (k - A) = k by omega] at this
        exact this
      · rw [List.getElem?_append_right (by omega), hl2, List.getElem?_drop]
        have := h3 (k - sz) (by omega) (by omega)
        rw [show k - sz + sz = k by omega] at this
        rw [this]
        congr 1
        omega
  · rw [if_neg hk, List.getElem?_eq_none]
    rw [List.length_append, hl2, List.length_drop]
    omega

/-- What the walks of 'slices.Insert' at places of 'sz' cells show. -/
structure InsWalk (P : Program) (f : FuncId) (sz by' : Nat) (S E : TypeId) (z : Value) : Prop where
  tS : P.underlying S = some (.slice E)
  iE : (P.info? E).map (fun i => (i.zero, i.size, i.bytes)) = some (some z, sz, by')
  hz : z.cells.size = sz
  h0 : 0 < sz
  hb : sz ≤ by'
  shift : ∀ (b n c i vb m vc : Nat) (cs vs : List Value) (w : World), i < n → 0 < m → n + m ≤ c → n + m ≤ 140737488355328 → vb ≠ b → cs.length = n * sz → vs.length = m * sz →
    (∀ (j : Nat) v, cs[j]? = some v → w.cell? ⟨b, j, none⟩ = some v) → (∀ j, j < (n + m) * sz → (w.cell? ⟨b, j, none⟩).isSome = true) → (∀ j, w.frozen? ⟨b, j, none⟩ = false) →
    (∀ (j : Nat) v, vs[j]? = some v → w.cell? ⟨vb, j, none⟩ = some v) → (∀ v ∈ cs, v.oneCell' = true) → (∀ v ∈ vs, v.oneCell' = true) →
    ∀ (tA tB : TypeId) (kA kB : Nat), w.shape? vb = some (tA, kA) → w.shape? b = some (tB, kB) → kB ≠ 0 → w.frozen? ⟨vb, 0, none⟩ = false → w.frozen? ⟨vb, kA, none⟩ = false →
    Calls P f #[.slice (some ⟨b, 0, none⟩) n c, .int .i64 i, .slice (some ⟨vb, 0, none⟩) m vc] w fun e w' =>
      e = .returned (.slice (some ⟨b, 0, none⟩) (n + m) c) ∧ w' = (w.drew.setCells b ((i + m) * sz) (cs.drop (i * sz))).setCells b (i * sz) vs
  grow : ∀ (b n c i vb m vc : Nat) (cs vs : List Value) (w : World), i < n → 0 < m → n ≤ c → c < n + m → (n + m) * by' ≤ 140737488355328 → cs.length = n * sz → vs.length = m * sz →
    (∀ (j : Nat) v, cs[j]? = some v → w.cell? ⟨b, j, none⟩ = some v) → (∀ (j : Nat) v, vs[j]? = some v → w.cell? ⟨vb, j, none⟩ = some v) → (∀ v ∈ cs, v.oneCell' = true) → (∀ v ∈ vs, v.oneCell' = true) →
    Calls P f #[.slice (some ⟨b, 0, none⟩) n c, .int .i64 i, .slice (some ⟨vb, 0, none⟩) m vc] w fun e w' =>
      e = .returned (.slice (some ⟨w.heap.size, 0, none⟩) (n + m) (grownCap w (n + m) c E)) ∧
      w' = (((w.alloc (.cells ((cs.take (i * sz)).toArray ++ Builtin.zeroCells z.cells (n + m - i) ++ Builtin.zeroCells z.cells (grownCap w (n + m) c E - (n + m))) E)).drew.setCells w.heap.size (i * sz) vs).drew).setCells w.heap.size ((i + m) * sz) (cs.drop (i * sz))
  last : ∀ (base : Option Addr) (n c vb m vc : Nat) (w : World), 0 < m → n ≤ c → ∀ {v' : Value} {w' : World}, (∀ ty, (Builtin.append_ #[S, S] ty #[.slice base n c, .slice (some ⟨vb, 0, none⟩) m vc]).run P w = .ok v' w') →
    Calls P f #[.slice base n c, .int .i64 n, .slice (some ⟨vb, 0, none⟩) m vc] w fun e w'' => e = .returned v' ∧ w'' = w'

theorem InsWalk.run {f : FuncId} {sz by' : Nat} {S E : TypeId} {z : Value} (D : InsWalk P f sz by' S E z) {v : Value} {n cap g i vb vc : Nat} {vals bvals : Array Value} {el bel : TypeId} {news : List Value} {w : World}
    (hv : (v = .slice none 0 0 ∧ n = 0 ∧ vals = #[]) ∨ (v = .slice (some ⟨g, 0, none⟩) n cap ∧ w.heap[g]? = some (.cells vals el (0, 0)) ∧ vals.size = cap * sz ∧ n ≤ cap ∧ vb ≠ g)) (hi : i ≤ n)
    (hb : w.heap[vb]? = some (.cells bvals bel (0, 0))) (hl : news.length = sz) (hnews : ∀ (j : Nat) u, news[j]? = some u → bvals[j]? = some u) (h1 : ∀ u ∈ news, u.oneCell' = true) (h1c : ∀ u ∈ vals.toList.take (n * sz), u.oneCell' = true)
    (hbig : (n + 1) * by' ≤ 140737488355328) :
    Calls P f #[v, .int .i64 i, .slice (some ⟨vb, 0, none⟩) 1 vc] w fun e w' => ∃ v', e = .returned v' ∧ (∃ g' cap', v' = .slice (some ⟨g', 0, none⟩) (n + 1) cap') ∧ Appended w w' v v' sz (n + 1) ((vals.toList.take (n * sz)).take (i * sz) ++ news ++ (vals.toList.take (n * sz)).drop (i * sz)) := by
  obtain ⟨i0, hi0, hz0, hzs, hzb⟩ := info_parts D.iE
  have hpos := D.h0
  have hsb := D.hb
  have hn1 : n + 1 ≤ 140737488355328 := by
    have h1 : 1 ≤ by' := by omega
    have h2 : (n + 1) * 1 ≤ (n + 1) * by' := Nat.mul_le_mul_left _ h1
    omega
  have hsrc : ∀ (j : Nat) u, news[j]? = some u → w.cell? ⟨vb, j, none⟩ = some u := fun j u hj => by rw [(cell_block hb j).1]; exact hnews j u hj
  by_cases hin : i = n
  · subst hin
    have hall : (vals.toList.take (i * sz)).take (i * sz) ++ news ++ (vals.toList.take (i * sz)).drop (i * sz) = vals.toList.take (i * i0.size) ++ news := by
      rw [hzs, List.take_take, Nat.min_self, List.drop_eq_nil_of_le (by rw [List.length_take]; omega), List.append_nil]
    rw [hall]
    obtain ⟨v', w', hr, ha, hsl, _⟩ := run_append_any (P := P) (ty := 0) (w := w) D.tS hi0 hz0 (by rw [hzs]; exact D.hz) (by omega) (v := v) (h := i) (cap := cap) (g := g) (vals := vals) (el := el)
      (by rcases hv with h | ⟨q1, q2, q3, q4, _⟩; exact .inl h; exact .inr ⟨q1, q2, by rw [hzs]; exact q3, q4⟩) (aa := some ⟨vb, 0, none⟩) (m := 1) (c := vc) (news := news) (by rw [hzs]; omega) (fun _ => ⟨vb, 0, rfl, fun j u hj => by rw [Nat.zero_add]; exact hsrc j u hj⟩) h1 (by omega) (by rw [hzb]; exact hbig)
    rw [hzs] at ha
    rw [hzs]
    have hr' : ∀ ty, (Builtin.append_ #[S, S] ty #[v, .slice (some ⟨vb, 0, none⟩) 1 vc]).run P w = .ok v' w' := fun ty => hr
    rcases hv with ⟨rfl, rfl, rfl⟩ | ⟨rfl, q2, q3, q4, _⟩
    · refine (D.last none 0 0 vb 1 vc w (by omega) (by omega) hr').mono ?_
      rintro e1 w1 ⟨rfl, rfl⟩
      exact ⟨_, rfl, hsl (by omega), ha⟩
    · refine (D.last (some ⟨g, 0, none⟩) i cap vb 1 vc w (by omega) q4 hr').mono ?_
      rintro e1 w1 ⟨rfl, rfl⟩
      exact ⟨_, rfl, hsl (by omega), ha⟩
  · rcases hv with ⟨rfl, rfl, rfl⟩ | ⟨rfl, q2, q3, q4, q5⟩
    · omega
    have hvs : vals.toList.length = vals.size := Array.length_toList
    have hnc : n * sz ≤ cap * sz := Nat.mul_le_mul_right _ q4
    have hin' : i * sz ≤ n * sz := Nat.mul_le_mul_right _ hi
    obtain ⟨cs, hcs⟩ : ∃ cs, cs = vals.toList.take (n * sz) := ⟨_, rfl⟩
    have hcl : cs.length = n * sz := by rw [hcs, List.length_take, hvs, q3]; omega
    have hcv : ∀ k, k < n * sz → cs[k]? = vals[k]? := fun k hk => by rw [hcs, List.getElem?_take, if_pos hk, Array.getElem?_toList]
    have hcell : ∀ (j : Nat) u, cs[j]? = some u → w.cell? ⟨g, j, none⟩ = some u := fun j u hj => by
      have := (List.getElem?_eq_some_iff.1 hj).1
      rw [(cell_block q2 j).1, ← hcv j (by omega)]; exact hj
    rw [← hcs] at h1c ⊢
    have e1 : (n + 1) * sz = n * sz + sz := by rw [Nat.add_mul, Nat.one_mul]
    have e2 : (i + 1) * sz = i * sz + sz := by rw [Nat.add_mul, Nat.one_mul]
    have hdl : (cs.drop (i * sz)).length = n * sz - i * sz := by rw [List.length_drop, hcl]
    by_cases hroom : n + 1 ≤ cap
    · have hrc : (n + 1) * sz ≤ cap * sz := Nat.mul_le_mul_right _ hroom
      refine (D.shift g n cap i vb 1 vc cs news w (by omega) (by omega) hroom hn1 q5 hcl (by omega) hcell (fun j hj => ?_) (fun j => (cell_block q2 j).2) hsrc h1c h1 bel el bvals.size vals.size (by simp [World.shape?, hb]) (by simp [World.shape?, q2]) (by omega) (cell_block hb _).2 (cell_block hb _).2).mono ?_
      · rw [(cell_block q2 j).1, Array.getElem?_eq_getElem (by omega)]; rfl
      · rintro e1' w1 ⟨rfl, rfl⟩
        obtain ⟨va, a1, a2, a3⟩ := setCells_block g el (cs.drop (i * sz)) ((i + 1) * sz) w.drew vals q2 (by omega)
        obtain ⟨vb', b1, b2, b3⟩ := setCells_block g el news (i * sz) _ va a1 (by omega)
        obtain ⟨c1, c2, c3, c4, c5⟩ := setCells_frame g (cs.drop (i * sz)) ((i + 1) * sz) w.drew
        obtain ⟨d1, d2, d3, d4, d5⟩ := setCells_frame g news (i * sz) (w.drew.setCells g ((i + 1) * sz) (cs.drop (i * sz)))
        have hgl : g < w.heap.size := (Array.getElem?_eq_some_iff.1 q2).1
        refine ⟨_, rfl, ⟨_, _, rfl⟩, .row g cap vb' el rfl b1 (by omega) hroom ?_ (.inl ⟨n, rfl, hgl, d1.trans c1⟩) (fun b hb _ => (d2 b hb).trans (c2 b hb)) ⟨d3.trans c3, d4.trans c4, d5.trans c5⟩⟩
        rw [e1]
        refine ins_ext _ cs news (i * sz) (n * sz) sz (fun k hk => ?_) (fun k hk => ?_) (fun k hk1 hk2 => ?_) hcl hl hin'
        · rw [Array.getElem?_toList, b3, if_neg (by omega), a3, if_neg (by omega), hcv k (by omega)]
        · rw [Array.getElem?_toList, b3, if_pos (by omega)]; congr 1; omega
        · rw [Array.getElem?_toList, b3, if_neg (by omega), a3, if_pos (by omega), List.getElem?_drop]; congr 1; omega
    · have hgc := grownCap_ge w (n + 1) cap E
      have hgsz : (n + 1) * sz ≤ grownCap w (n + 1) cap E * sz := Nat.mul_le_mul_right _ hgc
      have e3 : n * sz - i * sz + i * sz = n * sz := by omega
      refine (D.grow g n cap i vb 1 vc cs news w (by omega) (by omega) q4 (by omega) hbig hcl (by omega) hcell hsrc h1c h1).mono ?_
      rintro e1' w1 ⟨rfl, rfl⟩
      obtain ⟨ROW, hROW⟩ : ∃ ROW : Array Value, ROW = (cs.take (i * sz)).toArray ++ Builtin.zeroCells z.cells (n + 1 - i) ++ Builtin.zeroCells z.cells (grownCap w (n + 1) cap E - (n + 1)) := ⟨_, rfl⟩
      have hRs : ROW.size = grownCap w (n + 1) cap E * sz := by
        rw [hROW]
        simp only [Array.size_append, List.size_toArray, List.length_take, Builtin.zeroCells, Array.size_map, Array.size_range, D.hz, hcl]
        rw [Nat.min_eq_left hin', ← Nat.add_mul, ← Nat.add_mul]
        congr 1; omega
      have hRg : ∀ k, k < i * sz → ROW[k]? = cs[k]? := fun k hk => by
        have hl2 : (cs.take (i * sz)).toArray.size = i * sz := by rw [List.size_toArray, List.length_take]; omega
        rw [hROW, Array.append_assoc, Array.getElem?_append_left (by omega), List.getElem?_toArray, List.getElem?_take, if_pos hk]
      rw [← hROW]
      generalize grownCap w (n + 1) cap E = G at *
      have hal : (w.alloc (.cells ROW E)).drew.heap[w.heap.size]? = some (.cells ROW E (0, 0)) := by
        show (w.heap.push _)[w.heap.size]? = _
        rw [Array.getElem?_push_size]
      have has : (w.alloc (.cells ROW E)).drew.heap.size = w.heap.size + 1 := by show (w.heap.push _).size = _; rw [Array.size_push]
      have hao : ∀ b, b < w.heap.size → (w.alloc (.cells ROW E)).drew.heap[b]? = w.heap[b]? := fun b hb => by
        show (w.heap.push _)[b]? = _
        rw [Array.getElem?_push]; rw [if_neg (by omega)]
      obtain ⟨va, a1, a2, a3⟩ := setCells_block w.heap.size E news (i * sz) _ ROW hal (by omega)
      obtain ⟨c1, c2, c3, c4, c5⟩ := setCells_frame w.heap.size news (i * sz) (w.alloc (.cells ROW E)).drew
      obtain ⟨vb', b1, b2, b3⟩ := setCells_block w.heap.size E (cs.drop (i * sz)) ((i + 1) * sz) ((w.alloc (.cells ROW E)).drew.setCells w.heap.size (i * sz) news).drew va a1 (by omega)
      obtain ⟨d1, d2, d3, d4, d5⟩ := setCells_frame w.heap.size (cs.drop (i * sz)) ((i + 1) * sz) ((w.alloc (.cells ROW E)).drew.setCells w.heap.size (i * sz) news).drew
      refine ⟨_, rfl, ⟨_, _, rfl⟩, .row w.heap.size G vb' E rfl b1 (by omega) hgc ?_ (.inr ⟨rfl, d1.trans (c1.trans has)⟩) (fun b hb hb2 => (d2 b hb).trans ((c2 b hb).trans (hao b hb2))) ⟨d3.trans c3, d4.trans c4, d5.trans c5⟩⟩
      rw [e1]
      refine ins_ext _ cs news (i * sz) (n * sz) sz (fun k hk => ?_) (fun k hk => ?_) (fun k hk1 hk2 => ?_) hcl hl hin'
      · rw [Array.getElem?_toList, b3, if_neg (by omega), a3, if_neg (by omega), hRg k hk]
      · rw [Array.getElem?_toList, b3, if_neg (by omega), a3, if_pos (by omega)]; congr 1; omega
      · rw [Array.getElem?_toList, b3, if_pos (by omega), List.getElem?_drop]; congr 1; omega

section
variable {base : Nat} {M : LM} {w0 : World} {V : Vl}

/-- A row that the caller owns, after it took more elements: in its place, or in a new one. -/
theorem row_res {st : St} {ts : Array Value} {w : World} (r : Rel base M w0 V st ts w) {m : Nat} {e : Ty} {xs ys : List e.den} (hm : st.ent m = .row true e xs) {v v' : Value} {w' : World} (hs : hasRow V w m e xs.length v) {all : List Value}
    (ha : Appended w w' v v' e.size ys.length all) (hk : xs.length < ys.length) (hlen : ys.length ≤ lenMax) (hv' : ∃ g' cap', v' = .slice (some ⟨g', 0, none⟩) ys.length cap') (hrow : ∀ vals2 : Array Value, vals2.toList.take (ys.length * e.size) = all → RowAt (V.Z true) w e vals2 ys) :
    ∃ V', Rel base M w0 V' { (st.map (killO m)) with hp := lset (st.map (killO m)).hp m (.row true e ys) } ts w' ∧
      S.ok V' (St.mk (st.map (killO m)).ts (lset (st.map (killO m)).hp m (.row true e ys))).ent w' (.c (.own m)) v' := by
  have hrk := r.mem.ents m
  rw [hm] at hrk
  have hl : (st.ent m).live = true := by rw [hm]; rfl
  have hlt : m < st.hp.length := ent_lt hl
  have hent : (St.mk (st.map (killO m)).ts (lset (st.map (killO m)).hp m (.row true e ys))).ent m = .row true e ys := by
    rw [ent_set (by show m < (lmap _ _).length; rw [lmap_eq, List.length_map]; exact hlt)]
    simp only [hpSet, if_true]
  cases ha with
  | same h1 h2 =>
    exfalso
    subst h1
    obtain ⟨g', cap', hv'⟩ := hv'
    rcases hs with ⟨_, k2, _⟩ | ⟨_, cap, _, _, k2, _⟩
    · rw [k2] at hv'; cases hv'
    · rw [k2] at hv'; injection hv' with _ h _; omega
  | row g' cap' vals2 el2 h1 h2 h3 h4 h5 h6 h7 h8 =>
    have hplace : (V.has m ∧ g' = V.blk m ∧ w'.heap.size = w.heap.size) ∨ (g' = w.heap.size ∧ w'.heap.size = w.heap.size + 1) := by
      rcases h6 with ⟨l0, e1, e2, e3⟩ | h6
      · left
        rcases hs with ⟨k1, k2, k3⟩ | ⟨k1, cap, vals, el, k2, k3, k4, k5⟩
        · rw [k2] at e1; cases e1
        · rw [k2] at e1
          injection e1 with e1 _ _
          injection e1 with e1
          injection e1 with e1
          exact ⟨k1, e1.symm, e3⟩
      · exact .inr h6
    have hglt : g' < w'.heap.size := (Array.getElem?_eq_some_iff.1 h2).1
    have hsz : w.heap.size ≤ w'.heap.size := by rcases hplace with ⟨_, _, h⟩ | ⟨_, h⟩ <;> omega
    have hblk : ∀ b, b < w.heap.size → (V.has m → b ≠ V.blk m) → w'.heap[b]? = w.heap[b]? := by
      intro b hb hne
      refine h7 b (fun e => ?_) hb
      rcases hplace with ⟨q1, q2, _⟩ | ⟨q1, _⟩
      · exact hne q1 (by rw [e, q2])
      · omega
    have hownb : base ≤ g' ∨ M g' := by
      rcases hplace with ⟨q1, q2, _⟩ | ⟨q1, _⟩
      · rw [q2]; exact (r.mem.own m hl q1).1
      · left; have := r.mem.kept.size; omega
    have hkept : Kept base M w0 w' := by
      refine ⟨h8.1.trans r.mem.kept.os, h8.2.1.trans r.mem.kept.tape, h8.2.2.trans r.mem.kept.output, Nat.le_trans r.mem.kept.size hsz, fun b hb hM => ?_, fun b vals0 el0 hb hM hv0 => ?_⟩
      · rw [h7 b (fun e => by subst e; rcases hownb with h | h; omega; exact hM h) (by have := r.mem.kept.size; omega)]
        exact r.mem.kept.block b hb hM
      · obtain ⟨vals1, el1, j1, j2⟩ := r.mem.kept.shape b vals0 el0 hb hM hv0
        by_cases hbg : b = g'
        · subst hbg
          rcases hplace with ⟨q1, q2, _⟩ | ⟨q1, _⟩
          · rcases h6 with ⟨l0, e1, _, _⟩ | ⟨h6, _⟩
            · rcases hs with ⟨k1, k2, k3⟩ | ⟨k1, cap, vals, el, k2, k3, k4, k5⟩
              · rw [k2] at e1; cases e1
              · rw [k2] at e1
                injection e1 with _ _ e2
                subst e2
                rw [q2, k3] at j1
                injection j1 with j1
                injection j1 with j1 _ _
                subst j1
                exact ⟨vals2, el2, h2, by rw [h3, ← k4]; exact j2⟩
            · exfalso; have := r.mem.kept.size; omega
          · exfalso; have := r.mem.kept.size; omega
        · exact ⟨vals1, el1, by rw [h7 b hbg (by have := r.mem.kept.size; omega)]; exact j1, j2⟩
    have hag : ∀ {f : Bool} {b : Nat}, V.Z f b → w'.heap[b]? = w.heap[b]? := by
      intro f b hb
      exact hblk b (r.mem.z_lt hb) (fun hh e => by subst e; exact (r.mem.own m hl hh).2.2 (Vl.Z_all hb))
    have hrowAt : RowAt ((V.move m g').Z true) w' e vals2 ys := by
      intro j hj
      obtain ⟨es, p1, p2, p3⟩ := hrow vals2 h5 j hj
      exact ⟨es, p1, p2, p3.mono (fun b hb => hb) (fun b hb => hag hb)⟩
    subst h1
    refine ⟨V.move m g', ?_, ⟨true, e, _, hent, .inr ⟨move_has V m g', cap', vals2, el2, by rw [move_blk], by rw [move_blk]; exact h2, h3, h4⟩⟩⟩
    refine rel_row r hm hkept hsz hblk (fun n hn => move_ne hn) rfl rfl (fun hp' _ => ?_) (fun _ => ?_) (fun _ _ => ?_) (fun hlt _ => False.elim hlt) (fun _ q hq => by cases hq)
    · exact .inr ⟨move_has V m g', vals2, el2, by rw [move_blk]; exact h2, hlen, hrowAt⟩
    · rw [move_blk]
      refine ⟨hownb, hglt, ?_⟩
      rcases hplace with ⟨q1, q2, _⟩ | ⟨q1, _⟩
      · exact .inr ⟨q1, q2⟩
      · exact .inl (by omega)
    · rw [move_blk]
      rcases hplace with ⟨q1, q2, _⟩ | ⟨q1, _⟩
      · rw [q2]; exact r.mem.mine m e xs hm q1
      · have := r.mem.kept.size; omega
end

/-- The elements that go in, as the row's own are read: what holds no slice may go into a told row. -/
def insYs (e2 e : Ty) (ys : List e2.den) : Option (Prop × List e.den) :=
  if h : e2 = e then some (True, castL h ys) else if h : e2 = e.unG then some ((∀ y ∈ castL h ys, nilD e y), (castL h ys).map (tell0 e)) else none

theorem insYs_at {e2 e : Ty} {ys : List e2.den} {p : Prop} {zs : List e.den} (h : insYs e2 e ys = some (p, zs)) (hp : p) : zs.length = ys.length ∧ e2.size = e.size ∧
    ∀ (i : Nat) (h : i < ys.length) (h' : i < zs.length) {cs : List Value} {Z : Nat → Prop} {w : World}, RdC Z w e2 cs ys[i] → RdC Z w e cs zs[i] := by
  unfold insYs at h
  split at h
  · rename_i he
    subst he
    injection h with h
    injection h with h1 h2
    subst h2
    exact ⟨rfl, rfl, fun i _ _ _ _ _ h => h⟩
  · split at h
    · rename_i he
      subst he
      injection h with h
      injection h with h1 h2
      subst h2
      subst h1
      refine ⟨by rw [List.length_map]; rfl, unG_size e, fun i hi hi' cs Z w hr => ?_⟩
      rw [List.getElem_map]
      exact RdC.tell0 e hr (hp _ (List.getElem_mem (l := ys) hi))
    · cases h

/-- 'slices.Insert' of one element into a row that the caller owns. -/
def insRule (e : Ty) (by' : Nat) : Rule := fun ss st K =>
  match ss with
  | [.c (.own m), .c (.val (.int .i64 i)), .c (.own k)] =>
    match st.ent m, st.ent k with
    | .row true e' xs, .row true e2 ys2 =>
      match insYs e2 e' ys2 with
      | some (p, ys) =>
        if e'.unG = e.unG && m != k then
          (p ∧ 0 ≤ i ∧ i ≤ (xs.length : Nat) ∧ ys.length = 1 ∧ (xs.length + 1) * by' ≤ 140737488355328) ∧
            K (.c (.own m)) { (st.map (killO m)) with hp := lset (st.map (killO m)).hp m (.row true e' (xs.take i.toNat ++ ys ++ xs.drop i.toNat)) }
        else False
      | none => False
    | _, _ => False
  | _ => False

theorem ins_rule {f : FuncId} {e : Ty} {by' : Nat} {S' E : TypeId} {z : Value} (D : InsWalk P f e.size by' S' E z) : RuleOk P f (insRule e by') := by
  intro base M w0 V st ts w ss vs K r hlen hss hr
  unfold insRule at hr
  split at hr
  case h_2 => exact hr.elim
  rename_i m i k
  split at hr
  case h_2 => exact hr.elim
  rename_i e' xs e2 ys2 hm hk2
  split at hr
  case h_2 => exact hr.elim
  rename_i p ys hys
  split at hr
  case isFalse => exact hr.elim
  rename_i he
  simp only [Bool.and_eq_true, decide_eq_true_eq, bne_iff_ne, ne_eq] at he
  obtain ⟨he, hmk⟩ := he
  have hsz0 : e.size = e'.size := by rw [← unG_size e, ← he, unG_size e']
  rw [hsz0] at D
  obtain ⟨⟨hp, hi0, hil, hy1, hbig⟩, hK⟩ := hr
  obtain ⟨v0, v1, v2, rfl⟩ : ∃ v0 v1 v2, vs = [v0, v1, v2] := by
    match vs, hlen with
    | [a, b, c], _ => exact ⟨a, b, c, rfl⟩
  have k0 := hss 0 _ _ rfl rfl
  have k1 := hss 1 _ _ rfl rfl
  have k2 := hss 2 _ _ rfl rfl
  obtain ⟨rfl, _⟩ := (k1 : v1 = .int .i64 i ∧ _)
  obtain ⟨fr0, e9, xs0, hm0, hrow⟩ := k0
  rw [hm] at hm0
  injection hm0 with q1 q2 q3
  subst q1; subst q2
  have q3 := eq_of_heq q3
  subst q3
  obtain ⟨fr1, e8, ys0, hm1, hrow2⟩ := k2
  rw [hk2] at hm1
  injection hm1 with q1 q2 q3
  subst q1; subst q2
  have q3 := eq_of_heq q3
  subst q3
  obtain ⟨hl2, hs2, hat⟩ := insYs_at hys hp
  obtain ⟨i, rfl⟩ := Int.eq_ofNat_of_zero_le hi0
  simp only [Int.toNat_natCast] at hK
  have hil' : i ≤ xs.length := by omega
  have hrk := r.mem.ents m
  rw [hm] at hrk
  have hrk2 := r.mem.ents k
  rw [hk2] at hrk2
  have hl : (st.ent m).live = true := by rw [hm]; rfl
  have hlk : (st.ent k).live = true := by rw [hk2]; rfl
  rcases hrow2 with ⟨_, _, h3⟩ | ⟨hV2, cap2, bvals, bel, rfl, hb1, hb2, hb3⟩
  · omega
  rcases hrk2 with ⟨g1, _⟩ | ⟨_, bvals2, bel2, hb4, hb5, hb6⟩
  · exact absurd hV2 g1
  rw [hb1] at hb4
  injection hb4 with hb4
  injection hb4 with qa qb _
  subst qa; subst qb
  obtain ⟨es, p1, p2, p3⟩ := hb6 0 (by omega)
  have p3' := hat 0 (by omega) (by omega) p3
  have hyl : ys2.length = 1 := by omega
  rw [hyl]
  -- the row's cells
  obtain ⟨cap, g, vals, el, hv, hra, hvl⟩ : ∃ (cap g : Nat) (vals : Array Value) (el : TypeId),
      ((v0 = .slice none 0 0 ∧ xs.length = 0 ∧ vals = #[]) ∨ (v0 = .slice (some ⟨g, 0, none⟩) xs.length cap ∧ w.heap[g]? = some (.cells vals el (0, 0)) ∧ vals.size = cap * e'.size ∧ xs.length ≤ cap ∧ V.blk k ≠ g)) ∧
      RowAt (V.Z true) w e' vals xs ∧ xs.length * e'.size ≤ vals.size := by
    rcases hrow with ⟨h1, h2, h3⟩ | ⟨h1, cap, vals, el, h2, h3, h4, h5⟩
    · exact ⟨0, 0, #[], 0, .inl ⟨h2, h3, rfl⟩, fun j hj => by omega, by rw [h3]; simp⟩
    · rcases hrk with ⟨g1, _⟩ | ⟨_, vals2, el2, g2, g3, g4⟩
      · exact absurd h1 g1
      rw [h3] at g2
      injection g2 with g2
      injection g2 with g2a g2b _
      subst g2a; subst g2b
      exact ⟨cap, V.blk m, vals, el, .inr ⟨h2, h3, h4, h5, fun e => hmk (r.mem.dist k m hlk hl hV2 h1 e).symm⟩, g4, by rw [h4]; exact Nat.mul_le_mul_right _ h5⟩
  have hpos := e'.size_pos
  have hone : ∀ u ∈ vals.toList.take (xs.length * e'.size), u.oneCell' = true := by
    intro u hu
    obtain ⟨t, hu⟩ := List.mem_iff_getElem?.1 hu
    rw [List.getElem?_take] at hu
    split at hu
    case isFalse => cases hu
    rename_i ht
    rw [Array.getElem?_toList] at hu
    have hx : t / e'.size < xs.length := (Nat.div_lt_iff_lt_mul hpos).2 ht
    obtain ⟨es', p1, p2, p3⟩ := hra (t / e'.size) hx
    have hmod : t % e'.size < es'.length := by rw [p1]; exact Nat.mod_lt _ hpos
    have := p2 (t % e'.size) _ (List.getElem?_eq_getElem hmod)
    rw [show (t / e'.size) * e'.size + t % e'.size = t by rw [Nat.mul_comm, Nat.div_add_mod]] at this
    rw [this] at hu
    injection hu with hu
    subst hu
    exact p3.oneCell _ (List.getElem_mem hmod)
  refine (D.run hv hil' hb1 (by rw [← hs2, p1]) (fun j u hj => by have := p2 j u hj; rwa [Nat.zero_mul, Nat.zero_add] at this) (fun u hu => p3.oneCell u hu) hone hbig).mono ?_
  rintro e1 w1 ⟨v', rfl, hsl, ha⟩
  have hnl : (xs.take i ++ ys ++ xs.drop i).length = xs.length + 1 := by
    rw [List.length_append, List.length_append, List.length_take, List.length_drop, hy1]; omega
  have hlm : xs.length + 1 ≤ lenMax := by
    have h1 : 1 ≤ by' := by have := D.hb; omega
    have h2 : (xs.length + 1) * 1 ≤ (xs.length + 1) * by' := Nat.mul_le_mul_left _ h1
    unfold lenMax; omega
  rw [← hnl] at ha hsl
  obtain ⟨V', hR, hS⟩ := row_res r hm hrow ha (by omega) (by omega) hsl (fun vals2 h5 => by
    intro x hx
    rw [hnl] at hx h5
    have hcs : (vals.toList.take (xs.length * e'.size)).length = xs.length * e'.size := by
      have : vals.toList.length = vals.size := Array.length_toList
      rw [List.length_take, this]; omega
    have hin : i * e'.size ≤ xs.length * e'.size := Nat.mul_le_mul_right _ hil'
    have hesl : es.length = e'.size := by rw [p1]; exact hs2
    have e1 : (xs.length + 1) * e'.size = xs.length * e'.size + e'.size := by rw [Nat.add_mul, Nat.one_mul]
    have hx1 : (x + 1) * e'.size ≤ (xs.length + 1) * e'.size := Nat.mul_le_mul_right _ (by omega)
    have e2' : (x + 1) * e'.size = x * e'.size + e'.size := by rw [Nat.add_mul, Nat.one_mul]
    have hget : ∀ j u, j < e'.size → ((vals.toList.take (xs.length * e'.size)).take (i * e'.size) ++ es ++ (vals.toList.take (xs.length * e'.size)).drop (i * e'.size))[x * e'.size + j]? = some u → vals2[x * e'.size + j]? = some u := by
      intro j u hj hu
      rw [← h5, List.getElem?_take, if_pos (by omega)] at hu
      simpa using hu
    have hl3 : ((vals.toList.take (xs.length * e'.size)).take (i * e'.size)).length = i * e'.size := by rw [List.length_take]; omega
    have hl4 : ((vals.toList.take (xs.length * e'.size)).take (i * e'.size) ++ es).length = i * e'.size + e'.size := by rw [List.length_append, hl3, hesl]
    have hxi3 : (xs.take i).length = i := by rw [List.length_take]; omega
    have hxi4 : (xs.take i ++ ys).length = i + 1 := by rw [List.length_append, hxi3, hy1]
    by_cases hxi : x < i
    · have hxm : (x + 1) * e'.size ≤ i * e'.size := Nat.mul_le_mul_right _ hxi
      obtain ⟨es', r1, r2, r3⟩ := hra x (by omega)
      refine ⟨es', r1, fun j u hu => ?_, ?_⟩
      · have hj : j < e'.size := by rw [← r1]; exact (List.getElem?_eq_some_iff.1 hu).1
        refine hget j u hj ?_
        rw [List.getElem?_append_left (by omega), List.getElem?_append_left (by omega), List.getElem?_take, if_pos (by omega), List.getElem?_take, if_pos (by omega), Array.getElem?_toList]
        exact r2 j u hu
      · rw [List.getElem_append_left (by omega), List.getElem_append_left (by omega), List.getElem_take]
        exact r3
    · by_cases hxe : x = i
      · subst hxe
        refine ⟨es, hesl, fun j u hu => ?_, ?_⟩
        · have hj : j < e'.size := by rw [← hesl]; exact (List.getElem?_eq_some_iff.1 hu).1
          refine hget j u hj ?_
          rw [List.getElem?_append_left (by omega), List.getElem?_append_right (by omega), hl3, show x * e'.size + j - x * e'.size = j by omega]
          exact hu
        · rw [List.getElem_append_left (by omega), List.getElem_append_right (by omega)]
          simp only [hxi3, Nat.sub_self]
          exact p3'
      · obtain ⟨es', r1, r2, r3⟩ := hra (x - 1) (by omega)
        have hxm : (i + 1) * e'.size ≤ x * e'.size := Nat.mul_le_mul_right _ (by omega)
        have e3 : (i + 1) * e'.size = i * e'.size + e'.size := by rw [Nat.add_mul, Nat.one_mul]
        have e4 : x * e'.size = (x - 1) * e'.size + e'.size := by conv => lhs; rw [show x = x - 1 + 1 by omega, Nat.add_mul, Nat.one_mul]
        refine ⟨es', r1, fun j u hu => ?_, ?_⟩
        · have hj : j < e'.size := by rw [← r1]; exact (List.getElem?_eq_some_iff.1 hu).1
          refine hget j u hj ?_
          rw [List.getElem?_append_right (by omega), hl4, List.getElem?_drop, show i * e'.size + (x * e'.size + j - (i * e'.size + e'.size)) = (x - 1) * e'.size + j by omega, List.getElem?_take, if_pos (by omega), Array.getElem?_toList]
          exact r2 j u hu
        · rw [List.getElem_append_right (by omega)]
          simp only [hxi4, List.getElem_drop]
          have : i + (x - (i + 1)) = x - 1 := by omega
          simp only [this]
          exact r3)
  exact ⟨v', rfl, V', _, _, hK, hR, hS⟩
end Go.SX


/- A told row that is cut at its end: the rule. No condition. -/
namespace Go.SX
open Go.RowKit
set_option linter.unusedVariables false
set_option linter.unusedSimpArgs false

/-- A function that takes an int and a told row in a struct, and hands back both, the row cut at its end. -/
structure CT where
  e : Ty
  pre : Int → List e.den → Prop
  F : Int → List e.den → Nat

def startCT (c : Int) (e : Ty) (xs : List e.den) (ntmps : Nat) : St := { ts := .agg [.val (.int .i64 c), .pre 0 xs.length] :: lrep .und (ntmps - 1), hp := [.row false e xs] }

def vcPostCT (T : Tab) (fn : Func) (c : Int) (e : Ty) (xs : List e.den) (h : Nat) (ex : Ex) (st : St) : Prop :=
  match ex with
  | .exit _ => False
  | _ =>
    match resAll T st fn.results.toList with
    | some [.agg [.val (.int .i64 c'), .pre 0 k]] => c' = c ∧ k = h ∧ toP (rowsAre st.ent 0 [.row true e xs])
    | _ => False

/-- What is to be shown of the code of such a function. -/
def vcCutT (T : Tab) (Γ : FuncId → Option PC) (R : FuncId → Option Rule) (fn : Func) (ct : CT) (A : Int × List ct.e.den → Nat → Option Ann) : Prop :=
  match fn.body with
  | some code => ∀ c xs, IntKind.i64.min ≤ c ∧ c ≤ IntKind.i64.max → (Ty.sl ct.e).wf xs → ct.pre c xs → vc T Γ R code (A (c, xs)) (startCT c ct.e xs fn.ntmps) fun e _ st => vcPostCT T fn c ct.e xs (ct.F c xs) e st
  | none => False

/-- The rest of it: the row as it was, then cut. -/
def cutT2 (n : Nat) (e : Ty) (xs : List e.den) (h : Nat) (st : St) : St :=
  { (({ (st.map (killU false)) with hp := lset (st.map (killU false)).hp n (.row true e xs) } : St).map (killO n)) with hp := lset (({ (st.map (killU false)) with hp := lset (st.map (killU false)).hp n (.row true e xs) } : St).map (killO n)).hp n (.row true e (xs.take h)) }

def cutTK (n : Nat) (l : List Nat) (c : Int) (e : Ty) (xs : List e.den) (h : Nat) (st : St) (K : S → St → Prop) : Prop :=
  toP (rowsApart n l 0 st.hp) ∧ K (.agg [.val (.int .i64 c), .own n]) (cutT2 n e xs h st)

def cutTRule (ct : CT) : Rule := fun ss st K =>
  match ss with
  | [.agg [.val (.int .i64 c), .own n]] =>
    match st.ent n with
    | .row true e' xs =>
      if h : e' = ct.e then ct.pre c (castL h xs) ∧ cutTK n (idsL ct.e (castL h xs)) c ct.e (castL h xs) (ct.F c (castL h xs)) (st.drops (dropList n 0 st.hp)) K
      else False
    | _ => False
  | _ => False

section
variable {P : Program} {T : Tab} {Γ : FuncId → Option PC} {R : FuncId → Option Rule} {base : Nat} {M : LM} {w0 : World} {V : Vl} {hp : Nat → Ent} {w w' : World}

theorem cutT_run (hm : P.follows .mixedOrders = true) (hT : TabOk P T) (hΓ : GamOk P Γ) (hR : RulesOk P R) {f : FuncId} {fn : Func} (hf : P.funcs[f]? = some fn) {ct : CT} {A : Int × List ct.e.den → Nat → Option Ann}
    (h : vcCutT T Γ R fn ct A) {v0 : Value} {c : Int} {xs : List ct.e.den} {b0 : Nat} {has : Prop} (hg : ct.e.gcl = true)
    (hslot : ∀ V' hp', hp' 0 = .row false ct.e xs → (V'.has 0 ↔ has) → V'.blk 0 = b0 → C.ok V' hp' w (.own 0) v0)
    (hnil : ¬ has → xs = []) (hrow : has → ∃ vals el, w.heap[b0]? = some (.cells vals el (0, 0)) ∧ xs.length ≤ lenMax ∧ RowAt (fun i => i ∈ idsL ct.e xs) w ct.e vals xs) (hb : has → b0 ∉ idsL ct.e xs) (hlt : ∀ i ∈ idsL ct.e xs, i < w.heap.size)
    (hkr : IntKind.i64.min ≤ c ∧ c ≤ IntKind.i64.max) (hpre : ct.pre c xs) (hcl : (Ty.sl ct.e).wf xs) :
    Calls P f #[.agg #[.int .i64 c, v0]] w fun e1 w' => ∃ v1, e1 = .returned (.agg #[.int .i64 c, v1]) ∧
      Kept w.heap.size (lentM has b0 (idsL ct.e xs)) w w' ∧ (has → ∃ vals' el', w'.heap[b0]? = some (.cells vals' el' (0, 0)) ∧ RowAt (fun i => i ∈ idsL ct.e xs) w' ct.e vals' xs) ∧ ct.F c xs ≤ xs.length ∧
      ((v1 = .slice none 0 0 ∧ ct.F c xs = 0) ∨ (has ∧ ∃ cap vals el, v1 = .slice (some ⟨b0, 0, none⟩) (ct.F c xs) cap ∧ w'.heap[b0]? = some (.cells vals el (0, 0)) ∧ vals.size = cap * ct.e.size ∧ ct.F c xs ≤ cap)) := by
  unfold vcCutT at h
  split at h
  case h_2 => exact h.elim
  rename_i code hbd
  have hvc := h c xs hkr hcl hpre
  let V0 : Vl := ⟨fun _ => b0, fun j => j = 0 ∧ has, fun b => b ∈ idsL ct.e xs, fun _ => False⟩
  have hent : ∀ j, (startCT c ct.e xs fn.ntmps).ent j = if j = 0 then .row false ct.e xs else .dead := by
    intro j
    show nth .dead [Ent.row false ct.e xs] j = _
    cases j with
    | zero => rfl
    | succ j => rfl
  have h0 : (startCT c ct.e xs fn.ntmps).ent 0 = .row false ct.e xs := by rw [hent]; rfl
  have hdead : ∀ j, j ≠ 0 → (startCT c ct.e xs fn.ntmps).ent j = .dead := fun j hj => by rw [hent, if_neg hj]
  have hlv : ∀ j, ((startCT c ct.e xs fn.ntmps).ent j).live = true → j = 0 := by
    intro j hj
    by_cases e : j = 0
    · exact e
    · rw [hdead j e] at hj; cases hj
  have mem0 : Mem w.heap.size (lentM has b0 (idsL ct.e xs)) w V0 (startCT c ct.e xs fn.ntmps).ent w := by
    refine ⟨fun j => ?_, fun j cs hj => ?_, fun j hj hh => ?_, fun j e ys hj => ?_, fun j j' hj hj' _ _ _ => ?_, fun b h => ⟨hlt b h, trivial⟩, fun b h => h.elim, ⟨rfl, rfl, rfl, Nat.le_refl _, fun _ _ _ => rfl, fun b v2 e2 _ _ hv2 => ⟨v2, e2, hv2, rfl⟩⟩, fun j hj hh => ?_, fun b hb => hb.elim, fun j hh q hq => ?_⟩
    · by_cases ej : j = 0
      · subst ej
        rw [h0]
        by_cases hh : has
        · obtain ⟨vals, el, q1, q2, q3⟩ := hrow hh
          refine .inr ⟨⟨rfl, hh⟩, vals, el, q1, q2, fun i hi => ?_⟩
          obtain ⟨es, k1, k2, k3⟩ := q3 i hi
          exact ⟨es, k1, k2, k3.mono (fun b hb => .inr ⟨rfl, hb⟩) (fun _ _ => rfl)⟩
        · exact .inl ⟨fun h => hh h.2, hnil hh⟩
      · rw [hdead j ej]; trivial
    · by_cases ej : j = 0
      · subst ej; rw [h0] at hj; cases hj
      · rw [hdead j ej] at hj; cases hj
    · obtain ⟨vals, el, q1, _⟩ := hrow hh.2
      refine ⟨.inr (.inl ⟨hh.2, rfl⟩), (Array.getElem?_eq_some_iff.1 q1).1, fun hz => ?_⟩
      rcases hz with hz | ⟨_, hz⟩
      · exact hz
      · exact hb hh.2 hz
    · by_cases ej : j = 0
      · subst ej; rw [h0] at hj; injection hj with q; cases q
      · rw [hdead j ej] at hj; cases hj
    · rw [hlv j hj, hlv j' hj']
    · by_cases ej : j = 0
      · exact ⟨ej, hh.2, rfl⟩
      · rw [hdead j ej] at hj; exact False.elim hj
    · by_cases ej : j = 0
      · subst ej
        rw [h0] at hq
        have hq' : q ∈ (if ct.e.hasG then idsL ct.e xs else []) := hq
        split at hq'
        · exact fun _ => .inr hq'
        · cases hq'
      · rw [hdead j ej] at hq; cases hq
  have hs0 := hslot V0 (startCT c ct.e xs fn.ntmps).ent h0 ⟨fun h => h.2, fun h => ⟨rfl, h⟩⟩ rfl
  have sat0 : Sat w.heap.size (lentM has b0 (idsL ct.e xs)) w (startCT c ct.e xs fn.ntmps) { tmps := #[.agg #[.int .i64 c, v0]] ++ Array.replicate (fn.ntmps - 1) undef, defers := [] } w := by
    refine ⟨rfl, V0, ⟨?_, fun i s' v' hs' hv' => ?_, mem0⟩⟩
    · show (S.agg _ :: lrep S.und (fn.ntmps - 1)).length = _
      rw [lrep_eq]; simp; omega
    · have hs' : (S.agg [.val (.int .i64 c), .pre 0 xs.length] :: lrep S.und (fn.ntmps - 1))[i]? = some s' := hs'
      have hv' : ([Value.agg #[.int .i64 c, v0]] ++ List.replicate (fn.ntmps - 1) undef)[i]? = some v' := by
        rw [← hv']
        simp only [Array.getElem?_append, List.getElem?_append, List.getElem?_toArray, List.size_toArray, Array.getElem?_replicate, List.getElem?_replicate]
      cases i with
      | zero =>
        simp only [List.getElem?_cons_zero, Option.some.injEq, List.cons_append] at hs' hv'
        subst hs'; subst hv'
        refine ⟨#[.int .i64 c, v0], rfl, rfl, fun j c' v' h1 h2 => ?_⟩
        match j with
        | 0 => simp at h1 h2; subst h1; subst h2; exact ⟨rfl, hkr⟩
        | 1 =>
          simp at h1 h2; subst h1; subst h2
          obtain ⟨f9, e9, x9, g1, g2⟩ := hs0
          have g1' := g1
          rw [h0] at g1'
          injection g1' with q1 q2 q3
          subst q1; subst q2; cases q3
          exact ⟨_, _, _, g1, Nat.le_refl _, g2⟩
        | j + 2 => simp at h1
      | succ i =>
        simp only [List.getElem?_cons_succ, List.cons_append, List.nil_append, lrep_eq, List.getElem?_replicate] at hs' hv'
        split at hs'
        · rename_i hi
          injection hs' with hs'; subst hs'
          rw [if_pos hi] at hv'
          injection hv' with hv'; exact hv'.symm
        · cases hs'
  refine calls_of_wp (args := #[.agg #[.int .i64 c, v0]]) hf hbd (vc_ok hm hT hΓ hR code (A (c, xs)) _ _ _ _ w sat0 hvc (fun e1 A' st' a' w' hk hs' => ?_))
  obtain ⟨hd, V1, r1⟩ := hs'
  have key : vcPostCT T fn c ct.e xs (ct.F c xs) e1 st' → (∃ i, e1 = .exit i) ∨ ∃ v1, (results fn a'.tmps).run P w' = .ok (.agg #[.int .i64 c, v1]) w' ∧ C.ok V1 st'.ent w' (.pre 0 (ct.F c xs)) v1 ∧ toP (rowsAre st'.ent 0 [.row true ct.e xs]) := by
    intro hp
    unfold vcPostCT at hp
    split at hp
    · exact hp.elim
    · right
      split at hp
      · rename_i c' k' hss
        obtain ⟨hp1, hp2, hp3⟩ := hp
        subst hp1; subst hp2
        obtain ⟨vs, e1, e2, e3⟩ := resAll_run hT r1 hss
        match vs, e1 with
        | [x], _ =>
          obtain ⟨ws, g1, g2, g3⟩ := e2 0 _ x rfl rfl
          have g2' : ws.toList.length = 2 := g2.symm
          obtain ⟨x1, x2, hx⟩ : ∃ x1 x2, ws.toList = [x1, x2] := by
            match hw : ws.toList, g2' with
            | [a, b], _ => exact ⟨a, b, rfl⟩
          have hw : ws = #[x1, x2] := by rw [← Array.toArray_toList (xs := ws), hx]
          have i1 := g3 0 _ x1 rfl (by rw [hx]; rfl)
          have i2 := g3 1 _ x2 rfl (by rw [hx]; rfl)
          refine ⟨x2, ?_, i2, hp3⟩
          have i1' : x1 = Value.int .i64 c' := i1.1
          have hw2 : x = Value.agg #[.int .i64 c', x2] := by rw [g1, hw, i1']
          exact (results_run e3).trans (by rw [hw2]; rfl)
      · exact hp.elim
  have fin : ∀ v1, C.ok V1 st'.ent w' (.pre 0 (ct.F c xs)) v1 → toP (rowsAre st'.ent 0 [.row true ct.e xs]) → (has → ∃ vals' el', w'.heap[b0]? = some (.cells vals' el' (0, 0)) ∧ RowAt (fun i => i ∈ idsL ct.e xs) w' ct.e vals' xs) ∧ ct.F c xs ≤ xs.length ∧
      ((v1 = .slice none 0 0 ∧ ct.F c xs = 0) ∨ (has ∧ ∃ cap vals el, v1 = .slice (some ⟨b0, 0, none⟩) (ct.F c xs) cap ∧ w'.heap[b0]? = some (.cells vals el (0, 0)) ∧ vals.size = cap * ct.e.size ∧ ct.F c xs ≤ cap)) := by
    intro v1 hv1 hp
    have m1 := r1.mem
    have hz := rowsAre_get hp 0 true ct.e xs rfl
    rw [Nat.zero_add] at hz
    have h1 := m1.ents 0
    rw [hz] at h1
    obtain ⟨fr9, e9, xs9, hm9, hle, hrw⟩ := hv1
    rw [hz] at hm9
    injection hm9 with q1 q2 q3
    subst q1; subst q2; cases q3
    have hlen0 : (ct.e.flat || ct.e.hasG) = true := gcl_lent hg
    refine ⟨fun hh => ?_, hle, ?_⟩
    · rcases h1 with ⟨c1, c2⟩ | ⟨c1, vals2, el2, c2, c3, c4⟩
      · obtain ⟨vals, el, q1, _⟩ := hrow hh
        obtain ⟨v3, e3, h3, _⟩ := m1.kept.shape b0 vals el (Array.getElem?_eq_some_iff.1 q1).1 (.inl ⟨hh, rfl⟩) q1
        exact ⟨v3, e3, h3, by rw [c2]; intro i hi; exact absurd hi (Nat.not_lt_zero _)⟩
      · obtain ⟨_, _, hbl⟩ := m1.lent 0 (by rw [hz]; exact hlen0) c1
        rw [hbl] at c2
        refine ⟨vals2, el2, c2, fun i hi => ?_⟩
        obtain ⟨es, k1, k2, k3⟩ := c4 i hi
        exact ⟨es, k1, k2, RdC.by_ids ct.e hg k3 (fun i' hi' => ⟨List.mem_flatMap.2 ⟨_, List.getElem_mem hi, hi'⟩, rfl⟩)⟩
    · rcases hrw with ⟨a1, a2, a3⟩ | ⟨a1, cap, vals, el, a2, a3, a4, a5⟩
      · exact .inl ⟨a2, a3⟩
      · obtain ⟨_, hh, hbl⟩ := m1.lent 0 (by rw [hz]; exact hlen0) a1
        rw [hbl] at a2 a3
        exact .inr ⟨hh, cap, vals, el, a2, a3, a4, a5⟩
  have hk' := key hk
  cases e1 with
  | normal =>
    rcases hk' with ⟨i, h⟩ | ⟨v1, h1, h2, h3⟩
    · cases h
    · exact ⟨hd, _, h1, v1, rfl, r1.mem.kept, fin v1 h2 h3⟩
  | exit i => exact hk.elim
  | ret =>
    rcases hk' with ⟨i, h⟩ | ⟨v1, h1, h2, h3⟩
    · cases h
    · exact ⟨hd, _, h1, v1, rfl, r1.mem.kept, fin v1 h2 h3⟩
where gcl_lent : ∀ {t : Ty}, t.gcl = true → (t.flat || t.hasG) = true
  | .gs _ _, _ => rfl
  | .sl _, h => by cases h
  | .st t, h => gcl_lent (t := t) h
  | .pr a b, h => by
    have h' : (a.gcl && b.gcl) = true := h
    rw [Bool.and_eq_true] at h'
    have h1 := gcl_lent h'.1
    have h2 := gcl_lent h'.2
    show (a.flat && b.flat || (a.hasG || b.hasG)) = true
    cases ha : a.hasG <;> cases hb : b.hasG <;> simp_all
  | .int _, _ => rfl
  | .bool, _ => rfl
  | .str, _ => rfl
  | .ptr _, h => by cases h
  | .clo _ _, h => by cases h

theorem cutT_rule (hm : P.follows .mixedOrders = true) (hT : TabOk P T) (hΓ : GamOk P Γ) (hR : RulesOk P R) {f : FuncId} {fn : Func} (hf : P.funcs[f]? = some fn) {ct : CT} {A : Int × List ct.e.den → Nat → Option Ann}
    (hg : ct.e.gcl = true) (h : vcCutT T Γ R fn ct A) : RuleOk P f (cutTRule ct) := by
  intro base M w0 V st ts w ss vs K r hlen hslots hrule
  unfold cutTRule at hrule
  split at hrule
  case h_2 => exact hrule.elim
  rename_i c n
  match vs, hlen with
  | [v], _ =>
    obtain ⟨ws, hv, hwl, hws⟩ := hslots 0 _ v rfl rfl
    have hwl' : ws.toList.length = 2 := hwl.symm
    obtain ⟨x1, v0, hx⟩ : ∃ x1 x2, ws.toList = [x1, x2] := by
      match hw : ws.toList, hwl' with
      | [a, b], _ => exact ⟨a, b, rfl⟩
    have hw : ws = #[x1, v0] := by rw [← Array.toArray_toList (xs := ws), hx]
    have i1 := hws 0 _ x1 rfl (by rw [hx]; rfl)
    have hc : C.ok V st.ent w (.own n) v0 := hws 1 _ v0 rfl (by rw [hx]; rfl)
    obtain ⟨i1', hkr⟩ := (i1 : x1 = Value.int .i64 c ∧ IntKind.i64.min ≤ c ∧ c ≤ IntKind.i64.max)
    subst i1'
    subst hw
    subst hv
    split at hrule
    case h_2 => exact hrule.elim
    rename_i e' xs hn0
    split at hrule
    case isFalse => exact hrule.elim
    rename_i he
    subst he
    have hrule : ct.pre c xs ∧ cutTK n (idsL ct.e xs) c ct.e xs (ct.F c xs) (st.drops (dropList n 0 st.hp)) K := hrule
    obtain ⟨hpre, hap, hK⟩ := hrule
    obtain ⟨fr9, e9, xs9, hm9, hrow0⟩ := hc
    rw [hn0] at hm9
    injection hm9 with q1 q2 q3
    subst q1; subst q2; cases q3
    obtain ⟨V1, r1, hn1, hb1, hh1⟩ := rel_drops (n := n) (dropList n 0 st.hp) r hn0 (fun m hm => (dropList_mem hm).2.1) (fun m hm => by
      obtain ⟨_, _, f1, e1, x1, h1⟩ := dropList_mem hm
      exact ⟨f1, e1, x1, hp_get h1⟩) (dropList_nodup _ _)
    have hrow1 : hasRow V1 w n ct.e xs.length v0 := by
      unfold hasRow at hrow0 ⊢
      rw [hh1, hb1]; exact hrow0
    clear hrow0 hn0
    generalize st.drops (dropList n 0 st.hp) = st at *
    have hn := hn1
    have r := r1
    have mm := r1.mem
    have ha1 := hap
    have h0 := mm.ents n
    rw [hn] at h0
    obtain ⟨hz, hwr⟩ := row_writable r hn (.inl rfl)
    have hlive : (st.ent n).live = true := by rw [hn]; rfl
    refine (cutT_run hm hT hΓ hR hf h (v0 := v0) (c := c) (xs := xs) (b0 := V1.blk n) (has := V1.has n) hg ?_ ?_ ?_ ?_ ?_ hkr hpre ?_).mono ?_
    · intro V' hp' g1 g2 g3
      refine ⟨false, ct.e, xs, g1, ?_⟩
      unfold hasRow at hrow1 ⊢
      rw [g2, g3]; exact hrow1
    · intro hh
      rcases h0 with ⟨_, h2⟩ | ⟨h1, _⟩
      · exact h2
      · exact absurd h1 hh
    · intro hh
      rcases h0 with ⟨h1, _⟩ | ⟨_, vals, el, h2, h3, h4⟩
      · exact absurd hh h1
      · refine ⟨vals, el, h2, h3, fun i hi => ?_⟩
        obtain ⟨es, k1, k2, k3⟩ := h4 i hi
        exact ⟨es, k1, k2, RdC.by_ids ct.e hg k3 (fun i' hi' => ⟨List.mem_flatMap.2 ⟨_, List.getElem_mem hi, hi'⟩, rfl⟩)⟩
    · intro hh hx
      exact (mm.own n hlive hh).2.2 (Vl.Z_all (hz _ hx))
    · intro i hi
      exact mm.z_lt (Vl.Z_all (hz i hi))
    · rcases h0 with ⟨_, h2⟩ | ⟨_, vals, el, _, h3, h4⟩
      · rw [h2]; exact ⟨Nat.zero_le _, fun x hx => by cases hx⟩
      · refine ⟨h3, fun x hx => ?_⟩
        obtain ⟨i, hi, rfl⟩ := List.getElem_of_mem hx
        obtain ⟨es, _, _, k3⟩ := h4 i hi
        exact k3.wf
    · rintro e1 w1 ⟨v1, rfl, p4, p5, p6, p7⟩
      have R2 := rel_marked r hn rfl (l := idsL ct.e xs) (fun i hi => Vl.Z_all (hz i hi)) p4.size (fun b hb hx => p4.block b hb hx) (kept_lent mm.kept p4 (fun hh => (mm.own n hlive hh).1) hwr) (fun hh => by
          obtain ⟨vals', el', g1, g2⟩ := p5 hh
          rcases h0 with ⟨h1, _⟩ | ⟨_, vals, el, h2, h3, h4⟩
          · exact absurd hh h1
          · obtain ⟨v3, e3, g3, g4⟩ := p4.shape (V1.blk n) vals el (Array.getElem?_eq_some_iff.1 h2).1 (.inl ⟨hh, rfl⟩) h2
            rw [g1] at g3
            injection g3 with g3
            injection g3 with g3 _ _
            subst g3
            refine ⟨vals, el, vals', el', h2, g1, g4, fun i hi => ?_⟩
            obtain ⟨es, k1, k2, k3⟩ := g2 i hi
            exact ⟨es, k1, k2, k3.mono (fun b hb => hz b hb) (fun _ _ => rfl)⟩) (fun m f3 e3 xs3 hmn hm3 => rowsApart_get ha1 m f3 e3 xs3 (ent_get hm3 rfl) (by omega)) false (fun h => by cases h) (fun h => by cases h) (fun i hi => hi)
      have hn2 : (St.mk (st.map (killU false)).ts (lset (st.map (killU false)).hp n (.row true ct.e xs))).ent n = .row true ct.e xs := by
        rw [ent_set (by show n < (lmap _ _).length; rw [lmap_eq, List.length_map]; exact ent_lt hlive)]
        simp only [hpSet, if_true]
      have h2 := R2.mem.ents n
      rw [hn2] at h2
      have hl2 : ((St.mk (st.map (killU false)).ts (lset (st.map (killU false)).hp n (.row true ct.e xs))).ent n).live = true := by rw [hn2]; rfl
      have hent3 : (cutT2 n ct.e xs (ct.F c xs) st).ent n = .row true ct.e (xs.take (ct.F c xs)) := by
        unfold cutT2
        rw [show ({ (({ (st.map (killU false)) with hp := lset (st.map (killU false)).hp n (.row true ct.e xs) } : St).map (killO n)) with hp := lset (({ (st.map (killU false)) with hp := lset (st.map (killU false)).hp n (.row true ct.e xs) } : St).map (killO n)).hp n (.row true ct.e (xs.take (ct.F c xs))) } : St) = St.mk _ (lset (({ (st.map (killU false)) with hp := lset (st.map (killU false)).hp n (.row true ct.e xs) } : St).map (killO n)).hp n (.row true ct.e (xs.take (ct.F c xs)))) from rfl, ent_set (by show n < (lmap _ _).length; rw [lmap_eq, List.length_map]; exact ent_lt hl2)]
        simp only [hpSet, if_true]
      have htl : (xs.take (ct.F c xs)).length = ct.F c xs := by rw [List.length_take]; omega
      let V2 : Vl := { V1 with has := fun j => if j = n then (V1.has n ∧ v1 ≠ .slice none 0 0) else V1.has j }
      have hV2 : V2.has n ↔ (V1.has n ∧ v1 ≠ .slice none 0 0) := by show (if n = n then _ else _) ↔ _; rw [if_pos rfl]
      refine ⟨_, rfl, V2, _, _, hK, ?_, ⟨_, rfl, rfl, fun j c' u' g1 g2 => ?_⟩⟩
      · refine rel_row (V' := V2) R2 hn2 R2.mem.kept (Nat.le_refl _) (fun _ _ _ => rfl) (fun j hj => ⟨rfl, by show (if j = n then _ else _) ↔ _; rw [if_neg hj]⟩) rfl rfl (fun hp' _ => ?_) (fun hh => ?_) (fun _ hh => ?_) (fun h _ => False.elim h) (fun _ q hq => by cases hq)
        · rcases p7 with ⟨a1, a2⟩ | ⟨a1, cap, vals, el, a2, a3, a4, a5⟩
          · exact .inl ⟨fun hh => (hV2.1 hh).2 a1, by rw [a2]; rfl⟩
          · rcases h2 with ⟨b1, _⟩ | ⟨_, vals2, el2, b2, b3, b4⟩
            · exact absurd a1 b1
            · refine .inr ⟨hV2.2 ⟨a1, by rw [a2]; simp⟩, vals2, el2, b2, by rw [htl]; omega, fun i hi => ?_⟩
              rw [htl] at hi
              obtain ⟨es, k1, k2, k3⟩ := b4 i (by omega)
              exact ⟨es, k1, k2, by rw [List.getElem_take]; exact k3⟩
        · obtain ⟨o1, o2, _⟩ := R2.mem.own n hl2 (hV2.1 hh).1
          exact ⟨o1, o2, .inr ⟨(hV2.1 hh).1, rfl⟩⟩
        · exact R2.mem.mine n ct.e xs hn2 (hV2.1 hh).1
      · match j with
        | 0 => simp at g1 g2; subst g1; subst g2; exact ⟨rfl, hkr⟩
        | 1 =>
          simp at g1 g2; subst g1; subst g2
          refine ⟨true, ct.e, _, hent3, ?_⟩
          rw [htl]
          rcases p7 with ⟨a1, a2⟩ | ⟨a1, cap, vals, el, a2, a3, a4, a5⟩
          · exact .inl ⟨fun hh => (hV2.1 hh).2 a1, a1, a2⟩
          · exact .inr ⟨hV2.2 ⟨a1, by rw [a2]; simp⟩, cap, vals, el, a2, a3, a4, a5⟩
        | j + 2 => simp at g1
end
end Go.SX


/- Functions that write the box behind their argument, and the told row that it holds. No condition. -/
namespace Go.SX
open Go.RowKit
set_option linter.unusedVariables false
set_option linter.unusedSimpArgs false

/-- The contract of such a function: 't' a struct that holds one told row. -/
structure RC where
  t : Ty
  /-- is no block told twice? -/
  nd : Bool
  rs : List Ty
  pre : t.unG.den → Prop
  F : t.unG.den → Tup rs
  G : t.unG.den → t.unG.den

def ndP (b : Bool) (l : List Nat) : Prop := b = true → l.Nodup

def ndI (b : Bool) (l : List Nat) (K : Prop) : Prop :=
  match b with
  | true => l.Nodup → K
  | false => K

def ndA (b : Bool) (l : List Nat) (K : Prop) : Prop :=
  match b with
  | true => l.Nodup ∧ K
  | false => K

theorem ndI_elim {b : Bool} {l : List Nat} {K : Prop} (h : ndI b l K) (h1 : ndP b l) : K := by
  cases b with
  | true => exact h (h1 rfl)
  | false => exact h

theorem ndA_elim {b : Bool} {l : List Nat} {K : Prop} (h : ndA b l K) : ndP b l ∧ K := by
  cases b with
  | true => exact ⟨fun _ => h.1, h.2⟩
  | false => exact ⟨(fun h => by cases h), h⟩

def rowLen : List Ent → Nat
  | [.row _ _ xs] => xs.length
  | _ => 0

def startRef (t : Ty) (d : t.den) (ntmps : Nat) : St :=
  { ts := .c (.box 0 0) :: lrep .und (ntmps - 1), hp := .bx (fresh t d 1).1 :: lmap Ent.old (fresh t d 1).2 }

def refIs (t : Ty) (nd : Bool) (g : t.unG.den) (n : Nat) (lk : Nat → Ent) : Prop :=
  match lk 0 with
  | .bx cs =>
    match lendC lk t cs with
    | some (d, [some k], []) => if Nat.beq k 1 then (match lk 1 with | .row false _ _ => unD t d = g ∧ ndA nd (ids t d) (rowLen (fresh t d 0).2 = n) | _ => False) else False
    | _ => False
  | _ => False

def vcPostRef (T : Tab) (fn : Func) (t : Ty) (nd : Bool) (rs : List Ty) (out : Tup rs) (g : t.unG.den) (n : Nat) (e : Ex) (st : St) : Prop :=
  match e with
  | .exit _ => False
  | _ =>
    match resAll T st fn.results.toList with
    | some ss =>
      match outAll st.ent rs ss with
      | some (r, ns) => if nodupN ns then r = out ∧ refIs t nd g n st.ent else False
      | none => False
    | none => False

/-- What is to be shown of the code of such a function. -/
def vcRef (T : Tab) (Γ : FuncId → Option PC) (R : FuncId → Option Rule) (fn : Func) (rc : RC) (A : rc.t.den → Nat → Option Ann) : Prop :=
  match fn.body with
  | some code => ∀ d, rc.t.wf d → rc.pre (unD rc.t d) → ndI rc.nd (ids rc.t d) (vc T Γ R code (A d) (startRef rc.t d fn.ntmps) fun e _ st => vcPostRef T fn rc.t rc.nd rc.rs (rc.F (unD rc.t d)) (rc.G (unD rc.t d)) (rowLen (fresh rc.t d 0).2) e st)
  | none => False

def refRow (m : Nat) (e : Ty) (ys : List e.den) (st : St) : St := { (st.map (killB m)) with hp := lset (st.map (killB m)).hp m (.row true e ys) }

def refSt (n m : Nat) (cs : List C) (e : Ty) (ys : List e.den) (st : St) : St :=
  { ((refRow m e ys st).map (killO m)) with hp := lset ((refRow m e ys st).map (killO m)).hp n (.bx cs) }

def refK (n m : Nat) (t : Ty) (d' : t.den) (rs : List Ty) (out : Tup rs) (st : St) (K : S → St → Prop) : Prop :=
  match (fresh t d' m).2 with
  | [.row _ e ys] => K (((freshS rs out (llen st.hp)).1.map (killB m)).map (killO m)) (refSt n m (fresh t d' m).1 e ys (st.alloc (freshS rs out (llen st.hp)).2))
  | _ => False

def refRule (rc : RC) : Rule := fun ss st K =>
  match ss with
  | [.c (.box n 0)] =>
    match st.ent n with
    | .bx cs =>
      match lendC st.ent rc.t cs with
      | some (d, [some m], []) =>
        match st.ent m with
        | .row true _ xs =>
          rc.pre (unD rc.t d) ∧ ndA rc.nd (ids rc.t d) (∀ d' : rc.t.den, unD rc.t d' = rc.G (unD rc.t d) → rc.t.wf d' → tupWf rc.rs (rc.F (unD rc.t d)) → rowLen (fresh rc.t d' 0).2 = xs.length →
            ndI rc.nd (ids rc.t d') (refK n m rc.t d' rc.rs (rc.F (unD rc.t d)) st K))
        | _ => False
      | _ => False
    | _ => False
  | _ => False

section
variable {P : Program} {T : Tab} {Γ : FuncId → Option PC} {R : FuncId → Option Rule} {base : Nat} {M : LM} {w0 : World} {V : Vl} {hp : Nat → Ent} {w w' : World}

/-- Lent cells elsewhere. -/
theorem fresh_move {V' : Vl} {hp' : Nat → Ent} {w2 : World} {p : Ty → Bool} : ∀ (t : Ty), t.lendBy p = true → ∀ {d : t.den} {nx nx' : Nat} {vs : List Value}, okAll V hp w (fresh t d nx).1 vs →
    (∀ (j : Nat) v, j < (fresh t d nx).2.length → C.ok V hp w (.own (nx + j)) v → C.ok V' hp' w2 (.own (nx' + j)) v) → okAll V' hp' w2 (fresh t d nx').1 vs
  | .int _, _, _, _, _, vs, h, _ => ⟨h.1, fun j c v hc hv => by
      have := h.2 j c v hc hv
      cases j with
      | zero => have hc' : some _ = some c := hc; injection hc' with hc'; subst hc'; exact this
      | succ j => simp [fresh] at hc⟩
  | .bool, _, _, _, _, vs, h, _ => ⟨h.1, fun j c v hc hv => by
      have := h.2 j c v hc hv
      cases j with
      | zero => have hc' : some _ = some c := hc; injection hc' with hc'; subst hc'; exact this
      | succ j => simp [fresh] at hc⟩
  | .str, _, _, _, _, vs, h, _ => ⟨h.1, fun j c v hc hv => by
      have := h.2 j c v hc hv
      cases j with
      | zero => have hc' : some _ = some c := hc; injection hc' with hc'; subst hc'; exact this
      | succ j => simp [fresh] at hc⟩
  | .sl e, _, d, nx, nx', vs, h, hr => ⟨h.1, fun j c v hc hv => by
      cases j with
      | zero =>
        have hc' : some (C.own nx') = some c := hc
        injection hc' with hc'; subst hc'
        exact hr 0 v (Nat.lt_succ_self 0) (h.2 0 (.own nx) v rfl hv)
      | succ j => simp [fresh] at hc⟩
  | .st t, hl, d, nx, nx', vs, h, hr => fresh_move t hl h hr
  | .pr a b, hl, d, nx, nx', vs, h, hr => by
    have hl' : (a.lendBy p && b.lendBy p) = true := hl
    rw [Bool.and_eq_true] at hl'
    have e0 : ∀ k, (fresh (.pr a b) d k).1 = (fresh a d.1 k).1 ++ (fresh b d.2 (k + llen (fresh a d.1 k).2)).1 := fun k => lapp_eq _ _
    have e1 : ∀ k, (fresh (.pr a b) d k).2 = (fresh a d.1 k).2 ++ (fresh b d.2 (k + llen (fresh a d.1 k).2)).2 := fun k => lapp_eq _ _
    have el : ∀ k, llen (fresh a d.1 k).2 = (fresh a d.1 nx).2.length := fun k => by rw [llen_eq, fresh_ents a d.1 k, fresh_ents a d.1 nx]
    rw [e0] at h ⊢
    rw [e1] at hr
    rw [el] at h hr ⊢
    have hlen : (fresh a d.1 nx').1.length = (fresh a d.1 nx).1.length := fresh_cells a d.1 nx' nx
    have hA : okAll V hp w (fresh a d.1 nx).1 (vs.take (fresh a d.1 nx).1.length) := by
      refine ⟨by rw [List.length_take, ← h.1, List.length_append]; omega, fun j c v hc hv => ?_⟩
      have hj := (List.getElem?_eq_some_iff.1 hc).1
      rw [List.getElem?_take, if_pos hj] at hv
      exact h.2 j c v (by rw [List.getElem?_append_left hj]; exact hc) hv
    have hB : okAll V hp w (fresh b d.2 (nx + (fresh a d.1 nx).2.length)).1 (vs.drop (fresh a d.1 nx).1.length) := by
      refine ⟨by rw [List.length_drop, ← h.1, List.length_append]; omega, fun j c v hc hv => ?_⟩
      rw [List.getElem?_drop] at hv
      exact h.2 _ c v (by rw [List.getElem?_append_right (by omega), Nat.add_sub_cancel_left]; exact hc) hv
    have kA := fresh_move a hl'.1 (nx' := nx') hA (fun j v hj => hr j v (by rw [List.length_append]; omega))
    have kB := fresh_move b hl'.2 (nx' := nx' + (fresh a d.1 nx).2.length) hB (fun j v hj hc => by
      have := hr ((fresh a d.1 nx).2.length + j) v (by rw [List.length_append]; omega) (by rw [← Nat.add_assoc]; exact hc)
      rw [← Nat.add_assoc] at this
      exact this)
    refine ⟨by rw [List.length_append, kA.1, kB.1, List.length_take, List.length_drop]; have := h.1; rw [List.length_append] at this; omega, fun j c v hc hv => ?_⟩
    rcases Nat.lt_or_ge j (fresh a d.1 nx').1.length with hj | hj
    · rw [List.getElem?_append_left hj] at hc
      exact kA.2 j c v hc (by rw [List.getElem?_take, if_pos (by omega)]; exact hv)
    · rw [List.getElem?_append_right hj] at hc
      refine kB.2 _ c v hc ?_
      rw [List.getElem?_drop, ← hlen, show (fresh a d.1 nx').1.length + (j - (fresh a d.1 nx').1.length) = j by omega]
      exact hv
  | .ptr _, hl, _, _, _, _, _, _ => by cases hl
  | .clo _ _, hl, _, _, _, _, _, _ => by cases hl
  | .gs _ _, hl, _, _, _, _, _, _ => by cases hl
where
  fresh_cells : ∀ (t : Ty) (d : t.den) (nx nx' : Nat), (fresh t d nx).1.length = (fresh t d nx').1.length
  | .int _, _, _, _ => rfl
  | .bool, _, _, _ => rfl
  | .str, _, _, _ => rfl
  | .sl _, _, _, _ => rfl
  | .st t, d, nx, nx' => fresh_cells t d nx nx'
  | .pr a b, d, nx, nx' => by
    show (lapp _ _).length = (lapp _ _).length
    rw [lapp_eq, lapp_eq, List.length_append, List.length_append, fresh_cells a d.1 nx nx', fresh_cells b d.2 _ (nx' + llen (fresh a d.1 nx').2)]
  | .ptr _, _, _, _ => rfl
  | .clo _ _, _, _, _ => rfl
  | .gs _ _, _, _, _ => rfl

/-- The types of a datum's rows. -/
def rowTys : List Ent → List Ty
  | [] => []
  | .row _ e _ :: r => e :: rowTys r
  | _ :: r => rowTys r

theorem rowTys_app : ∀ (a b : List Ent), rowTys (a ++ b) = rowTys a ++ rowTys b
  | [], b => rfl
  | .row _ e _ :: r, b => by show e :: rowTys (r ++ b) = e :: (rowTys r ++ rowTys b); rw [rowTys_app r b]
  | .bx _ :: r, b => rowTys_app r b
  | .dead :: r, b => rowTys_app r b

theorem fresh_tys : ∀ (t : Ty) (d d' : t.den) (nx nx' : Nat), rowTys (fresh t d nx).2 = rowTys (fresh t d' nx').2
  | .int _, _, _, _, _ => rfl
  | .bool, _, _, _, _ => rfl
  | .str, _, _, _, _ => rfl
  | .sl _, _, _, _, _ => rfl
  | .st t, d, d', nx, nx' => fresh_tys t d d' nx nx'
  | .pr a b, d, d', nx, nx' => by
    show rowTys (lapp _ _) = rowTys (lapp _ _)
    rw [lapp_eq, lapp_eq, rowTys_app, rowTys_app, fresh_tys a d.1 d'.1 nx nx', fresh_tys b d.2 d'.2 _ (nx' + llen (fresh a d'.1 nx').2)]
  | .ptr _, _, _, _, _ => rfl
  | .clo _ _, _, _, _, _ => rfl
  | .gs _ _, _, _, _, _ => rfl

/-- What such a call may write. -/
def refM (B : Nat) (has : Prop) (b0 : Nat) (l : List Nat) : LM := ⟨fun b => b = B ∨ (has ∧ b = b0), fun b j => j = 1 ∧ has ∧ b = b0, fun b => b ∈ l ∨ (b = B ∨ (has ∧ b = b0)), fun b h => .inr h, fun b => b = B⟩

/-- What such a call leaves. -/
structure RefOk (w w' : World) (B n : Nat) (has : Prop) (b0 : Nat) (Z : List Nat) (t : Ty) (nd : Bool) (e : Ty) (len : Nat) (rs : List Ty) (v : Value) (out : Tup rs) (g : t.unG.den) : Prop where
  ex : ∃ (Z1 : Nat → Prop) (bs : List (Option Nat)) (vs : List Value), v = oneOr vs ∧ OwnVals Z1 w' rs vs out bs ∧ (bs.filterMap id).Nodup ∧
    (∀ b, some b ∈ bs → w.heap.size ≤ b ∧ b < w'.heap.size ∧ ¬ Z1 b) ∧ (∀ b, Z1 b → w.heap.size ≤ b ∧ b < w'.heap.size) ∧
    ∃ (d' : t.den) (ys : List e.den), unD t d' = g ∧ ndP nd (ids t d') ∧ t.wf d' ∧ (fresh t d' 0).2 = [.row true e ys] ∧ ys.length = len ∧ ys.length ≤ lenMax ∧
      (has → ∃ vals' el', w'.heap[b0]? = some (.cells vals' el' (0, 0)) ∧ RowAt (fun b => b ∈ Z ∨ Z1 b) w' e vals' ys) ∧
      ∃ valsB elB, w'.heap[B]? = some (.cells valsB elB (0, 0)) ∧ valsB.size = n ∧
        ∃ (V1 : Vl) (hp1 : Nat → Ent), okAll V1 hp1 w' (fresh t d' 1).1 valsB.toList ∧ hp1 1 = .row false e ys ∧ (V1.has 1 → has ∧ V1.blk 1 = b0) ∧ (¬ V1.has 1 → ys = [])
  kept : Kept w.heap.size (refM B has b0 Z) w w'

theorem wf_row : ∀ (t : Ty) {d : t.den} {e : Ty} {ys : List e.den} {fr : Bool} {nx : Nat}, t.wf d → Ent.row fr e ys ∈ (fresh t d nx).2 → ys.length ≤ lenMax
  | .int _, _, _, _, _, _, _, h => by cases h
  | .bool, _, _, _, _, _, _, h => by cases h
  | .str, _, _, _, _, _, _, h => by cases h
  | .sl e, d, e', ys, fr, nx, hw, h => by
    have h' : Ent.row fr e' ys ∈ [Ent.row true e d] := h
    rw [List.mem_singleton] at h'
    injection h' with h1 h2 h3
    subst h2; cases h3
    exact hw.1
  | .st t, d, _, _, _, _, hw, h => wf_row t hw h
  | .pr a b, d, _, _, _, nx, hw, h => by
    have h' : _ ∈ lapp (fresh a d.1 nx).2 (fresh b d.2 (nx + llen (fresh a d.1 nx).2)).2 := h
    rw [lapp_eq, List.mem_append] at h'
    rcases h' with h' | h'
    · exact wf_row a hw.1 h'
    · exact wf_row b hw.2 h'
  | .ptr _, _, _, _, _, _, _, h => by cases h
  | .clo _ _, _, _, _, _, _, _, h => by cases h
  | .gs _ _, _, _, _, _, _, _, h => by cases h

theorem one_row {t : Ty} {d : t.den} {n : Nat} {p : Ty → Bool} (h : Lent p V hp [some n] (fresh t d 0).2) : ∃ fr e xs, hp n = .row fr e xs ∧ p e = true ∧ (fresh t d 0).2 = [.row true e xs] := by
  obtain ⟨fr, e, xs, h1, h2, h3⟩ := h.row 0 n rfl
  refine ⟨fr, e, xs, h1, h2, ?_⟩
  have hl := h.len
  match hx : (fresh t d 0).2 with
  | [] => rw [hx] at hl; cases hl
  | [y] => rw [hx] at h3; simp only [List.getElem?_cons_zero, Option.some.injEq] at h3; rw [h3]
  | y :: z :: r => rw [hx] at hl; simp at hl

/-- What its code gives. -/
theorem ref_sem (hm : P.follows .mixedOrders = true) (hT : TabOk P T) (hΓ : GamOk P Γ) (hR : RulesOk P R) {f : FuncId} {fn : Func} (hf : P.funcs[f]? = some fn) {rc : RC} {A : rc.t.den → Nat → Option Ann}
    (hl : rc.t.lendBy Ty.gcl = true) (h : vcRef T Γ R fn rc A) {B b0 : Nat} {vals : Array Value} {el : TypeId} {d : rc.t.den} {e : Ty} {xs : List e.den} {has : Prop} (hB : w.heap[B]? = some (.cells vals el (0, 0)))
    (hes : (fresh rc.t d 0).2 = [.row true e xs]) (hg : e.gcl = true)
    (hslot : ∀ V' hp', hp' 1 = .row false e xs → (V'.has 1 ↔ has) → V'.blk 1 = b0 → okAll V' hp' w (fresh rc.t d 1).1 vals.toList)
    (hnil : ¬ has → xs = []) (hrow : has → ∃ vals el, w.heap[b0]? = some (.cells vals el (0, 0)) ∧ xs.length ≤ lenMax ∧ RowAt (fun i => i ∈ idsL e xs) w e vals xs) (hb : has → b0 ∉ idsL e xs) (hBi : B ∉ idsL e xs) (hne : has → b0 ≠ B)
    (hlt : ∀ i ∈ idsL e xs, i < w.heap.size) (hwf : rc.t.wf d) (hnd : ndP rc.nd (ids rc.t d)) (hpre : rc.pre (unD rc.t d)) :
    Calls P f #[.pointer (some ⟨B, 0, none⟩)] w fun e1 w' => ∃ v, e1 = .returned v ∧ RefOk w w' B vals.size has b0 (idsL e xs) rc.t rc.nd e xs.length rc.rs v (rc.F (unD rc.t d)) (rc.G (unD rc.t d)) := by
  unfold vcRef at h
  split at h
  case h_2 => exact h.elim
  rename_i code hbd
  have hvc := ndI_elim (h d hwf hpre) hnd
  have hrl : rowLen (fresh rc.t d 0).2 = xs.length := by rw [hes]; rfl
  rw [hrl] at hvc
  have hBlt : B < w.heap.size := (Array.getElem?_eq_some_iff.1 hB).1
  let V0 : Vl := ⟨fun j => if j = 0 then B else b0, fun j => j = 0 ∨ (j = 1 ∧ has), fun b => b ∈ idsL e xs, fun _ => False⟩
  have hent : ∀ j, (startRef rc.t d fn.ntmps).ent j = if j = 0 then .bx (fresh rc.t d 1).1 else if j = 1 then .row false e xs else .dead := by
    intro j
    show nth .dead (.bx (fresh rc.t d 1).1 :: lmap Ent.old (fresh rc.t d 1).2) j = _
    rw [fresh_ents, hes]
    match j with
    | 0 => rfl
    | 1 => rfl
    | j + 2 => rfl
  have h0 : (startRef rc.t d fn.ntmps).ent 0 = .bx (fresh rc.t d 1).1 := by rw [hent]; rfl
  have h1 : (startRef rc.t d fn.ntmps).ent 1 = .row false e xs := by rw [hent]; rfl
  have hdead : ∀ j, j ≠ 0 → j ≠ 1 → (startRef rc.t d fn.ntmps).ent j = .dead := fun j hj hj1 => by rw [hent, if_neg hj, if_neg hj1]
  have hlv : ∀ j, ((startRef rc.t d fn.ntmps).ent j).live = true → j = 0 ∨ j = 1 := by
    intro j hj
    by_cases e0 : j = 0
    · exact .inl e0
    · by_cases e1 : j = 1
      · exact .inr e1
      · rw [hdead j e0 e1] at hj; cases hj
  have hzf : ∀ b, V0.Z false b → b ∈ idsL e xs := fun b hz => by
    rcases hz with hz | ⟨_, hz⟩
    · exact hz.elim
    · exact hz
  have mem0 : Mem w.heap.size (refM B has b0 (idsL e xs)) w V0 (startRef rc.t d fn.ntmps).ent w := by
    refine ⟨fun j => ?_, fun j cs hj => ?_, fun j hj hh => ?_, fun j e ys hj => ?_, fun j j' hj hj' hh hh' he => ?_, fun b h => ⟨hlt b h, .inl h⟩, fun b h => h.elim, ⟨rfl, rfl, rfl, Nat.le_refl _, fun _ _ _ => rfl, fun b v2 e2 _ _ hv2 => ⟨v2, e2, hv2, rfl⟩⟩, fun j hj hh => ?_, fun b hb => ⟨by rw [h0]; rfl, hb.symm⟩, fun j hh q hq e0 => ?_⟩
    · by_cases e0 : j = 0
      · subst e0
        rw [h0]
        exact ⟨vals, el, hB, hslot V0 _ h1 ⟨fun h => by rcases h with h | h; cases h; exact h.2, fun h => .inr ⟨rfl, h⟩⟩ rfl⟩
      · by_cases e1 : j = 1
        · subst e1
          rw [h1]
          by_cases hh : has
          · obtain ⟨vals, el, q1, q2, q3⟩ := hrow hh
            refine .inr ⟨.inr ⟨rfl, hh⟩, vals, el, q1, q2, fun i hi => ?_⟩
            obtain ⟨es, k1, k2, k3⟩ := q3 i hi
            exact ⟨es, k1, k2, k3.mono (fun b hb => .inr ⟨rfl, hb⟩) (fun _ _ => rfl)⟩
          · exact .inl ⟨fun h => by rcases h with h | h; cases h; exact hh h.2, hnil hh⟩
        · rw [hdead j e0 e1]; trivial
    · rcases hlv j (by rw [hj]; rfl) with e0 | e1
      · exact .inl e0
      · subst e1; rw [h1] at hj; cases hj
    · rcases hlv j hj with e0 | e1
      · subst e0
        exact ⟨.inr (.inl rfl), hBlt, fun hz => hBi (hzf _ hz)⟩
      · subst e1
        have hh' : has := by rcases hh with hh | hh; cases hh; exact hh.2
        obtain ⟨vals, el, q1, _⟩ := hrow hh'
        exact ⟨.inr (.inr ⟨hh', rfl⟩), (Array.getElem?_eq_some_iff.1 q1).1, fun hz => hb hh' (hzf _ hz)⟩
    · rcases hlv j (by rw [hj]; rfl) with e0 | e1
      · subst e0; rw [h0] at hj; cases hj
      · subst e1; rw [h1] at hj; injection hj with q; cases q
    · rcases hlv j hj with e0 | e0 <;> rcases hlv j' hj' with e1 | e1 <;> subst e0 <;> subst e1
      · rfl
      · exact absurd he.symm (hne (by rcases hh' with h | h; cases h; exact h.2))
      · exact absurd he (hne (by rcases hh with h | h; cases h; exact h.2))
      · rfl
    · rcases hlv j (lentish_live hj) with e0 | e1
      · subst e0; rw [h0] at hj; exact False.elim hj
      · subst e1; exact ⟨rfl, by rcases hh with h | h; cases h; exact h.2, rfl⟩
    · subst e0; rw [h0] at hq; cases hq
  have sat0 : Sat w.heap.size (refM B has b0 (idsL e xs)) w (startRef rc.t d fn.ntmps) { tmps := #[Value.pointer (some ⟨B, 0, none⟩)] ++ Array.replicate (fn.ntmps - 1) undef, defers := [] } w := by
    refine ⟨rfl, V0, ⟨?_, fun i s' v' hs' hv' => ?_, mem0⟩⟩
    · show (S.c (.box 0 0) :: lrep S.und (fn.ntmps - 1)).length = _
      rw [lrep_eq]; simp; omega
    · have hs' : (S.c (.box 0 0) :: lrep S.und (fn.ntmps - 1))[i]? = some s' := hs'
      have hv' : ([Value.pointer (some ⟨B, 0, none⟩)] ++ List.replicate (fn.ntmps - 1) undef)[i]? = some v' := by
        rw [← hv']
        simp only [Array.getElem?_append, List.getElem?_append, List.getElem?_toArray, List.size_toArray, Array.getElem?_replicate, List.getElem?_replicate]
      cases i with
      | zero =>
        simp only [List.getElem?_cons_zero, Option.some.injEq, List.cons_append] at hs' hv'
        subst hs'; subst hv'
        exact ⟨rfl, .inl rfl, _, h0⟩
      | succ i =>
        simp only [List.getElem?_cons_succ, List.cons_append, List.nil_append, lrep_eq, List.getElem?_replicate] at hs' hv'
        split at hs'
        · rename_i hi
          injection hs' with hs'; subst hs'
          rw [if_pos hi] at hv'
          injection hv' with hv'; exact hv'.symm
        · cases hs'
  refine calls_of_wp (args := #[Value.pointer (some ⟨B, 0, none⟩)]) hf hbd (vc_ok hm hT hΓ hR code (A d) _ _ _ _ w sat0 hvc (fun e1 A' st' a' w' hk hs' => ?_))
  obtain ⟨hdf, V1, r⟩ := hs'
  have m1 := r.mem
  have key : vcPostRef T fn rc.t rc.nd rc.rs (rc.F (unD rc.t d)) (rc.G (unD rc.t d)) xs.length e1 st' → (∃ i, e1 = .exit i) ∨ ∃ v, (results fn a'.tmps).run P w' = .ok v w' ∧ RefOk w w' B vals.size has b0 (idsL e xs) rc.t rc.nd e xs.length rc.rs v (rc.F (unD rc.t d)) (rc.G (unD rc.t d)) := by
    intro hp
    unfold vcPostRef at hp
    split at hp
    · exact hp.elim
    right
    split at hp
    case h_2 => exact hp.elim
    rename_i ss hss
    split at hp
    case h_2 => exact hp.elim
    rename_i y ns ho
    split at hp
    case isFalse => exact hp.elim
    rename_i hndn
    obtain ⟨hp1, hp2⟩ := hp
    obtain ⟨us, e2, e3, e4⟩ := resAll_run hT r hss
    refine ⟨_, results_run e4, ?_⟩
    obtain ⟨bs, k1, k2, k3⟩ := outAll_ok (vs := us) m1.ents ho e2 e3
    rw [← hp1]
    obtain ⟨q1, q2⟩ := m1.lentb B rfl
    unfold refIs at hp2
    split at hp2
    case h_2 => exact hp2.elim
    rename_i cs hcs
    split at hp2
    case h_2 => exact hp2.elim
    rename_i d' k hlend
    split at hp2
    case isFalse => exact hp2.elim
    rename_i hk1
    have hk1 := Nat.eq_of_beq_eq_true hk1
    subst hk1
    split at hp2
    case h_2 => exact hp2.elim
    rename_i e9 ys9 hent1
    obtain ⟨g1, hp2⟩ := hp2
    obtain ⟨g2, g3⟩ := ndA_elim hp2
    have hbx := m1.ents 0
    rw [hcs] at hbx
    obtain ⟨vals', el', b1, b2⟩ := hbx
    rw [q2] at b1
    obtain ⟨vals2, el2, s1, s2⟩ := m1.kept.shape B vals el hBlt (.inl rfl) hB
    rw [b1] at s1
    injection s1 with s1
    injection s1 with s1 _ _
    obtain ⟨vs1, vs2, c1, c2, c3, c4, c5⟩ := lendC_ok (p := Ty.gcl) m1.ents rc.t hl hlend b2
    have hv2 : vs2 = [] := by have := c2.1; simpa using this.symm
    subst hv2
    rw [List.append_nil] at c1
    obtain ⟨fr3, e3, ys, p1, p2, p3⟩ := one_row c4
    rw [hent1] at p1
    injection p1 with p4 p5 p6
    subst p4; subst p5; cases p6
    have het : e9 = e := by
      have := fresh_tys rc.t d' d 0 0
      rw [p3, hes] at this
      have h9 : [e9] = [e] := this
      injection h9
    subst het
    have hok := c5 1 V1 st'.ent ⟨fun j e5 xs5 hj => by
        rw [p3] at hj
        cases j with
        | zero =>
          simp only [List.getElem?_cons_zero, Option.some.injEq, Ent.row.injEq] at hj
          obtain ⟨_, q6, q7⟩ := hj
          subst q6; cases q7
          exact hent1
        | succ j => simp at hj,
      fun j n hj => by
        cases j with
        | zero => simp only [List.getElem?_cons_zero, Option.some.injEq] at hj; subst hj; exact ⟨Iff.rfl, rfl⟩
        | succ j => simp at hj,
      fun j hj => by
        cases j with
        | zero => simp at hj
        | succ j => simp at hj⟩
    rw [← c1] at hok
    have hlen : ys9.length = xs.length := by rw [p3] at g3; exact g3
    have hmax : ys9.length ≤ lenMax := wf_row rc.t c3 (by rw [p3]; exact List.mem_singleton.2 rfl)
    have hlen1 : V1.has 1 → has ∧ V1.blk 1 = b0 := by
      intro hh
      obtain ⟨_, z1, z2⟩ := m1.lent 1 (by
        rw [hent1]
        show (e9.flat || e9.hasG) = true
        exact mutT_run.gcl_lent hg) hh
      exact ⟨z1, z2⟩
    have hrow1 := m1.ents 1
    rw [hent1] at hrow1
    refine ⟨⟨V1.Z true, bs, us, rfl, k1, by rw [k2]; exact nodup_blks m1 (nodupN_ok hndn) k3, fun b hb => ?_, fun b hb => ?_, d', ys9, g1, g2, c3, p3, hlen, hmax, fun hh => ?_, vals', el', b1, by rw [s1]; exact s2, V1, st'.ent, hok, hent1, hlen1, fun hn => ?_⟩, m1.kept⟩
    · have hb' : b ∈ bs.filterMap id := List.mem_filterMap.2 ⟨some b, hb, rfl⟩
      rw [k2] at hb'
      obtain ⟨n, h1, h2, rfl⟩ := mem_blksOf hb'
      obtain ⟨e, xs, h3⟩ := k3 n h1
      obtain ⟨_, h4, h5⟩ := m1.own n (by rw [h3]; rfl) h2
      exact ⟨m1.mine n e xs h3 h2, h4, fun hz => h5 (Vl.Z_all hz)⟩
    · rcases hb with hb | ⟨hb, _⟩
      · exact m1.z1 b hb
      · cases hb
    · rcases hrow1 with ⟨z1, z2⟩ | ⟨z1, vals3, el3, z2, z3, z4⟩
      · obtain ⟨vals3, el3, z3, _⟩ := hrow hh
        obtain ⟨v4, e4, z4, _⟩ := m1.kept.shape b0 vals3 el3 (Array.getElem?_eq_some_iff.1 z3).1 (.inr ⟨hh, rfl⟩) z3
        exact ⟨v4, e4, z4, by rw [z2]; intro i hi; exact absurd hi (Nat.not_lt_zero _)⟩
      · rw [(hlen1 z1).2] at z2
        refine ⟨vals3, el3, z2, fun i hi => ?_⟩
        obtain ⟨es, y1, y2, y3⟩ := z4 i hi
        refine ⟨es, y1, y2, y3.mono (fun b hb => ?_) (fun _ _ => rfl)⟩
        rcases hb with hb | ⟨_, hb⟩
        · exact .inr (.inl hb)
        · rcases (m1.z0 b hb).2 with h | h | ⟨_, h⟩
          · exact .inl h
          · refine absurd (Or.inr ⟨rfl, ?_⟩) (m1.own 0 (by rw [hcs]; rfl) (m1.box 0 cs hcs)).2.2
            rw [q2, ← h]; exact hb
          · refine absurd (Or.inr ⟨rfl, ?_⟩) (m1.own 1 (by rw [hent1]; rfl) z1).2.2
            rw [(hlen1 z1).2, ← h]; exact hb
    · rcases hrow1 with ⟨z1, z2⟩ | ⟨z1, _⟩
      · exact z2
      · exact absurd z1 hn
  have hk' := key
  cases e1 with
  | normal =>
    rcases hk' hk with ⟨i, h⟩ | ⟨v, h1, h2⟩
    · cases h
    · exact ⟨hdf, v, h1, v, rfl, h2⟩
  | exit i => exact hk.elim
  | ret =>
    rcases hk' hk with ⟨i, h⟩ | ⟨v, h1, h2⟩
    · cases h
    · exact ⟨hdf, v, h1, v, rfl, h2⟩
end
end Go.SX


/- Functions that write the box behind their argument, and the told row that it holds: the rule. No condition. -/
namespace Go.SX
open Go.RowKit
set_option linter.unusedVariables false
set_option linter.unusedSimpArgs false

def Vl.un (V : Vl) (m : Nat) : Vl := ⟨V.blk, fun k => V.has k ∧ k ≠ m, V.Z0, V.Z1⟩

section
variable {P : Program} {T : Tab} {Γ : FuncId → Option PC} {R : FuncId → Option Rule} {base : Nat} {M : LM} {w0 : World} {V : Vl} {hp : Nat → Ent} {w w' : World}

theorem un_has {m n : Nat} (h : n ≠ m) : (V.un m).has n ↔ V.has n := ⟨fun h => h.1, fun h' => ⟨h', h⟩⟩

theorem un_row {m n : Nat} {e : Ty} {k : Nat} {v : Value} (h : n ≠ m) (hr : hasRow V w n e k v) : hasRow (V.un m) w n e k v := by
  rcases hr with ⟨h1, h2⟩ | ⟨h1, h2⟩
  · exact .inl ⟨fun hh => h1 hh.1, h2⟩
  · exact .inr ⟨⟨h1, h⟩, h2⟩

theorem un_ok {m : Nat} {fr : Bool} {e : Ty} {xs : List e.den} (hm : hp m = .row fr e xs) {c : C} {v : Value} (h : C.ok V hp w c v) : C.ok (V.un m) (hpMap (killO m) hp) w (killO m c) v := by
  have hrow : ∀ {n fr e xs}, hp n = .row fr e xs → hpMap (killO m) hp n = .row fr e xs := fun {n fr e xs} h => by show (hp n).map _ = _; rw [h]; rfl
  have hbx : ∀ {n cs}, hp n = .bx cs → n ≠ m ∧ ∃ cs', hpMap (killO m) hp n = .bx cs' := by
    intro n cs h
    refine ⟨fun e => ?_, lmap (killO m) cs, ?_⟩
    · subst e; rw [hm] at h; cases h
    · show (hp n).map _ = _; rw [h]; rfl
  have hany : v.oneCell' = true := C.oneCell h
  cases c with
  | own n =>
    by_cases hn : n = m
    · show C.ok _ _ _ (if n = m then .any else .own n) v; rw [if_pos hn]; exact hany
    · show C.ok _ _ _ (if n = m then .any else .own n) v; rw [if_neg hn]
      obtain ⟨fr, e, xs, h1, h2⟩ := h; exact ⟨fr, e, xs, hrow h1, un_row hn h2⟩
  | pre n k =>
    by_cases hn : n = m
    · show C.ok _ _ _ (if n = m then .any else .pre n k) v; rw [if_pos hn]; exact hany
    · show C.ok _ _ _ (if n = m then .any else .pre n k) v; rw [if_neg hn]
      obtain ⟨fr, e, xs, h1, h3, h2⟩ := h; exact ⟨fr, e, xs, hrow h1, h3, un_row hn h2⟩
  | brw n e' ys =>
    by_cases hn : n = m
    · show C.ok _ _ _ (if n = m then .any else .brw n e' ys) v; rw [if_pos hn]; exact hany
    · show C.ok _ _ _ (if n = m then .any else .brw n e' ys) v; rw [if_neg hn]
      obtain ⟨⟨fr, e, xs, h1⟩, h2⟩ := h
      refine ⟨⟨fr, e, xs, hrow h1⟩, h2.mono (fun b hb => ?_) (fun _ _ => rfl)⟩
      rcases hb with hb | ⟨hb, hb2⟩
      · exact .inl hb
      · exact .inr ⟨⟨hb, hn⟩, hb2⟩
  | elt n i off =>
    by_cases hn : n = m
    · show C.ok _ _ _ (if n = m then .any else .elt n i off) v; rw [if_pos hn]; exact hany
    · show C.ok _ _ _ (if n = m then .any else .elt n i off) v; rw [if_neg hn]
      obtain ⟨h0, fr, e, xs, h1, h2⟩ := h; exact ⟨⟨h0, hn⟩, fr, e, xs, hrow h1, h2⟩
  | box n off => obtain ⟨h1, h2, cs, h3⟩ := h; exact ⟨h1, ⟨h2, (hbx h3).1⟩, (hbx h3).2⟩
  | fn g caps => exact ⟨h.1, fun n hn => let ⟨k1, cs, h3⟩ := h.2 n hn; ⟨⟨k1, (hbx h3).1⟩, (hbx h3).2⟩⟩
  | val u => exact h
  | tru => exact h
  | fls => exact h
  | any => exact h
  | rd fr e xs => exact h
  | clo fr f t d => exact h
  | rg fr wh e b xs => exact h
  | at_ fr t d off => exact h

/-- An empty row: its block is let go. -/
theorem rel_unhas {st : St} {ts : Array Value} (r : Rel base M w0 V st ts w) {m : Nat} {fr : Bool} {e : Ty} (hm : st.ent m = .row fr e []) : Rel base M w0 (V.un m) (st.map (killO m)) ts w := by
  have mm := r.mem
  refine ⟨by show (lmap _ _).length = _; rw [lmap_eq, List.length_map]; exact r.len, fun i s v hs hv => ?_, ?_⟩
  · rw [ent_map]
    have hs' : (lmap (S.map (killO m)) st.ts)[i]? = some s := hs
    rw [lmap_eq, List.getElem?_map] at hs'
    cases hx : st.ts[i]? with
    | none => rw [hx] at hs'; cases hs'
    | some x =>
      rw [hx] at hs'
      simp only [Option.map_some, Option.some.injEq] at hs'
      subst hs'
      exact Turns.s (fun c v hc => un_ok hm hc) (r.slots i x v hx hv)
  · rw [ent_map]
    have hbx : ∀ {n cs}, hpMap (killO m) st.ent n = .bx cs → ∃ cs', st.ent n = .bx cs' := by
      intro n cs h
      have h' : (st.ent n).map (killO m) = .bx cs := h
      cases hn : st.ent n with
      | bx cs' => exact ⟨cs', rfl⟩
      | dead => rw [hn] at h'; cases h'
      | row fr e xs => rw [hn] at h'; cases h'
    refine ⟨fun n => ?_, fun n cs h => ?_, fun n hl hh => mm.own n (by rw [← map_live (f := killO m)]; exact hl) hh.1, fun n e xs h hh => ?_, fun n n' hl hl' hh hh' he => mm.dist n n' (by rw [← map_live (f := killO m)]; exact hl) (by rw [← map_live (f := killO m)]; exact hl') hh.1 hh'.1 he, mm.z0, mm.z1, mm.kept, fun n hl hh => mm.lent n (lentish_map hl) hh.1, fun b hb => ⟨by show ((st.ent 0).map (killO m)).isBx = true; rw [map_isBx]; exact (mm.lentb b hb).1, (mm.lentb b hb).2⟩, fun n hh i hi => mm.lids n hh.1 i (by rw [← lids_map (f := killO m)]; exact hi)⟩
    · have h1 := mm.ents n
      show ((st.ent n).map (killO m)).ok _ _ _ _
      by_cases hn : n = m
      · subst hn
        rw [hm]
        exact .inl ⟨fun hh => hh.2 rfl, rfl⟩
      · cases hx : st.ent n with
        | dead => trivial
        | bx cs =>
          rw [hx] at h1
          obtain ⟨vals, el, k1, k2⟩ := h1
          exact ⟨vals, el, k1, Turns.all (fun c v hc => un_ok hm hc) k2⟩
        | row fr e xs =>
          rw [hx] at h1
          rcases h1 with ⟨k1, k2⟩ | ⟨k1, k2⟩
          · exact .inl ⟨fun hh => k1 hh.1, k2⟩
          · exact .inr ⟨⟨k1, hn⟩, k2⟩
    · obtain ⟨cs', h'⟩ := hbx h
      exact ⟨mm.box n cs' h', fun e => by subst e; rw [hm] at h'; cases h'⟩
    · have h' : (st.ent n).map (killO m) = .row true e xs := h
      cases hn : st.ent n with
      | row fr e' xs' => rw [hn] at h'; exact mm.mine n e xs (by rw [hn]; exact h') hh.1
      | dead => rw [hn] at h'; cases h'
      | bx cs => rw [hn] at h'; cases h'

theorem kept_upd (k : Kept base M w0 w) {w2 : World} {g : Nat} (hg : base ≤ g ∨ M g) (ho : w2.os = w.os ∧ w2.tape = w.tape ∧ w2.output = w.output) (hs : w2.heap.size = w.heap.size) (hb : ∀ b, b ≠ g → w2.heap[b]? = w.heap[b]?)
    (hc : ∀ vals el, w.heap[g]? = some (.cells vals el (0, 0)) → ∃ vals' el', w2.heap[g]? = some (.cells vals' el' (0, 0)) ∧ vals'.size = vals.size) : Kept base M w0 w2 where
  os := ho.1.trans k.os
  tape := ho.2.1.trans k.tape
  output := ho.2.2.trans k.output
  size := by rw [hs]; exact k.size
  block b hb' hm := by
    rw [hb b (fun e => by subst e; rcases hg with h | h; exact absurd hb' (by omega); exact hm h)]
    exact k.block b hb' hm
  shape b vals el hb' hm hv := by
    obtain ⟨vals', el', h1, h2⟩ := k.shape b vals el hb' hm hv
    by_cases hbg : b = g
    · subst hbg
      obtain ⟨v3, e3, h3, h4⟩ := hc _ _ h1
      exact ⟨v3, e3, h3, h4.trans h2⟩
    · exact ⟨vals', el', by rw [hb b hbg]; exact h1, h2⟩

/-- The world 'w'', with what was there in 'w'. -/
def World.back (w w' : World) : World := { w' with heap := w.heap ++ w'.heap.extract w.heap.size w'.heap.size }

theorem back_size (h : w.heap.size ≤ w'.heap.size) : (World.back w w').heap.size = w'.heap.size := by
  show (w.heap ++ w'.heap.extract w.heap.size w'.heap.size).size = _
  rw [Array.size_append, Array.size_extract]; omega
theorem back_old {b : Nat} (h : b < w.heap.size) : (World.back w w').heap[b]? = w.heap[b]? := by
  show (w.heap ++ w'.heap.extract w.heap.size w'.heap.size)[b]? = _
  rw [Array.getElem?_append_left h]
theorem back_new {b : Nat} (h : w.heap.size ≤ b) : (World.back w w').heap[b]? = w'.heap[b]? := by
  show (w.heap ++ w'.heap.extract w.heap.size w'.heap.size)[b]? = _
  rw [Array.getElem?_append_right h, Array.getElem?_extract]
  by_cases hb : b < w'.heap.size
  · rw [if_pos (by omega), show w.heap.size + (b - w.heap.size) = b by omega]
  · rw [if_neg (by omega), Array.getElem?_eq_none (by omega)]

/-- The world 'w', with what 'w'' has at 'b'. -/
def World.at1 (w w' : World) (b : Nat) : World := { w with heap := match w'.heap[b]? with | some c => w.heap.setIfInBounds b c | none => w.heap }

theorem at1_size {b : Nat} : (World.at1 w w' b).heap.size = w.heap.size := by
  show (match w'.heap[b]? with | some c => w.heap.setIfInBounds b c | none => w.heap).size = _
  split
  · simp
  · rfl
theorem at1_other {b c : Nat} (h : c ≠ b) : (World.at1 w w' b).heap[c]? = w.heap[c]? := by
  show (match w'.heap[b]? with | some c => w.heap.setIfInBounds b c | none => w.heap)[c]? = _
  split
  · rw [Array.getElem?_setIfInBounds, if_neg (fun e => h e.symm)]
  · rfl
theorem at1_at {b : Nat} (h : b < w.heap.size) (h' : b < w'.heap.size) : (World.at1 w w' b).heap[b]? = w'.heap[b]? := by
  show (match w'.heap[b]? with | some c => w.heap.setIfInBounds b c | none => w.heap)[b]? = _
  rw [Array.getElem?_eq_getElem h']
  simp only
  rw [Array.getElem?_setIfInBounds, if_pos rfl, if_pos h]

theorem refRow_ent {st : St} {m : Nat} {e : Ty} {ys : List e.den} (hlt : m < st.hp.length) (k : Nat) : (refRow m e ys st).ent k = if k = m then .row true e ys else (st.ent k).map (killB m) := by
  unfold refRow
  rw [ent_set (by show m < (lmap _ _).length; rw [lmap_eq, List.length_map]; exact hlt)]
  unfold hpSet
  split
  · rename_i h; first | rw [if_pos h] | rfl
  · rename_i h
    first | rw [if_neg h] | skip
    show (st.map (killB m)).ent k = _
    rw [ent_map]; rfl

/-- A function that writes the box behind its argument, and the told row that it holds, keeps its rule. -/
theorem ref_rule (hm : P.follows .mixedOrders = true) (hT : TabOk P T) (hΓ : GamOk P Γ) (hR : RulesOk P R) {f : FuncId} {fn : Func} (hf : P.funcs[f]? = some fn) {rc : RC} {A : rc.t.den → Nat → Option Ann}
    (hl : rc.t.lendBy Ty.gcl = true) (h : vcRef T Γ R fn rc A) : RuleOk P f (refRule rc) := by
  intro base M w0 V st ts w ss vs K r hlen hslots hrule
  unfold refRule at hrule
  split at hrule
  case h_2 => exact hrule.elim
  rename_i n
  match vs, hlen with
  | [v], _ =>
    obtain ⟨hpv, hhas, cs0, hcs0⟩ := hslots 0 _ v rfl rfl
    subst hpv
    have mm := r.mem
    split at hrule
    case h_2 => exact hrule.elim
    rename_i cs hme
    split at hrule
    case h_2 => exact hrule.elim
    rename_i d m hlend
    split at hrule
    case h_2 => exact hrule.elim
    rename_i e xs hmr
    obtain ⟨hpre, hrule⟩ := hrule
    obtain ⟨hnd, hK⟩ := ndA_elim hrule
    have hmok := mm.ents n
    rw [hme] at hmok
    obtain ⟨vals, el, hB, hcells⟩ := hmok
    obtain ⟨vs1, vs2, c1, c2, c3, c4, c5⟩ := lendC_ok (p := Ty.gcl) mm.ents rc.t hl hlend hcells
    have hv2 : vs2 = [] := by have := c2.1; simpa using this.symm
    subst hv2
    rw [List.append_nil] at c1
    obtain ⟨fr3, e3, xs3, p1, hg, hes⟩ := one_row c4
    rw [hmr] at p1
    injection p1 with p4 p5 p6
    subst p4; subst p5; cases p6
    have hnm : n ≠ m := fun e => by subst e; rw [hmr] at hme; cases hme
    have hlm : (st.ent m).live = true := by rw [hmr]; rfl
    have hln : (st.ent n).live = true := by rw [hme]; rfl
    have hltm : m < st.hp.length := ent_lt hlm
    have hltn : n < st.hp.length := ent_lt hln
    obtain ⟨hz, _⟩ := row_writable r hmr (.inl rfl)
    have h0 := mm.ents m
    rw [hmr] at h0
    have hownB := mm.own n hln hhas
    have hneB : V.has m → V.blk m ≠ V.blk n := fun hh e => hnm (mm.dist m n hlm hln hh hhas e).symm
    generalize hBe : V.blk n = B at *
    generalize hbe : V.blk m = b0 at *
    have hnil : ¬ V.has m → xs = [] := fun hh => by
      rcases h0 with ⟨_, h2⟩ | ⟨h1, _⟩
      · exact h2
      · exact absurd h1 hh
    have hslot : ∀ V' hp', hp' 1 = .row false e xs → (V'.has 1 ↔ V.has m) → V'.blk 1 = b0 → okAll V' hp' w (fresh rc.t d 1).1 vals.toList := by
      intro V' hp' g1 g2 g3
      rw [c1]
      refine c5 1 V' hp' ⟨fun j e9 xs9 hj => ?_, fun j q hj => ?_, fun j hj => ?_⟩
      · rw [hes] at hj
        cases j with
        | zero =>
          simp only [List.getElem?_cons_zero, Option.some.injEq, Ent.row.injEq] at hj
          obtain ⟨_, q6, q7⟩ := hj
          subst q6; cases q7
          exact g1
        | succ j => simp at hj
      · cases j with
        | zero => simp only [List.getElem?_cons_zero, Option.some.injEq] at hj; subst hj; exact ⟨g2, g3.trans hbe.symm⟩
        | succ j => simp at hj
      · cases j with
        | zero => simp at hj
        | succ j => simp at hj
    have hBi : B ∉ idsL e xs := fun hi => hownB.2.2 (Vl.Z_all (hz B hi))
    have hrow : V.has m → ∃ vals el, w.heap[b0]? = some (.cells vals el (0, 0)) ∧ xs.length ≤ lenMax ∧ RowAt (fun i => i ∈ idsL e xs) w e vals xs := by
      intro hh
      rcases h0 with ⟨h1, _⟩ | ⟨_, vals, el, h2, h3, h4⟩
      · exact absurd hh h1
      · rw [hbe] at h2
        refine ⟨vals, el, h2, h3, fun i hi => ?_⟩
        obtain ⟨es, k1, k2, k3⟩ := h4 i hi
        exact ⟨es, k1, k2, RdC.by_ids e hg k3 (fun i' hi' => ⟨List.mem_flatMap.2 ⟨_, List.getElem_mem hi, hi'⟩, rfl⟩)⟩
    have hb0i : V.has m → b0 ∉ idsL e xs := fun hh hi => by
      have := (mm.own m hlm hh).2.2
      rw [hbe] at this
      exact this (Vl.Z_all (hz b0 hi))
    refine (ref_sem hm hT hΓ hR hf hl h hB hes hg hslot hnil hrow hb0i hBi hneB (fun i hi => mm.z_lt (Vl.Z_all (hz i hi))) c3 hnd hpre).mono ?_
    rintro e1 w' ⟨v, rfl, ok⟩
    obtain ⟨⟨Z1, bs, us, rfl, h1, h2, h3, h4, d', ys, g1, g2, g3, g4, g5, g6, g7, valsB, elB, g8, g9, V1, hp1, g10, g11, g12, g13⟩, hk⟩ := ok
    have hwfo : tupWf rc.rs (rc.F (unD rc.t d)) := ownVals_wf h1
    have hK := ndI_elim (hK d' g1 g3 hwfo (by rw [g4]; exact g5)) g2
    unfold refK at hK
    rw [fresh_ents, g4] at hK
    simp only at hK
    have hsz : w.heap.size ≤ w'.heap.size := hk.size
    have hBlt : B < w.heap.size := hownB.2.1
    have hb0lt : V.has m → b0 < w.heap.size := fun hh => by have := (mm.own m hlm hh).2.1; rw [hbe] at this; exact this
    let w1 : World := World.back w w'
    have hw1s : w1.heap.size = w'.heap.size := back_size hsz
    have hw1o : ∀ b, b < w.heap.size → w1.heap[b]? = w.heap[b]? := fun b hb => back_old hb
    have hw1n : ∀ b, w.heap.size ≤ b → w1.heap[b]? = w'.heap[b]? := fun b hb => back_new hb
    have hk1 : Kept w.heap.size noM w w1 := ⟨hk.os, hk.tape, hk.output, by rw [hw1s]; exact hsz, fun b hb _ => hw1o b hb, fun _ _ _ _ h _ => h.elim⟩
    have g := good_callX mm (nx := llen st.hp) (ownVals_mono (w' := w1) h1 (fun b hb => hw1n b (h4 b hb).1) (fun b hb => hw1n b (h3 b hb).1)) h2
      (fun b hb => by rw [hw1s]; exact h3 b hb) (fun b hb => by rw [hw1s]; exact h4 b hb) hk1 (fun j _ => ent_dead st j)
    obtain ⟨r1, hres⟩ := rel_good r g
    generalize hV' : V.ext (llen st.hp) bs Z1 = V2 at *
    generalize hees : (freshS rc.rs (rc.F (unD rc.t d)) (llen st.hp)).2 = es at *
    generalize hrs : (freshS rc.rs (rc.F (unD rc.t d)) (llen st.hp)).1 = s at *
    have hold : ∀ k, k < st.hp.length → (st.alloc es).ent k = st.ent k := by
      intro k hk
      rw [ent_alloc]
      rcases hpNew_cases st.ent (llen st.hp) es k with ⟨j, e, h0, _⟩ | ⟨_, h0⟩
      · rw [llen_eq] at h0; omega
      · exact h0
    have hV2b : ∀ k, k < st.hp.length → V2.blk k = V.blk k := fun k hk => by rw [← hV', Vl.ext_blk_old (by rw [llen_eq]; omega)]
    have hV2h : ∀ k, k < st.hp.length → (V2.has k ↔ V.has k) := fun k hk => by rw [← hV', Vl.ext_has_old (by rw [llen_eq]; omega)]
    have r2 : Rel base M w0 V2 ⟨st.ts ++ [s], lapp st.hp es⟩ (ts ++ [oneOr us].toArray) w1 :=
      rel_app (a := st.ts) (h := lapp st.hp es) r1 rfl (fun i s' v hs hv => by
        cases i with
        | zero =>
          simp only [List.getElem?_cons_zero, Option.some.injEq] at hs hv
          subst hs; subst hv; exact hres
        | succ i => simp at hs)
    let st2 : St := ⟨st.ts ++ [s], lapp st.hp es⟩
    have hlt2 : m < st2.hp.length := by show m < (lapp st.hp es).length; rw [lapp_eq, List.length_append]; omega
    have hm2 : st2.ent m = .row true e xs := (hold m hltm).trans hmr
    have hn2 : st2.ent n = .bx cs := (hold n hltn).trans hme
    have hZ2 : ∀ fr b, V.Z fr b → V2.Z fr b := fun fr b hb => by rw [← hV']; exact Vl.ext_Z.2 (.inl hb)
    have hZ3 : ∀ fr b, Z1 b → V2.Z fr b := fun fr b hb => by rw [← hV']; exact Vl.ext_Z.2 (.inr hb)
    letI hdec : Decidable (V.has m) := Classical.propDecidable _
    let w2 : World := if V.has m then World.at1 w1 w' b0 else w1
    have hw2 : ∀ b, b ≠ B → w2.heap[b]? = w'.heap[b]? := by
      intro b hb
      show (if V.has m then World.at1 w1 w' b0 else w1).heap[b]? = _
      split
      · rename_i hh
        by_cases e0 : b = b0
        · subst e0; exact at1_at (by have := hb0lt hh; omega) (by have := hb0lt hh; omega)
        · rw [at1_other e0]
          rcases Nat.lt_or_ge b w.heap.size with hlt | hge
          · rw [hw1o b hlt, hk.block b hlt (fun hx => by rcases hx with hx | ⟨_, hx⟩; exact hb hx; exact e0 hx)]
          · exact hw1n b hge
      · rename_i hh
        rcases Nat.lt_or_ge b w.heap.size with hlt | hge
        · rw [hw1o b hlt, hk.block b hlt (fun hx => by rcases hx with hx | ⟨hx, _⟩; exact hb hx; exact hh hx)]
        · exact hw1n b hge
    have hw2o : w2.os = w1.os ∧ w2.tape = w1.tape ∧ w2.output = w1.output := by
      show (if V.has m then World.at1 w1 w' b0 else w1).os = _ ∧ (if V.has m then World.at1 w1 w' b0 else w1).tape = _ ∧ (if V.has m then World.at1 w1 w' b0 else w1).output = _
      split <;> exact ⟨rfl, rfl, rfl⟩
    have hw2s : w2.heap.size = w1.heap.size := by
      show (if V.has m then World.at1 w1 w' b0 else w1).heap.size = _
      split
      · exact at1_size
      · rfl
    have hw2b : w2.heap[B]? = w.heap[B]? := by
      show (if V.has m then World.at1 w1 w' b0 else w1).heap[B]? = _
      split
      · rename_i hh; rw [at1_other (fun e => hneB hh e.symm)]; exact hw1o B hBlt
      · exact hw1o B hBlt
    have rA : Rel base M w0 V2 (refRow m e ys st2) (ts ++ [oneOr us].toArray) w2 := by
      by_cases hh : V.has m
      · obtain ⟨vo, eo, q1, q2, q3⟩ := hrow hh
        obtain ⟨vals', el', y1, y2⟩ := g7 hh
        obtain ⟨v3, e3, y3, y4⟩ := hk.shape b0 vo eo (hb0lt hh) (.inr ⟨hh, rfl⟩) q1
        rw [y1] at y3
        injection y3 with y3
        injection y3 with y3 _ _
        subst y3
        have hw2b0 : w2.heap[b0]? = some (.cells vals' el' (0, 0)) := by rw [hw2 b0 (hneB hh)]; exact y1
        have hw1b0 : w1.heap[b0]? = some (.cells vo eo (0, 0)) := by rw [hw1o b0 (hb0lt hh)]; exact q1
        have hw21 : ∀ b, b ≠ b0 → w2.heap[b]? = w1.heap[b]? := fun b hb => by
          show (if V.has m then World.at1 w1 w' b0 else w1).heap[b]? = _
          rw [if_pos hh]; exact at1_other hb
        have hbl : V2.blk m = b0 := (hV2b m hltm).trans hbe
        have hown2 := r2.mem.own m (by rw [hm2]; rfl) ((hV2h m hltm).2 hh)
        rw [hbl] at hown2
        refine rel_write r2 (m := m) (e' := .row true e ys) (w' := w2) ⟨fun k hk => by simp only [hpSet, if_neg hk], fun b hb => hw21 b (by rw [hbl] at hb; exact hb), (hV2h m hltm).2 hh, .inr ⟨true, true, e, xs, ys, hm2, by simp only [hpSet, if_true], g5.symm, vo, vals', eo, el', by rw [hbl]; exact hw1b0, by rw [hbl]; exact hw2b0, y4.symm⟩⟩ rfl
          (kept_upd r2.mem.kept hown2.1 hw2o hw2s hw21 (fun v9 e9 h9 => ⟨vals', el', hw2b0, by rw [hw1b0] at h9; injection h9 with h9; injection h9 with h9 _ _; rw [← h9]; exact y4⟩)) hw2s ?_ (fun e2 xs2 heq => r2.mem.mine m e xs hm2 ((hV2h m hltm).2 hh)) (fun cs heq => by cases heq) (fun hlt => hlt.elim) (fun _ q hq => by cases hq)
        refine .inr ⟨(hV2h m hltm).2 hh, vals', el', by rw [hbl]; exact hw2b0, g6, fun i hi => ?_⟩
        obtain ⟨es', a1, a2, a3⟩ := y2 i hi
        refine ⟨es', a1, a2, a3.mono (fun b hb => ?_) (fun b hb => ?_)⟩
        · rcases hb with hb | hb
          · exact hZ2 true b (hz b hb)
          · exact hZ3 true b hb
        · refine hw2 b (fun e => ?_)
          subst e
          rcases hb with hb | hb
          · exact hBi hb
          · have := (h4 b hb).1; omega
      · have hx0 : xs = [] := hnil hh
        have hy0 : ys = xs := by rw [hx0] at g5 ⊢; exact List.length_eq_zero_iff.1 g5
        have hw21 : w2 = w1 := if_neg hh
        rw [hw21]
        have r3 := r2.kill (kills_killB m)
        have hlt : m < (st2.map (killB m)).hp.length := by
          show m < (lmap _ _).length
          rw [lmap_eq, List.length_map]; exact hlt2
        have he : (st2.map (killB m)).ent m = .row true e xs := by
          rw [ent_map]; show (st2.ent m).map _ = _; rw [hm2]; rfl
        have hs := lset_self (st2.map (killB m)).hp m hlt
        rw [show nth .dead (st2.map (killB m)).hp m = .row true e xs from he] at hs
        show Rel base M w0 V2 { (st2.map (killB m)) with hp := lset (st2.map (killB m)).hp m (.row true e ys) } _ _
        rw [hy0, hs]
        exact r3
    obtain ⟨V3, rB, hb3, hh3, hm3, hz3⟩ : ∃ V3, Rel base M w0 V3 ((refRow m e ys st2).map (killO m)) (ts ++ [oneOr us].toArray) w2 ∧ V3.blk = V2.blk ∧ (∀ k, k ≠ m → (V3.has k ↔ V2.has k)) ∧ (V3.has m ↔ V1.has 1) ∧ True := by
      by_cases hv : V1.has 1
      · exact ⟨V2, rA.kill (kills_killO m), rfl, fun _ _ => Iff.rfl, ⟨fun _ => hv, fun _ => (hV2h m hltm).2 (g12 hv).1⟩, trivial⟩
      · have hy0 := g13 hv
        subst hy0
        exact ⟨V2.un m, rel_unhas rA (by rw [refRow_ent hlt2, if_pos rfl]), rfl, fun k hk => un_has hk, ⟨fun hx => absurd rfl hx.2, fun hx => absurd hx hv⟩, trivial⟩
    have hmB : ((refRow m e ys st2).map (killO m)).ent m = .row true e ys := by
      rw [ent_map]; show ((refRow m e ys st2).ent m).map _ = _
      rw [refRow_ent hlt2, if_pos rfl]; rfl
    have hnB : ((refRow m e ys st2).map (killO m)).ent n = .bx (lmap (killO m) (lmap (killB m) cs)) := by
      rw [ent_map]; show ((refRow m e ys st2).ent n).map _ = _
      rw [refRow_ent hlt2, if_neg hnm, hn2]; rfl
    have hbn3 : V3.blk n = B := by rw [hb3, hV2b n hltn]; exact hBe
    have hbm3 : V3.blk m = b0 := by rw [hb3, hV2b m hltm]; exact hbe
    have hokB : okAll V3 ((refRow m e ys st2).map (killO m)).ent w2 (fresh rc.t d' m).1 valsB.toList := by
      refine fresh_move rc.t hl g10 (fun j v hj hc => ?_)
      rw [fresh_ents, g4] at hj
      have hj0 : j = 0 := by simpa using hj
      subst hj0
      obtain ⟨fr4, e4, xs4, y1, y2⟩ := hc
      have y1 : hp1 1 = .row fr4 e4 xs4 := y1
      rw [g11] at y1
      injection y1 with y3 y4 y5
      subst y3; subst y4; cases y5
      refine ⟨true, e, ys, hmB, ?_⟩
      rcases y2 with ⟨z1, z2, z3⟩ | ⟨z1, cap, v9, e9, z2, z3, z4, z5⟩
      · exact .inl ⟨fun hx => z1 (hm3.1 hx), z2, z3⟩
      · have z1 : V1.has 1 := z1
        have hb1 : V1.blk (1 + 0) = b0 := (g12 z1).2
        rw [hb1] at z2 z3
        refine .inr ⟨hm3.2 z1, cap, v9, e9, ?_, ?_, z4, z5⟩
        · show v = .slice (some ⟨V3.blk m, 0, none⟩) _ cap; rw [hbm3]; exact z2
        · show w2.heap[V3.blk m]? = _; rw [hbm3, hw2 b0 (hneB (g12 z1).1)]; exact z3
    have hkw : Kept base M w0 w' := by
      refine kept_upd rB.mem.kept hownB.1 (g := B) ⟨by rw [hw2o.1]; rfl, by rw [hw2o.2.1]; rfl, by rw [hw2o.2.2]; rfl⟩ (by rw [hw2s, hw1s]) (fun b hb => (hw2 b hb).symm) (fun v9 e9 h9 => ⟨valsB, elB, g8, ?_⟩)
      rw [hw2b, hB] at h9
      injection h9 with h9
      injection h9 with h9 _ _
      rw [← h9]; exact g9
    have rC := rel_write_box (cs' := (fresh rc.t d' m).1) rB (m := n) hnB (w' := w') (fun b hb => (hw2 b (by rw [← hbn3]; exact hb)).symm) hkw (by rw [hw2s, hw1s]) (by rw [hbn3]; exact g8) hokB
    have hts : ((refRow m e ys st2).map (killO m)).ts = lmap (S.map (killO m)) (lmap (S.map (killB m)) st.ts) ++ [S.map (killO m) (S.map (killB m) s)] := by
      show lmap (S.map (killO m)) (lmap (S.map (killB m)) (st.ts ++ [s])) = _
      simp only [lmap_eq, List.map_append, List.map_cons, List.map_nil]
    have rC' : Rel base M w0 V3 ⟨lmap (S.map (killO m)) (lmap (S.map (killB m)) st.ts) ++ [S.map (killO m) (S.map (killB m) s)], lset ((refRow m e ys st2).map (killO m)).hp n (.bx (fresh rc.t d' m).1)⟩ (ts ++ [oneOr us].toArray) w' := by
      rw [← hts]; exact rC
    obtain ⟨rD, _, rE⟩ := rel_unapp (us := [oneOr us]) rC' (by rw [lmap_eq, lmap_eq, List.length_map, List.length_map]; exact r.len)
    exact ⟨_, rfl, V3, _, _, hK, rD, rE 0 _ _ rfl rfl⟩
end
end Go.SX


/- Contracts that tell of a result no more than that it is one of some. No condition. -/
namespace Go.SX
open Go.RowKit
set_option linter.unusedVariables false
set_option linter.unusedSimpArgs false

/-- A function that writes memory of its own alone: what its results are. -/
structure QC where
  ts : List Ty
  rs : List Ty
  pre : Tup ts → Prop
  Q : Tup ts → Tup rs → Prop

def vcPostQ (T : Tab) (fn : Func) (rs : List Ty) (Q : Tup rs → Prop) (e : Ex) (st : St) : Prop :=
  match e with
  | .exit _ => False
  | _ =>
    match resAll T st fn.results.toList with
    | some ss =>
      match outAll st.ent rs ss with
      | some (r, ns) => if nodupN ns then Q r else False
      | none => False
    | none => False

def vcQ (T : Tab) (Γ : FuncId → Option PC) (R : FuncId → Option Rule) (fn : Func) (c : QC) (A : Tup c.ts → Nat → Option Ann) : Prop :=
  match fn.body with
  | some code => ∀ d, tupWf c.ts d → c.pre d → vc T Γ R code (A d) (St.start c.ts d fn.ntmps) fun e _ st => vcPostQ T fn c.rs (c.Q d) e st
  | none => False

def QOk (P : Program) (f : FuncId) (c : QC) : Prop :=
  ∀ (w : World) (args : List Value) (d : Tup c.ts), RdArgs anyZ w c.ts args d → c.pre d →
    Calls P f args.toArray w fun e w' => ∃ v, e = .returned v ∧ ∃ r : Tup c.rs, c.Q d r ∧ ResOk w w' c.rs v r

def qRule (c : QC) : Rule := fun ss st K =>
  match readArgs st.ent c.ts ss with
  | some d => c.pre d ∧ ∀ r : Tup c.rs, c.Q d r → tupWf c.rs r → K (freshS c.rs r (llen st.hp)).1 (st.alloc (freshS c.rs r (llen st.hp)).2)
  | none => False

/-- A function that writes the box behind its first argument: what its results are, and what it leaves there. -/
structure QB where
  t : Ty
  ts : List Ty
  rs : List Ty
  pre : t.den → Tup ts → Prop
  Q : t.den → Tup ts → t.den → Tup rs → Prop

def boxQ (t : Ty) (Q : t.den → Prop) : Ent → Prop
  | .bx cs => if lall C.noOwn cs then (match readAll (fun _ => .dead) t cs with | some y => Q y | none => False) else False
  | _ => False

def vcPostQB (T : Tab) (fn : Func) (t : Ty) (rs : List Ty) (Q : t.den → Tup rs → Prop) (e : Ex) (st : St) : Prop :=
  match e with
  | .exit _ => False
  | _ =>
    match resAll T st fn.results.toList with
    | some ss =>
      match outAll st.ent rs ss with
      | some (r, ns) => if nodupN ns then boxQ t (fun g => Q g r) (st.ent 0) else False
      | none => False
    | none => False

def vcQB (T : Tab) (Γ : FuncId → Option PC) (R : FuncId → Option Rule) (fn : Func) (bc : QB) (A : bc.t.den → Tup bc.ts → Nat → Option Ann) : Prop :=
  match fn.body with
  | some code => ∀ d x, bc.t.wf d → tupWf bc.ts x → bc.pre d x → vc T Γ R code (A d x) (startBox bc.t d bc.ts x fn.ntmps) fun e _ st => vcPostQB T fn bc.t bc.rs (bc.Q d x) e st
  | none => False

def qbRule (bc : QB) : Rule := fun ss st K =>
  match ss with
  | .c (.box m 0) :: xs =>
    match st.ent m with
    | .bx cs =>
      if lall C.noOwn cs && lall S.noOwn ((St.mk xs st.hp).freezes (ownsS xs)).ts then
        match readAll (fun _ => .dead) bc.t cs with
        | some d =>
          match readArgs (fun _ => .dead) bc.ts ((St.mk xs st.hp).freezes (ownsS xs)).ts with
          | some x =>
            bc.pre d x ∧ ∀ (g : bc.t.den) (r : Tup bc.rs), bc.Q d x g r → bc.t.wf g → tupWf bc.rs r → K (freshS bc.rs r (llen (st.freezes (ownsS xs)).hp)).1 { ((st.freezes (ownsS xs)).alloc (freshS bc.rs r (llen (st.freezes (ownsS xs)).hp)).2) with hp := lset ((st.freezes (ownsS xs)).alloc (freshS bc.rs r (llen (st.freezes (ownsS xs)).hp)).2).hp m (.bx (expand false bc.t g)) }
          | none => False
        | none => False
      else False
    | _ => False
  | _ => False

section
variable {P : Program} {T : Tab} {Γ : FuncId → Option PC} {R : FuncId → Option Rule} {base : Nat} {M : LM} {w0 : World} {V : Vl} {hp : Nat → Ent} {w w' : World}

theorem vcQ_ok (hm : P.follows .mixedOrders = true) (hT : TabOk P T) (hΓ : GamOk P Γ) (hR : RulesOk P R) {f : FuncId} {fn : Func} (hf : P.funcs[f]? = some fn) {c : QC} {A : Tup c.ts → Nat → Option Ann}
    (h : vcQ T Γ R fn c A) : QOk P f c := by
  intro w args d hargs hpre
  unfold vcQ at h
  split at h
  · rename_i code hb
    have hv := h d (args_wf hargs) hpre
    refine calls_of_wp hf hb (vc_ok hm hT hΓ hR code (A d) _ _ _ _ w (sat_start hargs fn.ntmps) hv (fun e A' st' a' w' hk hs' => ?_))
    obtain ⟨hd, V, r⟩ := hs'
    have key : vcPostQ T fn c.rs (c.Q d) e st' → (∃ i, e = .exit i) ∨ ∃ v, (results fn a'.tmps).run P w' = .ok v w' ∧ ∃ x : Tup c.rs, c.Q d x ∧ ResOk w w' c.rs v x := by
      intro hp
      unfold vcPostQ at hp
      split at hp
      · exact hp.elim
      · right
        split at hp
        · rename_i ss hss
          split at hp
          · rename_i x ns ho
            split at hp
            · rename_i hnd
              obtain ⟨vs, e1, e2, e3⟩ := resAll_run hT r hss
              refine ⟨_, results_run e3, x, hp, ?_⟩
              obtain ⟨bs, k1, k2, k3⟩ := outAll_ok (vs := vs) r.mem.ents ho e1 e2
              refine ⟨⟨V.Z true, bs, _, rfl, k1, by rw [k2]; exact nodup_blks r.mem (nodupN_ok hnd) k3, fun b hb => ?_, fun b hb => ?_⟩, r.mem.kept⟩
              · have hb' : b ∈ bs.filterMap id := List.mem_filterMap.2 ⟨some b, hb, rfl⟩
                rw [k2] at hb'
                obtain ⟨n, h1, h2, rfl⟩ := mem_blksOf hb'
                obtain ⟨e, xs, h3⟩ := k3 n h1
                obtain ⟨_, h4, h5⟩ := r.mem.own n (by rw [h3]; rfl) h2
                exact ⟨r.mem.mine n e xs h3 h2, h4, fun hz => h5 (Vl.Z_all hz)⟩
              · rcases hb with hb | ⟨hb, _⟩
                · exact r.mem.z1 b hb
                · cases hb
            · exact hp.elim
          · exact hp.elim
        · exact hp.elim
    have hk' := key
    cases e with
    | normal =>
      rcases hk' hk with ⟨i, h⟩ | ⟨v, h1, h2⟩
      · cases h
      · exact ⟨hd, v, h1, v, rfl, h2⟩
    | exit i => exact hk.elim
    | ret =>
      rcases hk' hk with ⟨i, h⟩ | ⟨v, h1, h2⟩
      · cases h
      · exact ⟨hd, v, h1, v, rfl, h2⟩
  · exact h.elim

theorem q_rule {f : FuncId} {c : QC} (h : QOk P f c) : RuleOk P f (qRule c) := by
  intro base M w0 V st ts w ss vs K r hlen hss hr
  unfold qRule at hr
  split at hr
  · rename_i d hd
    obtain ⟨hpre, hK⟩ := hr
    have hargs := readArgs_ok (LkOk.ents r) c.ts hd hlen hss
    refine (h w vs d hargs hpre).mono ?_
    rintro e w' ⟨v, rfl, r', hu, ⟨Z1, bs, us, rfl, k1, k2, k3, k4⟩, hk⟩
    have g := good_callX r.mem (nx := llen st.hp) k1 k2 k3 k4 hk (fun j _ => ent_dead st j)
    obtain ⟨q1, q2⟩ := rel_good r g
    exact ⟨_, rfl, _, _, _, hK r' hu (ownVals_wf k1), q1, q2⟩
  · exact hr.elim

theorem boxQ_ok {t : Ty} {Q : t.den → Prop} {n : Nat} (h : boxQ t Q (hp n)) (he : (hp n).ok V hp w n) : ∃ cs, hp n = .bx cs ∧ ∃ g, Q g ∧ ∃ vals el, w.heap[V.blk n]? = some (.cells vals el (0, 0)) ∧ RdC (V.Z false) w t vals.toList g := by
  cases hn : hp n with
  | dead => rw [hn] at h; exact h.elim
  | row fr e xs => rw [hn] at h; exact h.elim
  | bx cs =>
    rw [hn] at h he
    obtain ⟨vals, el, h1, h2⟩ := he
    unfold boxQ at h
    simp only at h
    split at h
    · rename_i hno
      split at h
      · rename_i y hy
        rw [lall_eq, List.all_eq_true] at hno
        exact ⟨cs, rfl, y, h, vals, el, h1, readAll_zone hy h2 (fun c hc => ⟨hno c hc, fun h => by cases h⟩)⟩
      · exact h.elim
    · exact h.elim

/-- What its code gives. -/
theorem qb_sem (hm : P.follows .mixedOrders = true) (hT : TabOk P T) (hΓ : GamOk P Γ) (hR : RulesOk P R) {f : FuncId} {fn : Func} (hf : P.funcs[f]? = some fn) {bc : QB} {A : bc.t.den → Tup bc.ts → Nat → Option Ann}
    (h : vcQB T Γ R fn bc A) {B : Nat} {vals : Array Value} {el : TypeId} {Z : Nat → Prop} {d : bc.t.den} {x : Tup bc.ts} {vs : List Value} (hB : w.heap[B]? = some (.cells vals el (0, 0)))
    (hz : ∀ b, Z b → b < w.heap.size) (hZB : ¬ Z B) (hd : RdC Z w bc.t vals.toList d) (hx : RdArgs Z w bc.ts vs x) (hpre : bc.pre d x) :
    Calls P f (Value.pointer (some ⟨B, 0, none⟩) :: vs).toArray w fun e w' => ∃ v, e = .returned v ∧ ∃ (g : bc.t.den) (out : Tup bc.rs), bc.Q d x g out ∧ bc.t.wf g ∧ BoxOk w w' B vals.size Z bc.t bc.rs v out g := by
  unfold vcQB at h
  split at h
  case h_2 => exact h.elim
  rename_i code hb
  have hvc := h d x hd.wf (argsZ_wf hx) hpre
  have hBlt : B < w.heap.size := (Array.getElem?_eq_some_iff.1 hB).1
  let V0 : Vl := ⟨fun _ => B, fun j => j = 0, Z, fun _ => False⟩
  let M0 : LM := ⟨fun b => b = B, fun b j => b = B ∧ j = 0, fun b => Z b ∨ b = B, fun b h => .inr h, fun b => b = B⟩
  have hz0 : ∀ b, Z b → V0.Z false b := fun b hb => .inr ⟨rfl, hb⟩
  have h0 : (startBox bc.t d bc.ts x fn.ntmps).ent 0 = .bx (expand false bc.t d) := rfl
  have hdead : ∀ j, j ≠ 0 → (startBox bc.t d bc.ts x fn.ntmps).ent j = .dead := by
    intro j hj
    cases j with
    | zero => exact absurd rfl hj
    | succ j => rfl
  have hlv : ∀ j, ((startBox bc.t d bc.ts x fn.ntmps).ent j).live = true → j = 0 := by
    intro j hj
    by_cases e : j = 0
    · exact e
    · rw [hdead j e] at hj; cases hj
  have mem0 : Mem w.heap.size M0 w V0 (startBox bc.t d bc.ts x fn.ntmps).ent w := by
    refine ⟨fun j => ?_, fun j cs hj => hlv j (by rw [hj]; rfl), fun j hj hh => ?_, fun j e ys hj => ?_, fun j j' hj hj' _ _ _ => ?_, fun b h => ⟨hz b h, .inl h⟩, fun b h => h.elim, ⟨rfl, rfl, rfl, Nat.le_refl _, fun _ _ _ => rfl, fun b v2 e2 _ _ hv2 => ⟨v2, e2, hv2, rfl⟩⟩, fun j hj hh => ?_, fun b hb => ⟨by rw [h0]; rfl, hb.symm⟩, fun j hh q hq => ?_⟩
    · by_cases e : j = 0
      · subst e
        rw [h0]
        exact ⟨vals, el, hB, ok_expand false bc.t (hd.mono hz0 (fun _ _ => rfl))⟩
      · rw [hdead j e]; trivial
    · refine ⟨.inr rfl, hBlt, fun hzz => ?_⟩
      rcases hzz with hzz | ⟨_, hzz⟩
      · exact hzz
      · exact hZB hzz
    · have := hlv j (by rw [hj]; rfl)
      subst this
      rw [h0] at hj; cases hj
    · rw [hlv j hj, hlv j' hj']
    · have := hlv j (lentish_live hj)
      subst this
      rw [h0] at hj; exact hj.elim
    · have := hlv j (lentish_live (lids_lent hq))
      subst this
      rw [h0] at hq; cases hq
  have hx' : RdArgs (V0.Z false) w bc.ts vs x := by
    have mono : ∀ {ts : List Ty} {vs : List Value} {d : Tup ts}, RdArgs Z w ts vs d → RdArgs (V0.Z false) w ts vs d := by
      intro ts
      induction ts with
      | nil => intro vs d h; exact h
      | cons t r ih =>
        intro vs d h
        cases r with
        | nil => obtain ⟨v, h1, cs, h2, h3⟩ := h; exact ⟨v, h1, cs, h2, h3.mono hz0 (fun _ _ => rfl)⟩
        | cons u r => obtain ⟨v, vs', h1, ⟨cs, h2, h3⟩, h4⟩ := h; exact ⟨v, vs', h1, ⟨cs, h2, h3.mono hz0 (fun _ _ => rfl)⟩, ih h4⟩
    exact mono hx
  obtain ⟨l1, l2, l3⟩ := argsS_zone (hp := (startBox bc.t d bc.ts x fn.ntmps).ent) hx'
  have sat0 : Sat w.heap.size M0 w (startBox bc.t d bc.ts x fn.ntmps) { tmps := (Value.pointer (some ⟨B, 0, none⟩) :: vs).toArray ++ Array.replicate (fn.ntmps - (Value.pointer (some ⟨B, 0, none⟩) :: vs).toArray.size) undef, defers := [] } w := by
    refine ⟨rfl, V0, ⟨?_, fun i s' v' hs' hv' => ?_, mem0⟩⟩
    · show (S.c (.box 0 0) :: lapp (argsS bc.ts x) (lrep S.und (fn.ntmps - (llen bc.ts + 1)))).length = _
      rw [lapp_eq, lrep_eq, llen_eq]; simp [l1, l2]; omega
    · have hs' : (S.c (.box 0 0) :: lapp (argsS bc.ts x) (lrep S.und (fn.ntmps - (llen bc.ts + 1))))[i]? = some s' := hs'
      have hv' : ((Value.pointer (some ⟨B, 0, none⟩) :: vs) ++ List.replicate (fn.ntmps - (vs.length + 1)) undef)[i]? = some v' := by
        rw [← hv']
        simp only [Array.getElem?_append, List.getElem?_append, List.getElem?_toArray, List.size_toArray, Array.getElem?_replicate, List.getElem?_replicate, List.length_cons]
      cases i with
      | zero =>
        simp only [List.getElem?_cons_zero, Option.some.injEq, List.cons_append] at hs' hv'
        subst hs'; subst hv'
        exact ⟨rfl, rfl, _, h0⟩
      | succ i =>
        simp only [List.getElem?_cons_succ, List.cons_append, lapp_eq, lrep_eq, llen_eq] at hs' hv'
        rcases Nat.lt_or_ge i vs.length with hi | hi
        · rw [List.getElem?_append_left (by omega)] at hs'
          rw [List.getElem?_append_left hi] at hv'
          exact l3 i s' v' hs' hv'
        · rw [List.getElem?_append_right (by omega), List.getElem?_replicate] at hs'
          rw [List.getElem?_append_right hi, List.getElem?_replicate] at hv'
          split at hs'
          · injection hs' with hs'; subst hs'
            split at hv'
            · injection hv' with hv'; exact hv'.symm
            · cases hv'
          · cases hs'
  refine calls_of_wp (args := (Value.pointer (some ⟨B, 0, none⟩) :: vs).toArray) hf hb (vc_ok hm hT hΓ hR code (A d x) _ _ _ _ w sat0 hvc (fun e A' st' a' w' hk hs' => ?_))
  obtain ⟨hdf, V1, r⟩ := hs'
  have m1 := r.mem
  have key : vcPostQB T fn bc.t bc.rs (bc.Q d x) e st' → (∃ i, e = .exit i) ∨ ∃ v, (results fn a'.tmps).run P w' = .ok v w' ∧ ∃ (g : bc.t.den) (out : Tup bc.rs), bc.Q d x g out ∧ bc.t.wf g ∧ BoxOk w w' B vals.size Z bc.t bc.rs v out g := by
    intro hp
    unfold vcPostQB at hp
    split at hp
    · exact hp.elim
    · right
      split at hp
      · rename_i ss hss
        split at hp
        · rename_i y ns ho
          split at hp
          · rename_i hnd
            obtain ⟨us, e1, e2, e3⟩ := resAll_run hT r hss
            refine ⟨_, results_run e3, ?_⟩
            obtain ⟨bs, k1, k2, k3⟩ := outAll_ok (vs := us) m1.ents ho e1 e2
            obtain ⟨q1, q2⟩ := m1.lentb B rfl
            obtain ⟨cs, g1, g, hQ, vals', el', g2, g3⟩ := boxQ_ok hp (m1.ents 0)
            rw [q2] at g2
            obtain ⟨vals2, el2, s1, s2⟩ := m1.kept.shape B vals el hBlt rfl hB
            rw [g2] at s1
            injection s1 with s1
            injection s1 with s1 _ _
            refine ⟨g, y, hQ, g3.wf, ⟨V1.Z true, bs, us, rfl, k1, by rw [k2]; exact nodup_blks m1 (nodupN_ok hnd) k3, fun b hb => ?_, fun b hb => ?_, vals', el', g2, by rw [s1]; exact s2, g3.mono (fun b hb => ?_) (fun _ _ => rfl)⟩, ⟨m1.kept.os, m1.kept.tape, m1.kept.output⟩, m1.kept.size, fun b hb hne => m1.kept.block b hb hne⟩
            · have hb' : b ∈ bs.filterMap id := List.mem_filterMap.2 ⟨some b, hb, rfl⟩
              rw [k2] at hb'
              obtain ⟨n, h1, h2, rfl⟩ := mem_blksOf hb'
              obtain ⟨e, xs, h3⟩ := k3 n h1
              obtain ⟨_, h4, h5⟩ := m1.own n (by rw [h3]; rfl) h2
              exact ⟨m1.mine n e xs h3 h2, h4, fun hz => h5 (Vl.Z_all hz)⟩
            · rcases hb with hb | ⟨hb, _⟩
              · exact m1.z1 b hb
              · cases hb
            · rcases hb with hb | ⟨_, hb⟩
              · exact .inr (.inl hb)
              · rcases (m1.z0 b hb).2 with h | h
                · exact .inl h
                · have hown := m1.own 0 (by rw [g1]; rfl) (m1.box 0 cs g1)
                  rw [q2] at hown
                  exact absurd (Or.inr ⟨rfl, by rw [← h]; exact hb⟩) hown.2.2
          · exact hp.elim
        · exact hp.elim
      · exact hp.elim
  have hk' := key
  cases e with
  | normal =>
    rcases hk' hk with ⟨i, h⟩ | ⟨v, h1, h2⟩
    · cases h
    · exact ⟨hdf, v, h1, v, rfl, h2⟩
  | exit i => exact hk.elim
  | ret =>
    rcases hk' hk with ⟨i, h⟩ | ⟨v, h1, h2⟩
    · cases h
    · exact ⟨hdf, v, h1, v, rfl, h2⟩

theorem qb_rule (hm : P.follows .mixedOrders = true) (hT : TabOk P T) (hΓ : GamOk P Γ) (hR : RulesOk P R) {f : FuncId} {fn : Func} (hf : P.funcs[f]? = some fn) {bc : QB} {A : bc.t.den → Tup bc.ts → Nat → Option Ann}
    (h : vcQB T Γ R fn bc A) : RuleOk P f (qbRule bc) := by
  intro base M w0 V st ts w ss vs K r hlen hslots hrule
  unfold qbRule at hrule
  split at hrule
  case h_2 => exact hrule.elim
  rename_i m xs
  split at hrule
  case h_2 => exact hrule.elim
  rename_i cs hme
  split at hrule
  case isFalse => exact hrule.elim
  rename_i hno
  rw [Bool.and_eq_true] at hno
  obtain ⟨hno1, hno2⟩ := hno
  rw [lall_eq, List.all_eq_true] at hno1 hno2
  split at hrule
  case h_2 => exact hrule.elim
  rename_i d hdd
  split at hrule
  case h_2 => exact hrule.elim
  rename_i x hxx
  match vs, hlen with
  | pv :: us, hlen =>
    have hlen' : xs.length = us.length := by simpa using hlen
    obtain ⟨hpv, hhas, cs0, hcs0⟩ := hslots 0 _ pv rfl rfl
    subst hpv
    have mm := r.mem
    have hmok := mm.ents m
    rw [hme] at hmok
    obtain ⟨vals, el, hB, hcells⟩ := hmok
    have hd0 := readAll_zone (fr := false) hdd hcells (fun c hc => ⟨hno1 c hc, fun h => by cases h⟩)
    have r0 : Rel base M w0 V ⟨st.ts ++ xs, st.hp⟩ (ts ++ us.toArray) w := rel_app (a := st.ts) (h := st.hp) r hlen' (fun i s v hs hv => hslots (i + 1) s v (by simpa using hs) (by simpa using hv))
    obtain ⟨V1, r1, hb1, hh1, hz1⟩ := r0.freezesX (ownsS xs)
    obtain ⟨f1, f2⟩ := freezes_app (ownsS xs) st.ts xs st.hp
    rw [f1] at r1
    obtain ⟨g1, g2⟩ := freezes_len (ownsS xs) (St.mk st.ts st.hp)
    obtain ⟨g3, _⟩ := freezes_len (ownsS xs) (St.mk xs st.hp)
    obtain ⟨r2, _, hsl⟩ := rel_unapp (a := ((St.mk st.ts st.hp).freezes (ownsS xs)).ts) (b := ((St.mk xs st.hp).freezes (ownsS xs)).ts) (h := ((St.mk st.ts st.hp).freezes (ownsS xs)).hp) r1 (by rw [g1]; exact r.len)
    have hargs : RdArgs (V1.Z false) w bc.ts us x := readArgs_zone bc.ts hxx (by rw [g3]; exact hlen') hsl hno2
    have hbx1 : ((st.freezes (ownsS xs)).ent m).isBx = true := freezes_bx (ownsS xs) st (by rw [hme]; rfl)
    obtain ⟨cs1, hcs1⟩ : ∃ cs1, (st.freezes (ownsS xs)).ent m = .bx cs1 := by
      cases hq : (st.freezes (ownsS xs)).ent m with
      | bx c => exact ⟨c, rfl⟩
      | dead => rw [hq] at hbx1; cases hbx1
      | row fr e ys => rw [hq] at hbx1; cases hbx1
    have r2' : Rel base M w0 V1 (st.freezes (ownsS xs)) ts w := r2
    have hown := r2'.mem.own m (by rw [hcs1]; rfl) (r2'.mem.box m cs1 hcs1)
    rw [hb1] at hown
    obtain ⟨hpre, hK⟩ := hrule
    refine (qb_sem hm hT hΓ hR hf h hB (fun b hb => r2'.mem.z_lt hb) hown.2.2 (hd0.mono (fun b hb => hz1 false b hb) (fun _ _ => rfl)) hargs hpre).mono (fun e w' hr => ?_)
    obtain ⟨v, rfl, g, out, hQ, hgw, ok⟩ := hr
    have hwf : tupWf bc.rs out := by
      obtain ⟨⟨Z1, bs, vs, _, h1, _⟩, _⟩ := ok
      exact ownVals_wf h1
    rw [← hb1] at ok
    obtain ⟨V', k1, k2, k3⟩ := box_back r2' hcs1 (by rw [hb1]; exact hB) ok (cs' := expand false bc.t g) (fun V' hp' w1 vs' Z1 q1 q2 q3 q4 q5 q6 => by
      refine ok_expand false bc.t (q3.mono (fun b hb => hb.elim (fun h => q2 b h) (fun h => q1 b h)) (fun b hb => q5 b hb (fun e => ?_)))
      rcases hb with hb | hb
      · rw [e, hb1] at hb; exact hown.2.2 hb
      · exact q6 b hb e)
    exact ⟨v, rfl, V', _, _, hK g out hQ hgw hwf, k2, k3⟩
end
end Go.SX


/- Contracts that tell of a new box and results no more than that they are some. No condition. -/
namespace Go.SX
open Go.RowKit
set_option linter.unusedVariables false
set_option linter.unusedSimpArgs false

/-- A function that hands back the address of a new box first: what lies there, and what its other results are. -/
structure QN where
  t : Ty
  ts : List Ty
  rs : List Ty
  pre : Tup ts → Prop
  Q : Tup ts → t.den → Tup rs → Prop

def vcPostQN (T : Tab) (fn : Func) (t : Ty) (rs : List Ty) (Q : t.den → Tup rs → Prop) (e : Ex) (st : St) : Prop :=
  match e with
  | .exit _ => False
  | _ =>
    match resAll T st fn.results.toList with
    | some (.c (.box n 0) :: ss) =>
      match outAll st.ent rs ss with
      | some (r, ns) => if nodupN ns then boxQ t (fun g => Q g r) (st.ent n) else False
      | none => False
    | _ => False

def vcQN (T : Tab) (Γ : FuncId → Option PC) (R : FuncId → Option Rule) (fn : Func) (nc : QN) (A : Tup nc.ts → Nat → Option Ann) : Prop :=
  match fn.body with
  | some code => ∀ x, tupWf nc.ts x → nc.pre x → vc T Γ R code (A x) (St.start nc.ts x fn.ntmps) fun e _ st => vcPostQN T fn nc.t nc.rs (nc.Q x) e st
  | none => False

def qnRule (nc : QN) : Rule := fun xs st K =>
  if lall S.noOwn ((St.mk xs st.hp).freezes (ownsS xs)).ts then
    match readArgs (fun _ => .dead) nc.ts ((St.mk xs st.hp).freezes (ownsS xs)).ts with
    | some x =>
      nc.pre x ∧ ∀ (g : nc.t.den) (r : Tup nc.rs), nc.Q x g r → nc.t.wf g → tupWf nc.rs r → K (boxTup (llen (st.freezes (ownsS xs)).hp) (freshTups nc.rs r (llen (st.freezes (ownsS xs)).hp + 1)).1)
        ((st.freezes (ownsS xs)).alloc (.bx (expand false nc.t g) :: (freshTups nc.rs r (llen (st.freezes (ownsS xs)).hp + 1)).2))
    | none => False
  else False

section
variable {P : Program} {T : Tab} {Γ : FuncId → Option PC} {R : FuncId → Option Rule} {base : Nat} {M : LM} {w0 : World} {V : Vl} {hp : Nat → Ent} {w w' : World}

theorem qn_sem (hm : P.follows .mixedOrders = true) (hT : TabOk P T) (hΓ : GamOk P Γ) (hR : RulesOk P R) {f : FuncId} {fn : Func} (hf : P.funcs[f]? = some fn) {nc : QN} {A : Tup nc.ts → Nat → Option Ann}
    (h : vcQN T Γ R fn nc A) {Z : Nat → Prop} {x : Tup nc.ts} {vs : List Value} (hz : ∀ b, Z b → b < w.heap.size) (hx : RdArgs Z w nc.ts vs x) (hpre : nc.pre x) :
    Calls P f vs.toArray w fun e w' => ∃ v, e = .returned v ∧ ∃ (out : Tup nc.rs) (g : nc.t.den), nc.Q x g out ∧ NewOk w w' Z nc.t nc.rs v out g := by
  unfold vcQN at h
  split at h
  case h_2 => exact h.elim
  rename_i code hb
  have hvc := h x (argsZ_wf hx) hpre
  let V0 : Vl := ⟨fun _ => 0, fun _ => False, Z, fun _ => False⟩
  let M0 : LM := ⟨fun _ => False, fun _ _ => False, Z, fun b h => h.elim, fun _ => False⟩
  have hz0 : ∀ b, Z b → V0.Z false b := fun b hb => .inr ⟨rfl, hb⟩
  have he : (St.start nc.ts x fn.ntmps).ent = fun _ => .dead := by
    funext k
    show nth .dead ([] : List Ent) k = _
    rw [nth_eq]; rfl
  have mem0 : Mem w.heap.size M0 w V0 (St.start nc.ts x fn.ntmps).ent w := by
    rw [he]
    exact ⟨fun _ => trivial, (fun n cs h => by cases h), (fun n h => by cases h), (fun n e xs h => by cases h), (fun n m h => by cases h), fun b h => ⟨hz b h, h⟩, fun b (h : False) => h.elim, ⟨rfl, rfl, rfl, Nat.le_refl _, fun _ _ _ => rfl, fun _ _ _ _ h _ => h.elim⟩, fun n h => h.elim, fun b (h : False) => h.elim, fun n (h : False) => h.elim⟩
  have hx' : RdArgs (V0.Z false) w nc.ts vs x := by
    have mono : ∀ {ts : List Ty} {vs : List Value} {d : Tup ts}, RdArgs Z w ts vs d → RdArgs (V0.Z false) w ts vs d := by
      intro ts
      induction ts with
      | nil => intro vs d h; exact h
      | cons t r ih =>
        intro vs d h
        cases r with
        | nil => obtain ⟨v, h1, cs, h2, h3⟩ := h; exact ⟨v, h1, cs, h2, h3.mono hz0 (fun _ _ => rfl)⟩
        | cons u r => obtain ⟨v, vs', h1, ⟨cs, h2, h3⟩, h4⟩ := h; exact ⟨v, vs', h1, ⟨cs, h2, h3.mono hz0 (fun _ _ => rfl)⟩, ih h4⟩
    exact mono hx
  obtain ⟨l1, l2, l3⟩ := argsS_zone (hp := (St.start nc.ts x fn.ntmps).ent) hx'
  have sat0 : Sat w.heap.size M0 w (St.start nc.ts x fn.ntmps) { tmps := vs.toArray ++ Array.replicate (fn.ntmps - vs.toArray.size) undef, defers := [] } w := by
    refine ⟨rfl, V0, ⟨?_, fun i s' v' hs' hv' => ?_, mem0⟩⟩
    · show (lapp (argsS nc.ts x) (lrep S.und (fn.ntmps - llen nc.ts))).length = _
      rw [lapp_eq, lrep_eq, llen_eq]; simp [l1, l2]
    · have hs' : (lapp (argsS nc.ts x) (lrep S.und (fn.ntmps - llen nc.ts)))[i]? = some s' := hs'
      have hv' : (vs ++ List.replicate (fn.ntmps - vs.length) undef)[i]? = some v' := by
        rw [← hv']
        simp only [Array.getElem?_append, List.getElem?_append, List.getElem?_toArray, List.size_toArray, Array.getElem?_replicate, List.getElem?_replicate]
      rw [lapp_eq, lrep_eq, llen_eq] at hs'
      rcases Nat.lt_or_ge i vs.length with hi | hi
      · rw [List.getElem?_append_left (by omega)] at hs'
        rw [List.getElem?_append_left hi] at hv'
        exact l3 i s' v' hs' hv'
      · rw [List.getElem?_append_right (by omega), List.getElem?_replicate] at hs'
        rw [List.getElem?_append_right hi, List.getElem?_replicate] at hv'
        split at hs'
        · injection hs' with hs'; subst hs'
          split at hv'
          · injection hv' with hv'; exact hv'.symm
          · cases hv'
        · cases hs'
  refine calls_of_wp (args := vs.toArray) hf hb (vc_ok hm hT hΓ hR code (A x) _ _ _ _ w sat0 hvc (fun e A' st' a' w' hk hs' => ?_))
  obtain ⟨hdf, V1, r⟩ := hs'
  have m1 := r.mem
  have hk1 : Kept w.heap.size noM w w' := ⟨m1.kept.os, m1.kept.tape, m1.kept.output, m1.kept.size, fun b hb _ => m1.kept.block b hb (fun h => h), fun _ _ _ _ h _ => h.elim⟩
  have key : vcPostQN T fn nc.t nc.rs (nc.Q x) e st' → (∃ i, e = .exit i) ∨ ∃ v, (results fn a'.tmps).run P w' = .ok v w' ∧ ∃ (out : Tup nc.rs) (g : nc.t.den), nc.Q x g out ∧ NewOk w w' Z nc.t nc.rs v out g := by
    intro hp
    unfold vcPostQN at hp
    split at hp
    · exact hp.elim
    · right
      split at hp
      · rename_i n ss hss
        split at hp
        · rename_i y ns ho
          split at hp
          · rename_i hnd
            obtain ⟨us0, e1, e2, e3⟩ := resAll_run hT r hss
            match us0, e1 with
            | u :: us, e1 =>
              refine ⟨_, results_run e3, ?_⟩
              obtain ⟨hu, hhas, _⟩ := e2 0 _ u rfl rfl
              subst hu
              obtain ⟨bs, k1, k2, k3⟩ := outAll_ok (vs := us) m1.ents ho (by simpa using e1) (fun i s v hs hv => e2 (i + 1) s v (by simpa using hs) (by simpa using hv))
              obtain ⟨cs, g1, g, hQ, vals', el', g2, g3⟩ := boxQ_ok hp (m1.ents n)
              obtain ⟨o1, o2, o3⟩ := m1.own n (by rw [g1]; rfl) hhas
              have o1' : w.heap.size ≤ V1.blk n := by rcases o1 with h | h; exact h; exact h.elim
              refine ⟨y, g, hQ, ⟨V1.blk n, V1.Z true, bs, us, rfl, k1, ?_, fun b hb => ?_, fun b hb => ?_, vals', el', g2, g3.mono (fun b hb => ?_) (fun _ _ => rfl)⟩, hk1⟩
              · rw [show (some (V1.blk n) :: bs).filterMap id = V1.blk n :: bs.filterMap id from rfl, k2]
                refine List.nodup_cons.2 ⟨fun hmem => ?_, nodup_blks m1 (nodupN_ok hnd) k3⟩
                obtain ⟨n', h1, h2, h3⟩ := mem_blksOf hmem
                obtain ⟨e', xs', h4⟩ := k3 n' h1
                have := m1.dist n' n (by rw [h4]; rfl) (by rw [g1]; rfl) h2 hhas h3
                subst this
                rw [g1] at h4; cases h4
              · rcases List.mem_cons.1 hb with hb | hb
                · injection hb with hb
                  subst hb
                  exact ⟨o1', o2, fun hz => o3 (Vl.Z_all hz)⟩
                · have hb' : b ∈ bs.filterMap id := List.mem_filterMap.2 ⟨some b, hb, rfl⟩
                  rw [k2] at hb'
                  obtain ⟨n', h1, h2, rfl⟩ := mem_blksOf hb'
                  obtain ⟨e, xs, h3⟩ := k3 n' h1
                  obtain ⟨_, h4, h5⟩ := m1.own n' (by rw [h3]; rfl) h2
                  exact ⟨m1.mine n' e xs h3 h2, h4, fun hz => h5 (Vl.Z_all hz)⟩
              · rcases hb with hb | ⟨hb, _⟩
                · exact m1.z1 b hb
                · cases hb
              · rcases hb with hb | ⟨_, hb⟩
                · exact .inr (.inl hb)
                · exact .inl (m1.z0 b hb).2
          · exact hp.elim
        · exact hp.elim
      · exact hp.elim
  cases e with
  | normal =>
    rcases key hk with ⟨i, h⟩ | ⟨v, h1, h2⟩
    · cases h
    · exact ⟨hdf, v, h1, v, rfl, h2⟩
  | exit i => exact hk.elim
  | ret =>
    rcases key hk with ⟨i, h⟩ | ⟨v, h1, h2⟩
    · cases h
    · exact ⟨hdf, v, h1, v, rfl, h2⟩

theorem qn_rule (hm : P.follows .mixedOrders = true) (hT : TabOk P T) (hΓ : GamOk P Γ) (hR : RulesOk P R) {f : FuncId} {fn : Func} (hf : P.funcs[f]? = some fn) {nc : QN} {A : Tup nc.ts → Nat → Option Ann}
    (h : vcQN T Γ R fn nc A) : RuleOk P f (qnRule nc) := by
  intro base M w0 V st ts w xs us K r hlen hslots hrule
  unfold qnRule at hrule
  split at hrule
  case isFalse => exact hrule.elim
  rename_i hno
  rw [lall_eq, List.all_eq_true] at hno
  split at hrule
  case h_2 => exact hrule.elim
  rename_i x hxx
  obtain ⟨hpre, hK⟩ := hrule
  have r0 : Rel base M w0 V ⟨st.ts ++ xs, st.hp⟩ (ts ++ us.toArray) w := rel_app (a := st.ts) (h := st.hp) r hlen hslots
  obtain ⟨V1, r1, hb1, hh1, hz1⟩ := r0.freezesX (ownsS xs)
  obtain ⟨f1, f2⟩ := freezes_app (ownsS xs) st.ts xs st.hp
  rw [f1] at r1
  obtain ⟨g1, g2⟩ := freezes_len (ownsS xs) (St.mk st.ts st.hp)
  obtain ⟨g3, _⟩ := freezes_len (ownsS xs) (St.mk xs st.hp)
  obtain ⟨r2, _, hsl⟩ := rel_unapp (a := ((St.mk st.ts st.hp).freezes (ownsS xs)).ts) (b := ((St.mk xs st.hp).freezes (ownsS xs)).ts) (h := ((St.mk st.ts st.hp).freezes (ownsS xs)).hp) r1 (by rw [g1]; exact r.len)
  have hargs : RdArgs (V1.Z false) w nc.ts us x := readArgs_zone nc.ts hxx (by rw [g3]; exact hlen) hsl hno
  have r2' : Rel base M w0 V1 (st.freezes (ownsS xs)) ts w := r2
  generalize hst : st.freezes (ownsS xs) = s2 at *
  refine (qn_sem hm hT hΓ hR hf h (fun b hb => r2'.mem.z_lt hb) hargs hpre).mono (fun e w' hr => ?_)
  obtain ⟨v, rfl, out, g, hQ, ⟨⟨B, Z1, bs, vs, rfl, h1, h2, h3, h4, vals', el', h5, h6⟩, hk⟩⟩ := hr
  generalize hes : C.box (llen s2.hp) 0 = cb
  have mm := r2'.mem
  have e2 := freshTups_S nc.rs out (llen s2.hp + 1)
  have hlen2 : (some B :: bs).length = (Ent.bx (expand false nc.t g) :: (freshTups nc.rs out (llen s2.hp + 1)).2).length := by
    simp [freshTups_len _ h1]
  have hd : ∀ j, j < (Ent.bx (expand false nc.t g) :: (freshTups nc.rs out (llen s2.hp + 1)).2).length → s2.ent (llen s2.hp + j) = .dead := fun j _ => ent_dead s2 j
  have hx := VX.of_kept mm hk (nx := llen s2.hp) (es := Ent.bx (expand false nc.t g) :: (freshTups nc.rs out (llen s2.hp + 1)).2) (bs := some B :: bs) (Z := Z1) hlen2 hd
  generalize hV' : V1.ext (llen s2.hp) (some B :: bs) Z1 = V' at *
  generalize hhp : hpNew s2.ent (llen s2.hp) (Ent.bx (expand false nc.t g) :: (freshTups nc.rs out (llen s2.hp + 1)).2) = hp' at *
  have hl : Lies V' hp' Z1 (llen s2.hp + 1) (freshTups nc.rs out (llen s2.hp + 1)).2 bs := by
    refine ⟨fun j b hb => ?_, fun j b hb => ?_, fun j e he => ?_, fun b hb => by rw [← hV']; exact .inr hb⟩
    · rw [← hV', Nat.add_assoc, Nat.add_comm 1 j]; exact Vl.ext_has_new (by simpa using hb)
    · rw [← hV', Nat.add_assoc, Nat.add_comm 1 j]; exact Vl.ext_blk_new (by simpa using hb)
    · rw [← hhp, Nat.add_assoc, Nat.add_comm 1 j]; exact hpNew_new (by simpa using he)
  obtain ⟨t1, t2, t3⟩ := freshTups_ok h1 hl
  have hb0 : V'.blk (llen s2.hp) = B := by rw [← hV']; exact Vl.ext_blk_new (nx := llen s2.hp) (j := 0) rfl
  have hh0 : V'.has (llen s2.hp) := by
    rw [← hV']
    have := Vl.ext_has_new (V := V1) (nx := llen s2.hp) (bs := some B :: bs) (Z := Z1) (j := 0) (b := some B) rfl
    exact this.2 rfl
  have he0 : hp' (llen s2.hp) = .bx (expand false nc.t g) := by rw [← hhp]; exact hpNew_new (nx := llen s2.hp) (j := 0) rfl
  have hgood : Good base M w0 V1 s2.ent w (llen s2.hp) (boxTup (llen s2.hp) (freshTups nc.rs out (llen s2.hp + 1)).1) (Ent.bx (expand false nc.t g) :: (freshTups nc.rs out (llen s2.hp + 1)).2) (hyOf nc.rs out) (oneOr (.pointer (some ⟨B, 0, none⟩) :: vs)) w' V' := by
    refine ⟨?_, ?_, ?_, fun p hp' => ?_⟩
    · rw [← hV']
      refine mm.grow hk hlen2 hd h2 h3 h4 (fun j cs hj => ?_) (fun j e he => ?_) (fun e he => ?_)
      · cases j with
        | zero => exact ⟨B, rfl⟩
        | succ j =>
          have hj' : (freshTups nc.rs out (llen s2.hp + 1)).2[j]? = some (.bx cs) := by simpa using hj
          rw [e2] at hj'
          exact (freshS_row nc.rs out _ _ (List.mem_of_getElem? hj') cs rfl).elim
      · rw [hV', hhp]
        cases j with
        | zero =>
          simp only [List.getElem?_cons_zero, Option.some.injEq] at he
          subst he
          refine ⟨vals', el', by rw [Nat.add_zero, hb0]; exact h5, ok_expand false nc.t (h6.mono (fun b hb => ?_) (fun _ _ => rfl))⟩
          rw [← hV']
          exact Vl.ext_Z.2 hb
        | succ j =>
          have := t3 j e (by simpa using he)
          rw [Nat.add_assoc, Nat.add_comm 1 j] at this
          exact this
      · rcases List.mem_cons.1 he with he | he
        · subst he; exact fun h => h
        · rw [e2] at he
          exact freshS_true nc.rs out _ e he
    · rw [hhp]; exact hx
    · rw [hhp]
      refine boxTup_ok ⟨by rw [hb0], hh0, _, he0⟩ t1 t2
    · unfold hyOf at hp'
      split at hp'
      · injection hp' with hp'; subst hp'; exact ownVals_wf h1
      · cases hp'
  obtain ⟨q1, q2⟩ := rel_good r2' hgood
  exact ⟨_, rfl, V', _, _, hK g out hQ h6.wf (ownVals_wf h1), q1, q2⟩
end
end Go.SX

